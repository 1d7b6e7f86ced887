/-
  No cell of these rows narrows 'for every input' (looked for: loops, veiled, ifaces, maps, wideKeys, modest, calm, conditions, laid).
  DERIVED. THE GIVEN ROWS OF THIS SEAT. 4 by the template 'for every input the law returns true; each argument reads behind the call as it read before'; 0 by the template 'total and deterministic' (their statements: YtficgheaddkoeaaGreatTotals.lean).
  GIVEN WITH THE SEED: the statements are not yours to turn. If you find one false, say at which input.
  Laid BY PROGRAM, IN A SANDBOX (cutbox-rows.mjs): the forced cells as the released guide's own fill.sh prints them over the translation adae8576217c4b74… (all of the seat's roots in one cut). By AI agents, Wed Nov 11 2026. No macro, syntax, notation, axiom, sorry.
-/
import Derived.Test.YtficgheaddkoeaaGreatChecked
import GoSem.Claim
import GoSem.ClaimJoined
import GoSem.ClaimMapViews
import Derived.JoinedTies
import Derived.KernelRfl
namespace Go.Proofs.YtficgheaddkoeaaGreat
/- THE CELL 'sum', in the pinned program and in every row, IS THE sha256 OF THE DUMP (.gsa) THAT YtficgheaddkoeaaGreatProg.lean LOADS. Nothing in Lean hashes anything: it is a label: what it is worth is what the hold of that sum in a sandbox is worth. -/
noncomputable def Tryz.pinned : Pinned := { name := "ytficgheaddkoeaagreat", sum := "adae8576217c4b74c39ecfe0b33d029573ee7cd9dc256092ed4622cdcd6a5e1f", checked := Tryz.checked }
namespace Rows
def none {H : Type} : Left H := { results := [], args := [] }

/-- 'culpritlaw22.EditPrograms': WHATEVER THE INPUT: true; the input reads as it did. -/
def editProgramsSpec : ChangeSpec := { name := "editPrograms", fn := fun _ => fun
  | [d1, d2, d3, d4, d5] => { results := [.lit (.bool true)], args := [d1, d2, d3, d4, d5] }
  | _ => none }
def editProgramsRow : OpenClaim := { program := "ytficgheaddkoeaagreat", sum := "adae8576217c4b74c39ecfe0b33d029573ee7cd9dc256092ed4622cdcd6a5e1f", func := "culprit/culpritlaw22.EditPrograms", spec := "editPrograms", inPlace := ["internal/bytealg.abigen_runtime_cmpstring"], unfollowed := true, recurses := true, plainKeys := false, apart := false }
def EditProgramsSaid : Prop := editProgramsRow.holds Tryz.pinned (OpenSpec.ofChange editProgramsSpec)

/-- ITS FALSE NEIGHBOUR: 'it returns false'. Refute it at one input. -/
def editProgramsWrong : ChangeSpec := { name := "editPrograms", fn := fun _ => fun
  | [d1, d2, d3, d4, d5] => { results := [.lit (.bool false)], args := [d1, d2, d3, d4, d5] }
  | _ => none }
def EditProgramsWrongFalsely : Prop := editProgramsRow.holds Tryz.pinned (OpenSpec.ofChange editProgramsWrong)

/-- 'culpritlaw25.HistoryValid': WHATEVER THE INPUT: true; the input reads as it did. -/
def historyValidSpec : ChangeSpec := { name := "historyValid", fn := fun _ => fun
  | [d1, d2, d3, d4, d5] => { results := [.lit (.bool true)], args := [d1, d2, d3, d4, d5] }
  | _ => none }
def historyValidRow : OpenClaim := { program := "ytficgheaddkoeaagreat", sum := "adae8576217c4b74c39ecfe0b33d029573ee7cd9dc256092ed4622cdcd6a5e1f", func := "culprit/culpritlaw25.HistoryValid", spec := "historyValid", inPlace := ["internal/bytealg.abigen_runtime_cmpstring", "slices.overlaps[[]culprit/api.Name]"], unfollowed := true, recurses := true, plainKeys := false, apart := false }
def HistoryValidSaid : Prop := historyValidRow.holds Tryz.pinned (OpenSpec.ofChange historyValidSpec)

/-- ITS FALSE NEIGHBOUR: 'it returns false'. Refute it at one input. -/
def historyValidWrong : ChangeSpec := { name := "historyValid", fn := fun _ => fun
  | [d1, d2, d3, d4, d5] => { results := [.lit (.bool false)], args := [d1, d2, d3, d4, d5] }
  | _ => none }
def HistoryValidWrongFalsely : Prop := historyValidRow.holds Tryz.pinned (OpenSpec.ofChange historyValidWrong)

/-- 'culpritlaw25.HistoryDoes': WHATEVER THE INPUT: true; the input reads as it did. -/
def historyDoesSpec : ChangeSpec := { name := "historyDoes", fn := fun _ => fun
  | [d1, d2, d3, d4, d5, d6] => { results := [.lit (.bool true)], args := [d1, d2, d3, d4, d5, d6] }
  | _ => none }
def historyDoesRow : OpenClaim := { program := "ytficgheaddkoeaagreat", sum := "adae8576217c4b74c39ecfe0b33d029573ee7cd9dc256092ed4622cdcd6a5e1f", func := "culprit/culpritlaw25.HistoryDoes", spec := "historyDoes", inPlace := ["internal/bytealg.abigen_runtime_cmpstring", "slices.overlaps[[]culprit/api.Name]"], unfollowed := true, recurses := true, plainKeys := false, apart := false }
def HistoryDoesSaid : Prop := historyDoesRow.holds Tryz.pinned (OpenSpec.ofChange historyDoesSpec)

/-- ITS FALSE NEIGHBOUR: 'it returns false'. Refute it at one input. -/
def historyDoesWrong : ChangeSpec := { name := "historyDoes", fn := fun _ => fun
  | [d1, d2, d3, d4, d5, d6] => { results := [.lit (.bool false)], args := [d1, d2, d3, d4, d5, d6] }
  | _ => none }
def HistoryDoesWrongFalsely : Prop := historyDoesRow.holds Tryz.pinned (OpenSpec.ofChange historyDoesWrong)

/-- 'culpritlaw25.HistoryEncodes': WHATEVER THE INPUT: true; the input reads as it did. -/
def historyEncodesSpec : ChangeSpec := { name := "historyEncodes", fn := fun _ => fun
  | [d1, d2, d3, d4, d5] => { results := [.lit (.bool true)], args := [d1, d2, d3, d4, d5] }
  | _ => none }
def historyEncodesRow : OpenClaim := { program := "ytficgheaddkoeaagreat", sum := "adae8576217c4b74c39ecfe0b33d029573ee7cd9dc256092ed4622cdcd6a5e1f", func := "culprit/culpritlaw25.HistoryEncodes", spec := "historyEncodes", inPlace := ["internal/bytealg.abigen_runtime_cmpstring", "slices.overlaps[[]culprit/api.Name]"], unfollowed := true, recurses := true, plainKeys := false, apart := false }
def HistoryEncodesSaid : Prop := historyEncodesRow.holds Tryz.pinned (OpenSpec.ofChange historyEncodesSpec)

/-- ITS FALSE NEIGHBOUR: 'it returns false'. Refute it at one input. -/
def historyEncodesWrong : ChangeSpec := { name := "historyEncodes", fn := fun _ => fun
  | [d1, d2, d3, d4, d5] => { results := [.lit (.bool false)], args := [d1, d2, d3, d4, d5] }
  | _ => none }
def HistoryEncodesWrongFalsely : Prop := historyEncodesRow.holds Tryz.pinned (OpenSpec.ofChange historyEncodesWrong)

/- THE SECOND FORM. 'bulk': how many values and letters a reading holds, each counted each time it is reached (what is shared counts as often as it is met; a slice's spare places count too). A statement '..UptoSaid' is the law's where the arguments, and the package variables that the reading takes, are together of bulk at most 1048576: NARROWER than '..Said'. Prove '..Said' where nothing that the law and all that it calls make is longer than what came in: it says more and counts as full. Else prove '..UptoSaid'. A law counts once. -/
mutual
def uptoBulk {H : Type} : DataW H → Nat
  | .lit (.string bytes) => bytes.length + 1
  | .lit _ => 1
  | .nil => 1
  | .ptr d => uptoBulk d + 1
  | .slice elems spare => uptoBulkAll elems + uptoBulkAll spare + 1
  | .agg parts => uptoBulkAll parts + 1
  | .iface _ d => uptoBulk d + 1
  | .map entries => uptoBulkEntries entries + 1
  | .held _ => 1
def uptoBulkAll {H : Type} : List (DataW H) → Nat
  | [] => 0
  | d :: r => uptoBulk d + uptoBulkAll r
def uptoBulkEntries {H : Type} : List (Lit × DataW H) → Nat
  | [] => 0
  | x :: r => uptoBulkEntry x + uptoBulkEntries r
def uptoBulkEntry {H : Type} : Lit × DataW H → Nat
  | (.string bytes, d) => bytes.length + uptoBulk d + 1
  | (_, d) => uptoBulk d + 1
 end
def uptoSmall : (H : Type) → List (DataW H) → Bool := fun _ ds => decide (uptoBulkAll ds ≤ 1048576)
def OpenSpec.upto (s : _root_.Go.ChangeSpec) : _root_.Go.OpenSpec := { _root_.Go.OpenSpec.ofChange s with cond := some uptoSmall }

/-- 'culpritlaw22.EditPrograms', WHERE WHAT IT READS IS OF BULK AT MOST 1048576: true; the input reads as it did. -/
def editProgramsUptoRow : OpenClaim := { program := "ytficgheaddkoeaagreat", sum := "adae8576217c4b74c39ecfe0b33d029573ee7cd9dc256092ed4622cdcd6a5e1f", func := "culprit/culpritlaw22.EditPrograms", spec := "editPrograms", inPlace := ["internal/bytealg.abigen_runtime_cmpstring"], unfollowed := true, recurses := true, plainKeys := false, apart := false, narrowed := true }
def EditProgramsUptoSaid : Prop := editProgramsUptoRow.holds Tryz.pinned (OpenSpec.upto editProgramsSpec)

/-- 'culpritlaw25.HistoryValid', WHERE WHAT IT READS IS OF BULK AT MOST 1048576: true; the input reads as it did. -/
def historyValidUptoRow : OpenClaim := { program := "ytficgheaddkoeaagreat", sum := "adae8576217c4b74c39ecfe0b33d029573ee7cd9dc256092ed4622cdcd6a5e1f", func := "culprit/culpritlaw25.HistoryValid", spec := "historyValid", inPlace := ["internal/bytealg.abigen_runtime_cmpstring", "slices.overlaps[[]culprit/api.Name]"], unfollowed := true, recurses := true, plainKeys := false, apart := false, narrowed := true }
def HistoryValidUptoSaid : Prop := historyValidUptoRow.holds Tryz.pinned (OpenSpec.upto historyValidSpec)

/-- 'culpritlaw25.HistoryDoes', WHERE WHAT IT READS IS OF BULK AT MOST 1048576: true; the input reads as it did. -/
def historyDoesUptoRow : OpenClaim := { program := "ytficgheaddkoeaagreat", sum := "adae8576217c4b74c39ecfe0b33d029573ee7cd9dc256092ed4622cdcd6a5e1f", func := "culprit/culpritlaw25.HistoryDoes", spec := "historyDoes", inPlace := ["internal/bytealg.abigen_runtime_cmpstring", "slices.overlaps[[]culprit/api.Name]"], unfollowed := true, recurses := true, plainKeys := false, apart := false, narrowed := true }
def HistoryDoesUptoSaid : Prop := historyDoesUptoRow.holds Tryz.pinned (OpenSpec.upto historyDoesSpec)

/-- 'culpritlaw25.HistoryEncodes', WHERE WHAT IT READS IS OF BULK AT MOST 1048576: true; the input reads as it did. -/
def historyEncodesUptoRow : OpenClaim := { program := "ytficgheaddkoeaagreat", sum := "adae8576217c4b74c39ecfe0b33d029573ee7cd9dc256092ed4622cdcd6a5e1f", func := "culprit/culpritlaw25.HistoryEncodes", spec := "historyEncodes", inPlace := ["internal/bytealg.abigen_runtime_cmpstring", "slices.overlaps[[]culprit/api.Name]"], unfollowed := true, recurses := true, plainKeys := false, apart := false, narrowed := true }
def HistoryEncodesUptoSaid : Prop := historyEncodesUptoRow.holds Tryz.pinned (OpenSpec.upto historyEncodesSpec)

end Rows
end Go.Proofs.YtficgheaddkoeaaGreat

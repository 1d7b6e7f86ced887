/-
  No cell of these rows narrows 'for every input' (looked for: loops, veiled, ifaces, maps, wideKeys, modest, calm, conditions, laid).
  DERIVED. THE GIVEN ROWS OF THIS SEAT. 6 by the template 'for every input the law returns true; each argument reads behind the call as it read before'; 0 by the template 'total and deterministic' (their statements: YteklgabeddpinaaGreatTotals.lean).
  GIVEN WITH THE SEED: the statements are not yours to turn. If you find one false, say at which input.
  Laid BY PROGRAM, IN A SANDBOX (cutbox-rows.mjs): the forced cells as the released guide's own fill.sh prints them over the translation e29a51cd25fe4234… (all of the seat's roots in one cut). By AI agents, Wed Nov 11 2026. No macro, syntax, notation, axiom, sorry.
-/
import Derived.Test.YteklgabeddpinaaGreatChecked
import GoSem.Claim
import GoSem.ClaimJoined
import GoSem.ClaimMapViews
import Derived.JoinedTies
import Derived.KernelRfl
namespace Go.Proofs.YteklgabeddpinaaGreat
/- THE CELL 'sum', in the pinned program and in every row, IS THE sha256 OF THE DUMP (.gsa) THAT YteklgabeddpinaaGreatProg.lean LOADS. Nothing in Lean hashes anything: it is a label: what it is worth is what the hold of that sum in a sandbox is worth. -/
noncomputable def Tryz.pinned : Pinned := { name := "yteklgabeddpinaagreat", sum := "e29a51cd25fe42347b3c1712e2a4cfb5cb7284bf5b2a2fb52690dbd7c63d5f35", checked := Tryz.checked }
namespace Rows
def none {H : Type} : Left H := { results := [], args := [] }

/-- 'culpritlaw23.PatchTouches': WHATEVER THE INPUT: true; the input reads as it did. -/
def patchTouchesSpec : ChangeSpec := { name := "patchTouches", fn := fun _ => fun
  | [d1, d2, d3, d4, d5, d6] => { results := [.lit (.bool true)], args := [d1, d2, d3, d4, d5, d6] }
  | _ => none }
def patchTouchesRow : OpenClaim := { program := "yteklgabeddpinaagreat", sum := "e29a51cd25fe42347b3c1712e2a4cfb5cb7284bf5b2a2fb52690dbd7c63d5f35", func := "culprit/culpritlaw23.PatchTouches", spec := "patchTouches", inPlace := ["internal/bytealg.abigen_runtime_cmpstring"], unfollowed := true, recurses := true, plainKeys := false, apart := false }
def PatchTouchesSaid : Prop := patchTouchesRow.holds Tryz.pinned (OpenSpec.ofChange patchTouchesSpec)

/-- ITS FALSE NEIGHBOUR: 'it returns false'. Refute it at one input. -/
def patchTouchesWrong : ChangeSpec := { name := "patchTouches", fn := fun _ => fun
  | [d1, d2, d3, d4, d5, d6] => { results := [.lit (.bool false)], args := [d1, d2, d3, d4, d5, d6] }
  | _ => none }
def PatchTouchesWrongFalsely : Prop := patchTouchesRow.holds Tryz.pinned (OpenSpec.ofChange patchTouchesWrong)

/-- 'culpritlaw23.PatchReverts': WHATEVER THE INPUT: true; the input reads as it did. -/
def patchRevertsSpec : ChangeSpec := { name := "patchReverts", fn := fun _ => fun
  | [d1, d2, d3, d4, d5, d6, d7, d8, d9] => { results := [.lit (.bool true)], args := [d1, d2, d3, d4, d5, d6, d7, d8, d9] }
  | _ => none }
def patchRevertsRow : OpenClaim := { program := "yteklgabeddpinaagreat", sum := "e29a51cd25fe42347b3c1712e2a4cfb5cb7284bf5b2a2fb52690dbd7c63d5f35", func := "culprit/culpritlaw23.PatchReverts", spec := "patchReverts", inPlace := ["internal/bytealg.abigen_runtime_cmpstring"], unfollowed := true, recurses := true, plainKeys := false, apart := false }
def PatchRevertsSaid : Prop := patchRevertsRow.holds Tryz.pinned (OpenSpec.ofChange patchRevertsSpec)

/-- ITS FALSE NEIGHBOUR: 'it returns false'. Refute it at one input. -/
def patchRevertsWrong : ChangeSpec := { name := "patchReverts", fn := fun _ => fun
  | [d1, d2, d3, d4, d5, d6, d7, d8, d9] => { results := [.lit (.bool false)], args := [d1, d2, d3, d4, d5, d6, d7, d8, d9] }
  | _ => none }
def PatchRevertsWrongFalsely : Prop := patchRevertsRow.holds Tryz.pinned (OpenSpec.ofChange patchRevertsWrong)

/-- 'culpritlaw23.PatchSplits': WHATEVER THE INPUT: true; the input reads as it did. -/
def patchSplitsSpec : ChangeSpec := { name := "patchSplits", fn := fun _ => fun
  | [d1, d2, d3, d4, d5, d6, d7, d8] => { results := [.lit (.bool true)], args := [d1, d2, d3, d4, d5, d6, d7, d8] }
  | _ => none }
def patchSplitsRow : OpenClaim := { program := "yteklgabeddpinaagreat", sum := "e29a51cd25fe42347b3c1712e2a4cfb5cb7284bf5b2a2fb52690dbd7c63d5f35", func := "culprit/culpritlaw23.PatchSplits", spec := "patchSplits", inPlace := ["internal/bytealg.abigen_runtime_cmpstring"], unfollowed := true, recurses := true, plainKeys := false, apart := false }
def PatchSplitsSaid : Prop := patchSplitsRow.holds Tryz.pinned (OpenSpec.ofChange patchSplitsSpec)

/-- ITS FALSE NEIGHBOUR: 'it returns false'. Refute it at one input. -/
def patchSplitsWrong : ChangeSpec := { name := "patchSplits", fn := fun _ => fun
  | [d1, d2, d3, d4, d5, d6, d7, d8] => { results := [.lit (.bool false)], args := [d1, d2, d3, d4, d5, d6, d7, d8] }
  | _ => none }
def PatchSplitsWrongFalsely : Prop := patchSplitsRow.holds Tryz.pinned (OpenSpec.ofChange patchSplitsWrong)

/-- 'culpritlaw23.PatchApart': WHATEVER THE INPUT: true; the input reads as it did. -/
def patchApartSpec : ChangeSpec := { name := "patchApart", fn := fun _ => fun
  | [d1, d2, d3, d4, d5] => { results := [.lit (.bool true)], args := [d1, d2, d3, d4, d5] }
  | _ => none }
def patchApartRow : OpenClaim := { program := "yteklgabeddpinaagreat", sum := "e29a51cd25fe42347b3c1712e2a4cfb5cb7284bf5b2a2fb52690dbd7c63d5f35", func := "culprit/culpritlaw23.PatchApart", spec := "patchApart", inPlace := ["internal/bytealg.abigen_runtime_cmpstring"], unfollowed := true, recurses := true, plainKeys := false, apart := false }
def PatchApartSaid : Prop := patchApartRow.holds Tryz.pinned (OpenSpec.ofChange patchApartSpec)

/-- ITS FALSE NEIGHBOUR: 'it returns false'. Refute it at one input. -/
def patchApartWrong : ChangeSpec := { name := "patchApart", fn := fun _ => fun
  | [d1, d2, d3, d4, d5] => { results := [.lit (.bool false)], args := [d1, d2, d3, d4, d5] }
  | _ => none }
def PatchApartWrongFalsely : Prop := patchApartRow.holds Tryz.pinned (OpenSpec.ofChange patchApartWrong)

/-- 'culpritlaw23.PatchFolds': WHATEVER THE INPUT: true; the input reads as it did. -/
def patchFoldsSpec : ChangeSpec := { name := "patchFolds", fn := fun _ => fun
  | [d1, d2, d3, d4, d5] => { results := [.lit (.bool true)], args := [d1, d2, d3, d4, d5] }
  | _ => none }
def patchFoldsRow : OpenClaim := { program := "yteklgabeddpinaagreat", sum := "e29a51cd25fe42347b3c1712e2a4cfb5cb7284bf5b2a2fb52690dbd7c63d5f35", func := "culprit/culpritlaw23.PatchFolds", spec := "patchFolds", inPlace := ["internal/bytealg.abigen_runtime_cmpstring"], unfollowed := true, recurses := true, plainKeys := false, apart := false }
def PatchFoldsSaid : Prop := patchFoldsRow.holds Tryz.pinned (OpenSpec.ofChange patchFoldsSpec)

/-- ITS FALSE NEIGHBOUR: 'it returns false'. Refute it at one input. -/
def patchFoldsWrong : ChangeSpec := { name := "patchFolds", fn := fun _ => fun
  | [d1, d2, d3, d4, d5] => { results := [.lit (.bool false)], args := [d1, d2, d3, d4, d5] }
  | _ => none }
def PatchFoldsWrongFalsely : Prop := patchFoldsRow.holds Tryz.pinned (OpenSpec.ofChange patchFoldsWrong)

/-- 'culpritlaw23.PatchPicks': WHATEVER THE INPUT: true; the input reads as it did. -/
def patchPicksSpec : ChangeSpec := { name := "patchPicks", fn := fun _ => fun
  | [d1, d2, d3, d4, d5] => { results := [.lit (.bool true)], args := [d1, d2, d3, d4, d5] }
  | _ => none }
def patchPicksRow : OpenClaim := { program := "yteklgabeddpinaagreat", sum := "e29a51cd25fe42347b3c1712e2a4cfb5cb7284bf5b2a2fb52690dbd7c63d5f35", func := "culprit/culpritlaw23.PatchPicks", spec := "patchPicks", inPlace := ["internal/bytealg.abigen_runtime_cmpstring"], unfollowed := true, recurses := true, plainKeys := false, apart := false }
def PatchPicksSaid : Prop := patchPicksRow.holds Tryz.pinned (OpenSpec.ofChange patchPicksSpec)

/-- ITS FALSE NEIGHBOUR: 'it returns false'. Refute it at one input. -/
def patchPicksWrong : ChangeSpec := { name := "patchPicks", fn := fun _ => fun
  | [d1, d2, d3, d4, d5] => { results := [.lit (.bool false)], args := [d1, d2, d3, d4, d5] }
  | _ => none }
def PatchPicksWrongFalsely : Prop := patchPicksRow.holds Tryz.pinned (OpenSpec.ofChange patchPicksWrong)

/- THE SECOND FORM. 'bulk': how many values and letters a reading holds, each counted each time it is reached (what is shared counts as often as it is met; a slice's spare places count too). A statement '..UptoSaid' is the law's where the arguments, and the package variables that the reading takes, are together of bulk at most 1048576: NARROWER than '..Said'. Prove '..Said' where nothing that the law and all that it calls make is longer than what came in: it says more and counts as full. Else prove '..UptoSaid'. A law counts once. -/
mutual
def uptoBulk {H : Type} : DataW H → Nat
  | .lit (.string bytes) => bytes.length + 1
  | .lit _ => 1
  | .nil => 1
  | .ptr d => uptoBulk d + 1
  | .slice elems spare => uptoBulkAll elems + uptoBulkAll spare + 1
  | .agg parts => uptoBulkAll parts + 1
  | .iface _ d => uptoBulk d + 1
  | .map entries => uptoBulkEntries entries + 1
  | .held _ => 1
def uptoBulkAll {H : Type} : List (DataW H) → Nat
  | [] => 0
  | d :: r => uptoBulk d + uptoBulkAll r
def uptoBulkEntries {H : Type} : List (Lit × DataW H) → Nat
  | [] => 0
  | x :: r => uptoBulkEntry x + uptoBulkEntries r
def uptoBulkEntry {H : Type} : Lit × DataW H → Nat
  | (.string bytes, d) => bytes.length + uptoBulk d + 1
  | (_, d) => uptoBulk d + 1
 end
def uptoSmall : (H : Type) → List (DataW H) → Bool := fun _ ds => decide (uptoBulkAll ds ≤ 1048576)
def OpenSpec.upto (s : _root_.Go.ChangeSpec) : _root_.Go.OpenSpec := { _root_.Go.OpenSpec.ofChange s with cond := some uptoSmall }

/-- 'culpritlaw23.PatchTouches', WHERE WHAT IT READS IS OF BULK AT MOST 1048576: true; the input reads as it did. -/
def patchTouchesUptoRow : OpenClaim := { program := "yteklgabeddpinaagreat", sum := "e29a51cd25fe42347b3c1712e2a4cfb5cb7284bf5b2a2fb52690dbd7c63d5f35", func := "culprit/culpritlaw23.PatchTouches", spec := "patchTouches", inPlace := ["internal/bytealg.abigen_runtime_cmpstring"], unfollowed := true, recurses := true, plainKeys := false, apart := false, narrowed := true }
def PatchTouchesUptoSaid : Prop := patchTouchesUptoRow.holds Tryz.pinned (OpenSpec.upto patchTouchesSpec)

/-- 'culpritlaw23.PatchReverts', WHERE WHAT IT READS IS OF BULK AT MOST 1048576: true; the input reads as it did. -/
def patchRevertsUptoRow : OpenClaim := { program := "yteklgabeddpinaagreat", sum := "e29a51cd25fe42347b3c1712e2a4cfb5cb7284bf5b2a2fb52690dbd7c63d5f35", func := "culprit/culpritlaw23.PatchReverts", spec := "patchReverts", inPlace := ["internal/bytealg.abigen_runtime_cmpstring"], unfollowed := true, recurses := true, plainKeys := false, apart := false, narrowed := true }
def PatchRevertsUptoSaid : Prop := patchRevertsUptoRow.holds Tryz.pinned (OpenSpec.upto patchRevertsSpec)

/-- 'culpritlaw23.PatchSplits', WHERE WHAT IT READS IS OF BULK AT MOST 1048576: true; the input reads as it did. -/
def patchSplitsUptoRow : OpenClaim := { program := "yteklgabeddpinaagreat", sum := "e29a51cd25fe42347b3c1712e2a4cfb5cb7284bf5b2a2fb52690dbd7c63d5f35", func := "culprit/culpritlaw23.PatchSplits", spec := "patchSplits", inPlace := ["internal/bytealg.abigen_runtime_cmpstring"], unfollowed := true, recurses := true, plainKeys := false, apart := false, narrowed := true }
def PatchSplitsUptoSaid : Prop := patchSplitsUptoRow.holds Tryz.pinned (OpenSpec.upto patchSplitsSpec)

/-- 'culpritlaw23.PatchApart', WHERE WHAT IT READS IS OF BULK AT MOST 1048576: true; the input reads as it did. -/
def patchApartUptoRow : OpenClaim := { program := "yteklgabeddpinaagreat", sum := "e29a51cd25fe42347b3c1712e2a4cfb5cb7284bf5b2a2fb52690dbd7c63d5f35", func := "culprit/culpritlaw23.PatchApart", spec := "patchApart", inPlace := ["internal/bytealg.abigen_runtime_cmpstring"], unfollowed := true, recurses := true, plainKeys := false, apart := false, narrowed := true }
def PatchApartUptoSaid : Prop := patchApartUptoRow.holds Tryz.pinned (OpenSpec.upto patchApartSpec)

/-- 'culpritlaw23.PatchFolds', WHERE WHAT IT READS IS OF BULK AT MOST 1048576: true; the input reads as it did. -/
def patchFoldsUptoRow : OpenClaim := { program := "yteklgabeddpinaagreat", sum := "e29a51cd25fe42347b3c1712e2a4cfb5cb7284bf5b2a2fb52690dbd7c63d5f35", func := "culprit/culpritlaw23.PatchFolds", spec := "patchFolds", inPlace := ["internal/bytealg.abigen_runtime_cmpstring"], unfollowed := true, recurses := true, plainKeys := false, apart := false, narrowed := true }
def PatchFoldsUptoSaid : Prop := patchFoldsUptoRow.holds Tryz.pinned (OpenSpec.upto patchFoldsSpec)

/-- 'culpritlaw23.PatchPicks', WHERE WHAT IT READS IS OF BULK AT MOST 1048576: true; the input reads as it did. -/
def patchPicksUptoRow : OpenClaim := { program := "yteklgabeddpinaagreat", sum := "e29a51cd25fe42347b3c1712e2a4cfb5cb7284bf5b2a2fb52690dbd7c63d5f35", func := "culprit/culpritlaw23.PatchPicks", spec := "patchPicks", inPlace := ["internal/bytealg.abigen_runtime_cmpstring"], unfollowed := true, recurses := true, plainKeys := false, apart := false, narrowed := true }
def PatchPicksUptoSaid : Prop := patchPicksUptoRow.holds Tryz.pinned (OpenSpec.upto patchPicksSpec)

end Rows
end Go.Proofs.YteklgabeddpinaaGreat

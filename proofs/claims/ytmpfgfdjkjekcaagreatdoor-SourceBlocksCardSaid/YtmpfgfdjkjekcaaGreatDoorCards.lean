/-
  DERIVED. GIVEN WITH THE SEED: THE CARDS: each row of YtmpfgfdjkjekcaaGreatDoorRows.lean that lists a variable, with what it lists TIED to the program's text (the seventh form; the later family's looks); each row that meets fmt, with fmt's text TOLD by the authors' own Lean function (tested against real Go, not proved from fmt's source: count such statements apart). THE CARD IS WHAT COUNTS. Prove the row's statement (the work); the ties are given (YtmpfgfdjkjekcaaGreatDoorTie.lean); close each card by the builder's one call (the guide's Derived/Test/ToyasCard.lean, 'card_holds'). Laid BY PROGRAM, IN A SANDBOX (cutbox-door.mjs). By AI agents, Wed Nov 11 2026. No macro, syntax, notation, axiom, sorry.
-/
import Derived.Test.YtmpfgfdjkjekcaaGreatDoorRows
import GoSem.ClaimSeven
namespace Go.Proofs.YtmpfgfdjkjekcaaGreatDoor
namespace Rows

/-- THE TIED CARD OF 'culpritlaw06.SourceValid'. -/
def sourceValidCard : Claim7 := { stood := { row := sourceValidRow, standIns := [], harness := (true, "9c4a72750f2799739ab8754e320338ab3a8e799b79d68965c078f9529ccdec6b"), looks := true }, kinds := [], alts := [], laidByText := true, laidKinds := [.data, .data, .data, .sentinel, .sentinel, .widerDeep, .widerDeep, .data], laidTests := true, laidLooks := .later }
def SourceValidCardSaid : Prop := Claim7.holds Tryz.pinned (.plain (OpenSpec.ofChange sourceValidSpec)) sourceValidCard

/-- THE TIED CARD OF 'culpritlaw06.SourceParses'. -/
def sourceParsesCard : Claim7 := { stood := { row := sourceParsesRow, standIns := [], harness := (true, "9c4a72750f2799739ab8754e320338ab3a8e799b79d68965c078f9529ccdec6b"), looks := true }, kinds := [], alts := [], laidByText := true, laidKinds := [.data, .data, .data, .sentinel, .sentinel, .widerDeep, .widerDeep, .data], laidTests := true, laidLooks := .later }
def SourceParsesCardSaid : Prop := Claim7.holds Tryz.pinned (.plain (OpenSpec.ofChange sourceParsesSpec)) sourceParsesCard

/-- THE TIED CARD OF 'culpritlaw06.SourceLimits'. -/
def sourceLimitsCard : Claim7 := { stood := { row := sourceLimitsRow, standIns := [], harness := (true, "9c4a72750f2799739ab8754e320338ab3a8e799b79d68965c078f9529ccdec6b"), looks := true }, kinds := [], alts := [], laidByText := true, laidKinds := [.data, .data, .data, .sentinel, .sentinel, .widerDeep, .widerDeep, .data], laidTests := true, laidLooks := .later }
def SourceLimitsCardSaid : Prop := Claim7.holds Tryz.pinned (.plain (OpenSpec.ofChange sourceLimitsSpec)) sourceLimitsCard

/-- THE TIED CARD OF 'culpritlaw06.SourceAgain'. -/
def sourceAgainCard : Claim7 := { stood := { row := sourceAgainRow, standIns := [], harness := (true, "9c4a72750f2799739ab8754e320338ab3a8e799b79d68965c078f9529ccdec6b"), looks := true }, kinds := [], alts := [], laidByText := true, laidKinds := [.data, .data, .data, .sentinel, .sentinel, .widerDeep, .widerDeep, .data], laidTests := true, laidLooks := .later }
def SourceAgainCardSaid : Prop := Claim7.holds Tryz.pinned (.plain (OpenSpec.ofChange sourceAgainSpec)) sourceAgainCard

/-- THE TIED CARD OF 'culpritlaw06.SourceBegins'. -/
def sourceBeginsCard : Claim7 := { stood := { row := sourceBeginsRow, standIns := [], harness := (true, "9c4a72750f2799739ab8754e320338ab3a8e799b79d68965c078f9529ccdec6b"), looks := true }, kinds := [], alts := [], laidByText := true, laidKinds := [.data, .data, .data, .sentinel, .sentinel, .widerDeep, .widerDeep, .data], laidTests := true, laidLooks := .later }
def SourceBeginsCardSaid : Prop := Claim7.holds Tryz.pinned (.plain (OpenSpec.ofChange sourceBeginsSpec)) sourceBeginsCard

/-- THE TIED CARD OF 'culpritlaw06.SourceBlocks'. -/
def sourceBlocksCard : Claim7 := { stood := { row := sourceBlocksRow, standIns := [], harness := (true, "9c4a72750f2799739ab8754e320338ab3a8e799b79d68965c078f9529ccdec6b"), looks := true }, kinds := [], alts := [], laidByText := true, laidKinds := [.data, .data, .data, .sentinel, .sentinel, .widerDeep, .widerDeep, .data], laidTests := true, laidLooks := .later }
def SourceBlocksCardSaid : Prop := Claim7.holds Tryz.pinned (.plain (OpenSpec.ofChange sourceBlocksSpec)) sourceBlocksCard

/-- THE TIED CARD OF 'culpritlaw06.SourceBlanks'. -/
def sourceBlanksCard : Claim7 := { stood := { row := sourceBlanksRow, standIns := [], harness := (true, "9c4a72750f2799739ab8754e320338ab3a8e799b79d68965c078f9529ccdec6b"), looks := true }, kinds := [], alts := [], laidByText := true, laidKinds := [.data, .data, .data, .sentinel, .sentinel, .widerDeep, .widerDeep, .data], laidTests := true, laidLooks := .later }
def SourceBlanksCardSaid : Prop := Claim7.holds Tryz.pinned (.plain (OpenSpec.ofChange sourceBlanksSpec)) sourceBlanksCard

/-- THE SECOND FORM's CARD OF 'culpritlaw06.SourceValid'. -/
def sourceValidUptoCard : Claim7 := { stood := { row := sourceValidUptoRow, standIns := [], harness := (true, "9c4a72750f2799739ab8754e320338ab3a8e799b79d68965c078f9529ccdec6b"), looks := true }, kinds := [], alts := [], laidByText := true, laidKinds := [.data, .data, .data, .sentinel, .sentinel, .widerDeep, .widerDeep, .data], laidTests := true, laidLooks := .later }
def SourceValidUptoCardSaid : Prop := Claim7.holds Tryz.pinned (.plain (OpenSpec.upto sourceValidSpec)) sourceValidUptoCard

/-- THE SECOND FORM's CARD OF 'culpritlaw06.SourceParses'. -/
def sourceParsesUptoCard : Claim7 := { stood := { row := sourceParsesUptoRow, standIns := [], harness := (true, "9c4a72750f2799739ab8754e320338ab3a8e799b79d68965c078f9529ccdec6b"), looks := true }, kinds := [], alts := [], laidByText := true, laidKinds := [.data, .data, .data, .sentinel, .sentinel, .widerDeep, .widerDeep, .data], laidTests := true, laidLooks := .later }
def SourceParsesUptoCardSaid : Prop := Claim7.holds Tryz.pinned (.plain (OpenSpec.upto sourceParsesSpec)) sourceParsesUptoCard

/-- THE SECOND FORM's CARD OF 'culpritlaw06.SourceLimits'. -/
def sourceLimitsUptoCard : Claim7 := { stood := { row := sourceLimitsUptoRow, standIns := [], harness := (true, "9c4a72750f2799739ab8754e320338ab3a8e799b79d68965c078f9529ccdec6b"), looks := true }, kinds := [], alts := [], laidByText := true, laidKinds := [.data, .data, .data, .sentinel, .sentinel, .widerDeep, .widerDeep, .data], laidTests := true, laidLooks := .later }
def SourceLimitsUptoCardSaid : Prop := Claim7.holds Tryz.pinned (.plain (OpenSpec.upto sourceLimitsSpec)) sourceLimitsUptoCard

/-- THE SECOND FORM's CARD OF 'culpritlaw06.SourceAgain'. -/
def sourceAgainUptoCard : Claim7 := { stood := { row := sourceAgainUptoRow, standIns := [], harness := (true, "9c4a72750f2799739ab8754e320338ab3a8e799b79d68965c078f9529ccdec6b"), looks := true }, kinds := [], alts := [], laidByText := true, laidKinds := [.data, .data, .data, .sentinel, .sentinel, .widerDeep, .widerDeep, .data], laidTests := true, laidLooks := .later }
def SourceAgainUptoCardSaid : Prop := Claim7.holds Tryz.pinned (.plain (OpenSpec.upto sourceAgainSpec)) sourceAgainUptoCard

/-- THE SECOND FORM's CARD OF 'culpritlaw06.SourceBegins'. -/
def sourceBeginsUptoCard : Claim7 := { stood := { row := sourceBeginsUptoRow, standIns := [], harness := (true, "9c4a72750f2799739ab8754e320338ab3a8e799b79d68965c078f9529ccdec6b"), looks := true }, kinds := [], alts := [], laidByText := true, laidKinds := [.data, .data, .data, .sentinel, .sentinel, .widerDeep, .widerDeep, .data], laidTests := true, laidLooks := .later }
def SourceBeginsUptoCardSaid : Prop := Claim7.holds Tryz.pinned (.plain (OpenSpec.upto sourceBeginsSpec)) sourceBeginsUptoCard

/-- THE SECOND FORM's CARD OF 'culpritlaw06.SourceBlocks'. -/
def sourceBlocksUptoCard : Claim7 := { stood := { row := sourceBlocksUptoRow, standIns := [], harness := (true, "9c4a72750f2799739ab8754e320338ab3a8e799b79d68965c078f9529ccdec6b"), looks := true }, kinds := [], alts := [], laidByText := true, laidKinds := [.data, .data, .data, .sentinel, .sentinel, .widerDeep, .widerDeep, .data], laidTests := true, laidLooks := .later }
def SourceBlocksUptoCardSaid : Prop := Claim7.holds Tryz.pinned (.plain (OpenSpec.upto sourceBlocksSpec)) sourceBlocksUptoCard

/-- THE SECOND FORM's CARD OF 'culpritlaw06.SourceBlanks'. -/
def sourceBlanksUptoCard : Claim7 := { stood := { row := sourceBlanksUptoRow, standIns := [], harness := (true, "9c4a72750f2799739ab8754e320338ab3a8e799b79d68965c078f9529ccdec6b"), looks := true }, kinds := [], alts := [], laidByText := true, laidKinds := [.data, .data, .data, .sentinel, .sentinel, .widerDeep, .widerDeep, .data], laidTests := true, laidLooks := .later }
def SourceBlanksUptoCardSaid : Prop := Claim7.holds Tryz.pinned (.plain (OpenSpec.upto sourceBlanksSpec)) sourceBlanksUptoCard
end Rows
end Go.Proofs.YtmpfgfdjkjekcaaGreatDoor

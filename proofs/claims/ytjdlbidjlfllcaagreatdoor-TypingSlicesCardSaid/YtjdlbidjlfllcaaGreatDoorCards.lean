/-
  DERIVED. GIVEN WITH THE SEED: THE CARDS: each row of YtjdlbidjlfllcaaGreatDoorRows.lean that lists a variable, with what it lists TIED to the program's text (the seventh form; the later family's looks); each row that meets fmt, with fmt's text TOLD by the authors' own Lean function (tested against real Go, not proved from fmt's source: count such statements apart). THE CARD IS WHAT COUNTS. Prove the row's statement (the work); the ties are given (YtjdlbidjlfllcaaGreatDoorTie.lean); close each card by the builder's one call (the guide's Derived/Test/ToyasCard.lean, 'card_holds'). Laid BY PROGRAM, IN A SANDBOX (cutbox-door.mjs). By AI agents, Wed Nov 11 2026. No macro, syntax, notation, axiom, sorry.
-/
import Derived.Test.YtjdlbidjlfllcaaGreatDoorRows
import GoSem.ClaimSeven
namespace Go.Proofs.YtjdlbidjlfllcaaGreatDoor
namespace Rows

/-- THE TIED CARD OF 'culpritlaw07.TypingChecks'. -/
def typingChecksCard : Claim7 := { stood := { row := typingChecksRow, standIns := [], harness := (true, "e6df8eaeb1bc6ed9606e70eb382637942046aa4fcffcd3525f0a5f9686c34595"), looks := true }, kinds := [], alts := [], laidByText := true, laidKinds := [.data, .data, .data, .sentinel, .sentinel, .widerDeep, .widerDeep, .data], laidTests := true, laidLooks := .later }
def TypingChecksCardSaid : Prop := Claim7.holds Tryz.pinned (.plain (OpenSpec.ofChange typingChecksSpec)) typingChecksCard

/-- THE TIED CARD OF 'culpritlaw07.TypingNames'. -/
def typingNamesCard : Claim7 := { stood := { row := typingNamesRow, standIns := [], harness := (true, "e6df8eaeb1bc6ed9606e70eb382637942046aa4fcffcd3525f0a5f9686c34595"), looks := true }, kinds := [], alts := [], laidByText := true, laidKinds := [.data, .data, .data, .sentinel, .sentinel, .widerDeep, .widerDeep, .data], laidTests := true, laidLooks := .later }
def TypingNamesCardSaid : Prop := Claim7.holds Tryz.pinned (.plain (OpenSpec.ofChange typingNamesSpec)) typingNamesCard

/-- THE TIED CARD OF 'culpritlaw07.TypingSlices'. -/
def typingSlicesCard : Claim7 := { stood := { row := typingSlicesRow, standIns := [], harness := (true, "e6df8eaeb1bc6ed9606e70eb382637942046aa4fcffcd3525f0a5f9686c34595"), looks := true }, kinds := [], alts := [], laidByText := true, laidKinds := [.data, .data, .data, .sentinel, .sentinel, .widerDeep, .widerDeep, .data], laidTests := true, laidLooks := .later }
def TypingSlicesCardSaid : Prop := Claim7.holds Tryz.pinned (.plain (OpenSpec.ofChange typingSlicesSpec)) typingSlicesCard

/-- THE TIED CARD OF 'culpritlaw07.TypingWhole'. -/
def typingWholeCard : Claim7 := { stood := { row := typingWholeRow, standIns := [], harness := (true, "e6df8eaeb1bc6ed9606e70eb382637942046aa4fcffcd3525f0a5f9686c34595"), looks := true }, kinds := [], alts := [], laidByText := true, laidKinds := [.data, .data, .data, .sentinel, .sentinel, .widerDeep, .widerDeep, .data], laidTests := true, laidLooks := .later }
def TypingWholeCardSaid : Prop := Claim7.holds Tryz.pinned (.plain (OpenSpec.ofChange typingWholeSpec)) typingWholeCard

/-- THE SECOND FORM's CARD OF 'culpritlaw07.TypingChecks'. -/
def typingChecksUptoCard : Claim7 := { stood := { row := typingChecksUptoRow, standIns := [], harness := (true, "e6df8eaeb1bc6ed9606e70eb382637942046aa4fcffcd3525f0a5f9686c34595"), looks := true }, kinds := [], alts := [], laidByText := true, laidKinds := [.data, .data, .data, .sentinel, .sentinel, .widerDeep, .widerDeep, .data], laidTests := true, laidLooks := .later }
def TypingChecksUptoCardSaid : Prop := Claim7.holds Tryz.pinned (.plain (OpenSpec.upto typingChecksSpec)) typingChecksUptoCard

/-- THE SECOND FORM's CARD OF 'culpritlaw07.TypingNames'. -/
def typingNamesUptoCard : Claim7 := { stood := { row := typingNamesUptoRow, standIns := [], harness := (true, "e6df8eaeb1bc6ed9606e70eb382637942046aa4fcffcd3525f0a5f9686c34595"), looks := true }, kinds := [], alts := [], laidByText := true, laidKinds := [.data, .data, .data, .sentinel, .sentinel, .widerDeep, .widerDeep, .data], laidTests := true, laidLooks := .later }
def TypingNamesUptoCardSaid : Prop := Claim7.holds Tryz.pinned (.plain (OpenSpec.upto typingNamesSpec)) typingNamesUptoCard

/-- THE SECOND FORM's CARD OF 'culpritlaw07.TypingSlices'. -/
def typingSlicesUptoCard : Claim7 := { stood := { row := typingSlicesUptoRow, standIns := [], harness := (true, "e6df8eaeb1bc6ed9606e70eb382637942046aa4fcffcd3525f0a5f9686c34595"), looks := true }, kinds := [], alts := [], laidByText := true, laidKinds := [.data, .data, .data, .sentinel, .sentinel, .widerDeep, .widerDeep, .data], laidTests := true, laidLooks := .later }
def TypingSlicesUptoCardSaid : Prop := Claim7.holds Tryz.pinned (.plain (OpenSpec.upto typingSlicesSpec)) typingSlicesUptoCard

/-- THE SECOND FORM's CARD OF 'culpritlaw07.TypingWhole'. -/
def typingWholeUptoCard : Claim7 := { stood := { row := typingWholeUptoRow, standIns := [], harness := (true, "e6df8eaeb1bc6ed9606e70eb382637942046aa4fcffcd3525f0a5f9686c34595"), looks := true }, kinds := [], alts := [], laidByText := true, laidKinds := [.data, .data, .data, .sentinel, .sentinel, .widerDeep, .widerDeep, .data], laidTests := true, laidLooks := .later }
def TypingWholeUptoCardSaid : Prop := Claim7.holds Tryz.pinned (.plain (OpenSpec.upto typingWholeSpec)) typingWholeUptoCard
end Rows
end Go.Proofs.YtjdlbidjlfllcaaGreatDoor

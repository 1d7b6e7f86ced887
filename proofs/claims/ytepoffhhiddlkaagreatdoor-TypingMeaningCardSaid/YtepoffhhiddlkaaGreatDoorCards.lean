/-
  DERIVED. GIVEN WITH THE SEED: THE CARDS: each row of YtepoffhhiddlkaaGreatDoorRows.lean that lists a variable, with what it lists TIED to the program's text (the seventh form; the later family's looks); each row that meets fmt, with fmt's text TOLD by the authors' own Lean function (tested against real Go, not proved from fmt's source: count such statements apart). THE CARD IS WHAT COUNTS. Prove the row's statement (the work); the ties are given (YtepoffhhiddlkaaGreatDoorTie.lean); close each card by the builder's one call (the guide's Derived/Test/ToyasCard.lean, 'card_holds'). Laid BY PROGRAM, IN A SANDBOX (cutbox-door.mjs). By AI agents, Wed Nov 11 2026. No macro, syntax, notation, axiom, sorry.
-/
import Derived.Test.YtepoffhhiddlkaaGreatDoorRows
import GoSem.ClaimSeven
namespace Go.Proofs.YtepoffhhiddlkaaGreatDoor
namespace Rows

/-- THE TIED CARD OF 'culpritlaw22.EditBytes'. -/
def editBytesCard : Claim7 := { stood := { row := editBytesRow, standIns := [], harness := (true, "a7b35250ed444db36bbf8cafc730c8840b8ff2e51426ec296291e17125a2b5f5"), looks := true }, kinds := [], alts := [], laidByText := true, laidKinds := [.data, .data], laidTests := true, laidLooks := .later }
def EditBytesCardSaid : Prop := Claim7.holds Tryz.pinned (.plain (OpenSpec.ofChange editBytesSpec)) editBytesCard

/-- THE TIED CARD OF 'culpritlaw07.TypingDigests'. -/
def typingDigestsCard : Claim7 := { stood := { row := typingDigestsRow, standIns := [], harness := (true, "a7b35250ed444db36bbf8cafc730c8840b8ff2e51426ec296291e17125a2b5f5"), looks := true }, kinds := [], alts := [], laidByText := true, laidKinds := [.data, .data, .data, .data, .data, .sentinel, .sentinel, .widerDeep, .widerDeep, .data], laidTests := true, laidLooks := .later }
def TypingDigestsCardSaid : Prop := Claim7.holds Tryz.pinned (.plain (OpenSpec.ofChange typingDigestsSpec)) typingDigestsCard

/-- THE TIED CARD OF 'culpritlaw07.TypingOrder'. -/
def typingOrderCard : Claim7 := { stood := { row := typingOrderRow, standIns := [], harness := (true, "a7b35250ed444db36bbf8cafc730c8840b8ff2e51426ec296291e17125a2b5f5"), looks := true }, kinds := [], alts := [], laidByText := true, laidKinds := [.data, .data, .data, .data, .sentinel, .sentinel, .widerDeep, .widerDeep, .data], laidTests := true, laidLooks := .later }
def TypingOrderCardSaid : Prop := Claim7.holds Tryz.pinned (.plain (OpenSpec.ofChange typingOrderSpec)) typingOrderCard

/-- THE TIED CARD OF 'culpritlaw07.TypingMeaning'. -/
def typingMeaningCard : Claim7 := { stood := { row := typingMeaningRow, standIns := [], harness := (true, "a7b35250ed444db36bbf8cafc730c8840b8ff2e51426ec296291e17125a2b5f5"), looks := true }, kinds := [], alts := [], laidByText := true, laidKinds := [.data, .data, .data, .data, .sentinel, .sentinel, .widerDeep, .widerDeep, .data], laidTests := true, laidLooks := .later }
def TypingMeaningCardSaid : Prop := Claim7.holds Tryz.pinned (.plain (OpenSpec.ofChange typingMeaningSpec)) typingMeaningCard

/-- THE SECOND FORM's CARD OF 'culpritlaw22.EditBytes'. -/
def editBytesUptoCard : Claim7 := { stood := { row := editBytesUptoRow, standIns := [], harness := (true, "a7b35250ed444db36bbf8cafc730c8840b8ff2e51426ec296291e17125a2b5f5"), looks := true }, kinds := [], alts := [], laidByText := true, laidKinds := [.data, .data], laidTests := true, laidLooks := .later }
def EditBytesUptoCardSaid : Prop := Claim7.holds Tryz.pinned (.plain (OpenSpec.upto editBytesSpec)) editBytesUptoCard

/-- THE SECOND FORM's CARD OF 'culpritlaw07.TypingDigests'. -/
def typingDigestsUptoCard : Claim7 := { stood := { row := typingDigestsUptoRow, standIns := [], harness := (true, "a7b35250ed444db36bbf8cafc730c8840b8ff2e51426ec296291e17125a2b5f5"), looks := true }, kinds := [], alts := [], laidByText := true, laidKinds := [.data, .data, .data, .data, .data, .sentinel, .sentinel, .widerDeep, .widerDeep, .data], laidTests := true, laidLooks := .later }
def TypingDigestsUptoCardSaid : Prop := Claim7.holds Tryz.pinned (.plain (OpenSpec.upto typingDigestsSpec)) typingDigestsUptoCard

/-- THE SECOND FORM's CARD OF 'culpritlaw07.TypingOrder'. -/
def typingOrderUptoCard : Claim7 := { stood := { row := typingOrderUptoRow, standIns := [], harness := (true, "a7b35250ed444db36bbf8cafc730c8840b8ff2e51426ec296291e17125a2b5f5"), looks := true }, kinds := [], alts := [], laidByText := true, laidKinds := [.data, .data, .data, .data, .sentinel, .sentinel, .widerDeep, .widerDeep, .data], laidTests := true, laidLooks := .later }
def TypingOrderUptoCardSaid : Prop := Claim7.holds Tryz.pinned (.plain (OpenSpec.upto typingOrderSpec)) typingOrderUptoCard

/-- THE SECOND FORM's CARD OF 'culpritlaw07.TypingMeaning'. -/
def typingMeaningUptoCard : Claim7 := { stood := { row := typingMeaningUptoRow, standIns := [], harness := (true, "a7b35250ed444db36bbf8cafc730c8840b8ff2e51426ec296291e17125a2b5f5"), looks := true }, kinds := [], alts := [], laidByText := true, laidKinds := [.data, .data, .data, .data, .sentinel, .sentinel, .widerDeep, .widerDeep, .data], laidTests := true, laidLooks := .later }
def TypingMeaningUptoCardSaid : Prop := Claim7.holds Tryz.pinned (.plain (OpenSpec.upto typingMeaningSpec)) typingMeaningUptoCard
end Rows
end Go.Proofs.YtepoffhhiddlkaaGreatDoor

/-
  DERIVED. GIVEN WITH THE SEED: THE CARDS: each row of YtmndmahpoljhmaaGreatDoorRows.lean that lists a variable, with what it lists TIED to the program's text (the seventh form; the later family's looks); each row that meets fmt, with fmt's text TOLD by the authors' own Lean function (tested against real Go, not proved from fmt's source: count such statements apart). THE CARD IS WHAT COUNTS. Prove the row's statement (the work); the ties are given (YtmndmahpoljhmaaGreatDoorTie.lean); close each card by the builder's one call (the guide's Derived/Test/ToyasCard.lean, 'card_holds'). Laid BY PROGRAM, IN A SANDBOX (cutbox-door.mjs). By AI agents, Wed Nov 11 2026. No macro, syntax, notation, axiom, sorry.
-/
import Derived.Test.YtmndmahpoljhmaaGreatDoorRows
import GoSem.ClaimSeven
namespace Go.Proofs.YtmndmahpoljhmaaGreatDoor
namespace Rows

/-- THE TIED CARD OF 'culpritlaw06.SourceBegins'. -/
def sourceBeginsCard : Claim7 := { stood := { row := sourceBeginsRow, standIns := [], harness := (true, "a770ee3dd2b996273de468ec34094f6cd5130e27a9979e64ce1eed0aa94aec82"), looks := true }, kinds := [], alts := [], laidByText := true, laidKinds := [.data, .data, .data, .sentinel, .sentinel, .widerDeep, .widerDeep, .data], laidTests := true, laidLooks := .later }
def SourceBeginsCardSaid : Prop := Claim7.holds Tryz.pinned (.plain (OpenSpec.ofChange sourceBeginsSpec)) sourceBeginsCard

/-- THE TIED CARD OF 'culpritlaw06.SourceBlanks'. -/
def sourceBlanksCard : Claim7 := { stood := { row := sourceBlanksRow, standIns := [], harness := (true, "a770ee3dd2b996273de468ec34094f6cd5130e27a9979e64ce1eed0aa94aec82"), looks := true }, kinds := [], alts := [], laidByText := true, laidKinds := [.data, .data, .data, .sentinel, .sentinel, .widerDeep, .widerDeep, .data], laidTests := true, laidLooks := .later }
def SourceBlanksCardSaid : Prop := Claim7.holds Tryz.pinned (.plain (OpenSpec.ofChange sourceBlanksSpec)) sourceBlanksCard

/-- THE TIED CARD OF 'culpritlaw07.TypingChecks'. -/
def typingChecksCard : Claim7 := { stood := { row := typingChecksRow, standIns := [], harness := (true, "a770ee3dd2b996273de468ec34094f6cd5130e27a9979e64ce1eed0aa94aec82"), looks := true }, kinds := [], alts := [], laidByText := true, laidKinds := [.data, .data, .data, .sentinel, .sentinel, .widerDeep, .widerDeep, .data], laidTests := true, laidLooks := .later }
def TypingChecksCardSaid : Prop := Claim7.holds Tryz.pinned (.plain (OpenSpec.ofChange typingChecksSpec)) typingChecksCard

/-- THE TIED CARD OF 'culpritlaw07.TypingNames'. -/
def typingNamesCard : Claim7 := { stood := { row := typingNamesRow, standIns := [], harness := (true, "a770ee3dd2b996273de468ec34094f6cd5130e27a9979e64ce1eed0aa94aec82"), looks := true }, kinds := [], alts := [], laidByText := true, laidKinds := [.data, .data, .data, .sentinel, .sentinel, .widerDeep, .widerDeep, .data], laidTests := true, laidLooks := .later }
def TypingNamesCardSaid : Prop := Claim7.holds Tryz.pinned (.plain (OpenSpec.ofChange typingNamesSpec)) typingNamesCard

/-- THE TIED CARD OF 'culpritlaw07.TypingSlices'. -/
def typingSlicesCard : Claim7 := { stood := { row := typingSlicesRow, standIns := [], harness := (true, "a770ee3dd2b996273de468ec34094f6cd5130e27a9979e64ce1eed0aa94aec82"), looks := true }, kinds := [], alts := [], laidByText := true, laidKinds := [.data, .data, .data, .sentinel, .sentinel, .widerDeep, .widerDeep, .data], laidTests := true, laidLooks := .later }
def TypingSlicesCardSaid : Prop := Claim7.holds Tryz.pinned (.plain (OpenSpec.ofChange typingSlicesSpec)) typingSlicesCard

/-- THE TIED CARD OF 'culpritlaw07.TypingWhole'. -/
def typingWholeCard : Claim7 := { stood := { row := typingWholeRow, standIns := [], harness := (true, "a770ee3dd2b996273de468ec34094f6cd5130e27a9979e64ce1eed0aa94aec82"), looks := true }, kinds := [], alts := [], laidByText := true, laidKinds := [.data, .data, .data, .sentinel, .sentinel, .widerDeep, .widerDeep, .data], laidTests := true, laidLooks := .later }
def TypingWholeCardSaid : Prop := Claim7.holds Tryz.pinned (.plain (OpenSpec.ofChange typingWholeSpec)) typingWholeCard

/-- THE TIED CARD OF 'culpritlaw07.TypingDigests'. -/
def typingDigestsCard : Claim7 := { stood := { row := typingDigestsRow, standIns := [], harness := (true, "a770ee3dd2b996273de468ec34094f6cd5130e27a9979e64ce1eed0aa94aec82"), looks := true }, kinds := [], alts := [], laidByText := true, laidKinds := [.data, .data, .data, .data, .data, .sentinel, .sentinel, .widerDeep, .widerDeep, .data], laidTests := true, laidLooks := .later }
def TypingDigestsCardSaid : Prop := Claim7.holds Tryz.pinned (.plain (OpenSpec.ofChange typingDigestsSpec)) typingDigestsCard

/-- THE TIED CARD OF 'culpritlaw07.TypingOrder'. -/
def typingOrderCard : Claim7 := { stood := { row := typingOrderRow, standIns := [], harness := (true, "a770ee3dd2b996273de468ec34094f6cd5130e27a9979e64ce1eed0aa94aec82"), looks := true }, kinds := [], alts := [], laidByText := true, laidKinds := [.data, .data, .data, .data, .sentinel, .sentinel, .widerDeep, .widerDeep, .data], laidTests := true, laidLooks := .later }
def TypingOrderCardSaid : Prop := Claim7.holds Tryz.pinned (.plain (OpenSpec.ofChange typingOrderSpec)) typingOrderCard

/-- THE TIED CARD OF 'culpritlaw07.TypingMeaning'. -/
def typingMeaningCard : Claim7 := { stood := { row := typingMeaningRow, standIns := [], harness := (true, "a770ee3dd2b996273de468ec34094f6cd5130e27a9979e64ce1eed0aa94aec82"), looks := true }, kinds := [], alts := [], laidByText := true, laidKinds := [.data, .data, .data, .data, .sentinel, .sentinel, .widerDeep, .widerDeep, .data], laidTests := true, laidLooks := .later }
def TypingMeaningCardSaid : Prop := Claim7.holds Tryz.pinned (.plain (OpenSpec.ofChange typingMeaningSpec)) typingMeaningCard

/-- THE SECOND FORM's CARD OF 'culpritlaw06.SourceBegins'. -/
def sourceBeginsUptoCard : Claim7 := { stood := { row := sourceBeginsUptoRow, standIns := [], harness := (true, "a770ee3dd2b996273de468ec34094f6cd5130e27a9979e64ce1eed0aa94aec82"), looks := true }, kinds := [], alts := [], laidByText := true, laidKinds := [.data, .data, .data, .sentinel, .sentinel, .widerDeep, .widerDeep, .data], laidTests := true, laidLooks := .later }
def SourceBeginsUptoCardSaid : Prop := Claim7.holds Tryz.pinned (.plain (OpenSpec.upto sourceBeginsSpec)) sourceBeginsUptoCard

/-- THE SECOND FORM's CARD OF 'culpritlaw06.SourceBlanks'. -/
def sourceBlanksUptoCard : Claim7 := { stood := { row := sourceBlanksUptoRow, standIns := [], harness := (true, "a770ee3dd2b996273de468ec34094f6cd5130e27a9979e64ce1eed0aa94aec82"), looks := true }, kinds := [], alts := [], laidByText := true, laidKinds := [.data, .data, .data, .sentinel, .sentinel, .widerDeep, .widerDeep, .data], laidTests := true, laidLooks := .later }
def SourceBlanksUptoCardSaid : Prop := Claim7.holds Tryz.pinned (.plain (OpenSpec.upto sourceBlanksSpec)) sourceBlanksUptoCard

/-- THE SECOND FORM's CARD OF 'culpritlaw07.TypingChecks'. -/
def typingChecksUptoCard : Claim7 := { stood := { row := typingChecksUptoRow, standIns := [], harness := (true, "a770ee3dd2b996273de468ec34094f6cd5130e27a9979e64ce1eed0aa94aec82"), looks := true }, kinds := [], alts := [], laidByText := true, laidKinds := [.data, .data, .data, .sentinel, .sentinel, .widerDeep, .widerDeep, .data], laidTests := true, laidLooks := .later }
def TypingChecksUptoCardSaid : Prop := Claim7.holds Tryz.pinned (.plain (OpenSpec.upto typingChecksSpec)) typingChecksUptoCard

/-- THE SECOND FORM's CARD OF 'culpritlaw07.TypingNames'. -/
def typingNamesUptoCard : Claim7 := { stood := { row := typingNamesUptoRow, standIns := [], harness := (true, "a770ee3dd2b996273de468ec34094f6cd5130e27a9979e64ce1eed0aa94aec82"), looks := true }, kinds := [], alts := [], laidByText := true, laidKinds := [.data, .data, .data, .sentinel, .sentinel, .widerDeep, .widerDeep, .data], laidTests := true, laidLooks := .later }
def TypingNamesUptoCardSaid : Prop := Claim7.holds Tryz.pinned (.plain (OpenSpec.upto typingNamesSpec)) typingNamesUptoCard

/-- THE SECOND FORM's CARD OF 'culpritlaw07.TypingSlices'. -/
def typingSlicesUptoCard : Claim7 := { stood := { row := typingSlicesUptoRow, standIns := [], harness := (true, "a770ee3dd2b996273de468ec34094f6cd5130e27a9979e64ce1eed0aa94aec82"), looks := true }, kinds := [], alts := [], laidByText := true, laidKinds := [.data, .data, .data, .sentinel, .sentinel, .widerDeep, .widerDeep, .data], laidTests := true, laidLooks := .later }
def TypingSlicesUptoCardSaid : Prop := Claim7.holds Tryz.pinned (.plain (OpenSpec.upto typingSlicesSpec)) typingSlicesUptoCard

/-- THE SECOND FORM's CARD OF 'culpritlaw07.TypingWhole'. -/
def typingWholeUptoCard : Claim7 := { stood := { row := typingWholeUptoRow, standIns := [], harness := (true, "a770ee3dd2b996273de468ec34094f6cd5130e27a9979e64ce1eed0aa94aec82"), looks := true }, kinds := [], alts := [], laidByText := true, laidKinds := [.data, .data, .data, .sentinel, .sentinel, .widerDeep, .widerDeep, .data], laidTests := true, laidLooks := .later }
def TypingWholeUptoCardSaid : Prop := Claim7.holds Tryz.pinned (.plain (OpenSpec.upto typingWholeSpec)) typingWholeUptoCard

/-- THE SECOND FORM's CARD OF 'culpritlaw07.TypingDigests'. -/
def typingDigestsUptoCard : Claim7 := { stood := { row := typingDigestsUptoRow, standIns := [], harness := (true, "a770ee3dd2b996273de468ec34094f6cd5130e27a9979e64ce1eed0aa94aec82"), looks := true }, kinds := [], alts := [], laidByText := true, laidKinds := [.data, .data, .data, .data, .data, .sentinel, .sentinel, .widerDeep, .widerDeep, .data], laidTests := true, laidLooks := .later }
def TypingDigestsUptoCardSaid : Prop := Claim7.holds Tryz.pinned (.plain (OpenSpec.upto typingDigestsSpec)) typingDigestsUptoCard

/-- THE SECOND FORM's CARD OF 'culpritlaw07.TypingOrder'. -/
def typingOrderUptoCard : Claim7 := { stood := { row := typingOrderUptoRow, standIns := [], harness := (true, "a770ee3dd2b996273de468ec34094f6cd5130e27a9979e64ce1eed0aa94aec82"), looks := true }, kinds := [], alts := [], laidByText := true, laidKinds := [.data, .data, .data, .data, .sentinel, .sentinel, .widerDeep, .widerDeep, .data], laidTests := true, laidLooks := .later }
def TypingOrderUptoCardSaid : Prop := Claim7.holds Tryz.pinned (.plain (OpenSpec.upto typingOrderSpec)) typingOrderUptoCard

/-- THE SECOND FORM's CARD OF 'culpritlaw07.TypingMeaning'. -/
def typingMeaningUptoCard : Claim7 := { stood := { row := typingMeaningUptoRow, standIns := [], harness := (true, "a770ee3dd2b996273de468ec34094f6cd5130e27a9979e64ce1eed0aa94aec82"), looks := true }, kinds := [], alts := [], laidByText := true, laidKinds := [.data, .data, .data, .data, .sentinel, .sentinel, .widerDeep, .widerDeep, .data], laidTests := true, laidLooks := .later }
def TypingMeaningUptoCardSaid : Prop := Claim7.holds Tryz.pinned (.plain (OpenSpec.upto typingMeaningSpec)) typingMeaningUptoCard
end Rows
end Go.Proofs.YtmndmahpoljhmaaGreatDoor

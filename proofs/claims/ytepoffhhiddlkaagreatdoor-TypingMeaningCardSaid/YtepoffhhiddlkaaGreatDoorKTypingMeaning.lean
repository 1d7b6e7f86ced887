/-
  TypingMeaning: what the row's form asks of the program's text, checked by evaluation (in a text of its own: it takes 9 GB). No condition.
-/
import Derived.Test.YtepoffhhiddlkaaGreatDoorCards
import Derived.Test.YtepoffhhiddlkaaGreatDoorTie
import Derived.WalkKit
import Derived.ProofKit
import Derived.ChangeOld
import Derived.Below
import Derived.Deep.DeepHandedRow
namespace Go.Proofs.YtepoffhhiddlkaaGreatDoor.typingMeaning
open Go.ChangeShapes Go.WideShapes Go.ChangeAt Go.RowKit
theorem closed : joinedFacts Tryz.pinned.checked.prog 6 Tryz.f6 (OpenSpec.ofChange Rows.typingMeaningSpec).bare Rows.typingMeaningRow = true := by kernel_rfl
end Go.Proofs.YtepoffhhiddlkaaGreatDoor.typingMeaning

/-
  TypingOrder: what the row's form asks of the program's text, checked by evaluation (in a text of its own: it takes 9 GB). No condition.
-/
import Derived.Test.YtepoffhhiddlkaaGreatDoorCards
import Derived.Test.YtepoffhhiddlkaaGreatDoorTie
import Derived.WalkKit
import Derived.ProofKit
import Derived.ChangeOld
import Derived.Below
import Derived.Deep.DeepHandedRow
namespace Go.Proofs.YtepoffhhiddlkaaGreatDoor.typingOrder
open Go.ChangeShapes Go.WideShapes Go.ChangeAt Go.RowKit
theorem closed : joinedFacts Tryz.pinned.checked.prog 5 Tryz.f5 (OpenSpec.ofChange Rows.typingOrderSpec).bare Rows.typingOrderRow = true := by kernel_rfl
end Go.Proofs.YtepoffhhiddlkaaGreatDoor.typingOrder

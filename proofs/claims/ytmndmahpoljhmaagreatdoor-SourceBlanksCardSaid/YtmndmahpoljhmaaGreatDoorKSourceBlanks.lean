/-
  SourceBlanks: what the row's form asks of the program's text, checked by evaluation (in a text of its own: it takes 9 GB). No condition.
-/
import Derived.Test.YtmndmahpoljhmaaGreatDoorCards
import Derived.Test.YtmndmahpoljhmaaGreatDoorTie
import Derived.WalkKit
import Derived.ProofKit
import Derived.ChangeOld
import Derived.Below
import Derived.Deep.DeepHandedRow
namespace Go.Proofs.YtmndmahpoljhmaaGreatDoor.sourceBlanks
open Go.ChangeShapes Go.WideShapes Go.ChangeAt Go.RowKit
theorem closed : joinedFacts Tryz.pinned.checked.prog 4 Tryz.f4 (OpenSpec.ofChange Rows.sourceBlanksSpec).bare Rows.sourceBlanksRow = true := by kernel_rfl
end Go.Proofs.YtmndmahpoljhmaaGreatDoor.sourceBlanks

/- FnExactShowWorld: what its row says of the program's own making is so. No condition. -/
import Derived.Test.YtacocpknielofaaGreatDoorCards
import Derived.Test.YtacocpknielofaaGreatDoorTie
import Derived.WalkKit
import Derived.ProofKit
import Derived.OpenShut
import Derived.ShutString
import Derived.ChangeOld
import Derived.Below
import Derived.SizedLaws
import Derived.Carry
import Derived.Deep.DeepHandedRow
import Derived.Lib.LaidTab
import Derived.Stop.LaidErr
namespace Go.Proofs.YtacocpknielofaaGreatDoor.FactsFnExactShowWorld
open Go.ChangeShapes Go.WideShapes Go.ChangeAt Go.RowKit
theorem joined : joinedFacts Tryz.pinned.checked.prog 5 Tryz.f5 (OpenSpec.ofChange Rows.fnExactShowWorldSpec).bare Rows.fnExactShowWorldRow = true := by kernel_rfl
end Go.Proofs.YtacocpknielofaaGreatDoor.FactsFnExactShowWorld

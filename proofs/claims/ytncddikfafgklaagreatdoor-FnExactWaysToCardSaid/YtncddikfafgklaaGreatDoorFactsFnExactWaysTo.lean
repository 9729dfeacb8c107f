/- FnExactWaysTo: what its row says of the program's own making is so. No condition. -/
import Derived.Test.YtncddikfafgklaaGreatDoorCards
import Derived.Test.YtncddikfafgklaaGreatDoorTie
import Derived.WalkKit
import Derived.ProofKit
import Derived.OpenShut
import Derived.ShutString
import Derived.ChangeOld
import Derived.Below
import Derived.SizedLaws
import Derived.Carry
import Derived.Deep.DeepHandedRow
import Derived.Lib.LaidTab
import Derived.Stop.LaidErr
namespace Go.Proofs.YtncddikfafgklaaGreatDoor.FactsFnExactWaysTo
open Go.ChangeShapes Go.WideShapes Go.ChangeAt Go.RowKit
theorem andT {a b:Bool}(h1:a=true)(h2:b=true):(a&&b)=true:=by rw [h1,h2];rfl
set_option maxHeartbeats 16000000 in
theorem joined:joinedFacts Tryz.pinned.checked.prog 3 Tryz.f3 (OpenSpec.ofChange Rows.fnExactWaysToSpec).bare Rows.fnExactWaysToRow=true:=by
  unfold joinedFacts
  repeat' (with_reducible refine andT ?_ ?_)
  all_goals (as_aux_lemma=>kernel_rfl)
end Go.Proofs.YtncddikfafgklaaGreatDoor.FactsFnExactWaysTo

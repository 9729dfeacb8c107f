/- Is a server right: both ways agree. Plain lemmas, no condition. -/
import Derived.Test.YtacocpknielofaaGreatDoorStoreFnExactServerOk
import Derived.Test.YtacocpknielofaaGreatDoorPlansFnExactServerOk
namespace Go.Proofs.YtacocpknielofaaGreatDoor.ServerFnExactServerOk
open Go.RowKit Go.Proofs.YtacocpknielofaaGreatDoorW.PrintWords Go.Proofs.YtacocpknielofaaGreatDoorW.PrintLast Go.Proofs.YtacocpknielofaaGreatDoor.ZOpen Go.Proofs.YtacocpknielofaaGreatDoor.Z Go.Proofs.YtacocpknielofaaGreatDoor.F
open Go.Proofs.YtacocpknielofaaGreatDoor.ZP Go.Proofs.YtacocpknielofaaGreatDoor.FamFnExactServerOk Go.Proofs.YtacocpknielofaaGreatDoor.ItemFnExactServerOk
open Go.Proofs.YtacocpknielofaaGreatDoor.StoreFnExactServerOk (store_ok)
open Go.Proofs.YtacocpknielofaaGreatDoor.PlansFnExactServerOk (plans)
set_option linter.unusedVariables false
set_option linter.unusedSimpArgs false

theorem server_ok (a : S46) (h : sm46 a) : ∃ v, Evt (fun k => spec_ServerOk.f k a) v ∧ Evt (fun k => impl_ServerOk.f k a) v := by
  obtain ⟨v, v1, v2⟩ := store_ok a.f0 h.1
  obtain ⟨p, p1, p2⟩ := plans a.f1 a.f0 h.2.1 _ 0 rfl (Nat.zero_le _)
  have n1 : ∀ x, spec_l09Num.f x = some (decide (0 ≤ x ∧ x ≤ 9999)) := fun x => by unfold spec_l09Num.f; rw [in_f]; rfl
  have n2 : ∀ x, impl_timeOk.f x = some (decide (0 ≤ x ∧ x ≤ 9999)) := fun x => by unfold impl_timeOk.f; rw [in_g]; rfl
  have p1 : Evt (fun k => spec_PlansOk.f k a.f1 a.f0) p := p1
  have p2 : Evt (fun k => impl_PlansOk.f k a.f1 a.f0) p := p2
  refine ⟨v && (p && (decide (0 ≤ a.f2 ∧ a.f2 ≤ 5) && (decide (0 ≤ a.f3 ∧ a.f3 ≤ 9999) && (decide (0 ≤ a.f4 ∧ a.f4 ≤ 9999) && decide ((a.f5.length : Int) ≤ 3))))), ?_, ?_⟩
  · unfold spec_ServerOk.f
    refine Evt.bind v1 ?_
    cases v
    · exact Evt.now
    refine Evt.bind p1 ?_
    cases p
    · exact Evt.now
    refine Evt.of fun k => ?_
    rw [in_f, n1, n1]
    cases decide (0 ≤ a.f2 ∧ a.f2 ≤ 5) <;> cases decide (0 ≤ a.f3 ∧ a.f3 ≤ 9999) <;> cases decide (0 ≤ a.f4 ∧ a.f4 ≤ 9999) <;> rfl
  · unfold impl_ServerOk.f
    refine Evt.bind v2 ?_
    cases v
    · exact Evt.now
    refine Evt.bind p2 ?_
    cases p
    · exact Evt.now
    refine Evt.of fun k => ?_
    rw [in_g, n2, n2]
    cases decide (0 ≤ a.f2 ∧ a.f2 ≤ 5) <;> cases decide (0 ≤ a.f3 ∧ a.f3 ≤ 9999) <;> cases decide (0 ≤ a.f4 ∧ a.f4 ≤ 9999) <;> rfl
end Go.Proofs.YtacocpknielofaaGreatDoor.ServerFnExactServerOk

/- The statement FnExactPlansOk: for every input the law answers true, and its arguments read as before. No condition. -/
import Derived.Test.YtdcjcanobiohnaaRows
import Derived.Test.YtdcjcanobiohnaaPureFnExactPlansOk
import Derived.WalkKit
import Derived.ProofKit
import Derived.OpenShut
import Derived.ShutString
import Derived.ChangeOld
import Derived.Below
import Derived.SizedLaws
import Derived.Carry
namespace Go.Proofs.Ytdcjcanobiohnaa.LawFnExactPlansOk
open Go.ChangeShapes Go.WideShapes Go.ChangeAt Go.RowKit
open Go.ChangeMaps (open_string shut_string)
open Go.Proofs.YtdcjcanobiohnaaW.PrintWords Go.Proofs.YtdcjcanobiohnaaW.PrintLast Go.Proofs.Ytdcjcanobiohnaa.ZOpen Go.Proofs.Ytdcjcanobiohnaa.F Go.Proofs.Ytdcjcanobiohnaa.SaidFnExactPlansOk
set_option linter.unusedVariables false
set_option linter.unusedSimpArgs false
theorem own : ownKnob Try.prog.godebug = none := by kernel_rfl
theorem laidOut : laidOutB Try.prog = true := by kernel_rfl
set_option maxHeartbeats 1000000 in
set_option maxRecDepth 100000 in
theorem lifted (os : Os) (started : os.Started) (H : Type) (enc : TypeId × Value → H) :
    ReturnsInHanded {} Try.checked os 9 .any (Rows.fnExactPlansOkSpec.pre6 enc Try.prog Try.f9 Rows.fnExactPlansOkRow.domain false) (Rows.fnExactPlansOkSpec.post enc Try.prog Try.f9 false true false false) := by
  refine returnsInHanded_of_change_sized (C := Try.checked) own started (by kernel_rfl) Try.func9
    (ChangeSpec.witness6 (enc := enc) (C := Try.checked) false ⟨#[], #[.slice none 0 0, .agg #[.slice none 0 0, .slice none 0 0, .slice none 0 0]], []⟩ 8 (by kernel_rfl) (by kernel_rfl) (by kernel_rfl) (by kernel_rfl)) ?_
  intro W base args ds gs before hval0 hW hcnd hsz0 _
  have hval : ∀ (j : Nat) t v, Try.f9.params[j]? = some t → args[j]? = some v → Value.okWide Try.prog W .any base t v := hval0
  have hW' := hW
  obtain ⟨p, q, hA0, hV, rfl, hfz, hnd⟩ := hW
  have hA : DataW.TrodAll enc Try.prog W 0 (fun _ => true) true Try.f9.params.toList args.toList ds p := hA0
  rw [Try.params9] at hA hval
  obtain ⟨v0, vs0, d0, ds0, p0, q0, hargs, rfl, rfl, h0, r0⟩ := trodAll_cons hA
  obtain ⟨v1, vs1, d1, ds1, p1, q1, rfl, rfl, rfl, h1, r1⟩ := trodAll_cons r0
  obtain ⟨rfl, rfl, rfl⟩ := trodAll_nil r1
  obtain rfl : args = #[v0, v1] := by cases args; simp_all
  obtain ⟨rfl, rfl⟩ := trodVars_none hV
  obtain ⟨a0, n0, c0, rfl⟩ := okWide_slice Try.underlying72 (hval 0 72 v0 rfl rfl)
  have k0 := h0
  have lt0 : ∀ x ∈ p0, x.block < W.heap.size := by obtain ⟨m, hm⟩ := k0; exact DataW.trod_lt m _ _ _ hm
  obtain ⟨x0, ⟨A0, C0, e0, l0, g0⟩, ok0_⟩ : ∃ x, (Kd.slice 143 k143).K W x [.slice a0 n0 c0] ∧ (okList ok143) x := by obtain ⟨m, hm⟩ := h0; exact (opens_slice Try.underlying72 (by kernel_rfl) opens143).2 H enc W m _ _ hm
  cases e0
  obtain ⟨cs1, rfl⟩ := okWide_agg Try.underlying76 (hval 1 76 v1 rfl rfl)
  have k1 := h1
  have lt1 : ∀ x ∈ p1, x.block < W.heap.size := by obtain ⟨m, hm⟩ := k1; exact DataW.trod_lt m _ _ _ hm
  obtain ⟨x1, hx1, ok1_⟩ : ∃ x, k76.K W x cs1.toList ∧ ok76 x := by obtain ⟨m, hm⟩ := h1; exact opens76.2 H enc W m _ _ hm
  obtain ⟨A1_0, c1_0, A1_1, c1_1, A1_2, c1_2, e1, l1_0, g1_0, l1_1, g1_1, l1_2, g1_2⟩ : ∃ A1_0 c1_0 A1_1 c1_1 A1_2 c1_2, cs1.toList = [.slice A1_0 x1.f0.length c1_0, .slice A1_1 x1.f1.length c1_1, .slice A1_2 x1.f2.length c1_2] ∧ x1.f0.length ≤ c1_0 ∧ k92.C W A1_0 x1.f0.length x1.f0 ∧ x1.f1.length ≤ c1_1 ∧ k201.C W A1_1 x1.f1.length x1.f1 ∧ x1.f2.length ≤ c1_2 ∧ k204.C W A1_2 x1.f2.length x1.f2 := by generalize cs1.toList = cl at hx1 ⊢; obtain ⟨_, _, rfl, ⟨A1_0, c1_0, rfl, l1_0, g1_0⟩, ⟨_, _, rfl, ⟨A1_1, c1_1, rfl, l1_1, g1_1⟩, ⟨A1_2, c1_2, rfl, l1_2, g1_2⟩⟩⟩ := hx1; exact ⟨A1_0, c1_0, A1_1, c1_1, A1_2, c1_2, rfl, l1_0, g1_0, l1_1, g1_1, l1_2, g1_2⟩
  obtain rfl := toArr e1
  clear hA0 hval0 hsz0
  obtain ⟨k, h⟩ := PureFnExactPlansOk.pure x0 x1 ok0_ ok1_
  refine (laws_FnExactPlansOk.calls h g0 l0 g1_0 l1_0 g1_1 l1_1 g1_2 l1_2).mono fun e W' ⟨he, HQ⟩ => ?_
  subst he
  have bel := HQ.below
  exact ⟨_, rfl, _, _, _, [], _, [], hW', trodAll_mk1 (shut_bool Try.underlying4 _), (trodAll_cons_mk (Below.trod laidOut (by kernel_rfl) (of_decide_eq_true (by kernel_rfl)) k0 bel lt0) (trodAll_cons_mk (Below.trod laidOut (by kernel_rfl) (of_decide_eq_true (by kernel_rfl)) k1 bel lt1) trodAll_mk0)), rfl, bel.frame _, fun h => by cases h⟩
theorem proved : Rows.FnExactPlansOkSaid :=
  OpenClaim.holds_of_wide 9 Try.f9 rfl rfl rfl rfl rfl rfl rfl ⟨rfl, rfl, rfl, rfl, rfl⟩ rfl rfl rfl rfl rfl (by kernel_rfl) Try.func9 (by kernel_rfl)
    (of_decide_eq_true (by kernel_rfl)) (by unfold Func.isWrapper; first | (rw [if_pos (by decide +kernel)]; kernel_rfl) | (rw [if_neg (by decide +kernel)]; exact ⟨rfl, rfl⟩))
    (fun os started H enc _ => lifted os started H enc)
#print axioms proved
end Go.Proofs.Ytdcjcanobiohnaa.LawFnExactPlansOk
namespace Go.Proofs.Ytdcjcanobiohnaa
theorem fnExactPlansOk_holds : Rows.FnExactPlansOkSaid := LawFnExactPlansOk.proved
end Go.Proofs.Ytdcjcanobiohnaa

/- The statement FnExactTrusting: for every input the law answers true, and its arguments read as before. No condition. -/
import Derived.Test.YtoaoncnbimcdgaaRows
import Derived.Test.YtoaoncnbimcdgaaPureFnExactTrusting
import Derived.WalkKit
import Derived.ProofKit
import Derived.OpenShut
import Derived.ShutString
import Derived.ChangeOld
import Derived.Below
import Derived.SizedLaws
import Derived.Carry
namespace Go.Proofs.Ytoaoncnbimcdgaa.LawFnExactTrusting
open Go.ChangeShapes Go.WideShapes Go.ChangeAt Go.RowKit
open Go.ChangeMaps (open_string shut_string)
open Go.Proofs.YtoaoncnbimcdgaaW.PrintWords Go.Proofs.YtoaoncnbimcdgaaW.PrintLast Go.Proofs.Ytoaoncnbimcdgaa.ZOpen Go.Proofs.Ytoaoncnbimcdgaa.F Go.Proofs.Ytoaoncnbimcdgaa.SaidFnExactTrusting
set_option linter.unusedVariables false
set_option linter.unusedSimpArgs false
theorem own : ownKnob Try.prog.godebug = none := by kernel_rfl
theorem laidOut : laidOutB Try.prog = true := by kernel_rfl
set_option maxHeartbeats 1000000 in
set_option maxRecDepth 100000 in
theorem lifted (os : Os) (started : os.Started) (H : Type) (enc : TypeId × Value → H) :
    ReturnsInHanded {} Try.checked os 5 .any (Rows.fnExactTrustingSpec.pre6 enc Try.prog Try.f5 Rows.fnExactTrustingRow.domain false) (Rows.fnExactTrustingSpec.post enc Try.prog Try.f5 false true false false) := by
  refine returnsInHanded_of_change_sized (C := Try.checked) own started (by kernel_rfl) Try.func5
    (ChangeSpec.witness6 (enc := enc) (C := Try.checked) false ⟨#[], #[.agg #[.slice none 0 0, .slice none 0 0, .slice none 0 0], .agg #[.int .i64 0, .slice none 0 0, .int .i64 0, .slice none 0 0, .bool false, .bool false, .int .i64 0]], []⟩ 8 (by kernel_rfl) (by kernel_rfl) (by kernel_rfl) (by kernel_rfl)) ?_
  intro W base args ds gs before hval0 hW hcnd hsz0 _
  have hval : ∀ (j : Nat) t v, Try.f5.params[j]? = some t → args[j]? = some v → Value.okWide Try.prog W .any base t v := hval0
  have hW' := hW
  obtain ⟨p, q, hA0, hV, rfl, hfz, hnd⟩ := hW
  have hA : DataW.TrodAll enc Try.prog W 0 (fun _ => true) true Try.f5.params.toList args.toList ds p := hA0
  rw [Try.params5] at hA hval
  obtain ⟨v0, vs0, d0, ds0, p0, q0, hargs, rfl, rfl, h0, r0⟩ := trodAll_cons hA
  obtain ⟨v1, vs1, d1, ds1, p1, q1, rfl, rfl, rfl, h1, r1⟩ := trodAll_cons r0
  obtain ⟨rfl, rfl, rfl⟩ := trodAll_nil r1
  obtain rfl : args = #[v0, v1] := by cases args; simp_all
  obtain ⟨rfl, rfl⟩ := trodVars_none hV
  obtain ⟨cs0, rfl⟩ := okWide_agg Try.underlying50 (hval 0 50 v0 rfl rfl)
  have k0 := h0
  have lt0 : ∀ x ∈ p0, x.block < W.heap.size := by obtain ⟨m, hm⟩ := k0; exact DataW.trod_lt m _ _ _ hm
  obtain ⟨x0, hx0, ok0_⟩ : ∃ x, k50.K W x cs0.toList ∧ ok50 x := by obtain ⟨m, hm⟩ := h0; exact opens50.2 H enc W m _ _ hm
  obtain ⟨A0_0, c0_0, A0_1, c0_1, A0_2, c0_2, e0, l0_0, g0_0, l0_1, g0_1, l0_2, g0_2⟩ : ∃ A0_0 c0_0 A0_1 c0_1 A0_2 c0_2, cs0.toList = [.slice A0_0 x0.f0.length c0_0, .slice A0_1 x0.f1.length c0_1, .slice A0_2 x0.f2.length c0_2] ∧ x0.f0.length ≤ c0_0 ∧ k180.C W A0_0 x0.f0.length x0.f0 ∧ x0.f1.length ≤ c0_1 ∧ k184.C W A0_1 x0.f1.length x0.f1 ∧ x0.f2.length ≤ c0_2 ∧ k186.C W A0_2 x0.f2.length x0.f2 := by generalize cs0.toList = cl at hx0 ⊢; obtain ⟨_, _, rfl, ⟨A0_0, c0_0, rfl, l0_0, g0_0⟩, ⟨_, _, rfl, ⟨A0_1, c0_1, rfl, l0_1, g0_1⟩, ⟨A0_2, c0_2, rfl, l0_2, g0_2⟩⟩⟩ := hx0; exact ⟨A0_0, c0_0, A0_1, c0_1, A0_2, c0_2, rfl, l0_0, g0_0, l0_1, g0_1, l0_2, g0_2⟩
  obtain rfl := toArr e0
  obtain ⟨cs1, rfl⟩ := okWide_agg Try.underlying54 (hval 1 54 v1 rfl rfl)
  have k1 := h1
  have lt1 : ∀ x ∈ p1, x.block < W.heap.size := by obtain ⟨m, hm⟩ := k1; exact DataW.trod_lt m _ _ _ hm
  obtain ⟨x1, hx1, ok1_⟩ : ∃ x, k54.K W x cs1.toList ∧ ok54 x := by obtain ⟨m, hm⟩ := h1; exact opens54.2 H enc W m _ _ hm
  obtain ⟨A1_1, c1_1, A1_3, c1_3, e1, l1_1, g1_1, l1_3, g1_3⟩ : ∃ A1_1 c1_1 A1_3 c1_3, cs1.toList = [.int .i64 x1.f0, .slice A1_1 x1.f1.length c1_1, .int .i64 x1.f2.f0, .slice A1_3 x1.f2.f1.length c1_3, .bool x1.f2.f2, .bool x1.f2.f3, .int .i64 x1.f2.f4] ∧ x1.f1.length ≤ c1_1 ∧ (Kd.int .i64).C W A1_1 x1.f1.length x1.f1 ∧ x1.f2.f1.length ≤ c1_3 ∧ (Kd.int .i64).C W A1_3 x1.f2.f1.length x1.f2.f1 := by generalize cs1.toList = cl at hx1 ⊢; obtain ⟨_, _, rfl, rfl, ⟨_, _, rfl, ⟨A1_1, c1_1, rfl, l1_1, g1_1⟩, ⟨_, _, rfl, rfl, ⟨_, _, rfl, ⟨A1_3, c1_3, rfl, l1_3, g1_3⟩, ⟨_, _, rfl, rfl, ⟨_, _, rfl, rfl, rfl⟩⟩⟩⟩⟩⟩ := hx1; exact ⟨A1_1, c1_1, A1_3, c1_3, rfl, l1_1, g1_1, l1_3, g1_3⟩
  obtain rfl := toArr e1
  clear hA0 hval0 hsz0
  obtain ⟨k, h⟩ := PureFnExactTrusting.pure x0 x1 ok0_ ok1_
  refine (laws_FnExactTrusting.calls h g0_0 l0_0 g0_1 l0_1 g0_2 l0_2 g1_1 l1_1 g1_3 l1_3).mono fun e W' ⟨he, HQ⟩ => ?_
  subst he
  have bel := HQ.below
  exact ⟨_, rfl, _, _, _, [], _, [], hW', trodAll_mk1 (shut_bool Try.underlying4 _), (trodAll_cons_mk (Below.trod laidOut (by kernel_rfl) (of_decide_eq_true (by kernel_rfl)) k0 bel lt0) (trodAll_cons_mk (Below.trod laidOut (by kernel_rfl) (of_decide_eq_true (by kernel_rfl)) k1 bel lt1) trodAll_mk0)), rfl, bel.frame _, fun h => by cases h⟩
theorem proved : Rows.FnExactTrustingSaid :=
  OpenClaim.holds_of_wide 5 Try.f5 rfl rfl rfl rfl rfl rfl rfl ⟨rfl, rfl, rfl, rfl, rfl⟩ rfl rfl rfl rfl rfl (by kernel_rfl) Try.func5 (by kernel_rfl)
    (of_decide_eq_true (by kernel_rfl)) (by unfold Func.isWrapper; first | (rw [if_pos (by decide +kernel)]; kernel_rfl) | (rw [if_neg (by decide +kernel)]; exact ⟨rfl, rfl⟩))
    (fun os started H enc _ => lifted os started H enc)
#print axioms proved
end Go.Proofs.Ytoaoncnbimcdgaa.LawFnExactTrusting
namespace Go.Proofs.Ytoaoncnbimcdgaa
theorem fnExactTrusting_holds : Rows.FnExactTrustingSaid := LawFnExactTrusting.proved
end Go.Proofs.Ytoaoncnbimcdgaa

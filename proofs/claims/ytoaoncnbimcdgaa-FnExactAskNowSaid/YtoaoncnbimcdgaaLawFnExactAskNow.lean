/- The statement FnExactAskNow: for every input the law answers true, and its arguments read as before. No condition. -/
import Derived.Test.YtoaoncnbimcdgaaRows
import Derived.Test.YtoaoncnbimcdgaaPureFnExactAskNow
import Derived.WalkKit
import Derived.ProofKit
import Derived.OpenShut
import Derived.ShutString
import Derived.ChangeOld
import Derived.Below
import Derived.SizedLaws
import Derived.Carry
namespace Go.Proofs.Ytoaoncnbimcdgaa.LawFnExactAskNow
open Go.ChangeShapes Go.WideShapes Go.ChangeAt Go.RowKit
open Go.ChangeMaps (open_string shut_string)
open Go.Proofs.YtoaoncnbimcdgaaW.PrintWords Go.Proofs.YtoaoncnbimcdgaaW.PrintLast Go.Proofs.Ytoaoncnbimcdgaa.ZOpen Go.Proofs.Ytoaoncnbimcdgaa.F Go.Proofs.Ytoaoncnbimcdgaa.SaidFnExactAskNow
set_option linter.unusedVariables false
set_option linter.unusedSimpArgs false
theorem own : ownKnob Try.prog.godebug = none := by kernel_rfl
theorem laidOut : laidOutB Try.prog = true := by kernel_rfl
set_option maxHeartbeats 1000000 in
set_option maxRecDepth 100000 in
theorem lifted (os : Os) (started : os.Started) (H : Type) (enc : TypeId × Value → H) :
    ReturnsInHanded {} Try.checked os 6 .any (Rows.fnExactAskNowSpec.pre6 enc Try.prog Try.f6 Rows.fnExactAskNowRow.domain false) (Rows.fnExactAskNowSpec.post enc Try.prog Try.f6 false true false false) := by
  refine returnsInHanded_of_change_sized (C := Try.checked) own started (by kernel_rfl) Try.func6
    (ChangeSpec.witness6 (enc := enc) (C := Try.checked) false ⟨#[], #[.agg #[.string ByteArray.empty, .int .i64 0, .slice none 0 0, .slice none 0 0, .slice none 0 0], .agg #[.slice none 0 0, .int .i64 0, .int .i64 0, .int .i64 0, .int .i64 0, .bool false], .int .i64 0, .int .i64 0], []⟩ 8 (by kernel_rfl) (by kernel_rfl) (by kernel_rfl) (by kernel_rfl)) ?_
  intro W base args ds gs before hval0 hW hcnd hsz0 _
  have hval : ∀ (j : Nat) t v, Try.f6.params[j]? = some t → args[j]? = some v → Value.okWide Try.prog W .any base t v := hval0
  have hW' := hW
  obtain ⟨p, q, hA0, hV, rfl, hfz, hnd⟩ := hW
  have hA : DataW.TrodAll enc Try.prog W 0 (fun _ => true) true Try.f6.params.toList args.toList ds p := hA0
  rw [Try.params6] at hA hval
  obtain ⟨v0, vs0, d0, ds0, p0, q0, hargs, rfl, rfl, h0, r0⟩ := trodAll_cons hA
  obtain ⟨v1, vs1, d1, ds1, p1, q1, rfl, rfl, rfl, h1, r1⟩ := trodAll_cons r0
  obtain ⟨v2, vs2, d2, ds2, p2, q2, rfl, rfl, rfl, h2, r2⟩ := trodAll_cons r1
  obtain ⟨v3, vs3, d3, ds3, p3, q3, rfl, rfl, rfl, h3, r3⟩ := trodAll_cons r2
  obtain ⟨rfl, rfl, rfl⟩ := trodAll_nil r3
  obtain rfl : args = #[v0, v1, v2, v3] := by cases args; simp_all
  obtain ⟨rfl, rfl⟩ := trodVars_none hV
  obtain ⟨cs0, rfl⟩ := okWide_agg Try.underlying26 (hval 0 26 v0 rfl rfl)
  have k0 := h0
  have lt0 : ∀ x ∈ p0, x.block < W.heap.size := by obtain ⟨m, hm⟩ := k0; exact DataW.trod_lt m _ _ _ hm
  obtain ⟨x0, hx0, ok0_⟩ : ∃ x, k26.K W x cs0.toList ∧ ok26 x := by obtain ⟨m, hm⟩ := h0; exact opens26.2 H enc W m _ _ hm
  obtain ⟨A0_2, c0_2, A0_3, c0_3, A0_4, c0_4, e0, l0_2, g0_2, l0_3, g0_3, l0_4, g0_4⟩ : ∃ A0_2 c0_2 A0_3 c0_3 A0_4 c0_4, cs0.toList = [.string x0.f0, .int .i64 x0.f1, .slice A0_2 x0.f2.length c0_2, .slice A0_3 x0.f3.length c0_3, .slice A0_4 x0.f4.length c0_4] ∧ x0.f2.length ≤ c0_2 ∧ k154.C W A0_2 x0.f2.length x0.f2 ∧ x0.f3.length ≤ c0_3 ∧ k160.C W A0_3 x0.f3.length x0.f3 ∧ x0.f4.length ≤ c0_4 ∧ (Kd.int .i64).C W A0_4 x0.f4.length x0.f4 := by generalize cs0.toList = cl at hx0 ⊢; obtain ⟨_, _, rfl, rfl, ⟨_, _, rfl, rfl, ⟨_, _, rfl, ⟨A0_2, c0_2, rfl, l0_2, g0_2⟩, ⟨_, _, rfl, ⟨A0_3, c0_3, rfl, l0_3, g0_3⟩, ⟨A0_4, c0_4, rfl, l0_4, g0_4⟩⟩⟩⟩⟩ := hx0; exact ⟨A0_2, c0_2, A0_3, c0_3, A0_4, c0_4, rfl, l0_2, g0_2, l0_3, g0_3, l0_4, g0_4⟩
  obtain rfl := toArr e0
  obtain ⟨cs1, rfl⟩ := okWide_agg Try.underlying75 (hval 1 75 v1 rfl rfl)
  have k1 := h1
  have lt1 : ∀ x ∈ p1, x.block < W.heap.size := by obtain ⟨m, hm⟩ := k1; exact DataW.trod_lt m _ _ _ hm
  obtain ⟨x1, hx1, ok1_⟩ : ∃ x, k75.K W x cs1.toList ∧ ok75 x := by obtain ⟨m, hm⟩ := h1; exact opens75.2 H enc W m _ _ hm
  obtain ⟨A1_0, c1_0, e1, l1_0, g1_0⟩ : ∃ A1_0 c1_0, cs1.toList = [.slice A1_0 x1.f0.length c1_0, .int .i64 x1.f1, .int .i64 x1.f2, .int .i64 x1.f3, .int .i64 x1.f4, .bool x1.f5] ∧ x1.f0.length ≤ c1_0 ∧ Kd.string.C W A1_0 x1.f0.length x1.f0 := by generalize cs1.toList = cl at hx1 ⊢; obtain ⟨_, _, rfl, ⟨A1_0, c1_0, rfl, l1_0, g1_0⟩, ⟨_, _, rfl, rfl, ⟨_, _, rfl, rfl, ⟨_, _, rfl, rfl, ⟨_, _, rfl, rfl, rfl⟩⟩⟩⟩⟩ := hx1; exact ⟨A1_0, c1_0, rfl, l1_0, g1_0⟩
  obtain rfl := toArr e1
  obtain ⟨x2, rfl, rfl, rfl, ok2_⟩ := open_int Try.underlying3 (hval 2 3 v2 rfl rfl) h2
  obtain ⟨x3, rfl, rfl, rfl, ok3_⟩ := open_int Try.underlying3 (hval 3 3 v3 rfl rfl) h3
  clear hA0 hval0 hsz0
  obtain ⟨k, h⟩ := PureFnExactAskNow.pure x0 x1 x2 x3 ok0_ ok1_ ok2_ ok3_
  refine (laws_FnExactAskNow.calls h g0_2 l0_2 g0_3 l0_3 g0_4 l0_4 g1_0 l1_0).mono fun e W' ⟨he, HQ⟩ => ?_
  subst he
  have bel := HQ.below
  exact ⟨_, rfl, _, _, _, [], _, [], hW', trodAll_mk1 (shut_bool Try.underlying4 _), (trodAll_cons_mk (Below.trod laidOut (by kernel_rfl) (of_decide_eq_true (by kernel_rfl)) k0 bel lt0) (trodAll_cons_mk (Below.trod laidOut (by kernel_rfl) (of_decide_eq_true (by kernel_rfl)) k1 bel lt1) (trodAll_cons_mk (shut_int Try.underlying3 ok2_) (trodAll_cons_mk (shut_int Try.underlying3 ok3_) trodAll_mk0)))), rfl, bel.frame _, fun h => by cases h⟩
theorem proved : Rows.FnExactAskNowSaid :=
  OpenClaim.holds_of_wide 6 Try.f6 rfl rfl rfl rfl rfl rfl rfl ⟨rfl, rfl, rfl, rfl, rfl⟩ rfl rfl rfl rfl rfl (by kernel_rfl) Try.func6 (by kernel_rfl)
    (of_decide_eq_true (by kernel_rfl)) (by unfold Func.isWrapper; first | (rw [if_pos (by decide +kernel)]; kernel_rfl) | (rw [if_neg (by decide +kernel)]; exact ⟨rfl, rfl⟩))
    (fun os started H enc _ => lifted os started H enc)
#print axioms proved
end Go.Proofs.Ytoaoncnbimcdgaa.LawFnExactAskNow
namespace Go.Proofs.Ytoaoncnbimcdgaa
theorem fnExactAskNow_holds : Rows.FnExactAskNowSaid := LawFnExactAskNow.proved
end Go.Proofs.Ytoaoncnbimcdgaa

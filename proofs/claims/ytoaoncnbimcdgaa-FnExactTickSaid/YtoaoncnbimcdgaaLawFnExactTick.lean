/- The statement FnExactTick: for every input the law answers true, and its arguments read as before. No condition. -/
import Derived.Test.YtoaoncnbimcdgaaRows
import Derived.Test.YtoaoncnbimcdgaaPureFnExactTick
import Derived.WalkKit
import Derived.ProofKit
import Derived.OpenShut
import Derived.ShutString
import Derived.ChangeOld
import Derived.Below
import Derived.SizedLaws
import Derived.Carry
namespace Go.Proofs.Ytoaoncnbimcdgaa.LawFnExactTick
open Go.ChangeShapes Go.WideShapes Go.ChangeAt Go.RowKit
open Go.ChangeMaps (open_string shut_string)
open Go.Proofs.YtoaoncnbimcdgaaW.PrintWords Go.Proofs.YtoaoncnbimcdgaaW.PrintLast Go.Proofs.Ytoaoncnbimcdgaa.ZOpen Go.Proofs.Ytoaoncnbimcdgaa.F Go.Proofs.Ytoaoncnbimcdgaa.SaidFnExactTick
set_option linter.unusedVariables false
set_option linter.unusedSimpArgs false
theorem own : ownKnob Try.prog.godebug = none := by kernel_rfl
theorem laidOut : laidOutB Try.prog = true := by kernel_rfl
set_option maxHeartbeats 1000000 in
set_option maxRecDepth 100000 in
theorem lifted (os : Os) (started : os.Started) (H : Type) (enc : TypeId × Value → H) :
    ReturnsInHanded {} Try.checked os 3 .any (Rows.fnExactTickSpec.pre6 enc Try.prog Try.f3 Rows.fnExactTickRow.domain false) (Rows.fnExactTickSpec.post enc Try.prog Try.f3 false true false false) := by
  refine returnsInHanded_of_change_sized (C := Try.checked) own started (by kernel_rfl) Try.func3
    (ChangeSpec.witness6 (enc := enc) (C := Try.checked) false ⟨#[], #[.agg #[.string ByteArray.empty, .int .i64 0, .slice none 0 0, .slice none 0 0, .slice none 0 0], .int .i64 0], []⟩ 8 (by kernel_rfl) (by kernel_rfl) (by kernel_rfl) (by kernel_rfl)) ?_
  intro W base args ds gs before hval0 hW hcnd hsz0 _
  have hval : ∀ (j : Nat) t v, Try.f3.params[j]? = some t → args[j]? = some v → Value.okWide Try.prog W .any base t v := hval0
  have hW' := hW
  obtain ⟨p, q, hA0, hV, rfl, hfz, hnd⟩ := hW
  have hA : DataW.TrodAll enc Try.prog W 0 (fun _ => true) true Try.f3.params.toList args.toList ds p := hA0
  rw [Try.params3] at hA hval
  obtain ⟨v0, vs0, d0, ds0, p0, q0, hargs, rfl, rfl, h0, r0⟩ := trodAll_cons hA
  obtain ⟨v1, vs1, d1, ds1, p1, q1, rfl, rfl, rfl, h1, r1⟩ := trodAll_cons r0
  obtain ⟨rfl, rfl, rfl⟩ := trodAll_nil r1
  obtain rfl : args = #[v0, v1] := by cases args; simp_all
  obtain ⟨rfl, rfl⟩ := trodVars_none hV
  obtain ⟨cs0, rfl⟩ := okWide_agg Try.underlying26 (hval 0 26 v0 rfl rfl)
  have k0 := h0
  have lt0 : ∀ x ∈ p0, x.block < W.heap.size := by obtain ⟨m, hm⟩ := k0; exact DataW.trod_lt m _ _ _ hm
  obtain ⟨x0, hx0, ok0_⟩ : ∃ x, k26.K W x cs0.toList ∧ ok26 x := by obtain ⟨m, hm⟩ := h0; exact opens26.2 H enc W m _ _ hm
  obtain ⟨A0_2, c0_2, A0_3, c0_3, A0_4, c0_4, e0, l0_2, g0_2, l0_3, g0_3, l0_4, g0_4⟩ : ∃ A0_2 c0_2 A0_3 c0_3 A0_4 c0_4, cs0.toList = [.string x0.f0, .int .i64 x0.f1, .slice A0_2 x0.f2.length c0_2, .slice A0_3 x0.f3.length c0_3, .slice A0_4 x0.f4.length c0_4] ∧ x0.f2.length ≤ c0_2 ∧ k154.C W A0_2 x0.f2.length x0.f2 ∧ x0.f3.length ≤ c0_3 ∧ k160.C W A0_3 x0.f3.length x0.f3 ∧ x0.f4.length ≤ c0_4 ∧ (Kd.int .i64).C W A0_4 x0.f4.length x0.f4 := by generalize cs0.toList = cl at hx0 ⊢; obtain ⟨_, _, rfl, rfl, ⟨_, _, rfl, rfl, ⟨_, _, rfl, ⟨A0_2, c0_2, rfl, l0_2, g0_2⟩, ⟨_, _, rfl, ⟨A0_3, c0_3, rfl, l0_3, g0_3⟩, ⟨A0_4, c0_4, rfl, l0_4, g0_4⟩⟩⟩⟩⟩ := hx0; exact ⟨A0_2, c0_2, A0_3, c0_3, A0_4, c0_4, rfl, l0_2, g0_2, l0_3, g0_3, l0_4, g0_4⟩
  obtain rfl := toArr e0
  obtain ⟨x1, rfl, rfl, rfl, ok1_⟩ := open_int Try.underlying3 (hval 1 3 v1 rfl rfl) h1
  clear hA0 hval0 hsz0
  obtain ⟨k, h⟩ := PureFnExactTick.pure x0 x1 ok0_ ok1_
  refine (laws_FnExactTick.calls h g0_2 l0_2 g0_3 l0_3 g0_4 l0_4).mono fun e W' ⟨he, HQ⟩ => ?_
  subst he
  have bel := HQ.below
  exact ⟨_, rfl, _, _, _, [], _, [], hW', trodAll_mk1 (shut_bool Try.underlying4 _), (trodAll_cons_mk (Below.trod laidOut (by kernel_rfl) (of_decide_eq_true (by kernel_rfl)) k0 bel lt0) (trodAll_cons_mk (shut_int Try.underlying3 ok1_) trodAll_mk0)), rfl, bel.frame _, fun h => by cases h⟩
theorem proved : Rows.FnExactTickSaid :=
  OpenClaim.holds_of_wide 3 Try.f3 rfl rfl rfl rfl rfl rfl rfl ⟨rfl, rfl, rfl, rfl, rfl⟩ rfl rfl rfl rfl rfl (by kernel_rfl) Try.func3 (by kernel_rfl)
    (of_decide_eq_true (by kernel_rfl)) (by unfold Func.isWrapper; first | (rw [if_pos (by decide +kernel)]; kernel_rfl) | (rw [if_neg (by decide +kernel)]; exact ⟨rfl, rfl⟩))
    (fun os started H enc _ => lifted os started H enc)
#print axioms proved
end Go.Proofs.Ytoaoncnbimcdgaa.LawFnExactTick
namespace Go.Proofs.Ytoaoncnbimcdgaa
theorem fnExactTick_holds : Rows.FnExactTickSaid := LawFnExactTick.proved
end Go.Proofs.Ytoaoncnbimcdgaa

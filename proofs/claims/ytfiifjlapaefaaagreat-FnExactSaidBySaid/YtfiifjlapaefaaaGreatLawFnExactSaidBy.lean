/- The statement FnExactSaidBy: for every input the law answers true, and its arguments read as before. No condition. -/
import Derived.Test.YtfiifjlapaefaaaGreatRows
import Derived.Test.YtfiifjlapaefaaaGreatFactsFnExactSaidBy
import Derived.Test.YtfiifjlapaefaaaGreatPureFnExactSaidBy
import Derived.WalkKit
import Derived.ProofKit
import Derived.OpenShut
import Derived.ShutString
import Derived.ChangeOld
import Derived.Below
import Derived.SizedLaws
import Derived.Carry
namespace Go.Proofs.YtfiifjlapaefaaaGreat.LawFnExactSaidBy
open Go.ChangeShapes Go.WideShapes Go.ChangeAt Go.RowKit
open Go.ChangeMaps (open_string shut_string)
open Go.Proofs.YtfiifjlapaefaaaGreatW.PrintWords Go.Proofs.YtfiifjlapaefaaaGreatW.PrintLast Go.Proofs.YtfiifjlapaefaaaGreat.ZOpen Go.Proofs.YtfiifjlapaefaaaGreat.F Go.Proofs.YtfiifjlapaefaaaGreat.SaidFnExactSaidBy
set_option linter.unusedVariables false
set_option linter.unusedSimpArgs false
theorem own : ownKnob Tryz.prog.godebug = none := by kernel_rfl
theorem laidOut : laidOutB Tryz.prog = true := by kernel_rfl
set_option maxHeartbeats 1000000 in
set_option maxRecDepth 100000 in
theorem lifted (os : Os) (started : os.Started) (H : Type) (enc : TypeId × Value → H) :
    ReturnsInHanded {} Tryz.checked os 3 .any (Rows.fnExactSaidBySpec.pre6 enc Tryz.prog Tryz.f3 Rows.fnExactSaidByRow.domain false) (Rows.fnExactSaidBySpec.post enc Tryz.prog Tryz.f3 false true false false) := by
  refine returnsInHanded_of_change_sized (C := Tryz.checked) own started (by kernel_rfl) Tryz.func3
    (ChangeSpec.witness6 (enc := enc) (C := Tryz.checked) false ⟨#[], #[.agg #[.slice none 0 0, .slice none 0 0, .slice none 0 0, .slice none 0 0, .int .i64 0, .int .i64 0, .int .i64 0, .slice none 0 0, .string ByteArray.empty, .int .i64 0, .slice none 0 0, .slice none 0 0, .slice none 0 0, .slice none 0 0, .slice none 0 0, .slice none 0 0, .slice none 0 0, .slice none 0 0, .slice none 0 0]], []⟩ 8 (by kernel_rfl) (by kernel_rfl) (by kernel_rfl) (by kernel_rfl)) ?_
  intro W base args ds gs before hval0 hW hcnd hsz0 _
  have hval : ∀ (j : Nat) t v, Tryz.f3.params[j]? = some t → args[j]? = some v → Value.okWide Tryz.prog W .any base t v := hval0
  have hW' := hW
  obtain ⟨p, q, hA0, hV, rfl, hfz, hnd⟩ := hW
  have hA : DataW.TrodAll enc Tryz.prog W 0 (fun _ => true) true Tryz.f3.params.toList args.toList ds p := hA0
  rw [Tryz.params3] at hA hval
  obtain ⟨v0, vs0, d0, ds0, p0, q0, hargs, rfl, rfl, h0, r0⟩ := trodAll_cons hA
  obtain ⟨rfl, rfl, rfl⟩ := trodAll_nil r0
  obtain rfl : args = #[v0] := by cases args; simp_all
  obtain ⟨rfl, rfl⟩ := trodVars_none hV
  obtain ⟨cs0, rfl⟩ := okWide_agg Tryz.underlying40 (hval 0 40 v0 rfl rfl)
  have k0 := h0
  have lt0 : ∀ x ∈ p0, x.block < W.heap.size := by obtain ⟨m, hm⟩ := k0; exact DataW.trod_lt m _ _ _ hm
  obtain ⟨x0, hx0, ok0_⟩ : ∃ x, k40.K W x cs0.toList ∧ ok40 x := by obtain ⟨m, hm⟩ := h0; exact opens40.2 H enc W m _ _ hm
  obtain ⟨A0_0, c0_0, A0_1, c0_1, A0_2, c0_2, A0_3, c0_3, A0_7, c0_7, A0_10, c0_10, A0_11, c0_11, A0_12, c0_12, A0_13, c0_13, A0_14, c0_14, A0_15, c0_15, A0_16, c0_16, A0_17, c0_17, A0_18, c0_18, e0, l0_0, g0_0, l0_1, g0_1, l0_2, g0_2, l0_3, g0_3, l0_7, g0_7, l0_10, g0_10, l0_11, g0_11, l0_12, g0_12, l0_13, g0_13, l0_14, g0_14, l0_15, g0_15, l0_16, g0_16, l0_17, g0_17, l0_18, g0_18⟩ : ∃ A0_0 c0_0 A0_1 c0_1 A0_2 c0_2 A0_3 c0_3 A0_7 c0_7 A0_10 c0_10 A0_11 c0_11 A0_12 c0_12 A0_13 c0_13 A0_14 c0_14 A0_15 c0_15 A0_16 c0_16 A0_17 c0_17 A0_18 c0_18, cs0.toList = [.slice A0_0 x0.f0.f0.f0.length c0_0, .slice A0_1 x0.f0.f0.f1.length c0_1, .slice A0_2 x0.f0.f0.f2.length c0_2, .slice A0_3 x0.f0.f1.length c0_3, .int .i64 x0.f0.f2, .int .i64 x0.f0.f3, .int .i64 x0.f0.f4, .slice A0_7 x0.f0.f5.length c0_7, .string x0.f1.f0, .int .i64 x0.f1.f1, .slice A0_10 x0.f1.f2.length c0_10, .slice A0_11 x0.f1.f3.length c0_11, .slice A0_12 x0.f1.f4.length c0_12, .slice A0_13 x0.f2.length c0_13, .slice A0_14 x0.f3.length c0_14, .slice A0_15 x0.f4.length c0_15, .slice A0_16 x0.f5.length c0_16, .slice A0_17 x0.f6.length c0_17, .slice A0_18 x0.f7.length c0_18] ∧ x0.f0.f0.f0.length ≤ c0_0 ∧ k99.C W A0_0 x0.f0.f0.f0.length x0.f0.f0.f0 ∧ x0.f0.f0.f1.length ≤ c0_1 ∧ k187.C W A0_1 x0.f0.f0.f1.length x0.f0.f0.f1 ∧ x0.f0.f0.f2.length ≤ c0_2 ∧ k190.C W A0_2 x0.f0.f0.f2.length x0.f0.f0.f2 ∧ x0.f0.f1.length ≤ c0_3 ∧ k140.C W A0_3 x0.f0.f1.length x0.f0.f1 ∧ x0.f0.f5.length ≤ c0_7 ∧ k143.C W A0_7 x0.f0.f5.length x0.f0.f5 ∧ x0.f1.f2.length ≤ c0_10 ∧ k146.C W A0_10 x0.f1.f2.length x0.f1.f2 ∧ x0.f1.f3.length ≤ c0_11 ∧ k152.C W A0_11 x0.f1.f3.length x0.f1.f3 ∧ x0.f1.f4.length ≤ c0_12 ∧ (Kd.int .i64).C W A0_12 x0.f1.f4.length x0.f1.f4 ∧ x0.f2.length ≤ c0_13 ∧ k99.C W A0_13 x0.f2.length x0.f2 ∧ x0.f3.length ≤ c0_14 ∧ k102.C W A0_14 x0.f3.length x0.f3 ∧ x0.f4.length ≤ c0_15 ∧ (Kd.int .i64).C W A0_15 x0.f4.length x0.f4 ∧ x0.f5.length ≤ c0_16 ∧ k105.C W A0_16 x0.f5.length x0.f5 ∧ x0.f6.length ≤ c0_17 ∧ Kd.string.C W A0_17 x0.f6.length x0.f6 ∧ x0.f7.length ≤ c0_18 ∧ Kd.string.C W A0_18 x0.f7.length x0.f7 := by generalize cs0.toList = cl at hx0 ⊢; obtain ⟨_, _, rfl, ⟨_, _, rfl, ⟨_, _, rfl, ⟨A0_0, c0_0, rfl, l0_0, g0_0⟩, ⟨_, _, rfl, ⟨A0_1, c0_1, rfl, l0_1, g0_1⟩, ⟨A0_2, c0_2, rfl, l0_2, g0_2⟩⟩⟩, ⟨_, _, rfl, ⟨A0_3, c0_3, rfl, l0_3, g0_3⟩, ⟨_, _, rfl, rfl, ⟨_, _, rfl, rfl, ⟨_, _, rfl, rfl, ⟨A0_7, c0_7, rfl, l0_7, g0_7⟩⟩⟩⟩⟩⟩, ⟨_, _, rfl, ⟨_, _, rfl, rfl, ⟨_, _, rfl, rfl, ⟨_, _, rfl, ⟨A0_10, c0_10, rfl, l0_10, g0_10⟩, ⟨_, _, rfl, ⟨A0_11, c0_11, rfl, l0_11, g0_11⟩, ⟨A0_12, c0_12, rfl, l0_12, g0_12⟩⟩⟩⟩⟩, ⟨_, _, rfl, ⟨A0_13, c0_13, rfl, l0_13, g0_13⟩, ⟨_, _, rfl, ⟨A0_14, c0_14, rfl, l0_14, g0_14⟩, ⟨_, _, rfl, ⟨A0_15, c0_15, rfl, l0_15, g0_15⟩, ⟨_, _, rfl, ⟨A0_16, c0_16, rfl, l0_16, g0_16⟩, ⟨_, _, rfl, ⟨A0_17, c0_17, rfl, l0_17, g0_17⟩, ⟨A0_18, c0_18, rfl, l0_18, g0_18⟩⟩⟩⟩⟩⟩⟩⟩ := hx0; exact ⟨A0_0, c0_0, A0_1, c0_1, A0_2, c0_2, A0_3, c0_3, A0_7, c0_7, A0_10, c0_10, A0_11, c0_11, A0_12, c0_12, A0_13, c0_13, A0_14, c0_14, A0_15, c0_15, A0_16, c0_16, A0_17, c0_17, A0_18, c0_18, rfl, l0_0, g0_0, l0_1, g0_1, l0_2, g0_2, l0_3, g0_3, l0_7, g0_7, l0_10, g0_10, l0_11, g0_11, l0_12, g0_12, l0_13, g0_13, l0_14, g0_14, l0_15, g0_15, l0_16, g0_16, l0_17, g0_17, l0_18, g0_18⟩
  obtain rfl := toArr e0
  clear hA0 hval0 hsz0
  obtain ⟨k, h⟩ := PureFnExactSaidBy.pure x0 ok0_
  refine (laws_FnExactSaidBy.calls h g0_0 l0_0 g0_1 l0_1 g0_2 l0_2 g0_3 l0_3 g0_7 l0_7 g0_10 l0_10 g0_11 l0_11 g0_12 l0_12 g0_13 l0_13 g0_14 l0_14 g0_15 l0_15 g0_16 l0_16 g0_17 l0_17 g0_18 l0_18).mono fun e W' ⟨he, HQ⟩ => ?_
  subst he
  have bel := HQ.below
  exact ⟨_, rfl, _, _, _, [], _, [], hW', trodAll_mk1 (shut_bool Tryz.underlying4 _), (trodAll_cons_mk (Below.trod laidOut (by kernel_rfl) (of_decide_eq_true (by kernel_rfl)) k0 bel lt0) trodAll_mk0), rfl, bel.frame _, fun h => by cases h⟩
theorem proved : Rows.FnExactSaidBySaid :=
  OpenClaim.holds_of_wide 3 Tryz.f3 rfl rfl rfl rfl rfl rfl rfl ⟨rfl, rfl, rfl, rfl, rfl⟩ rfl rfl rfl rfl rfl (by kernel_rfl) Tryz.func3 FactsFnExactSaidBy.joined
    (of_decide_eq_true (by kernel_rfl)) (by unfold Func.isWrapper; first | (rw [if_pos (by decide +kernel)]; kernel_rfl) | (rw [if_neg (by decide +kernel)]; exact ⟨rfl, rfl⟩))
    (fun os started H enc _ => lifted os started H enc)
#print axioms proved
end Go.Proofs.YtfiifjlapaefaaaGreat.LawFnExactSaidBy
namespace Go.Proofs.YtfiifjlapaefaaaGreat
theorem fnExactSaidBy_holds : Rows.FnExactSaidBySaid := LawFnExactSaidBy.proved
end Go.Proofs.YtfiifjlapaefaaaGreat

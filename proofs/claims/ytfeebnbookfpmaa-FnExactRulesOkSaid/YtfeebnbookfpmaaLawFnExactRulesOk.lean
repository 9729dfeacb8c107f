/- The statement FnExactRulesOk: for every input the law answers true, and its arguments read as before. No condition. -/
import Derived.Test.YtfeebnbookfpmaaRows
import Derived.Test.YtfeebnbookfpmaaPureFnExactRulesOk
import Derived.WalkKit
import Derived.ProofKit
import Derived.OpenShut
import Derived.ShutString
import Derived.ChangeOld
import Derived.Below
import Derived.SizedLaws
import Derived.Carry
namespace Go.Proofs.Ytfeebnbookfpmaa.LawFnExactRulesOk
open Go.ChangeShapes Go.WideShapes Go.ChangeAt Go.RowKit
open Go.ChangeMaps (open_string shut_string)
open Go.Proofs.YtfeebnbookfpmaaW.PrintWords Go.Proofs.YtfeebnbookfpmaaW.PrintLast Go.Proofs.Ytfeebnbookfpmaa.ZOpen Go.Proofs.Ytfeebnbookfpmaa.PFnExactRulesOk Go.Proofs.Ytfeebnbookfpmaa.SaidFnExactRulesOk
set_option linter.unusedVariables false
set_option linter.unusedSimpArgs false
theorem own : ownKnob Try.prog.godebug = none := by kernel_rfl
theorem laidOut : laidOutB Try.prog = true := by kernel_rfl
set_option maxHeartbeats 1000000 in
set_option maxRecDepth 100000 in
theorem lifted (os : Os) (started : os.Started) (H : Type) (enc : TypeId × Value → H) :
    ReturnsInHanded {} Try.checked os 4 .any (Rows.fnExactRulesOkSpec.pre6 enc Try.prog Try.f4 Rows.fnExactRulesOkRow.domain false) (Rows.fnExactRulesOkSpec.post enc Try.prog Try.f4 false true false false) := by
  refine returnsInHanded_of_change_sized (C := Try.checked) own started (by kernel_rfl) Try.func4
    (ChangeSpec.witness6 (enc := enc) (C := Try.checked) false ⟨#[], #[.agg #[.int .i64 0, .slice none 0 0, .bool false, .bool false, .int .i64 0]], []⟩ 8 (by kernel_rfl) (by kernel_rfl) (by kernel_rfl) (by kernel_rfl)) ?_
  intro W base args ds gs before hval0 hW hcnd hsz0 _
  have hval : ∀ (j : Nat) t v, Try.f4.params[j]? = some t → args[j]? = some v → Value.okWide Try.prog W .any base t v := hval0
  have hW' := hW
  obtain ⟨p, q, hA0, hV, rfl, hfz, hnd⟩ := hW
  have hA : DataW.TrodAll enc Try.prog W 0 (fun _ => true) true Try.f4.params.toList args.toList ds p := hA0
  rw [Try.params4] at hA hval
  obtain ⟨v0, vs0, d0, ds0, p0, q0, hargs, rfl, rfl, h0, r0⟩ := trodAll_cons hA
  obtain ⟨rfl, rfl, rfl⟩ := trodAll_nil r0
  obtain rfl : args = #[v0] := by cases args; simp_all
  obtain ⟨rfl, rfl⟩ := trodVars_none hV
  obtain ⟨cs0, rfl⟩ := okWide_agg Try.underlying31 (hval 0 31 v0 rfl rfl)
  have k0 := h0
  have lt0 : ∀ x ∈ p0, x.block < W.heap.size := by obtain ⟨m, hm⟩ := k0; exact DataW.trod_lt m _ _ _ hm
  obtain ⟨x0, hx0, ok0_⟩ : ∃ x, (Kd.pair (Kd.int .i64) (Kd.pair (Kd.slice 3 (Kd.int .i64)) (Kd.pair Kd.bool (Kd.pair Kd.bool (Kd.int .i64))))).K W x cs0.toList ∧ (okPair (okInt .i64) (okPair (okList (okInt .i64)) (okPair okAny (okPair okAny (okInt .i64))))) x := by obtain ⟨m, hm⟩ := h0; exact (opens_raw Try.underlying31 (by kernel_rfl) (List.toList_toArray) (fields_cons rfl (opens_int Try.underlying3 (by kernel_rfl)) rfl (fields_cons rfl (opens_slice Try.underlying29 (by kernel_rfl) (opens_int Try.underlying3 (by kernel_rfl))) rfl (fields_cons rfl (opens_bool Try.underlying4 (by kernel_rfl)) rfl (fields_cons rfl (opens_bool Try.underlying4 (by kernel_rfl)) rfl (fields_one rfl (opens_int Try.underlying3 (by kernel_rfl)))))))).2 H enc W m _ _ hm
  obtain ⟨A0_1, c0_1, e0, l0_1, g0_1⟩ : ∃ A0_1 c0_1, cs0.toList = [.int .i64 x0.1, .slice A0_1 x0.2.1.length c0_1, .bool x0.2.2.1, .bool x0.2.2.2.1, .int .i64 x0.2.2.2.2] ∧ x0.2.1.length ≤ c0_1 ∧ (Kd.int .i64).C W A0_1 x0.2.1.length x0.2.1 := by generalize cs0.toList = cl at hx0 ⊢; obtain ⟨_, _, rfl, rfl, ⟨_, _, rfl, ⟨A0_1, c0_1, rfl, l0_1, g0_1⟩, ⟨_, _, rfl, rfl, ⟨_, _, rfl, rfl, rfl⟩⟩⟩⟩ := hx0; exact ⟨A0_1, c0_1, rfl, l0_1, g0_1⟩
  obtain rfl := toArr e0
  clear hA0 hval0 hsz0
  obtain ⟨k, h⟩ := PureFnExactRulesOk.pure x0.1 x0.2.1 x0.2.2.1 x0.2.2.2.1 x0.2.2.2.2 ok0_.1 ok0_.2.1 ok0_.2.2.2.2
  refine (laws_FnExactRulesOk.calls k x0.1 A0_1 c0_1 x0.2.1 x0.2.2.1 x0.2.2.2.1 x0.2.2.2.2 true W g0_1 l0_1 h).mono fun e W' ⟨he, bel⟩ => ?_
  subst he
  exact ⟨_, rfl, _, _, _, [], _, [], hW', trodAll_mk1 (shut_bool Try.underlying4 _), (trodAll_cons_mk (Below.trod laidOut (by kernel_rfl) (of_decide_eq_true (by kernel_rfl)) k0 bel lt0) trodAll_mk0), rfl, bel.frame _, fun h => by cases h⟩
theorem proved : Rows.FnExactRulesOkSaid :=
  OpenClaim.holds_of_wide 4 Try.f4 rfl rfl rfl rfl rfl rfl rfl ⟨rfl, rfl, rfl, rfl, rfl⟩ rfl rfl rfl rfl rfl (by kernel_rfl) Try.func4 (by kernel_rfl)
    (of_decide_eq_true (by kernel_rfl)) (by unfold Func.isWrapper; first | (rw [if_pos (by decide +kernel)]; kernel_rfl) | (rw [if_neg (by decide +kernel)]; exact ⟨rfl, rfl⟩))
    (fun os started H enc _ => lifted os started H enc)
#print axioms proved
end Go.Proofs.Ytfeebnbookfpmaa.LawFnExactRulesOk
namespace Go.Proofs.Ytfeebnbookfpmaa
theorem fnExactRulesOk_holds : Rows.FnExactRulesOkSaid := LawFnExactRulesOk.proved
end Go.Proofs.Ytfeebnbookfpmaa

import Derived.Test.YtfeebnbookfpmaaZT
import Derived.Test.YtfeebnbookfpmaaZf34
import Derived.Test.YtfeebnbookfpmaaZf35
import Derived.Test.YtfeebnbookfpmaaZf36
import Derived.Test.YtfeebnbookfpmaaZf37
import Derived.Test.YtfeebnbookfpmaaZf38
namespace Go.Proofs.Ytfeebnbookfpmaa.F
open Go.RowKit Go.Proofs.YtfeebnbookfpmaaW.PrintWords Go.Proofs.YtfeebnbookfpmaaW.PrintLast Go.Proofs.YtfeebnbookfpmaaW.PrintMore Go.Proofs.Ytfeebnbookfpmaa.Z
attribute [local go_sem] max2_int min2_int max_two min_two max_three min_three max_four min_four
set_option linter.unusedVariables false
set_option linter.unusedSimpArgs false
set_option maxRecDepth 100000
/-! ### laws_FnExactPlanAt: function 7 -/
def laws_FnExactPlanAt.f (k : Nat) (a0 : (List S92)) (a1 : Int) : Option (Bool) := ((laws_szPlanS.f k a0 1048576).bind fun t1 => (if t1 < 0 then (some true) else ((laws_toPlanS.f k a0).bind fun t4 => ((spec_PlanAt.f k t4 a1).bind fun t7 => ((laws_toPlanS.f k a0).bind fun t9 => ((impl_PlanAt.f k t9 a1).bind fun t12 => (if t12 = t7 then ((laws_toPlanS.f k a0).bind fun t15 => ((laws_eqPlanS.f k t9 t15).bind fun t18 => (if t18 = true then (some true) else (some false)))) else (some false))))))))
set_option maxHeartbeats 2000000 in
theorem laws_FnExactPlanAt.calls {k : Nat} {a0 : (List S92)} {a1 : Int} {Ap0 : Option Addr} {np0 cp0 : Nat} {r : Bool} {w : World} (h : laws_FnExactPlanAt.f k a0 a1 = some r) (gp0 : k92.C w Ap0 np0 a0) (lp0 : np0 ≤ cp0) :
    Calls Try.prog 7 #[.slice Ap0 np0 cp0, .int .i64 a1] w (fun e w' => e = .returned (.bool r) ∧ Hp noFP w w' []) := by
 obtain rfl := C_len gp0
 have HS := Hp.start w
 have H := Aside0.mk h
 clear h
 unfold laws_FnExactPlanAt.f at H
 go_enter Try.func7, Try.ntmps7
 obtain ⟨t1, ht1, H⟩ := zbind H
 go_upto_if 13 with (first | ((with_reducible refine gate_dst (N := 11) rfl ?_); refine ev_call rfl Try.func34 (by kernel_rfl) rfl #[.slice Ap0 a0.length cp0, .int .i64 1048576] rfl (by simp only [List.map_toArray, List.map_cons, List.map_nil]; rfl) ?_; refine (laws_szPlanS.calls ht1.out (HS.ro gp0) lp0).mono ?_; rintro _ wt1 ⟨rfl, HQ⟩; refine ⟨_, rfl, ?_⟩; replace HS := HS.call HQ; clear HQ; (try clear F)))
 by_cases c3 : t1 < 0
 · replace H := zpos c3 H
   replace c3 := eq_true c3
   (try simp only [c3, decide_true, decide_false, Bool.not_true, Bool.not_false])
   obtain rfl := zsome H
   go_wp2
   go_ret
   exact ⟨rfl, HS.pick [] (by decide) (by rfl)⟩
 · replace H := zneg c3 H
   replace c3 := eq_false c3
   (try simp only [c3, decide_true, decide_false, Bool.not_true, Bool.not_false])
   obtain ⟨t4, ht4, H⟩ := zbind H
   obtain ⟨t7, ht7, H⟩ := zbind H
   obtain ⟨t9, ht9, H⟩ := zbind H
   obtain ⟨t12, ht12, H⟩ := zbind H
   go_upto_if 25 with (first | ((with_reducible refine gate_dst (N := 15) rfl ?_); refine ev_call rfl Try.func36 (by kernel_rfl) rfl #[.slice Ap0 a0.length cp0] rfl (by simp only [List.map_toArray, List.map_cons, List.map_nil]; rfl) ?_; refine (laws_toPlanS.calls ht4.out (HS.ro gp0) lp0).mono ?_; rintro _ wt4 ⟨v5, rfl, HQ⟩; refine ⟨_, rfl, ?_⟩; replace HS := HS.call HQ; clear HQ; (try clear F); obtain ⟨B5, d5, rfl, m5⟩ := HS.form 0 rfl) | ((with_reducible refine gate_dst (N := 17) rfl ?_); refine ev_call rfl Try.func35 (by kernel_rfl) rfl #[.slice B5 t4.length d5, .int .i64 a1] rfl (by simp only [List.map_toArray, List.map_cons, List.map_nil]; rfl) ?_; refine (spec_PlanAt.calls ht7.out (HS.rd 0 rfl) m5).mono ?_; rintro _ wt7 ⟨rfl, HQ⟩; refine ⟨_, rfl, ?_⟩; replace HS := HS.call HQ; clear HQ; (try clear F)) | ((with_reducible refine gate_dst (N := 19) rfl ?_); refine ev_call rfl Try.func36 (by kernel_rfl) rfl #[.slice Ap0 a0.length cp0] rfl (by simp only [List.map_toArray, List.map_cons, List.map_nil]; rfl) ?_; refine (laws_toPlanS.calls ht9.out (HS.ro gp0) lp0).mono ?_; rintro _ wt9 ⟨v10, rfl, HQ⟩; refine ⟨_, rfl, ?_⟩; replace HS := HS.call HQ; clear HQ; (try clear F); obtain ⟨B10, d10, rfl, m10⟩ := HS.form 1 rfl) | ((with_reducible refine gate_dst (N := 22) rfl ?_); refine ev_call rfl Try.func37 (by kernel_rfl) rfl #[.slice B10 t9.length d10, .int .i64 a1] rfl (by simp only [List.map_toArray, List.map_cons, List.map_nil]; rfl) ?_; refine (impl_PlanAt.calls ht12.out (HS.rd 1 rfl) m10).mono ?_; rintro _ wt12 ⟨rfl, HQ⟩; refine ⟨_, rfl, ?_⟩; replace HS := HS.call HQ; clear HQ; (try clear F)))
   by_cases c14 : t12 = t7
   · replace H := zpos c14 H
     have c14a := beq_iff_eq.mpr c14
     have c14b := bne_eq_false_iff_eq.mpr c14
     clear c14
     (try simp only [c14a, c14b, decide_true, decide_false, Bool.not_true, Bool.not_false])
     obtain ⟨t15, ht15, H⟩ := zbind H
     obtain ⟨t18, ht18, H⟩ := zbind H
     go_upto_if 30 with (first | ((with_reducible refine gate_dst (N := 28) rfl ?_); refine ev_call rfl Try.func36 (by kernel_rfl) rfl #[.slice Ap0 a0.length cp0] rfl (by simp only [List.map_toArray, List.map_cons, List.map_nil]; rfl) ?_; refine (laws_toPlanS.calls ht15.out (HS.ro gp0) lp0).mono ?_; rintro _ wt15 ⟨v16, rfl, HQ⟩; refine ⟨_, rfl, ?_⟩; replace HS := HS.call HQ; clear HQ; (try clear F); obtain ⟨B16, d16, rfl, m16⟩ := HS.form 2 rfl) | ((with_reducible refine gate_dst (N := 29) rfl ?_); refine ev_call rfl Try.func38 (by kernel_rfl) rfl #[.slice B10 t9.length d10, .slice B16 t15.length d16] rfl (by simp only [List.map_toArray, List.map_cons, List.map_nil]; rfl) ?_; refine (laws_eqPlanS.calls ht18.out (HS.rd 1 rfl) m10 (HS.rd 2 rfl) m16).mono ?_; rintro _ wt18 ⟨rfl, HQ⟩; refine ⟨_, rfl, ?_⟩; replace HS := HS.call HQ; clear HQ; (try clear F)))
     by_cases c20 : t18 = true
     · replace H := zpos c20 H
       (try simp only [c20, decide_true, decide_false, Bool.not_true, Bool.not_false])
       obtain rfl := zsome H
       go_wp2
       go_ret
       exact ⟨rfl, HS.pick [] (by decide) (by rfl)⟩
     · replace H := zneg c20 H
       replace c20 := eq_false_of_ne_true c20
       (try simp only [c20, decide_true, decide_false, Bool.not_true, Bool.not_false])
       obtain rfl := zsome H
       go_wp2
       go_ret
       exact ⟨rfl, HS.pick [] (by decide) (by rfl)⟩
   · replace H := zneg c14 H
     have c14a := beq_eq_false_iff_ne.mpr c14
     have c14b := bne_iff_ne.mpr c14
     clear c14
     (try simp only [c14a, c14b, decide_true, decide_false, Bool.not_true, Bool.not_false])
     obtain rfl := zsome H
     go_wp2
     go_ret
     exact ⟨rfl, HS.pick [] (by decide) (by rfl)⟩
end Go.Proofs.Ytfeebnbookfpmaa.F

import Derived.Test.YtfeebnbookfpmaaZT
import Derived.Test.YtfeebnbookfpmaaZf39
import Derived.Test.YtfeebnbookfpmaaZf40
import Derived.Test.YtfeebnbookfpmaaZf41
import Derived.Test.YtfeebnbookfpmaaZf42
import Derived.Test.YtfeebnbookfpmaaZf43
namespace Go.Proofs.Ytfeebnbookfpmaa.F
open Go.RowKit Go.Proofs.YtfeebnbookfpmaaW.PrintWords Go.Proofs.YtfeebnbookfpmaaW.PrintLast Go.Proofs.YtfeebnbookfpmaaW.PrintMore Go.Proofs.Ytfeebnbookfpmaa.Z
attribute [local go_sem] max2_int min2_int max_two min_two max_three min_three max_four min_four
set_option linter.unusedVariables false
set_option linter.unusedSimpArgs false
set_option maxRecDepth 100000
/-! ### laws_FnExactSameAnswers: function 8 -/
def laws_FnExactSameAnswers.f (k : Nat) (a0 : (List S126)) (a1 : (List S126)) : Option (Bool) := ((laws_szAnswerS.f k a0 1048576).bind fun t1 => (if t1 < 0 then (some true) else ((laws_szAnswerS.f k a1 t1).bind fun t4 => (if t4 < 0 then (some true) else ((laws_toAnswerS.f k a0).bind fun t7 => ((laws_toAnswerS.f k a1).bind fun t10 => ((spec_SameAnswers.f k t7 t10).bind fun t13 => ((laws_toAnswerS.f k a0).bind fun t15 => ((laws_toAnswerS.f k a1).bind fun t18 => ((impl_SameAnswers.f k t15 t18).bind fun t21 => (if t21 = t13 then ((laws_toAnswerS.f k a0).bind fun t24 => ((laws_eqAnswerS.f k t15 t24).bind fun t27 => (if t27 = true then ((laws_toAnswerS.f k a1).bind fun t30 => ((laws_eqAnswerS.f k t18 t30).bind fun t33 => (if t33 = true then (some true) else (some false)))) else (some false)))) else (some false))))))))))))
set_option maxHeartbeats 2000000 in
theorem laws_FnExactSameAnswers.calls {k : Nat} {a0 : (List S126)} {a1 : (List S126)} {Ap0 : Option Addr} {np0 cp0 : Nat} {Ap1 : Option Addr} {np1 cp1 : Nat} {r : Bool} {w : World} (h : laws_FnExactSameAnswers.f k a0 a1 = some r) (gp0 : k126.C w Ap0 np0 a0) (lp0 : np0 ≤ cp0) (gp1 : k126.C w Ap1 np1 a1) (lp1 : np1 ≤ cp1) :
    Calls Try.prog 8 #[.slice Ap0 np0 cp0, .slice Ap1 np1 cp1] w (fun e w' => e = .returned (.bool r) ∧ Hp noFP w w' []) := by
 obtain rfl := C_len gp0
 obtain rfl := C_len gp1
 have HS := Hp.start w
 have H := Aside0.mk h
 clear h
 unfold laws_FnExactSameAnswers.f at H
 go_enter Try.func8, Try.ntmps8
 obtain ⟨t1, ht1, H⟩ := zbind H
 go_upto_if 14 with (first | ((with_reducible refine gate_dst (N := 12) rfl ?_); refine ev_call rfl Try.func39 (by kernel_rfl) rfl #[.slice Ap0 a0.length cp0, .int .i64 1048576] rfl (by simp only [List.map_toArray, List.map_cons, List.map_nil]; rfl) ?_; refine (laws_szAnswerS.calls ht1.out (HS.ro gp0) lp0).mono ?_; rintro _ wt1 ⟨rfl, HQ⟩; refine ⟨_, rfl, ?_⟩; replace HS := HS.call HQ; clear HQ; (try clear F)))
 by_cases c3 : t1 < 0
 · replace H := zpos c3 H
   replace c3 := eq_true c3
   (try simp only [c3, decide_true, decide_false, Bool.not_true, Bool.not_false])
   obtain rfl := zsome H
   go_wp2
   go_ret
   exact ⟨rfl, HS.pick [] (by decide) (by rfl)⟩
 · replace H := zneg c3 H
   replace c3 := eq_false c3
   (try simp only [c3, decide_true, decide_false, Bool.not_true, Bool.not_false])
   obtain ⟨t4, ht4, H⟩ := zbind H
   go_upto_if 19 with (first | ((with_reducible refine gate_dst (N := 17) rfl ?_); refine ev_call rfl Try.func39 (by kernel_rfl) rfl #[.slice Ap1 a1.length cp1, .int .i64 t1] rfl (by simp only [List.map_toArray, List.map_cons, List.map_nil]; rfl) ?_; refine (laws_szAnswerS.calls ht4.out (HS.ro gp1) lp1).mono ?_; rintro _ wt4 ⟨rfl, HQ⟩; refine ⟨_, rfl, ?_⟩; replace HS := HS.call HQ; clear HQ; (try clear F)))
   by_cases c6 : t4 < 0
   · replace H := zpos c6 H
     replace c6 := eq_true c6
     (try simp only [c6, decide_true, decide_false, Bool.not_true, Bool.not_false])
     obtain rfl := zsome H
     go_wp2
     go_ret
     exact ⟨rfl, HS.pick [] (by decide) (by rfl)⟩
   · replace H := zneg c6 H
     replace c6 := eq_false c6
     (try simp only [c6, decide_true, decide_false, Bool.not_true, Bool.not_false])
     obtain ⟨t7, ht7, H⟩ := zbind H
     obtain ⟨t10, ht10, H⟩ := zbind H
     obtain ⟨t13, ht13, H⟩ := zbind H
     obtain ⟨t15, ht15, H⟩ := zbind H
     obtain ⟨t18, ht18, H⟩ := zbind H
     obtain ⟨t21, ht21, H⟩ := zbind H
     go_upto_if 34 with (first | ((with_reducible refine gate_dst (N := 21) rfl ?_); refine ev_call rfl Try.func41 (by kernel_rfl) rfl #[.slice Ap0 a0.length cp0] rfl (by simp only [List.map_toArray, List.map_cons, List.map_nil]; rfl) ?_; refine (laws_toAnswerS.calls ht7.out (HS.ro gp0) lp0).mono ?_; rintro _ wt7 ⟨v8, rfl, HQ⟩; refine ⟨_, rfl, ?_⟩; replace HS := HS.call HQ; clear HQ; (try clear F); obtain ⟨B8, d8, rfl, m8⟩ := HS.form 0 rfl) | ((with_reducible refine gate_dst (N := 23) rfl ?_); refine ev_call rfl Try.func41 (by kernel_rfl) rfl #[.slice Ap1 a1.length cp1] rfl (by simp only [List.map_toArray, List.map_cons, List.map_nil]; rfl) ?_; refine (laws_toAnswerS.calls ht10.out (HS.ro gp1) lp1).mono ?_; rintro _ wt10 ⟨v11, rfl, HQ⟩; refine ⟨_, rfl, ?_⟩; replace HS := HS.call HQ; clear HQ; (try clear F); obtain ⟨B11, d11, rfl, m11⟩ := HS.form 1 rfl) | ((with_reducible refine gate_dst (N := 24) rfl ?_); refine ev_call rfl Try.func40 (by kernel_rfl) rfl #[.slice B8 t7.length d8, .slice B11 t10.length d11] rfl (by simp only [List.map_toArray, List.map_cons, List.map_nil]; rfl) ?_; refine (spec_SameAnswers.calls ht13.out (HS.rd 0 rfl) m8 (HS.rd 1 rfl) m11).mono ?_; rintro _ wt13 ⟨rfl, HQ⟩; refine ⟨_, rfl, ?_⟩; replace HS := HS.call HQ; clear HQ; (try clear F)) | ((with_reducible refine gate_dst (N := 26) rfl ?_); refine ev_call rfl Try.func41 (by kernel_rfl) rfl #[.slice Ap0 a0.length cp0] rfl (by simp only [List.map_toArray, List.map_cons, List.map_nil]; rfl) ?_; refine (laws_toAnswerS.calls ht15.out (HS.ro gp0) lp0).mono ?_; rintro _ wt15 ⟨v16, rfl, HQ⟩; refine ⟨_, rfl, ?_⟩; replace HS := HS.call HQ; clear HQ; (try clear F); obtain ⟨B16, d16, rfl, m16⟩ := HS.form 2 rfl) | ((with_reducible refine gate_dst (N := 28) rfl ?_); refine ev_call rfl Try.func41 (by kernel_rfl) rfl #[.slice Ap1 a1.length cp1] rfl (by simp only [List.map_toArray, List.map_cons, List.map_nil]; rfl) ?_; refine (laws_toAnswerS.calls ht18.out (HS.ro gp1) lp1).mono ?_; rintro _ wt18 ⟨v19, rfl, HQ⟩; refine ⟨_, rfl, ?_⟩; replace HS := HS.call HQ; clear HQ; (try clear F); obtain ⟨B19, d19, rfl, m19⟩ := HS.form 3 rfl) | ((with_reducible refine gate_dst (N := 31) rfl ?_); refine ev_call rfl Try.func42 (by kernel_rfl) rfl #[.slice B16 t15.length d16, .slice B19 t18.length d19] rfl (by simp only [List.map_toArray, List.map_cons, List.map_nil]; rfl) ?_; refine (impl_SameAnswers.calls ht21.out (HS.rd 2 rfl) m16 (HS.rd 3 rfl) m19).mono ?_; rintro _ wt21 ⟨rfl, HQ⟩; refine ⟨_, rfl, ?_⟩; replace HS := HS.call HQ; clear HQ; (try clear F)))
     by_cases c23 : t21 = t13
     · replace H := zpos c23 H
       have c23a := beq_iff_eq.mpr c23
       have c23b := bne_eq_false_iff_eq.mpr c23
       clear c23
       (try simp only [c23a, c23b, decide_true, decide_false, Bool.not_true, Bool.not_false])
       obtain ⟨t24, ht24, H⟩ := zbind H
       obtain ⟨t27, ht27, H⟩ := zbind H
       go_upto_if 39 with (first | ((with_reducible refine gate_dst (N := 37) rfl ?_); refine ev_call rfl Try.func41 (by kernel_rfl) rfl #[.slice Ap0 a0.length cp0] rfl (by simp only [List.map_toArray, List.map_cons, List.map_nil]; rfl) ?_; refine (laws_toAnswerS.calls ht24.out (HS.ro gp0) lp0).mono ?_; rintro _ wt24 ⟨v25, rfl, HQ⟩; refine ⟨_, rfl, ?_⟩; replace HS := HS.call HQ; clear HQ; (try clear F); obtain ⟨B25, d25, rfl, m25⟩ := HS.form 4 rfl) | ((with_reducible refine gate_dst (N := 38) rfl ?_); refine ev_call rfl Try.func43 (by kernel_rfl) rfl #[.slice B16 t15.length d16, .slice B25 t24.length d25] rfl (by simp only [List.map_toArray, List.map_cons, List.map_nil]; rfl) ?_; refine (laws_eqAnswerS.calls ht27.out (HS.rd 2 rfl) m16 (HS.rd 4 rfl) m25).mono ?_; rintro _ wt27 ⟨rfl, HQ⟩; refine ⟨_, rfl, ?_⟩; replace HS := HS.call HQ; clear HQ; (try clear F)))
       by_cases c29 : t27 = true
       · replace H := zpos c29 H
         (try simp only [c29, decide_true, decide_false, Bool.not_true, Bool.not_false])
         obtain ⟨t30, ht30, H⟩ := zbind H
         obtain ⟨t33, ht33, H⟩ := zbind H
         go_upto_if 44 with (first | ((with_reducible refine gate_dst (N := 42) rfl ?_); refine ev_call rfl Try.func41 (by kernel_rfl) rfl #[.slice Ap1 a1.length cp1] rfl (by simp only [List.map_toArray, List.map_cons, List.map_nil]; rfl) ?_; refine (laws_toAnswerS.calls ht30.out (HS.ro gp1) lp1).mono ?_; rintro _ wt30 ⟨v31, rfl, HQ⟩; refine ⟨_, rfl, ?_⟩; replace HS := HS.call HQ; clear HQ; (try clear F); obtain ⟨B31, d31, rfl, m31⟩ := HS.form 5 rfl) | ((with_reducible refine gate_dst (N := 43) rfl ?_); refine ev_call rfl Try.func43 (by kernel_rfl) rfl #[.slice B19 t18.length d19, .slice B31 t30.length d31] rfl (by simp only [List.map_toArray, List.map_cons, List.map_nil]; rfl) ?_; refine (laws_eqAnswerS.calls ht33.out (HS.rd 3 rfl) m19 (HS.rd 5 rfl) m31).mono ?_; rintro _ wt33 ⟨rfl, HQ⟩; refine ⟨_, rfl, ?_⟩; replace HS := HS.call HQ; clear HQ; (try clear F)))
         by_cases c35 : t33 = true
         · replace H := zpos c35 H
           (try simp only [c35, decide_true, decide_false, Bool.not_true, Bool.not_false])
           obtain rfl := zsome H
           go_wp2
           go_ret
           exact ⟨rfl, HS.pick [] (by decide) (by rfl)⟩
         · replace H := zneg c35 H
           replace c35 := eq_false_of_ne_true c35
           (try simp only [c35, decide_true, decide_false, Bool.not_true, Bool.not_false])
           obtain rfl := zsome H
           go_wp2
           go_ret
           exact ⟨rfl, HS.pick [] (by decide) (by rfl)⟩
       · replace H := zneg c29 H
         replace c29 := eq_false_of_ne_true c29
         (try simp only [c29, decide_true, decide_false, Bool.not_true, Bool.not_false])
         obtain rfl := zsome H
         go_wp2
         go_ret
         exact ⟨rfl, HS.pick [] (by decide) (by rfl)⟩
     · replace H := zneg c23 H
       have c23a := beq_eq_false_iff_ne.mpr c23
       have c23b := bne_iff_ne.mpr c23
       clear c23
       (try simp only [c23a, c23b, decide_true, decide_false, Bool.not_true, Bool.not_false])
       obtain rfl := zsome H
       go_wp2
       go_ret
       exact ⟨rfl, HS.pick [] (by decide) (by rfl)⟩
end Go.Proofs.Ytfeebnbookfpmaa.F

import Derived.Test.YtfeebnbookfpmaaZT
import Derived.Test.YtfeebnbookfpmaaZf33
import Derived.Test.YtfeebnbookfpmaaZf49
import Derived.Test.YtfeebnbookfpmaaZf50
import Derived.Test.YtfeebnbookfpmaaZf51
import Derived.Test.YtfeebnbookfpmaaZf52
import Derived.Test.YtfeebnbookfpmaaZf53
import Derived.Test.YtfeebnbookfpmaaZf54
import Derived.Test.YtfeebnbookfpmaaZf55
import Derived.Test.YtfeebnbookfpmaaZf56
namespace Go.Proofs.Ytfeebnbookfpmaa.F
open Go.RowKit Go.Proofs.YtfeebnbookfpmaaW.PrintWords Go.Proofs.YtfeebnbookfpmaaW.PrintLast Go.Proofs.YtfeebnbookfpmaaW.PrintMore Go.Proofs.Ytfeebnbookfpmaa.Z
attribute [local go_sem] max2_int min2_int max_two min_two max_three min_three max_four min_four
set_option linter.unusedVariables false
set_option linter.unusedSimpArgs false
set_option maxRecDepth 100000
/-! ### laws_FnExactWholeOf: function 10 -/
def laws_FnExactWholeOf.f (k : Nat) (a0 : (List S49)) : Option (Bool) := ((laws_szCrlS.f k a0 1048576).bind fun t1 => (if t1 < 0 then (some true) else ((laws_toCrlS.f k a0).bind fun t4 => ((spec_WholeOf.f k t4).bind fun t7 => ((laws_toCrlS.f k a0).bind fun t14 => ((impl_WholeOf.f k t14).bind fun t17 => ((laws_eqCrl.f k t17.1 t7.1).bind fun t24 => (if t24 = true then (if t17.2 = t7.2 then ((laws_toCrlS.f k a0).bind fun t28 => ((laws_eqCrlS.f k t14 t28).bind fun t31 => (if t31 = true then ((laws_markCrlS.f k t14 1).bind fun t34 => (if t34.1 < 0 then (some false) else ((laws_eqCrl.f k t17.1 t7.1).bind fun t37 => (if t37 = true then ((laws_markCrl.f k t17.1 1).bind fun t40 => ((laws_heldCrl.f k (⟨t17.1.f0, t17.1.f1, t17.1.f2, t17.1.f3, t17.1.f4, t40.2, t17.1.f6⟩ : S54) 1).bind fun t42 => (if t42 < 0 then (some false) else (if t42 = t40.1 then ((laws_toCrlS.f k a0).bind fun t46 => ((impl_WholeOf.f k t46).bind fun t49 => ((laws_eqCrl.f k t49.1 t7.1).bind fun t56 => (if t56 = true then (if t49.2 = t7.2 then ((laws_heldCrl.f k (⟨t17.1.f0, t17.1.f1, t17.1.f2, t17.1.f3, t17.1.f4, t40.2, t17.1.f6⟩ : S54) 1).bind fun t60 => (if t60 < 0 then (some false) else (if t60 = t40.1 then (some true) else (some false)))) else (some false)) else (some false))))) else (some false))))) else (some false))))) else (some false)))) else (some false)) else (some false)))))))))
set_option maxHeartbeats 16000000 in
theorem laws_FnExactWholeOf.calls {k : Nat} {a0 : (List S49)} {Ap0 : Option Addr} {np0 cp0 : Nat} {r : Bool} {w : World} (h : laws_FnExactWholeOf.f k a0 = some r) (gp0 : k49.C w Ap0 np0 a0) (lp0 : np0 ≤ cp0) :
    Calls Try.prog 10 #[.slice Ap0 np0 cp0] w (fun e w' => e = .returned (.bool r) ∧ Hp noFP w w' []) := by
 obtain rfl := C_len gp0
 have HS := Hp.start w
 have H := Aside0.mk h
 clear h
 unfold laws_FnExactWholeOf.f at H
 go_enter Try.func10, Try.ntmps10
 obtain ⟨t1, ht1, H⟩ := zbind H
 go_upto_if 18 with (first | ((with_reducible refine gate_dst (N := 16) rfl ?_); refine ev_call rfl Try.func49 (by kernel_rfl) rfl #[.slice Ap0 a0.length cp0, .int .i64 1048576] rfl (by simp only [List.map_toArray, List.map_cons, List.map_nil]; rfl) ?_; refine (laws_szCrlS.calls ht1.out (HS.ro gp0) lp0).mono ?_; rintro _ wt1 ⟨rfl, HQ⟩; refine ⟨_, rfl, ?_⟩; replace HS := HS.call HQ; clear HQ; (try clear F)))
 by_cases c3 : t1 < 0
 · replace H := zpos c3 H
   replace c3 := eq_true c3
   (try simp only [c3, decide_true, decide_false, Bool.not_true, Bool.not_false])
   obtain rfl := zsome H
   go_wp2
   go_ret
   exact ⟨rfl, HS.pick [] (by decide) (by rfl)⟩
 · replace H := zneg c3 H
   replace c3 := eq_false c3
   (try simp only [c3, decide_true, decide_false, Bool.not_true, Bool.not_false])
   obtain ⟨t4, ht4, H⟩ := zbind H
   obtain ⟨t7, ht7, H⟩ := zbind H
   obtain ⟨t14, ht14, H⟩ := zbind H
   obtain ⟨t17, ht17, H⟩ := zbind H
   obtain ⟨t24, ht24, H⟩ := zbind H
   by_cases c26 : t24 = true
   · replace H := zpos c26 H
     go_upto_if 40 with (first | ((with_reducible refine gate_dst (N := 21) rfl ?_); refine ev_call rfl Try.func51 (by kernel_rfl) rfl #[.slice Ap0 a0.length cp0] rfl (by simp only [List.map_toArray, List.map_cons, List.map_nil]; rfl) ?_; refine (laws_toCrlS.calls ht4.out (HS.ro gp0) lp0).mono ?_; rintro _ wt4 ⟨v5, rfl, HQ⟩; refine ⟨_, rfl, ?_⟩; replace HS := HS.call HQ; clear HQ; (try clear F); obtain ⟨B5, d5, rfl, m5⟩ := HS.form 0 rfl) | ((with_reducible refine gate_dst (N := 22) rfl ?_); refine ev_call rfl Try.func50 (by kernel_rfl) rfl #[.slice B5 t4.length d5] rfl (by simp only [List.map_toArray, List.map_cons, List.map_nil]; rfl) ?_; refine (spec_WholeOf.calls ht7.out (HS.rd 0 rfl) m5).mono ?_; rintro _ wt7 ⟨v8, rfl, HQ⟩; refine ⟨_, rfl, ?_⟩; replace HS := HS.call HQ; clear HQ; (try clear F); obtain ⟨B8, d8, rfl, m8⟩ := HS.form 1 rfl) | ((with_reducible refine gate_dst (N := 4) rfl ?_); refine ev_box rfl HS (by first | (go_simp; done) | (go_simp; rfl)) rfl ?_; clear HS; (try clear F); intro g4 w4 HS; have F := HS.boxes; simp only [boxFacts, wrt, clr0, clr1, List.cons_append, List.nil_append, List.append_nil, List.set_cons_zero, List.set_cons_succ, and_true] at F) | ((with_reducible refine gate_store (p := 4) rfl ?_); refine ev_store rfl 2 0 HS (seg := [.string t7.1.f0, .int .i64 t7.1.f1, .int .i64 t7.1.f2, .int .i64 t7.1.f3, .int .i64 t7.1.f4, .slice B8 t7.1.f5.length d8, .string t7.1.f6]) rfl rfl rfl rfl rfl rfl (by kernel_rfl) (by simp [wrt]) (by simp [Value.oneCell']) ?_; clear HS; (try clear F); intro w12 HS; have F := HS.boxes; simp only [boxFacts, wrt, clr0, clr1, List.cons_append, List.nil_append, List.append_nil, List.set_cons_zero, List.set_cons_succ, and_true] at F) | ((with_reducible refine gate_dst (N := 26) rfl ?_); refine ev_call rfl Try.func51 (by kernel_rfl) rfl #[.slice Ap0 a0.length cp0] rfl (by simp only [List.map_toArray, List.map_cons, List.map_nil]; rfl) ?_; refine (laws_toCrlS.calls ht14.out (HS.ro gp0) lp0).mono ?_; rintro _ wt14 ⟨v15, rfl, HQ⟩; refine ⟨_, rfl, ?_⟩; replace HS := HS.call HQ; clear HQ; (try clear F); obtain ⟨B15, d15, rfl, m15⟩ := HS.form 3 rfl; have F := HS.boxes; simp only [boxFacts, wrt, clr0, clr1, List.cons_append, List.nil_append, List.append_nil, List.set_cons_zero, List.set_cons_succ, and_true] at F) | ((with_reducible refine gate_dst (N := 29) rfl ?_); refine ev_call rfl Try.func52 (by kernel_rfl) rfl #[.slice B15 t14.length d15] rfl (by simp only [List.map_toArray, List.map_cons, List.map_nil]; rfl) ?_; refine (impl_WholeOf.calls ht17.out (HS.rd 3 rfl) m15).mono ?_; rintro _ wt17 ⟨v18, rfl, HQ⟩; refine ⟨_, rfl, ?_⟩; replace HS := HS.call HQ; clear HQ; (try clear F); obtain ⟨B18, d18, rfl, m18⟩ := HS.form 4 rfl; have F := HS.boxes; simp only [boxFacts, wrt, clr0, clr1, List.cons_append, List.nil_append, List.append_nil, List.set_cons_zero, List.set_cons_succ, and_true] at F) | ((with_reducible refine gate_dst (N := 7) rfl ?_); refine ev_box rfl HS (by first | (go_simp; done) | (go_simp; rfl)) rfl ?_; clear HS; (try clear F); intro g7 w7 HS; have F := HS.boxes; simp only [boxFacts, wrt, clr0, clr1, List.cons_append, List.nil_append, List.append_nil, List.set_cons_zero, List.set_cons_succ, and_true] at F) | ((with_reducible refine gate_store (p := 7) rfl ?_); refine ev_store rfl 5 0 HS (seg := [.string t17.1.f0, .int .i64 t17.1.f1, .int .i64 t17.1.f2, .int .i64 t17.1.f3, .int .i64 t17.1.f4, .slice B18 t17.1.f5.length d18, .string t17.1.f6]) rfl rfl rfl rfl rfl rfl (by kernel_rfl) (by simp [wrt]) (by simp [Value.oneCell']) ?_; clear HS; (try clear F); intro w22 HS; have F := HS.boxes; simp only [boxFacts, wrt, clr0, clr1, List.cons_append, List.nil_append, List.append_nil, List.set_cons_zero, List.set_cons_succ, and_true] at F) | ((with_reducible refine gate_dst (N := 34) rfl ?_); refine ev_call rfl Try.func33 (by kernel_rfl) rfl #[.agg #[.string t17.1.f0, .int .i64 t17.1.f1, .int .i64 t17.1.f2, .int .i64 t17.1.f3, .int .i64 t17.1.f4, .slice B18 t17.1.f5.length d18, .string t17.1.f6], .agg #[.string t7.1.f0, .int .i64 t7.1.f1, .int .i64 t7.1.f2, .int .i64 t7.1.f3, .int .i64 t7.1.f4, .slice B8 t7.1.f5.length d8, .string t7.1.f6]] rfl (by simp only [List.map_toArray, List.map_cons, List.map_nil]; rfl) ?_; refine (laws_eqCrl.calls ht24.out (HS.rd 4 rfl) m18 (HS.rd 1 rfl) m8).mono ?_; rintro _ wt24 ⟨rfl, HQ⟩; refine ⟨_, rfl, ?_⟩; replace HS := HS.call HQ; clear HQ; (try clear F); have F := HS.boxes; simp only [boxFacts, wrt, clr0, clr1, List.cons_append, List.nil_append, List.append_nil, List.set_cons_zero, List.set_cons_succ, and_true] at F; (try simp only [c26])))
     by_cases c27 : t17.2 = t7.2
     · replace H := zpos c27 H
       have c27a := beq_iff_eq.mpr c27
       have c27b := bne_eq_false_iff_eq.mpr c27
       clear c27
       (try simp only [c27a, c27b, decide_true, decide_false, Bool.not_true, Bool.not_false])
       obtain ⟨t28, ht28, H⟩ := zbind H
       obtain ⟨t31, ht31, H⟩ := zbind H
       go_upto_if 45 with (first | ((with_reducible refine gate_dst (N := 43) rfl ?_); refine ev_call rfl Try.func51 (by kernel_rfl) rfl #[.slice Ap0 a0.length cp0] rfl (by simp only [List.map_toArray, List.map_cons, List.map_nil]; rfl) ?_; refine (laws_toCrlS.calls ht28.out (HS.ro gp0) lp0).mono ?_; rintro _ wt28 ⟨v29, rfl, HQ⟩; refine ⟨_, rfl, ?_⟩; replace HS := HS.call HQ; clear HQ; (try clear F); obtain ⟨B29, d29, rfl, m29⟩ := HS.form 6 rfl; have F := HS.boxes; simp only [boxFacts, wrt, clr0, clr1, List.cons_append, List.nil_append, List.append_nil, List.set_cons_zero, List.set_cons_succ, and_true] at F) | ((with_reducible refine gate_dst (N := 44) rfl ?_); refine ev_call rfl Try.func53 (by kernel_rfl) rfl #[.slice B15 t14.length d15, .slice B29 t28.length d29] rfl (by simp only [List.map_toArray, List.map_cons, List.map_nil]; rfl) ?_; refine (laws_eqCrlS.calls ht31.out (HS.rd 3 rfl) m15 (HS.rd 6 rfl) m29).mono ?_; rintro _ wt31 ⟨rfl, HQ⟩; refine ⟨_, rfl, ?_⟩; replace HS := HS.call HQ; clear HQ; (try clear F); have F := HS.boxes; simp only [boxFacts, wrt, clr0, clr1, List.cons_append, List.nil_append, List.append_nil, List.set_cons_zero, List.set_cons_succ, and_true] at F))
       by_cases c33 : t31 = true
       · replace H := zpos c33 H
         (try simp only [c33, decide_true, decide_false, Bool.not_true, Bool.not_false])
         obtain ⟨t34, ht34, H⟩ := zbind H
         by_cases c36 : t34.1 < 0
         · replace H := zpos c36 H
           replace c36 := eq_true c36
           obtain rfl := zsome H
           go_wp2_with (first | ((with_reducible refine gate_dst (N := 48) rfl ?_); refine HS.lend [3] (by decide) [.own (Zd.slice 54 q54) t14 [.slice B15 t14.length d15]] rfl (fun A' HA HB => ?_); refine ev_call rfl Try.func54 (by kernel_rfl) rfl #[.slice B15 t14.length d15, .int .i64 1] rfl (by simp only [List.map_toArray, List.map_cons, List.map_nil]; rfl) ?_; refine (laws_markCrlS.calls ht34.out HA).mono ?_; rintro _ wt34 ⟨rfl, HQ⟩; refine ⟨_, rfl, ?_⟩; replace HS : Hp noFP w _ [.own (Zd.slice 54 q54) t4 [.slice B5 t4.length d5], .own (Zd.slice 119 q119) t7.1.f5 [.slice B8 t7.1.f5.length d8], .box g4 [.string t7.1.f0, .int .i64 t7.1.f1, .int .i64 t7.1.f2, .int .i64 t7.1.f3, .int .i64 t7.1.f4, .slice B8 t7.1.f5.length d8, .string t7.1.f6] 54, .own (Zd.slice 54 q54) t34.2 [.slice B15 t14.length d15], .own (Zd.slice 119 q119) t17.1.f5 [.slice B18 t17.1.f5.length d18], .box g7 [.string t17.1.f0, .int .i64 t17.1.f1, .int .i64 t17.1.f2, .int .i64 t17.1.f3, .int .i64 t17.1.f4, .slice B18 t17.1.f5.length d18, .string t17.1.f6] 54, .own (Zd.slice 54 q54) t28 [.slice B29 t28.length d29]] := HB _ _ HQ (Nat.le_of_ble_eq_true rfl); clear HQ HA HB; (try clear F); have F := HS.boxes; simp only [boxFacts, wrt, clr0, clr1, List.cons_append, List.nil_append, List.append_nil, List.set_cons_zero, List.set_cons_succ, and_true] at F))
           go_ret
           exact ⟨rfl, HS.pick [] (by decide) (by rfl)⟩
         · replace H := zneg c36 H
           replace c36 := eq_false c36
           obtain ⟨t37, ht37, H⟩ := zbind H
           by_cases c39 : t37 = true
           · replace H := zpos c39 H
             obtain ⟨t40, ht40, H⟩ := zbind H
             obtain ⟨t42, ht42, H⟩ := zbind H
             go_upto_if 69 with (first | ((with_reducible refine gate_dst (N := 48) rfl ?_); refine HS.lend [3] (by decide) [.own (Zd.slice 54 q54) t14 [.slice B15 t14.length d15]] rfl (fun A' HA HB => ?_); refine ev_call rfl Try.func54 (by kernel_rfl) rfl #[.slice B15 t14.length d15, .int .i64 1] rfl (by simp only [List.map_toArray, List.map_cons, List.map_nil]; rfl) ?_; refine (laws_markCrlS.calls ht34.out HA).mono ?_; rintro _ wt34 ⟨rfl, HQ⟩; refine ⟨_, rfl, ?_⟩; replace HS : Hp noFP w _ [.own (Zd.slice 54 q54) t4 [.slice B5 t4.length d5], .own (Zd.slice 119 q119) t7.1.f5 [.slice B8 t7.1.f5.length d8], .box g4 [.string t7.1.f0, .int .i64 t7.1.f1, .int .i64 t7.1.f2, .int .i64 t7.1.f3, .int .i64 t7.1.f4, .slice B8 t7.1.f5.length d8, .string t7.1.f6] 54, .own (Zd.slice 54 q54) t34.2 [.slice B15 t14.length d15], .own (Zd.slice 119 q119) t17.1.f5 [.slice B18 t17.1.f5.length d18], .box g7 [.string t17.1.f0, .int .i64 t17.1.f1, .int .i64 t17.1.f2, .int .i64 t17.1.f3, .int .i64 t17.1.f4, .slice B18 t17.1.f5.length d18, .string t17.1.f6] 54, .own (Zd.slice 54 q54) t28 [.slice B29 t28.length d29]] := HB _ _ HQ (Nat.le_of_ble_eq_true rfl); clear HQ HA HB; (try clear F); have F := HS.boxes; simp only [boxFacts, wrt, clr0, clr1, List.cons_append, List.nil_append, List.append_nil, List.set_cons_zero, List.set_cons_succ, and_true] at F) | ((with_reducible refine gate_dst (N := 54) rfl ?_); refine gate_guard (by rfl) ?_; refine ev_call rfl Try.func33 (by kernel_rfl) rfl #[.agg #[.string t17.1.f0, .int .i64 t17.1.f1, .int .i64 t17.1.f2, .int .i64 t17.1.f3, .int .i64 t17.1.f4, .slice B18 t17.1.f5.length d18, .string t17.1.f6], .agg #[.string t7.1.f0, .int .i64 t7.1.f1, .int .i64 t7.1.f2, .int .i64 t7.1.f3, .int .i64 t7.1.f4, .slice B8 t7.1.f5.length d8, .string t7.1.f6]] rfl (by simp only [List.map_toArray, List.map_cons, List.map_nil]; rfl) ?_; refine (laws_eqCrl.calls ht37.out (HS.rd 4 rfl) m18 (HS.rd 1 rfl) m8).mono ?_; rintro _ wt37 ⟨rfl, HQ⟩; refine ⟨_, rfl, ?_⟩; replace HS := HS.call HQ; clear HQ; (try clear F); have F := HS.boxes; simp only [boxFacts, wrt, clr0, clr1, List.cons_append, List.nil_append, List.append_nil, List.set_cons_zero, List.set_cons_succ, and_true] at F; (try simp only [c39])) | ((with_reducible refine gate_dst (N := 64) rfl ?_); refine HS.lend [4] (by decide) [.own (Zd.slice 119 q119) t17.1.f5 [.slice B18 t17.1.f5.length d18]] rfl (fun A' HA HB => ?_); refine ev_call rfl Try.func55 (by kernel_rfl) rfl #[.agg #[.string t17.1.f0, .int .i64 t17.1.f1, .int .i64 t17.1.f2, .int .i64 t17.1.f3, .int .i64 t17.1.f4, .slice B18 t17.1.f5.length d18, .string t17.1.f6], .int .i64 1] rfl (by simp only [List.map_toArray, List.map_cons, List.map_nil]; rfl) ?_; refine (laws_markCrl.calls ht40.out HA).mono ?_; rintro _ wt40 ⟨rfl, HQ⟩; refine ⟨_, rfl, ?_⟩; replace HS : Hp noFP w _ [.own (Zd.slice 54 q54) t4 [.slice B5 t4.length d5], .own (Zd.slice 119 q119) t7.1.f5 [.slice B8 t7.1.f5.length d8], .box g4 [.string t7.1.f0, .int .i64 t7.1.f1, .int .i64 t7.1.f2, .int .i64 t7.1.f3, .int .i64 t7.1.f4, .slice B8 t7.1.f5.length d8, .string t7.1.f6] 54, .own (Zd.slice 54 q54) t34.2 [.slice B15 t14.length d15], .own (Zd.slice 119 q119) t40.2 [.slice B18 t17.1.f5.length d18], .box g7 [.string t17.1.f0, .int .i64 t17.1.f1, .int .i64 t17.1.f2, .int .i64 t17.1.f3, .int .i64 t17.1.f4, .slice B18 t17.1.f5.length d18, .string t17.1.f6] 54, .own (Zd.slice 54 q54) t28 [.slice B29 t28.length d29]] := HB _ _ HQ (Nat.le_of_ble_eq_true rfl); clear HQ HA HB; (try clear F); have F := HS.boxes; simp only [boxFacts, wrt, clr0, clr1, List.cons_append, List.nil_append, List.append_nil, List.set_cons_zero, List.set_cons_succ, and_true] at F) | ((with_reducible refine gate_dst (N := 67) rfl ?_); refine ev_call rfl Try.func56 (by kernel_rfl) rfl #[.agg #[.string t17.1.f0, .int .i64 t17.1.f1, .int .i64 t17.1.f2, .int .i64 t17.1.f3, .int .i64 t17.1.f4, .slice B18 t17.1.f5.length d18, .string t17.1.f6], .int .i64 1] rfl (by simp only [List.map_toArray, List.map_cons, List.map_nil]; rfl) ?_; refine (laws_heldCrl.calls ht42.out (HS.rd 4 rfl) m18).mono ?_; rintro _ wt42 ⟨rfl, HQ⟩; refine ⟨_, rfl, ?_⟩; replace HS := HS.call HQ; clear HQ; (try clear F); have F := HS.boxes; simp only [boxFacts, wrt, clr0, clr1, List.cons_append, List.nil_append, List.append_nil, List.set_cons_zero, List.set_cons_succ, and_true] at F))
             by_cases c44 : t42 < 0
             · replace H := zpos c44 H
               replace c44 := eq_true c44
               (try simp only [c44, decide_true, decide_false, Bool.not_true, Bool.not_false])
               obtain rfl := zsome H
               go_wp2
               go_ret
               exact ⟨rfl, HS.pick [] (by decide) (by rfl)⟩
             · replace H := zneg c44 H
               replace c44 := eq_false c44
               (try simp only [c44, decide_true, decide_false, Bool.not_true, Bool.not_false])
               by_cases c45 : t42 = t40.1
               · replace H := zpos c45 H
                 have c45a := beq_iff_eq.mpr c45
                 have c45b := bne_eq_false_iff_eq.mpr c45
                 clear c45
                 obtain ⟨t46, ht46, H⟩ := zbind H
                 obtain ⟨t49, ht49, H⟩ := zbind H
                 obtain ⟨t56, ht56, H⟩ := zbind H
                 by_cases c58 : t56 = true
                 · replace H := zpos c58 H
                   go_upto_if 87 with (first | ((with_reducible refine gate_dst (N := 75) rfl ?_); refine ev_call rfl Try.func51 (by kernel_rfl) rfl #[.slice Ap0 a0.length cp0] rfl (by simp only [List.map_toArray, List.map_cons, List.map_nil]; rfl) ?_; refine (laws_toCrlS.calls ht46.out (HS.ro gp0) lp0).mono ?_; rintro _ wt46 ⟨v47, rfl, HQ⟩; refine ⟨_, rfl, ?_⟩; replace HS := HS.call HQ; clear HQ; (try clear F); obtain ⟨B47, d47, rfl, m47⟩ := HS.form 7 rfl; have F := HS.boxes; simp only [boxFacts, wrt, clr0, clr1, List.cons_append, List.nil_append, List.append_nil, List.set_cons_zero, List.set_cons_succ, and_true] at F) | ((with_reducible refine gate_dst (N := 76) rfl ?_); refine ev_call rfl Try.func52 (by kernel_rfl) rfl #[.slice B47 t46.length d47] rfl (by simp only [List.map_toArray, List.map_cons, List.map_nil]; rfl) ?_; refine (impl_WholeOf.calls ht49.out (HS.rd 7 rfl) m47).mono ?_; rintro _ wt49 ⟨v50, rfl, HQ⟩; refine ⟨_, rfl, ?_⟩; replace HS := HS.call HQ; clear HQ; (try clear F); obtain ⟨B50, d50, rfl, m50⟩ := HS.form 8 rfl; have F := HS.boxes; simp only [boxFacts, wrt, clr0, clr1, List.cons_append, List.nil_append, List.append_nil, List.set_cons_zero, List.set_cons_succ, and_true] at F) | ((with_reducible refine gate_dst (N := 12) rfl ?_); refine ev_box rfl HS (by first | (go_simp; done) | (go_simp; rfl)) rfl ?_; clear HS; (try clear F); intro g12 w12 HS; have F := HS.boxes; simp only [boxFacts, wrt, clr0, clr1, List.cons_append, List.nil_append, List.append_nil, List.set_cons_zero, List.set_cons_succ, and_true] at F) | ((with_reducible refine gate_store (p := 12) rfl ?_); refine ev_store rfl 9 0 HS (seg := [.string t49.1.f0, .int .i64 t49.1.f1, .int .i64 t49.1.f2, .int .i64 t49.1.f3, .int .i64 t49.1.f4, .slice B50 t49.1.f5.length d50, .string t49.1.f6]) rfl rfl rfl rfl rfl rfl (by kernel_rfl) (by simp [wrt]) (by simp [Value.oneCell']) ?_; clear HS; (try clear F); intro w54 HS; have F := HS.boxes; simp only [boxFacts, wrt, clr0, clr1, List.cons_append, List.nil_append, List.append_nil, List.set_cons_zero, List.set_cons_succ, and_true] at F) | ((with_reducible refine gate_dst (N := 81) rfl ?_); refine ev_call rfl Try.func33 (by kernel_rfl) rfl #[.agg #[.string t49.1.f0, .int .i64 t49.1.f1, .int .i64 t49.1.f2, .int .i64 t49.1.f3, .int .i64 t49.1.f4, .slice B50 t49.1.f5.length d50, .string t49.1.f6], .agg #[.string t7.1.f0, .int .i64 t7.1.f1, .int .i64 t7.1.f2, .int .i64 t7.1.f3, .int .i64 t7.1.f4, .slice B8 t7.1.f5.length d8, .string t7.1.f6]] rfl (by simp only [List.map_toArray, List.map_cons, List.map_nil]; rfl) ?_; refine (laws_eqCrl.calls ht56.out (HS.rd 8 rfl) m50 (HS.rd 1 rfl) m8).mono ?_; rintro _ wt56 ⟨rfl, HQ⟩; refine ⟨_, rfl, ?_⟩; replace HS := HS.call HQ; clear HQ; (try clear F); have F := HS.boxes; simp only [boxFacts, wrt, clr0, clr1, List.cons_append, List.nil_append, List.append_nil, List.set_cons_zero, List.set_cons_succ, and_true] at F; (try simp only [c58])))
                   by_cases c59 : t49.2 = t7.2
                   · replace H := zpos c59 H
                     have c59a := beq_iff_eq.mpr c59
                     have c59b := bne_eq_false_iff_eq.mpr c59
                     clear c59
                     (try simp only [c59a, c59b, decide_true, decide_false, Bool.not_true, Bool.not_false])
                     obtain ⟨t60, ht60, H⟩ := zbind H
                     go_upto_if 92 with (first | ((with_reducible refine gate_dst (N := 90) rfl ?_); refine ev_call rfl Try.func56 (by kernel_rfl) rfl #[.agg #[.string t17.1.f0, .int .i64 t17.1.f1, .int .i64 t17.1.f2, .int .i64 t17.1.f3, .int .i64 t17.1.f4, .slice B18 t17.1.f5.length d18, .string t17.1.f6], .int .i64 1] rfl (by simp only [List.map_toArray, List.map_cons, List.map_nil]; rfl) ?_; refine (laws_heldCrl.calls ht60.out (HS.rd 4 rfl) m18).mono ?_; rintro _ wt60 ⟨rfl, HQ⟩; refine ⟨_, rfl, ?_⟩; replace HS := HS.call HQ; clear HQ; (try clear F); have F := HS.boxes; simp only [boxFacts, wrt, clr0, clr1, List.cons_append, List.nil_append, List.append_nil, List.set_cons_zero, List.set_cons_succ, and_true] at F))
                     by_cases c62 : t60 < 0
                     · replace H := zpos c62 H
                       replace c62 := eq_true c62
                       (try simp only [c62, decide_true, decide_false, Bool.not_true, Bool.not_false])
                       obtain rfl := zsome H
                       go_wp2
                       go_ret
                       exact ⟨rfl, HS.pick [] (by decide) (by rfl)⟩
                     · replace H := zneg c62 H
                       replace c62 := eq_false c62
                       (try simp only [c62, decide_true, decide_false, Bool.not_true, Bool.not_false])
                       by_cases c63 : t60 = t40.1
                       · replace H := zpos c63 H
                         have c63a := beq_iff_eq.mpr c63
                         have c63b := bne_eq_false_iff_eq.mpr c63
                         clear c63
                         obtain rfl := zsome H
                         go_wp2
                         go_ret
                         exact ⟨rfl, HS.pick [] (by decide) (by rfl)⟩
                       · replace H := zneg c63 H
                         have c63a := beq_eq_false_iff_ne.mpr c63
                         have c63b := bne_iff_ne.mpr c63
                         clear c63
                         obtain rfl := zsome H
                         go_wp2
                         go_ret
                         exact ⟨rfl, HS.pick [] (by decide) (by rfl)⟩
                   · replace H := zneg c59 H
                     have c59a := beq_eq_false_iff_ne.mpr c59
                     have c59b := bne_iff_ne.mpr c59
                     clear c59
                     (try simp only [c59a, c59b, decide_true, decide_false, Bool.not_true, Bool.not_false])
                     obtain rfl := zsome H
                     go_wp2
                     go_ret
                     exact ⟨rfl, HS.pick [] (by decide) (by rfl)⟩
                 · replace H := zneg c58 H
                   replace c58 := eq_false_of_ne_true c58
                   obtain rfl := zsome H
                   go_wp2_with (first | ((with_reducible refine gate_dst (N := 75) rfl ?_); refine ev_call rfl Try.func51 (by kernel_rfl) rfl #[.slice Ap0 a0.length cp0] rfl (by simp only [List.map_toArray, List.map_cons, List.map_nil]; rfl) ?_; refine (laws_toCrlS.calls ht46.out (HS.ro gp0) lp0).mono ?_; rintro _ wt46 ⟨v47, rfl, HQ⟩; refine ⟨_, rfl, ?_⟩; replace HS := HS.call HQ; clear HQ; (try clear F); obtain ⟨B47, d47, rfl, m47⟩ := HS.form 7 rfl; have F := HS.boxes; simp only [boxFacts, wrt, clr0, clr1, List.cons_append, List.nil_append, List.append_nil, List.set_cons_zero, List.set_cons_succ, and_true] at F) | ((with_reducible refine gate_dst (N := 76) rfl ?_); refine ev_call rfl Try.func52 (by kernel_rfl) rfl #[.slice B47 t46.length d47] rfl (by simp only [List.map_toArray, List.map_cons, List.map_nil]; rfl) ?_; refine (impl_WholeOf.calls ht49.out (HS.rd 7 rfl) m47).mono ?_; rintro _ wt49 ⟨v50, rfl, HQ⟩; refine ⟨_, rfl, ?_⟩; replace HS := HS.call HQ; clear HQ; (try clear F); obtain ⟨B50, d50, rfl, m50⟩ := HS.form 8 rfl; have F := HS.boxes; simp only [boxFacts, wrt, clr0, clr1, List.cons_append, List.nil_append, List.append_nil, List.set_cons_zero, List.set_cons_succ, and_true] at F) | ((with_reducible refine gate_dst (N := 12) rfl ?_); refine ev_box rfl HS (by first | (go_simp; done) | (go_simp; rfl)) rfl ?_; clear HS; (try clear F); intro g12 w12 HS; have F := HS.boxes; simp only [boxFacts, wrt, clr0, clr1, List.cons_append, List.nil_append, List.append_nil, List.set_cons_zero, List.set_cons_succ, and_true] at F) | ((with_reducible refine gate_store (p := 12) rfl ?_); refine ev_store rfl 9 0 HS (seg := [.string t49.1.f0, .int .i64 t49.1.f1, .int .i64 t49.1.f2, .int .i64 t49.1.f3, .int .i64 t49.1.f4, .slice B50 t49.1.f5.length d50, .string t49.1.f6]) rfl rfl rfl rfl rfl rfl (by kernel_rfl) (by simp [wrt]) (by simp [Value.oneCell']) ?_; clear HS; (try clear F); intro w54 HS; have F := HS.boxes; simp only [boxFacts, wrt, clr0, clr1, List.cons_append, List.nil_append, List.append_nil, List.set_cons_zero, List.set_cons_succ, and_true] at F) | ((with_reducible refine gate_dst (N := 81) rfl ?_); refine ev_call rfl Try.func33 (by kernel_rfl) rfl #[.agg #[.string t49.1.f0, .int .i64 t49.1.f1, .int .i64 t49.1.f2, .int .i64 t49.1.f3, .int .i64 t49.1.f4, .slice B50 t49.1.f5.length d50, .string t49.1.f6], .agg #[.string t7.1.f0, .int .i64 t7.1.f1, .int .i64 t7.1.f2, .int .i64 t7.1.f3, .int .i64 t7.1.f4, .slice B8 t7.1.f5.length d8, .string t7.1.f6]] rfl (by simp only [List.map_toArray, List.map_cons, List.map_nil]; rfl) ?_; refine (laws_eqCrl.calls ht56.out (HS.rd 8 rfl) m50 (HS.rd 1 rfl) m8).mono ?_; rintro _ wt56 ⟨rfl, HQ⟩; refine ⟨_, rfl, ?_⟩; replace HS := HS.call HQ; clear HQ; (try clear F); have F := HS.boxes; simp only [boxFacts, wrt, clr0, clr1, List.cons_append, List.nil_append, List.append_nil, List.set_cons_zero, List.set_cons_succ, and_true] at F; (try simp only [c58])))
                   go_ret
                   exact ⟨rfl, HS.pick [] (by decide) (by rfl)⟩
               · replace H := zneg c45 H
                 have c45a := beq_eq_false_iff_ne.mpr c45
                 have c45b := bne_iff_ne.mpr c45
                 clear c45
                 obtain rfl := zsome H
                 go_wp2
                 go_ret
                 exact ⟨rfl, HS.pick [] (by decide) (by rfl)⟩
           · replace H := zneg c39 H
             replace c39 := eq_false_of_ne_true c39
             obtain rfl := zsome H
             go_wp2_with (first | ((with_reducible refine gate_dst (N := 48) rfl ?_); refine HS.lend [3] (by decide) [.own (Zd.slice 54 q54) t14 [.slice B15 t14.length d15]] rfl (fun A' HA HB => ?_); refine ev_call rfl Try.func54 (by kernel_rfl) rfl #[.slice B15 t14.length d15, .int .i64 1] rfl (by simp only [List.map_toArray, List.map_cons, List.map_nil]; rfl) ?_; refine (laws_markCrlS.calls ht34.out HA).mono ?_; rintro _ wt34 ⟨rfl, HQ⟩; refine ⟨_, rfl, ?_⟩; replace HS : Hp noFP w _ [.own (Zd.slice 54 q54) t4 [.slice B5 t4.length d5], .own (Zd.slice 119 q119) t7.1.f5 [.slice B8 t7.1.f5.length d8], .box g4 [.string t7.1.f0, .int .i64 t7.1.f1, .int .i64 t7.1.f2, .int .i64 t7.1.f3, .int .i64 t7.1.f4, .slice B8 t7.1.f5.length d8, .string t7.1.f6] 54, .own (Zd.slice 54 q54) t34.2 [.slice B15 t14.length d15], .own (Zd.slice 119 q119) t17.1.f5 [.slice B18 t17.1.f5.length d18], .box g7 [.string t17.1.f0, .int .i64 t17.1.f1, .int .i64 t17.1.f2, .int .i64 t17.1.f3, .int .i64 t17.1.f4, .slice B18 t17.1.f5.length d18, .string t17.1.f6] 54, .own (Zd.slice 54 q54) t28 [.slice B29 t28.length d29]] := HB _ _ HQ (Nat.le_of_ble_eq_true rfl); clear HQ HA HB; (try clear F); have F := HS.boxes; simp only [boxFacts, wrt, clr0, clr1, List.cons_append, List.nil_append, List.append_nil, List.set_cons_zero, List.set_cons_succ, and_true] at F) | ((with_reducible refine gate_dst (N := 54) rfl ?_); refine gate_guard (by rfl) ?_; refine ev_call rfl Try.func33 (by kernel_rfl) rfl #[.agg #[.string t17.1.f0, .int .i64 t17.1.f1, .int .i64 t17.1.f2, .int .i64 t17.1.f3, .int .i64 t17.1.f4, .slice B18 t17.1.f5.length d18, .string t17.1.f6], .agg #[.string t7.1.f0, .int .i64 t7.1.f1, .int .i64 t7.1.f2, .int .i64 t7.1.f3, .int .i64 t7.1.f4, .slice B8 t7.1.f5.length d8, .string t7.1.f6]] rfl (by simp only [List.map_toArray, List.map_cons, List.map_nil]; rfl) ?_; refine (laws_eqCrl.calls ht37.out (HS.rd 4 rfl) m18 (HS.rd 1 rfl) m8).mono ?_; rintro _ wt37 ⟨rfl, HQ⟩; refine ⟨_, rfl, ?_⟩; replace HS := HS.call HQ; clear HQ; (try clear F); have F := HS.boxes; simp only [boxFacts, wrt, clr0, clr1, List.cons_append, List.nil_append, List.append_nil, List.set_cons_zero, List.set_cons_succ, and_true] at F; (try simp only [c39])))
             go_ret
             exact ⟨rfl, HS.pick [] (by decide) (by rfl)⟩
       · replace H := zneg c33 H
         replace c33 := eq_false_of_ne_true c33
         (try simp only [c33, decide_true, decide_false, Bool.not_true, Bool.not_false])
         obtain rfl := zsome H
         go_wp2
         go_ret
         exact ⟨rfl, HS.pick [] (by decide) (by rfl)⟩
     · replace H := zneg c27 H
       have c27a := beq_eq_false_iff_ne.mpr c27
       have c27b := bne_iff_ne.mpr c27
       clear c27
       (try simp only [c27a, c27b, decide_true, decide_false, Bool.not_true, Bool.not_false])
       obtain rfl := zsome H
       go_wp2
       go_ret
       exact ⟨rfl, HS.pick [] (by decide) (by rfl)⟩
   · replace H := zneg c26 H
     replace c26 := eq_false_of_ne_true c26
     obtain rfl := zsome H
     go_wp2_with (first | ((with_reducible refine gate_dst (N := 21) rfl ?_); refine ev_call rfl Try.func51 (by kernel_rfl) rfl #[.slice Ap0 a0.length cp0] rfl (by simp only [List.map_toArray, List.map_cons, List.map_nil]; rfl) ?_; refine (laws_toCrlS.calls ht4.out (HS.ro gp0) lp0).mono ?_; rintro _ wt4 ⟨v5, rfl, HQ⟩; refine ⟨_, rfl, ?_⟩; replace HS := HS.call HQ; clear HQ; (try clear F); obtain ⟨B5, d5, rfl, m5⟩ := HS.form 0 rfl) | ((with_reducible refine gate_dst (N := 22) rfl ?_); refine ev_call rfl Try.func50 (by kernel_rfl) rfl #[.slice B5 t4.length d5] rfl (by simp only [List.map_toArray, List.map_cons, List.map_nil]; rfl) ?_; refine (spec_WholeOf.calls ht7.out (HS.rd 0 rfl) m5).mono ?_; rintro _ wt7 ⟨v8, rfl, HQ⟩; refine ⟨_, rfl, ?_⟩; replace HS := HS.call HQ; clear HQ; (try clear F); obtain ⟨B8, d8, rfl, m8⟩ := HS.form 1 rfl) | ((with_reducible refine gate_dst (N := 4) rfl ?_); refine ev_box rfl HS (by first | (go_simp; done) | (go_simp; rfl)) rfl ?_; clear HS; (try clear F); intro g4 w4 HS; have F := HS.boxes; simp only [boxFacts, wrt, clr0, clr1, List.cons_append, List.nil_append, List.append_nil, List.set_cons_zero, List.set_cons_succ, and_true] at F) | ((with_reducible refine gate_store (p := 4) rfl ?_); refine ev_store rfl 2 0 HS (seg := [.string t7.1.f0, .int .i64 t7.1.f1, .int .i64 t7.1.f2, .int .i64 t7.1.f3, .int .i64 t7.1.f4, .slice B8 t7.1.f5.length d8, .string t7.1.f6]) rfl rfl rfl rfl rfl rfl (by kernel_rfl) (by simp [wrt]) (by simp [Value.oneCell']) ?_; clear HS; (try clear F); intro w12 HS; have F := HS.boxes; simp only [boxFacts, wrt, clr0, clr1, List.cons_append, List.nil_append, List.append_nil, List.set_cons_zero, List.set_cons_succ, and_true] at F) | ((with_reducible refine gate_dst (N := 26) rfl ?_); refine ev_call rfl Try.func51 (by kernel_rfl) rfl #[.slice Ap0 a0.length cp0] rfl (by simp only [List.map_toArray, List.map_cons, List.map_nil]; rfl) ?_; refine (laws_toCrlS.calls ht14.out (HS.ro gp0) lp0).mono ?_; rintro _ wt14 ⟨v15, rfl, HQ⟩; refine ⟨_, rfl, ?_⟩; replace HS := HS.call HQ; clear HQ; (try clear F); obtain ⟨B15, d15, rfl, m15⟩ := HS.form 3 rfl; have F := HS.boxes; simp only [boxFacts, wrt, clr0, clr1, List.cons_append, List.nil_append, List.append_nil, List.set_cons_zero, List.set_cons_succ, and_true] at F) | ((with_reducible refine gate_dst (N := 29) rfl ?_); refine ev_call rfl Try.func52 (by kernel_rfl) rfl #[.slice B15 t14.length d15] rfl (by simp only [List.map_toArray, List.map_cons, List.map_nil]; rfl) ?_; refine (impl_WholeOf.calls ht17.out (HS.rd 3 rfl) m15).mono ?_; rintro _ wt17 ⟨v18, rfl, HQ⟩; refine ⟨_, rfl, ?_⟩; replace HS := HS.call HQ; clear HQ; (try clear F); obtain ⟨B18, d18, rfl, m18⟩ := HS.form 4 rfl; have F := HS.boxes; simp only [boxFacts, wrt, clr0, clr1, List.cons_append, List.nil_append, List.append_nil, List.set_cons_zero, List.set_cons_succ, and_true] at F) | ((with_reducible refine gate_dst (N := 7) rfl ?_); refine ev_box rfl HS (by first | (go_simp; done) | (go_simp; rfl)) rfl ?_; clear HS; (try clear F); intro g7 w7 HS; have F := HS.boxes; simp only [boxFacts, wrt, clr0, clr1, List.cons_append, List.nil_append, List.append_nil, List.set_cons_zero, List.set_cons_succ, and_true] at F) | ((with_reducible refine gate_store (p := 7) rfl ?_); refine ev_store rfl 5 0 HS (seg := [.string t17.1.f0, .int .i64 t17.1.f1, .int .i64 t17.1.f2, .int .i64 t17.1.f3, .int .i64 t17.1.f4, .slice B18 t17.1.f5.length d18, .string t17.1.f6]) rfl rfl rfl rfl rfl rfl (by kernel_rfl) (by simp [wrt]) (by simp [Value.oneCell']) ?_; clear HS; (try clear F); intro w22 HS; have F := HS.boxes; simp only [boxFacts, wrt, clr0, clr1, List.cons_append, List.nil_append, List.append_nil, List.set_cons_zero, List.set_cons_succ, and_true] at F) | ((with_reducible refine gate_dst (N := 34) rfl ?_); refine ev_call rfl Try.func33 (by kernel_rfl) rfl #[.agg #[.string t17.1.f0, .int .i64 t17.1.f1, .int .i64 t17.1.f2, .int .i64 t17.1.f3, .int .i64 t17.1.f4, .slice B18 t17.1.f5.length d18, .string t17.1.f6], .agg #[.string t7.1.f0, .int .i64 t7.1.f1, .int .i64 t7.1.f2, .int .i64 t7.1.f3, .int .i64 t7.1.f4, .slice B8 t7.1.f5.length d8, .string t7.1.f6]] rfl (by simp only [List.map_toArray, List.map_cons, List.map_nil]; rfl) ?_; refine (laws_eqCrl.calls ht24.out (HS.rd 4 rfl) m18 (HS.rd 1 rfl) m8).mono ?_; rintro _ wt24 ⟨rfl, HQ⟩; refine ⟨_, rfl, ?_⟩; replace HS := HS.call HQ; clear HQ; (try clear F); have F := HS.boxes; simp only [boxFacts, wrt, clr0, clr1, List.cons_append, List.nil_append, List.append_nil, List.set_cons_zero, List.set_cons_succ, and_true] at F; (try simp only [c26])))
     go_ret
     exact ⟨rfl, HS.pick [] (by decide) (by rfl)⟩
end Go.Proofs.Ytfeebnbookfpmaa.F

/- Functions of the program and of the law, and that their calls do what is written here. -/
import Derived.Test.YtdcjcanobiohnaaZgFnExactGotOfb
namespace Go.Proofs.Ytdcjcanobiohnaa.F
open Go.RowKit Go.Proofs.YtdcjcanobiohnaaW.PrintWords Go.Proofs.YtdcjcanobiohnaaW.PrintLast Go.Proofs.YtdcjcanobiohnaaW.PrintMore Go.Proofs.Ytdcjcanobiohnaa.Z
attribute [local go_sem] max2_int min2_int max_two min_two max_three min_three max_four min_four
set_option linter.unusedVariables false
set_option linter.unusedSimpArgs false
set_option maxRecDepth 100000
/-! ### laws_szAnswerS: function 63 -/
def laws_szAnswerS.l0 : Nat → Int → Int → (List S169) → Option (Int)
  | 0, _, _, _ => none
  | k + 1, x12, x13, a0 => (if x13 < (a0.length : Int) then (if 0 ≤ x13 then (if x13 < (a0.length : Int) then ((laws_szAnswer.f k (rd_T169 a0 x13) x12).bind fun t19 => (if t19 < 0 then (some (-1)) else (laws_szAnswerS.l0 k t19 (wrap64 (x13 + 1)) a0))) else none) else none) else (some x12))
def laws_szAnswerS.f (k : Nat) (a0 : (List S169)) (a1 : Int) : Option (Int) := (if (wrap64 (a1 - (a0.length : Int))) < 0 then (some (-1)) else (laws_szAnswerS.l0 k (wrap64 (a1 - (a0.length : Int))) 0 a0))
set_option maxHeartbeats 16000000 in
theorem laws_szAnswerS.calls {k : Nat} {a0 : (List S169)} {a1 : Int} {Ap0 : Option Addr} {np0 cp0 : Nat} {r : Int} {w : World} (h : laws_szAnswerS.f k a0 a1 = some r) (gp0 : k169.C w Ap0 np0 a0) (lp0 : np0 ≤ cp0) :
    Calls Try.prog 63 #[.slice Ap0 np0 cp0, .int .i64 a1] w (fun e w' => e = .returned (.int .i64 r) ∧ Hp noFP w w' []) := by
 obtain rfl := C_len gp0
 have HS := Hp.start w
 have H := Aside0.mk h
 clear h
 unfold laws_szAnswerS.f at H
 go_enter Try.func63, Try.ntmps63
 by_cases c1 : (wrap64 (a1 - (a0.length : Int))) < 0
 · replace H := zpos c1 H
   replace c1 := eq_true c1
   obtain rfl := zsome H
   go_wp2
   go_ret
   exact ⟨rfl, HS.pick [] (by decide) (by rfl)⟩
 · replace H := zneg c1 H
   replace c1 := eq_false c1
   go_wp2
   go_loopg [1, 5] k (fun kq v_1 v_5 w' => ∃ (x12 : Int) (x13 : Int), v_1 = .int .i64 x12 ∧ v_5 = .int .i64 x13 ∧ Aside0 (laws_szAnswerS.l0 kq x12 x13 a0 = some r) ∧ Aside0 (kq ≤ k) ∧ Hp noFP w w' [])
   case atStart => exact ⟨_, _, rfl, rfl, H, ⟨Nat.le_refl _⟩, HS⟩
   case round =>
    clear HS H; (try clear F)
    obtain ⟨x12, x13, rfl, rfl, H, HKk11, HS⟩ := hrel
    cases gk with
    | zero => exact absurd H.out (by simp [laws_szAnswerS.l0])
    | succ k11 =>
     simp only [laws_szAnswerS.l0] at H
     by_cases c15 : x13 < (a0.length : Int)
     · replace H := zpos c15 H
       replace c15 := eq_true c15
       by_cases c16 : 0 ≤ x13
       case neg => exact zno c16 H
       replace H := zpos c16 H
       replace c16 := eq_true c16
       by_cases c17 : x13 < (a0.length : Int)
       case neg => exact zno c17 H
       replace H := zpos c17 H
       replace c17 := eq_true c17
       obtain ⟨ad18, B18_2, d18_2, B18_3, d18_3, rfl, e18_0, e18_1, e18_2, e18_3, m18_2, y18_2, m18_3, y18_3⟩ := at_T169 gp0 x13 (of_eq_true c16) (of_eq_true c17)
       have e18_0_18 := HS.keepc e18_0
       have e18_1_18 := HS.keepc e18_1
       have e18_2_18 := HS.keepc e18_2
       have e18_3_18 := HS.keepc e18_3
       obtain ⟨t19, ht19, H⟩ := zbind H
       go_upto_if 25 with (first | ((with_reducible refine gate_dst (N := 23) rfl ?_); refine ev_call rfl Try.func118 (by kernel_rfl) rfl #[.agg #[.int .i64 ((rd_T169 a0 x13).f0), .int .i64 ((rd_T169 a0 x13).f1), .slice B18_2 (rd_T169 a0 x13).f2.length d18_2, .slice B18_3 (rd_T169 a0 x13).f3.length d18_3], .int .i64 x12] rfl (by simp only [List.map_toArray, List.map_cons, List.map_nil]; rfl) ?_; refine (laws_szAnswer.calls ht19.out (HS.ro y18_2) m18_2 (HS.ro y18_3) m18_3).mono ?_; rintro _ wt19 ⟨rfl, HQ⟩; refine ⟨_, rfl, ?_⟩; replace HS := HS.call HQ; clear HQ; (try clear F); replace HS : Hp noFP w _ [] := HS))
       by_cases c21 : t19 < 0
       · replace H := zpos c21 H
         replace c21 := eq_true c21
         (try simp only [c21, decide_true, decide_false, Bool.not_true, Bool.not_false])
         obtain rfl := zsome H
         go_wp2
         go_ret
         exact ⟨rfl, HS.pick [] (by decide) (by rfl)⟩
       · replace H := zneg c21 H
         replace c21 := eq_false c21
         (try simp only [c21, decide_true, decide_false, Bool.not_true, Bool.not_false])
         go_wp2
         go_roundg k11
         case measure => have := HKk11.out; omega
         case rel => exact ⟨_, _, rfl, rfl, H, ⟨by have := HKk11.out; omega⟩, HS.pick [] (by decide) (by rfl)⟩
     · replace H := zneg c15 H
       replace c15 := eq_false c15
       obtain rfl := zsome H
       go_wp2
       go_ret
       exact ⟨rfl, HS.pick [] (by decide) (by rfl)⟩
/-! ### laws_szReply: function 24 -/
def laws_szReply.f (k : Nat) (a0 : S44) (a1 : Int) : Option (Int) := (if (wrap64 (a1 - (a0.f0.size : Int))) < 0 then (some (-1)) else ((laws_szAnswerS.f k a0.f6 (wrap64 (a1 - (a0.f0.size : Int)))).bind fun t4 => (if t4 < 0 then (some (-1)) else (if (wrap64 (t4 - (a0.f7.size : Int))) < 0 then (some (-1)) else (some (wrap64 (t4 - (a0.f7.size : Int))))))))
set_option maxHeartbeats 16000000 in
theorem laws_szReply.calls {k : Nat} {a0 : S44} {a1 : Int} {Ap0 : Option Addr} {np0 cp0 : Nat} {r : Int} {w : World} (h : laws_szReply.f k a0 a1 = some r) (gp0 : k169.C w Ap0 np0 a0.f6) (lp0 : np0 ≤ cp0) :
    Calls Try.prog 24 #[.agg #[.string a0.f0, .int .i64 a0.f1, .int .i64 a0.f2, .int .i64 a0.f3, .int .i64 a0.f4, .int .i64 a0.f5, .slice Ap0 np0 cp0, .string a0.f7], .int .i64 a1] w (fun e w' => e = .returned (.int .i64 r) ∧ Hp noFP w w' []) := by
 obtain rfl := C_len gp0
 have HS := Hp.start w
 have H := Aside0.mk h
 clear h
 unfold laws_szReply.f at H
 go_enter Try.func24, Try.ntmps24
 go_upto_if 11 with (first | ((with_reducible refine gate_dst (N := 2) rfl ?_); refine ev_box rfl HS (by first | (go_simp; done) | (go_simp; rfl)) rfl ?_; clear HS; (try clear F); intro g2 w2 HS; replace HS : Hp noFP w _ [.box g2 [.string a0.f0, .int .i64 a0.f1, .int .i64 a0.f2, .int .i64 a0.f3, .int .i64 a0.f4, .int .i64 a0.f5, .slice Ap0 a0.f6.length cp0, .string a0.f7] 44] := HS; have F := HS.boxes; simp only [boxFacts, wrt, clr0, clr1, List.cons_append, List.nil_append, List.append_nil, List.set_cons_zero, List.set_cons_succ, and_true] at F))
 by_cases c3 : (wrap64 (a1 - (a0.f0.size : Int))) < 0
 · replace H := zpos c3 H
   replace c3 := eq_true c3
   (try simp only [c3, decide_true, decide_false, Bool.not_true, Bool.not_false])
   obtain rfl := zsome H
   go_wp2
   go_ret
   exact ⟨rfl, HS.pick [] (by decide) (by rfl)⟩
 · replace H := zneg c3 H
   replace c3 := eq_false c3
   (try simp only [c3, decide_true, decide_false, Bool.not_true, Bool.not_false])
   obtain ⟨t4, ht4, H⟩ := zbind H
   go_upto_if 17 with (first | ((with_reducible refine gate_dst (N := 15) rfl ?_); refine ev_call rfl Try.func63 (by kernel_rfl) rfl #[.slice Ap0 a0.f6.length cp0, .int .i64 (wrap64 (a1 - (a0.f0.size : Int)))] rfl (by simp only [List.map_toArray, List.map_cons, List.map_nil]; rfl) ?_; refine (laws_szAnswerS.calls ht4.out (HS.ro gp0) lp0).mono ?_; rintro _ wt4 ⟨rfl, HQ⟩; refine ⟨_, rfl, ?_⟩; replace HS := HS.call HQ; clear HQ; (try clear F); replace HS : Hp noFP w _ [.box g2 [.string a0.f0, .int .i64 a0.f1, .int .i64 a0.f2, .int .i64 a0.f3, .int .i64 a0.f4, .int .i64 a0.f5, .slice Ap0 a0.f6.length cp0, .string a0.f7] 44] := HS; have F := HS.boxes; simp only [boxFacts, wrt, clr0, clr1, List.cons_append, List.nil_append, List.append_nil, List.set_cons_zero, List.set_cons_succ, and_true] at F))
   by_cases c6 : t4 < 0
   · replace H := zpos c6 H
     replace c6 := eq_true c6
     (try simp only [c6, decide_true, decide_false, Bool.not_true, Bool.not_false])
     obtain rfl := zsome H
     go_wp2
     go_ret
     exact ⟨rfl, HS.pick [] (by decide) (by rfl)⟩
   · replace H := zneg c6 H
     replace c6 := eq_false c6
     (try simp only [c6, decide_true, decide_false, Bool.not_true, Bool.not_false])
     by_cases c7 : (wrap64 (t4 - (a0.f7.size : Int))) < 0
     · replace H := zpos c7 H
       replace c7 := eq_true c7
       obtain rfl := zsome H
       go_wp2
       go_ret
       exact ⟨rfl, HS.pick [] (by decide) (by rfl)⟩
     · replace H := zneg c7 H
       replace c7 := eq_false c7
       obtain rfl := zsome H
       go_wp2
       go_ret
       exact ⟨rfl, HS.pick [] (by decide) (by rfl)⟩
/-! ### laws_szGot: function 138 -/
def laws_szGot.f (k : Nat) (a0 : S187) (a1 : Int) : Option (Int) := ((laws_szReply.f k a0.f1 a1).bind fun t3 => (if t3 < 0 then (some (-1)) else (some t3)))
set_option maxHeartbeats 16000000 in
theorem laws_szGot.calls {k : Nat} {a0 : S187} {a1 : Int} {Ap0 : Option Addr} {np0 cp0 : Nat} {r : Int} {w : World} (h : laws_szGot.f k a0 a1 = some r) (gp0 : k169.C w Ap0 np0 a0.f1.f6) (lp0 : np0 ≤ cp0) :
    Calls Try.prog 138 #[.agg #[.int .i64 a0.f0, .string a0.f1.f0, .int .i64 a0.f1.f1, .int .i64 a0.f1.f2, .int .i64 a0.f1.f3, .int .i64 a0.f1.f4, .int .i64 a0.f1.f5, .slice Ap0 np0 cp0, .string a0.f1.f7], .int .i64 a1] w (fun e w' => e = .returned (.int .i64 r) ∧ Hp noFP w w' []) := by
 obtain rfl := C_len gp0
 have HS := Hp.start w
 have H := Aside0.mk h
 clear h
 unfold laws_szGot.f at H
 go_enter Try.func138, Try.ntmps138
 obtain ⟨t3, ht3, H⟩ := zbind H
 go_upto_if 10 with (first | ((with_reducible refine gate_dst (N := 2) rfl ?_); refine ev_box rfl HS (by first | (go_simp; done) | (go_simp; rfl)) rfl ?_; clear HS; (try clear F); intro g2 w2 HS; replace HS : Hp noFP w _ [.box g2 [.int .i64 a0.f0, .string a0.f1.f0, .int .i64 a0.f1.f1, .int .i64 a0.f1.f2, .int .i64 a0.f1.f3, .int .i64 a0.f1.f4, .int .i64 a0.f1.f5, .slice Ap0 a0.f1.f6.length cp0, .string a0.f1.f7] 187] := HS; have F := HS.boxes; simp only [boxFacts, wrt, clr0, clr1, List.cons_append, List.nil_append, List.append_nil, List.set_cons_zero, List.set_cons_succ, and_true] at F) | ((with_reducible refine gate_dst (N := 8) rfl ?_); refine ev_call rfl Try.func24 (by kernel_rfl) rfl #[.agg #[.string a0.f1.f0, .int .i64 a0.f1.f1, .int .i64 a0.f1.f2, .int .i64 a0.f1.f3, .int .i64 a0.f1.f4, .int .i64 a0.f1.f5, .slice Ap0 a0.f1.f6.length cp0, .string a0.f1.f7], .int .i64 a1] rfl (by simp only [List.map_toArray, List.map_cons, List.map_nil]; rfl) ?_; refine (laws_szReply.calls ht3.out (HS.ro gp0) lp0).mono ?_; rintro _ wt3 ⟨rfl, HQ⟩; refine ⟨_, rfl, ?_⟩; replace HS := HS.call HQ; clear HQ; (try clear F); replace HS : Hp noFP w _ [.box g2 [.int .i64 a0.f0, .string a0.f1.f0, .int .i64 a0.f1.f1, .int .i64 a0.f1.f2, .int .i64 a0.f1.f3, .int .i64 a0.f1.f4, .int .i64 a0.f1.f5, .slice Ap0 a0.f1.f6.length cp0, .string a0.f1.f7] 187] := HS; have F := HS.boxes; simp only [boxFacts, wrt, clr0, clr1, List.cons_append, List.nil_append, List.append_nil, List.set_cons_zero, List.set_cons_succ, and_true] at F))
 by_cases c5 : t3 < 0
 · replace H := zpos c5 H
   replace c5 := eq_true c5
   (try simp only [c5, decide_true, decide_false, Bool.not_true, Bool.not_false])
   obtain rfl := zsome H
   go_wp2
   go_ret
   exact ⟨rfl, HS.pick [] (by decide) (by rfl)⟩
 · replace H := zneg c5 H
   replace c5 := eq_false c5
   (try simp only [c5, decide_true, decide_false, Bool.not_true, Bool.not_false])
   obtain rfl := zsome H
   go_wp2
   go_ret
   exact ⟨rfl, HS.pick [] (by decide) (by rfl)⟩
/-! ### laws_szGotS: function 76 -/
def laws_szGotS.l0 : Nat → Int → Int → (List S187) → Option (Int)
  | 0, _, _, _ => none
  | k + 1, x12, x13, a0 => (if x13 < (a0.length : Int) then (if 0 ≤ x13 then (if x13 < (a0.length : Int) then ((laws_szGot.f k (rd_T187 a0 x13) x12).bind fun t19 => (if t19 < 0 then (some (-1)) else (laws_szGotS.l0 k t19 (wrap64 (x13 + 1)) a0))) else none) else none) else (some x12))
def laws_szGotS.f (k : Nat) (a0 : (List S187)) (a1 : Int) : Option (Int) := (if (wrap64 (a1 - (a0.length : Int))) < 0 then (some (-1)) else (laws_szGotS.l0 k (wrap64 (a1 - (a0.length : Int))) 0 a0))
set_option maxHeartbeats 16000000 in
theorem laws_szGotS.calls {k : Nat} {a0 : (List S187)} {a1 : Int} {Ap0 : Option Addr} {np0 cp0 : Nat} {r : Int} {w : World} (h : laws_szGotS.f k a0 a1 = some r) (gp0 : k187.C w Ap0 np0 a0) (lp0 : np0 ≤ cp0) :
    Calls Try.prog 76 #[.slice Ap0 np0 cp0, .int .i64 a1] w (fun e w' => e = .returned (.int .i64 r) ∧ Hp noFP w w' []) := by
 obtain rfl := C_len gp0
 have HS := Hp.start w
 have H := Aside0.mk h
 clear h
 unfold laws_szGotS.f at H
 go_enter Try.func76, Try.ntmps76
 by_cases c1 : (wrap64 (a1 - (a0.length : Int))) < 0
 · replace H := zpos c1 H
   replace c1 := eq_true c1
   obtain rfl := zsome H
   go_wp2
   go_ret
   exact ⟨rfl, HS.pick [] (by decide) (by rfl)⟩
 · replace H := zneg c1 H
   replace c1 := eq_false c1
   go_wp2
   go_loopg [1, 5] k (fun kq v_1 v_5 w' => ∃ (x12 : Int) (x13 : Int), v_1 = .int .i64 x12 ∧ v_5 = .int .i64 x13 ∧ Aside0 (laws_szGotS.l0 kq x12 x13 a0 = some r) ∧ Aside0 (kq ≤ k) ∧ Hp noFP w w' [])
   case atStart => exact ⟨_, _, rfl, rfl, H, ⟨Nat.le_refl _⟩, HS⟩
   case round =>
    clear HS H; (try clear F)
    obtain ⟨x12, x13, rfl, rfl, H, HKk11, HS⟩ := hrel
    cases gk with
    | zero => exact absurd H.out (by simp [laws_szGotS.l0])
    | succ k11 =>
     simp only [laws_szGotS.l0] at H
     by_cases c15 : x13 < (a0.length : Int)
     · replace H := zpos c15 H
       replace c15 := eq_true c15
       by_cases c16 : 0 ≤ x13
       case neg => exact zno c16 H
       replace H := zpos c16 H
       replace c16 := eq_true c16
       by_cases c17 : x13 < (a0.length : Int)
       case neg => exact zno c17 H
       replace H := zpos c17 H
       replace c17 := eq_true c17
       obtain ⟨ad18, B18_7, d18_7, rfl, e18_0, e18_1, e18_2, e18_3, e18_4, e18_5, e18_6, e18_7, e18_8, m18_7, y18_7⟩ := at_T187 gp0 x13 (of_eq_true c16) (of_eq_true c17)
       have e18_0_18 := HS.keepc e18_0
       have e18_1_18 := HS.keepc e18_1
       have e18_2_18 := HS.keepc e18_2
       have e18_3_18 := HS.keepc e18_3
       have e18_4_18 := HS.keepc e18_4
       have e18_5_18 := HS.keepc e18_5
       have e18_6_18 := HS.keepc e18_6
       have e18_7_18 := HS.keepc e18_7
       have e18_8_18 := HS.keepc e18_8
       obtain ⟨t19, ht19, H⟩ := zbind H
       go_upto_if 25 with (first | ((with_reducible refine gate_dst (N := 23) rfl ?_); refine ev_call rfl Try.func138 (by kernel_rfl) rfl #[.agg #[.int .i64 ((rd_T187 a0 x13).f0), .string ((rd_T187 a0 x13).f1.f0), .int .i64 ((rd_T187 a0 x13).f1.f1), .int .i64 ((rd_T187 a0 x13).f1.f2), .int .i64 ((rd_T187 a0 x13).f1.f3), .int .i64 ((rd_T187 a0 x13).f1.f4), .int .i64 ((rd_T187 a0 x13).f1.f5), .slice B18_7 (rd_T187 a0 x13).f1.f6.length d18_7, .string ((rd_T187 a0 x13).f1.f7)], .int .i64 x12] rfl (by simp only [List.map_toArray, List.map_cons, List.map_nil]; rfl) ?_; refine (laws_szGot.calls ht19.out (HS.ro y18_7) m18_7).mono ?_; rintro _ wt19 ⟨rfl, HQ⟩; refine ⟨_, rfl, ?_⟩; replace HS := HS.call HQ; clear HQ; (try clear F); replace HS : Hp noFP w _ [] := HS))
       by_cases c21 : t19 < 0
       · replace H := zpos c21 H
         replace c21 := eq_true c21
         (try simp only [c21, decide_true, decide_false, Bool.not_true, Bool.not_false])
         obtain rfl := zsome H
         go_wp2
         go_ret
         exact ⟨rfl, HS.pick [] (by decide) (by rfl)⟩
       · replace H := zneg c21 H
         replace c21 := eq_false c21
         (try simp only [c21, decide_true, decide_false, Bool.not_true, Bool.not_false])
         go_wp2
         go_roundg k11
         case measure => have := HKk11.out; omega
         case rel => exact ⟨_, _, rfl, rfl, H, ⟨by have := HKk11.out; omega⟩, HS.pick [] (by decide) (by rfl)⟩
     · replace H := zneg c15 H
       replace c15 := eq_false c15
       obtain rfl := zsome H
       go_wp2
       go_ret
       exact ⟨rfl, HS.pick [] (by decide) (by rfl)⟩
/-! ### laws_szIntS: function 77 -/
def laws_szIntS.f (a0 : (List Int)) (a1 : Int) : Option (Int) := (if (wrap64 (a1 - (a0.length : Int))) < 0 then (some (-1)) else (some (wrap64 (a1 - (a0.length : Int)))))
set_option maxHeartbeats 16000000 in
theorem laws_szIntS.calls {a0 : (List Int)} {a1 : Int} {Ap0 : Option Addr} {np0 cp0 : Nat} {r : Int} {w : World} (h : laws_szIntS.f a0 a1 = some r) (gp0 : (Kd.int .i64).C w Ap0 np0 a0) (lp0 : np0 ≤ cp0) :
    Calls Try.prog 77 #[.slice Ap0 np0 cp0, .int .i64 a1] w (fun e w' => e = .returned (.int .i64 r) ∧ Hp noFP w w' []) := by
 obtain rfl := C_len gp0
 have HS := Hp.start w
 have H := Aside0.mk h
 clear h
 unfold laws_szIntS.f at H
 go_enter Try.func77, Try.ntmps77
 by_cases c1 : (wrap64 (a1 - (a0.length : Int))) < 0
 · replace H := zpos c1 H
   replace c1 := eq_true c1
   obtain rfl := zsome H
   go_wp2
   go_ret
   exact ⟨rfl, HS.pick [] (by decide) (by rfl)⟩
 · replace H := zneg c1 H
   replace c1 := eq_false c1
   obtain rfl := zsome H
   go_wp2
   go_ret
   exact ⟨rfl, HS.pick [] (by decide) (by rfl)⟩
/-! ### laws_szClient: function 31 -/
def laws_szClient.f (k : Nat) (a0 : S58) (a1 : Int) : Option (Int) := (if (wrap64 (a1 - (a0.f0.size : Int))) < 0 then (some (-1)) else ((laws_szWaitS.f k a0.f2 (wrap64 (a1 - (a0.f0.size : Int)))).bind fun t4 => (if t4 < 0 then (some (-1)) else ((laws_szGotS.f k a0.f3 t4).bind fun t7 => (if t7 < 0 then (some (-1)) else ((laws_szIntS.f a0.f4 t7).bind fun t10 => (if t10 < 0 then (some (-1)) else (some t10))))))))
set_option maxHeartbeats 16000000 in
theorem laws_szClient.calls {k : Nat} {a0 : S58} {a1 : Int} {Ap0 : Option Addr} {np0 cp0 : Nat} {Ap1 : Option Addr} {np1 cp1 : Nat} {Ap2 : Option Addr} {np2 cp2 : Nat} {r : Int} {w : World} (h : laws_szClient.f k a0 a1 = some r) (gp0 : k184.C w Ap0 np0 a0.f2) (lp0 : np0 ≤ cp0) (gp1 : k187.C w Ap1 np1 a0.f3) (lp1 : np1 ≤ cp1) (gp2 : (Kd.int .i64).C w Ap2 np2 a0.f4) (lp2 : np2 ≤ cp2) :
    Calls Try.prog 31 #[.agg #[.string a0.f0, .int .i64 a0.f1, .slice Ap0 np0 cp0, .slice Ap1 np1 cp1, .slice Ap2 np2 cp2], .int .i64 a1] w (fun e w' => e = .returned (.int .i64 r) ∧ Hp noFP w w' []) := by
 obtain rfl := C_len gp0
 obtain rfl := C_len gp1
 obtain rfl := C_len gp2
 have HS := Hp.start w
 have H := Aside0.mk h
 clear h
 unfold laws_szClient.f at H
 go_enter Try.func31, Try.ntmps31
 go_upto_if 11 with (first | ((with_reducible refine gate_dst (N := 2) rfl ?_); refine ev_box rfl HS (by first | (go_simp; done) | (go_simp; rfl)) rfl ?_; clear HS; (try clear F); intro g2 w2 HS; replace HS : Hp noFP w _ [.box g2 [.string a0.f0, .int .i64 a0.f1, .slice Ap0 a0.f2.length cp0, .slice Ap1 a0.f3.length cp1, .slice Ap2 a0.f4.length cp2] 58] := HS; have F := HS.boxes; simp only [boxFacts, wrt, clr0, clr1, List.cons_append, List.nil_append, List.append_nil, List.set_cons_zero, List.set_cons_succ, and_true] at F))
 by_cases c3 : (wrap64 (a1 - (a0.f0.size : Int))) < 0
 · replace H := zpos c3 H
   replace c3 := eq_true c3
   (try simp only [c3, decide_true, decide_false, Bool.not_true, Bool.not_false])
   obtain rfl := zsome H
   go_wp2
   go_ret
   exact ⟨rfl, HS.pick [] (by decide) (by rfl)⟩
 · replace H := zneg c3 H
   replace c3 := eq_false c3
   (try simp only [c3, decide_true, decide_false, Bool.not_true, Bool.not_false])
   obtain ⟨t4, ht4, H⟩ := zbind H
   go_upto_if 17 with (first | ((with_reducible refine gate_dst (N := 15) rfl ?_); refine ev_call rfl Try.func75 (by kernel_rfl) rfl #[.slice Ap0 a0.f2.length cp0, .int .i64 (wrap64 (a1 - (a0.f0.size : Int)))] rfl (by simp only [List.map_toArray, List.map_cons, List.map_nil]; rfl) ?_; refine (laws_szWaitS.calls ht4.out (HS.ro gp0) lp0).mono ?_; rintro _ wt4 ⟨rfl, HQ⟩; refine ⟨_, rfl, ?_⟩; replace HS := HS.call HQ; clear HQ; (try clear F); replace HS : Hp noFP w _ [.box g2 [.string a0.f0, .int .i64 a0.f1, .slice Ap0 a0.f2.length cp0, .slice Ap1 a0.f3.length cp1, .slice Ap2 a0.f4.length cp2] 58] := HS; have F := HS.boxes; simp only [boxFacts, wrt, clr0, clr1, List.cons_append, List.nil_append, List.append_nil, List.set_cons_zero, List.set_cons_succ, and_true] at F))
   by_cases c6 : t4 < 0
   · replace H := zpos c6 H
     replace c6 := eq_true c6
     (try simp only [c6, decide_true, decide_false, Bool.not_true, Bool.not_false])
     obtain rfl := zsome H
     go_wp2
     go_ret
     exact ⟨rfl, HS.pick [] (by decide) (by rfl)⟩
   · replace H := zneg c6 H
     replace c6 := eq_false c6
     (try simp only [c6, decide_true, decide_false, Bool.not_true, Bool.not_false])
     obtain ⟨t7, ht7, H⟩ := zbind H
     go_upto_if 23 with (first | ((with_reducible refine gate_dst (N := 21) rfl ?_); refine ev_call rfl Try.func76 (by kernel_rfl) rfl #[.slice Ap1 a0.f3.length cp1, .int .i64 t4] rfl (by simp only [List.map_toArray, List.map_cons, List.map_nil]; rfl) ?_; refine (laws_szGotS.calls ht7.out (HS.ro gp1) lp1).mono ?_; rintro _ wt7 ⟨rfl, HQ⟩; refine ⟨_, rfl, ?_⟩; replace HS := HS.call HQ; clear HQ; (try clear F); replace HS : Hp noFP w _ [.box g2 [.string a0.f0, .int .i64 a0.f1, .slice Ap0 a0.f2.length cp0, .slice Ap1 a0.f3.length cp1, .slice Ap2 a0.f4.length cp2] 58] := HS; have F := HS.boxes; simp only [boxFacts, wrt, clr0, clr1, List.cons_append, List.nil_append, List.append_nil, List.set_cons_zero, List.set_cons_succ, and_true] at F))
     by_cases c9 : t7 < 0
     · replace H := zpos c9 H
       replace c9 := eq_true c9
       (try simp only [c9, decide_true, decide_false, Bool.not_true, Bool.not_false])
       obtain rfl := zsome H
       go_wp2
       go_ret
       exact ⟨rfl, HS.pick [] (by decide) (by rfl)⟩
     · replace H := zneg c9 H
       replace c9 := eq_false c9
       (try simp only [c9, decide_true, decide_false, Bool.not_true, Bool.not_false])
       obtain ⟨t10, ht10, H⟩ := zbind H
       go_upto_if 29 with (first | ((with_reducible refine gate_dst (N := 27) rfl ?_); refine ev_call rfl Try.func77 (by kernel_rfl) rfl #[.slice Ap2 a0.f4.length cp2, .int .i64 t7] rfl (by simp only [List.map_toArray, List.map_cons, List.map_nil]; rfl) ?_; refine (laws_szIntS.calls ht10.out (HS.ro gp2) lp2).mono ?_; rintro _ wt10 ⟨rfl, HQ⟩; refine ⟨_, rfl, ?_⟩; replace HS := HS.call HQ; clear HQ; (try clear F); replace HS : Hp noFP w _ [.box g2 [.string a0.f0, .int .i64 a0.f1, .slice Ap0 a0.f2.length cp0, .slice Ap1 a0.f3.length cp1, .slice Ap2 a0.f4.length cp2] 58] := HS; have F := HS.boxes; simp only [boxFacts, wrt, clr0, clr1, List.cons_append, List.nil_append, List.append_nil, List.set_cons_zero, List.set_cons_succ, and_true] at F))
       by_cases c12 : t10 < 0
       · replace H := zpos c12 H
         replace c12 := eq_true c12
         (try simp only [c12, decide_true, decide_false, Bool.not_true, Bool.not_false])
         obtain rfl := zsome H
         go_wp2
         go_ret
         exact ⟨rfl, HS.pick [] (by decide) (by rfl)⟩
       · replace H := zneg c12 H
         replace c12 := eq_false c12
         (try simp only [c12, decide_true, decide_false, Bool.not_true, Bool.not_false])
         obtain rfl := zsome H
         go_wp2
         go_ret
         exact ⟨rfl, HS.pick [] (by decide) (by rfl)⟩
/-! ### spec_l15Copy: function 78 -/
def spec_l15Copy.l0 : Nat → (List S171) → Int → S49 → Option (S49)
  | 0, _, _, _ => none
  | k + 1, l50, x52, a0 => (if x52 < (a0.f6.length : Int) then (if 0 ≤ x52 then (if x52 < (a0.f6.length : Int) then (if 0 + (rd_T171 a0.f6 x52).f2.length ≤ 8796093022208 then (lets (([] : List ByteArray) ++ ((rd_T171 a0.f6 x52).f2)) fun y65 => (if 0 + (rd_T171 a0.f6 x52).f3.length ≤ 8796093022208 then (lets (([] : List ByteArray) ++ ((rd_T171 a0.f6 x52).f3)) fun y72 => (if l50.length + 1 ≤ 2199023255552 then (lets (l50 ++ ([(⟨(rd_T171 a0.f6 x52).f0, (rd_T171 a0.f6 x52).f1, y65, y72⟩ : S171)] : List S171)) fun y79 => (spec_l15Copy.l0 k y79 (wrap64 (x52 + 1)) a0)) else none)) else none)) else none) else none) else none) else (some (⟨a0.f0, a0.f1, a0.f2, a0.f3, a0.f4, a0.f5, l50, a0.f7⟩ : S49)))
def spec_l15Copy.f (k : Nat) (a0 : S49) : Option (S49) := (spec_l15Copy.l0 k ([] : List S171) 0 a0)
set_option maxHeartbeats 16000000 in
theorem spec_l15Copy.calls {k : Nat} {a0 : S49} {Ap0 : Option Addr} {np0 cp0 : Nat} {r : S49} {w : World} (h : spec_l15Copy.f k a0 = some r) (gp0 : k171.C w Ap0 np0 a0.f6) (lp0 : np0 ≤ cp0) :
    Calls Try.prog 78 #[.agg #[.string a0.f0, .int .i64 a0.f1, .int .i64 a0.f2, .int .i64 a0.f3, .int .i64 a0.f4, .int .i64 a0.f5, .slice Ap0 np0 cp0, .string a0.f7]] w (fun e w' => ∃ v0_ : Value, e = .returned (.agg #[.string r.f0, .int .i64 r.f1, .int .i64 r.f2, .int .i64 r.f3, .int .i64 r.f4, .int .i64 r.f5, v0_, .string r.f7]) ∧ Hp noFP w w' [.own (Zd.slice 171 q171) r.f6 [v0_]]) := by
 obtain rfl := C_len gp0
 have HS := Hp.start w
 have H := Aside0.mk h
 clear h
 unfold spec_l15Copy.f at H
 go_enter Try.func78, Try.ntmps78
 go_wp2_with (first | ((with_reducible refine gate_dst (N := 1) rfl ?_); refine ev_box rfl HS (by first | (go_simp; done) | (go_simp; rfl)) rfl ?_; clear HS; (try clear F); intro g1 w1 HS; replace HS : Hp noFP w _ [.box g1 [.string a0.f0, .int .i64 a0.f1, .int .i64 a0.f2, .int .i64 a0.f3, .int .i64 a0.f4, .int .i64 a0.f5, .slice Ap0 a0.f6.length cp0, .string a0.f7] 49] := HS; have F := HS.boxes; simp only [boxFacts, wrt, clr0, clr1, List.cons_append, List.nil_append, List.append_nil, List.set_cons_zero, List.set_cons_succ, and_true] at F) | ((with_reducible refine gate_dst (N := 2) rfl ?_); refine ev_box rfl HS (by first | (go_simp; done) | (go_simp; rfl)) rfl ?_; clear HS; (try clear F); intro g2 w2 HS; replace HS : Hp noFP w _ [.box g1 [.string a0.f0, .int .i64 a0.f1, .int .i64 a0.f2, .int .i64 a0.f3, .int .i64 a0.f4, .int .i64 a0.f5, .slice Ap0 a0.f6.length cp0, .string a0.f7] 49, .box g2 [.string (⟨#[]⟩ : ByteArray), .int .i64 0, .int .i64 0, .int .i64 0, .int .i64 0, .int .i64 0, .slice none 0 0, .string (⟨#[]⟩ : ByteArray)] 49] := HS; have F := HS.boxes; simp only [boxFacts, wrt, clr0, clr1, List.cons_append, List.nil_append, List.append_nil, List.set_cons_zero, List.set_cons_succ, and_true] at F) | ((with_reducible refine gate_dst (N := 3) rfl ?_); refine ev_box rfl HS (by first | (go_simp; done) | (go_simp; rfl)) rfl ?_; clear HS; (try clear F); intro g3 w3 HS; replace HS : Hp noFP w _ [.box g1 [.string a0.f0, .int .i64 a0.f1, .int .i64 a0.f2, .int .i64 a0.f3, .int .i64 a0.f4, .int .i64 a0.f5, .slice Ap0 a0.f6.length cp0, .string a0.f7] 49, .box g2 [.string (⟨#[]⟩ : ByteArray), .int .i64 0, .int .i64 0, .int .i64 0, .int .i64 0, .int .i64 0, .slice none 0 0, .string (⟨#[]⟩ : ByteArray)] 49, .box g3 [.string (⟨#[]⟩ : ByteArray), .int .i64 0, .int .i64 0, .int .i64 0, .int .i64 0, .int .i64 0, .slice none 0 0, .string (⟨#[]⟩ : ByteArray)] 49] := HS; have F := HS.boxes; simp only [boxFacts, wrt, clr0, clr1, List.cons_append, List.nil_append, List.append_nil, List.set_cons_zero, List.set_cons_succ, and_true] at F) | ((with_reducible refine gate_store (p := 3) rfl ?_); refine ev_store rfl 2 0 HS (seg := [.string a0.f0, .int .i64 a0.f1, .int .i64 a0.f2, .int .i64 a0.f3, .int .i64 a0.f4, .int .i64 a0.f5, .slice Ap0 a0.f6.length cp0, .string a0.f7]) rfl rfl rfl rfl rfl rfl (by kernel_rfl) (by simp [wrt]) (by simp [Value.oneCell']) ?_; clear HS; (try clear F); intro w7 HS; replace HS : Hp noFP w _ [.box g1 [.string a0.f0, .int .i64 a0.f1, .int .i64 a0.f2, .int .i64 a0.f3, .int .i64 a0.f4, .int .i64 a0.f5, .slice Ap0 a0.f6.length cp0, .string a0.f7] 49, .box g2 [.string (⟨#[]⟩ : ByteArray), .int .i64 0, .int .i64 0, .int .i64 0, .int .i64 0, .int .i64 0, .slice none 0 0, .string (⟨#[]⟩ : ByteArray)] 49, .box g3 [.string a0.f0, .int .i64 a0.f1, .int .i64 a0.f2, .int .i64 a0.f3, .int .i64 a0.f4, .int .i64 a0.f5, .slice Ap0 a0.f6.length cp0, .string a0.f7] 49] := HS; have F := HS.boxes; simp only [boxFacts, wrt, clr0, clr1, List.cons_append, List.nil_append, List.append_nil, List.set_cons_zero, List.set_cons_succ, and_true] at F) | ((with_reducible refine gate_dst (N := 7) rfl ?_); refine ev_lit rfl q171 [] ([] : List S171) [] HS (by first | (go_simp; done) | (go_simp; rfl)) rfl rfl (Nat.le_of_ble_eq_true rfl) MadeL.nil ?_; clear HS; (try clear F); intro v9 w9 HS; obtain ⟨B9, d9, rfl, m9⟩ := HS.formn 0 3 rfl rfl; replace HS : Hp noFP w _ [.box g1 [.string a0.f0, .int .i64 a0.f1, .int .i64 a0.f2, .int .i64 a0.f3, .int .i64 a0.f4, .int .i64 a0.f5, .slice Ap0 a0.f6.length cp0, .string a0.f7] 49, .box g2 [.string (⟨#[]⟩ : ByteArray), .int .i64 0, .int .i64 0, .int .i64 0, .int .i64 0, .int .i64 0, .slice none 0 0, .string (⟨#[]⟩ : ByteArray)] 49, .box g3 [.string a0.f0, .int .i64 a0.f1, .int .i64 a0.f2, .int .i64 a0.f3, .int .i64 a0.f4, .int .i64 a0.f5, .slice Ap0 a0.f6.length cp0, .string a0.f7] 49, .own (Zd.slice 171 q171) ([] : List S171) [.slice B9 0 d9]] := HS; have F := HS.boxes; simp only [boxFacts, wrt, clr0, clr1, List.cons_append, List.nil_append, List.append_nil, List.set_cons_zero, List.set_cons_succ, and_true] at F) | ((with_reducible refine gate_store (p := 8) rfl ?_); refine ev_store rfl 2 6 HS (seg := [.slice B9 0 d9]) rfl rfl rfl rfl rfl rfl (by kernel_rfl) (by simp [wrt]) (by simp [Value.oneCell']) ?_; clear HS; (try clear F); intro w11 HS; replace HS : Hp noFP w _ [.box g1 [.string a0.f0, .int .i64 a0.f1, .int .i64 a0.f2, .int .i64 a0.f3, .int .i64 a0.f4, .int .i64 a0.f5, .slice Ap0 a0.f6.length cp0, .string a0.f7] 49, .box g2 [.string (⟨#[]⟩ : ByteArray), .int .i64 0, .int .i64 0, .int .i64 0, .int .i64 0, .int .i64 0, .slice none 0 0, .string (⟨#[]⟩ : ByteArray)] 49, .box g3 [.string a0.f0, .int .i64 a0.f1, .int .i64 a0.f2, .int .i64 a0.f3, .int .i64 a0.f4, .int .i64 a0.f5, .slice B9 0 d9, .string a0.f7] 49, .own (Zd.slice 171 q171) ([] : List S171) [.slice B9 0 d9]] := HS; have F := HS.boxes; simp only [boxFacts, wrt, clr0, clr1, List.cons_append, List.nil_append, List.append_nil, List.set_cons_zero, List.set_cons_succ, and_true] at F))
 go_loopg [4] k (fun kq v_4 w' => ∃ (l50 : List S171) (v51 : Value) (x52 : Int), v_4 = .int .i64 x52 ∧ Aside0 (spec_l15Copy.l0 kq l50 x52 a0 = some r) ∧ Aside0 (kq ≤ k) ∧ Hp noFP w w' [.box g1 [.string a0.f0, .int .i64 a0.f1, .int .i64 a0.f2, .int .i64 a0.f3, .int .i64 a0.f4, .int .i64 a0.f5, .slice Ap0 a0.f6.length cp0, .string a0.f7] 49, .box g2 [.string (⟨#[]⟩ : ByteArray), .int .i64 0, .int .i64 0, .int .i64 0, .int .i64 0, .int .i64 0, .slice none 0 0, .string (⟨#[]⟩ : ByteArray)] 49, .box g3 [.string a0.f0, .int .i64 a0.f1, .int .i64 a0.f2, .int .i64 a0.f3, .int .i64 a0.f4, .int .i64 a0.f5, v51, .string a0.f7] 49, .own (Zd.slice 171 q171) l50 [v51]])
 case atStart => exact ⟨_, _, _, rfl, H, ⟨Nat.le_refl _⟩, HS⟩
 case round =>
  clear HS H; (try clear F)
  obtain ⟨l50, v51, x52, rfl, H, HKk49, HS⟩ := hrel
  obtain ⟨B51, d51, rfl, m51⟩ := HS.form 3 rfl
  have F := HS.boxes; simp only [boxFacts, wrt, clr0, clr1, List.cons_append, List.nil_append, List.append_nil, List.set_cons_zero, List.set_cons_succ, and_true] at F
  cases gk with
  | zero => exact absurd H.out (by simp [spec_l15Copy.l0])
  | succ k49 =>
   simp only [spec_l15Copy.l0] at H
   by_cases c54 : x52 < (a0.f6.length : Int)
   · replace H := zpos c54 H
     replace c54 := eq_true c54
     by_cases c55 : 0 ≤ x52
     case neg => exact zno c55 H
     replace H := zpos c55 H
     replace c55 := eq_true c55
     by_cases c56 : x52 < (a0.f6.length : Int)
     case neg => exact zno c56 H
     replace H := zpos c56 H
     replace c56 := eq_true c56
     obtain ⟨ad57, B57_2, d57_2, B57_3, d57_3, rfl, e57_0, e57_1, e57_2, e57_3, m57_2, y57_2, m57_3, y57_3⟩ := at_T171 gp0 x52 (of_eq_true c55) (of_eq_true c56)
     have e57_0_57 := HS.keepc e57_0
     have e57_1_57 := HS.keepc e57_1
     have e57_2_57 := HS.keepc e57_2
     have e57_3_57 := HS.keepc e57_3
     by_cases c64 : 0 + (rd_T171 a0.f6 x52).f2.length ≤ 8796093022208
     case neg => exact zno c64 H
     replace H := zpos c64 H
     replace c64 := eq_true c64
     obtain ⟨y65, e_y65, H⟩ := zlets H
     by_cases c71 : 0 + (rd_T171 a0.f6 x52).f3.length ≤ 8796093022208
     case neg => exact zno c71 H
     replace H := zpos c71 H
     replace c71 := eq_true c71
     obtain ⟨y72, e_y72, H⟩ := zlets H
     by_cases c78 : l50.length + 1 ≤ 2199023255552
     case neg => exact zno c78 H
     replace H := zpos c78 H
     replace c78 := eq_true c78
     obtain ⟨y79, e_y79, H⟩ := zlets H
     go_wp2_with (first | ((with_reducible refine gate_dst (N := 5) rfl ?_); refine ev_box rfl HS (by first | (go_simp; done) | (go_simp; rfl)) rfl ?_; clear HS; (try clear F); intro g5 w5 HS; replace HS : Hp noFP w _ [.box g1 [.string a0.f0, .int .i64 a0.f1, .int .i64 a0.f2, .int .i64 a0.f3, .int .i64 a0.f4, .int .i64 a0.f5, .slice (some ad57) a0.f6.length cp0, .string a0.f7] 49, .box g2 [.string (⟨#[]⟩ : ByteArray), .int .i64 0, .int .i64 0, .int .i64 0, .int .i64 0, .int .i64 0, .slice none 0 0, .string (⟨#[]⟩ : ByteArray)] 49, .box g3 [.string a0.f0, .int .i64 a0.f1, .int .i64 a0.f2, .int .i64 a0.f3, .int .i64 a0.f4, .int .i64 a0.f5, .slice B51 l50.length d51, .string a0.f7] 49, .own (Zd.slice 171 q171) l50 [.slice B51 l50.length d51], .box g5 [.int .i64 0, .int .i64 0, .slice none 0 0, .slice none 0 0] 171] := HS; have F := HS.boxes; simp only [boxFacts, wrt, clr0, clr1, List.cons_append, List.nil_append, List.append_nil, List.set_cons_zero, List.set_cons_succ, and_true] at F) | ((with_reducible refine gate_store (p := 5) rfl ?_); refine ev_store rfl 4 0 HS (seg := [.int .i64 ((rd_T171 a0.f6 x52).f0), .int .i64 ((rd_T171 a0.f6 x52).f1), .slice B57_2 (rd_T171 a0.f6 x52).f2.length d57_2, .slice B57_3 (rd_T171 a0.f6 x52).f3.length d57_3]) rfl rfl rfl rfl rfl rfl (by kernel_rfl) (by simp [wrt]) (by simp [Value.oneCell']) ?_; clear HS; (try clear F); intro w60 HS; replace HS : Hp noFP w _ [.box g1 [.string a0.f0, .int .i64 a0.f1, .int .i64 a0.f2, .int .i64 a0.f3, .int .i64 a0.f4, .int .i64 a0.f5, .slice (some ad57) a0.f6.length cp0, .string a0.f7] 49, .box g2 [.string (⟨#[]⟩ : ByteArray), .int .i64 0, .int .i64 0, .int .i64 0, .int .i64 0, .int .i64 0, .slice none 0 0, .string (⟨#[]⟩ : ByteArray)] 49, .box g3 [.string a0.f0, .int .i64 a0.f1, .int .i64 a0.f2, .int .i64 a0.f3, .int .i64 a0.f4, .int .i64 a0.f5, .slice B51 l50.length d51, .string a0.f7] 49, .own (Zd.slice 171 q171) l50 [.slice B51 l50.length d51], .box g5 [.int .i64 ((rd_T171 a0.f6 x52).f0), .int .i64 ((rd_T171 a0.f6 x52).f1), .slice B57_2 (rd_T171 a0.f6 x52).f2.length d57_2, .slice B57_3 (rd_T171 a0.f6 x52).f3.length d57_3] 171] := HS; have F := HS.boxes; simp only [boxFacts, wrt, clr0, clr1, List.cons_append, List.nil_append, List.append_nil, List.set_cons_zero, List.set_cons_succ, and_true] at F) | ((with_reducible refine gate_dst (N := 21) rfl ?_); refine ev_lit rfl Zd.string [] ([] : List ByteArray) [] HS (by first | (go_simp; done) | (go_simp; rfl)) rfl rfl (Nat.le_of_ble_eq_true rfl) MadeL.nil ?_; clear HS; (try clear F); intro v62 w62 HS; obtain ⟨B62, d62, rfl, m62⟩ := HS.formn 0 5 rfl rfl; replace HS : Hp noFP w _ [.box g1 [.string a0.f0, .int .i64 a0.f1, .int .i64 a0.f2, .int .i64 a0.f3, .int .i64 a0.f4, .int .i64 a0.f5, .slice (some ad57) a0.f6.length cp0, .string a0.f7] 49, .box g2 [.string (⟨#[]⟩ : ByteArray), .int .i64 0, .int .i64 0, .int .i64 0, .int .i64 0, .int .i64 0, .slice none 0 0, .string (⟨#[]⟩ : ByteArray)] 49, .box g3 [.string a0.f0, .int .i64 a0.f1, .int .i64 a0.f2, .int .i64 a0.f3, .int .i64 a0.f4, .int .i64 a0.f5, .slice B51 l50.length d51, .string a0.f7] 49, .own (Zd.slice 171 q171) l50 [.slice B51 l50.length d51], .box g5 [.int .i64 ((rd_T171 a0.f6 x52).f0), .int .i64 ((rd_T171 a0.f6 x52).f1), .slice B57_2 (rd_T171 a0.f6 x52).f2.length d57_2, .slice B57_3 (rd_T171 a0.f6 x52).f3.length d57_3] 171, .own (Zd.slice 9 Zd.string) ([] : List ByteArray) [.slice B62 0 d62]] := HS; have F := HS.boxes; simp only [boxFacts, wrt, clr0, clr1, List.cons_append, List.nil_append, List.append_nil, List.set_cons_zero, List.set_cons_succ, and_true] at F) | ((with_reducible refine gate_dst (N := 24) rfl ?_); refine ev_appendr rfl Zd.string flat_string 5 HS rfl (HS.ro y57_2) rfl rfl rfl Try.underlying65 info9 rfl (by decide) (by decide) (by have := of_eq_true c64; first | omega | (simp only [List.length_cons, List.length_nil, List.length_append, Nat.zero_add] at this ⊢; omega)) ?_; clear HS; (try clear F); intro v65 w65 HS; rw [← e_y65.out] at HS; obtain ⟨B65, d65, rfl, m65⟩ := HS.form 6 rfl; replace HS : Hp noFP w _ [.box g1 [.string a0.f0, .int .i64 a0.f1, .int .i64 a0.f2, .int .i64 a0.f3, .int .i64 a0.f4, .int .i64 a0.f5, .slice (some ad57) a0.f6.length cp0, .string a0.f7] 49, .box g2 [.string (⟨#[]⟩ : ByteArray), .int .i64 0, .int .i64 0, .int .i64 0, .int .i64 0, .int .i64 0, .slice none 0 0, .string (⟨#[]⟩ : ByteArray)] 49, .box g3 [.string a0.f0, .int .i64 a0.f1, .int .i64 a0.f2, .int .i64 a0.f3, .int .i64 a0.f4, .int .i64 a0.f5, .slice B51 l50.length d51, .string a0.f7] 49, .own (Zd.slice 171 q171) l50 [.slice B51 l50.length d51], .box g5 [.int .i64 ((rd_T171 a0.f6 x52).f0), .int .i64 ((rd_T171 a0.f6 x52).f1), .slice B57_2 (rd_T171 a0.f6 x52).f2.length d57_2, .slice B57_3 (rd_T171 a0.f6 x52).f3.length d57_3] 171, .emp, .own (Zd.slice 9 Zd.string) y65 [.slice B65 y65.length d65]] := HS; have F := HS.boxes; simp only [boxFacts, wrt, clr0, clr1, List.cons_append, List.nil_append, List.append_nil, List.set_cons_zero, List.set_cons_succ, and_true] at F) | ((with_reducible refine gate_store (p := 25) rfl ?_); refine ev_store rfl 4 2 HS (seg := [.slice B65 y65.length d65]) rfl rfl rfl rfl rfl rfl (by kernel_rfl) (by simp [wrt]) (by simp [Value.oneCell']) ?_; clear HS; (try clear F); intro w67 HS; replace HS : Hp noFP w _ [.box g1 [.string a0.f0, .int .i64 a0.f1, .int .i64 a0.f2, .int .i64 a0.f3, .int .i64 a0.f4, .int .i64 a0.f5, .slice (some ad57) a0.f6.length cp0, .string a0.f7] 49, .box g2 [.string (⟨#[]⟩ : ByteArray), .int .i64 0, .int .i64 0, .int .i64 0, .int .i64 0, .int .i64 0, .slice none 0 0, .string (⟨#[]⟩ : ByteArray)] 49, .box g3 [.string a0.f0, .int .i64 a0.f1, .int .i64 a0.f2, .int .i64 a0.f3, .int .i64 a0.f4, .int .i64 a0.f5, .slice B51 l50.length d51, .string a0.f7] 49, .own (Zd.slice 171 q171) l50 [.slice B51 l50.length d51], .box g5 [.int .i64 ((rd_T171 a0.f6 x52).f0), .int .i64 ((rd_T171 a0.f6 x52).f1), .slice B65 y65.length d65, .slice B57_3 (rd_T171 a0.f6 x52).f3.length d57_3] 171, .emp, .own (Zd.slice 9 Zd.string) y65 [.slice B65 y65.length d65]] := HS; have F := HS.boxes; simp only [boxFacts, wrt, clr0, clr1, List.cons_append, List.nil_append, List.append_nil, List.set_cons_zero, List.set_cons_succ, and_true] at F) | ((with_reducible refine gate_dst (N := 26) rfl ?_); refine ev_lit rfl Zd.string [] ([] : List ByteArray) [] HS (by first | (go_simp; done) | (go_simp; rfl)) rfl rfl (Nat.le_of_ble_eq_true rfl) MadeL.nil ?_; clear HS; (try clear F); intro v69 w69 HS; obtain ⟨B69, d69, rfl, m69⟩ := HS.formn 0 7 rfl rfl; replace HS : Hp noFP w _ [.box g1 [.string a0.f0, .int .i64 a0.f1, .int .i64 a0.f2, .int .i64 a0.f3, .int .i64 a0.f4, .int .i64 a0.f5, .slice (some ad57) a0.f6.length cp0, .string a0.f7] 49, .box g2 [.string (⟨#[]⟩ : ByteArray), .int .i64 0, .int .i64 0, .int .i64 0, .int .i64 0, .int .i64 0, .slice none 0 0, .string (⟨#[]⟩ : ByteArray)] 49, .box g3 [.string a0.f0, .int .i64 a0.f1, .int .i64 a0.f2, .int .i64 a0.f3, .int .i64 a0.f4, .int .i64 a0.f5, .slice B51 l50.length d51, .string a0.f7] 49, .own (Zd.slice 171 q171) l50 [.slice B51 l50.length d51], .box g5 [.int .i64 ((rd_T171 a0.f6 x52).f0), .int .i64 ((rd_T171 a0.f6 x52).f1), .slice B65 y65.length d65, .slice B57_3 (rd_T171 a0.f6 x52).f3.length d57_3] 171, .emp, .own (Zd.slice 9 Zd.string) y65 [.slice B65 y65.length d65], .own (Zd.slice 9 Zd.string) ([] : List ByteArray) [.slice B69 0 d69]] := HS; have F := HS.boxes; simp only [boxFacts, wrt, clr0, clr1, List.cons_append, List.nil_append, List.append_nil, List.set_cons_zero, List.set_cons_succ, and_true] at F) | ((with_reducible refine gate_dst (N := 29) rfl ?_); refine ev_appendr rfl Zd.string flat_string 7 HS rfl (HS.ro y57_3) rfl rfl rfl Try.underlying65 info9 rfl (by decide) (by decide) (by have := of_eq_true c71; first | omega | (simp only [List.length_cons, List.length_nil, List.length_append, Nat.zero_add] at this ⊢; omega)) ?_; clear HS; (try clear F); intro v72 w72 HS; rw [← e_y72.out] at HS; obtain ⟨B72, d72, rfl, m72⟩ := HS.form 8 rfl; replace HS : Hp noFP w _ [.box g1 [.string a0.f0, .int .i64 a0.f1, .int .i64 a0.f2, .int .i64 a0.f3, .int .i64 a0.f4, .int .i64 a0.f5, .slice (some ad57) a0.f6.length cp0, .string a0.f7] 49, .box g2 [.string (⟨#[]⟩ : ByteArray), .int .i64 0, .int .i64 0, .int .i64 0, .int .i64 0, .int .i64 0, .slice none 0 0, .string (⟨#[]⟩ : ByteArray)] 49, .box g3 [.string a0.f0, .int .i64 a0.f1, .int .i64 a0.f2, .int .i64 a0.f3, .int .i64 a0.f4, .int .i64 a0.f5, .slice B51 l50.length d51, .string a0.f7] 49, .own (Zd.slice 171 q171) l50 [.slice B51 l50.length d51], .box g5 [.int .i64 ((rd_T171 a0.f6 x52).f0), .int .i64 ((rd_T171 a0.f6 x52).f1), .slice B65 y65.length d65, .slice B57_3 (rd_T171 a0.f6 x52).f3.length d57_3] 171, .emp, .own (Zd.slice 9 Zd.string) y65 [.slice B65 y65.length d65], .emp, .own (Zd.slice 9 Zd.string) y72 [.slice B72 y72.length d72]] := HS; have F := HS.boxes; simp only [boxFacts, wrt, clr0, clr1, List.cons_append, List.nil_append, List.append_nil, List.set_cons_zero, List.set_cons_succ, and_true] at F) | ((with_reducible refine gate_store (p := 30) rfl ?_); refine ev_store rfl 4 3 HS (seg := [.slice B72 y72.length d72]) rfl rfl rfl rfl rfl rfl (by kernel_rfl) (by simp [wrt]) (by simp [Value.oneCell']) ?_; clear HS; (try clear F); intro w74 HS; replace HS : Hp noFP w _ [.box g1 [.string a0.f0, .int .i64 a0.f1, .int .i64 a0.f2, .int .i64 a0.f3, .int .i64 a0.f4, .int .i64 a0.f5, .slice (some ad57) a0.f6.length cp0, .string a0.f7] 49, .box g2 [.string (⟨#[]⟩ : ByteArray), .int .i64 0, .int .i64 0, .int .i64 0, .int .i64 0, .int .i64 0, .slice none 0 0, .string (⟨#[]⟩ : ByteArray)] 49, .box g3 [.string a0.f0, .int .i64 a0.f1, .int .i64 a0.f2, .int .i64 a0.f3, .int .i64 a0.f4, .int .i64 a0.f5, .slice B51 l50.length d51, .string a0.f7] 49, .own (Zd.slice 171 q171) l50 [.slice B51 l50.length d51], .box g5 [.int .i64 ((rd_T171 a0.f6 x52).f0), .int .i64 ((rd_T171 a0.f6 x52).f1), .slice B65 y65.length d65, .slice B72 y72.length d72] 171, .emp, .own (Zd.slice 9 Zd.string) y65 [.slice B65 y65.length d65], .emp, .own (Zd.slice 9 Zd.string) y72 [.slice B72 y72.length d72]] := HS; have F := HS.boxes; simp only [boxFacts, wrt, clr0, clr1, List.cons_append, List.nil_append, List.append_nil, List.set_cons_zero, List.set_cons_succ, and_true] at F) | ((with_reducible refine gate_dst (N := 34) rfl ?_); refine ev_lit rfl q171 [6, 8] ([(⟨(rd_T171 a0.f6 x52).f0, (rd_T171 a0.f6 x52).f1, y65, y72⟩ : S171)] : List S171) ([.int .i64 ((rd_T171 a0.f6 x52).f0), .int .i64 ((rd_T171 a0.f6 x52).f1), .slice B65 y65.length d65, .slice B72 y72.length d72] ++ []) HS (by first | (go_simp; done) | (go_simp; rfl)) rfl rfl (Nat.le_of_ble_eq_true rfl) (MadeL.cons (js1 := [6, 8]) (c := [.int .i64 ((rd_T171 a0.f6 x52).f0), .int .i64 ((rd_T171 a0.f6 x52).f1), .slice B65 y65.length d65, .slice B72 y72.length d72]) rfl (fun S hd hh => q171_pack (x := (⟨(rd_T171 a0.f6 x52).f0, (rd_T171 a0.f6 x52).f1, y65, y72⟩ : S171)) hd (hh 6 (.own (Zd.slice 9 Zd.string) y65 [.slice B65 y65.length d65]) rfl) (hh 8 (.own (Zd.slice 9 Zd.string) y72 [.slice B72 y72.length d72]) rfl) (by decide)) MadeL.nil (by decide)) ?_; clear HS; (try clear F); intro v76 w76 HS; obtain ⟨B76, d76, rfl, m76⟩ := HS.formn 1 9 rfl rfl; replace HS : Hp noFP w _ [.box g1 [.string a0.f0, .int .i64 a0.f1, .int .i64 a0.f2, .int .i64 a0.f3, .int .i64 a0.f4, .int .i64 a0.f5, .slice (some ad57) a0.f6.length cp0, .string a0.f7] 49, .box g2 [.string (⟨#[]⟩ : ByteArray), .int .i64 0, .int .i64 0, .int .i64 0, .int .i64 0, .int .i64 0, .slice none 0 0, .string (⟨#[]⟩ : ByteArray)] 49, .box g3 [.string a0.f0, .int .i64 a0.f1, .int .i64 a0.f2, .int .i64 a0.f3, .int .i64 a0.f4, .int .i64 a0.f5, .slice B51 l50.length d51, .string a0.f7] 49, .own (Zd.slice 171 q171) l50 [.slice B51 l50.length d51], .box g5 [.int .i64 ((rd_T171 a0.f6 x52).f0), .int .i64 ((rd_T171 a0.f6 x52).f1), .slice B65 y65.length d65, .slice B72 y72.length d72] 171, .emp, .emp, .emp, .emp, .own (Zd.slice 171 q171) ([(⟨(rd_T171 a0.f6 x52).f0, (rd_T171 a0.f6 x52).f1, y65, y72⟩ : S171)] : List S171) [.slice B76 1 d76]] := HS; have F := HS.boxes; simp only [boxFacts, wrt, clr0, clr1, List.cons_append, List.nil_append, List.append_nil, List.set_cons_zero, List.set_cons_succ, and_true] at F) | ((with_reducible refine gate_dst (N := 35) rfl ?_); refine ev_append rfl q171 3 9 HS rfl rfl (by decide) rfl rfl rfl Try.underlying47 info171 rfl (by decide) (by decide) (by have := of_eq_true c78; first | omega | (simp only [List.length_cons, List.length_nil, List.length_append, Nat.zero_add] at this ⊢; omega)) ?_; clear HS; (try clear F); intro v79 w79 HS; rw [← e_y79.out] at HS; obtain ⟨B79, d79, rfl, m79⟩ := HS.form 10 rfl; replace HS : Hp noFP w _ [.box g1 [.string a0.f0, .int .i64 a0.f1, .int .i64 a0.f2, .int .i64 a0.f3, .int .i64 a0.f4, .int .i64 a0.f5, .slice (some ad57) a0.f6.length cp0, .string a0.f7] 49, .box g2 [.string (⟨#[]⟩ : ByteArray), .int .i64 0, .int .i64 0, .int .i64 0, .int .i64 0, .int .i64 0, .slice none 0 0, .string (⟨#[]⟩ : ByteArray)] 49, .box g3 [.string a0.f0, .int .i64 a0.f1, .int .i64 a0.f2, .int .i64 a0.f3, .int .i64 a0.f4, .int .i64 a0.f5, .slice B51 l50.length d51, .string a0.f7] 49, .emp, .box g5 [.int .i64 ((rd_T171 a0.f6 x52).f0), .int .i64 ((rd_T171 a0.f6 x52).f1), .slice B65 y65.length d65, .slice B72 y72.length d72] 171, .emp, .emp, .emp, .emp, .emp, .own (Zd.slice 171 q171) y79 [.slice B79 y79.length d79]] := HS; have F := HS.boxes; simp only [boxFacts, wrt, clr0, clr1, List.cons_append, List.nil_append, List.append_nil, List.set_cons_zero, List.set_cons_succ, and_true] at F) | ((with_reducible refine gate_store (p := 36) rfl ?_); refine ev_store rfl 2 6 HS (seg := [.slice B79 y79.length d79]) rfl rfl rfl rfl rfl rfl (by kernel_rfl) (by simp [wrt]) (by simp [Value.oneCell']) ?_; clear HS; (try clear F); intro w81 HS; replace HS : Hp noFP w _ [.box g1 [.string a0.f0, .int .i64 a0.f1, .int .i64 a0.f2, .int .i64 a0.f3, .int .i64 a0.f4, .int .i64 a0.f5, .slice (some ad57) a0.f6.length cp0, .string a0.f7] 49, .box g2 [.string (⟨#[]⟩ : ByteArray), .int .i64 0, .int .i64 0, .int .i64 0, .int .i64 0, .int .i64 0, .slice none 0 0, .string (⟨#[]⟩ : ByteArray)] 49, .box g3 [.string a0.f0, .int .i64 a0.f1, .int .i64 a0.f2, .int .i64 a0.f3, .int .i64 a0.f4, .int .i64 a0.f5, .slice B79 y79.length d79, .string a0.f7] 49, .emp, .box g5 [.int .i64 ((rd_T171 a0.f6 x52).f0), .int .i64 ((rd_T171 a0.f6 x52).f1), .slice B65 y65.length d65, .slice B72 y72.length d72] 171, .emp, .emp, .emp, .emp, .emp, .own (Zd.slice 171 q171) y79 [.slice B79 y79.length d79]] := HS; have F := HS.boxes; simp only [boxFacts, wrt, clr0, clr1, List.cons_append, List.nil_append, List.append_nil, List.set_cons_zero, List.set_cons_succ, and_true] at F))
     go_roundg k49
     case measure => have := HKk49.out; omega
     case rel => exact ⟨_, _, _, rfl, H, ⟨by have := HKk49.out; omega⟩, HS.pick [0, 1, 2, 10] (by decide) (by rfl)⟩
   · replace H := zneg c54 H
     replace c54 := eq_false c54
     obtain rfl := zsome H
     go_wp2_with (first | ((with_reducible refine gate_store (p := 2) rfl ?_); refine ev_store rfl 1 0 HS (seg := [.string a0.f0, .int .i64 a0.f1, .int .i64 a0.f2, .int .i64 a0.f3, .int .i64 a0.f4, .int .i64 a0.f5, .slice B51 l50.length d51, .string a0.f7]) rfl rfl rfl rfl rfl rfl (by kernel_rfl) (by simp [wrt]) (by simp [Value.oneCell']) ?_; clear HS; (try clear F); intro w83 HS; replace HS : Hp noFP w _ [.box g1 [.string a0.f0, .int .i64 a0.f1, .int .i64 a0.f2, .int .i64 a0.f3, .int .i64 a0.f4, .int .i64 a0.f5, .slice Ap0 a0.f6.length cp0, .string a0.f7] 49, .box g2 [.string a0.f0, .int .i64 a0.f1, .int .i64 a0.f2, .int .i64 a0.f3, .int .i64 a0.f4, .int .i64 a0.f5, .slice B51 l50.length d51, .string a0.f7] 49, .box g3 [.string a0.f0, .int .i64 a0.f1, .int .i64 a0.f2, .int .i64 a0.f3, .int .i64 a0.f4, .int .i64 a0.f5, .slice B51 l50.length d51, .string a0.f7] 49, .own (Zd.slice 171 q171) l50 [.slice B51 l50.length d51]] := HS; have F := HS.boxes; simp only [boxFacts, wrt, clr0, clr1, List.cons_append, List.nil_append, List.append_nil, List.set_cons_zero, List.set_cons_succ, and_true] at F))
     exact bodyPost_ret (results_single rfl (.cell _ _ _ _ _ rfl (HS.boxAt (i := 1) rfl) Try.underlying49 rfl (by kernel_rfl) .nil)) rfl ⟨_, rfl, HS.pick [3] (by decide) (by rfl)⟩
/-! ### spec_GotOf: function 32 -/
def spec_GotOf.l0 : Nat → Int → S37 → Int → Option (S49 × Bool)
  | 0, _, _, _ => none
  | k + 1, x8, a0, a1 => (if x8 < (a0.f3.length : Int) then (if 0 ≤ x8 then (if x8 < (a0.f3.length : Int) then (if (rd_T117 a0.f3 x8).f0 = a1 then ((spec_l15Copy.f k (⟨(rd_T117 a0.f3 x8).f1.f0, (rd_T117 a0.f3 x8).f1.f1, (rd_T117 a0.f3 x8).f1.f2, (rd_T117 a0.f3 x8).f1.f3, (rd_T117 a0.f3 x8).f1.f4, (rd_T117 a0.f3 x8).f1.f5, (rd_T117 a0.f3 x8).f1.f6, (rd_T117 a0.f3 x8).f1.f7⟩ : S49)).bind fun t16 => (some ((⟨t16.f0, t16.f1, t16.f2, t16.f3, t16.f4, t16.f5, t16.f6, t16.f7⟩ : S49), true))) else (spec_GotOf.l0 k (wrap64 (x8 + 1)) a0 a1)) else none) else none) else (some ((⟨(⟨#[]⟩ : ByteArray), 0, 0, 0, 0, 0, ([] : List S171), (⟨#[]⟩ : ByteArray)⟩ : S49), false)))
def spec_GotOf.f (k : Nat) (a0 : S37) (a1 : Int) : Option (S49 × Bool) := (spec_GotOf.l0 k 0 a0 a1)
set_option maxHeartbeats 16000000 in
theorem spec_GotOf.calls {k : Nat} {a0 : S37} {a1 : Int} {Ap0 : Option Addr} {np0 cp0 : Nat} {Ap1 : Option Addr} {np1 cp1 : Nat} {Ap2 : Option Addr} {np2 cp2 : Nat} {r1 : S49} {r2 : Bool} {w : World} (h : spec_GotOf.f k a0 a1 = some (r1, r2)) (gp0 : k165.C w Ap0 np0 a0.f2) (lp0 : np0 ≤ cp0) (gp1 : k117.C w Ap1 np1 a0.f3) (lp1 : np1 ≤ cp1) (gp2 : (Kd.int .i64).C w Ap2 np2 a0.f4) (lp2 : np2 ≤ cp2) :
    Calls Try.prog 32 #[.agg #[.string a0.f0, .int .i64 a0.f1, .slice Ap0 np0 cp0, .slice Ap1 np1 cp1, .slice Ap2 np2 cp2], .int .i64 a1] w (fun e w' => ∃ v0_ : Value, e = .returned (.tuple #[.agg #[.string r1.f0, .int .i64 r1.f1, .int .i64 r1.f2, .int .i64 r1.f3, .int .i64 r1.f4, .int .i64 r1.f5, v0_, .string r1.f7], .bool r2]) ∧ Hp noFP w w' [.own (Zd.slice 171 q171) r1.f6 [v0_]]) := by
 obtain rfl := C_len gp0
 obtain rfl := C_len gp1
 obtain rfl := C_len gp2
 have HS := Hp.start w
 have H := Aside0.mk h
 clear h
 unfold spec_GotOf.f at H
 go_enter Try.func32, Try.ntmps32
 go_wp2_with (first | ((with_reducible refine gate_dst (N := 2) rfl ?_); refine ev_box rfl HS (by first | (go_simp; done) | (go_simp; rfl)) rfl ?_; clear HS; (try clear F); intro g2 w2 HS; replace HS : Hp noFP w _ [.box g2 [.string a0.f0, .int .i64 a0.f1, .slice Ap0 a0.f2.length cp0, .slice Ap1 a0.f3.length cp1, .slice Ap2 a0.f4.length cp2] 37] := HS; have F := HS.boxes; simp only [boxFacts, wrt, clr0, clr1, List.cons_append, List.nil_append, List.append_nil, List.set_cons_zero, List.set_cons_succ, and_true] at F) | ((with_reducible refine gate_dst (N := 4) rfl ?_); refine ev_box rfl HS (by first | (go_simp; done) | (go_simp; rfl)) rfl ?_; clear HS; (try clear F); intro g4 w4 HS; replace HS : Hp noFP w _ [.box g2 [.string a0.f0, .int .i64 a0.f1, .slice Ap0 a0.f2.length cp0, .slice Ap1 a0.f3.length cp1, .slice Ap2 a0.f4.length cp2] 37, .box g4 [.string (⟨#[]⟩ : ByteArray), .int .i64 0, .int .i64 0, .int .i64 0, .int .i64 0, .int .i64 0, .slice none 0 0, .string (⟨#[]⟩ : ByteArray)] 49] := HS; have F := HS.boxes; simp only [boxFacts, wrt, clr0, clr1, List.cons_append, List.nil_append, List.append_nil, List.set_cons_zero, List.set_cons_succ, and_true] at F))
 go_loopg [6] k (fun kq v_6 w' => ∃ (x8 : Int), v_6 = .int .i64 x8 ∧ Aside0 (spec_GotOf.l0 kq x8 a0 a1 = some (r1, r2)) ∧ Aside0 (kq ≤ k) ∧ Hp noFP w w' [.box g2 [.string a0.f0, .int .i64 a0.f1, .slice Ap0 a0.f2.length cp0, .slice Ap1 a0.f3.length cp1, .slice Ap2 a0.f4.length cp2] 37, .box g4 [.string (⟨#[]⟩ : ByteArray), .int .i64 0, .int .i64 0, .int .i64 0, .int .i64 0, .int .i64 0, .slice none 0 0, .string (⟨#[]⟩ : ByteArray)] 49])
 case atStart => exact ⟨_, rfl, H, ⟨Nat.le_refl _⟩, HS⟩
 case round =>
  clear HS H; (try clear F)
  obtain ⟨x8, rfl, H, HKk7, HS⟩ := hrel
  have F := HS.boxes; simp only [boxFacts, wrt, clr0, clr1, List.cons_append, List.nil_append, List.append_nil, List.set_cons_zero, List.set_cons_succ, and_true] at F
  cases gk with
  | zero => exact absurd H.out (by simp [spec_GotOf.l0])
  | succ k7 =>
   simp only [spec_GotOf.l0] at H
   by_cases c10 : x8 < (a0.f3.length : Int)
   · replace H := zpos c10 H
     replace c10 := eq_true c10
     by_cases c11 : 0 ≤ x8
     case neg => exact zno c11 H
     replace H := zpos c11 H
     replace c11 := eq_true c11
     by_cases c12 : x8 < (a0.f3.length : Int)
     case neg => exact zno c12 H
     replace H := zpos c12 H
     replace c12 := eq_true c12
     obtain ⟨ad13, B13_7, d13_7, rfl, e13_0, e13_1, e13_2, e13_3, e13_4, e13_5, e13_6, e13_7, e13_8, m13_7, y13_7⟩ := at_T117 gp1 x8 (of_eq_true c11) (of_eq_true c12)
     have e13_0_13 := HS.keepc e13_0
     have e13_1_13 := HS.keepc e13_1
     have e13_2_13 := HS.keepc e13_2
     have e13_3_13 := HS.keepc e13_3
     have e13_4_13 := HS.keepc e13_4
     have e13_5_13 := HS.keepc e13_5
     have e13_6_13 := HS.keepc e13_6
     have e13_7_13 := HS.keepc e13_7
     have e13_8_13 := HS.keepc e13_8
     by_cases c14 : (rd_T117 a0.f3 x8).f0 = a1
     · replace H := zpos c14 H
       have c14a := beq_iff_eq.mpr c14
       have c14b := bne_eq_false_iff_eq.mpr c14
       clear c14
       have e13_0_15 := HS.keepc e13_0
       have e13_1_15 := HS.keepc e13_1
       have e13_2_15 := HS.keepc e13_2
       have e13_3_15 := HS.keepc e13_3
       have e13_4_15 := HS.keepc e13_4
       have e13_5_15 := HS.keepc e13_5
       have e13_6_15 := HS.keepc e13_6
       have e13_7_15 := HS.keepc e13_7
       have e13_8_15 := HS.keepc e13_8
       obtain ⟨t16, ht16, H⟩ := zbind H
       obtain ⟨rfl, rfl⟩ := zsome2 H
       go_wp2_with (first | ((with_reducible refine gate_dst (N := 28) rfl ?_); refine ev_call rfl Try.func78 (by kernel_rfl) rfl #[.agg #[.string ((rd_T117 a0.f3 x8).f1.f0), .int .i64 ((rd_T117 a0.f3 x8).f1.f1), .int .i64 ((rd_T117 a0.f3 x8).f1.f2), .int .i64 ((rd_T117 a0.f3 x8).f1.f3), .int .i64 ((rd_T117 a0.f3 x8).f1.f4), .int .i64 ((rd_T117 a0.f3 x8).f1.f5), .slice B13_7 (rd_T117 a0.f3 x8).f1.f6.length d13_7, .string ((rd_T117 a0.f3 x8).f1.f7)]] rfl (by simp only [List.map_toArray, List.map_cons, List.map_nil]; rfl) ?_; refine (spec_l15Copy.calls ht16.out (HS.ro y13_7) m13_7).mono ?_; rintro _ wt16 ⟨v17, rfl, HQ⟩; refine ⟨_, rfl, ?_⟩; replace HS := HS.call HQ; clear HQ; (try clear F); obtain ⟨B17, d17, rfl, m17⟩ := HS.form 2 rfl; replace HS : Hp noFP w _ [.box g2 [.string a0.f0, .int .i64 a0.f1, .slice Ap0 a0.f2.length cp0, .slice (some ad13) a0.f3.length cp1, .slice Ap2 a0.f4.length cp2] 37, .box g4 [.string (⟨#[]⟩ : ByteArray), .int .i64 0, .int .i64 0, .int .i64 0, .int .i64 0, .int .i64 0, .slice none 0 0, .string (⟨#[]⟩ : ByteArray)] 49, .own (Zd.slice 171 q171) t16.f6 [.slice B17 t16.f6.length d17]] := HS; have F := HS.boxes; simp only [boxFacts, wrt, clr0, clr1, List.cons_append, List.nil_append, List.append_nil, List.set_cons_zero, List.set_cons_succ, and_true] at F) | ((with_reducible refine gate_store (p := 4) rfl ?_); refine ev_store rfl 1 0 HS (seg := [.string t16.f0, .int .i64 t16.f1, .int .i64 t16.f2, .int .i64 t16.f3, .int .i64 t16.f4, .int .i64 t16.f5, .slice B17 t16.f6.length d17, .string t16.f7]) rfl rfl rfl rfl rfl rfl (by kernel_rfl) (by simp [wrt]) (by simp [Value.oneCell']) ?_; clear HS; (try clear F); intro w19 HS; replace HS : Hp noFP w _ [.box g2 [.string a0.f0, .int .i64 a0.f1, .slice Ap0 a0.f2.length cp0, .slice (some ad13) a0.f3.length cp1, .slice Ap2 a0.f4.length cp2] 37, .box g4 [.string t16.f0, .int .i64 t16.f1, .int .i64 t16.f2, .int .i64 t16.f3, .int .i64 t16.f4, .int .i64 t16.f5, .slice B17 t16.f6.length d17, .string t16.f7] 49, .own (Zd.slice 171 q171) t16.f6 [.slice B17 t16.f6.length d17]] := HS; have F := HS.boxes; simp only [boxFacts, wrt, clr0, clr1, List.cons_append, List.nil_append, List.append_nil, List.set_cons_zero, List.set_cons_succ, and_true] at F))
       exact bodyPost_ret (results_list (rs := [.cell 4 49, .tmp 5]) rfl (by simp) (.cell _ _ _ _ _ rfl (HS.boxAt (i := 1) rfl) Try.underlying49 rfl (by kernel_rfl) (.tmp .nil))) rfl ⟨_, rfl, HS.pick [2] (by decide) (by rfl)⟩
     · replace H := zneg c14 H
       have c14a := beq_eq_false_iff_ne.mpr c14
       have c14b := bne_iff_ne.mpr c14
       clear c14
       go_wp2
       go_roundg k7
       case measure => have := HKk7.out; omega
       case rel => exact ⟨_, rfl, H, ⟨by have := HKk7.out; omega⟩, HS.pick [0, 1] (by decide) (by rfl)⟩
   · replace H := zneg c10 H
     replace c10 := eq_false c10
     obtain ⟨rfl, rfl⟩ := zsome2 H
     go_wp2_with (first | ((with_reducible refine gate_store (p := 4) rfl ?_); refine ev_store rfl 1 0 HS (seg := [.string (⟨#[]⟩ : ByteArray), .int .i64 0, .int .i64 0, .int .i64 0, .int .i64 0, .int .i64 0, .slice none 0 0, .string (⟨#[]⟩ : ByteArray)]) rfl rfl rfl rfl rfl rfl (by kernel_rfl) (by simp [wrt]) (by simp [Value.oneCell']) ?_; clear HS; (try clear F); intro w21 HS; replace HS : Hp noFP w _ [.box g2 [.string a0.f0, .int .i64 a0.f1, .slice Ap0 a0.f2.length cp0, .slice Ap1 a0.f3.length cp1, .slice Ap2 a0.f4.length cp2] 37, .box g4 [.string (⟨#[]⟩ : ByteArray), .int .i64 0, .int .i64 0, .int .i64 0, .int .i64 0, .int .i64 0, .slice none 0 0, .string (⟨#[]⟩ : ByteArray)] 49] := HS; have F := HS.boxes; simp only [boxFacts, wrt, clr0, clr1, List.cons_append, List.nil_append, List.append_nil, List.set_cons_zero, List.set_cons_succ, and_true] at F))
     replace HS := HS.nil 171 q171
     exact bodyPost_ret (results_list (rs := [.cell 4 49, .tmp 5]) rfl (by simp) (.cell _ _ _ _ _ rfl (HS.boxAt (i := 1) rfl) Try.underlying49 rfl (by kernel_rfl) (.tmp .nil))) rfl ⟨_, rfl, HS.pick [2] (by decide) (by rfl)⟩
/-! ### laws_toWait: function 139 -/
def laws_toWait.f (a0 : S184) : Option (S165) := (some (⟨a0.f0, a0.f1, a0.f2, a0.f3⟩ : S165))
set_option maxHeartbeats 16000000 in
theorem laws_toWait.calls {a0 : S184} {r : S165} {w : World} (h : laws_toWait.f a0 = some r) :
    Calls Try.prog 139 #[.agg #[.int .i64 a0.f0, .int .i64 a0.f1, .string a0.f2, .int .i64 a0.f3]] w (fun e w' => e = .returned (.agg #[.int .i64 r.f0, .int .i64 r.f1, .string r.f2, .int .i64 r.f3]) ∧ Hp noFP w w' []) := by
 have HS := Hp.start w
 have H := Aside0.mk h
 clear h
 unfold laws_toWait.f at H
 go_enter Try.func139, Try.ntmps139
 obtain rfl := zsome H
 go_wp2_with (first | ((with_reducible refine gate_dst (N := 1) rfl ?_); refine ev_box rfl HS (by first | (go_simp; done) | (go_simp; rfl)) rfl ?_; clear HS; (try clear F); intro g1 w1 HS; replace HS : Hp noFP w _ [.box g1 [.int .i64 a0.f0, .int .i64 a0.f1, .string a0.f2, .int .i64 a0.f3] 184] := HS; have F := HS.boxes; simp only [boxFacts, wrt, clr0, clr1, List.cons_append, List.nil_append, List.append_nil, List.set_cons_zero, List.set_cons_succ, and_true] at F) | ((with_reducible refine gate_dst (N := 2) rfl ?_); refine ev_box rfl HS (by first | (go_simp; done) | (go_simp; rfl)) rfl ?_; clear HS; (try clear F); intro g2 w2 HS; replace HS : Hp noFP w _ [.box g1 [.int .i64 a0.f0, .int .i64 a0.f1, .string a0.f2, .int .i64 a0.f3] 184, .box g2 [.int .i64 0, .int .i64 0, .string (⟨#[]⟩ : ByteArray), .int .i64 0] 165] := HS; have F := HS.boxes; simp only [boxFacts, wrt, clr0, clr1, List.cons_append, List.nil_append, List.append_nil, List.set_cons_zero, List.set_cons_succ, and_true] at F) | ((with_reducible refine gate_dst (N := 3) rfl ?_); refine ev_box rfl HS (by first | (go_simp; done) | (go_simp; rfl)) rfl ?_; clear HS; (try clear F); intro g3 w3 HS; replace HS : Hp noFP w _ [.box g1 [.int .i64 a0.f0, .int .i64 a0.f1, .string a0.f2, .int .i64 a0.f3] 184, .box g2 [.int .i64 0, .int .i64 0, .string (⟨#[]⟩ : ByteArray), .int .i64 0] 165, .box g3 [.int .i64 0, .int .i64 0, .string (⟨#[]⟩ : ByteArray), .int .i64 0] 165] := HS; have F := HS.boxes; simp only [boxFacts, wrt, clr0, clr1, List.cons_append, List.nil_append, List.append_nil, List.set_cons_zero, List.set_cons_succ, and_true] at F) | ((with_reducible refine gate_store (p := 6) rfl ?_); refine ev_store rfl 2 0 HS (seg := [.int .i64 a0.f0]) rfl rfl rfl rfl rfl rfl (by kernel_rfl) (by simp [wrt]) (by simp [Value.oneCell']) ?_; clear HS; (try clear F); intro w7 HS; replace HS : Hp noFP w _ [.box g1 [.int .i64 a0.f0, .int .i64 a0.f1, .string a0.f2, .int .i64 a0.f3] 184, .box g2 [.int .i64 0, .int .i64 0, .string (⟨#[]⟩ : ByteArray), .int .i64 0] 165, .box g3 [.int .i64 a0.f0, .int .i64 0, .string (⟨#[]⟩ : ByteArray), .int .i64 0] 165] := HS; have F := HS.boxes; simp only [boxFacts, wrt, clr0, clr1, List.cons_append, List.nil_append, List.append_nil, List.set_cons_zero, List.set_cons_succ, and_true] at F) | ((with_reducible refine gate_store (p := 9) rfl ?_); refine ev_store rfl 2 1 HS (seg := [.int .i64 a0.f1]) rfl rfl rfl rfl rfl rfl (by kernel_rfl) (by simp [wrt]) (by simp [Value.oneCell']) ?_; clear HS; (try clear F); intro w9 HS; replace HS : Hp noFP w _ [.box g1 [.int .i64 a0.f0, .int .i64 a0.f1, .string a0.f2, .int .i64 a0.f3] 184, .box g2 [.int .i64 0, .int .i64 0, .string (⟨#[]⟩ : ByteArray), .int .i64 0] 165, .box g3 [.int .i64 a0.f0, .int .i64 a0.f1, .string (⟨#[]⟩ : ByteArray), .int .i64 0] 165] := HS; have F := HS.boxes; simp only [boxFacts, wrt, clr0, clr1, List.cons_append, List.nil_append, List.append_nil, List.set_cons_zero, List.set_cons_succ, and_true] at F) | ((with_reducible refine gate_store (p := 12) rfl ?_); refine ev_store rfl 2 2 HS (seg := [.string a0.f2]) rfl rfl rfl rfl rfl rfl (by kernel_rfl) (by simp [wrt]) (by simp [Value.oneCell']) ?_; clear HS; (try clear F); intro w11 HS; replace HS : Hp noFP w _ [.box g1 [.int .i64 a0.f0, .int .i64 a0.f1, .string a0.f2, .int .i64 a0.f3] 184, .box g2 [.int .i64 0, .int .i64 0, .string (⟨#[]⟩ : ByteArray), .int .i64 0] 165, .box g3 [.int .i64 a0.f0, .int .i64 a0.f1, .string a0.f2, .int .i64 0] 165] := HS; have F := HS.boxes; simp only [boxFacts, wrt, clr0, clr1, List.cons_append, List.nil_append, List.append_nil, List.set_cons_zero, List.set_cons_succ, and_true] at F) | ((with_reducible refine gate_store (p := 15) rfl ?_); refine ev_store rfl 2 3 HS (seg := [.int .i64 a0.f3]) rfl rfl rfl rfl rfl rfl (by kernel_rfl) (by simp [wrt]) (by simp [Value.oneCell']) ?_; clear HS; (try clear F); intro w13 HS; replace HS : Hp noFP w _ [.box g1 [.int .i64 a0.f0, .int .i64 a0.f1, .string a0.f2, .int .i64 a0.f3] 184, .box g2 [.int .i64 0, .int .i64 0, .string (⟨#[]⟩ : ByteArray), .int .i64 0] 165, .box g3 [.int .i64 a0.f0, .int .i64 a0.f1, .string a0.f2, .int .i64 a0.f3] 165] := HS; have F := HS.boxes; simp only [boxFacts, wrt, clr0, clr1, List.cons_append, List.nil_append, List.append_nil, List.set_cons_zero, List.set_cons_succ, and_true] at F) | ((with_reducible refine gate_store (p := 2) rfl ?_); refine ev_store rfl 1 0 HS (seg := [.int .i64 a0.f0, .int .i64 a0.f1, .string a0.f2, .int .i64 a0.f3]) rfl rfl rfl rfl rfl rfl (by kernel_rfl) (by simp [wrt]) (by simp [Value.oneCell']) ?_; clear HS; (try clear F); intro w15 HS; replace HS : Hp noFP w _ [.box g1 [.int .i64 a0.f0, .int .i64 a0.f1, .string a0.f2, .int .i64 a0.f3] 184, .box g2 [.int .i64 a0.f0, .int .i64 a0.f1, .string a0.f2, .int .i64 a0.f3] 165, .box g3 [.int .i64 a0.f0, .int .i64 a0.f1, .string a0.f2, .int .i64 a0.f3] 165] := HS; have F := HS.boxes; simp only [boxFacts, wrt, clr0, clr1, List.cons_append, List.nil_append, List.append_nil, List.set_cons_zero, List.set_cons_succ, and_true] at F))
 exact bodyPost_ret (results_single rfl (.cell _ _ _ _ _ rfl (HS.boxAt (i := 1) rfl) Try.underlying165 rfl (by kernel_rfl) .nil)) rfl ⟨rfl, HS.pick [] (by decide) (by rfl)⟩
/-! ### laws_toWaitS: function 79 -/
def laws_toWaitS.l0 : Nat → (List S165) → Int → (List S184) → Option ((List S165))
  | 0, _, _, _ => none
  | k + 1, l20, x22, a0 => (if x22 < (a0.length : Int) then (if 0 ≤ x22 then (if x22 < (a0.length : Int) then ((laws_toWait.f (rd_T184 a0 x22)).bind fun t28 => (laws_toWaitS.l0 k (l20.set (x22).toNat t28) (wrap64 (x22 + 1)) a0)) else none) else none) else (some l20))
def laws_toWaitS.f (k : Nat) (a0 : (List S184)) : Option ((List S165)) := (if 0 ≤ (a0.length : Int) then (if ((a0.length : Int)).toNat ≤ 7036874417766 then (laws_toWaitS.l0 k (List.replicate a0.length z165) 0 a0) else none) else none)
set_option maxHeartbeats 16000000 in
theorem laws_toWaitS.calls {k : Nat} {a0 : (List S184)} {Ap0 : Option Addr} {np0 cp0 : Nat} {r : (List S165)} {w : World} (h : laws_toWaitS.f k a0 = some r) (gp0 : k184.C w Ap0 np0 a0) (lp0 : np0 ≤ cp0) :
    Calls Try.prog 79 #[.slice Ap0 np0 cp0] w (fun e w' => ∃ v0_ : Value, e = .returned (v0_) ∧ Hp noFP w w' [.own (Zd.slice 165 q165) r [v0_]]) := by
 obtain rfl := C_len gp0
 have HS := Hp.start w
 have H := Aside0.mk h
 clear h
 unfold laws_toWaitS.f at H
 go_enter Try.func79, Try.ntmps79
 by_cases c1 : 0 ≤ (a0.length : Int)
 case neg => exact zno c1 H
 replace H := zpos c1 H
 replace c1 := eq_true c1
 by_cases c2 : ((a0.length : Int)).toNat ≤ 7036874417766
 case neg => exact zno c2 H
 replace H := zpos c2 H
 replace c2 := eq_true c2
 go_wp2_with (first | ((with_reducible refine gate_dst (N := 7) rfl ?_); refine ev_make rfl q165 z165 HS rfl (a0.length : Int) rfl rfl Try.underlying34 info165 rfl (by decide) (by decide) q165_zero (of_eq_true c1) (by have := of_eq_true c2; omega) ?_; clear HS; (try clear F); intro v3 w3 HS; obtain ⟨B3, d3, rfl, m3⟩ := HS.formn a0.length 0 rfl (by first | rfl | simp); replace HS : Hp noFP w _ [.own (Zd.slice 165 q165) (List.replicate a0.length z165) [.slice B3 a0.length d3]] := HS))
 go_loopg [4] k (fun kq v_4 w' => ∃ (l20 : List S165) (x22 : Int), v_4 = .int .i64 x22 ∧ Aside0 (laws_toWaitS.l0 kq l20 x22 a0 = some r) ∧ Aside0 (kq ≤ k) ∧ Hp noFP w w' [.own (Zd.slice 165 q165) l20 [.slice B3 a0.length d3]])
 case atStart => exact ⟨_, _, rfl, H, ⟨Nat.le_refl _⟩, HS⟩
 case round =>
  clear HS H; (try clear F)
  obtain ⟨l20, x22, rfl, H, HKk19, HS⟩ := hrel
  cases gk with
  | zero => exact absurd H.out (by simp [laws_toWaitS.l0])
  | succ k19 =>
   simp only [laws_toWaitS.l0] at H
   by_cases c24 : x22 < (a0.length : Int)
   · replace H := zpos c24 H
     replace c24 := eq_true c24
     by_cases c25 : 0 ≤ x22
     case neg => exact zno c25 H
     replace H := zpos c25 H
     replace c25 := eq_true c25
     by_cases c26 : x22 < (a0.length : Int)
     case neg => exact zno c26 H
     replace H := zpos c26 H
     replace c26 := eq_true c26
     obtain ⟨ad27, rfl, e27_0, e27_1, e27_2, e27_3⟩ := at_T184 gp0 x22 (of_eq_true c25) (of_eq_true c26)
     have e27_0_27 := HS.keepc e27_0
     have e27_1_27 := HS.keepc e27_1
     have e27_2_27 := HS.keepc e27_2
     have e27_3_27 := HS.keepc e27_3
     obtain ⟨t28, ht28, H⟩ := zbind H
     go_wp2_with (first | ((with_reducible refine gate_dst (N := 20) rfl ?_); refine ev_call rfl Try.func139 (by kernel_rfl) rfl #[.agg #[.int .i64 ((rd_T184 a0 x22).f0), .int .i64 ((rd_T184 a0 x22).f1), .string ((rd_T184 a0 x22).f2), .int .i64 ((rd_T184 a0 x22).f3)]] rfl (by simp only [List.map_toArray, List.map_cons, List.map_nil]; rfl) ?_; refine (laws_toWait.calls ht28.out).mono ?_; rintro _ wt28 ⟨rfl, HQ⟩; refine ⟨_, rfl, ?_⟩; replace HS := HS.call HQ; clear HQ; (try clear F); replace HS : Hp noFP w _ [.own (Zd.slice 165 q165) l20 [.slice B3 a0.length d3]] := HS; obtain ⟨ad30, rfl, e30_0, e30_1, e30_2, e30_3⟩ := at_T165 (HS.rd 0 rfl) x22 (of_eq_true c25) (of_eq_true c26)) | ((with_reducible refine gate_store (p := 21) rfl ?_); refine ev_set rfl q165 0 [] x22 t28 HS (seg := [.int .i64 t28.f0, .int .i64 t28.f1, .string t28.f2, .int .i64 t28.f3]) rfl (by decide) rfl rfl rfl (by first | rfl | exact (Nat.mul_one _).symm) rfl rfl (by kernel_rfl) (by simp [Value.oneCell']) ⟨of_eq_true c25, of_eq_true c26⟩ rfl (made_flat (fun _ => q165_flat _ _ _)) ?_; clear HS; (try clear F); intro w31 HS; replace HS : Hp noFP w _ [.own (Zd.slice 165 q165) (l20.set (x22).toNat t28) [.slice (some ad30) a0.length d3]] := HS))
     go_roundg k19
     case measure => have := HKk19.out; omega
     case rel => exact ⟨_, _, rfl, H, ⟨by have := HKk19.out; omega⟩, HS.pick [0] (by decide) (by rfl)⟩
   · replace H := zneg c24 H
     replace c24 := eq_false c24
     obtain rfl := zsome H
     go_wp2
     exact bodyPost_ret (results_single rfl (.tmp .nil)) rfl ⟨_, rfl, HS.pick [0] (by decide) (by rfl)⟩
end Go.Proofs.Ytdcjcanobiohnaa.F

/- Functions of the program and of the law, and that their calls do what is written here. -/
import Derived.Test.YtoaoncnbimcdgaaZgFnExactTicke
namespace Go.Proofs.Ytoaoncnbimcdgaa.F
open Go.RowKit Go.Proofs.YtoaoncnbimcdgaaW.PrintWords Go.Proofs.YtoaoncnbimcdgaaW.PrintLast Go.Proofs.YtoaoncnbimcdgaaW.PrintMore Go.Proofs.Ytoaoncnbimcdgaa.Z
attribute [local go_sem] max2_int min2_int max_two min_two max_three min_three max_four min_four
set_option linter.unusedVariables false
set_option linter.unusedSimpArgs false
set_option maxRecDepth 100000
/-! ### laws_szReply: function 151 -/
def laws_szReply.f (k : Nat) (a0 : S158) (a1 : Int) : Option (Int) := (if (wrap64 (a1 - (a0.f0.size : Int))) < 0 then (some (-1)) else ((laws_szAnswerS.f k a0.f6 (wrap64 (a1 - (a0.f0.size : Int)))).bind fun t4 => (if t4 < 0 then (some (-1)) else (if (wrap64 (t4 - (a0.f7.size : Int))) < 0 then (some (-1)) else (some (wrap64 (t4 - (a0.f7.size : Int))))))))
set_option maxHeartbeats 16000000 in
theorem laws_szReply.calls {k : Nat} {a0 : S158} {a1 : Int} {Ap0 : Option Addr} {np0 cp0 : Nat} {r : Int} {w : World} (h : laws_szReply.f k a0 a1 = some r) (gp0 : k241.C w Ap0 np0 a0.f6) (lp0 : np0 ≤ cp0) :
    Calls Try.prog 151 #[.agg #[.string a0.f0, .int .i64 a0.f1, .int .i64 a0.f2, .int .i64 a0.f3, .int .i64 a0.f4, .int .i64 a0.f5, .slice Ap0 np0 cp0, .string a0.f7], .int .i64 a1] w (fun e w' => e = .returned (.int .i64 r) ∧ Hp noFP w w' []) := by
 obtain rfl := C_len gp0
 have HS := Hp.start w
 have H := Aside0.mk h
 clear h
 unfold laws_szReply.f at H
 go_enter Try.func151, Try.ntmps151
 go_upto_if 11 with (first | ((with_reducible refine gate_dst (N := 2) rfl ?_); refine ev_box rfl HS (by first | (go_simp; done) | (go_simp; rfl)) rfl ?_; clear HS; (try clear F); intro g2 w2 HS; replace HS : Hp noFP w _ [.box g2 [.string a0.f0, .int .i64 a0.f1, .int .i64 a0.f2, .int .i64 a0.f3, .int .i64 a0.f4, .int .i64 a0.f5, .slice Ap0 a0.f6.length cp0, .string a0.f7] 158] := HS; have F := HS.boxes; simp only [boxFacts, and_true] at F))
 by_cases c3 : (wrap64 (a1 - (a0.f0.size : Int))) < 0
 · replace H := zpos c3 H
   replace c3 := eq_true c3
   (try simp only [c3, decide_true, decide_false, Bool.not_true, Bool.not_false])
   obtain rfl := zsome H
   go_wp2
   go_ret
   exact ⟨rfl, HS.pick [] (by decide) (by rfl)⟩
 · replace H := zneg c3 H
   replace c3 := eq_false c3
   (try simp only [c3, decide_true, decide_false, Bool.not_true, Bool.not_false])
   replace H := zbind H; obtain ⟨t4, ht4, H⟩ := H
   go_upto_if 17 with (first | ((with_reducible refine gate_dst (N := 15) rfl ?_); refine ev_call rfl Try.func176 (by kernel_rfl) rfl #[.slice Ap0 a0.f6.length cp0, .int .i64 (wrap64 (a1 - (a0.f0.size : Int)))] rfl (by simp only [List.map_toArray, List.map_cons, List.map_nil]; rfl) ?_; refine (laws_szAnswerS.calls ht4.out (HS.ro gp0) lp0).mono ?_; rintro _ wt4 ⟨rfl, HQ⟩; refine ⟨_, rfl, ?_⟩; replace HS := HS.call HQ; clear HQ; (try clear F); replace HS : Hp noFP w _ [.box g2 [.string a0.f0, .int .i64 a0.f1, .int .i64 a0.f2, .int .i64 a0.f3, .int .i64 a0.f4, .int .i64 a0.f5, .slice Ap0 a0.f6.length cp0, .string a0.f7] 158] := HS; have F := HS.boxes; simp only [boxFacts, and_true] at F))
   by_cases c6 : t4 < 0
   · replace H := zpos c6 H
     replace c6 := eq_true c6
     (try simp only [c6, decide_true, decide_false, Bool.not_true, Bool.not_false])
     obtain rfl := zsome H
     go_wp2
     go_ret
     exact ⟨rfl, HS.pick [] (by decide) (by rfl)⟩
   · replace H := zneg c6 H
     replace c6 := eq_false c6
     (try simp only [c6, decide_true, decide_false, Bool.not_true, Bool.not_false])
     by_cases c7 : (wrap64 (t4 - (a0.f7.size : Int))) < 0
     · replace H := zpos c7 H
       replace c7 := eq_true c7
       obtain rfl := zsome H
       go_wp2
       go_ret
       exact ⟨rfl, HS.pick [] (by decide) (by rfl)⟩
     · replace H := zneg c7 H
       replace c7 := eq_false c7
       obtain rfl := zsome H
       go_wp2
       go_ret
       exact ⟨rfl, HS.pick [] (by decide) (by rfl)⟩
/-! ### laws_szGot: function 103 -/
def laws_szGot.f (k : Nat) (a0 : S160) (a1 : Int) : Option (Int) := ((laws_szReply.f k a0.f1 a1).bind fun t3 => (if t3 < 0 then (some (-1)) else (some t3)))
set_option maxHeartbeats 16000000 in
theorem laws_szGot.calls {k : Nat} {a0 : S160} {a1 : Int} {Ap0 : Option Addr} {np0 cp0 : Nat} {r : Int} {w : World} (h : laws_szGot.f k a0 a1 = some r) (gp0 : k241.C w Ap0 np0 a0.f1.f6) (lp0 : np0 ≤ cp0) :
    Calls Try.prog 103 #[.agg #[.int .i64 a0.f0, .string a0.f1.f0, .int .i64 a0.f1.f1, .int .i64 a0.f1.f2, .int .i64 a0.f1.f3, .int .i64 a0.f1.f4, .int .i64 a0.f1.f5, .slice Ap0 np0 cp0, .string a0.f1.f7], .int .i64 a1] w (fun e w' => e = .returned (.int .i64 r) ∧ Hp noFP w w' []) := by
 obtain rfl := C_len gp0
 have HS := Hp.start w
 have H := Aside0.mk h
 clear h
 unfold laws_szGot.f at H
 go_enter Try.func103, Try.ntmps103
 replace H := zbind H; obtain ⟨t3, ht3, H⟩ := H
 go_upto_if 10 with (first | ((with_reducible refine gate_dst (N := 2) rfl ?_); refine ev_box rfl HS (by first | (go_simp; done) | (go_simp; rfl)) rfl ?_; clear HS; (try clear F); intro g2 w2 HS; replace HS : Hp noFP w _ [.box g2 [.int .i64 a0.f0, .string a0.f1.f0, .int .i64 a0.f1.f1, .int .i64 a0.f1.f2, .int .i64 a0.f1.f3, .int .i64 a0.f1.f4, .int .i64 a0.f1.f5, .slice Ap0 a0.f1.f6.length cp0, .string a0.f1.f7] 160] := HS; have F := HS.boxes; simp only [boxFacts, and_true] at F) | ((with_reducible refine gate_dst (N := 8) rfl ?_); refine ev_call rfl Try.func151 (by kernel_rfl) rfl #[.agg #[.string a0.f1.f0, .int .i64 a0.f1.f1, .int .i64 a0.f1.f2, .int .i64 a0.f1.f3, .int .i64 a0.f1.f4, .int .i64 a0.f1.f5, .slice Ap0 a0.f1.f6.length cp0, .string a0.f1.f7], .int .i64 a1] rfl (by simp only [List.map_toArray, List.map_cons, List.map_nil]; rfl) ?_; refine (laws_szReply.calls ht3.out (HS.ro gp0) lp0).mono ?_; rintro _ wt3 ⟨rfl, HQ⟩; refine ⟨_, rfl, ?_⟩; replace HS := HS.call HQ; clear HQ; (try clear F); replace HS : Hp noFP w _ [.box g2 [.int .i64 a0.f0, .string a0.f1.f0, .int .i64 a0.f1.f1, .int .i64 a0.f1.f2, .int .i64 a0.f1.f3, .int .i64 a0.f1.f4, .int .i64 a0.f1.f5, .slice Ap0 a0.f1.f6.length cp0, .string a0.f1.f7] 160] := HS; have F := HS.boxes; simp only [boxFacts, and_true] at F))
 by_cases c5 : t3 < 0
 · replace H := zpos c5 H
   replace c5 := eq_true c5
   (try simp only [c5, decide_true, decide_false, Bool.not_true, Bool.not_false])
   obtain rfl := zsome H
   go_wp2
   go_ret
   exact ⟨rfl, HS.pick [] (by decide) (by rfl)⟩
 · replace H := zneg c5 H
   replace c5 := eq_false c5
   (try simp only [c5, decide_true, decide_false, Bool.not_true, Bool.not_false])
   obtain rfl := zsome H
   go_wp2
   go_ret
   exact ⟨rfl, HS.pick [] (by decide) (by rfl)⟩
/-! ### laws_szGotS: function 37 -/
def laws_szGotS.l0 : Nat → Int → Int → (List S160) → Option (Int)
  | 0, _, _, _ => none
  | k + 1, x12, x13, a0 => (if x13 < (a0.length : Int) then (if 0 ≤ x13 then (if x13 < (a0.length : Int) then ((laws_szGot.f k (rd_T160 a0 x13) x12).bind fun t19 => (if t19 < 0 then (some (-1)) else (laws_szGotS.l0 k t19 (wrap64 (x13 + 1)) a0))) else none) else none) else (some x12))
def laws_szGotS.f (k : Nat) (a0 : (List S160)) (a1 : Int) : Option (Int) := (if (wrap64 (a1 - (a0.length : Int))) < 0 then (some (-1)) else (laws_szGotS.l0 k (wrap64 (a1 - (a0.length : Int))) 0 a0))
set_option maxHeartbeats 16000000 in
theorem laws_szGotS.calls {k : Nat} {a0 : (List S160)} {a1 : Int} {Ap0 : Option Addr} {np0 cp0 : Nat} {r : Int} {w : World} (h : laws_szGotS.f k a0 a1 = some r) (gp0 : k160.C w Ap0 np0 a0) (lp0 : np0 ≤ cp0) :
    Calls Try.prog 37 #[.slice Ap0 np0 cp0, .int .i64 a1] w (fun e w' => e = .returned (.int .i64 r) ∧ Hp noFP w w' []) := by
 obtain rfl := C_len gp0
 have HS := Hp.start w
 have H := Aside0.mk h
 clear h
 unfold laws_szGotS.f at H
 go_enter Try.func37, Try.ntmps37
 by_cases c1 : (wrap64 (a1 - (a0.length : Int))) < 0
 · replace H := zpos c1 H
   replace c1 := eq_true c1
   obtain rfl := zsome H
   go_wp2
   go_ret
   exact ⟨rfl, HS.pick [] (by decide) (by rfl)⟩
 · replace H := zneg c1 H
   replace c1 := eq_false c1
   go_wp2
   go_loopg [1, 5] k (fun kq v_1 v_5 w' => ∃ (x12 : Int) (x13 : Int), v_1 = .int .i64 x12 ∧ v_5 = .int .i64 x13 ∧ Aside0 (laws_szGotS.l0 kq x12 x13 a0 = some r) ∧ Aside0 (kq ≤ k) ∧ Hp noFP w w' [])
   case atStart => exact ⟨_, _, rfl, rfl, H, ⟨Nat.le_refl _⟩, HS⟩
   case round =>
    clear HS H; (try clear F)
    obtain ⟨x12, x13, rfl, rfl, H, HKk11, HS⟩ := hrel
    cases gk with
    | zero => exact absurd H.out (by simp [laws_szGotS.l0])
    | succ k11 =>
     simp only [laws_szGotS.l0] at H
     by_cases c15 : x13 < (a0.length : Int)
     · replace H := zpos c15 H
       replace c15 := eq_true c15
       by_cases c16 : 0 ≤ x13
       case neg => exact zno c16 H
       replace H := zpos c16 H
       replace c16 := eq_true c16
       by_cases c17 : x13 < (a0.length : Int)
       case neg => exact zno c17 H
       replace H := zpos c17 H
       replace c17 := eq_true c17
       obtain ⟨ad18, B18_7, d18_7, rfl, e18_0, e18_1, e18_2, e18_3, e18_4, e18_5, e18_6, e18_7, e18_8, m18_7, y18_7⟩ := at_T160 gp0 x13 (of_eq_true c16) (of_eq_true c17)
       have e18_0_18 := (HS.keepc e18_0)
       have e18_1_18 := (HS.keepc e18_1)
       have e18_2_18 := (HS.keepc e18_2)
       have e18_3_18 := (HS.keepc e18_3)
       have e18_4_18 := (HS.keepc e18_4)
       have e18_5_18 := (HS.keepc e18_5)
       have e18_6_18 := (HS.keepc e18_6)
       have e18_7_18 := (HS.keepc e18_7)
       have e18_8_18 := (HS.keepc e18_8)
       replace H := zbind H; obtain ⟨t19, ht19, H⟩ := H
       go_upto_if 25 with (first | ((with_reducible refine gate_dst (N := 23) rfl ?_); refine ev_call rfl Try.func103 (by kernel_rfl) rfl #[.agg #[.int .i64 ((rd_T160 a0 x13).f0), .string ((rd_T160 a0 x13).f1.f0), .int .i64 ((rd_T160 a0 x13).f1.f1), .int .i64 ((rd_T160 a0 x13).f1.f2), .int .i64 ((rd_T160 a0 x13).f1.f3), .int .i64 ((rd_T160 a0 x13).f1.f4), .int .i64 ((rd_T160 a0 x13).f1.f5), .slice B18_7 (rd_T160 a0 x13).f1.f6.length d18_7, .string ((rd_T160 a0 x13).f1.f7)], .int .i64 x12] rfl (by simp only [List.map_toArray, List.map_cons, List.map_nil]; rfl) ?_; refine (laws_szGot.calls ht19.out (HS.ro y18_7) m18_7).mono ?_; rintro _ wt19 ⟨rfl, HQ⟩; refine ⟨_, rfl, ?_⟩; replace HS := HS.call HQ; clear HQ; (try clear F); replace HS : Hp noFP w _ [] := HS))
       by_cases c21 : t19 < 0
       · replace H := zpos c21 H
         replace c21 := eq_true c21
         (try simp only [c21, decide_true, decide_false, Bool.not_true, Bool.not_false])
         obtain rfl := zsome H
         go_wp2
         go_ret
         exact ⟨rfl, HS.pick [] (by decide) (by rfl)⟩
       · replace H := zneg c21 H
         replace c21 := eq_false c21
         (try simp only [c21, decide_true, decide_false, Bool.not_true, Bool.not_false])
         go_wp2
         go_roundg k11
         case measure => have := HKk11.out; omega
         case rel => exact ⟨_, _, rfl, rfl, H, ⟨by have := HKk11.out; omega⟩, HS.pick [] (by decide) (by rfl)⟩
     · replace H := zneg c15 H
       replace c15 := eq_false c15
       obtain rfl := zsome H
       go_wp2
       go_ret
       exact ⟨rfl, HS.pick [] (by decide) (by rfl)⟩
/-! ### laws_szIntS: function 38 -/
def laws_szIntS.f (a0 : (List Int)) (a1 : Int) : Option (Int) := (if (wrap64 (a1 - (a0.length : Int))) < 0 then (some (-1)) else (some (wrap64 (a1 - (a0.length : Int)))))
set_option maxHeartbeats 16000000 in
theorem laws_szIntS.calls {a0 : (List Int)} {a1 : Int} {Ap0 : Option Addr} {np0 cp0 : Nat} {r : Int} {w : World} (h : laws_szIntS.f a0 a1 = some r) (gp0 : (Kd.int .i64).C w Ap0 np0 a0) (lp0 : np0 ≤ cp0) :
    Calls Try.prog 38 #[.slice Ap0 np0 cp0, .int .i64 a1] w (fun e w' => e = .returned (.int .i64 r) ∧ Hp noFP w w' []) := by
 obtain rfl := C_len gp0
 have HS := Hp.start w
 have H := Aside0.mk h
 clear h
 unfold laws_szIntS.f at H
 go_enter Try.func38, Try.ntmps38
 by_cases c1 : (wrap64 (a1 - (a0.length : Int))) < 0
 · replace H := zpos c1 H
   replace c1 := eq_true c1
   obtain rfl := zsome H
   go_wp2
   go_ret
   exact ⟨rfl, HS.pick [] (by decide) (by rfl)⟩
 · replace H := zneg c1 H
   replace c1 := eq_false c1
   obtain rfl := zsome H
   go_wp2
   go_ret
   exact ⟨rfl, HS.pick [] (by decide) (by rfl)⟩
/-! ### laws_szClient: function 7 -/
def laws_szClient.f (k : Nat) (a0 : S26) (a1 : Int) : Option (Int) := (if (wrap64 (a1 - (a0.f0.size : Int))) < 0 then (some (-1)) else ((laws_szWaitS.f k a0.f2 (wrap64 (a1 - (a0.f0.size : Int)))).bind fun t4 => (if t4 < 0 then (some (-1)) else ((laws_szGotS.f k a0.f3 t4).bind fun t7 => (if t7 < 0 then (some (-1)) else ((laws_szIntS.f a0.f4 t7).bind fun t10 => (if t10 < 0 then (some (-1)) else (some t10))))))))
set_option maxHeartbeats 16000000 in
theorem laws_szClient.calls {k : Nat} {a0 : S26} {a1 : Int} {Ap0 : Option Addr} {np0 cp0 : Nat} {Ap1 : Option Addr} {np1 cp1 : Nat} {Ap2 : Option Addr} {np2 cp2 : Nat} {r : Int} {w : World} (h : laws_szClient.f k a0 a1 = some r) (gp0 : k154.C w Ap0 np0 a0.f2) (lp0 : np0 ≤ cp0) (gp1 : k160.C w Ap1 np1 a0.f3) (lp1 : np1 ≤ cp1) (gp2 : (Kd.int .i64).C w Ap2 np2 a0.f4) (lp2 : np2 ≤ cp2) :
    Calls Try.prog 7 #[.agg #[.string a0.f0, .int .i64 a0.f1, .slice Ap0 np0 cp0, .slice Ap1 np1 cp1, .slice Ap2 np2 cp2], .int .i64 a1] w (fun e w' => e = .returned (.int .i64 r) ∧ Hp noFP w w' []) := by
 obtain rfl := C_len gp0
 obtain rfl := C_len gp1
 obtain rfl := C_len gp2
 have HS := Hp.start w
 have H := Aside0.mk h
 clear h
 unfold laws_szClient.f at H
 go_enter Try.func7, Try.ntmps7
 go_upto_if 11 with (first | ((with_reducible refine gate_dst (N := 2) rfl ?_); refine ev_box rfl HS (by first | (go_simp; done) | (go_simp; rfl)) rfl ?_; clear HS; (try clear F); intro g2 w2 HS; replace HS : Hp noFP w _ [.box g2 [.string a0.f0, .int .i64 a0.f1, .slice Ap0 a0.f2.length cp0, .slice Ap1 a0.f3.length cp1, .slice Ap2 a0.f4.length cp2] 26] := HS; have F := HS.boxes; simp only [boxFacts, and_true] at F))
 by_cases c3 : (wrap64 (a1 - (a0.f0.size : Int))) < 0
 · replace H := zpos c3 H
   replace c3 := eq_true c3
   (try simp only [c3, decide_true, decide_false, Bool.not_true, Bool.not_false])
   obtain rfl := zsome H
   go_wp2
   go_ret
   exact ⟨rfl, HS.pick [] (by decide) (by rfl)⟩
 · replace H := zneg c3 H
   replace c3 := eq_false c3
   (try simp only [c3, decide_true, decide_false, Bool.not_true, Bool.not_false])
   replace H := zbind H; obtain ⟨t4, ht4, H⟩ := H
   go_upto_if 17 with (first | ((with_reducible refine gate_dst (N := 15) rfl ?_); refine ev_call rfl Try.func36 (by kernel_rfl) rfl #[.slice Ap0 a0.f2.length cp0, .int .i64 (wrap64 (a1 - (a0.f0.size : Int)))] rfl (by simp only [List.map_toArray, List.map_cons, List.map_nil]; rfl) ?_; refine (laws_szWaitS.calls ht4.out (HS.ro gp0) lp0).mono ?_; rintro _ wt4 ⟨rfl, HQ⟩; refine ⟨_, rfl, ?_⟩; replace HS := HS.call HQ; clear HQ; (try clear F); replace HS : Hp noFP w _ [.box g2 [.string a0.f0, .int .i64 a0.f1, .slice Ap0 a0.f2.length cp0, .slice Ap1 a0.f3.length cp1, .slice Ap2 a0.f4.length cp2] 26] := HS; have F := HS.boxes; simp only [boxFacts, and_true] at F))
   by_cases c6 : t4 < 0
   · replace H := zpos c6 H
     replace c6 := eq_true c6
     (try simp only [c6, decide_true, decide_false, Bool.not_true, Bool.not_false])
     obtain rfl := zsome H
     go_wp2
     go_ret
     exact ⟨rfl, HS.pick [] (by decide) (by rfl)⟩
   · replace H := zneg c6 H
     replace c6 := eq_false c6
     (try simp only [c6, decide_true, decide_false, Bool.not_true, Bool.not_false])
     replace H := zbind H; obtain ⟨t7, ht7, H⟩ := H
     go_upto_if 23 with (first | ((with_reducible refine gate_dst (N := 21) rfl ?_); refine ev_call rfl Try.func37 (by kernel_rfl) rfl #[.slice Ap1 a0.f3.length cp1, .int .i64 t4] rfl (by simp only [List.map_toArray, List.map_cons, List.map_nil]; rfl) ?_; refine (laws_szGotS.calls ht7.out (HS.ro gp1) lp1).mono ?_; rintro _ wt7 ⟨rfl, HQ⟩; refine ⟨_, rfl, ?_⟩; replace HS := HS.call HQ; clear HQ; (try clear F); replace HS : Hp noFP w _ [.box g2 [.string a0.f0, .int .i64 a0.f1, .slice Ap0 a0.f2.length cp0, .slice Ap1 a0.f3.length cp1, .slice Ap2 a0.f4.length cp2] 26] := HS; have F := HS.boxes; simp only [boxFacts, and_true] at F))
     by_cases c9 : t7 < 0
     · replace H := zpos c9 H
       replace c9 := eq_true c9
       (try simp only [c9, decide_true, decide_false, Bool.not_true, Bool.not_false])
       obtain rfl := zsome H
       go_wp2
       go_ret
       exact ⟨rfl, HS.pick [] (by decide) (by rfl)⟩
     · replace H := zneg c9 H
       replace c9 := eq_false c9
       (try simp only [c9, decide_true, decide_false, Bool.not_true, Bool.not_false])
       replace H := zbind H; obtain ⟨t10, ht10, H⟩ := H
       go_upto_if 29 with (first | ((with_reducible refine gate_dst (N := 27) rfl ?_); refine ev_call rfl Try.func38 (by kernel_rfl) rfl #[.slice Ap2 a0.f4.length cp2, .int .i64 t7] rfl (by simp only [List.map_toArray, List.map_cons, List.map_nil]; rfl) ?_; refine (laws_szIntS.calls ht10.out (HS.ro gp2) lp2).mono ?_; rintro _ wt10 ⟨rfl, HQ⟩; refine ⟨_, rfl, ?_⟩; replace HS := HS.call HQ; clear HQ; (try clear F); replace HS : Hp noFP w _ [.box g2 [.string a0.f0, .int .i64 a0.f1, .slice Ap0 a0.f2.length cp0, .slice Ap1 a0.f3.length cp1, .slice Ap2 a0.f4.length cp2] 26] := HS; have F := HS.boxes; simp only [boxFacts, and_true] at F))
       by_cases c12 : t10 < 0
       · replace H := zpos c12 H
         replace c12 := eq_true c12
         (try simp only [c12, decide_true, decide_false, Bool.not_true, Bool.not_false])
         obtain rfl := zsome H
         go_wp2
         go_ret
         exact ⟨rfl, HS.pick [] (by decide) (by rfl)⟩
       · replace H := zneg c12 H
         replace c12 := eq_false c12
         (try simp only [c12, decide_true, decide_false, Bool.not_true, Bool.not_false])
         obtain rfl := zsome H
         go_wp2
         go_ret
         exact ⟨rfl, HS.pick [] (by decide) (by rfl)⟩
/-! ### spec_l15Copy: function 104 -/
def spec_l15Copy.l0 : Nat → (List S109) → Int → S40 → Option (S40)
  | 0, _, _, _ => none
  | k + 1, l50, x52, a0 => (if x52 < (a0.f6.length : Int) then (if 0 ≤ x52 then (if x52 < (a0.f6.length : Int) then (if 0 + (rd_T109 a0.f6 x52).f2.length ≤ 8796093022208 then (lets (([] : List ByteArray) ++ ((rd_T109 a0.f6 x52).f2)) fun y65 => (if 0 + (rd_T109 a0.f6 x52).f3.length ≤ 8796093022208 then (lets (([] : List ByteArray) ++ ((rd_T109 a0.f6 x52).f3)) fun y72 => (if l50.length + 1 ≤ 2199023255552 then (lets (l50 ++ ([(⟨(rd_T109 a0.f6 x52).f0, (rd_T109 a0.f6 x52).f1, y65, y72⟩ : S109)] : List S109)) fun y79 => (spec_l15Copy.l0 k y79 (wrap64 (x52 + 1)) a0)) else none)) else none)) else none) else none) else none) else (some (⟨a0.f0, a0.f1, a0.f2, a0.f3, a0.f4, a0.f5, l50, a0.f7⟩ : S40)))
def spec_l15Copy.f (k : Nat) (a0 : S40) : Option (S40) := (spec_l15Copy.l0 k ([] : List S109) 0 a0)
set_option maxHeartbeats 16000000 in
theorem spec_l15Copy.calls {k : Nat} {a0 : S40} {Ap0 : Option Addr} {np0 cp0 : Nat} {r : S40} {w : World} (h : spec_l15Copy.f k a0 = some r) (gp0 : k109.C w Ap0 np0 a0.f6) (lp0 : np0 ≤ cp0) :
    Calls Try.prog 104 #[.agg #[.string a0.f0, .int .i64 a0.f1, .int .i64 a0.f2, .int .i64 a0.f3, .int .i64 a0.f4, .int .i64 a0.f5, .slice Ap0 np0 cp0, .string a0.f7]] w (fun e w' => ∃ v0_ : Value, e = .returned (.agg #[.string r.f0, .int .i64 r.f1, .int .i64 r.f2, .int .i64 r.f3, .int .i64 r.f4, .int .i64 r.f5, v0_, .string r.f7]) ∧ Hp noFP w w' [.own (Zd.slice 109 q109) r.f6 [v0_]]) := by
 obtain rfl := C_len gp0
 have HS := Hp.start w
 have H := Aside0.mk h
 clear h
 unfold spec_l15Copy.f at H
 go_enter Try.func104, Try.ntmps104
 go_wp2_with (first | ((with_reducible refine gate_dst (N := 1) rfl ?_); refine ev_box rfl HS (by first | (go_simp; done) | (go_simp; rfl)) rfl ?_; clear HS; (try clear F); intro g1 w1 HS; replace HS : Hp noFP w _ [.box g1 [.string a0.f0, .int .i64 a0.f1, .int .i64 a0.f2, .int .i64 a0.f3, .int .i64 a0.f4, .int .i64 a0.f5, .slice Ap0 a0.f6.length cp0, .string a0.f7] 40] := HS; have F := HS.boxes; simp only [boxFacts, and_true] at F) | ((with_reducible refine gate_dst (N := 2) rfl ?_); refine ev_box rfl HS (by first | (go_simp; done) | (go_simp; rfl)) rfl ?_; clear HS; (try clear F); intro g2 w2 HS; replace HS : Hp noFP w _ [.box g1 [.string a0.f0, .int .i64 a0.f1, .int .i64 a0.f2, .int .i64 a0.f3, .int .i64 a0.f4, .int .i64 a0.f5, .slice Ap0 a0.f6.length cp0, .string a0.f7] 40, .box g2 [.string (⟨#[]⟩ : ByteArray), .int .i64 0, .int .i64 0, .int .i64 0, .int .i64 0, .int .i64 0, .slice none 0 0, .string (⟨#[]⟩ : ByteArray)] 40] := HS; have F := HS.boxes; simp only [boxFacts, and_true] at F) | ((with_reducible refine gate_dst (N := 3) rfl ?_); refine ev_box rfl HS (by first | (go_simp; done) | (go_simp; rfl)) rfl ?_; clear HS; (try clear F); intro g3 w3 HS; replace HS : Hp noFP w _ [.box g1 [.string a0.f0, .int .i64 a0.f1, .int .i64 a0.f2, .int .i64 a0.f3, .int .i64 a0.f4, .int .i64 a0.f5, .slice Ap0 a0.f6.length cp0, .string a0.f7] 40, .box g2 [.string (⟨#[]⟩ : ByteArray), .int .i64 0, .int .i64 0, .int .i64 0, .int .i64 0, .int .i64 0, .slice none 0 0, .string (⟨#[]⟩ : ByteArray)] 40, .box g3 [.string (⟨#[]⟩ : ByteArray), .int .i64 0, .int .i64 0, .int .i64 0, .int .i64 0, .int .i64 0, .slice none 0 0, .string (⟨#[]⟩ : ByteArray)] 40] := HS; have F := HS.boxes; simp only [boxFacts, and_true] at F) | ((with_reducible refine gate_store (p := 3) rfl ?_); refine ev_store rfl 2 0 HS (seg := [.string a0.f0, .int .i64 a0.f1, .int .i64 a0.f2, .int .i64 a0.f3, .int .i64 a0.f4, .int .i64 a0.f5, .slice Ap0 a0.f6.length cp0, .string a0.f7]) rfl rfl rfl rfl rfl rfl (by kernel_rfl) (by simp [wrt]) (by simp [Value.oneCell']) ?_; clear HS; (try clear F); intro w7 HS; replace HS : Hp noFP w _ [.box g1 [.string a0.f0, .int .i64 a0.f1, .int .i64 a0.f2, .int .i64 a0.f3, .int .i64 a0.f4, .int .i64 a0.f5, .slice Ap0 a0.f6.length cp0, .string a0.f7] 40, .box g2 [.string (⟨#[]⟩ : ByteArray), .int .i64 0, .int .i64 0, .int .i64 0, .int .i64 0, .int .i64 0, .slice none 0 0, .string (⟨#[]⟩ : ByteArray)] 40, .box g3 [.string a0.f0, .int .i64 a0.f1, .int .i64 a0.f2, .int .i64 a0.f3, .int .i64 a0.f4, .int .i64 a0.f5, .slice Ap0 a0.f6.length cp0, .string a0.f7] 40] := HS; have F := HS.boxes; simp only [boxFacts, and_true] at F) | ((with_reducible refine gate_dst (N := 7) rfl ?_); refine ev_lit rfl q109 [] ([] : List S109) [] HS (by first | (go_simp; done) | (go_simp; rfl)) rfl rfl (Nat.le_of_ble_eq_true rfl) MadeL.nil ?_; clear HS; (try clear F); intro v9 w9 HS; obtain ⟨B9, d9, rfl, m9⟩ := HS.formn 0 3 rfl rfl; replace HS : Hp noFP w _ [.box g1 [.string a0.f0, .int .i64 a0.f1, .int .i64 a0.f2, .int .i64 a0.f3, .int .i64 a0.f4, .int .i64 a0.f5, .slice Ap0 a0.f6.length cp0, .string a0.f7] 40, .box g2 [.string (⟨#[]⟩ : ByteArray), .int .i64 0, .int .i64 0, .int .i64 0, .int .i64 0, .int .i64 0, .slice none 0 0, .string (⟨#[]⟩ : ByteArray)] 40, .box g3 [.string a0.f0, .int .i64 a0.f1, .int .i64 a0.f2, .int .i64 a0.f3, .int .i64 a0.f4, .int .i64 a0.f5, .slice Ap0 a0.f6.length cp0, .string a0.f7] 40, .own (Zd.slice 109 q109) ([] : List S109) [.slice B9 0 d9]] := HS; have F := HS.boxes; simp only [boxFacts, and_true] at F) | ((with_reducible refine gate_store (p := 8) rfl ?_); refine ev_store rfl 2 6 HS (seg := [.slice B9 0 d9]) rfl rfl rfl rfl rfl rfl (by kernel_rfl) (by simp [wrt]) (by simp [Value.oneCell']) ?_; clear HS; (try clear F); intro w11 HS; replace HS : Hp noFP w _ [.box g1 [.string a0.f0, .int .i64 a0.f1, .int .i64 a0.f2, .int .i64 a0.f3, .int .i64 a0.f4, .int .i64 a0.f5, .slice Ap0 a0.f6.length cp0, .string a0.f7] 40, .box g2 [.string (⟨#[]⟩ : ByteArray), .int .i64 0, .int .i64 0, .int .i64 0, .int .i64 0, .int .i64 0, .slice none 0 0, .string (⟨#[]⟩ : ByteArray)] 40, .box g3 [.string a0.f0, .int .i64 a0.f1, .int .i64 a0.f2, .int .i64 a0.f3, .int .i64 a0.f4, .int .i64 a0.f5, .slice B9 0 d9, .string a0.f7] 40, .own (Zd.slice 109 q109) ([] : List S109) [.slice B9 0 d9]] := HS; have F := HS.boxes; simp only [boxFacts, and_true] at F))
 go_loopg [4] k (fun kq v_4 w' => ∃ (l50 : List S109) (v51 : Value) (x52 : Int), v_4 = .int .i64 x52 ∧ Aside0 (spec_l15Copy.l0 kq l50 x52 a0 = some r) ∧ Aside0 (kq ≤ k) ∧ Hp noFP w w' [.box g1 [.string a0.f0, .int .i64 a0.f1, .int .i64 a0.f2, .int .i64 a0.f3, .int .i64 a0.f4, .int .i64 a0.f5, .slice Ap0 a0.f6.length cp0, .string a0.f7] 40, .box g2 [.string (⟨#[]⟩ : ByteArray), .int .i64 0, .int .i64 0, .int .i64 0, .int .i64 0, .int .i64 0, .slice none 0 0, .string (⟨#[]⟩ : ByteArray)] 40, .box g3 [.string a0.f0, .int .i64 a0.f1, .int .i64 a0.f2, .int .i64 a0.f3, .int .i64 a0.f4, .int .i64 a0.f5, v51, .string a0.f7] 40, .own (Zd.slice 109 q109) l50 [v51]])
 case atStart => exact ⟨_, _, _, rfl, H, ⟨Nat.le_refl _⟩, HS⟩
 case round =>
  clear HS H; (try clear F)
  obtain ⟨l50, v51, x52, rfl, H, HKk49, HS⟩ := hrel
  obtain ⟨B51, d51, rfl, m51⟩ := HS.form 3 rfl
  have F := HS.boxes; simp only [boxFacts, and_true] at F
  cases gk with
  | zero => exact absurd H.out (by simp [spec_l15Copy.l0])
  | succ k49 =>
   simp only [spec_l15Copy.l0] at H
   by_cases c54 : x52 < (a0.f6.length : Int)
   · replace H := zpos c54 H
     replace c54 := eq_true c54
     by_cases c55 : 0 ≤ x52
     case neg => exact zno c55 H
     replace H := zpos c55 H
     replace c55 := eq_true c55
     by_cases c56 : x52 < (a0.f6.length : Int)
     case neg => exact zno c56 H
     replace H := zpos c56 H
     replace c56 := eq_true c56
     obtain ⟨ad57, B57_2, d57_2, B57_3, d57_3, rfl, e57_0, e57_1, e57_2, e57_3, m57_2, y57_2, m57_3, y57_3⟩ := at_T109 gp0 x52 (of_eq_true c55) (of_eq_true c56)
     have e57_0_57 := (HS.keepc e57_0)
     have e57_1_57 := (HS.keepc e57_1)
     have e57_2_57 := (HS.keepc e57_2)
     have e57_3_57 := (HS.keepc e57_3)
     by_cases c64 : 0 + (rd_T109 a0.f6 x52).f2.length ≤ 8796093022208
     case neg => exact zno c64 H
     replace H := zpos c64 H
     replace c64 := eq_true c64
     replace H := zlets H; obtain ⟨y65, e_y65, H⟩ := H
     by_cases c71 : 0 + (rd_T109 a0.f6 x52).f3.length ≤ 8796093022208
     case neg => exact zno c71 H
     replace H := zpos c71 H
     replace c71 := eq_true c71
     replace H := zlets H; obtain ⟨y72, e_y72, H⟩ := H
     by_cases c78 : l50.length + 1 ≤ 2199023255552
     case neg => exact zno c78 H
     replace H := zpos c78 H
     replace c78 := eq_true c78
     replace H := zlets H; obtain ⟨y79, e_y79, H⟩ := H
     go_wp2_with (first | ((with_reducible refine gate_dst (N := 5) rfl ?_); refine ev_box rfl HS (by first | (go_simp; done) | (go_simp; rfl)) rfl ?_; clear HS; (try clear F); intro g5 w5 HS; replace HS : Hp noFP w _ [.box g1 [.string a0.f0, .int .i64 a0.f1, .int .i64 a0.f2, .int .i64 a0.f3, .int .i64 a0.f4, .int .i64 a0.f5, .slice (some ad57) a0.f6.length cp0, .string a0.f7] 40, .box g2 [.string (⟨#[]⟩ : ByteArray), .int .i64 0, .int .i64 0, .int .i64 0, .int .i64 0, .int .i64 0, .slice none 0 0, .string (⟨#[]⟩ : ByteArray)] 40, .box g3 [.string a0.f0, .int .i64 a0.f1, .int .i64 a0.f2, .int .i64 a0.f3, .int .i64 a0.f4, .int .i64 a0.f5, .slice B51 l50.length d51, .string a0.f7] 40, .own (Zd.slice 109 q109) l50 [.slice B51 l50.length d51], .box g5 [.int .i64 0, .int .i64 0, .slice none 0 0, .slice none 0 0] 109] := HS; have F := HS.boxes; simp only [boxFacts, and_true] at F) | ((with_reducible refine gate_store (p := 5) rfl ?_); refine ev_store rfl 4 0 HS (seg := [.int .i64 ((rd_T109 a0.f6 x52).f0), .int .i64 ((rd_T109 a0.f6 x52).f1), .slice B57_2 (rd_T109 a0.f6 x52).f2.length d57_2, .slice B57_3 (rd_T109 a0.f6 x52).f3.length d57_3]) rfl rfl rfl rfl rfl rfl (by kernel_rfl) (by simp [wrt]) (by simp [Value.oneCell']) ?_; clear HS; (try clear F); intro w60 HS; replace HS : Hp noFP w _ [.box g1 [.string a0.f0, .int .i64 a0.f1, .int .i64 a0.f2, .int .i64 a0.f3, .int .i64 a0.f4, .int .i64 a0.f5, .slice (some ad57) a0.f6.length cp0, .string a0.f7] 40, .box g2 [.string (⟨#[]⟩ : ByteArray), .int .i64 0, .int .i64 0, .int .i64 0, .int .i64 0, .int .i64 0, .slice none 0 0, .string (⟨#[]⟩ : ByteArray)] 40, .box g3 [.string a0.f0, .int .i64 a0.f1, .int .i64 a0.f2, .int .i64 a0.f3, .int .i64 a0.f4, .int .i64 a0.f5, .slice B51 l50.length d51, .string a0.f7] 40, .own (Zd.slice 109 q109) l50 [.slice B51 l50.length d51], .box g5 [.int .i64 ((rd_T109 a0.f6 x52).f0), .int .i64 ((rd_T109 a0.f6 x52).f1), .slice B57_2 (rd_T109 a0.f6 x52).f2.length d57_2, .slice B57_3 (rd_T109 a0.f6 x52).f3.length d57_3] 109] := HS; have F := HS.boxes; simp only [boxFacts, and_true] at F) | ((with_reducible refine gate_dst (N := 21) rfl ?_); refine ev_lit rfl Zd.string [] ([] : List ByteArray) [] HS (by first | (go_simp; done) | (go_simp; rfl)) rfl rfl (Nat.le_of_ble_eq_true rfl) MadeL.nil ?_; clear HS; (try clear F); intro v62 w62 HS; obtain ⟨B62, d62, rfl, m62⟩ := HS.formn 0 5 rfl rfl; replace HS : Hp noFP w _ [.box g1 [.string a0.f0, .int .i64 a0.f1, .int .i64 a0.f2, .int .i64 a0.f3, .int .i64 a0.f4, .int .i64 a0.f5, .slice (some ad57) a0.f6.length cp0, .string a0.f7] 40, .box g2 [.string (⟨#[]⟩ : ByteArray), .int .i64 0, .int .i64 0, .int .i64 0, .int .i64 0, .int .i64 0, .slice none 0 0, .string (⟨#[]⟩ : ByteArray)] 40, .box g3 [.string a0.f0, .int .i64 a0.f1, .int .i64 a0.f2, .int .i64 a0.f3, .int .i64 a0.f4, .int .i64 a0.f5, .slice B51 l50.length d51, .string a0.f7] 40, .own (Zd.slice 109 q109) l50 [.slice B51 l50.length d51], .box g5 [.int .i64 ((rd_T109 a0.f6 x52).f0), .int .i64 ((rd_T109 a0.f6 x52).f1), .slice B57_2 (rd_T109 a0.f6 x52).f2.length d57_2, .slice B57_3 (rd_T109 a0.f6 x52).f3.length d57_3] 109, .own (Zd.slice 9 Zd.string) ([] : List ByteArray) [.slice B62 0 d62]] := HS; have F := HS.boxes; simp only [boxFacts, and_true] at F) | ((with_reducible refine gate_dst (N := 24) rfl ?_); refine ev_appendr rfl Zd.string flat_string 5 HS rfl (HS.ro y57_2) rfl rfl rfl Try.underlying73 info9 rfl (by decide) (by decide) (by have := of_eq_true c64; first | omega | (simp only [List.length_cons, List.length_nil, List.length_append, Nat.zero_add] at this ⊢; omega)) ?_; clear HS; (try clear F); intro v65 w65 HS; rw [← e_y65.out] at HS; obtain ⟨B65, d65, rfl, m65⟩ := HS.form 6 rfl; replace HS : Hp noFP w _ [.box g1 [.string a0.f0, .int .i64 a0.f1, .int .i64 a0.f2, .int .i64 a0.f3, .int .i64 a0.f4, .int .i64 a0.f5, .slice (some ad57) a0.f6.length cp0, .string a0.f7] 40, .box g2 [.string (⟨#[]⟩ : ByteArray), .int .i64 0, .int .i64 0, .int .i64 0, .int .i64 0, .int .i64 0, .slice none 0 0, .string (⟨#[]⟩ : ByteArray)] 40, .box g3 [.string a0.f0, .int .i64 a0.f1, .int .i64 a0.f2, .int .i64 a0.f3, .int .i64 a0.f4, .int .i64 a0.f5, .slice B51 l50.length d51, .string a0.f7] 40, .own (Zd.slice 109 q109) l50 [.slice B51 l50.length d51], .box g5 [.int .i64 ((rd_T109 a0.f6 x52).f0), .int .i64 ((rd_T109 a0.f6 x52).f1), .slice B57_2 (rd_T109 a0.f6 x52).f2.length d57_2, .slice B57_3 (rd_T109 a0.f6 x52).f3.length d57_3] 109, .emp, .own (Zd.slice 9 Zd.string) y65 [.slice B65 y65.length d65]] := HS; have F := HS.boxes; simp only [boxFacts, and_true] at F) | ((with_reducible refine gate_store (p := 25) rfl ?_); refine ev_store rfl 4 2 HS (seg := [.slice B65 y65.length d65]) rfl rfl rfl rfl rfl rfl (by kernel_rfl) (by simp [wrt]) (by simp [Value.oneCell']) ?_; clear HS; (try clear F); intro w67 HS; replace HS : Hp noFP w _ [.box g1 [.string a0.f0, .int .i64 a0.f1, .int .i64 a0.f2, .int .i64 a0.f3, .int .i64 a0.f4, .int .i64 a0.f5, .slice (some ad57) a0.f6.length cp0, .string a0.f7] 40, .box g2 [.string (⟨#[]⟩ : ByteArray), .int .i64 0, .int .i64 0, .int .i64 0, .int .i64 0, .int .i64 0, .slice none 0 0, .string (⟨#[]⟩ : ByteArray)] 40, .box g3 [.string a0.f0, .int .i64 a0.f1, .int .i64 a0.f2, .int .i64 a0.f3, .int .i64 a0.f4, .int .i64 a0.f5, .slice B51 l50.length d51, .string a0.f7] 40, .own (Zd.slice 109 q109) l50 [.slice B51 l50.length d51], .box g5 [.int .i64 ((rd_T109 a0.f6 x52).f0), .int .i64 ((rd_T109 a0.f6 x52).f1), .slice B65 y65.length d65, .slice B57_3 (rd_T109 a0.f6 x52).f3.length d57_3] 109, .emp, .own (Zd.slice 9 Zd.string) y65 [.slice B65 y65.length d65]] := HS; have F := HS.boxes; simp only [boxFacts, and_true] at F) | ((with_reducible refine gate_dst (N := 26) rfl ?_); refine ev_lit rfl Zd.string [] ([] : List ByteArray) [] HS (by first | (go_simp; done) | (go_simp; rfl)) rfl rfl (Nat.le_of_ble_eq_true rfl) MadeL.nil ?_; clear HS; (try clear F); intro v69 w69 HS; obtain ⟨B69, d69, rfl, m69⟩ := HS.formn 0 7 rfl rfl; replace HS : Hp noFP w _ [.box g1 [.string a0.f0, .int .i64 a0.f1, .int .i64 a0.f2, .int .i64 a0.f3, .int .i64 a0.f4, .int .i64 a0.f5, .slice (some ad57) a0.f6.length cp0, .string a0.f7] 40, .box g2 [.string (⟨#[]⟩ : ByteArray), .int .i64 0, .int .i64 0, .int .i64 0, .int .i64 0, .int .i64 0, .slice none 0 0, .string (⟨#[]⟩ : ByteArray)] 40, .box g3 [.string a0.f0, .int .i64 a0.f1, .int .i64 a0.f2, .int .i64 a0.f3, .int .i64 a0.f4, .int .i64 a0.f5, .slice B51 l50.length d51, .string a0.f7] 40, .own (Zd.slice 109 q109) l50 [.slice B51 l50.length d51], .box g5 [.int .i64 ((rd_T109 a0.f6 x52).f0), .int .i64 ((rd_T109 a0.f6 x52).f1), .slice B65 y65.length d65, .slice B57_3 (rd_T109 a0.f6 x52).f3.length d57_3] 109, .emp, .own (Zd.slice 9 Zd.string) y65 [.slice B65 y65.length d65], .own (Zd.slice 9 Zd.string) ([] : List ByteArray) [.slice B69 0 d69]] := HS; have F := HS.boxes; simp only [boxFacts, and_true] at F) | ((with_reducible refine gate_dst (N := 29) rfl ?_); refine ev_appendr rfl Zd.string flat_string 7 HS rfl (HS.ro y57_3) rfl rfl rfl Try.underlying73 info9 rfl (by decide) (by decide) (by have := of_eq_true c71; first | omega | (simp only [List.length_cons, List.length_nil, List.length_append, Nat.zero_add] at this ⊢; omega)) ?_; clear HS; (try clear F); intro v72 w72 HS; rw [← e_y72.out] at HS; obtain ⟨B72, d72, rfl, m72⟩ := HS.form 8 rfl; replace HS : Hp noFP w _ [.box g1 [.string a0.f0, .int .i64 a0.f1, .int .i64 a0.f2, .int .i64 a0.f3, .int .i64 a0.f4, .int .i64 a0.f5, .slice (some ad57) a0.f6.length cp0, .string a0.f7] 40, .box g2 [.string (⟨#[]⟩ : ByteArray), .int .i64 0, .int .i64 0, .int .i64 0, .int .i64 0, .int .i64 0, .slice none 0 0, .string (⟨#[]⟩ : ByteArray)] 40, .box g3 [.string a0.f0, .int .i64 a0.f1, .int .i64 a0.f2, .int .i64 a0.f3, .int .i64 a0.f4, .int .i64 a0.f5, .slice B51 l50.length d51, .string a0.f7] 40, .own (Zd.slice 109 q109) l50 [.slice B51 l50.length d51], .box g5 [.int .i64 ((rd_T109 a0.f6 x52).f0), .int .i64 ((rd_T109 a0.f6 x52).f1), .slice B65 y65.length d65, .slice B57_3 (rd_T109 a0.f6 x52).f3.length d57_3] 109, .emp, .own (Zd.slice 9 Zd.string) y65 [.slice B65 y65.length d65], .emp, .own (Zd.slice 9 Zd.string) y72 [.slice B72 y72.length d72]] := HS; have F := HS.boxes; simp only [boxFacts, and_true] at F) | ((with_reducible refine gate_store (p := 30) rfl ?_); refine ev_store rfl 4 3 HS (seg := [.slice B72 y72.length d72]) rfl rfl rfl rfl rfl rfl (by kernel_rfl) (by simp [wrt]) (by simp [Value.oneCell']) ?_; clear HS; (try clear F); intro w74 HS; replace HS : Hp noFP w _ [.box g1 [.string a0.f0, .int .i64 a0.f1, .int .i64 a0.f2, .int .i64 a0.f3, .int .i64 a0.f4, .int .i64 a0.f5, .slice (some ad57) a0.f6.length cp0, .string a0.f7] 40, .box g2 [.string (⟨#[]⟩ : ByteArray), .int .i64 0, .int .i64 0, .int .i64 0, .int .i64 0, .int .i64 0, .slice none 0 0, .string (⟨#[]⟩ : ByteArray)] 40, .box g3 [.string a0.f0, .int .i64 a0.f1, .int .i64 a0.f2, .int .i64 a0.f3, .int .i64 a0.f4, .int .i64 a0.f5, .slice B51 l50.length d51, .string a0.f7] 40, .own (Zd.slice 109 q109) l50 [.slice B51 l50.length d51], .box g5 [.int .i64 ((rd_T109 a0.f6 x52).f0), .int .i64 ((rd_T109 a0.f6 x52).f1), .slice B65 y65.length d65, .slice B72 y72.length d72] 109, .emp, .own (Zd.slice 9 Zd.string) y65 [.slice B65 y65.length d65], .emp, .own (Zd.slice 9 Zd.string) y72 [.slice B72 y72.length d72]] := HS; have F := HS.boxes; simp only [boxFacts, and_true] at F) | ((with_reducible refine gate_dst (N := 34) rfl ?_); refine ev_lit rfl q109 [6, 8] ([(⟨(rd_T109 a0.f6 x52).f0, (rd_T109 a0.f6 x52).f1, y65, y72⟩ : S109)] : List S109) ([.int .i64 ((rd_T109 a0.f6 x52).f0), .int .i64 ((rd_T109 a0.f6 x52).f1), .slice B65 y65.length d65, .slice B72 y72.length d72] ++ []) HS (by first | (go_simp; done) | (go_simp; rfl)) rfl rfl (Nat.le_of_ble_eq_true rfl) (MadeL.cons (js1 := [6, 8]) (c := [.int .i64 ((rd_T109 a0.f6 x52).f0), .int .i64 ((rd_T109 a0.f6 x52).f1), .slice B65 y65.length d65, .slice B72 y72.length d72]) rfl (fun S hd hh => q109_pack (x := (⟨(rd_T109 a0.f6 x52).f0, (rd_T109 a0.f6 x52).f1, y65, y72⟩ : S109)) hd (hh 6 (.own (Zd.slice 9 Zd.string) y65 [.slice B65 y65.length d65]) rfl) (hh 8 (.own (Zd.slice 9 Zd.string) y72 [.slice B72 y72.length d72]) rfl) (by decide)) MadeL.nil (by decide)) ?_; clear HS; (try clear F); intro v76 w76 HS; obtain ⟨B76, d76, rfl, m76⟩ := HS.formn 1 9 rfl rfl; replace HS : Hp noFP w _ [.box g1 [.string a0.f0, .int .i64 a0.f1, .int .i64 a0.f2, .int .i64 a0.f3, .int .i64 a0.f4, .int .i64 a0.f5, .slice (some ad57) a0.f6.length cp0, .string a0.f7] 40, .box g2 [.string (⟨#[]⟩ : ByteArray), .int .i64 0, .int .i64 0, .int .i64 0, .int .i64 0, .int .i64 0, .slice none 0 0, .string (⟨#[]⟩ : ByteArray)] 40, .box g3 [.string a0.f0, .int .i64 a0.f1, .int .i64 a0.f2, .int .i64 a0.f3, .int .i64 a0.f4, .int .i64 a0.f5, .slice B51 l50.length d51, .string a0.f7] 40, .own (Zd.slice 109 q109) l50 [.slice B51 l50.length d51], .box g5 [.int .i64 ((rd_T109 a0.f6 x52).f0), .int .i64 ((rd_T109 a0.f6 x52).f1), .slice B65 y65.length d65, .slice B72 y72.length d72] 109, .emp, .emp, .emp, .emp, .own (Zd.slice 109 q109) ([(⟨(rd_T109 a0.f6 x52).f0, (rd_T109 a0.f6 x52).f1, y65, y72⟩ : S109)] : List S109) [.slice B76 1 d76]] := HS; have F := HS.boxes; simp only [boxFacts, and_true] at F) | ((with_reducible refine gate_dst (N := 35) rfl ?_); refine ev_append rfl q109 3 9 HS rfl rfl (by decide) rfl rfl rfl Try.underlying38 info109 rfl (by decide) (by decide) (by have := of_eq_true c78; first | omega | (simp only [List.length_cons, List.length_nil, List.length_append, Nat.zero_add] at this ⊢; omega)) ?_; clear HS; (try clear F); intro v79 w79 HS; rw [← e_y79.out] at HS; obtain ⟨B79, d79, rfl, m79⟩ := HS.form 10 rfl; replace HS : Hp noFP w _ [.box g1 [.string a0.f0, .int .i64 a0.f1, .int .i64 a0.f2, .int .i64 a0.f3, .int .i64 a0.f4, .int .i64 a0.f5, .slice (some ad57) a0.f6.length cp0, .string a0.f7] 40, .box g2 [.string (⟨#[]⟩ : ByteArray), .int .i64 0, .int .i64 0, .int .i64 0, .int .i64 0, .int .i64 0, .slice none 0 0, .string (⟨#[]⟩ : ByteArray)] 40, .box g3 [.string a0.f0, .int .i64 a0.f1, .int .i64 a0.f2, .int .i64 a0.f3, .int .i64 a0.f4, .int .i64 a0.f5, .slice B51 l50.length d51, .string a0.f7] 40, .emp, .box g5 [.int .i64 ((rd_T109 a0.f6 x52).f0), .int .i64 ((rd_T109 a0.f6 x52).f1), .slice B65 y65.length d65, .slice B72 y72.length d72] 109, .emp, .emp, .emp, .emp, .emp, .own (Zd.slice 109 q109) y79 [.slice B79 y79.length d79]] := HS; have F := HS.boxes; simp only [boxFacts, and_true] at F) | ((with_reducible refine gate_store (p := 36) rfl ?_); refine ev_store rfl 2 6 HS (seg := [.slice B79 y79.length d79]) rfl rfl rfl rfl rfl rfl (by kernel_rfl) (by simp [wrt]) (by simp [Value.oneCell']) ?_; clear HS; (try clear F); intro w81 HS; replace HS : Hp noFP w _ [.box g1 [.string a0.f0, .int .i64 a0.f1, .int .i64 a0.f2, .int .i64 a0.f3, .int .i64 a0.f4, .int .i64 a0.f5, .slice (some ad57) a0.f6.length cp0, .string a0.f7] 40, .box g2 [.string (⟨#[]⟩ : ByteArray), .int .i64 0, .int .i64 0, .int .i64 0, .int .i64 0, .int .i64 0, .slice none 0 0, .string (⟨#[]⟩ : ByteArray)] 40, .box g3 [.string a0.f0, .int .i64 a0.f1, .int .i64 a0.f2, .int .i64 a0.f3, .int .i64 a0.f4, .int .i64 a0.f5, .slice B79 y79.length d79, .string a0.f7] 40, .emp, .box g5 [.int .i64 ((rd_T109 a0.f6 x52).f0), .int .i64 ((rd_T109 a0.f6 x52).f1), .slice B65 y65.length d65, .slice B72 y72.length d72] 109, .emp, .emp, .emp, .emp, .emp, .own (Zd.slice 109 q109) y79 [.slice B79 y79.length d79]] := HS; have F := HS.boxes; simp only [boxFacts, and_true] at F))
     go_roundg k49
     case measure => have := HKk49.out; omega
     case rel => exact ⟨_, _, _, rfl, H, ⟨by have := HKk49.out; omega⟩, HS.pick [0, 1, 2, 10] (by decide) (by rfl)⟩
   · replace H := zneg c54 H
     replace c54 := eq_false c54
     obtain rfl := zsome H
     go_wp2_with (first | ((with_reducible refine gate_store (p := 2) rfl ?_); refine ev_store rfl 1 0 HS (seg := [.string a0.f0, .int .i64 a0.f1, .int .i64 a0.f2, .int .i64 a0.f3, .int .i64 a0.f4, .int .i64 a0.f5, .slice B51 l50.length d51, .string a0.f7]) rfl rfl rfl rfl rfl rfl (by kernel_rfl) (by simp [wrt]) (by simp [Value.oneCell']) ?_; clear HS; (try clear F); intro w83 HS; replace HS : Hp noFP w _ [.box g1 [.string a0.f0, .int .i64 a0.f1, .int .i64 a0.f2, .int .i64 a0.f3, .int .i64 a0.f4, .int .i64 a0.f5, .slice Ap0 a0.f6.length cp0, .string a0.f7] 40, .box g2 [.string a0.f0, .int .i64 a0.f1, .int .i64 a0.f2, .int .i64 a0.f3, .int .i64 a0.f4, .int .i64 a0.f5, .slice B51 l50.length d51, .string a0.f7] 40, .box g3 [.string a0.f0, .int .i64 a0.f1, .int .i64 a0.f2, .int .i64 a0.f3, .int .i64 a0.f4, .int .i64 a0.f5, .slice B51 l50.length d51, .string a0.f7] 40, .own (Zd.slice 109 q109) l50 [.slice B51 l50.length d51]] := HS; have F := HS.boxes; simp only [boxFacts, and_true] at F))
     exact bodyPost_ret (results_single rfl (.cell _ _ _ _ _ rfl (HS.boxAt (i := 1) rfl) Try.underlying40 rfl (by kernel_rfl) .nil)) rfl ⟨_, rfl, HS.pick [3] (by decide) (by rfl)⟩
end Go.Proofs.Ytoaoncnbimcdgaa.F

/- Functions of the program and of the law, and that their calls do what is written here. -/
import Derived.Test.YtoaoncnbimcdgaaZgFnExactAskNowc
import Derived.Test.YtoaoncnbimcdgaaZgFnExactAskNowg
import Derived.Test.YtoaoncnbimcdgaaZgFnExactAskNowm
namespace Go.Proofs.Ytoaoncnbimcdgaa.F
open Go.RowKit Go.Proofs.YtoaoncnbimcdgaaW.PrintWords Go.Proofs.YtoaoncnbimcdgaaW.PrintLast Go.Proofs.YtoaoncnbimcdgaaW.PrintMore Go.Proofs.Ytoaoncnbimcdgaa.Z
attribute [local go_sem] max2_int min2_int max_two min_two max_three min_three max_four min_four
set_option linter.unusedVariables false
set_option linter.unusedSimpArgs false
set_option maxRecDepth 100000
/-! ### laws_szAnswer: function 188 -/
def laws_szAnswer.f (k : Nat) (a0 : S241) (a1 : Int) : Option (Int) := ((laws_szStringS.f k a0.f2 a1).bind fun t3 => (if t3 < 0 then (some (-1)) else ((laws_szStringS.f k a0.f3 t3).bind fun t6 => (if t6 < 0 then (some (-1)) else (some t6)))))
set_option maxHeartbeats 16000000 in
theorem laws_szAnswer.calls {k : Nat} {a0 : S241} {a1 : Int} {Ap0 : Option Addr} {np0 cp0 : Nat} {Ap1 : Option Addr} {np1 cp1 : Nat} {r : Int} {w : World} (h : laws_szAnswer.f k a0 a1 = some r) (gp0 : Kd.string.C w Ap0 np0 a0.f2) (lp0 : np0 ≤ cp0) (gp1 : Kd.string.C w Ap1 np1 a0.f3) (lp1 : np1 ≤ cp1) :
    Calls Try.prog 188 #[.agg #[.int .i64 a0.f0, .int .i64 a0.f1, .slice Ap0 np0 cp0, .slice Ap1 np1 cp1], .int .i64 a1] w (fun e w' => e = .returned (.int .i64 r) ∧ Hp noFP w w' []) := by
 obtain rfl := C_len gp0
 obtain rfl := C_len gp1
 have HS := Hp.start w
 have H := Aside0.mk h
 clear h
 unfold laws_szAnswer.f at H
 go_enter Try.func188, Try.ntmps188
 replace H := zbind H; obtain ⟨t3, ht3, H⟩ := H
 go_upto_if 10 with (first | ((with_reducible refine gate_dst (N := 2) rfl ?_); refine ev_box rfl HS (by first | (go_simp; done) | (go_simp; rfl)) rfl ?_; clear HS; (try clear F); intro g2 w2 HS; (try simp only [hpn, hpm] at HS); have F := HS.boxes; simp only [boxFacts, and_true] at F) | ((with_reducible refine gate_dst (N := 8) rfl ?_); refine ev_call rfl Try.func90 (by kernel_rfl) rfl #[.slice Ap0 a0.f2.length cp0, .int .i64 a1] rfl (by simp only [List.map_toArray, List.map_cons, List.map_nil]; rfl) ?_; refine (laws_szStringS.calls ht3.out (HS.ro gp0) lp0).mono ?_; rintro _ wt3 ⟨rfl, HQ⟩; refine ⟨_, rfl, ?_⟩; replace HS := HS.call HQ; clear HQ; (try clear F); (try simp only [hpn, hpm] at HS); have F := HS.boxes; simp only [boxFacts, and_true] at F))
 by_cases c5 : t3 < 0
 · replace H := zpos c5 H
   replace c5 := eq_true c5
   (try simp only [c5, dcn])
   obtain rfl := zsome H
   go_wp2
   go_ret
   exact ⟨rfl, HS.pick [] (by decide) (by rfl)⟩
 · replace H := zneg c5 H
   replace c5 := eq_false c5
   (try simp only [c5, dcn])
   replace H := zbind H; obtain ⟨t6, ht6, H⟩ := H
   go_upto_if 16 with (first | ((with_reducible refine gate_dst (N := 14) rfl ?_); refine ev_call rfl Try.func90 (by kernel_rfl) rfl #[.slice Ap1 a0.f3.length cp1, .int .i64 t3] rfl (by simp only [List.map_toArray, List.map_cons, List.map_nil]; rfl) ?_; refine (laws_szStringS.calls ht6.out (HS.ro gp1) lp1).mono ?_; rintro _ wt6 ⟨rfl, HQ⟩; refine ⟨_, rfl, ?_⟩; replace HS := HS.call HQ; clear HQ; (try clear F); (try simp only [hpn, hpm] at HS); have F := HS.boxes; simp only [boxFacts, and_true] at F))
   by_cases c8 : t6 < 0
   · replace H := zpos c8 H
     replace c8 := eq_true c8
     (try simp only [c8, dcn])
     obtain rfl := zsome H
     go_wp2
     go_ret
     exact ⟨rfl, HS.pick [] (by decide) (by rfl)⟩
   · replace H := zneg c8 H
     replace c8 := eq_false c8
     (try simp only [c8, dcn])
     obtain rfl := zsome H
     go_wp2
     go_ret
     exact ⟨rfl, HS.pick [] (by decide) (by rfl)⟩
/-! ### laws_szAnswerS: function 176 -/
def laws_szAnswerS.l0 : Nat → Int → Int → (List S241) → Option (Int)
  | 0, _, _, _ => none
  | k + 1, x12, x13, a0 => (if x13 < (a0.length : Int) then (if 0 ≤ x13 then (if x13 < (a0.length : Int) then ((laws_szAnswer.f k (rd_T241 a0 x13) x12).bind fun t19 => (if t19 < 0 then (some (-1)) else (laws_szAnswerS.l0 k t19 (wrap64 (x13 + 1)) a0))) else none) else none) else (some x12))
def laws_szAnswerS.f (k : Nat) (a0 : (List S241)) (a1 : Int) : Option (Int) := (if (wrap64 (a1 - (a0.length : Int))) < 0 then (some (-1)) else (laws_szAnswerS.l0 k (wrap64 (a1 - (a0.length : Int))) 0 a0))
set_option maxHeartbeats 16000000 in
theorem laws_szAnswerS.calls {k : Nat} {a0 : (List S241)} {a1 : Int} {Ap0 : Option Addr} {np0 cp0 : Nat} {r : Int} {w : World} (h : laws_szAnswerS.f k a0 a1 = some r) (gp0 : k241.C w Ap0 np0 a0) (lp0 : np0 ≤ cp0) :
    Calls Try.prog 176 #[.slice Ap0 np0 cp0, .int .i64 a1] w (fun e w' => e = .returned (.int .i64 r) ∧ Hp noFP w w' []) := by
 obtain rfl := C_len gp0
 have HS := Hp.start w
 have H := Aside0.mk h
 clear h
 unfold laws_szAnswerS.f at H
 go_enter Try.func176, Try.ntmps176
 by_cases c1 : (wrap64 (a1 - (a0.length : Int))) < 0
 · replace H := zpos c1 H
   replace c1 := eq_true c1
   obtain rfl := zsome H
   go_wp2
   go_ret
   exact ⟨rfl, HS.pick [] (by decide) (by rfl)⟩
 · replace H := zneg c1 H
   replace c1 := eq_false c1
   go_wp2
   go_loopg [1, 5] k (fun kq v_1 v_5 w' => ∃ (x12 : Int) (x13 : Int), v_1 = .int .i64 x12 ∧ v_5 = .int .i64 x13 ∧ Aside0 (laws_szAnswerS.l0 kq x12 x13 a0 = some r) ∧ Aside0 (kq ≤ k) ∧ Hp noFP w w' [])
   case atStart => exact ⟨_, _, rfl, rfl, H, ⟨Nat.le_refl _⟩, HS⟩
   case round =>
    clear HS H; (try clear F)
    obtain ⟨x12, x13, rfl, rfl, H, HKk11, HS⟩ := hrel
    cases gk with
    | zero => exact absurd H.out (by simp [laws_szAnswerS.l0])
    | succ k11 =>
     simp only [laws_szAnswerS.l0] at H
     by_cases c15 : x13 < (a0.length : Int)
     · replace H := zpos c15 H
       replace c15 := eq_true c15
       by_cases c16 : 0 ≤ x13
       case neg => exact zno c16 H
       replace H := zpos c16 H
       replace c16 := eq_true c16
       by_cases c17 : x13 < (a0.length : Int)
       case neg => exact zno c17 H
       replace H := zpos c17 H
       replace c17 := eq_true c17
       obtain ⟨ad18, B18_2, d18_2, B18_3, d18_3, rfl, e18_0, e18_1, e18_2, e18_3, m18_2, y18_2, m18_3, y18_3⟩ := at_T241 gp0 x13 (of_eq_true c16) (of_eq_true c17)
       have e18_0_18 := (HS.keepc e18_0)
       have e18_1_18 := (HS.keepc e18_1)
       have e18_2_18 := (HS.keepc e18_2)
       have e18_3_18 := (HS.keepc e18_3)
       replace H := zbind H; obtain ⟨t19, ht19, H⟩ := H
       go_upto_if 25 with (first | ((with_reducible refine gate_dst (N := 23) rfl ?_); refine ev_call rfl Try.func188 (by kernel_rfl) rfl #[.agg #[.int .i64 ((rd_T241 a0 x13).f0), .int .i64 ((rd_T241 a0 x13).f1), .slice B18_2 (rd_T241 a0 x13).f2.length d18_2, .slice B18_3 (rd_T241 a0 x13).f3.length d18_3], .int .i64 x12] rfl (by simp only [List.map_toArray, List.map_cons, List.map_nil]; rfl) ?_; refine (laws_szAnswer.calls ht19.out (HS.ro y18_2) m18_2 (HS.ro y18_3) m18_3).mono ?_; rintro _ wt19 ⟨rfl, HQ⟩; refine ⟨_, rfl, ?_⟩; replace HS := HS.call HQ; clear HQ; (try clear F); (try simp only [hpn, hpm] at HS)))
       by_cases c21 : t19 < 0
       · replace H := zpos c21 H
         replace c21 := eq_true c21
         (try simp only [c21, dcn])
         obtain rfl := zsome H
         go_wp2
         go_ret
         exact ⟨rfl, HS.pick [] (by decide) (by rfl)⟩
       · replace H := zneg c21 H
         replace c21 := eq_false c21
         (try simp only [c21, dcn])
         go_wp2
         go_roundg k11
         case measure => have := HKk11.out; omega
         case rel => exact ⟨_, _, rfl, rfl, H, ⟨by have := HKk11.out; omega⟩, HS.pick [] (by decide) (by rfl)⟩
     · replace H := zneg c15 H
       replace c15 := eq_false c15
       obtain rfl := zsome H
       go_wp2
       go_ret
       exact ⟨rfl, HS.pick [] (by decide) (by rfl)⟩
/-! ### laws_szReply: function 151 -/
def laws_szReply.f (k : Nat) (a0 : S158) (a1 : Int) : Option (Int) := (if (wrap64 (a1 - (a0.f0.size : Int))) < 0 then (some (-1)) else ((laws_szAnswerS.f k a0.f6 (wrap64 (a1 - (a0.f0.size : Int)))).bind fun t4 => (if t4 < 0 then (some (-1)) else (if (wrap64 (t4 - (a0.f7.size : Int))) < 0 then (some (-1)) else (some (wrap64 (t4 - (a0.f7.size : Int))))))))
set_option maxHeartbeats 16000000 in
theorem laws_szReply.calls {k : Nat} {a0 : S158} {a1 : Int} {Ap0 : Option Addr} {np0 cp0 : Nat} {r : Int} {w : World} (h : laws_szReply.f k a0 a1 = some r) (gp0 : k241.C w Ap0 np0 a0.f6) (lp0 : np0 ≤ cp0) :
    Calls Try.prog 151 #[.agg #[.string a0.f0, .int .i64 a0.f1, .int .i64 a0.f2, .int .i64 a0.f3, .int .i64 a0.f4, .int .i64 a0.f5, .slice Ap0 np0 cp0, .string a0.f7], .int .i64 a1] w (fun e w' => e = .returned (.int .i64 r) ∧ Hp noFP w w' []) := by
 obtain rfl := C_len gp0
 have HS := Hp.start w
 have H := Aside0.mk h
 clear h
 unfold laws_szReply.f at H
 go_enter Try.func151, Try.ntmps151
 go_upto_if 11 with (first | ((with_reducible refine gate_dst (N := 2) rfl ?_); refine ev_box rfl HS (by first | (go_simp; done) | (go_simp; rfl)) rfl ?_; clear HS; (try clear F); intro g2 w2 HS; (try simp only [hpn, hpm] at HS); have F := HS.boxes; simp only [boxFacts, and_true] at F))
 by_cases c3 : (wrap64 (a1 - (a0.f0.size : Int))) < 0
 · replace H := zpos c3 H
   replace c3 := eq_true c3
   (try simp only [c3, dcn])
   obtain rfl := zsome H
   go_wp2
   go_ret
   exact ⟨rfl, HS.pick [] (by decide) (by rfl)⟩
 · replace H := zneg c3 H
   replace c3 := eq_false c3
   (try simp only [c3, dcn])
   replace H := zbind H; obtain ⟨t4, ht4, H⟩ := H
   go_upto_if 17 with (first | ((with_reducible refine gate_dst (N := 15) rfl ?_); refine ev_call rfl Try.func176 (by kernel_rfl) rfl #[.slice Ap0 a0.f6.length cp0, .int .i64 (wrap64 (a1 - (a0.f0.size : Int)))] rfl (by simp only [List.map_toArray, List.map_cons, List.map_nil]; rfl) ?_; refine (laws_szAnswerS.calls ht4.out (HS.ro gp0) lp0).mono ?_; rintro _ wt4 ⟨rfl, HQ⟩; refine ⟨_, rfl, ?_⟩; replace HS := HS.call HQ; clear HQ; (try clear F); (try simp only [hpn, hpm] at HS); have F := HS.boxes; simp only [boxFacts, and_true] at F))
   by_cases c6 : t4 < 0
   · replace H := zpos c6 H
     replace c6 := eq_true c6
     (try simp only [c6, dcn])
     obtain rfl := zsome H
     go_wp2
     go_ret
     exact ⟨rfl, HS.pick [] (by decide) (by rfl)⟩
   · replace H := zneg c6 H
     replace c6 := eq_false c6
     (try simp only [c6, dcn])
     by_cases c7 : (wrap64 (t4 - (a0.f7.size : Int))) < 0
     · replace H := zpos c7 H
       replace c7 := eq_true c7
       obtain rfl := zsome H
       go_wp2
       go_ret
       exact ⟨rfl, HS.pick [] (by decide) (by rfl)⟩
     · replace H := zneg c7 H
       replace c7 := eq_false c7
       obtain rfl := zsome H
       go_wp2
       go_ret
       exact ⟨rfl, HS.pick [] (by decide) (by rfl)⟩
/-! ### laws_szGot: function 103 -/
def laws_szGot.f (k : Nat) (a0 : S160) (a1 : Int) : Option (Int) := ((laws_szReply.f k a0.f1 a1).bind fun t3 => (if t3 < 0 then (some (-1)) else (some t3)))
set_option maxHeartbeats 16000000 in
theorem laws_szGot.calls {k : Nat} {a0 : S160} {a1 : Int} {Ap0 : Option Addr} {np0 cp0 : Nat} {r : Int} {w : World} (h : laws_szGot.f k a0 a1 = some r) (gp0 : k241.C w Ap0 np0 a0.f1.f6) (lp0 : np0 ≤ cp0) :
    Calls Try.prog 103 #[.agg #[.int .i64 a0.f0, .string a0.f1.f0, .int .i64 a0.f1.f1, .int .i64 a0.f1.f2, .int .i64 a0.f1.f3, .int .i64 a0.f1.f4, .int .i64 a0.f1.f5, .slice Ap0 np0 cp0, .string a0.f1.f7], .int .i64 a1] w (fun e w' => e = .returned (.int .i64 r) ∧ Hp noFP w w' []) := by
 obtain rfl := C_len gp0
 have HS := Hp.start w
 have H := Aside0.mk h
 clear h
 unfold laws_szGot.f at H
 go_enter Try.func103, Try.ntmps103
 replace H := zbind H; obtain ⟨t3, ht3, H⟩ := H
 go_upto_if 10 with (first | ((with_reducible refine gate_dst (N := 2) rfl ?_); refine ev_box rfl HS (by first | (go_simp; done) | (go_simp; rfl)) rfl ?_; clear HS; (try clear F); intro g2 w2 HS; (try simp only [hpn, hpm] at HS); have F := HS.boxes; simp only [boxFacts, and_true] at F) | ((with_reducible refine gate_dst (N := 8) rfl ?_); refine ev_call rfl Try.func151 (by kernel_rfl) rfl #[.agg #[.string a0.f1.f0, .int .i64 a0.f1.f1, .int .i64 a0.f1.f2, .int .i64 a0.f1.f3, .int .i64 a0.f1.f4, .int .i64 a0.f1.f5, .slice Ap0 a0.f1.f6.length cp0, .string a0.f1.f7], .int .i64 a1] rfl (by simp only [List.map_toArray, List.map_cons, List.map_nil]; rfl) ?_; refine (laws_szReply.calls ht3.out (HS.ro gp0) lp0).mono ?_; rintro _ wt3 ⟨rfl, HQ⟩; refine ⟨_, rfl, ?_⟩; replace HS := HS.call HQ; clear HQ; (try clear F); (try simp only [hpn, hpm] at HS); have F := HS.boxes; simp only [boxFacts, and_true] at F))
 by_cases c5 : t3 < 0
 · replace H := zpos c5 H
   replace c5 := eq_true c5
   (try simp only [c5, dcn])
   obtain rfl := zsome H
   go_wp2
   go_ret
   exact ⟨rfl, HS.pick [] (by decide) (by rfl)⟩
 · replace H := zneg c5 H
   replace c5 := eq_false c5
   (try simp only [c5, dcn])
   obtain rfl := zsome H
   go_wp2
   go_ret
   exact ⟨rfl, HS.pick [] (by decide) (by rfl)⟩
/-! ### laws_szGotS: function 37 -/
def laws_szGotS.l0 : Nat → Int → Int → (List S160) → Option (Int)
  | 0, _, _, _ => none
  | k + 1, x12, x13, a0 => (if x13 < (a0.length : Int) then (if 0 ≤ x13 then (if x13 < (a0.length : Int) then ((laws_szGot.f k (rd_T160 a0 x13) x12).bind fun t19 => (if t19 < 0 then (some (-1)) else (laws_szGotS.l0 k t19 (wrap64 (x13 + 1)) a0))) else none) else none) else (some x12))
def laws_szGotS.f (k : Nat) (a0 : (List S160)) (a1 : Int) : Option (Int) := (if (wrap64 (a1 - (a0.length : Int))) < 0 then (some (-1)) else (laws_szGotS.l0 k (wrap64 (a1 - (a0.length : Int))) 0 a0))
set_option maxHeartbeats 16000000 in
theorem laws_szGotS.calls {k : Nat} {a0 : (List S160)} {a1 : Int} {Ap0 : Option Addr} {np0 cp0 : Nat} {r : Int} {w : World} (h : laws_szGotS.f k a0 a1 = some r) (gp0 : k160.C w Ap0 np0 a0) (lp0 : np0 ≤ cp0) :
    Calls Try.prog 37 #[.slice Ap0 np0 cp0, .int .i64 a1] w (fun e w' => e = .returned (.int .i64 r) ∧ Hp noFP w w' []) := by
 obtain rfl := C_len gp0
 have HS := Hp.start w
 have H := Aside0.mk h
 clear h
 unfold laws_szGotS.f at H
 go_enter Try.func37, Try.ntmps37
 by_cases c1 : (wrap64 (a1 - (a0.length : Int))) < 0
 · replace H := zpos c1 H
   replace c1 := eq_true c1
   obtain rfl := zsome H
   go_wp2
   go_ret
   exact ⟨rfl, HS.pick [] (by decide) (by rfl)⟩
 · replace H := zneg c1 H
   replace c1 := eq_false c1
   go_wp2
   go_loopg [1, 5] k (fun kq v_1 v_5 w' => ∃ (x12 : Int) (x13 : Int), v_1 = .int .i64 x12 ∧ v_5 = .int .i64 x13 ∧ Aside0 (laws_szGotS.l0 kq x12 x13 a0 = some r) ∧ Aside0 (kq ≤ k) ∧ Hp noFP w w' [])
   case atStart => exact ⟨_, _, rfl, rfl, H, ⟨Nat.le_refl _⟩, HS⟩
   case round =>
    clear HS H; (try clear F)
    obtain ⟨x12, x13, rfl, rfl, H, HKk11, HS⟩ := hrel
    cases gk with
    | zero => exact absurd H.out (by simp [laws_szGotS.l0])
    | succ k11 =>
     simp only [laws_szGotS.l0] at H
     by_cases c15 : x13 < (a0.length : Int)
     · replace H := zpos c15 H
       replace c15 := eq_true c15
       by_cases c16 : 0 ≤ x13
       case neg => exact zno c16 H
       replace H := zpos c16 H
       replace c16 := eq_true c16
       by_cases c17 : x13 < (a0.length : Int)
       case neg => exact zno c17 H
       replace H := zpos c17 H
       replace c17 := eq_true c17
       obtain ⟨ad18, B18_7, d18_7, rfl, e18_0, e18_1, e18_2, e18_3, e18_4, e18_5, e18_6, e18_7, e18_8, m18_7, y18_7⟩ := at_T160 gp0 x13 (of_eq_true c16) (of_eq_true c17)
       have e18_0_18 := (HS.keepc e18_0)
       have e18_1_18 := (HS.keepc e18_1)
       have e18_2_18 := (HS.keepc e18_2)
       have e18_3_18 := (HS.keepc e18_3)
       have e18_4_18 := (HS.keepc e18_4)
       have e18_5_18 := (HS.keepc e18_5)
       have e18_6_18 := (HS.keepc e18_6)
       have e18_7_18 := (HS.keepc e18_7)
       have e18_8_18 := (HS.keepc e18_8)
       replace H := zbind H; obtain ⟨t19, ht19, H⟩ := H
       go_upto_if 25 with (first | ((with_reducible refine gate_dst (N := 23) rfl ?_); refine ev_call rfl Try.func103 (by kernel_rfl) rfl #[.agg #[.int .i64 ((rd_T160 a0 x13).f0), .string ((rd_T160 a0 x13).f1.f0), .int .i64 ((rd_T160 a0 x13).f1.f1), .int .i64 ((rd_T160 a0 x13).f1.f2), .int .i64 ((rd_T160 a0 x13).f1.f3), .int .i64 ((rd_T160 a0 x13).f1.f4), .int .i64 ((rd_T160 a0 x13).f1.f5), .slice B18_7 (rd_T160 a0 x13).f1.f6.length d18_7, .string ((rd_T160 a0 x13).f1.f7)], .int .i64 x12] rfl (by simp only [List.map_toArray, List.map_cons, List.map_nil]; rfl) ?_; refine (laws_szGot.calls ht19.out (HS.ro y18_7) m18_7).mono ?_; rintro _ wt19 ⟨rfl, HQ⟩; refine ⟨_, rfl, ?_⟩; replace HS := HS.call HQ; clear HQ; (try clear F); (try simp only [hpn, hpm] at HS)))
       by_cases c21 : t19 < 0
       · replace H := zpos c21 H
         replace c21 := eq_true c21
         (try simp only [c21, dcn])
         obtain rfl := zsome H
         go_wp2
         go_ret
         exact ⟨rfl, HS.pick [] (by decide) (by rfl)⟩
       · replace H := zneg c21 H
         replace c21 := eq_false c21
         (try simp only [c21, dcn])
         go_wp2
         go_roundg k11
         case measure => have := HKk11.out; omega
         case rel => exact ⟨_, _, rfl, rfl, H, ⟨by have := HKk11.out; omega⟩, HS.pick [] (by decide) (by rfl)⟩
     · replace H := zneg c15 H
       replace c15 := eq_false c15
       obtain rfl := zsome H
       go_wp2
       go_ret
       exact ⟨rfl, HS.pick [] (by decide) (by rfl)⟩
/-! ### laws_szIntS: function 38 -/
def laws_szIntS.f (a0 : (List Int)) (a1 : Int) : Option (Int) := (if (wrap64 (a1 - (a0.length : Int))) < 0 then (some (-1)) else (some (wrap64 (a1 - (a0.length : Int)))))
set_option maxHeartbeats 16000000 in
theorem laws_szIntS.calls {a0 : (List Int)} {a1 : Int} {Ap0 : Option Addr} {np0 cp0 : Nat} {r : Int} {w : World} (h : laws_szIntS.f a0 a1 = some r) (gp0 : (Kd.int .i64).C w Ap0 np0 a0) (lp0 : np0 ≤ cp0) :
    Calls Try.prog 38 #[.slice Ap0 np0 cp0, .int .i64 a1] w (fun e w' => e = .returned (.int .i64 r) ∧ Hp noFP w w' []) := by
 obtain rfl := C_len gp0
 have HS := Hp.start w
 have H := Aside0.mk h
 clear h
 unfold laws_szIntS.f at H
 go_enter Try.func38, Try.ntmps38
 by_cases c1 : (wrap64 (a1 - (a0.length : Int))) < 0
 · replace H := zpos c1 H
   replace c1 := eq_true c1
   obtain rfl := zsome H
   go_wp2
   go_ret
   exact ⟨rfl, HS.pick [] (by decide) (by rfl)⟩
 · replace H := zneg c1 H
   replace c1 := eq_false c1
   obtain rfl := zsome H
   go_wp2
   go_ret
   exact ⟨rfl, HS.pick [] (by decide) (by rfl)⟩
/-! ### laws_szClient: function 7 -/
def laws_szClient.f (k : Nat) (a0 : S26) (a1 : Int) : Option (Int) := (if (wrap64 (a1 - (a0.f0.size : Int))) < 0 then (some (-1)) else ((laws_szWaitS.f k a0.f2 (wrap64 (a1 - (a0.f0.size : Int)))).bind fun t4 => (if t4 < 0 then (some (-1)) else ((laws_szGotS.f k a0.f3 t4).bind fun t7 => (if t7 < 0 then (some (-1)) else ((laws_szIntS.f a0.f4 t7).bind fun t10 => (if t10 < 0 then (some (-1)) else (some t10))))))))
set_option maxHeartbeats 16000000 in
theorem laws_szClient.calls {k : Nat} {a0 : S26} {a1 : Int} {Ap0 : Option Addr} {np0 cp0 : Nat} {Ap1 : Option Addr} {np1 cp1 : Nat} {Ap2 : Option Addr} {np2 cp2 : Nat} {r : Int} {w : World} (h : laws_szClient.f k a0 a1 = some r) (gp0 : k154.C w Ap0 np0 a0.f2) (lp0 : np0 ≤ cp0) (gp1 : k160.C w Ap1 np1 a0.f3) (lp1 : np1 ≤ cp1) (gp2 : (Kd.int .i64).C w Ap2 np2 a0.f4) (lp2 : np2 ≤ cp2) :
    Calls Try.prog 7 #[.agg #[.string a0.f0, .int .i64 a0.f1, .slice Ap0 np0 cp0, .slice Ap1 np1 cp1, .slice Ap2 np2 cp2], .int .i64 a1] w (fun e w' => e = .returned (.int .i64 r) ∧ Hp noFP w w' []) := by
 obtain rfl := C_len gp0
 obtain rfl := C_len gp1
 obtain rfl := C_len gp2
 have HS := Hp.start w
 have H := Aside0.mk h
 clear h
 unfold laws_szClient.f at H
 go_enter Try.func7, Try.ntmps7
 go_upto_if 11 with (first | ((with_reducible refine gate_dst (N := 2) rfl ?_); refine ev_box rfl HS (by first | (go_simp; done) | (go_simp; rfl)) rfl ?_; clear HS; (try clear F); intro g2 w2 HS; (try simp only [hpn, hpm] at HS); have F := HS.boxes; simp only [boxFacts, and_true] at F))
 by_cases c3 : (wrap64 (a1 - (a0.f0.size : Int))) < 0
 · replace H := zpos c3 H
   replace c3 := eq_true c3
   (try simp only [c3, dcn])
   obtain rfl := zsome H
   go_wp2
   go_ret
   exact ⟨rfl, HS.pick [] (by decide) (by rfl)⟩
 · replace H := zneg c3 H
   replace c3 := eq_false c3
   (try simp only [c3, dcn])
   replace H := zbind H; obtain ⟨t4, ht4, H⟩ := H
   go_upto_if 17 with (first | ((with_reducible refine gate_dst (N := 15) rfl ?_); refine ev_call rfl Try.func36 (by kernel_rfl) rfl #[.slice Ap0 a0.f2.length cp0, .int .i64 (wrap64 (a1 - (a0.f0.size : Int)))] rfl (by simp only [List.map_toArray, List.map_cons, List.map_nil]; rfl) ?_; refine (laws_szWaitS.calls ht4.out (HS.ro gp0) lp0).mono ?_; rintro _ wt4 ⟨rfl, HQ⟩; refine ⟨_, rfl, ?_⟩; replace HS := HS.call HQ; clear HQ; (try clear F); (try simp only [hpn, hpm] at HS); have F := HS.boxes; simp only [boxFacts, and_true] at F))
   by_cases c6 : t4 < 0
   · replace H := zpos c6 H
     replace c6 := eq_true c6
     (try simp only [c6, dcn])
     obtain rfl := zsome H
     go_wp2
     go_ret
     exact ⟨rfl, HS.pick [] (by decide) (by rfl)⟩
   · replace H := zneg c6 H
     replace c6 := eq_false c6
     (try simp only [c6, dcn])
     replace H := zbind H; obtain ⟨t7, ht7, H⟩ := H
     go_upto_if 23 with (first | ((with_reducible refine gate_dst (N := 21) rfl ?_); refine ev_call rfl Try.func37 (by kernel_rfl) rfl #[.slice Ap1 a0.f3.length cp1, .int .i64 t4] rfl (by simp only [List.map_toArray, List.map_cons, List.map_nil]; rfl) ?_; refine (laws_szGotS.calls ht7.out (HS.ro gp1) lp1).mono ?_; rintro _ wt7 ⟨rfl, HQ⟩; refine ⟨_, rfl, ?_⟩; replace HS := HS.call HQ; clear HQ; (try clear F); (try simp only [hpn, hpm] at HS); have F := HS.boxes; simp only [boxFacts, and_true] at F))
     by_cases c9 : t7 < 0
     · replace H := zpos c9 H
       replace c9 := eq_true c9
       (try simp only [c9, dcn])
       obtain rfl := zsome H
       go_wp2
       go_ret
       exact ⟨rfl, HS.pick [] (by decide) (by rfl)⟩
     · replace H := zneg c9 H
       replace c9 := eq_false c9
       (try simp only [c9, dcn])
       replace H := zbind H; obtain ⟨t10, ht10, H⟩ := H
       go_upto_if 29 with (first | ((with_reducible refine gate_dst (N := 27) rfl ?_); refine ev_call rfl Try.func38 (by kernel_rfl) rfl #[.slice Ap2 a0.f4.length cp2, .int .i64 t7] rfl (by simp only [List.map_toArray, List.map_cons, List.map_nil]; rfl) ?_; refine (laws_szIntS.calls ht10.out (HS.ro gp2) lp2).mono ?_; rintro _ wt10 ⟨rfl, HQ⟩; refine ⟨_, rfl, ?_⟩; replace HS := HS.call HQ; clear HQ; (try clear F); (try simp only [hpn, hpm] at HS); have F := HS.boxes; simp only [boxFacts, and_true] at F))
       by_cases c12 : t10 < 0
       · replace H := zpos c12 H
         replace c12 := eq_true c12
         (try simp only [c12, dcn])
         obtain rfl := zsome H
         go_wp2
         go_ret
         exact ⟨rfl, HS.pick [] (by decide) (by rfl)⟩
       · replace H := zneg c12 H
         replace c12 := eq_false c12
         (try simp only [c12, dcn])
         obtain rfl := zsome H
         go_wp2
         go_ret
         exact ⟨rfl, HS.pick [] (by decide) (by rfl)⟩
/-! ### laws_toWait: function 105 -/
def laws_toWait.f (a0 : S154) : Option (S89) := (some (⟨a0.f0, a0.f1, a0.f2, a0.f3⟩ : S89))
set_option maxHeartbeats 16000000 in
theorem laws_toWait.calls {a0 : S154} {r : S89} {w : World} (h : laws_toWait.f a0 = some r) :
    Calls Try.prog 105 #[.agg #[.int .i64 a0.f0, .int .i64 a0.f1, .string a0.f2, .int .i64 a0.f3]] w (fun e w' => e = .returned (.agg #[.int .i64 r.f0, .int .i64 r.f1, .string r.f2, .int .i64 r.f3]) ∧ Hp noFP w w' []) := by
 have HS := Hp.start w
 have H := Aside0.mk h
 clear h
 unfold laws_toWait.f at H
 go_enter Try.func105, Try.ntmps105
 obtain rfl := zsome H
 go_wp2_with (first | ((with_reducible refine gate_dst (N := 1) rfl ?_); refine ev_box rfl HS (by first | (go_simp; done) | (go_simp; rfl)) rfl ?_; clear HS; (try clear F); intro g1 w1 HS; (try simp only [hpn, hpm] at HS); have F := HS.boxes; simp only [boxFacts, and_true] at F) | ((with_reducible refine gate_dst (N := 2) rfl ?_); refine ev_box rfl HS (by first | (go_simp; done) | (go_simp; rfl)) rfl ?_; clear HS; (try clear F); intro g2 w2 HS; (try simp only [hpn, hpm] at HS); have F := HS.boxes; simp only [boxFacts, and_true] at F) | ((with_reducible refine gate_dst (N := 3) rfl ?_); refine ev_box rfl HS (by first | (go_simp; done) | (go_simp; rfl)) rfl ?_; clear HS; (try clear F); intro g3 w3 HS; (try simp only [hpn, hpm] at HS); have F := HS.boxes; simp only [boxFacts, and_true] at F) | ((with_reducible refine gate_store (p := 6) rfl ?_); refine ev_store rfl 2 0 HS (seg := [.int .i64 a0.f0]) rfl rfl rfl rfl rfl rfl (by kernel_rfl) (by simp [wrt]) (by simp [Value.oneCell']) ?_; clear HS; (try clear F); intro w7 HS; (try simp only [hpn, hpm] at HS); have F := HS.boxes; simp only [boxFacts, and_true] at F) | ((with_reducible refine gate_store (p := 9) rfl ?_); refine ev_store rfl 2 1 HS (seg := [.int .i64 a0.f1]) rfl rfl rfl rfl rfl rfl (by kernel_rfl) (by simp [wrt]) (by simp [Value.oneCell']) ?_; clear HS; (try clear F); intro w9 HS; (try simp only [hpn, hpm] at HS); have F := HS.boxes; simp only [boxFacts, and_true] at F) | ((with_reducible refine gate_store (p := 12) rfl ?_); refine ev_store rfl 2 2 HS (seg := [.string a0.f2]) rfl rfl rfl rfl rfl rfl (by kernel_rfl) (by simp [wrt]) (by simp [Value.oneCell']) ?_; clear HS; (try clear F); intro w11 HS; (try simp only [hpn, hpm] at HS); have F := HS.boxes; simp only [boxFacts, and_true] at F) | ((with_reducible refine gate_store (p := 15) rfl ?_); refine ev_store rfl 2 3 HS (seg := [.int .i64 a0.f3]) rfl rfl rfl rfl rfl rfl (by kernel_rfl) (by simp [wrt]) (by simp [Value.oneCell']) ?_; clear HS; (try clear F); intro w13 HS; (try simp only [hpn, hpm] at HS); have F := HS.boxes; simp only [boxFacts, and_true] at F) | ((with_reducible refine gate_store (p := 2) rfl ?_); refine ev_store rfl 1 0 HS (seg := [.int .i64 a0.f0, .int .i64 a0.f1, .string a0.f2, .int .i64 a0.f3]) rfl rfl rfl rfl rfl rfl (by kernel_rfl) (by simp [wrt]) (by simp [Value.oneCell']) ?_; clear HS; (try clear F); intro w15 HS; (try simp only [hpn, hpm] at HS); have F := HS.boxes; simp only [boxFacts, and_true] at F))
 exact bodyPost_ret (results_single rfl (.cell _ _ _ _ _ rfl (HS.boxAt (i := 1) rfl) Try.underlying89 rfl (by kernel_rfl) .nil)) rfl ⟨rfl, HS.pick [] (by decide) (by rfl)⟩
/-! ### laws_toWaitS: function 40 -/
def laws_toWaitS.l0 : Nat → (List S89) → Int → (List S154) → Option ((List S89))
  | 0, _, _, _ => none
  | k + 1, l20, x22, a0 => (if x22 < (a0.length : Int) then (if 0 ≤ x22 then (if x22 < (a0.length : Int) then ((laws_toWait.f (rd_T154 a0 x22)).bind fun t28 => (laws_toWaitS.l0 k (l20.set (x22).toNat t28) (wrap64 (x22 + 1)) a0)) else none) else none) else (some l20))
def laws_toWaitS.f (k : Nat) (a0 : (List S154)) : Option ((List S89)) := (if 0 ≤ (a0.length : Int) then (if ((a0.length : Int)).toNat ≤ 7036874417766 then (laws_toWaitS.l0 k (List.replicate a0.length z89) 0 a0) else none) else none)
set_option maxHeartbeats 16000000 in
theorem laws_toWaitS.calls {k : Nat} {a0 : (List S154)} {Ap0 : Option Addr} {np0 cp0 : Nat} {r : (List S89)} {w : World} (h : laws_toWaitS.f k a0 = some r) (gp0 : k154.C w Ap0 np0 a0) (lp0 : np0 ≤ cp0) :
    Calls Try.prog 40 #[.slice Ap0 np0 cp0] w (fun e w' => ∃ v0_ : Value, e = .returned (v0_) ∧ Hp noFP w w' [.own (Zd.slice 89 q89) r [v0_]]) := by
 obtain rfl := C_len gp0
 have HS := Hp.start w
 have H := Aside0.mk h
 clear h
 unfold laws_toWaitS.f at H
 go_enter Try.func40, Try.ntmps40
 by_cases c1 : 0 ≤ (a0.length : Int)
 case neg => exact zno c1 H
 replace H := zpos c1 H
 replace c1 := eq_true c1
 by_cases c2 : ((a0.length : Int)).toNat ≤ 7036874417766
 case neg => exact zno c2 H
 replace H := zpos c2 H
 replace c2 := eq_true c2
 go_wp2_with (first | ((with_reducible refine gate_dst (N := 7) rfl ?_); refine ev_make rfl q89 z89 HS rfl (a0.length : Int) rfl rfl Try.underlying28 info89 rfl (by decide) (by decide) q89_zero (of_eq_true c1) (by have := of_eq_true c2; omega) ?_; clear HS; (try clear F); intro v3 w3 HS; obtain ⟨B3, d3, rfl, m3⟩ := HS.formn a0.length 0 rfl (by first | rfl | simp); (try simp only [hpn, hpm] at HS)))
 go_loopg [4] k (fun kq v_4 w' => ∃ (l20 : List S89) (x22 : Int), v_4 = .int .i64 x22 ∧ Aside0 (laws_toWaitS.l0 kq l20 x22 a0 = some r) ∧ Aside0 (kq ≤ k) ∧ Hp noFP w w' [.own (Zd.slice 89 q89) l20 [.slice B3 a0.length d3]])
 case atStart => exact ⟨_, _, rfl, H, ⟨Nat.le_refl _⟩, HS⟩
 case round =>
  clear HS H; (try clear F)
  obtain ⟨l20, x22, rfl, H, HKk19, HS⟩ := hrel
  cases gk with
  | zero => exact absurd H.out (by simp [laws_toWaitS.l0])
  | succ k19 =>
   simp only [laws_toWaitS.l0] at H
   by_cases c24 : x22 < (a0.length : Int)
   · replace H := zpos c24 H
     replace c24 := eq_true c24
     by_cases c25 : 0 ≤ x22
     case neg => exact zno c25 H
     replace H := zpos c25 H
     replace c25 := eq_true c25
     by_cases c26 : x22 < (a0.length : Int)
     case neg => exact zno c26 H
     replace H := zpos c26 H
     replace c26 := eq_true c26
     obtain ⟨ad27, rfl, e27_0, e27_1, e27_2, e27_3⟩ := at_T154 gp0 x22 (of_eq_true c25) (of_eq_true c26)
     have e27_0_27 := (HS.keepc e27_0)
     have e27_1_27 := (HS.keepc e27_1)
     have e27_2_27 := (HS.keepc e27_2)
     have e27_3_27 := (HS.keepc e27_3)
     replace H := zbind H; obtain ⟨t28, ht28, H⟩ := H
     go_wp2_with (first | ((with_reducible refine gate_dst (N := 20) rfl ?_); refine ev_call rfl Try.func105 (by kernel_rfl) rfl #[.agg #[.int .i64 ((rd_T154 a0 x22).f0), .int .i64 ((rd_T154 a0 x22).f1), .string ((rd_T154 a0 x22).f2), .int .i64 ((rd_T154 a0 x22).f3)]] rfl (by simp only [List.map_toArray, List.map_cons, List.map_nil]; rfl) ?_; refine (laws_toWait.calls ht28.out).mono ?_; rintro _ wt28 ⟨rfl, HQ⟩; refine ⟨_, rfl, ?_⟩; replace HS := HS.call HQ; clear HQ; (try clear F); (try simp only [hpn, hpm] at HS); obtain ⟨ad30, rfl, e30_0, e30_1, e30_2, e30_3⟩ := at_T89 (HS.rd 0 rfl) x22 (of_eq_true c25) (of_eq_true c26)) | ((with_reducible refine gate_store (p := 21) rfl ?_); refine ev_set rfl q89 0 [] x22 t28 HS (seg := [.int .i64 t28.f0, .int .i64 t28.f1, .string t28.f2, .int .i64 t28.f3]) rfl (by decide) rfl rfl rfl (by first | rfl | exact (Nat.mul_one _).symm) rfl rfl (by kernel_rfl) (by simp [Value.oneCell']) ⟨of_eq_true c25, of_eq_true c26⟩ rfl (made_flat (fun _ => q89_flat _ _ _)) ?_; clear HS; (try clear F); intro w31 HS; (try simp only [hpn, hpm] at HS)))
     go_roundg k19
     case measure => have := HKk19.out; omega
     case rel => exact ⟨_, _, rfl, H, ⟨by have := HKk19.out; omega⟩, HS.pick [0] (by decide) (by rfl)⟩
   · replace H := zneg c24 H
     replace c24 := eq_false c24
     obtain rfl := zsome H
     go_wp2
     exact bodyPost_ret (results_single rfl (.tmp .nil)) rfl ⟨_, rfl, HS.pick [0] (by decide) (by rfl)⟩
/-! ### laws_toAnswer: function 189 -/
def laws_toAnswer.f (k : Nat) (a0 : S241) : Option (S109) := ((laws_toStringS.f k a0.f2).bind fun t11 => ((laws_toStringS.f k a0.f3).bind fun t16 => (some (⟨a0.f0, a0.f1, t11, t16⟩ : S109))))
set_option maxHeartbeats 16000000 in
theorem laws_toAnswer.calls {k : Nat} {a0 : S241} {Ap0 : Option Addr} {np0 cp0 : Nat} {Ap1 : Option Addr} {np1 cp1 : Nat} {r : S109} {w : World} (h : laws_toAnswer.f k a0 = some r) (gp0 : Kd.string.C w Ap0 np0 a0.f2) (lp0 : np0 ≤ cp0) (gp1 : Kd.string.C w Ap1 np1 a0.f3) (lp1 : np1 ≤ cp1) :
    Calls Try.prog 189 #[.agg #[.int .i64 a0.f0, .int .i64 a0.f1, .slice Ap0 np0 cp0, .slice Ap1 np1 cp1]] w (fun e w' => ∃ v0_ v1_ : Value, e = .returned (.agg #[.int .i64 r.f0, .int .i64 r.f1, v0_, v1_]) ∧ Hp noFP w w' [.own (Zd.slice 9 Zd.string) r.f2 [v0_], .own (Zd.slice 9 Zd.string) r.f3 [v1_]]) := by
 obtain rfl := C_len gp0
 obtain rfl := C_len gp1
 have HS := Hp.start w
 have H := Aside0.mk h
 clear h
 unfold laws_toAnswer.f at H
 go_enter Try.func189, Try.ntmps189
 replace H := zbind H; obtain ⟨t11, ht11, H⟩ := H
 replace H := zbind H; obtain ⟨t16, ht16, H⟩ := H
 obtain rfl := zsome H
 go_wp2_with (first | ((with_reducible refine gate_dst (N := 1) rfl ?_); refine ev_box rfl HS (by first | (go_simp; done) | (go_simp; rfl)) rfl ?_; clear HS; (try clear F); intro g1 w1 HS; (try simp only [hpn, hpm] at HS); have F := HS.boxes; simp only [boxFacts, and_true] at F) | ((with_reducible refine gate_dst (N := 2) rfl ?_); refine ev_box rfl HS (by first | (go_simp; done) | (go_simp; rfl)) rfl ?_; clear HS; (try clear F); intro g2 w2 HS; (try simp only [hpn, hpm] at HS); have F := HS.boxes; simp only [boxFacts, and_true] at F) | ((with_reducible refine gate_dst (N := 3) rfl ?_); refine ev_box rfl HS (by first | (go_simp; done) | (go_simp; rfl)) rfl ?_; clear HS; (try clear F); intro g3 w3 HS; (try simp only [hpn, hpm] at HS); have F := HS.boxes; simp only [boxFacts, and_true] at F) | ((with_reducible refine gate_store (p := 6) rfl ?_); refine ev_store rfl 2 0 HS (seg := [.int .i64 a0.f0]) rfl rfl rfl rfl rfl rfl (by kernel_rfl) (by simp [wrt]) (by simp [Value.oneCell']) ?_; clear HS; (try clear F); intro w7 HS; (try simp only [hpn, hpm] at HS); have F := HS.boxes; simp only [boxFacts, and_true] at F) | ((with_reducible refine gate_store (p := 9) rfl ?_); refine ev_store rfl 2 1 HS (seg := [.int .i64 a0.f1]) rfl rfl rfl rfl rfl rfl (by kernel_rfl) (by simp [wrt]) (by simp [Value.oneCell']) ?_; clear HS; (try clear F); intro w9 HS; (try simp only [hpn, hpm] at HS); have F := HS.boxes; simp only [boxFacts, and_true] at F) | ((with_reducible refine gate_dst (N := 12) rfl ?_); refine ev_call rfl Try.func94 (by kernel_rfl) rfl #[.slice Ap0 a0.f2.length cp0] rfl (by simp only [List.map_toArray, List.map_cons, List.map_nil]; rfl) ?_; refine (laws_toStringS.calls ht11.out (HS.ro gp0) lp0).mono ?_; rintro _ wt11 ⟨v12, rfl, HQ⟩; refine ⟨_, rfl, ?_⟩; replace HS := HS.call HQ; clear HQ; (try clear F); obtain ⟨B12, d12, rfl, m12⟩ := HS.form 3 rfl; (try simp only [hpn, hpm] at HS); have F := HS.boxes; simp only [boxFacts, and_true] at F) | ((with_reducible refine gate_store (p := 13) rfl ?_); refine ev_store rfl 2 2 HS (seg := [.slice B12 t11.length d12]) rfl rfl rfl rfl rfl rfl (by kernel_rfl) (by simp [wrt]) (by simp [Value.oneCell']) ?_; clear HS; (try clear F); intro w14 HS; (try simp only [hpn, hpm] at HS); have F := HS.boxes; simp only [boxFacts, and_true] at F) | ((with_reducible refine gate_dst (N := 16) rfl ?_); refine ev_call rfl Try.func94 (by kernel_rfl) rfl #[.slice Ap1 a0.f3.length cp1] rfl (by simp only [List.map_toArray, List.map_cons, List.map_nil]; rfl) ?_; refine (laws_toStringS.calls ht16.out (HS.ro gp1) lp1).mono ?_; rintro _ wt16 ⟨v17, rfl, HQ⟩; refine ⟨_, rfl, ?_⟩; replace HS := HS.call HQ; clear HQ; (try clear F); obtain ⟨B17, d17, rfl, m17⟩ := HS.form 4 rfl; (try simp only [hpn, hpm] at HS); have F := HS.boxes; simp only [boxFacts, and_true] at F) | ((with_reducible refine gate_store (p := 17) rfl ?_); refine ev_store rfl 2 3 HS (seg := [.slice B17 t16.length d17]) rfl rfl rfl rfl rfl rfl (by kernel_rfl) (by simp [wrt]) (by simp [Value.oneCell']) ?_; clear HS; (try clear F); intro w19 HS; (try simp only [hpn, hpm] at HS); have F := HS.boxes; simp only [boxFacts, and_true] at F) | ((with_reducible refine gate_store (p := 2) rfl ?_); refine ev_store rfl 1 0 HS (seg := [.int .i64 a0.f0, .int .i64 a0.f1, .slice B12 t11.length d12, .slice B17 t16.length d17]) rfl rfl rfl rfl rfl rfl (by kernel_rfl) (by simp [wrt]) (by simp [Value.oneCell']) ?_; clear HS; (try clear F); intro w21 HS; (try simp only [hpn, hpm] at HS); have F := HS.boxes; simp only [boxFacts, and_true] at F))
 exact bodyPost_ret (results_single rfl (.cell _ _ _ _ _ rfl (HS.boxAt (i := 1) rfl) Try.underlying109 rfl (by kernel_rfl) .nil)) rfl ⟨_, _, rfl, HS.pick [3, 4] (by decide) (by rfl)⟩
/-! ### laws_toAnswerS: function 177 -/
def laws_toAnswerS.l0 : Nat → (List S109) → Int → (List S241) → Option ((List S109))
  | 0, _, _, _ => none
  | k + 1, l22, x24, a0 => (if x24 < (a0.length : Int) then (if 0 ≤ x24 then (if x24 < (a0.length : Int) then ((laws_toAnswer.f k (rd_T241 a0 x24)).bind fun t30 => (laws_toAnswerS.l0 k (l22.set (x24).toNat t30) (wrap64 (x24 + 1)) a0)) else none) else none) else (some l22))
def laws_toAnswerS.f (k : Nat) (a0 : (List S241)) : Option ((List S109)) := (if 0 ≤ (a0.length : Int) then (if ((a0.length : Int)).toNat ≤ 4398046511104 then (laws_toAnswerS.l0 k (List.replicate a0.length z109) 0 a0) else none) else none)
set_option maxHeartbeats 16000000 in
theorem laws_toAnswerS.calls {k : Nat} {a0 : (List S241)} {Ap0 : Option Addr} {np0 cp0 : Nat} {r : (List S109)} {w : World} (h : laws_toAnswerS.f k a0 = some r) (gp0 : k241.C w Ap0 np0 a0) (lp0 : np0 ≤ cp0) :
    Calls Try.prog 177 #[.slice Ap0 np0 cp0] w (fun e w' => ∃ v0_ : Value, e = .returned (v0_) ∧ Hp noFP w w' [.own (Zd.slice 109 q109) r [v0_]]) := by
 obtain rfl := C_len gp0
 have HS := Hp.start w
 have H := Aside0.mk h
 clear h
 unfold laws_toAnswerS.f at H
 go_enter Try.func177, Try.ntmps177
 by_cases c1 : 0 ≤ (a0.length : Int)
 case neg => exact zno c1 H
 replace H := zpos c1 H
 replace c1 := eq_true c1
 by_cases c2 : ((a0.length : Int)).toNat ≤ 4398046511104
 case neg => exact zno c2 H
 replace H := zpos c2 H
 replace c2 := eq_true c2
 go_wp2_with (first | ((with_reducible refine gate_dst (N := 7) rfl ?_); refine ev_make rfl q109 z109 HS rfl (a0.length : Int) rfl rfl Try.underlying38 info109 rfl (by decide) (by decide) q109_zero (of_eq_true c1) (by have := of_eq_true c2; omega) ?_; clear HS; (try clear F); intro v3 w3 HS; obtain ⟨B3, d3, rfl, m3⟩ := HS.formn a0.length 0 rfl (by first | rfl | simp); (try simp only [hpn, hpm] at HS)))
 go_loopg [4] k (fun kq v_4 w' => ∃ (l22 : List S109) (x24 : Int), v_4 = .int .i64 x24 ∧ Aside0 (laws_toAnswerS.l0 kq l22 x24 a0 = some r) ∧ Aside0 (kq ≤ k) ∧ Hp noFP w w' [.own (Zd.slice 109 q109) l22 [.slice B3 a0.length d3]])
 case atStart => exact ⟨_, _, rfl, H, ⟨Nat.le_refl _⟩, HS⟩
 case round =>
  clear HS H; (try clear F)
  obtain ⟨l22, x24, rfl, H, HKk21, HS⟩ := hrel
  cases gk with
  | zero => exact absurd H.out (by simp [laws_toAnswerS.l0])
  | succ k21 =>
   simp only [laws_toAnswerS.l0] at H
   by_cases c26 : x24 < (a0.length : Int)
   · replace H := zpos c26 H
     replace c26 := eq_true c26
     by_cases c27 : 0 ≤ x24
     case neg => exact zno c27 H
     replace H := zpos c27 H
     replace c27 := eq_true c27
     by_cases c28 : x24 < (a0.length : Int)
     case neg => exact zno c28 H
     replace H := zpos c28 H
     replace c28 := eq_true c28
     obtain ⟨ad29, B29_2, d29_2, B29_3, d29_3, rfl, e29_0, e29_1, e29_2, e29_3, m29_2, y29_2, m29_3, y29_3⟩ := at_T241 gp0 x24 (of_eq_true c27) (of_eq_true c28)
     have e29_0_29 := (HS.keepc e29_0)
     have e29_1_29 := (HS.keepc e29_1)
     have e29_2_29 := (HS.keepc e29_2)
     have e29_3_29 := (HS.keepc e29_3)
     replace H := zbind H; obtain ⟨t30, ht30, H⟩ := H
     go_wp2_with (first | ((with_reducible refine gate_dst (N := 20) rfl ?_); refine ev_call rfl Try.func189 (by kernel_rfl) rfl #[.agg #[.int .i64 ((rd_T241 a0 x24).f0), .int .i64 ((rd_T241 a0 x24).f1), .slice B29_2 (rd_T241 a0 x24).f2.length d29_2, .slice B29_3 (rd_T241 a0 x24).f3.length d29_3]] rfl (by simp only [List.map_toArray, List.map_cons, List.map_nil]; rfl) ?_; refine (laws_toAnswer.calls ht30.out (HS.ro y29_2) m29_2 (HS.ro y29_3) m29_3).mono ?_; rintro _ wt30 ⟨v31, v32, rfl, HQ⟩; refine ⟨_, rfl, ?_⟩; replace HS := HS.call HQ; clear HQ; (try clear F); obtain ⟨B31, d31, rfl, m31⟩ := HS.form 1 rfl; obtain ⟨B32, d32, rfl, m32⟩ := HS.form 2 rfl; (try simp only [hpn, hpm] at HS); obtain ⟨ad34, B34_2, d34_2, B34_3, d34_3, rfl, e34_0, e34_1, e34_2, e34_3, m34_2, y34_2, m34_3, y34_3⟩ := at_T109 (HS.rd 0 rfl) x24 (of_eq_true c27) (of_eq_true c28)) | ((with_reducible refine gate_store (p := 21) rfl ?_); refine ev_set rfl q109 0 [1, 2] x24 t30 HS (seg := [.int .i64 t30.f0, .int .i64 t30.f1, .slice B31 t30.f2.length d31, .slice B32 t30.f3.length d32]) rfl (by decide) rfl rfl rfl (by first | rfl | exact (Nat.mul_one _).symm) rfl rfl (by kernel_rfl) (by simp [Value.oneCell']) ⟨of_eq_true c27, of_eq_true c28⟩ rfl (fun S hd hh => q109_pack (x := t30) hd (hh 1 (.own (Zd.slice 9 Zd.string) t30.f2 [.slice B31 t30.f2.length d31]) rfl) (hh 2 (.own (Zd.slice 9 Zd.string) t30.f3 [.slice B32 t30.f3.length d32]) rfl) (by decide)) ?_; clear HS; (try clear F); intro w35 HS; (try simp only [hpn, hpm] at HS)))
     go_roundg k21
     case measure => have := HKk21.out; omega
     case rel => exact ⟨_, _, rfl, H, ⟨by have := HKk21.out; omega⟩, HS.pick [0] (by decide) (by rfl)⟩
   · replace H := zneg c26 H
     replace c26 := eq_false c26
     obtain rfl := zsome H
     go_wp2
     exact bodyPost_ret (results_single rfl (.tmp .nil)) rfl ⟨_, rfl, HS.pick [0] (by decide) (by rfl)⟩
/-! ### laws_toReply: function 152 -/
def laws_toReply.f (k : Nat) (a0 : S158) : Option (S40) := ((laws_toAnswerS.f k a0.f6).bind fun t19 => (some (⟨a0.f0, a0.f1, a0.f2, a0.f3, a0.f4, a0.f5, t19, a0.f7⟩ : S40)))
set_option maxHeartbeats 16000000 in
theorem laws_toReply.calls {k : Nat} {a0 : S158} {Ap0 : Option Addr} {np0 cp0 : Nat} {r : S40} {w : World} (h : laws_toReply.f k a0 = some r) (gp0 : k241.C w Ap0 np0 a0.f6) (lp0 : np0 ≤ cp0) :
    Calls Try.prog 152 #[.agg #[.string a0.f0, .int .i64 a0.f1, .int .i64 a0.f2, .int .i64 a0.f3, .int .i64 a0.f4, .int .i64 a0.f5, .slice Ap0 np0 cp0, .string a0.f7]] w (fun e w' => ∃ v0_ : Value, e = .returned (.agg #[.string r.f0, .int .i64 r.f1, .int .i64 r.f2, .int .i64 r.f3, .int .i64 r.f4, .int .i64 r.f5, v0_, .string r.f7]) ∧ Hp noFP w w' [.own (Zd.slice 109 q109) r.f6 [v0_]]) := by
 obtain rfl := C_len gp0
 have HS := Hp.start w
 have H := Aside0.mk h
 clear h
 unfold laws_toReply.f at H
 go_enter Try.func152, Try.ntmps152
 replace H := zbind H; obtain ⟨t19, ht19, H⟩ := H
 obtain rfl := zsome H
 go_wp2_with (first | ((with_reducible refine gate_dst (N := 1) rfl ?_); refine ev_box rfl HS (by first | (go_simp; done) | (go_simp; rfl)) rfl ?_; clear HS; (try clear F); intro g1 w1 HS; (try simp only [hpn, hpm] at HS); have F := HS.boxes; simp only [boxFacts, and_true] at F) | ((with_reducible refine gate_dst (N := 2) rfl ?_); refine ev_box rfl HS (by first | (go_simp; done) | (go_simp; rfl)) rfl ?_; clear HS; (try clear F); intro g2 w2 HS; (try simp only [hpn, hpm] at HS); have F := HS.boxes; simp only [boxFacts, and_true] at F) | ((with_reducible refine gate_dst (N := 3) rfl ?_); refine ev_box rfl HS (by first | (go_simp; done) | (go_simp; rfl)) rfl ?_; clear HS; (try clear F); intro g3 w3 HS; (try simp only [hpn, hpm] at HS); have F := HS.boxes; simp only [boxFacts, and_true] at F) | ((with_reducible refine gate_store (p := 6) rfl ?_); refine ev_store rfl 2 0 HS (seg := [.string a0.f0]) rfl rfl rfl rfl rfl rfl (by kernel_rfl) (by simp [wrt]) (by simp [Value.oneCell']) ?_; clear HS; (try clear F); intro w7 HS; (try simp only [hpn, hpm] at HS); have F := HS.boxes; simp only [boxFacts, and_true] at F) | ((with_reducible refine gate_store (p := 9) rfl ?_); refine ev_store rfl 2 1 HS (seg := [.int .i64 a0.f1]) rfl rfl rfl rfl rfl rfl (by kernel_rfl) (by simp [wrt]) (by simp [Value.oneCell']) ?_; clear HS; (try clear F); intro w9 HS; (try simp only [hpn, hpm] at HS); have F := HS.boxes; simp only [boxFacts, and_true] at F) | ((with_reducible refine gate_store (p := 12) rfl ?_); refine ev_store rfl 2 2 HS (seg := [.int .i64 a0.f2]) rfl rfl rfl rfl rfl rfl (by kernel_rfl) (by simp [wrt]) (by simp [Value.oneCell']) ?_; clear HS; (try clear F); intro w11 HS; (try simp only [hpn, hpm] at HS); have F := HS.boxes; simp only [boxFacts, and_true] at F) | ((with_reducible refine gate_store (p := 15) rfl ?_); refine ev_store rfl 2 3 HS (seg := [.int .i64 a0.f3]) rfl rfl rfl rfl rfl rfl (by kernel_rfl) (by simp [wrt]) (by simp [Value.oneCell']) ?_; clear HS; (try clear F); intro w13 HS; (try simp only [hpn, hpm] at HS); have F := HS.boxes; simp only [boxFacts, and_true] at F) | ((with_reducible refine gate_store (p := 18) rfl ?_); refine ev_store rfl 2 4 HS (seg := [.int .i64 a0.f4]) rfl rfl rfl rfl rfl rfl (by kernel_rfl) (by simp [wrt]) (by simp [Value.oneCell']) ?_; clear HS; (try clear F); intro w15 HS; (try simp only [hpn, hpm] at HS); have F := HS.boxes; simp only [boxFacts, and_true] at F) | ((with_reducible refine gate_store (p := 21) rfl ?_); refine ev_store rfl 2 5 HS (seg := [.int .i64 a0.f5]) rfl rfl rfl rfl rfl rfl (by kernel_rfl) (by simp [wrt]) (by simp [Value.oneCell']) ?_; clear HS; (try clear F); intro w17 HS; (try simp only [hpn, hpm] at HS); have F := HS.boxes; simp only [boxFacts, and_true] at F) | ((with_reducible refine gate_dst (N := 24) rfl ?_); refine ev_call rfl Try.func177 (by kernel_rfl) rfl #[.slice Ap0 a0.f6.length cp0] rfl (by simp only [List.map_toArray, List.map_cons, List.map_nil]; rfl) ?_; refine (laws_toAnswerS.calls ht19.out (HS.ro gp0) lp0).mono ?_; rintro _ wt19 ⟨v20, rfl, HQ⟩; refine ⟨_, rfl, ?_⟩; replace HS := HS.call HQ; clear HQ; (try clear F); obtain ⟨B20, d20, rfl, m20⟩ := HS.form 3 rfl; (try simp only [hpn, hpm] at HS); have F := HS.boxes; simp only [boxFacts, and_true] at F) | ((with_reducible refine gate_store (p := 25) rfl ?_); refine ev_store rfl 2 6 HS (seg := [.slice B20 t19.length d20]) rfl rfl rfl rfl rfl rfl (by kernel_rfl) (by simp [wrt]) (by simp [Value.oneCell']) ?_; clear HS; (try clear F); intro w22 HS; (try simp only [hpn, hpm] at HS); have F := HS.boxes; simp only [boxFacts, and_true] at F) | ((with_reducible refine gate_store (p := 28) rfl ?_); refine ev_store rfl 2 7 HS (seg := [.string a0.f7]) rfl rfl rfl rfl rfl rfl (by kernel_rfl) (by simp [wrt]) (by simp [Value.oneCell']) ?_; clear HS; (try clear F); intro w24 HS; (try simp only [hpn, hpm] at HS); have F := HS.boxes; simp only [boxFacts, and_true] at F) | ((with_reducible refine gate_store (p := 2) rfl ?_); refine ev_store rfl 1 0 HS (seg := [.string a0.f0, .int .i64 a0.f1, .int .i64 a0.f2, .int .i64 a0.f3, .int .i64 a0.f4, .int .i64 a0.f5, .slice B20 t19.length d20, .string a0.f7]) rfl rfl rfl rfl rfl rfl (by kernel_rfl) (by simp [wrt]) (by simp [Value.oneCell']) ?_; clear HS; (try clear F); intro w26 HS; (try simp only [hpn, hpm] at HS); have F := HS.boxes; simp only [boxFacts, and_true] at F))
 exact bodyPost_ret (results_single rfl (.cell _ _ _ _ _ rfl (HS.boxAt (i := 1) rfl) Try.underlying40 rfl (by kernel_rfl) .nil)) rfl ⟨_, rfl, HS.pick [3] (by decide) (by rfl)⟩
/-! ### laws_toGot: function 106 -/
def laws_toGot.f (k : Nat) (a0 : S160) : Option (S150) := ((laws_toReply.f k a0.f1).bind fun t9 => (some (⟨a0.f0, (⟨t9.f0, t9.f1, t9.f2, t9.f3, t9.f4, t9.f5, t9.f6, t9.f7⟩ : S40)⟩ : S150)))
set_option maxHeartbeats 16000000 in
theorem laws_toGot.calls {k : Nat} {a0 : S160} {Ap0 : Option Addr} {np0 cp0 : Nat} {r : S150} {w : World} (h : laws_toGot.f k a0 = some r) (gp0 : k241.C w Ap0 np0 a0.f1.f6) (lp0 : np0 ≤ cp0) :
    Calls Try.prog 106 #[.agg #[.int .i64 a0.f0, .string a0.f1.f0, .int .i64 a0.f1.f1, .int .i64 a0.f1.f2, .int .i64 a0.f1.f3, .int .i64 a0.f1.f4, .int .i64 a0.f1.f5, .slice Ap0 np0 cp0, .string a0.f1.f7]] w (fun e w' => ∃ v0_ : Value, e = .returned (.agg #[.int .i64 r.f0, .string r.f1.f0, .int .i64 r.f1.f1, .int .i64 r.f1.f2, .int .i64 r.f1.f3, .int .i64 r.f1.f4, .int .i64 r.f1.f5, v0_, .string r.f1.f7]) ∧ Hp noFP w w' [.own (Zd.slice 109 q109) r.f1.f6 [v0_]]) := by
 obtain rfl := C_len gp0
 have HS := Hp.start w
 have H := Aside0.mk h
 clear h
 unfold laws_toGot.f at H
 go_enter Try.func106, Try.ntmps106
 replace H := zbind H; obtain ⟨t9, ht9, H⟩ := H
 obtain rfl := zsome H
 go_wp2_with (first | ((with_reducible refine gate_dst (N := 1) rfl ?_); refine ev_box rfl HS (by first | (go_simp; done) | (go_simp; rfl)) rfl ?_; clear HS; (try clear F); intro g1 w1 HS; (try simp only [hpn, hpm] at HS); have F := HS.boxes; simp only [boxFacts, and_true] at F) | ((with_reducible refine gate_dst (N := 2) rfl ?_); refine ev_box rfl HS (by first | (go_simp; done) | (go_simp; rfl)) rfl ?_; clear HS; (try clear F); intro g2 w2 HS; (try simp only [hpn, hpm] at HS); have F := HS.boxes; simp only [boxFacts, and_true] at F) | ((with_reducible refine gate_dst (N := 3) rfl ?_); refine ev_box rfl HS (by first | (go_simp; done) | (go_simp; rfl)) rfl ?_; clear HS; (try clear F); intro g3 w3 HS; (try simp only [hpn, hpm] at HS); have F := HS.boxes; simp only [boxFacts, and_true] at F) | ((with_reducible refine gate_store (p := 6) rfl ?_); refine ev_store rfl 2 0 HS (seg := [.int .i64 a0.f0]) rfl rfl rfl rfl rfl rfl (by kernel_rfl) (by simp [wrt]) (by simp [Value.oneCell']) ?_; clear HS; (try clear F); intro w7 HS; (try simp only [hpn, hpm] at HS); have F := HS.boxes; simp only [boxFacts, and_true] at F) | ((with_reducible refine gate_dst (N := 9) rfl ?_); refine ev_call rfl Try.func152 (by kernel_rfl) rfl #[.agg #[.string a0.f1.f0, .int .i64 a0.f1.f1, .int .i64 a0.f1.f2, .int .i64 a0.f1.f3, .int .i64 a0.f1.f4, .int .i64 a0.f1.f5, .slice Ap0 a0.f1.f6.length cp0, .string a0.f1.f7]] rfl (by simp only [List.map_toArray, List.map_cons, List.map_nil]; rfl) ?_; refine (laws_toReply.calls ht9.out (HS.ro gp0) lp0).mono ?_; rintro _ wt9 ⟨v10, rfl, HQ⟩; refine ⟨_, rfl, ?_⟩; replace HS := HS.call HQ; clear HQ; (try clear F); obtain ⟨B10, d10, rfl, m10⟩ := HS.form 3 rfl; (try simp only [hpn, hpm] at HS); have F := HS.boxes; simp only [boxFacts, and_true] at F) | ((with_reducible refine gate_store (p := 10) rfl ?_); refine ev_store rfl 2 1 HS (seg := [.string t9.f0, .int .i64 t9.f1, .int .i64 t9.f2, .int .i64 t9.f3, .int .i64 t9.f4, .int .i64 t9.f5, .slice B10 t9.f6.length d10, .string t9.f7]) rfl rfl rfl rfl rfl rfl (by kernel_rfl) (by simp [wrt]) (by simp [Value.oneCell']) ?_; clear HS; (try clear F); intro w12 HS; (try simp only [hpn, hpm] at HS); have F := HS.boxes; simp only [boxFacts, and_true] at F) | ((with_reducible refine gate_store (p := 2) rfl ?_); refine ev_store rfl 1 0 HS (seg := [.int .i64 a0.f0, .string t9.f0, .int .i64 t9.f1, .int .i64 t9.f2, .int .i64 t9.f3, .int .i64 t9.f4, .int .i64 t9.f5, .slice B10 t9.f6.length d10, .string t9.f7]) rfl rfl rfl rfl rfl rfl (by kernel_rfl) (by simp [wrt]) (by simp [Value.oneCell']) ?_; clear HS; (try clear F); intro w14 HS; (try simp only [hpn, hpm] at HS); have F := HS.boxes; simp only [boxFacts, and_true] at F))
 exact bodyPost_ret (results_single rfl (.cell _ _ _ _ _ rfl (HS.boxAt (i := 1) rfl) Try.underlying150 rfl (by kernel_rfl) .nil)) rfl ⟨_, rfl, HS.pick [3] (by decide) (by rfl)⟩
/-! ### laws_toGotS: function 41 -/
def laws_toGotS.l0 : Nat → (List S150) → Int → (List S160) → Option ((List S150))
  | 0, _, _, _ => none
  | k + 1, l21, x23, a0 => (if x23 < (a0.length : Int) then (if 0 ≤ x23 then (if x23 < (a0.length : Int) then ((laws_toGot.f k (rd_T160 a0 x23)).bind fun t29 => (laws_toGotS.l0 k (l21.set (x23).toNat t29) (wrap64 (x23 + 1)) a0)) else none) else none) else (some l21))
def laws_toGotS.f (k : Nat) (a0 : (List S160)) : Option ((List S150)) := (if 0 ≤ (a0.length : Int) then (if ((a0.length : Int)).toNat ≤ 2706490160679 then (laws_toGotS.l0 k (List.replicate a0.length z150) 0 a0) else none) else none)
set_option maxHeartbeats 16000000 in
theorem laws_toGotS.calls {k : Nat} {a0 : (List S160)} {Ap0 : Option Addr} {np0 cp0 : Nat} {r : (List S150)} {w : World} (h : laws_toGotS.f k a0 = some r) (gp0 : k160.C w Ap0 np0 a0) (lp0 : np0 ≤ cp0) :
    Calls Try.prog 41 #[.slice Ap0 np0 cp0] w (fun e w' => ∃ v0_ : Value, e = .returned (v0_) ∧ Hp noFP w w' [.own (Zd.slice 150 q150) r [v0_]]) := by
 obtain rfl := C_len gp0
 have HS := Hp.start w
 have H := Aside0.mk h
 clear h
 unfold laws_toGotS.f at H
 go_enter Try.func41, Try.ntmps41
 by_cases c1 : 0 ≤ (a0.length : Int)
 case neg => exact zno c1 H
 replace H := zpos c1 H
 replace c1 := eq_true c1
 by_cases c2 : ((a0.length : Int)).toNat ≤ 2706490160679
 case neg => exact zno c2 H
 replace H := zpos c2 H
 replace c2 := eq_true c2
 go_wp2_with (first | ((with_reducible refine gate_dst (N := 7) rfl ?_); refine ev_make rfl q150 z150 HS rfl (a0.length : Int) rfl rfl Try.underlying29 info150 rfl (by decide) (by decide) q150_zero (of_eq_true c1) (by have := of_eq_true c2; omega) ?_; clear HS; (try clear F); intro v3 w3 HS; obtain ⟨B3, d3, rfl, m3⟩ := HS.formn a0.length 0 rfl (by first | rfl | simp); (try simp only [hpn, hpm] at HS)))
 go_loopg [4] k (fun kq v_4 w' => ∃ (l21 : List S150) (x23 : Int), v_4 = .int .i64 x23 ∧ Aside0 (laws_toGotS.l0 kq l21 x23 a0 = some r) ∧ Aside0 (kq ≤ k) ∧ Hp noFP w w' [.own (Zd.slice 150 q150) l21 [.slice B3 a0.length d3]])
 case atStart => exact ⟨_, _, rfl, H, ⟨Nat.le_refl _⟩, HS⟩
 case round =>
  clear HS H; (try clear F)
  obtain ⟨l21, x23, rfl, H, HKk20, HS⟩ := hrel
  cases gk with
  | zero => exact absurd H.out (by simp [laws_toGotS.l0])
  | succ k20 =>
   simp only [laws_toGotS.l0] at H
   by_cases c25 : x23 < (a0.length : Int)
   · replace H := zpos c25 H
     replace c25 := eq_true c25
     by_cases c26 : 0 ≤ x23
     case neg => exact zno c26 H
     replace H := zpos c26 H
     replace c26 := eq_true c26
     by_cases c27 : x23 < (a0.length : Int)
     case neg => exact zno c27 H
     replace H := zpos c27 H
     replace c27 := eq_true c27
     obtain ⟨ad28, B28_7, d28_7, rfl, e28_0, e28_1, e28_2, e28_3, e28_4, e28_5, e28_6, e28_7, e28_8, m28_7, y28_7⟩ := at_T160 gp0 x23 (of_eq_true c26) (of_eq_true c27)
     have e28_0_28 := (HS.keepc e28_0)
     have e28_1_28 := (HS.keepc e28_1)
     have e28_2_28 := (HS.keepc e28_2)
     have e28_3_28 := (HS.keepc e28_3)
     have e28_4_28 := (HS.keepc e28_4)
     have e28_5_28 := (HS.keepc e28_5)
     have e28_6_28 := (HS.keepc e28_6)
     have e28_7_28 := (HS.keepc e28_7)
     have e28_8_28 := (HS.keepc e28_8)
     replace H := zbind H; obtain ⟨t29, ht29, H⟩ := H
     go_wp2_with (first | ((with_reducible refine gate_dst (N := 20) rfl ?_); refine ev_call rfl Try.func106 (by kernel_rfl) rfl #[.agg #[.int .i64 ((rd_T160 a0 x23).f0), .string ((rd_T160 a0 x23).f1.f0), .int .i64 ((rd_T160 a0 x23).f1.f1), .int .i64 ((rd_T160 a0 x23).f1.f2), .int .i64 ((rd_T160 a0 x23).f1.f3), .int .i64 ((rd_T160 a0 x23).f1.f4), .int .i64 ((rd_T160 a0 x23).f1.f5), .slice B28_7 (rd_T160 a0 x23).f1.f6.length d28_7, .string ((rd_T160 a0 x23).f1.f7)]] rfl (by simp only [List.map_toArray, List.map_cons, List.map_nil]; rfl) ?_; refine (laws_toGot.calls ht29.out (HS.ro y28_7) m28_7).mono ?_; rintro _ wt29 ⟨v30, rfl, HQ⟩; refine ⟨_, rfl, ?_⟩; replace HS := HS.call HQ; clear HQ; (try clear F); obtain ⟨B30, d30, rfl, m30⟩ := HS.form 1 rfl; (try simp only [hpn, hpm] at HS); obtain ⟨ad32, B32_7, d32_7, rfl, e32_0, e32_1, e32_2, e32_3, e32_4, e32_5, e32_6, e32_7, e32_8, m32_7, y32_7⟩ := at_T150 (HS.rd 0 rfl) x23 (of_eq_true c26) (of_eq_true c27)) | ((with_reducible refine gate_store (p := 21) rfl ?_); refine ev_set rfl q150 0 [1] x23 t29 HS (seg := [.int .i64 t29.f0, .string t29.f1.f0, .int .i64 t29.f1.f1, .int .i64 t29.f1.f2, .int .i64 t29.f1.f3, .int .i64 t29.f1.f4, .int .i64 t29.f1.f5, .slice B30 t29.f1.f6.length d30, .string t29.f1.f7]) rfl (by decide) rfl rfl rfl (by first | rfl | exact (Nat.mul_one _).symm) rfl rfl (by kernel_rfl) (by simp [Value.oneCell']) ⟨of_eq_true c26, of_eq_true c27⟩ rfl (fun S hd hh => q150_pack (x := t29) hd (hh 1 (.own (Zd.slice 109 q109) t29.f1.f6 [.slice B30 t29.f1.f6.length d30]) rfl) (by decide)) ?_; clear HS; (try clear F); intro w33 HS; (try simp only [hpn, hpm] at HS)))
     go_roundg k20
     case measure => have := HKk20.out; omega
     case rel => exact ⟨_, _, rfl, H, ⟨by have := HKk20.out; omega⟩, HS.pick [0] (by decide) (by rfl)⟩
   · replace H := zneg c25 H
     replace c25 := eq_false c25
     obtain rfl := zsome H
     go_wp2
     exact bodyPost_ret (results_single rfl (.tmp .nil)) rfl ⟨_, rfl, HS.pick [0] (by decide) (by rfl)⟩
/-! ### laws_toIntS: function 42 -/
def laws_toIntS.l0 : Nat → (List Int) → Int → (List Int) → Option ((List Int))
  | 0, _, _, _ => none
  | k + 1, l18, x20, a0 => (if x20 < (a0.length : Int) then (if 0 ≤ x20 then (if x20 < (a0.length : Int) then (laws_toIntS.l0 k (l18.set (x20).toNat (rd a0 x20)) (wrap64 (x20 + 1)) a0) else none) else none) else (some l18))
def laws_toIntS.f (k : Nat) (a0 : (List Int)) : Option ((List Int)) := (if 0 ≤ (a0.length : Int) then (if ((a0.length : Int)).toNat ≤ 35184372088832 then (laws_toIntS.l0 k (List.replicate a0.length (0 : Int)) 0 a0) else none) else none)
set_option maxHeartbeats 16000000 in
theorem laws_toIntS.calls {k : Nat} {a0 : (List Int)} {Ap0 : Option Addr} {np0 cp0 : Nat} {r : (List Int)} {w : World} (h : laws_toIntS.f k a0 = some r) (gp0 : (Kd.int .i64).C w Ap0 np0 a0) (lp0 : np0 ≤ cp0) :
    Calls Try.prog 42 #[.slice Ap0 np0 cp0] w (fun e w' => ∃ v0_ : Value, e = .returned (v0_) ∧ Hp noFP w w' [.own (Zd.slice 3 (Zd.int .i64)) r [v0_]]) := by
 obtain rfl := C_len gp0
 have HS := Hp.start w
 have H := Aside0.mk h
 clear h
 unfold laws_toIntS.f at H
 go_enter Try.func42, Try.ntmps42
 by_cases c1 : 0 ≤ (a0.length : Int)
 case neg => exact zno c1 H
 replace H := zpos c1 H
 replace c1 := eq_true c1
 by_cases c2 : ((a0.length : Int)).toNat ≤ 35184372088832
 case neg => exact zno c2 H
 replace H := zpos c2 H
 replace c2 := eq_true c2
 go_wp2_with (first | ((with_reducible refine gate_dst (N := 7) rfl ?_); refine ev_make rfl (Zd.int .i64) (0 : Int) HS rfl (a0.length : Int) rfl rfl Try.underlying24 info3 rfl (by decide) (by decide) (fun _ _ => rfl) (of_eq_true c1) (by have := of_eq_true c2; omega) ?_; clear HS; (try clear F); intro v3 w3 HS; obtain ⟨B3, d3, rfl, m3⟩ := HS.formn a0.length 0 rfl (by first | rfl | simp); (try simp only [hpn, hpm] at HS)))
 go_loopg [4] k (fun kq v_4 w' => ∃ (l18 : List Int) (x20 : Int), v_4 = .int .i64 x20 ∧ Aside0 (laws_toIntS.l0 kq l18 x20 a0 = some r) ∧ Aside0 (kq ≤ k) ∧ Hp noFP w w' [.own (Zd.slice 3 (Zd.int .i64)) l18 [.slice B3 a0.length d3]])
 case atStart => exact ⟨_, _, rfl, H, ⟨Nat.le_refl _⟩, HS⟩
 case round =>
  clear HS H; (try clear F)
  obtain ⟨l18, x20, rfl, H, HKk17, HS⟩ := hrel
  cases gk with
  | zero => exact absurd H.out (by simp [laws_toIntS.l0])
  | succ k17 =>
   simp only [laws_toIntS.l0] at H
   by_cases c22 : x20 < (a0.length : Int)
   · replace H := zpos c22 H
     replace c22 := eq_true c22
     by_cases c23 : 0 ≤ x20
     case neg => exact zno c23 H
     replace H := zpos c23 H
     replace c23 := eq_true c23
     by_cases c24 : x20 < (a0.length : Int)
     case neg => exact zno c24 H
     replace H := zpos c24 H
     replace c24 := eq_true c24
     obtain ⟨ad25, rfl, e25_0⟩ := Kd.at_int gp0 x20 (of_eq_true c23) (of_eq_true c24)
     have e25_0_25 := (HS.keepc e25_0)
     obtain ⟨ad26, rfl, e26_0⟩ := Kd.at_int (HS.rd 0 rfl) x20 (of_eq_true c23) (of_eq_true c24)
     go_wp2_with (first | ((with_reducible refine gate_store (p := 20) rfl ?_); refine ev_set rfl (Zd.int .i64) 0 [] x20 (rd a0 x20) HS (seg := [.int .i64 (rd a0 x20)]) rfl (by decide) rfl rfl rfl (by first | rfl | exact (Nat.mul_one _).symm) rfl rfl (by kernel_rfl) (by simp [Value.oneCell']) ⟨of_eq_true c23, of_eq_true c24⟩ rfl (made_flat (fun _ => rfl)) ?_; clear HS; (try clear F); intro w27 HS; (try simp only [hpn, hpm] at HS)))
     go_roundg k17
     case measure => have := HKk17.out; omega
     case rel => exact ⟨_, _, rfl, H, ⟨by have := HKk17.out; omega⟩, HS.pick [0] (by decide) (by rfl)⟩
   · replace H := zneg c22 H
     replace c22 := eq_false c22
     obtain rfl := zsome H
     go_wp2
     exact bodyPost_ret (results_single rfl (.tmp .nil)) rfl ⟨_, rfl, HS.pick [0] (by decide) (by rfl)⟩
end Go.Proofs.Ytoaoncnbimcdgaa.F

/- Functions of the program and of the law, and that their calls do what is written here. -/
import Derived.Test.YtdcjcanobiohnaaZT
namespace Go.Proofs.Ytdcjcanobiohnaa.F
open Go.RowKit Go.Proofs.YtdcjcanobiohnaaW.PrintWords Go.Proofs.YtdcjcanobiohnaaW.PrintLast Go.Proofs.YtdcjcanobiohnaaW.PrintMore Go.Proofs.Ytdcjcanobiohnaa.Z
attribute [local go_sem] max2_int min2_int max_two min_two max_three min_three max_four min_four
set_option linter.unusedVariables false
set_option linter.unusedSimpArgs false
set_option maxRecDepth 100000
/-! ### laws_szStringS: function 110 -/
def laws_szStringS.l0 : Nat → Int → Int → (List ByteArray) → Option (Int)
  | 0, _, _, _ => none
  | k + 1, x9, x10, a0 => (if x10 < (a0.length : Int) then (if 0 ≤ x10 then (if x10 < (a0.length : Int) then (if (wrap64 (x9 - ((rdOf ByteArray.empty a0 x10).size : Int))) < 0 then (some (-1)) else (laws_szStringS.l0 k (wrap64 (x9 - ((rdOf ByteArray.empty a0 x10).size : Int))) (wrap64 (x10 + 1)) a0)) else none) else none) else (some x9))
def laws_szStringS.f (k : Nat) (a0 : (List ByteArray)) (a1 : Int) : Option (Int) := (if (wrap64 (a1 - (a0.length : Int))) < 0 then (some (-1)) else (laws_szStringS.l0 k (wrap64 (a1 - (a0.length : Int))) 0 a0))
set_option maxHeartbeats 16000000 in
theorem laws_szStringS.calls {k : Nat} {a0 : (List ByteArray)} {a1 : Int} {Ap0 : Option Addr} {np0 cp0 : Nat} {r : Int} {w : World} (h : laws_szStringS.f k a0 a1 = some r) (gp0 : Kd.string.C w Ap0 np0 a0) (lp0 : np0 ≤ cp0) :
    Calls Try.prog 110 #[.slice Ap0 np0 cp0, .int .i64 a1] w (fun e w' => e = .returned (.int .i64 r) ∧ Hp noFP w w' []) := by
 obtain rfl := C_len gp0
 have HS := Hp.start w
 have H := Aside0.mk h
 clear h
 unfold laws_szStringS.f at H
 go_enter Try.func110, Try.ntmps110
 by_cases c1 : (wrap64 (a1 - (a0.length : Int))) < 0
 · replace H := zpos c1 H
   replace c1 := eq_true c1
   obtain rfl := zsome H
   go_wp2
   go_ret
   exact ⟨rfl, HS.pick [] (by decide) (by rfl)⟩
 · replace H := zneg c1 H
   replace c1 := eq_false c1
   go_wp2
   go_loopg [1, 5] k (fun kq v_1 v_5 w' => ∃ (x9 : Int) (x10 : Int), v_1 = .int .i64 x9 ∧ v_5 = .int .i64 x10 ∧ Aside0 (laws_szStringS.l0 kq x9 x10 a0 = some r) ∧ Aside0 (kq ≤ k) ∧ Hp noFP w w' [])
   case atStart => exact ⟨_, _, rfl, rfl, H, ⟨Nat.le_refl _⟩, HS⟩
   case round =>
    clear HS H; (try clear F)
    obtain ⟨x9, x10, rfl, rfl, H, HKk8, HS⟩ := hrel
    cases gk with
    | zero => exact absurd H.out (by simp [laws_szStringS.l0])
    | succ k8 =>
     simp only [laws_szStringS.l0] at H
     by_cases c12 : x10 < (a0.length : Int)
     · replace H := zpos c12 H
       replace c12 := eq_true c12
       by_cases c13 : 0 ≤ x10
       case neg => exact zno c13 H
       replace H := zpos c13 H
       replace c13 := eq_true c13
       by_cases c14 : x10 < (a0.length : Int)
       case neg => exact zno c14 H
       replace H := zpos c14 H
       replace c14 := eq_true c14
       obtain ⟨ad15, rfl, e15_0⟩ := Kd.at_string gp0 x10 (of_eq_true c13) (of_eq_true c14)
       have e15_0_15 := (HS.keepc e15_0)
       by_cases c16 : (wrap64 (x9 - ((rdOf ByteArray.empty a0 x10).size : Int))) < 0
       · replace H := zpos c16 H
         replace c16 := eq_true c16
         obtain rfl := zsome H
         go_wp2
         go_ret
         exact ⟨rfl, HS.pick [] (by decide) (by rfl)⟩
       · replace H := zneg c16 H
         replace c16 := eq_false c16
         go_wp2
         go_roundg k8
         case measure => have := HKk8.out; omega
         case rel => exact ⟨_, _, rfl, rfl, H, ⟨by have := HKk8.out; omega⟩, HS.pick [] (by decide) (by rfl)⟩
     · replace H := zneg c12 H
       replace c12 := eq_false c12
       obtain rfl := zsome H
       go_wp2
       go_ret
       exact ⟨rfl, HS.pick [] (by decide) (by rfl)⟩
/-! ### laws_szIntS: function 77 -/
def laws_szIntS.f (a0 : (List Int)) (a1 : Int) : Option (Int) := (if (wrap64 (a1 - (a0.length : Int))) < 0 then (some (-1)) else (some (wrap64 (a1 - (a0.length : Int)))))
set_option maxHeartbeats 16000000 in
theorem laws_szIntS.calls {a0 : (List Int)} {a1 : Int} {Ap0 : Option Addr} {np0 cp0 : Nat} {r : Int} {w : World} (h : laws_szIntS.f a0 a1 = some r) (gp0 : (Kd.int .i64).C w Ap0 np0 a0) (lp0 : np0 ≤ cp0) :
    Calls Try.prog 77 #[.slice Ap0 np0 cp0, .int .i64 a1] w (fun e w' => e = .returned (.int .i64 r) ∧ Hp noFP w w' []) := by
 obtain rfl := C_len gp0
 have HS := Hp.start w
 have H := Aside0.mk h
 clear h
 unfold laws_szIntS.f at H
 go_enter Try.func77, Try.ntmps77
 by_cases c1 : (wrap64 (a1 - (a0.length : Int))) < 0
 · replace H := zpos c1 H
   replace c1 := eq_true c1
   obtain rfl := zsome H
   go_wp2
   go_ret
   exact ⟨rfl, HS.pick [] (by decide) (by rfl)⟩
 · replace H := zneg c1 H
   replace c1 := eq_false c1
   obtain rfl := zsome H
   go_wp2
   go_ret
   exact ⟨rfl, HS.pick [] (by decide) (by rfl)⟩
/-! ### laws_szCert: function 50 -/
def laws_szCert.f (k : Nat) (a0 : S92) (a1 : Int) : Option (Int) := (if (wrap64 (a1 - (a0.f1.size : Int))) < 0 then (some (-1)) else (if (wrap64 ((wrap64 (a1 - (a0.f1.size : Int))) - (a0.f2.size : Int))) < 0 then (some (-1)) else (if (wrap64 ((wrap64 ((wrap64 (a1 - (a0.f1.size : Int))) - (a0.f2.size : Int))) - (a0.f5.size : Int))) < 0 then (some (-1)) else ((laws_szIntS.f a0.f9 (wrap64 ((wrap64 ((wrap64 (a1 - (a0.f1.size : Int))) - (a0.f2.size : Int))) - (a0.f5.size : Int)))).bind fun t6 => (if t6 < 0 then (some (-1)) else ((laws_szStringS.f k a0.f10 t6).bind fun t9 => (if t9 < 0 then (some (-1)) else ((laws_szStringS.f k a0.f11 t9).bind fun t12 => (if t12 < 0 then (some (-1)) else (if (wrap64 (t12 - (a0.f12.size : Int))) < 0 then (some (-1)) else (some (wrap64 (t12 - (a0.f12.size : Int))))))))))))))
set_option maxHeartbeats 16000000 in
theorem laws_szCert.calls {k : Nat} {a0 : S92} {a1 : Int} {Ap0 : Option Addr} {np0 cp0 : Nat} {Ap1 : Option Addr} {np1 cp1 : Nat} {Ap2 : Option Addr} {np2 cp2 : Nat} {r : Int} {w : World} (h : laws_szCert.f k a0 a1 = some r) (gp0 : (Kd.int .i64).C w Ap0 np0 a0.f9) (lp0 : np0 ≤ cp0) (gp1 : Kd.string.C w Ap1 np1 a0.f10) (lp1 : np1 ≤ cp1) (gp2 : Kd.string.C w Ap2 np2 a0.f11) (lp2 : np2 ≤ cp2) :
    Calls Try.prog 50 #[.agg #[.int .i64 a0.f0, .string a0.f1, .string a0.f2, .int .i64 a0.f3, .int .i64 a0.f4, .string a0.f5, .bool a0.f6, .int .i64 a0.f7, .int .i64 a0.f8, .slice Ap0 np0 cp0, .slice Ap1 np1 cp1, .slice Ap2 np2 cp2, .string a0.f12], .int .i64 a1] w (fun e w' => e = .returned (.int .i64 r) ∧ Hp noFP w w' []) := by
 obtain rfl := C_len gp0
 obtain rfl := C_len gp1
 obtain rfl := C_len gp2
 have HS := Hp.start w
 have H := Aside0.mk h
 clear h
 unfold laws_szCert.f at H
 go_enter Try.func50, Try.ntmps50
 go_upto_if 11 with (first | ((with_reducible refine gate_dst (N := 2) rfl ?_); refine ev_box rfl HS (by first | (go_simp; done) | (go_simp; rfl)) rfl ?_; clear HS; (try clear F); intro g2 w2 HS; replace HS : Hp noFP w _ [.box g2 [.int .i64 a0.f0, .string a0.f1, .string a0.f2, .int .i64 a0.f3, .int .i64 a0.f4, .string a0.f5, .bool a0.f6, .int .i64 a0.f7, .int .i64 a0.f8, .slice Ap0 a0.f9.length cp0, .slice Ap1 a0.f10.length cp1, .slice Ap2 a0.f11.length cp2, .string a0.f12] 92] := HS; have F := HS.boxes; simp only [boxFacts, and_true] at F))
 by_cases c3 : (wrap64 (a1 - (a0.f1.size : Int))) < 0
 · replace H := zpos c3 H
   replace c3 := eq_true c3
   (try simp only [c3, decide_true, decide_false, Bool.not_true, Bool.not_false])
   obtain rfl := zsome H
   go_wp2
   go_ret
   exact ⟨rfl, HS.pick [] (by decide) (by rfl)⟩
 · replace H := zneg c3 H
   replace c3 := eq_false c3
   (try simp only [c3, decide_true, decide_false, Bool.not_true, Bool.not_false])
   by_cases c4 : (wrap64 ((wrap64 (a1 - (a0.f1.size : Int))) - (a0.f2.size : Int))) < 0
   · replace H := zpos c4 H
     replace c4 := eq_true c4
     obtain rfl := zsome H
     go_wp2
     go_ret
     exact ⟨rfl, HS.pick [] (by decide) (by rfl)⟩
   · replace H := zneg c4 H
     replace c4 := eq_false c4
     by_cases c5 : (wrap64 ((wrap64 ((wrap64 (a1 - (a0.f1.size : Int))) - (a0.f2.size : Int))) - (a0.f5.size : Int))) < 0
     · replace H := zpos c5 H
       replace c5 := eq_true c5
       obtain rfl := zsome H
       go_wp2
       go_ret
       exact ⟨rfl, HS.pick [] (by decide) (by rfl)⟩
     · replace H := zneg c5 H
       replace c5 := eq_false c5
       replace H := zbind H; obtain ⟨t6, ht6, H⟩ := H
       go_upto_if 31 with (first | ((with_reducible refine gate_dst (N := 29) rfl ?_); refine ev_call rfl Try.func77 (by kernel_rfl) rfl #[.slice Ap0 a0.f9.length cp0, .int .i64 (wrap64 ((wrap64 ((wrap64 (a1 - (a0.f1.size : Int))) - (a0.f2.size : Int))) - (a0.f5.size : Int)))] rfl (by simp only [List.map_toArray, List.map_cons, List.map_nil]; rfl) ?_; refine (laws_szIntS.calls ht6.out (HS.ro gp0) lp0).mono ?_; rintro _ wt6 ⟨rfl, HQ⟩; refine ⟨_, rfl, ?_⟩; replace HS := HS.call HQ; clear HQ; (try clear F); replace HS : Hp noFP w _ [.box g2 [.int .i64 a0.f0, .string a0.f1, .string a0.f2, .int .i64 a0.f3, .int .i64 a0.f4, .string a0.f5, .bool a0.f6, .int .i64 a0.f7, .int .i64 a0.f8, .slice Ap0 a0.f9.length cp0, .slice Ap1 a0.f10.length cp1, .slice Ap2 a0.f11.length cp2, .string a0.f12] 92] := HS; have F := HS.boxes; simp only [boxFacts, and_true] at F))
       by_cases c8 : t6 < 0
       · replace H := zpos c8 H
         replace c8 := eq_true c8
         (try simp only [c8, decide_true, decide_false, Bool.not_true, Bool.not_false])
         obtain rfl := zsome H
         go_wp2
         go_ret
         exact ⟨rfl, HS.pick [] (by decide) (by rfl)⟩
       · replace H := zneg c8 H
         replace c8 := eq_false c8
         (try simp only [c8, decide_true, decide_false, Bool.not_true, Bool.not_false])
         replace H := zbind H; obtain ⟨t9, ht9, H⟩ := H
         go_upto_if 37 with (first | ((with_reducible refine gate_dst (N := 35) rfl ?_); refine ev_call rfl Try.func110 (by kernel_rfl) rfl #[.slice Ap1 a0.f10.length cp1, .int .i64 t6] rfl (by simp only [List.map_toArray, List.map_cons, List.map_nil]; rfl) ?_; refine (laws_szStringS.calls ht9.out (HS.ro gp1) lp1).mono ?_; rintro _ wt9 ⟨rfl, HQ⟩; refine ⟨_, rfl, ?_⟩; replace HS := HS.call HQ; clear HQ; (try clear F); replace HS : Hp noFP w _ [.box g2 [.int .i64 a0.f0, .string a0.f1, .string a0.f2, .int .i64 a0.f3, .int .i64 a0.f4, .string a0.f5, .bool a0.f6, .int .i64 a0.f7, .int .i64 a0.f8, .slice Ap0 a0.f9.length cp0, .slice Ap1 a0.f10.length cp1, .slice Ap2 a0.f11.length cp2, .string a0.f12] 92] := HS; have F := HS.boxes; simp only [boxFacts, and_true] at F))
         by_cases c11 : t9 < 0
         · replace H := zpos c11 H
           replace c11 := eq_true c11
           (try simp only [c11, decide_true, decide_false, Bool.not_true, Bool.not_false])
           obtain rfl := zsome H
           go_wp2
           go_ret
           exact ⟨rfl, HS.pick [] (by decide) (by rfl)⟩
         · replace H := zneg c11 H
           replace c11 := eq_false c11
           (try simp only [c11, decide_true, decide_false, Bool.not_true, Bool.not_false])
           replace H := zbind H; obtain ⟨t12, ht12, H⟩ := H
           go_upto_if 43 with (first | ((with_reducible refine gate_dst (N := 41) rfl ?_); refine ev_call rfl Try.func110 (by kernel_rfl) rfl #[.slice Ap2 a0.f11.length cp2, .int .i64 t9] rfl (by simp only [List.map_toArray, List.map_cons, List.map_nil]; rfl) ?_; refine (laws_szStringS.calls ht12.out (HS.ro gp2) lp2).mono ?_; rintro _ wt12 ⟨rfl, HQ⟩; refine ⟨_, rfl, ?_⟩; replace HS := HS.call HQ; clear HQ; (try clear F); replace HS : Hp noFP w _ [.box g2 [.int .i64 a0.f0, .string a0.f1, .string a0.f2, .int .i64 a0.f3, .int .i64 a0.f4, .string a0.f5, .bool a0.f6, .int .i64 a0.f7, .int .i64 a0.f8, .slice Ap0 a0.f9.length cp0, .slice Ap1 a0.f10.length cp1, .slice Ap2 a0.f11.length cp2, .string a0.f12] 92] := HS; have F := HS.boxes; simp only [boxFacts, and_true] at F))
           by_cases c14 : t12 < 0
           · replace H := zpos c14 H
             replace c14 := eq_true c14
             (try simp only [c14, decide_true, decide_false, Bool.not_true, Bool.not_false])
             obtain rfl := zsome H
             go_wp2
             go_ret
             exact ⟨rfl, HS.pick [] (by decide) (by rfl)⟩
           · replace H := zneg c14 H
             replace c14 := eq_false c14
             (try simp only [c14, decide_true, decide_false, Bool.not_true, Bool.not_false])
             by_cases c15 : (wrap64 (t12 - (a0.f12.size : Int))) < 0
             · replace H := zpos c15 H
               replace c15 := eq_true c15
               obtain rfl := zsome H
               go_wp2
               go_ret
               exact ⟨rfl, HS.pick [] (by decide) (by rfl)⟩
             · replace H := zneg c15 H
               replace c15 := eq_false c15
               obtain rfl := zsome H
               go_wp2
               go_ret
               exact ⟨rfl, HS.pick [] (by decide) (by rfl)⟩
/-! ### laws_szCertS: function 10 -/
def laws_szCertS.l0 : Nat → Int → Int → (List S92) → Option (Int)
  | 0, _, _, _ => none
  | k + 1, x12, x13, a0 => (if x13 < (a0.length : Int) then (if 0 ≤ x13 then (if x13 < (a0.length : Int) then ((laws_szCert.f k (rd_T92 a0 x13) x12).bind fun t19 => (if t19 < 0 then (some (-1)) else (laws_szCertS.l0 k t19 (wrap64 (x13 + 1)) a0))) else none) else none) else (some x12))
def laws_szCertS.f (k : Nat) (a0 : (List S92)) (a1 : Int) : Option (Int) := (if (wrap64 (a1 - (a0.length : Int))) < 0 then (some (-1)) else (laws_szCertS.l0 k (wrap64 (a1 - (a0.length : Int))) 0 a0))
set_option maxHeartbeats 16000000 in
theorem laws_szCertS.calls {k : Nat} {a0 : (List S92)} {a1 : Int} {Ap0 : Option Addr} {np0 cp0 : Nat} {r : Int} {w : World} (h : laws_szCertS.f k a0 a1 = some r) (gp0 : k92.C w Ap0 np0 a0) (lp0 : np0 ≤ cp0) :
    Calls Try.prog 10 #[.slice Ap0 np0 cp0, .int .i64 a1] w (fun e w' => e = .returned (.int .i64 r) ∧ Hp noFP w w' []) := by
 obtain rfl := C_len gp0
 have HS := Hp.start w
 have H := Aside0.mk h
 clear h
 unfold laws_szCertS.f at H
 go_enter Try.func10, Try.ntmps10
 by_cases c1 : (wrap64 (a1 - (a0.length : Int))) < 0
 · replace H := zpos c1 H
   replace c1 := eq_true c1
   obtain rfl := zsome H
   go_wp2
   go_ret
   exact ⟨rfl, HS.pick [] (by decide) (by rfl)⟩
 · replace H := zneg c1 H
   replace c1 := eq_false c1
   go_wp2
   go_loopg [1, 5] k (fun kq v_1 v_5 w' => ∃ (x12 : Int) (x13 : Int), v_1 = .int .i64 x12 ∧ v_5 = .int .i64 x13 ∧ Aside0 (laws_szCertS.l0 kq x12 x13 a0 = some r) ∧ Aside0 (kq ≤ k) ∧ Hp noFP w w' [])
   case atStart => exact ⟨_, _, rfl, rfl, H, ⟨Nat.le_refl _⟩, HS⟩
   case round =>
    clear HS H; (try clear F)
    obtain ⟨x12, x13, rfl, rfl, H, HKk11, HS⟩ := hrel
    cases gk with
    | zero => exact absurd H.out (by simp [laws_szCertS.l0])
    | succ k11 =>
     simp only [laws_szCertS.l0] at H
     by_cases c15 : x13 < (a0.length : Int)
     · replace H := zpos c15 H
       replace c15 := eq_true c15
       by_cases c16 : 0 ≤ x13
       case neg => exact zno c16 H
       replace H := zpos c16 H
       replace c16 := eq_true c16
       by_cases c17 : x13 < (a0.length : Int)
       case neg => exact zno c17 H
       replace H := zpos c17 H
       replace c17 := eq_true c17
       obtain ⟨ad18, B18_9, d18_9, B18_10, d18_10, B18_11, d18_11, rfl, e18_0, e18_1, e18_2, e18_3, e18_4, e18_5, e18_6, e18_7, e18_8, e18_9, e18_10, e18_11, e18_12, m18_9, y18_9, m18_10, y18_10, m18_11, y18_11⟩ := at_T92 gp0 x13 (of_eq_true c16) (of_eq_true c17)
       have e18_0_18 := (HS.keepc e18_0)
       have e18_1_18 := (HS.keepc e18_1)
       have e18_2_18 := (HS.keepc e18_2)
       have e18_3_18 := (HS.keepc e18_3)
       have e18_4_18 := (HS.keepc e18_4)
       have e18_5_18 := (HS.keepc e18_5)
       have e18_6_18 := (HS.keepc e18_6)
       have e18_7_18 := (HS.keepc e18_7)
       have e18_8_18 := (HS.keepc e18_8)
       have e18_9_18 := (HS.keepc e18_9)
       have e18_10_18 := (HS.keepc e18_10)
       have e18_11_18 := (HS.keepc e18_11)
       have e18_12_18 := (HS.keepc e18_12)
       replace H := zbind H; obtain ⟨t19, ht19, H⟩ := H
       go_upto_if 25 with (first | ((with_reducible refine gate_dst (N := 23) rfl ?_); refine ev_call rfl Try.func50 (by kernel_rfl) rfl #[.agg #[.int .i64 ((rd_T92 a0 x13).f0), .string ((rd_T92 a0 x13).f1), .string ((rd_T92 a0 x13).f2), .int .i64 ((rd_T92 a0 x13).f3), .int .i64 ((rd_T92 a0 x13).f4), .string ((rd_T92 a0 x13).f5), .bool ((rd_T92 a0 x13).f6), .int .i64 ((rd_T92 a0 x13).f7), .int .i64 ((rd_T92 a0 x13).f8), .slice B18_9 (rd_T92 a0 x13).f9.length d18_9, .slice B18_10 (rd_T92 a0 x13).f10.length d18_10, .slice B18_11 (rd_T92 a0 x13).f11.length d18_11, .string ((rd_T92 a0 x13).f12)], .int .i64 x12] rfl (by simp only [List.map_toArray, List.map_cons, List.map_nil]; rfl) ?_; refine (laws_szCert.calls ht19.out (HS.ro y18_9) m18_9 (HS.ro y18_10) m18_10 (HS.ro y18_11) m18_11).mono ?_; rintro _ wt19 ⟨rfl, HQ⟩; refine ⟨_, rfl, ?_⟩; replace HS := HS.call HQ; clear HQ; (try clear F); replace HS : Hp noFP w _ [] := HS))
       by_cases c21 : t19 < 0
       · replace H := zpos c21 H
         replace c21 := eq_true c21
         (try simp only [c21, decide_true, decide_false, Bool.not_true, Bool.not_false])
         obtain rfl := zsome H
         go_wp2
         go_ret
         exact ⟨rfl, HS.pick [] (by decide) (by rfl)⟩
       · replace H := zneg c21 H
         replace c21 := eq_false c21
         (try simp only [c21, decide_true, decide_false, Bool.not_true, Bool.not_false])
         go_wp2
         go_roundg k11
         case measure => have := HKk11.out; omega
         case rel => exact ⟨_, _, rfl, rfl, H, ⟨by have := HKk11.out; omega⟩, HS.pick [] (by decide) (by rfl)⟩
     · replace H := zneg c15 H
       replace c15 := eq_false c15
       obtain rfl := zsome H
       go_wp2
       go_ret
       exact ⟨rfl, HS.pick [] (by decide) (by rfl)⟩
/-! ### spec_l08In: function 111 -/
def spec_l08In.l0 : Nat → Int → (List Int) → Int → Option (Bool)
  | 0, _, _, _ => none
  | k + 1, x4, a0, a1 => (if x4 < (a0.length : Int) then (if 0 ≤ x4 then (if x4 < (a0.length : Int) then (if (rd a0 x4) = a1 then (some true) else (spec_l08In.l0 k (wrap64 (x4 + 1)) a0 a1)) else none) else none) else (some false))
def spec_l08In.f (k : Nat) (a0 : (List Int)) (a1 : Int) : Option (Bool) := (spec_l08In.l0 k 0 a0 a1)
set_option maxHeartbeats 16000000 in
theorem spec_l08In.calls {k : Nat} {a0 : (List Int)} {a1 : Int} {Ap0 : Option Addr} {np0 cp0 : Nat} {r : Bool} {w : World} (h : spec_l08In.f k a0 a1 = some r) (gp0 : (Kd.int .i64).C w Ap0 np0 a0) (lp0 : np0 ≤ cp0) :
    Calls Try.prog 111 #[.slice Ap0 np0 cp0, .int .i64 a1] w (fun e w' => e = .returned (.bool r) ∧ Hp noFP w w' []) := by
 obtain rfl := C_len gp0
 have HS := Hp.start w
 have H := Aside0.mk h
 clear h
 unfold spec_l08In.f at H
 go_enter Try.func111, Try.ntmps111
 go_wp2
 go_loopg [5] k (fun kq v_5 w' => ∃ (x4 : Int), v_5 = .int .i64 x4 ∧ Aside0 (spec_l08In.l0 kq x4 a0 a1 = some r) ∧ Aside0 (kq ≤ k) ∧ Hp noFP w w' [])
 case atStart => exact ⟨_, rfl, H, ⟨Nat.le_refl _⟩, HS⟩
 case round =>
  clear HS H; (try clear F)
  obtain ⟨x4, rfl, H, HKk3, HS⟩ := hrel
  cases gk with
  | zero => exact absurd H.out (by simp [spec_l08In.l0])
  | succ k3 =>
   simp only [spec_l08In.l0] at H
   by_cases c6 : x4 < (a0.length : Int)
   · replace H := zpos c6 H
     replace c6 := eq_true c6
     by_cases c7 : 0 ≤ x4
     case neg => exact zno c7 H
     replace H := zpos c7 H
     replace c7 := eq_true c7
     by_cases c8 : x4 < (a0.length : Int)
     case neg => exact zno c8 H
     replace H := zpos c8 H
     replace c8 := eq_true c8
     obtain ⟨ad9, rfl, e9_0⟩ := Kd.at_int gp0 x4 (of_eq_true c7) (of_eq_true c8)
     have e9_0_9 := (HS.keepc e9_0)
     by_cases c10 : (rd a0 x4) = a1
     · replace H := zpos c10 H
       have c10a := beq_iff_eq.mpr c10
       have c10b := bne_eq_false_iff_eq.mpr c10
       clear c10
       obtain rfl := zsome H
       go_wp2
       go_ret
       exact ⟨rfl, HS.pick [] (by decide) (by rfl)⟩
     · replace H := zneg c10 H
       have c10a := beq_eq_false_iff_ne.mpr c10
       have c10b := bne_iff_ne.mpr c10
       clear c10
       go_wp2
       go_roundg k3
       case measure => have := HKk3.out; omega
       case rel => exact ⟨_, rfl, H, ⟨by have := HKk3.out; omega⟩, HS.pick [] (by decide) (by rfl)⟩
   · replace H := zneg c6 H
     replace c6 := eq_false c6
     obtain rfl := zsome H
     go_wp2
     go_ret
     exact ⟨rfl, HS.pick [] (by decide) (by rfl)⟩
/-! ### spec_JoinPolicies: function 51 -/
def spec_JoinPolicies.l0 : Nat → (List Int) → Int → (List Int) → Bool → (List Int) → Option ((List Int) × Bool)
  | 0, _, _, _, _, _ => none
  | k + 1, l18, x20, a0, a1, a2 => (if x20 < (a2.length : Int) then (if a1 = true then (if 0 ≤ x20 then (if x20 < (a2.length : Int) then (if l18.length + 1 ≤ 17592186044416 then (lets (l18 ++ ([(rd a2 x20)] : List Int)) fun y30 => (spec_JoinPolicies.l0 k y30 (wrap64 (x20 + 1)) a0 a1 a2)) else none) else none) else none) else (if 0 ≤ x20 then (if x20 < (a2.length : Int) then ((spec_l08In.f k a0 (rd a2 x20)).bind fun t35 => (if t35 = true then (if l18.length + 1 ≤ 17592186044416 then (lets (l18 ++ ([(rd a2 x20)] : List Int)) fun y42 => (spec_JoinPolicies.l0 k y42 (wrap64 (x20 + 1)) a0 a1 a2)) else none) else (spec_JoinPolicies.l0 k l18 (wrap64 (x20 + 1)) a0 a1 a2))) else none) else none)) else (some (l18, false)))
def spec_JoinPolicies.f (k : Nat) (a0 : (List Int)) (a1 : Bool) (a2 : (List Int)) : Option ((List Int) × Bool) := ((spec_l08In.f k a2 0).bind fun t3 => (if t3 = true then (if 0 + a0.length ≤ 17592186044416 then (lets (([] : List Int) ++ a0) fun y7 => (some (y7, a1))) else none) else (spec_JoinPolicies.l0 k ([] : List Int) 0 a0 a1 a2)))
set_option maxHeartbeats 16000000 in
theorem spec_JoinPolicies.calls {k : Nat} {a0 : (List Int)} {a1 : Bool} {a2 : (List Int)} {Ap0 : Option Addr} {np0 cp0 : Nat} {Ap1 : Option Addr} {np1 cp1 : Nat} {r1 : (List Int)} {r2 : Bool} {w : World} (h : spec_JoinPolicies.f k a0 a1 a2 = some (r1, r2)) (gp0 : (Kd.int .i64).C w Ap0 np0 a0) (lp0 : np0 ≤ cp0) (gp1 : (Kd.int .i64).C w Ap1 np1 a2) (lp1 : np1 ≤ cp1) :
    Calls Try.prog 51 #[.slice Ap0 np0 cp0, .bool a1, .slice Ap1 np1 cp1] w (fun e w' => ∃ v0_ : Value, e = .returned (.tuple #[v0_, .bool r2]) ∧ Hp noFP w w' [.own (Zd.slice 3 (Zd.int .i64)) r1 [v0_]]) := by
 obtain rfl := C_len gp0
 obtain rfl := C_len gp1
 have HS := Hp.start w
 have H := Aside0.mk h
 clear h
 unfold spec_JoinPolicies.f at H
 go_enter Try.func51, Try.ntmps51
 replace H := zbind H; obtain ⟨t3, ht3, H⟩ := H
 go_upto_if 12 with (first | ((with_reducible refine gate_dst (N := 10) rfl ?_); refine ev_lit rfl (Zd.int .i64) [] ([] : List Int) [] HS (by first | (go_simp; done) | (go_simp; rfl)) rfl rfl (Nat.le_of_ble_eq_true rfl) MadeL.nil ?_; clear HS; (try clear F); intro v1 w1 HS; obtain ⟨B1, d1, rfl, m1⟩ := HS.formn 0 0 rfl rfl; replace HS : Hp noFP w _ [.own (Zd.slice 3 (Zd.int .i64)) ([] : List Int) [.slice B1 0 d1]] := HS) | ((with_reducible refine gate_dst (N := 12) rfl ?_); refine ev_call rfl Try.func111 (by kernel_rfl) rfl #[.slice Ap1 a2.length cp1, .int .i64 0] rfl (by simp only [List.map_toArray, List.map_cons, List.map_nil]; rfl) ?_; refine (spec_l08In.calls ht3.out (HS.ro gp1) lp1).mono ?_; rintro _ wt3 ⟨rfl, HQ⟩; refine ⟨_, rfl, ?_⟩; replace HS := HS.call HQ; clear HQ; (try clear F); replace HS : Hp noFP w _ [.own (Zd.slice 3 (Zd.int .i64)) ([] : List Int) [.slice B1 0 d1]] := HS))
 by_cases c5 : t3 = true
 · replace H := zpos c5 H
   subst c5
   (try simp only [decide_true, decide_false, Bool.not_true, Bool.not_false, if_true, Bool.false_eq_true, if_false])
   by_cases c6 : 0 + a0.length ≤ 17592186044416
   case neg => exact zno c6 H
   replace H := zpos c6 H
   replace c6 := eq_true c6
   replace H := zlets H; obtain ⟨y7, e_y7, H⟩ := H
   obtain ⟨rfl, rfl⟩ := zsome2 H
   go_wp2_with (first | ((with_reducible refine gate_dst (N := 15) rfl ?_); refine ev_appendr rfl (Zd.int .i64) (flat_int _) 0 HS rfl (HS.ro gp0) rfl rfl rfl Try.underlying24 info3 rfl (by decide) (by decide) (by have := of_eq_true c6; first | omega | (simp only [List.length_cons, List.length_nil, List.length_append, Nat.zero_add] at this ⊢; omega)) ?_; clear HS; (try clear F); intro v7 w7 HS; rw [← e_y7.out] at HS; obtain ⟨B7, d7, rfl, m7⟩ := HS.form 1 rfl; replace HS : Hp noFP w _ [.emp, .own (Zd.slice 3 (Zd.int .i64)) y7 [.slice B7 y7.length d7]] := HS))
   exact bodyPost_ret (results_list (rs := [.tmp 6, .tmp 7]) rfl (by simp) (.tmp (.tmp .nil))) rfl ⟨_, rfl, HS.pick [1] (by decide) (by rfl)⟩
 · replace H := zneg c5 H
   replace c5 := eq_false_of_ne_true c5
   subst c5
   (try simp only [decide_true, decide_false, Bool.not_true, Bool.not_false, if_true, Bool.false_eq_true, if_false])
   go_wp2
   go_loopg [8, 9] k (fun kq v_8 v_9 w' => ∃ (l18 : List Int) (v19 : Value) (x20 : Int), v_8 = v19 ∧ v_9 = .int .i64 x20 ∧ Aside0 (spec_JoinPolicies.l0 kq l18 x20 a0 a1 a2 = some (r1, r2)) ∧ Aside0 (kq ≤ k) ∧ Hp noFP w w' [.own (Zd.slice 3 (Zd.int .i64)) l18 [v19]])
   case atStart => exact ⟨_, _, _, rfl, rfl, H, ⟨Nat.le_refl _⟩, HS⟩
   case round =>
    clear HS H; (try clear F)
    obtain ⟨l18, v19, x20, rfl, rfl, H, HKk17, HS⟩ := hrel
    obtain ⟨B19, d19, rfl, m19⟩ := HS.form 0 rfl
    cases gk with
    | zero => exact absurd H.out (by simp [spec_JoinPolicies.l0])
    | succ k17 =>
     simp only [spec_JoinPolicies.l0] at H
     by_cases c22 : x20 < (a2.length : Int)
     · replace H := zpos c22 H
       replace c22 := eq_true c22
       by_cases c23 : a1 = true
       · replace H := zpos c23 H
         subst c23
         by_cases c24 : 0 ≤ x20
         case neg => exact zno c24 H
         replace H := zpos c24 H
         replace c24 := eq_true c24
         by_cases c25 : x20 < (a2.length : Int)
         case neg => exact zno c25 H
         replace H := zpos c25 H
         replace c25 := eq_true c25
         obtain ⟨ad26, rfl, e26_0⟩ := Kd.at_int gp1 x20 (of_eq_true c24) (of_eq_true c25)
         have e26_0_26 := (HS.keepc e26_0)
         by_cases c29 : l18.length + 1 ≤ 17592186044416
         case neg => exact zno c29 H
         replace H := zpos c29 H
         replace c29 := eq_true c29
         replace H := zlets H; obtain ⟨y30, e_y30, H⟩ := H
         go_wp2_with (first | ((with_reducible refine gate_dst (N := 37) rfl ?_); refine ev_lit rfl (Zd.int .i64) [] ([(rd a2 x20)] : List Int) ([.int .i64 (rd a2 x20)] ++ []) HS (by first | (go_simp; done) | (go_simp; rfl)) rfl rfl (Nat.le_of_ble_eq_true rfl) (MadeL.cons (js1 := []) (c := [.int .i64 (rd a2 x20)]) rfl (made_flat (fun _ => rfl)) MadeL.nil (by decide)) ?_; clear HS; (try clear F); intro v27 w27 HS; obtain ⟨B27, d27, rfl, m27⟩ := HS.formn 1 1 rfl rfl; replace HS : Hp noFP w _ [.own (Zd.slice 3 (Zd.int .i64)) l18 [.slice B19 l18.length d19], .own (Zd.slice 3 (Zd.int .i64)) ([(rd a2 x20)] : List Int) [.slice B27 1 d27]] := HS) | ((with_reducible refine gate_dst (N := 38) rfl ?_); refine ev_append rfl (Zd.int .i64) 0 1 HS rfl rfl (by decide) rfl rfl rfl Try.underlying24 info3 rfl (by decide) (by decide) (by have := of_eq_true c29; first | omega | (simp only [List.length_cons, List.length_nil, List.length_append, Nat.zero_add] at this ⊢; omega)) ?_; clear HS; (try clear F); intro v30 w30 HS; rw [← e_y30.out] at HS; obtain ⟨B30, d30, rfl, m30⟩ := HS.form 2 rfl; replace HS : Hp noFP w _ [.emp, .emp, .own (Zd.slice 3 (Zd.int .i64)) y30 [.slice B30 y30.length d30]] := HS))
         go_roundg k17
         case measure => have := HKk17.out; omega
         case rel => exact ⟨_, _, _, rfl, rfl, H, ⟨by have := HKk17.out; omega⟩, HS.pick [2] (by decide) (by rfl)⟩
       · replace H := zneg c23 H
         replace c23 := eq_false_of_ne_true c23
         subst c23
         by_cases c32 : 0 ≤ x20
         case neg => exact zno c32 H
         replace H := zpos c32 H
         replace c32 := eq_true c32
         by_cases c33 : x20 < (a2.length : Int)
         case neg => exact zno c33 H
         replace H := zpos c33 H
         replace c33 := eq_true c33
         obtain ⟨ad34, rfl, e34_0⟩ := Kd.at_int gp1 x20 (of_eq_true c32) (of_eq_true c33)
         have e34_0_34 := (HS.keepc e34_0)
         replace H := zbind H; obtain ⟨t35, ht35, H⟩ := H
         go_upto_if 31 with (first | ((with_reducible refine gate_dst (N := 30) rfl ?_); refine gate_guard (by rfl) ?_; refine ev_call rfl Try.func111 (by kernel_rfl) rfl #[.slice Ap0 a0.length cp0, .int .i64 (rd a2 x20)] rfl (by simp only [List.map_toArray, List.map_cons, List.map_nil]; rfl) ?_; refine (spec_l08In.calls ht35.out (HS.ro gp0) lp0).mono ?_; rintro _ wt35 ⟨rfl, HQ⟩; refine ⟨_, rfl, ?_⟩; replace HS := HS.call HQ; clear HQ; (try clear F); replace HS : Hp noFP w _ [.own (Zd.slice 3 (Zd.int .i64)) l18 [.slice B19 l18.length d19]] := HS))
         by_cases c37 : t35 = true
         · replace H := zpos c37 H
           subst c37
           (try simp only [decide_true, decide_false, Bool.not_true, Bool.not_false, if_true, Bool.false_eq_true, if_false])
           have e34_0_38 := (HS.keepc e34_0)
           by_cases c41 : l18.length + 1 ≤ 17592186044416
           case neg => exact zno c41 H
           replace H := zpos c41 H
           replace c41 := eq_true c41
           replace H := zlets H; obtain ⟨y42, e_y42, H⟩ := H
           go_wp2_with (first | ((with_reducible refine gate_dst (N := 37) rfl ?_); refine ev_lit rfl (Zd.int .i64) [] ([(rd a2 x20)] : List Int) ([.int .i64 (rd a2 x20)] ++ []) HS (by first | (go_simp; done) | (go_simp; rfl)) rfl rfl (Nat.le_of_ble_eq_true rfl) (MadeL.cons (js1 := []) (c := [.int .i64 (rd a2 x20)]) rfl (made_flat (fun _ => rfl)) MadeL.nil (by decide)) ?_; clear HS; (try clear F); intro v39 w39 HS; obtain ⟨B39, d39, rfl, m39⟩ := HS.formn 1 1 rfl rfl; replace HS : Hp noFP w _ [.own (Zd.slice 3 (Zd.int .i64)) l18 [.slice B19 l18.length d19], .own (Zd.slice 3 (Zd.int .i64)) ([(rd a2 x20)] : List Int) [.slice B39 1 d39]] := HS) | ((with_reducible refine gate_dst (N := 38) rfl ?_); refine ev_append rfl (Zd.int .i64) 0 1 HS rfl rfl (by decide) rfl rfl rfl Try.underlying24 info3 rfl (by decide) (by decide) (by have := of_eq_true c41; first | omega | (simp only [List.length_cons, List.length_nil, List.length_append, Nat.zero_add] at this ⊢; omega)) ?_; clear HS; (try clear F); intro v42 w42 HS; rw [← e_y42.out] at HS; obtain ⟨B42, d42, rfl, m42⟩ := HS.form 2 rfl; replace HS : Hp noFP w _ [.emp, .emp, .own (Zd.slice 3 (Zd.int .i64)) y42 [.slice B42 y42.length d42]] := HS))
           go_roundg k17
           case measure => have := HKk17.out; omega
           case rel => exact ⟨_, _, _, rfl, rfl, H, ⟨by have := HKk17.out; omega⟩, HS.pick [2] (by decide) (by rfl)⟩
         · replace H := zneg c37 H
           replace c37 := eq_false_of_ne_true c37
           subst c37
           (try simp only [decide_true, decide_false, Bool.not_true, Bool.not_false, if_true, Bool.false_eq_true, if_false])
           go_wp2
           go_roundg k17
           case measure => have := HKk17.out; omega
           case rel => exact ⟨_, _, _, rfl, rfl, H, ⟨by have := HKk17.out; omega⟩, HS.pick [0] (by decide) (by rfl)⟩
     · replace H := zneg c22 H
       replace c22 := eq_false c22
       obtain ⟨rfl, rfl⟩ := zsome2 H
       go_wp2
       exact bodyPost_ret (results_list (rs := [.tmp 6, .tmp 7]) rfl (by simp) (.tmp (.tmp .nil))) rfl ⟨_, rfl, HS.pick [0] (by decide) (by rfl)⟩
/-! ### spec_StaysOf: function 11 -/
def spec_StaysOf.l0 : Nat → (List Int) → Bool → Int → (List S94) → Option ((List Int) × Bool)
  | 0, _, _, _, _ => none
  | k + 1, l17, x19, x20, a0 => (if x20 < (a0.length : Int) then (if 0 ≤ x20 then (if x20 < (a0.length : Int) then ((spec_JoinPolicies.f k l17 x19 ((rd_T94 a0 x20).f9)).bind fun t26 => (spec_StaysOf.l0 k t26.1 t26.2 (wrap64 (x20 + 1)) a0)) else none) else none) else (some (l17, x19)))
def spec_StaysOf.f (k : Nat) (a0 : (List S94)) : Option ((List Int) × Bool) := (spec_StaysOf.l0 k ([] : List Int) true 0 a0)
set_option maxHeartbeats 16000000 in
theorem spec_StaysOf.calls {k : Nat} {a0 : (List S94)} {Ap0 : Option Addr} {np0 cp0 : Nat} {r1 : (List Int)} {r2 : Bool} {w : World} (h : spec_StaysOf.f k a0 = some (r1, r2)) (gp0 : k94.C w Ap0 np0 a0) (lp0 : np0 ≤ cp0) :
    Calls Try.prog 11 #[.slice Ap0 np0 cp0] w (fun e w' => ∃ v0_ : Value, e = .returned (.tuple #[v0_, .bool r2]) ∧ Hp noFP w w' [.own (Zd.slice 3 (Zd.int .i64)) r1 [v0_]]) := by
 obtain rfl := C_len gp0
 have HS := Hp.start w
 have H := Aside0.mk h
 clear h
 unfold spec_StaysOf.f at H
 go_enter Try.func11, Try.ntmps11
 go_wp2_with (first | ((with_reducible refine gate_dst (N := 7) rfl ?_); refine ev_lit rfl (Zd.int .i64) [] ([] : List Int) [] HS (by first | (go_simp; done) | (go_simp; rfl)) rfl rfl (Nat.le_of_ble_eq_true rfl) MadeL.nil ?_; clear HS; (try clear F); intro v1 w1 HS; obtain ⟨B1, d1, rfl, m1⟩ := HS.formn 0 0 rfl rfl; replace HS : Hp noFP w _ [.own (Zd.slice 3 (Zd.int .i64)) ([] : List Int) [.slice B1 0 d1]] := HS))
 go_loopg [4, 5, 6] k (fun kq v_4 v_5 v_6 w' => ∃ (l17 : List Int) (v18 : Value) (x19 : Bool) (x20 : Int), v_4 = v18 ∧ v_5 = .bool x19 ∧ v_6 = .int .i64 x20 ∧ Aside0 (spec_StaysOf.l0 kq l17 x19 x20 a0 = some (r1, r2)) ∧ Aside0 (kq ≤ k) ∧ Hp noFP w w' [.own (Zd.slice 3 (Zd.int .i64)) l17 [v18]])
 case atStart => exact ⟨_, _, _, _, rfl, rfl, rfl, H, ⟨Nat.le_refl _⟩, HS⟩
 case round =>
  clear HS H; (try clear F)
  obtain ⟨l17, v18, x19, x20, rfl, rfl, rfl, H, HKk16, HS⟩ := hrel
  obtain ⟨B18, d18, rfl, m18⟩ := HS.form 0 rfl
  cases gk with
  | zero => exact absurd H.out (by simp [spec_StaysOf.l0])
  | succ k16 =>
   simp only [spec_StaysOf.l0] at H
   by_cases c22 : x20 < (a0.length : Int)
   · replace H := zpos c22 H
     replace c22 := eq_true c22
     by_cases c23 : 0 ≤ x20
     case neg => exact zno c23 H
     replace H := zpos c23 H
     replace c23 := eq_true c23
     by_cases c24 : x20 < (a0.length : Int)
     case neg => exact zno c24 H
     replace H := zpos c24 H
     replace c24 := eq_true c24
     obtain ⟨ad25, B25_9, d25_9, B25_10, d25_10, B25_11, d25_11, rfl, e25_0, e25_1, e25_2, e25_3, e25_4, e25_5, e25_6, e25_7, e25_8, e25_9, e25_10, e25_11, e25_12, m25_9, y25_9, m25_10, y25_10, m25_11, y25_11⟩ := at_T94 gp0 x20 (of_eq_true c23) (of_eq_true c24)
     have e25_0_25 := (HS.keepc e25_0)
     have e25_1_25 := (HS.keepc e25_1)
     have e25_2_25 := (HS.keepc e25_2)
     have e25_3_25 := (HS.keepc e25_3)
     have e25_4_25 := (HS.keepc e25_4)
     have e25_5_25 := (HS.keepc e25_5)
     have e25_6_25 := (HS.keepc e25_6)
     have e25_7_25 := (HS.keepc e25_7)
     have e25_8_25 := (HS.keepc e25_8)
     have e25_9_25 := (HS.keepc e25_9)
     have e25_10_25 := (HS.keepc e25_10)
     have e25_11_25 := (HS.keepc e25_11)
     have e25_12_25 := (HS.keepc e25_12)
     replace H := zbind H; obtain ⟨t26, ht26, H⟩ := H
     go_wp2_with (first | ((with_reducible refine gate_dst (N := 22) rfl ?_); refine ev_call rfl Try.func51 (by kernel_rfl) rfl #[.slice B18 l17.length d18, .bool x19, .slice B25_9 (rd_T94 a0 x20).f9.length d25_9] rfl (by simp only [List.map_toArray, List.map_cons, List.map_nil]; rfl) ?_; refine (spec_JoinPolicies.calls ht26.out (HS.rd 0 rfl) m18 (HS.ro y25_9) m25_9).mono ?_; rintro _ wt26 ⟨v27, rfl, HQ⟩; refine ⟨_, rfl, ?_⟩; replace HS := HS.call HQ; clear HQ; (try clear F); obtain ⟨B27, d27, rfl, m27⟩ := HS.form 1 rfl; replace HS : Hp noFP w _ [.own (Zd.slice 3 (Zd.int .i64)) l17 [.slice B18 l17.length d18], .own (Zd.slice 3 (Zd.int .i64)) t26.1 [.slice B27 t26.1.length d27]] := HS))
     go_roundg k16
     case measure => have := HKk16.out; omega
     case rel => exact ⟨_, _, _, _, rfl, rfl, rfl, H, ⟨by have := HKk16.out; omega⟩, HS.pick [1] (by decide) (by rfl)⟩
   · replace H := zneg c22 H
     replace c22 := eq_false c22
     obtain ⟨rfl, rfl⟩ := zsome2 H
     go_wp2
     exact bodyPost_ret (results_list (rs := [.tmp 2, .tmp 3]) rfl (by simp) (.tmp (.tmp .nil))) rfl ⟨_, rfl, HS.pick [0] (by decide) (by rfl)⟩
/-! ### laws_toStringS: function 112 -/
def laws_toStringS.l0 : Nat → (List ByteArray) → Int → (List ByteArray) → Option ((List ByteArray))
  | 0, _, _, _ => none
  | k + 1, l18, x20, a0 => (if x20 < (a0.length : Int) then (if 0 ≤ x20 then (if x20 < (a0.length : Int) then (laws_toStringS.l0 k (l18.set (x20).toNat (rdOf ByteArray.empty a0 x20)) (wrap64 (x20 + 1)) a0) else none) else none) else (some l18))
def laws_toStringS.f (k : Nat) (a0 : (List ByteArray)) : Option ((List ByteArray)) := (if 0 ≤ (a0.length : Int) then (if ((a0.length : Int)).toNat ≤ 17592186044416 then (laws_toStringS.l0 k (List.replicate a0.length (⟨#[]⟩ : ByteArray)) 0 a0) else none) else none)
set_option maxHeartbeats 16000000 in
theorem laws_toStringS.calls {k : Nat} {a0 : (List ByteArray)} {Ap0 : Option Addr} {np0 cp0 : Nat} {r : (List ByteArray)} {w : World} (h : laws_toStringS.f k a0 = some r) (gp0 : Kd.string.C w Ap0 np0 a0) (lp0 : np0 ≤ cp0) :
    Calls Try.prog 112 #[.slice Ap0 np0 cp0] w (fun e w' => ∃ v0_ : Value, e = .returned (v0_) ∧ Hp noFP w w' [.own (Zd.slice 9 Zd.string) r [v0_]]) := by
 obtain rfl := C_len gp0
 have HS := Hp.start w
 have H := Aside0.mk h
 clear h
 unfold laws_toStringS.f at H
 go_enter Try.func112, Try.ntmps112
 by_cases c1 : 0 ≤ (a0.length : Int)
 case neg => exact zno c1 H
 replace H := zpos c1 H
 replace c1 := eq_true c1
 by_cases c2 : ((a0.length : Int)).toNat ≤ 17592186044416
 case neg => exact zno c2 H
 replace H := zpos c2 H
 replace c2 := eq_true c2
 go_wp2_with (first | ((with_reducible refine gate_dst (N := 7) rfl ?_); refine ev_make rfl Zd.string (⟨#[]⟩ : ByteArray) HS rfl (a0.length : Int) rfl rfl Try.underlying65 info9 rfl (by decide) (by decide) (fun _ _ => rfl) (of_eq_true c1) (by have := of_eq_true c2; omega) ?_; clear HS; (try clear F); intro v3 w3 HS; obtain ⟨B3, d3, rfl, m3⟩ := HS.formn a0.length 0 rfl (by first | rfl | simp); replace HS : Hp noFP w _ [.own (Zd.slice 9 Zd.string) (List.replicate a0.length (⟨#[]⟩ : ByteArray)) [.slice B3 a0.length d3]] := HS))
 go_loopg [4] k (fun kq v_4 w' => ∃ (l18 : List ByteArray) (x20 : Int), v_4 = .int .i64 x20 ∧ Aside0 (laws_toStringS.l0 kq l18 x20 a0 = some r) ∧ Aside0 (kq ≤ k) ∧ Hp noFP w w' [.own (Zd.slice 9 Zd.string) l18 [.slice B3 a0.length d3]])
 case atStart => exact ⟨_, _, rfl, H, ⟨Nat.le_refl _⟩, HS⟩
 case round =>
  clear HS H; (try clear F)
  obtain ⟨l18, x20, rfl, H, HKk17, HS⟩ := hrel
  cases gk with
  | zero => exact absurd H.out (by simp [laws_toStringS.l0])
  | succ k17 =>
   simp only [laws_toStringS.l0] at H
   by_cases c22 : x20 < (a0.length : Int)
   · replace H := zpos c22 H
     replace c22 := eq_true c22
     by_cases c23 : 0 ≤ x20
     case neg => exact zno c23 H
     replace H := zpos c23 H
     replace c23 := eq_true c23
     by_cases c24 : x20 < (a0.length : Int)
     case neg => exact zno c24 H
     replace H := zpos c24 H
     replace c24 := eq_true c24
     obtain ⟨ad25, rfl, e25_0⟩ := Kd.at_string gp0 x20 (of_eq_true c23) (of_eq_true c24)
     have e25_0_25 := (HS.keepc e25_0)
     obtain ⟨ad26, rfl, e26_0⟩ := Kd.at_string (HS.rd 0 rfl) x20 (of_eq_true c23) (of_eq_true c24)
     go_wp2_with (first | ((with_reducible refine gate_store (p := 20) rfl ?_); refine ev_set rfl Zd.string 0 [] x20 (rdOf ByteArray.empty a0 x20) HS (seg := [.string (rdOf ByteArray.empty a0 x20)]) rfl (by decide) rfl rfl rfl (by first | rfl | exact (Nat.mul_one _).symm) rfl rfl (by kernel_rfl) (by simp [Value.oneCell']) ⟨of_eq_true c23, of_eq_true c24⟩ rfl (made_flat (fun _ => rfl)) ?_; clear HS; (try clear F); intro w27 HS; replace HS : Hp noFP w _ [.own (Zd.slice 9 Zd.string) (l18.set (x20).toNat (rdOf ByteArray.empty a0 x20)) [.slice (some ad26) a0.length d3]] := HS))
     go_roundg k17
     case measure => have := HKk17.out; omega
     case rel => exact ⟨_, _, rfl, H, ⟨by have := HKk17.out; omega⟩, HS.pick [0] (by decide) (by rfl)⟩
   · replace H := zneg c22 H
     replace c22 := eq_false c22
     obtain rfl := zsome H
     go_wp2
     exact bodyPost_ret (results_single rfl (.tmp .nil)) rfl ⟨_, rfl, HS.pick [0] (by decide) (by rfl)⟩
/-! ### laws_toIntS: function 81 -/
def laws_toIntS.l0 : Nat → (List Int) → Int → (List Int) → Option ((List Int))
  | 0, _, _, _ => none
  | k + 1, l18, x20, a0 => (if x20 < (a0.length : Int) then (if 0 ≤ x20 then (if x20 < (a0.length : Int) then (laws_toIntS.l0 k (l18.set (x20).toNat (rd a0 x20)) (wrap64 (x20 + 1)) a0) else none) else none) else (some l18))
def laws_toIntS.f (k : Nat) (a0 : (List Int)) : Option ((List Int)) := (if 0 ≤ (a0.length : Int) then (if ((a0.length : Int)).toNat ≤ 35184372088832 then (laws_toIntS.l0 k (List.replicate a0.length (0 : Int)) 0 a0) else none) else none)
set_option maxHeartbeats 16000000 in
theorem laws_toIntS.calls {k : Nat} {a0 : (List Int)} {Ap0 : Option Addr} {np0 cp0 : Nat} {r : (List Int)} {w : World} (h : laws_toIntS.f k a0 = some r) (gp0 : (Kd.int .i64).C w Ap0 np0 a0) (lp0 : np0 ≤ cp0) :
    Calls Try.prog 81 #[.slice Ap0 np0 cp0] w (fun e w' => ∃ v0_ : Value, e = .returned (v0_) ∧ Hp noFP w w' [.own (Zd.slice 3 (Zd.int .i64)) r [v0_]]) := by
 obtain rfl := C_len gp0
 have HS := Hp.start w
 have H := Aside0.mk h
 clear h
 unfold laws_toIntS.f at H
 go_enter Try.func81, Try.ntmps81
 by_cases c1 : 0 ≤ (a0.length : Int)
 case neg => exact zno c1 H
 replace H := zpos c1 H
 replace c1 := eq_true c1
 by_cases c2 : ((a0.length : Int)).toNat ≤ 35184372088832
 case neg => exact zno c2 H
 replace H := zpos c2 H
 replace c2 := eq_true c2
 go_wp2_with (first | ((with_reducible refine gate_dst (N := 7) rfl ?_); refine ev_make rfl (Zd.int .i64) (0 : Int) HS rfl (a0.length : Int) rfl rfl Try.underlying24 info3 rfl (by decide) (by decide) (fun _ _ => rfl) (of_eq_true c1) (by have := of_eq_true c2; omega) ?_; clear HS; (try clear F); intro v3 w3 HS; obtain ⟨B3, d3, rfl, m3⟩ := HS.formn a0.length 0 rfl (by first | rfl | simp); replace HS : Hp noFP w _ [.own (Zd.slice 3 (Zd.int .i64)) (List.replicate a0.length (0 : Int)) [.slice B3 a0.length d3]] := HS))
 go_loopg [4] k (fun kq v_4 w' => ∃ (l18 : List Int) (x20 : Int), v_4 = .int .i64 x20 ∧ Aside0 (laws_toIntS.l0 kq l18 x20 a0 = some r) ∧ Aside0 (kq ≤ k) ∧ Hp noFP w w' [.own (Zd.slice 3 (Zd.int .i64)) l18 [.slice B3 a0.length d3]])
 case atStart => exact ⟨_, _, rfl, H, ⟨Nat.le_refl _⟩, HS⟩
 case round =>
  clear HS H; (try clear F)
  obtain ⟨l18, x20, rfl, H, HKk17, HS⟩ := hrel
  cases gk with
  | zero => exact absurd H.out (by simp [laws_toIntS.l0])
  | succ k17 =>
   simp only [laws_toIntS.l0] at H
   by_cases c22 : x20 < (a0.length : Int)
   · replace H := zpos c22 H
     replace c22 := eq_true c22
     by_cases c23 : 0 ≤ x20
     case neg => exact zno c23 H
     replace H := zpos c23 H
     replace c23 := eq_true c23
     by_cases c24 : x20 < (a0.length : Int)
     case neg => exact zno c24 H
     replace H := zpos c24 H
     replace c24 := eq_true c24
     obtain ⟨ad25, rfl, e25_0⟩ := Kd.at_int gp0 x20 (of_eq_true c23) (of_eq_true c24)
     have e25_0_25 := (HS.keepc e25_0)
     obtain ⟨ad26, rfl, e26_0⟩ := Kd.at_int (HS.rd 0 rfl) x20 (of_eq_true c23) (of_eq_true c24)
     go_wp2_with (first | ((with_reducible refine gate_store (p := 20) rfl ?_); refine ev_set rfl (Zd.int .i64) 0 [] x20 (rd a0 x20) HS (seg := [.int .i64 (rd a0 x20)]) rfl (by decide) rfl rfl rfl (by first | rfl | exact (Nat.mul_one _).symm) rfl rfl (by kernel_rfl) (by simp [Value.oneCell']) ⟨of_eq_true c23, of_eq_true c24⟩ rfl (made_flat (fun _ => rfl)) ?_; clear HS; (try clear F); intro w27 HS; replace HS : Hp noFP w _ [.own (Zd.slice 3 (Zd.int .i64)) (l18.set (x20).toNat (rd a0 x20)) [.slice (some ad26) a0.length d3]] := HS))
     go_roundg k17
     case measure => have := HKk17.out; omega
     case rel => exact ⟨_, _, rfl, H, ⟨by have := HKk17.out; omega⟩, HS.pick [0] (by decide) (by rfl)⟩
   · replace H := zneg c22 H
     replace c22 := eq_false c22
     obtain rfl := zsome H
     go_wp2
     exact bodyPost_ret (results_single rfl (.tmp .nil)) rfl ⟨_, rfl, HS.pick [0] (by decide) (by rfl)⟩
/-! ### laws_toCert: function 52 -/
def laws_toCert.f (k : Nat) (a0 : S92) : Option (S94) := ((laws_toIntS.f k a0.f9).bind fun t25 => ((laws_toStringS.f k a0.f10).bind fun t30 => ((laws_toStringS.f k a0.f11).bind fun t35 => (some (⟨a0.f0, a0.f1, a0.f2, a0.f3, a0.f4, a0.f5, a0.f6, a0.f7, a0.f8, t25, t30, t35, a0.f12⟩ : S94)))))
set_option maxHeartbeats 16000000 in
theorem laws_toCert.calls {k : Nat} {a0 : S92} {Ap0 : Option Addr} {np0 cp0 : Nat} {Ap1 : Option Addr} {np1 cp1 : Nat} {Ap2 : Option Addr} {np2 cp2 : Nat} {r : S94} {w : World} (h : laws_toCert.f k a0 = some r) (gp0 : (Kd.int .i64).C w Ap0 np0 a0.f9) (lp0 : np0 ≤ cp0) (gp1 : Kd.string.C w Ap1 np1 a0.f10) (lp1 : np1 ≤ cp1) (gp2 : Kd.string.C w Ap2 np2 a0.f11) (lp2 : np2 ≤ cp2) :
    Calls Try.prog 52 #[.agg #[.int .i64 a0.f0, .string a0.f1, .string a0.f2, .int .i64 a0.f3, .int .i64 a0.f4, .string a0.f5, .bool a0.f6, .int .i64 a0.f7, .int .i64 a0.f8, .slice Ap0 np0 cp0, .slice Ap1 np1 cp1, .slice Ap2 np2 cp2, .string a0.f12]] w (fun e w' => ∃ v0_ v1_ v2_ : Value, e = .returned (.agg #[.int .i64 r.f0, .string r.f1, .string r.f2, .int .i64 r.f3, .int .i64 r.f4, .string r.f5, .bool r.f6, .int .i64 r.f7, .int .i64 r.f8, v0_, v1_, v2_, .string r.f12]) ∧ Hp noFP w w' [.own (Zd.slice 3 (Zd.int .i64)) r.f9 [v0_], .own (Zd.slice 9 Zd.string) r.f10 [v1_], .own (Zd.slice 9 Zd.string) r.f11 [v2_]]) := by
 obtain rfl := C_len gp0
 obtain rfl := C_len gp1
 obtain rfl := C_len gp2
 have HS := Hp.start w
 have H := Aside0.mk h
 clear h
 unfold laws_toCert.f at H
 go_enter Try.func52, Try.ntmps52
 replace H := zbind H; obtain ⟨t25, ht25, H⟩ := H
 replace H := zbind H; obtain ⟨t30, ht30, H⟩ := H
 replace H := zbind H; obtain ⟨t35, ht35, H⟩ := H
 obtain rfl := zsome H
 go_wp2_with (first | ((with_reducible refine gate_dst (N := 1) rfl ?_); refine ev_box rfl HS (by first | (go_simp; done) | (go_simp; rfl)) rfl ?_; clear HS; (try clear F); intro g1 w1 HS; replace HS : Hp noFP w _ [.box g1 [.int .i64 a0.f0, .string a0.f1, .string a0.f2, .int .i64 a0.f3, .int .i64 a0.f4, .string a0.f5, .bool a0.f6, .int .i64 a0.f7, .int .i64 a0.f8, .slice Ap0 a0.f9.length cp0, .slice Ap1 a0.f10.length cp1, .slice Ap2 a0.f11.length cp2, .string a0.f12] 92] := HS; have F := HS.boxes; simp only [boxFacts, and_true] at F) | ((with_reducible refine gate_dst (N := 2) rfl ?_); refine ev_box rfl HS (by first | (go_simp; done) | (go_simp; rfl)) rfl ?_; clear HS; (try clear F); intro g2 w2 HS; replace HS : Hp noFP w _ [.box g1 [.int .i64 a0.f0, .string a0.f1, .string a0.f2, .int .i64 a0.f3, .int .i64 a0.f4, .string a0.f5, .bool a0.f6, .int .i64 a0.f7, .int .i64 a0.f8, .slice Ap0 a0.f9.length cp0, .slice Ap1 a0.f10.length cp1, .slice Ap2 a0.f11.length cp2, .string a0.f12] 92, .box g2 [.int .i64 0, .string (⟨#[]⟩ : ByteArray), .string (⟨#[]⟩ : ByteArray), .int .i64 0, .int .i64 0, .string (⟨#[]⟩ : ByteArray), .bool false, .int .i64 0, .int .i64 0, .slice none 0 0, .slice none 0 0, .slice none 0 0, .string (⟨#[]⟩ : ByteArray)] 94] := HS; have F := HS.boxes; simp only [boxFacts, and_true] at F) | ((with_reducible refine gate_dst (N := 3) rfl ?_); refine ev_box rfl HS (by first | (go_simp; done) | (go_simp; rfl)) rfl ?_; clear HS; (try clear F); intro g3 w3 HS; replace HS : Hp noFP w _ [.box g1 [.int .i64 a0.f0, .string a0.f1, .string a0.f2, .int .i64 a0.f3, .int .i64 a0.f4, .string a0.f5, .bool a0.f6, .int .i64 a0.f7, .int .i64 a0.f8, .slice Ap0 a0.f9.length cp0, .slice Ap1 a0.f10.length cp1, .slice Ap2 a0.f11.length cp2, .string a0.f12] 92, .box g2 [.int .i64 0, .string (⟨#[]⟩ : ByteArray), .string (⟨#[]⟩ : ByteArray), .int .i64 0, .int .i64 0, .string (⟨#[]⟩ : ByteArray), .bool false, .int .i64 0, .int .i64 0, .slice none 0 0, .slice none 0 0, .slice none 0 0, .string (⟨#[]⟩ : ByteArray)] 94, .box g3 [.int .i64 0, .string (⟨#[]⟩ : ByteArray), .string (⟨#[]⟩ : ByteArray), .int .i64 0, .int .i64 0, .string (⟨#[]⟩ : ByteArray), .bool false, .int .i64 0, .int .i64 0, .slice none 0 0, .slice none 0 0, .slice none 0 0, .string (⟨#[]⟩ : ByteArray)] 94] := HS; have F := HS.boxes; simp only [boxFacts, and_true] at F) | ((with_reducible refine gate_store (p := 6) rfl ?_); refine ev_store rfl 2 0 HS (seg := [.int .i64 a0.f0]) rfl rfl rfl rfl rfl rfl (by kernel_rfl) (by simp [wrt]) (by simp [Value.oneCell']) ?_; clear HS; (try clear F); intro w7 HS; replace HS : Hp noFP w _ [.box g1 [.int .i64 a0.f0, .string a0.f1, .string a0.f2, .int .i64 a0.f3, .int .i64 a0.f4, .string a0.f5, .bool a0.f6, .int .i64 a0.f7, .int .i64 a0.f8, .slice Ap0 a0.f9.length cp0, .slice Ap1 a0.f10.length cp1, .slice Ap2 a0.f11.length cp2, .string a0.f12] 92, .box g2 [.int .i64 0, .string (⟨#[]⟩ : ByteArray), .string (⟨#[]⟩ : ByteArray), .int .i64 0, .int .i64 0, .string (⟨#[]⟩ : ByteArray), .bool false, .int .i64 0, .int .i64 0, .slice none 0 0, .slice none 0 0, .slice none 0 0, .string (⟨#[]⟩ : ByteArray)] 94, .box g3 [.int .i64 a0.f0, .string (⟨#[]⟩ : ByteArray), .string (⟨#[]⟩ : ByteArray), .int .i64 0, .int .i64 0, .string (⟨#[]⟩ : ByteArray), .bool false, .int .i64 0, .int .i64 0, .slice none 0 0, .slice none 0 0, .slice none 0 0, .string (⟨#[]⟩ : ByteArray)] 94] := HS; have F := HS.boxes; simp only [boxFacts, and_true] at F) | ((with_reducible refine gate_store (p := 9) rfl ?_); refine ev_store rfl 2 1 HS (seg := [.string a0.f1]) rfl rfl rfl rfl rfl rfl (by kernel_rfl) (by simp [wrt]) (by simp [Value.oneCell']) ?_; clear HS; (try clear F); intro w9 HS; replace HS : Hp noFP w _ [.box g1 [.int .i64 a0.f0, .string a0.f1, .string a0.f2, .int .i64 a0.f3, .int .i64 a0.f4, .string a0.f5, .bool a0.f6, .int .i64 a0.f7, .int .i64 a0.f8, .slice Ap0 a0.f9.length cp0, .slice Ap1 a0.f10.length cp1, .slice Ap2 a0.f11.length cp2, .string a0.f12] 92, .box g2 [.int .i64 0, .string (⟨#[]⟩ : ByteArray), .string (⟨#[]⟩ : ByteArray), .int .i64 0, .int .i64 0, .string (⟨#[]⟩ : ByteArray), .bool false, .int .i64 0, .int .i64 0, .slice none 0 0, .slice none 0 0, .slice none 0 0, .string (⟨#[]⟩ : ByteArray)] 94, .box g3 [.int .i64 a0.f0, .string a0.f1, .string (⟨#[]⟩ : ByteArray), .int .i64 0, .int .i64 0, .string (⟨#[]⟩ : ByteArray), .bool false, .int .i64 0, .int .i64 0, .slice none 0 0, .slice none 0 0, .slice none 0 0, .string (⟨#[]⟩ : ByteArray)] 94] := HS; have F := HS.boxes; simp only [boxFacts, and_true] at F) | ((with_reducible refine gate_store (p := 12) rfl ?_); refine ev_store rfl 2 2 HS (seg := [.string a0.f2]) rfl rfl rfl rfl rfl rfl (by kernel_rfl) (by simp [wrt]) (by simp [Value.oneCell']) ?_; clear HS; (try clear F); intro w11 HS; replace HS : Hp noFP w _ [.box g1 [.int .i64 a0.f0, .string a0.f1, .string a0.f2, .int .i64 a0.f3, .int .i64 a0.f4, .string a0.f5, .bool a0.f6, .int .i64 a0.f7, .int .i64 a0.f8, .slice Ap0 a0.f9.length cp0, .slice Ap1 a0.f10.length cp1, .slice Ap2 a0.f11.length cp2, .string a0.f12] 92, .box g2 [.int .i64 0, .string (⟨#[]⟩ : ByteArray), .string (⟨#[]⟩ : ByteArray), .int .i64 0, .int .i64 0, .string (⟨#[]⟩ : ByteArray), .bool false, .int .i64 0, .int .i64 0, .slice none 0 0, .slice none 0 0, .slice none 0 0, .string (⟨#[]⟩ : ByteArray)] 94, .box g3 [.int .i64 a0.f0, .string a0.f1, .string a0.f2, .int .i64 0, .int .i64 0, .string (⟨#[]⟩ : ByteArray), .bool false, .int .i64 0, .int .i64 0, .slice none 0 0, .slice none 0 0, .slice none 0 0, .string (⟨#[]⟩ : ByteArray)] 94] := HS; have F := HS.boxes; simp only [boxFacts, and_true] at F) | ((with_reducible refine gate_store (p := 15) rfl ?_); refine ev_store rfl 2 3 HS (seg := [.int .i64 a0.f3]) rfl rfl rfl rfl rfl rfl (by kernel_rfl) (by simp [wrt]) (by simp [Value.oneCell']) ?_; clear HS; (try clear F); intro w13 HS; replace HS : Hp noFP w _ [.box g1 [.int .i64 a0.f0, .string a0.f1, .string a0.f2, .int .i64 a0.f3, .int .i64 a0.f4, .string a0.f5, .bool a0.f6, .int .i64 a0.f7, .int .i64 a0.f8, .slice Ap0 a0.f9.length cp0, .slice Ap1 a0.f10.length cp1, .slice Ap2 a0.f11.length cp2, .string a0.f12] 92, .box g2 [.int .i64 0, .string (⟨#[]⟩ : ByteArray), .string (⟨#[]⟩ : ByteArray), .int .i64 0, .int .i64 0, .string (⟨#[]⟩ : ByteArray), .bool false, .int .i64 0, .int .i64 0, .slice none 0 0, .slice none 0 0, .slice none 0 0, .string (⟨#[]⟩ : ByteArray)] 94, .box g3 [.int .i64 a0.f0, .string a0.f1, .string a0.f2, .int .i64 a0.f3, .int .i64 0, .string (⟨#[]⟩ : ByteArray), .bool false, .int .i64 0, .int .i64 0, .slice none 0 0, .slice none 0 0, .slice none 0 0, .string (⟨#[]⟩ : ByteArray)] 94] := HS; have F := HS.boxes; simp only [boxFacts, and_true] at F) | ((with_reducible refine gate_store (p := 18) rfl ?_); refine ev_store rfl 2 4 HS (seg := [.int .i64 a0.f4]) rfl rfl rfl rfl rfl rfl (by kernel_rfl) (by simp [wrt]) (by simp [Value.oneCell']) ?_; clear HS; (try clear F); intro w15 HS; replace HS : Hp noFP w _ [.box g1 [.int .i64 a0.f0, .string a0.f1, .string a0.f2, .int .i64 a0.f3, .int .i64 a0.f4, .string a0.f5, .bool a0.f6, .int .i64 a0.f7, .int .i64 a0.f8, .slice Ap0 a0.f9.length cp0, .slice Ap1 a0.f10.length cp1, .slice Ap2 a0.f11.length cp2, .string a0.f12] 92, .box g2 [.int .i64 0, .string (⟨#[]⟩ : ByteArray), .string (⟨#[]⟩ : ByteArray), .int .i64 0, .int .i64 0, .string (⟨#[]⟩ : ByteArray), .bool false, .int .i64 0, .int .i64 0, .slice none 0 0, .slice none 0 0, .slice none 0 0, .string (⟨#[]⟩ : ByteArray)] 94, .box g3 [.int .i64 a0.f0, .string a0.f1, .string a0.f2, .int .i64 a0.f3, .int .i64 a0.f4, .string (⟨#[]⟩ : ByteArray), .bool false, .int .i64 0, .int .i64 0, .slice none 0 0, .slice none 0 0, .slice none 0 0, .string (⟨#[]⟩ : ByteArray)] 94] := HS; have F := HS.boxes; simp only [boxFacts, and_true] at F) | ((with_reducible refine gate_store (p := 21) rfl ?_); refine ev_store rfl 2 5 HS (seg := [.string a0.f5]) rfl rfl rfl rfl rfl rfl (by kernel_rfl) (by simp [wrt]) (by simp [Value.oneCell']) ?_; clear HS; (try clear F); intro w17 HS; replace HS : Hp noFP w _ [.box g1 [.int .i64 a0.f0, .string a0.f1, .string a0.f2, .int .i64 a0.f3, .int .i64 a0.f4, .string a0.f5, .bool a0.f6, .int .i64 a0.f7, .int .i64 a0.f8, .slice Ap0 a0.f9.length cp0, .slice Ap1 a0.f10.length cp1, .slice Ap2 a0.f11.length cp2, .string a0.f12] 92, .box g2 [.int .i64 0, .string (⟨#[]⟩ : ByteArray), .string (⟨#[]⟩ : ByteArray), .int .i64 0, .int .i64 0, .string (⟨#[]⟩ : ByteArray), .bool false, .int .i64 0, .int .i64 0, .slice none 0 0, .slice none 0 0, .slice none 0 0, .string (⟨#[]⟩ : ByteArray)] 94, .box g3 [.int .i64 a0.f0, .string a0.f1, .string a0.f2, .int .i64 a0.f3, .int .i64 a0.f4, .string a0.f5, .bool false, .int .i64 0, .int .i64 0, .slice none 0 0, .slice none 0 0, .slice none 0 0, .string (⟨#[]⟩ : ByteArray)] 94] := HS; have F := HS.boxes; simp only [boxFacts, and_true] at F) | ((with_reducible refine gate_store (p := 24) rfl ?_); refine ev_store rfl 2 6 HS (seg := [.bool a0.f6]) rfl rfl rfl rfl rfl rfl (by kernel_rfl) (by simp [wrt]) (by simp [Value.oneCell']) ?_; clear HS; (try clear F); intro w19 HS; replace HS : Hp noFP w _ [.box g1 [.int .i64 a0.f0, .string a0.f1, .string a0.f2, .int .i64 a0.f3, .int .i64 a0.f4, .string a0.f5, .bool a0.f6, .int .i64 a0.f7, .int .i64 a0.f8, .slice Ap0 a0.f9.length cp0, .slice Ap1 a0.f10.length cp1, .slice Ap2 a0.f11.length cp2, .string a0.f12] 92, .box g2 [.int .i64 0, .string (⟨#[]⟩ : ByteArray), .string (⟨#[]⟩ : ByteArray), .int .i64 0, .int .i64 0, .string (⟨#[]⟩ : ByteArray), .bool false, .int .i64 0, .int .i64 0, .slice none 0 0, .slice none 0 0, .slice none 0 0, .string (⟨#[]⟩ : ByteArray)] 94, .box g3 [.int .i64 a0.f0, .string a0.f1, .string a0.f2, .int .i64 a0.f3, .int .i64 a0.f4, .string a0.f5, .bool a0.f6, .int .i64 0, .int .i64 0, .slice none 0 0, .slice none 0 0, .slice none 0 0, .string (⟨#[]⟩ : ByteArray)] 94] := HS; have F := HS.boxes; simp only [boxFacts, and_true] at F) | ((with_reducible refine gate_store (p := 27) rfl ?_); refine ev_store rfl 2 7 HS (seg := [.int .i64 a0.f7]) rfl rfl rfl rfl rfl rfl (by kernel_rfl) (by simp [wrt]) (by simp [Value.oneCell']) ?_; clear HS; (try clear F); intro w21 HS; replace HS : Hp noFP w _ [.box g1 [.int .i64 a0.f0, .string a0.f1, .string a0.f2, .int .i64 a0.f3, .int .i64 a0.f4, .string a0.f5, .bool a0.f6, .int .i64 a0.f7, .int .i64 a0.f8, .slice Ap0 a0.f9.length cp0, .slice Ap1 a0.f10.length cp1, .slice Ap2 a0.f11.length cp2, .string a0.f12] 92, .box g2 [.int .i64 0, .string (⟨#[]⟩ : ByteArray), .string (⟨#[]⟩ : ByteArray), .int .i64 0, .int .i64 0, .string (⟨#[]⟩ : ByteArray), .bool false, .int .i64 0, .int .i64 0, .slice none 0 0, .slice none 0 0, .slice none 0 0, .string (⟨#[]⟩ : ByteArray)] 94, .box g3 [.int .i64 a0.f0, .string a0.f1, .string a0.f2, .int .i64 a0.f3, .int .i64 a0.f4, .string a0.f5, .bool a0.f6, .int .i64 a0.f7, .int .i64 0, .slice none 0 0, .slice none 0 0, .slice none 0 0, .string (⟨#[]⟩ : ByteArray)] 94] := HS; have F := HS.boxes; simp only [boxFacts, and_true] at F) | ((with_reducible refine gate_store (p := 30) rfl ?_); refine ev_store rfl 2 8 HS (seg := [.int .i64 a0.f8]) rfl rfl rfl rfl rfl rfl (by kernel_rfl) (by simp [wrt]) (by simp [Value.oneCell']) ?_; clear HS; (try clear F); intro w23 HS; replace HS : Hp noFP w _ [.box g1 [.int .i64 a0.f0, .string a0.f1, .string a0.f2, .int .i64 a0.f3, .int .i64 a0.f4, .string a0.f5, .bool a0.f6, .int .i64 a0.f7, .int .i64 a0.f8, .slice Ap0 a0.f9.length cp0, .slice Ap1 a0.f10.length cp1, .slice Ap2 a0.f11.length cp2, .string a0.f12] 92, .box g2 [.int .i64 0, .string (⟨#[]⟩ : ByteArray), .string (⟨#[]⟩ : ByteArray), .int .i64 0, .int .i64 0, .string (⟨#[]⟩ : ByteArray), .bool false, .int .i64 0, .int .i64 0, .slice none 0 0, .slice none 0 0, .slice none 0 0, .string (⟨#[]⟩ : ByteArray)] 94, .box g3 [.int .i64 a0.f0, .string a0.f1, .string a0.f2, .int .i64 a0.f3, .int .i64 a0.f4, .string a0.f5, .bool a0.f6, .int .i64 a0.f7, .int .i64 a0.f8, .slice none 0 0, .slice none 0 0, .slice none 0 0, .string (⟨#[]⟩ : ByteArray)] 94] := HS; have F := HS.boxes; simp only [boxFacts, and_true] at F) | ((with_reducible refine gate_dst (N := 33) rfl ?_); refine ev_call rfl Try.func81 (by kernel_rfl) rfl #[.slice Ap0 a0.f9.length cp0] rfl (by simp only [List.map_toArray, List.map_cons, List.map_nil]; rfl) ?_; refine (laws_toIntS.calls ht25.out (HS.ro gp0) lp0).mono ?_; rintro _ wt25 ⟨v26, rfl, HQ⟩; refine ⟨_, rfl, ?_⟩; replace HS := HS.call HQ; clear HQ; (try clear F); obtain ⟨B26, d26, rfl, m26⟩ := HS.form 3 rfl; replace HS : Hp noFP w _ [.box g1 [.int .i64 a0.f0, .string a0.f1, .string a0.f2, .int .i64 a0.f3, .int .i64 a0.f4, .string a0.f5, .bool a0.f6, .int .i64 a0.f7, .int .i64 a0.f8, .slice Ap0 a0.f9.length cp0, .slice Ap1 a0.f10.length cp1, .slice Ap2 a0.f11.length cp2, .string a0.f12] 92, .box g2 [.int .i64 0, .string (⟨#[]⟩ : ByteArray), .string (⟨#[]⟩ : ByteArray), .int .i64 0, .int .i64 0, .string (⟨#[]⟩ : ByteArray), .bool false, .int .i64 0, .int .i64 0, .slice none 0 0, .slice none 0 0, .slice none 0 0, .string (⟨#[]⟩ : ByteArray)] 94, .box g3 [.int .i64 a0.f0, .string a0.f1, .string a0.f2, .int .i64 a0.f3, .int .i64 a0.f4, .string a0.f5, .bool a0.f6, .int .i64 a0.f7, .int .i64 a0.f8, .slice none 0 0, .slice none 0 0, .slice none 0 0, .string (⟨#[]⟩ : ByteArray)] 94, .own (Zd.slice 3 (Zd.int .i64)) t25 [.slice B26 t25.length d26]] := HS; have F := HS.boxes; simp only [boxFacts, and_true] at F) | ((with_reducible refine gate_store (p := 34) rfl ?_); refine ev_store rfl 2 9 HS (seg := [.slice B26 t25.length d26]) rfl rfl rfl rfl rfl rfl (by kernel_rfl) (by simp [wrt]) (by simp [Value.oneCell']) ?_; clear HS; (try clear F); intro w28 HS; replace HS : Hp noFP w _ [.box g1 [.int .i64 a0.f0, .string a0.f1, .string a0.f2, .int .i64 a0.f3, .int .i64 a0.f4, .string a0.f5, .bool a0.f6, .int .i64 a0.f7, .int .i64 a0.f8, .slice Ap0 a0.f9.length cp0, .slice Ap1 a0.f10.length cp1, .slice Ap2 a0.f11.length cp2, .string a0.f12] 92, .box g2 [.int .i64 0, .string (⟨#[]⟩ : ByteArray), .string (⟨#[]⟩ : ByteArray), .int .i64 0, .int .i64 0, .string (⟨#[]⟩ : ByteArray), .bool false, .int .i64 0, .int .i64 0, .slice none 0 0, .slice none 0 0, .slice none 0 0, .string (⟨#[]⟩ : ByteArray)] 94, .box g3 [.int .i64 a0.f0, .string a0.f1, .string a0.f2, .int .i64 a0.f3, .int .i64 a0.f4, .string a0.f5, .bool a0.f6, .int .i64 a0.f7, .int .i64 a0.f8, .slice B26 t25.length d26, .slice none 0 0, .slice none 0 0, .string (⟨#[]⟩ : ByteArray)] 94, .own (Zd.slice 3 (Zd.int .i64)) t25 [.slice B26 t25.length d26]] := HS; have F := HS.boxes; simp only [boxFacts, and_true] at F) | ((with_reducible refine gate_dst (N := 37) rfl ?_); refine ev_call rfl Try.func112 (by kernel_rfl) rfl #[.slice Ap1 a0.f10.length cp1] rfl (by simp only [List.map_toArray, List.map_cons, List.map_nil]; rfl) ?_; refine (laws_toStringS.calls ht30.out (HS.ro gp1) lp1).mono ?_; rintro _ wt30 ⟨v31, rfl, HQ⟩; refine ⟨_, rfl, ?_⟩; replace HS := HS.call HQ; clear HQ; (try clear F); obtain ⟨B31, d31, rfl, m31⟩ := HS.form 4 rfl; replace HS : Hp noFP w _ [.box g1 [.int .i64 a0.f0, .string a0.f1, .string a0.f2, .int .i64 a0.f3, .int .i64 a0.f4, .string a0.f5, .bool a0.f6, .int .i64 a0.f7, .int .i64 a0.f8, .slice Ap0 a0.f9.length cp0, .slice Ap1 a0.f10.length cp1, .slice Ap2 a0.f11.length cp2, .string a0.f12] 92, .box g2 [.int .i64 0, .string (⟨#[]⟩ : ByteArray), .string (⟨#[]⟩ : ByteArray), .int .i64 0, .int .i64 0, .string (⟨#[]⟩ : ByteArray), .bool false, .int .i64 0, .int .i64 0, .slice none 0 0, .slice none 0 0, .slice none 0 0, .string (⟨#[]⟩ : ByteArray)] 94, .box g3 [.int .i64 a0.f0, .string a0.f1, .string a0.f2, .int .i64 a0.f3, .int .i64 a0.f4, .string a0.f5, .bool a0.f6, .int .i64 a0.f7, .int .i64 a0.f8, .slice B26 t25.length d26, .slice none 0 0, .slice none 0 0, .string (⟨#[]⟩ : ByteArray)] 94, .own (Zd.slice 3 (Zd.int .i64)) t25 [.slice B26 t25.length d26], .own (Zd.slice 9 Zd.string) t30 [.slice B31 t30.length d31]] := HS; have F := HS.boxes; simp only [boxFacts, and_true] at F) | ((with_reducible refine gate_store (p := 38) rfl ?_); refine ev_store rfl 2 10 HS (seg := [.slice B31 t30.length d31]) rfl rfl rfl rfl rfl rfl (by kernel_rfl) (by simp [wrt]) (by simp [Value.oneCell']) ?_; clear HS; (try clear F); intro w33 HS; replace HS : Hp noFP w _ [.box g1 [.int .i64 a0.f0, .string a0.f1, .string a0.f2, .int .i64 a0.f3, .int .i64 a0.f4, .string a0.f5, .bool a0.f6, .int .i64 a0.f7, .int .i64 a0.f8, .slice Ap0 a0.f9.length cp0, .slice Ap1 a0.f10.length cp1, .slice Ap2 a0.f11.length cp2, .string a0.f12] 92, .box g2 [.int .i64 0, .string (⟨#[]⟩ : ByteArray), .string (⟨#[]⟩ : ByteArray), .int .i64 0, .int .i64 0, .string (⟨#[]⟩ : ByteArray), .bool false, .int .i64 0, .int .i64 0, .slice none 0 0, .slice none 0 0, .slice none 0 0, .string (⟨#[]⟩ : ByteArray)] 94, .box g3 [.int .i64 a0.f0, .string a0.f1, .string a0.f2, .int .i64 a0.f3, .int .i64 a0.f4, .string a0.f5, .bool a0.f6, .int .i64 a0.f7, .int .i64 a0.f8, .slice B26 t25.length d26, .slice B31 t30.length d31, .slice none 0 0, .string (⟨#[]⟩ : ByteArray)] 94, .own (Zd.slice 3 (Zd.int .i64)) t25 [.slice B26 t25.length d26], .own (Zd.slice 9 Zd.string) t30 [.slice B31 t30.length d31]] := HS; have F := HS.boxes; simp only [boxFacts, and_true] at F) | ((with_reducible refine gate_dst (N := 41) rfl ?_); refine ev_call rfl Try.func112 (by kernel_rfl) rfl #[.slice Ap2 a0.f11.length cp2] rfl (by simp only [List.map_toArray, List.map_cons, List.map_nil]; rfl) ?_; refine (laws_toStringS.calls ht35.out (HS.ro gp2) lp2).mono ?_; rintro _ wt35 ⟨v36, rfl, HQ⟩; refine ⟨_, rfl, ?_⟩; replace HS := HS.call HQ; clear HQ; (try clear F); obtain ⟨B36, d36, rfl, m36⟩ := HS.form 5 rfl; replace HS : Hp noFP w _ [.box g1 [.int .i64 a0.f0, .string a0.f1, .string a0.f2, .int .i64 a0.f3, .int .i64 a0.f4, .string a0.f5, .bool a0.f6, .int .i64 a0.f7, .int .i64 a0.f8, .slice Ap0 a0.f9.length cp0, .slice Ap1 a0.f10.length cp1, .slice Ap2 a0.f11.length cp2, .string a0.f12] 92, .box g2 [.int .i64 0, .string (⟨#[]⟩ : ByteArray), .string (⟨#[]⟩ : ByteArray), .int .i64 0, .int .i64 0, .string (⟨#[]⟩ : ByteArray), .bool false, .int .i64 0, .int .i64 0, .slice none 0 0, .slice none 0 0, .slice none 0 0, .string (⟨#[]⟩ : ByteArray)] 94, .box g3 [.int .i64 a0.f0, .string a0.f1, .string a0.f2, .int .i64 a0.f3, .int .i64 a0.f4, .string a0.f5, .bool a0.f6, .int .i64 a0.f7, .int .i64 a0.f8, .slice B26 t25.length d26, .slice B31 t30.length d31, .slice none 0 0, .string (⟨#[]⟩ : ByteArray)] 94, .own (Zd.slice 3 (Zd.int .i64)) t25 [.slice B26 t25.length d26], .own (Zd.slice 9 Zd.string) t30 [.slice B31 t30.length d31], .own (Zd.slice 9 Zd.string) t35 [.slice B36 t35.length d36]] := HS; have F := HS.boxes; simp only [boxFacts, and_true] at F) | ((with_reducible refine gate_store (p := 42) rfl ?_); refine ev_store rfl 2 11 HS (seg := [.slice B36 t35.length d36]) rfl rfl rfl rfl rfl rfl (by kernel_rfl) (by simp [wrt]) (by simp [Value.oneCell']) ?_; clear HS; (try clear F); intro w38 HS; replace HS : Hp noFP w _ [.box g1 [.int .i64 a0.f0, .string a0.f1, .string a0.f2, .int .i64 a0.f3, .int .i64 a0.f4, .string a0.f5, .bool a0.f6, .int .i64 a0.f7, .int .i64 a0.f8, .slice Ap0 a0.f9.length cp0, .slice Ap1 a0.f10.length cp1, .slice Ap2 a0.f11.length cp2, .string a0.f12] 92, .box g2 [.int .i64 0, .string (⟨#[]⟩ : ByteArray), .string (⟨#[]⟩ : ByteArray), .int .i64 0, .int .i64 0, .string (⟨#[]⟩ : ByteArray), .bool false, .int .i64 0, .int .i64 0, .slice none 0 0, .slice none 0 0, .slice none 0 0, .string (⟨#[]⟩ : ByteArray)] 94, .box g3 [.int .i64 a0.f0, .string a0.f1, .string a0.f2, .int .i64 a0.f3, .int .i64 a0.f4, .string a0.f5, .bool a0.f6, .int .i64 a0.f7, .int .i64 a0.f8, .slice B26 t25.length d26, .slice B31 t30.length d31, .slice B36 t35.length d36, .string (⟨#[]⟩ : ByteArray)] 94, .own (Zd.slice 3 (Zd.int .i64)) t25 [.slice B26 t25.length d26], .own (Zd.slice 9 Zd.string) t30 [.slice B31 t30.length d31], .own (Zd.slice 9 Zd.string) t35 [.slice B36 t35.length d36]] := HS; have F := HS.boxes; simp only [boxFacts, and_true] at F) | ((with_reducible refine gate_store (p := 45) rfl ?_); refine ev_store rfl 2 12 HS (seg := [.string a0.f12]) rfl rfl rfl rfl rfl rfl (by kernel_rfl) (by simp [wrt]) (by simp [Value.oneCell']) ?_; clear HS; (try clear F); intro w40 HS; replace HS : Hp noFP w _ [.box g1 [.int .i64 a0.f0, .string a0.f1, .string a0.f2, .int .i64 a0.f3, .int .i64 a0.f4, .string a0.f5, .bool a0.f6, .int .i64 a0.f7, .int .i64 a0.f8, .slice Ap0 a0.f9.length cp0, .slice Ap1 a0.f10.length cp1, .slice Ap2 a0.f11.length cp2, .string a0.f12] 92, .box g2 [.int .i64 0, .string (⟨#[]⟩ : ByteArray), .string (⟨#[]⟩ : ByteArray), .int .i64 0, .int .i64 0, .string (⟨#[]⟩ : ByteArray), .bool false, .int .i64 0, .int .i64 0, .slice none 0 0, .slice none 0 0, .slice none 0 0, .string (⟨#[]⟩ : ByteArray)] 94, .box g3 [.int .i64 a0.f0, .string a0.f1, .string a0.f2, .int .i64 a0.f3, .int .i64 a0.f4, .string a0.f5, .bool a0.f6, .int .i64 a0.f7, .int .i64 a0.f8, .slice B26 t25.length d26, .slice B31 t30.length d31, .slice B36 t35.length d36, .string a0.f12] 94, .own (Zd.slice 3 (Zd.int .i64)) t25 [.slice B26 t25.length d26], .own (Zd.slice 9 Zd.string) t30 [.slice B31 t30.length d31], .own (Zd.slice 9 Zd.string) t35 [.slice B36 t35.length d36]] := HS; have F := HS.boxes; simp only [boxFacts, and_true] at F) | ((with_reducible refine gate_store (p := 2) rfl ?_); refine ev_store rfl 1 0 HS (seg := [.int .i64 a0.f0, .string a0.f1, .string a0.f2, .int .i64 a0.f3, .int .i64 a0.f4, .string a0.f5, .bool a0.f6, .int .i64 a0.f7, .int .i64 a0.f8, .slice B26 t25.length d26, .slice B31 t30.length d31, .slice B36 t35.length d36, .string a0.f12]) rfl rfl rfl rfl rfl rfl (by kernel_rfl) (by simp [wrt]) (by simp [Value.oneCell']) ?_; clear HS; (try clear F); intro w42 HS; replace HS : Hp noFP w _ [.box g1 [.int .i64 a0.f0, .string a0.f1, .string a0.f2, .int .i64 a0.f3, .int .i64 a0.f4, .string a0.f5, .bool a0.f6, .int .i64 a0.f7, .int .i64 a0.f8, .slice Ap0 a0.f9.length cp0, .slice Ap1 a0.f10.length cp1, .slice Ap2 a0.f11.length cp2, .string a0.f12] 92, .box g2 [.int .i64 a0.f0, .string a0.f1, .string a0.f2, .int .i64 a0.f3, .int .i64 a0.f4, .string a0.f5, .bool a0.f6, .int .i64 a0.f7, .int .i64 a0.f8, .slice B26 t25.length d26, .slice B31 t30.length d31, .slice B36 t35.length d36, .string a0.f12] 94, .box g3 [.int .i64 a0.f0, .string a0.f1, .string a0.f2, .int .i64 a0.f3, .int .i64 a0.f4, .string a0.f5, .bool a0.f6, .int .i64 a0.f7, .int .i64 a0.f8, .slice B26 t25.length d26, .slice B31 t30.length d31, .slice B36 t35.length d36, .string a0.f12] 94, .own (Zd.slice 3 (Zd.int .i64)) t25 [.slice B26 t25.length d26], .own (Zd.slice 9 Zd.string) t30 [.slice B31 t30.length d31], .own (Zd.slice 9 Zd.string) t35 [.slice B36 t35.length d36]] := HS; have F := HS.boxes; simp only [boxFacts, and_true] at F))
 exact bodyPost_ret (results_single rfl (.cell _ _ _ _ _ rfl (HS.boxAt (i := 1) rfl) Try.underlying94 rfl (by kernel_rfl) .nil)) rfl ⟨_, _, _, rfl, HS.pick [3, 4, 5] (by decide) (by rfl)⟩
/-! ### laws_toCertS: function 12 -/
def laws_toCertS.l0 : Nat → (List S94) → Int → (List S92) → Option ((List S94))
  | 0, _, _, _ => none
  | k + 1, l23, x25, a0 => (if x25 < (a0.length : Int) then (if 0 ≤ x25 then (if x25 < (a0.length : Int) then ((laws_toCert.f k (rd_T92 a0 x25)).bind fun t31 => (laws_toCertS.l0 k (l23.set (x25).toNat t31) (wrap64 (x25 + 1)) a0)) else none) else none) else (some l23))
def laws_toCertS.f (k : Nat) (a0 : (List S92)) : Option ((List S94)) := (if 0 ≤ (a0.length : Int) then (if ((a0.length : Int)).toNat ≤ 1529755308210 then (laws_toCertS.l0 k (List.replicate a0.length z94) 0 a0) else none) else none)
set_option maxHeartbeats 16000000 in
theorem laws_toCertS.calls {k : Nat} {a0 : (List S92)} {Ap0 : Option Addr} {np0 cp0 : Nat} {r : (List S94)} {w : World} (h : laws_toCertS.f k a0 = some r) (gp0 : k92.C w Ap0 np0 a0) (lp0 : np0 ≤ cp0) :
    Calls Try.prog 12 #[.slice Ap0 np0 cp0] w (fun e w' => ∃ v0_ : Value, e = .returned (v0_) ∧ Hp noFP w w' [.own (Zd.slice 94 q94) r [v0_]]) := by
 obtain rfl := C_len gp0
 have HS := Hp.start w
 have H := Aside0.mk h
 clear h
 unfold laws_toCertS.f at H
 go_enter Try.func12, Try.ntmps12
 by_cases c1 : 0 ≤ (a0.length : Int)
 case neg => exact zno c1 H
 replace H := zpos c1 H
 replace c1 := eq_true c1
 by_cases c2 : ((a0.length : Int)).toNat ≤ 1529755308210
 case neg => exact zno c2 H
 replace H := zpos c2 H
 replace c2 := eq_true c2
 go_wp2_with (first | ((with_reducible refine gate_dst (N := 7) rfl ?_); refine ev_make rfl q94 z94 HS rfl (a0.length : Int) rfl rfl Try.underlying27 info94 rfl (by decide) (by decide) q94_zero (of_eq_true c1) (by have := of_eq_true c2; omega) ?_; clear HS; (try clear F); intro v3 w3 HS; obtain ⟨B3, d3, rfl, m3⟩ := HS.formn a0.length 0 rfl (by first | rfl | simp); replace HS : Hp noFP w _ [.own (Zd.slice 94 q94) (List.replicate a0.length z94) [.slice B3 a0.length d3]] := HS))
 go_loopg [4] k (fun kq v_4 w' => ∃ (l23 : List S94) (x25 : Int), v_4 = .int .i64 x25 ∧ Aside0 (laws_toCertS.l0 kq l23 x25 a0 = some r) ∧ Aside0 (kq ≤ k) ∧ Hp noFP w w' [.own (Zd.slice 94 q94) l23 [.slice B3 a0.length d3]])
 case atStart => exact ⟨_, _, rfl, H, ⟨Nat.le_refl _⟩, HS⟩
 case round =>
  clear HS H; (try clear F)
  obtain ⟨l23, x25, rfl, H, HKk22, HS⟩ := hrel
  cases gk with
  | zero => exact absurd H.out (by simp [laws_toCertS.l0])
  | succ k22 =>
   simp only [laws_toCertS.l0] at H
   by_cases c27 : x25 < (a0.length : Int)
   · replace H := zpos c27 H
     replace c27 := eq_true c27
     by_cases c28 : 0 ≤ x25
     case neg => exact zno c28 H
     replace H := zpos c28 H
     replace c28 := eq_true c28
     by_cases c29 : x25 < (a0.length : Int)
     case neg => exact zno c29 H
     replace H := zpos c29 H
     replace c29 := eq_true c29
     obtain ⟨ad30, B30_9, d30_9, B30_10, d30_10, B30_11, d30_11, rfl, e30_0, e30_1, e30_2, e30_3, e30_4, e30_5, e30_6, e30_7, e30_8, e30_9, e30_10, e30_11, e30_12, m30_9, y30_9, m30_10, y30_10, m30_11, y30_11⟩ := at_T92 gp0 x25 (of_eq_true c28) (of_eq_true c29)
     have e30_0_30 := (HS.keepc e30_0)
     have e30_1_30 := (HS.keepc e30_1)
     have e30_2_30 := (HS.keepc e30_2)
     have e30_3_30 := (HS.keepc e30_3)
     have e30_4_30 := (HS.keepc e30_4)
     have e30_5_30 := (HS.keepc e30_5)
     have e30_6_30 := (HS.keepc e30_6)
     have e30_7_30 := (HS.keepc e30_7)
     have e30_8_30 := (HS.keepc e30_8)
     have e30_9_30 := (HS.keepc e30_9)
     have e30_10_30 := (HS.keepc e30_10)
     have e30_11_30 := (HS.keepc e30_11)
     have e30_12_30 := (HS.keepc e30_12)
     replace H := zbind H; obtain ⟨t31, ht31, H⟩ := H
     go_wp2_with (first | ((with_reducible refine gate_dst (N := 20) rfl ?_); refine ev_call rfl Try.func52 (by kernel_rfl) rfl #[.agg #[.int .i64 ((rd_T92 a0 x25).f0), .string ((rd_T92 a0 x25).f1), .string ((rd_T92 a0 x25).f2), .int .i64 ((rd_T92 a0 x25).f3), .int .i64 ((rd_T92 a0 x25).f4), .string ((rd_T92 a0 x25).f5), .bool ((rd_T92 a0 x25).f6), .int .i64 ((rd_T92 a0 x25).f7), .int .i64 ((rd_T92 a0 x25).f8), .slice B30_9 (rd_T92 a0 x25).f9.length d30_9, .slice B30_10 (rd_T92 a0 x25).f10.length d30_10, .slice B30_11 (rd_T92 a0 x25).f11.length d30_11, .string ((rd_T92 a0 x25).f12)]] rfl (by simp only [List.map_toArray, List.map_cons, List.map_nil]; rfl) ?_; refine (laws_toCert.calls ht31.out (HS.ro y30_9) m30_9 (HS.ro y30_10) m30_10 (HS.ro y30_11) m30_11).mono ?_; rintro _ wt31 ⟨v32, v33, v34, rfl, HQ⟩; refine ⟨_, rfl, ?_⟩; replace HS := HS.call HQ; clear HQ; (try clear F); obtain ⟨B32, d32, rfl, m32⟩ := HS.form 1 rfl; obtain ⟨B33, d33, rfl, m33⟩ := HS.form 2 rfl; obtain ⟨B34, d34, rfl, m34⟩ := HS.form 3 rfl; replace HS : Hp noFP w _ [.own (Zd.slice 94 q94) l23 [.slice B3 a0.length d3], .own (Zd.slice 3 (Zd.int .i64)) t31.f9 [.slice B32 t31.f9.length d32], .own (Zd.slice 9 Zd.string) t31.f10 [.slice B33 t31.f10.length d33], .own (Zd.slice 9 Zd.string) t31.f11 [.slice B34 t31.f11.length d34]] := HS; obtain ⟨ad36, B36_9, d36_9, B36_10, d36_10, B36_11, d36_11, rfl, e36_0, e36_1, e36_2, e36_3, e36_4, e36_5, e36_6, e36_7, e36_8, e36_9, e36_10, e36_11, e36_12, m36_9, y36_9, m36_10, y36_10, m36_11, y36_11⟩ := at_T94 (HS.rd 0 rfl) x25 (of_eq_true c28) (of_eq_true c29)) | ((with_reducible refine gate_store (p := 21) rfl ?_); refine ev_set rfl q94 0 [1, 2, 3] x25 t31 HS (seg := [.int .i64 t31.f0, .string t31.f1, .string t31.f2, .int .i64 t31.f3, .int .i64 t31.f4, .string t31.f5, .bool t31.f6, .int .i64 t31.f7, .int .i64 t31.f8, .slice B32 t31.f9.length d32, .slice B33 t31.f10.length d33, .slice B34 t31.f11.length d34, .string t31.f12]) rfl (by decide) rfl rfl rfl (by first | rfl | exact (Nat.mul_one _).symm) rfl rfl (by kernel_rfl) (by simp [Value.oneCell']) ⟨of_eq_true c28, of_eq_true c29⟩ rfl (fun S hd hh => q94_pack (x := t31) hd (hh 1 (.own (Zd.slice 3 (Zd.int .i64)) t31.f9 [.slice B32 t31.f9.length d32]) rfl) (hh 2 (.own (Zd.slice 9 Zd.string) t31.f10 [.slice B33 t31.f10.length d33]) rfl) (hh 3 (.own (Zd.slice 9 Zd.string) t31.f11 [.slice B34 t31.f11.length d34]) rfl) (by decide)) ?_; clear HS; (try clear F); intro w37 HS; replace HS : Hp noFP w _ [.own (Zd.slice 94 q94) (l23.set (x25).toNat t31) [.slice (some ad36) a0.length d3], .emp, .emp, .emp] := HS))
     go_roundg k22
     case measure => have := HKk22.out; omega
     case rel => exact ⟨_, _, rfl, H, ⟨by have := HKk22.out; omega⟩, HS.pick [0] (by decide) (by rfl)⟩
   · replace H := zneg c27 H
     replace c27 := eq_false c27
     obtain rfl := zsome H
     go_wp2
     exact bodyPost_ret (results_single rfl (.tmp .nil)) rfl ⟨_, rfl, HS.pick [0] (by decide) (by rfl)⟩
/-! ### slices_Index_int_int: function 161 -/
def slices_Index_int_int.l0 : Nat → Int → (List Int) → Int → Option (Int)
  | 0, _, _, _ => none
  | k + 1, x4, a0, a1 => (if x4 < (a0.length : Int) then (if 0 ≤ x4 then (if x4 < (a0.length : Int) then (if a1 = (rd a0 x4) then (some x4) else (slices_Index_int_int.l0 k (wrap64 (x4 + 1)) a0 a1)) else none) else none) else (some (-1)))
def slices_Index_int_int.f (k : Nat) (a0 : (List Int)) (a1 : Int) : Option (Int) := (slices_Index_int_int.l0 k 0 a0 a1)
set_option maxHeartbeats 16000000 in
theorem slices_Index_int_int.calls {k : Nat} {a0 : (List Int)} {a1 : Int} {Ap0 : Option Addr} {np0 cp0 : Nat} {r : Int} {w : World} (h : slices_Index_int_int.f k a0 a1 = some r) (gp0 : (Kd.int .i64).C w Ap0 np0 a0) (lp0 : np0 ≤ cp0) :
    Calls Try.prog 161 #[.slice Ap0 np0 cp0, .int .i64 a1] w (fun e w' => e = .returned (.int .i64 r) ∧ Hp noFP w w' []) := by
 obtain rfl := C_len gp0
 have HS := Hp.start w
 have H := Aside0.mk h
 clear h
 unfold slices_Index_int_int.f at H
 go_enter Try.func161, Try.ntmps161
 go_wp2
 go_loopg [8] k (fun kq v_8 w' => ∃ (x4 : Int), v_8 = .int .i64 x4 ∧ Aside0 (slices_Index_int_int.l0 kq x4 a0 a1 = some r) ∧ Aside0 (kq ≤ k) ∧ Hp noFP w w' [])
 case atStart => exact ⟨_, rfl, H, ⟨Nat.le_refl _⟩, HS⟩
 case round =>
  clear HS H; (try clear F)
  obtain ⟨x4, rfl, H, HKk3, HS⟩ := hrel
  cases gk with
  | zero => exact absurd H.out (by simp [slices_Index_int_int.l0])
  | succ k3 =>
   simp only [slices_Index_int_int.l0] at H
   by_cases c6 : x4 < (a0.length : Int)
   · replace H := zpos c6 H
     replace c6 := eq_true c6
     by_cases c7 : 0 ≤ x4
     case neg => exact zno c7 H
     replace H := zpos c7 H
     replace c7 := eq_true c7
     by_cases c8 : x4 < (a0.length : Int)
     case neg => exact zno c8 H
     replace H := zpos c8 H
     replace c8 := eq_true c8
     obtain ⟨ad9, rfl, e9_0⟩ := Kd.at_int gp0 x4 (of_eq_true c7) (of_eq_true c8)
     have e9_0_9 := (HS.keepc e9_0)
     by_cases c10 : a1 = (rd a0 x4)
     · replace H := zpos c10 H
       have c10a := beq_iff_eq.mpr c10
       have c10b := bne_eq_false_iff_eq.mpr c10
       clear c10
       obtain rfl := zsome H
       go_wp2
       go_ret
       exact ⟨rfl, HS.pick [] (by decide) (by rfl)⟩
     · replace H := zneg c10 H
       have c10a := beq_eq_false_iff_ne.mpr c10
       have c10b := bne_iff_ne.mpr c10
       clear c10
       go_wp2
       go_roundg k3
       case measure => have := HKk3.out; omega
       case rel => exact ⟨_, rfl, H, ⟨by have := HKk3.out; omega⟩, HS.pick [] (by decide) (by rfl)⟩
   · replace H := zneg c6 H
     replace c6 := eq_false c6
     obtain rfl := zsome H
     go_wp2
     go_ret
     exact ⟨rfl, HS.pick [] (by decide) (by rfl)⟩
/-! ### slices_Contains_int_int: function 113 -/
def slices_Contains_int_int.f (k : Nat) (a0 : (List Int)) (a1 : Int) : Option (Bool) := ((slices_Index_int_int.f k a0 a1).bind fun t1 => (some (decide (0 ≤ t1))))
set_option maxHeartbeats 16000000 in
theorem slices_Contains_int_int.calls {k : Nat} {a0 : (List Int)} {a1 : Int} {Ap0 : Option Addr} {np0 cp0 : Nat} {r : Bool} {w : World} (h : slices_Contains_int_int.f k a0 a1 = some r) (gp0 : (Kd.int .i64).C w Ap0 np0 a0) (lp0 : np0 ≤ cp0) :
    Calls Try.prog 113 #[.slice Ap0 np0 cp0, .int .i64 a1] w (fun e w' => e = .returned (.bool r) ∧ Hp noFP w w' []) := by
 obtain rfl := C_len gp0
 have HS := Hp.start w
 have H := Aside0.mk h
 clear h
 unfold slices_Contains_int_int.f at H
 go_enter Try.func113, Try.ntmps113
 replace H := zbind H; obtain ⟨t1, ht1, H⟩ := H
 obtain rfl := zsome H
 go_wp2_with (first | ((with_reducible refine gate_dst (N := 7) rfl ?_); refine ev_call rfl Try.func161 (by kernel_rfl) rfl #[.slice Ap0 a0.length cp0, .int .i64 a1] rfl (by simp only [List.map_toArray, List.map_cons, List.map_nil]; rfl) ?_; refine (slices_Index_int_int.calls ht1.out (HS.ro gp0) lp0).mono ?_; rintro _ wt1 ⟨rfl, HQ⟩; refine ⟨_, rfl, ?_⟩; replace HS := HS.call HQ; clear HQ; (try clear F); replace HS : Hp noFP w _ [] := HS))
 go_ret
 exact ⟨rfl, HS.pick [] (by decide) (by rfl)⟩
/-! ### impl_JoinPolicies_1_0: function 115 -/
def impl_JoinPolicies_1_0.f (k : Nat) (a0 : Int) (a1 : (List Int)) : Option (Bool) := ((slices_Contains_int_int.f k a1 a0).bind fun t1 => (some (!t1)))
set_option maxHeartbeats 16000000 in
theorem impl_JoinPolicies_1_0.calls {k : Nat} {a0 : Int} {a1 : (List Int)} {p0 : Nat} {Ap1 : Option Addr} {np1 cp1 : Nat} {r : Bool} {w : World} (h : impl_JoinPolicies_1_0.f k a0 a1 = some r) (gp1 : (Kd.int .i64).C w Ap1 np1 a1) (lp1 : np1 ≤ cp1) (zp0_0 : w.cell? ⟨p0, 0, none⟩ = some (.slice Ap1 np1 cp1)) :
    Calls Try.prog 115 #[.int .i64 a0, .pointer (some ⟨p0, 0, none⟩)] w (fun e w' => e = .returned (.bool r) ∧ Hp noFP w w' []) := by
 obtain rfl := C_len gp1
 have HS := Hp.start w
 have H := Aside0.mk h
 clear h
 unfold impl_JoinPolicies_1_0.f at H
 go_enter Try.func115, Try.ntmps115
 have zp0_0_ := (HS.keepc zp0_0)
 replace H := zbind H; obtain ⟨t1, ht1, H⟩ := H
 obtain rfl := zsome H
 go_wp2_with (first | ((with_reducible refine gate_dst (N := 6) rfl ?_); refine ev_call rfl Try.func113 (by kernel_rfl) rfl #[.slice Ap1 a1.length cp1, .int .i64 a0] rfl (by simp only [List.map_toArray, List.map_cons, List.map_nil]; rfl) ?_; refine (slices_Contains_int_int.calls ht1.out (HS.ro gp1) lp1).mono ?_; rintro _ wt1 ⟨rfl, HQ⟩; refine ⟨_, rfl, ?_⟩; replace HS := HS.call HQ; clear HQ; (try clear F); replace HS : Hp noFP w _ [] := HS))
 go_ret
 exact ⟨rfl, HS.pick [] (by decide) (by rfl)⟩
/-! ### slices_IndexFunc_int_int_0: function 162 -/
def slices_IndexFunc_int_int_0.l0 : Nat → Int → (List Int) → (List Int) → Option (Int)
  | 0, _, _, _ => none
  | k + 1, x4, a0, a1 => (if x4 < (a0.length : Int) then (if 0 ≤ x4 then (if x4 < (a0.length : Int) then ((impl_JoinPolicies_1_0.f k (rd a0 x4) a1).bind fun t10 => (if t10 = true then (some x4) else (slices_IndexFunc_int_int_0.l0 k (wrap64 (x4 + 1)) a0 a1))) else none) else none) else (some (-1)))
def slices_IndexFunc_int_int_0.f (k : Nat) (a0 : (List Int)) (a1 : (List Int)) : Option (Int) := (slices_IndexFunc_int_int_0.l0 k 0 a0 a1)
set_option maxHeartbeats 16000000 in
theorem slices_IndexFunc_int_int_0.calls {k : Nat} {a0 : (List Int)} {a1 : (List Int)} {Ap0 : Option Addr} {np0 cp0 : Nat} {p1 : Nat} {Ap2 : Option Addr} {np2 cp2 : Nat} {r : Int} {w : World} (h : slices_IndexFunc_int_int_0.f k a0 a1 = some r) (gp0 : (Kd.int .i64).C w Ap0 np0 a0) (lp0 : np0 ≤ cp0) (gp2 : (Kd.int .i64).C w Ap2 np2 a1) (lp2 : np2 ≤ cp2) (zp1_0 : w.cell? ⟨p1, 0, none⟩ = some (.slice Ap2 np2 cp2)) :
    Calls Try.prog 162 #[.slice Ap0 np0 cp0, .func (.func 115) #[] #[.pointer (some ⟨p1, 0, none⟩)]] w (fun e w' => e = .returned (.int .i64 r) ∧ Hp noFP w w' []) := by
 obtain rfl := C_len gp0
 obtain rfl := C_len gp2
 have HS := Hp.start w
 have H := Aside0.mk h
 clear h
 unfold slices_IndexFunc_int_int_0.f at H
 go_enter Try.func162, Try.ntmps162
 go_wp2
 go_loopg [8] k (fun kq v_8 w' => ∃ (x4 : Int), v_8 = .int .i64 x4 ∧ Aside0 (slices_IndexFunc_int_int_0.l0 kq x4 a0 a1 = some r) ∧ Aside0 (kq ≤ k) ∧ Hp noFP w w' [])
 case atStart => exact ⟨_, rfl, H, ⟨Nat.le_refl _⟩, HS⟩
 case round =>
  clear HS H; (try clear F)
  obtain ⟨x4, rfl, H, HKk3, HS⟩ := hrel
  cases gk with
  | zero => exact absurd H.out (by simp [slices_IndexFunc_int_int_0.l0])
  | succ k3 =>
   simp only [slices_IndexFunc_int_int_0.l0] at H
   by_cases c6 : x4 < (a0.length : Int)
   · replace H := zpos c6 H
     replace c6 := eq_true c6
     by_cases c7 : 0 ≤ x4
     case neg => exact zno c7 H
     replace H := zpos c7 H
     replace c7 := eq_true c7
     by_cases c8 : x4 < (a0.length : Int)
     case neg => exact zno c8 H
     replace H := zpos c8 H
     replace c8 := eq_true c8
     obtain ⟨ad9, rfl, e9_0⟩ := Kd.at_int gp0 x4 (of_eq_true c7) (of_eq_true c8)
     have e9_0_9 := (HS.keepc e9_0)
     replace H := zbind H; obtain ⟨t10, ht10, H⟩ := H
     go_upto_if 16 with (first | ((with_reducible refine gate_dst (N := 16) rfl ?_); refine ev_callv rfl Try.func115 (by kernel_rfl) rfl #[.int .i64 (rd a0 x4)] #[.int .i64 (rd a0 x4), .pointer (some ⟨p1, 0, none⟩)] rfl rfl (by simp only [List.map_toArray, List.map_cons, List.map_nil]; rfl) (by first | rfl | simp) ?_; refine (impl_JoinPolicies_1_0.calls ht10.out (HS.ro gp2) lp2 (HS.keepc zp1_0)).mono ?_; rintro _ wt10 ⟨rfl, HQ⟩; refine ⟨_, rfl, ?_⟩; replace HS := HS.call HQ; clear HQ; (try clear F); replace HS : Hp noFP w _ [] := HS))
     by_cases c12 : t10 = true
     · replace H := zpos c12 H
       subst c12
       (try simp only [decide_true, decide_false, Bool.not_true, Bool.not_false, if_true, Bool.false_eq_true, if_false])
       obtain rfl := zsome H
       go_wp2
       go_ret
       exact ⟨rfl, HS.pick [] (by decide) (by rfl)⟩
     · replace H := zneg c12 H
       replace c12 := eq_false_of_ne_true c12
       subst c12
       (try simp only [decide_true, decide_false, Bool.not_true, Bool.not_false, if_true, Bool.false_eq_true, if_false])
       go_wp2
       go_roundg k3
       case measure => have := HKk3.out; omega
       case rel => exact ⟨_, rfl, H, ⟨by have := HKk3.out; omega⟩, HS.pick [] (by decide) (by rfl)⟩
   · replace H := zneg c6 H
     replace c6 := eq_false c6
     obtain rfl := zsome H
     go_wp2
     go_ret
     exact ⟨rfl, HS.pick [] (by decide) (by rfl)⟩
/-! ### slices_DeleteFunc_int_int_0: function 114 -/
def slices_DeleteFunc_int_int_0.l0 : Nat → (List Int) → Int → Int → (List Int) → (List Int) → Option ((List Int))
  | 0, _, _, _, _, _ => none
  | k + 1, l34, x36, x37, a0, a1 => (if x37 < (a0.length : Int) then (if 0 ≤ x37 then (if x37 < (a0.length : Int) then ((impl_JoinPolicies_1_0.f k (rd l34 x37) a1).bind fun t43 => (if t43 = true then (slices_DeleteFunc_int_int_0.l0 k l34 x36 (wrap64 (x37 + 1)) a0 a1) else (if 0 ≤ x36 then (if x36 < (a0.length : Int) then (slices_DeleteFunc_int_int_0.l0 k (l34.set (x36).toNat (rd l34 x37)) (wrap64 (x36 + 1)) (wrap64 (x37 + 1)) a0 a1) else none) else none))) else none) else none) else (if 0 ≤ x36 then (if x36 ≤ (a0.length : Int) then (if x36 < (l34.length : Int) then (if x36 ≤ ((l34.take (x36).toNat ++ List.replicate (l34.length - (x36).toNat) 0).length : Int) then (some ((l34.take (x36).toNat ++ List.replicate (l34.length - (x36).toNat) 0).take (x36).toNat)) else none) else none) else none) else none))
def slices_DeleteFunc_int_int_0.f (k : Nat) (a0 : (List Int)) (a1 : (List Int)) : Option ((List Int)) := ((slices_IndexFunc_int_int_0.f k a0 a1).bind fun t2 => (if t2 = (-1) then (some a0) else (slices_DeleteFunc_int_int_0.l0 k a0 t2 (wrap64 (t2 + 1)) a0 a1)))
set_option maxHeartbeats 16000000 in
theorem slices_DeleteFunc_int_int_0.calls {k : Nat} {a0 : (List Int)} {a1 : (List Int)} {A : FP} {vp0 : Value} {p1 : Nat} {Ap2 : Option Addr} {np2 cp2 : Nat} {wv : World} {r : (List Int)} {w : World} (h : slices_DeleteFunc_int_int_0.f k a0 a1 = some r) (gp2 : (Kd.int .i64).C wv Ap2 np2 a1) (lp2 : np2 ≤ cp2) (zp1_0 : wv.cell? ⟨p1, 0, none⟩ = some (.slice Ap2 np2 cp2)) (hV : View A w wv) (HS : Hp A w w [.own (Zd.slice 3 (Zd.int .i64)) a0 [vp0]]) :
    Calls Try.prog 114 #[vp0, .func (.func 115) #[] #[.pointer (some ⟨p1, 0, none⟩)]] w (fun e w' => ∃ v0_ : Value, e = .returned (v0_) ∧ Hp A w w' [.own (Zd.slice 3 (Zd.int .i64)) r [v0_]]) := by
 obtain ⟨B1, d1, rfl, m1⟩ := HS.form 0 rfl
 obtain rfl := C_len gp2
 have H := Aside0.mk h
 clear h
 unfold slices_DeleteFunc_int_int_0.f at H
 go_enter Try.func114, Try.ntmps114
 replace H := zbind H; obtain ⟨t2, ht2, H⟩ := H
 go_upto_if 12 with (first | ((with_reducible refine gate_dst (N := 10) rfl ?_); refine ev_call rfl Try.func162 (by kernel_rfl) rfl #[.slice B1 a0.length d1, .func (.func 115) #[] #[.pointer (some ⟨p1, 0, none⟩)]] rfl (by simp only [List.map_toArray, List.map_cons, List.map_nil]; rfl) ?_; refine (slices_IndexFunc_int_int_0.calls ht2.out (HS.rd 0 rfl) m1 (hV.ro HS gp2) lp2 (hV.keepc HS zp1_0)).mono ?_; rintro _ wt2 ⟨rfl, HQ⟩; refine ⟨_, rfl, ?_⟩; replace HS := HS.call HQ; clear HQ; (try clear F); replace HS : Hp A w _ [.own (Zd.slice 3 (Zd.int .i64)) a0 [.slice B1 a0.length d1]] := HS))
 by_cases c4 : t2 = (-1)
 · replace H := zpos c4 H
   have c4a := beq_iff_eq.mpr c4
   have c4b := bne_eq_false_iff_eq.mpr c4
   clear c4
   (try simp only [c4a, c4b, decide_true, decide_false, Bool.not_true, Bool.not_false])
   obtain rfl := zsome H
   go_wp2
   exact bodyPost_ret (results_single rfl (.tmp .nil)) rfl ⟨_, rfl, HS.pick [0] (by decide) (by rfl)⟩
 · replace H := zneg c4 H
   have c4a := beq_eq_false_iff_ne.mpr c4
   have c4b := bne_iff_ne.mpr c4
   clear c4
   (try simp only [c4a, c4b, decide_true, decide_false, Bool.not_true, Bool.not_false])
   go_wp2
   go_loopg [5, 6] k (fun kq v_5 v_6 w' => ∃ (l34 : List Int) (x36 : Int) (x37 : Int), v_5 = .int .i64 x36 ∧ v_6 = .int .i64 x37 ∧ Aside0 (slices_DeleteFunc_int_int_0.l0 kq l34 x36 x37 a0 a1 = some r) ∧ Aside0 (kq ≤ k) ∧ Hp A w w' [.own (Zd.slice 3 (Zd.int .i64)) l34 [.slice B1 a0.length d1]])
   case atStart => exact ⟨_, _, _, rfl, rfl, H, ⟨Nat.le_refl _⟩, HS⟩
   case round =>
    clear HS H; (try clear F)
    obtain ⟨l34, x36, x37, rfl, rfl, H, HKk33, HS⟩ := hrel
    cases gk with
    | zero => exact absurd H.out (by simp [slices_DeleteFunc_int_int_0.l0])
    | succ k33 =>
     simp only [slices_DeleteFunc_int_int_0.l0] at H
     by_cases c39 : x37 < (a0.length : Int)
     · replace H := zpos c39 H
       replace c39 := eq_true c39
       by_cases c40 : 0 ≤ x37
       case neg => exact zno c40 H
       replace H := zpos c40 H
       replace c40 := eq_true c40
       by_cases c41 : x37 < (a0.length : Int)
       case neg => exact zno c41 H
       replace H := zpos c41 H
       replace c41 := eq_true c41
       obtain ⟨ad42, rfl, e42_0⟩ := Kd.at_int (HS.rd 0 rfl) x37 (of_eq_true c40) (of_eq_true c41)
       replace H := zbind H; obtain ⟨t43, ht43, H⟩ := H
       go_upto_if 29 with (first | ((with_reducible refine gate_dst (N := 28) rfl ?_); refine ev_callv rfl Try.func115 (by kernel_rfl) rfl #[.int .i64 (rd l34 x37)] #[.int .i64 (rd l34 x37), .pointer (some ⟨p1, 0, none⟩)] rfl rfl (by simp only [List.map_toArray, List.map_cons, List.map_nil]; rfl) (by first | rfl | simp) ?_; refine (impl_JoinPolicies_1_0.calls ht43.out (hV.ro HS gp2) lp2 (hV.keepc HS zp1_0)).mono ?_; rintro _ wt43 ⟨rfl, HQ⟩; refine ⟨_, rfl, ?_⟩; replace HS := HS.call HQ; clear HQ; (try clear F); replace HS : Hp A w _ [.own (Zd.slice 3 (Zd.int .i64)) l34 [.slice (some ad42) a0.length d1]] := HS))
       by_cases c45 : t43 = true
       · replace H := zpos c45 H
         subst c45
         (try simp only [decide_true, decide_false, Bool.not_true, Bool.not_false, if_true, Bool.false_eq_true, if_false])
         go_wp2
         go_roundg k33
         case measure => have := HKk33.out; omega
         case rel => exact ⟨_, _, _, rfl, rfl, H, ⟨by have := HKk33.out; omega⟩, HS.pick [0] (by decide) (by rfl)⟩
       · replace H := zneg c45 H
         replace c45 := eq_false_of_ne_true c45
         subst c45
         (try simp only [decide_true, decide_false, Bool.not_true, Bool.not_false, if_true, Bool.false_eq_true, if_false])
         by_cases c46 : 0 ≤ x36
         case neg => exact zno c46 H
         replace H := zpos c46 H
         replace c46 := eq_true c46
         by_cases c47 : x36 < (a0.length : Int)
         case neg => exact zno c47 H
         replace H := zpos c47 H
         replace c47 := eq_true c47
         obtain ⟨ad48, hq48, e48_0⟩ := Kd.at_int (HS.rd 0 rfl) x36 (of_eq_true c46) (of_eq_true c47)
         obtain rfl := Option.some.inj hq48
         go_wp2_with (first | ((with_reducible refine gate_store (p := 33) rfl ?_); refine ev_set rfl (Zd.int .i64) 0 [] x36 (rd l34 x37) HS (seg := [.int .i64 (rd l34 x37)]) rfl (by decide) rfl rfl rfl (by first | rfl | exact (Nat.mul_one _).symm) rfl rfl (by kernel_rfl) (by simp [Value.oneCell']) ⟨of_eq_true c46, of_eq_true c47⟩ rfl (made_flat (fun _ => rfl)) ?_; clear HS; (try clear F); intro w49 HS; replace HS : Hp A w _ [.own (Zd.slice 3 (Zd.int .i64)) (l34.set (x36).toNat (rd l34 x37)) [.slice (some ad42) a0.length d1]] := HS))
         go_roundg k33
         case measure => have := HKk33.out; omega
         case rel => exact ⟨_, _, _, rfl, rfl, H, ⟨by have := HKk33.out; omega⟩, HS.pick [0] (by decide) (by rfl)⟩
     · replace H := zneg c39 H
       replace c39 := eq_false c39
       by_cases c51 : 0 ≤ x36
       case neg => exact zno c51 H
       replace H := zpos c51 H
       replace c51 := eq_true c51
       by_cases c52 : x36 ≤ (a0.length : Int)
       case neg => exact zno c52 H
       replace H := zpos c52 H
       replace c52 := eq_true c52
       by_cases c54 : x36 < (l34.length : Int)
       case neg => exact zno c54 H
       replace H := zpos c54 H
       replace c54 := eq_true c54
       by_cases c56 : x36 ≤ ((l34.take (x36).toNat ++ List.replicate (l34.length - (x36).toNat) 0).length : Int)
       case neg => exact zno c56 H
       replace H := zpos c56 H
       replace c56 := eq_true c56
       obtain rfl := zsome H
       go_wp2_with (first | ((with_reducible refine gate_dst (N := 38) rfl ?_); refine ev_val rfl (run_cutl rfl rfl rfl Try.underlying24 info3 (of_eq_true c51) (of_eq_true c52)) ?_) | ((with_reducible refine gate_clear rfl ?_); refine ev_clear rfl 0 HS rfl rfl rfl rfl Try.underlying24 zv3 (of_eq_true c51) (of_eq_true c54) ?_; clear HS; (try clear F); intro w53 HS; replace HS : Hp A w _ [.own (Zd.slice 3 (Zd.int .i64)) (l34.take (x36).toNat ++ List.replicate (l34.length - (x36).toNat) 0) [.slice B1 a0.length d1]] := HS; have cd57 : (x36 ≤ (d1 : Int)) = True := eq_true (by have := of_eq_true c52; have := m1; omega); replace HS := HS.cutrow 0 x36 rfl (of_eq_true c51) (of_eq_true c56); replace HS : Hp A w _ [.own (Zd.slice 3 (Zd.int .i64)) ((l34.take (x36).toNat ++ List.replicate (l34.length - (x36).toNat) 0).take (x36).toNat) [.slice B1 (x36).toNat d1]] := HS))
       exact bodyPost_ret (results_single rfl (.tmp .nil)) rfl ⟨_, rfl, HS.pick [0] (by decide) (by rfl)⟩
/-! ### impl_JoinPolicies: function 53 -/
def impl_JoinPolicies.f (k : Nat) (a0 : (List Int)) (a1 : Bool) (a2 : (List Int)) : Option ((List Int) × Bool) := (if 0 + a2.length ≤ 17592186044416 then (lets (([] : List Int) ++ a2) fun y6 => ((slices_Contains_int_int.f k a2 0).bind fun t8 => (if t8 = true then (if 0 + a0.length ≤ 17592186044416 then (lets (([] : List Int) ++ a0) fun y12 => (some (y12, a1))) else none) else (if a1 = true then (some (y6, false)) else ((slices_DeleteFunc_int_int_0.f k y6 a0).bind fun t15 => (some (t15, false))))))) else none)
set_option maxHeartbeats 16000000 in
theorem impl_JoinPolicies.calls {k : Nat} {a0 : (List Int)} {a1 : Bool} {a2 : (List Int)} {Ap0 : Option Addr} {np0 cp0 : Nat} {Ap1 : Option Addr} {np1 cp1 : Nat} {r1 : (List Int)} {r2 : Bool} {w : World} (h : impl_JoinPolicies.f k a0 a1 a2 = some (r1, r2)) (gp0 : (Kd.int .i64).C w Ap0 np0 a0) (lp0 : np0 ≤ cp0) (gp1 : (Kd.int .i64).C w Ap1 np1 a2) (lp1 : np1 ≤ cp1) :
    Calls Try.prog 53 #[.slice Ap0 np0 cp0, .bool a1, .slice Ap1 np1 cp1] w (fun e w' => ∃ v0_ : Value, e = .returned (.tuple #[v0_, .bool r2]) ∧ Hp noFP w w' [.own (Zd.slice 3 (Zd.int .i64)) r1 [v0_]]) := by
 obtain rfl := C_len gp0
 obtain rfl := C_len gp1
 have HS := Hp.start w
 have H := Aside0.mk h
 clear h
 unfold impl_JoinPolicies.f at H
 go_enter Try.func53, Try.ntmps53
 by_cases c5 : 0 + a2.length ≤ 17592186044416
 case neg => exact zno c5 H
 replace H := zpos c5 H
 replace c5 := eq_true c5
 replace H := zlets H; obtain ⟨y6, e_y6, H⟩ := H
 replace H := zbind H; obtain ⟨t8, ht8, H⟩ := H
 go_upto_if 14 with (first | ((with_reducible refine gate_dst (N := 3) rfl ?_); refine ev_box rfl HS (by first | (go_simp; done) | (go_simp; rfl)) rfl ?_; clear HS; (try clear F); intro g3 w3 HS; replace HS : Hp noFP w _ [.box g3 [.slice Ap0 a0.length cp0] 24] := HS; have F := HS.boxes; simp only [boxFacts, and_true] at F; have gb3_0 := (HS.ro gp0); have zg3_b3_0 := HS.cellAt 0 rfl (j := 0) rfl; have gb3_1 := (HS.ro gp1); have HSb3 := HS; replace HS := Hp.start w3; (try clear F)) | ((with_reducible refine gate_dst (N := 10) rfl ?_); replace HS := HS.nil 3 (Zd.int .i64); refine ev_appendr rfl (Zd.int .i64) (flat_int _) 0 HS rfl (HS.ro gb3_1) rfl rfl rfl Try.underlying24 info3 rfl (by decide) (by decide) (by have := of_eq_true c5; first | omega | (simp only [List.length_cons, List.length_nil, List.length_append, Nat.zero_add] at this ⊢; omega)) ?_; clear HS; (try clear F); intro v6 w6 HS; rw [← e_y6.out] at HS; obtain ⟨B6, d6, rfl, m6⟩ := HS.form 1 rfl; replace HS : Hp noFP w3 _ [.emp, .own (Zd.slice 3 (Zd.int .i64)) y6 [.slice B6 y6.length d6]] := HS) | ((with_reducible refine gate_dst (N := 16) rfl ?_); refine ev_call rfl Try.func113 (by kernel_rfl) rfl #[.slice Ap1 a2.length cp1, .int .i64 0] rfl (by simp only [List.map_toArray, List.map_cons, List.map_nil]; rfl) ?_; refine (slices_Contains_int_int.calls ht8.out (HS.ro gb3_1) lp1).mono ?_; rintro _ wt8 ⟨rfl, HQ⟩; refine ⟨_, rfl, ?_⟩; replace HS := HS.call HQ; clear HQ; (try clear F); replace HS : Hp noFP w3 _ [.emp, .own (Zd.slice 3 (Zd.int .i64)) y6 [.slice B6 y6.length d6]] := HS))
 by_cases c10 : t8 = true
 · replace H := zpos c10 H
   subst c10
   (try simp only [decide_true, decide_false, Bool.not_true, Bool.not_false, if_true, Bool.false_eq_true, if_false])
   have zg3_b3_0_ := (HS.keepc zg3_b3_0)
   by_cases c11 : 0 + a0.length ≤ 17592186044416
   case neg => exact zno c11 H
   replace H := zpos c11 H
   replace c11 := eq_true c11
   replace H := zlets H; obtain ⟨y12, e_y12, H⟩ := H
   obtain ⟨rfl, rfl⟩ := zsome2 H
   go_wp2_with (first | ((with_reducible refine gate_dst (N := 18) rfl ?_); replace HS := HS.nil 3 (Zd.int .i64); refine ev_appendr rfl (Zd.int .i64) (flat_int _) 2 HS rfl (HS.ro gb3_0) rfl rfl rfl Try.underlying24 info3 rfl (by decide) (by decide) (by have := of_eq_true c11; first | omega | (simp only [List.length_cons, List.length_nil, List.length_append, Nat.zero_add] at this ⊢; omega)) ?_; clear HS; (try clear F); intro v12 w12 HS; rw [← e_y12.out] at HS; obtain ⟨B12, d12, rfl, m12⟩ := HS.form 3 rfl; replace HS : Hp noFP w3 _ [.emp, .own (Zd.slice 3 (Zd.int .i64)) y6 [.slice B6 y6.length d6], .emp, .own (Zd.slice 3 (Zd.int .i64)) y12 [.slice B12 y12.length d12]] := HS))
   have HS := HSb3.call HS
   exact bodyPost_ret (results_list (rs := [.tmp 6, .tmp 7]) rfl (by simp) (.tmp (.tmp .nil))) rfl ⟨_, rfl, HS.pick [4] (by decide) (by rfl)⟩
 · replace H := zneg c10 H
   replace c10 := eq_false_of_ne_true c10
   subst c10
   (try simp only [decide_true, decide_false, Bool.not_true, Bool.not_false, if_true, Bool.false_eq_true, if_false])
   by_cases c14 : a1 = true
   · replace H := zpos c14 H
     subst c14
     obtain ⟨rfl, rfl⟩ := zsome2 H
     go_wp2
     have HS := HSb3.call HS
     exact bodyPost_ret (results_list (rs := [.tmp 6, .tmp 7]) rfl (by simp) (.tmp (.tmp .nil))) rfl ⟨_, rfl, HS.pick [2] (by decide) (by rfl)⟩
   · replace H := zneg c14 H
     replace c14 := eq_false_of_ne_true c14
     subst c14
     replace H := zbind H; obtain ⟨t15, ht15, H⟩ := H
     obtain ⟨rfl, rfl⟩ := zsome2 H
     go_wp2_with (first | ((with_reducible refine gate_dst (N := 13) rfl ?_); refine HS.lend [1] (by decide) [.own (Zd.slice 3 (Zd.int .i64)) y6 [.slice B6 y6.length d6]] rfl (fun A' HL HA HB => ?_); refine ev_call rfl Try.func114 (by kernel_rfl) rfl #[.slice B6 y6.length d6, .func (.func 115) #[] #[.pointer (some ⟨g3, 0, none⟩)]] rfl (by simp only [List.map_toArray, List.map_cons, List.map_nil]; rfl) ?_; refine (slices_DeleteFunc_int_int_0.calls ht15.out gb3_0 lp0 zg3_b3_0 (HS.view HL) HA).mono ?_; rintro _ wt15 ⟨v16, rfl, HQ⟩; refine ⟨_, rfl, ?_⟩; replace HS : Hp noFP w3 _ [.emp, .own (Zd.slice 3 (Zd.int .i64)) t15 [v16]] := HB _ _ HQ (Nat.le_of_ble_eq_true rfl); clear HQ HA HB HL; (try clear F); obtain ⟨B16, d16, rfl, m16⟩ := HS.form 1 rfl; replace HS : Hp noFP w3 _ [.emp, .own (Zd.slice 3 (Zd.int .i64)) t15 [.slice B16 t15.length d16]] := HS))
     have HS := HSb3.call HS
     exact bodyPost_ret (results_list (rs := [.tmp 6, .tmp 7]) rfl (by simp) (.tmp (.tmp .nil))) rfl ⟨_, rfl, HS.pick [2] (by decide) (by rfl)⟩
/-! ### impl_StaysOf: function 13 -/
def impl_StaysOf.l0 : Nat → (List Int) → Bool → Int → (List S94) → Option ((List Int) × Bool)
  | 0, _, _, _, _ => none
  | k + 1, l29, x31, x32, a0 => (if x32 < (a0.length : Int) then (if 0 ≤ x32 then (if x32 < (a0.length : Int) then ((impl_JoinPolicies.f k l29 x31 ((rd_T94 a0 x32).f9)).bind fun t42 => (impl_StaysOf.l0 k t42.1 t42.2 (wrap64 (x32 + 1)) a0)) else none) else none) else (some (l29, x31)))
def impl_StaysOf.f (k : Nat) (a0 : (List S94)) : Option ((List Int) × Bool) := (impl_StaysOf.l0 k [] true 0 a0)
set_option maxHeartbeats 16000000 in
theorem impl_StaysOf.calls {k : Nat} {a0 : (List S94)} {Ap0 : Option Addr} {np0 cp0 : Nat} {r1 : (List Int)} {r2 : Bool} {w : World} (h : impl_StaysOf.f k a0 = some (r1, r2)) (gp0 : k94.C w Ap0 np0 a0) (lp0 : np0 ≤ cp0) :
    Calls Try.prog 13 #[.slice Ap0 np0 cp0] w (fun e w' => ∃ v0_ : Value, e = .returned (.tuple #[v0_, .bool r2]) ∧ Hp noFP w w' [.own (Zd.slice 3 (Zd.int .i64)) r1 [v0_]]) := by
 obtain rfl := C_len gp0
 have HS := Hp.start w
 have H := Aside0.mk h
 clear h
 unfold impl_StaysOf.f at H
 go_enter Try.func13, Try.ntmps13
 go_wp2
 replace HS := HS.nil 3 (Zd.int .i64)
 go_loopg [4, 5, 10] k (fun kq v_4 v_5 v_10 w' => ∃ (l29 : List Int) (v30 : Value) (x31 : Bool) (x32 : Int), v_4 = v30 ∧ v_5 = .bool x31 ∧ v_10 = .int .i64 x32 ∧ Aside0 (impl_StaysOf.l0 kq l29 x31 x32 a0 = some (r1, r2)) ∧ Aside0 (kq ≤ k) ∧ Hp noFP w w' [.own (Zd.slice 3 (Zd.int .i64)) l29 [v30]])
 case atStart => exact ⟨_, _, _, _, rfl, rfl, rfl, H, ⟨Nat.le_refl _⟩, HS⟩
 case round =>
  clear HS H; (try clear F)
  obtain ⟨l29, v30, x31, x32, rfl, rfl, rfl, H, HKk28, HS⟩ := hrel
  obtain ⟨B30, d30, rfl, m30⟩ := HS.form 0 rfl
  cases gk with
  | zero => exact absurd H.out (by simp [impl_StaysOf.l0])
  | succ k28 =>
   simp only [impl_StaysOf.l0] at H
   by_cases c34 : x32 < (a0.length : Int)
   · replace H := zpos c34 H
     replace c34 := eq_true c34
     by_cases c35 : 0 ≤ x32
     case neg => exact zno c35 H
     replace H := zpos c35 H
     replace c35 := eq_true c35
     by_cases c36 : x32 < (a0.length : Int)
     case neg => exact zno c36 H
     replace H := zpos c36 H
     replace c36 := eq_true c36
     obtain ⟨ad37, B37_9, d37_9, B37_10, d37_10, B37_11, d37_11, rfl, e37_0, e37_1, e37_2, e37_3, e37_4, e37_5, e37_6, e37_7, e37_8, e37_9, e37_10, e37_11, e37_12, m37_9, y37_9, m37_10, y37_10, m37_11, y37_11⟩ := at_T94 gp0 x32 (of_eq_true c35) (of_eq_true c36)
     have e37_0_37 := (HS.keepc e37_0)
     have e37_1_37 := (HS.keepc e37_1)
     have e37_2_37 := (HS.keepc e37_2)
     have e37_3_37 := (HS.keepc e37_3)
     have e37_4_37 := (HS.keepc e37_4)
     have e37_5_37 := (HS.keepc e37_5)
     have e37_6_37 := (HS.keepc e37_6)
     have e37_7_37 := (HS.keepc e37_7)
     have e37_8_37 := (HS.keepc e37_8)
     have e37_9_37 := (HS.keepc e37_9)
     have e37_10_37 := (HS.keepc e37_10)
     have e37_11_37 := (HS.keepc e37_11)
     have e37_12_37 := (HS.keepc e37_12)
     replace H := zbind H; obtain ⟨t42, ht42, H⟩ := H
     go_wp2_with (first | ((with_reducible refine gate_dst (N := 7) rfl ?_); refine ev_box rfl HS (by first | (go_simp; done) | (go_simp; rfl)) rfl ?_; clear HS; (try clear F); intro g7 w7 HS; replace HS : Hp noFP w _ [.own (Zd.slice 3 (Zd.int .i64)) l29 [.slice B30 l29.length d30], .box g7 [.int .i64 0, .string (⟨#[]⟩ : ByteArray), .string (⟨#[]⟩ : ByteArray), .int .i64 0, .int .i64 0, .string (⟨#[]⟩ : ByteArray), .bool false, .int .i64 0, .int .i64 0, .slice none 0 0, .slice none 0 0, .slice none 0 0, .string (⟨#[]⟩ : ByteArray)] 94] := HS; have F := HS.boxes; simp only [boxFacts, and_true] at F) | ((with_reducible refine gate_store (p := 7) rfl ?_); refine ev_store rfl 1 0 HS (seg := [.int .i64 ((rd_T94 a0 x32).f0), .string ((rd_T94 a0 x32).f1), .string ((rd_T94 a0 x32).f2), .int .i64 ((rd_T94 a0 x32).f3), .int .i64 ((rd_T94 a0 x32).f4), .string ((rd_T94 a0 x32).f5), .bool ((rd_T94 a0 x32).f6), .int .i64 ((rd_T94 a0 x32).f7), .int .i64 ((rd_T94 a0 x32).f8), .slice B37_9 (rd_T94 a0 x32).f9.length d37_9, .slice B37_10 (rd_T94 a0 x32).f10.length d37_10, .slice B37_11 (rd_T94 a0 x32).f11.length d37_11, .string ((rd_T94 a0 x32).f12)]) rfl rfl rfl rfl rfl rfl (by kernel_rfl) (by simp [wrt]) (by simp [Value.oneCell']) ?_; clear HS; (try clear F); intro w40 HS; replace HS : Hp noFP w _ [.own (Zd.slice 3 (Zd.int .i64)) l29 [.slice B30 l29.length d30], .box g7 [.int .i64 ((rd_T94 a0 x32).f0), .string ((rd_T94 a0 x32).f1), .string ((rd_T94 a0 x32).f2), .int .i64 ((rd_T94 a0 x32).f3), .int .i64 ((rd_T94 a0 x32).f4), .string ((rd_T94 a0 x32).f5), .bool ((rd_T94 a0 x32).f6), .int .i64 ((rd_T94 a0 x32).f7), .int .i64 ((rd_T94 a0 x32).f8), .slice B37_9 (rd_T94 a0 x32).f9.length d37_9, .slice B37_10 (rd_T94 a0 x32).f10.length d37_10, .slice B37_11 (rd_T94 a0 x32).f11.length d37_11, .string ((rd_T94 a0 x32).f12)] 94] := HS; have F := HS.boxes; simp only [boxFacts, and_true] at F) | ((with_reducible refine gate_dst (N := 19) rfl ?_); refine ev_call rfl Try.func53 (by kernel_rfl) rfl #[.slice B30 l29.length d30, .bool x31, .slice B37_9 (rd_T94 a0 x32).f9.length d37_9] rfl (by simp only [List.map_toArray, List.map_cons, List.map_nil]; rfl) ?_; refine (impl_JoinPolicies.calls ht42.out (HS.rd 0 rfl) m30 (HS.ro y37_9) m37_9).mono ?_; rintro _ wt42 ⟨v43, rfl, HQ⟩; refine ⟨_, rfl, ?_⟩; replace HS := HS.call HQ; clear HQ; (try clear F); obtain ⟨B43, d43, rfl, m43⟩ := HS.form 2 rfl; replace HS : Hp noFP w _ [.own (Zd.slice 3 (Zd.int .i64)) l29 [.slice B30 l29.length d30], .box g7 [.int .i64 ((rd_T94 a0 x32).f0), .string ((rd_T94 a0 x32).f1), .string ((rd_T94 a0 x32).f2), .int .i64 ((rd_T94 a0 x32).f3), .int .i64 ((rd_T94 a0 x32).f4), .string ((rd_T94 a0 x32).f5), .bool ((rd_T94 a0 x32).f6), .int .i64 ((rd_T94 a0 x32).f7), .int .i64 ((rd_T94 a0 x32).f8), .slice B37_9 (rd_T94 a0 x32).f9.length d37_9, .slice B37_10 (rd_T94 a0 x32).f10.length d37_10, .slice B37_11 (rd_T94 a0 x32).f11.length d37_11, .string ((rd_T94 a0 x32).f12)] 94, .own (Zd.slice 3 (Zd.int .i64)) t42.1 [.slice B43 t42.1.length d43]] := HS; have F := HS.boxes; simp only [boxFacts, and_true] at F))
     go_roundg k28
     case measure => have := HKk28.out; omega
     case rel => exact ⟨_, _, _, _, rfl, rfl, rfl, H, ⟨by have := HKk28.out; omega⟩, HS.pick [2] (by decide) (by rfl)⟩
   · replace H := zneg c34 H
     replace c34 := eq_false c34
     obtain ⟨rfl, rfl⟩ := zsome2 H
     go_wp2
     exact bodyPost_ret (results_list (rs := [.tmp 2, .tmp 3]) rfl (by simp) (.tmp (.tmp .nil))) rfl ⟨_, rfl, HS.pick [0] (by decide) (by rfl)⟩
end Go.Proofs.Ytdcjcanobiohnaa.F

/- Functions of the program and of the law, and that their calls do what is written here. -/
import Derived.Test.YtnpokacipeobdaaDoorZgFnExactShowReplya
namespace Go.Proofs.YtnpokacipeobdaaDoor.F
open Go.RowKit Go.Proofs.YtnpokacipeobdaaDoorW.PrintWords Go.Proofs.YtnpokacipeobdaaDoorW.PrintLast Go.Proofs.YtnpokacipeobdaaDoorW.PrintMore Go.Proofs.YtnpokacipeobdaaDoor.Z
attribute [local go_sem] max2_int min2_int max_two min_two max_three min_three max_four min_four
set_option linter.unusedVariables false
set_option linter.unusedSimpArgs false
set_option maxRecDepth 100000
/-! ### laws_szIntS: function 46 -/
def laws_szIntS.f (a0 : (List Int)) (a1 : Int) : Option (Int) := (if (wrap64 (a1 - (a0.length : Int))) < 0 then (some (-1)) else (some (wrap64 (a1 - (a0.length : Int)))))
set_option maxHeartbeats 16000000 in
theorem laws_szIntS.calls {a0 : (List Int)} {a1 : Int} {Ap0 : Option Addr} {np0 cp0 : Nat} {r : Int} {w : World} (h : laws_szIntS.f a0 a1 = some r) (gp0 : (Kd.int .i64).C w Ap0 np0 a0) (lp0 : np0 ≤ cp0) :
    Calls Tryd.prog 46 #[.slice Ap0 np0 cp0, .int .i64 a1] w (fun e w' => e = .returned (.int .i64 r) ∧ Hp noFP w w' []) := by
 obtain rfl := C_len gp0
 have HS := Hp.start w
 have H := Aside0.mk h
 clear h
 unfold laws_szIntS.f at H
 go_enter Tryd.func46, Tryd.ntmps46
 by_cases c1 : (wrap64 (a1 - (a0.length : Int))) < 0
 case pos =>
  replace H := zpos c1 H
  replace c1 := eq_true c1
  obtain rfl := zsome H
  go_wp2
  go_ret
  exact ⟨rfl, HS.pick [] (by decide) (by rfl)⟩
 replace H := zneg c1 H
 replace c1 := eq_false c1
 obtain rfl := zsome H
 go_wp2
 go_ret
 exact ⟨rfl, HS.pick [] (by decide) (by rfl)⟩
/-! ### laws_szWait: function 90 -/
def laws_szWait.f (a0 : S126) (a1 : Int) : Option (Int) := (if (wrap64 (a1 - (a0.f2.size : Int))) < 0 then (some (-1)) else (some (wrap64 (a1 - (a0.f2.size : Int)))))
set_option maxHeartbeats 16000000 in
theorem laws_szWait.calls {a0 : S126} {a1 : Int} {r : Int} {w : World} (h : laws_szWait.f a0 a1 = some r) :
    Calls Tryd.prog 90 #[.agg #[.int .i64 a0.f0, .int .i64 a0.f1, .string a0.f2, .int .i64 a0.f3], .int .i64 a1] w (fun e w' => e = .returned (.int .i64 r) ∧ Hp noFP w w' []) := by
 have HS := Hp.start w
 have H := Aside0.mk h
 clear h
 unfold laws_szWait.f at H
 go_enter Tryd.func90, Tryd.ntmps90
 go_upto_if 11 with (first | ((with_reducible refine gate_dst (N := 2) rfl ?_); refine ev_box rfl HS (by first | (go_simp; done) | (go_simp; rfl)) rfl ?_; clear HS; (try clear F); intro g2 w2 HS; (try simp only [hpn, hpm] at HS); have F := HS.boxes; simp only [bxn] at F))
 by_cases c3 : (wrap64 (a1 - (a0.f2.size : Int))) < 0
 case pos =>
  replace H := zpos c3 H
  replace c3 := eq_true c3
  (try simp only [c3, dcn])
  obtain rfl := zsome H
  go_wp2
  go_ret
  exact ⟨rfl, HS.pick [] (by decide) (by rfl)⟩
 replace H := zneg c3 H
 replace c3 := eq_false c3
 (try simp only [c3, dcn])
 obtain rfl := zsome H
 go_wp2
 go_ret
 exact ⟨rfl, HS.pick [] (by decide) (by rfl)⟩
/-! ### laws_szWaitS: function 63 -/
def laws_szWaitS.l0 : Nat → Int → Int → (List S126) → Option (Int)
  | 0, _, _, _ => none
  | k + 1, x12, x13, a0 => (if x13 < (a0.length : Int) then (if 0 ≤ x13 then (if x13 < (a0.length : Int) then ((laws_szWait.f (rd_T126 a0 x13) x12).bind fun t19 => (if t19 < 0 then (some (-1)) else (laws_szWaitS.l0 k t19 (wrap64 (x13 + 1)) a0))) else none) else none) else (some x12))
def laws_szWaitS.f (k : Nat) (a0 : (List S126)) (a1 : Int) : Option (Int) := (if (wrap64 (a1 - (a0.length : Int))) < 0 then (some (-1)) else (laws_szWaitS.l0 k (wrap64 (a1 - (a0.length : Int))) 0 a0))
set_option maxHeartbeats 16000000 in
theorem laws_szWaitS.calls {k : Nat} {a0 : (List S126)} {a1 : Int} {Ap0 : Option Addr} {np0 cp0 : Nat} {r : Int} {w : World} (h : laws_szWaitS.f k a0 a1 = some r) (gp0 : k126.C w Ap0 np0 a0) (lp0 : np0 ≤ cp0) :
    Calls Tryd.prog 63 #[.slice Ap0 np0 cp0, .int .i64 a1] w (fun e w' => e = .returned (.int .i64 r) ∧ Hp noFP w w' []) := by
 obtain rfl := C_len gp0
 have HS := Hp.start w
 have H := Aside0.mk h
 clear h
 unfold laws_szWaitS.f at H
 go_enter Tryd.func63, Tryd.ntmps63
 by_cases c1 : (wrap64 (a1 - (a0.length : Int))) < 0
 case pos =>
  replace H := zpos c1 H
  replace c1 := eq_true c1
  obtain rfl := zsome H
  go_wp2
  go_ret
  exact ⟨rfl, HS.pick [] (by decide) (by rfl)⟩
 replace H := zneg c1 H
 replace c1 := eq_false c1
 go_wp2
 go_loopg [1, 5] k (fun kq v_1 v_5 w' => ∃ (x12 : Int) (x13 : Int), v_1 = .int .i64 x12 ∧ v_5 = .int .i64 x13 ∧ Aside0 (laws_szWaitS.l0 kq x12 x13 a0 = some r) ∧ Aside0 (kq ≤ k) ∧ Hp noFP w w' [])
 case atStart => exact ⟨_, _, rfl, rfl, H, ⟨Nat.le_refl _⟩, HS⟩
 case round =>
  clear HS H; (try clear F)
  obtain ⟨x12, x13, rfl, rfl, H, HKk11, HS⟩ := hrel
  cases gk with
  | zero => exact absurd H.out (by simp [laws_szWaitS.l0])
  | succ k11 =>
   simp only [laws_szWaitS.l0] at H
   by_cases c15 : x13 < (a0.length : Int)
   case neg =>
    replace H := zneg c15 H
    replace c15 := eq_false c15
    obtain rfl := zsome H
    go_wp2
    go_ret
    exact ⟨rfl, HS.pick [] (by decide) (by rfl)⟩
   replace H := zpos c15 H
   replace c15 := eq_true c15
   by_cases c16 : 0 ≤ x13
   case neg => exact zno c16 H
   replace H := zpos c16 H
   replace c16 := eq_true c16
   by_cases c17 : x13 < (a0.length : Int)
   case neg => exact zno c17 H
   replace H := zpos c17 H
   replace c17 := eq_true c17
   obtain ⟨ad18, rfl, e18_0, e18_1, e18_2, e18_3⟩ := at_T126 gp0 x13 (of_eq_true c16) (of_eq_true c17)
   have e18_0_18 := (HS.keepc e18_0)
   have e18_1_18 := (HS.keepc e18_1)
   have e18_2_18 := (HS.keepc e18_2)
   have e18_3_18 := (HS.keepc e18_3)
   replace H := zbind H; obtain ⟨t19, ht19, H⟩ := H
   go_upto_if 25 with (first | ((with_reducible refine gate_dst (N := 23) rfl ?_); refine ev_call rfl Tryd.func90 (by kernel_rfl) rfl #[.agg #[.int .i64 ((rd_T126 a0 x13).f0), .int .i64 ((rd_T126 a0 x13).f1), .string ((rd_T126 a0 x13).f2), .int .i64 ((rd_T126 a0 x13).f3)], .int .i64 x12] rfl (by simp only [mpn]; rfl) ?_; refine (laws_szWait.calls ht19.out).mono ?_; rintro _ wt19 ⟨rfl, HQ⟩; refine ⟨_, rfl, ?_⟩; replace HS := HS.call HQ; clear HQ; (try clear F); (try simp only [hpn, hpm] at HS)))
   by_cases c21 : t19 < 0
   case pos =>
    replace H := zpos c21 H
    replace c21 := eq_true c21
    (try simp only [c21, dcn])
    obtain rfl := zsome H
    go_wp2
    go_ret
    exact ⟨rfl, HS.pick [] (by decide) (by rfl)⟩
   replace H := zneg c21 H
   replace c21 := eq_false c21
   (try simp only [c21, dcn])
   go_wp2
   go_roundg k11
   case measure => have := HKk11.out; omega
   case rel => exact ⟨_, _, rfl, rfl, H, ⟨by have := HKk11.out; omega⟩, HS.pick [] (by decide) (by rfl)⟩
/-! ### laws_szGot: function 91 -/
def laws_szGot.f (k : Nat) (a0 : S129) (a1 : Int) : Option (Int) := ((laws_szReply.f k a0.f1 a1).bind fun t3 => (if t3 < 0 then (some (-1)) else (some t3)))
set_option maxHeartbeats 16000000 in
theorem laws_szGot.calls {k : Nat} {a0 : S129} {a1 : Int} {Ap0 : Option Addr} {np0 cp0 : Nat} {r : Int} {w : World} (h : laws_szGot.f k a0 a1 = some r) (gp0 : k112.C w Ap0 np0 a0.f1.f6) (lp0 : np0 ≤ cp0) :
    Calls Tryd.prog 91 #[.agg #[.int .i64 a0.f0, .string a0.f1.f0, .int .i64 a0.f1.f1, .int .i64 a0.f1.f2, .int .i64 a0.f1.f3, .int .i64 a0.f1.f4, .int .i64 a0.f1.f5, .slice Ap0 np0 cp0, .string a0.f1.f7], .int .i64 a1] w (fun e w' => e = .returned (.int .i64 r) ∧ Hp noFP w w' []) := by
 obtain rfl := C_len gp0
 have HS := Hp.start w
 have H := Aside0.mk h
 clear h
 unfold laws_szGot.f at H
 go_enter Tryd.func91, Tryd.ntmps91
 replace H := zbind H; obtain ⟨t3, ht3, H⟩ := H
 go_upto_if 10 with (first | ((with_reducible refine gate_dst (N := 2) rfl ?_); refine ev_box rfl HS (by first | (go_simp; done) | (go_simp; rfl)) rfl ?_; clear HS; (try clear F); intro g2 w2 HS; (try simp only [hpn, hpm] at HS); have F := HS.boxes; simp only [bxn] at F) | ((with_reducible refine gate_dst (N := 8) rfl ?_); refine ev_call rfl Tryd.func13 (by kernel_rfl) rfl #[.agg #[.string a0.f1.f0, .int .i64 a0.f1.f1, .int .i64 a0.f1.f2, .int .i64 a0.f1.f3, .int .i64 a0.f1.f4, .int .i64 a0.f1.f5, .slice Ap0 a0.f1.f6.length cp0, .string a0.f1.f7], .int .i64 a1] rfl (by simp only [mpn]; rfl) ?_; refine (laws_szReply.calls ht3.out (HS.ro gp0) lp0).mono ?_; rintro _ wt3 ⟨rfl, HQ⟩; refine ⟨_, rfl, ?_⟩; replace HS := HS.call HQ; clear HQ; (try clear F); (try simp only [hpn, hpm] at HS); have F := HS.boxes; simp only [bxn] at F))
 by_cases c5 : t3 < 0
 case pos =>
  replace H := zpos c5 H
  replace c5 := eq_true c5
  (try simp only [c5, dcn])
  obtain rfl := zsome H
  go_wp2
  go_ret
  exact ⟨rfl, HS.pick [] (by decide) (by rfl)⟩
 replace H := zneg c5 H
 replace c5 := eq_false c5
 (try simp only [c5, dcn])
 obtain rfl := zsome H
 go_wp2
 go_ret
 exact ⟨rfl, HS.pick [] (by decide) (by rfl)⟩
/-! ### laws_szGotS: function 64 -/
def laws_szGotS.l0 : Nat → Int → Int → (List S129) → Option (Int)
  | 0, _, _, _ => none
  | k + 1, x12, x13, a0 => (if x13 < (a0.length : Int) then (if 0 ≤ x13 then (if x13 < (a0.length : Int) then ((laws_szGot.f k (rd_T129 a0 x13) x12).bind fun t19 => (if t19 < 0 then (some (-1)) else (laws_szGotS.l0 k t19 (wrap64 (x13 + 1)) a0))) else none) else none) else (some x12))
def laws_szGotS.f (k : Nat) (a0 : (List S129)) (a1 : Int) : Option (Int) := (if (wrap64 (a1 - (a0.length : Int))) < 0 then (some (-1)) else (laws_szGotS.l0 k (wrap64 (a1 - (a0.length : Int))) 0 a0))
set_option maxHeartbeats 16000000 in
theorem laws_szGotS.calls {k : Nat} {a0 : (List S129)} {a1 : Int} {Ap0 : Option Addr} {np0 cp0 : Nat} {r : Int} {w : World} (h : laws_szGotS.f k a0 a1 = some r) (gp0 : k129.C w Ap0 np0 a0) (lp0 : np0 ≤ cp0) :
    Calls Tryd.prog 64 #[.slice Ap0 np0 cp0, .int .i64 a1] w (fun e w' => e = .returned (.int .i64 r) ∧ Hp noFP w w' []) := by
 obtain rfl := C_len gp0
 have HS := Hp.start w
 have H := Aside0.mk h
 clear h
 unfold laws_szGotS.f at H
 go_enter Tryd.func64, Tryd.ntmps64
 by_cases c1 : (wrap64 (a1 - (a0.length : Int))) < 0
 case pos =>
  replace H := zpos c1 H
  replace c1 := eq_true c1
  obtain rfl := zsome H
  go_wp2
  go_ret
  exact ⟨rfl, HS.pick [] (by decide) (by rfl)⟩
 replace H := zneg c1 H
 replace c1 := eq_false c1
 go_wp2
 go_loopg [1, 5] k (fun kq v_1 v_5 w' => ∃ (x12 : Int) (x13 : Int), v_1 = .int .i64 x12 ∧ v_5 = .int .i64 x13 ∧ Aside0 (laws_szGotS.l0 kq x12 x13 a0 = some r) ∧ Aside0 (kq ≤ k) ∧ Hp noFP w w' [])
 case atStart => exact ⟨_, _, rfl, rfl, H, ⟨Nat.le_refl _⟩, HS⟩
 case round =>
  clear HS H; (try clear F)
  obtain ⟨x12, x13, rfl, rfl, H, HKk11, HS⟩ := hrel
  cases gk with
  | zero => exact absurd H.out (by simp [laws_szGotS.l0])
  | succ k11 =>
   simp only [laws_szGotS.l0] at H
   by_cases c15 : x13 < (a0.length : Int)
   case neg =>
    replace H := zneg c15 H
    replace c15 := eq_false c15
    obtain rfl := zsome H
    go_wp2
    go_ret
    exact ⟨rfl, HS.pick [] (by decide) (by rfl)⟩
   replace H := zpos c15 H
   replace c15 := eq_true c15
   by_cases c16 : 0 ≤ x13
   case neg => exact zno c16 H
   replace H := zpos c16 H
   replace c16 := eq_true c16
   by_cases c17 : x13 < (a0.length : Int)
   case neg => exact zno c17 H
   replace H := zpos c17 H
   replace c17 := eq_true c17
   obtain ⟨ad18, B18_7, d18_7, rfl, e18_0, e18_1, e18_2, e18_3, e18_4, e18_5, e18_6, e18_7, e18_8, m18_7, y18_7⟩ := at_T129 gp0 x13 (of_eq_true c16) (of_eq_true c17)
   have e18_0_18 := (HS.keepc e18_0)
   have e18_1_18 := (HS.keepc e18_1)
   have e18_2_18 := (HS.keepc e18_2)
   have e18_3_18 := (HS.keepc e18_3)
   have e18_4_18 := (HS.keepc e18_4)
   have e18_5_18 := (HS.keepc e18_5)
   have e18_6_18 := (HS.keepc e18_6)
   have e18_7_18 := (HS.keepc e18_7)
   have e18_8_18 := (HS.keepc e18_8)
   replace H := zbind H; obtain ⟨t19, ht19, H⟩ := H
   go_upto_if 25 with (first | ((with_reducible refine gate_dst (N := 23) rfl ?_); refine ev_call rfl Tryd.func91 (by kernel_rfl) rfl #[.agg #[.int .i64 ((rd_T129 a0 x13).f0), .string ((rd_T129 a0 x13).f1.f0), .int .i64 ((rd_T129 a0 x13).f1.f1), .int .i64 ((rd_T129 a0 x13).f1.f2), .int .i64 ((rd_T129 a0 x13).f1.f3), .int .i64 ((rd_T129 a0 x13).f1.f4), .int .i64 ((rd_T129 a0 x13).f1.f5), .slice B18_7 (rd_T129 a0 x13).f1.f6.length d18_7, .string ((rd_T129 a0 x13).f1.f7)], .int .i64 x12] rfl (by simp only [mpn]; rfl) ?_; refine (laws_szGot.calls ht19.out (HS.ro y18_7) m18_7).mono ?_; rintro _ wt19 ⟨rfl, HQ⟩; refine ⟨_, rfl, ?_⟩; replace HS := HS.call HQ; clear HQ; (try clear F); (try simp only [hpn, hpm] at HS)))
   by_cases c21 : t19 < 0
   case pos =>
    replace H := zpos c21 H
    replace c21 := eq_true c21
    (try simp only [c21, dcn])
    obtain rfl := zsome H
    go_wp2
    go_ret
    exact ⟨rfl, HS.pick [] (by decide) (by rfl)⟩
   replace H := zneg c21 H
   replace c21 := eq_false c21
   (try simp only [c21, dcn])
   go_wp2
   go_roundg k11
   case measure => have := HKk11.out; omega
   case rel => exact ⟨_, _, rfl, rfl, H, ⟨by have := HKk11.out; omega⟩, HS.pick [] (by decide) (by rfl)⟩
/-! ### laws_szClient: function 25 -/
def laws_szClient.f (k : Nat) (a0 : S59) (a1 : Int) : Option (Int) := (if (wrap64 (a1 - (a0.f0.size : Int))) < 0 then (some (-1)) else ((laws_szWaitS.f k a0.f2 (wrap64 (a1 - (a0.f0.size : Int)))).bind fun t4 => (if t4 < 0 then (some (-1)) else ((laws_szGotS.f k a0.f3 t4).bind fun t7 => (if t7 < 0 then (some (-1)) else ((laws_szIntS.f a0.f4 t7).bind fun t10 => (if t10 < 0 then (some (-1)) else (some t10))))))))
set_option maxHeartbeats 16000000 in
theorem laws_szClient.calls {k : Nat} {a0 : S59} {a1 : Int} {Ap0 : Option Addr} {np0 cp0 : Nat} {Ap1 : Option Addr} {np1 cp1 : Nat} {Ap2 : Option Addr} {np2 cp2 : Nat} {r : Int} {w : World} (h : laws_szClient.f k a0 a1 = some r) (gp0 : k126.C w Ap0 np0 a0.f2) (lp0 : np0 ≤ cp0) (gp1 : k129.C w Ap1 np1 a0.f3) (lp1 : np1 ≤ cp1) (gp2 : (Kd.int .i64).C w Ap2 np2 a0.f4) (lp2 : np2 ≤ cp2) :
    Calls Tryd.prog 25 #[.agg #[.string a0.f0, .int .i64 a0.f1, .slice Ap0 np0 cp0, .slice Ap1 np1 cp1, .slice Ap2 np2 cp2], .int .i64 a1] w (fun e w' => e = .returned (.int .i64 r) ∧ Hp noFP w w' []) := by
 obtain rfl := C_len gp0
 obtain rfl := C_len gp1
 obtain rfl := C_len gp2
 have HS := Hp.start w
 have H := Aside0.mk h
 clear h
 unfold laws_szClient.f at H
 go_enter Tryd.func25, Tryd.ntmps25
 go_upto_if 11 with (first | ((with_reducible refine gate_dst (N := 2) rfl ?_); refine ev_box rfl HS (by first | (go_simp; done) | (go_simp; rfl)) rfl ?_; clear HS; (try clear F); intro g2 w2 HS; (try simp only [hpn, hpm] at HS); have F := HS.boxes; simp only [bxn] at F))
 by_cases c3 : (wrap64 (a1 - (a0.f0.size : Int))) < 0
 case pos =>
  replace H := zpos c3 H
  replace c3 := eq_true c3
  (try simp only [c3, dcn])
  obtain rfl := zsome H
  go_wp2
  go_ret
  exact ⟨rfl, HS.pick [] (by decide) (by rfl)⟩
 replace H := zneg c3 H
 replace c3 := eq_false c3
 (try simp only [c3, dcn])
 replace H := zbind H; obtain ⟨t4, ht4, H⟩ := H
 go_upto_if 17 with (first | ((with_reducible refine gate_dst (N := 15) rfl ?_); refine ev_call rfl Tryd.func63 (by kernel_rfl) rfl #[.slice Ap0 a0.f2.length cp0, .int .i64 (wrap64 (a1 - (a0.f0.size : Int)))] rfl (by simp only [mpn]; rfl) ?_; refine (laws_szWaitS.calls ht4.out (HS.ro gp0) lp0).mono ?_; rintro _ wt4 ⟨rfl, HQ⟩; refine ⟨_, rfl, ?_⟩; replace HS := HS.call HQ; clear HQ; (try clear F); (try simp only [hpn, hpm] at HS); have F := HS.boxes; simp only [bxn] at F))
 by_cases c6 : t4 < 0
 case pos =>
  replace H := zpos c6 H
  replace c6 := eq_true c6
  (try simp only [c6, dcn])
  obtain rfl := zsome H
  go_wp2
  go_ret
  exact ⟨rfl, HS.pick [] (by decide) (by rfl)⟩
 replace H := zneg c6 H
 replace c6 := eq_false c6
 (try simp only [c6, dcn])
 replace H := zbind H; obtain ⟨t7, ht7, H⟩ := H
 go_upto_if 23 with (first | ((with_reducible refine gate_dst (N := 21) rfl ?_); refine ev_call rfl Tryd.func64 (by kernel_rfl) rfl #[.slice Ap1 a0.f3.length cp1, .int .i64 t4] rfl (by simp only [mpn]; rfl) ?_; refine (laws_szGotS.calls ht7.out (HS.ro gp1) lp1).mono ?_; rintro _ wt7 ⟨rfl, HQ⟩; refine ⟨_, rfl, ?_⟩; replace HS := HS.call HQ; clear HQ; (try clear F); (try simp only [hpn, hpm] at HS); have F := HS.boxes; simp only [bxn] at F))
 by_cases c9 : t7 < 0
 case pos =>
  replace H := zpos c9 H
  replace c9 := eq_true c9
  (try simp only [c9, dcn])
  obtain rfl := zsome H
  go_wp2
  go_ret
  exact ⟨rfl, HS.pick [] (by decide) (by rfl)⟩
 replace H := zneg c9 H
 replace c9 := eq_false c9
 (try simp only [c9, dcn])
 replace H := zbind H; obtain ⟨t10, ht10, H⟩ := H
 go_upto_if 29 with (first | ((with_reducible refine gate_dst (N := 27) rfl ?_); refine ev_call rfl Tryd.func46 (by kernel_rfl) rfl #[.slice Ap2 a0.f4.length cp2, .int .i64 t7] rfl (by simp only [mpn]; rfl) ?_; refine (laws_szIntS.calls ht10.out (HS.ro gp2) lp2).mono ?_; rintro _ wt10 ⟨rfl, HQ⟩; refine ⟨_, rfl, ?_⟩; replace HS := HS.call HQ; clear HQ; (try clear F); (try simp only [hpn, hpm] at HS); have F := HS.boxes; simp only [bxn] at F))
 by_cases c12 : t10 < 0
 case pos =>
  replace H := zpos c12 H
  replace c12 := eq_true c12
  (try simp only [c12, dcn])
  obtain rfl := zsome H
  go_wp2
  go_ret
  exact ⟨rfl, HS.pick [] (by decide) (by rfl)⟩
 replace H := zneg c12 H
 replace c12 := eq_false c12
 (try simp only [c12, dcn])
 obtain rfl := zsome H
 go_wp2
 go_ret
 exact ⟨rfl, HS.pick [] (by decide) (by rfl)⟩
/-! ### spec_ShowClient: function 26 -/
def spec_ShowClient.l0 : Nat → ByteArray → Int → S65 → Option (ByteArray)
  | 0, _, _, _ => none
  | k + 1, x13, x14, a0 => (if x14 < (a0.f3.length : Int) then (if 0 ≤ x14 then (if x14 < (a0.f3.length : Int) then ((spec_ShowReply.f k (⟨(rd_T101 a0.f3 x14).f1.f0, (rd_T101 a0.f3 x14).f1.f1, (rd_T101 a0.f3 x14).f1.f2, (rd_T101 a0.f3 x14).f1.f3, (rd_T101 a0.f3 x14).f1.f4, (rd_T101 a0.f3 x14).f1.f5, (rd_T101 a0.f3 x14).f1.f6, (rd_T101 a0.f3 x14).f1.f7⟩ : S40)).bind fun t20 => (if x13.size + t20.size ≤ 9223372036854775807 then (spec_ShowClient.l0 k (x13 ++ t20) (wrap64 (x14 + 1)) a0) else none)) else none) else none) else (some x13))
def spec_ShowClient.f (k : Nat) (a0 : S65) : Option (ByteArray) := ((spec_Decimal.f k (a0.f2.length : Int)).bind fun t103001 => (if (⟨#[119, 97, 105, 116, 115, 32]⟩ : ByteArray).size + t103001.size ≤ 9223372036854775807 then (if ((⟨#[119, 97, 105, 116, 115, 32]⟩ : ByteArray) ++ t103001).size + (⟨#[32, 108, 97, 116, 101, 32]⟩ : ByteArray).size ≤ 9223372036854775807 then ((spec_Decimal.f k (a0.f4.length : Int)).bind fun t109001 => (if (((⟨#[119, 97, 105, 116, 115, 32]⟩ : ByteArray) ++ t103001) ++ (⟨#[32, 108, 97, 116, 101, 32]⟩ : ByteArray)).size + t109001.size ≤ 9223372036854775807 then (if ((((⟨#[119, 97, 105, 116, 115, 32]⟩ : ByteArray) ++ t103001) ++ (⟨#[32, 108, 97, 116, 101, 32]⟩ : ByteArray)) ++ t109001).size + (⟨#[10]⟩ : ByteArray).size ≤ 9223372036854775807 then (spec_ShowClient.l0 k (((((⟨#[119, 97, 105, 116, 115, 32]⟩ : ByteArray) ++ t103001) ++ (⟨#[32, 108, 97, 116, 101, 32]⟩ : ByteArray)) ++ t109001) ++ (⟨#[10]⟩ : ByteArray)) 0 a0) else none) else none)) else none) else none))
def spec_ShowClient.T1 : Bool × List (List Nat × List Nat) := (true, [([], []), ([0], [0]), ([1], [1]), ([2], [2]), ([3], [3]), ([4], [4]), ([], []), ([6], [6]), ([7], [7]), ([8, 3], [8]), ([5, 9], [5, 9]), ([10], [10]), ([11, 9, 0, 1, 2, 3, 4, 5, 6, 7, 8, 9, 10, 11], [11])])
theorem spec_ShowClient.tT1 : rtab .any (opsOf Tryd.f26 1) = spec_ShowClient.T1 := by kernel_rfl
set_option maxHeartbeats 16000000 in
theorem spec_ShowClient.calls {k : Nat} {a0 : S65} {Ap0 : Option Addr} {np0 cp0 : Nat} {Ap1 : Option Addr} {np1 cp1 : Nat} {Ap2 : Option Addr} {np2 cp2 : Nat} {r : ByteArray} {w : World} (h : spec_ShowClient.f k a0 = some r) (gp0 : k130.C w Ap0 np0 a0.f2) (lp0 : np0 ≤ cp0) (gp1 : k101.C w Ap1 np1 a0.f3) (lp1 : np1 ≤ cp1) (gp2 : (Kd.int .i64).C w Ap2 np2 a0.f4) (lp2 : np2 ≤ cp2) :
    Calls Tryd.prog 26 #[.agg #[.string a0.f0, .int .i64 a0.f1, .slice Ap0 np0 cp0, .slice Ap1 np1 cp1, .slice Ap2 np2 cp2]] w (fun e w' => e = .returned (.string r) ∧ Hp noFP w w' []) := by
 obtain rfl := C_len gp0
 obtain rfl := C_len gp1
 obtain rfl := C_len gp2
 have HS := Hp.start w
 have H := Aside0.mk h
 clear h
 unfold spec_ShowClient.f at H
 go_enter Tryd.func26, Tryd.ntmps26
 go_wp2_with (first | ((with_reducible refine gate_dst (N := 1) rfl ?_); refine ev_box rfl HS (by first | (go_simp; done) | (go_simp; rfl)) rfl ?_; clear HS; (try clear F); intro g1 w1 HS; (try simp only [hpn, hpm] at HS); have F := HS.boxes; simp only [bxn] at F))
 replace H := zbind H; obtain ⟨t103001, ht103001, H⟩ := H
 by_cases c104001 : (⟨#[119, 97, 105, 116, 115, 32]⟩ : ByteArray).size + t103001.size ≤ 9223372036854775807
 case neg => exact zno c104001 H
 replace H := zpos c104001 H
 replace c104001 := eq_true c104001
 by_cases c105001 : ((⟨#[119, 97, 105, 116, 115, 32]⟩ : ByteArray) ++ t103001).size + (⟨#[32, 108, 97, 116, 101, 32]⟩ : ByteArray).size ≤ 9223372036854775807
 case neg => exact zno c105001 H
 replace H := zpos c105001 H
 replace c105001 := eq_true c105001
 replace H := zbind H; obtain ⟨t109001, ht109001, H⟩ := H
 by_cases c110001 : (((⟨#[119, 97, 105, 116, 115, 32]⟩ : ByteArray) ++ t103001) ++ (⟨#[32, 108, 97, 116, 101, 32]⟩ : ByteArray)).size + t109001.size ≤ 9223372036854775807
 case neg => exact zno c110001 H
 replace H := zpos c110001 H
 replace c110001 := eq_true c110001
 by_cases c111001 : ((((⟨#[119, 97, 105, 116, 115, 32]⟩ : ByteArray) ++ t103001) ++ (⟨#[32, 108, 97, 116, 101, 32]⟩ : ByteArray)) ++ t109001).size + (⟨#[10]⟩ : ByteArray).size ≤ 9223372036854775807
 case neg => exact zno c111001 H
 replace H := zpos c111001 H
 replace c111001 := eq_true c111001
 refine dr_start [] HS #[false, false, false, false, false, false, false, false, false, false, false, false, false] (by kernel_rfl) rfl rfl spec_ShowClient.tT1 (fun w4 HT HS HH => ?_)
 (try clear F)
 refine drq_of [(0, some 5), (1, some 6), (2, some 7), (6, some 11), (7, some 12), (8, some 13)] ?_
 repeat (first | (refine drq_pure HT (v := ?_) (a' := ?_) rfl rfl (by kernel_rfl) (fun _ _ _ h => h) (.inl ⟨by rfl, ?_⟩) ?_ ?_; rotate_left; (intro w'; go_simp; with_reducible rfl); rotate_left; (simp only [Act.put, ptn]; rfl)) | (refine drq_take HT HH (v := ?_) (a' := ?_) rfl rfl (by kernel_rfl) (fun _ _ _ h => h) (.inl ⟨by rfl, ?_⟩) ?_ ?_; rotate_left; (rintro w' ⟨rs', HS'⟩; have F := HS'.boxes; simp only [bxn, List.cons_append, List.nil_append] at F; go_simp; with_reducible rfl); rotate_left; (simp only [Act.put, ptn]; rfl)))
 refine drq_end ?_
 refine dr_one 3 HT rfl (by kernel_rfl) (by decide) (fun K hK => ?_)
 refine goes_ Tryd.func41 (by kernel_rfl) rfl #[.int .i64 (a0.f2.length : Int)] (by rfl) rfl rfl (by simp only [mpn]; rfl) ?_; refine (spec_Decimal.calls ht103001.out).mono ?_; rintro _ wt103001 ⟨rfl, HQ⟩; refine ⟨_, rfl, ?_⟩; replace HS := HS.call HQ; clear HQ; (try clear F)
 (try simp only [hpn, hpm] at HS)
 have F := HS.boxes; simp only [bxn] at F
 refine hK.out _ _ ⟨_, HS⟩ (fun HH => ?_)
 clear hK K
 refine norm_ (a' := ?_) ?_ ?_
 rotate_left
 · show Act.put _ (some 8) _ = _; simp only [Act.put, ptn]; rfl
 refine dr_pure 4 (some 9) HT (v := .string ((⟨#[119, 97, 105, 116, 115, 32]⟩ : ByteArray) ++ t103001)) (a' := ?_) rfl rfl (by kernel_rfl) (fun _ _ _ h => h) (.inl ⟨by rfl, fun w' => (run_cat rfl rfl rfl (of_eq_true c104001))⟩) ?_ ?_
 rotate_left
 · simp only [Act.put, ptn]; rfl
 refine dr_pure 5 (some 10) HT (v := .string (((⟨#[119, 97, 105, 116, 115, 32]⟩ : ByteArray) ++ t103001) ++ (⟨#[32, 108, 97, 116, 101, 32]⟩ : ByteArray))) (a' := ?_) rfl rfl (by kernel_rfl) (fun _ _ _ h => h) (.inl ⟨by rfl, fun w' => (run_cat rfl rfl rfl (of_eq_true c105001))⟩) ?_ ?_
 rotate_left
 · simp only [Act.put, ptn]; rfl
 refine dr_one 9 HT rfl (by kernel_rfl) (by decide) (fun K hK => ?_)
 refine goes_ Tryd.func41 (by kernel_rfl) rfl #[.int .i64 (a0.f4.length : Int)] (by rfl) rfl rfl (by simp only [mpn]; rfl) ?_; refine (spec_Decimal.calls ht109001.out).mono ?_; rintro _ wt109001 ⟨rfl, HQ⟩; refine ⟨_, rfl, ?_⟩; replace HS := HS.call HQ; clear HQ; (try clear F)
 (try simp only [hpn, hpm] at HS)
 have F := HS.boxes; simp only [bxn] at F
 refine hK.out _ _ ⟨_, HS⟩ (fun HH => ?_)
 clear hK K
 refine norm_ (a' := ?_) ?_ ?_
 rotate_left
 · show Act.put _ (some 14) _ = _; simp only [Act.put, ptn]; rfl
 refine dr_pure 10 (some 15) HT (v := .string ((((⟨#[119, 97, 105, 116, 115, 32]⟩ : ByteArray) ++ t103001) ++ (⟨#[32, 108, 97, 116, 101, 32]⟩ : ByteArray)) ++ t109001)) (a' := ?_) rfl rfl (by kernel_rfl) (fun _ _ _ h => h) (.inl ⟨by rfl, fun w' => (run_cat rfl rfl rfl (of_eq_true c110001))⟩) ?_ ?_
 rotate_left
 · simp only [Act.put, ptn]; rfl
 refine dr_pure 11 (some 16) HT (v := .string (((((⟨#[119, 97, 105, 116, 115, 32]⟩ : ByteArray) ++ t103001) ++ (⟨#[32, 108, 97, 116, 101, 32]⟩ : ByteArray)) ++ t109001) ++ (⟨#[10]⟩ : ByteArray))) (a' := ?_) rfl rfl (by kernel_rfl) (fun _ _ _ h => h) (.inl ⟨by rfl, fun w' => (run_cat rfl rfl rfl (of_eq_true c111001))⟩) ?_ ?_
 rotate_left
 · simp only [Act.put, ptn]; rfl
 refine drq_of [(12, some 3)] ?_
 repeat (first | (refine drq_pure HT (v := ?_) (a' := ?_) rfl rfl (by kernel_rfl) (fun _ _ _ h => h) (.inl ⟨by rfl, ?_⟩) ?_ ?_; rotate_left; (intro w'; go_simp; with_reducible rfl); rotate_left; (simp only [Act.put, ptn]; rfl)))
 refine drq_end ?_
 refine done_ (done_of HT.out (by kernel_rfl)) ?_
 (try clear F)
 have F := HS.boxes; simp only [bxn] at F
 go_wp2
 go_loopg [3, 4] k (fun kq v_3 v_4 w' => ∃ (x13 : ByteArray) (x14 : Int), v_3 = .string x13 ∧ v_4 = .int .i64 x14 ∧ Aside0 (spec_ShowClient.l0 kq x13 x14 a0 = some r) ∧ Aside0 (kq ≤ k) ∧ Hp noFP w w' [.box g1 [.string a0.f0, .int .i64 a0.f1, .slice Ap0 a0.f2.length cp0, .slice Ap1 a0.f3.length cp1, .slice Ap2 a0.f4.length cp2] 65])
 case atStart => exact ⟨_, _, rfl, rfl, H, ⟨Nat.le_refl _⟩, HS⟩
 case round =>
  clear HS H; (try clear F)
  obtain ⟨x13, x14, rfl, rfl, H, HKk12, HS⟩ := hrel
  have F := HS.boxes; simp only [bxn] at F
  cases gk with
  | zero => exact absurd H.out (by simp [spec_ShowClient.l0])
  | succ k12 =>
   simp only [spec_ShowClient.l0] at H
   by_cases c16 : x14 < (a0.f3.length : Int)
   case neg =>
    replace H := zneg c16 H
    replace c16 := eq_false c16
    obtain rfl := zsome H
    go_wp2
    go_ret
    exact ⟨rfl, HS.pick [] (by decide) (by rfl)⟩
   replace H := zpos c16 H
   replace c16 := eq_true c16
   by_cases c17 : 0 ≤ x14
   case neg => exact zno c17 H
   replace H := zpos c17 H
   replace c17 := eq_true c17
   by_cases c18 : x14 < (a0.f3.length : Int)
   case neg => exact zno c18 H
   replace H := zpos c18 H
   replace c18 := eq_true c18
   obtain ⟨ad19, B19_7, d19_7, rfl, e19_0, e19_1, e19_2, e19_3, e19_4, e19_5, e19_6, e19_7, e19_8, m19_7, y19_7⟩ := at_T101 gp1 x14 (of_eq_true c17) (of_eq_true c18)
   have e19_0_19 := (HS.keepc e19_0)
   have e19_1_19 := (HS.keepc e19_1)
   have e19_2_19 := (HS.keepc e19_2)
   have e19_3_19 := (HS.keepc e19_3)
   have e19_4_19 := (HS.keepc e19_4)
   have e19_5_19 := (HS.keepc e19_5)
   have e19_6_19 := (HS.keepc e19_6)
   have e19_7_19 := (HS.keepc e19_7)
   have e19_8_19 := (HS.keepc e19_8)
   replace H := zbind H; obtain ⟨t20, ht20, H⟩ := H
   by_cases c22 : x13.size + t20.size ≤ 9223372036854775807
   case neg => exact zno c22 H
   replace H := zpos c22 H
   replace c22 := eq_true c22
   go_wp2_with (first | ((with_reducible refine gate_dst (N := 31) rfl ?_); refine ev_call rfl Tryd.func14 (by kernel_rfl) rfl #[.agg #[.string ((rd_T101 a0.f3 x14).f1.f0), .int .i64 ((rd_T101 a0.f3 x14).f1.f1), .int .i64 ((rd_T101 a0.f3 x14).f1.f2), .int .i64 ((rd_T101 a0.f3 x14).f1.f3), .int .i64 ((rd_T101 a0.f3 x14).f1.f4), .int .i64 ((rd_T101 a0.f3 x14).f1.f5), .slice B19_7 (rd_T101 a0.f3 x14).f1.f6.length d19_7, .string ((rd_T101 a0.f3 x14).f1.f7)]] rfl (by simp only [mpn]; rfl) ?_; refine (spec_ShowReply.calls ht20.out (HS.ro y19_7) m19_7).mono ?_; rintro _ wt20 ⟨rfl, HQ⟩; refine ⟨_, rfl, ?_⟩; replace HS := HS.call HQ; clear HQ; (try clear F); (try simp only [hpn, hpm] at HS); have F := HS.boxes; simp only [bxn] at F) | ((with_reducible refine gate_dst (N := 32) rfl ?_); refine ev_val rfl (run_cat rfl rfl rfl (of_eq_true c22)) ?_))
   go_roundg k12
   case measure => have := HKk12.out; omega
   case rel => exact ⟨_, _, rfl, rfl, H, ⟨by have := HKk12.out; omega⟩, HS.pick [0] (by decide) (by rfl)⟩
/-! ### laws_toIntS: function 50 -/
def laws_toIntS.l0 : Nat → (List Int) → Int → (List Int) → Option ((List Int))
  | 0, _, _, _ => none
  | k + 1, l18, x20, a0 => (if x20 < (a0.length : Int) then (if 0 ≤ x20 then (if x20 < (a0.length : Int) then (laws_toIntS.l0 k (l18.set (x20).toNat (rd a0 x20)) (wrap64 (x20 + 1)) a0) else none) else none) else (some l18))
def laws_toIntS.f (k : Nat) (a0 : (List Int)) : Option ((List Int)) := (if 0 ≤ (a0.length : Int) then (if ((a0.length : Int)).toNat ≤ 35184372088832 then (laws_toIntS.l0 k (List.replicate a0.length (0 : Int)) 0 a0) else none) else none)
set_option maxHeartbeats 16000000 in
theorem laws_toIntS.calls {k : Nat} {a0 : (List Int)} {Ap0 : Option Addr} {np0 cp0 : Nat} {r : (List Int)} {w : World} (h : laws_toIntS.f k a0 = some r) (gp0 : (Kd.int .i64).C w Ap0 np0 a0) (lp0 : np0 ≤ cp0) :
    Calls Tryd.prog 50 #[.slice Ap0 np0 cp0] w (fun e w' => ∃ v0_ : Value, e = .returned (v0_) ∧ Hp noFP w w' [.own (Zd.slice 3 (Zd.int .i64)) r [v0_]]) := by
 obtain rfl := C_len gp0
 have HS := Hp.start w
 have H := Aside0.mk h
 clear h
 unfold laws_toIntS.f at H
 go_enter Tryd.func50, Tryd.ntmps50
 by_cases c1 : 0 ≤ (a0.length : Int)
 case neg => exact zno c1 H
 replace H := zpos c1 H
 replace c1 := eq_true c1
 by_cases c2 : ((a0.length : Int)).toNat ≤ 35184372088832
 case neg => exact zno c2 H
 replace H := zpos c2 H
 replace c2 := eq_true c2
 go_wp2_with (first | ((with_reducible refine gate_dst (N := 7) rfl ?_); refine ev_make rfl (Zd.int .i64) (0 : Int) HS rfl (a0.length : Int) rfl rfl Tryd.underlying44 info3 rfl (by decide) (by decide) (fun _ _ => rfl) (of_eq_true c1) (by have := of_eq_true c2; omega) ?_; clear HS; (try clear F); intro v3 w3 HS; obtain ⟨B3, d3, rfl, m3⟩ := HS.formn a0.length 0 rfl (by first | rfl | simp); (try simp only [hpn, hpm] at HS)))
 go_loopg [4] k (fun kq v_4 w' => ∃ (l18 : List Int) (x20 : Int), v_4 = .int .i64 x20 ∧ Aside0 (laws_toIntS.l0 kq l18 x20 a0 = some r) ∧ Aside0 (kq ≤ k) ∧ Hp noFP w w' [.own (Zd.slice 3 (Zd.int .i64)) l18 [.slice B3 a0.length d3]])
 case atStart => exact ⟨_, _, rfl, H, ⟨Nat.le_refl _⟩, HS⟩
 case round =>
  clear HS H; (try clear F)
  obtain ⟨l18, x20, rfl, H, HKk17, HS⟩ := hrel
  cases gk with
  | zero => exact absurd H.out (by simp [laws_toIntS.l0])
  | succ k17 =>
   simp only [laws_toIntS.l0] at H
   by_cases c22 : x20 < (a0.length : Int)
   case neg =>
    replace H := zneg c22 H
    replace c22 := eq_false c22
    obtain rfl := zsome H
    go_wp2
    exact bodyPost_ret (results_single rfl (.tmp .nil)) rfl ⟨_, rfl, HS.pick [0] (by decide) (by rfl)⟩
   replace H := zpos c22 H
   replace c22 := eq_true c22
   by_cases c23 : 0 ≤ x20
   case neg => exact zno c23 H
   replace H := zpos c23 H
   replace c23 := eq_true c23
   by_cases c24 : x20 < (a0.length : Int)
   case neg => exact zno c24 H
   replace H := zpos c24 H
   replace c24 := eq_true c24
   obtain ⟨ad25, rfl, e25_0⟩ := Kd.at_int gp0 x20 (of_eq_true c23) (of_eq_true c24)
   have e25_0_25 := (HS.keepc e25_0)
   obtain ⟨ad26, rfl, e26_0⟩ := Kd.at_int (HS.rd 0 rfl) x20 (of_eq_true c23) (of_eq_true c24)
   go_wp2_with (first | ((with_reducible refine gate_store (p := 20) rfl ?_); refine ev_set rfl (Zd.int .i64) 0 [] x20 (rd a0 x20) HS (seg := [.int .i64 (rd a0 x20)]) rfl (by decide) rfl rfl rfl (by first | rfl | exact (Nat.mul_one _).symm) rfl rfl (by kernel_rfl) (by simp [Value.oneCell']) ⟨of_eq_true c23, of_eq_true c24⟩ rfl (made_flat (fun _ => rfl)) ?_; clear HS; (try clear F); intro w27 HS; (try simp only [hpn, hpm] at HS)))
   go_roundg k17
   case measure => have := HKk17.out; omega
   case rel => exact ⟨_, _, rfl, H, ⟨by have := HKk17.out; omega⟩, HS.pick [0] (by decide) (by rfl)⟩
/-! ### laws_toWait: function 92 -/
def laws_toWait.f (a0 : S126) : Option (S130) := (some (⟨a0.f0, a0.f1, a0.f2, a0.f3⟩ : S130))
set_option maxHeartbeats 16000000 in
theorem laws_toWait.calls {a0 : S126} {r : S130} {w : World} (h : laws_toWait.f a0 = some r) :
    Calls Tryd.prog 92 #[.agg #[.int .i64 a0.f0, .int .i64 a0.f1, .string a0.f2, .int .i64 a0.f3]] w (fun e w' => e = .returned (.agg #[.int .i64 r.f0, .int .i64 r.f1, .string r.f2, .int .i64 r.f3]) ∧ Hp noFP w w' []) := by
 have HS := Hp.start w
 have H := Aside0.mk h
 clear h
 unfold laws_toWait.f at H
 go_enter Tryd.func92, Tryd.ntmps92
 obtain rfl := zsome H
 go_wp2_with (first | ((with_reducible refine gate_dst (N := 1) rfl ?_); refine ev_box rfl HS (by first | (go_simp; done) | (go_simp; rfl)) rfl ?_; clear HS; (try clear F); intro g1 w1 HS; (try simp only [hpn, hpm] at HS); have F := HS.boxes; simp only [bxn] at F) | ((with_reducible refine gate_dst (N := 2) rfl ?_); refine ev_box rfl HS (by first | (go_simp; done) | (go_simp; rfl)) rfl ?_; clear HS; (try clear F); intro g2 w2 HS; (try simp only [hpn, hpm] at HS); have F := HS.boxes; simp only [bxn] at F) | ((with_reducible refine gate_dst (N := 3) rfl ?_); refine ev_box rfl HS (by first | (go_simp; done) | (go_simp; rfl)) rfl ?_; clear HS; (try clear F); intro g3 w3 HS; (try simp only [hpn, hpm] at HS); have F := HS.boxes; simp only [bxn] at F) | ((with_reducible refine gate_store (p := 6) rfl ?_); refine ev_store rfl 2 0 HS (seg := [.int .i64 a0.f0]) rfl rfl rfl rfl rfl rfl (by kernel_rfl) (by simp [wrt]) (by simp [Value.oneCell']) ?_; clear HS; (try clear F); intro w7 HS; (try simp only [hpn, hpm] at HS); have F := HS.boxes; simp only [bxn] at F) | ((with_reducible refine gate_store (p := 9) rfl ?_); refine ev_store rfl 2 1 HS (seg := [.int .i64 a0.f1]) rfl rfl rfl rfl rfl rfl (by kernel_rfl) (by simp [wrt]) (by simp [Value.oneCell']) ?_; clear HS; (try clear F); intro w9 HS; (try simp only [hpn, hpm] at HS); have F := HS.boxes; simp only [bxn] at F) | ((with_reducible refine gate_store (p := 12) rfl ?_); refine ev_store rfl 2 2 HS (seg := [.string a0.f2]) rfl rfl rfl rfl rfl rfl (by kernel_rfl) (by simp [wrt]) (by simp [Value.oneCell']) ?_; clear HS; (try clear F); intro w11 HS; (try simp only [hpn, hpm] at HS); have F := HS.boxes; simp only [bxn] at F) | ((with_reducible refine gate_store (p := 15) rfl ?_); refine ev_store rfl 2 3 HS (seg := [.int .i64 a0.f3]) rfl rfl rfl rfl rfl rfl (by kernel_rfl) (by simp [wrt]) (by simp [Value.oneCell']) ?_; clear HS; (try clear F); intro w13 HS; (try simp only [hpn, hpm] at HS); have F := HS.boxes; simp only [bxn] at F) | ((with_reducible refine gate_store (p := 2) rfl ?_); refine ev_store rfl 1 0 HS (seg := [.int .i64 a0.f0, .int .i64 a0.f1, .string a0.f2, .int .i64 a0.f3]) rfl rfl rfl rfl rfl rfl (by kernel_rfl) (by simp [wrt]) (by simp [Value.oneCell']) ?_; clear HS; (try clear F); intro w15 HS; (try simp only [hpn, hpm] at HS); have F := HS.boxes; simp only [bxn] at F))
 exact bodyPost_ret (results_single rfl (.cell _ _ _ _ _ rfl (HS.boxAt (i := 1) rfl) Tryd.underlying130 rfl (by kernel_rfl) .nil)) rfl ⟨rfl, HS.pick [] (by decide) (by rfl)⟩
/-! ### laws_toWaitS: function 65 -/
def laws_toWaitS.l0 : Nat → (List S130) → Int → (List S126) → Option ((List S130))
  | 0, _, _, _ => none
  | k + 1, l20, x22, a0 => (if x22 < (a0.length : Int) then (if 0 ≤ x22 then (if x22 < (a0.length : Int) then ((laws_toWait.f (rd_T126 a0 x22)).bind fun t28 => (laws_toWaitS.l0 k (l20.set (x22).toNat t28) (wrap64 (x22 + 1)) a0)) else none) else none) else (some l20))
def laws_toWaitS.f (k : Nat) (a0 : (List S126)) : Option ((List S130)) := (if 0 ≤ (a0.length : Int) then (if ((a0.length : Int)).toNat ≤ 7036874417766 then (laws_toWaitS.l0 k (List.replicate a0.length z130) 0 a0) else none) else none)
set_option maxHeartbeats 16000000 in
theorem laws_toWaitS.calls {k : Nat} {a0 : (List S126)} {Ap0 : Option Addr} {np0 cp0 : Nat} {r : (List S130)} {w : World} (h : laws_toWaitS.f k a0 = some r) (gp0 : k126.C w Ap0 np0 a0) (lp0 : np0 ≤ cp0) :
    Calls Tryd.prog 65 #[.slice Ap0 np0 cp0] w (fun e w' => ∃ v0_ : Value, e = .returned (v0_) ∧ Hp noFP w w' [.own (Zd.slice 130 q130) r [v0_]]) := by
 obtain rfl := C_len gp0
 have HS := Hp.start w
 have H := Aside0.mk h
 clear h
 unfold laws_toWaitS.f at H
 go_enter Tryd.func65, Tryd.ntmps65
 by_cases c1 : 0 ≤ (a0.length : Int)
 case neg => exact zno c1 H
 replace H := zpos c1 H
 replace c1 := eq_true c1
 by_cases c2 : ((a0.length : Int)).toNat ≤ 7036874417766
 case neg => exact zno c2 H
 replace H := zpos c2 H
 replace c2 := eq_true c2
 go_wp2_with (first | ((with_reducible refine gate_dst (N := 7) rfl ?_); refine ev_make rfl q130 z130 HS rfl (a0.length : Int) rfl rfl Tryd.underlying62 info130 rfl (by decide) (by decide) q130_zero (of_eq_true c1) (by have := of_eq_true c2; omega) ?_; clear HS; (try clear F); intro v3 w3 HS; obtain ⟨B3, d3, rfl, m3⟩ := HS.formn a0.length 0 rfl (by first | rfl | simp); (try simp only [hpn, hpm] at HS)))
 go_loopg [4] k (fun kq v_4 w' => ∃ (l20 : List S130) (x22 : Int), v_4 = .int .i64 x22 ∧ Aside0 (laws_toWaitS.l0 kq l20 x22 a0 = some r) ∧ Aside0 (kq ≤ k) ∧ Hp noFP w w' [.own (Zd.slice 130 q130) l20 [.slice B3 a0.length d3]])
 case atStart => exact ⟨_, _, rfl, H, ⟨Nat.le_refl _⟩, HS⟩
 case round =>
  clear HS H; (try clear F)
  obtain ⟨l20, x22, rfl, H, HKk19, HS⟩ := hrel
  cases gk with
  | zero => exact absurd H.out (by simp [laws_toWaitS.l0])
  | succ k19 =>
   simp only [laws_toWaitS.l0] at H
   by_cases c24 : x22 < (a0.length : Int)
   case neg =>
    replace H := zneg c24 H
    replace c24 := eq_false c24
    obtain rfl := zsome H
    go_wp2
    exact bodyPost_ret (results_single rfl (.tmp .nil)) rfl ⟨_, rfl, HS.pick [0] (by decide) (by rfl)⟩
   replace H := zpos c24 H
   replace c24 := eq_true c24
   by_cases c25 : 0 ≤ x22
   case neg => exact zno c25 H
   replace H := zpos c25 H
   replace c25 := eq_true c25
   by_cases c26 : x22 < (a0.length : Int)
   case neg => exact zno c26 H
   replace H := zpos c26 H
   replace c26 := eq_true c26
   obtain ⟨ad27, rfl, e27_0, e27_1, e27_2, e27_3⟩ := at_T126 gp0 x22 (of_eq_true c25) (of_eq_true c26)
   have e27_0_27 := (HS.keepc e27_0)
   have e27_1_27 := (HS.keepc e27_1)
   have e27_2_27 := (HS.keepc e27_2)
   have e27_3_27 := (HS.keepc e27_3)
   replace H := zbind H; obtain ⟨t28, ht28, H⟩ := H
   go_wp2_with (first | ((with_reducible refine gate_dst (N := 20) rfl ?_); refine ev_call rfl Tryd.func92 (by kernel_rfl) rfl #[.agg #[.int .i64 ((rd_T126 a0 x22).f0), .int .i64 ((rd_T126 a0 x22).f1), .string ((rd_T126 a0 x22).f2), .int .i64 ((rd_T126 a0 x22).f3)]] rfl (by simp only [mpn]; rfl) ?_; refine (laws_toWait.calls ht28.out).mono ?_; rintro _ wt28 ⟨rfl, HQ⟩; refine ⟨_, rfl, ?_⟩; replace HS := HS.call HQ; clear HQ; (try clear F); (try simp only [hpn, hpm] at HS); obtain ⟨ad30, rfl, e30_0, e30_1, e30_2, e30_3⟩ := at_T130 (HS.rd 0 rfl) x22 (of_eq_true c25) (of_eq_true c26)) | ((with_reducible refine gate_store (p := 21) rfl ?_); refine ev_set rfl q130 0 [] x22 t28 HS (seg := [.int .i64 t28.f0, .int .i64 t28.f1, .string t28.f2, .int .i64 t28.f3]) rfl (by decide) rfl rfl rfl (by first | rfl | exact (Nat.mul_one _).symm) rfl rfl (by kernel_rfl) (by simp [Value.oneCell']) ⟨of_eq_true c25, of_eq_true c26⟩ rfl (made_flat (fun _ => q130_flat _ _ _)) ?_; clear HS; (try clear F); intro w31 HS; (try simp only [hpn, hpm] at HS)))
   go_roundg k19
   case measure => have := HKk19.out; omega
   case rel => exact ⟨_, _, rfl, H, ⟨by have := HKk19.out; omega⟩, HS.pick [0] (by decide) (by rfl)⟩
/-! ### laws_toGot: function 93 -/
def laws_toGot.f (k : Nat) (a0 : S129) : Option (S101) := ((laws_toReply.f k a0.f1).bind fun t9 => (some (⟨a0.f0, (⟨t9.f0, t9.f1, t9.f2, t9.f3, t9.f4, t9.f5, t9.f6, t9.f7⟩ : S40)⟩ : S101)))
set_option maxHeartbeats 16000000 in
theorem laws_toGot.calls {k : Nat} {a0 : S129} {Ap0 : Option Addr} {np0 cp0 : Nat} {r : S101} {w : World} (h : laws_toGot.f k a0 = some r) (gp0 : k112.C w Ap0 np0 a0.f1.f6) (lp0 : np0 ≤ cp0) :
    Calls Tryd.prog 93 #[.agg #[.int .i64 a0.f0, .string a0.f1.f0, .int .i64 a0.f1.f1, .int .i64 a0.f1.f2, .int .i64 a0.f1.f3, .int .i64 a0.f1.f4, .int .i64 a0.f1.f5, .slice Ap0 np0 cp0, .string a0.f1.f7]] w (fun e w' => ∃ v0_ : Value, e = .returned (.agg #[.int .i64 r.f0, .string r.f1.f0, .int .i64 r.f1.f1, .int .i64 r.f1.f2, .int .i64 r.f1.f3, .int .i64 r.f1.f4, .int .i64 r.f1.f5, v0_, .string r.f1.f7]) ∧ Hp noFP w w' [.own (Zd.slice 80 q80) r.f1.f6 [v0_]]) := by
 obtain rfl := C_len gp0
 have HS := Hp.start w
 have H := Aside0.mk h
 clear h
 unfold laws_toGot.f at H
 go_enter Tryd.func93, Tryd.ntmps93
 replace H := zbind H; obtain ⟨t9, ht9, H⟩ := H
 obtain rfl := zsome H
 go_wp2_with (first | ((with_reducible refine gate_dst (N := 1) rfl ?_); refine ev_box rfl HS (by first | (go_simp; done) | (go_simp; rfl)) rfl ?_; clear HS; (try clear F); intro g1 w1 HS; (try simp only [hpn, hpm] at HS); have F := HS.boxes; simp only [bxn] at F) | ((with_reducible refine gate_dst (N := 2) rfl ?_); refine ev_box rfl HS (by first | (go_simp; done) | (go_simp; rfl)) rfl ?_; clear HS; (try clear F); intro g2 w2 HS; (try simp only [hpn, hpm] at HS); have F := HS.boxes; simp only [bxn] at F) | ((with_reducible refine gate_dst (N := 3) rfl ?_); refine ev_box rfl HS (by first | (go_simp; done) | (go_simp; rfl)) rfl ?_; clear HS; (try clear F); intro g3 w3 HS; (try simp only [hpn, hpm] at HS); have F := HS.boxes; simp only [bxn] at F) | ((with_reducible refine gate_store (p := 6) rfl ?_); refine ev_store rfl 2 0 HS (seg := [.int .i64 a0.f0]) rfl rfl rfl rfl rfl rfl (by kernel_rfl) (by simp [wrt]) (by simp [Value.oneCell']) ?_; clear HS; (try clear F); intro w7 HS; (try simp only [hpn, hpm] at HS); have F := HS.boxes; simp only [bxn] at F) | ((with_reducible refine gate_dst (N := 9) rfl ?_); refine ev_call rfl Tryd.func15 (by kernel_rfl) rfl #[.agg #[.string a0.f1.f0, .int .i64 a0.f1.f1, .int .i64 a0.f1.f2, .int .i64 a0.f1.f3, .int .i64 a0.f1.f4, .int .i64 a0.f1.f5, .slice Ap0 a0.f1.f6.length cp0, .string a0.f1.f7]] rfl (by simp only [mpn]; rfl) ?_; refine (laws_toReply.calls ht9.out (HS.ro gp0) lp0).mono ?_; rintro _ wt9 ⟨v10, rfl, HQ⟩; refine ⟨_, rfl, ?_⟩; replace HS := HS.call HQ; clear HQ; (try clear F); obtain ⟨B10, d10, rfl, m10⟩ := HS.form 3 rfl; (try simp only [hpn, hpm] at HS); have F := HS.boxes; simp only [bxn] at F) | ((with_reducible refine gate_store (p := 10) rfl ?_); refine ev_store rfl 2 1 HS (seg := [.string t9.f0, .int .i64 t9.f1, .int .i64 t9.f2, .int .i64 t9.f3, .int .i64 t9.f4, .int .i64 t9.f5, .slice B10 t9.f6.length d10, .string t9.f7]) rfl rfl rfl rfl rfl rfl (by kernel_rfl) (by simp [wrt]) (by simp [Value.oneCell']) ?_; clear HS; (try clear F); intro w12 HS; (try simp only [hpn, hpm] at HS); have F := HS.boxes; simp only [bxn] at F) | ((with_reducible refine gate_store (p := 2) rfl ?_); refine ev_store rfl 1 0 HS (seg := [.int .i64 a0.f0, .string t9.f0, .int .i64 t9.f1, .int .i64 t9.f2, .int .i64 t9.f3, .int .i64 t9.f4, .int .i64 t9.f5, .slice B10 t9.f6.length d10, .string t9.f7]) rfl rfl rfl rfl rfl rfl (by kernel_rfl) (by simp [wrt]) (by simp [Value.oneCell']) ?_; clear HS; (try clear F); intro w14 HS; (try simp only [hpn, hpm] at HS); have F := HS.boxes; simp only [bxn] at F))
 exact bodyPost_ret (results_single rfl (.cell _ _ _ _ _ rfl (HS.boxAt (i := 1) rfl) Tryd.underlying101 rfl (by kernel_rfl) .nil)) rfl ⟨_, rfl, HS.pick [3] (by decide) (by rfl)⟩
/-! ### laws_toGotS: function 66 -/
def laws_toGotS.l0 : Nat → (List S101) → Int → (List S129) → Option ((List S101))
  | 0, _, _, _ => none
  | k + 1, l21, x23, a0 => (if x23 < (a0.length : Int) then (if 0 ≤ x23 then (if x23 < (a0.length : Int) then ((laws_toGot.f k (rd_T129 a0 x23)).bind fun t29 => (laws_toGotS.l0 k (l21.set (x23).toNat t29) (wrap64 (x23 + 1)) a0)) else none) else none) else (some l21))
def laws_toGotS.f (k : Nat) (a0 : (List S129)) : Option ((List S101)) := (if 0 ≤ (a0.length : Int) then (if ((a0.length : Int)).toNat ≤ 2706490160679 then (laws_toGotS.l0 k (List.replicate a0.length z101) 0 a0) else none) else none)
set_option maxHeartbeats 16000000 in
theorem laws_toGotS.calls {k : Nat} {a0 : (List S129)} {Ap0 : Option Addr} {np0 cp0 : Nat} {r : (List S101)} {w : World} (h : laws_toGotS.f k a0 = some r) (gp0 : k129.C w Ap0 np0 a0) (lp0 : np0 ≤ cp0) :
    Calls Tryd.prog 66 #[.slice Ap0 np0 cp0] w (fun e w' => ∃ v0_ : Value, e = .returned (v0_) ∧ Hp noFP w w' [.own (Zd.slice 101 q101) r [v0_]]) := by
 obtain rfl := C_len gp0
 have HS := Hp.start w
 have H := Aside0.mk h
 clear h
 unfold laws_toGotS.f at H
 go_enter Tryd.func66, Tryd.ntmps66
 by_cases c1 : 0 ≤ (a0.length : Int)
 case neg => exact zno c1 H
 replace H := zpos c1 H
 replace c1 := eq_true c1
 by_cases c2 : ((a0.length : Int)).toNat ≤ 2706490160679
 case neg => exact zno c2 H
 replace H := zpos c2 H
 replace c2 := eq_true c2
 go_wp2_with (first | ((with_reducible refine gate_dst (N := 7) rfl ?_); refine ev_make rfl q101 z101 HS rfl (a0.length : Int) rfl rfl Tryd.underlying63 info101 rfl (by decide) (by decide) q101_zero (of_eq_true c1) (by have := of_eq_true c2; omega) ?_; clear HS; (try clear F); intro v3 w3 HS; obtain ⟨B3, d3, rfl, m3⟩ := HS.formn a0.length 0 rfl (by first | rfl | simp); (try simp only [hpn, hpm] at HS)))
 go_loopg [4] k (fun kq v_4 w' => ∃ (l21 : List S101) (x23 : Int), v_4 = .int .i64 x23 ∧ Aside0 (laws_toGotS.l0 kq l21 x23 a0 = some r) ∧ Aside0 (kq ≤ k) ∧ Hp noFP w w' [.own (Zd.slice 101 q101) l21 [.slice B3 a0.length d3]])
 case atStart => exact ⟨_, _, rfl, H, ⟨Nat.le_refl _⟩, HS⟩
 case round =>
  clear HS H; (try clear F)
  obtain ⟨l21, x23, rfl, H, HKk20, HS⟩ := hrel
  cases gk with
  | zero => exact absurd H.out (by simp [laws_toGotS.l0])
  | succ k20 =>
   simp only [laws_toGotS.l0] at H
   by_cases c25 : x23 < (a0.length : Int)
   case neg =>
    replace H := zneg c25 H
    replace c25 := eq_false c25
    obtain rfl := zsome H
    go_wp2
    exact bodyPost_ret (results_single rfl (.tmp .nil)) rfl ⟨_, rfl, HS.pick [0] (by decide) (by rfl)⟩
   replace H := zpos c25 H
   replace c25 := eq_true c25
   by_cases c26 : 0 ≤ x23
   case neg => exact zno c26 H
   replace H := zpos c26 H
   replace c26 := eq_true c26
   by_cases c27 : x23 < (a0.length : Int)
   case neg => exact zno c27 H
   replace H := zpos c27 H
   replace c27 := eq_true c27
   obtain ⟨ad28, B28_7, d28_7, rfl, e28_0, e28_1, e28_2, e28_3, e28_4, e28_5, e28_6, e28_7, e28_8, m28_7, y28_7⟩ := at_T129 gp0 x23 (of_eq_true c26) (of_eq_true c27)
   have e28_0_28 := (HS.keepc e28_0)
   have e28_1_28 := (HS.keepc e28_1)
   have e28_2_28 := (HS.keepc e28_2)
   have e28_3_28 := (HS.keepc e28_3)
   have e28_4_28 := (HS.keepc e28_4)
   have e28_5_28 := (HS.keepc e28_5)
   have e28_6_28 := (HS.keepc e28_6)
   have e28_7_28 := (HS.keepc e28_7)
   have e28_8_28 := (HS.keepc e28_8)
   replace H := zbind H; obtain ⟨t29, ht29, H⟩ := H
   go_wp2_with (first | ((with_reducible refine gate_dst (N := 20) rfl ?_); refine ev_call rfl Tryd.func93 (by kernel_rfl) rfl #[.agg #[.int .i64 ((rd_T129 a0 x23).f0), .string ((rd_T129 a0 x23).f1.f0), .int .i64 ((rd_T129 a0 x23).f1.f1), .int .i64 ((rd_T129 a0 x23).f1.f2), .int .i64 ((rd_T129 a0 x23).f1.f3), .int .i64 ((rd_T129 a0 x23).f1.f4), .int .i64 ((rd_T129 a0 x23).f1.f5), .slice B28_7 (rd_T129 a0 x23).f1.f6.length d28_7, .string ((rd_T129 a0 x23).f1.f7)]] rfl (by simp only [mpn]; rfl) ?_; refine (laws_toGot.calls ht29.out (HS.ro y28_7) m28_7).mono ?_; rintro _ wt29 ⟨v30, rfl, HQ⟩; refine ⟨_, rfl, ?_⟩; replace HS := HS.call HQ; clear HQ; (try clear F); obtain ⟨B30, d30, rfl, m30⟩ := HS.form 1 rfl; (try simp only [hpn, hpm] at HS); obtain ⟨ad32, B32_7, d32_7, rfl, e32_0, e32_1, e32_2, e32_3, e32_4, e32_5, e32_6, e32_7, e32_8, m32_7, y32_7⟩ := at_T101 (HS.rd 0 rfl) x23 (of_eq_true c26) (of_eq_true c27)) | ((with_reducible refine gate_store (p := 21) rfl ?_); refine ev_set rfl q101 0 [1] x23 t29 HS (seg := [.int .i64 t29.f0, .string t29.f1.f0, .int .i64 t29.f1.f1, .int .i64 t29.f1.f2, .int .i64 t29.f1.f3, .int .i64 t29.f1.f4, .int .i64 t29.f1.f5, .slice B30 t29.f1.f6.length d30, .string t29.f1.f7]) rfl (by decide) rfl rfl rfl (by first | rfl | exact (Nat.mul_one _).symm) rfl rfl (by kernel_rfl) (by simp [Value.oneCell']) ⟨of_eq_true c26, of_eq_true c27⟩ rfl (fun S hd hh => q101_pack (x := t29) hd (hh 1 (.own (Zd.slice 80 q80) t29.f1.f6 [.slice B30 t29.f1.f6.length d30]) rfl) (by decide)) ?_; clear HS; (try clear F); intro w33 HS; (try simp only [hpn, hpm] at HS)))
   go_roundg k20
   case measure => have := HKk20.out; omega
   case rel => exact ⟨_, _, rfl, H, ⟨by have := HKk20.out; omega⟩, HS.pick [0] (by decide) (by rfl)⟩
/-! ### laws_toClient: function 27 -/
def laws_toClient.f (k : Nat) (a0 : S59) : Option (S65) := ((laws_toWaitS.f k a0.f2).bind fun t11 => ((laws_toGotS.f k a0.f3).bind fun t16 => ((laws_toIntS.f k a0.f4).bind fun t21 => (some (⟨a0.f0, a0.f1, t11, t16, t21⟩ : S65)))))
set_option maxHeartbeats 16000000 in
theorem laws_toClient.calls {k : Nat} {a0 : S59} {Ap0 : Option Addr} {np0 cp0 : Nat} {Ap1 : Option Addr} {np1 cp1 : Nat} {Ap2 : Option Addr} {np2 cp2 : Nat} {r : S65} {w : World} (h : laws_toClient.f k a0 = some r) (gp0 : k126.C w Ap0 np0 a0.f2) (lp0 : np0 ≤ cp0) (gp1 : k129.C w Ap1 np1 a0.f3) (lp1 : np1 ≤ cp1) (gp2 : (Kd.int .i64).C w Ap2 np2 a0.f4) (lp2 : np2 ≤ cp2) :
    Calls Tryd.prog 27 #[.agg #[.string a0.f0, .int .i64 a0.f1, .slice Ap0 np0 cp0, .slice Ap1 np1 cp1, .slice Ap2 np2 cp2]] w (fun e w' => ∃ v0_ v1_ v2_ : Value, e = .returned (.agg #[.string r.f0, .int .i64 r.f1, v0_, v1_, v2_]) ∧ Hp noFP w w' [.own (Zd.slice 130 q130) r.f2 [v0_], .own (Zd.slice 101 q101) r.f3 [v1_], .own (Zd.slice 3 (Zd.int .i64)) r.f4 [v2_]]) := by
 obtain rfl := C_len gp0
 obtain rfl := C_len gp1
 obtain rfl := C_len gp2
 have HS := Hp.start w
 have H := Aside0.mk h
 clear h
 unfold laws_toClient.f at H
 go_enter Tryd.func27, Tryd.ntmps27
 replace H := zbind H; obtain ⟨t11, ht11, H⟩ := H
 replace H := zbind H; obtain ⟨t16, ht16, H⟩ := H
 replace H := zbind H; obtain ⟨t21, ht21, H⟩ := H
 obtain rfl := zsome H
 go_wp2_with (first | ((with_reducible refine gate_dst (N := 1) rfl ?_); refine ev_box rfl HS (by first | (go_simp; done) | (go_simp; rfl)) rfl ?_; clear HS; (try clear F); intro g1 w1 HS; (try simp only [hpn, hpm] at HS); have F := HS.boxes; simp only [bxn] at F) | ((with_reducible refine gate_dst (N := 2) rfl ?_); refine ev_box rfl HS (by first | (go_simp; done) | (go_simp; rfl)) rfl ?_; clear HS; (try clear F); intro g2 w2 HS; (try simp only [hpn, hpm] at HS); have F := HS.boxes; simp only [bxn] at F) | ((with_reducible refine gate_dst (N := 3) rfl ?_); refine ev_box rfl HS (by first | (go_simp; done) | (go_simp; rfl)) rfl ?_; clear HS; (try clear F); intro g3 w3 HS; (try simp only [hpn, hpm] at HS); have F := HS.boxes; simp only [bxn] at F) | ((with_reducible refine gate_store (p := 6) rfl ?_); refine ev_store rfl 2 0 HS (seg := [.string a0.f0]) rfl rfl rfl rfl rfl rfl (by kernel_rfl) (by simp [wrt]) (by simp [Value.oneCell']) ?_; clear HS; (try clear F); intro w7 HS; (try simp only [hpn, hpm] at HS); have F := HS.boxes; simp only [bxn] at F) | ((with_reducible refine gate_store (p := 9) rfl ?_); refine ev_store rfl 2 1 HS (seg := [.int .i64 a0.f1]) rfl rfl rfl rfl rfl rfl (by kernel_rfl) (by simp [wrt]) (by simp [Value.oneCell']) ?_; clear HS; (try clear F); intro w9 HS; (try simp only [hpn, hpm] at HS); have F := HS.boxes; simp only [bxn] at F) | ((with_reducible refine gate_dst (N := 12) rfl ?_); refine ev_call rfl Tryd.func65 (by kernel_rfl) rfl #[.slice Ap0 a0.f2.length cp0] rfl (by simp only [mpn]; rfl) ?_; refine (laws_toWaitS.calls ht11.out (HS.ro gp0) lp0).mono ?_; rintro _ wt11 ⟨v12, rfl, HQ⟩; refine ⟨_, rfl, ?_⟩; replace HS := HS.call HQ; clear HQ; (try clear F); obtain ⟨B12, d12, rfl, m12⟩ := HS.form 3 rfl; (try simp only [hpn, hpm] at HS); have F := HS.boxes; simp only [bxn] at F) | ((with_reducible refine gate_store (p := 13) rfl ?_); refine ev_store rfl 2 2 HS (seg := [.slice B12 t11.length d12]) rfl rfl rfl rfl rfl rfl (by kernel_rfl) (by simp [wrt]) (by simp [Value.oneCell']) ?_; clear HS; (try clear F); intro w14 HS; (try simp only [hpn, hpm] at HS); have F := HS.boxes; simp only [bxn] at F) | ((with_reducible refine gate_dst (N := 16) rfl ?_); refine ev_call rfl Tryd.func66 (by kernel_rfl) rfl #[.slice Ap1 a0.f3.length cp1] rfl (by simp only [mpn]; rfl) ?_; refine (laws_toGotS.calls ht16.out (HS.ro gp1) lp1).mono ?_; rintro _ wt16 ⟨v17, rfl, HQ⟩; refine ⟨_, rfl, ?_⟩; replace HS := HS.call HQ; clear HQ; (try clear F); obtain ⟨B17, d17, rfl, m17⟩ := HS.form 4 rfl; (try simp only [hpn, hpm] at HS); have F := HS.boxes; simp only [bxn] at F) | ((with_reducible refine gate_store (p := 17) rfl ?_); refine ev_store rfl 2 3 HS (seg := [.slice B17 t16.length d17]) rfl rfl rfl rfl rfl rfl (by kernel_rfl) (by simp [wrt]) (by simp [Value.oneCell']) ?_; clear HS; (try clear F); intro w19 HS; (try simp only [hpn, hpm] at HS); have F := HS.boxes; simp only [bxn] at F) | ((with_reducible refine gate_dst (N := 20) rfl ?_); refine ev_call rfl Tryd.func50 (by kernel_rfl) rfl #[.slice Ap2 a0.f4.length cp2] rfl (by simp only [mpn]; rfl) ?_; refine (laws_toIntS.calls ht21.out (HS.ro gp2) lp2).mono ?_; rintro _ wt21 ⟨v22, rfl, HQ⟩; refine ⟨_, rfl, ?_⟩; replace HS := HS.call HQ; clear HQ; (try clear F); obtain ⟨B22, d22, rfl, m22⟩ := HS.form 5 rfl; (try simp only [hpn, hpm] at HS); have F := HS.boxes; simp only [bxn] at F) | ((with_reducible refine gate_store (p := 21) rfl ?_); refine ev_store rfl 2 4 HS (seg := [.slice B22 t21.length d22]) rfl rfl rfl rfl rfl rfl (by kernel_rfl) (by simp [wrt]) (by simp [Value.oneCell']) ?_; clear HS; (try clear F); intro w24 HS; (try simp only [hpn, hpm] at HS); have F := HS.boxes; simp only [bxn] at F) | ((with_reducible refine gate_store (p := 2) rfl ?_); refine ev_store rfl 1 0 HS (seg := [.string a0.f0, .int .i64 a0.f1, .slice B12 t11.length d12, .slice B17 t16.length d17, .slice B22 t21.length d22]) rfl rfl rfl rfl rfl rfl (by kernel_rfl) (by simp [wrt]) (by simp [Value.oneCell']) ?_; clear HS; (try clear F); intro w26 HS; (try simp only [hpn, hpm] at HS); have F := HS.boxes; simp only [bxn] at F))
 exact bodyPost_ret (results_single rfl (.cell _ _ _ _ _ rfl (HS.boxAt (i := 1) rfl) Tryd.underlying65 rfl (by kernel_rfl) .nil)) rfl ⟨_, _, _, rfl, HS.pick [3, 4, 5] (by decide) (by rfl)⟩
/-! ### impl_shown: function 43 -/
def impl_shown.f (a0 : Int) : Option (ByteArray) := (if a0 < 0 then ((impl_Decimal.f 0).bind fun t2 => (some t2)) else ((impl_Decimal.f a0).bind fun t4 => (some t4)))
set_option maxHeartbeats 16000000 in
theorem impl_shown.calls {a0 : Int} {r : ByteArray} {w : World} (h : impl_shown.f a0 = some r) (hgT : Go.Lib.TabIs Tryd.prog w "internal/strconv.uint64pow10" .u64 Go.Lib.pow10Tab) :
    Calls Tryd.prog 43 #[.int .i64 a0] w (fun e w' => e = .returned (.string r) ∧ Hp noFP w w' []) := by
 have HS := Hp.start w
 have H := Aside0.mk h
 clear h
 unfold impl_shown.f at H
 go_enter Tryd.func43, Tryd.ntmps43
 by_cases c1 : a0 < 0
 case pos =>
  replace H := zpos c1 H
  replace c1 := eq_true c1
  replace H := zbind H; obtain ⟨t2, ht2, H⟩ := H
  obtain rfl := zsome H
  go_wp2_with (first | ((with_reducible refine gate_dst (N := 5) rfl ?_); refine ev_call rfl Tryd.func44 (by kernel_rfl) rfl #[.int .i64 0] rfl (by simp only [mpn]; rfl) ?_; refine (impl_Decimal.calls ht2.out (HS.keept hgT)).mono ?_; rintro _ wt2 ⟨rfl, HQ⟩; refine ⟨_, rfl, ?_⟩; replace HS := HS.call HQ; clear HQ; (try clear F); (try simp only [hpn, hpm] at HS)))
  go_ret
  exact ⟨rfl, HS.pick [] (by decide) (by rfl)⟩
 replace H := zneg c1 H
 replace c1 := eq_false c1
 replace H := zbind H; obtain ⟨t4, ht4, H⟩ := H
 obtain rfl := zsome H
 go_wp2_with (first | ((with_reducible refine gate_dst (N := 5) rfl ?_); refine ev_call rfl Tryd.func44 (by kernel_rfl) rfl #[.int .i64 a0] rfl (by simp only [mpn]; rfl) ?_; refine (impl_Decimal.calls ht4.out (HS.keept hgT)).mono ?_; rintro _ wt4 ⟨rfl, HQ⟩; refine ⟨_, rfl, ?_⟩; replace HS := HS.call HQ; clear HQ; (try clear F); (try simp only [hpn, hpm] at HS)))
 go_ret
 exact ⟨rfl, HS.pick [] (by decide) (by rfl)⟩
end Go.Proofs.YtnpokacipeobdaaDoor.F

/- Functions of the program and of the law, and that their calls do what is written here. -/
import Derived.Test.YtacocpknielofaaGreatDoorZgFnExactShowWorlda
namespace Go.Proofs.YtacocpknielofaaGreatDoor.F
open Go.RowKit Go.Proofs.YtacocpknielofaaGreatDoorW.PrintWords Go.Proofs.YtacocpknielofaaGreatDoorW.PrintLast Go.Proofs.YtacocpknielofaaGreatDoorW.PrintMore Go.Proofs.YtacocpknielofaaGreatDoor.Z
attribute [local go_sem] max2_int min2_int max_two min_two max_three min_three max_four min_four
set_option linter.unusedVariables false
set_option linter.unusedSimpArgs false
set_option maxRecDepth 100000
/-! ### laws_szAnswerS: function 239 -/
def laws_szAnswerS.l0 : Nat → Int → Int → (List S304) → Option (Int)
  | 0, _, _, _ => none
  | k + 1, x12, x13, a0 => (if x13 < (a0.length : Int) then (if 0 ≤ x13 then (if x13 < (a0.length : Int) then ((laws_szAnswer.f k (rd_T304 a0 x13) x12).bind fun t19 => (if t19 < 0 then (some (-1)) else (laws_szAnswerS.l0 k t19 (wrap64 (x13 + 1)) a0))) else none) else none) else (some x12))
def laws_szAnswerS.f (k : Nat) (a0 : (List S304)) (a1 : Int) : Option (Int) := (if (wrap64 (a1 - (a0.length : Int))) < 0 then (some (-1)) else (laws_szAnswerS.l0 k (wrap64 (a1 - (a0.length : Int))) 0 a0))
set_option maxHeartbeats 16000000 in
theorem laws_szAnswerS.calls {k : Nat} {a0 : (List S304)} {a1 : Int} {Ap0 : Option Addr} {np0 cp0 : Nat} {r : Int} {w : World} (h : laws_szAnswerS.f k a0 a1 = some r) (gp0 : k304.C w Ap0 np0 a0) (lp0 : np0 ≤ cp0) :
    Calls Tryz.prog 239 #[.slice Ap0 np0 cp0, .int .i64 a1] w (fun e w' => e = .returned (.int .i64 r) ∧ Hp noFP w w' []) := by
 obtain rfl := C_len gp0
 have HS := Hp.start w
 have H := Aside0.mk h
 clear h
 unfold laws_szAnswerS.f at H
 go_enter Tryz.func239, Tryz.ntmps239
 by_cases c1 : (wrap64 (a1 - (a0.length : Int))) < 0
 case pos =>
  replace H := zpos c1 H
  replace c1 := eq_true c1
  obtain rfl := zsome H
  go_wp2
  go_ret
  exact ⟨rfl, HS.pick [] (by decide) (by rfl)⟩
 replace H := zneg c1 H
 replace c1 := eq_false c1
 go_wp2
 go_loopg [1, 5] k (fun kq v_1 v_5 w' => ∃ (x12 : Int) (x13 : Int), v_1 = .int .i64 x12 ∧ v_5 = .int .i64 x13 ∧ Aside0 (laws_szAnswerS.l0 kq x12 x13 a0 = some r) ∧ Aside0 (kq ≤ k) ∧ Hp noFP w w' [])
 case atStart => exact ⟨_, _, rfl, rfl, H, ⟨Nat.le_refl _⟩, HS⟩
 case round =>
  clear HS H; (try clear F)
  obtain ⟨x12, x13, rfl, rfl, H, HKk11, HS⟩ := hrel
  cases gk with
  | zero => exact absurd H.out (by simp [laws_szAnswerS.l0])
  | succ k11 =>
   simp only [laws_szAnswerS.l0] at H
   by_cases c15 : x13 < (a0.length : Int)
   case neg =>
    replace H := zneg c15 H
    replace c15 := eq_false c15
    obtain rfl := zsome H
    go_wp2
    go_ret
    exact ⟨rfl, HS.pick [] (by decide) (by rfl)⟩
   replace H := zpos c15 H
   replace c15 := eq_true c15
   by_cases c16 : 0 ≤ x13
   case neg => exact zno c16 H
   replace H := zpos c16 H
   replace c16 := eq_true c16
   by_cases c17 : x13 < (a0.length : Int)
   case neg => exact zno c17 H
   replace H := zpos c17 H
   replace c17 := eq_true c17
   obtain ⟨ad18, B18_2, d18_2, B18_3, d18_3, rfl, e18_0, e18_1, e18_2, e18_3, m18_2, y18_2, m18_3, y18_3⟩ := at_T304 gp0 x13 (of_eq_true c16) (of_eq_true c17)
   have e18_0_18 := (HS.keepc e18_0)
   have e18_1_18 := (HS.keepc e18_1)
   have e18_2_18 := (HS.keepc e18_2)
   have e18_3_18 := (HS.keepc e18_3)
   replace H := zbind H; obtain ⟨t19, ht19, H⟩ := H
   go_upto_if 25 with (first | ((with_reducible refine gate_dst (N := 23) rfl ?_); refine ev_call rfl Tryz.func251 (by kernel_rfl) rfl #[.agg #[.int .i64 ((rd_T304 a0 x13).f0), .int .i64 ((rd_T304 a0 x13).f1), .slice B18_2 (rd_T304 a0 x13).f2.length d18_2, .slice B18_3 (rd_T304 a0 x13).f3.length d18_3], .int .i64 x12] rfl (by simp only [mpn]; rfl) ?_; refine (laws_szAnswer.calls ht19.out (HS.ro y18_2) m18_2 (HS.ro y18_3) m18_3).mono ?_; rintro _ wt19 ⟨rfl, HQ⟩; refine ⟨_, rfl, ?_⟩; replace HS := HS.call HQ; clear HQ; (try clear F); (try simp only [hpn, hpm] at HS)))
   by_cases c21 : t19 < 0
   case pos =>
    replace H := zpos c21 H
    replace c21 := eq_true c21
    (try simp only [c21, dcn])
    obtain rfl := zsome H
    go_wp2
    go_ret
    exact ⟨rfl, HS.pick [] (by decide) (by rfl)⟩
   replace H := zneg c21 H
   replace c21 := eq_false c21
   (try simp only [c21, dcn])
   go_wp2
   go_roundg k11
   case measure => have := HKk11.out; omega
   case rel => exact ⟨_, _, rfl, rfl, H, ⟨by have := HKk11.out; omega⟩, HS.pick [] (by decide) (by rfl)⟩
/-! ### laws_szReply: function 229 -/
def laws_szReply.f (k : Nat) (a0 : S269) (a1 : Int) : Option (Int) := (if (wrap64 (a1 - (a0.f0.size : Int))) < 0 then (some (-1)) else ((laws_szAnswerS.f k a0.f6 (wrap64 (a1 - (a0.f0.size : Int)))).bind fun t4 => (if t4 < 0 then (some (-1)) else (if (wrap64 (t4 - (a0.f7.size : Int))) < 0 then (some (-1)) else (some (wrap64 (t4 - (a0.f7.size : Int))))))))
set_option maxHeartbeats 16000000 in
theorem laws_szReply.calls {k : Nat} {a0 : S269} {a1 : Int} {Ap0 : Option Addr} {np0 cp0 : Nat} {r : Int} {w : World} (h : laws_szReply.f k a0 a1 = some r) (gp0 : k304.C w Ap0 np0 a0.f6) (lp0 : np0 ≤ cp0) :
    Calls Tryz.prog 229 #[.agg #[.string a0.f0, .int .i64 a0.f1, .int .i64 a0.f2, .int .i64 a0.f3, .int .i64 a0.f4, .int .i64 a0.f5, .slice Ap0 np0 cp0, .string a0.f7], .int .i64 a1] w (fun e w' => e = .returned (.int .i64 r) ∧ Hp noFP w w' []) := by
 obtain rfl := C_len gp0
 have HS := Hp.start w
 have H := Aside0.mk h
 clear h
 unfold laws_szReply.f at H
 go_enter Tryz.func229, Tryz.ntmps229
 go_upto_if 11 with (first | ((with_reducible refine gate_dst (N := 2) rfl ?_); refine ev_box rfl HS (by first | (go_simp; done) | (go_simp; rfl)) rfl ?_; clear HS; (try clear F); intro g2 w2 HS; (try simp only [hpn, hpm] at HS); have F := HS.boxes; simp only [bxn] at F))
 by_cases c3 : (wrap64 (a1 - (a0.f0.size : Int))) < 0
 case pos =>
  replace H := zpos c3 H
  replace c3 := eq_true c3
  (try simp only [c3, dcn])
  obtain rfl := zsome H
  go_wp2
  go_ret
  exact ⟨rfl, HS.pick [] (by decide) (by rfl)⟩
 replace H := zneg c3 H
 replace c3 := eq_false c3
 (try simp only [c3, dcn])
 replace H := zbind H; obtain ⟨t4, ht4, H⟩ := H
 go_upto_if 17 with (first | ((with_reducible refine gate_dst (N := 15) rfl ?_); refine ev_call rfl Tryz.func239 (by kernel_rfl) rfl #[.slice Ap0 a0.f6.length cp0, .int .i64 (wrap64 (a1 - (a0.f0.size : Int)))] rfl (by simp only [mpn]; rfl) ?_; refine (laws_szAnswerS.calls ht4.out (HS.ro gp0) lp0).mono ?_; rintro _ wt4 ⟨rfl, HQ⟩; refine ⟨_, rfl, ?_⟩; replace HS := HS.call HQ; clear HQ; (try clear F); (try simp only [hpn, hpm] at HS); have F := HS.boxes; simp only [bxn] at F))
 by_cases c6 : t4 < 0
 case pos =>
  replace H := zpos c6 H
  replace c6 := eq_true c6
  (try simp only [c6, dcn])
  obtain rfl := zsome H
  go_wp2
  go_ret
  exact ⟨rfl, HS.pick [] (by decide) (by rfl)⟩
 replace H := zneg c6 H
 replace c6 := eq_false c6
 (try simp only [c6, dcn])
 by_cases c7 : (wrap64 (t4 - (a0.f7.size : Int))) < 0
 case pos =>
  replace H := zpos c7 H
  replace c7 := eq_true c7
  obtain rfl := zsome H
  go_wp2
  go_ret
  exact ⟨rfl, HS.pick [] (by decide) (by rfl)⟩
 replace H := zneg c7 H
 replace c7 := eq_false c7
 obtain rfl := zsome H
 go_wp2
 go_ret
 exact ⟨rfl, HS.pick [] (by decide) (by rfl)⟩
/-! ### laws_szGot: function 214 -/
def laws_szGot.f (k : Nat) (a0 : S271) (a1 : Int) : Option (Int) := ((laws_szReply.f k a0.f1 a1).bind fun t3 => (if t3 < 0 then (some (-1)) else (some t3)))
set_option maxHeartbeats 16000000 in
theorem laws_szGot.calls {k : Nat} {a0 : S271} {a1 : Int} {Ap0 : Option Addr} {np0 cp0 : Nat} {r : Int} {w : World} (h : laws_szGot.f k a0 a1 = some r) (gp0 : k304.C w Ap0 np0 a0.f1.f6) (lp0 : np0 ≤ cp0) :
    Calls Tryz.prog 214 #[.agg #[.int .i64 a0.f0, .string a0.f1.f0, .int .i64 a0.f1.f1, .int .i64 a0.f1.f2, .int .i64 a0.f1.f3, .int .i64 a0.f1.f4, .int .i64 a0.f1.f5, .slice Ap0 np0 cp0, .string a0.f1.f7], .int .i64 a1] w (fun e w' => e = .returned (.int .i64 r) ∧ Hp noFP w w' []) := by
 obtain rfl := C_len gp0
 have HS := Hp.start w
 have H := Aside0.mk h
 clear h
 unfold laws_szGot.f at H
 go_enter Tryz.func214, Tryz.ntmps214
 replace H := zbind H; obtain ⟨t3, ht3, H⟩ := H
 go_upto_if 10 with (first | ((with_reducible refine gate_dst (N := 2) rfl ?_); refine ev_box rfl HS (by first | (go_simp; done) | (go_simp; rfl)) rfl ?_; clear HS; (try clear F); intro g2 w2 HS; (try simp only [hpn, hpm] at HS); have F := HS.boxes; simp only [bxn] at F) | ((with_reducible refine gate_dst (N := 8) rfl ?_); refine ev_call rfl Tryz.func229 (by kernel_rfl) rfl #[.agg #[.string a0.f1.f0, .int .i64 a0.f1.f1, .int .i64 a0.f1.f2, .int .i64 a0.f1.f3, .int .i64 a0.f1.f4, .int .i64 a0.f1.f5, .slice Ap0 a0.f1.f6.length cp0, .string a0.f1.f7], .int .i64 a1] rfl (by simp only [mpn]; rfl) ?_; refine (laws_szReply.calls ht3.out (HS.ro gp0) lp0).mono ?_; rintro _ wt3 ⟨rfl, HQ⟩; refine ⟨_, rfl, ?_⟩; replace HS := HS.call HQ; clear HQ; (try clear F); (try simp only [hpn, hpm] at HS); have F := HS.boxes; simp only [bxn] at F))
 by_cases c5 : t3 < 0
 case pos =>
  replace H := zpos c5 H
  replace c5 := eq_true c5
  (try simp only [c5, dcn])
  obtain rfl := zsome H
  go_wp2
  go_ret
  exact ⟨rfl, HS.pick [] (by decide) (by rfl)⟩
 replace H := zneg c5 H
 replace c5 := eq_false c5
 (try simp only [c5, dcn])
 obtain rfl := zsome H
 go_wp2
 go_ret
 exact ⟨rfl, HS.pick [] (by decide) (by rfl)⟩
/-! ### laws_szGotS: function 160 -/
def laws_szGotS.l0 : Nat → Int → Int → (List S271) → Option (Int)
  | 0, _, _, _ => none
  | k + 1, x12, x13, a0 => (if x13 < (a0.length : Int) then (if 0 ≤ x13 then (if x13 < (a0.length : Int) then ((laws_szGot.f k (rd_T271 a0 x13) x12).bind fun t19 => (if t19 < 0 then (some (-1)) else (laws_szGotS.l0 k t19 (wrap64 (x13 + 1)) a0))) else none) else none) else (some x12))
def laws_szGotS.f (k : Nat) (a0 : (List S271)) (a1 : Int) : Option (Int) := (if (wrap64 (a1 - (a0.length : Int))) < 0 then (some (-1)) else (laws_szGotS.l0 k (wrap64 (a1 - (a0.length : Int))) 0 a0))
set_option maxHeartbeats 16000000 in
theorem laws_szGotS.calls {k : Nat} {a0 : (List S271)} {a1 : Int} {Ap0 : Option Addr} {np0 cp0 : Nat} {r : Int} {w : World} (h : laws_szGotS.f k a0 a1 = some r) (gp0 : k271.C w Ap0 np0 a0) (lp0 : np0 ≤ cp0) :
    Calls Tryz.prog 160 #[.slice Ap0 np0 cp0, .int .i64 a1] w (fun e w' => e = .returned (.int .i64 r) ∧ Hp noFP w w' []) := by
 obtain rfl := C_len gp0
 have HS := Hp.start w
 have H := Aside0.mk h
 clear h
 unfold laws_szGotS.f at H
 go_enter Tryz.func160, Tryz.ntmps160
 by_cases c1 : (wrap64 (a1 - (a0.length : Int))) < 0
 case pos =>
  replace H := zpos c1 H
  replace c1 := eq_true c1
  obtain rfl := zsome H
  go_wp2
  go_ret
  exact ⟨rfl, HS.pick [] (by decide) (by rfl)⟩
 replace H := zneg c1 H
 replace c1 := eq_false c1
 go_wp2
 go_loopg [1, 5] k (fun kq v_1 v_5 w' => ∃ (x12 : Int) (x13 : Int), v_1 = .int .i64 x12 ∧ v_5 = .int .i64 x13 ∧ Aside0 (laws_szGotS.l0 kq x12 x13 a0 = some r) ∧ Aside0 (kq ≤ k) ∧ Hp noFP w w' [])
 case atStart => exact ⟨_, _, rfl, rfl, H, ⟨Nat.le_refl _⟩, HS⟩
 case round =>
  clear HS H; (try clear F)
  obtain ⟨x12, x13, rfl, rfl, H, HKk11, HS⟩ := hrel
  cases gk with
  | zero => exact absurd H.out (by simp [laws_szGotS.l0])
  | succ k11 =>
   simp only [laws_szGotS.l0] at H
   by_cases c15 : x13 < (a0.length : Int)
   case neg =>
    replace H := zneg c15 H
    replace c15 := eq_false c15
    obtain rfl := zsome H
    go_wp2
    go_ret
    exact ⟨rfl, HS.pick [] (by decide) (by rfl)⟩
   replace H := zpos c15 H
   replace c15 := eq_true c15
   by_cases c16 : 0 ≤ x13
   case neg => exact zno c16 H
   replace H := zpos c16 H
   replace c16 := eq_true c16
   by_cases c17 : x13 < (a0.length : Int)
   case neg => exact zno c17 H
   replace H := zpos c17 H
   replace c17 := eq_true c17
   obtain ⟨ad18, B18_7, d18_7, rfl, e18_0, e18_1, e18_2, e18_3, e18_4, e18_5, e18_6, e18_7, e18_8, m18_7, y18_7⟩ := at_T271 gp0 x13 (of_eq_true c16) (of_eq_true c17)
   have e18_0_18 := (HS.keepc e18_0)
   have e18_1_18 := (HS.keepc e18_1)
   have e18_2_18 := (HS.keepc e18_2)
   have e18_3_18 := (HS.keepc e18_3)
   have e18_4_18 := (HS.keepc e18_4)
   have e18_5_18 := (HS.keepc e18_5)
   have e18_6_18 := (HS.keepc e18_6)
   have e18_7_18 := (HS.keepc e18_7)
   have e18_8_18 := (HS.keepc e18_8)
   replace H := zbind H; obtain ⟨t19, ht19, H⟩ := H
   go_upto_if 25 with (first | ((with_reducible refine gate_dst (N := 23) rfl ?_); refine ev_call rfl Tryz.func214 (by kernel_rfl) rfl #[.agg #[.int .i64 ((rd_T271 a0 x13).f0), .string ((rd_T271 a0 x13).f1.f0), .int .i64 ((rd_T271 a0 x13).f1.f1), .int .i64 ((rd_T271 a0 x13).f1.f2), .int .i64 ((rd_T271 a0 x13).f1.f3), .int .i64 ((rd_T271 a0 x13).f1.f4), .int .i64 ((rd_T271 a0 x13).f1.f5), .slice B18_7 (rd_T271 a0 x13).f1.f6.length d18_7, .string ((rd_T271 a0 x13).f1.f7)], .int .i64 x12] rfl (by simp only [mpn]; rfl) ?_; refine (laws_szGot.calls ht19.out (HS.ro y18_7) m18_7).mono ?_; rintro _ wt19 ⟨rfl, HQ⟩; refine ⟨_, rfl, ?_⟩; replace HS := HS.call HQ; clear HQ; (try clear F); (try simp only [hpn, hpm] at HS)))
   by_cases c21 : t19 < 0
   case pos =>
    replace H := zpos c21 H
    replace c21 := eq_true c21
    (try simp only [c21, dcn])
    obtain rfl := zsome H
    go_wp2
    go_ret
    exact ⟨rfl, HS.pick [] (by decide) (by rfl)⟩
   replace H := zneg c21 H
   replace c21 := eq_false c21
   (try simp only [c21, dcn])
   go_wp2
   go_roundg k11
   case measure => have := HKk11.out; omega
   case rel => exact ⟨_, _, rfl, rfl, H, ⟨by have := HKk11.out; omega⟩, HS.pick [] (by decide) (by rfl)⟩
/-! ### laws_szClient: function 83 -/
def laws_szClient.f (k : Nat) (a0 : S54) (a1 : Int) : Option (Int) := (if (wrap64 (a1 - (a0.f0.size : Int))) < 0 then (some (-1)) else ((laws_szWaitS.f k a0.f2 (wrap64 (a1 - (a0.f0.size : Int)))).bind fun t4 => (if t4 < 0 then (some (-1)) else ((laws_szGotS.f k a0.f3 t4).bind fun t7 => (if t7 < 0 then (some (-1)) else ((laws_szIntS.f a0.f4 t7).bind fun t10 => (if t10 < 0 then (some (-1)) else (some t10))))))))
set_option maxHeartbeats 16000000 in
theorem laws_szClient.calls {k : Nat} {a0 : S54} {a1 : Int} {Ap0 : Option Addr} {np0 cp0 : Nat} {Ap1 : Option Addr} {np1 cp1 : Nat} {Ap2 : Option Addr} {np2 cp2 : Nat} {r : Int} {w : World} (h : laws_szClient.f k a0 a1 = some r) (gp0 : k265.C w Ap0 np0 a0.f2) (lp0 : np0 ≤ cp0) (gp1 : k271.C w Ap1 np1 a0.f3) (lp1 : np1 ≤ cp1) (gp2 : (Kd.int .i64).C w Ap2 np2 a0.f4) (lp2 : np2 ≤ cp2) :
    Calls Tryz.prog 83 #[.agg #[.string a0.f0, .int .i64 a0.f1, .slice Ap0 np0 cp0, .slice Ap1 np1 cp1, .slice Ap2 np2 cp2], .int .i64 a1] w (fun e w' => e = .returned (.int .i64 r) ∧ Hp noFP w w' []) := by
 obtain rfl := C_len gp0
 obtain rfl := C_len gp1
 obtain rfl := C_len gp2
 have HS := Hp.start w
 have H := Aside0.mk h
 clear h
 unfold laws_szClient.f at H
 go_enter Tryz.func83, Tryz.ntmps83
 go_upto_if 11 with (first | ((with_reducible refine gate_dst (N := 2) rfl ?_); refine ev_box rfl HS (by first | (go_simp; done) | (go_simp; rfl)) rfl ?_; clear HS; (try clear F); intro g2 w2 HS; (try simp only [hpn, hpm] at HS); have F := HS.boxes; simp only [bxn] at F))
 by_cases c3 : (wrap64 (a1 - (a0.f0.size : Int))) < 0
 case pos =>
  replace H := zpos c3 H
  replace c3 := eq_true c3
  (try simp only [c3, dcn])
  obtain rfl := zsome H
  go_wp2
  go_ret
  exact ⟨rfl, HS.pick [] (by decide) (by rfl)⟩
 replace H := zneg c3 H
 replace c3 := eq_false c3
 (try simp only [c3, dcn])
 replace H := zbind H; obtain ⟨t4, ht4, H⟩ := H
 go_upto_if 17 with (first | ((with_reducible refine gate_dst (N := 15) rfl ?_); refine ev_call rfl Tryz.func159 (by kernel_rfl) rfl #[.slice Ap0 a0.f2.length cp0, .int .i64 (wrap64 (a1 - (a0.f0.size : Int)))] rfl (by simp only [mpn]; rfl) ?_; refine (laws_szWaitS.calls ht4.out (HS.ro gp0) lp0).mono ?_; rintro _ wt4 ⟨rfl, HQ⟩; refine ⟨_, rfl, ?_⟩; replace HS := HS.call HQ; clear HQ; (try clear F); (try simp only [hpn, hpm] at HS); have F := HS.boxes; simp only [bxn] at F))
 by_cases c6 : t4 < 0
 case pos =>
  replace H := zpos c6 H
  replace c6 := eq_true c6
  (try simp only [c6, dcn])
  obtain rfl := zsome H
  go_wp2
  go_ret
  exact ⟨rfl, HS.pick [] (by decide) (by rfl)⟩
 replace H := zneg c6 H
 replace c6 := eq_false c6
 (try simp only [c6, dcn])
 replace H := zbind H; obtain ⟨t7, ht7, H⟩ := H
 go_upto_if 23 with (first | ((with_reducible refine gate_dst (N := 21) rfl ?_); refine ev_call rfl Tryz.func160 (by kernel_rfl) rfl #[.slice Ap1 a0.f3.length cp1, .int .i64 t4] rfl (by simp only [mpn]; rfl) ?_; refine (laws_szGotS.calls ht7.out (HS.ro gp1) lp1).mono ?_; rintro _ wt7 ⟨rfl, HQ⟩; refine ⟨_, rfl, ?_⟩; replace HS := HS.call HQ; clear HQ; (try clear F); (try simp only [hpn, hpm] at HS); have F := HS.boxes; simp only [bxn] at F))
 by_cases c9 : t7 < 0
 case pos =>
  replace H := zpos c9 H
  replace c9 := eq_true c9
  (try simp only [c9, dcn])
  obtain rfl := zsome H
  go_wp2
  go_ret
  exact ⟨rfl, HS.pick [] (by decide) (by rfl)⟩
 replace H := zneg c9 H
 replace c9 := eq_false c9
 (try simp only [c9, dcn])
 replace H := zbind H; obtain ⟨t10, ht10, H⟩ := H
 go_upto_if 29 with (first | ((with_reducible refine gate_dst (N := 27) rfl ?_); refine ev_call rfl Tryz.func85 (by kernel_rfl) rfl #[.slice Ap2 a0.f4.length cp2, .int .i64 t7] rfl (by simp only [mpn]; rfl) ?_; refine (laws_szIntS.calls ht10.out (HS.ro gp2) lp2).mono ?_; rintro _ wt10 ⟨rfl, HQ⟩; refine ⟨_, rfl, ?_⟩; replace HS := HS.call HQ; clear HQ; (try clear F); (try simp only [hpn, hpm] at HS); have F := HS.boxes; simp only [bxn] at F))
 by_cases c12 : t10 < 0
 case pos =>
  replace H := zpos c12 H
  replace c12 := eq_true c12
  (try simp only [c12, dcn])
  obtain rfl := zsome H
  go_wp2
  go_ret
  exact ⟨rfl, HS.pick [] (by decide) (by rfl)⟩
 replace H := zneg c12 H
 replace c12 := eq_false c12
 (try simp only [c12, dcn])
 obtain rfl := zsome H
 go_wp2
 go_ret
 exact ⟨rfl, HS.pick [] (by decide) (by rfl)⟩
/-! ### laws_szLetter: function 161 -/
def laws_szLetter.f (a0 : S214) (a1 : Int) : Option (Int) := (if (wrap64 (a1 - (a0.f1.size : Int))) < 0 then (some (-1)) else (some (wrap64 (a1 - (a0.f1.size : Int)))))
set_option maxHeartbeats 16000000 in
theorem laws_szLetter.calls {a0 : S214} {a1 : Int} {r : Int} {w : World} (h : laws_szLetter.f a0 a1 = some r) :
    Calls Tryz.prog 161 #[.agg #[.bool a0.f0, .string a0.f1], .int .i64 a1] w (fun e w' => e = .returned (.int .i64 r) ∧ Hp noFP w w' []) := by
 have HS := Hp.start w
 have H := Aside0.mk h
 clear h
 unfold laws_szLetter.f at H
 go_enter Tryz.func161, Tryz.ntmps161
 go_upto_if 11 with (first | ((with_reducible refine gate_dst (N := 2) rfl ?_); refine ev_box rfl HS (by first | (go_simp; done) | (go_simp; rfl)) rfl ?_; clear HS; (try clear F); intro g2 w2 HS; (try simp only [hpn, hpm] at HS); have F := HS.boxes; simp only [bxn] at F))
 by_cases c3 : (wrap64 (a1 - (a0.f1.size : Int))) < 0
 case pos =>
  replace H := zpos c3 H
  replace c3 := eq_true c3
  (try simp only [c3, dcn])
  obtain rfl := zsome H
  go_wp2
  go_ret
  exact ⟨rfl, HS.pick [] (by decide) (by rfl)⟩
 replace H := zneg c3 H
 replace c3 := eq_false c3
 (try simp only [c3, dcn])
 obtain rfl := zsome H
 go_wp2
 go_ret
 exact ⟨rfl, HS.pick [] (by decide) (by rfl)⟩
/-! ### laws_szLetterS: function 84 -/
def laws_szLetterS.l0 : Nat → Int → Int → (List S214) → Option (Int)
  | 0, _, _, _ => none
  | k + 1, x12, x13, a0 => (if x13 < (a0.length : Int) then (if 0 ≤ x13 then (if x13 < (a0.length : Int) then ((laws_szLetter.f (rd_T214 a0 x13) x12).bind fun t19 => (if t19 < 0 then (some (-1)) else (laws_szLetterS.l0 k t19 (wrap64 (x13 + 1)) a0))) else none) else none) else (some x12))
def laws_szLetterS.f (k : Nat) (a0 : (List S214)) (a1 : Int) : Option (Int) := (if (wrap64 (a1 - (a0.length : Int))) < 0 then (some (-1)) else (laws_szLetterS.l0 k (wrap64 (a1 - (a0.length : Int))) 0 a0))
set_option maxHeartbeats 16000000 in
theorem laws_szLetterS.calls {k : Nat} {a0 : (List S214)} {a1 : Int} {Ap0 : Option Addr} {np0 cp0 : Nat} {r : Int} {w : World} (h : laws_szLetterS.f k a0 a1 = some r) (gp0 : k214.C w Ap0 np0 a0) (lp0 : np0 ≤ cp0) :
    Calls Tryz.prog 84 #[.slice Ap0 np0 cp0, .int .i64 a1] w (fun e w' => e = .returned (.int .i64 r) ∧ Hp noFP w w' []) := by
 obtain rfl := C_len gp0
 have HS := Hp.start w
 have H := Aside0.mk h
 clear h
 unfold laws_szLetterS.f at H
 go_enter Tryz.func84, Tryz.ntmps84
 by_cases c1 : (wrap64 (a1 - (a0.length : Int))) < 0
 case pos =>
  replace H := zpos c1 H
  replace c1 := eq_true c1
  obtain rfl := zsome H
  go_wp2
  go_ret
  exact ⟨rfl, HS.pick [] (by decide) (by rfl)⟩
 replace H := zneg c1 H
 replace c1 := eq_false c1
 go_wp2
 go_loopg [1, 5] k (fun kq v_1 v_5 w' => ∃ (x12 : Int) (x13 : Int), v_1 = .int .i64 x12 ∧ v_5 = .int .i64 x13 ∧ Aside0 (laws_szLetterS.l0 kq x12 x13 a0 = some r) ∧ Aside0 (kq ≤ k) ∧ Hp noFP w w' [])
 case atStart => exact ⟨_, _, rfl, rfl, H, ⟨Nat.le_refl _⟩, HS⟩
 case round =>
  clear HS H; (try clear F)
  obtain ⟨x12, x13, rfl, rfl, H, HKk11, HS⟩ := hrel
  cases gk with
  | zero => exact absurd H.out (by simp [laws_szLetterS.l0])
  | succ k11 =>
   simp only [laws_szLetterS.l0] at H
   by_cases c15 : x13 < (a0.length : Int)
   case neg =>
    replace H := zneg c15 H
    replace c15 := eq_false c15
    obtain rfl := zsome H
    go_wp2
    go_ret
    exact ⟨rfl, HS.pick [] (by decide) (by rfl)⟩
   replace H := zpos c15 H
   replace c15 := eq_true c15
   by_cases c16 : 0 ≤ x13
   case neg => exact zno c16 H
   replace H := zpos c16 H
   replace c16 := eq_true c16
   by_cases c17 : x13 < (a0.length : Int)
   case neg => exact zno c17 H
   replace H := zpos c17 H
   replace c17 := eq_true c17
   obtain ⟨ad18, rfl, e18_0, e18_1⟩ := at_T214 gp0 x13 (of_eq_true c16) (of_eq_true c17)
   have e18_0_18 := (HS.keepc e18_0)
   have e18_1_18 := (HS.keepc e18_1)
   replace H := zbind H; obtain ⟨t19, ht19, H⟩ := H
   go_upto_if 25 with (first | ((with_reducible refine gate_dst (N := 23) rfl ?_); refine ev_call rfl Tryz.func161 (by kernel_rfl) rfl #[.agg #[.bool ((rd_T214 a0 x13).f0), .string ((rd_T214 a0 x13).f1)], .int .i64 x12] rfl (by simp only [mpn]; rfl) ?_; refine (laws_szLetter.calls ht19.out).mono ?_; rintro _ wt19 ⟨rfl, HQ⟩; refine ⟨_, rfl, ?_⟩; replace HS := HS.call HQ; clear HQ; (try clear F); (try simp only [hpn, hpm] at HS)))
   by_cases c21 : t19 < 0
   case pos =>
    replace H := zpos c21 H
    replace c21 := eq_true c21
    (try simp only [c21, dcn])
    obtain rfl := zsome H
    go_wp2
    go_ret
    exact ⟨rfl, HS.pick [] (by decide) (by rfl)⟩
   replace H := zneg c21 H
   replace c21 := eq_false c21
   (try simp only [c21, dcn])
   go_wp2
   go_roundg k11
   case measure => have := HKk11.out; omega
   case rel => exact ⟨_, _, rfl, rfl, H, ⟨by have := HKk11.out; omega⟩, HS.pick [] (by decide) (by rfl)⟩
/-! ### laws_szPose: function 162 -/
def laws_szPose.f (a0 : S217) (a1 : Int) : Option (Int) := (if (wrap64 (a1 - (a0.f1.size : Int))) < 0 then (some (-1)) else (some (wrap64 (a1 - (a0.f1.size : Int)))))
set_option maxHeartbeats 16000000 in
theorem laws_szPose.calls {a0 : S217} {a1 : Int} {r : Int} {w : World} (h : laws_szPose.f a0 a1 = some r) :
    Calls Tryz.prog 162 #[.agg #[.int .i64 a0.f0, .string a0.f1], .int .i64 a1] w (fun e w' => e = .returned (.int .i64 r) ∧ Hp noFP w w' []) := by
 have HS := Hp.start w
 have H := Aside0.mk h
 clear h
 unfold laws_szPose.f at H
 go_enter Tryz.func162, Tryz.ntmps162
 go_upto_if 11 with (first | ((with_reducible refine gate_dst (N := 2) rfl ?_); refine ev_box rfl HS (by first | (go_simp; done) | (go_simp; rfl)) rfl ?_; clear HS; (try clear F); intro g2 w2 HS; (try simp only [hpn, hpm] at HS); have F := HS.boxes; simp only [bxn] at F))
 by_cases c3 : (wrap64 (a1 - (a0.f1.size : Int))) < 0
 case pos =>
  replace H := zpos c3 H
  replace c3 := eq_true c3
  (try simp only [c3, dcn])
  obtain rfl := zsome H
  go_wp2
  go_ret
  exact ⟨rfl, HS.pick [] (by decide) (by rfl)⟩
 replace H := zneg c3 H
 replace c3 := eq_false c3
 (try simp only [c3, dcn])
 obtain rfl := zsome H
 go_wp2
 go_ret
 exact ⟨rfl, HS.pick [] (by decide) (by rfl)⟩
/-! ### laws_szPoseS: function 86 -/
def laws_szPoseS.l0 : Nat → Int → Int → (List S217) → Option (Int)
  | 0, _, _, _ => none
  | k + 1, x12, x13, a0 => (if x13 < (a0.length : Int) then (if 0 ≤ x13 then (if x13 < (a0.length : Int) then ((laws_szPose.f (rd_T217 a0 x13) x12).bind fun t19 => (if t19 < 0 then (some (-1)) else (laws_szPoseS.l0 k t19 (wrap64 (x13 + 1)) a0))) else none) else none) else (some x12))
def laws_szPoseS.f (k : Nat) (a0 : (List S217)) (a1 : Int) : Option (Int) := (if (wrap64 (a1 - (a0.length : Int))) < 0 then (some (-1)) else (laws_szPoseS.l0 k (wrap64 (a1 - (a0.length : Int))) 0 a0))
set_option maxHeartbeats 16000000 in
theorem laws_szPoseS.calls {k : Nat} {a0 : (List S217)} {a1 : Int} {Ap0 : Option Addr} {np0 cp0 : Nat} {r : Int} {w : World} (h : laws_szPoseS.f k a0 a1 = some r) (gp0 : k217.C w Ap0 np0 a0) (lp0 : np0 ≤ cp0) :
    Calls Tryz.prog 86 #[.slice Ap0 np0 cp0, .int .i64 a1] w (fun e w' => e = .returned (.int .i64 r) ∧ Hp noFP w w' []) := by
 obtain rfl := C_len gp0
 have HS := Hp.start w
 have H := Aside0.mk h
 clear h
 unfold laws_szPoseS.f at H
 go_enter Tryz.func86, Tryz.ntmps86
 by_cases c1 : (wrap64 (a1 - (a0.length : Int))) < 0
 case pos =>
  replace H := zpos c1 H
  replace c1 := eq_true c1
  obtain rfl := zsome H
  go_wp2
  go_ret
  exact ⟨rfl, HS.pick [] (by decide) (by rfl)⟩
 replace H := zneg c1 H
 replace c1 := eq_false c1
 go_wp2
 go_loopg [1, 5] k (fun kq v_1 v_5 w' => ∃ (x12 : Int) (x13 : Int), v_1 = .int .i64 x12 ∧ v_5 = .int .i64 x13 ∧ Aside0 (laws_szPoseS.l0 kq x12 x13 a0 = some r) ∧ Aside0 (kq ≤ k) ∧ Hp noFP w w' [])
 case atStart => exact ⟨_, _, rfl, rfl, H, ⟨Nat.le_refl _⟩, HS⟩
 case round =>
  clear HS H; (try clear F)
  obtain ⟨x12, x13, rfl, rfl, H, HKk11, HS⟩ := hrel
  cases gk with
  | zero => exact absurd H.out (by simp [laws_szPoseS.l0])
  | succ k11 =>
   simp only [laws_szPoseS.l0] at H
   by_cases c15 : x13 < (a0.length : Int)
   case neg =>
    replace H := zneg c15 H
    replace c15 := eq_false c15
    obtain rfl := zsome H
    go_wp2
    go_ret
    exact ⟨rfl, HS.pick [] (by decide) (by rfl)⟩
   replace H := zpos c15 H
   replace c15 := eq_true c15
   by_cases c16 : 0 ≤ x13
   case neg => exact zno c16 H
   replace H := zpos c16 H
   replace c16 := eq_true c16
   by_cases c17 : x13 < (a0.length : Int)
   case neg => exact zno c17 H
   replace H := zpos c17 H
   replace c17 := eq_true c17
   obtain ⟨ad18, rfl, e18_0, e18_1⟩ := at_T217 gp0 x13 (of_eq_true c16) (of_eq_true c17)
   have e18_0_18 := (HS.keepc e18_0)
   have e18_1_18 := (HS.keepc e18_1)
   replace H := zbind H; obtain ⟨t19, ht19, H⟩ := H
   go_upto_if 25 with (first | ((with_reducible refine gate_dst (N := 23) rfl ?_); refine ev_call rfl Tryz.func162 (by kernel_rfl) rfl #[.agg #[.int .i64 ((rd_T217 a0 x13).f0), .string ((rd_T217 a0 x13).f1)], .int .i64 x12] rfl (by simp only [mpn]; rfl) ?_; refine (laws_szPose.calls ht19.out).mono ?_; rintro _ wt19 ⟨rfl, HQ⟩; refine ⟨_, rfl, ?_⟩; replace HS := HS.call HQ; clear HQ; (try clear F); (try simp only [hpn, hpm] at HS)))
   by_cases c21 : t19 < 0
   case pos =>
    replace H := zpos c21 H
    replace c21 := eq_true c21
    (try simp only [c21, dcn])
    obtain rfl := zsome H
    go_wp2
    go_ret
    exact ⟨rfl, HS.pick [] (by decide) (by rfl)⟩
   replace H := zneg c21 H
   replace c21 := eq_false c21
   (try simp only [c21, dcn])
   go_wp2
   go_roundg k11
   case measure => have := HKk11.out; omega
   case rel => exact ⟨_, _, rfl, rfl, H, ⟨by have := HKk11.out; omega⟩, HS.pick [] (by decide) (by rfl)⟩
/-! ### laws_szWorld: function 21 -/
def laws_szWorld.f (k : Nat) (a0 : S59) (a1 : Int) : Option (Int) := ((laws_szServer.f k a0.f0 a1).bind fun t3 => (if t3 < 0 then (some (-1)) else ((laws_szClient.f k a0.f1 t3).bind fun t6 => (if t6 < 0 then (some (-1)) else ((laws_szCertS.f k a0.f2 t6).bind fun t9 => (if t9 < 0 then (some (-1)) else ((laws_szLetterS.f k a0.f3 t9).bind fun t12 => (if t12 < 0 then (some (-1)) else ((laws_szIntS.f a0.f4 t12).bind fun t15 => (if t15 < 0 then (some (-1)) else ((laws_szPoseS.f k a0.f5 t15).bind fun t18 => (if t18 < 0 then (some (-1)) else ((laws_szStringS.f k a0.f6 t18).bind fun t21 => (if t21 < 0 then (some (-1)) else ((laws_szStringS.f k a0.f7 t21).bind fun t24 => (if t24 < 0 then (some (-1)) else (some t24)))))))))))))))))
set_option maxHeartbeats 16000000 in
theorem laws_szWorld.calls {k : Nat} {a0 : S59} {a1 : Int} {Ap0 : Option Addr} {np0 cp0 : Nat} {Ap1 : Option Addr} {np1 cp1 : Nat} {Ap2 : Option Addr} {np2 cp2 : Nat} {Ap3 : Option Addr} {np3 cp3 : Nat} {Ap4 : Option Addr} {np4 cp4 : Nat} {Ap5 : Option Addr} {np5 cp5 : Nat} {Ap6 : Option Addr} {np6 cp6 : Nat} {Ap7 : Option Addr} {np7 cp7 : Nat} {Ap8 : Option Addr} {np8 cp8 : Nat} {Ap9 : Option Addr} {np9 cp9 : Nat} {Ap10 : Option Addr} {np10 cp10 : Nat} {Ap11 : Option Addr} {np11 cp11 : Nat} {Ap12 : Option Addr} {np12 cp12 : Nat} {Ap13 : Option Addr} {np13 cp13 : Nat} {r : Int} {w : World} (h : laws_szWorld.f k a0 a1 = some r) (gp0 : k88.C w Ap0 np0 a0.f0.f0.f0) (lp0 : np0 ≤ cp0) (gp1 : k75.C w Ap1 np1 a0.f0.f0.f1) (lp1 : np1 ≤ cp1) (gp2 : k178.C w Ap2 np2 a0.f0.f0.f2) (lp2 : np2 ≤ cp2) (gp3 : k196.C w Ap3 np3 a0.f0.f1) (lp3 : np3 ≤ cp3) (gp4 : k199.C w Ap4 np4 a0.f0.f5) (lp4 : np4 ≤ cp4) (gp5 : k265.C w Ap5 np5 a0.f1.f2) (lp5 : np5 ≤ cp5) (gp6 : k271.C w Ap6 np6 a0.f1.f3) (lp6 : np6 ≤ cp6) (gp7 : (Kd.int .i64).C w Ap7 np7 a0.f1.f4) (lp7 : np7 ≤ cp7) (gp8 : k88.C w Ap8 np8 a0.f2) (lp8 : np8 ≤ cp8) (gp9 : k214.C w Ap9 np9 a0.f3) (lp9 : np9 ≤ cp9) (gp10 : (Kd.int .i64).C w Ap10 np10 a0.f4) (lp10 : np10 ≤ cp10) (gp11 : k217.C w Ap11 np11 a0.f5) (lp11 : np11 ≤ cp11) (gp12 : Kd.string.C w Ap12 np12 a0.f6) (lp12 : np12 ≤ cp12) (gp13 : Kd.string.C w Ap13 np13 a0.f7) (lp13 : np13 ≤ cp13) :
    Calls Tryz.prog 21 #[.agg #[.slice Ap0 np0 cp0, .slice Ap1 np1 cp1, .slice Ap2 np2 cp2, .slice Ap3 np3 cp3, .int .i64 a0.f0.f2, .int .i64 a0.f0.f3, .int .i64 a0.f0.f4, .slice Ap4 np4 cp4, .string a0.f1.f0, .int .i64 a0.f1.f1, .slice Ap5 np5 cp5, .slice Ap6 np6 cp6, .slice Ap7 np7 cp7, .slice Ap8 np8 cp8, .slice Ap9 np9 cp9, .slice Ap10 np10 cp10, .slice Ap11 np11 cp11, .slice Ap12 np12 cp12, .slice Ap13 np13 cp13], .int .i64 a1] w (fun e w' => e = .returned (.int .i64 r) ∧ Hp noFP w w' []) := by
 obtain rfl := C_len gp0
 obtain rfl := C_len gp1
 obtain rfl := C_len gp2
 obtain rfl := C_len gp3
 obtain rfl := C_len gp4
 obtain rfl := C_len gp5
 obtain rfl := C_len gp6
 obtain rfl := C_len gp7
 obtain rfl := C_len gp8
 obtain rfl := C_len gp9
 obtain rfl := C_len gp10
 obtain rfl := C_len gp11
 obtain rfl := C_len gp12
 obtain rfl := C_len gp13
 have HS := Hp.start w
 have H := Aside0.mk h
 clear h
 unfold laws_szWorld.f at H
 go_enter Tryz.func21, Tryz.ntmps21
 replace H := zbind H; obtain ⟨t3, ht3, H⟩ := H
 go_upto_if 10 with (first | ((with_reducible refine gate_dst (N := 2) rfl ?_); refine ev_box rfl HS (by first | (go_simp; done) | (go_simp; rfl)) rfl ?_; clear HS; (try clear F); intro g2 w2 HS; (try simp only [hpn, hpm] at HS); have F := HS.boxes; simp only [bxn] at F) | ((with_reducible refine gate_dst (N := 8) rfl ?_); refine ev_call rfl Tryz.func16 (by kernel_rfl) rfl #[.agg #[.slice Ap0 a0.f0.f0.f0.length cp0, .slice Ap1 a0.f0.f0.f1.length cp1, .slice Ap2 a0.f0.f0.f2.length cp2, .slice Ap3 a0.f0.f1.length cp3, .int .i64 a0.f0.f2, .int .i64 a0.f0.f3, .int .i64 a0.f0.f4, .slice Ap4 a0.f0.f5.length cp4], .int .i64 a1] rfl (by simp only [mpn]; rfl) ?_; refine (laws_szServer.calls ht3.out (HS.ro gp0) lp0 (HS.ro gp1) lp1 (HS.ro gp2) lp2 (HS.ro gp3) lp3 (HS.ro gp4) lp4).mono ?_; rintro _ wt3 ⟨rfl, HQ⟩; refine ⟨_, rfl, ?_⟩; replace HS := HS.call HQ; clear HQ; (try clear F); (try simp only [hpn, hpm] at HS); have F := HS.boxes; simp only [bxn] at F))
 by_cases c5 : t3 < 0
 case pos =>
  replace H := zpos c5 H
  replace c5 := eq_true c5
  (try simp only [c5, dcn])
  obtain rfl := zsome H
  go_wp2
  go_ret
  exact ⟨rfl, HS.pick [] (by decide) (by rfl)⟩
 replace H := zneg c5 H
 replace c5 := eq_false c5
 (try simp only [c5, dcn])
 replace H := zbind H; obtain ⟨t6, ht6, H⟩ := H
 go_upto_if 16 with (first | ((with_reducible refine gate_dst (N := 14) rfl ?_); refine ev_call rfl Tryz.func83 (by kernel_rfl) rfl #[.agg #[.string a0.f1.f0, .int .i64 a0.f1.f1, .slice Ap5 a0.f1.f2.length cp5, .slice Ap6 a0.f1.f3.length cp6, .slice Ap7 a0.f1.f4.length cp7], .int .i64 t3] rfl (by simp only [mpn]; rfl) ?_; refine (laws_szClient.calls ht6.out (HS.ro gp5) lp5 (HS.ro gp6) lp6 (HS.ro gp7) lp7).mono ?_; rintro _ wt6 ⟨rfl, HQ⟩; refine ⟨_, rfl, ?_⟩; replace HS := HS.call HQ; clear HQ; (try clear F); (try simp only [hpn, hpm] at HS); have F := HS.boxes; simp only [bxn] at F))
 by_cases c8 : t6 < 0
 case pos =>
  replace H := zpos c8 H
  replace c8 := eq_true c8
  (try simp only [c8, dcn])
  obtain rfl := zsome H
  go_wp2
  go_ret
  exact ⟨rfl, HS.pick [] (by decide) (by rfl)⟩
 replace H := zneg c8 H
 replace c8 := eq_false c8
 (try simp only [c8, dcn])
 replace H := zbind H; obtain ⟨t9, ht9, H⟩ := H
 go_upto_if 22 with (first | ((with_reducible refine gate_dst (N := 20) rfl ?_); refine ev_call rfl Tryz.func51 (by kernel_rfl) rfl #[.slice Ap8 a0.f2.length cp8, .int .i64 t6] rfl (by simp only [mpn]; rfl) ?_; refine (laws_szCertS.calls ht9.out (HS.ro gp8) lp8).mono ?_; rintro _ wt9 ⟨rfl, HQ⟩; refine ⟨_, rfl, ?_⟩; replace HS := HS.call HQ; clear HQ; (try clear F); (try simp only [hpn, hpm] at HS); have F := HS.boxes; simp only [bxn] at F))
 by_cases c11 : t9 < 0
 case pos =>
  replace H := zpos c11 H
  replace c11 := eq_true c11
  (try simp only [c11, dcn])
  obtain rfl := zsome H
  go_wp2
  go_ret
  exact ⟨rfl, HS.pick [] (by decide) (by rfl)⟩
 replace H := zneg c11 H
 replace c11 := eq_false c11
 (try simp only [c11, dcn])
 replace H := zbind H; obtain ⟨t12, ht12, H⟩ := H
 go_upto_if 28 with (first | ((with_reducible refine gate_dst (N := 26) rfl ?_); refine ev_call rfl Tryz.func84 (by kernel_rfl) rfl #[.slice Ap9 a0.f3.length cp9, .int .i64 t9] rfl (by simp only [mpn]; rfl) ?_; refine (laws_szLetterS.calls ht12.out (HS.ro gp9) lp9).mono ?_; rintro _ wt12 ⟨rfl, HQ⟩; refine ⟨_, rfl, ?_⟩; replace HS := HS.call HQ; clear HQ; (try clear F); (try simp only [hpn, hpm] at HS); have F := HS.boxes; simp only [bxn] at F))
 by_cases c14 : t12 < 0
 case pos =>
  replace H := zpos c14 H
  replace c14 := eq_true c14
  (try simp only [c14, dcn])
  obtain rfl := zsome H
  go_wp2
  go_ret
  exact ⟨rfl, HS.pick [] (by decide) (by rfl)⟩
 replace H := zneg c14 H
 replace c14 := eq_false c14
 (try simp only [c14, dcn])
 replace H := zbind H; obtain ⟨t15, ht15, H⟩ := H
 go_upto_if 34 with (first | ((with_reducible refine gate_dst (N := 32) rfl ?_); refine ev_call rfl Tryz.func85 (by kernel_rfl) rfl #[.slice Ap10 a0.f4.length cp10, .int .i64 t12] rfl (by simp only [mpn]; rfl) ?_; refine (laws_szIntS.calls ht15.out (HS.ro gp10) lp10).mono ?_; rintro _ wt15 ⟨rfl, HQ⟩; refine ⟨_, rfl, ?_⟩; replace HS := HS.call HQ; clear HQ; (try clear F); (try simp only [hpn, hpm] at HS); have F := HS.boxes; simp only [bxn] at F))
 by_cases c17 : t15 < 0
 case pos =>
  replace H := zpos c17 H
  replace c17 := eq_true c17
  (try simp only [c17, dcn])
  obtain rfl := zsome H
  go_wp2
  go_ret
  exact ⟨rfl, HS.pick [] (by decide) (by rfl)⟩
 replace H := zneg c17 H
 replace c17 := eq_false c17
 (try simp only [c17, dcn])
 replace H := zbind H; obtain ⟨t18, ht18, H⟩ := H
 go_upto_if 40 with (first | ((with_reducible refine gate_dst (N := 38) rfl ?_); refine ev_call rfl Tryz.func86 (by kernel_rfl) rfl #[.slice Ap11 a0.f5.length cp11, .int .i64 t15] rfl (by simp only [mpn]; rfl) ?_; refine (laws_szPoseS.calls ht18.out (HS.ro gp11) lp11).mono ?_; rintro _ wt18 ⟨rfl, HQ⟩; refine ⟨_, rfl, ?_⟩; replace HS := HS.call HQ; clear HQ; (try clear F); (try simp only [hpn, hpm] at HS); have F := HS.boxes; simp only [bxn] at F))
 by_cases c20 : t18 < 0
 case pos =>
  replace H := zpos c20 H
  replace c20 := eq_true c20
  (try simp only [c20, dcn])
  obtain rfl := zsome H
  go_wp2
  go_ret
  exact ⟨rfl, HS.pick [] (by decide) (by rfl)⟩
 replace H := zneg c20 H
 replace c20 := eq_false c20
 (try simp only [c20, dcn])
 replace H := zbind H; obtain ⟨t21, ht21, H⟩ := H
 go_upto_if 46 with (first | ((with_reducible refine gate_dst (N := 44) rfl ?_); refine ev_call rfl Tryz.func87 (by kernel_rfl) rfl #[.slice Ap12 a0.f6.length cp12, .int .i64 t18] rfl (by simp only [mpn]; rfl) ?_; refine (laws_szStringS.calls ht21.out (HS.ro gp12) lp12).mono ?_; rintro _ wt21 ⟨rfl, HQ⟩; refine ⟨_, rfl, ?_⟩; replace HS := HS.call HQ; clear HQ; (try clear F); (try simp only [hpn, hpm] at HS); have F := HS.boxes; simp only [bxn] at F))
 by_cases c23 : t21 < 0
 case pos =>
  replace H := zpos c23 H
  replace c23 := eq_true c23
  (try simp only [c23, dcn])
  obtain rfl := zsome H
  go_wp2
  go_ret
  exact ⟨rfl, HS.pick [] (by decide) (by rfl)⟩
 replace H := zneg c23 H
 replace c23 := eq_false c23
 (try simp only [c23, dcn])
 replace H := zbind H; obtain ⟨t24, ht24, H⟩ := H
 go_upto_if 52 with (first | ((with_reducible refine gate_dst (N := 50) rfl ?_); refine ev_call rfl Tryz.func87 (by kernel_rfl) rfl #[.slice Ap13 a0.f7.length cp13, .int .i64 t21] rfl (by simp only [mpn]; rfl) ?_; refine (laws_szStringS.calls ht24.out (HS.ro gp13) lp13).mono ?_; rintro _ wt24 ⟨rfl, HQ⟩; refine ⟨_, rfl, ?_⟩; replace HS := HS.call HQ; clear HQ; (try clear F); (try simp only [hpn, hpm] at HS); have F := HS.boxes; simp only [bxn] at F))
 by_cases c26 : t24 < 0
 case pos =>
  replace H := zpos c26 H
  replace c26 := eq_true c26
  (try simp only [c26, dcn])
  obtain rfl := zsome H
  go_wp2
  go_ret
  exact ⟨rfl, HS.pick [] (by decide) (by rfl)⟩
 replace H := zneg c26 H
 replace c26 := eq_false c26
 (try simp only [c26, dcn])
 obtain rfl := zsome H
 go_wp2
 go_ret
 exact ⟨rfl, HS.pick [] (by decide) (by rfl)⟩
/-! ### spec_l01Figure: function 164 -/
def spec_l01Figure.f (a0 : Int) : Option (Int) := (if a0 < 10 then (some ((wrap64 (48 + a0)) % 256)) else (some ((wrap64 ((wrap64 (97 + a0)) - 10)) % 256)))
set_option maxHeartbeats 16000000 in
theorem spec_l01Figure.calls {a0 : Int} {r : Int} {w : World} (h : spec_l01Figure.f a0 = some r) :
    Calls Tryz.prog 164 #[.int .i64 a0] w (fun e w' => e = .returned (.int .u8 r) ∧ Hp noFP w w' []) := by
 have HS := Hp.start w
 have H := Aside0.mk h
 clear h
 unfold spec_l01Figure.f at H
 go_enter Tryz.func164, Tryz.ntmps164
 by_cases c1 : a0 < 10
 case pos =>
  replace H := zpos c1 H
  replace c1 := eq_true c1
  obtain rfl := zsome H
  go_wp2
  go_ret
  exact ⟨rfl, HS.pick [] (by decide) (by rfl)⟩
 replace H := zneg c1 H
 replace c1 := eq_false c1
 obtain rfl := zsome H
 go_wp2
 go_ret
 exact ⟨rfl, HS.pick [] (by decide) (by rfl)⟩
/-! ### spec_Decimal: function 90 -/
def spec_Decimal.l0 : Nat → Int → ByteArray → Int → Option (ByteArray)
  | 0, _, _, _ => none
  | k + 1, x10, x11, a0 => (if x10 = 0 then (if a0 < 0 then (if (⟨#[45]⟩ : ByteArray).size + x11.size ≤ 9223372036854775807 then (some ((⟨#[45]⟩ : ByteArray) ++ x11)) else none) else (some x11)) else (if (Int.tmod x10 10) < 0 then ((spec_l01Figure.f (wrap64 (-(Int.tmod x10 10)))).bind fun t17 => (if (strOfNums ([t17] : List Int)).size + x11.size ≤ 9223372036854775807 then (spec_Decimal.l0 k (wrap64 (Int.tdiv x10 10)) ((strOfNums ([t17] : List Int)) ++ x11) a0) else none)) else ((spec_l01Figure.f (Int.tmod x10 10)).bind fun t22 => (if (strOfNums ([t22] : List Int)).size + x11.size ≤ 9223372036854775807 then (spec_Decimal.l0 k (wrap64 (Int.tdiv x10 10)) ((strOfNums ([t22] : List Int)) ++ x11) a0) else none))))
def spec_Decimal.f (k : Nat) (a0 : Int) : Option (ByteArray) := (if a0 = 0 then (some (⟨#[48]⟩ : ByteArray)) else (spec_Decimal.l0 k a0 (⟨#[]⟩ : ByteArray) a0))
set_option maxHeartbeats 16000000 in
theorem spec_Decimal.calls {k : Nat} {a0 : Int} {r : ByteArray} {w : World} (h : spec_Decimal.f k a0 = some r) :
    Calls Tryz.prog 90 #[.int .i64 a0] w (fun e w' => e = .returned (.string r) ∧ Hp noFP w w' []) := by
 have HS := Hp.start w
 have H := Aside0.mk h
 clear h
 unfold spec_Decimal.f at H
 go_enter Tryz.func90, Tryz.ntmps90
 by_cases c1 : a0 = 0
 case pos =>
  replace H := zpos c1 H
  have c1a := beq_iff_eq.mpr c1
  have c1b := bne_eq_false_iff_eq.mpr c1
  clear c1
  obtain rfl := zsome H
  go_wp2
  go_ret
  exact ⟨rfl, HS.pick [] (by decide) (by rfl)⟩
 replace H := zneg c1 H
 have c1a := beq_eq_false_iff_ne.mpr c1
 have c1b := bne_iff_ne.mpr c1
 clear c1
 go_wp2
 go_loopg [0, 4] k (fun kq v_0 v_4 w' => ∃ (x10 : Int) (x11 : ByteArray), v_0 = .int .i64 x10 ∧ v_4 = .string x11 ∧ Aside0 (spec_Decimal.l0 kq x10 x11 a0 = some r) ∧ Aside0 (kq ≤ k) ∧ Hp noFP w w' [])
 case atStart => exact ⟨_, _, rfl, rfl, H, ⟨Nat.le_refl _⟩, HS⟩
 case round =>
  clear HS H; (try clear F)
  obtain ⟨x10, x11, rfl, rfl, H, HKk9, HS⟩ := hrel
  cases gk with
  | zero => exact absurd H.out (by simp [spec_Decimal.l0])
  | succ k9 =>
   simp only [spec_Decimal.l0] at H
   by_cases c13 : x10 = 0
   case pos =>
    replace H := zpos c13 H
    have c13a := beq_iff_eq.mpr c13
    have c13b := bne_eq_false_iff_eq.mpr c13
    clear c13
    by_cases c14 : a0 < 0
    case neg =>
     replace H := zneg c14 H
     replace c14 := eq_false c14
     obtain rfl := zsome H
     go_wp2
     all_goals (try (exfalso; have hq := of_eq_false c14; omega))
     go_ret
     exact ⟨rfl, HS.pick [] (by decide) (by rfl)⟩
    replace H := zpos c14 H
    replace c14 := eq_true c14
    by_cases c15 : (⟨#[45]⟩ : ByteArray).size + x11.size ≤ 9223372036854775807
    case neg => exact zno c15 H
    replace H := zpos c15 H
    replace c15 := eq_true c15
    obtain rfl := zsome H
    go_wp2_with (first | ((with_reducible refine gate_dst (N := 28) rfl ?_); refine ev_val rfl (run_cat rfl rfl rfl (of_eq_true c15)) ?_))
    all_goals (try (exfalso; have hq := of_eq_true c14; omega))
    go_ret
    exact ⟨rfl, HS.pick [] (by decide) (by rfl)⟩
   replace H := zneg c13 H
   have c13a := beq_eq_false_iff_ne.mpr c13
   have c13b := bne_iff_ne.mpr c13
   clear c13
   by_cases c16 : (Int.tmod x10 10) < 0
   case neg =>
    replace H := zneg c16 H
    replace c16 := eq_false c16
    replace H := zbind H; obtain ⟨t22, ht22, H⟩ := H
    by_cases c26 : (strOfNums ([t22] : List Int)).size + x11.size ≤ 9223372036854775807
    case neg => exact zno c26 H
    replace H := zpos c26 H
    replace c26 := eq_true c26
    go_wp2_with (first | ((with_reducible refine gate_dst (N := 19) rfl ?_); refine ev_call rfl Tryz.func164 (by kernel_rfl) rfl #[.int .i64 (Int.tmod x10 10)] rfl (by simp only [mpn]; rfl) ?_; refine (spec_l01Figure.calls ht22.out).mono ?_; rintro _ wt22 ⟨rfl, HQ⟩; refine ⟨_, rfl, ?_⟩; replace HS := HS.call HQ; clear HQ; (try clear F); (try simp only [hpn, hpm] at HS)) | ((with_reducible refine gate_dst (N := 20) rfl ?_); refine ev_lit rfl (Zd.int .u8) [] ([t22] : List Int) ([.int .u8 t22] ++ []) HS (by first | (go_simp; done) | (go_simp; rfl)) rfl rfl (Nat.le_of_ble_eq_true rfl) (MadeL.cons (js1 := []) (c := [.int .u8 t22]) rfl (made_flat (fun _ => rfl)) MadeL.nil (by decide)) ?_; clear HS; (try clear F); intro v24 w24 HS; obtain ⟨B24, d24, rfl, m24⟩ := HS.formn 1 0 rfl rfl; (try simp only [hpn, hpm] at HS)) | ((with_reducible refine gate_dst (N := 21) rfl ?_); refine ev_val rfl (run_str rfl rfl Tryz.underlying225 Tryz.underlying5 Tryz.underlying9 (HS.rd 0 rfl)) ?_) | ((with_reducible refine gate_dst (N := 23) rfl ?_); refine ev_val rfl (run_cat rfl rfl rfl (of_eq_true c26)) ?_))
    go_roundg k9
    case measure => have := HKk9.out; omega
    case rel => exact ⟨_, _, rfl, rfl, H, ⟨by have := HKk9.out; omega⟩, HS.pick [] (by decide) (by rfl)⟩
   replace H := zpos c16 H
   replace c16 := eq_true c16
   replace H := zbind H; obtain ⟨t17, ht17, H⟩ := H
   by_cases c21 : (strOfNums ([t17] : List Int)).size + x11.size ≤ 9223372036854775807
   case neg => exact zno c21 H
   replace H := zpos c21 H
   replace c21 := eq_true c21
   go_wp2_with (first | ((with_reducible refine gate_dst (N := 19) rfl ?_); refine ev_call rfl Tryz.func164 (by kernel_rfl) rfl #[.int .i64 (wrap64 (-(Int.tmod x10 10)))] rfl (by simp only [mpn]; rfl) ?_; refine (spec_l01Figure.calls ht17.out).mono ?_; rintro _ wt17 ⟨rfl, HQ⟩; refine ⟨_, rfl, ?_⟩; replace HS := HS.call HQ; clear HQ; (try clear F); (try simp only [hpn, hpm] at HS)) | ((with_reducible refine gate_dst (N := 20) rfl ?_); refine ev_lit rfl (Zd.int .u8) [] ([t17] : List Int) ([.int .u8 t17] ++ []) HS (by first | (go_simp; done) | (go_simp; rfl)) rfl rfl (Nat.le_of_ble_eq_true rfl) (MadeL.cons (js1 := []) (c := [.int .u8 t17]) rfl (made_flat (fun _ => rfl)) MadeL.nil (by decide)) ?_; clear HS; (try clear F); intro v19 w19 HS; obtain ⟨B19, d19, rfl, m19⟩ := HS.formn 1 0 rfl rfl; (try simp only [hpn, hpm] at HS)) | ((with_reducible refine gate_dst (N := 21) rfl ?_); refine ev_val rfl (run_str rfl rfl Tryz.underlying225 Tryz.underlying5 Tryz.underlying9 (HS.rd 0 rfl)) ?_) | ((with_reducible refine gate_dst (N := 23) rfl ?_); refine ev_val rfl (run_cat rfl rfl rfl (of_eq_true c21)) ?_))
   go_roundg k9
   case measure => have := HKk9.out; omega
   case rel => exact ⟨_, _, rfl, rfl, H, ⟨by have := HKk9.out; omega⟩, HS.pick [] (by decide) (by rfl)⟩
/-! ### spec_l21Num: function 89 -/
def spec_l21Num.f (k : Nat) (a0 : Int) : Option (ByteArray) := (if a0 < 0 then (some (⟨#[48]⟩ : ByteArray)) else ((spec_Decimal.f k a0).bind fun t2 => (some t2)))
set_option maxHeartbeats 16000000 in
theorem spec_l21Num.calls {k : Nat} {a0 : Int} {r : ByteArray} {w : World} (h : spec_l21Num.f k a0 = some r) :
    Calls Tryz.prog 89 #[.int .i64 a0] w (fun e w' => e = .returned (.string r) ∧ Hp noFP w w' []) := by
 have HS := Hp.start w
 have H := Aside0.mk h
 clear h
 unfold spec_l21Num.f at H
 go_enter Tryz.func89, Tryz.ntmps89
 by_cases c1 : a0 < 0
 case pos =>
  replace H := zpos c1 H
  replace c1 := eq_true c1
  obtain rfl := zsome H
  go_wp2
  go_ret
  exact ⟨rfl, HS.pick [] (by decide) (by rfl)⟩
 replace H := zneg c1 H
 replace c1 := eq_false c1
 replace H := zbind H; obtain ⟨t2, ht2, H⟩ := H
 obtain rfl := zsome H
 go_wp2_with (first | ((with_reducible refine gate_dst (N := 6) rfl ?_); refine ev_call rfl Tryz.func90 (by kernel_rfl) rfl #[.int .i64 a0] rfl (by simp only [mpn]; rfl) ?_; refine (spec_Decimal.calls ht2.out).mono ?_; rintro _ wt2 ⟨rfl, HQ⟩; refine ⟨_, rfl, ?_⟩; replace HS := HS.call HQ; clear HQ; (try clear F); (try simp only [hpn, hpm] at HS)))
 go_ret
 exact ⟨rfl, HS.pick [] (by decide) (by rfl)⟩
end Go.Proofs.YtacocpknielofaaGreatDoor.F

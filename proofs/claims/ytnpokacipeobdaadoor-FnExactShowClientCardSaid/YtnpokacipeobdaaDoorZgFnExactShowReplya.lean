/- Functions of the program and of the law, and that their calls do what is written here. -/
import Derived.Test.YtnpokacipeobdaaDoorZT
namespace Go.Proofs.YtnpokacipeobdaaDoor.F
open Go.RowKit Go.Proofs.YtnpokacipeobdaaDoorW.PrintWords Go.Proofs.YtnpokacipeobdaaDoorW.PrintLast Go.Proofs.YtnpokacipeobdaaDoorW.PrintMore Go.Proofs.YtnpokacipeobdaaDoor.Z
attribute [local go_sem] max2_int min2_int max_two min_two max_three min_three max_four min_four
set_option linter.unusedVariables false
set_option linter.unusedSimpArgs false
set_option maxRecDepth 100000
/-! ### laws_szStringS: function 47 -/
def laws_szStringS.l0 : Nat → Int → Int → (List ByteArray) → Option (Int)
  | 0, _, _, _ => none
  | k + 1, x9, x10, a0 => (if x10 < (a0.length : Int) then (if 0 ≤ x10 then (if x10 < (a0.length : Int) then (if (wrap64 (x9 - ((rdOf ByteArray.empty a0 x10).size : Int))) < 0 then (some (-1)) else (laws_szStringS.l0 k (wrap64 (x9 - ((rdOf ByteArray.empty a0 x10).size : Int))) (wrap64 (x10 + 1)) a0)) else none) else none) else (some x9))
def laws_szStringS.f (k : Nat) (a0 : (List ByteArray)) (a1 : Int) : Option (Int) := (if (wrap64 (a1 - (a0.length : Int))) < 0 then (some (-1)) else (laws_szStringS.l0 k (wrap64 (a1 - (a0.length : Int))) 0 a0))
set_option maxHeartbeats 16000000 in
theorem laws_szStringS.calls {k : Nat} {a0 : (List ByteArray)} {a1 : Int} {Ap0 : Option Addr} {np0 cp0 : Nat} {r : Int} {w : World} (h : laws_szStringS.f k a0 a1 = some r) (gp0 : Kd.string.C w Ap0 np0 a0) (lp0 : np0 ≤ cp0) :
    Calls Tryd.prog 47 #[.slice Ap0 np0 cp0, .int .i64 a1] w (fun e w' => e = .returned (.int .i64 r) ∧ Hp noFP w w' []) := by
 obtain rfl := C_len gp0
 have HS := Hp.start w
 have H := Aside0.mk h
 clear h
 unfold laws_szStringS.f at H
 go_enter Tryd.func47, Tryd.ntmps47
 by_cases c1 : (wrap64 (a1 - (a0.length : Int))) < 0
 case pos =>
  replace H := zpos c1 H
  replace c1 := eq_true c1
  obtain rfl := zsome H
  go_wp2
  go_ret
  exact ⟨rfl, HS.pick [] (by decide) (by rfl)⟩
 replace H := zneg c1 H
 replace c1 := eq_false c1
 go_wp2
 go_loopg [1, 5] k (fun kq v_1 v_5 w' => ∃ (x9 : Int) (x10 : Int), v_1 = .int .i64 x9 ∧ v_5 = .int .i64 x10 ∧ Aside0 (laws_szStringS.l0 kq x9 x10 a0 = some r) ∧ Aside0 (kq ≤ k) ∧ Hp noFP w w' [])
 case atStart => exact ⟨_, _, rfl, rfl, H, ⟨Nat.le_refl _⟩, HS⟩
 case round =>
  clear HS H; (try clear F)
  obtain ⟨x9, x10, rfl, rfl, H, HKk8, HS⟩ := hrel
  cases gk with
  | zero => exact absurd H.out (by simp [laws_szStringS.l0])
  | succ k8 =>
   simp only [laws_szStringS.l0] at H
   by_cases c12 : x10 < (a0.length : Int)
   case neg =>
    replace H := zneg c12 H
    replace c12 := eq_false c12
    obtain rfl := zsome H
    go_wp2
    go_ret
    exact ⟨rfl, HS.pick [] (by decide) (by rfl)⟩
   replace H := zpos c12 H
   replace c12 := eq_true c12
   by_cases c13 : 0 ≤ x10
   case neg => exact zno c13 H
   replace H := zpos c13 H
   replace c13 := eq_true c13
   by_cases c14 : x10 < (a0.length : Int)
   case neg => exact zno c14 H
   replace H := zpos c14 H
   replace c14 := eq_true c14
   obtain ⟨ad15, rfl, e15_0⟩ := Kd.at_string gp0 x10 (of_eq_true c13) (of_eq_true c14)
   have e15_0_15 := (HS.keepc e15_0)
   by_cases c16 : (wrap64 (x9 - ((rdOf ByteArray.empty a0 x10).size : Int))) < 0
   case pos =>
    replace H := zpos c16 H
    replace c16 := eq_true c16
    obtain rfl := zsome H
    go_wp2
    go_ret
    exact ⟨rfl, HS.pick [] (by decide) (by rfl)⟩
   replace H := zneg c16 H
   replace c16 := eq_false c16
   go_wp2
   go_roundg k8
   case measure => have := HKk8.out; omega
   case rel => exact ⟨_, _, rfl, rfl, H, ⟨by have := HKk8.out; omega⟩, HS.pick [] (by decide) (by rfl)⟩
/-! ### laws_szAnswer: function 73 -/
def laws_szAnswer.f (k : Nat) (a0 : S112) (a1 : Int) : Option (Int) := ((laws_szStringS.f k a0.f2 a1).bind fun t3 => (if t3 < 0 then (some (-1)) else ((laws_szStringS.f k a0.f3 t3).bind fun t6 => (if t6 < 0 then (some (-1)) else (some t6)))))
set_option maxHeartbeats 16000000 in
theorem laws_szAnswer.calls {k : Nat} {a0 : S112} {a1 : Int} {Ap0 : Option Addr} {np0 cp0 : Nat} {Ap1 : Option Addr} {np1 cp1 : Nat} {r : Int} {w : World} (h : laws_szAnswer.f k a0 a1 = some r) (gp0 : Kd.string.C w Ap0 np0 a0.f2) (lp0 : np0 ≤ cp0) (gp1 : Kd.string.C w Ap1 np1 a0.f3) (lp1 : np1 ≤ cp1) :
    Calls Tryd.prog 73 #[.agg #[.int .i64 a0.f0, .int .i64 a0.f1, .slice Ap0 np0 cp0, .slice Ap1 np1 cp1], .int .i64 a1] w (fun e w' => e = .returned (.int .i64 r) ∧ Hp noFP w w' []) := by
 obtain rfl := C_len gp0
 obtain rfl := C_len gp1
 have HS := Hp.start w
 have H := Aside0.mk h
 clear h
 unfold laws_szAnswer.f at H
 go_enter Tryd.func73, Tryd.ntmps73
 replace H := zbind H; obtain ⟨t3, ht3, H⟩ := H
 go_upto_if 10 with (first | ((with_reducible refine gate_dst (N := 2) rfl ?_); refine ev_box rfl HS (by first | (go_simp; done) | (go_simp; rfl)) rfl ?_; clear HS; (try clear F); intro g2 w2 HS; (try simp only [hpn, hpm] at HS); have F := HS.boxes; simp only [bxn] at F) | ((with_reducible refine gate_dst (N := 8) rfl ?_); refine ev_call rfl Tryd.func47 (by kernel_rfl) rfl #[.slice Ap0 a0.f2.length cp0, .int .i64 a1] rfl (by simp only [mpn]; rfl) ?_; refine (laws_szStringS.calls ht3.out (HS.ro gp0) lp0).mono ?_; rintro _ wt3 ⟨rfl, HQ⟩; refine ⟨_, rfl, ?_⟩; replace HS := HS.call HQ; clear HQ; (try clear F); (try simp only [hpn, hpm] at HS); have F := HS.boxes; simp only [bxn] at F))
 by_cases c5 : t3 < 0
 case pos =>
  replace H := zpos c5 H
  replace c5 := eq_true c5
  (try simp only [c5, dcn])
  obtain rfl := zsome H
  go_wp2
  go_ret
  exact ⟨rfl, HS.pick [] (by decide) (by rfl)⟩
 replace H := zneg c5 H
 replace c5 := eq_false c5
 (try simp only [c5, dcn])
 replace H := zbind H; obtain ⟨t6, ht6, H⟩ := H
 go_upto_if 16 with (first | ((with_reducible refine gate_dst (N := 14) rfl ?_); refine ev_call rfl Tryd.func47 (by kernel_rfl) rfl #[.slice Ap1 a0.f3.length cp1, .int .i64 t3] rfl (by simp only [mpn]; rfl) ?_; refine (laws_szStringS.calls ht6.out (HS.ro gp1) lp1).mono ?_; rintro _ wt6 ⟨rfl, HQ⟩; refine ⟨_, rfl, ?_⟩; replace HS := HS.call HQ; clear HQ; (try clear F); (try simp only [hpn, hpm] at HS); have F := HS.boxes; simp only [bxn] at F))
 by_cases c8 : t6 < 0
 case pos =>
  replace H := zpos c8 H
  replace c8 := eq_true c8
  (try simp only [c8, dcn])
  obtain rfl := zsome H
  go_wp2
  go_ret
  exact ⟨rfl, HS.pick [] (by decide) (by rfl)⟩
 replace H := zneg c8 H
 replace c8 := eq_false c8
 (try simp only [c8, dcn])
 obtain rfl := zsome H
 go_wp2
 go_ret
 exact ⟨rfl, HS.pick [] (by decide) (by rfl)⟩
/-! ### laws_szAnswerS: function 39 -/
def laws_szAnswerS.l0 : Nat → Int → Int → (List S112) → Option (Int)
  | 0, _, _, _ => none
  | k + 1, x12, x13, a0 => (if x13 < (a0.length : Int) then (if 0 ≤ x13 then (if x13 < (a0.length : Int) then ((laws_szAnswer.f k (rd_T112 a0 x13) x12).bind fun t19 => (if t19 < 0 then (some (-1)) else (laws_szAnswerS.l0 k t19 (wrap64 (x13 + 1)) a0))) else none) else none) else (some x12))
def laws_szAnswerS.f (k : Nat) (a0 : (List S112)) (a1 : Int) : Option (Int) := (if (wrap64 (a1 - (a0.length : Int))) < 0 then (some (-1)) else (laws_szAnswerS.l0 k (wrap64 (a1 - (a0.length : Int))) 0 a0))
set_option maxHeartbeats 16000000 in
theorem laws_szAnswerS.calls {k : Nat} {a0 : (List S112)} {a1 : Int} {Ap0 : Option Addr} {np0 cp0 : Nat} {r : Int} {w : World} (h : laws_szAnswerS.f k a0 a1 = some r) (gp0 : k112.C w Ap0 np0 a0) (lp0 : np0 ≤ cp0) :
    Calls Tryd.prog 39 #[.slice Ap0 np0 cp0, .int .i64 a1] w (fun e w' => e = .returned (.int .i64 r) ∧ Hp noFP w w' []) := by
 obtain rfl := C_len gp0
 have HS := Hp.start w
 have H := Aside0.mk h
 clear h
 unfold laws_szAnswerS.f at H
 go_enter Tryd.func39, Tryd.ntmps39
 by_cases c1 : (wrap64 (a1 - (a0.length : Int))) < 0
 case pos =>
  replace H := zpos c1 H
  replace c1 := eq_true c1
  obtain rfl := zsome H
  go_wp2
  go_ret
  exact ⟨rfl, HS.pick [] (by decide) (by rfl)⟩
 replace H := zneg c1 H
 replace c1 := eq_false c1
 go_wp2
 go_loopg [1, 5] k (fun kq v_1 v_5 w' => ∃ (x12 : Int) (x13 : Int), v_1 = .int .i64 x12 ∧ v_5 = .int .i64 x13 ∧ Aside0 (laws_szAnswerS.l0 kq x12 x13 a0 = some r) ∧ Aside0 (kq ≤ k) ∧ Hp noFP w w' [])
 case atStart => exact ⟨_, _, rfl, rfl, H, ⟨Nat.le_refl _⟩, HS⟩
 case round =>
  clear HS H; (try clear F)
  obtain ⟨x12, x13, rfl, rfl, H, HKk11, HS⟩ := hrel
  cases gk with
  | zero => exact absurd H.out (by simp [laws_szAnswerS.l0])
  | succ k11 =>
   simp only [laws_szAnswerS.l0] at H
   by_cases c15 : x13 < (a0.length : Int)
   case neg =>
    replace H := zneg c15 H
    replace c15 := eq_false c15
    obtain rfl := zsome H
    go_wp2
    go_ret
    exact ⟨rfl, HS.pick [] (by decide) (by rfl)⟩
   replace H := zpos c15 H
   replace c15 := eq_true c15
   by_cases c16 : 0 ≤ x13
   case neg => exact zno c16 H
   replace H := zpos c16 H
   replace c16 := eq_true c16
   by_cases c17 : x13 < (a0.length : Int)
   case neg => exact zno c17 H
   replace H := zpos c17 H
   replace c17 := eq_true c17
   obtain ⟨ad18, B18_2, d18_2, B18_3, d18_3, rfl, e18_0, e18_1, e18_2, e18_3, m18_2, y18_2, m18_3, y18_3⟩ := at_T112 gp0 x13 (of_eq_true c16) (of_eq_true c17)
   have e18_0_18 := (HS.keepc e18_0)
   have e18_1_18 := (HS.keepc e18_1)
   have e18_2_18 := (HS.keepc e18_2)
   have e18_3_18 := (HS.keepc e18_3)
   replace H := zbind H; obtain ⟨t19, ht19, H⟩ := H
   go_upto_if 25 with (first | ((with_reducible refine gate_dst (N := 23) rfl ?_); refine ev_call rfl Tryd.func73 (by kernel_rfl) rfl #[.agg #[.int .i64 ((rd_T112 a0 x13).f0), .int .i64 ((rd_T112 a0 x13).f1), .slice B18_2 (rd_T112 a0 x13).f2.length d18_2, .slice B18_3 (rd_T112 a0 x13).f3.length d18_3], .int .i64 x12] rfl (by simp only [mpn]; rfl) ?_; refine (laws_szAnswer.calls ht19.out (HS.ro y18_2) m18_2 (HS.ro y18_3) m18_3).mono ?_; rintro _ wt19 ⟨rfl, HQ⟩; refine ⟨_, rfl, ?_⟩; replace HS := HS.call HQ; clear HQ; (try clear F); (try simp only [hpn, hpm] at HS)))
   by_cases c21 : t19 < 0
   case pos =>
    replace H := zpos c21 H
    replace c21 := eq_true c21
    (try simp only [c21, dcn])
    obtain rfl := zsome H
    go_wp2
    go_ret
    exact ⟨rfl, HS.pick [] (by decide) (by rfl)⟩
   replace H := zneg c21 H
   replace c21 := eq_false c21
   (try simp only [c21, dcn])
   go_wp2
   go_roundg k11
   case measure => have := HKk11.out; omega
   case rel => exact ⟨_, _, rfl, rfl, H, ⟨by have := HKk11.out; omega⟩, HS.pick [] (by decide) (by rfl)⟩
/-! ### laws_szReply: function 13 -/
def laws_szReply.f (k : Nat) (a0 : S35) (a1 : Int) : Option (Int) := (if (wrap64 (a1 - (a0.f0.size : Int))) < 0 then (some (-1)) else ((laws_szAnswerS.f k a0.f6 (wrap64 (a1 - (a0.f0.size : Int)))).bind fun t4 => (if t4 < 0 then (some (-1)) else (if (wrap64 (t4 - (a0.f7.size : Int))) < 0 then (some (-1)) else (some (wrap64 (t4 - (a0.f7.size : Int))))))))
set_option maxHeartbeats 16000000 in
theorem laws_szReply.calls {k : Nat} {a0 : S35} {a1 : Int} {Ap0 : Option Addr} {np0 cp0 : Nat} {r : Int} {w : World} (h : laws_szReply.f k a0 a1 = some r) (gp0 : k112.C w Ap0 np0 a0.f6) (lp0 : np0 ≤ cp0) :
    Calls Tryd.prog 13 #[.agg #[.string a0.f0, .int .i64 a0.f1, .int .i64 a0.f2, .int .i64 a0.f3, .int .i64 a0.f4, .int .i64 a0.f5, .slice Ap0 np0 cp0, .string a0.f7], .int .i64 a1] w (fun e w' => e = .returned (.int .i64 r) ∧ Hp noFP w w' []) := by
 obtain rfl := C_len gp0
 have HS := Hp.start w
 have H := Aside0.mk h
 clear h
 unfold laws_szReply.f at H
 go_enter Tryd.func13, Tryd.ntmps13
 go_upto_if 11 with (first | ((with_reducible refine gate_dst (N := 2) rfl ?_); refine ev_box rfl HS (by first | (go_simp; done) | (go_simp; rfl)) rfl ?_; clear HS; (try clear F); intro g2 w2 HS; (try simp only [hpn, hpm] at HS); have F := HS.boxes; simp only [bxn] at F))
 by_cases c3 : (wrap64 (a1 - (a0.f0.size : Int))) < 0
 case pos =>
  replace H := zpos c3 H
  replace c3 := eq_true c3
  (try simp only [c3, dcn])
  obtain rfl := zsome H
  go_wp2
  go_ret
  exact ⟨rfl, HS.pick [] (by decide) (by rfl)⟩
 replace H := zneg c3 H
 replace c3 := eq_false c3
 (try simp only [c3, dcn])
 replace H := zbind H; obtain ⟨t4, ht4, H⟩ := H
 go_upto_if 17 with (first | ((with_reducible refine gate_dst (N := 15) rfl ?_); refine ev_call rfl Tryd.func39 (by kernel_rfl) rfl #[.slice Ap0 a0.f6.length cp0, .int .i64 (wrap64 (a1 - (a0.f0.size : Int)))] rfl (by simp only [mpn]; rfl) ?_; refine (laws_szAnswerS.calls ht4.out (HS.ro gp0) lp0).mono ?_; rintro _ wt4 ⟨rfl, HQ⟩; refine ⟨_, rfl, ?_⟩; replace HS := HS.call HQ; clear HQ; (try clear F); (try simp only [hpn, hpm] at HS); have F := HS.boxes; simp only [bxn] at F))
 by_cases c6 : t4 < 0
 case pos =>
  replace H := zpos c6 H
  replace c6 := eq_true c6
  (try simp only [c6, dcn])
  obtain rfl := zsome H
  go_wp2
  go_ret
  exact ⟨rfl, HS.pick [] (by decide) (by rfl)⟩
 replace H := zneg c6 H
 replace c6 := eq_false c6
 (try simp only [c6, dcn])
 by_cases c7 : (wrap64 (t4 - (a0.f7.size : Int))) < 0
 case pos =>
  replace H := zpos c7 H
  replace c7 := eq_true c7
  obtain rfl := zsome H
  go_wp2
  go_ret
  exact ⟨rfl, HS.pick [] (by decide) (by rfl)⟩
 replace H := zneg c7 H
 replace c7 := eq_false c7
 obtain rfl := zsome H
 go_wp2
 go_ret
 exact ⟨rfl, HS.pick [] (by decide) (by rfl)⟩
/-! ### spec_l01Figure: function 74 -/
def spec_l01Figure.f (a0 : Int) : Option (Int) := (if a0 < 10 then (some ((wrap64 (48 + a0)) % 256)) else (some ((wrap64 ((wrap64 (97 + a0)) - 10)) % 256)))
set_option maxHeartbeats 16000000 in
theorem spec_l01Figure.calls {a0 : Int} {r : Int} {w : World} (h : spec_l01Figure.f a0 = some r) :
    Calls Tryd.prog 74 #[.int .i64 a0] w (fun e w' => e = .returned (.int .u8 r) ∧ Hp noFP w w' []) := by
 have HS := Hp.start w
 have H := Aside0.mk h
 clear h
 unfold spec_l01Figure.f at H
 go_enter Tryd.func74, Tryd.ntmps74
 by_cases c1 : a0 < 10
 case pos =>
  replace H := zpos c1 H
  replace c1 := eq_true c1
  obtain rfl := zsome H
  go_wp2
  go_ret
  exact ⟨rfl, HS.pick [] (by decide) (by rfl)⟩
 replace H := zneg c1 H
 replace c1 := eq_false c1
 obtain rfl := zsome H
 go_wp2
 go_ret
 exact ⟨rfl, HS.pick [] (by decide) (by rfl)⟩
/-! ### spec_Decimal: function 41 -/
def spec_Decimal.l0 : Nat → Int → ByteArray → Int → Option (ByteArray)
  | 0, _, _, _ => none
  | k + 1, x10, x11, a0 => (if x10 = 0 then (if a0 < 0 then (if (⟨#[45]⟩ : ByteArray).size + x11.size ≤ 9223372036854775807 then (some ((⟨#[45]⟩ : ByteArray) ++ x11)) else none) else (some x11)) else (if (Int.tmod x10 10) < 0 then ((spec_l01Figure.f (wrap64 (-(Int.tmod x10 10)))).bind fun t17 => (if (strOfNums ([t17] : List Int)).size + x11.size ≤ 9223372036854775807 then (spec_Decimal.l0 k (wrap64 (Int.tdiv x10 10)) ((strOfNums ([t17] : List Int)) ++ x11) a0) else none)) else ((spec_l01Figure.f (Int.tmod x10 10)).bind fun t22 => (if (strOfNums ([t22] : List Int)).size + x11.size ≤ 9223372036854775807 then (spec_Decimal.l0 k (wrap64 (Int.tdiv x10 10)) ((strOfNums ([t22] : List Int)) ++ x11) a0) else none))))
def spec_Decimal.f (k : Nat) (a0 : Int) : Option (ByteArray) := (if a0 = 0 then (some (⟨#[48]⟩ : ByteArray)) else (spec_Decimal.l0 k a0 (⟨#[]⟩ : ByteArray) a0))
set_option maxHeartbeats 16000000 in
theorem spec_Decimal.calls {k : Nat} {a0 : Int} {r : ByteArray} {w : World} (h : spec_Decimal.f k a0 = some r) :
    Calls Tryd.prog 41 #[.int .i64 a0] w (fun e w' => e = .returned (.string r) ∧ Hp noFP w w' []) := by
 have HS := Hp.start w
 have H := Aside0.mk h
 clear h
 unfold spec_Decimal.f at H
 go_enter Tryd.func41, Tryd.ntmps41
 by_cases c1 : a0 = 0
 case pos =>
  replace H := zpos c1 H
  have c1a := beq_iff_eq.mpr c1
  have c1b := bne_eq_false_iff_eq.mpr c1
  clear c1
  obtain rfl := zsome H
  go_wp2
  go_ret
  exact ⟨rfl, HS.pick [] (by decide) (by rfl)⟩
 replace H := zneg c1 H
 have c1a := beq_eq_false_iff_ne.mpr c1
 have c1b := bne_iff_ne.mpr c1
 clear c1
 go_wp2
 go_loopg [0, 4] k (fun kq v_0 v_4 w' => ∃ (x10 : Int) (x11 : ByteArray), v_0 = .int .i64 x10 ∧ v_4 = .string x11 ∧ Aside0 (spec_Decimal.l0 kq x10 x11 a0 = some r) ∧ Aside0 (kq ≤ k) ∧ Hp noFP w w' [])
 case atStart => exact ⟨_, _, rfl, rfl, H, ⟨Nat.le_refl _⟩, HS⟩
 case round =>
  clear HS H; (try clear F)
  obtain ⟨x10, x11, rfl, rfl, H, HKk9, HS⟩ := hrel
  cases gk with
  | zero => exact absurd H.out (by simp [spec_Decimal.l0])
  | succ k9 =>
   simp only [spec_Decimal.l0] at H
   by_cases c13 : x10 = 0
   case pos =>
    replace H := zpos c13 H
    have c13a := beq_iff_eq.mpr c13
    have c13b := bne_eq_false_iff_eq.mpr c13
    clear c13
    by_cases c14 : a0 < 0
    case neg =>
     replace H := zneg c14 H
     replace c14 := eq_false c14
     obtain rfl := zsome H
     go_wp2
     all_goals (try (exfalso; have hq := of_eq_false c14; omega))
     go_ret
     exact ⟨rfl, HS.pick [] (by decide) (by rfl)⟩
    replace H := zpos c14 H
    replace c14 := eq_true c14
    by_cases c15 : (⟨#[45]⟩ : ByteArray).size + x11.size ≤ 9223372036854775807
    case neg => exact zno c15 H
    replace H := zpos c15 H
    replace c15 := eq_true c15
    obtain rfl := zsome H
    go_wp2_with (first | ((with_reducible refine gate_dst (N := 28) rfl ?_); refine ev_val rfl (run_cat rfl rfl rfl (of_eq_true c15)) ?_))
    all_goals (try (exfalso; have hq := of_eq_true c14; omega))
    go_ret
    exact ⟨rfl, HS.pick [] (by decide) (by rfl)⟩
   replace H := zneg c13 H
   have c13a := beq_eq_false_iff_ne.mpr c13
   have c13b := bne_iff_ne.mpr c13
   clear c13
   by_cases c16 : (Int.tmod x10 10) < 0
   case neg =>
    replace H := zneg c16 H
    replace c16 := eq_false c16
    replace H := zbind H; obtain ⟨t22, ht22, H⟩ := H
    by_cases c26 : (strOfNums ([t22] : List Int)).size + x11.size ≤ 9223372036854775807
    case neg => exact zno c26 H
    replace H := zpos c26 H
    replace c26 := eq_true c26
    go_wp2_with (first | ((with_reducible refine gate_dst (N := 19) rfl ?_); refine ev_call rfl Tryd.func74 (by kernel_rfl) rfl #[.int .i64 (Int.tmod x10 10)] rfl (by simp only [mpn]; rfl) ?_; refine (spec_l01Figure.calls ht22.out).mono ?_; rintro _ wt22 ⟨rfl, HQ⟩; refine ⟨_, rfl, ?_⟩; replace HS := HS.call HQ; clear HQ; (try clear F); (try simp only [hpn, hpm] at HS)) | ((with_reducible refine gate_dst (N := 20) rfl ?_); refine ev_lit rfl (Zd.int .u8) [] ([t22] : List Int) ([.int .u8 t22] ++ []) HS (by first | (go_simp; done) | (go_simp; rfl)) rfl rfl (Nat.le_of_ble_eq_true rfl) (MadeL.cons (js1 := []) (c := [.int .u8 t22]) rfl (made_flat (fun _ => rfl)) MadeL.nil (by decide)) ?_; clear HS; (try clear F); intro v24 w24 HS; obtain ⟨B24, d24, rfl, m24⟩ := HS.formn 1 0 rfl rfl; (try simp only [hpn, hpm] at HS)) | ((with_reducible refine gate_dst (N := 21) rfl ?_); refine ev_val rfl (run_str rfl rfl Tryd.underlying114 Tryd.underlying5 Tryd.underlying9 (HS.rd 0 rfl)) ?_) | ((with_reducible refine gate_dst (N := 23) rfl ?_); refine ev_val rfl (run_cat rfl rfl rfl (of_eq_true c26)) ?_))
    go_roundg k9
    case measure => have := HKk9.out; omega
    case rel => exact ⟨_, _, rfl, rfl, H, ⟨by have := HKk9.out; omega⟩, HS.pick [] (by decide) (by rfl)⟩
   replace H := zpos c16 H
   replace c16 := eq_true c16
   replace H := zbind H; obtain ⟨t17, ht17, H⟩ := H
   by_cases c21 : (strOfNums ([t17] : List Int)).size + x11.size ≤ 9223372036854775807
   case neg => exact zno c21 H
   replace H := zpos c21 H
   replace c21 := eq_true c21
   go_wp2_with (first | ((with_reducible refine gate_dst (N := 19) rfl ?_); refine ev_call rfl Tryd.func74 (by kernel_rfl) rfl #[.int .i64 (wrap64 (-(Int.tmod x10 10)))] rfl (by simp only [mpn]; rfl) ?_; refine (spec_l01Figure.calls ht17.out).mono ?_; rintro _ wt17 ⟨rfl, HQ⟩; refine ⟨_, rfl, ?_⟩; replace HS := HS.call HQ; clear HQ; (try clear F); (try simp only [hpn, hpm] at HS)) | ((with_reducible refine gate_dst (N := 20) rfl ?_); refine ev_lit rfl (Zd.int .u8) [] ([t17] : List Int) ([.int .u8 t17] ++ []) HS (by first | (go_simp; done) | (go_simp; rfl)) rfl rfl (Nat.le_of_ble_eq_true rfl) (MadeL.cons (js1 := []) (c := [.int .u8 t17]) rfl (made_flat (fun _ => rfl)) MadeL.nil (by decide)) ?_; clear HS; (try clear F); intro v19 w19 HS; obtain ⟨B19, d19, rfl, m19⟩ := HS.formn 1 0 rfl rfl; (try simp only [hpn, hpm] at HS)) | ((with_reducible refine gate_dst (N := 21) rfl ?_); refine ev_val rfl (run_str rfl rfl Tryd.underlying114 Tryd.underlying5 Tryd.underlying9 (HS.rd 0 rfl)) ?_) | ((with_reducible refine gate_dst (N := 23) rfl ?_); refine ev_val rfl (run_cat rfl rfl rfl (of_eq_true c21)) ?_))
   go_roundg k9
   case measure => have := HKk9.out; omega
   case rel => exact ⟨_, _, rfl, rfl, H, ⟨by have := HKk9.out; omega⟩, HS.pick [] (by decide) (by rfl)⟩
/-! ### spec_l21Num: function 40 -/
def spec_l21Num.f (k : Nat) (a0 : Int) : Option (ByteArray) := (if a0 < 0 then (some (⟨#[48]⟩ : ByteArray)) else ((spec_Decimal.f k a0).bind fun t2 => (some t2)))
set_option maxHeartbeats 16000000 in
theorem spec_l21Num.calls {k : Nat} {a0 : Int} {r : ByteArray} {w : World} (h : spec_l21Num.f k a0 = some r) :
    Calls Tryd.prog 40 #[.int .i64 a0] w (fun e w' => e = .returned (.string r) ∧ Hp noFP w w' []) := by
 have HS := Hp.start w
 have H := Aside0.mk h
 clear h
 unfold spec_l21Num.f at H
 go_enter Tryd.func40, Tryd.ntmps40
 by_cases c1 : a0 < 0
 case pos =>
  replace H := zpos c1 H
  replace c1 := eq_true c1
  obtain rfl := zsome H
  go_wp2
  go_ret
  exact ⟨rfl, HS.pick [] (by decide) (by rfl)⟩
 replace H := zneg c1 H
 replace c1 := eq_false c1
 replace H := zbind H; obtain ⟨t2, ht2, H⟩ := H
 obtain rfl := zsome H
 go_wp2_with (first | ((with_reducible refine gate_dst (N := 6) rfl ?_); refine ev_call rfl Tryd.func41 (by kernel_rfl) rfl #[.int .i64 a0] rfl (by simp only [mpn]; rfl) ?_; refine (spec_Decimal.calls ht2.out).mono ?_; rintro _ wt2 ⟨rfl, HQ⟩; refine ⟨_, rfl, ?_⟩; replace HS := HS.call HQ; clear HQ; (try clear F); (try simp only [hpn, hpm] at HS)))
 go_ret
 exact ⟨rfl, HS.pick [] (by decide) (by rfl)⟩
/-! ### spec_ShowReply: function 14 -/
def spec_ShowReply.l0 : Nat → ByteArray → Int → S40 → Option (ByteArray)
  | 0, _, _, _ => none
  | k + 1, x21, x22, a0 => (if x22 < (a0.f6.length : Int) then (if 0 ≤ x22 then (if x22 < (a0.f6.length : Int) then (if x21.size + (⟨#[32]⟩ : ByteArray).size ≤ 9223372036854775807 then ((spec_l21Num.f k ((rd_T80 a0.f6 x22).f0)).bind fun t304001 => (if (x21 ++ (⟨#[32]⟩ : ByteArray)).size + t304001.size ≤ 9223372036854775807 then (if ((x21 ++ (⟨#[32]⟩ : ByteArray)) ++ t304001).size + (⟨#[47]⟩ : ByteArray).size ≤ 9223372036854775807 then ((spec_l21Num.f k ((rd_T80 a0.f6 x22).f1)).bind fun t309001 => (if (((x21 ++ (⟨#[32]⟩ : ByteArray)) ++ t304001) ++ (⟨#[47]⟩ : ByteArray)).size + t309001.size ≤ 9223372036854775807 then (if ((((x21 ++ (⟨#[32]⟩ : ByteArray)) ++ t304001) ++ (⟨#[47]⟩ : ByteArray)) ++ t309001).size + (⟨#[47]⟩ : ByteArray).size ≤ 9223372036854775807 then ((spec_Decimal.f k ((rd_T80 a0.f6 x22).f2.length : Int)).bind fun t315001 => (if (((((x21 ++ (⟨#[32]⟩ : ByteArray)) ++ t304001) ++ (⟨#[47]⟩ : ByteArray)) ++ t309001) ++ (⟨#[47]⟩ : ByteArray)).size + t315001.size ≤ 9223372036854775807 then (spec_ShowReply.l0 k ((((((x21 ++ (⟨#[32]⟩ : ByteArray)) ++ t304001) ++ (⟨#[47]⟩ : ByteArray)) ++ t309001) ++ (⟨#[47]⟩ : ByteArray)) ++ t315001) (wrap64 (x22 + 1)) a0) else none)) else none) else none)) else none) else none)) else none) else none) else none) else (if x21.size + (⟨#[10]⟩ : ByteArray).size ≤ 9223372036854775807 then (some (x21 ++ (⟨#[10]⟩ : ByteArray))) else none))
def spec_ShowReply.f (k : Nat) (a0 : S40) : Option (ByteArray) := ((spec_l21Num.f k a0.f1).bind fun t102001 => (if (⟨#[114, 101, 112, 108, 121, 32]⟩ : ByteArray).size + t102001.size ≤ 9223372036854775807 then (if ((⟨#[114, 101, 112, 108, 121, 32]⟩ : ByteArray) ++ t102001).size + (⟨#[32, 101, 114, 114, 111, 114, 32]⟩ : ByteArray).size ≤ 9223372036854775807 then ((spec_l21Num.f k a0.f5).bind fun t107001 => (if (((⟨#[114, 101, 112, 108, 121, 32]⟩ : ByteArray) ++ t102001) ++ (⟨#[32, 101, 114, 114, 111, 114, 32]⟩ : ByteArray)).size + t107001.size ≤ 9223372036854775807 then (spec_ShowReply.l0 k ((((⟨#[114, 101, 112, 108, 121, 32]⟩ : ByteArray) ++ t102001) ++ (⟨#[32, 101, 114, 114, 111, 114, 32]⟩ : ByteArray)) ++ t107001) 0 a0) else none)) else none) else none))
def spec_ShowReply.T1 : Bool × List (List Nat × List Nat) := (true, [([], []), ([0], [0]), ([1], [1]), ([2], [2]), ([3], [3]), ([], []), ([5], [5]), ([6, 2], [6]), ([4, 7], [4, 7]), ([8, 7, 0, 1, 2, 3, 4, 5, 6, 7, 8], [8])])
theorem spec_ShowReply.tT1 : rtab .any (opsOf Tryd.f14 1) = spec_ShowReply.T1 := by kernel_rfl
def spec_ShowReply.T6 : Bool × List (List Nat × List Nat) := (true, [([], []), ([0], [0]), ([], []), ([2], [2]), ([3], [3]), ([1, 4], [1, 4]), ([5], [5]), ([], []), ([7], [7]), ([8, 4], [8]), ([6, 9], [6, 9]), ([10], [10]), ([], []), ([12], [12]), ([13], [13]), ([14, 9], [14]), ([11, 15], [11, 15]), ([16, 15, 0, 1, 2, 3, 4, 5, 6, 7, 8, 9, 10, 11, 12, 13, 14, 15, 16], [0, 16])])
theorem spec_ShowReply.tT6 : rtab .any (opsOf Tryd.f14 6) = spec_ShowReply.T6 := by kernel_rfl
set_option maxHeartbeats 16000000 in
theorem spec_ShowReply.calls {k : Nat} {a0 : S40} {Ap0 : Option Addr} {np0 cp0 : Nat} {r : ByteArray} {w : World} (h : spec_ShowReply.f k a0 = some r) (gp0 : k80.C w Ap0 np0 a0.f6) (lp0 : np0 ≤ cp0) :
    Calls Tryd.prog 14 #[.agg #[.string a0.f0, .int .i64 a0.f1, .int .i64 a0.f2, .int .i64 a0.f3, .int .i64 a0.f4, .int .i64 a0.f5, .slice Ap0 np0 cp0, .string a0.f7]] w (fun e w' => e = .returned (.string r) ∧ Hp noFP w w' []) := by
 obtain rfl := C_len gp0
 have HS := Hp.start w
 have H := Aside0.mk h
 clear h
 unfold spec_ShowReply.f at H
 go_enter Tryd.func14, Tryd.ntmps14
 go_wp2_with (first | ((with_reducible refine gate_dst (N := 1) rfl ?_); refine ev_box rfl HS (by first | (go_simp; done) | (go_simp; rfl)) rfl ?_; clear HS; (try clear F); intro g1 w1 HS; (try simp only [hpn, hpm] at HS); have F := HS.boxes; simp only [bxn] at F))
 replace H := zbind H; obtain ⟨t102001, ht102001, H⟩ := H
 by_cases c103001 : (⟨#[114, 101, 112, 108, 121, 32]⟩ : ByteArray).size + t102001.size ≤ 9223372036854775807
 case neg => exact zno c103001 H
 replace H := zpos c103001 H
 replace c103001 := eq_true c103001
 by_cases c104001 : ((⟨#[114, 101, 112, 108, 121, 32]⟩ : ByteArray) ++ t102001).size + (⟨#[32, 101, 114, 114, 111, 114, 32]⟩ : ByteArray).size ≤ 9223372036854775807
 case neg => exact zno c104001 H
 replace H := zpos c104001 H
 replace c104001 := eq_true c104001
 replace H := zbind H; obtain ⟨t107001, ht107001, H⟩ := H
 by_cases c108001 : (((⟨#[114, 101, 112, 108, 121, 32]⟩ : ByteArray) ++ t102001) ++ (⟨#[32, 101, 114, 114, 111, 114, 32]⟩ : ByteArray)).size + t107001.size ≤ 9223372036854775807
 case neg => exact zno c108001 H
 replace H := zpos c108001 H
 replace c108001 := eq_true c108001
 refine dr_start [] HS #[false, false, false, false, false, false, false, false, false, false] (by kernel_rfl) rfl rfl spec_ShowReply.tT1 (fun w4 HT HS HH => ?_)
 (try clear F)
 refine drq_of [(0, some 6), (1, some 7), (5, some 11), (6, some 12)] ?_
 repeat (first | (refine drq_pure HT (v := ?_) (a' := ?_) rfl rfl (by kernel_rfl) (fun _ _ _ h => h) (.inl ⟨by rfl, ?_⟩) ?_ ?_; rotate_left; (intro w'; go_simp; with_reducible rfl); rotate_left; (simp only [Act.put, ptn]; rfl)) | (refine drq_take HT HH (v := ?_) (a' := ?_) rfl rfl (by kernel_rfl) (fun _ _ _ h => h) (.inl ⟨by rfl, ?_⟩) ?_ ?_; rotate_left; (rintro w' ⟨rs', HS'⟩; have F := HS'.boxes; simp only [bxn, List.cons_append, List.nil_append] at F; go_simp; with_reducible rfl); rotate_left; (simp only [Act.put, ptn]; rfl)))
 refine drq_end ?_
 refine dr_one 2 HT rfl (by kernel_rfl) (by decide) (fun K hK => ?_)
 refine goes_ Tryd.func40 (by kernel_rfl) rfl #[.int .i64 a0.f1] (by rfl) rfl rfl (by simp only [mpn]; rfl) ?_; refine (spec_l21Num.calls ht102001.out).mono ?_; rintro _ wt102001 ⟨rfl, HQ⟩; refine ⟨_, rfl, ?_⟩; replace HS := HS.call HQ; clear HQ; (try clear F)
 (try simp only [hpn, hpm] at HS)
 have F := HS.boxes; simp only [bxn] at F
 refine hK.out _ _ ⟨_, HS⟩ (fun HH => ?_)
 clear hK K
 refine norm_ (a' := ?_) ?_ ?_
 rotate_left
 · show Act.put _ (some 8) _ = _; simp only [Act.put, ptn]; rfl
 refine dr_pure 3 (some 9) HT (v := .string ((⟨#[114, 101, 112, 108, 121, 32]⟩ : ByteArray) ++ t102001)) (a' := ?_) rfl rfl (by kernel_rfl) (fun _ _ _ h => h) (.inl ⟨by rfl, fun w' => (run_cat rfl rfl rfl (of_eq_true c103001))⟩) ?_ ?_
 rotate_left
 · simp only [Act.put, ptn]; rfl
 refine dr_pure 4 (some 10) HT (v := .string (((⟨#[114, 101, 112, 108, 121, 32]⟩ : ByteArray) ++ t102001) ++ (⟨#[32, 101, 114, 114, 111, 114, 32]⟩ : ByteArray))) (a' := ?_) rfl rfl (by kernel_rfl) (fun _ _ _ h => h) (.inl ⟨by rfl, fun w' => (run_cat rfl rfl rfl (of_eq_true c104001))⟩) ?_ ?_
 rotate_left
 · simp only [Act.put, ptn]; rfl
 refine dr_one 7 HT rfl (by kernel_rfl) (by decide) (fun K hK => ?_)
 refine goes_ Tryd.func40 (by kernel_rfl) rfl #[.int .i64 a0.f5] (by rfl) rfl rfl (by simp only [mpn]; rfl) ?_; refine (spec_l21Num.calls ht107001.out).mono ?_; rintro _ wt107001 ⟨rfl, HQ⟩; refine ⟨_, rfl, ?_⟩; replace HS := HS.call HQ; clear HQ; (try clear F)
 (try simp only [hpn, hpm] at HS)
 have F := HS.boxes; simp only [bxn] at F
 refine hK.out _ _ ⟨_, HS⟩ (fun HH => ?_)
 clear hK K
 refine norm_ (a' := ?_) ?_ ?_
 rotate_left
 · show Act.put _ (some 13) _ = _; simp only [Act.put, ptn]; rfl
 refine dr_pure 8 (some 14) HT (v := .string ((((⟨#[114, 101, 112, 108, 121, 32]⟩ : ByteArray) ++ t102001) ++ (⟨#[32, 101, 114, 114, 111, 114, 32]⟩ : ByteArray)) ++ t107001)) (a' := ?_) rfl rfl (by kernel_rfl) (fun _ _ _ h => h) (.inl ⟨by rfl, fun w' => (run_cat rfl rfl rfl (of_eq_true c108001))⟩) ?_ ?_
 rotate_left
 · simp only [Act.put, ptn]; rfl
 refine drq_of [(9, some 3)] ?_
 repeat (first | (refine drq_pure HT (v := ?_) (a' := ?_) rfl rfl (by kernel_rfl) (fun _ _ _ h => h) (.inl ⟨by rfl, ?_⟩) ?_ ?_; rotate_left; (intro w'; go_simp; with_reducible rfl); rotate_left; (simp only [Act.put, ptn]; rfl)))
 refine drq_end ?_
 refine done_ (done_of HT.out (by kernel_rfl)) ?_
 (try clear F)
 have F := HS.boxes; simp only [bxn] at F
 go_wp2
 go_loopg [3, 4] k (fun kq v_3 v_4 w' => ∃ (x21 : ByteArray) (x22 : Int), v_3 = .string x21 ∧ v_4 = .int .i64 x22 ∧ Aside0 (spec_ShowReply.l0 kq x21 x22 a0 = some r) ∧ Aside0 (kq ≤ k) ∧ Hp noFP w w' [.box g1 [.string a0.f0, .int .i64 a0.f1, .int .i64 a0.f2, .int .i64 a0.f3, .int .i64 a0.f4, .int .i64 a0.f5, .slice Ap0 a0.f6.length cp0, .string a0.f7] 40])
 case atStart => exact ⟨_, _, rfl, rfl, H, ⟨Nat.le_refl _⟩, HS⟩
 case round =>
  clear HS H; (try clear F)
  obtain ⟨x21, x22, rfl, rfl, H, HKk20, HS⟩ := hrel
  have F := HS.boxes; simp only [bxn] at F
  cases gk with
  | zero => exact absurd H.out (by simp [spec_ShowReply.l0])
  | succ k20 =>
   simp only [spec_ShowReply.l0] at H
   by_cases c24 : x22 < (a0.f6.length : Int)
   case neg =>
    replace H := zneg c24 H
    replace c24 := eq_false c24
    by_cases c35 : x21.size + (⟨#[10]⟩ : ByteArray).size ≤ 9223372036854775807
    case neg => exact zno c35 H
    replace H := zpos c35 H
    replace c35 := eq_true c35
    obtain rfl := zsome H
    go_wp2_with (first | ((with_reducible refine gate_dst (N := 45) rfl ?_); refine ev_val rfl (run_cat rfl rfl rfl (of_eq_true c35)) ?_))
    go_ret
    exact ⟨rfl, HS.pick [] (by decide) (by rfl)⟩
   replace H := zpos c24 H
   replace c24 := eq_true c24
   by_cases c25 : 0 ≤ x22
   case neg => exact zno c25 H
   replace H := zpos c25 H
   replace c25 := eq_true c25
   by_cases c26 : x22 < (a0.f6.length : Int)
   case neg => exact zno c26 H
   replace H := zpos c26 H
   replace c26 := eq_true c26
   obtain ⟨ad27, B27_2, d27_2, B27_3, d27_3, rfl, e27_0, e27_1, e27_2, e27_3, m27_2, y27_2, m27_3, y27_3⟩ := at_T80 gp0 x22 (of_eq_true c25) (of_eq_true c26)
   have e27_0_27 := (HS.keepc e27_0)
   have e27_1_27 := (HS.keepc e27_1)
   have e27_2_27 := (HS.keepc e27_2)
   have e27_3_27 := (HS.keepc e27_3)
   go_wp2_with (first | ((with_reducible refine gate_dst (N := 5) rfl ?_); refine ev_box rfl HS (by first | (go_simp; done) | (go_simp; rfl)) rfl ?_; clear HS; (try clear F); intro g5 w5 HS; (try simp only [hpn, hpm] at HS); have F := HS.boxes; simp only [bxn] at F) | ((with_reducible refine gate_store (p := 5) rfl ?_); refine ev_store rfl 1 0 HS (seg := [.int .i64 ((rd_T80 a0.f6 x22).f0), .int .i64 ((rd_T80 a0.f6 x22).f1), .slice B27_2 (rd_T80 a0.f6 x22).f2.length d27_2, .slice B27_3 (rd_T80 a0.f6 x22).f3.length d27_3]) rfl rfl rfl rfl rfl rfl (by kernel_rfl) (by simp [wrt]) (by simp [Value.oneCell']) ?_; clear HS; (try clear F); intro w30 HS; (try simp only [hpn, hpm] at HS); have F := HS.boxes; simp only [bxn] at F))
   by_cases c301001 : x21.size + (⟨#[32]⟩ : ByteArray).size ≤ 9223372036854775807
   case neg => exact zno c301001 H
   replace H := zpos c301001 H
   replace c301001 := eq_true c301001
   replace H := zbind H; obtain ⟨t304001, ht304001, H⟩ := H
   by_cases c305001 : (x21 ++ (⟨#[32]⟩ : ByteArray)).size + t304001.size ≤ 9223372036854775807
   case neg => exact zno c305001 H
   replace H := zpos c305001 H
   replace c305001 := eq_true c305001
   by_cases c306001 : ((x21 ++ (⟨#[32]⟩ : ByteArray)) ++ t304001).size + (⟨#[47]⟩ : ByteArray).size ≤ 9223372036854775807
   case neg => exact zno c306001 H
   replace H := zpos c306001 H
   replace c306001 := eq_true c306001
   replace H := zbind H; obtain ⟨t309001, ht309001, H⟩ := H
   by_cases c310001 : (((x21 ++ (⟨#[32]⟩ : ByteArray)) ++ t304001) ++ (⟨#[47]⟩ : ByteArray)).size + t309001.size ≤ 9223372036854775807
   case neg => exact zno c310001 H
   replace H := zpos c310001 H
   replace c310001 := eq_true c310001
   by_cases c311001 : ((((x21 ++ (⟨#[32]⟩ : ByteArray)) ++ t304001) ++ (⟨#[47]⟩ : ByteArray)) ++ t309001).size + (⟨#[47]⟩ : ByteArray).size ≤ 9223372036854775807
   case neg => exact zno c311001 H
   replace H := zpos c311001 H
   replace c311001 := eq_true c311001
   replace H := zbind H; obtain ⟨t315001, ht315001, H⟩ := H
   by_cases c316001 : (((((x21 ++ (⟨#[32]⟩ : ByteArray)) ++ t304001) ++ (⟨#[47]⟩ : ByteArray)) ++ t309001) ++ (⟨#[47]⟩ : ByteArray)).size + t315001.size ≤ 9223372036854775807
   case neg => exact zno c316001 H
   replace H := zpos c316001 H
   replace c316001 := eq_true c316001
   refine dr_start [] HS #[false, false, false, false, false, false, false, false, false, false, false, false, false, false, false, false, false, false] (by kernel_rfl) rfl rfl spec_ShowReply.tT6 (fun w33 HT HS HH => ?_)
   (try clear F)
   refine drq_of [(0, some 27)] ?_
   repeat (first | (refine drq_pure HT (v := ?_) (a' := ?_) rfl rfl (by kernel_rfl) (fun _ _ _ h => h) (.inl ⟨by rfl, ?_⟩) ?_ ?_; rotate_left; (intro w'; go_simp; with_reducible rfl); rotate_left; (simp only [Act.put, ptn]; rfl)))
   refine drq_end ?_
   refine dr_pure 1 (some 28) HT (v := .string (x21 ++ (⟨#[32]⟩ : ByteArray))) (a' := ?_) rfl rfl (by kernel_rfl) (fun _ _ _ h => h) (.inl ⟨by rfl, fun w' => (run_cat rfl rfl rfl (of_eq_true c301001))⟩) ?_ ?_
   rotate_left
   · simp only [Act.put, ptn]; rfl
   refine drq_of [(2, some 29), (3, some 30), (7, some 34), (8, some 35), (12, some 39), (13, some 40), (14, some 41)] ?_
   repeat (first | (refine drq_pure HT (v := ?_) (a' := ?_) rfl rfl (by kernel_rfl) (fun _ _ _ h => h) (.inl ⟨by rfl, ?_⟩) ?_ ?_; rotate_left; (intro w'; go_simp; with_reducible rfl); rotate_left; (simp only [Act.put, ptn]; rfl)) | (refine drq_take HT HH (v := ?_) (a' := ?_) rfl rfl (by kernel_rfl) (fun _ _ _ h => h) (.inl ⟨by rfl, ?_⟩) ?_ ?_; rotate_left; (rintro w' ⟨rs', HS'⟩; have F := HS'.boxes; simp only [bxn, List.cons_append, List.nil_append] at F; go_simp; with_reducible rfl); rotate_left; (simp only [Act.put, ptn]; rfl)))
   refine drq_end ?_
   refine dr_one 4 HT rfl (by kernel_rfl) (by decide) (fun K hK => ?_)
   refine goes_ Tryd.func40 (by kernel_rfl) rfl #[.int .i64 ((rd_T80 a0.f6 x22).f0)] (by rfl) rfl rfl (by simp only [mpn]; rfl) ?_; refine (spec_l21Num.calls ht304001.out).mono ?_; rintro _ wt304001 ⟨rfl, HQ⟩; refine ⟨_, rfl, ?_⟩; replace HS := HS.call HQ; clear HQ; (try clear F)
   (try simp only [hpn, hpm] at HS)
   have F := HS.boxes; simp only [bxn] at F
   refine hK.out _ _ ⟨_, HS⟩ (fun HH => ?_)
   clear hK K
   refine norm_ (a' := ?_) ?_ ?_
   rotate_left
   · show Act.put _ (some 31) _ = _; simp only [Act.put, ptn]; rfl
   refine dr_pure 5 (some 32) HT (v := .string ((x21 ++ (⟨#[32]⟩ : ByteArray)) ++ t304001)) (a' := ?_) rfl rfl (by kernel_rfl) (fun _ _ _ h => h) (.inl ⟨by rfl, fun w' => (run_cat rfl rfl rfl (of_eq_true c305001))⟩) ?_ ?_
   rotate_left
   · simp only [Act.put, ptn]; rfl
   refine dr_pure 6 (some 33) HT (v := .string (((x21 ++ (⟨#[32]⟩ : ByteArray)) ++ t304001) ++ (⟨#[47]⟩ : ByteArray))) (a' := ?_) rfl rfl (by kernel_rfl) (fun _ _ _ h => h) (.inl ⟨by rfl, fun w' => (run_cat rfl rfl rfl (of_eq_true c306001))⟩) ?_ ?_
   rotate_left
   · simp only [Act.put, ptn]; rfl
   refine dr_one 9 HT rfl (by kernel_rfl) (by decide) (fun K hK => ?_)
   refine goes_ Tryd.func40 (by kernel_rfl) rfl #[.int .i64 ((rd_T80 a0.f6 x22).f1)] (by rfl) rfl rfl (by simp only [mpn]; rfl) ?_; refine (spec_l21Num.calls ht309001.out).mono ?_; rintro _ wt309001 ⟨rfl, HQ⟩; refine ⟨_, rfl, ?_⟩; replace HS := HS.call HQ; clear HQ; (try clear F)
   (try simp only [hpn, hpm] at HS)
   have F := HS.boxes; simp only [bxn] at F
   refine hK.out _ _ ⟨_, HS⟩ (fun HH => ?_)
   clear hK K
   refine norm_ (a' := ?_) ?_ ?_
   rotate_left
   · show Act.put _ (some 36) _ = _; simp only [Act.put, ptn]; rfl
   refine dr_pure 10 (some 37) HT (v := .string ((((x21 ++ (⟨#[32]⟩ : ByteArray)) ++ t304001) ++ (⟨#[47]⟩ : ByteArray)) ++ t309001)) (a' := ?_) rfl rfl (by kernel_rfl) (fun _ _ _ h => h) (.inl ⟨by rfl, fun w' => (run_cat rfl rfl rfl (of_eq_true c310001))⟩) ?_ ?_
   rotate_left
   · simp only [Act.put, ptn]; rfl
   refine dr_pure 11 (some 38) HT (v := .string (((((x21 ++ (⟨#[32]⟩ : ByteArray)) ++ t304001) ++ (⟨#[47]⟩ : ByteArray)) ++ t309001) ++ (⟨#[47]⟩ : ByteArray))) (a' := ?_) rfl rfl (by kernel_rfl) (fun _ _ _ h => h) (.inl ⟨by rfl, fun w' => (run_cat rfl rfl rfl (of_eq_true c311001))⟩) ?_ ?_
   rotate_left
   · simp only [Act.put, ptn]; rfl
   refine dr_one 15 HT rfl (by kernel_rfl) (by decide) (fun K hK => ?_)
   refine goes_ Tryd.func41 (by kernel_rfl) rfl #[.int .i64 ((rd_T80 a0.f6 x22).f2.length : Int)] (by rfl) rfl rfl (by simp only [mpn]; rfl) ?_; refine (spec_Decimal.calls ht315001.out).mono ?_; rintro _ wt315001 ⟨rfl, HQ⟩; refine ⟨_, rfl, ?_⟩; replace HS := HS.call HQ; clear HQ; (try clear F)
   (try simp only [hpn, hpm] at HS)
   have F := HS.boxes; simp only [bxn] at F
   refine hK.out _ _ ⟨_, HS⟩ (fun HH => ?_)
   clear hK K
   refine norm_ (a' := ?_) ?_ ?_
   rotate_left
   · show Act.put _ (some 42) _ = _; simp only [Act.put, ptn]; rfl
   refine dr_pure 16 (some 43) HT (v := .string ((((((x21 ++ (⟨#[32]⟩ : ByteArray)) ++ t304001) ++ (⟨#[47]⟩ : ByteArray)) ++ t309001) ++ (⟨#[47]⟩ : ByteArray)) ++ t315001)) (a' := ?_) rfl rfl (by kernel_rfl) (fun _ _ _ h => h) (.inl ⟨by rfl, fun w' => (run_cat rfl rfl rfl (of_eq_true c316001))⟩) ?_ ?_
   rotate_left
   · simp only [Act.put, ptn]; rfl
   refine drq_of [(17, some 3)] ?_
   repeat (first | (refine drq_pure HT (v := ?_) (a' := ?_) rfl rfl (by kernel_rfl) (fun _ _ _ h => h) (.inl ⟨by rfl, ?_⟩) ?_ ?_; rotate_left; (intro w'; go_simp; with_reducible rfl); rotate_left; (simp only [Act.put, ptn]; rfl)))
   refine drq_end ?_
   refine done_ (done_of HT.out (by kernel_rfl)) ?_
   (try clear F)
   have F := HS.boxes; simp only [bxn] at F
   go_wp2
   go_roundg k20
   case measure => have := HKk20.out; omega
   case rel => exact ⟨_, _, rfl, rfl, H, ⟨by have := HKk20.out; omega⟩, HS.pick [0] (by decide) (by rfl)⟩
/-! ### laws_toStringS: function 51 -/
def laws_toStringS.l0 : Nat → (List ByteArray) → Int → (List ByteArray) → Option ((List ByteArray))
  | 0, _, _, _ => none
  | k + 1, l18, x20, a0 => (if x20 < (a0.length : Int) then (if 0 ≤ x20 then (if x20 < (a0.length : Int) then (laws_toStringS.l0 k (l18.set (x20).toNat (rdOf ByteArray.empty a0 x20)) (wrap64 (x20 + 1)) a0) else none) else none) else (some l18))
def laws_toStringS.f (k : Nat) (a0 : (List ByteArray)) : Option ((List ByteArray)) := (if 0 ≤ (a0.length : Int) then (if ((a0.length : Int)).toNat ≤ 17592186044416 then (laws_toStringS.l0 k (List.replicate a0.length (⟨#[]⟩ : ByteArray)) 0 a0) else none) else none)
set_option maxHeartbeats 16000000 in
theorem laws_toStringS.calls {k : Nat} {a0 : (List ByteArray)} {Ap0 : Option Addr} {np0 cp0 : Nat} {r : (List ByteArray)} {w : World} (h : laws_toStringS.f k a0 = some r) (gp0 : Kd.string.C w Ap0 np0 a0) (lp0 : np0 ≤ cp0) :
    Calls Tryd.prog 51 #[.slice Ap0 np0 cp0] w (fun e w' => ∃ v0_ : Value, e = .returned (v0_) ∧ Hp noFP w w' [.own (Zd.slice 9 Zd.string) r [v0_]]) := by
 obtain rfl := C_len gp0
 have HS := Hp.start w
 have H := Aside0.mk h
 clear h
 unfold laws_toStringS.f at H
 go_enter Tryd.func51, Tryd.ntmps51
 by_cases c1 : 0 ≤ (a0.length : Int)
 case neg => exact zno c1 H
 replace H := zpos c1 H
 replace c1 := eq_true c1
 by_cases c2 : ((a0.length : Int)).toNat ≤ 17592186044416
 case neg => exact zno c2 H
 replace H := zpos c2 H
 replace c2 := eq_true c2
 go_wp2_with (first | ((with_reducible refine gate_dst (N := 7) rfl ?_); refine ev_make rfl Zd.string (⟨#[]⟩ : ByteArray) HS rfl (a0.length : Int) rfl rfl Tryd.underlying45 info9 rfl (by decide) (by decide) (fun _ _ => rfl) (of_eq_true c1) (by have := of_eq_true c2; omega) ?_; clear HS; (try clear F); intro v3 w3 HS; obtain ⟨B3, d3, rfl, m3⟩ := HS.formn a0.length 0 rfl (by first | rfl | simp); (try simp only [hpn, hpm] at HS)))
 go_loopg [4] k (fun kq v_4 w' => ∃ (l18 : List ByteArray) (x20 : Int), v_4 = .int .i64 x20 ∧ Aside0 (laws_toStringS.l0 kq l18 x20 a0 = some r) ∧ Aside0 (kq ≤ k) ∧ Hp noFP w w' [.own (Zd.slice 9 Zd.string) l18 [.slice B3 a0.length d3]])
 case atStart => exact ⟨_, _, rfl, H, ⟨Nat.le_refl _⟩, HS⟩
 case round =>
  clear HS H; (try clear F)
  obtain ⟨l18, x20, rfl, H, HKk17, HS⟩ := hrel
  cases gk with
  | zero => exact absurd H.out (by simp [laws_toStringS.l0])
  | succ k17 =>
   simp only [laws_toStringS.l0] at H
   by_cases c22 : x20 < (a0.length : Int)
   case neg =>
    replace H := zneg c22 H
    replace c22 := eq_false c22
    obtain rfl := zsome H
    go_wp2
    exact bodyPost_ret (results_single rfl (.tmp .nil)) rfl ⟨_, rfl, HS.pick [0] (by decide) (by rfl)⟩
   replace H := zpos c22 H
   replace c22 := eq_true c22
   by_cases c23 : 0 ≤ x20
   case neg => exact zno c23 H
   replace H := zpos c23 H
   replace c23 := eq_true c23
   by_cases c24 : x20 < (a0.length : Int)
   case neg => exact zno c24 H
   replace H := zpos c24 H
   replace c24 := eq_true c24
   obtain ⟨ad25, rfl, e25_0⟩ := Kd.at_string gp0 x20 (of_eq_true c23) (of_eq_true c24)
   have e25_0_25 := (HS.keepc e25_0)
   obtain ⟨ad26, rfl, e26_0⟩ := Kd.at_string (HS.rd 0 rfl) x20 (of_eq_true c23) (of_eq_true c24)
   go_wp2_with (first | ((with_reducible refine gate_store (p := 20) rfl ?_); refine ev_set rfl Zd.string 0 [] x20 (rdOf ByteArray.empty a0 x20) HS (seg := [.string (rdOf ByteArray.empty a0 x20)]) rfl (by decide) rfl rfl rfl (by first | rfl | exact (Nat.mul_one _).symm) rfl rfl (by kernel_rfl) (by simp [Value.oneCell']) ⟨of_eq_true c23, of_eq_true c24⟩ rfl (made_flat (fun _ => rfl)) ?_; clear HS; (try clear F); intro w27 HS; (try simp only [hpn, hpm] at HS)))
   go_roundg k17
   case measure => have := HKk17.out; omega
   case rel => exact ⟨_, _, rfl, H, ⟨by have := HKk17.out; omega⟩, HS.pick [0] (by decide) (by rfl)⟩
/-! ### laws_toAnswer: function 75 -/
def laws_toAnswer.f (k : Nat) (a0 : S112) : Option (S80) := ((laws_toStringS.f k a0.f2).bind fun t11 => ((laws_toStringS.f k a0.f3).bind fun t16 => (some (⟨a0.f0, a0.f1, t11, t16⟩ : S80))))
set_option maxHeartbeats 16000000 in
theorem laws_toAnswer.calls {k : Nat} {a0 : S112} {Ap0 : Option Addr} {np0 cp0 : Nat} {Ap1 : Option Addr} {np1 cp1 : Nat} {r : S80} {w : World} (h : laws_toAnswer.f k a0 = some r) (gp0 : Kd.string.C w Ap0 np0 a0.f2) (lp0 : np0 ≤ cp0) (gp1 : Kd.string.C w Ap1 np1 a0.f3) (lp1 : np1 ≤ cp1) :
    Calls Tryd.prog 75 #[.agg #[.int .i64 a0.f0, .int .i64 a0.f1, .slice Ap0 np0 cp0, .slice Ap1 np1 cp1]] w (fun e w' => ∃ v0_ v1_ : Value, e = .returned (.agg #[.int .i64 r.f0, .int .i64 r.f1, v0_, v1_]) ∧ Hp noFP w w' [.own (Zd.slice 9 Zd.string) r.f2 [v0_], .own (Zd.slice 9 Zd.string) r.f3 [v1_]]) := by
 obtain rfl := C_len gp0
 obtain rfl := C_len gp1
 have HS := Hp.start w
 have H := Aside0.mk h
 clear h
 unfold laws_toAnswer.f at H
 go_enter Tryd.func75, Tryd.ntmps75
 replace H := zbind H; obtain ⟨t11, ht11, H⟩ := H
 replace H := zbind H; obtain ⟨t16, ht16, H⟩ := H
 obtain rfl := zsome H
 go_wp2_with (first | ((with_reducible refine gate_dst (N := 1) rfl ?_); refine ev_box rfl HS (by first | (go_simp; done) | (go_simp; rfl)) rfl ?_; clear HS; (try clear F); intro g1 w1 HS; (try simp only [hpn, hpm] at HS); have F := HS.boxes; simp only [bxn] at F) | ((with_reducible refine gate_dst (N := 2) rfl ?_); refine ev_box rfl HS (by first | (go_simp; done) | (go_simp; rfl)) rfl ?_; clear HS; (try clear F); intro g2 w2 HS; (try simp only [hpn, hpm] at HS); have F := HS.boxes; simp only [bxn] at F) | ((with_reducible refine gate_dst (N := 3) rfl ?_); refine ev_box rfl HS (by first | (go_simp; done) | (go_simp; rfl)) rfl ?_; clear HS; (try clear F); intro g3 w3 HS; (try simp only [hpn, hpm] at HS); have F := HS.boxes; simp only [bxn] at F) | ((with_reducible refine gate_store (p := 6) rfl ?_); refine ev_store rfl 2 0 HS (seg := [.int .i64 a0.f0]) rfl rfl rfl rfl rfl rfl (by kernel_rfl) (by simp [wrt]) (by simp [Value.oneCell']) ?_; clear HS; (try clear F); intro w7 HS; (try simp only [hpn, hpm] at HS); have F := HS.boxes; simp only [bxn] at F) | ((with_reducible refine gate_store (p := 9) rfl ?_); refine ev_store rfl 2 1 HS (seg := [.int .i64 a0.f1]) rfl rfl rfl rfl rfl rfl (by kernel_rfl) (by simp [wrt]) (by simp [Value.oneCell']) ?_; clear HS; (try clear F); intro w9 HS; (try simp only [hpn, hpm] at HS); have F := HS.boxes; simp only [bxn] at F) | ((with_reducible refine gate_dst (N := 12) rfl ?_); refine ev_call rfl Tryd.func51 (by kernel_rfl) rfl #[.slice Ap0 a0.f2.length cp0] rfl (by simp only [mpn]; rfl) ?_; refine (laws_toStringS.calls ht11.out (HS.ro gp0) lp0).mono ?_; rintro _ wt11 ⟨v12, rfl, HQ⟩; refine ⟨_, rfl, ?_⟩; replace HS := HS.call HQ; clear HQ; (try clear F); obtain ⟨B12, d12, rfl, m12⟩ := HS.form 3 rfl; (try simp only [hpn, hpm] at HS); have F := HS.boxes; simp only [bxn] at F) | ((with_reducible refine gate_store (p := 13) rfl ?_); refine ev_store rfl 2 2 HS (seg := [.slice B12 t11.length d12]) rfl rfl rfl rfl rfl rfl (by kernel_rfl) (by simp [wrt]) (by simp [Value.oneCell']) ?_; clear HS; (try clear F); intro w14 HS; (try simp only [hpn, hpm] at HS); have F := HS.boxes; simp only [bxn] at F) | ((with_reducible refine gate_dst (N := 16) rfl ?_); refine ev_call rfl Tryd.func51 (by kernel_rfl) rfl #[.slice Ap1 a0.f3.length cp1] rfl (by simp only [mpn]; rfl) ?_; refine (laws_toStringS.calls ht16.out (HS.ro gp1) lp1).mono ?_; rintro _ wt16 ⟨v17, rfl, HQ⟩; refine ⟨_, rfl, ?_⟩; replace HS := HS.call HQ; clear HQ; (try clear F); obtain ⟨B17, d17, rfl, m17⟩ := HS.form 4 rfl; (try simp only [hpn, hpm] at HS); have F := HS.boxes; simp only [bxn] at F) | ((with_reducible refine gate_store (p := 17) rfl ?_); refine ev_store rfl 2 3 HS (seg := [.slice B17 t16.length d17]) rfl rfl rfl rfl rfl rfl (by kernel_rfl) (by simp [wrt]) (by simp [Value.oneCell']) ?_; clear HS; (try clear F); intro w19 HS; (try simp only [hpn, hpm] at HS); have F := HS.boxes; simp only [bxn] at F) | ((with_reducible refine gate_store (p := 2) rfl ?_); refine ev_store rfl 1 0 HS (seg := [.int .i64 a0.f0, .int .i64 a0.f1, .slice B12 t11.length d12, .slice B17 t16.length d17]) rfl rfl rfl rfl rfl rfl (by kernel_rfl) (by simp [wrt]) (by simp [Value.oneCell']) ?_; clear HS; (try clear F); intro w21 HS; (try simp only [hpn, hpm] at HS); have F := HS.boxes; simp only [bxn] at F))
 exact bodyPost_ret (results_single rfl (.cell _ _ _ _ _ rfl (HS.boxAt (i := 1) rfl) Tryd.underlying80 rfl (by kernel_rfl) .nil)) rfl ⟨_, _, rfl, HS.pick [3, 4] (by decide) (by rfl)⟩
/-! ### laws_toAnswerS: function 42 -/
def laws_toAnswerS.l0 : Nat → (List S80) → Int → (List S112) → Option ((List S80))
  | 0, _, _, _ => none
  | k + 1, l22, x24, a0 => (if x24 < (a0.length : Int) then (if 0 ≤ x24 then (if x24 < (a0.length : Int) then ((laws_toAnswer.f k (rd_T112 a0 x24)).bind fun t30 => (laws_toAnswerS.l0 k (l22.set (x24).toNat t30) (wrap64 (x24 + 1)) a0)) else none) else none) else (some l22))
def laws_toAnswerS.f (k : Nat) (a0 : (List S112)) : Option ((List S80)) := (if 0 ≤ (a0.length : Int) then (if ((a0.length : Int)).toNat ≤ 4398046511104 then (laws_toAnswerS.l0 k (List.replicate a0.length z80) 0 a0) else none) else none)
set_option maxHeartbeats 16000000 in
theorem laws_toAnswerS.calls {k : Nat} {a0 : (List S112)} {Ap0 : Option Addr} {np0 cp0 : Nat} {r : (List S80)} {w : World} (h : laws_toAnswerS.f k a0 = some r) (gp0 : k112.C w Ap0 np0 a0) (lp0 : np0 ≤ cp0) :
    Calls Tryd.prog 42 #[.slice Ap0 np0 cp0] w (fun e w' => ∃ v0_ : Value, e = .returned (v0_) ∧ Hp noFP w w' [.own (Zd.slice 80 q80) r [v0_]]) := by
 obtain rfl := C_len gp0
 have HS := Hp.start w
 have H := Aside0.mk h
 clear h
 unfold laws_toAnswerS.f at H
 go_enter Tryd.func42, Tryd.ntmps42
 by_cases c1 : 0 ≤ (a0.length : Int)
 case neg => exact zno c1 H
 replace H := zpos c1 H
 replace c1 := eq_true c1
 by_cases c2 : ((a0.length : Int)).toNat ≤ 4398046511104
 case neg => exact zno c2 H
 replace H := zpos c2 H
 replace c2 := eq_true c2
 go_wp2_with (first | ((with_reducible refine gate_dst (N := 7) rfl ?_); refine ev_make rfl q80 z80 HS rfl (a0.length : Int) rfl rfl Tryd.underlying38 info80 rfl (by decide) (by decide) q80_zero (of_eq_true c1) (by have := of_eq_true c2; omega) ?_; clear HS; (try clear F); intro v3 w3 HS; obtain ⟨B3, d3, rfl, m3⟩ := HS.formn a0.length 0 rfl (by first | rfl | simp); (try simp only [hpn, hpm] at HS)))
 go_loopg [4] k (fun kq v_4 w' => ∃ (l22 : List S80) (x24 : Int), v_4 = .int .i64 x24 ∧ Aside0 (laws_toAnswerS.l0 kq l22 x24 a0 = some r) ∧ Aside0 (kq ≤ k) ∧ Hp noFP w w' [.own (Zd.slice 80 q80) l22 [.slice B3 a0.length d3]])
 case atStart => exact ⟨_, _, rfl, H, ⟨Nat.le_refl _⟩, HS⟩
 case round =>
  clear HS H; (try clear F)
  obtain ⟨l22, x24, rfl, H, HKk21, HS⟩ := hrel
  cases gk with
  | zero => exact absurd H.out (by simp [laws_toAnswerS.l0])
  | succ k21 =>
   simp only [laws_toAnswerS.l0] at H
   by_cases c26 : x24 < (a0.length : Int)
   case neg =>
    replace H := zneg c26 H
    replace c26 := eq_false c26
    obtain rfl := zsome H
    go_wp2
    exact bodyPost_ret (results_single rfl (.tmp .nil)) rfl ⟨_, rfl, HS.pick [0] (by decide) (by rfl)⟩
   replace H := zpos c26 H
   replace c26 := eq_true c26
   by_cases c27 : 0 ≤ x24
   case neg => exact zno c27 H
   replace H := zpos c27 H
   replace c27 := eq_true c27
   by_cases c28 : x24 < (a0.length : Int)
   case neg => exact zno c28 H
   replace H := zpos c28 H
   replace c28 := eq_true c28
   obtain ⟨ad29, B29_2, d29_2, B29_3, d29_3, rfl, e29_0, e29_1, e29_2, e29_3, m29_2, y29_2, m29_3, y29_3⟩ := at_T112 gp0 x24 (of_eq_true c27) (of_eq_true c28)
   have e29_0_29 := (HS.keepc e29_0)
   have e29_1_29 := (HS.keepc e29_1)
   have e29_2_29 := (HS.keepc e29_2)
   have e29_3_29 := (HS.keepc e29_3)
   replace H := zbind H; obtain ⟨t30, ht30, H⟩ := H
   go_wp2_with (first | ((with_reducible refine gate_dst (N := 20) rfl ?_); refine ev_call rfl Tryd.func75 (by kernel_rfl) rfl #[.agg #[.int .i64 ((rd_T112 a0 x24).f0), .int .i64 ((rd_T112 a0 x24).f1), .slice B29_2 (rd_T112 a0 x24).f2.length d29_2, .slice B29_3 (rd_T112 a0 x24).f3.length d29_3]] rfl (by simp only [mpn]; rfl) ?_; refine (laws_toAnswer.calls ht30.out (HS.ro y29_2) m29_2 (HS.ro y29_3) m29_3).mono ?_; rintro _ wt30 ⟨v31, v32, rfl, HQ⟩; refine ⟨_, rfl, ?_⟩; replace HS := HS.call HQ; clear HQ; (try clear F); obtain ⟨B31, d31, rfl, m31⟩ := HS.form 1 rfl; obtain ⟨B32, d32, rfl, m32⟩ := HS.form 2 rfl; (try simp only [hpn, hpm] at HS); obtain ⟨ad34, B34_2, d34_2, B34_3, d34_3, rfl, e34_0, e34_1, e34_2, e34_3, m34_2, y34_2, m34_3, y34_3⟩ := at_T80 (HS.rd 0 rfl) x24 (of_eq_true c27) (of_eq_true c28)) | ((with_reducible refine gate_store (p := 21) rfl ?_); refine ev_set rfl q80 0 [1, 2] x24 t30 HS (seg := [.int .i64 t30.f0, .int .i64 t30.f1, .slice B31 t30.f2.length d31, .slice B32 t30.f3.length d32]) rfl (by decide) rfl rfl rfl (by first | rfl | exact (Nat.mul_one _).symm) rfl rfl (by kernel_rfl) (by simp [Value.oneCell']) ⟨of_eq_true c27, of_eq_true c28⟩ rfl (fun S hd hh => q80_pack (x := t30) hd (hh 1 (.own (Zd.slice 9 Zd.string) t30.f2 [.slice B31 t30.f2.length d31]) rfl) (hh 2 (.own (Zd.slice 9 Zd.string) t30.f3 [.slice B32 t30.f3.length d32]) rfl) (by decide)) ?_; clear HS; (try clear F); intro w35 HS; (try simp only [hpn, hpm] at HS)))
   go_roundg k21
   case measure => have := HKk21.out; omega
   case rel => exact ⟨_, _, rfl, H, ⟨by have := HKk21.out; omega⟩, HS.pick [0] (by decide) (by rfl)⟩
/-! ### laws_toReply: function 15 -/
def laws_toReply.f (k : Nat) (a0 : S35) : Option (S40) := ((laws_toAnswerS.f k a0.f6).bind fun t19 => (some (⟨a0.f0, a0.f1, a0.f2, a0.f3, a0.f4, a0.f5, t19, a0.f7⟩ : S40)))
set_option maxHeartbeats 16000000 in
theorem laws_toReply.calls {k : Nat} {a0 : S35} {Ap0 : Option Addr} {np0 cp0 : Nat} {r : S40} {w : World} (h : laws_toReply.f k a0 = some r) (gp0 : k112.C w Ap0 np0 a0.f6) (lp0 : np0 ≤ cp0) :
    Calls Tryd.prog 15 #[.agg #[.string a0.f0, .int .i64 a0.f1, .int .i64 a0.f2, .int .i64 a0.f3, .int .i64 a0.f4, .int .i64 a0.f5, .slice Ap0 np0 cp0, .string a0.f7]] w (fun e w' => ∃ v0_ : Value, e = .returned (.agg #[.string r.f0, .int .i64 r.f1, .int .i64 r.f2, .int .i64 r.f3, .int .i64 r.f4, .int .i64 r.f5, v0_, .string r.f7]) ∧ Hp noFP w w' [.own (Zd.slice 80 q80) r.f6 [v0_]]) := by
 obtain rfl := C_len gp0
 have HS := Hp.start w
 have H := Aside0.mk h
 clear h
 unfold laws_toReply.f at H
 go_enter Tryd.func15, Tryd.ntmps15
 replace H := zbind H; obtain ⟨t19, ht19, H⟩ := H
 obtain rfl := zsome H
 go_wp2_with (first | ((with_reducible refine gate_dst (N := 1) rfl ?_); refine ev_box rfl HS (by first | (go_simp; done) | (go_simp; rfl)) rfl ?_; clear HS; (try clear F); intro g1 w1 HS; (try simp only [hpn, hpm] at HS); have F := HS.boxes; simp only [bxn] at F) | ((with_reducible refine gate_dst (N := 2) rfl ?_); refine ev_box rfl HS (by first | (go_simp; done) | (go_simp; rfl)) rfl ?_; clear HS; (try clear F); intro g2 w2 HS; (try simp only [hpn, hpm] at HS); have F := HS.boxes; simp only [bxn] at F) | ((with_reducible refine gate_dst (N := 3) rfl ?_); refine ev_box rfl HS (by first | (go_simp; done) | (go_simp; rfl)) rfl ?_; clear HS; (try clear F); intro g3 w3 HS; (try simp only [hpn, hpm] at HS); have F := HS.boxes; simp only [bxn] at F) | ((with_reducible refine gate_store (p := 6) rfl ?_); refine ev_store rfl 2 0 HS (seg := [.string a0.f0]) rfl rfl rfl rfl rfl rfl (by kernel_rfl) (by simp [wrt]) (by simp [Value.oneCell']) ?_; clear HS; (try clear F); intro w7 HS; (try simp only [hpn, hpm] at HS); have F := HS.boxes; simp only [bxn] at F) | ((with_reducible refine gate_store (p := 9) rfl ?_); refine ev_store rfl 2 1 HS (seg := [.int .i64 a0.f1]) rfl rfl rfl rfl rfl rfl (by kernel_rfl) (by simp [wrt]) (by simp [Value.oneCell']) ?_; clear HS; (try clear F); intro w9 HS; (try simp only [hpn, hpm] at HS); have F := HS.boxes; simp only [bxn] at F) | ((with_reducible refine gate_store (p := 12) rfl ?_); refine ev_store rfl 2 2 HS (seg := [.int .i64 a0.f2]) rfl rfl rfl rfl rfl rfl (by kernel_rfl) (by simp [wrt]) (by simp [Value.oneCell']) ?_; clear HS; (try clear F); intro w11 HS; (try simp only [hpn, hpm] at HS); have F := HS.boxes; simp only [bxn] at F) | ((with_reducible refine gate_store (p := 15) rfl ?_); refine ev_store rfl 2 3 HS (seg := [.int .i64 a0.f3]) rfl rfl rfl rfl rfl rfl (by kernel_rfl) (by simp [wrt]) (by simp [Value.oneCell']) ?_; clear HS; (try clear F); intro w13 HS; (try simp only [hpn, hpm] at HS); have F := HS.boxes; simp only [bxn] at F) | ((with_reducible refine gate_store (p := 18) rfl ?_); refine ev_store rfl 2 4 HS (seg := [.int .i64 a0.f4]) rfl rfl rfl rfl rfl rfl (by kernel_rfl) (by simp [wrt]) (by simp [Value.oneCell']) ?_; clear HS; (try clear F); intro w15 HS; (try simp only [hpn, hpm] at HS); have F := HS.boxes; simp only [bxn] at F) | ((with_reducible refine gate_store (p := 21) rfl ?_); refine ev_store rfl 2 5 HS (seg := [.int .i64 a0.f5]) rfl rfl rfl rfl rfl rfl (by kernel_rfl) (by simp [wrt]) (by simp [Value.oneCell']) ?_; clear HS; (try clear F); intro w17 HS; (try simp only [hpn, hpm] at HS); have F := HS.boxes; simp only [bxn] at F) | ((with_reducible refine gate_dst (N := 24) rfl ?_); refine ev_call rfl Tryd.func42 (by kernel_rfl) rfl #[.slice Ap0 a0.f6.length cp0] rfl (by simp only [mpn]; rfl) ?_; refine (laws_toAnswerS.calls ht19.out (HS.ro gp0) lp0).mono ?_; rintro _ wt19 ⟨v20, rfl, HQ⟩; refine ⟨_, rfl, ?_⟩; replace HS := HS.call HQ; clear HQ; (try clear F); obtain ⟨B20, d20, rfl, m20⟩ := HS.form 3 rfl; (try simp only [hpn, hpm] at HS); have F := HS.boxes; simp only [bxn] at F) | ((with_reducible refine gate_store (p := 25) rfl ?_); refine ev_store rfl 2 6 HS (seg := [.slice B20 t19.length d20]) rfl rfl rfl rfl rfl rfl (by kernel_rfl) (by simp [wrt]) (by simp [Value.oneCell']) ?_; clear HS; (try clear F); intro w22 HS; (try simp only [hpn, hpm] at HS); have F := HS.boxes; simp only [bxn] at F) | ((with_reducible refine gate_store (p := 28) rfl ?_); refine ev_store rfl 2 7 HS (seg := [.string a0.f7]) rfl rfl rfl rfl rfl rfl (by kernel_rfl) (by simp [wrt]) (by simp [Value.oneCell']) ?_; clear HS; (try clear F); intro w24 HS; (try simp only [hpn, hpm] at HS); have F := HS.boxes; simp only [bxn] at F) | ((with_reducible refine gate_store (p := 2) rfl ?_); refine ev_store rfl 1 0 HS (seg := [.string a0.f0, .int .i64 a0.f1, .int .i64 a0.f2, .int .i64 a0.f3, .int .i64 a0.f4, .int .i64 a0.f5, .slice B20 t19.length d20, .string a0.f7]) rfl rfl rfl rfl rfl rfl (by kernel_rfl) (by simp [wrt]) (by simp [Value.oneCell']) ?_; clear HS; (try clear F); intro w26 HS; (try simp only [hpn, hpm] at HS); have F := HS.boxes; simp only [bxn] at F))
 exact bodyPost_ret (results_single rfl (.cell _ _ _ _ _ rfl (HS.boxAt (i := 1) rfl) Tryd.underlying40 rfl (by kernel_rfl) .nil)) rfl ⟨_, rfl, HS.pick [3] (by decide) (by rfl)⟩
/-! ### impl_Decimal: function 44 -/
def impl_Decimal.f (a0 : Int) : Option (ByteArray) := ((strconv_Itoa.f a0).bind fun t1 => (some t1))
set_option maxHeartbeats 16000000 in
theorem impl_Decimal.calls {a0 : Int} {r : ByteArray} {w : World} (h : impl_Decimal.f a0 = some r) (hgT : Go.Lib.TabIs Tryd.prog w "internal/strconv.uint64pow10" .u64 Go.Lib.pow10Tab) :
    Calls Tryd.prog 44 #[.int .i64 a0] w (fun e w' => e = .returned (.string r) ∧ Hp noFP w w' []) := by
 have HS := Hp.start w
 have H := Aside0.mk h
 clear h
 unfold impl_Decimal.f at H
 go_enter Tryd.func44, Tryd.ntmps44
 replace H := zbind H; obtain ⟨t1, ht1, H⟩ := H
 obtain rfl := zsome H
 go_wp2_with (first | ((with_reducible refine gate_dst (N := 4) rfl ?_); refine ev_call rfl Tryd.func76 (by kernel_rfl) rfl #[.int .i64 a0] rfl (by simp only [mpn]; rfl) ?_; refine (strconv_Itoa.calls ht1.out (HS.keept hgT)).mono ?_; rintro _ wt1 ⟨rfl, HQ⟩; refine ⟨_, rfl, ?_⟩; replace HS := HS.call HQ; clear HQ; (try clear F); (try simp only [hpn, hpm] at HS)))
 go_ret
 exact ⟨rfl, HS.pick [] (by decide) (by rfl)⟩
end Go.Proofs.YtnpokacipeobdaaDoor.F

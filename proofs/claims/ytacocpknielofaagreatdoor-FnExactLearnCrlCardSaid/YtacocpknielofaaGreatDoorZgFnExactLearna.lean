/- Functions of the program and of the law, and that their calls do what is written here. -/
import Derived.Test.YtacocpknielofaaGreatDoorZT
import Derived.Test.YtacocpknielofaaGreatDoorZQ
namespace Go.Proofs.YtacocpknielofaaGreatDoor.F
open Go.RowKit YtacocpknielofaaGreatDoorW.PrintWords YtacocpknielofaaGreatDoorW.PrintLast YtacocpknielofaaGreatDoorW.PrintMore Z
attribute [local go_sem] max2_int min2_int max_two min_two max_three min_three max_four min_four
set_option linter.unusedVariables false
set_option linter.unusedSimpArgs false
set_option maxRecDepth 100000
set_option maxHeartbeats 16000000
def laws_szIntS.f (a0 : (List Int)) (a1 : Int) : Option (Int) := (if (wrap64 (a1 - (a0.length : Int))) < 0 then (some (-1)) else (some (wrap64 (a1 - (a0.length : Int)))))
theorem laws_szIntS.calls {a0 : (List Int)} {a1 : Int} {Ap0 : Option Addr} {np0 cp0 : Nat} {r : Int} {w : World} (h : laws_szIntS.f a0 a1 = some r) (gp0 : (Kd.int .i64).C w Ap0 np0 a0) (lp0 : np0 ≤ cp0) :
    Calls Tryz.prog 85 #[.slice Ap0 np0 cp0, .int .i64 a1] w (fun e w' => e = .returned (.int .i64 r) ∧ Hp noFP w w' []) := by
 obtain rfl := C_len gp0
 have HS := Hp.start w
 have H := Aside0.mk h
 clear h
 unfold laws_szIntS.f at H
 go_enter Tryz.func85, Tryz.ntmps85
 replace H := zif H; rcases H with ⟨c1, H⟩ | ⟨c1, H⟩
 case inl =>
  obtain rfl := zsome H
  go_wp2
  go_ret
  exact HS.pk
 obtain rfl := zsome H
 go_wp2
 go_ret
 exact HS.pk
def laws_szStringS.l0 : Nat → Int → Int → (List ByteArray) → Option (Int)
  | 0, _, _, _ => none
  | k + 1, x9, x10, a0 => (if x10 < (a0.length : Int) then (if 0 ≤ x10 then (if x10 < (a0.length : Int) then (if (wrap64 (x9 - ((rdOf ByteArray.empty a0 x10).size : Int))) < 0 then (some (-1)) else (laws_szStringS.l0 k (wrap64 (x9 - ((rdOf ByteArray.empty a0 x10).size : Int))) (wrap64 (x10 + 1)) a0)) else none) else none) else (some x9))
def laws_szStringS.f (k : Nat) (a0 : (List ByteArray)) (a1 : Int) : Option (Int) := (if (wrap64 (a1 - (a0.length : Int))) < 0 then (some (-1)) else (laws_szStringS.l0 k (wrap64 (a1 - (a0.length : Int))) 0 a0))
theorem laws_szStringS.calls {k : Nat} {a0 : (List ByteArray)} {a1 : Int} {Ap0 : Option Addr} {np0 cp0 : Nat} {r : Int} {w : World} (h : laws_szStringS.f k a0 a1 = some r) (gp0 : Kd.string.C w Ap0 np0 a0) (lp0 : np0 ≤ cp0) :
    Calls Tryz.prog 87 #[.slice Ap0 np0 cp0, .int .i64 a1] w (fun e w' => e = .returned (.int .i64 r) ∧ Hp noFP w w' []) := by
 obtain rfl := C_len gp0
 have HS := Hp.start w
 have H := Aside0.mk h
 clear h
 unfold laws_szStringS.f at H
 go_enter Tryz.func87, Tryz.ntmps87
 replace H := zif H; rcases H with ⟨c1, H⟩ | ⟨c1, H⟩
 case inl =>
  obtain rfl := zsome H
  go_wp2
  go_ret
  exact HS.pk
 go_wp2
 go_loopg [1, 5] k (fun kq v_1 v_5 w' => ∃ (x9 : Int) (x10 : Int), v_1 = .int .i64 x9 ∧ v_5 = .int .i64 x10 ∧ Aside0 (laws_szStringS.l0 kq x9 x10 a0 = some r) ∧ Aside0 (kq ≤ k) ∧ Hp noFP w w' [])
 case atStart => exact ⟨_, _, rfl, rfl, H, ⟨Nat.le_refl _⟩, HS⟩
 case round =>
  clear HS H; (try clear F)
  obtain ⟨x9, x10, rfl, rfl, H, HKk8, HS⟩ := hrel
  cases gk with
  | zero => exact absurd H.out (by simp [laws_szStringS.l0])
  | succ k8 =>
   simp only [laws_szStringS.l0] at H
   replace H := znif H; rcases H with ⟨c12, H⟩ | ⟨c12, H⟩
   case inl =>
    obtain rfl := zsome H
    go_wp2
    go_ret
    exact HS.pk
   replace H := zgo H; obtain ⟨c13, H⟩ := H
   replace H := zgo H; obtain ⟨c14, H⟩ := H
   obtain ⟨ad15, rfl, e15_0⟩ := Kd.at_string gp0 x10 (of_eq_true c13) (of_eq_true c14)
   have e15_0_15 := HS.keepc e15_0
   replace H := zif H; rcases H with ⟨c16, H⟩ | ⟨c16, H⟩
   case inl =>
    obtain rfl := zsome H
    go_wp2
    go_ret
    exact HS.pk
   go_wp2
   go_roundg k8
   case measure => have := HKk8.out; omega
   case rel => exact ⟨_, _, rfl, rfl, H, ⟨by have := HKk8.out; omega⟩, HS.pick [] (by decide) (by rfl)⟩
def laws_szCert.f (k : Nat) (a0 : S88) (a1 : Int) : Option (Int) := (if (wrap64 (a1 - (a0.f1.size : Int))) < 0 then (some (-1)) else (if (wrap64 ((wrap64 (a1 - (a0.f1.size : Int))) - (a0.f2.size : Int))) < 0 then (some (-1)) else (if (wrap64 ((wrap64 ((wrap64 (a1 - (a0.f1.size : Int))) - (a0.f2.size : Int))) - (a0.f5.size : Int))) < 0 then (some (-1)) else ((laws_szIntS.f a0.f9 (wrap64 ((wrap64 ((wrap64 (a1 - (a0.f1.size : Int))) - (a0.f2.size : Int))) - (a0.f5.size : Int)))).bind fun t6 => (if t6 < 0 then (some (-1)) else ((laws_szStringS.f k a0.f10 t6).bind fun t9 => (if t9 < 0 then (some (-1)) else ((laws_szStringS.f k a0.f11 t9).bind fun t12 => (if t12 < 0 then (some (-1)) else (if (wrap64 (t12 - (a0.f12.size : Int))) < 0 then (some (-1)) else (some (wrap64 (t12 - (a0.f12.size : Int))))))))))))))
theorem laws_szCert.calls {k : Nat} {a0 : S88} {a1 : Int} {Ap0 Ap1 Ap2 : Option Addr} {np0 cp0 np1 cp1 np2 cp2 : Nat} {r : Int} {w : World} (h : laws_szCert.f k a0 a1 = some r) (gp0 : (Kd.int .i64).C w Ap0 np0 a0.f9) (lp0 : np0 ≤ cp0) (gp1 : Kd.string.C w Ap1 np1 a0.f10) (lp1 : np1 ≤ cp1) (gp2 : Kd.string.C w Ap2 np2 a0.f11) (lp2 : np2 ≤ cp2) :
    Calls Tryz.prog 34 #[.agg #[.int .i64 a0.f0, .string a0.f1, .string a0.f2, .int .i64 a0.f3, .int .i64 a0.f4, .string a0.f5, .bool a0.f6, .int .i64 a0.f7, .int .i64 a0.f8, .slice Ap0 np0 cp0, .slice Ap1 np1 cp1, .slice Ap2 np2 cp2, .string a0.f12], .int .i64 a1] w (fun e w' => e = .returned (.int .i64 r) ∧ Hp noFP w w' []) := by
 obtain rfl := C_len gp0
 obtain rfl := C_len gp1
 obtain rfl := C_len gp2
 have HS := Hp.start w
 have H := Aside0.mk h
 clear h
 unfold laws_szCert.f at H
 go_enter Tryz.func34, Tryz.ntmps34
 go_upto_if 11 with ((with_reducible refine gd 2 rfl ?_); refine ev_bx HS ?_; clear HS; intro g2 w2 HS F)
 replace H := zif H; rcases H with ⟨c3, H⟩ | ⟨c3, H⟩
 case inl =>
  (try simp only [c3, dcn])
  obtain rfl := zsome H
  go_wp2
  go_ret
  exact HS.pk
 (try simp only [c3, dcn])
 replace H := zif H; rcases H with ⟨c4, H⟩ | ⟨c4, H⟩
 case inl =>
  obtain rfl := zsome H
  go_wp2
  go_ret
  exact HS.pk
 replace H := zif H; rcases H with ⟨c5, H⟩ | ⟨c5, H⟩
 case inl =>
  obtain rfl := zsome H
  go_wp2
  go_ret
  exact HS.pk
 replace H := zbind H; obtain ⟨t6, ht6, H⟩ := H
 go_upto_if 31 with ((with_reducible refine gd 29 rfl ?_); refine ev_cl HS (laws_szIntS.calls ht6.out (HS.ro gp0) lp0) Tryz.func85 ?_; clear HS; intro wt6 HS F)
 replace H := zif H; rcases H with ⟨c8, H⟩ | ⟨c8, H⟩
 case inl =>
  (try simp only [c8, dcn])
  obtain rfl := zsome H
  go_wp2
  go_ret
  exact HS.pk
 (try simp only [c8, dcn])
 replace H := zbind H; obtain ⟨t9, ht9, H⟩ := H
 go_upto_if 37 with ((with_reducible refine gd 35 rfl ?_); refine ev_cl HS (laws_szStringS.calls ht9.out (HS.ro gp1) lp1) Tryz.func87 ?_; clear HS; intro wt9 HS F)
 replace H := zif H; rcases H with ⟨c11, H⟩ | ⟨c11, H⟩
 case inl =>
  (try simp only [c11, dcn])
  obtain rfl := zsome H
  go_wp2
  go_ret
  exact HS.pk
 (try simp only [c11, dcn])
 replace H := zbind H; obtain ⟨t12, ht12, H⟩ := H
 go_upto_if 43 with ((with_reducible refine gd 41 rfl ?_); refine ev_cl HS (laws_szStringS.calls ht12.out (HS.ro gp2) lp2) Tryz.func87 ?_; clear HS; intro wt12 HS F)
 replace H := zif H; rcases H with ⟨c14, H⟩ | ⟨c14, H⟩
 case inl =>
  (try simp only [c14, dcn])
  obtain rfl := zsome H
  go_wp2
  go_ret
  exact HS.pk
 (try simp only [c14, dcn])
 replace H := zif H; rcases H with ⟨c15, H⟩ | ⟨c15, H⟩
 case inl =>
  obtain rfl := zsome H
  go_wp2
  go_ret
  exact HS.pk
 obtain rfl := zsome H
 go_wp2
 go_ret
 exact HS.pk
def laws_szCertS.l0 : Nat → Int → Int → (List S88) → Option (Int)
  | 0, _, _, _ => none
  | k + 1, x12, x13, a0 => (if x13 < (a0.length : Int) then (if 0 ≤ x13 then (if x13 < (a0.length : Int) then ((laws_szCert.f k (rd_T88 a0 x13) x12).bind fun t19 => (if t19 < 0 then (some (-1)) else (laws_szCertS.l0 k t19 (wrap64 (x13 + 1)) a0))) else none) else none) else (some x12))
def laws_szCertS.f (k : Nat) (a0 : (List S88)) (a1 : Int) : Option (Int) := (if (wrap64 (a1 - (a0.length : Int))) < 0 then (some (-1)) else (laws_szCertS.l0 k (wrap64 (a1 - (a0.length : Int))) 0 a0))
theorem laws_szCertS.calls {k : Nat} {a0 : (List S88)} {a1 : Int} {Ap0 : Option Addr} {np0 cp0 : Nat} {r : Int} {w : World} (h : laws_szCertS.f k a0 a1 = some r) (gp0 : k88.C w Ap0 np0 a0) (lp0 : np0 ≤ cp0) :
    Calls Tryz.prog 51 #[.slice Ap0 np0 cp0, .int .i64 a1] w (fun e w' => e = .returned (.int .i64 r) ∧ Hp noFP w w' []) := by
 obtain rfl := C_len gp0
 have HS := Hp.start w
 have H := Aside0.mk h
 clear h
 unfold laws_szCertS.f at H
 go_enter Tryz.func51, Tryz.ntmps51
 replace H := zif H; rcases H with ⟨c1, H⟩ | ⟨c1, H⟩
 case inl =>
  obtain rfl := zsome H
  go_wp2
  go_ret
  exact HS.pk
 go_wp2
 go_loopg [1, 5] k (fun kq v_1 v_5 w' => ∃ (x12 : Int) (x13 : Int), v_1 = .int .i64 x12 ∧ v_5 = .int .i64 x13 ∧ Aside0 (laws_szCertS.l0 kq x12 x13 a0 = some r) ∧ Aside0 (kq ≤ k) ∧ Hp noFP w w' [])
 case atStart => exact ⟨_, _, rfl, rfl, H, ⟨Nat.le_refl _⟩, HS⟩
 case round =>
  clear HS H; (try clear F)
  obtain ⟨x12, x13, rfl, rfl, H, HKk11, HS⟩ := hrel
  cases gk with
  | zero => exact absurd H.out (by simp [laws_szCertS.l0])
  | succ k11 =>
   simp only [laws_szCertS.l0] at H
   replace H := znif H; rcases H with ⟨c15, H⟩ | ⟨c15, H⟩
   case inl =>
    obtain rfl := zsome H
    go_wp2
    go_ret
    exact HS.pk
   replace H := zgo H; obtain ⟨c16, H⟩ := H
   replace H := zgo H; obtain ⟨c17, H⟩ := H
   obtain ⟨ad18, B18_9, d18_9, B18_10, d18_10, B18_11, d18_11, rfl, e18_0, e18_1, e18_2, e18_3, e18_4, e18_5, e18_6, e18_7, e18_8, e18_9, e18_10, e18_11, e18_12, m18_9, y18_9, m18_10, y18_10, m18_11, y18_11⟩ := at_T88 gp0 x13 (of_eq_true c16) (of_eq_true c17)
   have e18_0_18 := HS.keepc e18_0
   have e18_1_18 := HS.keepc e18_1
   have e18_2_18 := HS.keepc e18_2
   have e18_3_18 := HS.keepc e18_3
   have e18_4_18 := HS.keepc e18_4
   have e18_5_18 := HS.keepc e18_5
   have e18_6_18 := HS.keepc e18_6
   have e18_7_18 := HS.keepc e18_7
   have e18_8_18 := HS.keepc e18_8
   have e18_9_18 := HS.keepc e18_9
   have e18_10_18 := HS.keepc e18_10
   have e18_11_18 := HS.keepc e18_11
   have e18_12_18 := HS.keepc e18_12
   replace H := zbind H; obtain ⟨t19, ht19, H⟩ := H
   go_upto_if 25 with ((with_reducible refine gd 23 rfl ?_); refine ev_cl HS (laws_szCert.calls ht19.out (HS.ro y18_9) m18_9 (HS.ro y18_10) m18_10 (HS.ro y18_11) m18_11) Tryz.func34 ?_; clear HS; intro wt19 HS F)
   replace H := zif H; rcases H with ⟨c21, H⟩ | ⟨c21, H⟩
   case inl =>
    (try simp only [c21, dcn])
    obtain rfl := zsome H
    go_wp2
    go_ret
    exact HS.pk
   (try simp only [c21, dcn])
   go_wp2
   go_roundg k11
   case measure => have := HKk11.out; omega
   case rel => exact ⟨_, _, rfl, rfl, H, ⟨by have := HKk11.out; omega⟩, HS.pick [] (by decide) (by rfl)⟩
def laws_szRevS.f (a0 : (List S240)) (a1 : Int) : Option (Int) := (if (wrap64 (a1 - (a0.length : Int))) < 0 then (some (-1)) else (some (wrap64 (a1 - (a0.length : Int)))))
theorem laws_szRevS.calls {a0 : (List S240)} {a1 : Int} {Ap0 : Option Addr} {np0 cp0 : Nat} {r : Int} {w : World} (h : laws_szRevS.f a0 a1 = some r) (gp0 : k240.C w Ap0 np0 a0) (lp0 : np0 ≤ cp0) :
    Calls Tryz.prog 104 #[.slice Ap0 np0 cp0, .int .i64 a1] w (fun e w' => e = .returned (.int .i64 r) ∧ Hp noFP w w' []) := by
 obtain rfl := C_len gp0
 have HS := Hp.start w
 have H := Aside0.mk h
 clear h
 unfold laws_szRevS.f at H
 go_enter Tryz.func104, Tryz.ntmps104
 replace H := zif H; rcases H with ⟨c1, H⟩ | ⟨c1, H⟩
 case inl =>
  obtain rfl := zsome H
  go_wp2
  go_ret
  exact HS.pk
 obtain rfl := zsome H
 go_wp2
 go_ret
 exact HS.pk
def laws_szCrl.f (a0 : S75) (a1 : Int) : Option (Int) := (if (wrap64 (a1 - (a0.f0.size : Int))) < 0 then (some (-1)) else ((laws_szRevS.f a0.f5 (wrap64 (a1 - (a0.f0.size : Int)))).bind fun t4 => (if t4 < 0 then (some (-1)) else (if (wrap64 (t4 - (a0.f6.size : Int))) < 0 then (some (-1)) else (some (wrap64 (t4 - (a0.f6.size : Int))))))))
theorem laws_szCrl.calls {a0 : S75} {a1 : Int} {Ap0 : Option Addr} {np0 cp0 : Nat} {r : Int} {w : World} (h : laws_szCrl.f a0 a1 = some r) (gp0 : k240.C w Ap0 np0 a0.f5) (lp0 : np0 ≤ cp0) :
    Calls Tryz.prog 26 #[.agg #[.string a0.f0, .int .i64 a0.f1, .int .i64 a0.f2, .int .i64 a0.f3, .int .i64 a0.f4, .slice Ap0 np0 cp0, .string a0.f6], .int .i64 a1] w (fun e w' => e = .returned (.int .i64 r) ∧ Hp noFP w w' []) := by
 obtain rfl := C_len gp0
 have HS := Hp.start w
 have H := Aside0.mk h
 clear h
 unfold laws_szCrl.f at H
 go_enter Tryz.func26, Tryz.ntmps26
 go_upto_if 11 with ((with_reducible refine gd 2 rfl ?_); refine ev_bx HS ?_; clear HS; intro g2 w2 HS F)
 replace H := zif H; rcases H with ⟨c3, H⟩ | ⟨c3, H⟩
 case inl =>
  (try simp only [c3, dcn])
  obtain rfl := zsome H
  go_wp2
  go_ret
  exact HS.pk
 (try simp only [c3, dcn])
 replace H := zbind H; obtain ⟨t4, ht4, H⟩ := H
 go_upto_if 17 with ((with_reducible refine gd 15 rfl ?_); refine ev_cl HS (laws_szRevS.calls ht4.out (HS.ro gp0) lp0) Tryz.func104 ?_; clear HS; intro wt4 HS F)
 replace H := zif H; rcases H with ⟨c6, H⟩ | ⟨c6, H⟩
 case inl =>
  (try simp only [c6, dcn])
  obtain rfl := zsome H
  go_wp2
  go_ret
  exact HS.pk
 (try simp only [c6, dcn])
 replace H := zif H; rcases H with ⟨c7, H⟩ | ⟨c7, H⟩
 case inl =>
  obtain rfl := zsome H
  go_wp2
  go_ret
  exact HS.pk
 obtain rfl := zsome H
 go_wp2
 go_ret
 exact HS.pk
def laws_szCrlS.l0 : Nat → Int → Int → (List S75) → Option (Int)
  | 0, _, _, _ => none
  | k + 1, x12, x13, a0 => (if x13 < (a0.length : Int) then (if 0 ≤ x13 then (if x13 < (a0.length : Int) then ((laws_szCrl.f (rd_T75 a0 x13) x12).bind fun t19 => (if t19 < 0 then (some (-1)) else (laws_szCrlS.l0 k t19 (wrap64 (x13 + 1)) a0))) else none) else none) else (some x12))
def laws_szCrlS.f (k : Nat) (a0 : (List S75)) (a1 : Int) : Option (Int) := (if (wrap64 (a1 - (a0.length : Int))) < 0 then (some (-1)) else (laws_szCrlS.l0 k (wrap64 (a1 - (a0.length : Int))) 0 a0))
theorem laws_szCrlS.calls {k : Nat} {a0 : (List S75)} {a1 : Int} {Ap0 : Option Addr} {np0 cp0 : Nat} {r : Int} {w : World} (h : laws_szCrlS.f k a0 a1 = some r) (gp0 : k75.C w Ap0 np0 a0) (lp0 : np0 ≤ cp0) :
    Calls Tryz.prog 52 #[.slice Ap0 np0 cp0, .int .i64 a1] w (fun e w' => e = .returned (.int .i64 r) ∧ Hp noFP w w' []) := by
 obtain rfl := C_len gp0
 have HS := Hp.start w
 have H := Aside0.mk h
 clear h
 unfold laws_szCrlS.f at H
 go_enter Tryz.func52, Tryz.ntmps52
 replace H := zif H; rcases H with ⟨c1, H⟩ | ⟨c1, H⟩
 case inl =>
  obtain rfl := zsome H
  go_wp2
  go_ret
  exact HS.pk
 go_wp2
 go_loopg [1, 5] k (fun kq v_1 v_5 w' => ∃ (x12 : Int) (x13 : Int), v_1 = .int .i64 x12 ∧ v_5 = .int .i64 x13 ∧ Aside0 (laws_szCrlS.l0 kq x12 x13 a0 = some r) ∧ Aside0 (kq ≤ k) ∧ Hp noFP w w' [])
 case atStart => exact ⟨_, _, rfl, rfl, H, ⟨Nat.le_refl _⟩, HS⟩
 case round =>
  clear HS H; (try clear F)
  obtain ⟨x12, x13, rfl, rfl, H, HKk11, HS⟩ := hrel
  cases gk with
  | zero => exact absurd H.out (by simp [laws_szCrlS.l0])
  | succ k11 =>
   simp only [laws_szCrlS.l0] at H
   replace H := znif H; rcases H with ⟨c15, H⟩ | ⟨c15, H⟩
   case inl =>
    obtain rfl := zsome H
    go_wp2
    go_ret
    exact HS.pk
   replace H := zgo H; obtain ⟨c16, H⟩ := H
   replace H := zgo H; obtain ⟨c17, H⟩ := H
   obtain ⟨ad18, B18_5, d18_5, rfl, e18_0, e18_1, e18_2, e18_3, e18_4, e18_5, e18_6, m18_5, y18_5⟩ := at_T75 gp0 x13 (of_eq_true c16) (of_eq_true c17)
   have e18_0_18 := HS.keepc e18_0
   have e18_1_18 := HS.keepc e18_1
   have e18_2_18 := HS.keepc e18_2
   have e18_3_18 := HS.keepc e18_3
   have e18_4_18 := HS.keepc e18_4
   have e18_5_18 := HS.keepc e18_5
   have e18_6_18 := HS.keepc e18_6
   replace H := zbind H; obtain ⟨t19, ht19, H⟩ := H
   go_upto_if 25 with ((with_reducible refine gd 23 rfl ?_); refine ev_cl HS (laws_szCrl.calls ht19.out (HS.ro y18_5) m18_5) Tryz.func26 ?_; clear HS; intro wt19 HS F)
   replace H := zif H; rcases H with ⟨c21, H⟩ | ⟨c21, H⟩
   case inl =>
    (try simp only [c21, dcn])
    obtain rfl := zsome H
    go_wp2
    go_ret
    exact HS.pk
   (try simp only [c21, dcn])
   go_wp2
   go_roundg k11
   case measure => have := HKk11.out; omega
   case rel => exact ⟨_, _, rfl, rfl, H, ⟨by have := HKk11.out; omega⟩, HS.pick [] (by decide) (by rfl)⟩
def laws_szAnchor.f (a0 : S178) (a1 : Int) : Option (Int) := (if (wrap64 (a1 - (a0.f0.size : Int))) < 0 then (some (-1)) else (if (wrap64 ((wrap64 (a1 - (a0.f0.size : Int))) - (a0.f1.size : Int))) < 0 then (some (-1)) else (some (wrap64 ((wrap64 (a1 - (a0.f0.size : Int))) - (a0.f1.size : Int))))))
theorem laws_szAnchor.calls {a0 : S178} {a1 : Int} {r : Int} {w : World} (h : laws_szAnchor.f a0 a1 = some r) :
    Calls Tryz.prog 133 #[.agg #[.string a0.f0, .string a0.f1], .int .i64 a1] w (fun e w' => e = .returned (.int .i64 r) ∧ Hp noFP w w' []) := by
 have HS := Hp.start w
 have H := Aside0.mk h
 clear h
 unfold laws_szAnchor.f at H
 go_enter Tryz.func133, Tryz.ntmps133
 go_upto_if 11 with ((with_reducible refine gd 2 rfl ?_); refine ev_bx HS ?_; clear HS; intro g2 w2 HS F)
 replace H := zif H; rcases H with ⟨c3, H⟩ | ⟨c3, H⟩
 case inl =>
  (try simp only [c3, dcn])
  obtain rfl := zsome H
  go_wp2
  go_ret
  exact HS.pk
 (try simp only [c3, dcn])
 replace H := zif H; rcases H with ⟨c4, H⟩ | ⟨c4, H⟩
 case inl =>
  obtain rfl := zsome H
  go_wp2
  go_ret
  exact HS.pk
 obtain rfl := zsome H
 go_wp2
 go_ret
 exact HS.pk
def laws_szAnchorS.l0 : Nat → Int → Int → (List S178) → Option (Int)
  | 0, _, _, _ => none
  | k + 1, x12, x13, a0 => (if x13 < (a0.length : Int) then (if 0 ≤ x13 then (if x13 < (a0.length : Int) then ((laws_szAnchor.f (rd_T178 a0 x13) x12).bind fun t19 => (if t19 < 0 then (some (-1)) else (laws_szAnchorS.l0 k t19 (wrap64 (x13 + 1)) a0))) else none) else none) else (some x12))
def laws_szAnchorS.f (k : Nat) (a0 : (List S178)) (a1 : Int) : Option (Int) := (if (wrap64 (a1 - (a0.length : Int))) < 0 then (some (-1)) else (laws_szAnchorS.l0 k (wrap64 (a1 - (a0.length : Int))) 0 a0))
theorem laws_szAnchorS.calls {k : Nat} {a0 : (List S178)} {a1 : Int} {Ap0 : Option Addr} {np0 cp0 : Nat} {r : Int} {w : World} (h : laws_szAnchorS.f k a0 a1 = some r) (gp0 : k178.C w Ap0 np0 a0) (lp0 : np0 ≤ cp0) :
    Calls Tryz.prog 53 #[.slice Ap0 np0 cp0, .int .i64 a1] w (fun e w' => e = .returned (.int .i64 r) ∧ Hp noFP w w' []) := by
 obtain rfl := C_len gp0
 have HS := Hp.start w
 have H := Aside0.mk h
 clear h
 unfold laws_szAnchorS.f at H
 go_enter Tryz.func53, Tryz.ntmps53
 replace H := zif H; rcases H with ⟨c1, H⟩ | ⟨c1, H⟩
 case inl =>
  obtain rfl := zsome H
  go_wp2
  go_ret
  exact HS.pk
 go_wp2
 go_loopg [1, 5] k (fun kq v_1 v_5 w' => ∃ (x12 : Int) (x13 : Int), v_1 = .int .i64 x12 ∧ v_5 = .int .i64 x13 ∧ Aside0 (laws_szAnchorS.l0 kq x12 x13 a0 = some r) ∧ Aside0 (kq ≤ k) ∧ Hp noFP w w' [])
 case atStart => exact ⟨_, _, rfl, rfl, H, ⟨Nat.le_refl _⟩, HS⟩
 case round =>
  clear HS H; (try clear F)
  obtain ⟨x12, x13, rfl, rfl, H, HKk11, HS⟩ := hrel
  cases gk with
  | zero => exact absurd H.out (by simp [laws_szAnchorS.l0])
  | succ k11 =>
   simp only [laws_szAnchorS.l0] at H
   replace H := znif H; rcases H with ⟨c15, H⟩ | ⟨c15, H⟩
   case inl =>
    obtain rfl := zsome H
    go_wp2
    go_ret
    exact HS.pk
   replace H := zgo H; obtain ⟨c16, H⟩ := H
   replace H := zgo H; obtain ⟨c17, H⟩ := H
   obtain ⟨ad18, rfl, e18_0, e18_1⟩ := at_T178 gp0 x13 (of_eq_true c16) (of_eq_true c17)
   have e18_0_18 := HS.keepc e18_0
   have e18_1_18 := HS.keepc e18_1
   replace H := zbind H; obtain ⟨t19, ht19, H⟩ := H
   go_upto_if 25 with ((with_reducible refine gd 23 rfl ?_); refine ev_cl HS (laws_szAnchor.calls ht19.out) Tryz.func133 ?_; clear HS; intro wt19 HS F)
   replace H := zif H; rcases H with ⟨c21, H⟩ | ⟨c21, H⟩
   case inl =>
    (try simp only [c21, dcn])
    obtain rfl := zsome H
    go_wp2
    go_ret
    exact HS.pk
   (try simp only [c21, dcn])
   go_wp2
   go_roundg k11
   case measure => have := HKk11.out; omega
   case rel => exact ⟨_, _, rfl, rfl, H, ⟨by have := HKk11.out; omega⟩, HS.pick [] (by decide) (by rfl)⟩
def laws_szStore.f (k : Nat) (a0 : S26) (a1 : Int) : Option (Int) := ((laws_szCertS.f k a0.f0 a1).bind fun t3 => (if t3 < 0 then (some (-1)) else ((laws_szCrlS.f k a0.f1 t3).bind fun t6 => (if t6 < 0 then (some (-1)) else ((laws_szAnchorS.f k a0.f2 t6).bind fun t9 => (if t9 < 0 then (some (-1)) else (some t9)))))))
theorem laws_szStore.calls {k : Nat} {a0 : S26} {a1 : Int} {Ap0 Ap1 Ap2 : Option Addr} {np0 cp0 np1 cp1 np2 cp2 : Nat} {r : Int} {w : World} (h : laws_szStore.f k a0 a1 = some r) (gp0 : k88.C w Ap0 np0 a0.f0) (lp0 : np0 ≤ cp0) (gp1 : k75.C w Ap1 np1 a0.f1) (lp1 : np1 ≤ cp1) (gp2 : k178.C w Ap2 np2 a0.f2) (lp2 : np2 ≤ cp2) :
    Calls Tryz.prog 11 #[.agg #[.slice Ap0 np0 cp0, .slice Ap1 np1 cp1, .slice Ap2 np2 cp2], .int .i64 a1] w (fun e w' => e = .returned (.int .i64 r) ∧ Hp noFP w w' []) := by
 obtain rfl := C_len gp0
 obtain rfl := C_len gp1
 obtain rfl := C_len gp2
 have HS := Hp.start w
 have H := Aside0.mk h
 clear h
 unfold laws_szStore.f at H
 go_enter Tryz.func11, Tryz.ntmps11
 replace H := zbind H; obtain ⟨t3, ht3, H⟩ := H
 go_upto_if 10 with (first | ((with_reducible refine gd 2 rfl ?_); refine ev_bx HS ?_; clear HS; intro g2 w2 HS F) | ((with_reducible refine gd 8 rfl ?_); refine ev_cl HS (laws_szCertS.calls ht3.out (HS.ro gp0) lp0) Tryz.func51 ?_; clear HS; intro wt3 HS F))
 replace H := zif H; rcases H with ⟨c5, H⟩ | ⟨c5, H⟩
 case inl =>
  (try simp only [c5, dcn])
  obtain rfl := zsome H
  go_wp2
  go_ret
  exact HS.pk
 (try simp only [c5, dcn])
 replace H := zbind H; obtain ⟨t6, ht6, H⟩ := H
 go_upto_if 16 with ((with_reducible refine gd 14 rfl ?_); refine ev_cl HS (laws_szCrlS.calls ht6.out (HS.ro gp1) lp1) Tryz.func52 ?_; clear HS; intro wt6 HS F)
 replace H := zif H; rcases H with ⟨c8, H⟩ | ⟨c8, H⟩
 case inl =>
  (try simp only [c8, dcn])
  obtain rfl := zsome H
  go_wp2
  go_ret
  exact HS.pk
 (try simp only [c8, dcn])
 replace H := zbind H; obtain ⟨t9, ht9, H⟩ := H
 go_upto_if 22 with ((with_reducible refine gd 20 rfl ?_); refine ev_cl HS (laws_szAnchorS.calls ht9.out (HS.ro gp2) lp2) Tryz.func53 ?_; clear HS; intro wt9 HS F)
 replace H := zif H; rcases H with ⟨c11, H⟩ | ⟨c11, H⟩
 case inl =>
  (try simp only [c11, dcn])
  obtain rfl := zsome H
  go_wp2
  go_ret
  exact HS.pk
 (try simp only [c11, dcn])
 obtain rfl := zsome H
 go_wp2
 go_ret
 exact HS.pk
def laws_szRules.f (a0 : S194) (a1 : Int) : Option (Int) := ((laws_szIntS.f a0.f1 a1).bind fun t3 => (if t3 < 0 then (some (-1)) else (some t3)))
theorem laws_szRules.calls {a0 : S194} {a1 : Int} {Ap0 : Option Addr} {np0 cp0 : Nat} {r : Int} {w : World} (h : laws_szRules.f a0 a1 = some r) (gp0 : (Kd.int .i64).C w Ap0 np0 a0.f1) (lp0 : np0 ≤ cp0) :
    Calls Tryz.prog 209 #[.agg #[.int .i64 a0.f0, .slice Ap0 np0 cp0, .bool a0.f2, .bool a0.f3, .int .i64 a0.f4], .int .i64 a1] w (fun e w' => e = .returned (.int .i64 r) ∧ Hp noFP w w' []) := by
 obtain rfl := C_len gp0
 have HS := Hp.start w
 have H := Aside0.mk h
 clear h
 unfold laws_szRules.f at H
 go_enter Tryz.func209, Tryz.ntmps209
 replace H := zbind H; obtain ⟨t3, ht3, H⟩ := H
 go_upto_if 10 with (first | ((with_reducible refine gd 2 rfl ?_); refine ev_bx HS ?_; clear HS; intro g2 w2 HS F) | ((with_reducible refine gd 8 rfl ?_); refine ev_cl HS (laws_szIntS.calls ht3.out (HS.ro gp0) lp0) Tryz.func85 ?_; clear HS; intro wt3 HS F))
 replace H := zif H; rcases H with ⟨c5, H⟩ | ⟨c5, H⟩
 case inl =>
  (try simp only [c5, dcn])
  obtain rfl := zsome H
  go_wp2
  go_ret
  exact HS.pk
 (try simp only [c5, dcn])
 obtain rfl := zsome H
 go_wp2
 go_ret
 exact HS.pk
def laws_szPlan.f (a0 : S196) (a1 : Int) : Option (Int) := ((laws_szIntS.f a0.f1 a1).bind fun t3 => (if t3 < 0 then (some (-1)) else ((laws_szRules.f a0.f2 t3).bind fun t6 => (if t6 < 0 then (some (-1)) else (some t6)))))
theorem laws_szPlan.calls {a0 : S196} {a1 : Int} {Ap0 Ap1 : Option Addr} {np0 cp0 np1 cp1 : Nat} {r : Int} {w : World} (h : laws_szPlan.f a0 a1 = some r) (gp0 : (Kd.int .i64).C w Ap0 np0 a0.f1) (lp0 : np0 ≤ cp0) (gp1 : (Kd.int .i64).C w Ap1 np1 a0.f2.f1) (lp1 : np1 ≤ cp1) :
    Calls Tryz.prog 151 #[.agg #[.int .i64 a0.f0, .slice Ap0 np0 cp0, .int .i64 a0.f2.f0, .slice Ap1 np1 cp1, .bool a0.f2.f2, .bool a0.f2.f3, .int .i64 a0.f2.f4], .int .i64 a1] w (fun e w' => e = .returned (.int .i64 r) ∧ Hp noFP w w' []) := by
 obtain rfl := C_len gp0
 obtain rfl := C_len gp1
 have HS := Hp.start w
 have H := Aside0.mk h
 clear h
 unfold laws_szPlan.f at H
 go_enter Tryz.func151, Tryz.ntmps151
 replace H := zbind H; obtain ⟨t3, ht3, H⟩ := H
 go_upto_if 10 with (first | ((with_reducible refine gd 2 rfl ?_); refine ev_bx HS ?_; clear HS; intro g2 w2 HS F) | ((with_reducible refine gd 8 rfl ?_); refine ev_cl HS (laws_szIntS.calls ht3.out (HS.ro gp0) lp0) Tryz.func85 ?_; clear HS; intro wt3 HS F))
 replace H := zif H; rcases H with ⟨c5, H⟩ | ⟨c5, H⟩
 case inl =>
  (try simp only [c5, dcn])
  obtain rfl := zsome H
  go_wp2
  go_ret
  exact HS.pk
 (try simp only [c5, dcn])
 replace H := zbind H; obtain ⟨t6, ht6, H⟩ := H
 go_upto_if 16 with ((with_reducible refine gd 14 rfl ?_); refine ev_cl HS (laws_szRules.calls ht6.out (HS.ro gp1) lp1) Tryz.func209 ?_; clear HS; intro wt6 HS F)
 replace H := zif H; rcases H with ⟨c8, H⟩ | ⟨c8, H⟩
 case inl =>
  (try simp only [c8, dcn])
  obtain rfl := zsome H
  go_wp2
  go_ret
  exact HS.pk
 (try simp only [c8, dcn])
 obtain rfl := zsome H
 go_wp2
 go_ret
 exact HS.pk
def laws_szPlanS.l0 : Nat → Int → Int → (List S196) → Option (Int)
  | 0, _, _, _ => none
  | k + 1, x12, x13, a0 => (if x13 < (a0.length : Int) then (if 0 ≤ x13 then (if x13 < (a0.length : Int) then ((laws_szPlan.f (rd_T196 a0 x13) x12).bind fun t19 => (if t19 < 0 then (some (-1)) else (laws_szPlanS.l0 k t19 (wrap64 (x13 + 1)) a0))) else none) else none) else (some x12))
def laws_szPlanS.f (k : Nat) (a0 : (List S196)) (a1 : Int) : Option (Int) := (if (wrap64 (a1 - (a0.length : Int))) < 0 then (some (-1)) else (laws_szPlanS.l0 k (wrap64 (a1 - (a0.length : Int))) 0 a0))
theorem laws_szPlanS.calls {k : Nat} {a0 : (List S196)} {a1 : Int} {Ap0 : Option Addr} {np0 cp0 : Nat} {r : Int} {w : World} (h : laws_szPlanS.f k a0 a1 = some r) (gp0 : k196.C w Ap0 np0 a0) (lp0 : np0 ≤ cp0) :
    Calls Tryz.prog 71 #[.slice Ap0 np0 cp0, .int .i64 a1] w (fun e w' => e = .returned (.int .i64 r) ∧ Hp noFP w w' []) := by
 obtain rfl := C_len gp0
 have HS := Hp.start w
 have H := Aside0.mk h
 clear h
 unfold laws_szPlanS.f at H
 go_enter Tryz.func71, Tryz.ntmps71
 replace H := zif H; rcases H with ⟨c1, H⟩ | ⟨c1, H⟩
 case inl =>
  obtain rfl := zsome H
  go_wp2
  go_ret
  exact HS.pk
 go_wp2
 go_loopg [1, 5] k (fun kq v_1 v_5 w' => ∃ (x12 : Int) (x13 : Int), v_1 = .int .i64 x12 ∧ v_5 = .int .i64 x13 ∧ Aside0 (laws_szPlanS.l0 kq x12 x13 a0 = some r) ∧ Aside0 (kq ≤ k) ∧ Hp noFP w w' [])
 case atStart => exact ⟨_, _, rfl, rfl, H, ⟨Nat.le_refl _⟩, HS⟩
 case round =>
  clear HS H; (try clear F)
  obtain ⟨x12, x13, rfl, rfl, H, HKk11, HS⟩ := hrel
  cases gk with
  | zero => exact absurd H.out (by simp [laws_szPlanS.l0])
  | succ k11 =>
   simp only [laws_szPlanS.l0] at H
   replace H := znif H; rcases H with ⟨c15, H⟩ | ⟨c15, H⟩
   case inl =>
    obtain rfl := zsome H
    go_wp2
    go_ret
    exact HS.pk
   replace H := zgo H; obtain ⟨c16, H⟩ := H
   replace H := zgo H; obtain ⟨c17, H⟩ := H
   obtain ⟨ad18, B18_1, d18_1, B18_3, d18_3, rfl, e18_0, e18_1, e18_2, e18_3, e18_4, e18_5, e18_6, m18_1, y18_1, m18_3, y18_3⟩ := at_T196 gp0 x13 (of_eq_true c16) (of_eq_true c17)
   have e18_0_18 := HS.keepc e18_0
   have e18_1_18 := HS.keepc e18_1
   have e18_2_18 := HS.keepc e18_2
   have e18_3_18 := HS.keepc e18_3
   have e18_4_18 := HS.keepc e18_4
   have e18_5_18 := HS.keepc e18_5
   have e18_6_18 := HS.keepc e18_6
   replace H := zbind H; obtain ⟨t19, ht19, H⟩ := H
   go_upto_if 25 with ((with_reducible refine gd 23 rfl ?_); refine ev_cl HS (laws_szPlan.calls ht19.out (HS.ro y18_1) m18_1 (HS.ro y18_3) m18_3) Tryz.func151 ?_; clear HS; intro wt19 HS F)
   replace H := zif H; rcases H with ⟨c21, H⟩ | ⟨c21, H⟩
   case inl =>
    (try simp only [c21, dcn])
    obtain rfl := zsome H
    go_wp2
    go_ret
    exact HS.pk
   (try simp only [c21, dcn])
   go_wp2
   go_roundg k11
   case measure => have := HKk11.out; omega
   case rel => exact ⟨_, _, rfl, rfl, H, ⟨by have := HKk11.out; omega⟩, HS.pick [] (by decide) (by rfl)⟩
def laws_szKept.f (a0 : S199) (a1 : Int) : Option (Int) := (if (wrap64 (a1 - (a0.f0.size : Int))) < 0 then (some (-1)) else (if (wrap64 ((wrap64 (a1 - (a0.f0.size : Int))) - (a0.f1.size : Int))) < 0 then (some (-1)) else (some (wrap64 ((wrap64 (a1 - (a0.f0.size : Int))) - (a0.f1.size : Int))))))
theorem laws_szKept.calls {a0 : S199} {a1 : Int} {r : Int} {w : World} (h : laws_szKept.f a0 a1 = some r) :
    Calls Tryz.prog 152 #[.agg #[.string a0.f0, .string a0.f1, .int .i64 a0.f2], .int .i64 a1] w (fun e w' => e = .returned (.int .i64 r) ∧ Hp noFP w w' []) := by
 have HS := Hp.start w
 have H := Aside0.mk h
 clear h
 unfold laws_szKept.f at H
 go_enter Tryz.func152, Tryz.ntmps152
 go_upto_if 11 with ((with_reducible refine gd 2 rfl ?_); refine ev_bx HS ?_; clear HS; intro g2 w2 HS F)
 replace H := zif H; rcases H with ⟨c3, H⟩ | ⟨c3, H⟩
 case inl =>
  (try simp only [c3, dcn])
  obtain rfl := zsome H
  go_wp2
  go_ret
  exact HS.pk
 (try simp only [c3, dcn])
 replace H := zif H; rcases H with ⟨c4, H⟩ | ⟨c4, H⟩
 case inl =>
  obtain rfl := zsome H
  go_wp2
  go_ret
  exact HS.pk
 obtain rfl := zsome H
 go_wp2
 go_ret
 exact HS.pk
def laws_szKeptS.l0 : Nat → Int → Int → (List S199) → Option (Int)
  | 0, _, _, _ => none
  | k + 1, x12, x13, a0 => (if x13 < (a0.length : Int) then (if 0 ≤ x13 then (if x13 < (a0.length : Int) then ((laws_szKept.f (rd_T199 a0 x13) x12).bind fun t19 => (if t19 < 0 then (some (-1)) else (laws_szKeptS.l0 k t19 (wrap64 (x13 + 1)) a0))) else none) else none) else (some x12))
def laws_szKeptS.f (k : Nat) (a0 : (List S199)) (a1 : Int) : Option (Int) := (if (wrap64 (a1 - (a0.length : Int))) < 0 then (some (-1)) else (laws_szKeptS.l0 k (wrap64 (a1 - (a0.length : Int))) 0 a0))
theorem laws_szKeptS.calls {k : Nat} {a0 : (List S199)} {a1 : Int} {Ap0 : Option Addr} {np0 cp0 : Nat} {r : Int} {w : World} (h : laws_szKeptS.f k a0 a1 = some r) (gp0 : k199.C w Ap0 np0 a0) (lp0 : np0 ≤ cp0) :
    Calls Tryz.prog 72 #[.slice Ap0 np0 cp0, .int .i64 a1] w (fun e w' => e = .returned (.int .i64 r) ∧ Hp noFP w w' []) := by
 obtain rfl := C_len gp0
 have HS := Hp.start w
 have H := Aside0.mk h
 clear h
 unfold laws_szKeptS.f at H
 go_enter Tryz.func72, Tryz.ntmps72
 replace H := zif H; rcases H with ⟨c1, H⟩ | ⟨c1, H⟩
 case inl =>
  obtain rfl := zsome H
  go_wp2
  go_ret
  exact HS.pk
 go_wp2
 go_loopg [1, 5] k (fun kq v_1 v_5 w' => ∃ (x12 : Int) (x13 : Int), v_1 = .int .i64 x12 ∧ v_5 = .int .i64 x13 ∧ Aside0 (laws_szKeptS.l0 kq x12 x13 a0 = some r) ∧ Aside0 (kq ≤ k) ∧ Hp noFP w w' [])
 case atStart => exact ⟨_, _, rfl, rfl, H, ⟨Nat.le_refl _⟩, HS⟩
 case round =>
  clear HS H; (try clear F)
  obtain ⟨x12, x13, rfl, rfl, H, HKk11, HS⟩ := hrel
  cases gk with
  | zero => exact absurd H.out (by simp [laws_szKeptS.l0])
  | succ k11 =>
   simp only [laws_szKeptS.l0] at H
   replace H := znif H; rcases H with ⟨c15, H⟩ | ⟨c15, H⟩
   case inl =>
    obtain rfl := zsome H
    go_wp2
    go_ret
    exact HS.pk
   replace H := zgo H; obtain ⟨c16, H⟩ := H
   replace H := zgo H; obtain ⟨c17, H⟩ := H
   obtain ⟨ad18, rfl, e18_0, e18_1, e18_2⟩ := at_T199 gp0 x13 (of_eq_true c16) (of_eq_true c17)
   have e18_0_18 := HS.keepc e18_0
   have e18_1_18 := HS.keepc e18_1
   have e18_2_18 := HS.keepc e18_2
   replace H := zbind H; obtain ⟨t19, ht19, H⟩ := H
   go_upto_if 25 with ((with_reducible refine gd 23 rfl ?_); refine ev_cl HS (laws_szKept.calls ht19.out) Tryz.func152 ?_; clear HS; intro wt19 HS F)
   replace H := zif H; rcases H with ⟨c21, H⟩ | ⟨c21, H⟩
   case inl =>
    (try simp only [c21, dcn])
    obtain rfl := zsome H
    go_wp2
    go_ret
    exact HS.pk
   (try simp only [c21, dcn])
   go_wp2
   go_roundg k11
   case measure => have := HKk11.out; omega
   case rel => exact ⟨_, _, rfl, rfl, H, ⟨by have := HKk11.out; omega⟩, HS.pick [] (by decide) (by rfl)⟩
def laws_szServer.f (k : Nat) (a0 : S40) (a1 : Int) : Option (Int) := ((laws_szStore.f k a0.f0 a1).bind fun t3 => (if t3 < 0 then (some (-1)) else ((laws_szPlanS.f k a0.f1 t3).bind fun t6 => (if t6 < 0 then (some (-1)) else ((laws_szKeptS.f k a0.f5 t6).bind fun t9 => (if t9 < 0 then (some (-1)) else (some t9)))))))
theorem laws_szServer.calls {k : Nat} {a0 : S40} {a1 : Int} {Ap0 Ap1 Ap2 Ap3 Ap4 : Option Addr} {np0 cp0 np1 cp1 np2 cp2 np3 cp3 np4 cp4 : Nat} {r : Int} {w : World} (h : laws_szServer.f k a0 a1 = some r) (gp0 : k88.C w Ap0 np0 a0.f0.f0) (lp0 : np0 ≤ cp0) (gp1 : k75.C w Ap1 np1 a0.f0.f1) (lp1 : np1 ≤ cp1) (gp2 : k178.C w Ap2 np2 a0.f0.f2) (lp2 : np2 ≤ cp2) (gp3 : k196.C w Ap3 np3 a0.f1) (lp3 : np3 ≤ cp3) (gp4 : k199.C w Ap4 np4 a0.f5) (lp4 : np4 ≤ cp4) :
    Calls Tryz.prog 16 #[.agg #[.slice Ap0 np0 cp0, .slice Ap1 np1 cp1, .slice Ap2 np2 cp2, .slice Ap3 np3 cp3, .int .i64 a0.f2, .int .i64 a0.f3, .int .i64 a0.f4, .slice Ap4 np4 cp4], .int .i64 a1] w (fun e w' => e = .returned (.int .i64 r) ∧ Hp noFP w w' []) := by
 obtain rfl := C_len gp0
 obtain rfl := C_len gp1
 obtain rfl := C_len gp2
 obtain rfl := C_len gp3
 obtain rfl := C_len gp4
 have HS := Hp.start w
 have H := Aside0.mk h
 clear h
 unfold laws_szServer.f at H
 go_enter Tryz.func16, Tryz.ntmps16
 replace H := zbind H; obtain ⟨t3, ht3, H⟩ := H
 go_upto_if 10 with (first | ((with_reducible refine gd 2 rfl ?_); refine ev_bx HS ?_; clear HS; intro g2 w2 HS F) | ((with_reducible refine gd 8 rfl ?_); refine ev_cl HS (laws_szStore.calls ht3.out (HS.ro gp0) lp0 (HS.ro gp1) lp1 (HS.ro gp2) lp2) Tryz.func11 ?_; clear HS; intro wt3 HS F))
 replace H := zif H; rcases H with ⟨c5, H⟩ | ⟨c5, H⟩
 case inl =>
  (try simp only [c5, dcn])
  obtain rfl := zsome H
  go_wp2
  go_ret
  exact HS.pk
 (try simp only [c5, dcn])
 replace H := zbind H; obtain ⟨t6, ht6, H⟩ := H
 go_upto_if 16 with ((with_reducible refine gd 14 rfl ?_); refine ev_cl HS (laws_szPlanS.calls ht6.out (HS.ro gp3) lp3) Tryz.func71 ?_; clear HS; intro wt6 HS F)
 replace H := zif H; rcases H with ⟨c8, H⟩ | ⟨c8, H⟩
 case inl =>
  (try simp only [c8, dcn])
  obtain rfl := zsome H
  go_wp2
  go_ret
  exact HS.pk
 (try simp only [c8, dcn])
 replace H := zbind H; obtain ⟨t9, ht9, H⟩ := H
 go_upto_if 22 with ((with_reducible refine gd 20 rfl ?_); refine ev_cl HS (laws_szKeptS.calls ht9.out (HS.ro gp4) lp4) Tryz.func72 ?_; clear HS; intro wt9 HS F)
 replace H := zif H; rcases H with ⟨c11, H⟩ | ⟨c11, H⟩
 case inl =>
  (try simp only [c11, dcn])
  obtain rfl := zsome H
  go_wp2
  go_ret
  exact HS.pk
 (try simp only [c11, dcn])
 obtain rfl := zsome H
 go_wp2
 go_ret
 exact HS.pk
def laws_toIntS.l0 : Nat → (List Int) → Int → (List Int) → Option ((List Int))
  | 0, _, _, _ => none
  | k + 1, l18, x20, a0 => (if x20 < (a0.length : Int) then (if 0 ≤ x20 then (if x20 < (a0.length : Int) then (laws_toIntS.l0 k (l18.set (x20).toNat (rd a0 x20)) (wrap64 (x20 + 1)) a0) else none) else none) else (some l18))
def laws_toIntS.f (k : Nat) (a0 : (List Int)) : Option ((List Int)) := (if 0 ≤ (a0.length : Int) then (if ((a0.length : Int)).toNat ≤ 35184372088832 then (laws_toIntS.l0 k (List.replicate a0.length (0 : Int)) 0 a0) else none) else none)
theorem laws_toIntS.calls {k : Nat} {a0 : (List Int)} {Ap0 : Option Addr} {np0 cp0 : Nat} {r : (List Int)} {w : World} (h : laws_toIntS.f k a0 = some r) (gp0 : (Kd.int .i64).C w Ap0 np0 a0) (lp0 : np0 ≤ cp0) :
    Calls Tryz.prog 93 #[.slice Ap0 np0 cp0] w (fun e w' => ∃ v0_ : Value, e = .returned (v0_) ∧ Hp noFP w w' [.own (Zd.slice 3 (Zd.int .i64)) r [v0_]]) := by
 obtain rfl := C_len gp0
 have HS := Hp.start w
 have H := Aside0.mk h
 clear h
 unfold laws_toIntS.f at H
 go_enter Tryz.func93, Tryz.ntmps93
 replace H := zgo H; obtain ⟨c1, H⟩ := H
 replace H := zgo H; obtain ⟨c2, H⟩ := H
 go_wp2_with ((with_reducible refine gd 7 rfl ?_); refine ev_make rfl (Zd.int .i64) (0 : Int) HS rfl (a0.length : Int) rfl rfl Tryz.underlying52 info3 rfl (by decide) (by decide) (fun _ _ => rfl) (of_eq_true c1) (by have := of_eq_true c2; omega) ?_; clear HS; intro v3 w3 HS; obtain ⟨B3, d3, rfl, m3⟩ := HS.formn a0.length 0 rfl (by first | rfl | simp); (try simp only [hpn, hpm] at HS))
 go_loopg [4] k (fun kq v_4 w' => ∃ (l18 : List Int) (x20 : Int), v_4 = .int .i64 x20 ∧ Aside0 (laws_toIntS.l0 kq l18 x20 a0 = some r) ∧ Aside0 (kq ≤ k) ∧ Hp noFP w w' [.own (Zd.slice 3 (Zd.int .i64)) l18 [.slice B3 a0.length d3]])
 case atStart => exact ⟨_, _, rfl, H, ⟨Nat.le_refl _⟩, HS⟩
 case round =>
  clear HS H; (try clear F)
  obtain ⟨l18, x20, rfl, H, HKk17, HS⟩ := hrel
  cases gk with
  | zero => exact absurd H.out (by simp [laws_toIntS.l0])
  | succ k17 =>
   simp only [laws_toIntS.l0] at H
   replace H := znif H; rcases H with ⟨c22, H⟩ | ⟨c22, H⟩
   case inl =>
    obtain rfl := zsome H
    go_wp2
    exact bodyPost_ret (results_single rfl (.tmp .nil)) rfl ⟨_, rfl, HS.pick [0] (by decide) (by rfl)⟩
   replace H := zgo H; obtain ⟨c23, H⟩ := H
   replace H := zgo H; obtain ⟨c24, H⟩ := H
   obtain ⟨ad25, rfl, e25_0⟩ := Kd.at_int gp0 x20 (of_eq_true c23) (of_eq_true c24)
   have e25_0_25 := HS.keepc e25_0
   obtain ⟨ad26, rfl, e26_0⟩ := Kd.at_int (HS.rd 0 rfl) x20 (of_eq_true c23) (of_eq_true c24)
   go_wp2_with ((with_reducible refine gate_store (p := 20) rfl ?_); refine ev_set rfl (Zd.int .i64) 0 [] x20 (rd a0 x20) HS (seg := [.int .i64 (rd a0 x20)]) rfl (by decide) rfl rfl rfl (by first | rfl | exact (Nat.mul_one _).symm) rfl rfl (by kernel_rfl) (by simp [Value.oneCell']) ⟨of_eq_true c23, of_eq_true c24⟩ rfl (made_flat (fun _ => rfl)) ?_; clear HS; intro w27 HS; (try simp only [hpn, hpm] at HS))
   go_roundg k17
   case measure => have := HKk17.out; omega
   case rel => exact ⟨_, _, rfl, H, ⟨by have := HKk17.out; omega⟩, HS.pick [0] (by decide) (by rfl)⟩
def laws_toStringS.l0 : Nat → (List ByteArray) → Int → (List ByteArray) → Option ((List ByteArray))
  | 0, _, _, _ => none
  | k + 1, l18, x20, a0 => (if x20 < (a0.length : Int) then (if 0 ≤ x20 then (if x20 < (a0.length : Int) then (laws_toStringS.l0 k (l18.set (x20).toNat (rdOf ByteArray.empty a0 x20)) (wrap64 (x20 + 1)) a0) else none) else none) else (some l18))
def laws_toStringS.f (k : Nat) (a0 : (List ByteArray)) : Option ((List ByteArray)) := (if 0 ≤ (a0.length : Int) then (if ((a0.length : Int)).toNat ≤ 17592186044416 then (laws_toStringS.l0 k (List.replicate a0.length (⟨#[]⟩ : ByteArray)) 0 a0) else none) else none)
theorem laws_toStringS.calls {k : Nat} {a0 : (List ByteArray)} {Ap0 : Option Addr} {np0 cp0 : Nat} {r : (List ByteArray)} {w : World} (h : laws_toStringS.f k a0 = some r) (gp0 : Kd.string.C w Ap0 np0 a0) (lp0 : np0 ≤ cp0) :
    Calls Tryz.prog 95 #[.slice Ap0 np0 cp0] w (fun e w' => ∃ v0_ : Value, e = .returned (v0_) ∧ Hp noFP w w' [.own (Zd.slice 9 Zd.string) r [v0_]]) := by
 obtain rfl := C_len gp0
 have HS := Hp.start w
 have H := Aside0.mk h
 clear h
 unfold laws_toStringS.f at H
 go_enter Tryz.func95, Tryz.ntmps95
 replace H := zgo H; obtain ⟨c1, H⟩ := H
 replace H := zgo H; obtain ⟨c2, H⟩ := H
 go_wp2_with ((with_reducible refine gd 7 rfl ?_); refine ev_make rfl Zd.string (⟨#[]⟩ : ByteArray) HS rfl (a0.length : Int) rfl rfl Tryz.underlying57 info9 rfl (by decide) (by decide) (fun _ _ => rfl) (of_eq_true c1) (by have := of_eq_true c2; omega) ?_; clear HS; intro v3 w3 HS; obtain ⟨B3, d3, rfl, m3⟩ := HS.formn a0.length 0 rfl (by first | rfl | simp); (try simp only [hpn, hpm] at HS))
 go_loopg [4] k (fun kq v_4 w' => ∃ (l18 : List ByteArray) (x20 : Int), v_4 = .int .i64 x20 ∧ Aside0 (laws_toStringS.l0 kq l18 x20 a0 = some r) ∧ Aside0 (kq ≤ k) ∧ Hp noFP w w' [.own (Zd.slice 9 Zd.string) l18 [.slice B3 a0.length d3]])
 case atStart => exact ⟨_, _, rfl, H, ⟨Nat.le_refl _⟩, HS⟩
 case round =>
  clear HS H; (try clear F)
  obtain ⟨l18, x20, rfl, H, HKk17, HS⟩ := hrel
  cases gk with
  | zero => exact absurd H.out (by simp [laws_toStringS.l0])
  | succ k17 =>
   simp only [laws_toStringS.l0] at H
   replace H := znif H; rcases H with ⟨c22, H⟩ | ⟨c22, H⟩
   case inl =>
    obtain rfl := zsome H
    go_wp2
    exact bodyPost_ret (results_single rfl (.tmp .nil)) rfl ⟨_, rfl, HS.pick [0] (by decide) (by rfl)⟩
   replace H := zgo H; obtain ⟨c23, H⟩ := H
   replace H := zgo H; obtain ⟨c24, H⟩ := H
   obtain ⟨ad25, rfl, e25_0⟩ := Kd.at_string gp0 x20 (of_eq_true c23) (of_eq_true c24)
   have e25_0_25 := HS.keepc e25_0
   obtain ⟨ad26, rfl, e26_0⟩ := Kd.at_string (HS.rd 0 rfl) x20 (of_eq_true c23) (of_eq_true c24)
   go_wp2_with ((with_reducible refine gate_store (p := 20) rfl ?_); refine ev_set rfl Zd.string 0 [] x20 (rdOf ByteArray.empty a0 x20) HS (seg := [.string (rdOf ByteArray.empty a0 x20)]) rfl (by decide) rfl rfl rfl (by first | rfl | exact (Nat.mul_one _).symm) rfl rfl (by kernel_rfl) (by simp [Value.oneCell']) ⟨of_eq_true c23, of_eq_true c24⟩ rfl (made_flat (fun _ => rfl)) ?_; clear HS; intro w27 HS; (try simp only [hpn, hpm] at HS))
   go_roundg k17
   case measure => have := HKk17.out; omega
   case rel => exact ⟨_, _, rfl, H, ⟨by have := HKk17.out; omega⟩, HS.pick [0] (by decide) (by rfl)⟩
def laws_toCert.f (k : Nat) (a0 : S88) : Option (S91) := ((laws_toIntS.f k a0.f9).bind fun t25 => ((laws_toStringS.f k a0.f10).bind fun t30 => ((laws_toStringS.f k a0.f11).bind fun t35 => (some (⟨a0.f0, a0.f1, a0.f2, a0.f3, a0.f4, a0.f5, a0.f6, a0.f7, a0.f8, t25, t30, t35, a0.f12⟩ : S91)))))
theorem laws_toCert.calls {k : Nat} {a0 : S88} {Ap0 Ap1 Ap2 : Option Addr} {np0 cp0 np1 cp1 np2 cp2 : Nat} {r : S91} {w : World} (h : laws_toCert.f k a0 = some r) (gp0 : (Kd.int .i64).C w Ap0 np0 a0.f9) (lp0 : np0 ≤ cp0) (gp1 : Kd.string.C w Ap1 np1 a0.f10) (lp1 : np1 ≤ cp1) (gp2 : Kd.string.C w Ap2 np2 a0.f11) (lp2 : np2 ≤ cp2) :
    Calls Tryz.prog 36 #[.agg #[.int .i64 a0.f0, .string a0.f1, .string a0.f2, .int .i64 a0.f3, .int .i64 a0.f4, .string a0.f5, .bool a0.f6, .int .i64 a0.f7, .int .i64 a0.f8, .slice Ap0 np0 cp0, .slice Ap1 np1 cp1, .slice Ap2 np2 cp2, .string a0.f12]] w (fun e w' => ∃ v0_ v1_ v2_ : Value, e = .returned (.agg #[.int .i64 r.f0, .string r.f1, .string r.f2, .int .i64 r.f3, .int .i64 r.f4, .string r.f5, .bool r.f6, .int .i64 r.f7, .int .i64 r.f8, v0_, v1_, v2_, .string r.f12]) ∧ Hp noFP w w' [.own (Zd.slice 3 (Zd.int .i64)) r.f9 [v0_], .own (Zd.slice 9 Zd.string) r.f10 [v1_], .own (Zd.slice 9 Zd.string) r.f11 [v2_]]) := by
 obtain rfl := C_len gp0
 obtain rfl := C_len gp1
 obtain rfl := C_len gp2
 have HS := Hp.start w
 have H := Aside0.mk h
 clear h
 unfold laws_toCert.f at H
 go_enter Tryz.func36, Tryz.ntmps36
 replace H := zbind H; obtain ⟨t25, ht25, H⟩ := H
 replace H := zbind H; obtain ⟨t30, ht30, H⟩ := H
 replace H := zbind H; obtain ⟨t35, ht35, H⟩ := H
 obtain rfl := zsome H
 go_wp2_with (first | ((with_reducible refine gd 1 rfl ?_); refine ev_bx HS ?_; clear HS; intro g1 w1 HS F) | ((with_reducible refine gd 2 rfl ?_); refine ev_bx HS ?_; clear HS; intro g2 w2 HS F) | ((with_reducible refine gd 3 rfl ?_); refine ev_bx HS ?_; clear HS; intro g3 w3 HS F) | ((with_reducible refine gate_store (p := 6) rfl ?_); refine ev_st 2 0 HS (seg := [.int .i64 a0.f0]) ?_; clear HS; intro w7 HS F) | ((with_reducible refine gate_store (p := 9) rfl ?_); refine ev_st 2 1 HS (seg := [.string a0.f1]) ?_; clear HS; intro w9 HS F) | ((with_reducible refine gate_store (p := 12) rfl ?_); refine ev_st 2 2 HS (seg := [.string a0.f2]) ?_; clear HS; intro w11 HS F) | ((with_reducible refine gate_store (p := 15) rfl ?_); refine ev_st 2 3 HS (seg := [.int .i64 a0.f3]) ?_; clear HS; intro w13 HS F) | ((with_reducible refine gate_store (p := 18) rfl ?_); refine ev_st 2 4 HS (seg := [.int .i64 a0.f4]) ?_; clear HS; intro w15 HS F) | ((with_reducible refine gate_store (p := 21) rfl ?_); refine ev_st 2 5 HS (seg := [.string a0.f5]) ?_; clear HS; intro w17 HS F) | ((with_reducible refine gate_store (p := 24) rfl ?_); refine ev_st 2 6 HS (seg := [.bool a0.f6]) ?_; clear HS; intro w19 HS F) | ((with_reducible refine gate_store (p := 27) rfl ?_); refine ev_st 2 7 HS (seg := [.int .i64 a0.f7]) ?_; clear HS; intro w21 HS F) | ((with_reducible refine gate_store (p := 30) rfl ?_); refine ev_st 2 8 HS (seg := [.int .i64 a0.f8]) ?_; clear HS; intro w23 HS F) | ((with_reducible refine gd 33 rfl ?_); refine ev_cl1 HS (laws_toIntS.calls ht25.out (HS.ro gp0) lp0) Tryz.func93 ?_; clear HS; intro v26 wt25 HS F; obtain ⟨B26, d26, rfl, m26⟩ := HS.form 3 rfl) | ((with_reducible refine gate_store (p := 34) rfl ?_); refine ev_st 2 9 HS (seg := [.slice B26 t25.length d26]) ?_; clear HS; intro w28 HS F) | ((with_reducible refine gd 37 rfl ?_); refine ev_cl1 HS (laws_toStringS.calls ht30.out (HS.ro gp1) lp1) Tryz.func95 ?_; clear HS; intro v31 wt30 HS F; obtain ⟨B31, d31, rfl, m31⟩ := HS.form 4 rfl) | ((with_reducible refine gate_store (p := 38) rfl ?_); refine ev_st 2 10 HS (seg := [.slice B31 t30.length d31]) ?_; clear HS; intro w33 HS F) | ((with_reducible refine gd 41 rfl ?_); refine ev_cl1 HS (laws_toStringS.calls ht35.out (HS.ro gp2) lp2) Tryz.func95 ?_; clear HS; intro v36 wt35 HS F; obtain ⟨B36, d36, rfl, m36⟩ := HS.form 5 rfl) | ((with_reducible refine gate_store (p := 42) rfl ?_); refine ev_st 2 11 HS (seg := [.slice B36 t35.length d36]) ?_; clear HS; intro w38 HS F) | ((with_reducible refine gate_store (p := 45) rfl ?_); refine ev_st 2 12 HS (seg := [.string a0.f12]) ?_; clear HS; intro w40 HS F) | ((with_reducible refine gate_store (p := 2) rfl ?_); refine ev_st 1 0 HS (seg := [.int .i64 a0.f0, .string a0.f1, .string a0.f2, .int .i64 a0.f3, .int .i64 a0.f4, .string a0.f5, .bool a0.f6, .int .i64 a0.f7, .int .i64 a0.f8, .slice B26 t25.length d26, .slice B31 t30.length d31, .slice B36 t35.length d36, .string a0.f12]) ?_; clear HS; intro w42 HS F))
 exact bodyPost_ret (results_single rfl (.cell _ _ _ _ _ rfl (HS.boxAt (i := 1) rfl) Tryz.underlying91 rfl (by kernel_rfl) .nil)) rfl ⟨_, _, _, rfl, HS.pick [3, 4, 5] (by decide) (by rfl)⟩
def laws_toCertS.l0 : Nat → (List S91) → Int → (List S88) → Option ((List S91))
  | 0, _, _, _ => none
  | k + 1, l23, x25, a0 => (if x25 < (a0.length : Int) then (if 0 ≤ x25 then (if x25 < (a0.length : Int) then ((laws_toCert.f k (rd_T88 a0 x25)).bind fun t31 => (laws_toCertS.l0 k (l23.set (x25).toNat t31) (wrap64 (x25 + 1)) a0)) else none) else none) else (some l23))
def laws_toCertS.f (k : Nat) (a0 : (List S88)) : Option ((List S91)) := (if 0 ≤ (a0.length : Int) then (if ((a0.length : Int)).toNat ≤ 1529755308210 then (laws_toCertS.l0 k (List.replicate a0.length z91) 0 a0) else none) else none)
theorem laws_toCertS.calls {k : Nat} {a0 : (List S88)} {Ap0 : Option Addr} {np0 cp0 : Nat} {r : (List S91)} {w : World} (h : laws_toCertS.f k a0 = some r) (gp0 : k88.C w Ap0 np0 a0) (lp0 : np0 ≤ cp0) :
    Calls Tryz.prog 58 #[.slice Ap0 np0 cp0] w (fun e w' => ∃ v0_ : Value, e = .returned (v0_) ∧ Hp noFP w w' [.own (Zd.slice 91 q91) r [v0_]]) := by
 obtain rfl := C_len gp0
 have HS := Hp.start w
 have H := Aside0.mk h
 clear h
 unfold laws_toCertS.f at H
 go_enter Tryz.func58, Tryz.ntmps58
 replace H := zgo H; obtain ⟨c1, H⟩ := H
 replace H := zgo H; obtain ⟨c2, H⟩ := H
 go_wp2_with ((with_reducible refine gd 7 rfl ?_); refine ev_make rfl q91 z91 HS rfl (a0.length : Int) rfl rfl Tryz.underlying29 info91 rfl (by decide) (by decide) q91_zero (of_eq_true c1) (by have := of_eq_true c2; omega) ?_; clear HS; intro v3 w3 HS; obtain ⟨B3, d3, rfl, m3⟩ := HS.formn a0.length 0 rfl (by first | rfl | simp); (try simp only [hpn, hpm] at HS))
 go_loopg [4] k (fun kq v_4 w' => ∃ (l23 : List S91) (x25 : Int), v_4 = .int .i64 x25 ∧ Aside0 (laws_toCertS.l0 kq l23 x25 a0 = some r) ∧ Aside0 (kq ≤ k) ∧ Hp noFP w w' [.own (Zd.slice 91 q91) l23 [.slice B3 a0.length d3]])
 case atStart => exact ⟨_, _, rfl, H, ⟨Nat.le_refl _⟩, HS⟩
 case round =>
  clear HS H; (try clear F)
  obtain ⟨l23, x25, rfl, H, HKk22, HS⟩ := hrel
  cases gk with
  | zero => exact absurd H.out (by simp [laws_toCertS.l0])
  | succ k22 =>
   simp only [laws_toCertS.l0] at H
   replace H := znif H; rcases H with ⟨c27, H⟩ | ⟨c27, H⟩
   case inl =>
    obtain rfl := zsome H
    go_wp2
    exact bodyPost_ret (results_single rfl (.tmp .nil)) rfl ⟨_, rfl, HS.pick [0] (by decide) (by rfl)⟩
   replace H := zgo H; obtain ⟨c28, H⟩ := H
   replace H := zgo H; obtain ⟨c29, H⟩ := H
   obtain ⟨ad30, B30_9, d30_9, B30_10, d30_10, B30_11, d30_11, rfl, e30_0, e30_1, e30_2, e30_3, e30_4, e30_5, e30_6, e30_7, e30_8, e30_9, e30_10, e30_11, e30_12, m30_9, y30_9, m30_10, y30_10, m30_11, y30_11⟩ := at_T88 gp0 x25 (of_eq_true c28) (of_eq_true c29)
   have e30_0_30 := HS.keepc e30_0
   have e30_1_30 := HS.keepc e30_1
   have e30_2_30 := HS.keepc e30_2
   have e30_3_30 := HS.keepc e30_3
   have e30_4_30 := HS.keepc e30_4
   have e30_5_30 := HS.keepc e30_5
   have e30_6_30 := HS.keepc e30_6
   have e30_7_30 := HS.keepc e30_7
   have e30_8_30 := HS.keepc e30_8
   have e30_9_30 := HS.keepc e30_9
   have e30_10_30 := HS.keepc e30_10
   have e30_11_30 := HS.keepc e30_11
   have e30_12_30 := HS.keepc e30_12
   replace H := zbind H; obtain ⟨t31, ht31, H⟩ := H
   go_wp2_with (first | ((with_reducible refine gd 20 rfl ?_); refine ev_cl3 HS (laws_toCert.calls ht31.out (HS.ro y30_9) m30_9 (HS.ro y30_10) m30_10 (HS.ro y30_11) m30_11) Tryz.func36 ?_; clear HS; intro v32 v33 v34 wt31 HS F; obtain ⟨B32, d32, rfl, m32⟩ := HS.form 1 rfl; obtain ⟨B33, d33, rfl, m33⟩ := HS.form 2 rfl; obtain ⟨B34, d34, rfl, m34⟩ := HS.form 3 rfl; obtain ⟨ad36, B36_9, d36_9, B36_10, d36_10, B36_11, d36_11, rfl, e36_0, e36_1, e36_2, e36_3, e36_4, e36_5, e36_6, e36_7, e36_8, e36_9, e36_10, e36_11, e36_12, m36_9, y36_9, m36_10, y36_10, m36_11, y36_11⟩ := at_T91 (HS.rd 0 rfl) x25 (of_eq_true c28) (of_eq_true c29)) | ((with_reducible refine gate_store (p := 21) rfl ?_); refine ev_set rfl q91 0 [1, 2, 3] x25 t31 HS (seg := [.int .i64 t31.f0, .string t31.f1, .string t31.f2, .int .i64 t31.f3, .int .i64 t31.f4, .string t31.f5, .bool t31.f6, .int .i64 t31.f7, .int .i64 t31.f8, .slice B32 t31.f9.length d32, .slice B33 t31.f10.length d33, .slice B34 t31.f11.length d34, .string t31.f12]) rfl (by decide) rfl rfl rfl (by first | rfl | exact (Nat.mul_one _).symm) rfl rfl (by kernel_rfl) (by simp [Value.oneCell']) ⟨of_eq_true c28, of_eq_true c29⟩ rfl (fun S hd hh => q91_pack (x := t31) hd (hh 1 (.own (Zd.slice 3 (Zd.int .i64)) t31.f9 [.slice B32 t31.f9.length d32]) rfl) (hh 2 (.own (Zd.slice 9 Zd.string) t31.f10 [.slice B33 t31.f10.length d33]) rfl) (hh 3 (.own (Zd.slice 9 Zd.string) t31.f11 [.slice B34 t31.f11.length d34]) rfl) (by decide)) ?_; clear HS; intro w37 HS; (try simp only [hpn, hpm] at HS)))
   go_roundg k22
   case measure => have := HKk22.out; omega
   case rel => exact ⟨_, _, rfl, H, ⟨by have := HKk22.out; omega⟩, HS.pick [0] (by decide) (by rfl)⟩
def laws_toRev.f (a0 : S240) : Option (S238) := (some (⟨a0.f0, a0.f1⟩ : S238))
theorem laws_toRev.calls {a0 : S240} {r : S238} {w : World} (h : laws_toRev.f a0 = some r) :
    Calls Tryz.prog 176 #[.agg #[.int .i64 a0.f0, .int .i64 a0.f1]] w (fun e w' => e = .returned (.agg #[.int .i64 r.f0, .int .i64 r.f1]) ∧ Hp noFP w w' []) := by
 have HS := Hp.start w
 have H := Aside0.mk h
 clear h
 unfold laws_toRev.f at H
 go_enter Tryz.func176, Tryz.ntmps176
 obtain rfl := zsome H
 go_wp2_with (first | ((with_reducible refine gd 1 rfl ?_); refine ev_bx HS ?_; clear HS; intro g1 w1 HS F) | ((with_reducible refine gd 2 rfl ?_); refine ev_bx HS ?_; clear HS; intro g2 w2 HS F) | ((with_reducible refine gd 3 rfl ?_); refine ev_bx HS ?_; clear HS; intro g3 w3 HS F) | ((with_reducible refine gate_store (p := 6) rfl ?_); refine ev_st 2 0 HS (seg := [.int .i64 a0.f0]) ?_; clear HS; intro w7 HS F) | ((with_reducible refine gate_store (p := 9) rfl ?_); refine ev_st 2 1 HS (seg := [.int .i64 a0.f1]) ?_; clear HS; intro w9 HS F) | ((with_reducible refine gate_store (p := 2) rfl ?_); refine ev_st 1 0 HS (seg := [.int .i64 a0.f0, .int .i64 a0.f1]) ?_; clear HS; intro w11 HS F))
 exact bodyPost_ret (results_single rfl (.cell _ _ _ _ _ rfl (HS.boxAt (i := 1) rfl) Tryz.underlying238 rfl (by kernel_rfl) .nil)) rfl ⟨rfl, HS.pick [] (by decide) (by rfl)⟩
def laws_toRevS.l0 : Nat → (List S238) → Int → (List S240) → Option ((List S238))
  | 0, _, _, _ => none
  | k + 1, l20, x22, a0 => (if x22 < (a0.length : Int) then (if 0 ≤ x22 then (if x22 < (a0.length : Int) then ((laws_toRev.f (rd_T240 a0 x22)).bind fun t28 => (laws_toRevS.l0 k (l20.set (x22).toNat t28) (wrap64 (x22 + 1)) a0)) else none) else none) else (some l20))
def laws_toRevS.f (k : Nat) (a0 : (List S240)) : Option ((List S238)) := (if 0 ≤ (a0.length : Int) then (if ((a0.length : Int)).toNat ≤ 17592186044416 then (laws_toRevS.l0 k (List.replicate a0.length z238) 0 a0) else none) else none)
theorem laws_toRevS.calls {k : Nat} {a0 : (List S240)} {Ap0 : Option Addr} {np0 cp0 : Nat} {r : (List S238)} {w : World} (h : laws_toRevS.f k a0 = some r) (gp0 : k240.C w Ap0 np0 a0) (lp0 : np0 ≤ cp0) :
    Calls Tryz.prog 107 #[.slice Ap0 np0 cp0] w (fun e w' => ∃ v0_ : Value, e = .returned (v0_) ∧ Hp noFP w w' [.own (Zd.slice 238 q238) r [v0_]]) := by
 obtain rfl := C_len gp0
 have HS := Hp.start w
 have H := Aside0.mk h
 clear h
 unfold laws_toRevS.f at H
 go_enter Tryz.func107, Tryz.ntmps107
 replace H := zgo H; obtain ⟨c1, H⟩ := H
 replace H := zgo H; obtain ⟨c2, H⟩ := H
 go_wp2_with ((with_reducible refine gd 7 rfl ?_); refine ev_make rfl q238 z238 HS rfl (a0.length : Int) rfl rfl Tryz.underlying79 info238 rfl (by decide) (by decide) q238_zero (of_eq_true c1) (by have := of_eq_true c2; omega) ?_; clear HS; intro v3 w3 HS; obtain ⟨B3, d3, rfl, m3⟩ := HS.formn a0.length 0 rfl (by first | rfl | simp); (try simp only [hpn, hpm] at HS))
 go_loopg [4] k (fun kq v_4 w' => ∃ (l20 : List S238) (x22 : Int), v_4 = .int .i64 x22 ∧ Aside0 (laws_toRevS.l0 kq l20 x22 a0 = some r) ∧ Aside0 (kq ≤ k) ∧ Hp noFP w w' [.own (Zd.slice 238 q238) l20 [.slice B3 a0.length d3]])
 case atStart => exact ⟨_, _, rfl, H, ⟨Nat.le_refl _⟩, HS⟩
 case round =>
  clear HS H; (try clear F)
  obtain ⟨l20, x22, rfl, H, HKk19, HS⟩ := hrel
  cases gk with
  | zero => exact absurd H.out (by simp [laws_toRevS.l0])
  | succ k19 =>
   simp only [laws_toRevS.l0] at H
   replace H := znif H; rcases H with ⟨c24, H⟩ | ⟨c24, H⟩
   case inl =>
    obtain rfl := zsome H
    go_wp2
    exact bodyPost_ret (results_single rfl (.tmp .nil)) rfl ⟨_, rfl, HS.pick [0] (by decide) (by rfl)⟩
   replace H := zgo H; obtain ⟨c25, H⟩ := H
   replace H := zgo H; obtain ⟨c26, H⟩ := H
   obtain ⟨ad27, rfl, e27_0, e27_1⟩ := at_T240 gp0 x22 (of_eq_true c25) (of_eq_true c26)
   have e27_0_27 := HS.keepc e27_0
   have e27_1_27 := HS.keepc e27_1
   replace H := zbind H; obtain ⟨t28, ht28, H⟩ := H
   go_wp2_with (first | ((with_reducible refine gd 20 rfl ?_); refine ev_cl HS (laws_toRev.calls ht28.out) Tryz.func176 ?_; clear HS; intro wt28 HS F; obtain ⟨ad30, rfl, e30_0, e30_1⟩ := at_T238 (HS.rd 0 rfl) x22 (of_eq_true c25) (of_eq_true c26)) | ((with_reducible refine gate_store (p := 21) rfl ?_); refine ev_set rfl q238 0 [] x22 t28 HS (seg := [.int .i64 t28.f0, .int .i64 t28.f1]) rfl (by decide) rfl rfl rfl (by first | rfl | exact (Nat.mul_one _).symm) rfl rfl (by kernel_rfl) (by simp [Value.oneCell']) ⟨of_eq_true c25, of_eq_true c26⟩ rfl (made_flat (fun _ => q238_flat _ _ _)) ?_; clear HS; intro w31 HS; (try simp only [hpn, hpm] at HS)))
   go_roundg k19
   case measure => have := HKk19.out; omega
   case rel => exact ⟨_, _, rfl, H, ⟨by have := HKk19.out; omega⟩, HS.pick [0] (by decide) (by rfl)⟩
def laws_toCrl.f (k : Nat) (a0 : S75) : Option (S81) := ((laws_toRevS.f k a0.f5).bind fun t17 => (some (⟨a0.f0, a0.f1, a0.f2, a0.f3, a0.f4, t17, a0.f6⟩ : S81)))
theorem laws_toCrl.calls {k : Nat} {a0 : S75} {Ap0 : Option Addr} {np0 cp0 : Nat} {r : S81} {w : World} (h : laws_toCrl.f k a0 = some r) (gp0 : k240.C w Ap0 np0 a0.f5) (lp0 : np0 ≤ cp0) :
    Calls Tryz.prog 28 #[.agg #[.string a0.f0, .int .i64 a0.f1, .int .i64 a0.f2, .int .i64 a0.f3, .int .i64 a0.f4, .slice Ap0 np0 cp0, .string a0.f6]] w (fun e w' => ∃ v0_ : Value, e = .returned (.agg #[.string r.f0, .int .i64 r.f1, .int .i64 r.f2, .int .i64 r.f3, .int .i64 r.f4, v0_, .string r.f6]) ∧ Hp noFP w w' [.own (Zd.slice 238 q238) r.f5 [v0_]]) := by
 obtain rfl := C_len gp0
 have HS := Hp.start w
 have H := Aside0.mk h
 clear h
 unfold laws_toCrl.f at H
 go_enter Tryz.func28, Tryz.ntmps28
 replace H := zbind H; obtain ⟨t17, ht17, H⟩ := H
 obtain rfl := zsome H
 go_wp2_with (first | ((with_reducible refine gd 1 rfl ?_); refine ev_bx HS ?_; clear HS; intro g1 w1 HS F) | ((with_reducible refine gd 2 rfl ?_); refine ev_bx HS ?_; clear HS; intro g2 w2 HS F) | ((with_reducible refine gd 3 rfl ?_); refine ev_bx HS ?_; clear HS; intro g3 w3 HS F) | ((with_reducible refine gate_store (p := 6) rfl ?_); refine ev_st 2 0 HS (seg := [.string a0.f0]) ?_; clear HS; intro w7 HS F) | ((with_reducible refine gate_store (p := 9) rfl ?_); refine ev_st 2 1 HS (seg := [.int .i64 a0.f1]) ?_; clear HS; intro w9 HS F) | ((with_reducible refine gate_store (p := 12) rfl ?_); refine ev_st 2 2 HS (seg := [.int .i64 a0.f2]) ?_; clear HS; intro w11 HS F) | ((with_reducible refine gate_store (p := 15) rfl ?_); refine ev_st 2 3 HS (seg := [.int .i64 a0.f3]) ?_; clear HS; intro w13 HS F) | ((with_reducible refine gate_store (p := 18) rfl ?_); refine ev_st 2 4 HS (seg := [.int .i64 a0.f4]) ?_; clear HS; intro w15 HS F) | ((with_reducible refine gd 21 rfl ?_); refine ev_cl1 HS (laws_toRevS.calls ht17.out (HS.ro gp0) lp0) Tryz.func107 ?_; clear HS; intro v18 wt17 HS F; obtain ⟨B18, d18, rfl, m18⟩ := HS.form 3 rfl) | ((with_reducible refine gate_store (p := 22) rfl ?_); refine ev_st 2 5 HS (seg := [.slice B18 t17.length d18]) ?_; clear HS; intro w20 HS F) | ((with_reducible refine gate_store (p := 25) rfl ?_); refine ev_st 2 6 HS (seg := [.string a0.f6]) ?_; clear HS; intro w22 HS F) | ((with_reducible refine gate_store (p := 2) rfl ?_); refine ev_st 1 0 HS (seg := [.string a0.f0, .int .i64 a0.f1, .int .i64 a0.f2, .int .i64 a0.f3, .int .i64 a0.f4, .slice B18 t17.length d18, .string a0.f6]) ?_; clear HS; intro w24 HS F))
 exact bodyPost_ret (results_single rfl (.cell _ _ _ _ _ rfl (HS.boxAt (i := 1) rfl) Tryz.underlying81 rfl (by kernel_rfl) .nil)) rfl ⟨_, rfl, HS.pick [3] (by decide) (by rfl)⟩
def laws_toCrlS.l0 : Nat → (List S81) → Int → (List S75) → Option ((List S81))
  | 0, _, _, _ => none
  | k + 1, l21, x23, a0 => (if x23 < (a0.length : Int) then (if 0 ≤ x23 then (if x23 < (a0.length : Int) then ((laws_toCrl.f k (rd_T75 a0 x23)).bind fun t29 => (laws_toCrlS.l0 k (l21.set (x23).toNat t29) (wrap64 (x23 + 1)) a0)) else none) else none) else (some l21))
def laws_toCrlS.f (k : Nat) (a0 : (List S75)) : Option ((List S81)) := (if 0 ≤ (a0.length : Int) then (if ((a0.length : Int)).toNat ≤ 3198579280802 then (laws_toCrlS.l0 k (List.replicate a0.length z81) 0 a0) else none) else none)
theorem laws_toCrlS.calls {k : Nat} {a0 : (List S75)} {Ap0 : Option Addr} {np0 cp0 : Nat} {r : (List S81)} {w : World} (h : laws_toCrlS.f k a0 = some r) (gp0 : k75.C w Ap0 np0 a0) (lp0 : np0 ≤ cp0) :
    Calls Tryz.prog 59 #[.slice Ap0 np0 cp0] w (fun e w' => ∃ v0_ : Value, e = .returned (v0_) ∧ Hp noFP w w' [.own (Zd.slice 81 q81) r [v0_]]) := by
 obtain rfl := C_len gp0
 have HS := Hp.start w
 have H := Aside0.mk h
 clear h
 unfold laws_toCrlS.f at H
 go_enter Tryz.func59, Tryz.ntmps59
 replace H := zgo H; obtain ⟨c1, H⟩ := H
 replace H := zgo H; obtain ⟨c2, H⟩ := H
 go_wp2_with ((with_reducible refine gd 7 rfl ?_); refine ev_make rfl q81 z81 HS rfl (a0.length : Int) rfl rfl Tryz.underlying30 info81 rfl (by decide) (by decide) q81_zero (of_eq_true c1) (by have := of_eq_true c2; omega) ?_; clear HS; intro v3 w3 HS; obtain ⟨B3, d3, rfl, m3⟩ := HS.formn a0.length 0 rfl (by first | rfl | simp); (try simp only [hpn, hpm] at HS))
 go_loopg [4] k (fun kq v_4 w' => ∃ (l21 : List S81) (x23 : Int), v_4 = .int .i64 x23 ∧ Aside0 (laws_toCrlS.l0 kq l21 x23 a0 = some r) ∧ Aside0 (kq ≤ k) ∧ Hp noFP w w' [.own (Zd.slice 81 q81) l21 [.slice B3 a0.length d3]])
 case atStart => exact ⟨_, _, rfl, H, ⟨Nat.le_refl _⟩, HS⟩
 case round =>
  clear HS H; (try clear F)
  obtain ⟨l21, x23, rfl, H, HKk20, HS⟩ := hrel
  cases gk with
  | zero => exact absurd H.out (by simp [laws_toCrlS.l0])
  | succ k20 =>
   simp only [laws_toCrlS.l0] at H
   replace H := znif H; rcases H with ⟨c25, H⟩ | ⟨c25, H⟩
   case inl =>
    obtain rfl := zsome H
    go_wp2
    exact bodyPost_ret (results_single rfl (.tmp .nil)) rfl ⟨_, rfl, HS.pick [0] (by decide) (by rfl)⟩
   replace H := zgo H; obtain ⟨c26, H⟩ := H
   replace H := zgo H; obtain ⟨c27, H⟩ := H
   obtain ⟨ad28, B28_5, d28_5, rfl, e28_0, e28_1, e28_2, e28_3, e28_4, e28_5, e28_6, m28_5, y28_5⟩ := at_T75 gp0 x23 (of_eq_true c26) (of_eq_true c27)
   have e28_0_28 := HS.keepc e28_0
   have e28_1_28 := HS.keepc e28_1
   have e28_2_28 := HS.keepc e28_2
   have e28_3_28 := HS.keepc e28_3
   have e28_4_28 := HS.keepc e28_4
   have e28_5_28 := HS.keepc e28_5
   have e28_6_28 := HS.keepc e28_6
   replace H := zbind H; obtain ⟨t29, ht29, H⟩ := H
   go_wp2_with (first | ((with_reducible refine gd 20 rfl ?_); refine ev_cl1 HS (laws_toCrl.calls ht29.out (HS.ro y28_5) m28_5) Tryz.func28 ?_; clear HS; intro v30 wt29 HS F; obtain ⟨B30, d30, rfl, m30⟩ := HS.form 1 rfl; obtain ⟨ad32, B32_5, d32_5, rfl, e32_0, e32_1, e32_2, e32_3, e32_4, e32_5, e32_6, m32_5, y32_5⟩ := at_T81 (HS.rd 0 rfl) x23 (of_eq_true c26) (of_eq_true c27)) | ((with_reducible refine gate_store (p := 21) rfl ?_); refine ev_set rfl q81 0 [1] x23 t29 HS (seg := [.string t29.f0, .int .i64 t29.f1, .int .i64 t29.f2, .int .i64 t29.f3, .int .i64 t29.f4, .slice B30 t29.f5.length d30, .string t29.f6]) rfl (by decide) rfl rfl rfl (by first | rfl | exact (Nat.mul_one _).symm) rfl rfl (by kernel_rfl) (by simp [Value.oneCell']) ⟨of_eq_true c26, of_eq_true c27⟩ rfl (fun S hd hh => q81_pack (x := t29) hd (hh 1 (.own (Zd.slice 238 q238) t29.f5 [.slice B30 t29.f5.length d30]) rfl) (by decide)) ?_; clear HS; intro w33 HS; (try simp only [hpn, hpm] at HS)))
   go_roundg k20
   case measure => have := HKk20.out; omega
   case rel => exact ⟨_, _, rfl, H, ⟨by have := HKk20.out; omega⟩, HS.pick [0] (by decide) (by rfl)⟩
def laws_toAnchor.f (a0 : S178) : Option (S115) := (some (⟨a0.f0, a0.f1⟩ : S115))
theorem laws_toAnchor.calls {a0 : S178} {r : S115} {w : World} (h : laws_toAnchor.f a0 = some r) :
    Calls Tryz.prog 140 #[.agg #[.string a0.f0, .string a0.f1]] w (fun e w' => e = .returned (.agg #[.string r.f0, .string r.f1]) ∧ Hp noFP w w' []) := by
 have HS := Hp.start w
 have H := Aside0.mk h
 clear h
 unfold laws_toAnchor.f at H
 go_enter Tryz.func140, Tryz.ntmps140
 obtain rfl := zsome H
 go_wp2_with (first | ((with_reducible refine gd 1 rfl ?_); refine ev_bx HS ?_; clear HS; intro g1 w1 HS F) | ((with_reducible refine gd 2 rfl ?_); refine ev_bx HS ?_; clear HS; intro g2 w2 HS F) | ((with_reducible refine gd 3 rfl ?_); refine ev_bx HS ?_; clear HS; intro g3 w3 HS F) | ((with_reducible refine gate_store (p := 6) rfl ?_); refine ev_st 2 0 HS (seg := [.string a0.f0]) ?_; clear HS; intro w7 HS F) | ((with_reducible refine gate_store (p := 9) rfl ?_); refine ev_st 2 1 HS (seg := [.string a0.f1]) ?_; clear HS; intro w9 HS F) | ((with_reducible refine gate_store (p := 2) rfl ?_); refine ev_st 1 0 HS (seg := [.string a0.f0, .string a0.f1]) ?_; clear HS; intro w11 HS F))
 exact bodyPost_ret (results_single rfl (.cell _ _ _ _ _ rfl (HS.boxAt (i := 1) rfl) Tryz.underlying115 rfl (by kernel_rfl) .nil)) rfl ⟨rfl, HS.pick [] (by decide) (by rfl)⟩
def laws_toAnchorS.l0 : Nat → (List S115) → Int → (List S178) → Option ((List S115))
  | 0, _, _, _ => none
  | k + 1, l20, x22, a0 => (if x22 < (a0.length : Int) then (if 0 ≤ x22 then (if x22 < (a0.length : Int) then ((laws_toAnchor.f (rd_T178 a0 x22)).bind fun t28 => (laws_toAnchorS.l0 k (l20.set (x22).toNat t28) (wrap64 (x22 + 1)) a0)) else none) else none) else (some l20))
def laws_toAnchorS.f (k : Nat) (a0 : (List S178)) : Option ((List S115)) := (if 0 ≤ (a0.length : Int) then (if ((a0.length : Int)).toNat ≤ 8796093022208 then (laws_toAnchorS.l0 k (List.replicate a0.length z115) 0 a0) else none) else none)
theorem laws_toAnchorS.calls {k : Nat} {a0 : (List S178)} {Ap0 : Option Addr} {np0 cp0 : Nat} {r : (List S115)} {w : World} (h : laws_toAnchorS.f k a0 = some r) (gp0 : k178.C w Ap0 np0 a0) (lp0 : np0 ≤ cp0) :
    Calls Tryz.prog 60 #[.slice Ap0 np0 cp0] w (fun e w' => ∃ v0_ : Value, e = .returned (v0_) ∧ Hp noFP w w' [.own (Zd.slice 115 q115) r [v0_]]) := by
 obtain rfl := C_len gp0
 have HS := Hp.start w
 have H := Aside0.mk h
 clear h
 unfold laws_toAnchorS.f at H
 go_enter Tryz.func60, Tryz.ntmps60
 replace H := zgo H; obtain ⟨c1, H⟩ := H
 replace H := zgo H; obtain ⟨c2, H⟩ := H
 go_wp2_with ((with_reducible refine gd 7 rfl ?_); refine ev_make rfl q115 z115 HS rfl (a0.length : Int) rfl rfl Tryz.underlying31 info115 rfl (by decide) (by decide) q115_zero (of_eq_true c1) (by have := of_eq_true c2; omega) ?_; clear HS; intro v3 w3 HS; obtain ⟨B3, d3, rfl, m3⟩ := HS.formn a0.length 0 rfl (by first | rfl | simp); (try simp only [hpn, hpm] at HS))
 go_loopg [4] k (fun kq v_4 w' => ∃ (l20 : List S115) (x22 : Int), v_4 = .int .i64 x22 ∧ Aside0 (laws_toAnchorS.l0 kq l20 x22 a0 = some r) ∧ Aside0 (kq ≤ k) ∧ Hp noFP w w' [.own (Zd.slice 115 q115) l20 [.slice B3 a0.length d3]])
 case atStart => exact ⟨_, _, rfl, H, ⟨Nat.le_refl _⟩, HS⟩
 case round =>
  clear HS H; (try clear F)
  obtain ⟨l20, x22, rfl, H, HKk19, HS⟩ := hrel
  cases gk with
  | zero => exact absurd H.out (by simp [laws_toAnchorS.l0])
  | succ k19 =>
   simp only [laws_toAnchorS.l0] at H
   replace H := znif H; rcases H with ⟨c24, H⟩ | ⟨c24, H⟩
   case inl =>
    obtain rfl := zsome H
    go_wp2
    exact bodyPost_ret (results_single rfl (.tmp .nil)) rfl ⟨_, rfl, HS.pick [0] (by decide) (by rfl)⟩
   replace H := zgo H; obtain ⟨c25, H⟩ := H
   replace H := zgo H; obtain ⟨c26, H⟩ := H
   obtain ⟨ad27, rfl, e27_0, e27_1⟩ := at_T178 gp0 x22 (of_eq_true c25) (of_eq_true c26)
   have e27_0_27 := HS.keepc e27_0
   have e27_1_27 := HS.keepc e27_1
   replace H := zbind H; obtain ⟨t28, ht28, H⟩ := H
   go_wp2_with (first | ((with_reducible refine gd 20 rfl ?_); refine ev_cl HS (laws_toAnchor.calls ht28.out) Tryz.func140 ?_; clear HS; intro wt28 HS F; obtain ⟨ad30, rfl, e30_0, e30_1⟩ := at_T115 (HS.rd 0 rfl) x22 (of_eq_true c25) (of_eq_true c26)) | ((with_reducible refine gate_store (p := 21) rfl ?_); refine ev_set rfl q115 0 [] x22 t28 HS (seg := [.string t28.f0, .string t28.f1]) rfl (by decide) rfl rfl rfl (by first | rfl | exact (Nat.mul_one _).symm) rfl rfl (by kernel_rfl) (by simp [Value.oneCell']) ⟨of_eq_true c25, of_eq_true c26⟩ rfl (made_flat (fun _ => q115_flat _ _ _)) ?_; clear HS; intro w31 HS; (try simp only [hpn, hpm] at HS)))
   go_roundg k19
   case measure => have := HKk19.out; omega
   case rel => exact ⟨_, _, rfl, H, ⟨by have := HKk19.out; omega⟩, HS.pick [0] (by decide) (by rfl)⟩
def laws_toStore.f (k : Nat) (a0 : S26) : Option (S33) := ((laws_toCertS.f k a0.f0).bind fun t7 => ((laws_toCrlS.f k a0.f1).bind fun t12 => ((laws_toAnchorS.f k a0.f2).bind fun t17 => (some (⟨t7, t12, t17⟩ : S33)))))
theorem laws_toStore.calls {k : Nat} {a0 : S26} {Ap0 Ap1 Ap2 : Option Addr} {np0 cp0 np1 cp1 np2 cp2 : Nat} {r : S33} {w : World} (h : laws_toStore.f k a0 = some r) (gp0 : k88.C w Ap0 np0 a0.f0) (lp0 : np0 ≤ cp0) (gp1 : k75.C w Ap1 np1 a0.f1) (lp1 : np1 ≤ cp1) (gp2 : k178.C w Ap2 np2 a0.f2) (lp2 : np2 ≤ cp2) :
    Calls Tryz.prog 13 #[.agg #[.slice Ap0 np0 cp0, .slice Ap1 np1 cp1, .slice Ap2 np2 cp2]] w (fun e w' => ∃ v0_ v1_ v2_ : Value, e = .returned (.agg #[v0_, v1_, v2_]) ∧ Hp noFP w w' [.own (Zd.slice 91 q91) r.f0 [v0_], .own (Zd.slice 81 q81) r.f1 [v1_], .own (Zd.slice 115 q115) r.f2 [v2_]]) := by
 obtain rfl := C_len gp0
 obtain rfl := C_len gp1
 obtain rfl := C_len gp2
 have HS := Hp.start w
 have H := Aside0.mk h
 clear h
 unfold laws_toStore.f at H
 go_enter Tryz.func13, Tryz.ntmps13
 replace H := zbind H; obtain ⟨t7, ht7, H⟩ := H
 replace H := zbind H; obtain ⟨t12, ht12, H⟩ := H
 replace H := zbind H; obtain ⟨t17, ht17, H⟩ := H
 obtain rfl := zsome H
 go_wp2_with (first | ((with_reducible refine gd 1 rfl ?_); refine ev_bx HS ?_; clear HS; intro g1 w1 HS F) | ((with_reducible refine gd 2 rfl ?_); refine ev_bx HS ?_; clear HS; intro g2 w2 HS F) | ((with_reducible refine gd 3 rfl ?_); refine ev_bx HS ?_; clear HS; intro g3 w3 HS F) | ((with_reducible refine gd 6 rfl ?_); refine ev_cl1 HS (laws_toCertS.calls ht7.out (HS.ro gp0) lp0) Tryz.func58 ?_; clear HS; intro v8 wt7 HS F; obtain ⟨B8, d8, rfl, m8⟩ := HS.form 3 rfl) | ((with_reducible refine gate_store (p := 7) rfl ?_); refine ev_st 2 0 HS (seg := [.slice B8 t7.length d8]) ?_; clear HS; intro w10 HS F) | ((with_reducible refine gd 10 rfl ?_); refine ev_cl1 HS (laws_toCrlS.calls ht12.out (HS.ro gp1) lp1) Tryz.func59 ?_; clear HS; intro v13 wt12 HS F; obtain ⟨B13, d13, rfl, m13⟩ := HS.form 4 rfl) | ((with_reducible refine gate_store (p := 11) rfl ?_); refine ev_st 2 1 HS (seg := [.slice B13 t12.length d13]) ?_; clear HS; intro w15 HS F) | ((with_reducible refine gd 14 rfl ?_); refine ev_cl1 HS (laws_toAnchorS.calls ht17.out (HS.ro gp2) lp2) Tryz.func60 ?_; clear HS; intro v18 wt17 HS F; obtain ⟨B18, d18, rfl, m18⟩ := HS.form 5 rfl) | ((with_reducible refine gate_store (p := 15) rfl ?_); refine ev_st 2 2 HS (seg := [.slice B18 t17.length d18]) ?_; clear HS; intro w20 HS F) | ((with_reducible refine gate_store (p := 2) rfl ?_); refine ev_st 1 0 HS (seg := [.slice B8 t7.length d8, .slice B13 t12.length d13, .slice B18 t17.length d18]) ?_; clear HS; intro w22 HS F))
 exact bodyPost_ret (results_single rfl (.cell _ _ _ _ _ rfl (HS.boxAt (i := 1) rfl) Tryz.underlying33 rfl (by kernel_rfl) .nil)) rfl ⟨_, _, _, rfl, HS.pick [3, 4, 5] (by decide) (by rfl)⟩
def laws_toRules.f (k : Nat) (a0 : S194) : Option (S200) := ((laws_toIntS.f k a0.f1).bind fun t9 => (some (⟨a0.f0, t9, a0.f2, a0.f3, a0.f4⟩ : S200)))
theorem laws_toRules.calls {k : Nat} {a0 : S194} {Ap0 : Option Addr} {np0 cp0 : Nat} {r : S200} {w : World} (h : laws_toRules.f k a0 = some r) (gp0 : (Kd.int .i64).C w Ap0 np0 a0.f1) (lp0 : np0 ≤ cp0) :
    Calls Tryz.prog 210 #[.agg #[.int .i64 a0.f0, .slice Ap0 np0 cp0, .bool a0.f2, .bool a0.f3, .int .i64 a0.f4]] w (fun e w' => ∃ v0_ : Value, e = .returned (.agg #[.int .i64 r.f0, v0_, .bool r.f2, .bool r.f3, .int .i64 r.f4]) ∧ Hp noFP w w' [.own (Zd.slice 3 (Zd.int .i64)) r.f1 [v0_]]) := by
 obtain rfl := C_len gp0
 have HS := Hp.start w
 have H := Aside0.mk h
 clear h
 unfold laws_toRules.f at H
 go_enter Tryz.func210, Tryz.ntmps210
 replace H := zbind H; obtain ⟨t9, ht9, H⟩ := H
 obtain rfl := zsome H
 go_wp2_with (first | ((with_reducible refine gd 1 rfl ?_); refine ev_bx HS ?_; clear HS; intro g1 w1 HS F) | ((with_reducible refine gd 2 rfl ?_); refine ev_bx HS ?_; clear HS; intro g2 w2 HS F) | ((with_reducible refine gd 3 rfl ?_); refine ev_bx HS ?_; clear HS; intro g3 w3 HS F) | ((with_reducible refine gate_store (p := 6) rfl ?_); refine ev_st 2 0 HS (seg := [.int .i64 a0.f0]) ?_; clear HS; intro w7 HS F) | ((with_reducible refine gd 9 rfl ?_); refine ev_cl1 HS (laws_toIntS.calls ht9.out (HS.ro gp0) lp0) Tryz.func93 ?_; clear HS; intro v10 wt9 HS F; obtain ⟨B10, d10, rfl, m10⟩ := HS.form 3 rfl) | ((with_reducible refine gate_store (p := 10) rfl ?_); refine ev_st 2 1 HS (seg := [.slice B10 t9.length d10]) ?_; clear HS; intro w12 HS F) | ((with_reducible refine gate_store (p := 13) rfl ?_); refine ev_st 2 2 HS (seg := [.bool a0.f2]) ?_; clear HS; intro w14 HS F) | ((with_reducible refine gate_store (p := 16) rfl ?_); refine ev_st 2 3 HS (seg := [.bool a0.f3]) ?_; clear HS; intro w16 HS F) | ((with_reducible refine gate_store (p := 19) rfl ?_); refine ev_st 2 4 HS (seg := [.int .i64 a0.f4]) ?_; clear HS; intro w18 HS F) | ((with_reducible refine gate_store (p := 2) rfl ?_); refine ev_st 1 0 HS (seg := [.int .i64 a0.f0, .slice B10 t9.length d10, .bool a0.f2, .bool a0.f3, .int .i64 a0.f4]) ?_; clear HS; intro w20 HS F))
 exact bodyPost_ret (results_single rfl (.cell _ _ _ _ _ rfl (HS.boxAt (i := 1) rfl) Tryz.underlying200 rfl (by kernel_rfl) .nil)) rfl ⟨_, rfl, HS.pick [3] (by decide) (by rfl)⟩
def laws_toPlan.f (k : Nat) (a0 : S196) : Option (S202) := ((laws_toIntS.f k a0.f1).bind fun t9 => ((laws_toRules.f k a0.f2).bind fun t14 => (some (⟨a0.f0, t9, (⟨t14.f0, t14.f1, t14.f2, t14.f3, t14.f4⟩ : S200)⟩ : S202))))
theorem laws_toPlan.calls {k : Nat} {a0 : S196} {Ap0 Ap1 : Option Addr} {np0 cp0 np1 cp1 : Nat} {r : S202} {w : World} (h : laws_toPlan.f k a0 = some r) (gp0 : (Kd.int .i64).C w Ap0 np0 a0.f1) (lp0 : np0 ≤ cp0) (gp1 : (Kd.int .i64).C w Ap1 np1 a0.f2.f1) (lp1 : np1 ≤ cp1) :
    Calls Tryz.prog 154 #[.agg #[.int .i64 a0.f0, .slice Ap0 np0 cp0, .int .i64 a0.f2.f0, .slice Ap1 np1 cp1, .bool a0.f2.f2, .bool a0.f2.f3, .int .i64 a0.f2.f4]] w (fun e w' => ∃ v0_ v1_ : Value, e = .returned (.agg #[.int .i64 r.f0, v0_, .int .i64 r.f2.f0, v1_, .bool r.f2.f2, .bool r.f2.f3, .int .i64 r.f2.f4]) ∧ Hp noFP w w' [.own (Zd.slice 3 (Zd.int .i64)) r.f1 [v0_], .own (Zd.slice 3 (Zd.int .i64)) r.f2.f1 [v1_]]) := by
 obtain rfl := C_len gp0
 obtain rfl := C_len gp1
 have HS := Hp.start w
 have H := Aside0.mk h
 clear h
 unfold laws_toPlan.f at H
 go_enter Tryz.func154, Tryz.ntmps154
 replace H := zbind H; obtain ⟨t9, ht9, H⟩ := H
 replace H := zbind H; obtain ⟨t14, ht14, H⟩ := H
 obtain rfl := zsome H
 go_wp2_with (first | ((with_reducible refine gd 1 rfl ?_); refine ev_bx HS ?_; clear HS; intro g1 w1 HS F) | ((with_reducible refine gd 2 rfl ?_); refine ev_bx HS ?_; clear HS; intro g2 w2 HS F) | ((with_reducible refine gd 3 rfl ?_); refine ev_bx HS ?_; clear HS; intro g3 w3 HS F) | ((with_reducible refine gate_store (p := 6) rfl ?_); refine ev_st 2 0 HS (seg := [.int .i64 a0.f0]) ?_; clear HS; intro w7 HS F) | ((with_reducible refine gd 9 rfl ?_); refine ev_cl1 HS (laws_toIntS.calls ht9.out (HS.ro gp0) lp0) Tryz.func93 ?_; clear HS; intro v10 wt9 HS F; obtain ⟨B10, d10, rfl, m10⟩ := HS.form 3 rfl) | ((with_reducible refine gate_store (p := 10) rfl ?_); refine ev_st 2 1 HS (seg := [.slice B10 t9.length d10]) ?_; clear HS; intro w12 HS F) | ((with_reducible refine gd 13 rfl ?_); refine ev_cl1 HS (laws_toRules.calls ht14.out (HS.ro gp1) lp1) Tryz.func210 ?_; clear HS; intro v15 wt14 HS F; obtain ⟨B15, d15, rfl, m15⟩ := HS.form 4 rfl) | ((with_reducible refine gate_store (p := 14) rfl ?_); refine ev_st 2 2 HS (seg := [.int .i64 t14.f0, .slice B15 t14.f1.length d15, .bool t14.f2, .bool t14.f3, .int .i64 t14.f4]) ?_; clear HS; intro w17 HS F) | ((with_reducible refine gate_store (p := 2) rfl ?_); refine ev_st 1 0 HS (seg := [.int .i64 a0.f0, .slice B10 t9.length d10, .int .i64 t14.f0, .slice B15 t14.f1.length d15, .bool t14.f2, .bool t14.f3, .int .i64 t14.f4]) ?_; clear HS; intro w19 HS F))
 exact bodyPost_ret (results_single rfl (.cell _ _ _ _ _ rfl (HS.boxAt (i := 1) rfl) Tryz.underlying202 rfl (by kernel_rfl) .nil)) rfl ⟨_, _, rfl, HS.pick [3, 4] (by decide) (by rfl)⟩
def laws_toPlanS.l0 : Nat → (List S202) → Int → (List S196) → Option ((List S202))
  | 0, _, _, _ => none
  | k + 1, l22, x24, a0 => (if x24 < (a0.length : Int) then (if 0 ≤ x24 then (if x24 < (a0.length : Int) then ((laws_toPlan.f k (rd_T196 a0 x24)).bind fun t30 => (laws_toPlanS.l0 k (l22.set (x24).toNat t30) (wrap64 (x24 + 1)) a0)) else none) else none) else (some l22))
def laws_toPlanS.f (k : Nat) (a0 : (List S196)) : Option ((List S202)) := (if 0 ≤ (a0.length : Int) then (if ((a0.length : Int)).toNat ≤ 3518437208883 then (laws_toPlanS.l0 k (List.replicate a0.length z202) 0 a0) else none) else none)
theorem laws_toPlanS.calls {k : Nat} {a0 : (List S196)} {Ap0 : Option Addr} {np0 cp0 : Nat} {r : (List S202)} {w : World} (h : laws_toPlanS.f k a0 = some r) (gp0 : k196.C w Ap0 np0 a0) (lp0 : np0 ≤ cp0) :
    Calls Tryz.prog 76 #[.slice Ap0 np0 cp0] w (fun e w' => ∃ v0_ : Value, e = .returned (v0_) ∧ Hp noFP w w' [.own (Zd.slice 202 q202) r [v0_]]) := by
 obtain rfl := C_len gp0
 have HS := Hp.start w
 have H := Aside0.mk h
 clear h
 unfold laws_toPlanS.f at H
 go_enter Tryz.func76, Tryz.ntmps76
 replace H := zgo H; obtain ⟨c1, H⟩ := H
 replace H := zgo H; obtain ⟨c2, H⟩ := H
 go_wp2_with ((with_reducible refine gd 7 rfl ?_); refine ev_make rfl q202 z202 HS rfl (a0.length : Int) rfl rfl Tryz.underlying43 info202 rfl (by decide) (by decide) q202_zero (of_eq_true c1) (by have := of_eq_true c2; omega) ?_; clear HS; intro v3 w3 HS; obtain ⟨B3, d3, rfl, m3⟩ := HS.formn a0.length 0 rfl (by first | rfl | simp); (try simp only [hpn, hpm] at HS))
 go_loopg [4] k (fun kq v_4 w' => ∃ (l22 : List S202) (x24 : Int), v_4 = .int .i64 x24 ∧ Aside0 (laws_toPlanS.l0 kq l22 x24 a0 = some r) ∧ Aside0 (kq ≤ k) ∧ Hp noFP w w' [.own (Zd.slice 202 q202) l22 [.slice B3 a0.length d3]])
 case atStart => exact ⟨_, _, rfl, H, ⟨Nat.le_refl _⟩, HS⟩
 case round =>
  clear HS H; (try clear F)
  obtain ⟨l22, x24, rfl, H, HKk21, HS⟩ := hrel
  cases gk with
  | zero => exact absurd H.out (by simp [laws_toPlanS.l0])
  | succ k21 =>
   simp only [laws_toPlanS.l0] at H
   replace H := znif H; rcases H with ⟨c26, H⟩ | ⟨c26, H⟩
   case inl =>
    obtain rfl := zsome H
    go_wp2
    exact bodyPost_ret (results_single rfl (.tmp .nil)) rfl ⟨_, rfl, HS.pick [0] (by decide) (by rfl)⟩
   replace H := zgo H; obtain ⟨c27, H⟩ := H
   replace H := zgo H; obtain ⟨c28, H⟩ := H
   obtain ⟨ad29, B29_1, d29_1, B29_3, d29_3, rfl, e29_0, e29_1, e29_2, e29_3, e29_4, e29_5, e29_6, m29_1, y29_1, m29_3, y29_3⟩ := at_T196 gp0 x24 (of_eq_true c27) (of_eq_true c28)
   have e29_0_29 := HS.keepc e29_0
   have e29_1_29 := HS.keepc e29_1
   have e29_2_29 := HS.keepc e29_2
   have e29_3_29 := HS.keepc e29_3
   have e29_4_29 := HS.keepc e29_4
   have e29_5_29 := HS.keepc e29_5
   have e29_6_29 := HS.keepc e29_6
   replace H := zbind H; obtain ⟨t30, ht30, H⟩ := H
   go_wp2_with (first | ((with_reducible refine gd 20 rfl ?_); refine ev_cl2 HS (laws_toPlan.calls ht30.out (HS.ro y29_1) m29_1 (HS.ro y29_3) m29_3) Tryz.func154 ?_; clear HS; intro v31 v32 wt30 HS F; obtain ⟨B31, d31, rfl, m31⟩ := HS.form 1 rfl; obtain ⟨B32, d32, rfl, m32⟩ := HS.form 2 rfl; obtain ⟨ad34, B34_1, d34_1, B34_3, d34_3, rfl, e34_0, e34_1, e34_2, e34_3, e34_4, e34_5, e34_6, m34_1, y34_1, m34_3, y34_3⟩ := at_T202 (HS.rd 0 rfl) x24 (of_eq_true c27) (of_eq_true c28)) | ((with_reducible refine gate_store (p := 21) rfl ?_); refine ev_set rfl q202 0 [1, 2] x24 t30 HS (seg := [.int .i64 t30.f0, .slice B31 t30.f1.length d31, .int .i64 t30.f2.f0, .slice B32 t30.f2.f1.length d32, .bool t30.f2.f2, .bool t30.f2.f3, .int .i64 t30.f2.f4]) rfl (by decide) rfl rfl rfl (by first | rfl | exact (Nat.mul_one _).symm) rfl rfl (by kernel_rfl) (by simp [Value.oneCell']) ⟨of_eq_true c27, of_eq_true c28⟩ rfl (fun S hd hh => q202_pack (x := t30) hd (hh 1 (.own (Zd.slice 3 (Zd.int .i64)) t30.f1 [.slice B31 t30.f1.length d31]) rfl) (hh 2 (.own (Zd.slice 3 (Zd.int .i64)) t30.f2.f1 [.slice B32 t30.f2.f1.length d32]) rfl) (by decide)) ?_; clear HS; intro w35 HS; (try simp only [hpn, hpm] at HS)))
   go_roundg k21
   case measure => have := HKk21.out; omega
   case rel => exact ⟨_, _, rfl, H, ⟨by have := HKk21.out; omega⟩, HS.pick [0] (by decide) (by rfl)⟩
def laws_toKept.f (a0 : S199) : Option (S205) := (some (⟨a0.f0, a0.f1, a0.f2⟩ : S205))
theorem laws_toKept.calls {a0 : S199} {r : S205} {w : World} (h : laws_toKept.f a0 = some r) :
    Calls Tryz.prog 155 #[.agg #[.string a0.f0, .string a0.f1, .int .i64 a0.f2]] w (fun e w' => e = .returned (.agg #[.string r.f0, .string r.f1, .int .i64 r.f2]) ∧ Hp noFP w w' []) := by
 have HS := Hp.start w
 have H := Aside0.mk h
 clear h
 unfold laws_toKept.f at H
 go_enter Tryz.func155, Tryz.ntmps155
 obtain rfl := zsome H
 go_wp2_with (first | ((with_reducible refine gd 1 rfl ?_); refine ev_bx HS ?_; clear HS; intro g1 w1 HS F) | ((with_reducible refine gd 2 rfl ?_); refine ev_bx HS ?_; clear HS; intro g2 w2 HS F) | ((with_reducible refine gd 3 rfl ?_); refine ev_bx HS ?_; clear HS; intro g3 w3 HS F) | ((with_reducible refine gate_store (p := 6) rfl ?_); refine ev_st 2 0 HS (seg := [.string a0.f0]) ?_; clear HS; intro w7 HS F) | ((with_reducible refine gate_store (p := 9) rfl ?_); refine ev_st 2 1 HS (seg := [.string a0.f1]) ?_; clear HS; intro w9 HS F) | ((with_reducible refine gate_store (p := 12) rfl ?_); refine ev_st 2 2 HS (seg := [.int .i64 a0.f2]) ?_; clear HS; intro w11 HS F) | ((with_reducible refine gate_store (p := 2) rfl ?_); refine ev_st 1 0 HS (seg := [.string a0.f0, .string a0.f1, .int .i64 a0.f2]) ?_; clear HS; intro w13 HS F))
 exact bodyPost_ret (results_single rfl (.cell _ _ _ _ _ rfl (HS.boxAt (i := 1) rfl) Tryz.underlying205 rfl (by kernel_rfl) .nil)) rfl ⟨rfl, HS.pick [] (by decide) (by rfl)⟩
def laws_toKeptS.l0 : Nat → (List S205) → Int → (List S199) → Option ((List S205))
  | 0, _, _, _ => none
  | k + 1, l20, x22, a0 => (if x22 < (a0.length : Int) then (if 0 ≤ x22 then (if x22 < (a0.length : Int) then ((laws_toKept.f (rd_T199 a0 x22)).bind fun t28 => (laws_toKeptS.l0 k (l20.set (x22).toNat t28) (wrap64 (x22 + 1)) a0)) else none) else none) else (some l20))
def laws_toKeptS.f (k : Nat) (a0 : (List S199)) : Option ((List S205)) := (if 0 ≤ (a0.length : Int) then (if ((a0.length : Int)).toNat ≤ 7036874417766 then (laws_toKeptS.l0 k (List.replicate a0.length z205) 0 a0) else none) else none)
theorem laws_toKeptS.calls {k : Nat} {a0 : (List S199)} {Ap0 : Option Addr} {np0 cp0 : Nat} {r : (List S205)} {w : World} (h : laws_toKeptS.f k a0 = some r) (gp0 : k199.C w Ap0 np0 a0) (lp0 : np0 ≤ cp0) :
    Calls Tryz.prog 77 #[.slice Ap0 np0 cp0] w (fun e w' => ∃ v0_ : Value, e = .returned (v0_) ∧ Hp noFP w w' [.own (Zd.slice 205 q205) r [v0_]]) := by
 obtain rfl := C_len gp0
 have HS := Hp.start w
 have H := Aside0.mk h
 clear h
 unfold laws_toKeptS.f at H
 go_enter Tryz.func77, Tryz.ntmps77
 replace H := zgo H; obtain ⟨c1, H⟩ := H
 replace H := zgo H; obtain ⟨c2, H⟩ := H
 go_wp2_with ((with_reducible refine gd 7 rfl ?_); refine ev_make rfl q205 z205 HS rfl (a0.length : Int) rfl rfl Tryz.underlying44 info205 rfl (by decide) (by decide) q205_zero (of_eq_true c1) (by have := of_eq_true c2; omega) ?_; clear HS; intro v3 w3 HS; obtain ⟨B3, d3, rfl, m3⟩ := HS.formn a0.length 0 rfl (by first | rfl | simp); (try simp only [hpn, hpm] at HS))
 go_loopg [4] k (fun kq v_4 w' => ∃ (l20 : List S205) (x22 : Int), v_4 = .int .i64 x22 ∧ Aside0 (laws_toKeptS.l0 kq l20 x22 a0 = some r) ∧ Aside0 (kq ≤ k) ∧ Hp noFP w w' [.own (Zd.slice 205 q205) l20 [.slice B3 a0.length d3]])
 case atStart => exact ⟨_, _, rfl, H, ⟨Nat.le_refl _⟩, HS⟩
 case round =>
  clear HS H; (try clear F)
  obtain ⟨l20, x22, rfl, H, HKk19, HS⟩ := hrel
  cases gk with
  | zero => exact absurd H.out (by simp [laws_toKeptS.l0])
  | succ k19 =>
   simp only [laws_toKeptS.l0] at H
   replace H := znif H; rcases H with ⟨c24, H⟩ | ⟨c24, H⟩
   case inl =>
    obtain rfl := zsome H
    go_wp2
    exact bodyPost_ret (results_single rfl (.tmp .nil)) rfl ⟨_, rfl, HS.pick [0] (by decide) (by rfl)⟩
   replace H := zgo H; obtain ⟨c25, H⟩ := H
   replace H := zgo H; obtain ⟨c26, H⟩ := H
   obtain ⟨ad27, rfl, e27_0, e27_1, e27_2⟩ := at_T199 gp0 x22 (of_eq_true c25) (of_eq_true c26)
   have e27_0_27 := HS.keepc e27_0
   have e27_1_27 := HS.keepc e27_1
   have e27_2_27 := HS.keepc e27_2
   replace H := zbind H; obtain ⟨t28, ht28, H⟩ := H
   go_wp2_with (first | ((with_reducible refine gd 20 rfl ?_); refine ev_cl HS (laws_toKept.calls ht28.out) Tryz.func155 ?_; clear HS; intro wt28 HS F; obtain ⟨ad30, rfl, e30_0, e30_1, e30_2⟩ := at_T205 (HS.rd 0 rfl) x22 (of_eq_true c25) (of_eq_true c26)) | ((with_reducible refine gate_store (p := 21) rfl ?_); refine ev_set rfl q205 0 [] x22 t28 HS (seg := [.string t28.f0, .string t28.f1, .int .i64 t28.f2]) rfl (by decide) rfl rfl rfl (by first | rfl | exact (Nat.mul_one _).symm) rfl rfl (by kernel_rfl) (by simp [Value.oneCell']) ⟨of_eq_true c25, of_eq_true c26⟩ rfl (made_flat (fun _ => q205_flat _ _ _)) ?_; clear HS; intro w31 HS; (try simp only [hpn, hpm] at HS)))
   go_roundg k19
   case measure => have := HKk19.out; omega
   case rel => exact ⟨_, _, rfl, H, ⟨by have := HKk19.out; omega⟩, HS.pick [0] (by decide) (by rfl)⟩
def laws_toServer.f (k : Nat) (a0 : S40) : Option (S46) := ((laws_toStore.f k a0.f0).bind fun t7 => ((laws_toPlanS.f k a0.f1).bind fun t14 => ((laws_toKeptS.f k a0.f5).bind fun t25 => (some (⟨(⟨t7.f0, t7.f1, t7.f2⟩ : S33), t14, a0.f2, a0.f3, a0.f4, t25⟩ : S46)))))
theorem laws_toServer.calls {k : Nat} {a0 : S40} {Ap0 Ap1 Ap2 Ap3 Ap4 : Option Addr} {np0 cp0 np1 cp1 np2 cp2 np3 cp3 np4 cp4 : Nat} {r : S46} {w : World} (h : laws_toServer.f k a0 = some r) (gp0 : k88.C w Ap0 np0 a0.f0.f0) (lp0 : np0 ≤ cp0) (gp1 : k75.C w Ap1 np1 a0.f0.f1) (lp1 : np1 ≤ cp1) (gp2 : k178.C w Ap2 np2 a0.f0.f2) (lp2 : np2 ≤ cp2) (gp3 : k196.C w Ap3 np3 a0.f1) (lp3 : np3 ≤ cp3) (gp4 : k199.C w Ap4 np4 a0.f5) (lp4 : np4 ≤ cp4) :
    Calls Tryz.prog 18 #[.agg #[.slice Ap0 np0 cp0, .slice Ap1 np1 cp1, .slice Ap2 np2 cp2, .slice Ap3 np3 cp3, .int .i64 a0.f2, .int .i64 a0.f3, .int .i64 a0.f4, .slice Ap4 np4 cp4]] w (fun e w' => ∃ v0_ v1_ v2_ v3_ v4_ : Value, e = .returned (.agg #[v0_, v1_, v2_, v3_, .int .i64 r.f2, .int .i64 r.f3, .int .i64 r.f4, v4_]) ∧ Hp noFP w w' [.own (Zd.slice 91 q91) r.f0.f0 [v0_], .own (Zd.slice 81 q81) r.f0.f1 [v1_], .own (Zd.slice 115 q115) r.f0.f2 [v2_], .own (Zd.slice 202 q202) r.f1 [v3_], .own (Zd.slice 205 q205) r.f5 [v4_]]) := by
 obtain rfl := C_len gp0
 obtain rfl := C_len gp1
 obtain rfl := C_len gp2
 obtain rfl := C_len gp3
 obtain rfl := C_len gp4
 have HS := Hp.start w
 have H := Aside0.mk h
 clear h
 unfold laws_toServer.f at H
 go_enter Tryz.func18, Tryz.ntmps18
 replace H := zbind H; obtain ⟨t7, ht7, H⟩ := H
 replace H := zbind H; obtain ⟨t14, ht14, H⟩ := H
 replace H := zbind H; obtain ⟨t25, ht25, H⟩ := H
 obtain rfl := zsome H
 go_wp2_with (first | ((with_reducible refine gd 1 rfl ?_); refine ev_bx HS ?_; clear HS; intro g1 w1 HS F) | ((with_reducible refine gd 2 rfl ?_); refine ev_bx HS ?_; clear HS; intro g2 w2 HS F) | ((with_reducible refine gd 3 rfl ?_); refine ev_bx HS ?_; clear HS; intro g3 w3 HS F) | ((with_reducible refine gd 6 rfl ?_); refine ev_cl3 HS (laws_toStore.calls ht7.out (HS.ro gp0) lp0 (HS.ro gp1) lp1 (HS.ro gp2) lp2) Tryz.func13 ?_; clear HS; intro v8 v9 v10 wt7 HS F; obtain ⟨B8, d8, rfl, m8⟩ := HS.form 3 rfl; obtain ⟨B9, d9, rfl, m9⟩ := HS.form 4 rfl; obtain ⟨B10, d10, rfl, m10⟩ := HS.form 5 rfl) | ((with_reducible refine gate_store (p := 7) rfl ?_); refine ev_st 2 0 HS (seg := [.slice B8 t7.f0.length d8, .slice B9 t7.f1.length d9, .slice B10 t7.f2.length d10]) ?_; clear HS; intro w12 HS F) | ((with_reducible refine gd 10 rfl ?_); refine ev_cl1 HS (laws_toPlanS.calls ht14.out (HS.ro gp3) lp3) Tryz.func76 ?_; clear HS; intro v15 wt14 HS F; obtain ⟨B15, d15, rfl, m15⟩ := HS.form 6 rfl) | ((with_reducible refine gate_store (p := 11) rfl ?_); refine ev_st 2 3 HS (seg := [.slice B15 t14.length d15]) ?_; clear HS; intro w17 HS F) | ((with_reducible refine gate_store (p := 14) rfl ?_); refine ev_st 2 4 HS (seg := [.int .i64 a0.f2]) ?_; clear HS; intro w19 HS F) | ((with_reducible refine gate_store (p := 17) rfl ?_); refine ev_st 2 5 HS (seg := [.int .i64 a0.f3]) ?_; clear HS; intro w21 HS F) | ((with_reducible refine gate_store (p := 20) rfl ?_); refine ev_st 2 6 HS (seg := [.int .i64 a0.f4]) ?_; clear HS; intro w23 HS F) | ((with_reducible refine gd 23 rfl ?_); refine ev_cl1 HS (laws_toKeptS.calls ht25.out (HS.ro gp4) lp4) Tryz.func77 ?_; clear HS; intro v26 wt25 HS F; obtain ⟨B26, d26, rfl, m26⟩ := HS.form 7 rfl) | ((with_reducible refine gate_store (p := 24) rfl ?_); refine ev_st 2 7 HS (seg := [.slice B26 t25.length d26]) ?_; clear HS; intro w28 HS F) | ((with_reducible refine gate_store (p := 2) rfl ?_); refine ev_st 1 0 HS (seg := [.slice B8 t7.f0.length d8, .slice B9 t7.f1.length d9, .slice B10 t7.f2.length d10, .slice B15 t14.length d15, .int .i64 a0.f2, .int .i64 a0.f3, .int .i64 a0.f4, .slice B26 t25.length d26]) ?_; clear HS; intro w30 HS F))
 exact bodyPost_ret (results_single rfl (.cell _ _ _ _ _ rfl (HS.boxAt (i := 1) rfl) Tryz.underlying46 rfl (by kernel_rfl) .nil)) rfl ⟨_, _, _, _, _, rfl, HS.pick [3, 4, 5, 6, 7] (by decide) (by rfl)⟩
def laws_eqIntS.l0 : Nat → Int → (List Int) → (List Int) → Option (Bool)
  | 0, _, _, _ => none
  | k + 1, x5, a0, a1 => (if x5 < (a0.length : Int) then (if 0 ≤ x5 then (if x5 < (a0.length : Int) then (if x5 < (a1.length : Int) then (if (rd a0 x5) = (rd a1 x5) then (laws_eqIntS.l0 k (wrap64 (x5 + 1)) a0 a1) else (some false)) else none) else none) else none) else (some true))
def laws_eqIntS.f (k : Nat) (a0 : (List Int)) (a1 : (List Int)) : Option (Bool) := (if (a0.length : Int) = (a1.length : Int) then (laws_eqIntS.l0 k 0 a0 a1) else (some false))
def laws_eqIntS.T6 : TT := (true, [([], []), ([], []), ([0, 1], [0, 1]), ([2], [2]), ([], []), ([], []), ([4, 5], [4, 5]), ([6], [6]), ([3, 7], [3, 7])])
theorem laws_eqIntS.tT6 : rtab .any (opsOf Tryz.f101 6) = laws_eqIntS.T6 := by kernel_rfl
theorem laws_eqIntS.calls {k : Nat} {a0 : (List Int)} {a1 : (List Int)} {Ap0 Ap1 : Option Addr} {np0 cp0 np1 cp1 : Nat} {r : Bool} {w : World} (h : laws_eqIntS.f k a0 a1 = some r) (gp0 : (Kd.int .i64).C w Ap0 np0 a0) (lp0 : np0 ≤ cp0) (gp1 : (Kd.int .i64).C w Ap1 np1 a1) (lp1 : np1 ≤ cp1) :
    Calls Tryz.prog 101 #[.slice Ap0 np0 cp0, .slice Ap1 np1 cp1] w (fun e w' => e = .returned (.bool r) ∧ Hp noFP w w' []) := by
 obtain rfl := C_len gp0
 obtain rfl := C_len gp1
 have HS := Hp.start w
 have H := Aside0.mk h
 clear h
 unfold laws_eqIntS.f at H
 go_enter Tryz.func101, Tryz.ntmps101
 replace H := znif' H; rcases H with ⟨c1, H⟩ | ⟨c1, H⟩
 case inl =>
  have c1a := beq_eq_false_iff_ne.mpr c1
  have c1b := bne_iff_ne.mpr c1
  clear c1
  obtain rfl := zsome H
  go_wp2
  go_ret
  exact HS.pk
 have c1a := beq_iff_eq.mpr c1
 have c1b := bne_eq_false_iff_eq.mpr c1
 clear c1
 go_wp2
 go_loopg [5] k (fun kq v_5 w' => ∃ (x5 : Int), v_5 = .int .i64 x5 ∧ Aside0 (laws_eqIntS.l0 kq x5 a0 a1 = some r) ∧ Aside0 (kq ≤ k) ∧ Hp noFP w w' [])
 case atStart => exact ⟨_, rfl, H, ⟨Nat.le_refl _⟩, HS⟩
 case round =>
  clear HS H; (try clear F)
  obtain ⟨x5, rfl, H, HKk4, HS⟩ := hrel
  cases gk with
  | zero => exact absurd H.out (by simp [laws_eqIntS.l0])
  | succ k4 =>
   simp only [laws_eqIntS.l0] at H
   replace H := znif H; rcases H with ⟨c7, H⟩ | ⟨c7, H⟩
   case inl =>
    obtain rfl := zsome H
    go_wp2
    go_ret
    exact HS.pk
   (try go_wp2)
   replace H := zgo H; obtain ⟨c3, H⟩ := H
   replace H := zgo H; obtain ⟨c8, H⟩ := H
   obtain ⟨ad10, rfl, e10_0⟩ := Kd.at_int gp0 x5 (of_eq_true c3) (of_eq_true c8)
   replace H := zgo H; obtain ⟨c12, H⟩ := H
   obtain ⟨ad13, rfl, e13_0⟩ := Kd.at_int gp1 x5 (of_eq_true c3) (of_eq_true c12)
   refine dr_start [] HS #[false, false, false, false, false, false, false, false, false] (by kernel_rfl) rfl rfl laws_eqIntS.tT6 (fun w9 HT HS HH => ?_)
   (try clear F)
   refine drq_of [(0, some 17), (1, some 18), (2, some 19)] ?_
   repeat (refine drp HT ?_)
   refine drq_end ?_
   refine dr_take 3 (some 20) HT HH (v := ?_) (a' := ?_) rfl rfl (by kernel_rfl) (fun _ _ _ h => h) (.inl ⟨by rfl, ?_⟩) ?_ ?_
   rotate_left
   · rintro w' ⟨rs', HS'⟩; have e10_0 := HS'.keepc e10_0; go_simp; with_reducible rfl
   rotate_left
   · simp only [Act.put, ptn]; rfl
   refine drq_of [(4, some 21), (5, some 22), (6, some 23)] ?_
   repeat (refine drp HT ?_)
   refine drq_end ?_
   refine dr_take 7 (some 24) HT HH (v := ?_) (a' := ?_) rfl rfl (by kernel_rfl) (fun _ _ _ h => h) (.inl ⟨by rfl, ?_⟩) ?_ ?_
   rotate_left
   · rintro w' ⟨rs', HS'⟩; have e13_0 := HS'.keepc e13_0; go_simp; with_reducible rfl
   rotate_left
   · simp only [Act.put, ptn]; rfl
   refine drq_of [(8, some 25)] ?_
   repeat (refine drp HT ?_)
   refine drq_end ?_
   refine done_ (done_of HT.out (by kernel_rfl)) ?_
   replace H := znif' H; rcases H with ⟨c11, H⟩ | ⟨c11, H⟩
   case inl =>
    have c11a := beq_eq_false_iff_ne.mpr c11
    have c11b := bne_iff_ne.mpr c11
    clear c11
    (try simp only [c11a, c11b, dcn])
    obtain rfl := zsome H
    go_wp2
    go_ret
    exact HS.pk
   have c11a := beq_iff_eq.mpr c11
   have c11b := bne_eq_false_iff_eq.mpr c11
   clear c11
   (try simp only [c11a, c11b, dcn])
   go_wp2
   go_roundg k4
   case measure => have := HKk4.out; omega
   case rel => exact ⟨_, rfl, H, ⟨by have := HKk4.out; omega⟩, HS.pick [] (by decide) (by rfl)⟩
def laws_eqStringS.l0 : Nat → Int → (List ByteArray) → (List ByteArray) → Option (Bool)
  | 0, _, _, _ => none
  | k + 1, x5, a0, a1 => (if x5 < (a0.length : Int) then (if 0 ≤ x5 then (if x5 < (a0.length : Int) then (if x5 < (a1.length : Int) then (if (rdOf ByteArray.empty a0 x5).toList = (rdOf ByteArray.empty a1 x5).toList then (laws_eqStringS.l0 k (wrap64 (x5 + 1)) a0 a1) else (some false)) else none) else none) else none) else (some true))
def laws_eqStringS.f (k : Nat) (a0 : (List ByteArray)) (a1 : (List ByteArray)) : Option (Bool) := (if (a0.length : Int) = (a1.length : Int) then (laws_eqStringS.l0 k 0 a0 a1) else (some false))
def laws_eqStringS.T6 : TT := (true, [([], []), ([], []), ([0, 1], [0, 1]), ([2], [2]), ([], []), ([], []), ([4, 5], [4, 5]), ([6], [6]), ([3, 7], [3, 7])])
theorem laws_eqStringS.tT6 : rtab .any (opsOf Tryz.f103 6) = laws_eqStringS.T6 := by kernel_rfl
theorem laws_eqStringS.calls {k : Nat} {a0 : (List ByteArray)} {a1 : (List ByteArray)} {Ap0 Ap1 : Option Addr} {np0 cp0 np1 cp1 : Nat} {r : Bool} {w : World} (h : laws_eqStringS.f k a0 a1 = some r) (gp0 : Kd.string.C w Ap0 np0 a0) (lp0 : np0 ≤ cp0) (gp1 : Kd.string.C w Ap1 np1 a1) (lp1 : np1 ≤ cp1) :
    Calls Tryz.prog 103 #[.slice Ap0 np0 cp0, .slice Ap1 np1 cp1] w (fun e w' => e = .returned (.bool r) ∧ Hp noFP w w' []) := by
 obtain rfl := C_len gp0
 obtain rfl := C_len gp1
 have HS := Hp.start w
 have H := Aside0.mk h
 clear h
 unfold laws_eqStringS.f at H
 go_enter Tryz.func103, Tryz.ntmps103
 replace H := znif' H; rcases H with ⟨c1, H⟩ | ⟨c1, H⟩
 case inl =>
  have c1a := beq_eq_false_iff_ne.mpr c1
  have c1b := bne_iff_ne.mpr c1
  clear c1
  obtain rfl := zsome H
  go_wp2
  go_ret
  exact HS.pk
 have c1a := beq_iff_eq.mpr c1
 have c1b := bne_eq_false_iff_eq.mpr c1
 clear c1
 go_wp2
 go_loopg [5] k (fun kq v_5 w' => ∃ (x5 : Int), v_5 = .int .i64 x5 ∧ Aside0 (laws_eqStringS.l0 kq x5 a0 a1 = some r) ∧ Aside0 (kq ≤ k) ∧ Hp noFP w w' [])
 case atStart => exact ⟨_, rfl, H, ⟨Nat.le_refl _⟩, HS⟩
 case round =>
  clear HS H; (try clear F)
  obtain ⟨x5, rfl, H, HKk4, HS⟩ := hrel
  cases gk with
  | zero => exact absurd H.out (by simp [laws_eqStringS.l0])
  | succ k4 =>
   simp only [laws_eqStringS.l0] at H
   replace H := znif H; rcases H with ⟨c7, H⟩ | ⟨c7, H⟩
   case inl =>
    obtain rfl := zsome H
    go_wp2
    go_ret
    exact HS.pk
   (try go_wp2)
   replace H := zgo H; obtain ⟨c3, H⟩ := H
   replace H := zgo H; obtain ⟨c8, H⟩ := H
   obtain ⟨ad10, rfl, e10_0⟩ := Kd.at_string gp0 x5 (of_eq_true c3) (of_eq_true c8)
   replace H := zgo H; obtain ⟨c12, H⟩ := H
   obtain ⟨ad13, rfl, e13_0⟩ := Kd.at_string gp1 x5 (of_eq_true c3) (of_eq_true c12)
   refine dr_start [] HS #[false, false, false, false, false, false, false, false, false] (by kernel_rfl) rfl rfl laws_eqStringS.tT6 (fun w9 HT HS HH => ?_)
   (try clear F)
   refine drq_of [(0, some 17), (1, some 18), (2, some 19)] ?_
   repeat (refine drp HT ?_)
   refine drq_end ?_
   refine dr_take 3 (some 20) HT HH (v := ?_) (a' := ?_) rfl rfl (by kernel_rfl) (fun _ _ _ h => h) (.inl ⟨by rfl, ?_⟩) ?_ ?_
   rotate_left
   · rintro w' ⟨rs', HS'⟩; have e10_0 := HS'.keepc e10_0; go_simp; with_reducible rfl
   rotate_left
   · simp only [Act.put, ptn]; rfl
   refine drq_of [(4, some 21), (5, some 22), (6, some 23)] ?_
   repeat (refine drp HT ?_)
   refine drq_end ?_
   refine dr_take 7 (some 24) HT HH (v := ?_) (a' := ?_) rfl rfl (by kernel_rfl) (fun _ _ _ h => h) (.inl ⟨by rfl, ?_⟩) ?_ ?_
   rotate_left
   · rintro w' ⟨rs', HS'⟩; have e13_0 := HS'.keepc e13_0; go_simp; with_reducible rfl
   rotate_left
   · simp only [Act.put, ptn]; rfl
   refine drq_of [(8, some 25)] ?_
   repeat (refine drp HT ?_)
   refine drq_end ?_
   refine done_ (done_of HT.out (by kernel_rfl)) ?_
   replace H := znif' H; rcases H with ⟨c11, H⟩ | ⟨c11, H⟩
   case inl =>
    have c11a := beq_eq_false_iff_ne.mpr c11
    have c11b := bne_iff_ne.mpr c11
    clear c11
    (try simp only [c11a, c11b, dcn])
    obtain rfl := zsome H
    go_wp2
    go_ret
    exact HS.pk
   have c11a := beq_iff_eq.mpr c11
   have c11b := bne_eq_false_iff_eq.mpr c11
   clear c11
   (try simp only [c11a, c11b, dcn])
   go_wp2
   go_roundg k4
   case measure => have := HKk4.out; omega
   case rel => exact ⟨_, rfl, H, ⟨by have := HKk4.out; omega⟩, HS.pick [] (by decide) (by rfl)⟩
def laws_eqCert.f (k : Nat) (a0 : S91) (a1 : S91) : Option (Bool) := (if a0.f0 = a1.f0 then (if a0.f1.toList = a1.f1.toList then (if a0.f2.toList = a1.f2.toList then (if a0.f3 = a1.f3 then (if a0.f4 = a1.f4 then (if a0.f5.toList = a1.f5.toList then (if a0.f6 = a1.f6 then (if a0.f7 = a1.f7 then (if a0.f8 = a1.f8 then ((laws_eqIntS.f k a0.f9 a1.f9).bind fun t14 => (if t14 = true then ((laws_eqStringS.f k a0.f10 a1.f10).bind fun t17 => (if t17 = true then ((laws_eqStringS.f k a0.f11 a1.f11).bind fun t20 => (if t20 = true then (if a0.f12.toList = a1.f12.toList then (some true) else (some false)) else (some false))) else (some false))) else (some false))) else (some false)) else (some false)) else (some false)) else (some false)) else (some false)) else (some false)) else (some false)) else (some false)) else (some false))
theorem laws_eqCert.calls {k : Nat} {a0 : S91} {a1 : S91} {Ap0 Ap1 Ap2 Ap3 Ap4 Ap5 : Option Addr} {np0 cp0 np1 cp1 np2 cp2 np3 cp3 np4 cp4 np5 cp5 : Nat} {r : Bool} {w : World} (h : laws_eqCert.f k a0 a1 = some r) (gp0 : (Kd.int .i64).C w Ap0 np0 a0.f9) (lp0 : np0 ≤ cp0) (gp1 : Kd.string.C w Ap1 np1 a0.f10) (lp1 : np1 ≤ cp1) (gp2 : Kd.string.C w Ap2 np2 a0.f11) (lp2 : np2 ≤ cp2) (gp3 : (Kd.int .i64).C w Ap3 np3 a1.f9) (lp3 : np3 ≤ cp3) (gp4 : Kd.string.C w Ap4 np4 a1.f10) (lp4 : np4 ≤ cp4) (gp5 : Kd.string.C w Ap5 np5 a1.f11) (lp5 : np5 ≤ cp5) :
    Calls Tryz.prog 38 #[.agg #[.int .i64 a0.f0, .string a0.f1, .string a0.f2, .int .i64 a0.f3, .int .i64 a0.f4, .string a0.f5, .bool a0.f6, .int .i64 a0.f7, .int .i64 a0.f8, .slice Ap0 np0 cp0, .slice Ap1 np1 cp1, .slice Ap2 np2 cp2, .string a0.f12], .agg #[.int .i64 a1.f0, .string a1.f1, .string a1.f2, .int .i64 a1.f3, .int .i64 a1.f4, .string a1.f5, .bool a1.f6, .int .i64 a1.f7, .int .i64 a1.f8, .slice Ap3 np3 cp3, .slice Ap4 np4 cp4, .slice Ap5 np5 cp5, .string a1.f12]] w (fun e w' => e = .returned (.bool r) ∧ Hp noFP w w' []) := by
 obtain rfl := C_len gp0
 obtain rfl := C_len gp1
 obtain rfl := C_len gp2
 obtain rfl := C_len gp3
 obtain rfl := C_len gp4
 obtain rfl := C_len gp5
 have HS := Hp.start w
 have H := Aside0.mk h
 clear h
 unfold laws_eqCert.f at H
 go_enter Tryz.func38, Tryz.ntmps38
 go_upto_if 9 with (first | ((with_reducible refine gd 2 rfl ?_); refine ev_bx HS ?_; clear HS; intro g2 w2 HS F) | ((with_reducible refine gd 3 rfl ?_); refine ev_bx HS ?_; clear HS; intro g3 w3 HS F))
 replace H := znif' H; rcases H with ⟨c5, H⟩ | ⟨c5, H⟩
 case inl =>
  have c5a := beq_eq_false_iff_ne.mpr c5
  have c5b := bne_iff_ne.mpr c5
  clear c5
  (try simp only [c5a, c5b, dcn])
  obtain rfl := zsome H
  go_wp2
  go_ret
  exact HS.pk
 have c5a := beq_iff_eq.mpr c5
 have c5b := bne_eq_false_iff_eq.mpr c5
 clear c5
 (try simp only [c5a, c5b, dcn])
 replace H := znif' H; rcases H with ⟨c6, H⟩ | ⟨c6, H⟩
 case inl =>
  have c6a := beq_eq_false_iff_ne.mpr c6
  have c6b := bne_iff_ne.mpr c6
  clear c6
  obtain rfl := zsome H
  go_wp2
  go_ret
  exact HS.pk
 have c6a := beq_iff_eq.mpr c6
 have c6b := bne_eq_false_iff_eq.mpr c6
 clear c6
 replace H := znif' H; rcases H with ⟨c7, H⟩ | ⟨c7, H⟩
 case inl =>
  have c7a := beq_eq_false_iff_ne.mpr c7
  have c7b := bne_iff_ne.mpr c7
  clear c7
  obtain rfl := zsome H
  go_wp2
  go_ret
  exact HS.pk
 have c7a := beq_iff_eq.mpr c7
 have c7b := bne_eq_false_iff_eq.mpr c7
 clear c7
 replace H := znif' H; rcases H with ⟨c8, H⟩ | ⟨c8, H⟩
 case inl =>
  have c8a := beq_eq_false_iff_ne.mpr c8
  have c8b := bne_iff_ne.mpr c8
  clear c8
  obtain rfl := zsome H
  go_wp2
  go_ret
  exact HS.pk
 have c8a := beq_iff_eq.mpr c8
 have c8b := bne_eq_false_iff_eq.mpr c8
 clear c8
 replace H := znif' H; rcases H with ⟨c9, H⟩ | ⟨c9, H⟩
 case inl =>
  have c9a := beq_eq_false_iff_ne.mpr c9
  have c9b := bne_iff_ne.mpr c9
  clear c9
  obtain rfl := zsome H
  go_wp2
  go_ret
  exact HS.pk
 have c9a := beq_iff_eq.mpr c9
 have c9b := bne_eq_false_iff_eq.mpr c9
 clear c9
 replace H := znif' H; rcases H with ⟨c10, H⟩ | ⟨c10, H⟩
 case inl =>
  have c10a := beq_eq_false_iff_ne.mpr c10
  have c10b := bne_iff_ne.mpr c10
  clear c10
  obtain rfl := zsome H
  go_wp2
  go_ret
  exact HS.pk
 have c10a := beq_iff_eq.mpr c10
 have c10b := bne_eq_false_iff_eq.mpr c10
 clear c10
 replace H := znif' H; rcases H with ⟨c11, H⟩ | ⟨c11, H⟩
 case inl =>
  have c11a := beq_eq_false_iff_ne.mpr c11
  have c11b := bne_iff_ne.mpr c11
  clear c11
  obtain rfl := zsome H
  go_wp2
  go_ret
  exact HS.pk
 have c11a := beq_iff_eq.mpr c11
 have c11b := bne_eq_false_iff_eq.mpr c11
 clear c11
 replace H := znif' H; rcases H with ⟨c12, H⟩ | ⟨c12, H⟩
 case inl =>
  have c12a := beq_eq_false_iff_ne.mpr c12
  have c12b := bne_iff_ne.mpr c12
  clear c12
  obtain rfl := zsome H
  go_wp2
  go_ret
  exact HS.pk
 have c12a := beq_iff_eq.mpr c12
 have c12b := bne_eq_false_iff_eq.mpr c12
 clear c12
 replace H := znif' H; rcases H with ⟨c13, H⟩ | ⟨c13, H⟩
 case inl =>
  have c13a := beq_eq_false_iff_ne.mpr c13
  have c13b := bne_iff_ne.mpr c13
  clear c13
  obtain rfl := zsome H
  go_wp2
  go_ret
  exact HS.pk
 have c13a := beq_iff_eq.mpr c13
 have c13b := bne_eq_false_iff_eq.mpr c13
 clear c13
 replace H := zbind H; obtain ⟨t14, ht14, H⟩ := H
 go_upto_if 55 with ((with_reducible refine gd 54 rfl ?_); refine ev_cl HS (laws_eqIntS.calls ht14.out (HS.ro gp0) lp0 (HS.ro gp3) lp3) Tryz.func101 ?_; clear HS; intro wt14 HS F)
 replace H := znifb H; rcases H with ⟨c16, H⟩ | ⟨c16, H⟩
 case inl =>
  subst c16
  (try simp only [dcn, dcu, dcf])
  obtain rfl := zsome H
  go_wp2
  go_ret
  exact HS.pk
 subst c16
 (try simp only [dcn, dcu, dcf])
 replace H := zbind H; obtain ⟨t17, ht17, H⟩ := H
 go_upto_if 61 with ((with_reducible refine gd 60 rfl ?_); refine ev_cl HS (laws_eqStringS.calls ht17.out (HS.ro gp1) lp1 (HS.ro gp4) lp4) Tryz.func103 ?_; clear HS; intro wt17 HS F)
 replace H := znifb H; rcases H with ⟨c19, H⟩ | ⟨c19, H⟩
 case inl =>
  subst c19
  (try simp only [dcn, dcu, dcf])
  obtain rfl := zsome H
  go_wp2
  go_ret
  exact HS.pk
 subst c19
 (try simp only [dcn, dcu, dcf])
 replace H := zbind H; obtain ⟨t20, ht20, H⟩ := H
 go_upto_if 67 with ((with_reducible refine gd 66 rfl ?_); refine ev_cl HS (laws_eqStringS.calls ht20.out (HS.ro gp2) lp2 (HS.ro gp5) lp5) Tryz.func103 ?_; clear HS; intro wt20 HS F)
 replace H := znifb H; rcases H with ⟨c22, H⟩ | ⟨c22, H⟩
 case inl =>
  subst c22
  (try simp only [dcn, dcu, dcf])
  obtain rfl := zsome H
  go_wp2
  go_ret
  exact HS.pk
 subst c22
 (try simp only [dcn, dcu, dcf])
 replace H := znif' H; rcases H with ⟨c23, H⟩ | ⟨c23, H⟩
 case inl =>
  have c23a := beq_eq_false_iff_ne.mpr c23
  have c23b := bne_iff_ne.mpr c23
  clear c23
  obtain rfl := zsome H
  go_wp2
  go_ret
  exact HS.pk
 have c23a := beq_iff_eq.mpr c23
 have c23b := bne_eq_false_iff_eq.mpr c23
 clear c23
 obtain rfl := zsome H
 go_wp2
 go_ret
 exact HS.pk
def laws_eqCertS.l0 : Nat → Int → (List S91) → (List S91) → Option (Bool)
  | 0, _, _, _ => none
  | k + 1, x5, a0, a1 => (if x5 < (a0.length : Int) then (if 0 ≤ x5 then (if x5 < (a0.length : Int) then (if x5 < (a1.length : Int) then ((laws_eqCert.f k (rd_T91 a0 x5) (rd_T91 a1 x5)).bind fun t14 => (if t14 = true then (laws_eqCertS.l0 k (wrap64 (x5 + 1)) a0 a1) else (some false))) else none) else none) else none) else (some true))
def laws_eqCertS.f (k : Nat) (a0 : (List S91)) (a1 : (List S91)) : Option (Bool) := (if (a0.length : Int) = (a1.length : Int) then (laws_eqCertS.l0 k 0 a0 a1) else (some false))
def laws_eqCertS.T6 : TT := (true, [([], []), ([], []), ([0, 1], [0, 1]), ([2], [2]), ([], []), ([], []), ([4, 5], [4, 5]), ([6], [6]), ([3, 7], [3, 7]), ([8], [8])])
theorem laws_eqCertS.tT6 : rtab .any (opsOf Tryz.f68 6) = laws_eqCertS.T6 := by kernel_rfl
theorem laws_eqCertS.calls {k : Nat} {a0 : (List S91)} {a1 : (List S91)} {Ap0 Ap1 : Option Addr} {np0 cp0 np1 cp1 : Nat} {r : Bool} {w : World} (h : laws_eqCertS.f k a0 a1 = some r) (gp0 : k91.C w Ap0 np0 a0) (lp0 : np0 ≤ cp0) (gp1 : k91.C w Ap1 np1 a1) (lp1 : np1 ≤ cp1) :
    Calls Tryz.prog 68 #[.slice Ap0 np0 cp0, .slice Ap1 np1 cp1] w (fun e w' => e = .returned (.bool r) ∧ Hp noFP w w' []) := by
 obtain rfl := C_len gp0
 obtain rfl := C_len gp1
 have HS := Hp.start w
 have H := Aside0.mk h
 clear h
 unfold laws_eqCertS.f at H
 go_enter Tryz.func68, Tryz.ntmps68
 replace H := znif' H; rcases H with ⟨c1, H⟩ | ⟨c1, H⟩
 case inl =>
  have c1a := beq_eq_false_iff_ne.mpr c1
  have c1b := bne_iff_ne.mpr c1
  clear c1
  obtain rfl := zsome H
  go_wp2
  go_ret
  exact HS.pk
 have c1a := beq_iff_eq.mpr c1
 have c1b := bne_eq_false_iff_eq.mpr c1
 clear c1
 go_wp2
 go_loopg [5] k (fun kq v_5 w' => ∃ (x5 : Int), v_5 = .int .i64 x5 ∧ Aside0 (laws_eqCertS.l0 kq x5 a0 a1 = some r) ∧ Aside0 (kq ≤ k) ∧ Hp noFP w w' [])
 case atStart => exact ⟨_, rfl, H, ⟨Nat.le_refl _⟩, HS⟩
 case round =>
  clear HS H; (try clear F)
  obtain ⟨x5, rfl, H, HKk4, HS⟩ := hrel
  cases gk with
  | zero => exact absurd H.out (by simp [laws_eqCertS.l0])
  | succ k4 =>
   simp only [laws_eqCertS.l0] at H
   replace H := znif H; rcases H with ⟨c7, H⟩ | ⟨c7, H⟩
   case inl =>
    obtain rfl := zsome H
    go_wp2
    go_ret
    exact HS.pk
   (try go_wp2)
   replace H := zgo H; obtain ⟨c3, H⟩ := H
   replace H := zgo H; obtain ⟨c8, H⟩ := H
   obtain ⟨ad10, B10_9, d10_9, B10_10, d10_10, B10_11, d10_11, rfl, e10_0, e10_1, e10_2, e10_3, e10_4, e10_5, e10_6, e10_7, e10_8, e10_9, e10_10, e10_11, e10_12, m10_9, y10_9, m10_10, y10_10, m10_11, y10_11⟩ := at_T91 gp0 x5 (of_eq_true c3) (of_eq_true c8)
   replace H := zgo H; obtain ⟨c12, H⟩ := H
   obtain ⟨ad13, B13_9, d13_9, B13_10, d13_10, B13_11, d13_11, rfl, e13_0, e13_1, e13_2, e13_3, e13_4, e13_5, e13_6, e13_7, e13_8, e13_9, e13_10, e13_11, e13_12, m13_9, y13_9, m13_10, y13_10, m13_11, y13_11⟩ := at_T91 gp1 x5 (of_eq_true c3) (of_eq_true c12)
   replace H := zbind H; obtain ⟨t14, ht14, H⟩ := H
   refine dr_start [] HS #[false, false, false, false, false, false, false, false, false, false] (by kernel_rfl) rfl rfl laws_eqCertS.tT6 (fun w9 HT HS HH => ?_)
   (try clear F)
   refine drq_of [(0, some 17), (1, some 18), (2, some 19)] ?_
   repeat (refine drp HT ?_)
   refine drq_end ?_
   refine dr_take 3 (some 20) HT HH (v := ?_) (a' := ?_) rfl rfl (by kernel_rfl) (fun _ _ _ h => h) (.inl ⟨by rfl, ?_⟩) ?_ ?_
   rotate_left
   · rintro w' ⟨rs', HS'⟩; have e10_0 := HS'.keepc e10_0; have e10_1 := HS'.keepc e10_1; have e10_2 := HS'.keepc e10_2; have e10_3 := HS'.keepc e10_3; have e10_4 := HS'.keepc e10_4; have e10_5 := HS'.keepc e10_5; have e10_6 := HS'.keepc e10_6; have e10_7 := HS'.keepc e10_7; have e10_8 := HS'.keepc e10_8; have e10_9 := HS'.keepc e10_9; have e10_10 := HS'.keepc e10_10; have e10_11 := HS'.keepc e10_11; have e10_12 := HS'.keepc e10_12; go_simp; with_reducible rfl
   rotate_left
   · simp only [Act.put, ptn]; rfl
   refine drq_of [(4, some 21), (5, some 22), (6, some 23)] ?_
   repeat (refine drp HT ?_)
   refine drq_end ?_
   refine dr_take 7 (some 24) HT HH (v := ?_) (a' := ?_) rfl rfl (by kernel_rfl) (fun _ _ _ h => h) (.inl ⟨by rfl, ?_⟩) ?_ ?_
   rotate_left
   · rintro w' ⟨rs', HS'⟩; have e13_0 := HS'.keepc e13_0; have e13_1 := HS'.keepc e13_1; have e13_2 := HS'.keepc e13_2; have e13_3 := HS'.keepc e13_3; have e13_4 := HS'.keepc e13_4; have e13_5 := HS'.keepc e13_5; have e13_6 := HS'.keepc e13_6; have e13_7 := HS'.keepc e13_7; have e13_8 := HS'.keepc e13_8; have e13_9 := HS'.keepc e13_9; have e13_10 := HS'.keepc e13_10; have e13_11 := HS'.keepc e13_11; have e13_12 := HS'.keepc e13_12; go_simp; with_reducible rfl
   rotate_left
   · simp only [Act.put, ptn]; rfl
   refine dr1 8 HT fun K hK => ?_
   refine go_cl HS (laws_eqCert.calls ht14.out (HS.ro y10_9) m10_9 (HS.ro y10_10) m10_10 (HS.ro y10_11) m10_11 (HS.ro y13_9) m13_9 (HS.ro y13_10) m13_10 (HS.ro y13_11) m13_11) Tryz.func38 ?_; clear HS; intro wt14 HS F
   refine nrm 25 hK ⟨_, HS⟩ (fun HH => ?_); clear hK K
   refine drq_of [(9, some 26)] ?_
   repeat (refine drp HT ?_)
   refine drq_end ?_
   refine done_ (done_of HT.out (by kernel_rfl)) ?_
   replace H := znifb H; rcases H with ⟨c11, H⟩ | ⟨c11, H⟩
   case inl =>
    subst c11
    (try simp only [dcn, dcu, dcf])
    obtain rfl := zsome H
    go_wp2
    go_ret
    exact HS.pk
   subst c11
   (try simp only [dcn, dcu, dcf])
   go_wp2
   go_roundg k4
   case measure => have := HKk4.out; omega
   case rel => exact ⟨_, rfl, H, ⟨by have := HKk4.out; omega⟩, HS.pick [] (by decide) (by rfl)⟩
def laws_eqRev.f (a0 : S238) (a1 : S238) : Option (Bool) := (if a0.f0 = a1.f0 then (if a0.f1 = a1.f1 then (some true) else (some false)) else (some false))
theorem laws_eqRev.calls {a0 : S238} {a1 : S238} {r : Bool} {w : World} (h : laws_eqRev.f a0 a1 = some r) :
    Calls Tryz.prog 179 #[.agg #[.int .i64 a0.f0, .int .i64 a0.f1], .agg #[.int .i64 a1.f0, .int .i64 a1.f1]] w (fun e w' => e = .returned (.bool r) ∧ Hp noFP w w' []) := by
 have HS := Hp.start w
 have H := Aside0.mk h
 clear h
 unfold laws_eqRev.f at H
 go_enter Tryz.func179, Tryz.ntmps179
 go_upto_if 9 with (first | ((with_reducible refine gd 2 rfl ?_); refine ev_bx HS ?_; clear HS; intro g2 w2 HS F) | ((with_reducible refine gd 3 rfl ?_); refine ev_bx HS ?_; clear HS; intro g3 w3 HS F))
 replace H := znif' H; rcases H with ⟨c5, H⟩ | ⟨c5, H⟩
 case inl =>
  have c5a := beq_eq_false_iff_ne.mpr c5
  have c5b := bne_iff_ne.mpr c5
  clear c5
  (try simp only [c5a, c5b, dcn])
  obtain rfl := zsome H
  go_wp2
  go_ret
  exact HS.pk
 have c5a := beq_iff_eq.mpr c5
 have c5b := bne_eq_false_iff_eq.mpr c5
 clear c5
 (try simp only [c5a, c5b, dcn])
 replace H := znif' H; rcases H with ⟨c6, H⟩ | ⟨c6, H⟩
 case inl =>
  have c6a := beq_eq_false_iff_ne.mpr c6
  have c6b := bne_iff_ne.mpr c6
  clear c6
  obtain rfl := zsome H
  go_wp2
  go_ret
  exact HS.pk
 have c6a := beq_iff_eq.mpr c6
 have c6b := bne_eq_false_iff_eq.mpr c6
 clear c6
 obtain rfl := zsome H
 go_wp2
 go_ret
 exact HS.pk
def laws_eqRevS.l0 : Nat → Int → (List S238) → (List S238) → Option (Bool)
  | 0, _, _, _ => none
  | k + 1, x5, a0, a1 => (if x5 < (a0.length : Int) then (if 0 ≤ x5 then (if x5 < (a0.length : Int) then (if x5 < (a1.length : Int) then ((laws_eqRev.f (rd_T238 a0 x5) (rd_T238 a1 x5)).bind fun t14 => (if t14 = true then (laws_eqRevS.l0 k (wrap64 (x5 + 1)) a0 a1) else (some false))) else none) else none) else none) else (some true))
def laws_eqRevS.f (k : Nat) (a0 : (List S238)) (a1 : (List S238)) : Option (Bool) := (if (a0.length : Int) = (a1.length : Int) then (laws_eqRevS.l0 k 0 a0 a1) else (some false))
def laws_eqRevS.T6 : TT := (true, [([], []), ([], []), ([0, 1], [0, 1]), ([2], [2]), ([], []), ([], []), ([4, 5], [4, 5]), ([6], [6]), ([3, 7], [3, 7]), ([8], [8])])
theorem laws_eqRevS.tT6 : rtab .any (opsOf Tryz.f110 6) = laws_eqRevS.T6 := by kernel_rfl
theorem laws_eqRevS.calls {k : Nat} {a0 : (List S238)} {a1 : (List S238)} {Ap0 Ap1 : Option Addr} {np0 cp0 np1 cp1 : Nat} {r : Bool} {w : World} (h : laws_eqRevS.f k a0 a1 = some r) (gp0 : k238.C w Ap0 np0 a0) (lp0 : np0 ≤ cp0) (gp1 : k238.C w Ap1 np1 a1) (lp1 : np1 ≤ cp1) :
    Calls Tryz.prog 110 #[.slice Ap0 np0 cp0, .slice Ap1 np1 cp1] w (fun e w' => e = .returned (.bool r) ∧ Hp noFP w w' []) := by
 obtain rfl := C_len gp0
 obtain rfl := C_len gp1
 have HS := Hp.start w
 have H := Aside0.mk h
 clear h
 unfold laws_eqRevS.f at H
 go_enter Tryz.func110, Tryz.ntmps110
 replace H := znif' H; rcases H with ⟨c1, H⟩ | ⟨c1, H⟩
 case inl =>
  have c1a := beq_eq_false_iff_ne.mpr c1
  have c1b := bne_iff_ne.mpr c1
  clear c1
  obtain rfl := zsome H
  go_wp2
  go_ret
  exact HS.pk
 have c1a := beq_iff_eq.mpr c1
 have c1b := bne_eq_false_iff_eq.mpr c1
 clear c1
 go_wp2
 go_loopg [5] k (fun kq v_5 w' => ∃ (x5 : Int), v_5 = .int .i64 x5 ∧ Aside0 (laws_eqRevS.l0 kq x5 a0 a1 = some r) ∧ Aside0 (kq ≤ k) ∧ Hp noFP w w' [])
 case atStart => exact ⟨_, rfl, H, ⟨Nat.le_refl _⟩, HS⟩
 case round =>
  clear HS H; (try clear F)
  obtain ⟨x5, rfl, H, HKk4, HS⟩ := hrel
  cases gk with
  | zero => exact absurd H.out (by simp [laws_eqRevS.l0])
  | succ k4 =>
   simp only [laws_eqRevS.l0] at H
   replace H := znif H; rcases H with ⟨c7, H⟩ | ⟨c7, H⟩
   case inl =>
    obtain rfl := zsome H
    go_wp2
    go_ret
    exact HS.pk
   (try go_wp2)
   replace H := zgo H; obtain ⟨c3, H⟩ := H
   replace H := zgo H; obtain ⟨c8, H⟩ := H
   obtain ⟨ad10, rfl, e10_0, e10_1⟩ := at_T238 gp0 x5 (of_eq_true c3) (of_eq_true c8)
   replace H := zgo H; obtain ⟨c12, H⟩ := H
   obtain ⟨ad13, rfl, e13_0, e13_1⟩ := at_T238 gp1 x5 (of_eq_true c3) (of_eq_true c12)
   replace H := zbind H; obtain ⟨t14, ht14, H⟩ := H
   refine dr_start [] HS #[false, false, false, false, false, false, false, false, false, false] (by kernel_rfl) rfl rfl laws_eqRevS.tT6 (fun w9 HT HS HH => ?_)
   (try clear F)
   refine drq_of [(0, some 17), (1, some 18), (2, some 19)] ?_
   repeat (refine drp HT ?_)
   refine drq_end ?_
   refine dr_take 3 (some 20) HT HH (v := ?_) (a' := ?_) rfl rfl (by kernel_rfl) (fun _ _ _ h => h) (.inl ⟨by rfl, ?_⟩) ?_ ?_
   rotate_left
   · rintro w' ⟨rs', HS'⟩; have e10_0 := HS'.keepc e10_0; have e10_1 := HS'.keepc e10_1; go_simp; with_reducible rfl
   rotate_left
   · simp only [Act.put, ptn]; rfl
   refine drq_of [(4, some 21), (5, some 22), (6, some 23)] ?_
   repeat (refine drp HT ?_)
   refine drq_end ?_
   refine dr_take 7 (some 24) HT HH (v := ?_) (a' := ?_) rfl rfl (by kernel_rfl) (fun _ _ _ h => h) (.inl ⟨by rfl, ?_⟩) ?_ ?_
   rotate_left
   · rintro w' ⟨rs', HS'⟩; have e13_0 := HS'.keepc e13_0; have e13_1 := HS'.keepc e13_1; go_simp; with_reducible rfl
   rotate_left
   · simp only [Act.put, ptn]; rfl
   refine dr1 8 HT fun K hK => ?_
   refine go_cl HS (laws_eqRev.calls ht14.out) Tryz.func179 ?_; clear HS; intro wt14 HS F
   refine nrm 25 hK ⟨_, HS⟩ (fun HH => ?_); clear hK K
   refine drq_of [(9, some 26)] ?_
   repeat (refine drp HT ?_)
   refine drq_end ?_
   refine done_ (done_of HT.out (by kernel_rfl)) ?_
   replace H := znifb H; rcases H with ⟨c11, H⟩ | ⟨c11, H⟩
   case inl =>
    subst c11
    (try simp only [dcn, dcu, dcf])
    obtain rfl := zsome H
    go_wp2
    go_ret
    exact HS.pk
   subst c11
   (try simp only [dcn, dcu, dcf])
   go_wp2
   go_roundg k4
   case measure => have := HKk4.out; omega
   case rel => exact ⟨_, rfl, H, ⟨by have := HKk4.out; omega⟩, HS.pick [] (by decide) (by rfl)⟩
def laws_eqCrl.f (k : Nat) (a0 : S81) (a1 : S81) : Option (Bool) := (if a0.f0.toList = a1.f0.toList then (if a0.f1 = a1.f1 then (if a0.f2 = a1.f2 then (if a0.f3 = a1.f3 then (if a0.f4 = a1.f4 then ((laws_eqRevS.f k a0.f5 a1.f5).bind fun t10 => (if t10 = true then (if a0.f6.toList = a1.f6.toList then (some true) else (some false)) else (some false))) else (some false)) else (some false)) else (some false)) else (some false)) else (some false))
theorem laws_eqCrl.calls {k : Nat} {a0 : S81} {a1 : S81} {Ap0 Ap1 : Option Addr} {np0 cp0 np1 cp1 : Nat} {r : Bool} {w : World} (h : laws_eqCrl.f k a0 a1 = some r) (gp0 : k238.C w Ap0 np0 a0.f5) (lp0 : np0 ≤ cp0) (gp1 : k238.C w Ap1 np1 a1.f5) (lp1 : np1 ≤ cp1) :
    Calls Tryz.prog 30 #[.agg #[.string a0.f0, .int .i64 a0.f1, .int .i64 a0.f2, .int .i64 a0.f3, .int .i64 a0.f4, .slice Ap0 np0 cp0, .string a0.f6], .agg #[.string a1.f0, .int .i64 a1.f1, .int .i64 a1.f2, .int .i64 a1.f3, .int .i64 a1.f4, .slice Ap1 np1 cp1, .string a1.f6]] w (fun e w' => e = .returned (.bool r) ∧ Hp noFP w w' []) := by
 obtain rfl := C_len gp0
 obtain rfl := C_len gp1
 have HS := Hp.start w
 have H := Aside0.mk h
 clear h
 unfold laws_eqCrl.f at H
 go_enter Tryz.func30, Tryz.ntmps30
 go_upto_if 9 with (first | ((with_reducible refine gd 2 rfl ?_); refine ev_bx HS ?_; clear HS; intro g2 w2 HS F) | ((with_reducible refine gd 3 rfl ?_); refine ev_bx HS ?_; clear HS; intro g3 w3 HS F))
 replace H := znif' H; rcases H with ⟨c5, H⟩ | ⟨c5, H⟩
 case inl =>
  have c5a := beq_eq_false_iff_ne.mpr c5
  have c5b := bne_iff_ne.mpr c5
  clear c5
  (try simp only [c5a, c5b, dcn])
  obtain rfl := zsome H
  go_wp2
  go_ret
  exact HS.pk
 have c5a := beq_iff_eq.mpr c5
 have c5b := bne_eq_false_iff_eq.mpr c5
 clear c5
 (try simp only [c5a, c5b, dcn])
 replace H := znif' H; rcases H with ⟨c6, H⟩ | ⟨c6, H⟩
 case inl =>
  have c6a := beq_eq_false_iff_ne.mpr c6
  have c6b := bne_iff_ne.mpr c6
  clear c6
  obtain rfl := zsome H
  go_wp2
  go_ret
  exact HS.pk
 have c6a := beq_iff_eq.mpr c6
 have c6b := bne_eq_false_iff_eq.mpr c6
 clear c6
 replace H := znif' H; rcases H with ⟨c7, H⟩ | ⟨c7, H⟩
 case inl =>
  have c7a := beq_eq_false_iff_ne.mpr c7
  have c7b := bne_iff_ne.mpr c7
  clear c7
  obtain rfl := zsome H
  go_wp2
  go_ret
  exact HS.pk
 have c7a := beq_iff_eq.mpr c7
 have c7b := bne_eq_false_iff_eq.mpr c7
 clear c7
 replace H := znif' H; rcases H with ⟨c8, H⟩ | ⟨c8, H⟩
 case inl =>
  have c8a := beq_eq_false_iff_ne.mpr c8
  have c8b := bne_iff_ne.mpr c8
  clear c8
  obtain rfl := zsome H
  go_wp2
  go_ret
  exact HS.pk
 have c8a := beq_iff_eq.mpr c8
 have c8b := bne_eq_false_iff_eq.mpr c8
 clear c8
 replace H := znif' H; rcases H with ⟨c9, H⟩ | ⟨c9, H⟩
 case inl =>
  have c9a := beq_eq_false_iff_ne.mpr c9
  have c9b := bne_iff_ne.mpr c9
  clear c9
  obtain rfl := zsome H
  go_wp2
  go_ret
  exact HS.pk
 have c9a := beq_iff_eq.mpr c9
 have c9b := bne_eq_false_iff_eq.mpr c9
 clear c9
 replace H := zbind H; obtain ⟨t10, ht10, H⟩ := H
 go_upto_if 35 with ((with_reducible refine gd 34 rfl ?_); refine ev_cl HS (laws_eqRevS.calls ht10.out (HS.ro gp0) lp0 (HS.ro gp1) lp1) Tryz.func110 ?_; clear HS; intro wt10 HS F)
 replace H := znifb H; rcases H with ⟨c12, H⟩ | ⟨c12, H⟩
 case inl =>
  subst c12
  (try simp only [dcn, dcu, dcf])
  obtain rfl := zsome H
  go_wp2
  go_ret
  exact HS.pk
 subst c12
 (try simp only [dcn, dcu, dcf])
 replace H := znif' H; rcases H with ⟨c13, H⟩ | ⟨c13, H⟩
 case inl =>
  have c13a := beq_eq_false_iff_ne.mpr c13
  have c13b := bne_iff_ne.mpr c13
  clear c13
  obtain rfl := zsome H
  go_wp2
  go_ret
  exact HS.pk
 have c13a := beq_iff_eq.mpr c13
 have c13b := bne_eq_false_iff_eq.mpr c13
 clear c13
 obtain rfl := zsome H
 go_wp2
 go_ret
 exact HS.pk
def laws_eqCrlS.l0 : Nat → Int → (List S81) → (List S81) → Option (Bool)
  | 0, _, _, _ => none
  | k + 1, x5, a0, a1 => (if x5 < (a0.length : Int) then (if 0 ≤ x5 then (if x5 < (a0.length : Int) then (if x5 < (a1.length : Int) then ((laws_eqCrl.f k (rd_T81 a0 x5) (rd_T81 a1 x5)).bind fun t14 => (if t14 = true then (laws_eqCrlS.l0 k (wrap64 (x5 + 1)) a0 a1) else (some false))) else none) else none) else none) else (some true))
def laws_eqCrlS.f (k : Nat) (a0 : (List S81)) (a1 : (List S81)) : Option (Bool) := (if (a0.length : Int) = (a1.length : Int) then (laws_eqCrlS.l0 k 0 a0 a1) else (some false))
def laws_eqCrlS.T6 : TT := (true, [([], []), ([], []), ([0, 1], [0, 1]), ([2], [2]), ([], []), ([], []), ([4, 5], [4, 5]), ([6], [6]), ([3, 7], [3, 7]), ([8], [8])])
theorem laws_eqCrlS.tT6 : rtab .any (opsOf Tryz.f69 6) = laws_eqCrlS.T6 := by kernel_rfl
theorem laws_eqCrlS.calls {k : Nat} {a0 : (List S81)} {a1 : (List S81)} {Ap0 Ap1 : Option Addr} {np0 cp0 np1 cp1 : Nat} {r : Bool} {w : World} (h : laws_eqCrlS.f k a0 a1 = some r) (gp0 : k81.C w Ap0 np0 a0) (lp0 : np0 ≤ cp0) (gp1 : k81.C w Ap1 np1 a1) (lp1 : np1 ≤ cp1) :
    Calls Tryz.prog 69 #[.slice Ap0 np0 cp0, .slice Ap1 np1 cp1] w (fun e w' => e = .returned (.bool r) ∧ Hp noFP w w' []) := by
 obtain rfl := C_len gp0
 obtain rfl := C_len gp1
 have HS := Hp.start w
 have H := Aside0.mk h
 clear h
 unfold laws_eqCrlS.f at H
 go_enter Tryz.func69, Tryz.ntmps69
 replace H := znif' H; rcases H with ⟨c1, H⟩ | ⟨c1, H⟩
 case inl =>
  have c1a := beq_eq_false_iff_ne.mpr c1
  have c1b := bne_iff_ne.mpr c1
  clear c1
  obtain rfl := zsome H
  go_wp2
  go_ret
  exact HS.pk
 have c1a := beq_iff_eq.mpr c1
 have c1b := bne_eq_false_iff_eq.mpr c1
 clear c1
 go_wp2
 go_loopg [5] k (fun kq v_5 w' => ∃ (x5 : Int), v_5 = .int .i64 x5 ∧ Aside0 (laws_eqCrlS.l0 kq x5 a0 a1 = some r) ∧ Aside0 (kq ≤ k) ∧ Hp noFP w w' [])
 case atStart => exact ⟨_, rfl, H, ⟨Nat.le_refl _⟩, HS⟩
 case round =>
  clear HS H; (try clear F)
  obtain ⟨x5, rfl, H, HKk4, HS⟩ := hrel
  cases gk with
  | zero => exact absurd H.out (by simp [laws_eqCrlS.l0])
  | succ k4 =>
   simp only [laws_eqCrlS.l0] at H
   replace H := znif H; rcases H with ⟨c7, H⟩ | ⟨c7, H⟩
   case inl =>
    obtain rfl := zsome H
    go_wp2
    go_ret
    exact HS.pk
   (try go_wp2)
   replace H := zgo H; obtain ⟨c3, H⟩ := H
   replace H := zgo H; obtain ⟨c8, H⟩ := H
   obtain ⟨ad10, B10_5, d10_5, rfl, e10_0, e10_1, e10_2, e10_3, e10_4, e10_5, e10_6, m10_5, y10_5⟩ := at_T81 gp0 x5 (of_eq_true c3) (of_eq_true c8)
   replace H := zgo H; obtain ⟨c12, H⟩ := H
   obtain ⟨ad13, B13_5, d13_5, rfl, e13_0, e13_1, e13_2, e13_3, e13_4, e13_5, e13_6, m13_5, y13_5⟩ := at_T81 gp1 x5 (of_eq_true c3) (of_eq_true c12)
   replace H := zbind H; obtain ⟨t14, ht14, H⟩ := H
   refine dr_start [] HS #[false, false, false, false, false, false, false, false, false, false] (by kernel_rfl) rfl rfl laws_eqCrlS.tT6 (fun w9 HT HS HH => ?_)
   (try clear F)
   refine drq_of [(0, some 17), (1, some 18), (2, some 19)] ?_
   repeat (refine drp HT ?_)
   refine drq_end ?_
   refine dr_take 3 (some 20) HT HH (v := ?_) (a' := ?_) rfl rfl (by kernel_rfl) (fun _ _ _ h => h) (.inl ⟨by rfl, ?_⟩) ?_ ?_
   rotate_left
   · rintro w' ⟨rs', HS'⟩; have e10_0 := HS'.keepc e10_0; have e10_1 := HS'.keepc e10_1; have e10_2 := HS'.keepc e10_2; have e10_3 := HS'.keepc e10_3; have e10_4 := HS'.keepc e10_4; have e10_5 := HS'.keepc e10_5; have e10_6 := HS'.keepc e10_6; go_simp; with_reducible rfl
   rotate_left
   · simp only [Act.put, ptn]; rfl
   refine drq_of [(4, some 21), (5, some 22), (6, some 23)] ?_
   repeat (refine drp HT ?_)
   refine drq_end ?_
   refine dr_take 7 (some 24) HT HH (v := ?_) (a' := ?_) rfl rfl (by kernel_rfl) (fun _ _ _ h => h) (.inl ⟨by rfl, ?_⟩) ?_ ?_
   rotate_left
   · rintro w' ⟨rs', HS'⟩; have e13_0 := HS'.keepc e13_0; have e13_1 := HS'.keepc e13_1; have e13_2 := HS'.keepc e13_2; have e13_3 := HS'.keepc e13_3; have e13_4 := HS'.keepc e13_4; have e13_5 := HS'.keepc e13_5; have e13_6 := HS'.keepc e13_6; go_simp; with_reducible rfl
   rotate_left
   · simp only [Act.put, ptn]; rfl
   refine dr1 8 HT fun K hK => ?_
   refine go_cl HS (laws_eqCrl.calls ht14.out (HS.ro y10_5) m10_5 (HS.ro y13_5) m13_5) Tryz.func30 ?_; clear HS; intro wt14 HS F
   refine nrm 25 hK ⟨_, HS⟩ (fun HH => ?_); clear hK K
   refine drq_of [(9, some 26)] ?_
   repeat (refine drp HT ?_)
   refine drq_end ?_
   refine done_ (done_of HT.out (by kernel_rfl)) ?_
   replace H := znifb H; rcases H with ⟨c11, H⟩ | ⟨c11, H⟩
   case inl =>
    subst c11
    (try simp only [dcn, dcu, dcf])
    obtain rfl := zsome H
    go_wp2
    go_ret
    exact HS.pk
   subst c11
   (try simp only [dcn, dcu, dcf])
   go_wp2
   go_roundg k4
   case measure => have := HKk4.out; omega
   case rel => exact ⟨_, rfl, H, ⟨by have := HKk4.out; omega⟩, HS.pick [] (by decide) (by rfl)⟩
def laws_eqAnchor.f (a0 : S115) (a1 : S115) : Option (Bool) := (if a0.f0.toList = a1.f0.toList then (if a0.f1.toList = a1.f1.toList then (some true) else (some false)) else (some false))
theorem laws_eqAnchor.calls {a0 : S115} {a1 : S115} {r : Bool} {w : World} (h : laws_eqAnchor.f a0 a1 = some r) :
    Calls Tryz.prog 150 #[.agg #[.string a0.f0, .string a0.f1], .agg #[.string a1.f0, .string a1.f1]] w (fun e w' => e = .returned (.bool r) ∧ Hp noFP w w' []) := by
 have HS := Hp.start w
 have H := Aside0.mk h
 clear h
 unfold laws_eqAnchor.f at H
 go_enter Tryz.func150, Tryz.ntmps150
 go_upto_if 9 with (first | ((with_reducible refine gd 2 rfl ?_); refine ev_bx HS ?_; clear HS; intro g2 w2 HS F) | ((with_reducible refine gd 3 rfl ?_); refine ev_bx HS ?_; clear HS; intro g3 w3 HS F))
 replace H := znif' H; rcases H with ⟨c5, H⟩ | ⟨c5, H⟩
 case inl =>
  have c5a := beq_eq_false_iff_ne.mpr c5
  have c5b := bne_iff_ne.mpr c5
  clear c5
  (try simp only [c5a, c5b, dcn])
  obtain rfl := zsome H
  go_wp2
  go_ret
  exact HS.pk
 have c5a := beq_iff_eq.mpr c5
 have c5b := bne_eq_false_iff_eq.mpr c5
 clear c5
 (try simp only [c5a, c5b, dcn])
 replace H := znif' H; rcases H with ⟨c6, H⟩ | ⟨c6, H⟩
 case inl =>
  have c6a := beq_eq_false_iff_ne.mpr c6
  have c6b := bne_iff_ne.mpr c6
  clear c6
  obtain rfl := zsome H
  go_wp2
  go_ret
  exact HS.pk
 have c6a := beq_iff_eq.mpr c6
 have c6b := bne_eq_false_iff_eq.mpr c6
 clear c6
 obtain rfl := zsome H
 go_wp2
 go_ret
 exact HS.pk
def laws_eqAnchorS.l0 : Nat → Int → (List S115) → (List S115) → Option (Bool)
  | 0, _, _, _ => none
  | k + 1, x5, a0, a1 => (if x5 < (a0.length : Int) then (if 0 ≤ x5 then (if x5 < (a0.length : Int) then (if x5 < (a1.length : Int) then ((laws_eqAnchor.f (rd_T115 a0 x5) (rd_T115 a1 x5)).bind fun t14 => (if t14 = true then (laws_eqAnchorS.l0 k (wrap64 (x5 + 1)) a0 a1) else (some false))) else none) else none) else none) else (some true))
def laws_eqAnchorS.f (k : Nat) (a0 : (List S115)) (a1 : (List S115)) : Option (Bool) := (if (a0.length : Int) = (a1.length : Int) then (laws_eqAnchorS.l0 k 0 a0 a1) else (some false))
def laws_eqAnchorS.T6 : TT := (true, [([], []), ([], []), ([0, 1], [0, 1]), ([2], [2]), ([], []), ([], []), ([4, 5], [4, 5]), ([6], [6]), ([3, 7], [3, 7]), ([8], [8])])
theorem laws_eqAnchorS.tT6 : rtab .any (opsOf Tryz.f70 6) = laws_eqAnchorS.T6 := by kernel_rfl
theorem laws_eqAnchorS.calls {k : Nat} {a0 : (List S115)} {a1 : (List S115)} {Ap0 Ap1 : Option Addr} {np0 cp0 np1 cp1 : Nat} {r : Bool} {w : World} (h : laws_eqAnchorS.f k a0 a1 = some r) (gp0 : k115.C w Ap0 np0 a0) (lp0 : np0 ≤ cp0) (gp1 : k115.C w Ap1 np1 a1) (lp1 : np1 ≤ cp1) :
    Calls Tryz.prog 70 #[.slice Ap0 np0 cp0, .slice Ap1 np1 cp1] w (fun e w' => e = .returned (.bool r) ∧ Hp noFP w w' []) := by
 obtain rfl := C_len gp0
 obtain rfl := C_len gp1
 have HS := Hp.start w
 have H := Aside0.mk h
 clear h
 unfold laws_eqAnchorS.f at H
 go_enter Tryz.func70, Tryz.ntmps70
 replace H := znif' H; rcases H with ⟨c1, H⟩ | ⟨c1, H⟩
 case inl =>
  have c1a := beq_eq_false_iff_ne.mpr c1
  have c1b := bne_iff_ne.mpr c1
  clear c1
  obtain rfl := zsome H
  go_wp2
  go_ret
  exact HS.pk
 have c1a := beq_iff_eq.mpr c1
 have c1b := bne_eq_false_iff_eq.mpr c1
 clear c1
 go_wp2
 go_loopg [5] k (fun kq v_5 w' => ∃ (x5 : Int), v_5 = .int .i64 x5 ∧ Aside0 (laws_eqAnchorS.l0 kq x5 a0 a1 = some r) ∧ Aside0 (kq ≤ k) ∧ Hp noFP w w' [])
 case atStart => exact ⟨_, rfl, H, ⟨Nat.le_refl _⟩, HS⟩
 case round =>
  clear HS H; (try clear F)
  obtain ⟨x5, rfl, H, HKk4, HS⟩ := hrel
  cases gk with
  | zero => exact absurd H.out (by simp [laws_eqAnchorS.l0])
  | succ k4 =>
   simp only [laws_eqAnchorS.l0] at H
   replace H := znif H; rcases H with ⟨c7, H⟩ | ⟨c7, H⟩
   case inl =>
    obtain rfl := zsome H
    go_wp2
    go_ret
    exact HS.pk
   (try go_wp2)
   replace H := zgo H; obtain ⟨c3, H⟩ := H
   replace H := zgo H; obtain ⟨c8, H⟩ := H
   obtain ⟨ad10, rfl, e10_0, e10_1⟩ := at_T115 gp0 x5 (of_eq_true c3) (of_eq_true c8)
   replace H := zgo H; obtain ⟨c12, H⟩ := H
   obtain ⟨ad13, rfl, e13_0, e13_1⟩ := at_T115 gp1 x5 (of_eq_true c3) (of_eq_true c12)
   replace H := zbind H; obtain ⟨t14, ht14, H⟩ := H
   refine dr_start [] HS #[false, false, false, false, false, false, false, false, false, false] (by kernel_rfl) rfl rfl laws_eqAnchorS.tT6 (fun w9 HT HS HH => ?_)
   (try clear F)
   refine drq_of [(0, some 17), (1, some 18), (2, some 19)] ?_
   repeat (refine drp HT ?_)
   refine drq_end ?_
   refine dr_take 3 (some 20) HT HH (v := ?_) (a' := ?_) rfl rfl (by kernel_rfl) (fun _ _ _ h => h) (.inl ⟨by rfl, ?_⟩) ?_ ?_
   rotate_left
   · rintro w' ⟨rs', HS'⟩; have e10_0 := HS'.keepc e10_0; have e10_1 := HS'.keepc e10_1; go_simp; with_reducible rfl
   rotate_left
   · simp only [Act.put, ptn]; rfl
   refine drq_of [(4, some 21), (5, some 22), (6, some 23)] ?_
   repeat (refine drp HT ?_)
   refine drq_end ?_
   refine dr_take 7 (some 24) HT HH (v := ?_) (a' := ?_) rfl rfl (by kernel_rfl) (fun _ _ _ h => h) (.inl ⟨by rfl, ?_⟩) ?_ ?_
   rotate_left
   · rintro w' ⟨rs', HS'⟩; have e13_0 := HS'.keepc e13_0; have e13_1 := HS'.keepc e13_1; go_simp; with_reducible rfl
   rotate_left
   · simp only [Act.put, ptn]; rfl
   refine dr1 8 HT fun K hK => ?_
   refine go_cl HS (laws_eqAnchor.calls ht14.out) Tryz.func150 ?_; clear HS; intro wt14 HS F
   refine nrm 25 hK ⟨_, HS⟩ (fun HH => ?_); clear hK K
   refine drq_of [(9, some 26)] ?_
   repeat (refine drp HT ?_)
   refine drq_end ?_
   refine done_ (done_of HT.out (by kernel_rfl)) ?_
   replace H := znifb H; rcases H with ⟨c11, H⟩ | ⟨c11, H⟩
   case inl =>
    subst c11
    (try simp only [dcn, dcu, dcf])
    obtain rfl := zsome H
    go_wp2
    go_ret
    exact HS.pk
   subst c11
   (try simp only [dcn, dcu, dcf])
   go_wp2
   go_roundg k4
   case measure => have := HKk4.out; omega
   case rel => exact ⟨_, rfl, H, ⟨by have := HKk4.out; omega⟩, HS.pick [] (by decide) (by rfl)⟩
end Go.Proofs.YtacocpknielofaaGreatDoor.F

/- Functions of the program and of the law, and that their calls do what is written here. -/
import Derived.Test.YtacocpknielofaaGreatDoorZT
import Derived.Test.YtacocpknielofaaGreatDoorZQ
namespace Go.Proofs.YtacocpknielofaaGreatDoor.F
open Go.RowKit Go.Proofs.YtacocpknielofaaGreatDoorW.PrintWords Go.Proofs.YtacocpknielofaaGreatDoorW.PrintLast Go.Proofs.YtacocpknielofaaGreatDoorW.PrintMore Go.Proofs.YtacocpknielofaaGreatDoor.Z
attribute [local go_sem] max2_int min2_int max_two min_two max_three min_three max_four min_four
set_option linter.unusedVariables false
set_option linter.unusedSimpArgs false
set_option maxRecDepth 100000
/-! ### laws_szIntS: function 85 -/
def laws_szIntS.f (a0 : (List Int)) (a1 : Int) : Option (Int) := (if (wrap64 (a1 - (a0.length : Int))) < 0 then (some (-1)) else (some (wrap64 (a1 - (a0.length : Int)))))
set_option maxHeartbeats 16000000 in
theorem laws_szIntS.calls {a0 : (List Int)} {a1 : Int} {Ap0 : Option Addr} {np0 cp0 : Nat} {r : Int} {w : World} (h : laws_szIntS.f a0 a1 = some r) (gp0 : (Kd.int .i64).C w Ap0 np0 a0) (lp0 : np0 ≤ cp0) :
    Calls Tryz.prog 85 #[.slice Ap0 np0 cp0, .int .i64 a1] w (fun e w' => e = .returned (.int .i64 r) ∧ Hp noFP w w' []) := by
 obtain rfl := C_len gp0
 have HS := Hp.start w
 have H := Aside0.mk h
 clear h
 unfold laws_szIntS.f at H
 go_enter Tryz.func85, Tryz.ntmps85
 replace H := zif H; rcases H with ⟨c1, H⟩ | ⟨c1, H⟩
 case inl =>
  obtain rfl := zsome H
  go_wp2
  go_ret
  exact HS.pk
 obtain rfl := zsome H
 go_wp2
 go_ret
 exact HS.pk
/-! ### laws_szStringS: function 87 -/
def laws_szStringS.l0 : Nat → Int → Int → (List ByteArray) → Option (Int)
  | 0, _, _, _ => none
  | k + 1, x9, x10, a0 => (if x10 < (a0.length : Int) then (if 0 ≤ x10 then (if x10 < (a0.length : Int) then (if (wrap64 (x9 - ((rdOf ByteArray.empty a0 x10).size : Int))) < 0 then (some (-1)) else (laws_szStringS.l0 k (wrap64 (x9 - ((rdOf ByteArray.empty a0 x10).size : Int))) (wrap64 (x10 + 1)) a0)) else none) else none) else (some x9))
def laws_szStringS.f (k : Nat) (a0 : (List ByteArray)) (a1 : Int) : Option (Int) := (if (wrap64 (a1 - (a0.length : Int))) < 0 then (some (-1)) else (laws_szStringS.l0 k (wrap64 (a1 - (a0.length : Int))) 0 a0))
set_option maxHeartbeats 16000000 in
theorem laws_szStringS.calls {k : Nat} {a0 : (List ByteArray)} {a1 : Int} {Ap0 : Option Addr} {np0 cp0 : Nat} {r : Int} {w : World} (h : laws_szStringS.f k a0 a1 = some r) (gp0 : Kd.string.C w Ap0 np0 a0) (lp0 : np0 ≤ cp0) :
    Calls Tryz.prog 87 #[.slice Ap0 np0 cp0, .int .i64 a1] w (fun e w' => e = .returned (.int .i64 r) ∧ Hp noFP w w' []) := by
 obtain rfl := C_len gp0
 have HS := Hp.start w
 have H := Aside0.mk h
 clear h
 unfold laws_szStringS.f at H
 go_enter Tryz.func87, Tryz.ntmps87
 replace H := zif H; rcases H with ⟨c1, H⟩ | ⟨c1, H⟩
 case inl =>
  obtain rfl := zsome H
  go_wp2
  go_ret
  exact HS.pk
 go_wp2
 go_loopg [1, 5] k (fun kq v_1 v_5 w' => ∃ (x9 : Int) (x10 : Int), v_1 = .int .i64 x9 ∧ v_5 = .int .i64 x10 ∧ Aside0 (laws_szStringS.l0 kq x9 x10 a0 = some r) ∧ Aside0 (kq ≤ k) ∧ Hp noFP w w' [])
 case atStart => exact ⟨_, _, rfl, rfl, H, ⟨Nat.le_refl _⟩, HS⟩
 case round =>
  clear HS H; (try clear F)
  obtain ⟨x9, x10, rfl, rfl, H, HKk8, HS⟩ := hrel
  cases gk with
  | zero => exact absurd H.out (by simp [laws_szStringS.l0])
  | succ k8 =>
   simp only [laws_szStringS.l0] at H
   replace H := znif H; rcases H with ⟨c12, H⟩ | ⟨c12, H⟩
   case inl =>
    obtain rfl := zsome H
    go_wp2
    go_ret
    exact HS.pk
   replace H := zgo H; obtain ⟨c13, H⟩ := H
   replace H := zgo H; obtain ⟨c14, H⟩ := H
   obtain ⟨ad15, rfl, e15_0⟩ := Kd.at_string gp0 x10 (of_eq_true c13) (of_eq_true c14)
   have e15_0_15 := (HS.keepc e15_0)
   replace H := zif H; rcases H with ⟨c16, H⟩ | ⟨c16, H⟩
   case inl =>
    obtain rfl := zsome H
    go_wp2
    go_ret
    exact HS.pk
   go_wp2
   go_roundg k8
   case measure => have := HKk8.out; omega
   case rel => exact ⟨_, _, rfl, rfl, H, ⟨by have := HKk8.out; omega⟩, HS.pick [] (by decide) (by rfl)⟩
/-! ### laws_szCert: function 34 -/
def laws_szCert.f (k : Nat) (a0 : S88) (a1 : Int) : Option (Int) := (if (wrap64 (a1 - (a0.f1.size : Int))) < 0 then (some (-1)) else (if (wrap64 ((wrap64 (a1 - (a0.f1.size : Int))) - (a0.f2.size : Int))) < 0 then (some (-1)) else (if (wrap64 ((wrap64 ((wrap64 (a1 - (a0.f1.size : Int))) - (a0.f2.size : Int))) - (a0.f5.size : Int))) < 0 then (some (-1)) else ((laws_szIntS.f a0.f9 (wrap64 ((wrap64 ((wrap64 (a1 - (a0.f1.size : Int))) - (a0.f2.size : Int))) - (a0.f5.size : Int)))).bind fun t6 => (if t6 < 0 then (some (-1)) else ((laws_szStringS.f k a0.f10 t6).bind fun t9 => (if t9 < 0 then (some (-1)) else ((laws_szStringS.f k a0.f11 t9).bind fun t12 => (if t12 < 0 then (some (-1)) else (if (wrap64 (t12 - (a0.f12.size : Int))) < 0 then (some (-1)) else (some (wrap64 (t12 - (a0.f12.size : Int))))))))))))))
set_option maxHeartbeats 16000000 in
theorem laws_szCert.calls {k : Nat} {a0 : S88} {a1 : Int} {Ap0 : Option Addr} {np0 cp0 : Nat} {Ap1 : Option Addr} {np1 cp1 : Nat} {Ap2 : Option Addr} {np2 cp2 : Nat} {r : Int} {w : World} (h : laws_szCert.f k a0 a1 = some r) (gp0 : (Kd.int .i64).C w Ap0 np0 a0.f9) (lp0 : np0 ≤ cp0) (gp1 : Kd.string.C w Ap1 np1 a0.f10) (lp1 : np1 ≤ cp1) (gp2 : Kd.string.C w Ap2 np2 a0.f11) (lp2 : np2 ≤ cp2) :
    Calls Tryz.prog 34 #[.agg #[.int .i64 a0.f0, .string a0.f1, .string a0.f2, .int .i64 a0.f3, .int .i64 a0.f4, .string a0.f5, .bool a0.f6, .int .i64 a0.f7, .int .i64 a0.f8, .slice Ap0 np0 cp0, .slice Ap1 np1 cp1, .slice Ap2 np2 cp2, .string a0.f12], .int .i64 a1] w (fun e w' => e = .returned (.int .i64 r) ∧ Hp noFP w w' []) := by
 obtain rfl := C_len gp0
 obtain rfl := C_len gp1
 obtain rfl := C_len gp2
 have HS := Hp.start w
 have H := Aside0.mk h
 clear h
 unfold laws_szCert.f at H
 go_enter Tryz.func34, Tryz.ntmps34
 go_upto_if 11 with (first | ((with_reducible refine gd 2 rfl ?_); refine ev_bx HS ?_; clear HS; (try clear F); intro g2 w2 HS F))
 replace H := zif H; rcases H with ⟨c3, H⟩ | ⟨c3, H⟩
 case inl =>
  (try simp only [c3, dcn])
  obtain rfl := zsome H
  go_wp2
  go_ret
  exact HS.pk
 (try simp only [c3, dcn])
 replace H := zif H; rcases H with ⟨c4, H⟩ | ⟨c4, H⟩
 case inl =>
  obtain rfl := zsome H
  go_wp2
  go_ret
  exact HS.pk
 replace H := zif H; rcases H with ⟨c5, H⟩ | ⟨c5, H⟩
 case inl =>
  obtain rfl := zsome H
  go_wp2
  go_ret
  exact HS.pk
 replace H := zbind H; obtain ⟨t6, ht6, H⟩ := H
 go_upto_if 31 with (first | ((with_reducible refine gd 29 rfl ?_); refine ev_cl HS (laws_szIntS.calls ht6.out (HS.ro gp0) lp0) Tryz.func85 ?_; clear HS; (try clear F); intro wt6 HS F))
 replace H := zif H; rcases H with ⟨c8, H⟩ | ⟨c8, H⟩
 case inl =>
  (try simp only [c8, dcn])
  obtain rfl := zsome H
  go_wp2
  go_ret
  exact HS.pk
 (try simp only [c8, dcn])
 replace H := zbind H; obtain ⟨t9, ht9, H⟩ := H
 go_upto_if 37 with (first | ((with_reducible refine gd 35 rfl ?_); refine ev_cl HS (laws_szStringS.calls ht9.out (HS.ro gp1) lp1) Tryz.func87 ?_; clear HS; (try clear F); intro wt9 HS F))
 replace H := zif H; rcases H with ⟨c11, H⟩ | ⟨c11, H⟩
 case inl =>
  (try simp only [c11, dcn])
  obtain rfl := zsome H
  go_wp2
  go_ret
  exact HS.pk
 (try simp only [c11, dcn])
 replace H := zbind H; obtain ⟨t12, ht12, H⟩ := H
 go_upto_if 43 with (first | ((with_reducible refine gd 41 rfl ?_); refine ev_cl HS (laws_szStringS.calls ht12.out (HS.ro gp2) lp2) Tryz.func87 ?_; clear HS; (try clear F); intro wt12 HS F))
 replace H := zif H; rcases H with ⟨c14, H⟩ | ⟨c14, H⟩
 case inl =>
  (try simp only [c14, dcn])
  obtain rfl := zsome H
  go_wp2
  go_ret
  exact HS.pk
 (try simp only [c14, dcn])
 replace H := zif H; rcases H with ⟨c15, H⟩ | ⟨c15, H⟩
 case inl =>
  obtain rfl := zsome H
  go_wp2
  go_ret
  exact HS.pk
 obtain rfl := zsome H
 go_wp2
 go_ret
 exact HS.pk
/-! ### laws_szCertS: function 51 -/
def laws_szCertS.l0 : Nat → Int → Int → (List S88) → Option (Int)
  | 0, _, _, _ => none
  | k + 1, x12, x13, a0 => (if x13 < (a0.length : Int) then (if 0 ≤ x13 then (if x13 < (a0.length : Int) then ((laws_szCert.f k (rd_T88 a0 x13) x12).bind fun t19 => (if t19 < 0 then (some (-1)) else (laws_szCertS.l0 k t19 (wrap64 (x13 + 1)) a0))) else none) else none) else (some x12))
def laws_szCertS.f (k : Nat) (a0 : (List S88)) (a1 : Int) : Option (Int) := (if (wrap64 (a1 - (a0.length : Int))) < 0 then (some (-1)) else (laws_szCertS.l0 k (wrap64 (a1 - (a0.length : Int))) 0 a0))
set_option maxHeartbeats 16000000 in
theorem laws_szCertS.calls {k : Nat} {a0 : (List S88)} {a1 : Int} {Ap0 : Option Addr} {np0 cp0 : Nat} {r : Int} {w : World} (h : laws_szCertS.f k a0 a1 = some r) (gp0 : k88.C w Ap0 np0 a0) (lp0 : np0 ≤ cp0) :
    Calls Tryz.prog 51 #[.slice Ap0 np0 cp0, .int .i64 a1] w (fun e w' => e = .returned (.int .i64 r) ∧ Hp noFP w w' []) := by
 obtain rfl := C_len gp0
 have HS := Hp.start w
 have H := Aside0.mk h
 clear h
 unfold laws_szCertS.f at H
 go_enter Tryz.func51, Tryz.ntmps51
 replace H := zif H; rcases H with ⟨c1, H⟩ | ⟨c1, H⟩
 case inl =>
  obtain rfl := zsome H
  go_wp2
  go_ret
  exact HS.pk
 go_wp2
 go_loopg [1, 5] k (fun kq v_1 v_5 w' => ∃ (x12 : Int) (x13 : Int), v_1 = .int .i64 x12 ∧ v_5 = .int .i64 x13 ∧ Aside0 (laws_szCertS.l0 kq x12 x13 a0 = some r) ∧ Aside0 (kq ≤ k) ∧ Hp noFP w w' [])
 case atStart => exact ⟨_, _, rfl, rfl, H, ⟨Nat.le_refl _⟩, HS⟩
 case round =>
  clear HS H; (try clear F)
  obtain ⟨x12, x13, rfl, rfl, H, HKk11, HS⟩ := hrel
  cases gk with
  | zero => exact absurd H.out (by simp [laws_szCertS.l0])
  | succ k11 =>
   simp only [laws_szCertS.l0] at H
   replace H := znif H; rcases H with ⟨c15, H⟩ | ⟨c15, H⟩
   case inl =>
    obtain rfl := zsome H
    go_wp2
    go_ret
    exact HS.pk
   replace H := zgo H; obtain ⟨c16, H⟩ := H
   replace H := zgo H; obtain ⟨c17, H⟩ := H
   obtain ⟨ad18, B18_9, d18_9, B18_10, d18_10, B18_11, d18_11, rfl, e18_0, e18_1, e18_2, e18_3, e18_4, e18_5, e18_6, e18_7, e18_8, e18_9, e18_10, e18_11, e18_12, m18_9, y18_9, m18_10, y18_10, m18_11, y18_11⟩ := at_T88 gp0 x13 (of_eq_true c16) (of_eq_true c17)
   have e18_0_18 := (HS.keepc e18_0)
   have e18_1_18 := (HS.keepc e18_1)
   have e18_2_18 := (HS.keepc e18_2)
   have e18_3_18 := (HS.keepc e18_3)
   have e18_4_18 := (HS.keepc e18_4)
   have e18_5_18 := (HS.keepc e18_5)
   have e18_6_18 := (HS.keepc e18_6)
   have e18_7_18 := (HS.keepc e18_7)
   have e18_8_18 := (HS.keepc e18_8)
   have e18_9_18 := (HS.keepc e18_9)
   have e18_10_18 := (HS.keepc e18_10)
   have e18_11_18 := (HS.keepc e18_11)
   have e18_12_18 := (HS.keepc e18_12)
   replace H := zbind H; obtain ⟨t19, ht19, H⟩ := H
   go_upto_if 25 with (first | ((with_reducible refine gd 23 rfl ?_); refine ev_cl HS (laws_szCert.calls ht19.out (HS.ro y18_9) m18_9 (HS.ro y18_10) m18_10 (HS.ro y18_11) m18_11) Tryz.func34 ?_; clear HS; (try clear F); intro wt19 HS F))
   replace H := zif H; rcases H with ⟨c21, H⟩ | ⟨c21, H⟩
   case inl =>
    (try simp only [c21, dcn])
    obtain rfl := zsome H
    go_wp2
    go_ret
    exact HS.pk
   (try simp only [c21, dcn])
   go_wp2
   go_roundg k11
   case measure => have := HKk11.out; omega
   case rel => exact ⟨_, _, rfl, rfl, H, ⟨by have := HKk11.out; omega⟩, HS.pick [] (by decide) (by rfl)⟩
/-! ### laws_szRevS: function 104 -/
def laws_szRevS.f (a0 : (List S240)) (a1 : Int) : Option (Int) := (if (wrap64 (a1 - (a0.length : Int))) < 0 then (some (-1)) else (some (wrap64 (a1 - (a0.length : Int)))))
set_option maxHeartbeats 16000000 in
theorem laws_szRevS.calls {a0 : (List S240)} {a1 : Int} {Ap0 : Option Addr} {np0 cp0 : Nat} {r : Int} {w : World} (h : laws_szRevS.f a0 a1 = some r) (gp0 : k240.C w Ap0 np0 a0) (lp0 : np0 ≤ cp0) :
    Calls Tryz.prog 104 #[.slice Ap0 np0 cp0, .int .i64 a1] w (fun e w' => e = .returned (.int .i64 r) ∧ Hp noFP w w' []) := by
 obtain rfl := C_len gp0
 have HS := Hp.start w
 have H := Aside0.mk h
 clear h
 unfold laws_szRevS.f at H
 go_enter Tryz.func104, Tryz.ntmps104
 replace H := zif H; rcases H with ⟨c1, H⟩ | ⟨c1, H⟩
 case inl =>
  obtain rfl := zsome H
  go_wp2
  go_ret
  exact HS.pk
 obtain rfl := zsome H
 go_wp2
 go_ret
 exact HS.pk
/-! ### laws_szCrl: function 26 -/
def laws_szCrl.f (a0 : S75) (a1 : Int) : Option (Int) := (if (wrap64 (a1 - (a0.f0.size : Int))) < 0 then (some (-1)) else ((laws_szRevS.f a0.f5 (wrap64 (a1 - (a0.f0.size : Int)))).bind fun t4 => (if t4 < 0 then (some (-1)) else (if (wrap64 (t4 - (a0.f6.size : Int))) < 0 then (some (-1)) else (some (wrap64 (t4 - (a0.f6.size : Int))))))))
set_option maxHeartbeats 16000000 in
theorem laws_szCrl.calls {a0 : S75} {a1 : Int} {Ap0 : Option Addr} {np0 cp0 : Nat} {r : Int} {w : World} (h : laws_szCrl.f a0 a1 = some r) (gp0 : k240.C w Ap0 np0 a0.f5) (lp0 : np0 ≤ cp0) :
    Calls Tryz.prog 26 #[.agg #[.string a0.f0, .int .i64 a0.f1, .int .i64 a0.f2, .int .i64 a0.f3, .int .i64 a0.f4, .slice Ap0 np0 cp0, .string a0.f6], .int .i64 a1] w (fun e w' => e = .returned (.int .i64 r) ∧ Hp noFP w w' []) := by
 obtain rfl := C_len gp0
 have HS := Hp.start w
 have H := Aside0.mk h
 clear h
 unfold laws_szCrl.f at H
 go_enter Tryz.func26, Tryz.ntmps26
 go_upto_if 11 with (first | ((with_reducible refine gd 2 rfl ?_); refine ev_bx HS ?_; clear HS; (try clear F); intro g2 w2 HS F))
 replace H := zif H; rcases H with ⟨c3, H⟩ | ⟨c3, H⟩
 case inl =>
  (try simp only [c3, dcn])
  obtain rfl := zsome H
  go_wp2
  go_ret
  exact HS.pk
 (try simp only [c3, dcn])
 replace H := zbind H; obtain ⟨t4, ht4, H⟩ := H
 go_upto_if 17 with (first | ((with_reducible refine gd 15 rfl ?_); refine ev_cl HS (laws_szRevS.calls ht4.out (HS.ro gp0) lp0) Tryz.func104 ?_; clear HS; (try clear F); intro wt4 HS F))
 replace H := zif H; rcases H with ⟨c6, H⟩ | ⟨c6, H⟩
 case inl =>
  (try simp only [c6, dcn])
  obtain rfl := zsome H
  go_wp2
  go_ret
  exact HS.pk
 (try simp only [c6, dcn])
 replace H := zif H; rcases H with ⟨c7, H⟩ | ⟨c7, H⟩
 case inl =>
  obtain rfl := zsome H
  go_wp2
  go_ret
  exact HS.pk
 obtain rfl := zsome H
 go_wp2
 go_ret
 exact HS.pk
/-! ### laws_szCrlS: function 52 -/
def laws_szCrlS.l0 : Nat → Int → Int → (List S75) → Option (Int)
  | 0, _, _, _ => none
  | k + 1, x12, x13, a0 => (if x13 < (a0.length : Int) then (if 0 ≤ x13 then (if x13 < (a0.length : Int) then ((laws_szCrl.f (rd_T75 a0 x13) x12).bind fun t19 => (if t19 < 0 then (some (-1)) else (laws_szCrlS.l0 k t19 (wrap64 (x13 + 1)) a0))) else none) else none) else (some x12))
def laws_szCrlS.f (k : Nat) (a0 : (List S75)) (a1 : Int) : Option (Int) := (if (wrap64 (a1 - (a0.length : Int))) < 0 then (some (-1)) else (laws_szCrlS.l0 k (wrap64 (a1 - (a0.length : Int))) 0 a0))
set_option maxHeartbeats 16000000 in
theorem laws_szCrlS.calls {k : Nat} {a0 : (List S75)} {a1 : Int} {Ap0 : Option Addr} {np0 cp0 : Nat} {r : Int} {w : World} (h : laws_szCrlS.f k a0 a1 = some r) (gp0 : k75.C w Ap0 np0 a0) (lp0 : np0 ≤ cp0) :
    Calls Tryz.prog 52 #[.slice Ap0 np0 cp0, .int .i64 a1] w (fun e w' => e = .returned (.int .i64 r) ∧ Hp noFP w w' []) := by
 obtain rfl := C_len gp0
 have HS := Hp.start w
 have H := Aside0.mk h
 clear h
 unfold laws_szCrlS.f at H
 go_enter Tryz.func52, Tryz.ntmps52
 replace H := zif H; rcases H with ⟨c1, H⟩ | ⟨c1, H⟩
 case inl =>
  obtain rfl := zsome H
  go_wp2
  go_ret
  exact HS.pk
 go_wp2
 go_loopg [1, 5] k (fun kq v_1 v_5 w' => ∃ (x12 : Int) (x13 : Int), v_1 = .int .i64 x12 ∧ v_5 = .int .i64 x13 ∧ Aside0 (laws_szCrlS.l0 kq x12 x13 a0 = some r) ∧ Aside0 (kq ≤ k) ∧ Hp noFP w w' [])
 case atStart => exact ⟨_, _, rfl, rfl, H, ⟨Nat.le_refl _⟩, HS⟩
 case round =>
  clear HS H; (try clear F)
  obtain ⟨x12, x13, rfl, rfl, H, HKk11, HS⟩ := hrel
  cases gk with
  | zero => exact absurd H.out (by simp [laws_szCrlS.l0])
  | succ k11 =>
   simp only [laws_szCrlS.l0] at H
   replace H := znif H; rcases H with ⟨c15, H⟩ | ⟨c15, H⟩
   case inl =>
    obtain rfl := zsome H
    go_wp2
    go_ret
    exact HS.pk
   replace H := zgo H; obtain ⟨c16, H⟩ := H
   replace H := zgo H; obtain ⟨c17, H⟩ := H
   obtain ⟨ad18, B18_5, d18_5, rfl, e18_0, e18_1, e18_2, e18_3, e18_4, e18_5, e18_6, m18_5, y18_5⟩ := at_T75 gp0 x13 (of_eq_true c16) (of_eq_true c17)
   have e18_0_18 := (HS.keepc e18_0)
   have e18_1_18 := (HS.keepc e18_1)
   have e18_2_18 := (HS.keepc e18_2)
   have e18_3_18 := (HS.keepc e18_3)
   have e18_4_18 := (HS.keepc e18_4)
   have e18_5_18 := (HS.keepc e18_5)
   have e18_6_18 := (HS.keepc e18_6)
   replace H := zbind H; obtain ⟨t19, ht19, H⟩ := H
   go_upto_if 25 with (first | ((with_reducible refine gd 23 rfl ?_); refine ev_cl HS (laws_szCrl.calls ht19.out (HS.ro y18_5) m18_5) Tryz.func26 ?_; clear HS; (try clear F); intro wt19 HS F))
   replace H := zif H; rcases H with ⟨c21, H⟩ | ⟨c21, H⟩
   case inl =>
    (try simp only [c21, dcn])
    obtain rfl := zsome H
    go_wp2
    go_ret
    exact HS.pk
   (try simp only [c21, dcn])
   go_wp2
   go_roundg k11
   case measure => have := HKk11.out; omega
   case rel => exact ⟨_, _, rfl, rfl, H, ⟨by have := HKk11.out; omega⟩, HS.pick [] (by decide) (by rfl)⟩
/-! ### laws_szAnchor: function 133 -/
def laws_szAnchor.f (a0 : S178) (a1 : Int) : Option (Int) := (if (wrap64 (a1 - (a0.f0.size : Int))) < 0 then (some (-1)) else (if (wrap64 ((wrap64 (a1 - (a0.f0.size : Int))) - (a0.f1.size : Int))) < 0 then (some (-1)) else (some (wrap64 ((wrap64 (a1 - (a0.f0.size : Int))) - (a0.f1.size : Int))))))
set_option maxHeartbeats 16000000 in
theorem laws_szAnchor.calls {a0 : S178} {a1 : Int} {r : Int} {w : World} (h : laws_szAnchor.f a0 a1 = some r) :
    Calls Tryz.prog 133 #[.agg #[.string a0.f0, .string a0.f1], .int .i64 a1] w (fun e w' => e = .returned (.int .i64 r) ∧ Hp noFP w w' []) := by
 have HS := Hp.start w
 have H := Aside0.mk h
 clear h
 unfold laws_szAnchor.f at H
 go_enter Tryz.func133, Tryz.ntmps133
 go_upto_if 11 with (first | ((with_reducible refine gd 2 rfl ?_); refine ev_bx HS ?_; clear HS; (try clear F); intro g2 w2 HS F))
 replace H := zif H; rcases H with ⟨c3, H⟩ | ⟨c3, H⟩
 case inl =>
  (try simp only [c3, dcn])
  obtain rfl := zsome H
  go_wp2
  go_ret
  exact HS.pk
 (try simp only [c3, dcn])
 replace H := zif H; rcases H with ⟨c4, H⟩ | ⟨c4, H⟩
 case inl =>
  obtain rfl := zsome H
  go_wp2
  go_ret
  exact HS.pk
 obtain rfl := zsome H
 go_wp2
 go_ret
 exact HS.pk
/-! ### laws_szAnchorS: function 53 -/
def laws_szAnchorS.l0 : Nat → Int → Int → (List S178) → Option (Int)
  | 0, _, _, _ => none
  | k + 1, x12, x13, a0 => (if x13 < (a0.length : Int) then (if 0 ≤ x13 then (if x13 < (a0.length : Int) then ((laws_szAnchor.f (rd_T178 a0 x13) x12).bind fun t19 => (if t19 < 0 then (some (-1)) else (laws_szAnchorS.l0 k t19 (wrap64 (x13 + 1)) a0))) else none) else none) else (some x12))
def laws_szAnchorS.f (k : Nat) (a0 : (List S178)) (a1 : Int) : Option (Int) := (if (wrap64 (a1 - (a0.length : Int))) < 0 then (some (-1)) else (laws_szAnchorS.l0 k (wrap64 (a1 - (a0.length : Int))) 0 a0))
set_option maxHeartbeats 16000000 in
theorem laws_szAnchorS.calls {k : Nat} {a0 : (List S178)} {a1 : Int} {Ap0 : Option Addr} {np0 cp0 : Nat} {r : Int} {w : World} (h : laws_szAnchorS.f k a0 a1 = some r) (gp0 : k178.C w Ap0 np0 a0) (lp0 : np0 ≤ cp0) :
    Calls Tryz.prog 53 #[.slice Ap0 np0 cp0, .int .i64 a1] w (fun e w' => e = .returned (.int .i64 r) ∧ Hp noFP w w' []) := by
 obtain rfl := C_len gp0
 have HS := Hp.start w
 have H := Aside0.mk h
 clear h
 unfold laws_szAnchorS.f at H
 go_enter Tryz.func53, Tryz.ntmps53
 replace H := zif H; rcases H with ⟨c1, H⟩ | ⟨c1, H⟩
 case inl =>
  obtain rfl := zsome H
  go_wp2
  go_ret
  exact HS.pk
 go_wp2
 go_loopg [1, 5] k (fun kq v_1 v_5 w' => ∃ (x12 : Int) (x13 : Int), v_1 = .int .i64 x12 ∧ v_5 = .int .i64 x13 ∧ Aside0 (laws_szAnchorS.l0 kq x12 x13 a0 = some r) ∧ Aside0 (kq ≤ k) ∧ Hp noFP w w' [])
 case atStart => exact ⟨_, _, rfl, rfl, H, ⟨Nat.le_refl _⟩, HS⟩
 case round =>
  clear HS H; (try clear F)
  obtain ⟨x12, x13, rfl, rfl, H, HKk11, HS⟩ := hrel
  cases gk with
  | zero => exact absurd H.out (by simp [laws_szAnchorS.l0])
  | succ k11 =>
   simp only [laws_szAnchorS.l0] at H
   replace H := znif H; rcases H with ⟨c15, H⟩ | ⟨c15, H⟩
   case inl =>
    obtain rfl := zsome H
    go_wp2
    go_ret
    exact HS.pk
   replace H := zgo H; obtain ⟨c16, H⟩ := H
   replace H := zgo H; obtain ⟨c17, H⟩ := H
   obtain ⟨ad18, rfl, e18_0, e18_1⟩ := at_T178 gp0 x13 (of_eq_true c16) (of_eq_true c17)
   have e18_0_18 := (HS.keepc e18_0)
   have e18_1_18 := (HS.keepc e18_1)
   replace H := zbind H; obtain ⟨t19, ht19, H⟩ := H
   go_upto_if 25 with (first | ((with_reducible refine gd 23 rfl ?_); refine ev_cl HS (laws_szAnchor.calls ht19.out) Tryz.func133 ?_; clear HS; (try clear F); intro wt19 HS F))
   replace H := zif H; rcases H with ⟨c21, H⟩ | ⟨c21, H⟩
   case inl =>
    (try simp only [c21, dcn])
    obtain rfl := zsome H
    go_wp2
    go_ret
    exact HS.pk
   (try simp only [c21, dcn])
   go_wp2
   go_roundg k11
   case measure => have := HKk11.out; omega
   case rel => exact ⟨_, _, rfl, rfl, H, ⟨by have := HKk11.out; omega⟩, HS.pick [] (by decide) (by rfl)⟩
/-! ### laws_szStore: function 11 -/
def laws_szStore.f (k : Nat) (a0 : S26) (a1 : Int) : Option (Int) := ((laws_szCertS.f k a0.f0 a1).bind fun t3 => (if t3 < 0 then (some (-1)) else ((laws_szCrlS.f k a0.f1 t3).bind fun t6 => (if t6 < 0 then (some (-1)) else ((laws_szAnchorS.f k a0.f2 t6).bind fun t9 => (if t9 < 0 then (some (-1)) else (some t9)))))))
set_option maxHeartbeats 16000000 in
theorem laws_szStore.calls {k : Nat} {a0 : S26} {a1 : Int} {Ap0 : Option Addr} {np0 cp0 : Nat} {Ap1 : Option Addr} {np1 cp1 : Nat} {Ap2 : Option Addr} {np2 cp2 : Nat} {r : Int} {w : World} (h : laws_szStore.f k a0 a1 = some r) (gp0 : k88.C w Ap0 np0 a0.f0) (lp0 : np0 ≤ cp0) (gp1 : k75.C w Ap1 np1 a0.f1) (lp1 : np1 ≤ cp1) (gp2 : k178.C w Ap2 np2 a0.f2) (lp2 : np2 ≤ cp2) :
    Calls Tryz.prog 11 #[.agg #[.slice Ap0 np0 cp0, .slice Ap1 np1 cp1, .slice Ap2 np2 cp2], .int .i64 a1] w (fun e w' => e = .returned (.int .i64 r) ∧ Hp noFP w w' []) := by
 obtain rfl := C_len gp0
 obtain rfl := C_len gp1
 obtain rfl := C_len gp2
 have HS := Hp.start w
 have H := Aside0.mk h
 clear h
 unfold laws_szStore.f at H
 go_enter Tryz.func11, Tryz.ntmps11
 replace H := zbind H; obtain ⟨t3, ht3, H⟩ := H
 go_upto_if 10 with (first | ((with_reducible refine gd 2 rfl ?_); refine ev_bx HS ?_; clear HS; (try clear F); intro g2 w2 HS F) | ((with_reducible refine gd 8 rfl ?_); refine ev_cl HS (laws_szCertS.calls ht3.out (HS.ro gp0) lp0) Tryz.func51 ?_; clear HS; (try clear F); intro wt3 HS F))
 replace H := zif H; rcases H with ⟨c5, H⟩ | ⟨c5, H⟩
 case inl =>
  (try simp only [c5, dcn])
  obtain rfl := zsome H
  go_wp2
  go_ret
  exact HS.pk
 (try simp only [c5, dcn])
 replace H := zbind H; obtain ⟨t6, ht6, H⟩ := H
 go_upto_if 16 with (first | ((with_reducible refine gd 14 rfl ?_); refine ev_cl HS (laws_szCrlS.calls ht6.out (HS.ro gp1) lp1) Tryz.func52 ?_; clear HS; (try clear F); intro wt6 HS F))
 replace H := zif H; rcases H with ⟨c8, H⟩ | ⟨c8, H⟩
 case inl =>
  (try simp only [c8, dcn])
  obtain rfl := zsome H
  go_wp2
  go_ret
  exact HS.pk
 (try simp only [c8, dcn])
 replace H := zbind H; obtain ⟨t9, ht9, H⟩ := H
 go_upto_if 22 with (first | ((with_reducible refine gd 20 rfl ?_); refine ev_cl HS (laws_szAnchorS.calls ht9.out (HS.ro gp2) lp2) Tryz.func53 ?_; clear HS; (try clear F); intro wt9 HS F))
 replace H := zif H; rcases H with ⟨c11, H⟩ | ⟨c11, H⟩
 case inl =>
  (try simp only [c11, dcn])
  obtain rfl := zsome H
  go_wp2
  go_ret
  exact HS.pk
 (try simp only [c11, dcn])
 obtain rfl := zsome H
 go_wp2
 go_ret
 exact HS.pk
/-! ### laws_szRules: function 209 -/
def laws_szRules.f (a0 : S194) (a1 : Int) : Option (Int) := ((laws_szIntS.f a0.f1 a1).bind fun t3 => (if t3 < 0 then (some (-1)) else (some t3)))
set_option maxHeartbeats 16000000 in
theorem laws_szRules.calls {a0 : S194} {a1 : Int} {Ap0 : Option Addr} {np0 cp0 : Nat} {r : Int} {w : World} (h : laws_szRules.f a0 a1 = some r) (gp0 : (Kd.int .i64).C w Ap0 np0 a0.f1) (lp0 : np0 ≤ cp0) :
    Calls Tryz.prog 209 #[.agg #[.int .i64 a0.f0, .slice Ap0 np0 cp0, .bool a0.f2, .bool a0.f3, .int .i64 a0.f4], .int .i64 a1] w (fun e w' => e = .returned (.int .i64 r) ∧ Hp noFP w w' []) := by
 obtain rfl := C_len gp0
 have HS := Hp.start w
 have H := Aside0.mk h
 clear h
 unfold laws_szRules.f at H
 go_enter Tryz.func209, Tryz.ntmps209
 replace H := zbind H; obtain ⟨t3, ht3, H⟩ := H
 go_upto_if 10 with (first | ((with_reducible refine gd 2 rfl ?_); refine ev_bx HS ?_; clear HS; (try clear F); intro g2 w2 HS F) | ((with_reducible refine gd 8 rfl ?_); refine ev_cl HS (laws_szIntS.calls ht3.out (HS.ro gp0) lp0) Tryz.func85 ?_; clear HS; (try clear F); intro wt3 HS F))
 replace H := zif H; rcases H with ⟨c5, H⟩ | ⟨c5, H⟩
 case inl =>
  (try simp only [c5, dcn])
  obtain rfl := zsome H
  go_wp2
  go_ret
  exact HS.pk
 (try simp only [c5, dcn])
 obtain rfl := zsome H
 go_wp2
 go_ret
 exact HS.pk
/-! ### laws_szPlan: function 151 -/
def laws_szPlan.f (a0 : S196) (a1 : Int) : Option (Int) := ((laws_szIntS.f a0.f1 a1).bind fun t3 => (if t3 < 0 then (some (-1)) else ((laws_szRules.f a0.f2 t3).bind fun t6 => (if t6 < 0 then (some (-1)) else (some t6)))))
set_option maxHeartbeats 16000000 in
theorem laws_szPlan.calls {a0 : S196} {a1 : Int} {Ap0 : Option Addr} {np0 cp0 : Nat} {Ap1 : Option Addr} {np1 cp1 : Nat} {r : Int} {w : World} (h : laws_szPlan.f a0 a1 = some r) (gp0 : (Kd.int .i64).C w Ap0 np0 a0.f1) (lp0 : np0 ≤ cp0) (gp1 : (Kd.int .i64).C w Ap1 np1 a0.f2.f1) (lp1 : np1 ≤ cp1) :
    Calls Tryz.prog 151 #[.agg #[.int .i64 a0.f0, .slice Ap0 np0 cp0, .int .i64 a0.f2.f0, .slice Ap1 np1 cp1, .bool a0.f2.f2, .bool a0.f2.f3, .int .i64 a0.f2.f4], .int .i64 a1] w (fun e w' => e = .returned (.int .i64 r) ∧ Hp noFP w w' []) := by
 obtain rfl := C_len gp0
 obtain rfl := C_len gp1
 have HS := Hp.start w
 have H := Aside0.mk h
 clear h
 unfold laws_szPlan.f at H
 go_enter Tryz.func151, Tryz.ntmps151
 replace H := zbind H; obtain ⟨t3, ht3, H⟩ := H
 go_upto_if 10 with (first | ((with_reducible refine gd 2 rfl ?_); refine ev_bx HS ?_; clear HS; (try clear F); intro g2 w2 HS F) | ((with_reducible refine gd 8 rfl ?_); refine ev_cl HS (laws_szIntS.calls ht3.out (HS.ro gp0) lp0) Tryz.func85 ?_; clear HS; (try clear F); intro wt3 HS F))
 replace H := zif H; rcases H with ⟨c5, H⟩ | ⟨c5, H⟩
 case inl =>
  (try simp only [c5, dcn])
  obtain rfl := zsome H
  go_wp2
  go_ret
  exact HS.pk
 (try simp only [c5, dcn])
 replace H := zbind H; obtain ⟨t6, ht6, H⟩ := H
 go_upto_if 16 with (first | ((with_reducible refine gd 14 rfl ?_); refine ev_cl HS (laws_szRules.calls ht6.out (HS.ro gp1) lp1) Tryz.func209 ?_; clear HS; (try clear F); intro wt6 HS F))
 replace H := zif H; rcases H with ⟨c8, H⟩ | ⟨c8, H⟩
 case inl =>
  (try simp only [c8, dcn])
  obtain rfl := zsome H
  go_wp2
  go_ret
  exact HS.pk
 (try simp only [c8, dcn])
 obtain rfl := zsome H
 go_wp2
 go_ret
 exact HS.pk
/-! ### laws_szPlanS: function 71 -/
def laws_szPlanS.l0 : Nat → Int → Int → (List S196) → Option (Int)
  | 0, _, _, _ => none
  | k + 1, x12, x13, a0 => (if x13 < (a0.length : Int) then (if 0 ≤ x13 then (if x13 < (a0.length : Int) then ((laws_szPlan.f (rd_T196 a0 x13) x12).bind fun t19 => (if t19 < 0 then (some (-1)) else (laws_szPlanS.l0 k t19 (wrap64 (x13 + 1)) a0))) else none) else none) else (some x12))
def laws_szPlanS.f (k : Nat) (a0 : (List S196)) (a1 : Int) : Option (Int) := (if (wrap64 (a1 - (a0.length : Int))) < 0 then (some (-1)) else (laws_szPlanS.l0 k (wrap64 (a1 - (a0.length : Int))) 0 a0))
set_option maxHeartbeats 16000000 in
theorem laws_szPlanS.calls {k : Nat} {a0 : (List S196)} {a1 : Int} {Ap0 : Option Addr} {np0 cp0 : Nat} {r : Int} {w : World} (h : laws_szPlanS.f k a0 a1 = some r) (gp0 : k196.C w Ap0 np0 a0) (lp0 : np0 ≤ cp0) :
    Calls Tryz.prog 71 #[.slice Ap0 np0 cp0, .int .i64 a1] w (fun e w' => e = .returned (.int .i64 r) ∧ Hp noFP w w' []) := by
 obtain rfl := C_len gp0
 have HS := Hp.start w
 have H := Aside0.mk h
 clear h
 unfold laws_szPlanS.f at H
 go_enter Tryz.func71, Tryz.ntmps71
 replace H := zif H; rcases H with ⟨c1, H⟩ | ⟨c1, H⟩
 case inl =>
  obtain rfl := zsome H
  go_wp2
  go_ret
  exact HS.pk
 go_wp2
 go_loopg [1, 5] k (fun kq v_1 v_5 w' => ∃ (x12 : Int) (x13 : Int), v_1 = .int .i64 x12 ∧ v_5 = .int .i64 x13 ∧ Aside0 (laws_szPlanS.l0 kq x12 x13 a0 = some r) ∧ Aside0 (kq ≤ k) ∧ Hp noFP w w' [])
 case atStart => exact ⟨_, _, rfl, rfl, H, ⟨Nat.le_refl _⟩, HS⟩
 case round =>
  clear HS H; (try clear F)
  obtain ⟨x12, x13, rfl, rfl, H, HKk11, HS⟩ := hrel
  cases gk with
  | zero => exact absurd H.out (by simp [laws_szPlanS.l0])
  | succ k11 =>
   simp only [laws_szPlanS.l0] at H
   replace H := znif H; rcases H with ⟨c15, H⟩ | ⟨c15, H⟩
   case inl =>
    obtain rfl := zsome H
    go_wp2
    go_ret
    exact HS.pk
   replace H := zgo H; obtain ⟨c16, H⟩ := H
   replace H := zgo H; obtain ⟨c17, H⟩ := H
   obtain ⟨ad18, B18_1, d18_1, B18_3, d18_3, rfl, e18_0, e18_1, e18_2, e18_3, e18_4, e18_5, e18_6, m18_1, y18_1, m18_3, y18_3⟩ := at_T196 gp0 x13 (of_eq_true c16) (of_eq_true c17)
   have e18_0_18 := (HS.keepc e18_0)
   have e18_1_18 := (HS.keepc e18_1)
   have e18_2_18 := (HS.keepc e18_2)
   have e18_3_18 := (HS.keepc e18_3)
   have e18_4_18 := (HS.keepc e18_4)
   have e18_5_18 := (HS.keepc e18_5)
   have e18_6_18 := (HS.keepc e18_6)
   replace H := zbind H; obtain ⟨t19, ht19, H⟩ := H
   go_upto_if 25 with (first | ((with_reducible refine gd 23 rfl ?_); refine ev_cl HS (laws_szPlan.calls ht19.out (HS.ro y18_1) m18_1 (HS.ro y18_3) m18_3) Tryz.func151 ?_; clear HS; (try clear F); intro wt19 HS F))
   replace H := zif H; rcases H with ⟨c21, H⟩ | ⟨c21, H⟩
   case inl =>
    (try simp only [c21, dcn])
    obtain rfl := zsome H
    go_wp2
    go_ret
    exact HS.pk
   (try simp only [c21, dcn])
   go_wp2
   go_roundg k11
   case measure => have := HKk11.out; omega
   case rel => exact ⟨_, _, rfl, rfl, H, ⟨by have := HKk11.out; omega⟩, HS.pick [] (by decide) (by rfl)⟩
/-! ### laws_szKept: function 152 -/
def laws_szKept.f (a0 : S199) (a1 : Int) : Option (Int) := (if (wrap64 (a1 - (a0.f0.size : Int))) < 0 then (some (-1)) else (if (wrap64 ((wrap64 (a1 - (a0.f0.size : Int))) - (a0.f1.size : Int))) < 0 then (some (-1)) else (some (wrap64 ((wrap64 (a1 - (a0.f0.size : Int))) - (a0.f1.size : Int))))))
set_option maxHeartbeats 16000000 in
theorem laws_szKept.calls {a0 : S199} {a1 : Int} {r : Int} {w : World} (h : laws_szKept.f a0 a1 = some r) :
    Calls Tryz.prog 152 #[.agg #[.string a0.f0, .string a0.f1, .int .i64 a0.f2], .int .i64 a1] w (fun e w' => e = .returned (.int .i64 r) ∧ Hp noFP w w' []) := by
 have HS := Hp.start w
 have H := Aside0.mk h
 clear h
 unfold laws_szKept.f at H
 go_enter Tryz.func152, Tryz.ntmps152
 go_upto_if 11 with (first | ((with_reducible refine gd 2 rfl ?_); refine ev_bx HS ?_; clear HS; (try clear F); intro g2 w2 HS F))
 replace H := zif H; rcases H with ⟨c3, H⟩ | ⟨c3, H⟩
 case inl =>
  (try simp only [c3, dcn])
  obtain rfl := zsome H
  go_wp2
  go_ret
  exact HS.pk
 (try simp only [c3, dcn])
 replace H := zif H; rcases H with ⟨c4, H⟩ | ⟨c4, H⟩
 case inl =>
  obtain rfl := zsome H
  go_wp2
  go_ret
  exact HS.pk
 obtain rfl := zsome H
 go_wp2
 go_ret
 exact HS.pk
/-! ### laws_szKeptS: function 72 -/
def laws_szKeptS.l0 : Nat → Int → Int → (List S199) → Option (Int)
  | 0, _, _, _ => none
  | k + 1, x12, x13, a0 => (if x13 < (a0.length : Int) then (if 0 ≤ x13 then (if x13 < (a0.length : Int) then ((laws_szKept.f (rd_T199 a0 x13) x12).bind fun t19 => (if t19 < 0 then (some (-1)) else (laws_szKeptS.l0 k t19 (wrap64 (x13 + 1)) a0))) else none) else none) else (some x12))
def laws_szKeptS.f (k : Nat) (a0 : (List S199)) (a1 : Int) : Option (Int) := (if (wrap64 (a1 - (a0.length : Int))) < 0 then (some (-1)) else (laws_szKeptS.l0 k (wrap64 (a1 - (a0.length : Int))) 0 a0))
set_option maxHeartbeats 16000000 in
theorem laws_szKeptS.calls {k : Nat} {a0 : (List S199)} {a1 : Int} {Ap0 : Option Addr} {np0 cp0 : Nat} {r : Int} {w : World} (h : laws_szKeptS.f k a0 a1 = some r) (gp0 : k199.C w Ap0 np0 a0) (lp0 : np0 ≤ cp0) :
    Calls Tryz.prog 72 #[.slice Ap0 np0 cp0, .int .i64 a1] w (fun e w' => e = .returned (.int .i64 r) ∧ Hp noFP w w' []) := by
 obtain rfl := C_len gp0
 have HS := Hp.start w
 have H := Aside0.mk h
 clear h
 unfold laws_szKeptS.f at H
 go_enter Tryz.func72, Tryz.ntmps72
 replace H := zif H; rcases H with ⟨c1, H⟩ | ⟨c1, H⟩
 case inl =>
  obtain rfl := zsome H
  go_wp2
  go_ret
  exact HS.pk
 go_wp2
 go_loopg [1, 5] k (fun kq v_1 v_5 w' => ∃ (x12 : Int) (x13 : Int), v_1 = .int .i64 x12 ∧ v_5 = .int .i64 x13 ∧ Aside0 (laws_szKeptS.l0 kq x12 x13 a0 = some r) ∧ Aside0 (kq ≤ k) ∧ Hp noFP w w' [])
 case atStart => exact ⟨_, _, rfl, rfl, H, ⟨Nat.le_refl _⟩, HS⟩
 case round =>
  clear HS H; (try clear F)
  obtain ⟨x12, x13, rfl, rfl, H, HKk11, HS⟩ := hrel
  cases gk with
  | zero => exact absurd H.out (by simp [laws_szKeptS.l0])
  | succ k11 =>
   simp only [laws_szKeptS.l0] at H
   replace H := znif H; rcases H with ⟨c15, H⟩ | ⟨c15, H⟩
   case inl =>
    obtain rfl := zsome H
    go_wp2
    go_ret
    exact HS.pk
   replace H := zgo H; obtain ⟨c16, H⟩ := H
   replace H := zgo H; obtain ⟨c17, H⟩ := H
   obtain ⟨ad18, rfl, e18_0, e18_1, e18_2⟩ := at_T199 gp0 x13 (of_eq_true c16) (of_eq_true c17)
   have e18_0_18 := (HS.keepc e18_0)
   have e18_1_18 := (HS.keepc e18_1)
   have e18_2_18 := (HS.keepc e18_2)
   replace H := zbind H; obtain ⟨t19, ht19, H⟩ := H
   go_upto_if 25 with (first | ((with_reducible refine gd 23 rfl ?_); refine ev_cl HS (laws_szKept.calls ht19.out) Tryz.func152 ?_; clear HS; (try clear F); intro wt19 HS F))
   replace H := zif H; rcases H with ⟨c21, H⟩ | ⟨c21, H⟩
   case inl =>
    (try simp only [c21, dcn])
    obtain rfl := zsome H
    go_wp2
    go_ret
    exact HS.pk
   (try simp only [c21, dcn])
   go_wp2
   go_roundg k11
   case measure => have := HKk11.out; omega
   case rel => exact ⟨_, _, rfl, rfl, H, ⟨by have := HKk11.out; omega⟩, HS.pick [] (by decide) (by rfl)⟩
/-! ### laws_szServer: function 16 -/
def laws_szServer.f (k : Nat) (a0 : S40) (a1 : Int) : Option (Int) := ((laws_szStore.f k a0.f0 a1).bind fun t3 => (if t3 < 0 then (some (-1)) else ((laws_szPlanS.f k a0.f1 t3).bind fun t6 => (if t6 < 0 then (some (-1)) else ((laws_szKeptS.f k a0.f5 t6).bind fun t9 => (if t9 < 0 then (some (-1)) else (some t9)))))))
set_option maxHeartbeats 16000000 in
theorem laws_szServer.calls {k : Nat} {a0 : S40} {a1 : Int} {Ap0 : Option Addr} {np0 cp0 : Nat} {Ap1 : Option Addr} {np1 cp1 : Nat} {Ap2 : Option Addr} {np2 cp2 : Nat} {Ap3 : Option Addr} {np3 cp3 : Nat} {Ap4 : Option Addr} {np4 cp4 : Nat} {r : Int} {w : World} (h : laws_szServer.f k a0 a1 = some r) (gp0 : k88.C w Ap0 np0 a0.f0.f0) (lp0 : np0 ≤ cp0) (gp1 : k75.C w Ap1 np1 a0.f0.f1) (lp1 : np1 ≤ cp1) (gp2 : k178.C w Ap2 np2 a0.f0.f2) (lp2 : np2 ≤ cp2) (gp3 : k196.C w Ap3 np3 a0.f1) (lp3 : np3 ≤ cp3) (gp4 : k199.C w Ap4 np4 a0.f5) (lp4 : np4 ≤ cp4) :
    Calls Tryz.prog 16 #[.agg #[.slice Ap0 np0 cp0, .slice Ap1 np1 cp1, .slice Ap2 np2 cp2, .slice Ap3 np3 cp3, .int .i64 a0.f2, .int .i64 a0.f3, .int .i64 a0.f4, .slice Ap4 np4 cp4], .int .i64 a1] w (fun e w' => e = .returned (.int .i64 r) ∧ Hp noFP w w' []) := by
 obtain rfl := C_len gp0
 obtain rfl := C_len gp1
 obtain rfl := C_len gp2
 obtain rfl := C_len gp3
 obtain rfl := C_len gp4
 have HS := Hp.start w
 have H := Aside0.mk h
 clear h
 unfold laws_szServer.f at H
 go_enter Tryz.func16, Tryz.ntmps16
 replace H := zbind H; obtain ⟨t3, ht3, H⟩ := H
 go_upto_if 10 with (first | ((with_reducible refine gd 2 rfl ?_); refine ev_bx HS ?_; clear HS; (try clear F); intro g2 w2 HS F) | ((with_reducible refine gd 8 rfl ?_); refine ev_cl HS (laws_szStore.calls ht3.out (HS.ro gp0) lp0 (HS.ro gp1) lp1 (HS.ro gp2) lp2) Tryz.func11 ?_; clear HS; (try clear F); intro wt3 HS F))
 replace H := zif H; rcases H with ⟨c5, H⟩ | ⟨c5, H⟩
 case inl =>
  (try simp only [c5, dcn])
  obtain rfl := zsome H
  go_wp2
  go_ret
  exact HS.pk
 (try simp only [c5, dcn])
 replace H := zbind H; obtain ⟨t6, ht6, H⟩ := H
 go_upto_if 16 with (first | ((with_reducible refine gd 14 rfl ?_); refine ev_cl HS (laws_szPlanS.calls ht6.out (HS.ro gp3) lp3) Tryz.func71 ?_; clear HS; (try clear F); intro wt6 HS F))
 replace H := zif H; rcases H with ⟨c8, H⟩ | ⟨c8, H⟩
 case inl =>
  (try simp only [c8, dcn])
  obtain rfl := zsome H
  go_wp2
  go_ret
  exact HS.pk
 (try simp only [c8, dcn])
 replace H := zbind H; obtain ⟨t9, ht9, H⟩ := H
 go_upto_if 22 with (first | ((with_reducible refine gd 20 rfl ?_); refine ev_cl HS (laws_szKeptS.calls ht9.out (HS.ro gp4) lp4) Tryz.func72 ?_; clear HS; (try clear F); intro wt9 HS F))
 replace H := zif H; rcases H with ⟨c11, H⟩ | ⟨c11, H⟩
 case inl =>
  (try simp only [c11, dcn])
  obtain rfl := zsome H
  go_wp2
  go_ret
  exact HS.pk
 (try simp only [c11, dcn])
 obtain rfl := zsome H
 go_wp2
 go_ret
 exact HS.pk
/-! ### laws_szWait: function 213 -/
def laws_szWait.f (a0 : S265) (a1 : Int) : Option (Int) := (if (wrap64 (a1 - (a0.f2.size : Int))) < 0 then (some (-1)) else (some (wrap64 (a1 - (a0.f2.size : Int)))))
set_option maxHeartbeats 16000000 in
theorem laws_szWait.calls {a0 : S265} {a1 : Int} {r : Int} {w : World} (h : laws_szWait.f a0 a1 = some r) :
    Calls Tryz.prog 213 #[.agg #[.int .i64 a0.f0, .int .i64 a0.f1, .string a0.f2, .int .i64 a0.f3], .int .i64 a1] w (fun e w' => e = .returned (.int .i64 r) ∧ Hp noFP w w' []) := by
 have HS := Hp.start w
 have H := Aside0.mk h
 clear h
 unfold laws_szWait.f at H
 go_enter Tryz.func213, Tryz.ntmps213
 go_upto_if 11 with (first | ((with_reducible refine gd 2 rfl ?_); refine ev_bx HS ?_; clear HS; (try clear F); intro g2 w2 HS F))
 replace H := zif H; rcases H with ⟨c3, H⟩ | ⟨c3, H⟩
 case inl =>
  (try simp only [c3, dcn])
  obtain rfl := zsome H
  go_wp2
  go_ret
  exact HS.pk
 (try simp only [c3, dcn])
 obtain rfl := zsome H
 go_wp2
 go_ret
 exact HS.pk
/-! ### laws_szWaitS: function 159 -/
def laws_szWaitS.l0 : Nat → Int → Int → (List S265) → Option (Int)
  | 0, _, _, _ => none
  | k + 1, x12, x13, a0 => (if x13 < (a0.length : Int) then (if 0 ≤ x13 then (if x13 < (a0.length : Int) then ((laws_szWait.f (rd_T265 a0 x13) x12).bind fun t19 => (if t19 < 0 then (some (-1)) else (laws_szWaitS.l0 k t19 (wrap64 (x13 + 1)) a0))) else none) else none) else (some x12))
def laws_szWaitS.f (k : Nat) (a0 : (List S265)) (a1 : Int) : Option (Int) := (if (wrap64 (a1 - (a0.length : Int))) < 0 then (some (-1)) else (laws_szWaitS.l0 k (wrap64 (a1 - (a0.length : Int))) 0 a0))
set_option maxHeartbeats 16000000 in
theorem laws_szWaitS.calls {k : Nat} {a0 : (List S265)} {a1 : Int} {Ap0 : Option Addr} {np0 cp0 : Nat} {r : Int} {w : World} (h : laws_szWaitS.f k a0 a1 = some r) (gp0 : k265.C w Ap0 np0 a0) (lp0 : np0 ≤ cp0) :
    Calls Tryz.prog 159 #[.slice Ap0 np0 cp0, .int .i64 a1] w (fun e w' => e = .returned (.int .i64 r) ∧ Hp noFP w w' []) := by
 obtain rfl := C_len gp0
 have HS := Hp.start w
 have H := Aside0.mk h
 clear h
 unfold laws_szWaitS.f at H
 go_enter Tryz.func159, Tryz.ntmps159
 replace H := zif H; rcases H with ⟨c1, H⟩ | ⟨c1, H⟩
 case inl =>
  obtain rfl := zsome H
  go_wp2
  go_ret
  exact HS.pk
 go_wp2
 go_loopg [1, 5] k (fun kq v_1 v_5 w' => ∃ (x12 : Int) (x13 : Int), v_1 = .int .i64 x12 ∧ v_5 = .int .i64 x13 ∧ Aside0 (laws_szWaitS.l0 kq x12 x13 a0 = some r) ∧ Aside0 (kq ≤ k) ∧ Hp noFP w w' [])
 case atStart => exact ⟨_, _, rfl, rfl, H, ⟨Nat.le_refl _⟩, HS⟩
 case round =>
  clear HS H; (try clear F)
  obtain ⟨x12, x13, rfl, rfl, H, HKk11, HS⟩ := hrel
  cases gk with
  | zero => exact absurd H.out (by simp [laws_szWaitS.l0])
  | succ k11 =>
   simp only [laws_szWaitS.l0] at H
   replace H := znif H; rcases H with ⟨c15, H⟩ | ⟨c15, H⟩
   case inl =>
    obtain rfl := zsome H
    go_wp2
    go_ret
    exact HS.pk
   replace H := zgo H; obtain ⟨c16, H⟩ := H
   replace H := zgo H; obtain ⟨c17, H⟩ := H
   obtain ⟨ad18, rfl, e18_0, e18_1, e18_2, e18_3⟩ := at_T265 gp0 x13 (of_eq_true c16) (of_eq_true c17)
   have e18_0_18 := (HS.keepc e18_0)
   have e18_1_18 := (HS.keepc e18_1)
   have e18_2_18 := (HS.keepc e18_2)
   have e18_3_18 := (HS.keepc e18_3)
   replace H := zbind H; obtain ⟨t19, ht19, H⟩ := H
   go_upto_if 25 with (first | ((with_reducible refine gd 23 rfl ?_); refine ev_cl HS (laws_szWait.calls ht19.out) Tryz.func213 ?_; clear HS; (try clear F); intro wt19 HS F))
   replace H := zif H; rcases H with ⟨c21, H⟩ | ⟨c21, H⟩
   case inl =>
    (try simp only [c21, dcn])
    obtain rfl := zsome H
    go_wp2
    go_ret
    exact HS.pk
   (try simp only [c21, dcn])
   go_wp2
   go_roundg k11
   case measure => have := HKk11.out; omega
   case rel => exact ⟨_, _, rfl, rfl, H, ⟨by have := HKk11.out; omega⟩, HS.pick [] (by decide) (by rfl)⟩
/-! ### laws_szAnswer: function 251 -/
def laws_szAnswer.f (k : Nat) (a0 : S304) (a1 : Int) : Option (Int) := ((laws_szStringS.f k a0.f2 a1).bind fun t3 => (if t3 < 0 then (some (-1)) else ((laws_szStringS.f k a0.f3 t3).bind fun t6 => (if t6 < 0 then (some (-1)) else (some t6)))))
set_option maxHeartbeats 16000000 in
theorem laws_szAnswer.calls {k : Nat} {a0 : S304} {a1 : Int} {Ap0 : Option Addr} {np0 cp0 : Nat} {Ap1 : Option Addr} {np1 cp1 : Nat} {r : Int} {w : World} (h : laws_szAnswer.f k a0 a1 = some r) (gp0 : Kd.string.C w Ap0 np0 a0.f2) (lp0 : np0 ≤ cp0) (gp1 : Kd.string.C w Ap1 np1 a0.f3) (lp1 : np1 ≤ cp1) :
    Calls Tryz.prog 251 #[.agg #[.int .i64 a0.f0, .int .i64 a0.f1, .slice Ap0 np0 cp0, .slice Ap1 np1 cp1], .int .i64 a1] w (fun e w' => e = .returned (.int .i64 r) ∧ Hp noFP w w' []) := by
 obtain rfl := C_len gp0
 obtain rfl := C_len gp1
 have HS := Hp.start w
 have H := Aside0.mk h
 clear h
 unfold laws_szAnswer.f at H
 go_enter Tryz.func251, Tryz.ntmps251
 replace H := zbind H; obtain ⟨t3, ht3, H⟩ := H
 go_upto_if 10 with (first | ((with_reducible refine gd 2 rfl ?_); refine ev_bx HS ?_; clear HS; (try clear F); intro g2 w2 HS F) | ((with_reducible refine gd 8 rfl ?_); refine ev_cl HS (laws_szStringS.calls ht3.out (HS.ro gp0) lp0) Tryz.func87 ?_; clear HS; (try clear F); intro wt3 HS F))
 replace H := zif H; rcases H with ⟨c5, H⟩ | ⟨c5, H⟩
 case inl =>
  (try simp only [c5, dcn])
  obtain rfl := zsome H
  go_wp2
  go_ret
  exact HS.pk
 (try simp only [c5, dcn])
 replace H := zbind H; obtain ⟨t6, ht6, H⟩ := H
 go_upto_if 16 with (first | ((with_reducible refine gd 14 rfl ?_); refine ev_cl HS (laws_szStringS.calls ht6.out (HS.ro gp1) lp1) Tryz.func87 ?_; clear HS; (try clear F); intro wt6 HS F))
 replace H := zif H; rcases H with ⟨c8, H⟩ | ⟨c8, H⟩
 case inl =>
  (try simp only [c8, dcn])
  obtain rfl := zsome H
  go_wp2
  go_ret
  exact HS.pk
 (try simp only [c8, dcn])
 obtain rfl := zsome H
 go_wp2
 go_ret
 exact HS.pk
/-! ### laws_szAnswerS: function 239 -/
def laws_szAnswerS.l0 : Nat → Int → Int → (List S304) → Option (Int)
  | 0, _, _, _ => none
  | k + 1, x12, x13, a0 => (if x13 < (a0.length : Int) then (if 0 ≤ x13 then (if x13 < (a0.length : Int) then ((laws_szAnswer.f k (rd_T304 a0 x13) x12).bind fun t19 => (if t19 < 0 then (some (-1)) else (laws_szAnswerS.l0 k t19 (wrap64 (x13 + 1)) a0))) else none) else none) else (some x12))
def laws_szAnswerS.f (k : Nat) (a0 : (List S304)) (a1 : Int) : Option (Int) := (if (wrap64 (a1 - (a0.length : Int))) < 0 then (some (-1)) else (laws_szAnswerS.l0 k (wrap64 (a1 - (a0.length : Int))) 0 a0))
set_option maxHeartbeats 16000000 in
theorem laws_szAnswerS.calls {k : Nat} {a0 : (List S304)} {a1 : Int} {Ap0 : Option Addr} {np0 cp0 : Nat} {r : Int} {w : World} (h : laws_szAnswerS.f k a0 a1 = some r) (gp0 : k304.C w Ap0 np0 a0) (lp0 : np0 ≤ cp0) :
    Calls Tryz.prog 239 #[.slice Ap0 np0 cp0, .int .i64 a1] w (fun e w' => e = .returned (.int .i64 r) ∧ Hp noFP w w' []) := by
 obtain rfl := C_len gp0
 have HS := Hp.start w
 have H := Aside0.mk h
 clear h
 unfold laws_szAnswerS.f at H
 go_enter Tryz.func239, Tryz.ntmps239
 replace H := zif H; rcases H with ⟨c1, H⟩ | ⟨c1, H⟩
 case inl =>
  obtain rfl := zsome H
  go_wp2
  go_ret
  exact HS.pk
 go_wp2
 go_loopg [1, 5] k (fun kq v_1 v_5 w' => ∃ (x12 : Int) (x13 : Int), v_1 = .int .i64 x12 ∧ v_5 = .int .i64 x13 ∧ Aside0 (laws_szAnswerS.l0 kq x12 x13 a0 = some r) ∧ Aside0 (kq ≤ k) ∧ Hp noFP w w' [])
 case atStart => exact ⟨_, _, rfl, rfl, H, ⟨Nat.le_refl _⟩, HS⟩
 case round =>
  clear HS H; (try clear F)
  obtain ⟨x12, x13, rfl, rfl, H, HKk11, HS⟩ := hrel
  cases gk with
  | zero => exact absurd H.out (by simp [laws_szAnswerS.l0])
  | succ k11 =>
   simp only [laws_szAnswerS.l0] at H
   replace H := znif H; rcases H with ⟨c15, H⟩ | ⟨c15, H⟩
   case inl =>
    obtain rfl := zsome H
    go_wp2
    go_ret
    exact HS.pk
   replace H := zgo H; obtain ⟨c16, H⟩ := H
   replace H := zgo H; obtain ⟨c17, H⟩ := H
   obtain ⟨ad18, B18_2, d18_2, B18_3, d18_3, rfl, e18_0, e18_1, e18_2, e18_3, m18_2, y18_2, m18_3, y18_3⟩ := at_T304 gp0 x13 (of_eq_true c16) (of_eq_true c17)
   have e18_0_18 := (HS.keepc e18_0)
   have e18_1_18 := (HS.keepc e18_1)
   have e18_2_18 := (HS.keepc e18_2)
   have e18_3_18 := (HS.keepc e18_3)
   replace H := zbind H; obtain ⟨t19, ht19, H⟩ := H
   go_upto_if 25 with (first | ((with_reducible refine gd 23 rfl ?_); refine ev_cl HS (laws_szAnswer.calls ht19.out (HS.ro y18_2) m18_2 (HS.ro y18_3) m18_3) Tryz.func251 ?_; clear HS; (try clear F); intro wt19 HS F))
   replace H := zif H; rcases H with ⟨c21, H⟩ | ⟨c21, H⟩
   case inl =>
    (try simp only [c21, dcn])
    obtain rfl := zsome H
    go_wp2
    go_ret
    exact HS.pk
   (try simp only [c21, dcn])
   go_wp2
   go_roundg k11
   case measure => have := HKk11.out; omega
   case rel => exact ⟨_, _, rfl, rfl, H, ⟨by have := HKk11.out; omega⟩, HS.pick [] (by decide) (by rfl)⟩
/-! ### laws_szReply: function 229 -/
def laws_szReply.f (k : Nat) (a0 : S269) (a1 : Int) : Option (Int) := (if (wrap64 (a1 - (a0.f0.size : Int))) < 0 then (some (-1)) else ((laws_szAnswerS.f k a0.f6 (wrap64 (a1 - (a0.f0.size : Int)))).bind fun t4 => (if t4 < 0 then (some (-1)) else (if (wrap64 (t4 - (a0.f7.size : Int))) < 0 then (some (-1)) else (some (wrap64 (t4 - (a0.f7.size : Int))))))))
set_option maxHeartbeats 16000000 in
theorem laws_szReply.calls {k : Nat} {a0 : S269} {a1 : Int} {Ap0 : Option Addr} {np0 cp0 : Nat} {r : Int} {w : World} (h : laws_szReply.f k a0 a1 = some r) (gp0 : k304.C w Ap0 np0 a0.f6) (lp0 : np0 ≤ cp0) :
    Calls Tryz.prog 229 #[.agg #[.string a0.f0, .int .i64 a0.f1, .int .i64 a0.f2, .int .i64 a0.f3, .int .i64 a0.f4, .int .i64 a0.f5, .slice Ap0 np0 cp0, .string a0.f7], .int .i64 a1] w (fun e w' => e = .returned (.int .i64 r) ∧ Hp noFP w w' []) := by
 obtain rfl := C_len gp0
 have HS := Hp.start w
 have H := Aside0.mk h
 clear h
 unfold laws_szReply.f at H
 go_enter Tryz.func229, Tryz.ntmps229
 go_upto_if 11 with (first | ((with_reducible refine gd 2 rfl ?_); refine ev_bx HS ?_; clear HS; (try clear F); intro g2 w2 HS F))
 replace H := zif H; rcases H with ⟨c3, H⟩ | ⟨c3, H⟩
 case inl =>
  (try simp only [c3, dcn])
  obtain rfl := zsome H
  go_wp2
  go_ret
  exact HS.pk
 (try simp only [c3, dcn])
 replace H := zbind H; obtain ⟨t4, ht4, H⟩ := H
 go_upto_if 17 with (first | ((with_reducible refine gd 15 rfl ?_); refine ev_cl HS (laws_szAnswerS.calls ht4.out (HS.ro gp0) lp0) Tryz.func239 ?_; clear HS; (try clear F); intro wt4 HS F))
 replace H := zif H; rcases H with ⟨c6, H⟩ | ⟨c6, H⟩
 case inl =>
  (try simp only [c6, dcn])
  obtain rfl := zsome H
  go_wp2
  go_ret
  exact HS.pk
 (try simp only [c6, dcn])
 replace H := zif H; rcases H with ⟨c7, H⟩ | ⟨c7, H⟩
 case inl =>
  obtain rfl := zsome H
  go_wp2
  go_ret
  exact HS.pk
 obtain rfl := zsome H
 go_wp2
 go_ret
 exact HS.pk
/-! ### laws_szGot: function 214 -/
def laws_szGot.f (k : Nat) (a0 : S271) (a1 : Int) : Option (Int) := ((laws_szReply.f k a0.f1 a1).bind fun t3 => (if t3 < 0 then (some (-1)) else (some t3)))
set_option maxHeartbeats 16000000 in
theorem laws_szGot.calls {k : Nat} {a0 : S271} {a1 : Int} {Ap0 : Option Addr} {np0 cp0 : Nat} {r : Int} {w : World} (h : laws_szGot.f k a0 a1 = some r) (gp0 : k304.C w Ap0 np0 a0.f1.f6) (lp0 : np0 ≤ cp0) :
    Calls Tryz.prog 214 #[.agg #[.int .i64 a0.f0, .string a0.f1.f0, .int .i64 a0.f1.f1, .int .i64 a0.f1.f2, .int .i64 a0.f1.f3, .int .i64 a0.f1.f4, .int .i64 a0.f1.f5, .slice Ap0 np0 cp0, .string a0.f1.f7], .int .i64 a1] w (fun e w' => e = .returned (.int .i64 r) ∧ Hp noFP w w' []) := by
 obtain rfl := C_len gp0
 have HS := Hp.start w
 have H := Aside0.mk h
 clear h
 unfold laws_szGot.f at H
 go_enter Tryz.func214, Tryz.ntmps214
 replace H := zbind H; obtain ⟨t3, ht3, H⟩ := H
 go_upto_if 10 with (first | ((with_reducible refine gd 2 rfl ?_); refine ev_bx HS ?_; clear HS; (try clear F); intro g2 w2 HS F) | ((with_reducible refine gd 8 rfl ?_); refine ev_cl HS (laws_szReply.calls ht3.out (HS.ro gp0) lp0) Tryz.func229 ?_; clear HS; (try clear F); intro wt3 HS F))
 replace H := zif H; rcases H with ⟨c5, H⟩ | ⟨c5, H⟩
 case inl =>
  (try simp only [c5, dcn])
  obtain rfl := zsome H
  go_wp2
  go_ret
  exact HS.pk
 (try simp only [c5, dcn])
 obtain rfl := zsome H
 go_wp2
 go_ret
 exact HS.pk
/-! ### laws_szGotS: function 160 -/
def laws_szGotS.l0 : Nat → Int → Int → (List S271) → Option (Int)
  | 0, _, _, _ => none
  | k + 1, x12, x13, a0 => (if x13 < (a0.length : Int) then (if 0 ≤ x13 then (if x13 < (a0.length : Int) then ((laws_szGot.f k (rd_T271 a0 x13) x12).bind fun t19 => (if t19 < 0 then (some (-1)) else (laws_szGotS.l0 k t19 (wrap64 (x13 + 1)) a0))) else none) else none) else (some x12))
def laws_szGotS.f (k : Nat) (a0 : (List S271)) (a1 : Int) : Option (Int) := (if (wrap64 (a1 - (a0.length : Int))) < 0 then (some (-1)) else (laws_szGotS.l0 k (wrap64 (a1 - (a0.length : Int))) 0 a0))
set_option maxHeartbeats 16000000 in
theorem laws_szGotS.calls {k : Nat} {a0 : (List S271)} {a1 : Int} {Ap0 : Option Addr} {np0 cp0 : Nat} {r : Int} {w : World} (h : laws_szGotS.f k a0 a1 = some r) (gp0 : k271.C w Ap0 np0 a0) (lp0 : np0 ≤ cp0) :
    Calls Tryz.prog 160 #[.slice Ap0 np0 cp0, .int .i64 a1] w (fun e w' => e = .returned (.int .i64 r) ∧ Hp noFP w w' []) := by
 obtain rfl := C_len gp0
 have HS := Hp.start w
 have H := Aside0.mk h
 clear h
 unfold laws_szGotS.f at H
 go_enter Tryz.func160, Tryz.ntmps160
 replace H := zif H; rcases H with ⟨c1, H⟩ | ⟨c1, H⟩
 case inl =>
  obtain rfl := zsome H
  go_wp2
  go_ret
  exact HS.pk
 go_wp2
 go_loopg [1, 5] k (fun kq v_1 v_5 w' => ∃ (x12 : Int) (x13 : Int), v_1 = .int .i64 x12 ∧ v_5 = .int .i64 x13 ∧ Aside0 (laws_szGotS.l0 kq x12 x13 a0 = some r) ∧ Aside0 (kq ≤ k) ∧ Hp noFP w w' [])
 case atStart => exact ⟨_, _, rfl, rfl, H, ⟨Nat.le_refl _⟩, HS⟩
 case round =>
  clear HS H; (try clear F)
  obtain ⟨x12, x13, rfl, rfl, H, HKk11, HS⟩ := hrel
  cases gk with
  | zero => exact absurd H.out (by simp [laws_szGotS.l0])
  | succ k11 =>
   simp only [laws_szGotS.l0] at H
   replace H := znif H; rcases H with ⟨c15, H⟩ | ⟨c15, H⟩
   case inl =>
    obtain rfl := zsome H
    go_wp2
    go_ret
    exact HS.pk
   replace H := zgo H; obtain ⟨c16, H⟩ := H
   replace H := zgo H; obtain ⟨c17, H⟩ := H
   obtain ⟨ad18, B18_7, d18_7, rfl, e18_0, e18_1, e18_2, e18_3, e18_4, e18_5, e18_6, e18_7, e18_8, m18_7, y18_7⟩ := at_T271 gp0 x13 (of_eq_true c16) (of_eq_true c17)
   have e18_0_18 := (HS.keepc e18_0)
   have e18_1_18 := (HS.keepc e18_1)
   have e18_2_18 := (HS.keepc e18_2)
   have e18_3_18 := (HS.keepc e18_3)
   have e18_4_18 := (HS.keepc e18_4)
   have e18_5_18 := (HS.keepc e18_5)
   have e18_6_18 := (HS.keepc e18_6)
   have e18_7_18 := (HS.keepc e18_7)
   have e18_8_18 := (HS.keepc e18_8)
   replace H := zbind H; obtain ⟨t19, ht19, H⟩ := H
   go_upto_if 25 with (first | ((with_reducible refine gd 23 rfl ?_); refine ev_cl HS (laws_szGot.calls ht19.out (HS.ro y18_7) m18_7) Tryz.func214 ?_; clear HS; (try clear F); intro wt19 HS F))
   replace H := zif H; rcases H with ⟨c21, H⟩ | ⟨c21, H⟩
   case inl =>
    (try simp only [c21, dcn])
    obtain rfl := zsome H
    go_wp2
    go_ret
    exact HS.pk
   (try simp only [c21, dcn])
   go_wp2
   go_roundg k11
   case measure => have := HKk11.out; omega
   case rel => exact ⟨_, _, rfl, rfl, H, ⟨by have := HKk11.out; omega⟩, HS.pick [] (by decide) (by rfl)⟩
/-! ### laws_szClient: function 83 -/
def laws_szClient.f (k : Nat) (a0 : S54) (a1 : Int) : Option (Int) := (if (wrap64 (a1 - (a0.f0.size : Int))) < 0 then (some (-1)) else ((laws_szWaitS.f k a0.f2 (wrap64 (a1 - (a0.f0.size : Int)))).bind fun t4 => (if t4 < 0 then (some (-1)) else ((laws_szGotS.f k a0.f3 t4).bind fun t7 => (if t7 < 0 then (some (-1)) else ((laws_szIntS.f a0.f4 t7).bind fun t10 => (if t10 < 0 then (some (-1)) else (some t10))))))))
set_option maxHeartbeats 16000000 in
theorem laws_szClient.calls {k : Nat} {a0 : S54} {a1 : Int} {Ap0 : Option Addr} {np0 cp0 : Nat} {Ap1 : Option Addr} {np1 cp1 : Nat} {Ap2 : Option Addr} {np2 cp2 : Nat} {r : Int} {w : World} (h : laws_szClient.f k a0 a1 = some r) (gp0 : k265.C w Ap0 np0 a0.f2) (lp0 : np0 ≤ cp0) (gp1 : k271.C w Ap1 np1 a0.f3) (lp1 : np1 ≤ cp1) (gp2 : (Kd.int .i64).C w Ap2 np2 a0.f4) (lp2 : np2 ≤ cp2) :
    Calls Tryz.prog 83 #[.agg #[.string a0.f0, .int .i64 a0.f1, .slice Ap0 np0 cp0, .slice Ap1 np1 cp1, .slice Ap2 np2 cp2], .int .i64 a1] w (fun e w' => e = .returned (.int .i64 r) ∧ Hp noFP w w' []) := by
 obtain rfl := C_len gp0
 obtain rfl := C_len gp1
 obtain rfl := C_len gp2
 have HS := Hp.start w
 have H := Aside0.mk h
 clear h
 unfold laws_szClient.f at H
 go_enter Tryz.func83, Tryz.ntmps83
 go_upto_if 11 with (first | ((with_reducible refine gd 2 rfl ?_); refine ev_bx HS ?_; clear HS; (try clear F); intro g2 w2 HS F))
 replace H := zif H; rcases H with ⟨c3, H⟩ | ⟨c3, H⟩
 case inl =>
  (try simp only [c3, dcn])
  obtain rfl := zsome H
  go_wp2
  go_ret
  exact HS.pk
 (try simp only [c3, dcn])
 replace H := zbind H; obtain ⟨t4, ht4, H⟩ := H
 go_upto_if 17 with (first | ((with_reducible refine gd 15 rfl ?_); refine ev_cl HS (laws_szWaitS.calls ht4.out (HS.ro gp0) lp0) Tryz.func159 ?_; clear HS; (try clear F); intro wt4 HS F))
 replace H := zif H; rcases H with ⟨c6, H⟩ | ⟨c6, H⟩
 case inl =>
  (try simp only [c6, dcn])
  obtain rfl := zsome H
  go_wp2
  go_ret
  exact HS.pk
 (try simp only [c6, dcn])
 replace H := zbind H; obtain ⟨t7, ht7, H⟩ := H
 go_upto_if 23 with (first | ((with_reducible refine gd 21 rfl ?_); refine ev_cl HS (laws_szGotS.calls ht7.out (HS.ro gp1) lp1) Tryz.func160 ?_; clear HS; (try clear F); intro wt7 HS F))
 replace H := zif H; rcases H with ⟨c9, H⟩ | ⟨c9, H⟩
 case inl =>
  (try simp only [c9, dcn])
  obtain rfl := zsome H
  go_wp2
  go_ret
  exact HS.pk
 (try simp only [c9, dcn])
 replace H := zbind H; obtain ⟨t10, ht10, H⟩ := H
 go_upto_if 29 with (first | ((with_reducible refine gd 27 rfl ?_); refine ev_cl HS (laws_szIntS.calls ht10.out (HS.ro gp2) lp2) Tryz.func85 ?_; clear HS; (try clear F); intro wt10 HS F))
 replace H := zif H; rcases H with ⟨c12, H⟩ | ⟨c12, H⟩
 case inl =>
  (try simp only [c12, dcn])
  obtain rfl := zsome H
  go_wp2
  go_ret
  exact HS.pk
 (try simp only [c12, dcn])
 obtain rfl := zsome H
 go_wp2
 go_ret
 exact HS.pk
/-! ### laws_szLetter: function 161 -/
def laws_szLetter.f (a0 : S214) (a1 : Int) : Option (Int) := (if (wrap64 (a1 - (a0.f1.size : Int))) < 0 then (some (-1)) else (some (wrap64 (a1 - (a0.f1.size : Int)))))
set_option maxHeartbeats 16000000 in
theorem laws_szLetter.calls {a0 : S214} {a1 : Int} {r : Int} {w : World} (h : laws_szLetter.f a0 a1 = some r) :
    Calls Tryz.prog 161 #[.agg #[.bool a0.f0, .string a0.f1], .int .i64 a1] w (fun e w' => e = .returned (.int .i64 r) ∧ Hp noFP w w' []) := by
 have HS := Hp.start w
 have H := Aside0.mk h
 clear h
 unfold laws_szLetter.f at H
 go_enter Tryz.func161, Tryz.ntmps161
 go_upto_if 11 with (first | ((with_reducible refine gd 2 rfl ?_); refine ev_bx HS ?_; clear HS; (try clear F); intro g2 w2 HS F))
 replace H := zif H; rcases H with ⟨c3, H⟩ | ⟨c3, H⟩
 case inl =>
  (try simp only [c3, dcn])
  obtain rfl := zsome H
  go_wp2
  go_ret
  exact HS.pk
 (try simp only [c3, dcn])
 obtain rfl := zsome H
 go_wp2
 go_ret
 exact HS.pk
/-! ### laws_szLetterS: function 84 -/
def laws_szLetterS.l0 : Nat → Int → Int → (List S214) → Option (Int)
  | 0, _, _, _ => none
  | k + 1, x12, x13, a0 => (if x13 < (a0.length : Int) then (if 0 ≤ x13 then (if x13 < (a0.length : Int) then ((laws_szLetter.f (rd_T214 a0 x13) x12).bind fun t19 => (if t19 < 0 then (some (-1)) else (laws_szLetterS.l0 k t19 (wrap64 (x13 + 1)) a0))) else none) else none) else (some x12))
def laws_szLetterS.f (k : Nat) (a0 : (List S214)) (a1 : Int) : Option (Int) := (if (wrap64 (a1 - (a0.length : Int))) < 0 then (some (-1)) else (laws_szLetterS.l0 k (wrap64 (a1 - (a0.length : Int))) 0 a0))
set_option maxHeartbeats 16000000 in
theorem laws_szLetterS.calls {k : Nat} {a0 : (List S214)} {a1 : Int} {Ap0 : Option Addr} {np0 cp0 : Nat} {r : Int} {w : World} (h : laws_szLetterS.f k a0 a1 = some r) (gp0 : k214.C w Ap0 np0 a0) (lp0 : np0 ≤ cp0) :
    Calls Tryz.prog 84 #[.slice Ap0 np0 cp0, .int .i64 a1] w (fun e w' => e = .returned (.int .i64 r) ∧ Hp noFP w w' []) := by
 obtain rfl := C_len gp0
 have HS := Hp.start w
 have H := Aside0.mk h
 clear h
 unfold laws_szLetterS.f at H
 go_enter Tryz.func84, Tryz.ntmps84
 replace H := zif H; rcases H with ⟨c1, H⟩ | ⟨c1, H⟩
 case inl =>
  obtain rfl := zsome H
  go_wp2
  go_ret
  exact HS.pk
 go_wp2
 go_loopg [1, 5] k (fun kq v_1 v_5 w' => ∃ (x12 : Int) (x13 : Int), v_1 = .int .i64 x12 ∧ v_5 = .int .i64 x13 ∧ Aside0 (laws_szLetterS.l0 kq x12 x13 a0 = some r) ∧ Aside0 (kq ≤ k) ∧ Hp noFP w w' [])
 case atStart => exact ⟨_, _, rfl, rfl, H, ⟨Nat.le_refl _⟩, HS⟩
 case round =>
  clear HS H; (try clear F)
  obtain ⟨x12, x13, rfl, rfl, H, HKk11, HS⟩ := hrel
  cases gk with
  | zero => exact absurd H.out (by simp [laws_szLetterS.l0])
  | succ k11 =>
   simp only [laws_szLetterS.l0] at H
   replace H := znif H; rcases H with ⟨c15, H⟩ | ⟨c15, H⟩
   case inl =>
    obtain rfl := zsome H
    go_wp2
    go_ret
    exact HS.pk
   replace H := zgo H; obtain ⟨c16, H⟩ := H
   replace H := zgo H; obtain ⟨c17, H⟩ := H
   obtain ⟨ad18, rfl, e18_0, e18_1⟩ := at_T214 gp0 x13 (of_eq_true c16) (of_eq_true c17)
   have e18_0_18 := (HS.keepc e18_0)
   have e18_1_18 := (HS.keepc e18_1)
   replace H := zbind H; obtain ⟨t19, ht19, H⟩ := H
   go_upto_if 25 with (first | ((with_reducible refine gd 23 rfl ?_); refine ev_cl HS (laws_szLetter.calls ht19.out) Tryz.func161 ?_; clear HS; (try clear F); intro wt19 HS F))
   replace H := zif H; rcases H with ⟨c21, H⟩ | ⟨c21, H⟩
   case inl =>
    (try simp only [c21, dcn])
    obtain rfl := zsome H
    go_wp2
    go_ret
    exact HS.pk
   (try simp only [c21, dcn])
   go_wp2
   go_roundg k11
   case measure => have := HKk11.out; omega
   case rel => exact ⟨_, _, rfl, rfl, H, ⟨by have := HKk11.out; omega⟩, HS.pick [] (by decide) (by rfl)⟩
end Go.Proofs.YtacocpknielofaaGreatDoor.F

/- Functions of the program and of the law, and that their calls do what is written here. -/
import Derived.Test.YtacocpknielofaaGreatDoorZT
import Derived.Test.YtacocpknielofaaGreatDoorZQ
namespace Go.Proofs.YtacocpknielofaaGreatDoor.F
open Go.RowKit Go.Proofs.YtacocpknielofaaGreatDoorW.PrintWords Go.Proofs.YtacocpknielofaaGreatDoorW.PrintLast Go.Proofs.YtacocpknielofaaGreatDoorW.PrintMore Go.Proofs.YtacocpknielofaaGreatDoor.Z
attribute [local go_sem] max2_int min2_int max_two min_two max_three min_three max_four min_four
set_option linter.unusedVariables false
set_option linter.unusedSimpArgs false
set_option maxRecDepth 100000
set_option maxHeartbeats 16000000
def laws_szIntS.f (a0 : (List Int)) (a1 : Int) : Option (Int) := (if (wrap64 (a1 - (a0.length : Int))) < 0 then (some (-1)) else (some (wrap64 (a1 - (a0.length : Int)))))
theorem laws_szIntS.calls {a0 : (List Int)} {a1 : Int} {Ap0 : Option Addr} {np0 cp0 : Nat} {r : Int} {w : World} (h : laws_szIntS.f a0 a1 = some r) (gp0 : (Kd.int .i64).C w Ap0 np0 a0) (lp0 : np0 ≤ cp0) :
    Calls Tryz.prog 85 #[.slice Ap0 np0 cp0, .int .i64 a1] w (fun e w' => e = .returned (.int .i64 r) ∧ Hp noFP w w' []) := by
 obtain rfl := C_len gp0
 have HS := Hp.start w
 have H := Aside0.mk h
 clear h
 unfold laws_szIntS.f at H
 go_enter Tryz.func85, Tryz.ntmps85
 replace H := zif H; rcases H with ⟨c1, H⟩ | ⟨c1, H⟩
 case inl =>
  obtain rfl := zsome H
  go_wp2
  go_ret
  exact HS.pk
 obtain rfl := zsome H
 go_wp2
 go_ret
 exact HS.pk
def laws_szStringS.l0 : Nat → Int → Int → (List ByteArray) → Option (Int)
  | 0, _, _, _ => none
  | k + 1, x9, x10, a0 => (if x10 < (a0.length : Int) then (if 0 ≤ x10 then (if x10 < (a0.length : Int) then (if (wrap64 (x9 - ((rdOf ByteArray.empty a0 x10).size : Int))) < 0 then (some (-1)) else (laws_szStringS.l0 k (wrap64 (x9 - ((rdOf ByteArray.empty a0 x10).size : Int))) (wrap64 (x10 + 1)) a0)) else none) else none) else (some x9))
def laws_szStringS.f (k : Nat) (a0 : (List ByteArray)) (a1 : Int) : Option (Int) := (if (wrap64 (a1 - (a0.length : Int))) < 0 then (some (-1)) else (laws_szStringS.l0 k (wrap64 (a1 - (a0.length : Int))) 0 a0))
theorem laws_szStringS.calls {k : Nat} {a0 : (List ByteArray)} {a1 : Int} {Ap0 : Option Addr} {np0 cp0 : Nat} {r : Int} {w : World} (h : laws_szStringS.f k a0 a1 = some r) (gp0 : Kd.string.C w Ap0 np0 a0) (lp0 : np0 ≤ cp0) :
    Calls Tryz.prog 87 #[.slice Ap0 np0 cp0, .int .i64 a1] w (fun e w' => e = .returned (.int .i64 r) ∧ Hp noFP w w' []) := by
 obtain rfl := C_len gp0
 have HS := Hp.start w
 have H := Aside0.mk h
 clear h
 unfold laws_szStringS.f at H
 go_enter Tryz.func87, Tryz.ntmps87
 replace H := zif H; rcases H with ⟨c1, H⟩ | ⟨c1, H⟩
 case inl =>
  obtain rfl := zsome H
  go_wp2
  go_ret
  exact HS.pk
 go_wp2
 go_loopg [1, 5] k (fun kq v_1 v_5 w' => ∃ (x9 : Int) (x10 : Int), v_1 = .int .i64 x9 ∧ v_5 = .int .i64 x10 ∧ Aside0 (laws_szStringS.l0 kq x9 x10 a0 = some r) ∧ Aside0 (kq ≤ k) ∧ Hp noFP w w' [])
 case atStart => exact ⟨_, _, rfl, rfl, H, ⟨Nat.le_refl _⟩, HS⟩
 case round =>
  clear HS H; (try clear F)
  obtain ⟨x9, x10, rfl, rfl, H, HKk8, HS⟩ := hrel
  cases gk with
  | zero => exact absurd H.out (by simp [laws_szStringS.l0])
  | succ k8 =>
   simp only [laws_szStringS.l0] at H
   replace H := znif H; rcases H with ⟨c12, H⟩ | ⟨c12, H⟩
   case inl =>
    obtain rfl := zsome H
    go_wp2
    go_ret
    exact HS.pk
   replace H := zgo H; obtain ⟨c13, H⟩ := H
   replace H := zgo H; obtain ⟨c14, H⟩ := H
   obtain ⟨ad15, rfl, e15_0⟩ := Kd.at_string gp0 x10 (of_eq_true c13) (of_eq_true c14)
   have e15_0_15 := HS.keepc e15_0
   replace H := zif H; rcases H with ⟨c16, H⟩ | ⟨c16, H⟩
   case inl =>
    obtain rfl := zsome H
    go_wp2
    go_ret
    exact HS.pk
   go_wp2
   go_roundg k8
   case measure => have := HKk8.out; omega
   case rel => exact ⟨_, _, rfl, rfl, H, ⟨by have := HKk8.out; omega⟩, HS.pick [] (by decide) (by rfl)⟩
def laws_szCert.f (k : Nat) (a0 : S88) (a1 : Int) : Option (Int) := (if (wrap64 (a1 - (a0.f1.size : Int))) < 0 then (some (-1)) else (if (wrap64 ((wrap64 (a1 - (a0.f1.size : Int))) - (a0.f2.size : Int))) < 0 then (some (-1)) else (if (wrap64 ((wrap64 ((wrap64 (a1 - (a0.f1.size : Int))) - (a0.f2.size : Int))) - (a0.f5.size : Int))) < 0 then (some (-1)) else ((laws_szIntS.f a0.f9 (wrap64 ((wrap64 ((wrap64 (a1 - (a0.f1.size : Int))) - (a0.f2.size : Int))) - (a0.f5.size : Int)))).bind fun t6 => (if t6 < 0 then (some (-1)) else ((laws_szStringS.f k a0.f10 t6).bind fun t9 => (if t9 < 0 then (some (-1)) else ((laws_szStringS.f k a0.f11 t9).bind fun t12 => (if t12 < 0 then (some (-1)) else (if (wrap64 (t12 - (a0.f12.size : Int))) < 0 then (some (-1)) else (some (wrap64 (t12 - (a0.f12.size : Int))))))))))))))
theorem laws_szCert.calls {k : Nat} {a0 : S88} {a1 : Int} {Ap0 Ap1 Ap2 : Option Addr} {np0 cp0 np1 cp1 np2 cp2 : Nat} {r : Int} {w : World} (h : laws_szCert.f k a0 a1 = some r) (gp0 : (Kd.int .i64).C w Ap0 np0 a0.f9) (lp0 : np0 ≤ cp0) (gp1 : Kd.string.C w Ap1 np1 a0.f10) (lp1 : np1 ≤ cp1) (gp2 : Kd.string.C w Ap2 np2 a0.f11) (lp2 : np2 ≤ cp2) :
    Calls Tryz.prog 34 #[.agg #[.int .i64 a0.f0, .string a0.f1, .string a0.f2, .int .i64 a0.f3, .int .i64 a0.f4, .string a0.f5, .bool a0.f6, .int .i64 a0.f7, .int .i64 a0.f8, .slice Ap0 np0 cp0, .slice Ap1 np1 cp1, .slice Ap2 np2 cp2, .string a0.f12], .int .i64 a1] w (fun e w' => e = .returned (.int .i64 r) ∧ Hp noFP w w' []) := by
 obtain rfl := C_len gp0
 obtain rfl := C_len gp1
 obtain rfl := C_len gp2
 have HS := Hp.start w
 have H := Aside0.mk h
 clear h
 unfold laws_szCert.f at H
 go_enter Tryz.func34, Tryz.ntmps34
 go_upto_if 11 with (first | ((with_reducible refine gd 2 rfl ?_); refine ev_bx HS ?_; clear HS; intro g2 w2 HS F))
 replace H := zif H; rcases H with ⟨c3, H⟩ | ⟨c3, H⟩
 case inl =>
  (try simp only [c3, dcn])
  obtain rfl := zsome H
  go_wp2
  go_ret
  exact HS.pk
 (try simp only [c3, dcn])
 replace H := zif H; rcases H with ⟨c4, H⟩ | ⟨c4, H⟩
 case inl =>
  obtain rfl := zsome H
  go_wp2
  go_ret
  exact HS.pk
 replace H := zif H; rcases H with ⟨c5, H⟩ | ⟨c5, H⟩
 case inl =>
  obtain rfl := zsome H
  go_wp2
  go_ret
  exact HS.pk
 replace H := zbind H; obtain ⟨t6, ht6, H⟩ := H
 go_upto_if 31 with (first | ((with_reducible refine gd 29 rfl ?_); refine ev_cl HS (laws_szIntS.calls ht6.out (HS.ro gp0) lp0) Tryz.func85 ?_; clear HS; intro wt6 HS F))
 replace H := zif H; rcases H with ⟨c8, H⟩ | ⟨c8, H⟩
 case inl =>
  (try simp only [c8, dcn])
  obtain rfl := zsome H
  go_wp2
  go_ret
  exact HS.pk
 (try simp only [c8, dcn])
 replace H := zbind H; obtain ⟨t9, ht9, H⟩ := H
 go_upto_if 37 with (first | ((with_reducible refine gd 35 rfl ?_); refine ev_cl HS (laws_szStringS.calls ht9.out (HS.ro gp1) lp1) Tryz.func87 ?_; clear HS; intro wt9 HS F))
 replace H := zif H; rcases H with ⟨c11, H⟩ | ⟨c11, H⟩
 case inl =>
  (try simp only [c11, dcn])
  obtain rfl := zsome H
  go_wp2
  go_ret
  exact HS.pk
 (try simp only [c11, dcn])
 replace H := zbind H; obtain ⟨t12, ht12, H⟩ := H
 go_upto_if 43 with (first | ((with_reducible refine gd 41 rfl ?_); refine ev_cl HS (laws_szStringS.calls ht12.out (HS.ro gp2) lp2) Tryz.func87 ?_; clear HS; intro wt12 HS F))
 replace H := zif H; rcases H with ⟨c14, H⟩ | ⟨c14, H⟩
 case inl =>
  (try simp only [c14, dcn])
  obtain rfl := zsome H
  go_wp2
  go_ret
  exact HS.pk
 (try simp only [c14, dcn])
 replace H := zif H; rcases H with ⟨c15, H⟩ | ⟨c15, H⟩
 case inl =>
  obtain rfl := zsome H
  go_wp2
  go_ret
  exact HS.pk
 obtain rfl := zsome H
 go_wp2
 go_ret
 exact HS.pk
def laws_szCertS.l0 : Nat → Int → Int → (List S88) → Option (Int)
  | 0, _, _, _ => none
  | k + 1, x12, x13, a0 => (if x13 < (a0.length : Int) then (if 0 ≤ x13 then (if x13 < (a0.length : Int) then ((laws_szCert.f k (rd_T88 a0 x13) x12).bind fun t19 => (if t19 < 0 then (some (-1)) else (laws_szCertS.l0 k t19 (wrap64 (x13 + 1)) a0))) else none) else none) else (some x12))
def laws_szCertS.f (k : Nat) (a0 : (List S88)) (a1 : Int) : Option (Int) := (if (wrap64 (a1 - (a0.length : Int))) < 0 then (some (-1)) else (laws_szCertS.l0 k (wrap64 (a1 - (a0.length : Int))) 0 a0))
theorem laws_szCertS.calls {k : Nat} {a0 : (List S88)} {a1 : Int} {Ap0 : Option Addr} {np0 cp0 : Nat} {r : Int} {w : World} (h : laws_szCertS.f k a0 a1 = some r) (gp0 : k88.C w Ap0 np0 a0) (lp0 : np0 ≤ cp0) :
    Calls Tryz.prog 51 #[.slice Ap0 np0 cp0, .int .i64 a1] w (fun e w' => e = .returned (.int .i64 r) ∧ Hp noFP w w' []) := by
 obtain rfl := C_len gp0
 have HS := Hp.start w
 have H := Aside0.mk h
 clear h
 unfold laws_szCertS.f at H
 go_enter Tryz.func51, Tryz.ntmps51
 replace H := zif H; rcases H with ⟨c1, H⟩ | ⟨c1, H⟩
 case inl =>
  obtain rfl := zsome H
  go_wp2
  go_ret
  exact HS.pk
 go_wp2
 go_loopg [1, 5] k (fun kq v_1 v_5 w' => ∃ (x12 : Int) (x13 : Int), v_1 = .int .i64 x12 ∧ v_5 = .int .i64 x13 ∧ Aside0 (laws_szCertS.l0 kq x12 x13 a0 = some r) ∧ Aside0 (kq ≤ k) ∧ Hp noFP w w' [])
 case atStart => exact ⟨_, _, rfl, rfl, H, ⟨Nat.le_refl _⟩, HS⟩
 case round =>
  clear HS H; (try clear F)
  obtain ⟨x12, x13, rfl, rfl, H, HKk11, HS⟩ := hrel
  cases gk with
  | zero => exact absurd H.out (by simp [laws_szCertS.l0])
  | succ k11 =>
   simp only [laws_szCertS.l0] at H
   replace H := znif H; rcases H with ⟨c15, H⟩ | ⟨c15, H⟩
   case inl =>
    obtain rfl := zsome H
    go_wp2
    go_ret
    exact HS.pk
   replace H := zgo H; obtain ⟨c16, H⟩ := H
   replace H := zgo H; obtain ⟨c17, H⟩ := H
   obtain ⟨ad18, B18_9, d18_9, B18_10, d18_10, B18_11, d18_11, rfl, e18_0, e18_1, e18_2, e18_3, e18_4, e18_5, e18_6, e18_7, e18_8, e18_9, e18_10, e18_11, e18_12, m18_9, y18_9, m18_10, y18_10, m18_11, y18_11⟩ := at_T88 gp0 x13 (of_eq_true c16) (of_eq_true c17)
   have e18_0_18 := HS.keepc e18_0
   have e18_1_18 := HS.keepc e18_1
   have e18_2_18 := HS.keepc e18_2
   have e18_3_18 := HS.keepc e18_3
   have e18_4_18 := HS.keepc e18_4
   have e18_5_18 := HS.keepc e18_5
   have e18_6_18 := HS.keepc e18_6
   have e18_7_18 := HS.keepc e18_7
   have e18_8_18 := HS.keepc e18_8
   have e18_9_18 := HS.keepc e18_9
   have e18_10_18 := HS.keepc e18_10
   have e18_11_18 := HS.keepc e18_11
   have e18_12_18 := HS.keepc e18_12
   replace H := zbind H; obtain ⟨t19, ht19, H⟩ := H
   go_upto_if 25 with (first | ((with_reducible refine gd 23 rfl ?_); refine ev_cl HS (laws_szCert.calls ht19.out (HS.ro y18_9) m18_9 (HS.ro y18_10) m18_10 (HS.ro y18_11) m18_11) Tryz.func34 ?_; clear HS; intro wt19 HS F))
   replace H := zif H; rcases H with ⟨c21, H⟩ | ⟨c21, H⟩
   case inl =>
    (try simp only [c21, dcn])
    obtain rfl := zsome H
    go_wp2
    go_ret
    exact HS.pk
   (try simp only [c21, dcn])
   go_wp2
   go_roundg k11
   case measure => have := HKk11.out; omega
   case rel => exact ⟨_, _, rfl, rfl, H, ⟨by have := HKk11.out; omega⟩, HS.pick [] (by decide) (by rfl)⟩
def laws_szRevS.f (a0 : (List S240)) (a1 : Int) : Option (Int) := (if (wrap64 (a1 - (a0.length : Int))) < 0 then (some (-1)) else (some (wrap64 (a1 - (a0.length : Int)))))
theorem laws_szRevS.calls {a0 : (List S240)} {a1 : Int} {Ap0 : Option Addr} {np0 cp0 : Nat} {r : Int} {w : World} (h : laws_szRevS.f a0 a1 = some r) (gp0 : k240.C w Ap0 np0 a0) (lp0 : np0 ≤ cp0) :
    Calls Tryz.prog 104 #[.slice Ap0 np0 cp0, .int .i64 a1] w (fun e w' => e = .returned (.int .i64 r) ∧ Hp noFP w w' []) := by
 obtain rfl := C_len gp0
 have HS := Hp.start w
 have H := Aside0.mk h
 clear h
 unfold laws_szRevS.f at H
 go_enter Tryz.func104, Tryz.ntmps104
 replace H := zif H; rcases H with ⟨c1, H⟩ | ⟨c1, H⟩
 case inl =>
  obtain rfl := zsome H
  go_wp2
  go_ret
  exact HS.pk
 obtain rfl := zsome H
 go_wp2
 go_ret
 exact HS.pk
def laws_szCrl.f (a0 : S75) (a1 : Int) : Option (Int) := (if (wrap64 (a1 - (a0.f0.size : Int))) < 0 then (some (-1)) else ((laws_szRevS.f a0.f5 (wrap64 (a1 - (a0.f0.size : Int)))).bind fun t4 => (if t4 < 0 then (some (-1)) else (if (wrap64 (t4 - (a0.f6.size : Int))) < 0 then (some (-1)) else (some (wrap64 (t4 - (a0.f6.size : Int))))))))
theorem laws_szCrl.calls {a0 : S75} {a1 : Int} {Ap0 : Option Addr} {np0 cp0 : Nat} {r : Int} {w : World} (h : laws_szCrl.f a0 a1 = some r) (gp0 : k240.C w Ap0 np0 a0.f5) (lp0 : np0 ≤ cp0) :
    Calls Tryz.prog 26 #[.agg #[.string a0.f0, .int .i64 a0.f1, .int .i64 a0.f2, .int .i64 a0.f3, .int .i64 a0.f4, .slice Ap0 np0 cp0, .string a0.f6], .int .i64 a1] w (fun e w' => e = .returned (.int .i64 r) ∧ Hp noFP w w' []) := by
 obtain rfl := C_len gp0
 have HS := Hp.start w
 have H := Aside0.mk h
 clear h
 unfold laws_szCrl.f at H
 go_enter Tryz.func26, Tryz.ntmps26
 go_upto_if 11 with (first | ((with_reducible refine gd 2 rfl ?_); refine ev_bx HS ?_; clear HS; intro g2 w2 HS F))
 replace H := zif H; rcases H with ⟨c3, H⟩ | ⟨c3, H⟩
 case inl =>
  (try simp only [c3, dcn])
  obtain rfl := zsome H
  go_wp2
  go_ret
  exact HS.pk
 (try simp only [c3, dcn])
 replace H := zbind H; obtain ⟨t4, ht4, H⟩ := H
 go_upto_if 17 with (first | ((with_reducible refine gd 15 rfl ?_); refine ev_cl HS (laws_szRevS.calls ht4.out (HS.ro gp0) lp0) Tryz.func104 ?_; clear HS; intro wt4 HS F))
 replace H := zif H; rcases H with ⟨c6, H⟩ | ⟨c6, H⟩
 case inl =>
  (try simp only [c6, dcn])
  obtain rfl := zsome H
  go_wp2
  go_ret
  exact HS.pk
 (try simp only [c6, dcn])
 replace H := zif H; rcases H with ⟨c7, H⟩ | ⟨c7, H⟩
 case inl =>
  obtain rfl := zsome H
  go_wp2
  go_ret
  exact HS.pk
 obtain rfl := zsome H
 go_wp2
 go_ret
 exact HS.pk
def laws_szCrlS.l0 : Nat → Int → Int → (List S75) → Option (Int)
  | 0, _, _, _ => none
  | k + 1, x12, x13, a0 => (if x13 < (a0.length : Int) then (if 0 ≤ x13 then (if x13 < (a0.length : Int) then ((laws_szCrl.f (rd_T75 a0 x13) x12).bind fun t19 => (if t19 < 0 then (some (-1)) else (laws_szCrlS.l0 k t19 (wrap64 (x13 + 1)) a0))) else none) else none) else (some x12))
def laws_szCrlS.f (k : Nat) (a0 : (List S75)) (a1 : Int) : Option (Int) := (if (wrap64 (a1 - (a0.length : Int))) < 0 then (some (-1)) else (laws_szCrlS.l0 k (wrap64 (a1 - (a0.length : Int))) 0 a0))
theorem laws_szCrlS.calls {k : Nat} {a0 : (List S75)} {a1 : Int} {Ap0 : Option Addr} {np0 cp0 : Nat} {r : Int} {w : World} (h : laws_szCrlS.f k a0 a1 = some r) (gp0 : k75.C w Ap0 np0 a0) (lp0 : np0 ≤ cp0) :
    Calls Tryz.prog 52 #[.slice Ap0 np0 cp0, .int .i64 a1] w (fun e w' => e = .returned (.int .i64 r) ∧ Hp noFP w w' []) := by
 obtain rfl := C_len gp0
 have HS := Hp.start w
 have H := Aside0.mk h
 clear h
 unfold laws_szCrlS.f at H
 go_enter Tryz.func52, Tryz.ntmps52
 replace H := zif H; rcases H with ⟨c1, H⟩ | ⟨c1, H⟩
 case inl =>
  obtain rfl := zsome H
  go_wp2
  go_ret
  exact HS.pk
 go_wp2
 go_loopg [1, 5] k (fun kq v_1 v_5 w' => ∃ (x12 : Int) (x13 : Int), v_1 = .int .i64 x12 ∧ v_5 = .int .i64 x13 ∧ Aside0 (laws_szCrlS.l0 kq x12 x13 a0 = some r) ∧ Aside0 (kq ≤ k) ∧ Hp noFP w w' [])
 case atStart => exact ⟨_, _, rfl, rfl, H, ⟨Nat.le_refl _⟩, HS⟩
 case round =>
  clear HS H; (try clear F)
  obtain ⟨x12, x13, rfl, rfl, H, HKk11, HS⟩ := hrel
  cases gk with
  | zero => exact absurd H.out (by simp [laws_szCrlS.l0])
  | succ k11 =>
   simp only [laws_szCrlS.l0] at H
   replace H := znif H; rcases H with ⟨c15, H⟩ | ⟨c15, H⟩
   case inl =>
    obtain rfl := zsome H
    go_wp2
    go_ret
    exact HS.pk
   replace H := zgo H; obtain ⟨c16, H⟩ := H
   replace H := zgo H; obtain ⟨c17, H⟩ := H
   obtain ⟨ad18, B18_5, d18_5, rfl, e18_0, e18_1, e18_2, e18_3, e18_4, e18_5, e18_6, m18_5, y18_5⟩ := at_T75 gp0 x13 (of_eq_true c16) (of_eq_true c17)
   have e18_0_18 := HS.keepc e18_0
   have e18_1_18 := HS.keepc e18_1
   have e18_2_18 := HS.keepc e18_2
   have e18_3_18 := HS.keepc e18_3
   have e18_4_18 := HS.keepc e18_4
   have e18_5_18 := HS.keepc e18_5
   have e18_6_18 := HS.keepc e18_6
   replace H := zbind H; obtain ⟨t19, ht19, H⟩ := H
   go_upto_if 25 with (first | ((with_reducible refine gd 23 rfl ?_); refine ev_cl HS (laws_szCrl.calls ht19.out (HS.ro y18_5) m18_5) Tryz.func26 ?_; clear HS; intro wt19 HS F))
   replace H := zif H; rcases H with ⟨c21, H⟩ | ⟨c21, H⟩
   case inl =>
    (try simp only [c21, dcn])
    obtain rfl := zsome H
    go_wp2
    go_ret
    exact HS.pk
   (try simp only [c21, dcn])
   go_wp2
   go_roundg k11
   case measure => have := HKk11.out; omega
   case rel => exact ⟨_, _, rfl, rfl, H, ⟨by have := HKk11.out; omega⟩, HS.pick [] (by decide) (by rfl)⟩
def laws_szAnchor.f (a0 : S178) (a1 : Int) : Option (Int) := (if (wrap64 (a1 - (a0.f0.size : Int))) < 0 then (some (-1)) else (if (wrap64 ((wrap64 (a1 - (a0.f0.size : Int))) - (a0.f1.size : Int))) < 0 then (some (-1)) else (some (wrap64 ((wrap64 (a1 - (a0.f0.size : Int))) - (a0.f1.size : Int))))))
theorem laws_szAnchor.calls {a0 : S178} {a1 : Int} {r : Int} {w : World} (h : laws_szAnchor.f a0 a1 = some r) :
    Calls Tryz.prog 133 #[.agg #[.string a0.f0, .string a0.f1], .int .i64 a1] w (fun e w' => e = .returned (.int .i64 r) ∧ Hp noFP w w' []) := by
 have HS := Hp.start w
 have H := Aside0.mk h
 clear h
 unfold laws_szAnchor.f at H
 go_enter Tryz.func133, Tryz.ntmps133
 go_upto_if 11 with (first | ((with_reducible refine gd 2 rfl ?_); refine ev_bx HS ?_; clear HS; intro g2 w2 HS F))
 replace H := zif H; rcases H with ⟨c3, H⟩ | ⟨c3, H⟩
 case inl =>
  (try simp only [c3, dcn])
  obtain rfl := zsome H
  go_wp2
  go_ret
  exact HS.pk
 (try simp only [c3, dcn])
 replace H := zif H; rcases H with ⟨c4, H⟩ | ⟨c4, H⟩
 case inl =>
  obtain rfl := zsome H
  go_wp2
  go_ret
  exact HS.pk
 obtain rfl := zsome H
 go_wp2
 go_ret
 exact HS.pk
def laws_szAnchorS.l0 : Nat → Int → Int → (List S178) → Option (Int)
  | 0, _, _, _ => none
  | k + 1, x12, x13, a0 => (if x13 < (a0.length : Int) then (if 0 ≤ x13 then (if x13 < (a0.length : Int) then ((laws_szAnchor.f (rd_T178 a0 x13) x12).bind fun t19 => (if t19 < 0 then (some (-1)) else (laws_szAnchorS.l0 k t19 (wrap64 (x13 + 1)) a0))) else none) else none) else (some x12))
def laws_szAnchorS.f (k : Nat) (a0 : (List S178)) (a1 : Int) : Option (Int) := (if (wrap64 (a1 - (a0.length : Int))) < 0 then (some (-1)) else (laws_szAnchorS.l0 k (wrap64 (a1 - (a0.length : Int))) 0 a0))
theorem laws_szAnchorS.calls {k : Nat} {a0 : (List S178)} {a1 : Int} {Ap0 : Option Addr} {np0 cp0 : Nat} {r : Int} {w : World} (h : laws_szAnchorS.f k a0 a1 = some r) (gp0 : k178.C w Ap0 np0 a0) (lp0 : np0 ≤ cp0) :
    Calls Tryz.prog 53 #[.slice Ap0 np0 cp0, .int .i64 a1] w (fun e w' => e = .returned (.int .i64 r) ∧ Hp noFP w w' []) := by
 obtain rfl := C_len gp0
 have HS := Hp.start w
 have H := Aside0.mk h
 clear h
 unfold laws_szAnchorS.f at H
 go_enter Tryz.func53, Tryz.ntmps53
 replace H := zif H; rcases H with ⟨c1, H⟩ | ⟨c1, H⟩
 case inl =>
  obtain rfl := zsome H
  go_wp2
  go_ret
  exact HS.pk
 go_wp2
 go_loopg [1, 5] k (fun kq v_1 v_5 w' => ∃ (x12 : Int) (x13 : Int), v_1 = .int .i64 x12 ∧ v_5 = .int .i64 x13 ∧ Aside0 (laws_szAnchorS.l0 kq x12 x13 a0 = some r) ∧ Aside0 (kq ≤ k) ∧ Hp noFP w w' [])
 case atStart => exact ⟨_, _, rfl, rfl, H, ⟨Nat.le_refl _⟩, HS⟩
 case round =>
  clear HS H; (try clear F)
  obtain ⟨x12, x13, rfl, rfl, H, HKk11, HS⟩ := hrel
  cases gk with
  | zero => exact absurd H.out (by simp [laws_szAnchorS.l0])
  | succ k11 =>
   simp only [laws_szAnchorS.l0] at H
   replace H := znif H; rcases H with ⟨c15, H⟩ | ⟨c15, H⟩
   case inl =>
    obtain rfl := zsome H
    go_wp2
    go_ret
    exact HS.pk
   replace H := zgo H; obtain ⟨c16, H⟩ := H
   replace H := zgo H; obtain ⟨c17, H⟩ := H
   obtain ⟨ad18, rfl, e18_0, e18_1⟩ := at_T178 gp0 x13 (of_eq_true c16) (of_eq_true c17)
   have e18_0_18 := HS.keepc e18_0
   have e18_1_18 := HS.keepc e18_1
   replace H := zbind H; obtain ⟨t19, ht19, H⟩ := H
   go_upto_if 25 with (first | ((with_reducible refine gd 23 rfl ?_); refine ev_cl HS (laws_szAnchor.calls ht19.out) Tryz.func133 ?_; clear HS; intro wt19 HS F))
   replace H := zif H; rcases H with ⟨c21, H⟩ | ⟨c21, H⟩
   case inl =>
    (try simp only [c21, dcn])
    obtain rfl := zsome H
    go_wp2
    go_ret
    exact HS.pk
   (try simp only [c21, dcn])
   go_wp2
   go_roundg k11
   case measure => have := HKk11.out; omega
   case rel => exact ⟨_, _, rfl, rfl, H, ⟨by have := HKk11.out; omega⟩, HS.pick [] (by decide) (by rfl)⟩
def laws_szStore.f (k : Nat) (a0 : S26) (a1 : Int) : Option (Int) := ((laws_szCertS.f k a0.f0 a1).bind fun t3 => (if t3 < 0 then (some (-1)) else ((laws_szCrlS.f k a0.f1 t3).bind fun t6 => (if t6 < 0 then (some (-1)) else ((laws_szAnchorS.f k a0.f2 t6).bind fun t9 => (if t9 < 0 then (some (-1)) else (some t9)))))))
theorem laws_szStore.calls {k : Nat} {a0 : S26} {a1 : Int} {Ap0 Ap1 Ap2 : Option Addr} {np0 cp0 np1 cp1 np2 cp2 : Nat} {r : Int} {w : World} (h : laws_szStore.f k a0 a1 = some r) (gp0 : k88.C w Ap0 np0 a0.f0) (lp0 : np0 ≤ cp0) (gp1 : k75.C w Ap1 np1 a0.f1) (lp1 : np1 ≤ cp1) (gp2 : k178.C w Ap2 np2 a0.f2) (lp2 : np2 ≤ cp2) :
    Calls Tryz.prog 11 #[.agg #[.slice Ap0 np0 cp0, .slice Ap1 np1 cp1, .slice Ap2 np2 cp2], .int .i64 a1] w (fun e w' => e = .returned (.int .i64 r) ∧ Hp noFP w w' []) := by
 obtain rfl := C_len gp0
 obtain rfl := C_len gp1
 obtain rfl := C_len gp2
 have HS := Hp.start w
 have H := Aside0.mk h
 clear h
 unfold laws_szStore.f at H
 go_enter Tryz.func11, Tryz.ntmps11
 replace H := zbind H; obtain ⟨t3, ht3, H⟩ := H
 go_upto_if 10 with (first | ((with_reducible refine gd 2 rfl ?_); refine ev_bx HS ?_; clear HS; intro g2 w2 HS F) | ((with_reducible refine gd 8 rfl ?_); refine ev_cl HS (laws_szCertS.calls ht3.out (HS.ro gp0) lp0) Tryz.func51 ?_; clear HS; intro wt3 HS F))
 replace H := zif H; rcases H with ⟨c5, H⟩ | ⟨c5, H⟩
 case inl =>
  (try simp only [c5, dcn])
  obtain rfl := zsome H
  go_wp2
  go_ret
  exact HS.pk
 (try simp only [c5, dcn])
 replace H := zbind H; obtain ⟨t6, ht6, H⟩ := H
 go_upto_if 16 with (first | ((with_reducible refine gd 14 rfl ?_); refine ev_cl HS (laws_szCrlS.calls ht6.out (HS.ro gp1) lp1) Tryz.func52 ?_; clear HS; intro wt6 HS F))
 replace H := zif H; rcases H with ⟨c8, H⟩ | ⟨c8, H⟩
 case inl =>
  (try simp only [c8, dcn])
  obtain rfl := zsome H
  go_wp2
  go_ret
  exact HS.pk
 (try simp only [c8, dcn])
 replace H := zbind H; obtain ⟨t9, ht9, H⟩ := H
 go_upto_if 22 with (first | ((with_reducible refine gd 20 rfl ?_); refine ev_cl HS (laws_szAnchorS.calls ht9.out (HS.ro gp2) lp2) Tryz.func53 ?_; clear HS; intro wt9 HS F))
 replace H := zif H; rcases H with ⟨c11, H⟩ | ⟨c11, H⟩
 case inl =>
  (try simp only [c11, dcn])
  obtain rfl := zsome H
  go_wp2
  go_ret
  exact HS.pk
 (try simp only [c11, dcn])
 obtain rfl := zsome H
 go_wp2
 go_ret
 exact HS.pk
def spec_l01In.f (a0 : Int) (a1 : Int) (a2 : Int) : Option (Bool) := (if a1 ≤ a0 then (some (decide (a0 ≤ a2))) else (some false))
theorem spec_l01In.calls {a0 : Int} {a1 : Int} {a2 : Int} {r : Bool} {w : World} (h : spec_l01In.f a0 a1 a2 = some r) :
    Calls Tryz.prog 74 #[.int .i64 a0, .int .i64 a1, .int .i64 a2] w (fun e w' => e = .returned (.bool r) ∧ Hp noFP w w' []) := by
 have HS := Hp.start w
 have H := Aside0.mk h
 clear h
 unfold spec_l01In.f at H
 go_enter Tryz.func74, Tryz.ntmps74
 replace H := zif H; rcases H with ⟨c1, H⟩ | ⟨c1, H⟩
 case inl =>
  obtain rfl := zsome H
  go_wp2
  go_ret
  exact HS.pk
 obtain rfl := zsome H
 go_wp2
 go_ret
 exact HS.pk
def spec_NameOk.l0 : Nat → Int → Int → ByteArray → Option (Bool)
  | 0, _, _, _ => none
  | k + 1, x14, x15, a0 => (if x15 < (a0.size : Int) then (if 0 ≤ x15 then (if x15 < (a0.size : Int) then (if 97 ≤ (bt a0 x15) then (if (bt a0 x15) ≤ 122 then (spec_NameOk.l0 k (wrap64 (x14 + 1)) (wrap64 (x15 + 1)) a0) else (if (bt a0 x15) = 46 then (if 0 < x14 then (spec_NameOk.l0 k 0 (wrap64 (x15 + 1)) a0) else (some false)) else (some false))) else (if (bt a0 x15) = 46 then (if 0 < x14 then (spec_NameOk.l0 k 0 (wrap64 (x15 + 1)) a0) else (some false)) else (some false))) else none) else none) else ((spec_l01In.f (a0.size : Int) 1 20).bind fun t30 => (if t30 = true then (some (decide (0 < x14))) else (some false))))
def spec_NameOk.f (k : Nat) (a0 : ByteArray) : Option (Bool) := (spec_NameOk.l0 k 0 0 a0)
theorem spec_NameOk.calls {k : Nat} {a0 : ByteArray} {r : Bool} {w : World} (h : spec_NameOk.f k a0 = some r) :
    Calls Tryz.prog 139 #[.string a0] w (fun e w' => e = .returned (.bool r) ∧ Hp noFP w w' []) := by
 have HS := Hp.start w
 have H := Aside0.mk h
 clear h
 unfold spec_NameOk.f at H
 go_enter Tryz.func139, Tryz.ntmps139
 go_wp2
 go_loopg [3, 4] k (fun kq v_3 v_4 w' => ∃ (x14 : Int) (x15 : Int), v_3 = .int .i64 x14 ∧ v_4 = .int .i64 x15 ∧ Aside0 (spec_NameOk.l0 kq x14 x15 a0 = some r) ∧ Aside0 (kq ≤ k) ∧ Hp noFP w w' [])
 case atStart => exact ⟨_, _, rfl, rfl, H, ⟨Nat.le_refl _⟩, HS⟩
 case round =>
  clear HS H; (try clear F)
  obtain ⟨x14, x15, rfl, rfl, H, HKk13, HS⟩ := hrel
  cases gk with
  | zero => exact absurd H.out (by simp [spec_NameOk.l0])
  | succ k13 =>
   simp only [spec_NameOk.l0] at H
   replace H := znif H; rcases H with ⟨c17, H⟩ | ⟨c17, H⟩
   case inl =>
    replace H := zbind H; obtain ⟨t30, ht30, H⟩ := H
    replace H := zifb H; rcases H with ⟨c32, H⟩ | ⟨c32, H⟩
    case inl =>
     subst c32
     obtain rfl := zsome H
     go_wp2_with (first | ((with_reducible refine gd 35 rfl ?_); refine ev_cl HS (spec_l01In.calls ht30.out) Tryz.func74 ?_; clear HS; intro wt30 HS F))
     go_ret
     exact HS.pk
    subst c32
    obtain rfl := zsome H
    go_wp2_with (first | ((with_reducible refine gd 35 rfl ?_); refine ev_cl HS (spec_l01In.calls ht30.out) Tryz.func74 ?_; clear HS; intro wt30 HS F))
    go_ret
    exact HS.pk
   replace H := zgo H; obtain ⟨c18, H⟩ := H
   replace H := zgo H; obtain ⟨c19, H⟩ := H
   have hx20 := bt_at a0 x15
   replace H := znif H; rcases H with ⟨c21, H⟩ | ⟨c21, H⟩
   case inl =>
    have hx27 := bt_at a0 x15
    replace H := znif' H; rcases H with ⟨c28, H⟩ | ⟨c28, H⟩
    case inl =>
     have c28a := beq_eq_false_iff_ne.mpr c28
     have c28b := bne_iff_ne.mpr c28
     clear c28
     obtain rfl := zsome H
     go_wp2
     go_ret
     exact HS.pk
    have c28a := beq_iff_eq.mpr c28
    have c28b := bne_eq_false_iff_eq.mpr c28
    clear c28
    replace H := znif H; rcases H with ⟨c29, H⟩ | ⟨c29, H⟩
    case inl =>
     obtain rfl := zsome H
     go_wp2
     go_ret
     exact HS.pk
    go_wp2
    go_roundg k13
    case measure => have := HKk13.out; omega
    case rel => exact ⟨_, _, rfl, rfl, H, ⟨by have := HKk13.out; omega⟩, HS.pick [] (by decide) (by rfl)⟩
   have hx22 := bt_at a0 x15
   replace H := zif H; rcases H with ⟨c23, H⟩ | ⟨c23, H⟩
   case inl =>
    go_wp2
    go_roundg k13
    case measure => have := HKk13.out; omega
    case rel => exact ⟨_, _, rfl, rfl, H, ⟨by have := HKk13.out; omega⟩, HS.pick [] (by decide) (by rfl)⟩
   have hx24 := bt_at a0 x15
   replace H := znif' H; rcases H with ⟨c25, H⟩ | ⟨c25, H⟩
   case inl =>
    have c25a := beq_eq_false_iff_ne.mpr c25
    have c25b := bne_iff_ne.mpr c25
    clear c25
    obtain rfl := zsome H
    go_wp2
    go_ret
    exact HS.pk
   have c25a := beq_iff_eq.mpr c25
   have c25b := bne_eq_false_iff_eq.mpr c25
   clear c25
   replace H := znif H; rcases H with ⟨c26, H⟩ | ⟨c26, H⟩
   case inl =>
    obtain rfl := zsome H
    go_wp2
    go_ret
    exact HS.pk
   go_wp2
   go_roundg k13
   case measure => have := HKk13.out; omega
   case rel => exact ⟨_, _, rfl, rfl, H, ⟨by have := HKk13.out; omega⟩, HS.pick [] (by decide) (by rfl)⟩
def spec_PoliciesOk.l0 : Nat → Int → (List Int) → Option (Bool)
  | 0, _, _ => none
  | k + 1, x4, a0 => (if x4 < (a0.length : Int) then (if 0 ≤ x4 then (if x4 < (a0.length : Int) then ((spec_l01In.f (rd a0 x4) 0 99).bind fun t12 => (if t12 = true then (if 0 < x4 then (if 0 ≤ (wrap64 (x4 - 1)) then (if (wrap64 (x4 - 1)) < (a0.length : Int) then (if (rd a0 x4) ≤ (rd a0 (wrap64 (x4 - 1))) then (some false) else (spec_PoliciesOk.l0 k (wrap64 (x4 + 1)) a0)) else none) else none) else (spec_PoliciesOk.l0 k (wrap64 (x4 + 1)) a0)) else (some false))) else none) else none) else (some (decide ((a0.length : Int) ≤ 4))))
def spec_PoliciesOk.f (k : Nat) (a0 : (List Int)) : Option (Bool) := (spec_PoliciesOk.l0 k 0 a0)
def spec_PoliciesOk.T4 : TT := (true, [([], []), ([], []), ([0, 1], [0, 1]), ([2], [2]), ([3], [3]), ([4], [4]), ([5, 4], [5]), ([6], [6]), ([7, 6], [6, 7]), ([8, 6, 6], [6, 8]), ([9], [9]), ([9], [9]), ([11, 9], [9, 11]), ([10, 12, 9], [9, 10, 12]), ([13, 9], [9, 13]), ([9], [9]), ([9], [9]), ([15, 16, 9], [9, 15, 16]), ([17, 9], [9, 17]), ([14, 18, 9], [9, 14, 18]), ([9, 19, 6], [6, 9, 19]), ([6, 20], [6, 20])])
theorem spec_PoliciesOk.tT4 : rtab .any (opsOf Tryz.f184 4) = spec_PoliciesOk.T4 := by kernel_rfl
theorem spec_PoliciesOk.calls {k : Nat} {a0 : (List Int)} {Ap0 : Option Addr} {np0 cp0 : Nat} {r : Bool} {w : World} (h : spec_PoliciesOk.f k a0 = some r) (gp0 : (Kd.int .i64).C w Ap0 np0 a0) (lp0 : np0 ≤ cp0) :
    Calls Tryz.prog 184 #[.slice Ap0 np0 cp0] w (fun e w' => e = .returned (.bool r) ∧ Hp noFP w w' []) := by
 obtain rfl := C_len gp0
 have HS := Hp.start w
 have H := Aside0.mk h
 clear h
 unfold spec_PoliciesOk.f at H
 go_enter Tryz.func184, Tryz.ntmps184
 go_wp2
 go_loopg [3] k (fun kq v_3 w' => ∃ (x4 : Int), v_3 = .int .i64 x4 ∧ Aside0 (spec_PoliciesOk.l0 kq x4 a0 = some r) ∧ Aside0 (kq ≤ k) ∧ Hp noFP w w' [])
 case atStart => exact ⟨_, rfl, H, ⟨Nat.le_refl _⟩, HS⟩
 case round =>
  clear HS H; (try clear F)
  obtain ⟨x4, rfl, H, HKk3, HS⟩ := hrel
  cases gk with
  | zero => exact absurd H.out (by simp [spec_PoliciesOk.l0])
  | succ k3 =>
   simp only [spec_PoliciesOk.l0] at H
   replace H := znif H; rcases H with ⟨c6, H⟩ | ⟨c6, H⟩
   case inl =>
    obtain rfl := zsome H
    go_wp2
    go_ret
    exact HS.pk
   (try go_wp2)
   replace H := zgo H; obtain ⟨c5, H⟩ := H
   replace H := zgo H; obtain ⟨c7, H⟩ := H
   obtain ⟨ad9, rfl, e9_0⟩ := Kd.at_int gp0 x4 (of_eq_true c5) (of_eq_true c7)
   replace H := zbind H; obtain ⟨t12, ht12, H⟩ := H
   replace H := znifb H; rcases H with ⟨c14, H⟩ | ⟨c14, H⟩
   case inl =>
    subst c14
    refine dr_start [] HS #[false, false, false, false, false, false, false, false, false, false, false, false, false, false, false, false, false, false, false, false, false, false] (by kernel_rfl) rfl rfl spec_PoliciesOk.tT4 (fun w13 HT HS HH => ?_)
    (try clear F)
    refine drq_of [(0, some 10), (1, some 11), (2, some 12)] ?_
    repeat (refine drp HT ?_)
    refine drq_end ?_
    refine dr_take 3 (some 13) HT HH (v := ?_) (a' := ?_) rfl rfl (by kernel_rfl) (fun _ _ _ h => h) (.inl ⟨by rfl, ?_⟩) ?_ ?_
    rotate_left
    · rintro w' ⟨rs', HS'⟩; have e9_0 := HS'.keepc e9_0; go_simp; with_reducible rfl
    rotate_left
    · simp only [Act.put, ptn]; rfl
    refine dr1 4 HT fun K hK => ?_
    refine go_cl HS (spec_l01In.calls ht12.out) Tryz.func74 ?_; clear HS; intro wt12 HS F
    refine nrm 14 hK ⟨_, HS⟩ (fun HH => ?_); clear hK K
    refine drq_of [(5, some 15), (6, some 16), (7, some 17), (8, some 18), (9, some 19), (10, some 20), (11, some 21), (12, some 22), (13, some 23), (14, some 24), (15, some 25), (16, some 26), (17, some 27), (18, some 28), (19, some 29), (20, some 30), (21, some 31)] ?_
    repeat (first | (refine drq_pure HT (v := ?_) (a' := ?_) rfl rfl (by kernel_rfl) (fun _ _ _ h => h) (.inl ⟨by rfl, ?_⟩) ?_ ?_; rotate_left; (intro w'; go_simp; with_reducible rfl); rotate_left; (simp only [Act.put, ptn]; rfl)) | (refine drq_pure HT (v := undef) (a' := ?_) rfl rfl (by kernel_rfl) (fun _ _ _ h => h) (.inr ⟨by rfl, rfl⟩) ?_ ?_; rotate_left; (simp only [Act.put, ptn]; rfl)))
    refine drq_end ?_
    refine done_ (done_of HT.out (by kernel_rfl)) ?_
    obtain rfl := zsome H
    go_wp2
    go_ret
    exact HS.pk
   subst c14
   replace H := znif H; rcases H with ⟨c15, H⟩ | ⟨c15, H⟩
   case inl =>
    refine dr_start [] HS #[false, false, false, false, false, false, false, false, false, false, false, false, false, false, false, false, false, false, false, false, false, false] (by kernel_rfl) rfl rfl spec_PoliciesOk.tT4 (fun w11 HT HS HH => ?_)
    (try clear F)
    refine drq_of [(0, some 10), (1, some 11), (2, some 12)] ?_
    repeat (refine drp HT ?_)
    refine drq_end ?_
    refine dr_take 3 (some 13) HT HH (v := ?_) (a' := ?_) rfl rfl (by kernel_rfl) (fun _ _ _ h => h) (.inl ⟨by rfl, ?_⟩) ?_ ?_
    rotate_left
    · rintro w' ⟨rs', HS'⟩; have e9_0 := HS'.keepc e9_0; go_simp; with_reducible rfl
    rotate_left
    · simp only [Act.put, ptn]; rfl
    refine dr1 4 HT fun K hK => ?_
    refine go_cl HS (spec_l01In.calls ht12.out) Tryz.func74 ?_; clear HS; intro wt12 HS F
    refine nrm 14 hK ⟨_, HS⟩ (fun HH => ?_); clear hK K
    refine drq_of [(5, some 15), (6, some 16), (7, some 17), (8, some 18), (9, some 19), (10, some 20), (11, some 21), (12, some 22), (13, some 23), (14, some 24), (15, some 25), (16, some 26), (17, some 27), (18, some 28), (19, some 29), (20, some 30), (21, some 31)] ?_
    repeat (first | (refine drq_pure HT (v := ?_) (a' := ?_) rfl rfl (by kernel_rfl) (fun _ _ _ h => h) (.inl ⟨by rfl, ?_⟩) ?_ ?_; rotate_left; (intro w'; go_simp; with_reducible rfl); rotate_left; (simp only [Act.put, ptn]; rfl)) | (refine drq_pure HT (v := undef) (a' := ?_) rfl rfl (by kernel_rfl) (fun _ _ _ h => h) (.inr ⟨by rfl, rfl⟩) ?_ ?_; rotate_left; (simp only [Act.put, ptn]; rfl)))
    refine drq_end ?_
    refine done_ (done_of HT.out (by kernel_rfl)) ?_
    go_wp2
    go_roundg k3
    case measure => have := HKk3.out; omega
    case rel => exact ⟨_, rfl, H, ⟨by have := HKk3.out; omega⟩, HS.pick [] (by decide) (by rfl)⟩
   replace H := zgo H; obtain ⟨c16, H⟩ := H
   replace H := zgo H; obtain ⟨c17, H⟩ := H
   obtain ⟨ad18, hq18, e18_0⟩ := Kd.at_int gp0 (wrap64 (x4 - 1)) (of_eq_true c16) (of_eq_true c17); obtain rfl := Option.some.inj hq18
   refine dr_start [] HS #[false, false, false, false, false, false, false, false, false, false, false, false, false, false, false, false, false, false, false, false, false, false] (by kernel_rfl) rfl rfl spec_PoliciesOk.tT4 (fun w8 HT HS HH => ?_)
   (try clear F)
   refine drq_of [(0, some 10), (1, some 11), (2, some 12)] ?_
   repeat (refine drp HT ?_)
   refine drq_end ?_
   refine dr_take 3 (some 13) HT HH (v := ?_) (a' := ?_) rfl rfl (by kernel_rfl) (fun _ _ _ h => h) (.inl ⟨by rfl, ?_⟩) ?_ ?_
   rotate_left
   · rintro w' ⟨rs', HS'⟩; have e9_0 := HS'.keepc e9_0; go_simp; with_reducible rfl
   rotate_left
   · simp only [Act.put, ptn]; rfl
   refine dr1 4 HT fun K hK => ?_
   refine go_cl HS (spec_l01In.calls ht12.out) Tryz.func74 ?_; clear HS; intro wt12 HS F
   refine nrm 14 hK ⟨_, HS⟩ (fun HH => ?_); clear hK K
   refine drq_of [(5, some 15), (6, some 16), (7, some 17), (8, some 18), (9, some 19), (10, some 20), (11, some 21), (12, some 22), (13, some 23)] ?_
   repeat (refine drp HT ?_)
   refine drq_end ?_
   refine dr_take 14 (some 24) HT HH (v := ?_) (a' := ?_) rfl rfl (by kernel_rfl) (fun _ _ _ h => h) (.inl ⟨by rfl, ?_⟩) ?_ ?_
   rotate_left
   · rintro w' ⟨rs', HS'⟩; have e18_0 := HS'.keepc e18_0; go_simp; with_reducible rfl
   rotate_left
   · simp only [Act.put, ptn]; rfl
   refine drq_of [(15, some 25), (16, some 26), (17, some 27)] ?_
   repeat (refine drp HT ?_)
   refine drq_end ?_
   refine dr_take 18 (some 28) HT HH (v := ?_) (a' := ?_) rfl rfl (by kernel_rfl) (fun _ _ _ h => h) (.inl ⟨by rfl, ?_⟩) ?_ ?_
   rotate_left
   · rintro w' ⟨rs', HS'⟩; have e9_0 := HS'.keepc e9_0; go_simp; with_reducible rfl
   rotate_left
   · simp only [Act.put, ptn]; rfl
   refine drq_of [(19, some 29), (20, some 30), (21, some 31)] ?_
   repeat (refine drp HT ?_)
   refine drq_end ?_
   refine done_ (done_of HT.out (by kernel_rfl)) ?_
   replace H := zif H; rcases H with ⟨c10, H⟩ | ⟨c10, H⟩
   case inl =>
    (try simp only [c10, dcn])
    obtain rfl := zsome H
    go_wp2
    go_ret
    exact HS.pk
   (try simp only [c10, dcn])
   go_wp2
   go_roundg k3
   case measure => have := HKk3.out; omega
   case rel => exact ⟨_, rfl, H, ⟨by have := HKk3.out; omega⟩, HS.pick [] (by decide) (by rfl)⟩
def spec_NamesOk.l0 : Nat → Int → (List ByteArray) → Option (Bool)
  | 0, _, _ => none
  | k + 1, x4, a0 => (if x4 < (a0.length : Int) then (if 0 ≤ x4 then (if x4 < (a0.length : Int) then ((spec_NameOk.f k (rdOf ByteArray.empty a0 x4)).bind fun t12 => (if t12 = true then (if 0 < x4 then (if 0 ≤ (wrap64 (x4 - 1)) then (if (wrap64 (x4 - 1)) < (a0.length : Int) then (if (Op.bytesLess ((rdOf ByteArray.empty a0 (wrap64 (x4 - 1))).toList) ((rdOf ByteArray.empty a0 x4).toList)) = true then (spec_NamesOk.l0 k (wrap64 (x4 + 1)) a0) else (some false)) else none) else none) else (spec_NamesOk.l0 k (wrap64 (x4 + 1)) a0)) else (some false))) else none) else none) else (some (decide ((a0.length : Int) ≤ 4))))
def spec_NamesOk.f (k : Nat) (a0 : (List ByteArray)) : Option (Bool) := (spec_NamesOk.l0 k 0 a0)
def spec_NamesOk.T4 : TT := (true, [([], []), ([], []), ([0, 1], [0, 1]), ([2], [2]), ([3], [3]), ([4], [4]), ([5, 4], [5]), ([6], [6]), ([7, 6], [6, 7]), ([8, 6, 6], [6, 8]), ([9], [9]), ([9], [9]), ([11, 9], [9, 11]), ([10, 12, 9], [9, 10, 12]), ([13, 9], [9, 13]), ([9], [9]), ([9], [9]), ([15, 16, 9], [9, 15, 16]), ([17, 9], [9, 17]), ([14, 18, 9], [9, 14, 18]), ([9, 19, 6], [6, 9, 19]), ([6, 20], [6, 20])])
theorem spec_NamesOk.tT4 : rtab .any (opsOf Tryz.f185 4) = spec_NamesOk.T4 := by kernel_rfl
theorem spec_NamesOk.calls {k : Nat} {a0 : (List ByteArray)} {Ap0 : Option Addr} {np0 cp0 : Nat} {r : Bool} {w : World} (h : spec_NamesOk.f k a0 = some r) (gp0 : Kd.string.C w Ap0 np0 a0) (lp0 : np0 ≤ cp0) :
    Calls Tryz.prog 185 #[.slice Ap0 np0 cp0] w (fun e w' => e = .returned (.bool r) ∧ Hp noFP w w' []) := by
 obtain rfl := C_len gp0
 have HS := Hp.start w
 have H := Aside0.mk h
 clear h
 unfold spec_NamesOk.f at H
 go_enter Tryz.func185, Tryz.ntmps185
 go_wp2
 go_loopg [3] k (fun kq v_3 w' => ∃ (x4 : Int), v_3 = .int .i64 x4 ∧ Aside0 (spec_NamesOk.l0 kq x4 a0 = some r) ∧ Aside0 (kq ≤ k) ∧ Hp noFP w w' [])
 case atStart => exact ⟨_, rfl, H, ⟨Nat.le_refl _⟩, HS⟩
 case round =>
  clear HS H; (try clear F)
  obtain ⟨x4, rfl, H, HKk3, HS⟩ := hrel
  cases gk with
  | zero => exact absurd H.out (by simp [spec_NamesOk.l0])
  | succ k3 =>
   simp only [spec_NamesOk.l0] at H
   replace H := znif H; rcases H with ⟨c6, H⟩ | ⟨c6, H⟩
   case inl =>
    obtain rfl := zsome H
    go_wp2
    go_ret
    exact HS.pk
   (try go_wp2)
   replace H := zgo H; obtain ⟨c5, H⟩ := H
   replace H := zgo H; obtain ⟨c7, H⟩ := H
   obtain ⟨ad9, rfl, e9_0⟩ := Kd.at_string gp0 x4 (of_eq_true c5) (of_eq_true c7)
   replace H := zbind H; obtain ⟨t12, ht12, H⟩ := H
   replace H := znifb H; rcases H with ⟨c14, H⟩ | ⟨c14, H⟩
   case inl =>
    subst c14
    refine dr_start [] HS #[false, false, false, false, false, false, false, false, false, false, false, false, false, false, false, false, false, false, false, false, false, false] (by kernel_rfl) rfl rfl spec_NamesOk.tT4 (fun w13 HT HS HH => ?_)
    (try clear F)
    refine drq_of [(0, some 10), (1, some 11), (2, some 12)] ?_
    repeat (refine drp HT ?_)
    refine drq_end ?_
    refine dr_take 3 (some 13) HT HH (v := ?_) (a' := ?_) rfl rfl (by kernel_rfl) (fun _ _ _ h => h) (.inl ⟨by rfl, ?_⟩) ?_ ?_
    rotate_left
    · rintro w' ⟨rs', HS'⟩; have e9_0 := HS'.keepc e9_0; go_simp; with_reducible rfl
    rotate_left
    · simp only [Act.put, ptn]; rfl
    refine dr1 4 HT fun K hK => ?_
    refine go_cl HS (spec_NameOk.calls ht12.out) Tryz.func139 ?_; clear HS; intro wt12 HS F
    refine nrm 14 hK ⟨_, HS⟩ (fun HH => ?_); clear hK K
    refine drq_of [(5, some 15), (6, some 16), (7, some 17), (8, some 18), (9, some 19), (10, some 20), (11, some 21), (12, some 22), (13, some 23), (14, some 24), (15, some 25), (16, some 26), (17, some 27), (18, some 28), (19, some 29), (20, some 30), (21, some 31)] ?_
    repeat (first | (refine drq_pure HT (v := ?_) (a' := ?_) rfl rfl (by kernel_rfl) (fun _ _ _ h => h) (.inl ⟨by rfl, ?_⟩) ?_ ?_; rotate_left; (intro w'; go_simp; with_reducible rfl); rotate_left; (simp only [Act.put, ptn]; rfl)) | (refine drq_pure HT (v := undef) (a' := ?_) rfl rfl (by kernel_rfl) (fun _ _ _ h => h) (.inr ⟨by rfl, rfl⟩) ?_ ?_; rotate_left; (simp only [Act.put, ptn]; rfl)))
    refine drq_end ?_
    refine done_ (done_of HT.out (by kernel_rfl)) ?_
    obtain rfl := zsome H
    go_wp2
    go_ret
    exact HS.pk
   subst c14
   replace H := znif H; rcases H with ⟨c15, H⟩ | ⟨c15, H⟩
   case inl =>
    refine dr_start [] HS #[false, false, false, false, false, false, false, false, false, false, false, false, false, false, false, false, false, false, false, false, false, false] (by kernel_rfl) rfl rfl spec_NamesOk.tT4 (fun w11 HT HS HH => ?_)
    (try clear F)
    refine drq_of [(0, some 10), (1, some 11), (2, some 12)] ?_
    repeat (refine drp HT ?_)
    refine drq_end ?_
    refine dr_take 3 (some 13) HT HH (v := ?_) (a' := ?_) rfl rfl (by kernel_rfl) (fun _ _ _ h => h) (.inl ⟨by rfl, ?_⟩) ?_ ?_
    rotate_left
    · rintro w' ⟨rs', HS'⟩; have e9_0 := HS'.keepc e9_0; go_simp; with_reducible rfl
    rotate_left
    · simp only [Act.put, ptn]; rfl
    refine dr1 4 HT fun K hK => ?_
    refine go_cl HS (spec_NameOk.calls ht12.out) Tryz.func139 ?_; clear HS; intro wt12 HS F
    refine nrm 14 hK ⟨_, HS⟩ (fun HH => ?_); clear hK K
    refine drq_of [(5, some 15), (6, some 16), (7, some 17), (8, some 18), (9, some 19), (10, some 20), (11, some 21), (12, some 22), (13, some 23), (14, some 24), (15, some 25), (16, some 26), (17, some 27), (18, some 28), (19, some 29), (20, some 30), (21, some 31)] ?_
    repeat (first | (refine drq_pure HT (v := ?_) (a' := ?_) rfl rfl (by kernel_rfl) (fun _ _ _ h => h) (.inl ⟨by rfl, ?_⟩) ?_ ?_; rotate_left; (intro w'; go_simp; with_reducible rfl); rotate_left; (simp only [Act.put, ptn]; rfl)) | (refine drq_pure HT (v := undef) (a' := ?_) rfl rfl (by kernel_rfl) (fun _ _ _ h => h) (.inr ⟨by rfl, rfl⟩) ?_ ?_; rotate_left; (simp only [Act.put, ptn]; rfl)))
    refine drq_end ?_
    refine done_ (done_of HT.out (by kernel_rfl)) ?_
    go_wp2
    go_roundg k3
    case measure => have := HKk3.out; omega
    case rel => exact ⟨_, rfl, H, ⟨by have := HKk3.out; omega⟩, HS.pick [] (by decide) (by rfl)⟩
   replace H := zgo H; obtain ⟨c16, H⟩ := H
   replace H := zgo H; obtain ⟨c17, H⟩ := H
   obtain ⟨ad18, hq18, e18_0⟩ := Kd.at_string gp0 (wrap64 (x4 - 1)) (of_eq_true c16) (of_eq_true c17); obtain rfl := Option.some.inj hq18
   refine dr_start [] HS #[false, false, false, false, false, false, false, false, false, false, false, false, false, false, false, false, false, false, false, false, false, false] (by kernel_rfl) rfl rfl spec_NamesOk.tT4 (fun w8 HT HS HH => ?_)
   (try clear F)
   refine drq_of [(0, some 10), (1, some 11), (2, some 12)] ?_
   repeat (refine drp HT ?_)
   refine drq_end ?_
   refine dr_take 3 (some 13) HT HH (v := ?_) (a' := ?_) rfl rfl (by kernel_rfl) (fun _ _ _ h => h) (.inl ⟨by rfl, ?_⟩) ?_ ?_
   rotate_left
   · rintro w' ⟨rs', HS'⟩; have e9_0 := HS'.keepc e9_0; go_simp; with_reducible rfl
   rotate_left
   · simp only [Act.put, ptn]; rfl
   refine dr1 4 HT fun K hK => ?_
   refine go_cl HS (spec_NameOk.calls ht12.out) Tryz.func139 ?_; clear HS; intro wt12 HS F
   refine nrm 14 hK ⟨_, HS⟩ (fun HH => ?_); clear hK K
   refine drq_of [(5, some 15), (6, some 16), (7, some 17), (8, some 18), (9, some 19), (10, some 20), (11, some 21), (12, some 22), (13, some 23)] ?_
   repeat (refine drp HT ?_)
   refine drq_end ?_
   refine dr_take 14 (some 24) HT HH (v := ?_) (a' := ?_) rfl rfl (by kernel_rfl) (fun _ _ _ h => h) (.inl ⟨by rfl, ?_⟩) ?_ ?_
   rotate_left
   · rintro w' ⟨rs', HS'⟩; have e18_0 := HS'.keepc e18_0; go_simp; with_reducible rfl
   rotate_left
   · simp only [Act.put, ptn]; rfl
   refine drq_of [(15, some 25), (16, some 26), (17, some 27)] ?_
   repeat (refine drp HT ?_)
   refine drq_end ?_
   refine dr_take 18 (some 28) HT HH (v := ?_) (a' := ?_) rfl rfl (by kernel_rfl) (fun _ _ _ h => h) (.inl ⟨by rfl, ?_⟩) ?_ ?_
   rotate_left
   · rintro w' ⟨rs', HS'⟩; have e9_0 := HS'.keepc e9_0; go_simp; with_reducible rfl
   rotate_left
   · simp only [Act.put, ptn]; rfl
   refine drq_of [(19, some 29), (20, some 30), (21, some 31)] ?_
   repeat (refine drp HT ?_)
   refine drq_end ?_
   refine done_ (done_of HT.out (by kernel_rfl)) ?_
   replace H := znifb H; rcases H with ⟨c10, H⟩ | ⟨c10, H⟩
   case inl =>
    (try simp only [c10, dcn])
    obtain rfl := zsome H
    go_wp2
    go_ret
    exact HS.pk
   (try simp only [c10, dcn])
   go_wp2
   go_roundg k3
   case measure => have := HKk3.out; omega
   case rel => exact ⟨_, rfl, H, ⟨by have := HKk3.out; omega⟩, HS.pick [] (by decide) (by rfl)⟩
def spec_l09Num.f (a0 : Int) : Option (Bool) := ((spec_l01In.f a0 0 9999).bind fun t1 => (some t1))
theorem spec_l09Num.calls {a0 : Int} {r : Bool} {w : World} (h : spec_l09Num.f a0 = some r) :
    Calls Tryz.prog 75 #[.int .i64 a0] w (fun e w' => e = .returned (.bool r) ∧ Hp noFP w w' []) := by
 have HS := Hp.start w
 have H := Aside0.mk h
 clear h
 unfold spec_l09Num.f at H
 go_enter Tryz.func75, Tryz.ntmps75
 replace H := zbind H; obtain ⟨t1, ht1, H⟩ := H
 obtain rfl := zsome H
 go_wp2_with (first | ((with_reducible refine gd 4 rfl ?_); refine ev_cl HS (spec_l01In.calls ht1.out) Tryz.func74 ?_; clear HS; intro wt1 HS F))
 go_ret
 exact HS.pk
end Go.Proofs.YtacocpknielofaaGreatDoor.F

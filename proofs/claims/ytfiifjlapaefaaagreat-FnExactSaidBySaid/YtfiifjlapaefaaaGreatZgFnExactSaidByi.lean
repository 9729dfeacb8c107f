/- Functions of the program and of the law, and that their calls do what is written here. -/
import Derived.Test.YtfiifjlapaefaaaGreatZgFnExactSaidByh
namespace Go.Proofs.YtfiifjlapaefaaaGreat.F
open Go.RowKit Go.Proofs.YtfiifjlapaefaaaGreatW.PrintWords Go.Proofs.YtfiifjlapaefaaaGreatW.PrintLast Go.Proofs.YtfiifjlapaefaaaGreatW.PrintMore Go.Proofs.YtfiifjlapaefaaaGreat.Z
attribute [local go_sem] max2_int min2_int max_two min_two max_three min_three max_four min_four
set_option linter.unusedVariables false
set_option linter.unusedSimpArgs false
set_option maxRecDepth 100000
/-! ### laws_eqCert: function 65 -/
def laws_eqCert.f (k : Nat) (a0 : S118) (a1 : S118) : Option (Bool) := (if a0.f0 = a1.f0 then (if a0.f1.toList = a1.f1.toList then (if a0.f2.toList = a1.f2.toList then (if a0.f3 = a1.f3 then (if a0.f4 = a1.f4 then (if a0.f5.toList = a1.f5.toList then (if a0.f6 = a1.f6 then (if a0.f7 = a1.f7 then (if a0.f8 = a1.f8 then ((laws_eqIntS.f k a0.f9 a1.f9).bind fun t14 => (if t14 = true then ((laws_eqStringS.f k a0.f10 a1.f10).bind fun t17 => (if t17 = true then ((laws_eqStringS.f k a0.f11 a1.f11).bind fun t20 => (if t20 = true then (if a0.f12.toList = a1.f12.toList then (some true) else (some false)) else (some false))) else (some false))) else (some false))) else (some false)) else (some false)) else (some false)) else (some false)) else (some false)) else (some false)) else (some false)) else (some false)) else (some false))
set_option maxHeartbeats 16000000 in
theorem laws_eqCert.calls {k : Nat} {a0 : S118} {a1 : S118} {Ap0 : Option Addr} {np0 cp0 : Nat} {Ap1 : Option Addr} {np1 cp1 : Nat} {Ap2 : Option Addr} {np2 cp2 : Nat} {Ap3 : Option Addr} {np3 cp3 : Nat} {Ap4 : Option Addr} {np4 cp4 : Nat} {Ap5 : Option Addr} {np5 cp5 : Nat} {r : Bool} {w : World} (h : laws_eqCert.f k a0 a1 = some r) (gp0 : (Kd.int .i64).C w Ap0 np0 a0.f9) (lp0 : np0 ≤ cp0) (gp1 : Kd.string.C w Ap1 np1 a0.f10) (lp1 : np1 ≤ cp1) (gp2 : Kd.string.C w Ap2 np2 a0.f11) (lp2 : np2 ≤ cp2) (gp3 : (Kd.int .i64).C w Ap3 np3 a1.f9) (lp3 : np3 ≤ cp3) (gp4 : Kd.string.C w Ap4 np4 a1.f10) (lp4 : np4 ≤ cp4) (gp5 : Kd.string.C w Ap5 np5 a1.f11) (lp5 : np5 ≤ cp5) :
    Calls Tryz.prog 65 #[.agg #[.int .i64 a0.f0, .string a0.f1, .string a0.f2, .int .i64 a0.f3, .int .i64 a0.f4, .string a0.f5, .bool a0.f6, .int .i64 a0.f7, .int .i64 a0.f8, .slice Ap0 np0 cp0, .slice Ap1 np1 cp1, .slice Ap2 np2 cp2, .string a0.f12], .agg #[.int .i64 a1.f0, .string a1.f1, .string a1.f2, .int .i64 a1.f3, .int .i64 a1.f4, .string a1.f5, .bool a1.f6, .int .i64 a1.f7, .int .i64 a1.f8, .slice Ap3 np3 cp3, .slice Ap4 np4 cp4, .slice Ap5 np5 cp5, .string a1.f12]] w (fun e w' => e = .returned (.bool r) ∧ Hp noFP w w' []) := by
 obtain rfl := C_len gp0
 obtain rfl := C_len gp1
 obtain rfl := C_len gp2
 obtain rfl := C_len gp3
 obtain rfl := C_len gp4
 obtain rfl := C_len gp5
 have HS := Hp.start w
 have H := Aside0.mk h
 clear h
 unfold laws_eqCert.f at H
 go_enter Tryz.func65, Tryz.ntmps65
 go_upto_if 9 with (first | ((with_reducible refine gd 2 rfl ?_); refine ev_bx HS ?_; clear HS; (try clear F); intro g2 w2 HS F) | ((with_reducible refine gd 3 rfl ?_); refine ev_bx HS ?_; clear HS; (try clear F); intro g3 w3 HS F))
 replace H := znif' H; rcases H with ⟨c5, H⟩ | ⟨c5, H⟩
 case inl =>
  have c5a := beq_eq_false_iff_ne.mpr c5
  have c5b := bne_iff_ne.mpr c5
  clear c5
  (try simp only [c5a, c5b, dcn])
  obtain rfl := zsome H
  go_wp2
  go_ret
  exact HS.pk
 have c5a := beq_iff_eq.mpr c5
 have c5b := bne_eq_false_iff_eq.mpr c5
 clear c5
 (try simp only [c5a, c5b, dcn])
 replace H := znif' H; rcases H with ⟨c6, H⟩ | ⟨c6, H⟩
 case inl =>
  have c6a := beq_eq_false_iff_ne.mpr c6
  have c6b := bne_iff_ne.mpr c6
  clear c6
  obtain rfl := zsome H
  go_wp2
  go_ret
  exact HS.pk
 have c6a := beq_iff_eq.mpr c6
 have c6b := bne_eq_false_iff_eq.mpr c6
 clear c6
 replace H := znif' H; rcases H with ⟨c7, H⟩ | ⟨c7, H⟩
 case inl =>
  have c7a := beq_eq_false_iff_ne.mpr c7
  have c7b := bne_iff_ne.mpr c7
  clear c7
  obtain rfl := zsome H
  go_wp2
  go_ret
  exact HS.pk
 have c7a := beq_iff_eq.mpr c7
 have c7b := bne_eq_false_iff_eq.mpr c7
 clear c7
 replace H := znif' H; rcases H with ⟨c8, H⟩ | ⟨c8, H⟩
 case inl =>
  have c8a := beq_eq_false_iff_ne.mpr c8
  have c8b := bne_iff_ne.mpr c8
  clear c8
  obtain rfl := zsome H
  go_wp2
  go_ret
  exact HS.pk
 have c8a := beq_iff_eq.mpr c8
 have c8b := bne_eq_false_iff_eq.mpr c8
 clear c8
 replace H := znif' H; rcases H with ⟨c9, H⟩ | ⟨c9, H⟩
 case inl =>
  have c9a := beq_eq_false_iff_ne.mpr c9
  have c9b := bne_iff_ne.mpr c9
  clear c9
  obtain rfl := zsome H
  go_wp2
  go_ret
  exact HS.pk
 have c9a := beq_iff_eq.mpr c9
 have c9b := bne_eq_false_iff_eq.mpr c9
 clear c9
 replace H := znif' H; rcases H with ⟨c10, H⟩ | ⟨c10, H⟩
 case inl =>
  have c10a := beq_eq_false_iff_ne.mpr c10
  have c10b := bne_iff_ne.mpr c10
  clear c10
  obtain rfl := zsome H
  go_wp2
  go_ret
  exact HS.pk
 have c10a := beq_iff_eq.mpr c10
 have c10b := bne_eq_false_iff_eq.mpr c10
 clear c10
 replace H := znif' H; rcases H with ⟨c11, H⟩ | ⟨c11, H⟩
 case inl =>
  have c11a := beq_eq_false_iff_ne.mpr c11
  have c11b := bne_iff_ne.mpr c11
  clear c11
  obtain rfl := zsome H
  go_wp2
  go_ret
  exact HS.pk
 have c11a := beq_iff_eq.mpr c11
 have c11b := bne_eq_false_iff_eq.mpr c11
 clear c11
 replace H := znif' H; rcases H with ⟨c12, H⟩ | ⟨c12, H⟩
 case inl =>
  have c12a := beq_eq_false_iff_ne.mpr c12
  have c12b := bne_iff_ne.mpr c12
  clear c12
  obtain rfl := zsome H
  go_wp2
  go_ret
  exact HS.pk
 have c12a := beq_iff_eq.mpr c12
 have c12b := bne_eq_false_iff_eq.mpr c12
 clear c12
 replace H := znif' H; rcases H with ⟨c13, H⟩ | ⟨c13, H⟩
 case inl =>
  have c13a := beq_eq_false_iff_ne.mpr c13
  have c13b := bne_iff_ne.mpr c13
  clear c13
  obtain rfl := zsome H
  go_wp2
  go_ret
  exact HS.pk
 have c13a := beq_iff_eq.mpr c13
 have c13b := bne_eq_false_iff_eq.mpr c13
 clear c13
 replace H := zbind H; obtain ⟨t14, ht14, H⟩ := H
 go_upto_if 55 with (first | ((with_reducible refine gd 54 rfl ?_); refine ev_cl HS (laws_eqIntS.calls ht14.out (HS.ro gp0) lp0 (HS.ro gp3) lp3) Tryz.func31 ?_; clear HS; (try clear F); intro wt14 HS F))
 replace H := znifb H; rcases H with ⟨c16, H⟩ | ⟨c16, H⟩
 case inl =>
  subst c16
  (try simp only [dcn, if_true, Bool.false_eq_true, if_false])
  obtain rfl := zsome H
  go_wp2
  go_ret
  exact HS.pk
 subst c16
 (try simp only [dcn, if_true, Bool.false_eq_true, if_false])
 replace H := zbind H; obtain ⟨t17, ht17, H⟩ := H
 go_upto_if 61 with (first | ((with_reducible refine gd 60 rfl ?_); refine ev_cl HS (laws_eqStringS.calls ht17.out (HS.ro gp1) lp1 (HS.ro gp4) lp4) Tryz.func33 ?_; clear HS; (try clear F); intro wt17 HS F))
 replace H := znifb H; rcases H with ⟨c19, H⟩ | ⟨c19, H⟩
 case inl =>
  subst c19
  (try simp only [dcn, if_true, Bool.false_eq_true, if_false])
  obtain rfl := zsome H
  go_wp2
  go_ret
  exact HS.pk
 subst c19
 (try simp only [dcn, if_true, Bool.false_eq_true, if_false])
 replace H := zbind H; obtain ⟨t20, ht20, H⟩ := H
 go_upto_if 67 with (first | ((with_reducible refine gd 66 rfl ?_); refine ev_cl HS (laws_eqStringS.calls ht20.out (HS.ro gp2) lp2 (HS.ro gp5) lp5) Tryz.func33 ?_; clear HS; (try clear F); intro wt20 HS F))
 replace H := znifb H; rcases H with ⟨c22, H⟩ | ⟨c22, H⟩
 case inl =>
  subst c22
  (try simp only [dcn, if_true, Bool.false_eq_true, if_false])
  obtain rfl := zsome H
  go_wp2
  go_ret
  exact HS.pk
 subst c22
 (try simp only [dcn, if_true, Bool.false_eq_true, if_false])
 replace H := znif' H; rcases H with ⟨c23, H⟩ | ⟨c23, H⟩
 case inl =>
  have c23a := beq_eq_false_iff_ne.mpr c23
  have c23b := bne_iff_ne.mpr c23
  clear c23
  obtain rfl := zsome H
  go_wp2
  go_ret
  exact HS.pk
 have c23a := beq_iff_eq.mpr c23
 have c23b := bne_eq_false_iff_eq.mpr c23
 clear c23
 obtain rfl := zsome H
 go_wp2
 go_ret
 exact HS.pk
/-! ### laws_eqCertS: function 29 -/
def laws_eqCertS.l0 : Nat → Int → (List S118) → (List S118) → Option (Bool)
  | 0, _, _, _ => none
  | k + 1, x5, a0, a1 => (if x5 < (a0.length : Int) then (if 0 ≤ x5 then (if x5 < (a0.length : Int) then (if x5 < (a1.length : Int) then ((laws_eqCert.f k (rd_T118 a0 x5) (rd_T118 a1 x5)).bind fun t14 => (if t14 = true then (laws_eqCertS.l0 k (wrap64 (x5 + 1)) a0 a1) else (some false))) else none) else none) else none) else (some true))
def laws_eqCertS.f (k : Nat) (a0 : (List S118)) (a1 : (List S118)) : Option (Bool) := (if (a0.length : Int) = (a1.length : Int) then (laws_eqCertS.l0 k 0 a0 a1) else (some false))
def laws_eqCertS.T6 : Bool × List (List Nat × List Nat) := (true, [([], []), ([], []), ([0, 1], [0, 1]), ([2], [2]), ([], []), ([], []), ([4, 5], [4, 5]), ([6], [6]), ([3, 7], [3, 7]), ([8], [8])])
theorem laws_eqCertS.tT6 : rtab .any (opsOf Tryz.f29 6) = laws_eqCertS.T6 := by kernel_rfl
set_option maxHeartbeats 16000000 in
theorem laws_eqCertS.calls {k : Nat} {a0 : (List S118)} {a1 : (List S118)} {Ap0 : Option Addr} {np0 cp0 : Nat} {Ap1 : Option Addr} {np1 cp1 : Nat} {r : Bool} {w : World} (h : laws_eqCertS.f k a0 a1 = some r) (gp0 : k118.C w Ap0 np0 a0) (lp0 : np0 ≤ cp0) (gp1 : k118.C w Ap1 np1 a1) (lp1 : np1 ≤ cp1) :
    Calls Tryz.prog 29 #[.slice Ap0 np0 cp0, .slice Ap1 np1 cp1] w (fun e w' => e = .returned (.bool r) ∧ Hp noFP w w' []) := by
 obtain rfl := C_len gp0
 obtain rfl := C_len gp1
 have HS := Hp.start w
 have H := Aside0.mk h
 clear h
 unfold laws_eqCertS.f at H
 go_enter Tryz.func29, Tryz.ntmps29
 replace H := znif' H; rcases H with ⟨c1, H⟩ | ⟨c1, H⟩
 case inl =>
  have c1a := beq_eq_false_iff_ne.mpr c1
  have c1b := bne_iff_ne.mpr c1
  clear c1
  obtain rfl := zsome H
  go_wp2
  go_ret
  exact HS.pk
 have c1a := beq_iff_eq.mpr c1
 have c1b := bne_eq_false_iff_eq.mpr c1
 clear c1
 go_wp2
 go_loopg [5] k (fun kq v_5 w' => ∃ (x5 : Int), v_5 = .int .i64 x5 ∧ Aside0 (laws_eqCertS.l0 kq x5 a0 a1 = some r) ∧ Aside0 (kq ≤ k) ∧ Hp noFP w w' [])
 case atStart => exact ⟨_, rfl, H, ⟨Nat.le_refl _⟩, HS⟩
 case round =>
  clear HS H; (try clear F)
  obtain ⟨x5, rfl, H, HKk4, HS⟩ := hrel
  cases gk with
  | zero => exact absurd H.out (by simp [laws_eqCertS.l0])
  | succ k4 =>
   simp only [laws_eqCertS.l0] at H
   replace H := znif H; rcases H with ⟨c7, H⟩ | ⟨c7, H⟩
   case inl =>
    obtain rfl := zsome H
    go_wp2
    go_ret
    exact HS.pk
   (try go_wp2)
   replace H := zgo H; obtain ⟨c3, H⟩ := H
   replace H := zgo H; obtain ⟨c8, H⟩ := H
   obtain ⟨ad10, B10_9, d10_9, B10_10, d10_10, B10_11, d10_11, rfl, e10_0, e10_1, e10_2, e10_3, e10_4, e10_5, e10_6, e10_7, e10_8, e10_9, e10_10, e10_11, e10_12, m10_9, y10_9, m10_10, y10_10, m10_11, y10_11⟩ := at_T118 gp0 x5 (of_eq_true c3) (of_eq_true c8)
   replace H := zgo H; obtain ⟨c12, H⟩ := H
   obtain ⟨ad13, B13_9, d13_9, B13_10, d13_10, B13_11, d13_11, rfl, e13_0, e13_1, e13_2, e13_3, e13_4, e13_5, e13_6, e13_7, e13_8, e13_9, e13_10, e13_11, e13_12, m13_9, y13_9, m13_10, y13_10, m13_11, y13_11⟩ := at_T118 gp1 x5 (of_eq_true c3) (of_eq_true c12)
   replace H := zbind H; obtain ⟨t14, ht14, H⟩ := H
   refine dr_start [] HS #[false, false, false, false, false, false, false, false, false, false] (by kernel_rfl) rfl rfl laws_eqCertS.tT6 (fun w9 HT HS HH => ?_)
   (try clear F)
   refine drq_of [(0, some 17), (1, some 18), (2, some 19)] ?_
   repeat (refine drp HT ?_)
   refine drq_end ?_
   refine dr_take 3 (some 20) HT HH (v := ?_) (a' := ?_) rfl rfl (by kernel_rfl) (fun _ _ _ h => h) (.inl ⟨by rfl, ?_⟩) ?_ ?_
   rotate_left
   · rintro w' ⟨rs', HS'⟩; have e10_0 := (HS'.keepc e10_0); have e10_1 := (HS'.keepc e10_1); have e10_2 := (HS'.keepc e10_2); have e10_3 := (HS'.keepc e10_3); have e10_4 := (HS'.keepc e10_4); have e10_5 := (HS'.keepc e10_5); have e10_6 := (HS'.keepc e10_6); have e10_7 := (HS'.keepc e10_7); have e10_8 := (HS'.keepc e10_8); have e10_9 := (HS'.keepc e10_9); have e10_10 := (HS'.keepc e10_10); have e10_11 := (HS'.keepc e10_11); have e10_12 := (HS'.keepc e10_12); go_simp; with_reducible rfl
   rotate_left
   · simp only [Act.put, ptn]; rfl
   refine drq_of [(4, some 21), (5, some 22), (6, some 23)] ?_
   repeat (refine drp HT ?_)
   refine drq_end ?_
   refine dr_take 7 (some 24) HT HH (v := ?_) (a' := ?_) rfl rfl (by kernel_rfl) (fun _ _ _ h => h) (.inl ⟨by rfl, ?_⟩) ?_ ?_
   rotate_left
   · rintro w' ⟨rs', HS'⟩; have e13_0 := (HS'.keepc e13_0); have e13_1 := (HS'.keepc e13_1); have e13_2 := (HS'.keepc e13_2); have e13_3 := (HS'.keepc e13_3); have e13_4 := (HS'.keepc e13_4); have e13_5 := (HS'.keepc e13_5); have e13_6 := (HS'.keepc e13_6); have e13_7 := (HS'.keepc e13_7); have e13_8 := (HS'.keepc e13_8); have e13_9 := (HS'.keepc e13_9); have e13_10 := (HS'.keepc e13_10); have e13_11 := (HS'.keepc e13_11); have e13_12 := (HS'.keepc e13_12); go_simp; with_reducible rfl
   rotate_left
   · simp only [Act.put, ptn]; rfl
   refine dr1 8 HT fun K hK => ?_
   refine go_cl HS (laws_eqCert.calls ht14.out (HS.ro y10_9) m10_9 (HS.ro y10_10) m10_10 (HS.ro y10_11) m10_11 (HS.ro y13_9) m13_9 (HS.ro y13_10) m13_10 (HS.ro y13_11) m13_11) Tryz.func65 ?_; clear HS; (try clear F); intro wt14 HS F
   refine nrm 25 hK ⟨_, HS⟩ (fun HH => ?_); clear hK K
   refine drq_of [(9, some 26)] ?_
   repeat (refine drp HT ?_)
   refine drq_end ?_
   refine done_ (done_of HT.out (by kernel_rfl)) ?_
   replace H := znifb H; rcases H with ⟨c11, H⟩ | ⟨c11, H⟩
   case inl =>
    subst c11
    (try simp only [dcn, if_true, Bool.false_eq_true, if_false])
    obtain rfl := zsome H
    go_wp2
    go_ret
    exact HS.pk
   subst c11
   (try simp only [dcn, if_true, Bool.false_eq_true, if_false])
   go_wp2
   go_roundg k4
   case measure => have := HKk4.out; omega
   case rel => exact ⟨_, rfl, H, ⟨by have := HKk4.out; omega⟩, HS.pick [] (by decide) (by rfl)⟩
/-! ### laws_eqRev: function 135 -/
def laws_eqRev.f (a0 : S222) (a1 : S222) : Option (Bool) := (if a0.f0 = a1.f0 then (if a0.f1 = a1.f1 then (some true) else (some false)) else (some false))
set_option maxHeartbeats 16000000 in
theorem laws_eqRev.calls {a0 : S222} {a1 : S222} {r : Bool} {w : World} (h : laws_eqRev.f a0 a1 = some r) :
    Calls Tryz.prog 135 #[.agg #[.int .i64 a0.f0, .int .i64 a0.f1], .agg #[.int .i64 a1.f0, .int .i64 a1.f1]] w (fun e w' => e = .returned (.bool r) ∧ Hp noFP w w' []) := by
 have HS := Hp.start w
 have H := Aside0.mk h
 clear h
 unfold laws_eqRev.f at H
 go_enter Tryz.func135, Tryz.ntmps135
 go_upto_if 9 with (first | ((with_reducible refine gd 2 rfl ?_); refine ev_bx HS ?_; clear HS; (try clear F); intro g2 w2 HS F) | ((with_reducible refine gd 3 rfl ?_); refine ev_bx HS ?_; clear HS; (try clear F); intro g3 w3 HS F))
 replace H := znif' H; rcases H with ⟨c5, H⟩ | ⟨c5, H⟩
 case inl =>
  have c5a := beq_eq_false_iff_ne.mpr c5
  have c5b := bne_iff_ne.mpr c5
  clear c5
  (try simp only [c5a, c5b, dcn])
  obtain rfl := zsome H
  go_wp2
  go_ret
  exact HS.pk
 have c5a := beq_iff_eq.mpr c5
 have c5b := bne_eq_false_iff_eq.mpr c5
 clear c5
 (try simp only [c5a, c5b, dcn])
 replace H := znif' H; rcases H with ⟨c6, H⟩ | ⟨c6, H⟩
 case inl =>
  have c6a := beq_eq_false_iff_ne.mpr c6
  have c6b := bne_iff_ne.mpr c6
  clear c6
  obtain rfl := zsome H
  go_wp2
  go_ret
  exact HS.pk
 have c6a := beq_iff_eq.mpr c6
 have c6b := bne_eq_false_iff_eq.mpr c6
 clear c6
 obtain rfl := zsome H
 go_wp2
 go_ret
 exact HS.pk
/-! ### laws_eqRevS: function 129 -/
def laws_eqRevS.l0 : Nat → Int → (List S222) → (List S222) → Option (Bool)
  | 0, _, _, _ => none
  | k + 1, x5, a0, a1 => (if x5 < (a0.length : Int) then (if 0 ≤ x5 then (if x5 < (a0.length : Int) then (if x5 < (a1.length : Int) then ((laws_eqRev.f (rd_T222 a0 x5) (rd_T222 a1 x5)).bind fun t14 => (if t14 = true then (laws_eqRevS.l0 k (wrap64 (x5 + 1)) a0 a1) else (some false))) else none) else none) else none) else (some true))
def laws_eqRevS.f (k : Nat) (a0 : (List S222)) (a1 : (List S222)) : Option (Bool) := (if (a0.length : Int) = (a1.length : Int) then (laws_eqRevS.l0 k 0 a0 a1) else (some false))
def laws_eqRevS.T6 : Bool × List (List Nat × List Nat) := (true, [([], []), ([], []), ([0, 1], [0, 1]), ([2], [2]), ([], []), ([], []), ([4, 5], [4, 5]), ([6], [6]), ([3, 7], [3, 7]), ([8], [8])])
theorem laws_eqRevS.tT6 : rtab .any (opsOf Tryz.f129 6) = laws_eqRevS.T6 := by kernel_rfl
set_option maxHeartbeats 16000000 in
theorem laws_eqRevS.calls {k : Nat} {a0 : (List S222)} {a1 : (List S222)} {Ap0 : Option Addr} {np0 cp0 : Nat} {Ap1 : Option Addr} {np1 cp1 : Nat} {r : Bool} {w : World} (h : laws_eqRevS.f k a0 a1 = some r) (gp0 : k222.C w Ap0 np0 a0) (lp0 : np0 ≤ cp0) (gp1 : k222.C w Ap1 np1 a1) (lp1 : np1 ≤ cp1) :
    Calls Tryz.prog 129 #[.slice Ap0 np0 cp0, .slice Ap1 np1 cp1] w (fun e w' => e = .returned (.bool r) ∧ Hp noFP w w' []) := by
 obtain rfl := C_len gp0
 obtain rfl := C_len gp1
 have HS := Hp.start w
 have H := Aside0.mk h
 clear h
 unfold laws_eqRevS.f at H
 go_enter Tryz.func129, Tryz.ntmps129
 replace H := znif' H; rcases H with ⟨c1, H⟩ | ⟨c1, H⟩
 case inl =>
  have c1a := beq_eq_false_iff_ne.mpr c1
  have c1b := bne_iff_ne.mpr c1
  clear c1
  obtain rfl := zsome H
  go_wp2
  go_ret
  exact HS.pk
 have c1a := beq_iff_eq.mpr c1
 have c1b := bne_eq_false_iff_eq.mpr c1
 clear c1
 go_wp2
 go_loopg [5] k (fun kq v_5 w' => ∃ (x5 : Int), v_5 = .int .i64 x5 ∧ Aside0 (laws_eqRevS.l0 kq x5 a0 a1 = some r) ∧ Aside0 (kq ≤ k) ∧ Hp noFP w w' [])
 case atStart => exact ⟨_, rfl, H, ⟨Nat.le_refl _⟩, HS⟩
 case round =>
  clear HS H; (try clear F)
  obtain ⟨x5, rfl, H, HKk4, HS⟩ := hrel
  cases gk with
  | zero => exact absurd H.out (by simp [laws_eqRevS.l0])
  | succ k4 =>
   simp only [laws_eqRevS.l0] at H
   replace H := znif H; rcases H with ⟨c7, H⟩ | ⟨c7, H⟩
   case inl =>
    obtain rfl := zsome H
    go_wp2
    go_ret
    exact HS.pk
   (try go_wp2)
   replace H := zgo H; obtain ⟨c3, H⟩ := H
   replace H := zgo H; obtain ⟨c8, H⟩ := H
   obtain ⟨ad10, rfl, e10_0, e10_1⟩ := at_T222 gp0 x5 (of_eq_true c3) (of_eq_true c8)
   replace H := zgo H; obtain ⟨c12, H⟩ := H
   obtain ⟨ad13, rfl, e13_0, e13_1⟩ := at_T222 gp1 x5 (of_eq_true c3) (of_eq_true c12)
   replace H := zbind H; obtain ⟨t14, ht14, H⟩ := H
   refine dr_start [] HS #[false, false, false, false, false, false, false, false, false, false] (by kernel_rfl) rfl rfl laws_eqRevS.tT6 (fun w9 HT HS HH => ?_)
   (try clear F)
   refine drq_of [(0, some 17), (1, some 18), (2, some 19)] ?_
   repeat (refine drp HT ?_)
   refine drq_end ?_
   refine dr_take 3 (some 20) HT HH (v := ?_) (a' := ?_) rfl rfl (by kernel_rfl) (fun _ _ _ h => h) (.inl ⟨by rfl, ?_⟩) ?_ ?_
   rotate_left
   · rintro w' ⟨rs', HS'⟩; have e10_0 := (HS'.keepc e10_0); have e10_1 := (HS'.keepc e10_1); go_simp; with_reducible rfl
   rotate_left
   · simp only [Act.put, ptn]; rfl
   refine drq_of [(4, some 21), (5, some 22), (6, some 23)] ?_
   repeat (refine drp HT ?_)
   refine drq_end ?_
   refine dr_take 7 (some 24) HT HH (v := ?_) (a' := ?_) rfl rfl (by kernel_rfl) (fun _ _ _ h => h) (.inl ⟨by rfl, ?_⟩) ?_ ?_
   rotate_left
   · rintro w' ⟨rs', HS'⟩; have e13_0 := (HS'.keepc e13_0); have e13_1 := (HS'.keepc e13_1); go_simp; with_reducible rfl
   rotate_left
   · simp only [Act.put, ptn]; rfl
   refine dr1 8 HT fun K hK => ?_
   refine go_cl HS (laws_eqRev.calls ht14.out) Tryz.func135 ?_; clear HS; (try clear F); intro wt14 HS F
   refine nrm 25 hK ⟨_, HS⟩ (fun HH => ?_); clear hK K
   refine drq_of [(9, some 26)] ?_
   repeat (refine drp HT ?_)
   refine drq_end ?_
   refine done_ (done_of HT.out (by kernel_rfl)) ?_
   replace H := znifb H; rcases H with ⟨c11, H⟩ | ⟨c11, H⟩
   case inl =>
    subst c11
    (try simp only [dcn, if_true, Bool.false_eq_true, if_false])
    obtain rfl := zsome H
    go_wp2
    go_ret
    exact HS.pk
   subst c11
   (try simp only [dcn, if_true, Bool.false_eq_true, if_false])
   go_wp2
   go_roundg k4
   case measure => have := HKk4.out; omega
   case rel => exact ⟨_, rfl, H, ⟨by have := HKk4.out; omega⟩, HS.pick [] (by decide) (by rfl)⟩
/-! ### laws_eqCrl: function 117 -/
def laws_eqCrl.f (k : Nat) (a0 : S198) (a1 : S198) : Option (Bool) := (if a0.f0.toList = a1.f0.toList then (if a0.f1 = a1.f1 then (if a0.f2 = a1.f2 then (if a0.f3 = a1.f3 then (if a0.f4 = a1.f4 then ((laws_eqRevS.f k a0.f5 a1.f5).bind fun t10 => (if t10 = true then (if a0.f6.toList = a1.f6.toList then (some true) else (some false)) else (some false))) else (some false)) else (some false)) else (some false)) else (some false)) else (some false))
set_option maxHeartbeats 16000000 in
theorem laws_eqCrl.calls {k : Nat} {a0 : S198} {a1 : S198} {Ap0 : Option Addr} {np0 cp0 : Nat} {Ap1 : Option Addr} {np1 cp1 : Nat} {r : Bool} {w : World} (h : laws_eqCrl.f k a0 a1 = some r) (gp0 : k222.C w Ap0 np0 a0.f5) (lp0 : np0 ≤ cp0) (gp1 : k222.C w Ap1 np1 a1.f5) (lp1 : np1 ≤ cp1) :
    Calls Tryz.prog 117 #[.agg #[.string a0.f0, .int .i64 a0.f1, .int .i64 a0.f2, .int .i64 a0.f3, .int .i64 a0.f4, .slice Ap0 np0 cp0, .string a0.f6], .agg #[.string a1.f0, .int .i64 a1.f1, .int .i64 a1.f2, .int .i64 a1.f3, .int .i64 a1.f4, .slice Ap1 np1 cp1, .string a1.f6]] w (fun e w' => e = .returned (.bool r) ∧ Hp noFP w w' []) := by
 obtain rfl := C_len gp0
 obtain rfl := C_len gp1
 have HS := Hp.start w
 have H := Aside0.mk h
 clear h
 unfold laws_eqCrl.f at H
 go_enter Tryz.func117, Tryz.ntmps117
 go_upto_if 9 with (first | ((with_reducible refine gd 2 rfl ?_); refine ev_bx HS ?_; clear HS; (try clear F); intro g2 w2 HS F) | ((with_reducible refine gd 3 rfl ?_); refine ev_bx HS ?_; clear HS; (try clear F); intro g3 w3 HS F))
 replace H := znif' H; rcases H with ⟨c5, H⟩ | ⟨c5, H⟩
 case inl =>
  have c5a := beq_eq_false_iff_ne.mpr c5
  have c5b := bne_iff_ne.mpr c5
  clear c5
  (try simp only [c5a, c5b, dcn])
  obtain rfl := zsome H
  go_wp2
  go_ret
  exact HS.pk
 have c5a := beq_iff_eq.mpr c5
 have c5b := bne_eq_false_iff_eq.mpr c5
 clear c5
 (try simp only [c5a, c5b, dcn])
 replace H := znif' H; rcases H with ⟨c6, H⟩ | ⟨c6, H⟩
 case inl =>
  have c6a := beq_eq_false_iff_ne.mpr c6
  have c6b := bne_iff_ne.mpr c6
  clear c6
  obtain rfl := zsome H
  go_wp2
  go_ret
  exact HS.pk
 have c6a := beq_iff_eq.mpr c6
 have c6b := bne_eq_false_iff_eq.mpr c6
 clear c6
 replace H := znif' H; rcases H with ⟨c7, H⟩ | ⟨c7, H⟩
 case inl =>
  have c7a := beq_eq_false_iff_ne.mpr c7
  have c7b := bne_iff_ne.mpr c7
  clear c7
  obtain rfl := zsome H
  go_wp2
  go_ret
  exact HS.pk
 have c7a := beq_iff_eq.mpr c7
 have c7b := bne_eq_false_iff_eq.mpr c7
 clear c7
 replace H := znif' H; rcases H with ⟨c8, H⟩ | ⟨c8, H⟩
 case inl =>
  have c8a := beq_eq_false_iff_ne.mpr c8
  have c8b := bne_iff_ne.mpr c8
  clear c8
  obtain rfl := zsome H
  go_wp2
  go_ret
  exact HS.pk
 have c8a := beq_iff_eq.mpr c8
 have c8b := bne_eq_false_iff_eq.mpr c8
 clear c8
 replace H := znif' H; rcases H with ⟨c9, H⟩ | ⟨c9, H⟩
 case inl =>
  have c9a := beq_eq_false_iff_ne.mpr c9
  have c9b := bne_iff_ne.mpr c9
  clear c9
  obtain rfl := zsome H
  go_wp2
  go_ret
  exact HS.pk
 have c9a := beq_iff_eq.mpr c9
 have c9b := bne_eq_false_iff_eq.mpr c9
 clear c9
 replace H := zbind H; obtain ⟨t10, ht10, H⟩ := H
 go_upto_if 35 with (first | ((with_reducible refine gd 34 rfl ?_); refine ev_cl HS (laws_eqRevS.calls ht10.out (HS.ro gp0) lp0 (HS.ro gp1) lp1) Tryz.func129 ?_; clear HS; (try clear F); intro wt10 HS F))
 replace H := znifb H; rcases H with ⟨c12, H⟩ | ⟨c12, H⟩
 case inl =>
  subst c12
  (try simp only [dcn, if_true, Bool.false_eq_true, if_false])
  obtain rfl := zsome H
  go_wp2
  go_ret
  exact HS.pk
 subst c12
 (try simp only [dcn, if_true, Bool.false_eq_true, if_false])
 replace H := znif' H; rcases H with ⟨c13, H⟩ | ⟨c13, H⟩
 case inl =>
  have c13a := beq_eq_false_iff_ne.mpr c13
  have c13b := bne_iff_ne.mpr c13
  clear c13
  obtain rfl := zsome H
  go_wp2
  go_ret
  exact HS.pk
 have c13a := beq_iff_eq.mpr c13
 have c13b := bne_eq_false_iff_eq.mpr c13
 clear c13
 obtain rfl := zsome H
 go_wp2
 go_ret
 exact HS.pk
/-! ### laws_eqCrlS: function 97 -/
def laws_eqCrlS.l0 : Nat → Int → (List S198) → (List S198) → Option (Bool)
  | 0, _, _, _ => none
  | k + 1, x5, a0, a1 => (if x5 < (a0.length : Int) then (if 0 ≤ x5 then (if x5 < (a0.length : Int) then (if x5 < (a1.length : Int) then ((laws_eqCrl.f k (rd_T198 a0 x5) (rd_T198 a1 x5)).bind fun t14 => (if t14 = true then (laws_eqCrlS.l0 k (wrap64 (x5 + 1)) a0 a1) else (some false))) else none) else none) else none) else (some true))
def laws_eqCrlS.f (k : Nat) (a0 : (List S198)) (a1 : (List S198)) : Option (Bool) := (if (a0.length : Int) = (a1.length : Int) then (laws_eqCrlS.l0 k 0 a0 a1) else (some false))
def laws_eqCrlS.T6 : Bool × List (List Nat × List Nat) := (true, [([], []), ([], []), ([0, 1], [0, 1]), ([2], [2]), ([], []), ([], []), ([4, 5], [4, 5]), ([6], [6]), ([3, 7], [3, 7]), ([8], [8])])
theorem laws_eqCrlS.tT6 : rtab .any (opsOf Tryz.f97 6) = laws_eqCrlS.T6 := by kernel_rfl
set_option maxHeartbeats 16000000 in
theorem laws_eqCrlS.calls {k : Nat} {a0 : (List S198)} {a1 : (List S198)} {Ap0 : Option Addr} {np0 cp0 : Nat} {Ap1 : Option Addr} {np1 cp1 : Nat} {r : Bool} {w : World} (h : laws_eqCrlS.f k a0 a1 = some r) (gp0 : k198.C w Ap0 np0 a0) (lp0 : np0 ≤ cp0) (gp1 : k198.C w Ap1 np1 a1) (lp1 : np1 ≤ cp1) :
    Calls Tryz.prog 97 #[.slice Ap0 np0 cp0, .slice Ap1 np1 cp1] w (fun e w' => e = .returned (.bool r) ∧ Hp noFP w w' []) := by
 obtain rfl := C_len gp0
 obtain rfl := C_len gp1
 have HS := Hp.start w
 have H := Aside0.mk h
 clear h
 unfold laws_eqCrlS.f at H
 go_enter Tryz.func97, Tryz.ntmps97
 replace H := znif' H; rcases H with ⟨c1, H⟩ | ⟨c1, H⟩
 case inl =>
  have c1a := beq_eq_false_iff_ne.mpr c1
  have c1b := bne_iff_ne.mpr c1
  clear c1
  obtain rfl := zsome H
  go_wp2
  go_ret
  exact HS.pk
 have c1a := beq_iff_eq.mpr c1
 have c1b := bne_eq_false_iff_eq.mpr c1
 clear c1
 go_wp2
 go_loopg [5] k (fun kq v_5 w' => ∃ (x5 : Int), v_5 = .int .i64 x5 ∧ Aside0 (laws_eqCrlS.l0 kq x5 a0 a1 = some r) ∧ Aside0 (kq ≤ k) ∧ Hp noFP w w' [])
 case atStart => exact ⟨_, rfl, H, ⟨Nat.le_refl _⟩, HS⟩
 case round =>
  clear HS H; (try clear F)
  obtain ⟨x5, rfl, H, HKk4, HS⟩ := hrel
  cases gk with
  | zero => exact absurd H.out (by simp [laws_eqCrlS.l0])
  | succ k4 =>
   simp only [laws_eqCrlS.l0] at H
   replace H := znif H; rcases H with ⟨c7, H⟩ | ⟨c7, H⟩
   case inl =>
    obtain rfl := zsome H
    go_wp2
    go_ret
    exact HS.pk
   (try go_wp2)
   replace H := zgo H; obtain ⟨c3, H⟩ := H
   replace H := zgo H; obtain ⟨c8, H⟩ := H
   obtain ⟨ad10, B10_5, d10_5, rfl, e10_0, e10_1, e10_2, e10_3, e10_4, e10_5, e10_6, m10_5, y10_5⟩ := at_T198 gp0 x5 (of_eq_true c3) (of_eq_true c8)
   replace H := zgo H; obtain ⟨c12, H⟩ := H
   obtain ⟨ad13, B13_5, d13_5, rfl, e13_0, e13_1, e13_2, e13_3, e13_4, e13_5, e13_6, m13_5, y13_5⟩ := at_T198 gp1 x5 (of_eq_true c3) (of_eq_true c12)
   replace H := zbind H; obtain ⟨t14, ht14, H⟩ := H
   refine dr_start [] HS #[false, false, false, false, false, false, false, false, false, false] (by kernel_rfl) rfl rfl laws_eqCrlS.tT6 (fun w9 HT HS HH => ?_)
   (try clear F)
   refine drq_of [(0, some 17), (1, some 18), (2, some 19)] ?_
   repeat (refine drp HT ?_)
   refine drq_end ?_
   refine dr_take 3 (some 20) HT HH (v := ?_) (a' := ?_) rfl rfl (by kernel_rfl) (fun _ _ _ h => h) (.inl ⟨by rfl, ?_⟩) ?_ ?_
   rotate_left
   · rintro w' ⟨rs', HS'⟩; have e10_0 := (HS'.keepc e10_0); have e10_1 := (HS'.keepc e10_1); have e10_2 := (HS'.keepc e10_2); have e10_3 := (HS'.keepc e10_3); have e10_4 := (HS'.keepc e10_4); have e10_5 := (HS'.keepc e10_5); have e10_6 := (HS'.keepc e10_6); go_simp; with_reducible rfl
   rotate_left
   · simp only [Act.put, ptn]; rfl
   refine drq_of [(4, some 21), (5, some 22), (6, some 23)] ?_
   repeat (refine drp HT ?_)
   refine drq_end ?_
   refine dr_take 7 (some 24) HT HH (v := ?_) (a' := ?_) rfl rfl (by kernel_rfl) (fun _ _ _ h => h) (.inl ⟨by rfl, ?_⟩) ?_ ?_
   rotate_left
   · rintro w' ⟨rs', HS'⟩; have e13_0 := (HS'.keepc e13_0); have e13_1 := (HS'.keepc e13_1); have e13_2 := (HS'.keepc e13_2); have e13_3 := (HS'.keepc e13_3); have e13_4 := (HS'.keepc e13_4); have e13_5 := (HS'.keepc e13_5); have e13_6 := (HS'.keepc e13_6); go_simp; with_reducible rfl
   rotate_left
   · simp only [Act.put, ptn]; rfl
   refine dr1 8 HT fun K hK => ?_
   refine go_cl HS (laws_eqCrl.calls ht14.out (HS.ro y10_5) m10_5 (HS.ro y13_5) m13_5) Tryz.func117 ?_; clear HS; (try clear F); intro wt14 HS F
   refine nrm 25 hK ⟨_, HS⟩ (fun HH => ?_); clear hK K
   refine drq_of [(9, some 26)] ?_
   repeat (refine drp HT ?_)
   refine drq_end ?_
   refine done_ (done_of HT.out (by kernel_rfl)) ?_
   replace H := znifb H; rcases H with ⟨c11, H⟩ | ⟨c11, H⟩
   case inl =>
    subst c11
    (try simp only [dcn, if_true, Bool.false_eq_true, if_false])
    obtain rfl := zsome H
    go_wp2
    go_ret
    exact HS.pk
   subst c11
   (try simp only [dcn, if_true, Bool.false_eq_true, if_false])
   go_wp2
   go_roundg k4
   case measure => have := HKk4.out; omega
   case rel => exact ⟨_, rfl, H, ⟨by have := HKk4.out; omega⟩, HS.pick [] (by decide) (by rfl)⟩
/-! ### laws_eqAnchor: function 118 -/
def laws_eqAnchor.f (a0 : S200) (a1 : S200) : Option (Bool) := (if a0.f0.toList = a1.f0.toList then (if a0.f1.toList = a1.f1.toList then (some true) else (some false)) else (some false))
set_option maxHeartbeats 16000000 in
theorem laws_eqAnchor.calls {a0 : S200} {a1 : S200} {r : Bool} {w : World} (h : laws_eqAnchor.f a0 a1 = some r) :
    Calls Tryz.prog 118 #[.agg #[.string a0.f0, .string a0.f1], .agg #[.string a1.f0, .string a1.f1]] w (fun e w' => e = .returned (.bool r) ∧ Hp noFP w w' []) := by
 have HS := Hp.start w
 have H := Aside0.mk h
 clear h
 unfold laws_eqAnchor.f at H
 go_enter Tryz.func118, Tryz.ntmps118
 go_upto_if 9 with (first | ((with_reducible refine gd 2 rfl ?_); refine ev_bx HS ?_; clear HS; (try clear F); intro g2 w2 HS F) | ((with_reducible refine gd 3 rfl ?_); refine ev_bx HS ?_; clear HS; (try clear F); intro g3 w3 HS F))
 replace H := znif' H; rcases H with ⟨c5, H⟩ | ⟨c5, H⟩
 case inl =>
  have c5a := beq_eq_false_iff_ne.mpr c5
  have c5b := bne_iff_ne.mpr c5
  clear c5
  (try simp only [c5a, c5b, dcn])
  obtain rfl := zsome H
  go_wp2
  go_ret
  exact HS.pk
 have c5a := beq_iff_eq.mpr c5
 have c5b := bne_eq_false_iff_eq.mpr c5
 clear c5
 (try simp only [c5a, c5b, dcn])
 replace H := znif' H; rcases H with ⟨c6, H⟩ | ⟨c6, H⟩
 case inl =>
  have c6a := beq_eq_false_iff_ne.mpr c6
  have c6b := bne_iff_ne.mpr c6
  clear c6
  obtain rfl := zsome H
  go_wp2
  go_ret
  exact HS.pk
 have c6a := beq_iff_eq.mpr c6
 have c6b := bne_eq_false_iff_eq.mpr c6
 clear c6
 obtain rfl := zsome H
 go_wp2
 go_ret
 exact HS.pk
/-! ### laws_eqAnchorS: function 98 -/
def laws_eqAnchorS.l0 : Nat → Int → (List S200) → (List S200) → Option (Bool)
  | 0, _, _, _ => none
  | k + 1, x5, a0, a1 => (if x5 < (a0.length : Int) then (if 0 ≤ x5 then (if x5 < (a0.length : Int) then (if x5 < (a1.length : Int) then ((laws_eqAnchor.f (rd_T200 a0 x5) (rd_T200 a1 x5)).bind fun t14 => (if t14 = true then (laws_eqAnchorS.l0 k (wrap64 (x5 + 1)) a0 a1) else (some false))) else none) else none) else none) else (some true))
def laws_eqAnchorS.f (k : Nat) (a0 : (List S200)) (a1 : (List S200)) : Option (Bool) := (if (a0.length : Int) = (a1.length : Int) then (laws_eqAnchorS.l0 k 0 a0 a1) else (some false))
def laws_eqAnchorS.T6 : Bool × List (List Nat × List Nat) := (true, [([], []), ([], []), ([0, 1], [0, 1]), ([2], [2]), ([], []), ([], []), ([4, 5], [4, 5]), ([6], [6]), ([3, 7], [3, 7]), ([8], [8])])
theorem laws_eqAnchorS.tT6 : rtab .any (opsOf Tryz.f98 6) = laws_eqAnchorS.T6 := by kernel_rfl
set_option maxHeartbeats 16000000 in
theorem laws_eqAnchorS.calls {k : Nat} {a0 : (List S200)} {a1 : (List S200)} {Ap0 : Option Addr} {np0 cp0 : Nat} {Ap1 : Option Addr} {np1 cp1 : Nat} {r : Bool} {w : World} (h : laws_eqAnchorS.f k a0 a1 = some r) (gp0 : k200.C w Ap0 np0 a0) (lp0 : np0 ≤ cp0) (gp1 : k200.C w Ap1 np1 a1) (lp1 : np1 ≤ cp1) :
    Calls Tryz.prog 98 #[.slice Ap0 np0 cp0, .slice Ap1 np1 cp1] w (fun e w' => e = .returned (.bool r) ∧ Hp noFP w w' []) := by
 obtain rfl := C_len gp0
 obtain rfl := C_len gp1
 have HS := Hp.start w
 have H := Aside0.mk h
 clear h
 unfold laws_eqAnchorS.f at H
 go_enter Tryz.func98, Tryz.ntmps98
 replace H := znif' H; rcases H with ⟨c1, H⟩ | ⟨c1, H⟩
 case inl =>
  have c1a := beq_eq_false_iff_ne.mpr c1
  have c1b := bne_iff_ne.mpr c1
  clear c1
  obtain rfl := zsome H
  go_wp2
  go_ret
  exact HS.pk
 have c1a := beq_iff_eq.mpr c1
 have c1b := bne_eq_false_iff_eq.mpr c1
 clear c1
 go_wp2
 go_loopg [5] k (fun kq v_5 w' => ∃ (x5 : Int), v_5 = .int .i64 x5 ∧ Aside0 (laws_eqAnchorS.l0 kq x5 a0 a1 = some r) ∧ Aside0 (kq ≤ k) ∧ Hp noFP w w' [])
 case atStart => exact ⟨_, rfl, H, ⟨Nat.le_refl _⟩, HS⟩
 case round =>
  clear HS H; (try clear F)
  obtain ⟨x5, rfl, H, HKk4, HS⟩ := hrel
  cases gk with
  | zero => exact absurd H.out (by simp [laws_eqAnchorS.l0])
  | succ k4 =>
   simp only [laws_eqAnchorS.l0] at H
   replace H := znif H; rcases H with ⟨c7, H⟩ | ⟨c7, H⟩
   case inl =>
    obtain rfl := zsome H
    go_wp2
    go_ret
    exact HS.pk
   (try go_wp2)
   replace H := zgo H; obtain ⟨c3, H⟩ := H
   replace H := zgo H; obtain ⟨c8, H⟩ := H
   obtain ⟨ad10, rfl, e10_0, e10_1⟩ := at_T200 gp0 x5 (of_eq_true c3) (of_eq_true c8)
   replace H := zgo H; obtain ⟨c12, H⟩ := H
   obtain ⟨ad13, rfl, e13_0, e13_1⟩ := at_T200 gp1 x5 (of_eq_true c3) (of_eq_true c12)
   replace H := zbind H; obtain ⟨t14, ht14, H⟩ := H
   refine dr_start [] HS #[false, false, false, false, false, false, false, false, false, false] (by kernel_rfl) rfl rfl laws_eqAnchorS.tT6 (fun w9 HT HS HH => ?_)
   (try clear F)
   refine drq_of [(0, some 17), (1, some 18), (2, some 19)] ?_
   repeat (refine drp HT ?_)
   refine drq_end ?_
   refine dr_take 3 (some 20) HT HH (v := ?_) (a' := ?_) rfl rfl (by kernel_rfl) (fun _ _ _ h => h) (.inl ⟨by rfl, ?_⟩) ?_ ?_
   rotate_left
   · rintro w' ⟨rs', HS'⟩; have e10_0 := (HS'.keepc e10_0); have e10_1 := (HS'.keepc e10_1); go_simp; with_reducible rfl
   rotate_left
   · simp only [Act.put, ptn]; rfl
   refine drq_of [(4, some 21), (5, some 22), (6, some 23)] ?_
   repeat (refine drp HT ?_)
   refine drq_end ?_
   refine dr_take 7 (some 24) HT HH (v := ?_) (a' := ?_) rfl rfl (by kernel_rfl) (fun _ _ _ h => h) (.inl ⟨by rfl, ?_⟩) ?_ ?_
   rotate_left
   · rintro w' ⟨rs', HS'⟩; have e13_0 := (HS'.keepc e13_0); have e13_1 := (HS'.keepc e13_1); go_simp; with_reducible rfl
   rotate_left
   · simp only [Act.put, ptn]; rfl
   refine dr1 8 HT fun K hK => ?_
   refine go_cl HS (laws_eqAnchor.calls ht14.out) Tryz.func118 ?_; clear HS; (try clear F); intro wt14 HS F
   refine nrm 25 hK ⟨_, HS⟩ (fun HH => ?_); clear hK K
   refine drq_of [(9, some 26)] ?_
   repeat (refine drp HT ?_)
   refine drq_end ?_
   refine done_ (done_of HT.out (by kernel_rfl)) ?_
   replace H := znifb H; rcases H with ⟨c11, H⟩ | ⟨c11, H⟩
   case inl =>
    subst c11
    (try simp only [dcn, if_true, Bool.false_eq_true, if_false])
    obtain rfl := zsome H
    go_wp2
    go_ret
    exact HS.pk
   subst c11
   (try simp only [dcn, if_true, Bool.false_eq_true, if_false])
   go_wp2
   go_roundg k4
   case measure => have := HKk4.out; omega
   case rel => exact ⟨_, rfl, H, ⟨by have := HKk4.out; omega⟩, HS.pick [] (by decide) (by rfl)⟩
/-! ### laws_eqStore: function 60 -/
def laws_eqStore.f (k : Nat) (a0 : S47) (a1 : S47) : Option (Bool) := ((laws_eqCertS.f k a0.f0 a1.f0).bind fun t5 => (if t5 = true then ((laws_eqCrlS.f k a0.f1 a1.f1).bind fun t8 => (if t8 = true then ((laws_eqAnchorS.f k a0.f2 a1.f2).bind fun t11 => (if t11 = true then (some true) else (some false))) else (some false))) else (some false)))
set_option maxHeartbeats 16000000 in
theorem laws_eqStore.calls {k : Nat} {a0 : S47} {a1 : S47} {Ap0 : Option Addr} {np0 cp0 : Nat} {Ap1 : Option Addr} {np1 cp1 : Nat} {Ap2 : Option Addr} {np2 cp2 : Nat} {Ap3 : Option Addr} {np3 cp3 : Nat} {Ap4 : Option Addr} {np4 cp4 : Nat} {Ap5 : Option Addr} {np5 cp5 : Nat} {r : Bool} {w : World} (h : laws_eqStore.f k a0 a1 = some r) (gp0 : k118.C w Ap0 np0 a0.f0) (lp0 : np0 ≤ cp0) (gp1 : k198.C w Ap1 np1 a0.f1) (lp1 : np1 ≤ cp1) (gp2 : k200.C w Ap2 np2 a0.f2) (lp2 : np2 ≤ cp2) (gp3 : k118.C w Ap3 np3 a1.f0) (lp3 : np3 ≤ cp3) (gp4 : k198.C w Ap4 np4 a1.f1) (lp4 : np4 ≤ cp4) (gp5 : k200.C w Ap5 np5 a1.f2) (lp5 : np5 ≤ cp5) :
    Calls Tryz.prog 60 #[.agg #[.slice Ap0 np0 cp0, .slice Ap1 np1 cp1, .slice Ap2 np2 cp2], .agg #[.slice Ap3 np3 cp3, .slice Ap4 np4 cp4, .slice Ap5 np5 cp5]] w (fun e w' => e = .returned (.bool r) ∧ Hp noFP w w' []) := by
 obtain rfl := C_len gp0
 obtain rfl := C_len gp1
 obtain rfl := C_len gp2
 obtain rfl := C_len gp3
 obtain rfl := C_len gp4
 obtain rfl := C_len gp5
 have HS := Hp.start w
 have H := Aside0.mk h
 clear h
 unfold laws_eqStore.f at H
 go_enter Tryz.func60, Tryz.ntmps60
 replace H := zbind H; obtain ⟨t5, ht5, H⟩ := H
 go_upto_if 10 with (first | ((with_reducible refine gd 2 rfl ?_); refine ev_bx HS ?_; clear HS; (try clear F); intro g2 w2 HS F) | ((with_reducible refine gd 3 rfl ?_); refine ev_bx HS ?_; clear HS; (try clear F); intro g3 w3 HS F) | ((with_reducible refine gd 9 rfl ?_); refine ev_cl HS (laws_eqCertS.calls ht5.out (HS.ro gp0) lp0 (HS.ro gp3) lp3) Tryz.func29 ?_; clear HS; (try clear F); intro wt5 HS F))
 replace H := znifb H; rcases H with ⟨c7, H⟩ | ⟨c7, H⟩
 case inl =>
  subst c7
  (try simp only [dcn, if_true, Bool.false_eq_true, if_false])
  obtain rfl := zsome H
  go_wp2
  go_ret
  exact HS.pk
 subst c7
 (try simp only [dcn, if_true, Bool.false_eq_true, if_false])
 replace H := zbind H; obtain ⟨t8, ht8, H⟩ := H
 go_upto_if 16 with (first | ((with_reducible refine gd 15 rfl ?_); refine ev_cl HS (laws_eqCrlS.calls ht8.out (HS.ro gp1) lp1 (HS.ro gp4) lp4) Tryz.func97 ?_; clear HS; (try clear F); intro wt8 HS F))
 replace H := znifb H; rcases H with ⟨c10, H⟩ | ⟨c10, H⟩
 case inl =>
  subst c10
  (try simp only [dcn, if_true, Bool.false_eq_true, if_false])
  obtain rfl := zsome H
  go_wp2
  go_ret
  exact HS.pk
 subst c10
 (try simp only [dcn, if_true, Bool.false_eq_true, if_false])
 replace H := zbind H; obtain ⟨t11, ht11, H⟩ := H
 go_upto_if 22 with (first | ((with_reducible refine gd 21 rfl ?_); refine ev_cl HS (laws_eqAnchorS.calls ht11.out (HS.ro gp2) lp2 (HS.ro gp5) lp5) Tryz.func98 ?_; clear HS; (try clear F); intro wt11 HS F))
 replace H := zifb H; rcases H with ⟨c13, H⟩ | ⟨c13, H⟩
 case inl =>
  subst c13
  (try simp only [dcn, if_true, Bool.false_eq_true, if_false])
  obtain rfl := zsome H
  go_wp2
  go_ret
  exact HS.pk
 subst c13
 (try simp only [dcn, if_true, Bool.false_eq_true, if_false])
 obtain rfl := zsome H
 go_wp2
 go_ret
 exact HS.pk
/-! ### laws_eqRules: function 119 -/
def laws_eqRules.f (k : Nat) (a0 : S163) (a1 : S163) : Option (Bool) := (if a0.f0 = a1.f0 then ((laws_eqIntS.f k a0.f1 a1.f1).bind fun t6 => (if t6 = true then (if a0.f2 = a1.f2 then (if a0.f3 = a1.f3 then (if a0.f4 = a1.f4 then (some true) else (some false)) else (some false)) else (some false)) else (some false))) else (some false))
set_option maxHeartbeats 16000000 in
theorem laws_eqRules.calls {k : Nat} {a0 : S163} {a1 : S163} {Ap0 : Option Addr} {np0 cp0 : Nat} {Ap1 : Option Addr} {np1 cp1 : Nat} {r : Bool} {w : World} (h : laws_eqRules.f k a0 a1 = some r) (gp0 : (Kd.int .i64).C w Ap0 np0 a0.f1) (lp0 : np0 ≤ cp0) (gp1 : (Kd.int .i64).C w Ap1 np1 a1.f1) (lp1 : np1 ≤ cp1) :
    Calls Tryz.prog 119 #[.agg #[.int .i64 a0.f0, .slice Ap0 np0 cp0, .bool a0.f2, .bool a0.f3, .int .i64 a0.f4], .agg #[.int .i64 a1.f0, .slice Ap1 np1 cp1, .bool a1.f2, .bool a1.f3, .int .i64 a1.f4]] w (fun e w' => e = .returned (.bool r) ∧ Hp noFP w w' []) := by
 obtain rfl := C_len gp0
 obtain rfl := C_len gp1
 have HS := Hp.start w
 have H := Aside0.mk h
 clear h
 unfold laws_eqRules.f at H
 go_enter Tryz.func119, Tryz.ntmps119
 go_upto_if 9 with (first | ((with_reducible refine gd 2 rfl ?_); refine ev_bx HS ?_; clear HS; (try clear F); intro g2 w2 HS F) | ((with_reducible refine gd 3 rfl ?_); refine ev_bx HS ?_; clear HS; (try clear F); intro g3 w3 HS F))
 replace H := znif' H; rcases H with ⟨c5, H⟩ | ⟨c5, H⟩
 case inl =>
  have c5a := beq_eq_false_iff_ne.mpr c5
  have c5b := bne_iff_ne.mpr c5
  clear c5
  (try simp only [c5a, c5b, dcn])
  obtain rfl := zsome H
  go_wp2
  go_ret
  exact HS.pk
 have c5a := beq_iff_eq.mpr c5
 have c5b := bne_eq_false_iff_eq.mpr c5
 clear c5
 (try simp only [c5a, c5b, dcn])
 replace H := zbind H; obtain ⟨t6, ht6, H⟩ := H
 go_upto_if 15 with (first | ((with_reducible refine gd 14 rfl ?_); refine ev_cl HS (laws_eqIntS.calls ht6.out (HS.ro gp0) lp0 (HS.ro gp1) lp1) Tryz.func31 ?_; clear HS; (try clear F); intro wt6 HS F))
 replace H := znifb H; rcases H with ⟨c8, H⟩ | ⟨c8, H⟩
 case inl =>
  subst c8
  (try simp only [dcn, if_true, Bool.false_eq_true, if_false])
  obtain rfl := zsome H
  go_wp2
  go_ret
  exact HS.pk
 subst c8
 (try simp only [dcn, if_true, Bool.false_eq_true, if_false])
 replace H := znif' H; rcases H with ⟨c9, H⟩ | ⟨c9, H⟩
 case inl =>
  have c9a := beq_eq_false_iff_ne.mpr c9
  have c9b := bne_iff_ne.mpr c9
  clear c9
  obtain rfl := zsome H
  go_wp2
  go_ret
  exact HS.pk
 have c9a := beq_iff_eq.mpr c9
 have c9b := bne_eq_false_iff_eq.mpr c9
 clear c9
 replace H := znif' H; rcases H with ⟨c10, H⟩ | ⟨c10, H⟩
 case inl =>
  have c10a := beq_eq_false_iff_ne.mpr c10
  have c10b := bne_iff_ne.mpr c10
  clear c10
  obtain rfl := zsome H
  go_wp2
  go_ret
  exact HS.pk
 have c10a := beq_iff_eq.mpr c10
 have c10b := bne_eq_false_iff_eq.mpr c10
 clear c10
 replace H := znif' H; rcases H with ⟨c11, H⟩ | ⟨c11, H⟩
 case inl =>
  have c11a := beq_eq_false_iff_ne.mpr c11
  have c11b := bne_iff_ne.mpr c11
  clear c11
  obtain rfl := zsome H
  go_wp2
  go_ret
  exact HS.pk
 have c11a := beq_iff_eq.mpr c11
 have c11b := bne_eq_false_iff_eq.mpr c11
 clear c11
 obtain rfl := zsome H
 go_wp2
 go_ret
 exact HS.pk
/-! ### laws_eqPlan: function 99 -/
def laws_eqPlan.f (k : Nat) (a0 : S165) (a1 : S165) : Option (Bool) := (if a0.f0 = a1.f0 then ((laws_eqIntS.f k a0.f1 a1.f1).bind fun t6 => (if t6 = true then ((laws_eqRules.f k a0.f2 a1.f2).bind fun t9 => (if t9 = true then (some true) else (some false))) else (some false))) else (some false))
set_option maxHeartbeats 16000000 in
theorem laws_eqPlan.calls {k : Nat} {a0 : S165} {a1 : S165} {Ap0 : Option Addr} {np0 cp0 : Nat} {Ap1 : Option Addr} {np1 cp1 : Nat} {Ap2 : Option Addr} {np2 cp2 : Nat} {Ap3 : Option Addr} {np3 cp3 : Nat} {r : Bool} {w : World} (h : laws_eqPlan.f k a0 a1 = some r) (gp0 : (Kd.int .i64).C w Ap0 np0 a0.f1) (lp0 : np0 ≤ cp0) (gp1 : (Kd.int .i64).C w Ap1 np1 a0.f2.f1) (lp1 : np1 ≤ cp1) (gp2 : (Kd.int .i64).C w Ap2 np2 a1.f1) (lp2 : np2 ≤ cp2) (gp3 : (Kd.int .i64).C w Ap3 np3 a1.f2.f1) (lp3 : np3 ≤ cp3) :
    Calls Tryz.prog 99 #[.agg #[.int .i64 a0.f0, .slice Ap0 np0 cp0, .int .i64 a0.f2.f0, .slice Ap1 np1 cp1, .bool a0.f2.f2, .bool a0.f2.f3, .int .i64 a0.f2.f4], .agg #[.int .i64 a1.f0, .slice Ap2 np2 cp2, .int .i64 a1.f2.f0, .slice Ap3 np3 cp3, .bool a1.f2.f2, .bool a1.f2.f3, .int .i64 a1.f2.f4]] w (fun e w' => e = .returned (.bool r) ∧ Hp noFP w w' []) := by
 obtain rfl := C_len gp0
 obtain rfl := C_len gp1
 obtain rfl := C_len gp2
 obtain rfl := C_len gp3
 have HS := Hp.start w
 have H := Aside0.mk h
 clear h
 unfold laws_eqPlan.f at H
 go_enter Tryz.func99, Tryz.ntmps99
 go_upto_if 9 with (first | ((with_reducible refine gd 2 rfl ?_); refine ev_bx HS ?_; clear HS; (try clear F); intro g2 w2 HS F) | ((with_reducible refine gd 3 rfl ?_); refine ev_bx HS ?_; clear HS; (try clear F); intro g3 w3 HS F))
 replace H := znif' H; rcases H with ⟨c5, H⟩ | ⟨c5, H⟩
 case inl =>
  have c5a := beq_eq_false_iff_ne.mpr c5
  have c5b := bne_iff_ne.mpr c5
  clear c5
  (try simp only [c5a, c5b, dcn])
  obtain rfl := zsome H
  go_wp2
  go_ret
  exact HS.pk
 have c5a := beq_iff_eq.mpr c5
 have c5b := bne_eq_false_iff_eq.mpr c5
 clear c5
 (try simp only [c5a, c5b, dcn])
 replace H := zbind H; obtain ⟨t6, ht6, H⟩ := H
 go_upto_if 15 with (first | ((with_reducible refine gd 14 rfl ?_); refine ev_cl HS (laws_eqIntS.calls ht6.out (HS.ro gp0) lp0 (HS.ro gp2) lp2) Tryz.func31 ?_; clear HS; (try clear F); intro wt6 HS F))
 replace H := znifb H; rcases H with ⟨c8, H⟩ | ⟨c8, H⟩
 case inl =>
  subst c8
  (try simp only [dcn, if_true, Bool.false_eq_true, if_false])
  obtain rfl := zsome H
  go_wp2
  go_ret
  exact HS.pk
 subst c8
 (try simp only [dcn, if_true, Bool.false_eq_true, if_false])
 replace H := zbind H; obtain ⟨t9, ht9, H⟩ := H
 go_upto_if 21 with (first | ((with_reducible refine gd 20 rfl ?_); refine ev_cl HS (laws_eqRules.calls ht9.out (HS.ro gp1) lp1 (HS.ro gp3) lp3) Tryz.func119 ?_; clear HS; (try clear F); intro wt9 HS F))
 replace H := zifb H; rcases H with ⟨c11, H⟩ | ⟨c11, H⟩
 case inl =>
  subst c11
  (try simp only [dcn, if_true, Bool.false_eq_true, if_false])
  obtain rfl := zsome H
  go_wp2
  go_ret
  exact HS.pk
 subst c11
 (try simp only [dcn, if_true, Bool.false_eq_true, if_false])
 obtain rfl := zsome H
 go_wp2
 go_ret
 exact HS.pk
/-! ### laws_eqPlanS: function 61 -/
def laws_eqPlanS.l0 : Nat → Int → (List S165) → (List S165) → Option (Bool)
  | 0, _, _, _ => none
  | k + 1, x5, a0, a1 => (if x5 < (a0.length : Int) then (if 0 ≤ x5 then (if x5 < (a0.length : Int) then (if x5 < (a1.length : Int) then ((laws_eqPlan.f k (rd_T165 a0 x5) (rd_T165 a1 x5)).bind fun t14 => (if t14 = true then (laws_eqPlanS.l0 k (wrap64 (x5 + 1)) a0 a1) else (some false))) else none) else none) else none) else (some true))
def laws_eqPlanS.f (k : Nat) (a0 : (List S165)) (a1 : (List S165)) : Option (Bool) := (if (a0.length : Int) = (a1.length : Int) then (laws_eqPlanS.l0 k 0 a0 a1) else (some false))
def laws_eqPlanS.T6 : Bool × List (List Nat × List Nat) := (true, [([], []), ([], []), ([0, 1], [0, 1]), ([2], [2]), ([], []), ([], []), ([4, 5], [4, 5]), ([6], [6]), ([3, 7], [3, 7]), ([8], [8])])
theorem laws_eqPlanS.tT6 : rtab .any (opsOf Tryz.f61 6) = laws_eqPlanS.T6 := by kernel_rfl
set_option maxHeartbeats 16000000 in
theorem laws_eqPlanS.calls {k : Nat} {a0 : (List S165)} {a1 : (List S165)} {Ap0 : Option Addr} {np0 cp0 : Nat} {Ap1 : Option Addr} {np1 cp1 : Nat} {r : Bool} {w : World} (h : laws_eqPlanS.f k a0 a1 = some r) (gp0 : k165.C w Ap0 np0 a0) (lp0 : np0 ≤ cp0) (gp1 : k165.C w Ap1 np1 a1) (lp1 : np1 ≤ cp1) :
    Calls Tryz.prog 61 #[.slice Ap0 np0 cp0, .slice Ap1 np1 cp1] w (fun e w' => e = .returned (.bool r) ∧ Hp noFP w w' []) := by
 obtain rfl := C_len gp0
 obtain rfl := C_len gp1
 have HS := Hp.start w
 have H := Aside0.mk h
 clear h
 unfold laws_eqPlanS.f at H
 go_enter Tryz.func61, Tryz.ntmps61
 replace H := znif' H; rcases H with ⟨c1, H⟩ | ⟨c1, H⟩
 case inl =>
  have c1a := beq_eq_false_iff_ne.mpr c1
  have c1b := bne_iff_ne.mpr c1
  clear c1
  obtain rfl := zsome H
  go_wp2
  go_ret
  exact HS.pk
 have c1a := beq_iff_eq.mpr c1
 have c1b := bne_eq_false_iff_eq.mpr c1
 clear c1
 go_wp2
 go_loopg [5] k (fun kq v_5 w' => ∃ (x5 : Int), v_5 = .int .i64 x5 ∧ Aside0 (laws_eqPlanS.l0 kq x5 a0 a1 = some r) ∧ Aside0 (kq ≤ k) ∧ Hp noFP w w' [])
 case atStart => exact ⟨_, rfl, H, ⟨Nat.le_refl _⟩, HS⟩
 case round =>
  clear HS H; (try clear F)
  obtain ⟨x5, rfl, H, HKk4, HS⟩ := hrel
  cases gk with
  | zero => exact absurd H.out (by simp [laws_eqPlanS.l0])
  | succ k4 =>
   simp only [laws_eqPlanS.l0] at H
   replace H := znif H; rcases H with ⟨c7, H⟩ | ⟨c7, H⟩
   case inl =>
    obtain rfl := zsome H
    go_wp2
    go_ret
    exact HS.pk
   (try go_wp2)
   replace H := zgo H; obtain ⟨c3, H⟩ := H
   replace H := zgo H; obtain ⟨c8, H⟩ := H
   obtain ⟨ad10, B10_1, d10_1, B10_3, d10_3, rfl, e10_0, e10_1, e10_2, e10_3, e10_4, e10_5, e10_6, m10_1, y10_1, m10_3, y10_3⟩ := at_T165 gp0 x5 (of_eq_true c3) (of_eq_true c8)
   replace H := zgo H; obtain ⟨c12, H⟩ := H
   obtain ⟨ad13, B13_1, d13_1, B13_3, d13_3, rfl, e13_0, e13_1, e13_2, e13_3, e13_4, e13_5, e13_6, m13_1, y13_1, m13_3, y13_3⟩ := at_T165 gp1 x5 (of_eq_true c3) (of_eq_true c12)
   replace H := zbind H; obtain ⟨t14, ht14, H⟩ := H
   refine dr_start [] HS #[false, false, false, false, false, false, false, false, false, false] (by kernel_rfl) rfl rfl laws_eqPlanS.tT6 (fun w9 HT HS HH => ?_)
   (try clear F)
   refine drq_of [(0, some 17), (1, some 18), (2, some 19)] ?_
   repeat (refine drp HT ?_)
   refine drq_end ?_
   refine dr_take 3 (some 20) HT HH (v := ?_) (a' := ?_) rfl rfl (by kernel_rfl) (fun _ _ _ h => h) (.inl ⟨by rfl, ?_⟩) ?_ ?_
   rotate_left
   · rintro w' ⟨rs', HS'⟩; have e10_0 := (HS'.keepc e10_0); have e10_1 := (HS'.keepc e10_1); have e10_2 := (HS'.keepc e10_2); have e10_3 := (HS'.keepc e10_3); have e10_4 := (HS'.keepc e10_4); have e10_5 := (HS'.keepc e10_5); have e10_6 := (HS'.keepc e10_6); go_simp; with_reducible rfl
   rotate_left
   · simp only [Act.put, ptn]; rfl
   refine drq_of [(4, some 21), (5, some 22), (6, some 23)] ?_
   repeat (refine drp HT ?_)
   refine drq_end ?_
   refine dr_take 7 (some 24) HT HH (v := ?_) (a' := ?_) rfl rfl (by kernel_rfl) (fun _ _ _ h => h) (.inl ⟨by rfl, ?_⟩) ?_ ?_
   rotate_left
   · rintro w' ⟨rs', HS'⟩; have e13_0 := (HS'.keepc e13_0); have e13_1 := (HS'.keepc e13_1); have e13_2 := (HS'.keepc e13_2); have e13_3 := (HS'.keepc e13_3); have e13_4 := (HS'.keepc e13_4); have e13_5 := (HS'.keepc e13_5); have e13_6 := (HS'.keepc e13_6); go_simp; with_reducible rfl
   rotate_left
   · simp only [Act.put, ptn]; rfl
   refine dr1 8 HT fun K hK => ?_
   refine go_cl HS (laws_eqPlan.calls ht14.out (HS.ro y10_1) m10_1 (HS.ro y10_3) m10_3 (HS.ro y13_1) m13_1 (HS.ro y13_3) m13_3) Tryz.func99 ?_; clear HS; (try clear F); intro wt14 HS F
   refine nrm 25 hK ⟨_, HS⟩ (fun HH => ?_); clear hK K
   refine drq_of [(9, some 26)] ?_
   repeat (refine drp HT ?_)
   refine drq_end ?_
   refine done_ (done_of HT.out (by kernel_rfl)) ?_
   replace H := znifb H; rcases H with ⟨c11, H⟩ | ⟨c11, H⟩
   case inl =>
    subst c11
    (try simp only [dcn, if_true, Bool.false_eq_true, if_false])
    obtain rfl := zsome H
    go_wp2
    go_ret
    exact HS.pk
   subst c11
   (try simp only [dcn, if_true, Bool.false_eq_true, if_false])
   go_wp2
   go_roundg k4
   case measure => have := HKk4.out; omega
   case rel => exact ⟨_, rfl, H, ⟨by have := HKk4.out; omega⟩, HS.pick [] (by decide) (by rfl)⟩
/-! ### laws_eqKept: function 100 -/
def laws_eqKept.f (a0 : S167) (a1 : S167) : Option (Bool) := (if a0.f0.toList = a1.f0.toList then (if a0.f1.toList = a1.f1.toList then (if a0.f2 = a1.f2 then (some true) else (some false)) else (some false)) else (some false))
set_option maxHeartbeats 16000000 in
theorem laws_eqKept.calls {a0 : S167} {a1 : S167} {r : Bool} {w : World} (h : laws_eqKept.f a0 a1 = some r) :
    Calls Tryz.prog 100 #[.agg #[.string a0.f0, .string a0.f1, .int .i64 a0.f2], .agg #[.string a1.f0, .string a1.f1, .int .i64 a1.f2]] w (fun e w' => e = .returned (.bool r) ∧ Hp noFP w w' []) := by
 have HS := Hp.start w
 have H := Aside0.mk h
 clear h
 unfold laws_eqKept.f at H
 go_enter Tryz.func100, Tryz.ntmps100
 go_upto_if 9 with (first | ((with_reducible refine gd 2 rfl ?_); refine ev_bx HS ?_; clear HS; (try clear F); intro g2 w2 HS F) | ((with_reducible refine gd 3 rfl ?_); refine ev_bx HS ?_; clear HS; (try clear F); intro g3 w3 HS F))
 replace H := znif' H; rcases H with ⟨c5, H⟩ | ⟨c5, H⟩
 case inl =>
  have c5a := beq_eq_false_iff_ne.mpr c5
  have c5b := bne_iff_ne.mpr c5
  clear c5
  (try simp only [c5a, c5b, dcn])
  obtain rfl := zsome H
  go_wp2
  go_ret
  exact HS.pk
 have c5a := beq_iff_eq.mpr c5
 have c5b := bne_eq_false_iff_eq.mpr c5
 clear c5
 (try simp only [c5a, c5b, dcn])
 replace H := znif' H; rcases H with ⟨c6, H⟩ | ⟨c6, H⟩
 case inl =>
  have c6a := beq_eq_false_iff_ne.mpr c6
  have c6b := bne_iff_ne.mpr c6
  clear c6
  obtain rfl := zsome H
  go_wp2
  go_ret
  exact HS.pk
 have c6a := beq_iff_eq.mpr c6
 have c6b := bne_eq_false_iff_eq.mpr c6
 clear c6
 replace H := znif' H; rcases H with ⟨c7, H⟩ | ⟨c7, H⟩
 case inl =>
  have c7a := beq_eq_false_iff_ne.mpr c7
  have c7b := bne_iff_ne.mpr c7
  clear c7
  obtain rfl := zsome H
  go_wp2
  go_ret
  exact HS.pk
 have c7a := beq_iff_eq.mpr c7
 have c7b := bne_eq_false_iff_eq.mpr c7
 clear c7
 obtain rfl := zsome H
 go_wp2
 go_ret
 exact HS.pk
/-! ### laws_eqKeptS: function 62 -/
def laws_eqKeptS.l0 : Nat → Int → (List S167) → (List S167) → Option (Bool)
  | 0, _, _, _ => none
  | k + 1, x5, a0, a1 => (if x5 < (a0.length : Int) then (if 0 ≤ x5 then (if x5 < (a0.length : Int) then (if x5 < (a1.length : Int) then ((laws_eqKept.f (rd_T167 a0 x5) (rd_T167 a1 x5)).bind fun t14 => (if t14 = true then (laws_eqKeptS.l0 k (wrap64 (x5 + 1)) a0 a1) else (some false))) else none) else none) else none) else (some true))
def laws_eqKeptS.f (k : Nat) (a0 : (List S167)) (a1 : (List S167)) : Option (Bool) := (if (a0.length : Int) = (a1.length : Int) then (laws_eqKeptS.l0 k 0 a0 a1) else (some false))
def laws_eqKeptS.T6 : Bool × List (List Nat × List Nat) := (true, [([], []), ([], []), ([0, 1], [0, 1]), ([2], [2]), ([], []), ([], []), ([4, 5], [4, 5]), ([6], [6]), ([3, 7], [3, 7]), ([8], [8])])
theorem laws_eqKeptS.tT6 : rtab .any (opsOf Tryz.f62 6) = laws_eqKeptS.T6 := by kernel_rfl
set_option maxHeartbeats 16000000 in
theorem laws_eqKeptS.calls {k : Nat} {a0 : (List S167)} {a1 : (List S167)} {Ap0 : Option Addr} {np0 cp0 : Nat} {Ap1 : Option Addr} {np1 cp1 : Nat} {r : Bool} {w : World} (h : laws_eqKeptS.f k a0 a1 = some r) (gp0 : k167.C w Ap0 np0 a0) (lp0 : np0 ≤ cp0) (gp1 : k167.C w Ap1 np1 a1) (lp1 : np1 ≤ cp1) :
    Calls Tryz.prog 62 #[.slice Ap0 np0 cp0, .slice Ap1 np1 cp1] w (fun e w' => e = .returned (.bool r) ∧ Hp noFP w w' []) := by
 obtain rfl := C_len gp0
 obtain rfl := C_len gp1
 have HS := Hp.start w
 have H := Aside0.mk h
 clear h
 unfold laws_eqKeptS.f at H
 go_enter Tryz.func62, Tryz.ntmps62
 replace H := znif' H; rcases H with ⟨c1, H⟩ | ⟨c1, H⟩
 case inl =>
  have c1a := beq_eq_false_iff_ne.mpr c1
  have c1b := bne_iff_ne.mpr c1
  clear c1
  obtain rfl := zsome H
  go_wp2
  go_ret
  exact HS.pk
 have c1a := beq_iff_eq.mpr c1
 have c1b := bne_eq_false_iff_eq.mpr c1
 clear c1
 go_wp2
 go_loopg [5] k (fun kq v_5 w' => ∃ (x5 : Int), v_5 = .int .i64 x5 ∧ Aside0 (laws_eqKeptS.l0 kq x5 a0 a1 = some r) ∧ Aside0 (kq ≤ k) ∧ Hp noFP w w' [])
 case atStart => exact ⟨_, rfl, H, ⟨Nat.le_refl _⟩, HS⟩
 case round =>
  clear HS H; (try clear F)
  obtain ⟨x5, rfl, H, HKk4, HS⟩ := hrel
  cases gk with
  | zero => exact absurd H.out (by simp [laws_eqKeptS.l0])
  | succ k4 =>
   simp only [laws_eqKeptS.l0] at H
   replace H := znif H; rcases H with ⟨c7, H⟩ | ⟨c7, H⟩
   case inl =>
    obtain rfl := zsome H
    go_wp2
    go_ret
    exact HS.pk
   (try go_wp2)
   replace H := zgo H; obtain ⟨c3, H⟩ := H
   replace H := zgo H; obtain ⟨c8, H⟩ := H
   obtain ⟨ad10, rfl, e10_0, e10_1, e10_2⟩ := at_T167 gp0 x5 (of_eq_true c3) (of_eq_true c8)
   replace H := zgo H; obtain ⟨c12, H⟩ := H
   obtain ⟨ad13, rfl, e13_0, e13_1, e13_2⟩ := at_T167 gp1 x5 (of_eq_true c3) (of_eq_true c12)
   replace H := zbind H; obtain ⟨t14, ht14, H⟩ := H
   refine dr_start [] HS #[false, false, false, false, false, false, false, false, false, false] (by kernel_rfl) rfl rfl laws_eqKeptS.tT6 (fun w9 HT HS HH => ?_)
   (try clear F)
   refine drq_of [(0, some 17), (1, some 18), (2, some 19)] ?_
   repeat (refine drp HT ?_)
   refine drq_end ?_
   refine dr_take 3 (some 20) HT HH (v := ?_) (a' := ?_) rfl rfl (by kernel_rfl) (fun _ _ _ h => h) (.inl ⟨by rfl, ?_⟩) ?_ ?_
   rotate_left
   · rintro w' ⟨rs', HS'⟩; have e10_0 := (HS'.keepc e10_0); have e10_1 := (HS'.keepc e10_1); have e10_2 := (HS'.keepc e10_2); go_simp; with_reducible rfl
   rotate_left
   · simp only [Act.put, ptn]; rfl
   refine drq_of [(4, some 21), (5, some 22), (6, some 23)] ?_
   repeat (refine drp HT ?_)
   refine drq_end ?_
   refine dr_take 7 (some 24) HT HH (v := ?_) (a' := ?_) rfl rfl (by kernel_rfl) (fun _ _ _ h => h) (.inl ⟨by rfl, ?_⟩) ?_ ?_
   rotate_left
   · rintro w' ⟨rs', HS'⟩; have e13_0 := (HS'.keepc e13_0); have e13_1 := (HS'.keepc e13_1); have e13_2 := (HS'.keepc e13_2); go_simp; with_reducible rfl
   rotate_left
   · simp only [Act.put, ptn]; rfl
   refine dr1 8 HT fun K hK => ?_
   refine go_cl HS (laws_eqKept.calls ht14.out) Tryz.func100 ?_; clear HS; (try clear F); intro wt14 HS F
   refine nrm 25 hK ⟨_, HS⟩ (fun HH => ?_); clear hK K
   refine drq_of [(9, some 26)] ?_
   repeat (refine drp HT ?_)
   refine drq_end ?_
   refine done_ (done_of HT.out (by kernel_rfl)) ?_
   replace H := znifb H; rcases H with ⟨c11, H⟩ | ⟨c11, H⟩
   case inl =>
    subst c11
    (try simp only [dcn, if_true, Bool.false_eq_true, if_false])
    obtain rfl := zsome H
    go_wp2
    go_ret
    exact HS.pk
   subst c11
   (try simp only [dcn, if_true, Bool.false_eq_true, if_false])
   go_wp2
   go_roundg k4
   case measure => have := HKk4.out; omega
   case rel => exact ⟨_, rfl, H, ⟨by have := HKk4.out; omega⟩, HS.pick [] (by decide) (by rfl)⟩
end Go.Proofs.YtfiifjlapaefaaaGreat.F

/- Functions of the program and of the law, and that their calls do what is written here. -/
import Derived.Test.YtacocpknielofaaGreatDoorZgFnExactShowWorldb
import Derived.Test.YtacocpknielofaaGreatDoorZgFnExactShowWorldd
import Derived.Test.YtacocpknielofaaGreatDoorZgFnExactShowWorlde
import Derived.Test.YtacocpknielofaaGreatDoorZgFnExactShowWorldf
namespace Go.Proofs.YtacocpknielofaaGreatDoor.F
open Go.RowKit Go.Proofs.YtacocpknielofaaGreatDoorW.PrintWords Go.Proofs.YtacocpknielofaaGreatDoorW.PrintLast Go.Proofs.YtacocpknielofaaGreatDoorW.PrintMore Go.Proofs.YtacocpknielofaaGreatDoor.Z
attribute [local go_sem] max2_int min2_int max_two min_two max_three min_three max_four min_four
set_option linter.unusedVariables false
set_option linter.unusedSimpArgs false
set_option maxRecDepth 100000
/-! ### laws_eqGot: function 219 -/
def laws_eqGot.f (k : Nat) (a0 : S223) (a1 : S223) : Option (Bool) := (if a0.f0 = a1.f0 then ((laws_eqReply.f k a0.f1 a1.f1).bind fun t6 => (if t6 = true then (some true) else (some false))) else (some false))
set_option maxHeartbeats 16000000 in
theorem laws_eqGot.calls {k : Nat} {a0 : S223} {a1 : S223} {Ap0 : Option Addr} {np0 cp0 : Nat} {Ap1 : Option Addr} {np1 cp1 : Nat} {r : Bool} {w : World} (h : laws_eqGot.f k a0 a1 = some r) (gp0 : k273.C w Ap0 np0 a0.f1.f6) (lp0 : np0 ≤ cp0) (gp1 : k273.C w Ap1 np1 a1.f1.f6) (lp1 : np1 ≤ cp1) :
    Calls Tryz.prog 219 #[.agg #[.int .i64 a0.f0, .string a0.f1.f0, .int .i64 a0.f1.f1, .int .i64 a0.f1.f2, .int .i64 a0.f1.f3, .int .i64 a0.f1.f4, .int .i64 a0.f1.f5, .slice Ap0 np0 cp0, .string a0.f1.f7], .agg #[.int .i64 a1.f0, .string a1.f1.f0, .int .i64 a1.f1.f1, .int .i64 a1.f1.f2, .int .i64 a1.f1.f3, .int .i64 a1.f1.f4, .int .i64 a1.f1.f5, .slice Ap1 np1 cp1, .string a1.f1.f7]] w (fun e w' => e = .returned (.bool r) ∧ Hp noFP w w' []) := by
 obtain rfl := C_len gp0
 obtain rfl := C_len gp1
 have HS := Hp.start w
 have H := Aside0.mk h
 clear h
 unfold laws_eqGot.f at H
 go_enter Tryz.func219, Tryz.ntmps219
 go_upto_if 9 with (first | ((with_reducible refine gd 2 rfl ?_); refine ev_bx HS ?_; clear HS; (try clear F); intro g2 w2 HS F) | ((with_reducible refine gd 3 rfl ?_); refine ev_bx HS ?_; clear HS; (try clear F); intro g3 w3 HS F))
 replace H := znif' H; rcases H with ⟨c5, H⟩ | ⟨c5, H⟩
 case inl =>
  have c5a := beq_eq_false_iff_ne.mpr c5
  have c5b := bne_iff_ne.mpr c5
  clear c5
  (try simp only [c5a, c5b, dcn])
  obtain rfl := zsome H
  go_wp2
  go_ret
  exact HS.pk
 have c5a := beq_iff_eq.mpr c5
 have c5b := bne_eq_false_iff_eq.mpr c5
 clear c5
 (try simp only [c5a, c5b, dcn])
 replace H := zbind H; obtain ⟨t6, ht6, H⟩ := H
 go_upto_if 15 with (first | ((with_reducible refine gd 14 rfl ?_); refine ev_cl HS (laws_eqReply.calls ht6.out (HS.ro gp0) lp0 (HS.ro gp1) lp1) Tryz.func232 ?_; clear HS; (try clear F); intro wt6 HS F))
 replace H := zifb H; rcases H with ⟨c8, H⟩ | ⟨c8, H⟩
 case inl =>
  subst c8
  (try simp only [dcn, if_true, Bool.false_eq_true, if_false])
  obtain rfl := zsome H
  go_wp2
  go_ret
  exact HS.pk
 subst c8
 (try simp only [dcn, if_true, Bool.false_eq_true, if_false])
 obtain rfl := zsome H
 go_wp2
 go_ret
 exact HS.pk
/-! ### laws_eqGotS: function 172 -/
def laws_eqGotS.l0 : Nat → Int → (List S223) → (List S223) → Option (Bool)
  | 0, _, _, _ => none
  | k + 1, x5, a0, a1 => (if x5 < (a0.length : Int) then (if 0 ≤ x5 then (if x5 < (a0.length : Int) then (if x5 < (a1.length : Int) then ((laws_eqGot.f k (rd_T223 a0 x5) (rd_T223 a1 x5)).bind fun t14 => (if t14 = true then (laws_eqGotS.l0 k (wrap64 (x5 + 1)) a0 a1) else (some false))) else none) else none) else none) else (some true))
def laws_eqGotS.f (k : Nat) (a0 : (List S223)) (a1 : (List S223)) : Option (Bool) := (if (a0.length : Int) = (a1.length : Int) then (laws_eqGotS.l0 k 0 a0 a1) else (some false))
def laws_eqGotS.T6 : Bool × List (List Nat × List Nat) := (true, [([], []), ([], []), ([0, 1], [0, 1]), ([2], [2]), ([], []), ([], []), ([4, 5], [4, 5]), ([6], [6]), ([3, 7], [3, 7]), ([8], [8])])
theorem laws_eqGotS.tT6 : rtab .any (opsOf Tryz.f172 6) = laws_eqGotS.T6 := by kernel_rfl
set_option maxHeartbeats 16000000 in
theorem laws_eqGotS.calls {k : Nat} {a0 : (List S223)} {a1 : (List S223)} {Ap0 : Option Addr} {np0 cp0 : Nat} {Ap1 : Option Addr} {np1 cp1 : Nat} {r : Bool} {w : World} (h : laws_eqGotS.f k a0 a1 = some r) (gp0 : k223.C w Ap0 np0 a0) (lp0 : np0 ≤ cp0) (gp1 : k223.C w Ap1 np1 a1) (lp1 : np1 ≤ cp1) :
    Calls Tryz.prog 172 #[.slice Ap0 np0 cp0, .slice Ap1 np1 cp1] w (fun e w' => e = .returned (.bool r) ∧ Hp noFP w w' []) := by
 obtain rfl := C_len gp0
 obtain rfl := C_len gp1
 have HS := Hp.start w
 have H := Aside0.mk h
 clear h
 unfold laws_eqGotS.f at H
 go_enter Tryz.func172, Tryz.ntmps172
 replace H := znif' H; rcases H with ⟨c1, H⟩ | ⟨c1, H⟩
 case inl =>
  have c1a := beq_eq_false_iff_ne.mpr c1
  have c1b := bne_iff_ne.mpr c1
  clear c1
  obtain rfl := zsome H
  go_wp2
  go_ret
  exact HS.pk
 have c1a := beq_iff_eq.mpr c1
 have c1b := bne_eq_false_iff_eq.mpr c1
 clear c1
 go_wp2
 go_loopg [5] k (fun kq v_5 w' => ∃ (x5 : Int), v_5 = .int .i64 x5 ∧ Aside0 (laws_eqGotS.l0 kq x5 a0 a1 = some r) ∧ Aside0 (kq ≤ k) ∧ Hp noFP w w' [])
 case atStart => exact ⟨_, rfl, H, ⟨Nat.le_refl _⟩, HS⟩
 case round =>
  clear HS H; (try clear F)
  obtain ⟨x5, rfl, H, HKk4, HS⟩ := hrel
  cases gk with
  | zero => exact absurd H.out (by simp [laws_eqGotS.l0])
  | succ k4 =>
   simp only [laws_eqGotS.l0] at H
   replace H := znif H; rcases H with ⟨c7, H⟩ | ⟨c7, H⟩
   case inl =>
    obtain rfl := zsome H
    go_wp2
    go_ret
    exact HS.pk
   (try go_wp2)
   replace H := zgo H; obtain ⟨c3, H⟩ := H
   replace H := zgo H; obtain ⟨c8, H⟩ := H
   obtain ⟨ad10, B10_7, d10_7, rfl, e10_0, e10_1, e10_2, e10_3, e10_4, e10_5, e10_6, e10_7, e10_8, m10_7, y10_7⟩ := at_T223 gp0 x5 (of_eq_true c3) (of_eq_true c8)
   replace H := zgo H; obtain ⟨c12, H⟩ := H
   obtain ⟨ad13, B13_7, d13_7, rfl, e13_0, e13_1, e13_2, e13_3, e13_4, e13_5, e13_6, e13_7, e13_8, m13_7, y13_7⟩ := at_T223 gp1 x5 (of_eq_true c3) (of_eq_true c12)
   replace H := zbind H; obtain ⟨t14, ht14, H⟩ := H
   refine dr_start [] HS #[false, false, false, false, false, false, false, false, false, false] (by kernel_rfl) rfl rfl laws_eqGotS.tT6 (fun w9 HT HS HH => ?_)
   (try clear F)
   refine drq_of [(0, some 17), (1, some 18), (2, some 19)] ?_
   repeat (refine drp HT ?_)
   refine drq_end ?_
   refine dr_take 3 (some 20) HT HH (v := ?_) (a' := ?_) rfl rfl (by kernel_rfl) (fun _ _ _ h => h) (.inl ⟨by rfl, ?_⟩) ?_ ?_
   rotate_left
   · rintro w' ⟨rs', HS'⟩; have e10_0 := (HS'.keepc e10_0); have e10_1 := (HS'.keepc e10_1); have e10_2 := (HS'.keepc e10_2); have e10_3 := (HS'.keepc e10_3); have e10_4 := (HS'.keepc e10_4); have e10_5 := (HS'.keepc e10_5); have e10_6 := (HS'.keepc e10_6); have e10_7 := (HS'.keepc e10_7); have e10_8 := (HS'.keepc e10_8); go_simp; with_reducible rfl
   rotate_left
   · simp only [Act.put, ptn]; rfl
   refine drq_of [(4, some 21), (5, some 22), (6, some 23)] ?_
   repeat (refine drp HT ?_)
   refine drq_end ?_
   refine dr_take 7 (some 24) HT HH (v := ?_) (a' := ?_) rfl rfl (by kernel_rfl) (fun _ _ _ h => h) (.inl ⟨by rfl, ?_⟩) ?_ ?_
   rotate_left
   · rintro w' ⟨rs', HS'⟩; have e13_0 := (HS'.keepc e13_0); have e13_1 := (HS'.keepc e13_1); have e13_2 := (HS'.keepc e13_2); have e13_3 := (HS'.keepc e13_3); have e13_4 := (HS'.keepc e13_4); have e13_5 := (HS'.keepc e13_5); have e13_6 := (HS'.keepc e13_6); have e13_7 := (HS'.keepc e13_7); have e13_8 := (HS'.keepc e13_8); go_simp; with_reducible rfl
   rotate_left
   · simp only [Act.put, ptn]; rfl
   refine dr1 8 HT fun K hK => ?_
   refine go_cl HS (laws_eqGot.calls ht14.out (HS.ro y10_7) m10_7 (HS.ro y13_7) m13_7) Tryz.func219 ?_; clear HS; (try clear F); intro wt14 HS F
   refine nrm 25 hK ⟨_, HS⟩ (fun HH => ?_); clear hK K
   refine drq_of [(9, some 26)] ?_
   repeat (refine drp HT ?_)
   refine drq_end ?_
   refine done_ (done_of HT.out (by kernel_rfl)) ?_
   replace H := znifb H; rcases H with ⟨c11, H⟩ | ⟨c11, H⟩
   case inl =>
    subst c11
    (try simp only [dcn, if_true, Bool.false_eq_true, if_false])
    obtain rfl := zsome H
    go_wp2
    go_ret
    exact HS.pk
   subst c11
   (try simp only [dcn, if_true, Bool.false_eq_true, if_false])
   go_wp2
   go_roundg k4
   case measure => have := HKk4.out; omega
   case rel => exact ⟨_, rfl, H, ⟨by have := HKk4.out; omega⟩, HS.pick [] (by decide) (by rfl)⟩
/-! ### laws_eqClient: function 99 -/
def laws_eqClient.f (k : Nat) (a0 : S65) (a1 : S65) : Option (Bool) := (if a0.f0.toList = a1.f0.toList then (if a0.f1 = a1.f1 then ((laws_eqWaitS.f k a0.f2 a1.f2).bind fun t7 => (if t7 = true then ((laws_eqGotS.f k a0.f3 a1.f3).bind fun t10 => (if t10 = true then ((laws_eqIntS.f k a0.f4 a1.f4).bind fun t13 => (if t13 = true then (some true) else (some false))) else (some false))) else (some false))) else (some false)) else (some false))
set_option maxHeartbeats 16000000 in
theorem laws_eqClient.calls {k : Nat} {a0 : S65} {a1 : S65} {Ap0 : Option Addr} {np0 cp0 : Nat} {Ap1 : Option Addr} {np1 cp1 : Nat} {Ap2 : Option Addr} {np2 cp2 : Nat} {Ap3 : Option Addr} {np3 cp3 : Nat} {Ap4 : Option Addr} {np4 cp4 : Nat} {Ap5 : Option Addr} {np5 cp5 : Nat} {r : Bool} {w : World} (h : laws_eqClient.f k a0 a1 = some r) (gp0 : k274.C w Ap0 np0 a0.f2) (lp0 : np0 ≤ cp0) (gp1 : k223.C w Ap1 np1 a0.f3) (lp1 : np1 ≤ cp1) (gp2 : (Kd.int .i64).C w Ap2 np2 a0.f4) (lp2 : np2 ≤ cp2) (gp3 : k274.C w Ap3 np3 a1.f2) (lp3 : np3 ≤ cp3) (gp4 : k223.C w Ap4 np4 a1.f3) (lp4 : np4 ≤ cp4) (gp5 : (Kd.int .i64).C w Ap5 np5 a1.f4) (lp5 : np5 ≤ cp5) :
    Calls Tryz.prog 99 #[.agg #[.string a0.f0, .int .i64 a0.f1, .slice Ap0 np0 cp0, .slice Ap1 np1 cp1, .slice Ap2 np2 cp2], .agg #[.string a1.f0, .int .i64 a1.f1, .slice Ap3 np3 cp3, .slice Ap4 np4 cp4, .slice Ap5 np5 cp5]] w (fun e w' => e = .returned (.bool r) ∧ Hp noFP w w' []) := by
 obtain rfl := C_len gp0
 obtain rfl := C_len gp1
 obtain rfl := C_len gp2
 obtain rfl := C_len gp3
 obtain rfl := C_len gp4
 obtain rfl := C_len gp5
 have HS := Hp.start w
 have H := Aside0.mk h
 clear h
 unfold laws_eqClient.f at H
 go_enter Tryz.func99, Tryz.ntmps99
 go_upto_if 9 with (first | ((with_reducible refine gd 2 rfl ?_); refine ev_bx HS ?_; clear HS; (try clear F); intro g2 w2 HS F) | ((with_reducible refine gd 3 rfl ?_); refine ev_bx HS ?_; clear HS; (try clear F); intro g3 w3 HS F))
 replace H := znif' H; rcases H with ⟨c5, H⟩ | ⟨c5, H⟩
 case inl =>
  have c5a := beq_eq_false_iff_ne.mpr c5
  have c5b := bne_iff_ne.mpr c5
  clear c5
  (try simp only [c5a, c5b, dcn])
  obtain rfl := zsome H
  go_wp2
  go_ret
  exact HS.pk
 have c5a := beq_iff_eq.mpr c5
 have c5b := bne_eq_false_iff_eq.mpr c5
 clear c5
 (try simp only [c5a, c5b, dcn])
 replace H := znif' H; rcases H with ⟨c6, H⟩ | ⟨c6, H⟩
 case inl =>
  have c6a := beq_eq_false_iff_ne.mpr c6
  have c6b := bne_iff_ne.mpr c6
  clear c6
  obtain rfl := zsome H
  go_wp2
  go_ret
  exact HS.pk
 have c6a := beq_iff_eq.mpr c6
 have c6b := bne_eq_false_iff_eq.mpr c6
 clear c6
 replace H := zbind H; obtain ⟨t7, ht7, H⟩ := H
 go_upto_if 20 with (first | ((with_reducible refine gd 19 rfl ?_); refine ev_cl HS (laws_eqWaitS.calls ht7.out (HS.ro gp0) lp0 (HS.ro gp3) lp3) Tryz.func171 ?_; clear HS; (try clear F); intro wt7 HS F))
 replace H := znifb H; rcases H with ⟨c9, H⟩ | ⟨c9, H⟩
 case inl =>
  subst c9
  (try simp only [dcn, if_true, Bool.false_eq_true, if_false])
  obtain rfl := zsome H
  go_wp2
  go_ret
  exact HS.pk
 subst c9
 (try simp only [dcn, if_true, Bool.false_eq_true, if_false])
 replace H := zbind H; obtain ⟨t10, ht10, H⟩ := H
 go_upto_if 26 with (first | ((with_reducible refine gd 25 rfl ?_); refine ev_cl HS (laws_eqGotS.calls ht10.out (HS.ro gp1) lp1 (HS.ro gp4) lp4) Tryz.func172 ?_; clear HS; (try clear F); intro wt10 HS F))
 replace H := znifb H; rcases H with ⟨c12, H⟩ | ⟨c12, H⟩
 case inl =>
  subst c12
  (try simp only [dcn, if_true, Bool.false_eq_true, if_false])
  obtain rfl := zsome H
  go_wp2
  go_ret
  exact HS.pk
 subst c12
 (try simp only [dcn, if_true, Bool.false_eq_true, if_false])
 replace H := zbind H; obtain ⟨t13, ht13, H⟩ := H
 go_upto_if 32 with (first | ((with_reducible refine gd 31 rfl ?_); refine ev_cl HS (laws_eqIntS.calls ht13.out (HS.ro gp2) lp2 (HS.ro gp5) lp5) Tryz.func101 ?_; clear HS; (try clear F); intro wt13 HS F))
 replace H := zifb H; rcases H with ⟨c15, H⟩ | ⟨c15, H⟩
 case inl =>
  subst c15
  (try simp only [dcn, if_true, Bool.false_eq_true, if_false])
  obtain rfl := zsome H
  go_wp2
  go_ret
  exact HS.pk
 subst c15
 (try simp only [dcn, if_true, Bool.false_eq_true, if_false])
 obtain rfl := zsome H
 go_wp2
 go_ret
 exact HS.pk
/-! ### laws_eqWorld: function 25 -/
def laws_eqWorld.f (k : Nat) (a0 : S69) (a1 : S69) : Option (Bool) := ((laws_eqServer.f k a0.f0 a1.f0).bind fun t5 => (if t5 = true then ((laws_eqClient.f k a0.f1 a1.f1).bind fun t8 => (if t8 = true then ((laws_eqCertS.f k a0.f2 a1.f2).bind fun t11 => (if t11 = true then ((laws_eqLetterS.f k a0.f3 a1.f3).bind fun t14 => (if t14 = true then ((laws_eqIntS.f k a0.f4 a1.f4).bind fun t17 => (if t17 = true then ((laws_eqPoseS.f k a0.f5 a1.f5).bind fun t20 => (if t20 = true then ((laws_eqStringS.f k a0.f6 a1.f6).bind fun t23 => (if t23 = true then ((laws_eqStringS.f k a0.f7 a1.f7).bind fun t26 => (if t26 = true then (some true) else (some false))) else (some false))) else (some false))) else (some false))) else (some false))) else (some false))) else (some false))) else (some false)))
set_option maxHeartbeats 16000000 in
theorem laws_eqWorld.calls {k : Nat} {a0 : S69} {a1 : S69} {Ap0 : Option Addr} {np0 cp0 : Nat} {Ap1 : Option Addr} {np1 cp1 : Nat} {Ap2 : Option Addr} {np2 cp2 : Nat} {Ap3 : Option Addr} {np3 cp3 : Nat} {Ap4 : Option Addr} {np4 cp4 : Nat} {Ap5 : Option Addr} {np5 cp5 : Nat} {Ap6 : Option Addr} {np6 cp6 : Nat} {Ap7 : Option Addr} {np7 cp7 : Nat} {Ap8 : Option Addr} {np8 cp8 : Nat} {Ap9 : Option Addr} {np9 cp9 : Nat} {Ap10 : Option Addr} {np10 cp10 : Nat} {Ap11 : Option Addr} {np11 cp11 : Nat} {Ap12 : Option Addr} {np12 cp12 : Nat} {Ap13 : Option Addr} {np13 cp13 : Nat} {Ap14 : Option Addr} {np14 cp14 : Nat} {Ap15 : Option Addr} {np15 cp15 : Nat} {Ap16 : Option Addr} {np16 cp16 : Nat} {Ap17 : Option Addr} {np17 cp17 : Nat} {Ap18 : Option Addr} {np18 cp18 : Nat} {Ap19 : Option Addr} {np19 cp19 : Nat} {Ap20 : Option Addr} {np20 cp20 : Nat} {Ap21 : Option Addr} {np21 cp21 : Nat} {Ap22 : Option Addr} {np22 cp22 : Nat} {Ap23 : Option Addr} {np23 cp23 : Nat} {Ap24 : Option Addr} {np24 cp24 : Nat} {Ap25 : Option Addr} {np25 cp25 : Nat} {Ap26 : Option Addr} {np26 cp26 : Nat} {Ap27 : Option Addr} {np27 cp27 : Nat} {r : Bool} {w : World} (h : laws_eqWorld.f k a0 a1 = some r) (gp0 : k91.C w Ap0 np0 a0.f0.f0.f0) (lp0 : np0 ≤ cp0) (gp1 : k81.C w Ap1 np1 a0.f0.f0.f1) (lp1 : np1 ≤ cp1) (gp2 : k115.C w Ap2 np2 a0.f0.f0.f2) (lp2 : np2 ≤ cp2) (gp3 : k202.C w Ap3 np3 a0.f0.f1) (lp3 : np3 ≤ cp3) (gp4 : k205.C w Ap4 np4 a0.f0.f5) (lp4 : np4 ≤ cp4) (gp5 : k274.C w Ap5 np5 a0.f1.f2) (lp5 : np5 ≤ cp5) (gp6 : k223.C w Ap6 np6 a0.f1.f3) (lp6 : np6 ≤ cp6) (gp7 : (Kd.int .i64).C w Ap7 np7 a0.f1.f4) (lp7 : np7 ≤ cp7) (gp8 : k91.C w Ap8 np8 a0.f2) (lp8 : np8 ≤ cp8) (gp9 : k228.C w Ap9 np9 a0.f3) (lp9 : np9 ≤ cp9) (gp10 : (Kd.int .i64).C w Ap10 np10 a0.f4) (lp10 : np10 ≤ cp10) (gp11 : k230.C w Ap11 np11 a0.f5) (lp11 : np11 ≤ cp11) (gp12 : Kd.string.C w Ap12 np12 a0.f6) (lp12 : np12 ≤ cp12) (gp13 : Kd.string.C w Ap13 np13 a0.f7) (lp13 : np13 ≤ cp13) (gp14 : k91.C w Ap14 np14 a1.f0.f0.f0) (lp14 : np14 ≤ cp14) (gp15 : k81.C w Ap15 np15 a1.f0.f0.f1) (lp15 : np15 ≤ cp15) (gp16 : k115.C w Ap16 np16 a1.f0.f0.f2) (lp16 : np16 ≤ cp16) (gp17 : k202.C w Ap17 np17 a1.f0.f1) (lp17 : np17 ≤ cp17) (gp18 : k205.C w Ap18 np18 a1.f0.f5) (lp18 : np18 ≤ cp18) (gp19 : k274.C w Ap19 np19 a1.f1.f2) (lp19 : np19 ≤ cp19) (gp20 : k223.C w Ap20 np20 a1.f1.f3) (lp20 : np20 ≤ cp20) (gp21 : (Kd.int .i64).C w Ap21 np21 a1.f1.f4) (lp21 : np21 ≤ cp21) (gp22 : k91.C w Ap22 np22 a1.f2) (lp22 : np22 ≤ cp22) (gp23 : k228.C w Ap23 np23 a1.f3) (lp23 : np23 ≤ cp23) (gp24 : (Kd.int .i64).C w Ap24 np24 a1.f4) (lp24 : np24 ≤ cp24) (gp25 : k230.C w Ap25 np25 a1.f5) (lp25 : np25 ≤ cp25) (gp26 : Kd.string.C w Ap26 np26 a1.f6) (lp26 : np26 ≤ cp26) (gp27 : Kd.string.C w Ap27 np27 a1.f7) (lp27 : np27 ≤ cp27) :
    Calls Tryz.prog 25 #[.agg #[.slice Ap0 np0 cp0, .slice Ap1 np1 cp1, .slice Ap2 np2 cp2, .slice Ap3 np3 cp3, .int .i64 a0.f0.f2, .int .i64 a0.f0.f3, .int .i64 a0.f0.f4, .slice Ap4 np4 cp4, .string a0.f1.f0, .int .i64 a0.f1.f1, .slice Ap5 np5 cp5, .slice Ap6 np6 cp6, .slice Ap7 np7 cp7, .slice Ap8 np8 cp8, .slice Ap9 np9 cp9, .slice Ap10 np10 cp10, .slice Ap11 np11 cp11, .slice Ap12 np12 cp12, .slice Ap13 np13 cp13], .agg #[.slice Ap14 np14 cp14, .slice Ap15 np15 cp15, .slice Ap16 np16 cp16, .slice Ap17 np17 cp17, .int .i64 a1.f0.f2, .int .i64 a1.f0.f3, .int .i64 a1.f0.f4, .slice Ap18 np18 cp18, .string a1.f1.f0, .int .i64 a1.f1.f1, .slice Ap19 np19 cp19, .slice Ap20 np20 cp20, .slice Ap21 np21 cp21, .slice Ap22 np22 cp22, .slice Ap23 np23 cp23, .slice Ap24 np24 cp24, .slice Ap25 np25 cp25, .slice Ap26 np26 cp26, .slice Ap27 np27 cp27]] w (fun e w' => e = .returned (.bool r) ∧ Hp noFP w w' []) := by
 obtain rfl := C_len gp0
 obtain rfl := C_len gp1
 obtain rfl := C_len gp2
 obtain rfl := C_len gp3
 obtain rfl := C_len gp4
 obtain rfl := C_len gp5
 obtain rfl := C_len gp6
 obtain rfl := C_len gp7
 obtain rfl := C_len gp8
 obtain rfl := C_len gp9
 obtain rfl := C_len gp10
 obtain rfl := C_len gp11
 obtain rfl := C_len gp12
 obtain rfl := C_len gp13
 obtain rfl := C_len gp14
 obtain rfl := C_len gp15
 obtain rfl := C_len gp16
 obtain rfl := C_len gp17
 obtain rfl := C_len gp18
 obtain rfl := C_len gp19
 obtain rfl := C_len gp20
 obtain rfl := C_len gp21
 obtain rfl := C_len gp22
 obtain rfl := C_len gp23
 obtain rfl := C_len gp24
 obtain rfl := C_len gp25
 obtain rfl := C_len gp26
 obtain rfl := C_len gp27
 have HS := Hp.start w
 have H := Aside0.mk h
 clear h
 unfold laws_eqWorld.f at H
 go_enter Tryz.func25, Tryz.ntmps25
 replace H := zbind H; obtain ⟨t5, ht5, H⟩ := H
 go_upto_if 10 with (first | ((with_reducible refine gd 2 rfl ?_); refine ev_bx HS ?_; clear HS; (try clear F); intro g2 w2 HS F) | ((with_reducible refine gd 3 rfl ?_); refine ev_bx HS ?_; clear HS; (try clear F); intro g3 w3 HS F) | ((with_reducible refine gd 9 rfl ?_); refine ev_cl HS (laws_eqServer.calls ht5.out (HS.ro gp0) lp0 (HS.ro gp1) lp1 (HS.ro gp2) lp2 (HS.ro gp3) lp3 (HS.ro gp4) lp4 (HS.ro gp14) lp14 (HS.ro gp15) lp15 (HS.ro gp16) lp16 (HS.ro gp17) lp17 (HS.ro gp18) lp18) Tryz.func20 ?_; clear HS; (try clear F); intro wt5 HS F))
 replace H := znifb H; rcases H with ⟨c7, H⟩ | ⟨c7, H⟩
 case inl =>
  subst c7
  (try simp only [dcn, if_true, Bool.false_eq_true, if_false])
  obtain rfl := zsome H
  go_wp2
  go_ret
  exact HS.pk
 subst c7
 (try simp only [dcn, if_true, Bool.false_eq_true, if_false])
 replace H := zbind H; obtain ⟨t8, ht8, H⟩ := H
 go_upto_if 16 with (first | ((with_reducible refine gd 15 rfl ?_); refine ev_cl HS (laws_eqClient.calls ht8.out (HS.ro gp5) lp5 (HS.ro gp6) lp6 (HS.ro gp7) lp7 (HS.ro gp19) lp19 (HS.ro gp20) lp20 (HS.ro gp21) lp21) Tryz.func99 ?_; clear HS; (try clear F); intro wt8 HS F))
 replace H := znifb H; rcases H with ⟨c10, H⟩ | ⟨c10, H⟩
 case inl =>
  subst c10
  (try simp only [dcn, if_true, Bool.false_eq_true, if_false])
  obtain rfl := zsome H
  go_wp2
  go_ret
  exact HS.pk
 subst c10
 (try simp only [dcn, if_true, Bool.false_eq_true, if_false])
 replace H := zbind H; obtain ⟨t11, ht11, H⟩ := H
 go_upto_if 22 with (first | ((with_reducible refine gd 21 rfl ?_); refine ev_cl HS (laws_eqCertS.calls ht11.out (HS.ro gp8) lp8 (HS.ro gp22) lp22) Tryz.func68 ?_; clear HS; (try clear F); intro wt11 HS F))
 replace H := znifb H; rcases H with ⟨c13, H⟩ | ⟨c13, H⟩
 case inl =>
  subst c13
  (try simp only [dcn, if_true, Bool.false_eq_true, if_false])
  obtain rfl := zsome H
  go_wp2
  go_ret
  exact HS.pk
 subst c13
 (try simp only [dcn, if_true, Bool.false_eq_true, if_false])
 replace H := zbind H; obtain ⟨t14, ht14, H⟩ := H
 go_upto_if 28 with (first | ((with_reducible refine gd 27 rfl ?_); refine ev_cl HS (laws_eqLetterS.calls ht14.out (HS.ro gp9) lp9 (HS.ro gp23) lp23) Tryz.func100 ?_; clear HS; (try clear F); intro wt14 HS F))
 replace H := znifb H; rcases H with ⟨c16, H⟩ | ⟨c16, H⟩
 case inl =>
  subst c16
  (try simp only [dcn, if_true, Bool.false_eq_true, if_false])
  obtain rfl := zsome H
  go_wp2
  go_ret
  exact HS.pk
 subst c16
 (try simp only [dcn, if_true, Bool.false_eq_true, if_false])
 replace H := zbind H; obtain ⟨t17, ht17, H⟩ := H
 go_upto_if 34 with (first | ((with_reducible refine gd 33 rfl ?_); refine ev_cl HS (laws_eqIntS.calls ht17.out (HS.ro gp10) lp10 (HS.ro gp24) lp24) Tryz.func101 ?_; clear HS; (try clear F); intro wt17 HS F))
 replace H := znifb H; rcases H with ⟨c19, H⟩ | ⟨c19, H⟩
 case inl =>
  subst c19
  (try simp only [dcn, if_true, Bool.false_eq_true, if_false])
  obtain rfl := zsome H
  go_wp2
  go_ret
  exact HS.pk
 subst c19
 (try simp only [dcn, if_true, Bool.false_eq_true, if_false])
 replace H := zbind H; obtain ⟨t20, ht20, H⟩ := H
 go_upto_if 40 with (first | ((with_reducible refine gd 39 rfl ?_); refine ev_cl HS (laws_eqPoseS.calls ht20.out (HS.ro gp11) lp11 (HS.ro gp25) lp25) Tryz.func102 ?_; clear HS; (try clear F); intro wt20 HS F))
 replace H := znifb H; rcases H with ⟨c22, H⟩ | ⟨c22, H⟩
 case inl =>
  subst c22
  (try simp only [dcn, if_true, Bool.false_eq_true, if_false])
  obtain rfl := zsome H
  go_wp2
  go_ret
  exact HS.pk
 subst c22
 (try simp only [dcn, if_true, Bool.false_eq_true, if_false])
 replace H := zbind H; obtain ⟨t23, ht23, H⟩ := H
 go_upto_if 46 with (first | ((with_reducible refine gd 45 rfl ?_); refine ev_cl HS (laws_eqStringS.calls ht23.out (HS.ro gp12) lp12 (HS.ro gp26) lp26) Tryz.func103 ?_; clear HS; (try clear F); intro wt23 HS F))
 replace H := znifb H; rcases H with ⟨c25, H⟩ | ⟨c25, H⟩
 case inl =>
  subst c25
  (try simp only [dcn, if_true, Bool.false_eq_true, if_false])
  obtain rfl := zsome H
  go_wp2
  go_ret
  exact HS.pk
 subst c25
 (try simp only [dcn, if_true, Bool.false_eq_true, if_false])
 replace H := zbind H; obtain ⟨t26, ht26, H⟩ := H
 go_upto_if 52 with (first | ((with_reducible refine gd 51 rfl ?_); refine ev_cl HS (laws_eqStringS.calls ht26.out (HS.ro gp13) lp13 (HS.ro gp27) lp27) Tryz.func103 ?_; clear HS; (try clear F); intro wt26 HS F))
 replace H := zifb H; rcases H with ⟨c28, H⟩ | ⟨c28, H⟩
 case inl =>
  subst c28
  (try simp only [dcn, if_true, Bool.false_eq_true, if_false])
  obtain rfl := zsome H
  go_wp2
  go_ret
  exact HS.pk
 subst c28
 (try simp only [dcn, if_true, Bool.false_eq_true, if_false])
 obtain rfl := zsome H
 go_wp2
 go_ret
 exact HS.pk
/-! ### laws_FnExactShowWorld: function 5 -/
def laws_FnExactShowWorld.f (k : Nat) (a0 : S59) : Option (Bool) := ((laws_szWorld.f k a0 1048576).bind fun t3 => (if t3 < 0 then (some true) else ((laws_toWorld.f k a0).bind fun t6 => ((spec_ShowWorld.f k t6).bind fun t22 => ((laws_toWorld.f k a0).bind fun t24 => ((impl_ShowWorld.f k t24).bind fun t44 => (if t44.toList = t22.toList then ((laws_toWorld.f k a0).bind fun t39 => ((laws_eqWorld.f k t24 t39).bind fun t60 => (if t60 = true then (some true) else (some false)))) else (some false))))))))
def laws_FnExactShowWorld.T10 : Bool × List (List Nat × List Nat) := (true, [([], []), ([], []), ([1], [1]), ([0, 2, 2], [0, 2]), ([3], [3])])
theorem laws_FnExactShowWorld.tT10 : rtab .any (opsOf Tryz.f5 10) = laws_FnExactShowWorld.T10 := by kernel_rfl
set_option maxHeartbeats 16000000 in
theorem laws_FnExactShowWorld.calls {k : Nat} {a0 : S59} {Ap0 : Option Addr} {np0 cp0 : Nat} {Ap1 : Option Addr} {np1 cp1 : Nat} {Ap2 : Option Addr} {np2 cp2 : Nat} {Ap3 : Option Addr} {np3 cp3 : Nat} {Ap4 : Option Addr} {np4 cp4 : Nat} {Ap5 : Option Addr} {np5 cp5 : Nat} {Ap6 : Option Addr} {np6 cp6 : Nat} {Ap7 : Option Addr} {np7 cp7 : Nat} {Ap8 : Option Addr} {np8 cp8 : Nat} {Ap9 : Option Addr} {np9 cp9 : Nat} {Ap10 : Option Addr} {np10 cp10 : Nat} {Ap11 : Option Addr} {np11 cp11 : Nat} {Ap12 : Option Addr} {np12 cp12 : Nat} {Ap13 : Option Addr} {np13 cp13 : Nat} {r : Bool} {w : World} (h : laws_FnExactShowWorld.f k a0 = some r) (gp0 : k88.C w Ap0 np0 a0.f0.f0.f0) (lp0 : np0 ≤ cp0) (gp1 : k75.C w Ap1 np1 a0.f0.f0.f1) (lp1 : np1 ≤ cp1) (gp2 : k178.C w Ap2 np2 a0.f0.f0.f2) (lp2 : np2 ≤ cp2) (gp3 : k196.C w Ap3 np3 a0.f0.f1) (lp3 : np3 ≤ cp3) (gp4 : k199.C w Ap4 np4 a0.f0.f5) (lp4 : np4 ≤ cp4) (gp5 : k265.C w Ap5 np5 a0.f1.f2) (lp5 : np5 ≤ cp5) (gp6 : k271.C w Ap6 np6 a0.f1.f3) (lp6 : np6 ≤ cp6) (gp7 : (Kd.int .i64).C w Ap7 np7 a0.f1.f4) (lp7 : np7 ≤ cp7) (gp8 : k88.C w Ap8 np8 a0.f2) (lp8 : np8 ≤ cp8) (gp9 : k214.C w Ap9 np9 a0.f3) (lp9 : np9 ≤ cp9) (gp10 : (Kd.int .i64).C w Ap10 np10 a0.f4) (lp10 : np10 ≤ cp10) (gp11 : k217.C w Ap11 np11 a0.f5) (lp11 : np11 ≤ cp11) (gp12 : Kd.string.C w Ap12 np12 a0.f6) (lp12 : np12 ≤ cp12) (gp13 : Kd.string.C w Ap13 np13 a0.f7) (lp13 : np13 ≤ cp13) (hgT : Go.Lib.TabIs Tryz.prog w "internal/strconv.uint64pow10" .u64 Go.Lib.pow10Tab) :
    Calls Tryz.prog 5 #[.agg #[.slice Ap0 np0 cp0, .slice Ap1 np1 cp1, .slice Ap2 np2 cp2, .slice Ap3 np3 cp3, .int .i64 a0.f0.f2, .int .i64 a0.f0.f3, .int .i64 a0.f0.f4, .slice Ap4 np4 cp4, .string a0.f1.f0, .int .i64 a0.f1.f1, .slice Ap5 np5 cp5, .slice Ap6 np6 cp6, .slice Ap7 np7 cp7, .slice Ap8 np8 cp8, .slice Ap9 np9 cp9, .slice Ap10 np10 cp10, .slice Ap11 np11 cp11, .slice Ap12 np12 cp12, .slice Ap13 np13 cp13]] w (fun e w' => e = .returned (.bool r) ∧ Hp noFP w w' []) := by
 obtain rfl := C_len gp0
 obtain rfl := C_len gp1
 obtain rfl := C_len gp2
 obtain rfl := C_len gp3
 obtain rfl := C_len gp4
 obtain rfl := C_len gp5
 obtain rfl := C_len gp6
 obtain rfl := C_len gp7
 obtain rfl := C_len gp8
 obtain rfl := C_len gp9
 obtain rfl := C_len gp10
 obtain rfl := C_len gp11
 obtain rfl := C_len gp12
 obtain rfl := C_len gp13
 have HS := Hp.start w
 have H := Aside0.mk h
 clear h
 unfold laws_FnExactShowWorld.f at H
 go_enter Tryz.func5, Tryz.ntmps5
 replace H := zbind H; obtain ⟨t3, ht3, H⟩ := H
 go_upto_if 11 with (first | ((with_reducible refine gd 1 rfl ?_); refine ev_bx HS ?_; clear HS; (try clear F); intro g1 w1 HS F) | ((with_reducible refine gd 7 rfl ?_); refine ev_ld 0 HS Tryz.underlying59 rfl ?_) | ((with_reducible refine gd 9 rfl ?_); refine ev_cl HS (laws_szWorld.calls ht3.out (HS.ro gp0) lp0 (HS.ro gp1) lp1 (HS.ro gp2) lp2 (HS.ro gp3) lp3 (HS.ro gp4) lp4 (HS.ro gp5) lp5 (HS.ro gp6) lp6 (HS.ro gp7) lp7 (HS.ro gp8) lp8 (HS.ro gp9) lp9 (HS.ro gp10) lp10 (HS.ro gp11) lp11 (HS.ro gp12) lp12 (HS.ro gp13) lp13) Tryz.func21 ?_; clear HS; (try clear F); intro wt3 HS F))
 replace H := zif H; rcases H with ⟨c5, H⟩ | ⟨c5, H⟩
 case inl =>
  (try simp only [c5, dcn])
  obtain rfl := zsome H
  go_wp2
  go_ret
  exact HS.pk
 (try simp only [c5, dcn])
 replace H := zbind H; obtain ⟨t6, ht6, H⟩ := H
 replace H := zbind H; obtain ⟨t22, ht22, H⟩ := H
 replace H := zbind H; obtain ⟨t24, ht24, H⟩ := H
 replace H := zbind H; obtain ⟨t44, ht44, H⟩ := H
 go_upto_if 21 with (first | ((with_reducible refine gd 12 rfl ?_); refine ev_ld 0 HS Tryz.underlying59 rfl ?_) | ((with_reducible refine gd 13 rfl ?_); refine ev_call rfl Tryz.func23 (by kernel_rfl) rfl #[.agg #[.slice Ap0 a0.f0.f0.f0.length cp0, .slice Ap1 a0.f0.f0.f1.length cp1, .slice Ap2 a0.f0.f0.f2.length cp2, .slice Ap3 a0.f0.f1.length cp3, .int .i64 a0.f0.f2, .int .i64 a0.f0.f3, .int .i64 a0.f0.f4, .slice Ap4 a0.f0.f5.length cp4, .string a0.f1.f0, .int .i64 a0.f1.f1, .slice Ap5 a0.f1.f2.length cp5, .slice Ap6 a0.f1.f3.length cp6, .slice Ap7 a0.f1.f4.length cp7, .slice Ap8 a0.f2.length cp8, .slice Ap9 a0.f3.length cp9, .slice Ap10 a0.f4.length cp10, .slice Ap11 a0.f5.length cp11, .slice Ap12 a0.f6.length cp12, .slice Ap13 a0.f7.length cp13]] rfl (by simp only [mpn]; rfl) ?_; refine (laws_toWorld.calls ht6.out (HS.ro gp0) lp0 (HS.ro gp1) lp1 (HS.ro gp2) lp2 (HS.ro gp3) lp3 (HS.ro gp4) lp4 (HS.ro gp5) lp5 (HS.ro gp6) lp6 (HS.ro gp7) lp7 (HS.ro gp8) lp8 (HS.ro gp9) lp9 (HS.ro gp10) lp10 (HS.ro gp11) lp11 (HS.ro gp12) lp12 (HS.ro gp13) lp13).mono ?_; rintro _ wt6 ⟨v7, v8, v9, v10, v11, v12, v13, v14, v15, v16, v17, v18, v19, v20, rfl, HQ⟩; refine ⟨_, rfl, ?_⟩; replace HS := HS.call HQ; clear HQ; (try clear F); obtain ⟨B7, d7, rfl, m7⟩ := HS.form 1 rfl; obtain ⟨B8, d8, rfl, m8⟩ := HS.form 2 rfl; obtain ⟨B9, d9, rfl, m9⟩ := HS.form 3 rfl; obtain ⟨B10, d10, rfl, m10⟩ := HS.form 4 rfl; obtain ⟨B11, d11, rfl, m11⟩ := HS.form 5 rfl; obtain ⟨B12, d12, rfl, m12⟩ := HS.form 6 rfl; obtain ⟨B13, d13, rfl, m13⟩ := HS.form 7 rfl; obtain ⟨B14, d14, rfl, m14⟩ := HS.form 8 rfl; obtain ⟨B15, d15, rfl, m15⟩ := HS.form 9 rfl; obtain ⟨B16, d16, rfl, m16⟩ := HS.form 10 rfl; obtain ⟨B17, d17, rfl, m17⟩ := HS.form 11 rfl; obtain ⟨B18, d18, rfl, m18⟩ := HS.form 12 rfl; obtain ⟨B19, d19, rfl, m19⟩ := HS.form 13 rfl; obtain ⟨B20, d20, rfl, m20⟩ := HS.form 14 rfl; (try simp only [hpn, hpm] at HS); have F := HS.boxes; simp only [bxn] at F) | ((with_reducible refine gd 14 rfl ?_); refine ev_cl HS (spec_ShowWorld.calls ht22.out (HS.rd 1 rfl) m7 (HS.rd 2 rfl) m8 (HS.rd 3 rfl) m9 (HS.rd 4 rfl) m10 (HS.rd 5 rfl) m11 (HS.rd 6 rfl) m12 (HS.rd 7 rfl) m13 (HS.rd 8 rfl) m14 (HS.rd 9 rfl) m15 (HS.rd 10 rfl) m16 (HS.rd 11 rfl) m17 (HS.rd 12 rfl) m18 (HS.rd 13 rfl) m19 (HS.rd 14 rfl) m20) Tryz.func22 ?_; clear HS; (try clear F); intro wt22 HS F) | ((with_reducible refine gd 15 rfl ?_); refine ev_ld 0 HS Tryz.underlying59 rfl ?_) | ((with_reducible refine gd 16 rfl ?_); refine ev_call rfl Tryz.func23 (by kernel_rfl) rfl #[.agg #[.slice Ap0 a0.f0.f0.f0.length cp0, .slice Ap1 a0.f0.f0.f1.length cp1, .slice Ap2 a0.f0.f0.f2.length cp2, .slice Ap3 a0.f0.f1.length cp3, .int .i64 a0.f0.f2, .int .i64 a0.f0.f3, .int .i64 a0.f0.f4, .slice Ap4 a0.f0.f5.length cp4, .string a0.f1.f0, .int .i64 a0.f1.f1, .slice Ap5 a0.f1.f2.length cp5, .slice Ap6 a0.f1.f3.length cp6, .slice Ap7 a0.f1.f4.length cp7, .slice Ap8 a0.f2.length cp8, .slice Ap9 a0.f3.length cp9, .slice Ap10 a0.f4.length cp10, .slice Ap11 a0.f5.length cp11, .slice Ap12 a0.f6.length cp12, .slice Ap13 a0.f7.length cp13]] rfl (by simp only [mpn]; rfl) ?_; refine (laws_toWorld.calls ht24.out (HS.ro gp0) lp0 (HS.ro gp1) lp1 (HS.ro gp2) lp2 (HS.ro gp3) lp3 (HS.ro gp4) lp4 (HS.ro gp5) lp5 (HS.ro gp6) lp6 (HS.ro gp7) lp7 (HS.ro gp8) lp8 (HS.ro gp9) lp9 (HS.ro gp10) lp10 (HS.ro gp11) lp11 (HS.ro gp12) lp12 (HS.ro gp13) lp13).mono ?_; rintro _ wt24 ⟨v25, v26, v27, v28, v29, v30, v31, v32, v33, v34, v35, v36, v37, v38, rfl, HQ⟩; refine ⟨_, rfl, ?_⟩; replace HS := HS.call HQ; clear HQ; (try clear F); obtain ⟨B25, d25, rfl, m25⟩ := HS.form 15 rfl; obtain ⟨B26, d26, rfl, m26⟩ := HS.form 16 rfl; obtain ⟨B27, d27, rfl, m27⟩ := HS.form 17 rfl; obtain ⟨B28, d28, rfl, m28⟩ := HS.form 18 rfl; obtain ⟨B29, d29, rfl, m29⟩ := HS.form 19 rfl; obtain ⟨B30, d30, rfl, m30⟩ := HS.form 20 rfl; obtain ⟨B31, d31, rfl, m31⟩ := HS.form 21 rfl; obtain ⟨B32, d32, rfl, m32⟩ := HS.form 22 rfl; obtain ⟨B33, d33, rfl, m33⟩ := HS.form 23 rfl; obtain ⟨B34, d34, rfl, m34⟩ := HS.form 24 rfl; obtain ⟨B35, d35, rfl, m35⟩ := HS.form 25 rfl; obtain ⟨B36, d36, rfl, m36⟩ := HS.form 26 rfl; obtain ⟨B37, d37, rfl, m37⟩ := HS.form 27 rfl; obtain ⟨B38, d38, rfl, m38⟩ := HS.form 28 rfl; (try simp only [hpn, hpm] at HS); have F := HS.boxes; simp only [bxn] at F) | ((with_reducible refine gd 5 rfl ?_); refine ev_bx HS ?_; clear HS; (try clear F); intro g5 w5 HS F) | ((with_reducible refine gate_store (p := 5) rfl ?_); refine ev_st 29 0 HS (seg := [.slice B25 t24.f0.f0.f0.length d25, .slice B26 t24.f0.f0.f1.length d26, .slice B27 t24.f0.f0.f2.length d27, .slice B28 t24.f0.f1.length d28, .int .i64 t24.f0.f2, .int .i64 t24.f0.f3, .int .i64 t24.f0.f4, .slice B29 t24.f0.f5.length d29, .string t24.f1.f0, .int .i64 t24.f1.f1, .slice B30 t24.f1.f2.length d30, .slice B31 t24.f1.f3.length d31, .slice B32 t24.f1.f4.length d32, .slice B33 t24.f2.length d33, .slice B34 t24.f3.length d34, .slice B35 t24.f4.length d35, .slice B36 t24.f5.length d36, .slice B37 t24.f6.length d37, .slice B38 t24.f7.length d38]) ?_; clear HS; (try clear F); intro w42 HS F) | ((with_reducible refine gd 17 rfl ?_); refine ev_ld 29 HS Tryz.underlying69 rfl ?_) | ((with_reducible refine gd 18 rfl ?_); refine ev_cl HS (impl_ShowWorld.calls ht44.out (HS.rd 15 rfl) m25 (HS.rd 16 rfl) m26 (HS.rd 17 rfl) m27 (HS.rd 18 rfl) m28 (HS.rd 19 rfl) m29 (HS.rd 20 rfl) m30 (HS.rd 21 rfl) m31 (HS.rd 22 rfl) m32 (HS.rd 23 rfl) m33 (HS.rd 24 rfl) m34 (HS.rd 25 rfl) m35 (HS.rd 26 rfl) m36 (HS.rd 27 rfl) m37 (HS.rd 28 rfl) m38 (HS.keept hgT)) Tryz.func24 ?_; clear HS; (try clear F); intro wt44 HS F))
 replace H := znif' H; rcases H with ⟨c46, H⟩ | ⟨c46, H⟩
 case inl =>
  have c46a := beq_eq_false_iff_ne.mpr c46
  have c46b := bne_iff_ne.mpr c46
  clear c46
  (try simp only [c46a, c46b, dcn])
  obtain rfl := zsome H
  go_wp2
  go_ret
  exact HS.pk
 have c46a := beq_iff_eq.mpr c46
 have c46b := bne_eq_false_iff_eq.mpr c46
 clear c46
 (try simp only [c46a, c46b, dcn])
 (try go_wp2)
 replace H := zbind H; obtain ⟨t39, ht39, H⟩ := H
 replace H := zbind H; obtain ⟨t60, ht60, H⟩ := H
 refine dr_start [] HS #[false, false, false, false, false] (by kernel_rfl) rfl rfl laws_FnExactShowWorld.tT10 (fun w48 HT HS HH => ?_)
 (try clear F)
 refine drq_of [(0, some 22), (1, some 23)] ?_
 repeat (first | (refine drl HT HH 0 Tryz.underlying59 rfl ?_) | (refine drl HT HH 29 Tryz.underlying69 rfl ?_) | refine drt HT HH ?_)
 refine drq_end ?_
 refine dr1 2 HT fun K hK => ?_
 refine goes_ Tryz.func23 (by kernel_rfl) rfl #[.agg #[.slice Ap0 a0.f0.f0.f0.length cp0, .slice Ap1 a0.f0.f0.f1.length cp1, .slice Ap2 a0.f0.f0.f2.length cp2, .slice Ap3 a0.f0.f1.length cp3, .int .i64 a0.f0.f2, .int .i64 a0.f0.f3, .int .i64 a0.f0.f4, .slice Ap4 a0.f0.f5.length cp4, .string a0.f1.f0, .int .i64 a0.f1.f1, .slice Ap5 a0.f1.f2.length cp5, .slice Ap6 a0.f1.f3.length cp6, .slice Ap7 a0.f1.f4.length cp7, .slice Ap8 a0.f2.length cp8, .slice Ap9 a0.f3.length cp9, .slice Ap10 a0.f4.length cp10, .slice Ap11 a0.f5.length cp11, .slice Ap12 a0.f6.length cp12, .slice Ap13 a0.f7.length cp13]] (by rfl) rfl rfl (by simp only [mpn]; rfl) ?_; refine (laws_toWorld.calls ht39.out (HS.ro gp0) lp0 (HS.ro gp1) lp1 (HS.ro gp2) lp2 (HS.ro gp3) lp3 (HS.ro gp4) lp4 (HS.ro gp5) lp5 (HS.ro gp6) lp6 (HS.ro gp7) lp7 (HS.ro gp8) lp8 (HS.ro gp9) lp9 (HS.ro gp10) lp10 (HS.ro gp11) lp11 (HS.ro gp12) lp12 (HS.ro gp13) lp13).mono ?_; rintro _ wt39 ⟨v40, v41, v43, v45, v47, v49, v51, v52, v53, v54, v55, v56, v57, v58, rfl, HQ⟩; refine ⟨_, rfl, ?_⟩; replace HS := HS.call HQ; clear HQ; (try clear F); obtain ⟨B40, d40, rfl, m40⟩ := HS.form 30 rfl; obtain ⟨B41, d41, rfl, m41⟩ := HS.form 31 rfl; obtain ⟨B43, d43, rfl, m43⟩ := HS.form 32 rfl; obtain ⟨B45, d45, rfl, m45⟩ := HS.form 33 rfl; obtain ⟨B47, d47, rfl, m47⟩ := HS.form 34 rfl; obtain ⟨B49, d49, rfl, m49⟩ := HS.form 35 rfl; obtain ⟨B51, d51, rfl, m51⟩ := HS.form 36 rfl; obtain ⟨B52, d52, rfl, m52⟩ := HS.form 37 rfl; obtain ⟨B53, d53, rfl, m53⟩ := HS.form 38 rfl; obtain ⟨B54, d54, rfl, m54⟩ := HS.form 39 rfl; obtain ⟨B55, d55, rfl, m55⟩ := HS.form 40 rfl; obtain ⟨B56, d56, rfl, m56⟩ := HS.form 41 rfl; obtain ⟨B57, d57, rfl, m57⟩ := HS.form 42 rfl; obtain ⟨B58, d58, rfl, m58⟩ := HS.form 43 rfl
 (try simp only [hpn, hpm] at HS)
 have F := HS.boxes; simp only [bxn] at F
 refine nrm 24 hK ⟨_, HS⟩ (fun HH => ?_); clear hK K
 refine dr1 3 HT fun K hK => ?_
 refine go_cl HS (laws_eqWorld.calls ht60.out (HS.rd 15 rfl) m25 (HS.rd 16 rfl) m26 (HS.rd 17 rfl) m27 (HS.rd 18 rfl) m28 (HS.rd 19 rfl) m29 (HS.rd 20 rfl) m30 (HS.rd 21 rfl) m31 (HS.rd 22 rfl) m32 (HS.rd 23 rfl) m33 (HS.rd 24 rfl) m34 (HS.rd 25 rfl) m35 (HS.rd 26 rfl) m36 (HS.rd 27 rfl) m37 (HS.rd 28 rfl) m38 (HS.rd 30 rfl) m40 (HS.rd 31 rfl) m41 (HS.rd 32 rfl) m43 (HS.rd 33 rfl) m45 (HS.rd 34 rfl) m47 (HS.rd 35 rfl) m49 (HS.rd 36 rfl) m51 (HS.rd 37 rfl) m52 (HS.rd 38 rfl) m53 (HS.rd 39 rfl) m54 (HS.rd 40 rfl) m55 (HS.rd 41 rfl) m56 (HS.rd 42 rfl) m57 (HS.rd 43 rfl) m58) Tryz.func25 ?_; clear HS; (try clear F); intro wt60 HS F
 refine nrm 25 hK ⟨_, HS⟩ (fun HH => ?_); clear hK K
 refine drq_of [(4, some 26)] ?_
 repeat (refine drp HT ?_)
 refine drq_end ?_
 refine done_ (done_of HT.out (by kernel_rfl)) ?_
 (try clear F)
 have F := HS.boxes; simp only [bxn] at F
 replace H := zifb H; rcases H with ⟨c50, H⟩ | ⟨c50, H⟩
 case inl =>
  subst c50
  (try simp only [dcn, if_true, Bool.false_eq_true, if_false])
  obtain rfl := zsome H
  go_wp2
  go_ret
  exact HS.pk
 subst c50
 (try simp only [dcn, if_true, Bool.false_eq_true, if_false])
 obtain rfl := zsome H
 go_wp2
 go_ret
 exact HS.pk
end Go.Proofs.YtacocpknielofaaGreatDoor.F

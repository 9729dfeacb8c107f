/- Functions of the program and of the law, and that their calls do what is written here. -/
import Derived.Test.YtacocpknielofaaGreatDoorZgFnExactLearna
namespace Go.Proofs.YtacocpknielofaaGreatDoor.F
open Go.RowKit YtacocpknielofaaGreatDoorW.PrintWords YtacocpknielofaaGreatDoorW.PrintLast YtacocpknielofaaGreatDoorW.PrintMore Z
attribute [local go_sem] max2_int min2_int max_two min_two max_three min_three max_four min_four
set_option linter.unusedVariables false
set_option linter.unusedSimpArgs false
set_option maxRecDepth 100000
set_option maxHeartbeats 16000000
def laws_eqStore.f (k : Nat) (a0 : S33) (a1 : S33) : Option (Bool) := ((laws_eqCertS.f k a0.f0 a1.f0).bind fun t5 => (if t5 = true then ((laws_eqCrlS.f k a0.f1 a1.f1).bind fun t8 => (if t8 = true then ((laws_eqAnchorS.f k a0.f2 a1.f2).bind fun t11 => (if t11 = true then (some true) else (some false))) else (some false))) else (some false)))
theorem laws_eqStore.calls {k : Nat} {a0 : S33} {a1 : S33} {Ap0 Ap1 Ap2 Ap3 Ap4 Ap5 : Option Addr} {np0 cp0 np1 cp1 np2 cp2 np3 cp3 np4 cp4 np5 cp5 : Nat} {r : Bool} {w : World} (h : laws_eqStore.f k a0 a1 = some r) (gp0 : k91.C w Ap0 np0 a0.f0) (lp0 : np0 ≤ cp0) (gp1 : k81.C w Ap1 np1 a0.f1) (lp1 : np1 ≤ cp1) (gp2 : k115.C w Ap2 np2 a0.f2) (lp2 : np2 ≤ cp2) (gp3 : k91.C w Ap3 np3 a1.f0) (lp3 : np3 ≤ cp3) (gp4 : k81.C w Ap4 np4 a1.f1) (lp4 : np4 ≤ cp4) (gp5 : k115.C w Ap5 np5 a1.f2) (lp5 : np5 ≤ cp5) :
    Calls Tryz.prog 15 #[.agg #[.slice Ap0 np0 cp0, .slice Ap1 np1 cp1, .slice Ap2 np2 cp2], .agg #[.slice Ap3 np3 cp3, .slice Ap4 np4 cp4, .slice Ap5 np5 cp5]] w (fun e w' => e = .returned (.bool r) ∧ Hp noFP w w' []) := by
 obtain rfl := C_len gp0
 obtain rfl := C_len gp1
 obtain rfl := C_len gp2
 obtain rfl := C_len gp3
 obtain rfl := C_len gp4
 obtain rfl := C_len gp5
 have HS := Hp.start w
 have H := Aside0.mk h
 clear h
 unfold laws_eqStore.f at H
 go_enter Tryz.func15, Tryz.ntmps15
 replace H := zbind H; obtain ⟨t5, ht5, H⟩ := H
 go_upto_if 10 with (first | ((with_reducible refine gd 2 rfl ?_); refine ev_bx HS ?_; clear HS; intro g2 w2 HS F) | ((with_reducible refine gd 3 rfl ?_); refine ev_bx HS ?_; clear HS; intro g3 w3 HS F) | ((with_reducible refine gd 9 rfl ?_); refine ev_cl HS (laws_eqCertS.calls ht5.out (HS.ro gp0) lp0 (HS.ro gp3) lp3) Tryz.func68 ?_; clear HS; intro wt5 HS F))
 replace H := znifb H; rcases H with ⟨c7, H⟩ | ⟨c7, H⟩
 case inl =>
  subst c7
  (try simp only [dcn, dcu, dcf])
  obtain rfl := zsome H
  go_wp2
  go_ret
  exact HS.pk
 subst c7
 (try simp only [dcn, dcu, dcf])
 replace H := zbind H; obtain ⟨t8, ht8, H⟩ := H
 go_upto_if 16 with ((with_reducible refine gd 15 rfl ?_); refine ev_cl HS (laws_eqCrlS.calls ht8.out (HS.ro gp1) lp1 (HS.ro gp4) lp4) Tryz.func69 ?_; clear HS; intro wt8 HS F)
 replace H := znifb H; rcases H with ⟨c10, H⟩ | ⟨c10, H⟩
 case inl =>
  subst c10
  (try simp only [dcn, dcu, dcf])
  obtain rfl := zsome H
  go_wp2
  go_ret
  exact HS.pk
 subst c10
 (try simp only [dcn, dcu, dcf])
 replace H := zbind H; obtain ⟨t11, ht11, H⟩ := H
 go_upto_if 22 with ((with_reducible refine gd 21 rfl ?_); refine ev_cl HS (laws_eqAnchorS.calls ht11.out (HS.ro gp2) lp2 (HS.ro gp5) lp5) Tryz.func70 ?_; clear HS; intro wt11 HS F)
 replace H := zifb H; rcases H with ⟨c13, H⟩ | ⟨c13, H⟩
 case inl =>
  subst c13
  (try simp only [dcn, dcu, dcf])
  obtain rfl := zsome H
  go_wp2
  go_ret
  exact HS.pk
 subst c13
 (try simp only [dcn, dcu, dcf])
 obtain rfl := zsome H
 go_wp2
 go_ret
 exact HS.pk
def laws_eqRules.f (k : Nat) (a0 : S200) (a1 : S200) : Option (Bool) := (if a0.f0 = a1.f0 then ((laws_eqIntS.f k a0.f1 a1.f1).bind fun t6 => (if t6 = true then (if a0.f2 = a1.f2 then (if a0.f3 = a1.f3 then (if a0.f4 = a1.f4 then (some true) else (some false)) else (some false)) else (some false)) else (some false))) else (some false))
theorem laws_eqRules.calls {k : Nat} {a0 : S200} {a1 : S200} {Ap0 Ap1 : Option Addr} {np0 cp0 np1 cp1 : Nat} {r : Bool} {w : World} (h : laws_eqRules.f k a0 a1 = some r) (gp0 : (Kd.int .i64).C w Ap0 np0 a0.f1) (lp0 : np0 ≤ cp0) (gp1 : (Kd.int .i64).C w Ap1 np1 a1.f1) (lp1 : np1 ≤ cp1) :
    Calls Tryz.prog 212 #[.agg #[.int .i64 a0.f0, .slice Ap0 np0 cp0, .bool a0.f2, .bool a0.f3, .int .i64 a0.f4], .agg #[.int .i64 a1.f0, .slice Ap1 np1 cp1, .bool a1.f2, .bool a1.f3, .int .i64 a1.f4]] w (fun e w' => e = .returned (.bool r) ∧ Hp noFP w w' []) := by
 obtain rfl := C_len gp0
 obtain rfl := C_len gp1
 have HS := Hp.start w
 have H := Aside0.mk h
 clear h
 unfold laws_eqRules.f at H
 go_enter Tryz.func212, Tryz.ntmps212
 go_upto_if 9 with (first | ((with_reducible refine gd 2 rfl ?_); refine ev_bx HS ?_; clear HS; intro g2 w2 HS F) | ((with_reducible refine gd 3 rfl ?_); refine ev_bx HS ?_; clear HS; intro g3 w3 HS F))
 replace H := znif' H; rcases H with ⟨c5, H⟩ | ⟨c5, H⟩
 case inl =>
  have c5a := beq_eq_false_iff_ne.mpr c5
  have c5b := bne_iff_ne.mpr c5
  clear c5
  (try simp only [c5a, c5b, dcn])
  obtain rfl := zsome H
  go_wp2
  go_ret
  exact HS.pk
 have c5a := beq_iff_eq.mpr c5
 have c5b := bne_eq_false_iff_eq.mpr c5
 clear c5
 (try simp only [c5a, c5b, dcn])
 replace H := zbind H; obtain ⟨t6, ht6, H⟩ := H
 go_upto_if 15 with ((with_reducible refine gd 14 rfl ?_); refine ev_cl HS (laws_eqIntS.calls ht6.out (HS.ro gp0) lp0 (HS.ro gp1) lp1) Tryz.func101 ?_; clear HS; intro wt6 HS F)
 replace H := znifb H; rcases H with ⟨c8, H⟩ | ⟨c8, H⟩
 case inl =>
  subst c8
  (try simp only [dcn, dcu, dcf])
  obtain rfl := zsome H
  go_wp2
  go_ret
  exact HS.pk
 subst c8
 (try simp only [dcn, dcu, dcf])
 replace H := znif' H; rcases H with ⟨c9, H⟩ | ⟨c9, H⟩
 case inl =>
  have c9a := beq_eq_false_iff_ne.mpr c9
  have c9b := bne_iff_ne.mpr c9
  clear c9
  obtain rfl := zsome H
  go_wp2
  go_ret
  exact HS.pk
 have c9a := beq_iff_eq.mpr c9
 have c9b := bne_eq_false_iff_eq.mpr c9
 clear c9
 replace H := znif' H; rcases H with ⟨c10, H⟩ | ⟨c10, H⟩
 case inl =>
  have c10a := beq_eq_false_iff_ne.mpr c10
  have c10b := bne_iff_ne.mpr c10
  clear c10
  obtain rfl := zsome H
  go_wp2
  go_ret
  exact HS.pk
 have c10a := beq_iff_eq.mpr c10
 have c10b := bne_eq_false_iff_eq.mpr c10
 clear c10
 replace H := znif' H; rcases H with ⟨c11, H⟩ | ⟨c11, H⟩
 case inl =>
  have c11a := beq_eq_false_iff_ne.mpr c11
  have c11b := bne_iff_ne.mpr c11
  clear c11
  obtain rfl := zsome H
  go_wp2
  go_ret
  exact HS.pk
 have c11a := beq_iff_eq.mpr c11
 have c11b := bne_eq_false_iff_eq.mpr c11
 clear c11
 obtain rfl := zsome H
 go_wp2
 go_ret
 exact HS.pk
def laws_eqPlan.f (k : Nat) (a0 : S202) (a1 : S202) : Option (Bool) := (if a0.f0 = a1.f0 then ((laws_eqIntS.f k a0.f1 a1.f1).bind fun t6 => (if t6 = true then ((laws_eqRules.f k a0.f2 a1.f2).bind fun t9 => (if t9 = true then (some true) else (some false))) else (some false))) else (some false))
theorem laws_eqPlan.calls {k : Nat} {a0 : S202} {a1 : S202} {Ap0 Ap1 Ap2 Ap3 : Option Addr} {np0 cp0 np1 cp1 np2 cp2 np3 cp3 : Nat} {r : Bool} {w : World} (h : laws_eqPlan.f k a0 a1 = some r) (gp0 : (Kd.int .i64).C w Ap0 np0 a0.f1) (lp0 : np0 ≤ cp0) (gp1 : (Kd.int .i64).C w Ap1 np1 a0.f2.f1) (lp1 : np1 ≤ cp1) (gp2 : (Kd.int .i64).C w Ap2 np2 a1.f1) (lp2 : np2 ≤ cp2) (gp3 : (Kd.int .i64).C w Ap3 np3 a1.f2.f1) (lp3 : np3 ≤ cp3) :
    Calls Tryz.prog 157 #[.agg #[.int .i64 a0.f0, .slice Ap0 np0 cp0, .int .i64 a0.f2.f0, .slice Ap1 np1 cp1, .bool a0.f2.f2, .bool a0.f2.f3, .int .i64 a0.f2.f4], .agg #[.int .i64 a1.f0, .slice Ap2 np2 cp2, .int .i64 a1.f2.f0, .slice Ap3 np3 cp3, .bool a1.f2.f2, .bool a1.f2.f3, .int .i64 a1.f2.f4]] w (fun e w' => e = .returned (.bool r) ∧ Hp noFP w w' []) := by
 obtain rfl := C_len gp0
 obtain rfl := C_len gp1
 obtain rfl := C_len gp2
 obtain rfl := C_len gp3
 have HS := Hp.start w
 have H := Aside0.mk h
 clear h
 unfold laws_eqPlan.f at H
 go_enter Tryz.func157, Tryz.ntmps157
 go_upto_if 9 with (first | ((with_reducible refine gd 2 rfl ?_); refine ev_bx HS ?_; clear HS; intro g2 w2 HS F) | ((with_reducible refine gd 3 rfl ?_); refine ev_bx HS ?_; clear HS; intro g3 w3 HS F))
 replace H := znif' H; rcases H with ⟨c5, H⟩ | ⟨c5, H⟩
 case inl =>
  have c5a := beq_eq_false_iff_ne.mpr c5
  have c5b := bne_iff_ne.mpr c5
  clear c5
  (try simp only [c5a, c5b, dcn])
  obtain rfl := zsome H
  go_wp2
  go_ret
  exact HS.pk
 have c5a := beq_iff_eq.mpr c5
 have c5b := bne_eq_false_iff_eq.mpr c5
 clear c5
 (try simp only [c5a, c5b, dcn])
 replace H := zbind H; obtain ⟨t6, ht6, H⟩ := H
 go_upto_if 15 with ((with_reducible refine gd 14 rfl ?_); refine ev_cl HS (laws_eqIntS.calls ht6.out (HS.ro gp0) lp0 (HS.ro gp2) lp2) Tryz.func101 ?_; clear HS; intro wt6 HS F)
 replace H := znifb H; rcases H with ⟨c8, H⟩ | ⟨c8, H⟩
 case inl =>
  subst c8
  (try simp only [dcn, dcu, dcf])
  obtain rfl := zsome H
  go_wp2
  go_ret
  exact HS.pk
 subst c8
 (try simp only [dcn, dcu, dcf])
 replace H := zbind H; obtain ⟨t9, ht9, H⟩ := H
 go_upto_if 21 with ((with_reducible refine gd 20 rfl ?_); refine ev_cl HS (laws_eqRules.calls ht9.out (HS.ro gp1) lp1 (HS.ro gp3) lp3) Tryz.func212 ?_; clear HS; intro wt9 HS F)
 replace H := zifb H; rcases H with ⟨c11, H⟩ | ⟨c11, H⟩
 case inl =>
  subst c11
  (try simp only [dcn, dcu, dcf])
  obtain rfl := zsome H
  go_wp2
  go_ret
  exact HS.pk
 subst c11
 (try simp only [dcn, dcu, dcf])
 obtain rfl := zsome H
 go_wp2
 go_ret
 exact HS.pk
def laws_eqPlanS.l0 : Nat → Int → (List S202) → (List S202) → Option (Bool)
  | 0, _, _, _ => none
  | k + 1, x5, a0, a1 => (if x5 < (a0.length : Int) then (if 0 ≤ x5 then (if x5 < (a0.length : Int) then (if x5 < (a1.length : Int) then ((laws_eqPlan.f k (rd_T202 a0 x5) (rd_T202 a1 x5)).bind fun t14 => (if t14 = true then (laws_eqPlanS.l0 k (wrap64 (x5 + 1)) a0 a1) else (some false))) else none) else none) else none) else (some true))
def laws_eqPlanS.f (k : Nat) (a0 : (List S202)) (a1 : (List S202)) : Option (Bool) := (if (a0.length : Int) = (a1.length : Int) then (laws_eqPlanS.l0 k 0 a0 a1) else (some false))
def laws_eqPlanS.T6 : TT := (true, [([], []), ([], []), ([0, 1], [0, 1]), ([2], [2]), ([], []), ([], []), ([4, 5], [4, 5]), ([6], [6]), ([3, 7], [3, 7]), ([8], [8])])
theorem laws_eqPlanS.tT6 : rtab .any (opsOf Tryz.f81 6) = laws_eqPlanS.T6 := by kernel_rfl
theorem laws_eqPlanS.calls {k : Nat} {a0 : (List S202)} {a1 : (List S202)} {Ap0 Ap1 : Option Addr} {np0 cp0 np1 cp1 : Nat} {r : Bool} {w : World} (h : laws_eqPlanS.f k a0 a1 = some r) (gp0 : k202.C w Ap0 np0 a0) (lp0 : np0 ≤ cp0) (gp1 : k202.C w Ap1 np1 a1) (lp1 : np1 ≤ cp1) :
    Calls Tryz.prog 81 #[.slice Ap0 np0 cp0, .slice Ap1 np1 cp1] w (fun e w' => e = .returned (.bool r) ∧ Hp noFP w w' []) := by
 obtain rfl := C_len gp0
 obtain rfl := C_len gp1
 have HS := Hp.start w
 have H := Aside0.mk h
 clear h
 unfold laws_eqPlanS.f at H
 go_enter Tryz.func81, Tryz.ntmps81
 replace H := znif' H; rcases H with ⟨c1, H⟩ | ⟨c1, H⟩
 case inl =>
  have c1a := beq_eq_false_iff_ne.mpr c1
  have c1b := bne_iff_ne.mpr c1
  clear c1
  obtain rfl := zsome H
  go_wp2
  go_ret
  exact HS.pk
 have c1a := beq_iff_eq.mpr c1
 have c1b := bne_eq_false_iff_eq.mpr c1
 clear c1
 go_wp2
 go_loopg [5] k (fun kq v_5 w' => ∃ (x5 : Int), v_5 = .int .i64 x5 ∧ Aside0 (laws_eqPlanS.l0 kq x5 a0 a1 = some r) ∧ Aside0 (kq ≤ k) ∧ Hp noFP w w' [])
 case atStart => exact ⟨_, rfl, H, ⟨Nat.le_refl _⟩, HS⟩
 case round =>
  clear HS H; (try clear F)
  obtain ⟨x5, rfl, H, HKk4, HS⟩ := hrel
  cases gk with
  | zero => exact absurd H.out (by simp [laws_eqPlanS.l0])
  | succ k4 =>
   simp only [laws_eqPlanS.l0] at H
   replace H := znif H; rcases H with ⟨c7, H⟩ | ⟨c7, H⟩
   case inl =>
    obtain rfl := zsome H
    go_wp2
    go_ret
    exact HS.pk
   (try go_wp2)
   replace H := zgo H; obtain ⟨c3, H⟩ := H
   replace H := zgo H; obtain ⟨c8, H⟩ := H
   obtain ⟨ad10, B10_1, d10_1, B10_3, d10_3, rfl, e10_0, e10_1, e10_2, e10_3, e10_4, e10_5, e10_6, m10_1, y10_1, m10_3, y10_3⟩ := at_T202 gp0 x5 (of_eq_true c3) (of_eq_true c8)
   replace H := zgo H; obtain ⟨c12, H⟩ := H
   obtain ⟨ad13, B13_1, d13_1, B13_3, d13_3, rfl, e13_0, e13_1, e13_2, e13_3, e13_4, e13_5, e13_6, m13_1, y13_1, m13_3, y13_3⟩ := at_T202 gp1 x5 (of_eq_true c3) (of_eq_true c12)
   replace H := zbind H; obtain ⟨t14, ht14, H⟩ := H
   refine dr_start [] HS #[false, false, false, false, false, false, false, false, false, false] (by kernel_rfl) rfl rfl laws_eqPlanS.tT6 (fun w9 HT HS HH => ?_)
   (try clear F)
   refine drq_of [(0, some 17), (1, some 18), (2, some 19)] ?_
   repeat (refine drp HT ?_)
   refine drq_end ?_
   refine dr_take 3 (some 20) HT HH (v := ?_) (a' := ?_) rfl rfl (by kernel_rfl) (fun _ _ _ h => h) (.inl ⟨by rfl, ?_⟩) ?_ ?_
   rotate_left
   · rintro w' ⟨rs', HS'⟩; have e10_0 := HS'.keepc e10_0; have e10_1 := HS'.keepc e10_1; have e10_2 := HS'.keepc e10_2; have e10_3 := HS'.keepc e10_3; have e10_4 := HS'.keepc e10_4; have e10_5 := HS'.keepc e10_5; have e10_6 := HS'.keepc e10_6; go_simp; with_reducible rfl
   rotate_left
   · simp only [Act.put, ptn]; rfl
   refine drq_of [(4, some 21), (5, some 22), (6, some 23)] ?_
   repeat (refine drp HT ?_)
   refine drq_end ?_
   refine dr_take 7 (some 24) HT HH (v := ?_) (a' := ?_) rfl rfl (by kernel_rfl) (fun _ _ _ h => h) (.inl ⟨by rfl, ?_⟩) ?_ ?_
   rotate_left
   · rintro w' ⟨rs', HS'⟩; have e13_0 := HS'.keepc e13_0; have e13_1 := HS'.keepc e13_1; have e13_2 := HS'.keepc e13_2; have e13_3 := HS'.keepc e13_3; have e13_4 := HS'.keepc e13_4; have e13_5 := HS'.keepc e13_5; have e13_6 := HS'.keepc e13_6; go_simp; with_reducible rfl
   rotate_left
   · simp only [Act.put, ptn]; rfl
   refine dr1 8 HT fun K hK => ?_
   refine go_cl HS (laws_eqPlan.calls ht14.out (HS.ro y10_1) m10_1 (HS.ro y10_3) m10_3 (HS.ro y13_1) m13_1 (HS.ro y13_3) m13_3) Tryz.func157 ?_; clear HS; intro wt14 HS F
   refine nrm 25 hK ⟨_, HS⟩ (fun HH => ?_); clear hK K
   refine drq_of [(9, some 26)] ?_
   repeat (refine drp HT ?_)
   refine drq_end ?_
   refine done_ (done_of HT.out (by kernel_rfl)) ?_
   replace H := znifb H; rcases H with ⟨c11, H⟩ | ⟨c11, H⟩
   case inl =>
    subst c11
    (try simp only [dcn, dcu, dcf])
    obtain rfl := zsome H
    go_wp2
    go_ret
    exact HS.pk
   subst c11
   (try simp only [dcn, dcu, dcf])
   go_wp2
   go_roundg k4
   case measure => have := HKk4.out; omega
   case rel => exact ⟨_, rfl, H, ⟨by have := HKk4.out; omega⟩, HS.pick [] (by decide) (by rfl)⟩
def laws_eqKept.f (a0 : S205) (a1 : S205) : Option (Bool) := (if a0.f0.toList = a1.f0.toList then (if a0.f1.toList = a1.f1.toList then (if a0.f2 = a1.f2 then (some true) else (some false)) else (some false)) else (some false))
theorem laws_eqKept.calls {a0 : S205} {a1 : S205} {r : Bool} {w : World} (h : laws_eqKept.f a0 a1 = some r) :
    Calls Tryz.prog 158 #[.agg #[.string a0.f0, .string a0.f1, .int .i64 a0.f2], .agg #[.string a1.f0, .string a1.f1, .int .i64 a1.f2]] w (fun e w' => e = .returned (.bool r) ∧ Hp noFP w w' []) := by
 have HS := Hp.start w
 have H := Aside0.mk h
 clear h
 unfold laws_eqKept.f at H
 go_enter Tryz.func158, Tryz.ntmps158
 go_upto_if 9 with (first | ((with_reducible refine gd 2 rfl ?_); refine ev_bx HS ?_; clear HS; intro g2 w2 HS F) | ((with_reducible refine gd 3 rfl ?_); refine ev_bx HS ?_; clear HS; intro g3 w3 HS F))
 replace H := znif' H; rcases H with ⟨c5, H⟩ | ⟨c5, H⟩
 case inl =>
  have c5a := beq_eq_false_iff_ne.mpr c5
  have c5b := bne_iff_ne.mpr c5
  clear c5
  (try simp only [c5a, c5b, dcn])
  obtain rfl := zsome H
  go_wp2
  go_ret
  exact HS.pk
 have c5a := beq_iff_eq.mpr c5
 have c5b := bne_eq_false_iff_eq.mpr c5
 clear c5
 (try simp only [c5a, c5b, dcn])
 replace H := znif' H; rcases H with ⟨c6, H⟩ | ⟨c6, H⟩
 case inl =>
  have c6a := beq_eq_false_iff_ne.mpr c6
  have c6b := bne_iff_ne.mpr c6
  clear c6
  obtain rfl := zsome H
  go_wp2
  go_ret
  exact HS.pk
 have c6a := beq_iff_eq.mpr c6
 have c6b := bne_eq_false_iff_eq.mpr c6
 clear c6
 replace H := znif' H; rcases H with ⟨c7, H⟩ | ⟨c7, H⟩
 case inl =>
  have c7a := beq_eq_false_iff_ne.mpr c7
  have c7b := bne_iff_ne.mpr c7
  clear c7
  obtain rfl := zsome H
  go_wp2
  go_ret
  exact HS.pk
 have c7a := beq_iff_eq.mpr c7
 have c7b := bne_eq_false_iff_eq.mpr c7
 clear c7
 obtain rfl := zsome H
 go_wp2
 go_ret
 exact HS.pk
def laws_eqKeptS.l0 : Nat → Int → (List S205) → (List S205) → Option (Bool)
  | 0, _, _, _ => none
  | k + 1, x5, a0, a1 => (if x5 < (a0.length : Int) then (if 0 ≤ x5 then (if x5 < (a0.length : Int) then (if x5 < (a1.length : Int) then ((laws_eqKept.f (rd_T205 a0 x5) (rd_T205 a1 x5)).bind fun t14 => (if t14 = true then (laws_eqKeptS.l0 k (wrap64 (x5 + 1)) a0 a1) else (some false))) else none) else none) else none) else (some true))
def laws_eqKeptS.f (k : Nat) (a0 : (List S205)) (a1 : (List S205)) : Option (Bool) := (if (a0.length : Int) = (a1.length : Int) then (laws_eqKeptS.l0 k 0 a0 a1) else (some false))
def laws_eqKeptS.T6 : TT := (true, [([], []), ([], []), ([0, 1], [0, 1]), ([2], [2]), ([], []), ([], []), ([4, 5], [4, 5]), ([6], [6]), ([3, 7], [3, 7]), ([8], [8])])
theorem laws_eqKeptS.tT6 : rtab .any (opsOf Tryz.f82 6) = laws_eqKeptS.T6 := by kernel_rfl
theorem laws_eqKeptS.calls {k : Nat} {a0 : (List S205)} {a1 : (List S205)} {Ap0 Ap1 : Option Addr} {np0 cp0 np1 cp1 : Nat} {r : Bool} {w : World} (h : laws_eqKeptS.f k a0 a1 = some r) (gp0 : k205.C w Ap0 np0 a0) (lp0 : np0 ≤ cp0) (gp1 : k205.C w Ap1 np1 a1) (lp1 : np1 ≤ cp1) :
    Calls Tryz.prog 82 #[.slice Ap0 np0 cp0, .slice Ap1 np1 cp1] w (fun e w' => e = .returned (.bool r) ∧ Hp noFP w w' []) := by
 obtain rfl := C_len gp0
 obtain rfl := C_len gp1
 have HS := Hp.start w
 have H := Aside0.mk h
 clear h
 unfold laws_eqKeptS.f at H
 go_enter Tryz.func82, Tryz.ntmps82
 replace H := znif' H; rcases H with ⟨c1, H⟩ | ⟨c1, H⟩
 case inl =>
  have c1a := beq_eq_false_iff_ne.mpr c1
  have c1b := bne_iff_ne.mpr c1
  clear c1
  obtain rfl := zsome H
  go_wp2
  go_ret
  exact HS.pk
 have c1a := beq_iff_eq.mpr c1
 have c1b := bne_eq_false_iff_eq.mpr c1
 clear c1
 go_wp2
 go_loopg [5] k (fun kq v_5 w' => ∃ (x5 : Int), v_5 = .int .i64 x5 ∧ Aside0 (laws_eqKeptS.l0 kq x5 a0 a1 = some r) ∧ Aside0 (kq ≤ k) ∧ Hp noFP w w' [])
 case atStart => exact ⟨_, rfl, H, ⟨Nat.le_refl _⟩, HS⟩
 case round =>
  clear HS H; (try clear F)
  obtain ⟨x5, rfl, H, HKk4, HS⟩ := hrel
  cases gk with
  | zero => exact absurd H.out (by simp [laws_eqKeptS.l0])
  | succ k4 =>
   simp only [laws_eqKeptS.l0] at H
   replace H := znif H; rcases H with ⟨c7, H⟩ | ⟨c7, H⟩
   case inl =>
    obtain rfl := zsome H
    go_wp2
    go_ret
    exact HS.pk
   (try go_wp2)
   replace H := zgo H; obtain ⟨c3, H⟩ := H
   replace H := zgo H; obtain ⟨c8, H⟩ := H
   obtain ⟨ad10, rfl, e10_0, e10_1, e10_2⟩ := at_T205 gp0 x5 (of_eq_true c3) (of_eq_true c8)
   replace H := zgo H; obtain ⟨c12, H⟩ := H
   obtain ⟨ad13, rfl, e13_0, e13_1, e13_2⟩ := at_T205 gp1 x5 (of_eq_true c3) (of_eq_true c12)
   replace H := zbind H; obtain ⟨t14, ht14, H⟩ := H
   refine dr_start [] HS #[false, false, false, false, false, false, false, false, false, false] (by kernel_rfl) rfl rfl laws_eqKeptS.tT6 (fun w9 HT HS HH => ?_)
   (try clear F)
   refine drq_of [(0, some 17), (1, some 18), (2, some 19)] ?_
   repeat (refine drp HT ?_)
   refine drq_end ?_
   refine dr_take 3 (some 20) HT HH (v := ?_) (a' := ?_) rfl rfl (by kernel_rfl) (fun _ _ _ h => h) (.inl ⟨by rfl, ?_⟩) ?_ ?_
   rotate_left
   · rintro w' ⟨rs', HS'⟩; have e10_0 := HS'.keepc e10_0; have e10_1 := HS'.keepc e10_1; have e10_2 := HS'.keepc e10_2; go_simp; with_reducible rfl
   rotate_left
   · simp only [Act.put, ptn]; rfl
   refine drq_of [(4, some 21), (5, some 22), (6, some 23)] ?_
   repeat (refine drp HT ?_)
   refine drq_end ?_
   refine dr_take 7 (some 24) HT HH (v := ?_) (a' := ?_) rfl rfl (by kernel_rfl) (fun _ _ _ h => h) (.inl ⟨by rfl, ?_⟩) ?_ ?_
   rotate_left
   · rintro w' ⟨rs', HS'⟩; have e13_0 := HS'.keepc e13_0; have e13_1 := HS'.keepc e13_1; have e13_2 := HS'.keepc e13_2; go_simp; with_reducible rfl
   rotate_left
   · simp only [Act.put, ptn]; rfl
   refine dr1 8 HT fun K hK => ?_
   refine go_cl HS (laws_eqKept.calls ht14.out) Tryz.func158 ?_; clear HS; intro wt14 HS F
   refine nrm 25 hK ⟨_, HS⟩ (fun HH => ?_); clear hK K
   refine drq_of [(9, some 26)] ?_
   repeat (refine drp HT ?_)
   refine drq_end ?_
   refine done_ (done_of HT.out (by kernel_rfl)) ?_
   replace H := znifb H; rcases H with ⟨c11, H⟩ | ⟨c11, H⟩
   case inl =>
    subst c11
    (try simp only [dcn, dcu, dcf])
    obtain rfl := zsome H
    go_wp2
    go_ret
    exact HS.pk
   subst c11
   (try simp only [dcn, dcu, dcf])
   go_wp2
   go_roundg k4
   case measure => have := HKk4.out; omega
   case rel => exact ⟨_, rfl, H, ⟨by have := HKk4.out; omega⟩, HS.pick [] (by decide) (by rfl)⟩
def laws_eqServer.f (k : Nat) (a0 : S46) (a1 : S46) : Option (Bool) := ((laws_eqStore.f k a0.f0 a1.f0).bind fun t5 => (if t5 = true then ((laws_eqPlanS.f k a0.f1 a1.f1).bind fun t8 => (if t8 = true then (if a0.f2 = a1.f2 then (if a0.f3 = a1.f3 then (if a0.f4 = a1.f4 then ((laws_eqKeptS.f k a0.f5 a1.f5).bind fun t14 => (if t14 = true then (some true) else (some false))) else (some false)) else (some false)) else (some false)) else (some false))) else (some false)))
theorem laws_eqServer.calls {k : Nat} {a0 : S46} {a1 : S46} {Ap0 Ap1 Ap2 Ap3 Ap4 Ap5 Ap6 Ap7 Ap8 Ap9 : Option Addr} {np0 cp0 np1 cp1 np2 cp2 np3 cp3 np4 cp4 np5 cp5 np6 cp6 np7 cp7 np8 cp8 np9 cp9 : Nat} {r : Bool} {w : World} (h : laws_eqServer.f k a0 a1 = some r) (gp0 : k91.C w Ap0 np0 a0.f0.f0) (lp0 : np0 ≤ cp0) (gp1 : k81.C w Ap1 np1 a0.f0.f1) (lp1 : np1 ≤ cp1) (gp2 : k115.C w Ap2 np2 a0.f0.f2) (lp2 : np2 ≤ cp2) (gp3 : k202.C w Ap3 np3 a0.f1) (lp3 : np3 ≤ cp3) (gp4 : k205.C w Ap4 np4 a0.f5) (lp4 : np4 ≤ cp4) (gp5 : k91.C w Ap5 np5 a1.f0.f0) (lp5 : np5 ≤ cp5) (gp6 : k81.C w Ap6 np6 a1.f0.f1) (lp6 : np6 ≤ cp6) (gp7 : k115.C w Ap7 np7 a1.f0.f2) (lp7 : np7 ≤ cp7) (gp8 : k202.C w Ap8 np8 a1.f1) (lp8 : np8 ≤ cp8) (gp9 : k205.C w Ap9 np9 a1.f5) (lp9 : np9 ≤ cp9) :
    Calls Tryz.prog 20 #[.agg #[.slice Ap0 np0 cp0, .slice Ap1 np1 cp1, .slice Ap2 np2 cp2, .slice Ap3 np3 cp3, .int .i64 a0.f2, .int .i64 a0.f3, .int .i64 a0.f4, .slice Ap4 np4 cp4], .agg #[.slice Ap5 np5 cp5, .slice Ap6 np6 cp6, .slice Ap7 np7 cp7, .slice Ap8 np8 cp8, .int .i64 a1.f2, .int .i64 a1.f3, .int .i64 a1.f4, .slice Ap9 np9 cp9]] w (fun e w' => e = .returned (.bool r) ∧ Hp noFP w w' []) := by
 obtain rfl := C_len gp0
 obtain rfl := C_len gp1
 obtain rfl := C_len gp2
 obtain rfl := C_len gp3
 obtain rfl := C_len gp4
 obtain rfl := C_len gp5
 obtain rfl := C_len gp6
 obtain rfl := C_len gp7
 obtain rfl := C_len gp8
 obtain rfl := C_len gp9
 have HS := Hp.start w
 have H := Aside0.mk h
 clear h
 unfold laws_eqServer.f at H
 go_enter Tryz.func20, Tryz.ntmps20
 replace H := zbind H; obtain ⟨t5, ht5, H⟩ := H
 go_upto_if 10 with (first | ((with_reducible refine gd 2 rfl ?_); refine ev_bx HS ?_; clear HS; intro g2 w2 HS F) | ((with_reducible refine gd 3 rfl ?_); refine ev_bx HS ?_; clear HS; intro g3 w3 HS F) | ((with_reducible refine gd 9 rfl ?_); refine ev_cl HS (laws_eqStore.calls ht5.out (HS.ro gp0) lp0 (HS.ro gp1) lp1 (HS.ro gp2) lp2 (HS.ro gp5) lp5 (HS.ro gp6) lp6 (HS.ro gp7) lp7) Tryz.func15 ?_; clear HS; intro wt5 HS F))
 replace H := znifb H; rcases H with ⟨c7, H⟩ | ⟨c7, H⟩
 case inl =>
  subst c7
  (try simp only [dcn, dcu, dcf])
  obtain rfl := zsome H
  go_wp2
  go_ret
  exact HS.pk
 subst c7
 (try simp only [dcn, dcu, dcf])
 replace H := zbind H; obtain ⟨t8, ht8, H⟩ := H
 go_upto_if 16 with ((with_reducible refine gd 15 rfl ?_); refine ev_cl HS (laws_eqPlanS.calls ht8.out (HS.ro gp3) lp3 (HS.ro gp8) lp8) Tryz.func81 ?_; clear HS; intro wt8 HS F)
 replace H := znifb H; rcases H with ⟨c10, H⟩ | ⟨c10, H⟩
 case inl =>
  subst c10
  (try simp only [dcn, dcu, dcf])
  obtain rfl := zsome H
  go_wp2
  go_ret
  exact HS.pk
 subst c10
 (try simp only [dcn, dcu, dcf])
 replace H := znif' H; rcases H with ⟨c11, H⟩ | ⟨c11, H⟩
 case inl =>
  have c11a := beq_eq_false_iff_ne.mpr c11
  have c11b := bne_iff_ne.mpr c11
  clear c11
  obtain rfl := zsome H
  go_wp2
  go_ret
  exact HS.pk
 have c11a := beq_iff_eq.mpr c11
 have c11b := bne_eq_false_iff_eq.mpr c11
 clear c11
 replace H := znif' H; rcases H with ⟨c12, H⟩ | ⟨c12, H⟩
 case inl =>
  have c12a := beq_eq_false_iff_ne.mpr c12
  have c12b := bne_iff_ne.mpr c12
  clear c12
  obtain rfl := zsome H
  go_wp2
  go_ret
  exact HS.pk
 have c12a := beq_iff_eq.mpr c12
 have c12b := bne_eq_false_iff_eq.mpr c12
 clear c12
 replace H := znif' H; rcases H with ⟨c13, H⟩ | ⟨c13, H⟩
 case inl =>
  have c13a := beq_eq_false_iff_ne.mpr c13
  have c13b := bne_iff_ne.mpr c13
  clear c13
  obtain rfl := zsome H
  go_wp2
  go_ret
  exact HS.pk
 have c13a := beq_iff_eq.mpr c13
 have c13b := bne_eq_false_iff_eq.mpr c13
 clear c13
 replace H := zbind H; obtain ⟨t14, ht14, H⟩ := H
 go_upto_if 37 with ((with_reducible refine gd 36 rfl ?_); refine ev_cl HS (laws_eqKeptS.calls ht14.out (HS.ro gp4) lp4 (HS.ro gp9) lp9) Tryz.func82 ?_; clear HS; intro wt14 HS F)
 replace H := zifb H; rcases H with ⟨c16, H⟩ | ⟨c16, H⟩
 case inl =>
  subst c16
  (try simp only [dcn, dcu, dcf])
  obtain rfl := zsome H
  go_wp2
  go_ret
  exact HS.pk
 subst c16
 (try simp only [dcn, dcu, dcf])
 obtain rfl := zsome H
 go_wp2
 go_ret
 exact HS.pk
def laws_markIntS.l0 : Nat → (List Int) → Int → Int → (List Int) → Option (Int × (List Int))
  | 0, _, _, _, _ => none
  | k + 1, l19, x21, x22, a0 => (if x22 < (a0.length : Int) then (if 0 ≤ x22 then (if x22 < (a0.length : Int) then (laws_markIntS.l0 k (l19.set (x22).toNat x21) (wrap64 (x21 + 1)) (wrap64 (x22 + 1)) a0) else none) else none) else (some (x21, l19)))
def laws_markIntS.f (k : Nat) (a0 : (List Int)) (a1 : Int) : Option (Int × (List Int)) := (laws_markIntS.l0 k a0 a1 0 a0)
theorem laws_markIntS.calls {k : Nat} {a0 : (List Int)} {a1 : Int} {A : FP} {vp0 : Value} {r1 : Int} {r2 : (List Int)} {w : World} (h : laws_markIntS.f k a0 a1 = some (r1, r2)) (HS : Hp A w w [.own (Zd.slice 3 (Zd.int .i64)) a0 [vp0]]) :
    Calls Tryz.prog 120 #[vp0, .int .i64 a1] w (fun e w' => e = .returned (.int .i64 r1) ∧ Hp A w w' [.own (Zd.slice 3 (Zd.int .i64)) r2 [vp0]]) := by
 obtain ⟨B1, d1, rfl, m1⟩ := HS.form 0 rfl
 have H := Aside0.mk h
 clear h
 unfold laws_markIntS.f at H
 go_enter Tryz.func120, Tryz.ntmps120
 go_wp2
 go_loopg [1, 5] k (fun kq v_1 v_5 w' => ∃ (l19 : List Int) (x21 : Int) (x22 : Int), v_1 = .int .i64 x21 ∧ v_5 = .int .i64 x22 ∧ Aside0 (laws_markIntS.l0 kq l19 x21 x22 a0 = some (r1, r2)) ∧ Aside0 (kq ≤ k) ∧ Hp A w w' [.own (Zd.slice 3 (Zd.int .i64)) l19 [.slice B1 a0.length d1]])
 case atStart => exact ⟨_, _, _, rfl, rfl, H, ⟨Nat.le_refl _⟩, HS⟩
 case round =>
  clear HS H; (try clear F)
  obtain ⟨l19, x21, x22, rfl, rfl, H, HKk18, HS⟩ := hrel
  cases gk with
  | zero => exact absurd H.out (by simp [laws_markIntS.l0])
  | succ k18 =>
   simp only [laws_markIntS.l0] at H
   replace H := znif H; rcases H with ⟨c24, H⟩ | ⟨c24, H⟩
   case inl =>
    obtain ⟨rfl, rfl⟩ := zsome2 H
    go_wp2
    go_ret
    exact ⟨rfl, HS.pick [0] (by decide) (by rfl)⟩
   replace H := zgo H; obtain ⟨c25, H⟩ := H
   replace H := zgo H; obtain ⟨c26, H⟩ := H
   obtain ⟨ad27, rfl, e27_0⟩ := Kd.at_int (HS.rd 0 rfl) x22 (of_eq_true c25) (of_eq_true c26)
   go_wp2_with ((with_reducible refine gate_store (p := 15) rfl ?_); refine ev_set rfl (Zd.int .i64) 0 [] x22 x21 HS (seg := [.int .i64 x21]) rfl (by decide) rfl rfl rfl (by first | rfl | exact (Nat.mul_one _).symm) rfl rfl (by kernel_rfl) (by simp [Value.oneCell']) ⟨of_eq_true c25, of_eq_true c26⟩ rfl (made_flat (fun _ => rfl)) ?_; clear HS; intro w28 HS; (try simp only [hpn, hpm] at HS))
   go_roundg k18
   case measure => have := HKk18.out; omega
   case rel => exact ⟨_, _, _, rfl, rfl, H, ⟨by have := HKk18.out; omega⟩, HS.pick [0] (by decide) (by rfl)⟩
def laws_markText.l0 : Nat → Int → ByteArray → Option (ByteArray)
  | 0, _, _ => none
  | k + 1, x11, x12 => (if 0 < x11 then (if (strOfNums ([((wrap64 (48 + (Int.tmod x11 10))) % 256)] : List Int)).size + x12.size ≤ 9223372036854775807 then (laws_markText.l0 k (wrap64 (Int.tdiv x11 10)) ((strOfNums ([((wrap64 (48 + (Int.tmod x11 10))) % 256)] : List Int)) ++ x12)) else none) else (if (⟨#[109]⟩ : ByteArray).size + x12.size ≤ 9223372036854775807 then (some ((⟨#[109]⟩ : ByteArray) ++ x12)) else none))
def laws_markText.f (k : Nat) (a0 : Int) : Option (ByteArray) := (if a0 ≤ 0 then (some (⟨#[109, 48]⟩ : ByteArray)) else (laws_markText.l0 k a0 (⟨#[]⟩ : ByteArray)))
theorem laws_markText.calls {k : Nat} {a0 : Int} {r : ByteArray} {w : World} (h : laws_markText.f k a0 = some r) :
    Calls Tryz.prog 180 #[.int .i64 a0] w (fun e w' => e = .returned (.string r) ∧ Hp noFP w w' []) := by
 have HS := Hp.start w
 have H := Aside0.mk h
 clear h
 unfold laws_markText.f at H
 go_enter Tryz.func180, Tryz.ntmps180
 replace H := zif H; rcases H with ⟨c1, H⟩ | ⟨c1, H⟩
 case inl =>
  obtain rfl := zsome H
  go_wp2
  go_ret
  exact HS.pk
 go_wp2
 go_loopg [0, 3] k (fun kq v_0 v_3 w' => ∃ (x11 : Int) (x12 : ByteArray), v_0 = .int .i64 x11 ∧ v_3 = .string x12 ∧ Aside0 (laws_markText.l0 kq x11 x12 = some r) ∧ Aside0 (kq ≤ k) ∧ Hp noFP w w' [])
 case atStart => exact ⟨_, _, rfl, rfl, H, ⟨Nat.le_refl _⟩, HS⟩
 case round =>
  clear HS H; (try clear F)
  obtain ⟨x11, x12, rfl, rfl, H, HKk10, HS⟩ := hrel
  cases gk with
  | zero => exact absurd H.out (by simp [laws_markText.l0])
  | succ k10 =>
   simp only [laws_markText.l0] at H
   replace H := znif H; rcases H with ⟨c14, H⟩ | ⟨c14, H⟩
   case inl =>
    replace H := zgo H; obtain ⟨c18, H⟩ := H
    obtain rfl := zsome H
    go_wp2_with ((with_reducible refine gd 19 rfl ?_); refine ev_val rfl (run_cat rfl rfl rfl (of_eq_true c18)) ?_)
    go_ret
    exact HS.pk
   replace H := zgo H; obtain ⟨c17, H⟩ := H
   go_wp2_with (first | ((with_reducible refine gd 12 rfl ?_); refine ev_li (Zd.int .u8) [] ([((wrap64 (48 + (Int.tmod x11 10))) % 256)] : List Int) ([.int .u8 ((wrap64 (48 + (Int.tmod x11 10))) % 256)] ++ []) HS (MadeL.cons (js1 := []) (c := [.int .u8 ((wrap64 (48 + (Int.tmod x11 10))) % 256)]) rfl (made_flat (fun _ => rfl)) MadeL.nil (by decide)) ?_; clear HS; intro v15 w15 HS F; obtain ⟨B15, d15, rfl, m15⟩ := HS.formn 1 0 rfl rfl) | ((with_reducible refine gd 13 rfl ?_); refine ev_val rfl (run_str rfl rfl Tryz.underlying225 Tryz.underlying5 Tryz.underlying9 (HS.rd 0 rfl)) ?_) | ((with_reducible refine gd 15 rfl ?_); refine ev_val rfl (run_cat rfl rfl rfl (of_eq_true c17)) ?_))
   go_roundg k10
   case measure => have := HKk10.out; omega
   case rel => exact ⟨_, _, rfl, rfl, H, ⟨by have := HKk10.out; omega⟩, HS.pick [] (by decide) (by rfl)⟩
def laws_markStringS.l0 : Nat → (List ByteArray) → Int → Int → (List ByteArray) → Option (Int × (List ByteArray))
  | 0, _, _, _, _ => none
  | k + 1, l21, x23, x24, a0 => (if x24 < (a0.length : Int) then ((laws_markText.f k x23).bind fun t27 => (if 0 ≤ x24 then (if x24 < (a0.length : Int) then (laws_markStringS.l0 k (l21.set (x24).toNat t27) (wrap64 (x23 + 1)) (wrap64 (x24 + 1)) a0) else none) else none)) else (some (x23, l21)))
def laws_markStringS.f (k : Nat) (a0 : (List ByteArray)) (a1 : Int) : Option (Int × (List ByteArray)) := (laws_markStringS.l0 k a0 a1 0 a0)
theorem laws_markStringS.calls {k : Nat} {a0 : (List ByteArray)} {a1 : Int} {A : FP} {vp0 : Value} {r1 : Int} {r2 : (List ByteArray)} {w : World} (h : laws_markStringS.f k a0 a1 = some (r1, r2)) (HS : Hp A w w [.own (Zd.slice 9 Zd.string) a0 [vp0]]) :
    Calls Tryz.prog 121 #[vp0, .int .i64 a1] w (fun e w' => e = .returned (.int .i64 r1) ∧ Hp A w w' [.own (Zd.slice 9 Zd.string) r2 [vp0]]) := by
 obtain ⟨B1, d1, rfl, m1⟩ := HS.form 0 rfl
 have H := Aside0.mk h
 clear h
 unfold laws_markStringS.f at H
 go_enter Tryz.func121, Tryz.ntmps121
 go_wp2
 go_loopg [1, 5] k (fun kq v_1 v_5 w' => ∃ (l21 : List ByteArray) (x23 : Int) (x24 : Int), v_1 = .int .i64 x23 ∧ v_5 = .int .i64 x24 ∧ Aside0 (laws_markStringS.l0 kq l21 x23 x24 a0 = some (r1, r2)) ∧ Aside0 (kq ≤ k) ∧ Hp A w w' [.own (Zd.slice 9 Zd.string) l21 [.slice B1 a0.length d1]])
 case atStart => exact ⟨_, _, _, rfl, rfl, H, ⟨Nat.le_refl _⟩, HS⟩
 case round =>
  clear HS H; (try clear F)
  obtain ⟨l21, x23, x24, rfl, rfl, H, HKk20, HS⟩ := hrel
  cases gk with
  | zero => exact absurd H.out (by simp [laws_markStringS.l0])
  | succ k20 =>
   simp only [laws_markStringS.l0] at H
   replace H := znif H; rcases H with ⟨c26, H⟩ | ⟨c26, H⟩
   case inl =>
    obtain ⟨rfl, rfl⟩ := zsome2 H
    go_wp2
    go_ret
    exact ⟨rfl, HS.pick [0] (by decide) (by rfl)⟩
   replace H := zbind H; obtain ⟨t27, ht27, H⟩ := H
   replace H := zgo H; obtain ⟨c29, H⟩ := H
   replace H := zgo H; obtain ⟨c30, H⟩ := H
   go_wp2_with (first | ((with_reducible refine gd 15 rfl ?_); refine ev_cl HS (laws_markText.calls ht27.out) Tryz.func180 ?_; clear HS; intro wt27 HS F; obtain ⟨ad31, rfl, e31_0⟩ := Kd.at_string (HS.rd 0 rfl) x24 (of_eq_true c29) (of_eq_true c30)) | ((with_reducible refine gate_store (p := 16) rfl ?_); refine ev_set rfl Zd.string 0 [] x24 t27 HS (seg := [.string t27]) rfl (by decide) rfl rfl rfl (by first | rfl | exact (Nat.mul_one _).symm) rfl rfl (by kernel_rfl) (by simp [Value.oneCell']) ⟨of_eq_true c29, of_eq_true c30⟩ rfl (made_flat (fun _ => rfl)) ?_; clear HS; intro w32 HS; (try simp only [hpn, hpm] at HS)))
   go_roundg k20
   case measure => have := HKk20.out; omega
   case rel => exact ⟨_, _, _, rfl, rfl, H, ⟨by have := HKk20.out; omega⟩, HS.pick [0] (by decide) (by rfl)⟩
def laws_markCert.f (k : Nat) (a0 : S91) (a1 : Int) : Option (Int × (List Int) × (List ByteArray) × (List ByteArray)) := ((laws_markIntS.f k a0.f9 a1).bind fun t6 => ((laws_markStringS.f k a0.f10 t6.1).bind fun t8 => ((laws_markStringS.f k a0.f11 t8.1).bind fun t10 => (some (t10.1, t6.2, t8.2, t10.2)))))
theorem laws_markCert.calls {k : Nat} {a0 : S91} {a1 : Int} {A : FP} {vp0 : Value} {vp1 : Value} {vp2 : Value} {r1 : Int} {r2 : (List Int)} {r3 : (List ByteArray)} {r4 : (List ByteArray)} {w : World} (h : laws_markCert.f k a0 a1 = some (r1, r2, r3, r4)) (HS : Hp A w w [.own (Zd.slice 3 (Zd.int .i64)) a0.f9 [vp0], .own (Zd.slice 9 Zd.string) a0.f10 [vp1], .own (Zd.slice 9 Zd.string) a0.f11 [vp2]]) :
    Calls Tryz.prog 39 #[.agg #[.int .i64 a0.f0, .string a0.f1, .string a0.f2, .int .i64 a0.f3, .int .i64 a0.f4, .string a0.f5, .bool a0.f6, .int .i64 a0.f7, .int .i64 a0.f8, vp0, vp1, vp2, .string a0.f12], .int .i64 a1] w (fun e w' => e = .returned (.int .i64 r1) ∧ Hp A w w' [.own (Zd.slice 3 (Zd.int .i64)) r2 [vp0], .own (Zd.slice 9 Zd.string) r3 [vp1], .own (Zd.slice 9 Zd.string) r4 [vp2]]) := by
 obtain ⟨B1, d1, rfl, m1⟩ := HS.form 0 rfl
 obtain ⟨B2, d2, rfl, m2⟩ := HS.form 1 rfl
 obtain ⟨B3, d3, rfl, m3⟩ := HS.form 2 rfl
 have H := Aside0.mk h
 clear h
 unfold laws_markCert.f at H
 go_enter Tryz.func39, Tryz.ntmps39
 replace H := zbind H; obtain ⟨t6, ht6, H⟩ := H
 replace H := zbind H; obtain ⟨t8, ht8, H⟩ := H
 replace H := zbind H; obtain ⟨t10, ht10, H⟩ := H
 have H := zsome H; simp only [Prod.mk.injEq] at H; obtain ⟨rfl, rfl, rfl, rfl⟩ := H
 go_wp2_with (first | ((with_reducible refine gd 2 rfl ?_); refine ev_bx HS ?_; clear HS; intro g2 w2 HS F) | ((with_reducible refine gd 8 rfl ?_); refine HS.lend [0] (by decide) [.own (Zd.slice 3 (Zd.int .i64)) a0.f9 [.slice B1 a0.f9.length d1]] rfl (fun A' HL HD HA HB => ?_); refine ev_lc (laws_markIntS.calls ht6.out HA) (fun _ HQ => HB _ _ HQ (Nat.le_of_ble_eq_true rfl)) Tryz.func120 ?_; clear HS HA HB HL HD; intro wt6 HS F) | ((with_reducible refine gd 12 rfl ?_); refine HS.lend [1] (by decide) [.own (Zd.slice 9 Zd.string) a0.f10 [.slice B2 a0.f10.length d2]] rfl (fun A' HL HD HA HB => ?_); refine ev_lc (laws_markStringS.calls ht8.out HA) (fun _ HQ => HB _ _ HQ (Nat.le_of_ble_eq_true rfl)) Tryz.func121 ?_; clear HS HA HB HL HD; intro wt8 HS F) | ((with_reducible refine gd 16 rfl ?_); refine HS.lend [2] (by decide) [.own (Zd.slice 9 Zd.string) a0.f11 [.slice B3 a0.f11.length d3]] rfl (fun A' HL HD HA HB => ?_); refine ev_lc (laws_markStringS.calls ht10.out HA) (fun _ HQ => HB _ _ HQ (Nat.le_of_ble_eq_true rfl)) Tryz.func121 ?_; clear HS HA HB HL HD; intro wt10 HS F))
 go_ret
 exact ⟨rfl, HS.pick [0, 1, 2] (by decide) (by rfl)⟩
def laws_markPlanS.l0 : Nat → (List S202) → Int → Int → (List S202) → Option (Int × (List S202))
  | 0, _, _, _, _ => none
  | k + 1, l44, x46, x47, a0 => (if x47 < (a0.length : Int) then (if 0 ≤ x47 then (if x47 < (a0.length : Int) then (lets (l44.set (x47).toNat (u202_0_3 (rd_T202 l44 x47) x46)) fun y54 => ((laws_markIntS.f k ((rd_T202 y54 x47).f1) (wrap64 (x46 + 1))).bind fun t57 => (lets (y54.set (x47).toNat (u202_1_52 (rd_T202 y54 x47) t57.2)) fun y58 => (lets (y58.set (x47).toNat (u202_2_3 (rd_T202 y58 x47) t57.1)) fun y62 => ((laws_markIntS.f k ((rd_T202 y62 x47).f2.f1) (wrap64 (t57.1 + 1))).bind fun t65 => (lets (y62.set (x47).toNat (u202_3_52 (rd_T202 y62 x47) t65.2)) fun y66 => (lets (y66.set (x47).toNat (u202_4_4 (rd_T202 y66 x47) ((Int.tmod t65.1 3) == 0))) fun y70 => (lets (y70.set (x47).toNat (u202_5_4 (rd_T202 y70 x47) ((Int.tmod (wrap64 (t65.1 + 1)) 3) == 0))) fun y74 => (lets (y74.set (x47).toNat (u202_6_3 (rd_T202 y74 x47) (wrap64 ((wrap64 (t65.1 + 1)) + 1)))) fun y78 => (laws_markPlanS.l0 k y78 (wrap64 ((wrap64 ((wrap64 (t65.1 + 1)) + 1)) + 1)) (wrap64 (x47 + 1)) a0)))))))))) else none) else none) else (some (x46, l44)))
def laws_markPlanS.f (k : Nat) (a0 : (List S202)) (a1 : Int) : Option (Int × (List S202)) := (laws_markPlanS.l0 k a0 a1 0 a0)
theorem laws_markPlanS.calls {k : Nat} {a0 : (List S202)} {a1 : Int} {A : FP} {vp0 : Value} {r1 : Int} {r2 : (List S202)} {w : World} (h : laws_markPlanS.f k a0 a1 = some (r1, r2)) (HS : Hp A w w [.own (Zd.slice 202 q202) a0 [vp0]]) :
    Calls Tryz.prog 129 #[vp0, .int .i64 a1] w (fun e w' => e = .returned (.int .i64 r1) ∧ Hp A w w' [.own (Zd.slice 202 q202) r2 [vp0]]) := by
 obtain ⟨B1, d1, rfl, m1⟩ := HS.form 0 rfl
 have H := Aside0.mk h
 clear h
 unfold laws_markPlanS.f at H
 go_enter Tryz.func129, Tryz.ntmps129
 go_wp2
 go_loopg [1, 5] k (fun kq v_1 v_5 w' => ∃ (l44 : List S202) (x46 : Int) (x47 : Int), v_1 = .int .i64 x46 ∧ v_5 = .int .i64 x47 ∧ Aside0 (laws_markPlanS.l0 kq l44 x46 x47 a0 = some (r1, r2)) ∧ Aside0 (kq ≤ k) ∧ Hp A w w' [.own (Zd.slice 202 q202) l44 [.slice B1 a0.length d1]])
 case atStart => exact ⟨_, _, _, rfl, rfl, H, ⟨Nat.le_refl _⟩, HS⟩
 case round =>
  clear HS H; (try clear F)
  obtain ⟨l44, x46, x47, rfl, rfl, H, HKk43, HS⟩ := hrel
  cases gk with
  | zero => exact absurd H.out (by simp [laws_markPlanS.l0])
  | succ k43 =>
   simp only [laws_markPlanS.l0] at H
   replace H := znif H; rcases H with ⟨c49, H⟩ | ⟨c49, H⟩
   case inl =>
    obtain ⟨rfl, rfl⟩ := zsome2 H
    go_wp2
    go_ret
    exact ⟨rfl, HS.pick [0] (by decide) (by rfl)⟩
   replace H := zgo H; obtain ⟨c50, H⟩ := H
   replace H := zgo H; obtain ⟨c51, H⟩ := H
   obtain ⟨ad52, B52_1, d52_1, B52_3, d52_3, rfl, e52_0, e52_1, e52_2, e52_3, e52_4, e52_5, e52_6, m52_1, y52_1, m52_3, y52_3⟩ := at_T202 (HS.rd 0 rfl) x47 (of_eq_true c50) (of_eq_true c51)
   replace H := zlets H; obtain ⟨y54, e_y54, H⟩ := H
   replace H := zbind H; obtain ⟨t57, ht57, H⟩ := H
   replace H := zlets H; obtain ⟨y58, e_y58, H⟩ := H
   replace H := zlets H; obtain ⟨y62, e_y62, H⟩ := H
   replace H := zbind H; obtain ⟨t65, ht65, H⟩ := H
   replace H := zlets H; obtain ⟨y66, e_y66, H⟩ := H
   replace H := zlets H; obtain ⟨y70, e_y70, H⟩ := H
   replace H := zlets H; obtain ⟨y74, e_y74, H⟩ := H
   replace H := zlets H; obtain ⟨y78, e_y78, H⟩ := H
   go_wp2_with (first | ((with_reducible refine gate_store (p := 16) rfl ?_); refine ev_sp lens202_0_3 0 [] x47 (rd_T202 l44 x47) x46 HS (ad := ad52) (seg := [.int .i64 x46]) (of_eq_true c50) (of_eq_true c51) (fun hl => rd_T202_get hl) (made_flat (fun _ => rfl)) ?_; clear HS; intro w53 HS; rw [← e_y54.out] at HS; (try simp only [hpn, hpm] at HS); obtain ⟨ad56, B56_1, d56_1, B56_3, d56_3, hq56, e56_0, e56_1, e56_2, e56_3, e56_4, e56_5, e56_6, m56_1, y56_1, m56_3, y56_3⟩ := at_T202 (HS.rd 0 rfl) x47 (of_eq_true c50) (of_eq_true c51); obtain rfl := Option.some.inj hq56) | ((with_reducible refine gd 25 rfl ?_); refine HS.lend_el 0 x47 rfl lens202_1_52 (of_eq_true c50) (of_eq_true c51) e56_1 (by rintro g rfl; simp only [add_plain]; refine congrArg (fun n => (⟨g, n, none⟩ : Addr)) ?_; first | rfl | omega) (fun hl => rd_T202_get hl) (fun A' HL HA HB => ?_); refine ev_lc (laws_markIntS.calls ht57.out HA) (fun _ HQ => HB _ _ _ HQ) Tryz.func120 ?_; clear HS HA HB HL; intro wt57 HS F; rw [← e_y58.out] at HS; (try simp only [hpn, hpm] at HS); obtain ⟨ad60, B60_1, d60_1, B60_3, d60_3, hq60, e60_0, e60_1, e60_2, e60_3, e60_4, e60_5, e60_6, m60_1, y60_1, m60_3, y60_3⟩ := at_T202 (HS.rd 0 rfl) x47 (of_eq_true c50) (of_eq_true c51); obtain rfl := Option.some.inj hq60) | ((with_reducible refine gate_store (p := 31) rfl ?_); refine ev_sp lens202_2_3 0 [] x47 (rd_T202 y58 x47) t57.1 HS (ad := ad52) (seg := [.int .i64 t57.1]) (of_eq_true c50) (of_eq_true c51) (fun hl => rd_T202_get hl) (made_flat (fun _ => rfl)) ?_; clear HS; intro w61 HS; rw [← e_y62.out] at HS; (try simp only [hpn, hpm] at HS); obtain ⟨ad64, B64_1, d64_1, B64_3, d64_3, hq64, e64_0, e64_1, e64_2, e64_3, e64_4, e64_5, e64_6, m64_1, y64_1, m64_3, y64_3⟩ := at_T202 (HS.rd 0 rfl) x47 (of_eq_true c50) (of_eq_true c51); obtain rfl := Option.some.inj hq64) | ((with_reducible refine gd 41 rfl ?_); refine HS.lend_el 0 x47 rfl lens202_3_52 (of_eq_true c50) (of_eq_true c51) e64_3 (by rintro g rfl; simp only [add_plain]; refine congrArg (fun n => (⟨g, n, none⟩ : Addr)) ?_; first | rfl | omega) (fun hl => rd_T202_get hl) (fun A' HL HA HB => ?_); refine ev_lc (laws_markIntS.calls ht65.out HA) (fun _ HQ => HB _ _ _ HQ) Tryz.func120 ?_; clear HS HA HB HL; intro wt65 HS F; rw [← e_y66.out] at HS; (try simp only [hpn, hpm] at HS); obtain ⟨ad68, B68_1, d68_1, B68_3, d68_3, hq68, e68_0, e68_1, e68_2, e68_3, e68_4, e68_5, e68_6, m68_1, y68_1, m68_3, y68_3⟩ := at_T202 (HS.rd 0 rfl) x47 (of_eq_true c50) (of_eq_true c51); obtain rfl := Option.some.inj hq68) | ((with_reducible refine gate_store (p := 49) rfl ?_); refine ev_sp lens202_4_4 0 [] x47 (rd_T202 y66 x47) ((Int.tmod t65.1 3) == 0) HS (ad := ad52) (seg := [.bool ((Int.tmod t65.1 3) == 0)]) (of_eq_true c50) (of_eq_true c51) (fun hl => rd_T202_get hl) (made_flat (fun _ => rfl)) ?_; clear HS; intro w69 HS; rw [← e_y70.out] at HS; (try simp only [hpn, hpm] at HS); obtain ⟨ad72, B72_1, d72_1, B72_3, d72_3, hq72, e72_0, e72_1, e72_2, e72_3, e72_4, e72_5, e72_6, m72_1, y72_1, m72_3, y72_3⟩ := at_T202 (HS.rd 0 rfl) x47 (of_eq_true c50) (of_eq_true c51); obtain rfl := Option.some.inj hq72) | ((with_reducible refine gate_store (p := 59) rfl ?_); refine ev_sp lens202_5_4 0 [] x47 (rd_T202 y70 x47) ((Int.tmod (wrap64 (t65.1 + 1)) 3) == 0) HS (ad := ad52) (seg := [.bool ((Int.tmod (wrap64 (t65.1 + 1)) 3) == 0)]) (of_eq_true c50) (of_eq_true c51) (fun hl => rd_T202_get hl) (made_flat (fun _ => rfl)) ?_; clear HS; intro w73 HS; rw [← e_y74.out] at HS; (try simp only [hpn, hpm] at HS); obtain ⟨ad76, B76_1, d76_1, B76_3, d76_3, hq76, e76_0, e76_1, e76_2, e76_3, e76_4, e76_5, e76_6, m76_1, y76_1, m76_3, y76_3⟩ := at_T202 (HS.rd 0 rfl) x47 (of_eq_true c50) (of_eq_true c51); obtain rfl := Option.some.inj hq76) | ((with_reducible refine gate_store (p := 67) rfl ?_); refine ev_sp lens202_6_3 0 [] x47 (rd_T202 y74 x47) (wrap64 ((wrap64 (t65.1 + 1)) + 1)) HS (ad := ad52) (seg := [.int .i64 (wrap64 ((wrap64 (t65.1 + 1)) + 1))]) (of_eq_true c50) (of_eq_true c51) (fun hl => rd_T202_get hl) (made_flat (fun _ => rfl)) ?_; clear HS; intro w77 HS; rw [← e_y78.out] at HS; (try simp only [hpn, hpm] at HS)))
   go_roundg k43
   case measure => have := HKk43.out; omega
   case rel => exact ⟨_, _, _, rfl, rfl, H, ⟨by have := HKk43.out; omega⟩, HS.pick [0] (by decide) (by rfl)⟩
def laws_markKeptS.l0 : Nat → (List S205) → Int → Int → (List S205) → Option (Int × (List S205))
  | 0, _, _, _, _ => none
  | k + 1, l32, x34, x35, a0 => (if x35 < (a0.length : Int) then ((laws_markText.f k x34).bind fun t38 => (if 0 ≤ x35 then (if x35 < (a0.length : Int) then (lets (l32.set (x35).toNat (u205_0_9 (rd_T205 l32 x35) t38)) fun y44 => ((laws_markText.f k (wrap64 (x34 + 1))).bind fun t46 => (lets (y44.set (x35).toNat (u205_1_9 (rd_T205 y44 x35) t46)) fun y50 => (lets (y50.set (x35).toNat (u205_2_3 (rd_T205 y50 x35) (wrap64 ((wrap64 (x34 + 1)) + 1)))) fun y54 => (laws_markKeptS.l0 k y54 (wrap64 ((wrap64 ((wrap64 (x34 + 1)) + 1)) + 1)) (wrap64 (x35 + 1)) a0))))) else none) else none)) else (some (x34, l32)))
def laws_markKeptS.f (k : Nat) (a0 : (List S205)) (a1 : Int) : Option (Int × (List S205)) := (laws_markKeptS.l0 k a0 a1 0 a0)
theorem laws_markKeptS.calls {k : Nat} {a0 : (List S205)} {a1 : Int} {A : FP} {vp0 : Value} {r1 : Int} {r2 : (List S205)} {w : World} (h : laws_markKeptS.f k a0 a1 = some (r1, r2)) (HS : Hp A w w [.own (Zd.slice 205 q205) a0 [vp0]]) :
    Calls Tryz.prog 130 #[vp0, .int .i64 a1] w (fun e w' => e = .returned (.int .i64 r1) ∧ Hp A w w' [.own (Zd.slice 205 q205) r2 [vp0]]) := by
 obtain ⟨B1, d1, rfl, m1⟩ := HS.form 0 rfl
 have H := Aside0.mk h
 clear h
 unfold laws_markKeptS.f at H
 go_enter Tryz.func130, Tryz.ntmps130
 go_wp2
 go_loopg [1, 5] k (fun kq v_1 v_5 w' => ∃ (l32 : List S205) (x34 : Int) (x35 : Int), v_1 = .int .i64 x34 ∧ v_5 = .int .i64 x35 ∧ Aside0 (laws_markKeptS.l0 kq l32 x34 x35 a0 = some (r1, r2)) ∧ Aside0 (kq ≤ k) ∧ Hp A w w' [.own (Zd.slice 205 q205) l32 [.slice B1 a0.length d1]])
 case atStart => exact ⟨_, _, _, rfl, rfl, H, ⟨Nat.le_refl _⟩, HS⟩
 case round =>
  clear HS H; (try clear F)
  obtain ⟨l32, x34, x35, rfl, rfl, H, HKk31, HS⟩ := hrel
  cases gk with
  | zero => exact absurd H.out (by simp [laws_markKeptS.l0])
  | succ k31 =>
   simp only [laws_markKeptS.l0] at H
   replace H := znif H; rcases H with ⟨c37, H⟩ | ⟨c37, H⟩
   case inl =>
    obtain ⟨rfl, rfl⟩ := zsome2 H
    go_wp2
    go_ret
    exact ⟨rfl, HS.pick [0] (by decide) (by rfl)⟩
   replace H := zbind H; obtain ⟨t38, ht38, H⟩ := H
   replace H := zgo H; obtain ⟨c40, H⟩ := H
   replace H := zgo H; obtain ⟨c41, H⟩ := H
   replace H := zlets H; obtain ⟨y44, e_y44, H⟩ := H
   replace H := zbind H; obtain ⟨t46, ht46, H⟩ := H
   replace H := zlets H; obtain ⟨y50, e_y50, H⟩ := H
   replace H := zlets H; obtain ⟨y54, e_y54, H⟩ := H
   go_wp2_with (first | ((with_reducible refine gd 15 rfl ?_); refine ev_cl HS (laws_markText.calls ht38.out) Tryz.func180 ?_; clear HS; intro wt38 HS F; obtain ⟨ad42, rfl, e42_0, e42_1, e42_2⟩ := at_T205 (HS.rd 0 rfl) x35 (of_eq_true c40) (of_eq_true c41)) | ((with_reducible refine gate_store (p := 17) rfl ?_); refine ev_sp lens205_0_9 0 [] x35 (rd_T205 l32 x35) t38 HS (ad := ad42) (seg := [.string t38]) (of_eq_true c40) (of_eq_true c41) (fun hl => rd_T205_get hl) (made_flat (fun _ => rfl)) ?_; clear HS; intro w43 HS; rw [← e_y44.out] at HS; (try simp only [hpn, hpm] at HS)) | ((with_reducible refine gd 23 rfl ?_); refine ev_cl HS (laws_markText.calls ht46.out) Tryz.func180 ?_; clear HS; intro wt46 HS F; obtain ⟨ad48, hq48, e48_0, e48_1, e48_2⟩ := at_T205 (HS.rd 0 rfl) x35 (of_eq_true c40) (of_eq_true c41); obtain rfl := Option.some.inj hq48) | ((with_reducible refine gate_store (p := 25) rfl ?_); refine ev_sp lens205_1_9 0 [] x35 (rd_T205 y44 x35) t46 HS (ad := ad42) (seg := [.string t46]) (of_eq_true c40) (of_eq_true c41) (fun hl => rd_T205_get hl) (made_flat (fun _ => rfl)) ?_; clear HS; intro w49 HS; rw [← e_y50.out] at HS; (try simp only [hpn, hpm] at HS); obtain ⟨ad52, hq52, e52_0, e52_1, e52_2⟩ := at_T205 (HS.rd 0 rfl) x35 (of_eq_true c40) (of_eq_true c41); obtain rfl := Option.some.inj hq52) | ((with_reducible refine gate_store (p := 32) rfl ?_); refine ev_sp lens205_2_3 0 [] x35 (rd_T205 y50 x35) (wrap64 ((wrap64 (x34 + 1)) + 1)) HS (ad := ad42) (seg := [.int .i64 (wrap64 ((wrap64 (x34 + 1)) + 1))]) (of_eq_true c40) (of_eq_true c41) (fun hl => rd_T205_get hl) (made_flat (fun _ => rfl)) ?_; clear HS; intro w53 HS; rw [← e_y54.out] at HS; (try simp only [hpn, hpm] at HS)))
   go_roundg k31
   case measure => have := HKk31.out; omega
   case rel => exact ⟨_, _, _, rfl, rfl, H, ⟨by have := HKk31.out; omega⟩, HS.pick [0] (by decide) (by rfl)⟩
def laws_markCertS.l0 : Nat → (List S91) → Int → Int → (List S91) → Option (Int × (List S91))
  | 0, _, _, _, _ => none
  | k + 1, l76, x78, x79, a0 => (if x79 < (a0.length : Int) then (if 0 ≤ x79 then (if x79 < (a0.length : Int) then (lets (l76.set (x79).toNat (u91_0_3 (rd_T91 l76 x79) x78)) fun y86 => ((laws_markText.f k (wrap64 (x78 + 1))).bind fun t88 => (lets (y86.set (x79).toNat (u91_1_9 (rd_T91 y86 x79) t88)) fun y92 => ((laws_markText.f k (wrap64 ((wrap64 (x78 + 1)) + 1))).bind fun t94 => (lets (y92.set (x79).toNat (u91_2_9 (rd_T91 y92 x79) t94)) fun y98 => (lets (y98.set (x79).toNat (u91_3_3 (rd_T91 y98 x79) (wrap64 ((wrap64 ((wrap64 (x78 + 1)) + 1)) + 1)))) fun y102 => (lets (y102.set (x79).toNat (u91_4_3 (rd_T91 y102 x79) (wrap64 ((wrap64 ((wrap64 ((wrap64 (x78 + 1)) + 1)) + 1)) + 1)))) fun y106 => ((laws_markText.f k (wrap64 ((wrap64 ((wrap64 ((wrap64 ((wrap64 (x78 + 1)) + 1)) + 1)) + 1)) + 1))).bind fun t108 => (lets (y106.set (x79).toNat (u91_5_9 (rd_T91 y106 x79) t108)) fun y112 => (lets (y112.set (x79).toNat (u91_6_4 (rd_T91 y112 x79) ((Int.tmod (wrap64 ((wrap64 ((wrap64 ((wrap64 ((wrap64 ((wrap64 (x78 + 1)) + 1)) + 1)) + 1)) + 1)) + 1)) 3) == 0))) fun y116 => (lets (y116.set (x79).toNat (u91_7_3 (rd_T91 y116 x79) (wrap64 ((wrap64 ((wrap64 ((wrap64 ((wrap64 ((wrap64 ((wrap64 (x78 + 1)) + 1)) + 1)) + 1)) + 1)) + 1)) + 1)))) fun y120 => (lets (y120.set (x79).toNat (u91_8_3 (rd_T91 y120 x79) (wrap64 ((wrap64 ((wrap64 ((wrap64 ((wrap64 ((wrap64 ((wrap64 ((wrap64 (x78 + 1)) + 1)) + 1)) + 1)) + 1)) + 1)) + 1)) + 1)))) fun y124 => ((laws_markIntS.f k ((rd_T91 y124 x79).f9) (wrap64 ((wrap64 ((wrap64 ((wrap64 ((wrap64 ((wrap64 ((wrap64 ((wrap64 ((wrap64 (x78 + 1)) + 1)) + 1)) + 1)) + 1)) + 1)) + 1)) + 1)) + 1))).bind fun t127 => (lets (y124.set (x79).toNat (u91_9_52 (rd_T91 y124 x79) t127.2)) fun y128 => ((laws_markStringS.f k ((rd_T91 y128 x79).f10) t127.1).bind fun t131 => (lets (y128.set (x79).toNat (u91_10_57 (rd_T91 y128 x79) t131.2)) fun y132 => ((laws_markStringS.f k ((rd_T91 y132 x79).f11) t131.1).bind fun t135 => (lets (y132.set (x79).toNat (u91_11_57 (rd_T91 y132 x79) t135.2)) fun y136 => ((laws_markText.f k t135.1).bind fun t138 => (lets (y136.set (x79).toNat (u91_12_9 (rd_T91 y136 x79) t138)) fun y142 => (laws_markCertS.l0 k y142 (wrap64 (t135.1 + 1)) (wrap64 (x79 + 1)) a0))))))))))))))))))))) else none) else none) else (some (x78, l76)))
def laws_markCertS.f (k : Nat) (a0 : (List S91)) (a1 : Int) : Option (Int × (List S91)) := (laws_markCertS.l0 k a0 a1 0 a0)
theorem laws_markCertS.calls {k : Nat} {a0 : (List S91)} {a1 : Int} {A : FP} {vp0 : Value} {r1 : Int} {r2 : (List S91)} {w : World} (h : laws_markCertS.f k a0 a1 = some (r1, r2)) (HS : Hp A w w [.own (Zd.slice 91 q91) a0 [vp0]]) :
    Calls Tryz.prog 111 #[vp0, .int .i64 a1] w (fun e w' => e = .returned (.int .i64 r1) ∧ Hp A w w' [.own (Zd.slice 91 q91) r2 [vp0]]) := by
 obtain ⟨B1, d1, rfl, m1⟩ := HS.form 0 rfl
 have H := Aside0.mk h
 clear h
 unfold laws_markCertS.f at H
 go_enter Tryz.func111, Tryz.ntmps111
 go_wp2
 go_loopg [1, 5] k (fun kq v_1 v_5 w' => ∃ (l76 : List S91) (x78 : Int) (x79 : Int), v_1 = .int .i64 x78 ∧ v_5 = .int .i64 x79 ∧ Aside0 (laws_markCertS.l0 kq l76 x78 x79 a0 = some (r1, r2)) ∧ Aside0 (kq ≤ k) ∧ Hp A w w' [.own (Zd.slice 91 q91) l76 [.slice B1 a0.length d1]])
 case atStart => exact ⟨_, _, _, rfl, rfl, H, ⟨Nat.le_refl _⟩, HS⟩
 case round =>
  clear HS H; (try clear F)
  obtain ⟨l76, x78, x79, rfl, rfl, H, HKk75, HS⟩ := hrel
  cases gk with
  | zero => exact absurd H.out (by simp [laws_markCertS.l0])
  | succ k75 =>
   simp only [laws_markCertS.l0] at H
   replace H := znif H; rcases H with ⟨c81, H⟩ | ⟨c81, H⟩
   case inl =>
    obtain ⟨rfl, rfl⟩ := zsome2 H
    go_wp2
    go_ret
    exact ⟨rfl, HS.pick [0] (by decide) (by rfl)⟩
   replace H := zgo H; obtain ⟨c82, H⟩ := H
   replace H := zgo H; obtain ⟨c83, H⟩ := H
   obtain ⟨ad84, B84_9, d84_9, B84_10, d84_10, B84_11, d84_11, rfl, e84_0, e84_1, e84_2, e84_3, e84_4, e84_5, e84_6, e84_7, e84_8, e84_9, e84_10, e84_11, e84_12, m84_9, y84_9, m84_10, y84_10, m84_11, y84_11⟩ := at_T91 (HS.rd 0 rfl) x79 (of_eq_true c82) (of_eq_true c83)
   replace H := zlets H; obtain ⟨y86, e_y86, H⟩ := H
   replace H := zbind H; obtain ⟨t88, ht88, H⟩ := H
   replace H := zlets H; obtain ⟨y92, e_y92, H⟩ := H
   replace H := zbind H; obtain ⟨t94, ht94, H⟩ := H
   replace H := zlets H; obtain ⟨y98, e_y98, H⟩ := H
   replace H := zlets H; obtain ⟨y102, e_y102, H⟩ := H
   replace H := zlets H; obtain ⟨y106, e_y106, H⟩ := H
   replace H := zbind H; obtain ⟨t108, ht108, H⟩ := H
   replace H := zlets H; obtain ⟨y112, e_y112, H⟩ := H
   replace H := zlets H; obtain ⟨y116, e_y116, H⟩ := H
   replace H := zlets H; obtain ⟨y120, e_y120, H⟩ := H
   replace H := zlets H; obtain ⟨y124, e_y124, H⟩ := H
   replace H := zbind H; obtain ⟨t127, ht127, H⟩ := H
   replace H := zlets H; obtain ⟨y128, e_y128, H⟩ := H
   replace H := zbind H; obtain ⟨t131, ht131, H⟩ := H
   replace H := zlets H; obtain ⟨y132, e_y132, H⟩ := H
   replace H := zbind H; obtain ⟨t135, ht135, H⟩ := H
   replace H := zlets H; obtain ⟨y136, e_y136, H⟩ := H
   replace H := zbind H; obtain ⟨t138, ht138, H⟩ := H
   replace H := zlets H; obtain ⟨y142, e_y142, H⟩ := H
   go_wp2_with (first | ((with_reducible refine gate_store (p := 16) rfl ?_); refine ev_sp lens91_0_3 0 [] x79 (rd_T91 l76 x79) x78 HS (ad := ad84) (seg := [.int .i64 x78]) (of_eq_true c82) (of_eq_true c83) (fun hl => rd_T91_get hl) (made_flat (fun _ => rfl)) ?_; clear HS; intro w85 HS; rw [← e_y86.out] at HS; (try simp only [hpn, hpm] at HS)) | ((with_reducible refine gd 22 rfl ?_); refine ev_cl HS (laws_markText.calls ht88.out) Tryz.func180 ?_; clear HS; intro wt88 HS F; obtain ⟨ad90, B90_9, d90_9, B90_10, d90_10, B90_11, d90_11, hq90, e90_0, e90_1, e90_2, e90_3, e90_4, e90_5, e90_6, e90_7, e90_8, e90_9, e90_10, e90_11, e90_12, m90_9, y90_9, m90_10, y90_10, m90_11, y90_11⟩ := at_T91 (HS.rd 0 rfl) x79 (of_eq_true c82) (of_eq_true c83); obtain rfl := Option.some.inj hq90) | ((with_reducible refine gate_store (p := 24) rfl ?_); refine ev_sp lens91_1_9 0 [] x79 (rd_T91 y86 x79) t88 HS (ad := ad84) (seg := [.string t88]) (of_eq_true c82) (of_eq_true c83) (fun hl => rd_T91_get hl) (made_flat (fun _ => rfl)) ?_; clear HS; intro w91 HS; rw [← e_y92.out] at HS; (try simp only [hpn, hpm] at HS)) | ((with_reducible refine gd 30 rfl ?_); refine ev_cl HS (laws_markText.calls ht94.out) Tryz.func180 ?_; clear HS; intro wt94 HS F; obtain ⟨ad96, B96_9, d96_9, B96_10, d96_10, B96_11, d96_11, hq96, e96_0, e96_1, e96_2, e96_3, e96_4, e96_5, e96_6, e96_7, e96_8, e96_9, e96_10, e96_11, e96_12, m96_9, y96_9, m96_10, y96_10, m96_11, y96_11⟩ := at_T91 (HS.rd 0 rfl) x79 (of_eq_true c82) (of_eq_true c83); obtain rfl := Option.some.inj hq96) | ((with_reducible refine gate_store (p := 32) rfl ?_); refine ev_sp lens91_2_9 0 [] x79 (rd_T91 y92 x79) t94 HS (ad := ad84) (seg := [.string t94]) (of_eq_true c82) (of_eq_true c83) (fun hl => rd_T91_get hl) (made_flat (fun _ => rfl)) ?_; clear HS; intro w97 HS; rw [← e_y98.out] at HS; (try simp only [hpn, hpm] at HS); obtain ⟨ad100, B100_9, d100_9, B100_10, d100_10, B100_11, d100_11, hq100, e100_0, e100_1, e100_2, e100_3, e100_4, e100_5, e100_6, e100_7, e100_8, e100_9, e100_10, e100_11, e100_12, m100_9, y100_9, m100_10, y100_10, m100_11, y100_11⟩ := at_T91 (HS.rd 0 rfl) x79 (of_eq_true c82) (of_eq_true c83); obtain rfl := Option.some.inj hq100) | ((with_reducible refine gate_store (p := 39) rfl ?_); refine ev_sp lens91_3_3 0 [] x79 (rd_T91 y98 x79) (wrap64 ((wrap64 ((wrap64 (x78 + 1)) + 1)) + 1)) HS (ad := ad84) (seg := [.int .i64 (wrap64 ((wrap64 ((wrap64 (x78 + 1)) + 1)) + 1))]) (of_eq_true c82) (of_eq_true c83) (fun hl => rd_T91_get hl) (made_flat (fun _ => rfl)) ?_; clear HS; intro w101 HS; rw [← e_y102.out] at HS; (try simp only [hpn, hpm] at HS); obtain ⟨ad104, B104_9, d104_9, B104_10, d104_10, B104_11, d104_11, hq104, e104_0, e104_1, e104_2, e104_3, e104_4, e104_5, e104_6, e104_7, e104_8, e104_9, e104_10, e104_11, e104_12, m104_9, y104_9, m104_10, y104_10, m104_11, y104_11⟩ := at_T91 (HS.rd 0 rfl) x79 (of_eq_true c82) (of_eq_true c83); obtain rfl := Option.some.inj hq104) | ((with_reducible refine gate_store (p := 46) rfl ?_); refine ev_sp lens91_4_3 0 [] x79 (rd_T91 y102 x79) (wrap64 ((wrap64 ((wrap64 ((wrap64 (x78 + 1)) + 1)) + 1)) + 1)) HS (ad := ad84) (seg := [.int .i64 (wrap64 ((wrap64 ((wrap64 ((wrap64 (x78 + 1)) + 1)) + 1)) + 1))]) (of_eq_true c82) (of_eq_true c83) (fun hl => rd_T91_get hl) (made_flat (fun _ => rfl)) ?_; clear HS; intro w105 HS; rw [← e_y106.out] at HS; (try simp only [hpn, hpm] at HS)) | ((with_reducible refine gd 52 rfl ?_); refine ev_cl HS (laws_markText.calls ht108.out) Tryz.func180 ?_; clear HS; intro wt108 HS F; obtain ⟨ad110, B110_9, d110_9, B110_10, d110_10, B110_11, d110_11, hq110, e110_0, e110_1, e110_2, e110_3, e110_4, e110_5, e110_6, e110_7, e110_8, e110_9, e110_10, e110_11, e110_12, m110_9, y110_9, m110_10, y110_10, m110_11, y110_11⟩ := at_T91 (HS.rd 0 rfl) x79 (of_eq_true c82) (of_eq_true c83); obtain rfl := Option.some.inj hq110) | ((with_reducible refine gate_store (p := 54) rfl ?_); refine ev_sp lens91_5_9 0 [] x79 (rd_T91 y106 x79) t108 HS (ad := ad84) (seg := [.string t108]) (of_eq_true c82) (of_eq_true c83) (fun hl => rd_T91_get hl) (made_flat (fun _ => rfl)) ?_; clear HS; intro w111 HS; rw [← e_y112.out] at HS; (try simp only [hpn, hpm] at HS); obtain ⟨ad114, B114_9, d114_9, B114_10, d114_10, B114_11, d114_11, hq114, e114_0, e114_1, e114_2, e114_3, e114_4, e114_5, e114_6, e114_7, e114_8, e114_9, e114_10, e114_11, e114_12, m114_9, y114_9, m114_10, y114_10, m114_11, y114_11⟩ := at_T91 (HS.rd 0 rfl) x79 (of_eq_true c82) (of_eq_true c83); obtain rfl := Option.some.inj hq114) | ((with_reducible refine gate_store (p := 63) rfl ?_); refine ev_sp lens91_6_4 0 [] x79 (rd_T91 y112 x79) ((Int.tmod (wrap64 ((wrap64 ((wrap64 ((wrap64 ((wrap64 ((wrap64 (x78 + 1)) + 1)) + 1)) + 1)) + 1)) + 1)) 3) == 0) HS (ad := ad84) (seg := [.bool ((Int.tmod (wrap64 ((wrap64 ((wrap64 ((wrap64 ((wrap64 ((wrap64 (x78 + 1)) + 1)) + 1)) + 1)) + 1)) + 1)) 3) == 0)]) (of_eq_true c82) (of_eq_true c83) (fun hl => rd_T91_get hl) (made_flat (fun _ => rfl)) ?_; clear HS; intro w115 HS; rw [← e_y116.out] at HS; (try simp only [hpn, hpm] at HS); obtain ⟨ad118, B118_9, d118_9, B118_10, d118_10, B118_11, d118_11, hq118, e118_0, e118_1, e118_2, e118_3, e118_4, e118_5, e118_6, e118_7, e118_8, e118_9, e118_10, e118_11, e118_12, m118_9, y118_9, m118_10, y118_10, m118_11, y118_11⟩ := at_T91 (HS.rd 0 rfl) x79 (of_eq_true c82) (of_eq_true c83); obtain rfl := Option.some.inj hq118) | ((with_reducible refine gate_store (p := 70) rfl ?_); refine ev_sp lens91_7_3 0 [] x79 (rd_T91 y116 x79) (wrap64 ((wrap64 ((wrap64 ((wrap64 ((wrap64 ((wrap64 ((wrap64 (x78 + 1)) + 1)) + 1)) + 1)) + 1)) + 1)) + 1)) HS (ad := ad84) (seg := [.int .i64 (wrap64 ((wrap64 ((wrap64 ((wrap64 ((wrap64 ((wrap64 ((wrap64 (x78 + 1)) + 1)) + 1)) + 1)) + 1)) + 1)) + 1))]) (of_eq_true c82) (of_eq_true c83) (fun hl => rd_T91_get hl) (made_flat (fun _ => rfl)) ?_; clear HS; intro w119 HS; rw [← e_y120.out] at HS; (try simp only [hpn, hpm] at HS); obtain ⟨ad122, B122_9, d122_9, B122_10, d122_10, B122_11, d122_11, hq122, e122_0, e122_1, e122_2, e122_3, e122_4, e122_5, e122_6, e122_7, e122_8, e122_9, e122_10, e122_11, e122_12, m122_9, y122_9, m122_10, y122_10, m122_11, y122_11⟩ := at_T91 (HS.rd 0 rfl) x79 (of_eq_true c82) (of_eq_true c83); obtain rfl := Option.some.inj hq122) | ((with_reducible refine gate_store (p := 77) rfl ?_); refine ev_sp lens91_8_3 0 [] x79 (rd_T91 y120 x79) (wrap64 ((wrap64 ((wrap64 ((wrap64 ((wrap64 ((wrap64 ((wrap64 ((wrap64 (x78 + 1)) + 1)) + 1)) + 1)) + 1)) + 1)) + 1)) + 1)) HS (ad := ad84) (seg := [.int .i64 (wrap64 ((wrap64 ((wrap64 ((wrap64 ((wrap64 ((wrap64 ((wrap64 ((wrap64 (x78 + 1)) + 1)) + 1)) + 1)) + 1)) + 1)) + 1)) + 1))]) (of_eq_true c82) (of_eq_true c83) (fun hl => rd_T91_get hl) (made_flat (fun _ => rfl)) ?_; clear HS; intro w123 HS; rw [← e_y124.out] at HS; (try simp only [hpn, hpm] at HS); obtain ⟨ad126, B126_9, d126_9, B126_10, d126_10, B126_11, d126_11, hq126, e126_0, e126_1, e126_2, e126_3, e126_4, e126_5, e126_6, e126_7, e126_8, e126_9, e126_10, e126_11, e126_12, m126_9, y126_9, m126_10, y126_10, m126_11, y126_11⟩ := at_T91 (HS.rd 0 rfl) x79 (of_eq_true c82) (of_eq_true c83); obtain rfl := Option.some.inj hq126) | ((with_reducible refine gd 86 rfl ?_); refine HS.lend_el 0 x79 rfl lens91_9_52 (of_eq_true c82) (of_eq_true c83) e126_9 (by rintro g rfl; simp only [add_plain]; refine congrArg (fun n => (⟨g, n, none⟩ : Addr)) ?_; first | rfl | omega) (fun hl => rd_T91_get hl) (fun A' HL HA HB => ?_); refine ev_lc (laws_markIntS.calls ht127.out HA) (fun _ HQ => HB _ _ _ HQ) Tryz.func120 ?_; clear HS HA HB HL; intro wt127 HS F; rw [← e_y128.out] at HS; (try simp only [hpn, hpm] at HS); obtain ⟨ad130, B130_9, d130_9, B130_10, d130_10, B130_11, d130_11, hq130, e130_0, e130_1, e130_2, e130_3, e130_4, e130_5, e130_6, e130_7, e130_8, e130_9, e130_10, e130_11, e130_12, m130_9, y130_9, m130_10, y130_10, m130_11, y130_11⟩ := at_T91 (HS.rd 0 rfl) x79 (of_eq_true c82) (of_eq_true c83); obtain rfl := Option.some.inj hq130) | ((with_reducible refine gd 93 rfl ?_); refine HS.lend_el 0 x79 rfl lens91_10_57 (of_eq_true c82) (of_eq_true c83) e130_10 (by rintro g rfl; simp only [add_plain]; refine congrArg (fun n => (⟨g, n, none⟩ : Addr)) ?_; first | rfl | omega) (fun hl => rd_T91_get hl) (fun A' HL HA HB => ?_); refine ev_lc (laws_markStringS.calls ht131.out HA) (fun _ HQ => HB _ _ _ HQ) Tryz.func121 ?_; clear HS HA HB HL; intro wt131 HS F; rw [← e_y132.out] at HS; (try simp only [hpn, hpm] at HS); obtain ⟨ad134, B134_9, d134_9, B134_10, d134_10, B134_11, d134_11, hq134, e134_0, e134_1, e134_2, e134_3, e134_4, e134_5, e134_6, e134_7, e134_8, e134_9, e134_10, e134_11, e134_12, m134_9, y134_9, m134_10, y134_10, m134_11, y134_11⟩ := at_T91 (HS.rd 0 rfl) x79 (of_eq_true c82) (of_eq_true c83); obtain rfl := Option.some.inj hq134) | ((with_reducible refine gd 100 rfl ?_); refine HS.lend_el 0 x79 rfl lens91_11_57 (of_eq_true c82) (of_eq_true c83) e134_11 (by rintro g rfl; simp only [add_plain]; refine congrArg (fun n => (⟨g, n, none⟩ : Addr)) ?_; first | rfl | omega) (fun hl => rd_T91_get hl) (fun A' HL HA HB => ?_); refine ev_lc (laws_markStringS.calls ht135.out HA) (fun _ HQ => HB _ _ _ HQ) Tryz.func121 ?_; clear HS HA HB HL; intro wt135 HS F; rw [← e_y136.out] at HS; (try simp only [hpn, hpm] at HS)) | ((with_reducible refine gd 104 rfl ?_); refine ev_cl HS (laws_markText.calls ht138.out) Tryz.func180 ?_; clear HS; intro wt138 HS F; obtain ⟨ad140, B140_9, d140_9, B140_10, d140_10, B140_11, d140_11, hq140, e140_0, e140_1, e140_2, e140_3, e140_4, e140_5, e140_6, e140_7, e140_8, e140_9, e140_10, e140_11, e140_12, m140_9, y140_9, m140_10, y140_10, m140_11, y140_11⟩ := at_T91 (HS.rd 0 rfl) x79 (of_eq_true c82) (of_eq_true c83); obtain rfl := Option.some.inj hq140) | ((with_reducible refine gate_store (p := 106) rfl ?_); refine ev_sp lens91_12_9 0 [] x79 (rd_T91 y136 x79) t138 HS (ad := ad84) (seg := [.string t138]) (of_eq_true c82) (of_eq_true c83) (fun hl => rd_T91_get hl) (made_flat (fun _ => rfl)) ?_; clear HS; intro w141 HS; rw [← e_y142.out] at HS; (try simp only [hpn, hpm] at HS)))
   go_roundg k75
   case measure => have := HKk75.out; omega
   case rel => exact ⟨_, _, _, rfl, rfl, H, ⟨by have := HKk75.out; omega⟩, HS.pick [0] (by decide) (by rfl)⟩
def laws_markRevS.l0 : Nat → (List S238) → Int → Int → (List S238) → Option (Int × (List S238))
  | 0, _, _, _, _ => none
  | k + 1, l24, x26, x27, a0 => (if x27 < (a0.length : Int) then (if 0 ≤ x27 then (if x27 < (a0.length : Int) then (lets (l24.set (x27).toNat (u238_0_3 (rd_T238 l24 x27) x26)) fun y34 => (lets (y34.set (x27).toNat (u238_1_3 (rd_T238 y34 x27) (wrap64 (x26 + 1)))) fun y38 => (laws_markRevS.l0 k y38 (wrap64 ((wrap64 (x26 + 1)) + 1)) (wrap64 (x27 + 1)) a0))) else none) else none) else (some (x26, l24)))
def laws_markRevS.f (k : Nat) (a0 : (List S238)) (a1 : Int) : Option (Int × (List S238)) := (laws_markRevS.l0 k a0 a1 0 a0)
theorem laws_markRevS.calls {k : Nat} {a0 : (List S238)} {a1 : Int} {A : FP} {vp0 : Value} {r1 : Int} {r2 : (List S238)} {w : World} (h : laws_markRevS.f k a0 a1 = some (r1, r2)) (HS : Hp A w w [.own (Zd.slice 238 q238) a0 [vp0]]) :
    Calls Tryz.prog 114 #[vp0, .int .i64 a1] w (fun e w' => e = .returned (.int .i64 r1) ∧ Hp A w w' [.own (Zd.slice 238 q238) r2 [vp0]]) := by
 obtain ⟨B1, d1, rfl, m1⟩ := HS.form 0 rfl
 have H := Aside0.mk h
 clear h
 unfold laws_markRevS.f at H
 go_enter Tryz.func114, Tryz.ntmps114
 go_wp2
 go_loopg [1, 5] k (fun kq v_1 v_5 w' => ∃ (l24 : List S238) (x26 : Int) (x27 : Int), v_1 = .int .i64 x26 ∧ v_5 = .int .i64 x27 ∧ Aside0 (laws_markRevS.l0 kq l24 x26 x27 a0 = some (r1, r2)) ∧ Aside0 (kq ≤ k) ∧ Hp A w w' [.own (Zd.slice 238 q238) l24 [.slice B1 a0.length d1]])
 case atStart => exact ⟨_, _, _, rfl, rfl, H, ⟨Nat.le_refl _⟩, HS⟩
 case round =>
  clear HS H; (try clear F)
  obtain ⟨l24, x26, x27, rfl, rfl, H, HKk23, HS⟩ := hrel
  cases gk with
  | zero => exact absurd H.out (by simp [laws_markRevS.l0])
  | succ k23 =>
   simp only [laws_markRevS.l0] at H
   replace H := znif H; rcases H with ⟨c29, H⟩ | ⟨c29, H⟩
   case inl =>
    obtain ⟨rfl, rfl⟩ := zsome2 H
    go_wp2
    go_ret
    exact ⟨rfl, HS.pick [0] (by decide) (by rfl)⟩
   replace H := zgo H; obtain ⟨c30, H⟩ := H
   replace H := zgo H; obtain ⟨c31, H⟩ := H
   obtain ⟨ad32, rfl, e32_0, e32_1⟩ := at_T238 (HS.rd 0 rfl) x27 (of_eq_true c30) (of_eq_true c31)
   replace H := zlets H; obtain ⟨y34, e_y34, H⟩ := H
   replace H := zlets H; obtain ⟨y38, e_y38, H⟩ := H
   go_wp2_with (first | ((with_reducible refine gate_store (p := 16) rfl ?_); refine ev_sp lens238_0_3 0 [] x27 (rd_T238 l24 x27) x26 HS (ad := ad32) (seg := [.int .i64 x26]) (of_eq_true c30) (of_eq_true c31) (fun hl => rd_T238_get hl) (made_flat (fun _ => rfl)) ?_; clear HS; intro w33 HS; rw [← e_y34.out] at HS; (try simp only [hpn, hpm] at HS); obtain ⟨ad36, hq36, e36_0, e36_1⟩ := at_T238 (HS.rd 0 rfl) x27 (of_eq_true c30) (of_eq_true c31); obtain rfl := Option.some.inj hq36) | ((with_reducible refine gate_store (p := 23) rfl ?_); refine ev_sp lens238_1_3 0 [] x27 (rd_T238 y34 x27) (wrap64 (x26 + 1)) HS (ad := ad32) (seg := [.int .i64 (wrap64 (x26 + 1))]) (of_eq_true c30) (of_eq_true c31) (fun hl => rd_T238_get hl) (made_flat (fun _ => rfl)) ?_; clear HS; intro w37 HS; rw [← e_y38.out] at HS; (try simp only [hpn, hpm] at HS)))
   go_roundg k23
   case measure => have := HKk23.out; omega
   case rel => exact ⟨_, _, _, rfl, rfl, H, ⟨by have := HKk23.out; omega⟩, HS.pick [0] (by decide) (by rfl)⟩
def laws_markCrlS.l0 : Nat → (List S81) → Int → Int → (List S81) → Option (Int × (List S81))
  | 0, _, _, _, _ => none
  | k + 1, l48, x50, x51, a0 => (if x51 < (a0.length : Int) then ((laws_markText.f k x50).bind fun t54 => (if 0 ≤ x51 then (if x51 < (a0.length : Int) then (lets (l48.set (x51).toNat (u81_0_9 (rd_T81 l48 x51) t54)) fun y60 => (lets (y60.set (x51).toNat (u81_1_3 (rd_T81 y60 x51) (wrap64 (x50 + 1)))) fun y64 => (lets (y64.set (x51).toNat (u81_2_3 (rd_T81 y64 x51) (wrap64 ((wrap64 (x50 + 1)) + 1)))) fun y68 => (lets (y68.set (x51).toNat (u81_3_3 (rd_T81 y68 x51) (wrap64 ((wrap64 ((wrap64 (x50 + 1)) + 1)) + 1)))) fun y72 => (lets (y72.set (x51).toNat (u81_4_3 (rd_T81 y72 x51) (wrap64 ((wrap64 ((wrap64 ((wrap64 (x50 + 1)) + 1)) + 1)) + 1)))) fun y76 => ((laws_markRevS.f k ((rd_T81 y76 x51).f5) (wrap64 ((wrap64 ((wrap64 ((wrap64 ((wrap64 (x50 + 1)) + 1)) + 1)) + 1)) + 1))).bind fun t79 => (lets (y76.set (x51).toNat (u81_5_79 (rd_T81 y76 x51) t79.2)) fun y80 => ((laws_markText.f k t79.1).bind fun t82 => (lets (y80.set (x51).toNat (u81_6_9 (rd_T81 y80 x51) t82)) fun y86 => (laws_markCrlS.l0 k y86 (wrap64 (t79.1 + 1)) (wrap64 (x51 + 1)) a0)))))))))) else none) else none)) else (some (x50, l48)))
def laws_markCrlS.f (k : Nat) (a0 : (List S81)) (a1 : Int) : Option (Int × (List S81)) := (laws_markCrlS.l0 k a0 a1 0 a0)
theorem laws_markCrlS.calls {k : Nat} {a0 : (List S81)} {a1 : Int} {A : FP} {vp0 : Value} {r1 : Int} {r2 : (List S81)} {w : World} (h : laws_markCrlS.f k a0 a1 = some (r1, r2)) (HS : Hp A w w [.own (Zd.slice 81 q81) a0 [vp0]]) :
    Calls Tryz.prog 112 #[vp0, .int .i64 a1] w (fun e w' => e = .returned (.int .i64 r1) ∧ Hp A w w' [.own (Zd.slice 81 q81) r2 [vp0]]) := by
 obtain ⟨B1, d1, rfl, m1⟩ := HS.form 0 rfl
 have H := Aside0.mk h
 clear h
 unfold laws_markCrlS.f at H
 go_enter Tryz.func112, Tryz.ntmps112
 go_wp2
 go_loopg [1, 5] k (fun kq v_1 v_5 w' => ∃ (l48 : List S81) (x50 : Int) (x51 : Int), v_1 = .int .i64 x50 ∧ v_5 = .int .i64 x51 ∧ Aside0 (laws_markCrlS.l0 kq l48 x50 x51 a0 = some (r1, r2)) ∧ Aside0 (kq ≤ k) ∧ Hp A w w' [.own (Zd.slice 81 q81) l48 [.slice B1 a0.length d1]])
 case atStart => exact ⟨_, _, _, rfl, rfl, H, ⟨Nat.le_refl _⟩, HS⟩
 case round =>
  clear HS H; (try clear F)
  obtain ⟨l48, x50, x51, rfl, rfl, H, HKk47, HS⟩ := hrel
  cases gk with
  | zero => exact absurd H.out (by simp [laws_markCrlS.l0])
  | succ k47 =>
   simp only [laws_markCrlS.l0] at H
   replace H := znif H; rcases H with ⟨c53, H⟩ | ⟨c53, H⟩
   case inl =>
    obtain ⟨rfl, rfl⟩ := zsome2 H
    go_wp2
    go_ret
    exact ⟨rfl, HS.pick [0] (by decide) (by rfl)⟩
   replace H := zbind H; obtain ⟨t54, ht54, H⟩ := H
   replace H := zgo H; obtain ⟨c56, H⟩ := H
   replace H := zgo H; obtain ⟨c57, H⟩ := H
   replace H := zlets H; obtain ⟨y60, e_y60, H⟩ := H
   replace H := zlets H; obtain ⟨y64, e_y64, H⟩ := H
   replace H := zlets H; obtain ⟨y68, e_y68, H⟩ := H
   replace H := zlets H; obtain ⟨y72, e_y72, H⟩ := H
   replace H := zlets H; obtain ⟨y76, e_y76, H⟩ := H
   replace H := zbind H; obtain ⟨t79, ht79, H⟩ := H
   replace H := zlets H; obtain ⟨y80, e_y80, H⟩ := H
   replace H := zbind H; obtain ⟨t82, ht82, H⟩ := H
   replace H := zlets H; obtain ⟨y86, e_y86, H⟩ := H
   go_wp2_with (first | ((with_reducible refine gd 15 rfl ?_); refine ev_cl HS (laws_markText.calls ht54.out) Tryz.func180 ?_; clear HS; intro wt54 HS F; obtain ⟨ad58, B58_5, d58_5, rfl, e58_0, e58_1, e58_2, e58_3, e58_4, e58_5, e58_6, m58_5, y58_5⟩ := at_T81 (HS.rd 0 rfl) x51 (of_eq_true c56) (of_eq_true c57)) | ((with_reducible refine gate_store (p := 17) rfl ?_); refine ev_sp lens81_0_9 0 [] x51 (rd_T81 l48 x51) t54 HS (ad := ad58) (seg := [.string t54]) (of_eq_true c56) (of_eq_true c57) (fun hl => rd_T81_get hl) (made_flat (fun _ => rfl)) ?_; clear HS; intro w59 HS; rw [← e_y60.out] at HS; (try simp only [hpn, hpm] at HS); obtain ⟨ad62, B62_5, d62_5, hq62, e62_0, e62_1, e62_2, e62_3, e62_4, e62_5, e62_6, m62_5, y62_5⟩ := at_T81 (HS.rd 0 rfl) x51 (of_eq_true c56) (of_eq_true c57); obtain rfl := Option.some.inj hq62) | ((with_reducible refine gate_store (p := 24) rfl ?_); refine ev_sp lens81_1_3 0 [] x51 (rd_T81 y60 x51) (wrap64 (x50 + 1)) HS (ad := ad58) (seg := [.int .i64 (wrap64 (x50 + 1))]) (of_eq_true c56) (of_eq_true c57) (fun hl => rd_T81_get hl) (made_flat (fun _ => rfl)) ?_; clear HS; intro w63 HS; rw [← e_y64.out] at HS; (try simp only [hpn, hpm] at HS); obtain ⟨ad66, B66_5, d66_5, hq66, e66_0, e66_1, e66_2, e66_3, e66_4, e66_5, e66_6, m66_5, y66_5⟩ := at_T81 (HS.rd 0 rfl) x51 (of_eq_true c56) (of_eq_true c57); obtain rfl := Option.some.inj hq66) | ((with_reducible refine gate_store (p := 31) rfl ?_); refine ev_sp lens81_2_3 0 [] x51 (rd_T81 y64 x51) (wrap64 ((wrap64 (x50 + 1)) + 1)) HS (ad := ad58) (seg := [.int .i64 (wrap64 ((wrap64 (x50 + 1)) + 1))]) (of_eq_true c56) (of_eq_true c57) (fun hl => rd_T81_get hl) (made_flat (fun _ => rfl)) ?_; clear HS; intro w67 HS; rw [← e_y68.out] at HS; (try simp only [hpn, hpm] at HS); obtain ⟨ad70, B70_5, d70_5, hq70, e70_0, e70_1, e70_2, e70_3, e70_4, e70_5, e70_6, m70_5, y70_5⟩ := at_T81 (HS.rd 0 rfl) x51 (of_eq_true c56) (of_eq_true c57); obtain rfl := Option.some.inj hq70) | ((with_reducible refine gate_store (p := 38) rfl ?_); refine ev_sp lens81_3_3 0 [] x51 (rd_T81 y68 x51) (wrap64 ((wrap64 ((wrap64 (x50 + 1)) + 1)) + 1)) HS (ad := ad58) (seg := [.int .i64 (wrap64 ((wrap64 ((wrap64 (x50 + 1)) + 1)) + 1))]) (of_eq_true c56) (of_eq_true c57) (fun hl => rd_T81_get hl) (made_flat (fun _ => rfl)) ?_; clear HS; intro w71 HS; rw [← e_y72.out] at HS; (try simp only [hpn, hpm] at HS); obtain ⟨ad74, B74_5, d74_5, hq74, e74_0, e74_1, e74_2, e74_3, e74_4, e74_5, e74_6, m74_5, y74_5⟩ := at_T81 (HS.rd 0 rfl) x51 (of_eq_true c56) (of_eq_true c57); obtain rfl := Option.some.inj hq74) | ((with_reducible refine gate_store (p := 45) rfl ?_); refine ev_sp lens81_4_3 0 [] x51 (rd_T81 y72 x51) (wrap64 ((wrap64 ((wrap64 ((wrap64 (x50 + 1)) + 1)) + 1)) + 1)) HS (ad := ad58) (seg := [.int .i64 (wrap64 ((wrap64 ((wrap64 ((wrap64 (x50 + 1)) + 1)) + 1)) + 1))]) (of_eq_true c56) (of_eq_true c57) (fun hl => rd_T81_get hl) (made_flat (fun _ => rfl)) ?_; clear HS; intro w75 HS; rw [← e_y76.out] at HS; (try simp only [hpn, hpm] at HS); obtain ⟨ad78, B78_5, d78_5, hq78, e78_0, e78_1, e78_2, e78_3, e78_4, e78_5, e78_6, m78_5, y78_5⟩ := at_T81 (HS.rd 0 rfl) x51 (of_eq_true c56) (of_eq_true c57); obtain rfl := Option.some.inj hq78) | ((with_reducible refine gd 54 rfl ?_); refine HS.lend_el 0 x51 rfl lens81_5_79 (of_eq_true c56) (of_eq_true c57) e78_5 (by rintro g rfl; simp only [add_plain]; refine congrArg (fun n => (⟨g, n, none⟩ : Addr)) ?_; first | rfl | omega) (fun hl => rd_T81_get hl) (fun A' HL HA HB => ?_); refine ev_lc (laws_markRevS.calls ht79.out HA) (fun _ HQ => HB _ _ _ HQ) Tryz.func114 ?_; clear HS HA HB HL; intro wt79 HS F; rw [← e_y80.out] at HS; (try simp only [hpn, hpm] at HS)) | ((with_reducible refine gd 58 rfl ?_); refine ev_cl HS (laws_markText.calls ht82.out) Tryz.func180 ?_; clear HS; intro wt82 HS F; obtain ⟨ad84, B84_5, d84_5, hq84, e84_0, e84_1, e84_2, e84_3, e84_4, e84_5, e84_6, m84_5, y84_5⟩ := at_T81 (HS.rd 0 rfl) x51 (of_eq_true c56) (of_eq_true c57); obtain rfl := Option.some.inj hq84) | ((with_reducible refine gate_store (p := 60) rfl ?_); refine ev_sp lens81_6_9 0 [] x51 (rd_T81 y80 x51) t82 HS (ad := ad58) (seg := [.string t82]) (of_eq_true c56) (of_eq_true c57) (fun hl => rd_T81_get hl) (made_flat (fun _ => rfl)) ?_; clear HS; intro w85 HS; rw [← e_y86.out] at HS; (try simp only [hpn, hpm] at HS)))
   go_roundg k47
   case measure => have := HKk47.out; omega
   case rel => exact ⟨_, _, _, rfl, rfl, H, ⟨by have := HKk47.out; omega⟩, HS.pick [0] (by decide) (by rfl)⟩
def laws_markAnchorS.l0 : Nat → (List S115) → Int → Int → (List S115) → Option (Int × (List S115))
  | 0, _, _, _, _ => none
  | k + 1, l28, x30, x31, a0 => (if x31 < (a0.length : Int) then ((laws_markText.f k x30).bind fun t34 => (if 0 ≤ x31 then (if x31 < (a0.length : Int) then (lets (l28.set (x31).toNat (u115_0_9 (rd_T115 l28 x31) t34)) fun y40 => ((laws_markText.f k (wrap64 (x30 + 1))).bind fun t42 => (lets (y40.set (x31).toNat (u115_1_9 (rd_T115 y40 x31) t42)) fun y46 => (laws_markAnchorS.l0 k y46 (wrap64 ((wrap64 (x30 + 1)) + 1)) (wrap64 (x31 + 1)) a0)))) else none) else none)) else (some (x30, l28)))
def laws_markAnchorS.f (k : Nat) (a0 : (List S115)) (a1 : Int) : Option (Int × (List S115)) := (laws_markAnchorS.l0 k a0 a1 0 a0)
theorem laws_markAnchorS.calls {k : Nat} {a0 : (List S115)} {a1 : Int} {A : FP} {vp0 : Value} {r1 : Int} {r2 : (List S115)} {w : World} (h : laws_markAnchorS.f k a0 a1 = some (r1, r2)) (HS : Hp A w w [.own (Zd.slice 115 q115) a0 [vp0]]) :
    Calls Tryz.prog 113 #[vp0, .int .i64 a1] w (fun e w' => e = .returned (.int .i64 r1) ∧ Hp A w w' [.own (Zd.slice 115 q115) r2 [vp0]]) := by
 obtain ⟨B1, d1, rfl, m1⟩ := HS.form 0 rfl
 have H := Aside0.mk h
 clear h
 unfold laws_markAnchorS.f at H
 go_enter Tryz.func113, Tryz.ntmps113
 go_wp2
 go_loopg [1, 5] k (fun kq v_1 v_5 w' => ∃ (l28 : List S115) (x30 : Int) (x31 : Int), v_1 = .int .i64 x30 ∧ v_5 = .int .i64 x31 ∧ Aside0 (laws_markAnchorS.l0 kq l28 x30 x31 a0 = some (r1, r2)) ∧ Aside0 (kq ≤ k) ∧ Hp A w w' [.own (Zd.slice 115 q115) l28 [.slice B1 a0.length d1]])
 case atStart => exact ⟨_, _, _, rfl, rfl, H, ⟨Nat.le_refl _⟩, HS⟩
 case round =>
  clear HS H; (try clear F)
  obtain ⟨l28, x30, x31, rfl, rfl, H, HKk27, HS⟩ := hrel
  cases gk with
  | zero => exact absurd H.out (by simp [laws_markAnchorS.l0])
  | succ k27 =>
   simp only [laws_markAnchorS.l0] at H
   replace H := znif H; rcases H with ⟨c33, H⟩ | ⟨c33, H⟩
   case inl =>
    obtain ⟨rfl, rfl⟩ := zsome2 H
    go_wp2
    go_ret
    exact ⟨rfl, HS.pick [0] (by decide) (by rfl)⟩
   replace H := zbind H; obtain ⟨t34, ht34, H⟩ := H
   replace H := zgo H; obtain ⟨c36, H⟩ := H
   replace H := zgo H; obtain ⟨c37, H⟩ := H
   replace H := zlets H; obtain ⟨y40, e_y40, H⟩ := H
   replace H := zbind H; obtain ⟨t42, ht42, H⟩ := H
   replace H := zlets H; obtain ⟨y46, e_y46, H⟩ := H
   go_wp2_with (first | ((with_reducible refine gd 15 rfl ?_); refine ev_cl HS (laws_markText.calls ht34.out) Tryz.func180 ?_; clear HS; intro wt34 HS F; obtain ⟨ad38, rfl, e38_0, e38_1⟩ := at_T115 (HS.rd 0 rfl) x31 (of_eq_true c36) (of_eq_true c37)) | ((with_reducible refine gate_store (p := 17) rfl ?_); refine ev_sp lens115_0_9 0 [] x31 (rd_T115 l28 x31) t34 HS (ad := ad38) (seg := [.string t34]) (of_eq_true c36) (of_eq_true c37) (fun hl => rd_T115_get hl) (made_flat (fun _ => rfl)) ?_; clear HS; intro w39 HS; rw [← e_y40.out] at HS; (try simp only [hpn, hpm] at HS)) | ((with_reducible refine gd 23 rfl ?_); refine ev_cl HS (laws_markText.calls ht42.out) Tryz.func180 ?_; clear HS; intro wt42 HS F; obtain ⟨ad44, hq44, e44_0, e44_1⟩ := at_T115 (HS.rd 0 rfl) x31 (of_eq_true c36) (of_eq_true c37); obtain rfl := Option.some.inj hq44) | ((with_reducible refine gate_store (p := 25) rfl ?_); refine ev_sp lens115_1_9 0 [] x31 (rd_T115 y40 x31) t42 HS (ad := ad38) (seg := [.string t42]) (of_eq_true c36) (of_eq_true c37) (fun hl => rd_T115_get hl) (made_flat (fun _ => rfl)) ?_; clear HS; intro w45 HS; rw [← e_y46.out] at HS; (try simp only [hpn, hpm] at HS)))
   go_roundg k27
   case measure => have := HKk27.out; omega
   case rel => exact ⟨_, _, _, rfl, rfl, H, ⟨by have := HKk27.out; omega⟩, HS.pick [0] (by decide) (by rfl)⟩
def laws_markStore.f (k : Nat) (a0 : S33) (a1 : Int) : Option (Int × (List S91) × (List S81) × (List S115)) := ((laws_markCertS.f k a0.f0 a1).bind fun t6 => ((laws_markCrlS.f k a0.f1 t6.1).bind fun t8 => ((laws_markAnchorS.f k a0.f2 t8.1).bind fun t10 => (some (t10.1, t6.2, t8.2, t10.2)))))
theorem laws_markStore.calls {k : Nat} {a0 : S33} {a1 : Int} {A : FP} {vp0 : Value} {vp1 : Value} {vp2 : Value} {r1 : Int} {r2 : (List S91)} {r3 : (List S81)} {r4 : (List S115)} {w : World} (h : laws_markStore.f k a0 a1 = some (r1, r2, r3, r4)) (HS : Hp A w w [.own (Zd.slice 91 q91) a0.f0 [vp0], .own (Zd.slice 81 q81) a0.f1 [vp1], .own (Zd.slice 115 q115) a0.f2 [vp2]]) :
    Calls Tryz.prog 31 #[.agg #[vp0, vp1, vp2], .int .i64 a1] w (fun e w' => e = .returned (.int .i64 r1) ∧ Hp A w w' [.own (Zd.slice 91 q91) r2 [vp0], .own (Zd.slice 81 q81) r3 [vp1], .own (Zd.slice 115 q115) r4 [vp2]]) := by
 obtain ⟨B1, d1, rfl, m1⟩ := HS.form 0 rfl
 obtain ⟨B2, d2, rfl, m2⟩ := HS.form 1 rfl
 obtain ⟨B3, d3, rfl, m3⟩ := HS.form 2 rfl
 have H := Aside0.mk h
 clear h
 unfold laws_markStore.f at H
 go_enter Tryz.func31, Tryz.ntmps31
 replace H := zbind H; obtain ⟨t6, ht6, H⟩ := H
 replace H := zbind H; obtain ⟨t8, ht8, H⟩ := H
 replace H := zbind H; obtain ⟨t10, ht10, H⟩ := H
 have H := zsome H; simp only [Prod.mk.injEq] at H; obtain ⟨rfl, rfl, rfl, rfl⟩ := H
 go_wp2_with (first | ((with_reducible refine gd 2 rfl ?_); refine ev_bx HS ?_; clear HS; intro g2 w2 HS F) | ((with_reducible refine gd 8 rfl ?_); refine HS.lend [0] (by decide) [.own (Zd.slice 91 q91) a0.f0 [.slice B1 a0.f0.length d1]] rfl (fun A' HL HD HA HB => ?_); refine ev_lc (laws_markCertS.calls ht6.out HA) (fun _ HQ => HB _ _ HQ (Nat.le_of_ble_eq_true rfl)) Tryz.func111 ?_; clear HS HA HB HL HD; intro wt6 HS F) | ((with_reducible refine gd 12 rfl ?_); refine HS.lend [1] (by decide) [.own (Zd.slice 81 q81) a0.f1 [.slice B2 a0.f1.length d2]] rfl (fun A' HL HD HA HB => ?_); refine ev_lc (laws_markCrlS.calls ht8.out HA) (fun _ HQ => HB _ _ HQ (Nat.le_of_ble_eq_true rfl)) Tryz.func112 ?_; clear HS HA HB HL HD; intro wt8 HS F) | ((with_reducible refine gd 16 rfl ?_); refine HS.lend [2] (by decide) [.own (Zd.slice 115 q115) a0.f2 [.slice B3 a0.f2.length d3]] rfl (fun A' HL HD HA HB => ?_); refine ev_lc (laws_markAnchorS.calls ht10.out HA) (fun _ HQ => HB _ _ HQ (Nat.le_of_ble_eq_true rfl)) Tryz.func113 ?_; clear HS HA HB HL HD; intro wt10 HS F))
 go_ret
 exact ⟨rfl, HS.pick [0, 1, 2] (by decide) (by rfl)⟩
def laws_markServer.f (k : Nat) (a0 : S46) (a1 : Int) : Option (Int × (List S91) × (List S81) × (List S115) × (List S202) × (List S205)) := ((laws_markStore.f k a0.f0 a1).bind fun t8 => ((laws_markPlanS.f k a0.f1 t8.1).bind fun t10 => ((laws_markKeptS.f k a0.f5 t10.1).bind fun t12 => (some (t12.1, t8.2.1, t8.2.2.1, t8.2.2.2, t10.2, t12.2)))))
theorem laws_markServer.calls {k : Nat} {a0 : S46} {a1 : Int} {A : FP} {vp0 : Value} {vp1 : Value} {vp2 : Value} {vp3 : Value} {vp4 : Value} {r1 : Int} {r2 : (List S91)} {r3 : (List S81)} {r4 : (List S115)} {r5 : (List S202)} {r6 : (List S205)} {w : World} (h : laws_markServer.f k a0 a1 = some (r1, r2, r3, r4, r5, r6)) (HS : Hp A w w [.own (Zd.slice 91 q91) a0.f0.f0 [vp0], .own (Zd.slice 81 q81) a0.f0.f1 [vp1], .own (Zd.slice 115 q115) a0.f0.f2 [vp2], .own (Zd.slice 202 q202) a0.f1 [vp3], .own (Zd.slice 205 q205) a0.f5 [vp4]]) :
    Calls Tryz.prog 47 #[.agg #[vp0, vp1, vp2, vp3, .int .i64 a0.f2, .int .i64 a0.f3, .int .i64 a0.f4, vp4], .int .i64 a1] w (fun e w' => e = .returned (.int .i64 r1) ∧ Hp A w w' [.own (Zd.slice 91 q91) r2 [vp0], .own (Zd.slice 81 q81) r3 [vp1], .own (Zd.slice 115 q115) r4 [vp2], .own (Zd.slice 202 q202) r5 [vp3], .own (Zd.slice 205 q205) r6 [vp4]]) := by
 obtain ⟨B1, d1, rfl, m1⟩ := HS.form 0 rfl
 obtain ⟨B2, d2, rfl, m2⟩ := HS.form 1 rfl
 obtain ⟨B3, d3, rfl, m3⟩ := HS.form 2 rfl
 obtain ⟨B4, d4, rfl, m4⟩ := HS.form 3 rfl
 obtain ⟨B5, d5, rfl, m5⟩ := HS.form 4 rfl
 have H := Aside0.mk h
 clear h
 unfold laws_markServer.f at H
 go_enter Tryz.func47, Tryz.ntmps47
 replace H := zbind H; obtain ⟨t8, ht8, H⟩ := H
 replace H := zbind H; obtain ⟨t10, ht10, H⟩ := H
 replace H := zbind H; obtain ⟨t12, ht12, H⟩ := H
 have H := zsome H; simp only [Prod.mk.injEq] at H; obtain ⟨rfl, rfl, rfl, rfl, rfl, rfl⟩ := H
 go_wp2_with (first | ((with_reducible refine gd 2 rfl ?_); refine ev_bx HS ?_; clear HS; intro g2 w2 HS F) | ((with_reducible refine gd 8 rfl ?_); refine HS.lend [0, 1, 2] (by decide) [.own (Zd.slice 91 q91) a0.f0.f0 [.slice B1 a0.f0.f0.length d1], .own (Zd.slice 81 q81) a0.f0.f1 [.slice B2 a0.f0.f1.length d2], .own (Zd.slice 115 q115) a0.f0.f2 [.slice B3 a0.f0.f2.length d3]] rfl (fun A' HL HD HA HB => ?_); refine ev_lc (laws_markStore.calls ht8.out HA) (fun _ HQ => HB _ _ HQ (Nat.le_of_ble_eq_true rfl)) Tryz.func31 ?_; clear HS HA HB HL HD; intro wt8 HS F) | ((with_reducible refine gd 12 rfl ?_); refine HS.lend [3] (by decide) [.own (Zd.slice 202 q202) a0.f1 [.slice B4 a0.f1.length d4]] rfl (fun A' HL HD HA HB => ?_); refine ev_lc (laws_markPlanS.calls ht10.out HA) (fun _ HQ => HB _ _ HQ (Nat.le_of_ble_eq_true rfl)) Tryz.func129 ?_; clear HS HA HB HL HD; intro wt10 HS F) | ((with_reducible refine gd 16 rfl ?_); refine HS.lend [4] (by decide) [.own (Zd.slice 205 q205) a0.f5 [.slice B5 a0.f5.length d5]] rfl (fun A' HL HD HA HB => ?_); refine ev_lc (laws_markKeptS.calls ht12.out HA) (fun _ HQ => HB _ _ HQ (Nat.le_of_ble_eq_true rfl)) Tryz.func130 ?_; clear HS HA HB HL HD; intro wt12 HS F))
 go_ret
 exact ⟨rfl, HS.pick [0, 1, 2, 3, 4] (by decide) (by rfl)⟩
def laws_heldIntS.l0 : Nat → Int → Int → (List Int) → Option (Int)
  | 0, _, _, _ => none
  | k + 1, x11, x12, a0 => (if x12 < (a0.length : Int) then (if 0 ≤ x12 then (if x12 < (a0.length : Int) then (if (rd a0 x12) = x11 then (laws_heldIntS.l0 k (wrap64 (x11 + 1)) (wrap64 (x12 + 1)) a0) else (some (-1))) else none) else none) else (some x11))
def laws_heldIntS.f (k : Nat) (a0 : (List Int)) (a1 : Int) : Option (Int) := (laws_heldIntS.l0 k a1 0 a0)
theorem laws_heldIntS.calls {k : Nat} {a0 : (List Int)} {a1 : Int} {Ap0 : Option Addr} {np0 cp0 : Nat} {r : Int} {w : World} (h : laws_heldIntS.f k a0 a1 = some r) (gp0 : (Kd.int .i64).C w Ap0 np0 a0) (lp0 : np0 ≤ cp0) :
    Calls Tryz.prog 181 #[.slice Ap0 np0 cp0, .int .i64 a1] w (fun e w' => e = .returned (.int .i64 r) ∧ Hp noFP w w' []) := by
 obtain rfl := C_len gp0
 have HS := Hp.start w
 have H := Aside0.mk h
 clear h
 unfold laws_heldIntS.f at H
 go_enter Tryz.func181, Tryz.ntmps181
 go_wp2
 go_loopg [1, 5] k (fun kq v_1 v_5 w' => ∃ (x11 : Int) (x12 : Int), v_1 = .int .i64 x11 ∧ v_5 = .int .i64 x12 ∧ Aside0 (laws_heldIntS.l0 kq x11 x12 a0 = some r) ∧ Aside0 (kq ≤ k) ∧ Hp noFP w w' [])
 case atStart => exact ⟨_, _, rfl, rfl, H, ⟨Nat.le_refl _⟩, HS⟩
 case round =>
  clear HS H; (try clear F)
  obtain ⟨x11, x12, rfl, rfl, H, HKk10, HS⟩ := hrel
  cases gk with
  | zero => exact absurd H.out (by simp [laws_heldIntS.l0])
  | succ k10 =>
   simp only [laws_heldIntS.l0] at H
   replace H := znif H; rcases H with ⟨c14, H⟩ | ⟨c14, H⟩
   case inl =>
    obtain rfl := zsome H
    go_wp2
    go_ret
    exact HS.pk
   replace H := zgo H; obtain ⟨c15, H⟩ := H
   replace H := zgo H; obtain ⟨c16, H⟩ := H
   obtain ⟨ad17, rfl, e17_0⟩ := Kd.at_int gp0 x12 (of_eq_true c15) (of_eq_true c16)
   have e17_0_17 := HS.keepc e17_0
   replace H := znif' H; rcases H with ⟨c18, H⟩ | ⟨c18, H⟩
   case inl =>
    have c18a := beq_eq_false_iff_ne.mpr c18
    have c18b := bne_iff_ne.mpr c18
    clear c18
    obtain rfl := zsome H
    go_wp2
    go_ret
    exact HS.pk
   have c18a := beq_iff_eq.mpr c18
   have c18b := bne_eq_false_iff_eq.mpr c18
   clear c18
   go_wp2
   go_roundg k10
   case measure => have := HKk10.out; omega
   case rel => exact ⟨_, _, rfl, rfl, H, ⟨by have := HKk10.out; omega⟩, HS.pick [] (by decide) (by rfl)⟩
def laws_heldPlanS.l0 : Nat → Int → Int → (List S202) → Option (Int)
  | 0, _, _, _ => none
  | k + 1, x11, x12, a0 => (if x12 < (a0.length : Int) then (if 0 ≤ x12 then (if x12 < (a0.length : Int) then (if (rd_T202 a0 x12).f0 = x11 then ((laws_heldIntS.f k ((rd_T202 a0 x12).f1) (wrap64 (x11 + 1))).bind fun t20 => (if t20 < 0 then (some (-1)) else (if (rd_T202 a0 x12).f2.f0 = t20 then ((laws_heldIntS.f k ((rd_T202 a0 x12).f2.f1) (wrap64 (t20 + 1))).bind fun t26 => (if t26 < 0 then (some (-1)) else (if (rd_T202 a0 x12).f2.f2 = ((Int.tmod t26 3) == 0) then (if (rd_T202 a0 x12).f2.f3 = ((Int.tmod (wrap64 (t26 + 1)) 3) == 0) then (if (rd_T202 a0 x12).f2.f4 = (wrap64 ((wrap64 (t26 + 1)) + 1)) then (laws_heldPlanS.l0 k (wrap64 ((wrap64 ((wrap64 (t26 + 1)) + 1)) + 1)) (wrap64 (x12 + 1)) a0) else (some (-1))) else (some (-1))) else (some (-1))))) else (some (-1))))) else (some (-1))) else none) else none) else (some x11))
def laws_heldPlanS.f (k : Nat) (a0 : (List S202)) (a1 : Int) : Option (Int) := (laws_heldPlanS.l0 k a1 0 a0)
theorem laws_heldPlanS.calls {k : Nat} {a0 : (List S202)} {a1 : Int} {Ap0 : Option Addr} {np0 cp0 : Nat} {r : Int} {w : World} (h : laws_heldPlanS.f k a0 a1 = some r) (gp0 : k202.C w Ap0 np0 a0) (lp0 : np0 ≤ cp0) :
    Calls Tryz.prog 131 #[.slice Ap0 np0 cp0, .int .i64 a1] w (fun e w' => e = .returned (.int .i64 r) ∧ Hp noFP w w' []) := by
 obtain rfl := C_len gp0
 have HS := Hp.start w
 have H := Aside0.mk h
 clear h
 unfold laws_heldPlanS.f at H
 go_enter Tryz.func131, Tryz.ntmps131
 go_wp2
 go_loopg [1, 5] k (fun kq v_1 v_5 w' => ∃ (x11 : Int) (x12 : Int), v_1 = .int .i64 x11 ∧ v_5 = .int .i64 x12 ∧ Aside0 (laws_heldPlanS.l0 kq x11 x12 a0 = some r) ∧ Aside0 (kq ≤ k) ∧ Hp noFP w w' [])
 case atStart => exact ⟨_, _, rfl, rfl, H, ⟨Nat.le_refl _⟩, HS⟩
 case round =>
  clear HS H; (try clear F)
  obtain ⟨x11, x12, rfl, rfl, H, HKk10, HS⟩ := hrel
  cases gk with
  | zero => exact absurd H.out (by simp [laws_heldPlanS.l0])
  | succ k10 =>
   simp only [laws_heldPlanS.l0] at H
   replace H := znif H; rcases H with ⟨c14, H⟩ | ⟨c14, H⟩
   case inl =>
    obtain rfl := zsome H
    go_wp2
    go_ret
    exact HS.pk
   replace H := zgo H; obtain ⟨c15, H⟩ := H
   replace H := zgo H; obtain ⟨c16, H⟩ := H
   obtain ⟨ad17, B17_1, d17_1, B17_3, d17_3, rfl, e17_0, e17_1, e17_2, e17_3, e17_4, e17_5, e17_6, m17_1, y17_1, m17_3, y17_3⟩ := at_T202 gp0 x12 (of_eq_true c15) (of_eq_true c16)
   have e17_0_17 := HS.keepc e17_0
   have e17_1_17 := HS.keepc e17_1
   have e17_2_17 := HS.keepc e17_2
   have e17_3_17 := HS.keepc e17_3
   have e17_4_17 := HS.keepc e17_4
   have e17_5_17 := HS.keepc e17_5
   have e17_6_17 := HS.keepc e17_6
   replace H := znif' H; rcases H with ⟨c18, H⟩ | ⟨c18, H⟩
   case inl =>
    have c18a := beq_eq_false_iff_ne.mpr c18
    have c18b := bne_iff_ne.mpr c18
    clear c18
    obtain rfl := zsome H
    go_wp2
    go_ret
    exact HS.pk
   have c18a := beq_iff_eq.mpr c18
   have c18b := bne_eq_false_iff_eq.mpr c18
   clear c18
   have e17_0_19 := HS.keepc e17_0
   have e17_1_19 := HS.keepc e17_1
   have e17_2_19 := HS.keepc e17_2
   have e17_3_19 := HS.keepc e17_3
   have e17_4_19 := HS.keepc e17_4
   have e17_5_19 := HS.keepc e17_5
   have e17_6_19 := HS.keepc e17_6
   replace H := zbind H; obtain ⟨t20, ht20, H⟩ := H
   go_upto_if 29 with ((with_reducible refine gd 27 rfl ?_); refine ev_cl HS (laws_heldIntS.calls ht20.out (HS.ro y17_1) m17_1) Tryz.func181 ?_; clear HS; intro wt20 HS F)
   replace H := zif H; rcases H with ⟨c22, H⟩ | ⟨c22, H⟩
   case inl =>
    (try simp only [c22, dcn])
    obtain rfl := zsome H
    go_wp2
    go_ret
    exact HS.pk
   (try simp only [c22, dcn])
   have e17_0_23 := HS.keepc e17_0
   have e17_1_23 := HS.keepc e17_1
   have e17_2_23 := HS.keepc e17_2
   have e17_3_23 := HS.keepc e17_3
   have e17_4_23 := HS.keepc e17_4
   have e17_5_23 := HS.keepc e17_5
   have e17_6_23 := HS.keepc e17_6
   replace H := znif' H; rcases H with ⟨c24, H⟩ | ⟨c24, H⟩
   case inl =>
    have c24a := beq_eq_false_iff_ne.mpr c24
    have c24b := bne_iff_ne.mpr c24
    clear c24
    obtain rfl := zsome H
    go_wp2
    go_ret
    exact HS.pk
   have c24a := beq_iff_eq.mpr c24
   have c24b := bne_eq_false_iff_eq.mpr c24
   clear c24
   have e17_0_25 := HS.keepc e17_0
   have e17_1_25 := HS.keepc e17_1
   have e17_2_25 := HS.keepc e17_2
   have e17_3_25 := HS.keepc e17_3
   have e17_4_25 := HS.keepc e17_4
   have e17_5_25 := HS.keepc e17_5
   have e17_6_25 := HS.keepc e17_6
   replace H := zbind H; obtain ⟨t26, ht26, H⟩ := H
   go_upto_if 49 with ((with_reducible refine gd 47 rfl ?_); refine ev_cl HS (laws_heldIntS.calls ht26.out (HS.ro y17_3) m17_3) Tryz.func181 ?_; clear HS; intro wt26 HS F)
   replace H := zif H; rcases H with ⟨c28, H⟩ | ⟨c28, H⟩
   case inl =>
    (try simp only [c28, dcn])
    obtain rfl := zsome H
    go_wp2
    go_ret
    exact HS.pk
   (try simp only [c28, dcn])
   have e17_0_29 := HS.keepc e17_0
   have e17_1_29 := HS.keepc e17_1
   have e17_2_29 := HS.keepc e17_2
   have e17_3_29 := HS.keepc e17_3
   have e17_4_29 := HS.keepc e17_4
   have e17_5_29 := HS.keepc e17_5
   have e17_6_29 := HS.keepc e17_6
   replace H := znif' H; rcases H with ⟨c30, H⟩ | ⟨c30, H⟩
   case inl =>
    have c30a := beq_eq_false_iff_ne.mpr c30
    have c30b := bne_iff_ne.mpr c30
    clear c30
    obtain rfl := zsome H
    go_wp2
    go_ret
    exact HS.pk
   have c30a := beq_iff_eq.mpr c30
   have c30b := bne_eq_false_iff_eq.mpr c30
   clear c30
   have e17_0_31 := HS.keepc e17_0
   have e17_1_31 := HS.keepc e17_1
   have e17_2_31 := HS.keepc e17_2
   have e17_3_31 := HS.keepc e17_3
   have e17_4_31 := HS.keepc e17_4
   have e17_5_31 := HS.keepc e17_5
   have e17_6_31 := HS.keepc e17_6
   replace H := znif' H; rcases H with ⟨c32, H⟩ | ⟨c32, H⟩
   case inl =>
    have c32a := beq_eq_false_iff_ne.mpr c32
    have c32b := bne_iff_ne.mpr c32
    clear c32
    obtain rfl := zsome H
    go_wp2
    go_ret
    exact HS.pk
   have c32a := beq_iff_eq.mpr c32
   have c32b := bne_eq_false_iff_eq.mpr c32
   clear c32
   have e17_0_33 := HS.keepc e17_0
   have e17_1_33 := HS.keepc e17_1
   have e17_2_33 := HS.keepc e17_2
   have e17_3_33 := HS.keepc e17_3
   have e17_4_33 := HS.keepc e17_4
   have e17_5_33 := HS.keepc e17_5
   have e17_6_33 := HS.keepc e17_6
   replace H := znif' H; rcases H with ⟨c34, H⟩ | ⟨c34, H⟩
   case inl =>
    have c34a := beq_eq_false_iff_ne.mpr c34
    have c34b := bne_iff_ne.mpr c34
    clear c34
    obtain rfl := zsome H
    go_wp2
    go_ret
    exact HS.pk
   have c34a := beq_iff_eq.mpr c34
   have c34b := bne_eq_false_iff_eq.mpr c34
   clear c34
   go_wp2
   go_roundg k10
   case measure => have := HKk10.out; omega
   case rel => exact ⟨_, _, rfl, rfl, H, ⟨by have := HKk10.out; omega⟩, HS.pick [] (by decide) (by rfl)⟩
def laws_heldKeptS.l0 : Nat → Int → Int → (List S205) → Option (Int)
  | 0, _, _, _ => none
  | k + 1, x9, x10, a0 => (if x10 < (a0.length : Int) then (if 0 ≤ x10 then (if x10 < (a0.length : Int) then ((laws_markText.f k x9).bind fun t13 => (if ((rd_T205 a0 x10).f0).toList = t13.toList then ((laws_markText.f k (wrap64 (x9 + 1))).bind fun t15 => (if ((rd_T205 a0 x10).f1).toList = t15.toList then (if (rd_T205 a0 x10).f2 = (wrap64 ((wrap64 (x9 + 1)) + 1)) then (laws_heldKeptS.l0 k (wrap64 ((wrap64 ((wrap64 (x9 + 1)) + 1)) + 1)) (wrap64 (x10 + 1)) a0) else (some (-1))) else (some (-1)))) else (some (-1)))) else none) else none) else (some x9))
def laws_heldKeptS.f (k : Nat) (a0 : (List S205)) (a1 : Int) : Option (Int) := (laws_heldKeptS.l0 k a1 0 a0)
def laws_heldKeptS.T4 : TT := (true, [([], []), ([], []), ([0, 1], [0, 1]), ([2], [2]), ([3], [3]), ([], []), ([5], [5]), ([4, 6], [4, 6])])
theorem laws_heldKeptS.tT4 : rtab .any (opsOf Tryz.f132 4) = laws_heldKeptS.T4 := by kernel_rfl
def laws_heldKeptS.T7 : TT := (true, [([], []), ([], []), ([0, 1], [0, 1]), ([2], [2]), ([3], [3]), ([], []), ([5], [5]), ([4, 6], [4, 6])])
theorem laws_heldKeptS.tT7 : rtab .any (opsOf Tryz.f132 7) = laws_heldKeptS.T7 := by kernel_rfl
theorem laws_heldKeptS.calls {k : Nat} {a0 : (List S205)} {a1 : Int} {Ap0 : Option Addr} {np0 cp0 : Nat} {r : Int} {w : World} (h : laws_heldKeptS.f k a0 a1 = some r) (gp0 : k205.C w Ap0 np0 a0) (lp0 : np0 ≤ cp0) :
    Calls Tryz.prog 132 #[.slice Ap0 np0 cp0, .int .i64 a1] w (fun e w' => e = .returned (.int .i64 r) ∧ Hp noFP w w' []) := by
 obtain rfl := C_len gp0
 have HS := Hp.start w
 have H := Aside0.mk h
 clear h
 unfold laws_heldKeptS.f at H
 go_enter Tryz.func132, Tryz.ntmps132
 go_wp2
 go_loopg [1, 5] k (fun kq v_1 v_5 w' => ∃ (x9 : Int) (x10 : Int), v_1 = .int .i64 x9 ∧ v_5 = .int .i64 x10 ∧ Aside0 (laws_heldKeptS.l0 kq x9 x10 a0 = some r) ∧ Aside0 (kq ≤ k) ∧ Hp noFP w w' [])
 case atStart => exact ⟨_, _, rfl, rfl, H, ⟨Nat.le_refl _⟩, HS⟩
 case round =>
  clear HS H; (try clear F)
  obtain ⟨x9, x10, rfl, rfl, H, HKk8, HS⟩ := hrel
  cases gk with
  | zero => exact absurd H.out (by simp [laws_heldKeptS.l0])
  | succ k8 =>
   simp only [laws_heldKeptS.l0] at H
   replace H := znif H; rcases H with ⟨c12, H⟩ | ⟨c12, H⟩
   case inl =>
    obtain rfl := zsome H
    go_wp2
    go_ret
    exact HS.pk
   (try go_wp2)
   replace H := zgo H; obtain ⟨c3, H⟩ := H
   replace H := zgo H; obtain ⟨c6, H⟩ := H
   obtain ⟨ad11, rfl, e11_0, e11_1, e11_2⟩ := at_T205 gp0 x10 (of_eq_true c3) (of_eq_true c6)
   replace H := zbind H; obtain ⟨t13, ht13, H⟩ := H
   refine dr_start [] HS #[false, false, false, false, false, false, false, false] (by kernel_rfl) rfl rfl laws_heldKeptS.tT4 (fun w14 HT HS HH => ?_)
   (try clear F)
   refine drq_of [(0, some 12), (1, some 13), (2, some 14), (3, some 15)] ?_
   repeat (refine drp HT ?_)
   refine drq_end ?_
   refine dr_take 4 (some 16) HT HH (v := ?_) (a' := ?_) rfl rfl (by kernel_rfl) (fun _ _ _ h => h) (.inl ⟨by rfl, ?_⟩) ?_ ?_
   rotate_left
   · rintro w' ⟨rs', HS'⟩; have e11_0 := HS'.keepc e11_0; have e11_1 := HS'.keepc e11_1; have e11_2 := HS'.keepc e11_2; go_simp; with_reducible rfl
   rotate_left
   · simp only [Act.put, ptn]; rfl
   refine drq_of [(5, some 17)] ?_
   repeat (refine drp HT ?_)
   refine drq_end ?_
   refine dr1 6 HT fun K hK => ?_
   refine go_cl HS (laws_markText.calls ht13.out) Tryz.func180 ?_; clear HS; intro wt13 HS F
   refine nrm 18 hK ⟨_, HS⟩ (fun HH => ?_); clear hK K
   refine drq_of [(7, some 19)] ?_
   repeat (refine drp HT ?_)
   refine drq_end ?_
   refine done_ (done_of HT.out (by kernel_rfl)) ?_
   replace H := znif' H; rcases H with ⟨c16, H⟩ | ⟨c16, H⟩
   case inl =>
    have c16a := beq_eq_false_iff_ne.mpr c16
    have c16b := bne_iff_ne.mpr c16
    clear c16
    (try simp only [c16a, c16b, dcn])
    obtain rfl := zsome H
    go_wp2
    go_ret
    exact HS.pk
   have c16a := beq_iff_eq.mpr c16
   have c16b := bne_eq_false_iff_eq.mpr c16
   clear c16
   (try simp only [c16a, c16b, dcn])
   (try go_wp2)
   replace H := zbind H; obtain ⟨t15, ht15, H⟩ := H
   refine dr_start [] HS #[false, false, false, false, false, false, false, false] (by kernel_rfl) rfl rfl laws_heldKeptS.tT7 (fun w18 HT HS HH => ?_)
   (try clear F)
   refine drq_of [(0, some 22), (1, some 23), (2, some 24), (3, some 25)] ?_
   repeat (refine drp HT ?_)
   refine drq_end ?_
   refine dr_take 4 (some 26) HT HH (v := ?_) (a' := ?_) rfl rfl (by kernel_rfl) (fun _ _ _ h => h) (.inl ⟨by rfl, ?_⟩) ?_ ?_
   rotate_left
   · rintro w' ⟨rs', HS'⟩; have e11_0 := HS'.keepc e11_0; have e11_1 := HS'.keepc e11_1; have e11_2 := HS'.keepc e11_2; go_simp; with_reducible rfl
   rotate_left
   · simp only [Act.put, ptn]; rfl
   refine drq_of [(5, some 27)] ?_
   repeat (refine drp HT ?_)
   refine drq_end ?_
   refine dr1 6 HT fun K hK => ?_
   refine go_cl HS (laws_markText.calls ht15.out) Tryz.func180 ?_; clear HS; intro wt15 HS F
   refine nrm 28 hK ⟨_, HS⟩ (fun HH => ?_); clear hK K
   refine drq_of [(7, some 29)] ?_
   repeat (refine drp HT ?_)
   refine drq_end ?_
   refine done_ (done_of HT.out (by kernel_rfl)) ?_
   replace H := znif' H; rcases H with ⟨c20, H⟩ | ⟨c20, H⟩
   case inl =>
    have c20a := beq_eq_false_iff_ne.mpr c20
    have c20b := bne_iff_ne.mpr c20
    clear c20
    (try simp only [c20a, c20b, dcn])
    obtain rfl := zsome H
    go_wp2
    go_ret
    exact HS.pk
   have c20a := beq_iff_eq.mpr c20
   have c20b := bne_eq_false_iff_eq.mpr c20
   clear c20
   (try simp only [c20a, c20b, dcn])
   have e11_0_21 := HS.keepc e11_0
   have e11_1_21 := HS.keepc e11_1
   have e11_2_21 := HS.keepc e11_2
   replace H := znif' H; rcases H with ⟨c22, H⟩ | ⟨c22, H⟩
   case inl =>
    have c22a := beq_eq_false_iff_ne.mpr c22
    have c22b := bne_iff_ne.mpr c22
    clear c22
    (try simp only [c22a, c22b, dcn])
    obtain rfl := zsome H
    go_wp2
    go_ret
    exact HS.pk
   have c22a := beq_iff_eq.mpr c22
   have c22b := bne_eq_false_iff_eq.mpr c22
   clear c22
   (try simp only [c22a, c22b, dcn])
   go_wp2
   go_roundg k8
   case measure => have := HKk8.out; omega
   case rel => exact ⟨_, _, rfl, rfl, H, ⟨by have := HKk8.out; omega⟩, HS.pick [] (by decide) (by rfl)⟩
def laws_heldStringS.l0 : Nat → Int → Int → (List ByteArray) → Option (Int)
  | 0, _, _, _ => none
  | k + 1, x9, x10, a0 => (if x10 < (a0.length : Int) then (if 0 ≤ x10 then (if x10 < (a0.length : Int) then ((laws_markText.f k x9).bind fun t11 => (if (rdOf ByteArray.empty a0 x10).toList = t11.toList then (laws_heldStringS.l0 k (wrap64 (x9 + 1)) (wrap64 (x10 + 1)) a0) else (some (-1)))) else none) else none) else (some x9))
def laws_heldStringS.f (k : Nat) (a0 : (List ByteArray)) (a1 : Int) : Option (Int) := (laws_heldStringS.l0 k a1 0 a0)
def laws_heldStringS.T4 : TT := (true, [([], []), ([], []), ([0, 1], [0, 1]), ([2], [2]), ([], []), ([4], [4]), ([3, 5], [3, 5])])
theorem laws_heldStringS.tT4 : rtab .any (opsOf Tryz.f182 4) = laws_heldStringS.T4 := by kernel_rfl
theorem laws_heldStringS.calls {k : Nat} {a0 : (List ByteArray)} {a1 : Int} {Ap0 : Option Addr} {np0 cp0 : Nat} {r : Int} {w : World} (h : laws_heldStringS.f k a0 a1 = some r) (gp0 : Kd.string.C w Ap0 np0 a0) (lp0 : np0 ≤ cp0) :
    Calls Tryz.prog 182 #[.slice Ap0 np0 cp0, .int .i64 a1] w (fun e w' => e = .returned (.int .i64 r) ∧ Hp noFP w w' []) := by
 obtain rfl := C_len gp0
 have HS := Hp.start w
 have H := Aside0.mk h
 clear h
 unfold laws_heldStringS.f at H
 go_enter Tryz.func182, Tryz.ntmps182
 go_wp2
 go_loopg [1, 5] k (fun kq v_1 v_5 w' => ∃ (x9 : Int) (x10 : Int), v_1 = .int .i64 x9 ∧ v_5 = .int .i64 x10 ∧ Aside0 (laws_heldStringS.l0 kq x9 x10 a0 = some r) ∧ Aside0 (kq ≤ k) ∧ Hp noFP w w' [])
 case atStart => exact ⟨_, _, rfl, rfl, H, ⟨Nat.le_refl _⟩, HS⟩
 case round =>
  clear HS H; (try clear F)
  obtain ⟨x9, x10, rfl, rfl, H, HKk8, HS⟩ := hrel
  cases gk with
  | zero => exact absurd H.out (by simp [laws_heldStringS.l0])
  | succ k8 =>
   simp only [laws_heldStringS.l0] at H
   replace H := znif H; rcases H with ⟨c12, H⟩ | ⟨c12, H⟩
   case inl =>
    obtain rfl := zsome H
    go_wp2
    go_ret
    exact HS.pk
   (try go_wp2)
   replace H := zgo H; obtain ⟨c3, H⟩ := H
   replace H := zgo H; obtain ⟨c6, H⟩ := H
   obtain ⟨ad7, rfl, e7_0⟩ := Kd.at_string gp0 x10 (of_eq_true c3) (of_eq_true c6)
   replace H := zbind H; obtain ⟨t11, ht11, H⟩ := H
   refine dr_start [] HS #[false, false, false, false, false, false, false] (by kernel_rfl) rfl rfl laws_heldStringS.tT4 (fun w14 HT HS HH => ?_)
   (try clear F)
   refine drq_of [(0, some 12), (1, some 13), (2, some 14)] ?_
   repeat (refine drp HT ?_)
   refine drq_end ?_
   refine dr_take 3 (some 15) HT HH (v := ?_) (a' := ?_) rfl rfl (by kernel_rfl) (fun _ _ _ h => h) (.inl ⟨by rfl, ?_⟩) ?_ ?_
   rotate_left
   · rintro w' ⟨rs', HS'⟩; have e7_0 := HS'.keepc e7_0; go_simp; with_reducible rfl
   rotate_left
   · simp only [Act.put, ptn]; rfl
   refine drq_of [(4, some 16)] ?_
   repeat (refine drp HT ?_)
   refine drq_end ?_
   refine dr1 5 HT fun K hK => ?_
   refine go_cl HS (laws_markText.calls ht11.out) Tryz.func180 ?_; clear HS; intro wt11 HS F
   refine nrm 17 hK ⟨_, HS⟩ (fun HH => ?_); clear hK K
   refine drq_of [(6, some 18)] ?_
   repeat (refine drp HT ?_)
   refine drq_end ?_
   refine done_ (done_of HT.out (by kernel_rfl)) ?_
   replace H := znif' H; rcases H with ⟨c16, H⟩ | ⟨c16, H⟩
   case inl =>
    have c16a := beq_eq_false_iff_ne.mpr c16
    have c16b := bne_iff_ne.mpr c16
    clear c16
    (try simp only [c16a, c16b, dcn])
    obtain rfl := zsome H
    go_wp2
    go_ret
    exact HS.pk
   have c16a := beq_iff_eq.mpr c16
   have c16b := bne_eq_false_iff_eq.mpr c16
   clear c16
   (try simp only [c16a, c16b, dcn])
   go_wp2
   go_roundg k8
   case measure => have := HKk8.out; omega
   case rel => exact ⟨_, _, rfl, rfl, H, ⟨by have := HKk8.out; omega⟩, HS.pick [] (by decide) (by rfl)⟩
def laws_heldCertS.l0 : Nat → Int → Int → (List S91) → Option (Int)
  | 0, _, _, _ => none
  | k + 1, x11, x12, a0 => (if x12 < (a0.length : Int) then (if 0 ≤ x12 then (if x12 < (a0.length : Int) then (if (rd_T91 a0 x12).f0 = x11 then ((laws_markText.f k (wrap64 (x11 + 1))).bind fun t13 => (if ((rd_T91 a0 x12).f1).toList = t13.toList then ((laws_markText.f k (wrap64 ((wrap64 (x11 + 1)) + 1))).bind fun t21 => (if ((rd_T91 a0 x12).f2).toList = t21.toList then (if (rd_T91 a0 x12).f3 = (wrap64 ((wrap64 ((wrap64 (x11 + 1)) + 1)) + 1)) then (if (rd_T91 a0 x12).f4 = (wrap64 ((wrap64 ((wrap64 ((wrap64 (x11 + 1)) + 1)) + 1)) + 1)) then ((laws_markText.f k (wrap64 ((wrap64 ((wrap64 ((wrap64 ((wrap64 (x11 + 1)) + 1)) + 1)) + 1)) + 1))).bind fun t23 => (if ((rd_T91 a0 x12).f5).toList = t23.toList then (if (rd_T91 a0 x12).f6 = ((Int.tmod (wrap64 ((wrap64 ((wrap64 ((wrap64 ((wrap64 ((wrap64 (x11 + 1)) + 1)) + 1)) + 1)) + 1)) + 1)) 3) == 0) then (if (rd_T91 a0 x12).f7 = (wrap64 ((wrap64 ((wrap64 ((wrap64 ((wrap64 ((wrap64 ((wrap64 (x11 + 1)) + 1)) + 1)) + 1)) + 1)) + 1)) + 1)) then (if (rd_T91 a0 x12).f8 = (wrap64 ((wrap64 ((wrap64 ((wrap64 ((wrap64 ((wrap64 ((wrap64 ((wrap64 (x11 + 1)) + 1)) + 1)) + 1)) + 1)) + 1)) + 1)) + 1)) then ((laws_heldIntS.f k ((rd_T91 a0 x12).f9) (wrap64 ((wrap64 ((wrap64 ((wrap64 ((wrap64 ((wrap64 ((wrap64 ((wrap64 ((wrap64 (x11 + 1)) + 1)) + 1)) + 1)) + 1)) + 1)) + 1)) + 1)) + 1))).bind fun t42 => (if t42 < 0 then (some (-1)) else ((laws_heldStringS.f k ((rd_T91 a0 x12).f10) t42).bind fun t46 => (if t46 < 0 then (some (-1)) else ((laws_heldStringS.f k ((rd_T91 a0 x12).f11) t46).bind fun t50 => (if t50 < 0 then (some (-1)) else ((laws_markText.f k t50).bind fun t25 => (if ((rd_T91 a0 x12).f12).toList = t25.toList then (laws_heldCertS.l0 k (wrap64 (t50 + 1)) (wrap64 (x12 + 1)) a0) else (some (-1)))))))))) else (some (-1))) else (some (-1))) else (some (-1))) else (some (-1)))) else (some (-1))) else (some (-1))) else (some (-1)))) else (some (-1)))) else (some (-1))) else none) else none) else (some x11))
def laws_heldCertS.f (k : Nat) (a0 : (List S91)) (a1 : Int) : Option (Int) := (laws_heldCertS.l0 k a1 0 a0)
def laws_heldCertS.T7 : TT := (true, [([], []), ([], []), ([0, 1], [0, 1]), ([2], [2]), ([3], [3]), ([], []), ([5], [5]), ([4, 6], [4, 6])])
theorem laws_heldCertS.tT7 : rtab .any (opsOf Tryz.f115 7) = laws_heldCertS.T7 := by kernel_rfl
def laws_heldCertS.T10 : TT := (true, [([], []), ([], []), ([0, 1], [0, 1]), ([2], [2]), ([3], [3]), ([], []), ([5], [5]), ([4, 6], [4, 6])])
theorem laws_heldCertS.tT10 : rtab .any (opsOf Tryz.f115 10) = laws_heldCertS.T10 := by kernel_rfl
def laws_heldCertS.T19 : TT := (true, [([], []), ([], []), ([0, 1], [0, 1]), ([2], [2]), ([3], [3]), ([], []), ([5], [5]), ([4, 6], [4, 6])])
theorem laws_heldCertS.tT19 : rtab .any (opsOf Tryz.f115 19) = laws_heldCertS.T19 := by kernel_rfl
def laws_heldCertS.T40 : TT := (true, [([], []), ([], []), ([0, 1], [0, 1]), ([2], [2]), ([3], [3]), ([], []), ([5], [5]), ([4, 6], [4, 6])])
theorem laws_heldCertS.tT40 : rtab .any (opsOf Tryz.f115 40) = laws_heldCertS.T40 := by kernel_rfl
theorem laws_heldCertS.calls {k : Nat} {a0 : (List S91)} {a1 : Int} {Ap0 : Option Addr} {np0 cp0 : Nat} {r : Int} {w : World} (h : laws_heldCertS.f k a0 a1 = some r) (gp0 : k91.C w Ap0 np0 a0) (lp0 : np0 ≤ cp0) :
    Calls Tryz.prog 115 #[.slice Ap0 np0 cp0, .int .i64 a1] w (fun e w' => e = .returned (.int .i64 r) ∧ Hp noFP w w' []) := by
 obtain rfl := C_len gp0
 have HS := Hp.start w
 have H := Aside0.mk h
 clear h
 unfold laws_heldCertS.f at H
 go_enter Tryz.func115, Tryz.ntmps115
 go_wp2
 go_loopg [1, 5] k (fun kq v_1 v_5 w' => ∃ (x11 : Int) (x12 : Int), v_1 = .int .i64 x11 ∧ v_5 = .int .i64 x12 ∧ Aside0 (laws_heldCertS.l0 kq x11 x12 a0 = some r) ∧ Aside0 (kq ≤ k) ∧ Hp noFP w w' [])
 case atStart => exact ⟨_, _, rfl, rfl, H, ⟨Nat.le_refl _⟩, HS⟩
 case round =>
  clear HS H; (try clear F)
  obtain ⟨x11, x12, rfl, rfl, H, HKk10, HS⟩ := hrel
  cases gk with
  | zero => exact absurd H.out (by simp [laws_heldCertS.l0])
  | succ k10 =>
   simp only [laws_heldCertS.l0] at H
   replace H := znif H; rcases H with ⟨c14, H⟩ | ⟨c14, H⟩
   case inl =>
    obtain rfl := zsome H
    go_wp2
    go_ret
    exact HS.pk
   replace H := zgo H; obtain ⟨c15, H⟩ := H
   replace H := zgo H; obtain ⟨c16, H⟩ := H
   obtain ⟨ad17, B17_9, d17_9, B17_10, d17_10, B17_11, d17_11, rfl, e17_0, e17_1, e17_2, e17_3, e17_4, e17_5, e17_6, e17_7, e17_8, e17_9, e17_10, e17_11, e17_12, m17_9, y17_9, m17_10, y17_10, m17_11, y17_11⟩ := at_T91 gp0 x12 (of_eq_true c15) (of_eq_true c16)
   have e17_0_17 := HS.keepc e17_0
   have e17_1_17 := HS.keepc e17_1
   have e17_2_17 := HS.keepc e17_2
   have e17_3_17 := HS.keepc e17_3
   have e17_4_17 := HS.keepc e17_4
   have e17_5_17 := HS.keepc e17_5
   have e17_6_17 := HS.keepc e17_6
   have e17_7_17 := HS.keepc e17_7
   have e17_8_17 := HS.keepc e17_8
   have e17_9_17 := HS.keepc e17_9
   have e17_10_17 := HS.keepc e17_10
   have e17_11_17 := HS.keepc e17_11
   have e17_12_17 := HS.keepc e17_12
   replace H := znif' H; rcases H with ⟨c18, H⟩ | ⟨c18, H⟩
   case inl =>
    have c18a := beq_eq_false_iff_ne.mpr c18
    have c18b := bne_iff_ne.mpr c18
    clear c18
    obtain rfl := zsome H
    go_wp2
    go_ret
    exact HS.pk
   have c18a := beq_iff_eq.mpr c18
   have c18b := bne_eq_false_iff_eq.mpr c18
   clear c18
   (try go_wp2)
   replace H := zbind H; obtain ⟨t13, ht13, H⟩ := H
   refine dr_start [] HS #[false, false, false, false, false, false, false, false] (by kernel_rfl) rfl rfl laws_heldCertS.tT7 (fun w20 HT HS HH => ?_)
   (try clear F)
   refine drq_of [(0, some 21), (1, some 22), (2, some 23), (3, some 24)] ?_
   repeat (refine drp HT ?_)
   refine drq_end ?_
   refine dr_take 4 (some 25) HT HH (v := ?_) (a' := ?_) rfl rfl (by kernel_rfl) (fun _ _ _ h => h) (.inl ⟨by rfl, ?_⟩) ?_ ?_
   rotate_left
   · rintro w' ⟨rs', HS'⟩; have e17_0 := HS'.keepc e17_0; have e17_1 := HS'.keepc e17_1; have e17_2 := HS'.keepc e17_2; have e17_3 := HS'.keepc e17_3; have e17_4 := HS'.keepc e17_4; have e17_5 := HS'.keepc e17_5; have e17_6 := HS'.keepc e17_6; have e17_7 := HS'.keepc e17_7; have e17_8 := HS'.keepc e17_8; have e17_9 := HS'.keepc e17_9; have e17_10 := HS'.keepc e17_10; have e17_11 := HS'.keepc e17_11; have e17_12 := HS'.keepc e17_12; go_simp; with_reducible rfl
   rotate_left
   · simp only [Act.put, ptn]; rfl
   refine drq_of [(5, some 26)] ?_
   repeat (refine drp HT ?_)
   refine drq_end ?_
   refine dr1 6 HT fun K hK => ?_
   refine go_cl HS (laws_markText.calls ht13.out) Tryz.func180 ?_; clear HS; intro wt13 HS F
   refine nrm 27 hK ⟨_, HS⟩ (fun HH => ?_); clear hK K
   refine drq_of [(7, some 28)] ?_
   repeat (refine drp HT ?_)
   refine drq_end ?_
   refine done_ (done_of HT.out (by kernel_rfl)) ?_
   replace H := znif' H; rcases H with ⟨c22, H⟩ | ⟨c22, H⟩
   case inl =>
    have c22a := beq_eq_false_iff_ne.mpr c22
    have c22b := bne_iff_ne.mpr c22
    clear c22
    (try simp only [c22a, c22b, dcn])
    obtain rfl := zsome H
    go_wp2
    go_ret
    exact HS.pk
   have c22a := beq_iff_eq.mpr c22
   have c22b := bne_eq_false_iff_eq.mpr c22
   clear c22
   (try simp only [c22a, c22b, dcn])
   (try go_wp2)
   replace H := zbind H; obtain ⟨t21, ht21, H⟩ := H
   refine dr_start [] HS #[false, false, false, false, false, false, false, false] (by kernel_rfl) rfl rfl laws_heldCertS.tT10 (fun w24 HT HS HH => ?_)
   (try clear F)
   refine drq_of [(0, some 31), (1, some 32), (2, some 33), (3, some 34)] ?_
   repeat (refine drp HT ?_)
   refine drq_end ?_
   refine dr_take 4 (some 35) HT HH (v := ?_) (a' := ?_) rfl rfl (by kernel_rfl) (fun _ _ _ h => h) (.inl ⟨by rfl, ?_⟩) ?_ ?_
   rotate_left
   · rintro w' ⟨rs', HS'⟩; have e17_0 := HS'.keepc e17_0; have e17_1 := HS'.keepc e17_1; have e17_2 := HS'.keepc e17_2; have e17_3 := HS'.keepc e17_3; have e17_4 := HS'.keepc e17_4; have e17_5 := HS'.keepc e17_5; have e17_6 := HS'.keepc e17_6; have e17_7 := HS'.keepc e17_7; have e17_8 := HS'.keepc e17_8; have e17_9 := HS'.keepc e17_9; have e17_10 := HS'.keepc e17_10; have e17_11 := HS'.keepc e17_11; have e17_12 := HS'.keepc e17_12; go_simp; with_reducible rfl
   rotate_left
   · simp only [Act.put, ptn]; rfl
   refine drq_of [(5, some 36)] ?_
   repeat (refine drp HT ?_)
   refine drq_end ?_
   refine dr1 6 HT fun K hK => ?_
   refine go_cl HS (laws_markText.calls ht21.out) Tryz.func180 ?_; clear HS; intro wt21 HS F
   refine nrm 37 hK ⟨_, HS⟩ (fun HH => ?_); clear hK K
   refine drq_of [(7, some 38)] ?_
   repeat (refine drp HT ?_)
   refine drq_end ?_
   refine done_ (done_of HT.out (by kernel_rfl)) ?_
   replace H := znif' H; rcases H with ⟨c26, H⟩ | ⟨c26, H⟩
   case inl =>
    have c26a := beq_eq_false_iff_ne.mpr c26
    have c26b := bne_iff_ne.mpr c26
    clear c26
    (try simp only [c26a, c26b, dcn])
    obtain rfl := zsome H
    go_wp2
    go_ret
    exact HS.pk
   have c26a := beq_iff_eq.mpr c26
   have c26b := bne_eq_false_iff_eq.mpr c26
   clear c26
   (try simp only [c26a, c26b, dcn])
   have e17_0_27 := HS.keepc e17_0
   have e17_1_27 := HS.keepc e17_1
   have e17_2_27 := HS.keepc e17_2
   have e17_3_27 := HS.keepc e17_3
   have e17_4_27 := HS.keepc e17_4
   have e17_5_27 := HS.keepc e17_5
   have e17_6_27 := HS.keepc e17_6
   have e17_7_27 := HS.keepc e17_7
   have e17_8_27 := HS.keepc e17_8
   have e17_9_27 := HS.keepc e17_9
   have e17_10_27 := HS.keepc e17_10
   have e17_11_27 := HS.keepc e17_11
   have e17_12_27 := HS.keepc e17_12
   replace H := znif' H; rcases H with ⟨c28, H⟩ | ⟨c28, H⟩
   case inl =>
    have c28a := beq_eq_false_iff_ne.mpr c28
    have c28b := bne_iff_ne.mpr c28
    clear c28
    (try simp only [c28a, c28b, dcn])
    obtain rfl := zsome H
    go_wp2
    go_ret
    exact HS.pk
   have c28a := beq_iff_eq.mpr c28
   have c28b := bne_eq_false_iff_eq.mpr c28
   clear c28
   (try simp only [c28a, c28b, dcn])
   have e17_0_29 := HS.keepc e17_0
   have e17_1_29 := HS.keepc e17_1
   have e17_2_29 := HS.keepc e17_2
   have e17_3_29 := HS.keepc e17_3
   have e17_4_29 := HS.keepc e17_4
   have e17_5_29 := HS.keepc e17_5
   have e17_6_29 := HS.keepc e17_6
   have e17_7_29 := HS.keepc e17_7
   have e17_8_29 := HS.keepc e17_8
   have e17_9_29 := HS.keepc e17_9
   have e17_10_29 := HS.keepc e17_10
   have e17_11_29 := HS.keepc e17_11
   have e17_12_29 := HS.keepc e17_12
   replace H := znif' H; rcases H with ⟨c30, H⟩ | ⟨c30, H⟩
   case inl =>
    have c30a := beq_eq_false_iff_ne.mpr c30
    have c30b := bne_iff_ne.mpr c30
    clear c30
    (try simp only [c30a, c30b, dcn])
    obtain rfl := zsome H
    go_wp2
    go_ret
    exact HS.pk
   have c30a := beq_iff_eq.mpr c30
   have c30b := bne_eq_false_iff_eq.mpr c30
   clear c30
   (try simp only [c30a, c30b, dcn])
   (try go_wp2)
   replace H := zbind H; obtain ⟨t23, ht23, H⟩ := H
   refine dr_start [] HS #[false, false, false, false, false, false, false, false] (by kernel_rfl) rfl rfl laws_heldCertS.tT19 (fun w32 HT HS HH => ?_)
   (try clear F)
   refine drq_of [(0, some 59), (1, some 60), (2, some 61), (3, some 62)] ?_
   repeat (refine drp HT ?_)
   refine drq_end ?_
   refine dr_take 4 (some 63) HT HH (v := ?_) (a' := ?_) rfl rfl (by kernel_rfl) (fun _ _ _ h => h) (.inl ⟨by rfl, ?_⟩) ?_ ?_
   rotate_left
   · rintro w' ⟨rs', HS'⟩; have e17_0 := HS'.keepc e17_0; have e17_1 := HS'.keepc e17_1; have e17_2 := HS'.keepc e17_2; have e17_3 := HS'.keepc e17_3; have e17_4 := HS'.keepc e17_4; have e17_5 := HS'.keepc e17_5; have e17_6 := HS'.keepc e17_6; have e17_7 := HS'.keepc e17_7; have e17_8 := HS'.keepc e17_8; have e17_9 := HS'.keepc e17_9; have e17_10 := HS'.keepc e17_10; have e17_11 := HS'.keepc e17_11; have e17_12 := HS'.keepc e17_12; go_simp; with_reducible rfl
   rotate_left
   · simp only [Act.put, ptn]; rfl
   refine drq_of [(5, some 64)] ?_
   repeat (refine drp HT ?_)
   refine drq_end ?_
   refine dr1 6 HT fun K hK => ?_
   refine go_cl HS (laws_markText.calls ht23.out) Tryz.func180 ?_; clear HS; intro wt23 HS F
   refine nrm 65 hK ⟨_, HS⟩ (fun HH => ?_); clear hK K
   refine drq_of [(7, some 66)] ?_
   repeat (refine drp HT ?_)
   refine drq_end ?_
   refine done_ (done_of HT.out (by kernel_rfl)) ?_
   replace H := znif' H; rcases H with ⟨c34, H⟩ | ⟨c34, H⟩
   case inl =>
    have c34a := beq_eq_false_iff_ne.mpr c34
    have c34b := bne_iff_ne.mpr c34
    clear c34
    (try simp only [c34a, c34b, dcn])
    obtain rfl := zsome H
    go_wp2
    go_ret
    exact HS.pk
   have c34a := beq_iff_eq.mpr c34
   have c34b := bne_eq_false_iff_eq.mpr c34
   clear c34
   (try simp only [c34a, c34b, dcn])
   have e17_0_35 := HS.keepc e17_0
   have e17_1_35 := HS.keepc e17_1
   have e17_2_35 := HS.keepc e17_2
   have e17_3_35 := HS.keepc e17_3
   have e17_4_35 := HS.keepc e17_4
   have e17_5_35 := HS.keepc e17_5
   have e17_6_35 := HS.keepc e17_6
   have e17_7_35 := HS.keepc e17_7
   have e17_8_35 := HS.keepc e17_8
   have e17_9_35 := HS.keepc e17_9
   have e17_10_35 := HS.keepc e17_10
   have e17_11_35 := HS.keepc e17_11
   have e17_12_35 := HS.keepc e17_12
   replace H := znif' H; rcases H with ⟨c36, H⟩ | ⟨c36, H⟩
   case inl =>
    have c36a := beq_eq_false_iff_ne.mpr c36
    have c36b := bne_iff_ne.mpr c36
    clear c36
    (try simp only [c36a, c36b, dcn])
    obtain rfl := zsome H
    go_wp2
    go_ret
    exact HS.pk
   have c36a := beq_iff_eq.mpr c36
   have c36b := bne_eq_false_iff_eq.mpr c36
   clear c36
   (try simp only [c36a, c36b, dcn])
   have e17_0_37 := HS.keepc e17_0
   have e17_1_37 := HS.keepc e17_1
   have e17_2_37 := HS.keepc e17_2
   have e17_3_37 := HS.keepc e17_3
   have e17_4_37 := HS.keepc e17_4
   have e17_5_37 := HS.keepc e17_5
   have e17_6_37 := HS.keepc e17_6
   have e17_7_37 := HS.keepc e17_7
   have e17_8_37 := HS.keepc e17_8
   have e17_9_37 := HS.keepc e17_9
   have e17_10_37 := HS.keepc e17_10
   have e17_11_37 := HS.keepc e17_11
   have e17_12_37 := HS.keepc e17_12
   replace H := znif' H; rcases H with ⟨c38, H⟩ | ⟨c38, H⟩
   case inl =>
    have c38a := beq_eq_false_iff_ne.mpr c38
    have c38b := bne_iff_ne.mpr c38
    clear c38
    (try simp only [c38a, c38b, dcn])
    obtain rfl := zsome H
    go_wp2
    go_ret
    exact HS.pk
   have c38a := beq_iff_eq.mpr c38
   have c38b := bne_eq_false_iff_eq.mpr c38
   clear c38
   (try simp only [c38a, c38b, dcn])
   have e17_0_39 := HS.keepc e17_0
   have e17_1_39 := HS.keepc e17_1
   have e17_2_39 := HS.keepc e17_2
   have e17_3_39 := HS.keepc e17_3
   have e17_4_39 := HS.keepc e17_4
   have e17_5_39 := HS.keepc e17_5
   have e17_6_39 := HS.keepc e17_6
   have e17_7_39 := HS.keepc e17_7
   have e17_8_39 := HS.keepc e17_8
   have e17_9_39 := HS.keepc e17_9
   have e17_10_39 := HS.keepc e17_10
   have e17_11_39 := HS.keepc e17_11
   have e17_12_39 := HS.keepc e17_12
   replace H := znif' H; rcases H with ⟨c40, H⟩ | ⟨c40, H⟩
   case inl =>
    have c40a := beq_eq_false_iff_ne.mpr c40
    have c40b := bne_iff_ne.mpr c40
    clear c40
    (try simp only [c40a, c40b, dcn])
    obtain rfl := zsome H
    go_wp2
    go_ret
    exact HS.pk
   have c40a := beq_iff_eq.mpr c40
   have c40b := bne_eq_false_iff_eq.mpr c40
   clear c40
   (try simp only [c40a, c40b, dcn])
   have e17_0_41 := HS.keepc e17_0
   have e17_1_41 := HS.keepc e17_1
   have e17_2_41 := HS.keepc e17_2
   have e17_3_41 := HS.keepc e17_3
   have e17_4_41 := HS.keepc e17_4
   have e17_5_41 := HS.keepc e17_5
   have e17_6_41 := HS.keepc e17_6
   have e17_7_41 := HS.keepc e17_7
   have e17_8_41 := HS.keepc e17_8
   have e17_9_41 := HS.keepc e17_9
   have e17_10_41 := HS.keepc e17_10
   have e17_11_41 := HS.keepc e17_11
   have e17_12_41 := HS.keepc e17_12
   replace H := zbind H; obtain ⟨t42, ht42, H⟩ := H
   go_upto_if 106 with ((with_reducible refine gd 104 rfl ?_); refine ev_cl HS (laws_heldIntS.calls ht42.out (HS.ro y17_9) m17_9) Tryz.func181 ?_; clear HS; intro wt42 HS F)
   replace H := zif H; rcases H with ⟨c44, H⟩ | ⟨c44, H⟩
   case inl =>
    (try simp only [c44, dcn])
    obtain rfl := zsome H
    go_wp2
    go_ret
    exact HS.pk
   (try simp only [c44, dcn])
   have e17_0_45 := HS.keepc e17_0
   have e17_1_45 := HS.keepc e17_1
   have e17_2_45 := HS.keepc e17_2
   have e17_3_45 := HS.keepc e17_3
   have e17_4_45 := HS.keepc e17_4
   have e17_5_45 := HS.keepc e17_5
   have e17_6_45 := HS.keepc e17_6
   have e17_7_45 := HS.keepc e17_7
   have e17_8_45 := HS.keepc e17_8
   have e17_9_45 := HS.keepc e17_9
   have e17_10_45 := HS.keepc e17_10
   have e17_11_45 := HS.keepc e17_11
   have e17_12_45 := HS.keepc e17_12
   replace H := zbind H; obtain ⟨t46, ht46, H⟩ := H
   go_upto_if 115 with ((with_reducible refine gd 113 rfl ?_); refine ev_cl HS (laws_heldStringS.calls ht46.out (HS.ro y17_10) m17_10) Tryz.func182 ?_; clear HS; intro wt46 HS F)
   replace H := zif H; rcases H with ⟨c48, H⟩ | ⟨c48, H⟩
   case inl =>
    (try simp only [c48, dcn])
    obtain rfl := zsome H
    go_wp2
    go_ret
    exact HS.pk
   (try simp only [c48, dcn])
   have e17_0_49 := HS.keepc e17_0
   have e17_1_49 := HS.keepc e17_1
   have e17_2_49 := HS.keepc e17_2
   have e17_3_49 := HS.keepc e17_3
   have e17_4_49 := HS.keepc e17_4
   have e17_5_49 := HS.keepc e17_5
   have e17_6_49 := HS.keepc e17_6
   have e17_7_49 := HS.keepc e17_7
   have e17_8_49 := HS.keepc e17_8
   have e17_9_49 := HS.keepc e17_9
   have e17_10_49 := HS.keepc e17_10
   have e17_11_49 := HS.keepc e17_11
   have e17_12_49 := HS.keepc e17_12
   replace H := zbind H; obtain ⟨t50, ht50, H⟩ := H
   go_upto_if 124 with ((with_reducible refine gd 122 rfl ?_); refine ev_cl HS (laws_heldStringS.calls ht50.out (HS.ro y17_11) m17_11) Tryz.func182 ?_; clear HS; intro wt50 HS F)
   replace H := zif H; rcases H with ⟨c52, H⟩ | ⟨c52, H⟩
   case inl =>
    (try simp only [c52, dcn])
    obtain rfl := zsome H
    go_wp2
    go_ret
    exact HS.pk
   (try simp only [c52, dcn])
   (try go_wp2)
   replace H := zbind H; obtain ⟨t25, ht25, H⟩ := H
   refine dr_start [] HS #[false, false, false, false, false, false, false, false] (by kernel_rfl) rfl rfl laws_heldCertS.tT40 (fun w54 HT HS HH => ?_)
   (try clear F)
   refine drq_of [(0, some 125), (1, some 126), (2, some 127), (3, some 128)] ?_
   repeat (refine drp HT ?_)
   refine drq_end ?_
   refine dr_take 4 (some 129) HT HH (v := ?_) (a' := ?_) rfl rfl (by kernel_rfl) (fun _ _ _ h => h) (.inl ⟨by rfl, ?_⟩) ?_ ?_
   rotate_left
   · rintro w' ⟨rs', HS'⟩; have e17_0 := HS'.keepc e17_0; have e17_1 := HS'.keepc e17_1; have e17_2 := HS'.keepc e17_2; have e17_3 := HS'.keepc e17_3; have e17_4 := HS'.keepc e17_4; have e17_5 := HS'.keepc e17_5; have e17_6 := HS'.keepc e17_6; have e17_7 := HS'.keepc e17_7; have e17_8 := HS'.keepc e17_8; have e17_9 := HS'.keepc e17_9; have e17_10 := HS'.keepc e17_10; have e17_11 := HS'.keepc e17_11; have e17_12 := HS'.keepc e17_12; go_simp; with_reducible rfl
   rotate_left
   · simp only [Act.put, ptn]; rfl
   refine drq_of [(5, some 130)] ?_
   repeat (refine drp HT ?_)
   refine drq_end ?_
   refine dr1 6 HT fun K hK => ?_
   refine go_cl HS (laws_markText.calls ht25.out) Tryz.func180 ?_; clear HS; intro wt25 HS F
   refine nrm 131 hK ⟨_, HS⟩ (fun HH => ?_); clear hK K
   refine drq_of [(7, some 132)] ?_
   repeat (refine drp HT ?_)
   refine drq_end ?_
   refine done_ (done_of HT.out (by kernel_rfl)) ?_
   replace H := znif' H; rcases H with ⟨c56, H⟩ | ⟨c56, H⟩
   case inl =>
    have c56a := beq_eq_false_iff_ne.mpr c56
    have c56b := bne_iff_ne.mpr c56
    clear c56
    (try simp only [c56a, c56b, dcn])
    obtain rfl := zsome H
    go_wp2
    go_ret
    exact HS.pk
   have c56a := beq_iff_eq.mpr c56
   have c56b := bne_eq_false_iff_eq.mpr c56
   clear c56
   (try simp only [c56a, c56b, dcn])
   go_wp2
   go_roundg k10
   case measure => have := HKk10.out; omega
   case rel => exact ⟨_, _, rfl, rfl, H, ⟨by have := HKk10.out; omega⟩, HS.pick [] (by decide) (by rfl)⟩
def laws_heldRevS.l0 : Nat → Int → Int → (List S238) → Option (Int)
  | 0, _, _, _ => none
  | k + 1, x11, x12, a0 => (if x12 < (a0.length : Int) then (if 0 ≤ x12 then (if x12 < (a0.length : Int) then (if (rd_T238 a0 x12).f0 = x11 then (if (rd_T238 a0 x12).f1 = (wrap64 (x11 + 1)) then (laws_heldRevS.l0 k (wrap64 ((wrap64 (x11 + 1)) + 1)) (wrap64 (x12 + 1)) a0) else (some (-1))) else (some (-1))) else none) else none) else (some x11))
def laws_heldRevS.f (k : Nat) (a0 : (List S238)) (a1 : Int) : Option (Int) := (laws_heldRevS.l0 k a1 0 a0)
theorem laws_heldRevS.calls {k : Nat} {a0 : (List S238)} {a1 : Int} {Ap0 : Option Addr} {np0 cp0 : Nat} {r : Int} {w : World} (h : laws_heldRevS.f k a0 a1 = some r) (gp0 : k238.C w Ap0 np0 a0) (lp0 : np0 ≤ cp0) :
    Calls Tryz.prog 183 #[.slice Ap0 np0 cp0, .int .i64 a1] w (fun e w' => e = .returned (.int .i64 r) ∧ Hp noFP w w' []) := by
 obtain rfl := C_len gp0
 have HS := Hp.start w
 have H := Aside0.mk h
 clear h
 unfold laws_heldRevS.f at H
 go_enter Tryz.func183, Tryz.ntmps183
 go_wp2
 go_loopg [1, 5] k (fun kq v_1 v_5 w' => ∃ (x11 : Int) (x12 : Int), v_1 = .int .i64 x11 ∧ v_5 = .int .i64 x12 ∧ Aside0 (laws_heldRevS.l0 kq x11 x12 a0 = some r) ∧ Aside0 (kq ≤ k) ∧ Hp noFP w w' [])
 case atStart => exact ⟨_, _, rfl, rfl, H, ⟨Nat.le_refl _⟩, HS⟩
 case round =>
  clear HS H; (try clear F)
  obtain ⟨x11, x12, rfl, rfl, H, HKk10, HS⟩ := hrel
  cases gk with
  | zero => exact absurd H.out (by simp [laws_heldRevS.l0])
  | succ k10 =>
   simp only [laws_heldRevS.l0] at H
   replace H := znif H; rcases H with ⟨c14, H⟩ | ⟨c14, H⟩
   case inl =>
    obtain rfl := zsome H
    go_wp2
    go_ret
    exact HS.pk
   replace H := zgo H; obtain ⟨c15, H⟩ := H
   replace H := zgo H; obtain ⟨c16, H⟩ := H
   obtain ⟨ad17, rfl, e17_0, e17_1⟩ := at_T238 gp0 x12 (of_eq_true c15) (of_eq_true c16)
   have e17_0_17 := HS.keepc e17_0
   have e17_1_17 := HS.keepc e17_1
   replace H := znif' H; rcases H with ⟨c18, H⟩ | ⟨c18, H⟩
   case inl =>
    have c18a := beq_eq_false_iff_ne.mpr c18
    have c18b := bne_iff_ne.mpr c18
    clear c18
    obtain rfl := zsome H
    go_wp2
    go_ret
    exact HS.pk
   have c18a := beq_iff_eq.mpr c18
   have c18b := bne_eq_false_iff_eq.mpr c18
   clear c18
   have e17_0_19 := HS.keepc e17_0
   have e17_1_19 := HS.keepc e17_1
   replace H := znif' H; rcases H with ⟨c20, H⟩ | ⟨c20, H⟩
   case inl =>
    have c20a := beq_eq_false_iff_ne.mpr c20
    have c20b := bne_iff_ne.mpr c20
    clear c20
    obtain rfl := zsome H
    go_wp2
    go_ret
    exact HS.pk
   have c20a := beq_iff_eq.mpr c20
   have c20b := bne_eq_false_iff_eq.mpr c20
   clear c20
   go_wp2
   go_roundg k10
   case measure => have := HKk10.out; omega
   case rel => exact ⟨_, _, rfl, rfl, H, ⟨by have := HKk10.out; omega⟩, HS.pick [] (by decide) (by rfl)⟩
end Go.Proofs.YtacocpknielofaaGreatDoor.F

/- Functions of the program and of the law, and that their calls do what is written here. -/
import Derived.Test.YtacocpknielofaaGreatDoorZgFnExactLearna
namespace Go.Proofs.YtacocpknielofaaGreatDoor.F
open Go.RowKit YtacocpknielofaaGreatDoorW.PrintWords YtacocpknielofaaGreatDoorW.PrintLast YtacocpknielofaaGreatDoorW.PrintMore Z
attribute [local go_sem] max2_int min2_int max_two min_two max_three min_three max_four min_four
set_option linter.unusedVariables false
set_option linter.unusedSimpArgs false
set_option maxRecDepth 100000
set_option maxHeartbeats 16000000
def laws_eqStore.f (k : Nat) (a0 : S33) (a1 : S33) : Option (Bool) := ((laws_eqCertS.f k a0.f0 a1.f0).bind fun t5 => (if t5 = true then ((laws_eqCrlS.f k a0.f1 a1.f1).bind fun t8 => (if t8 = true then ((laws_eqAnchorS.f k a0.f2 a1.f2).bind fun t11 => (if t11 = true then (some true) else (some false))) else (some false))) else (some false)))
theorem laws_eqStore.calls {k : Nat} {a0 : S33} {a1 : S33} {Ap0 Ap1 Ap2 Ap3 Ap4 Ap5 : Option Addr} {np0 cp0 np1 cp1 np2 cp2 np3 cp3 np4 cp4 np5 cp5 : Nat} {r : Bool} {w : World} (h : laws_eqStore.f k a0 a1 = some r) (gp0 : k91.C w Ap0 np0 a0.f0) (lp0 : np0 ≤ cp0) (gp1 : k81.C w Ap1 np1 a0.f1) (lp1 : np1 ≤ cp1) (gp2 : k115.C w Ap2 np2 a0.f2) (lp2 : np2 ≤ cp2) (gp3 : k91.C w Ap3 np3 a1.f0) (lp3 : np3 ≤ cp3) (gp4 : k81.C w Ap4 np4 a1.f1) (lp4 : np4 ≤ cp4) (gp5 : k115.C w Ap5 np5 a1.f2) (lp5 : np5 ≤ cp5) :
    Calls Tryz.prog 15 #[.agg #[.slice Ap0 np0 cp0, .slice Ap1 np1 cp1, .slice Ap2 np2 cp2], .agg #[.slice Ap3 np3 cp3, .slice Ap4 np4 cp4, .slice Ap5 np5 cp5]] w (fun e w' => e = .returned (.bool r) ∧ Hp noFP w w' []) := by
 obtain rfl := C_len gp0
 obtain rfl := C_len gp1
 obtain rfl := C_len gp2
 obtain rfl := C_len gp3
 obtain rfl := C_len gp4
 obtain rfl := C_len gp5
 have HS := Hp.start w
 have H := Aside0.mk h
 clear h
 unfold laws_eqStore.f at H
 go_enter Tryz.func15, Tryz.ntmps15
 replace H := zbind H; obtain ⟨t5, ht5, H⟩ := H
 go_upto_if 10 with (first | ((with_reducible refine gd 2 rfl ?_); refine ev_bx HS ?_; clear HS; intro g2 w2 HS F) | ((with_reducible refine gd 3 rfl ?_); refine ev_bx HS ?_; clear HS; intro g3 w3 HS F) | ((with_reducible refine gd 9 rfl ?_); refine ev_cl HS (laws_eqCertS.calls ht5.out (HS.ro gp0) lp0 (HS.ro gp3) lp3) Tryz.func68 ?_; clear HS; intro wt5 HS F))
 replace H := znifb H; rcases H with ⟨c7, H⟩ | ⟨c7, H⟩
 case inl =>
  subst c7
  (try simp only [dcn, dcu, dcf])
  obtain rfl := zsome H
  go_wp2
  go_ret
  exact HS.pk
 subst c7
 (try simp only [dcn, dcu, dcf])
 replace H := zbind H; obtain ⟨t8, ht8, H⟩ := H
 go_upto_if 16 with ((with_reducible refine gd 15 rfl ?_); refine ev_cl HS (laws_eqCrlS.calls ht8.out (HS.ro gp1) lp1 (HS.ro gp4) lp4) Tryz.func69 ?_; clear HS; intro wt8 HS F)
 replace H := znifb H; rcases H with ⟨c10, H⟩ | ⟨c10, H⟩
 case inl =>
  subst c10
  (try simp only [dcn, dcu, dcf])
  obtain rfl := zsome H
  go_wp2
  go_ret
  exact HS.pk
 subst c10
 (try simp only [dcn, dcu, dcf])
 replace H := zbind H; obtain ⟨t11, ht11, H⟩ := H
 go_upto_if 22 with ((with_reducible refine gd 21 rfl ?_); refine ev_cl HS (laws_eqAnchorS.calls ht11.out (HS.ro gp2) lp2 (HS.ro gp5) lp5) Tryz.func70 ?_; clear HS; intro wt11 HS F)
 replace H := zifb H; rcases H with ⟨c13, H⟩ | ⟨c13, H⟩
 case inl =>
  subst c13
  (try simp only [dcn, dcu, dcf])
  obtain rfl := zsome H
  go_wp2
  go_ret
  exact HS.pk
 subst c13
 (try simp only [dcn, dcu, dcf])
 obtain rfl := zsome H
 go_wp2
 go_ret
 exact HS.pk
def laws_eqRules.f (k : Nat) (a0 : S200) (a1 : S200) : Option (Bool) := (if a0.f0 = a1.f0 then ((laws_eqIntS.f k a0.f1 a1.f1).bind fun t6 => (if t6 = true then (if a0.f2 = a1.f2 then (if a0.f3 = a1.f3 then (if a0.f4 = a1.f4 then (some true) else (some false)) else (some false)) else (some false)) else (some false))) else (some false))
theorem laws_eqRules.calls {k : Nat} {a0 : S200} {a1 : S200} {Ap0 Ap1 : Option Addr} {np0 cp0 np1 cp1 : Nat} {r : Bool} {w : World} (h : laws_eqRules.f k a0 a1 = some r) (gp0 : (Kd.int .i64).C w Ap0 np0 a0.f1) (lp0 : np0 ≤ cp0) (gp1 : (Kd.int .i64).C w Ap1 np1 a1.f1) (lp1 : np1 ≤ cp1) :
    Calls Tryz.prog 212 #[.agg #[.int .i64 a0.f0, .slice Ap0 np0 cp0, .bool a0.f2, .bool a0.f3, .int .i64 a0.f4], .agg #[.int .i64 a1.f0, .slice Ap1 np1 cp1, .bool a1.f2, .bool a1.f3, .int .i64 a1.f4]] w (fun e w' => e = .returned (.bool r) ∧ Hp noFP w w' []) := by
 obtain rfl := C_len gp0
 obtain rfl := C_len gp1
 have HS := Hp.start w
 have H := Aside0.mk h
 clear h
 unfold laws_eqRules.f at H
 go_enter Tryz.func212, Tryz.ntmps212
 go_upto_if 9 with (first | ((with_reducible refine gd 2 rfl ?_); refine ev_bx HS ?_; clear HS; intro g2 w2 HS F) | ((with_reducible refine gd 3 rfl ?_); refine ev_bx HS ?_; clear HS; intro g3 w3 HS F))
 replace H := znif' H; rcases H with ⟨c5, H⟩ | ⟨c5, H⟩
 case inl =>
  have c5a := beq_eq_false_iff_ne.mpr c5
  have c5b := bne_iff_ne.mpr c5
  clear c5
  (try simp only [c5a, c5b, dcn])
  obtain rfl := zsome H
  go_wp2
  go_ret
  exact HS.pk
 have c5a := beq_iff_eq.mpr c5
 have c5b := bne_eq_false_iff_eq.mpr c5
 clear c5
 (try simp only [c5a, c5b, dcn])
 replace H := zbind H; obtain ⟨t6, ht6, H⟩ := H
 go_upto_if 15 with ((with_reducible refine gd 14 rfl ?_); refine ev_cl HS (laws_eqIntS.calls ht6.out (HS.ro gp0) lp0 (HS.ro gp1) lp1) Tryz.func101 ?_; clear HS; intro wt6 HS F)
 replace H := znifb H; rcases H with ⟨c8, H⟩ | ⟨c8, H⟩
 case inl =>
  subst c8
  (try simp only [dcn, dcu, dcf])
  obtain rfl := zsome H
  go_wp2
  go_ret
  exact HS.pk
 subst c8
 (try simp only [dcn, dcu, dcf])
 replace H := znif' H; rcases H with ⟨c9, H⟩ | ⟨c9, H⟩
 case inl =>
  have c9a := beq_eq_false_iff_ne.mpr c9
  have c9b := bne_iff_ne.mpr c9
  clear c9
  obtain rfl := zsome H
  go_wp2
  go_ret
  exact HS.pk
 have c9a := beq_iff_eq.mpr c9
 have c9b := bne_eq_false_iff_eq.mpr c9
 clear c9
 replace H := znif' H; rcases H with ⟨c10, H⟩ | ⟨c10, H⟩
 case inl =>
  have c10a := beq_eq_false_iff_ne.mpr c10
  have c10b := bne_iff_ne.mpr c10
  clear c10
  obtain rfl := zsome H
  go_wp2
  go_ret
  exact HS.pk
 have c10a := beq_iff_eq.mpr c10
 have c10b := bne_eq_false_iff_eq.mpr c10
 clear c10
 replace H := znif' H; rcases H with ⟨c11, H⟩ | ⟨c11, H⟩
 case inl =>
  have c11a := beq_eq_false_iff_ne.mpr c11
  have c11b := bne_iff_ne.mpr c11
  clear c11
  obtain rfl := zsome H
  go_wp2
  go_ret
  exact HS.pk
 have c11a := beq_iff_eq.mpr c11
 have c11b := bne_eq_false_iff_eq.mpr c11
 clear c11
 obtain rfl := zsome H
 go_wp2
 go_ret
 exact HS.pk
def laws_eqPlan.f (k : Nat) (a0 : S202) (a1 : S202) : Option (Bool) := (if a0.f0 = a1.f0 then ((laws_eqIntS.f k a0.f1 a1.f1).bind fun t6 => (if t6 = true then ((laws_eqRules.f k a0.f2 a1.f2).bind fun t9 => (if t9 = true then (some true) else (some false))) else (some false))) else (some false))
theorem laws_eqPlan.calls {k : Nat} {a0 : S202} {a1 : S202} {Ap0 Ap1 Ap2 Ap3 : Option Addr} {np0 cp0 np1 cp1 np2 cp2 np3 cp3 : Nat} {r : Bool} {w : World} (h : laws_eqPlan.f k a0 a1 = some r) (gp0 : (Kd.int .i64).C w Ap0 np0 a0.f1) (lp0 : np0 ≤ cp0) (gp1 : (Kd.int .i64).C w Ap1 np1 a0.f2.f1) (lp1 : np1 ≤ cp1) (gp2 : (Kd.int .i64).C w Ap2 np2 a1.f1) (lp2 : np2 ≤ cp2) (gp3 : (Kd.int .i64).C w Ap3 np3 a1.f2.f1) (lp3 : np3 ≤ cp3) :
    Calls Tryz.prog 157 #[.agg #[.int .i64 a0.f0, .slice Ap0 np0 cp0, .int .i64 a0.f2.f0, .slice Ap1 np1 cp1, .bool a0.f2.f2, .bool a0.f2.f3, .int .i64 a0.f2.f4], .agg #[.int .i64 a1.f0, .slice Ap2 np2 cp2, .int .i64 a1.f2.f0, .slice Ap3 np3 cp3, .bool a1.f2.f2, .bool a1.f2.f3, .int .i64 a1.f2.f4]] w (fun e w' => e = .returned (.bool r) ∧ Hp noFP w w' []) := by
 obtain rfl := C_len gp0
 obtain rfl := C_len gp1
 obtain rfl := C_len gp2
 obtain rfl := C_len gp3
 have HS := Hp.start w
 have H := Aside0.mk h
 clear h
 unfold laws_eqPlan.f at H
 go_enter Tryz.func157, Tryz.ntmps157
 go_upto_if 9 with (first | ((with_reducible refine gd 2 rfl ?_); refine ev_bx HS ?_; clear HS; intro g2 w2 HS F) | ((with_reducible refine gd 3 rfl ?_); refine ev_bx HS ?_; clear HS; intro g3 w3 HS F))
 replace H := znif' H; rcases H with ⟨c5, H⟩ | ⟨c5, H⟩
 case inl =>
  have c5a := beq_eq_false_iff_ne.mpr c5
  have c5b := bne_iff_ne.mpr c5
  clear c5
  (try simp only [c5a, c5b, dcn])
  obtain rfl := zsome H
  go_wp2
  go_ret
  exact HS.pk
 have c5a := beq_iff_eq.mpr c5
 have c5b := bne_eq_false_iff_eq.mpr c5
 clear c5
 (try simp only [c5a, c5b, dcn])
 replace H := zbind H; obtain ⟨t6, ht6, H⟩ := H
 go_upto_if 15 with ((with_reducible refine gd 14 rfl ?_); refine ev_cl HS (laws_eqIntS.calls ht6.out (HS.ro gp0) lp0 (HS.ro gp2) lp2) Tryz.func101 ?_; clear HS; intro wt6 HS F)
 replace H := znifb H; rcases H with ⟨c8, H⟩ | ⟨c8, H⟩
 case inl =>
  subst c8
  (try simp only [dcn, dcu, dcf])
  obtain rfl := zsome H
  go_wp2
  go_ret
  exact HS.pk
 subst c8
 (try simp only [dcn, dcu, dcf])
 replace H := zbind H; obtain ⟨t9, ht9, H⟩ := H
 go_upto_if 21 with ((with_reducible refine gd 20 rfl ?_); refine ev_cl HS (laws_eqRules.calls ht9.out (HS.ro gp1) lp1 (HS.ro gp3) lp3) Tryz.func212 ?_; clear HS; intro wt9 HS F)
 replace H := zifb H; rcases H with ⟨c11, H⟩ | ⟨c11, H⟩
 case inl =>
  subst c11
  (try simp only [dcn, dcu, dcf])
  obtain rfl := zsome H
  go_wp2
  go_ret
  exact HS.pk
 subst c11
 (try simp only [dcn, dcu, dcf])
 obtain rfl := zsome H
 go_wp2
 go_ret
 exact HS.pk
def laws_eqPlanS.l0 : Nat → Int → (List S202) → (List S202) → Option (Bool)
  | 0, _, _, _ => none
  | k + 1, x5, a0, a1 => (if x5 < (a0.length : Int) then (if 0 ≤ x5 then (if x5 < (a0.length : Int) then (if x5 < (a1.length : Int) then ((laws_eqPlan.f k (rd_T202 a0 x5) (rd_T202 a1 x5)).bind fun t14 => (if t14 = true then (laws_eqPlanS.l0 k (wrap64 (x5 + 1)) a0 a1) else (some false))) else none) else none) else none) else (some true))
def laws_eqPlanS.f (k : Nat) (a0 : (List S202)) (a1 : (List S202)) : Option (Bool) := (if (a0.length : Int) = (a1.length : Int) then (laws_eqPlanS.l0 k 0 a0 a1) else (some false))
def laws_eqPlanS.T6 : TT := (true, [([], []), ([], []), ([0, 1], [0, 1]), ([2], [2]), ([], []), ([], []), ([4, 5], [4, 5]), ([6], [6]), ([3, 7], [3, 7]), ([8], [8])])
theorem laws_eqPlanS.tT6 : rtab .any (opsOf Tryz.f81 6) = laws_eqPlanS.T6 := by kernel_rfl
theorem laws_eqPlanS.calls {k : Nat} {a0 : (List S202)} {a1 : (List S202)} {Ap0 Ap1 : Option Addr} {np0 cp0 np1 cp1 : Nat} {r : Bool} {w : World} (h : laws_eqPlanS.f k a0 a1 = some r) (gp0 : k202.C w Ap0 np0 a0) (lp0 : np0 ≤ cp0) (gp1 : k202.C w Ap1 np1 a1) (lp1 : np1 ≤ cp1) :
    Calls Tryz.prog 81 #[.slice Ap0 np0 cp0, .slice Ap1 np1 cp1] w (fun e w' => e = .returned (.bool r) ∧ Hp noFP w w' []) := by
 obtain rfl := C_len gp0
 obtain rfl := C_len gp1
 have HS := Hp.start w
 have H := Aside0.mk h
 clear h
 unfold laws_eqPlanS.f at H
 go_enter Tryz.func81, Tryz.ntmps81
 replace H := znif' H; rcases H with ⟨c1, H⟩ | ⟨c1, H⟩
 case inl =>
  have c1a := beq_eq_false_iff_ne.mpr c1
  have c1b := bne_iff_ne.mpr c1
  clear c1
  obtain rfl := zsome H
  go_wp2
  go_ret
  exact HS.pk
 have c1a := beq_iff_eq.mpr c1
 have c1b := bne_eq_false_iff_eq.mpr c1
 clear c1
 go_wp2
 go_loopg [5] k (fun kq v_5 w' => ∃ (x5 : Int), v_5 = .int .i64 x5 ∧ Aside0 (laws_eqPlanS.l0 kq x5 a0 a1 = some r) ∧ Aside0 (kq ≤ k) ∧ Hp noFP w w' [])
 case atStart => exact ⟨_, rfl, H, ⟨Nat.le_refl _⟩, HS⟩
 case round =>
  clear HS H; (try clear F)
  obtain ⟨x5, rfl, H, HKk4, HS⟩ := hrel
  cases gk with
  | zero => exact absurd H.out (by simp [laws_eqPlanS.l0])
  | succ k4 =>
   simp only [laws_eqPlanS.l0] at H
   replace H := znif H; rcases H with ⟨c7, H⟩ | ⟨c7, H⟩
   case inl =>
    obtain rfl := zsome H
    go_wp2
    go_ret
    exact HS.pk
   (try go_wp2)
   replace H := zgo H; obtain ⟨c3, H⟩ := H
   replace H := zgo H; obtain ⟨c8, H⟩ := H
   obtain ⟨ad10, B10_1, d10_1, B10_3, d10_3, rfl, e10_0, e10_1, e10_2, e10_3, e10_4, e10_5, e10_6, m10_1, y10_1, m10_3, y10_3⟩ := at_T202 gp0 x5 (of_eq_true c3) (of_eq_true c8)
   replace H := zgo H; obtain ⟨c12, H⟩ := H
   obtain ⟨ad13, B13_1, d13_1, B13_3, d13_3, rfl, e13_0, e13_1, e13_2, e13_3, e13_4, e13_5, e13_6, m13_1, y13_1, m13_3, y13_3⟩ := at_T202 gp1 x5 (of_eq_true c3) (of_eq_true c12)
   replace H := zbind H; obtain ⟨t14, ht14, H⟩ := H
   refine dr_start [] HS #[false, false, false, false, false, false, false, false, false, false] (by kernel_rfl) rfl rfl laws_eqPlanS.tT6 (fun w9 HT HS HH => ?_)
   (try clear F)
   refine drq_of [(0, some 17), (1, some 18), (2, some 19)] ?_
   repeat (refine drp HT ?_)
   refine drq_end ?_
   refine dr_take 3 (some 20) HT HH (v := ?_) (a' := ?_) rfl rfl (by kernel_rfl) (fun _ _ _ h => h) (.inl ⟨by rfl, ?_⟩) ?_ ?_
   rotate_left
   · rintro w' ⟨rs', HS'⟩; have e10_0 := HS'.keepc e10_0; have e10_1 := HS'.keepc e10_1; have e10_2 := HS'.keepc e10_2; have e10_3 := HS'.keepc e10_3; have e10_4 := HS'.keepc e10_4; have e10_5 := HS'.keepc e10_5; have e10_6 := HS'.keepc e10_6; go_simp; with_reducible rfl
   rotate_left
   · simp only [Act.put, ptn]; rfl
   refine drq_of [(4, some 21), (5, some 22), (6, some 23)] ?_
   repeat (refine drp HT ?_)
   refine drq_end ?_
   refine dr_take 7 (some 24) HT HH (v := ?_) (a' := ?_) rfl rfl (by kernel_rfl) (fun _ _ _ h => h) (.inl ⟨by rfl, ?_⟩) ?_ ?_
   rotate_left
   · rintro w' ⟨rs', HS'⟩; have e13_0 := HS'.keepc e13_0; have e13_1 := HS'.keepc e13_1; have e13_2 := HS'.keepc e13_2; have e13_3 := HS'.keepc e13_3; have e13_4 := HS'.keepc e13_4; have e13_5 := HS'.keepc e13_5; have e13_6 := HS'.keepc e13_6; go_simp; with_reducible rfl
   rotate_left
   · simp only [Act.put, ptn]; rfl
   refine dr1 8 HT fun K hK => ?_
   refine go_cl HS (laws_eqPlan.calls ht14.out (HS.ro y10_1) m10_1 (HS.ro y10_3) m10_3 (HS.ro y13_1) m13_1 (HS.ro y13_3) m13_3) Tryz.func157 ?_; clear HS; intro wt14 HS F
   refine nrm 25 hK ⟨_, HS⟩ (fun HH => ?_); clear hK K
   refine drq_of [(9, some 26)] ?_
   repeat (refine drp HT ?_)
   refine drq_end ?_
   refine done_ (done_of HT.out (by kernel_rfl)) ?_
   replace H := znifb H; rcases H with ⟨c11, H⟩ | ⟨c11, H⟩
   case inl =>
    subst c11
    (try simp only [dcn, dcu, dcf])
    obtain rfl := zsome H
    go_wp2
    go_ret
    exact HS.pk
   subst c11
   (try simp only [dcn, dcu, dcf])
   go_wp2
   go_roundg k4
   case measure => have := HKk4.out; omega
   case rel => exact ⟨_, rfl, H, ⟨by have := HKk4.out; omega⟩, HS.pick [] (by decide) (by rfl)⟩
def laws_eqKept.f (a0 : S205) (a1 : S205) : Option (Bool) := (if a0.f0.toList = a1.f0.toList then (if a0.f1.toList = a1.f1.toList then (if a0.f2 = a1.f2 then (some true) else (some false)) else (some false)) else (some false))
theorem laws_eqKept.calls {a0 : S205} {a1 : S205} {r : Bool} {w : World} (h : laws_eqKept.f a0 a1 = some r) :
    Calls Tryz.prog 158 #[.agg #[.string a0.f0, .string a0.f1, .int .i64 a0.f2], .agg #[.string a1.f0, .string a1.f1, .int .i64 a1.f2]] w (fun e w' => e = .returned (.bool r) ∧ Hp noFP w w' []) := by
 have HS := Hp.start w
 have H := Aside0.mk h
 clear h
 unfold laws_eqKept.f at H
 go_enter Tryz.func158, Tryz.ntmps158
 go_upto_if 9 with (first | ((with_reducible refine gd 2 rfl ?_); refine ev_bx HS ?_; clear HS; intro g2 w2 HS F) | ((with_reducible refine gd 3 rfl ?_); refine ev_bx HS ?_; clear HS; intro g3 w3 HS F))
 replace H := znif' H; rcases H with ⟨c5, H⟩ | ⟨c5, H⟩
 case inl =>
  have c5a := beq_eq_false_iff_ne.mpr c5
  have c5b := bne_iff_ne.mpr c5
  clear c5
  (try simp only [c5a, c5b, dcn])
  obtain rfl := zsome H
  go_wp2
  go_ret
  exact HS.pk
 have c5a := beq_iff_eq.mpr c5
 have c5b := bne_eq_false_iff_eq.mpr c5
 clear c5
 (try simp only [c5a, c5b, dcn])
 replace H := znif' H; rcases H with ⟨c6, H⟩ | ⟨c6, H⟩
 case inl =>
  have c6a := beq_eq_false_iff_ne.mpr c6
  have c6b := bne_iff_ne.mpr c6
  clear c6
  obtain rfl := zsome H
  go_wp2
  go_ret
  exact HS.pk
 have c6a := beq_iff_eq.mpr c6
 have c6b := bne_eq_false_iff_eq.mpr c6
 clear c6
 replace H := znif' H; rcases H with ⟨c7, H⟩ | ⟨c7, H⟩
 case inl =>
  have c7a := beq_eq_false_iff_ne.mpr c7
  have c7b := bne_iff_ne.mpr c7
  clear c7
  obtain rfl := zsome H
  go_wp2
  go_ret
  exact HS.pk
 have c7a := beq_iff_eq.mpr c7
 have c7b := bne_eq_false_iff_eq.mpr c7
 clear c7
 obtain rfl := zsome H
 go_wp2
 go_ret
 exact HS.pk
def laws_eqKeptS.l0 : Nat → Int → (List S205) → (List S205) → Option (Bool)
  | 0, _, _, _ => none
  | k + 1, x5, a0, a1 => (if x5 < (a0.length : Int) then (if 0 ≤ x5 then (if x5 < (a0.length : Int) then (if x5 < (a1.length : Int) then ((laws_eqKept.f (rd_T205 a0 x5) (rd_T205 a1 x5)).bind fun t14 => (if t14 = true then (laws_eqKeptS.l0 k (wrap64 (x5 + 1)) a0 a1) else (some false))) else none) else none) else none) else (some true))
def laws_eqKeptS.f (k : Nat) (a0 : (List S205)) (a1 : (List S205)) : Option (Bool) := (if (a0.length : Int) = (a1.length : Int) then (laws_eqKeptS.l0 k 0 a0 a1) else (some false))
def laws_eqKeptS.T6 : TT := (true, [([], []), ([], []), ([0, 1], [0, 1]), ([2], [2]), ([], []), ([], []), ([4, 5], [4, 5]), ([6], [6]), ([3, 7], [3, 7]), ([8], [8])])
theorem laws_eqKeptS.tT6 : rtab .any (opsOf Tryz.f82 6) = laws_eqKeptS.T6 := by kernel_rfl
theorem laws_eqKeptS.calls {k : Nat} {a0 : (List S205)} {a1 : (List S205)} {Ap0 Ap1 : Option Addr} {np0 cp0 np1 cp1 : Nat} {r : Bool} {w : World} (h : laws_eqKeptS.f k a0 a1 = some r) (gp0 : k205.C w Ap0 np0 a0) (lp0 : np0 ≤ cp0) (gp1 : k205.C w Ap1 np1 a1) (lp1 : np1 ≤ cp1) :
    Calls Tryz.prog 82 #[.slice Ap0 np0 cp0, .slice Ap1 np1 cp1] w (fun e w' => e = .returned (.bool r) ∧ Hp noFP w w' []) := by
 obtain rfl := C_len gp0
 obtain rfl := C_len gp1
 have HS := Hp.start w
 have H := Aside0.mk h
 clear h
 unfold laws_eqKeptS.f at H
 go_enter Tryz.func82, Tryz.ntmps82
 replace H := znif' H; rcases H with ⟨c1, H⟩ | ⟨c1, H⟩
 case inl =>
  have c1a := beq_eq_false_iff_ne.mpr c1
  have c1b := bne_iff_ne.mpr c1
  clear c1
  obtain rfl := zsome H
  go_wp2
  go_ret
  exact HS.pk
 have c1a := beq_iff_eq.mpr c1
 have c1b := bne_eq_false_iff_eq.mpr c1
 clear c1
 go_wp2
 go_loopg [5] k (fun kq v_5 w' => ∃ (x5 : Int), v_5 = .int .i64 x5 ∧ Aside0 (laws_eqKeptS.l0 kq x5 a0 a1 = some r) ∧ Aside0 (kq ≤ k) ∧ Hp noFP w w' [])
 case atStart => exact ⟨_, rfl, H, ⟨Nat.le_refl _⟩, HS⟩
 case round =>
  clear HS H; (try clear F)
  obtain ⟨x5, rfl, H, HKk4, HS⟩ := hrel
  cases gk with
  | zero => exact absurd H.out (by simp [laws_eqKeptS.l0])
  | succ k4 =>
   simp only [laws_eqKeptS.l0] at H
   replace H := znif H; rcases H with ⟨c7, H⟩ | ⟨c7, H⟩
   case inl =>
    obtain rfl := zsome H
    go_wp2
    go_ret
    exact HS.pk
   (try go_wp2)
   replace H := zgo H; obtain ⟨c3, H⟩ := H
   replace H := zgo H; obtain ⟨c8, H⟩ := H
   obtain ⟨ad10, rfl, e10_0, e10_1, e10_2⟩ := at_T205 gp0 x5 (of_eq_true c3) (of_eq_true c8)
   replace H := zgo H; obtain ⟨c12, H⟩ := H
   obtain ⟨ad13, rfl, e13_0, e13_1, e13_2⟩ := at_T205 gp1 x5 (of_eq_true c3) (of_eq_true c12)
   replace H := zbind H; obtain ⟨t14, ht14, H⟩ := H
   refine dr_start [] HS #[false, false, false, false, false, false, false, false, false, false] (by kernel_rfl) rfl rfl laws_eqKeptS.tT6 (fun w9 HT HS HH => ?_)
   (try clear F)
   refine drq_of [(0, some 17), (1, some 18), (2, some 19)] ?_
   repeat (refine drp HT ?_)
   refine drq_end ?_
   refine dr_take 3 (some 20) HT HH (v := ?_) (a' := ?_) rfl rfl (by kernel_rfl) (fun _ _ _ h => h) (.inl ⟨by rfl, ?_⟩) ?_ ?_
   rotate_left
   · rintro w' ⟨rs', HS'⟩; have e10_0 := HS'.keepc e10_0; have e10_1 := HS'.keepc e10_1; have e10_2 := HS'.keepc e10_2; go_simp; with_reducible rfl
   rotate_left
   · simp only [Act.put, ptn]; rfl
   refine drq_of [(4, some 21), (5, some 22), (6, some 23)] ?_
   repeat (refine drp HT ?_)
   refine drq_end ?_
   refine dr_take 7 (some 24) HT HH (v := ?_) (a' := ?_) rfl rfl (by kernel_rfl) (fun _ _ _ h => h) (.inl ⟨by rfl, ?_⟩) ?_ ?_
   rotate_left
   · rintro w' ⟨rs', HS'⟩; have e13_0 := HS'.keepc e13_0; have e13_1 := HS'.keepc e13_1; have e13_2 := HS'.keepc e13_2; go_simp; with_reducible rfl
   rotate_left
   · simp only [Act.put, ptn]; rfl
   refine dr1 8 HT fun K hK => ?_
   refine go_cl HS (laws_eqKept.calls ht14.out) Tryz.func158 ?_; clear HS; intro wt14 HS F
   refine nrm 25 hK ⟨_, HS⟩ (fun HH => ?_); clear hK K
   refine drq_of [(9, some 26)] ?_
   repeat (refine drp HT ?_)
   refine drq_end ?_
   refine done_ (done_of HT.out (by kernel_rfl)) ?_
   replace H := znifb H; rcases H with ⟨c11, H⟩ | ⟨c11, H⟩
   case inl =>
    subst c11
    (try simp only [dcn, dcu, dcf])
    obtain rfl := zsome H
    go_wp2
    go_ret
    exact HS.pk
   subst c11
   (try simp only [dcn, dcu, dcf])
   go_wp2
   go_roundg k4
   case measure => have := HKk4.out; omega
   case rel => exact ⟨_, rfl, H, ⟨by have := HKk4.out; omega⟩, HS.pick [] (by decide) (by rfl)⟩
def laws_eqServer.f (k : Nat) (a0 : S46) (a1 : S46) : Option (Bool) := ((laws_eqStore.f k a0.f0 a1.f0).bind fun t5 => (if t5 = true then ((laws_eqPlanS.f k a0.f1 a1.f1).bind fun t8 => (if t8 = true then (if a0.f2 = a1.f2 then (if a0.f3 = a1.f3 then (if a0.f4 = a1.f4 then ((laws_eqKeptS.f k a0.f5 a1.f5).bind fun t14 => (if t14 = true then (some true) else (some false))) else (some false)) else (some false)) else (some false)) else (some false))) else (some false)))
theorem laws_eqServer.calls {k : Nat} {a0 : S46} {a1 : S46} {Ap0 Ap1 Ap2 Ap3 Ap4 Ap5 Ap6 Ap7 Ap8 Ap9 : Option Addr} {np0 cp0 np1 cp1 np2 cp2 np3 cp3 np4 cp4 np5 cp5 np6 cp6 np7 cp7 np8 cp8 np9 cp9 : Nat} {r : Bool} {w : World} (h : laws_eqServer.f k a0 a1 = some r) (gp0 : k91.C w Ap0 np0 a0.f0.f0) (lp0 : np0 ≤ cp0) (gp1 : k81.C w Ap1 np1 a0.f0.f1) (lp1 : np1 ≤ cp1) (gp2 : k115.C w Ap2 np2 a0.f0.f2) (lp2 : np2 ≤ cp2) (gp3 : k202.C w Ap3 np3 a0.f1) (lp3 : np3 ≤ cp3) (gp4 : k205.C w Ap4 np4 a0.f5) (lp4 : np4 ≤ cp4) (gp5 : k91.C w Ap5 np5 a1.f0.f0) (lp5 : np5 ≤ cp5) (gp6 : k81.C w Ap6 np6 a1.f0.f1) (lp6 : np6 ≤ cp6) (gp7 : k115.C w Ap7 np7 a1.f0.f2) (lp7 : np7 ≤ cp7) (gp8 : k202.C w Ap8 np8 a1.f1) (lp8 : np8 ≤ cp8) (gp9 : k205.C w Ap9 np9 a1.f5) (lp9 : np9 ≤ cp9) :
    Calls Tryz.prog 20 #[.agg #[.slice Ap0 np0 cp0, .slice Ap1 np1 cp1, .slice Ap2 np2 cp2, .slice Ap3 np3 cp3, .int .i64 a0.f2, .int .i64 a0.f3, .int .i64 a0.f4, .slice Ap4 np4 cp4], .agg #[.slice Ap5 np5 cp5, .slice Ap6 np6 cp6, .slice Ap7 np7 cp7, .slice Ap8 np8 cp8, .int .i64 a1.f2, .int .i64 a1.f3, .int .i64 a1.f4, .slice Ap9 np9 cp9]] w (fun e w' => e = .returned (.bool r) ∧ Hp noFP w w' []) := by
 obtain rfl := C_len gp0
 obtain rfl := C_len gp1
 obtain rfl := C_len gp2
 obtain rfl := C_len gp3
 obtain rfl := C_len gp4
 obtain rfl := C_len gp5
 obtain rfl := C_len gp6
 obtain rfl := C_len gp7
 obtain rfl := C_len gp8
 obtain rfl := C_len gp9
 have HS := Hp.start w
 have H := Aside0.mk h
 clear h
 unfold laws_eqServer.f at H
 go_enter Tryz.func20, Tryz.ntmps20
 replace H := zbind H; obtain ⟨t5, ht5, H⟩ := H
 go_upto_if 10 with (first | ((with_reducible refine gd 2 rfl ?_); refine ev_bx HS ?_; clear HS; intro g2 w2 HS F) | ((with_reducible refine gd 3 rfl ?_); refine ev_bx HS ?_; clear HS; intro g3 w3 HS F) | ((with_reducible refine gd 9 rfl ?_); refine ev_cl HS (laws_eqStore.calls ht5.out (HS.ro gp0) lp0 (HS.ro gp1) lp1 (HS.ro gp2) lp2 (HS.ro gp5) lp5 (HS.ro gp6) lp6 (HS.ro gp7) lp7) Tryz.func15 ?_; clear HS; intro wt5 HS F))
 replace H := znifb H; rcases H with ⟨c7, H⟩ | ⟨c7, H⟩
 case inl =>
  subst c7
  (try simp only [dcn, dcu, dcf])
  obtain rfl := zsome H
  go_wp2
  go_ret
  exact HS.pk
 subst c7
 (try simp only [dcn, dcu, dcf])
 replace H := zbind H; obtain ⟨t8, ht8, H⟩ := H
 go_upto_if 16 with ((with_reducible refine gd 15 rfl ?_); refine ev_cl HS (laws_eqPlanS.calls ht8.out (HS.ro gp3) lp3 (HS.ro gp8) lp8) Tryz.func81 ?_; clear HS; intro wt8 HS F)
 replace H := znifb H; rcases H with ⟨c10, H⟩ | ⟨c10, H⟩
 case inl =>
  subst c10
  (try simp only [dcn, dcu, dcf])
  obtain rfl := zsome H
  go_wp2
  go_ret
  exact HS.pk
 subst c10
 (try simp only [dcn, dcu, dcf])
 replace H := znif' H; rcases H with ⟨c11, H⟩ | ⟨c11, H⟩
 case inl =>
  have c11a := beq_eq_false_iff_ne.mpr c11
  have c11b := bne_iff_ne.mpr c11
  clear c11
  obtain rfl := zsome H
  go_wp2
  go_ret
  exact HS.pk
 have c11a := beq_iff_eq.mpr c11
 have c11b := bne_eq_false_iff_eq.mpr c11
 clear c11
 replace H := znif' H; rcases H with ⟨c12, H⟩ | ⟨c12, H⟩
 case inl =>
  have c12a := beq_eq_false_iff_ne.mpr c12
  have c12b := bne_iff_ne.mpr c12
  clear c12
  obtain rfl := zsome H
  go_wp2
  go_ret
  exact HS.pk
 have c12a := beq_iff_eq.mpr c12
 have c12b := bne_eq_false_iff_eq.mpr c12
 clear c12
 replace H := znif' H; rcases H with ⟨c13, H⟩ | ⟨c13, H⟩
 case inl =>
  have c13a := beq_eq_false_iff_ne.mpr c13
  have c13b := bne_iff_ne.mpr c13
  clear c13
  obtain rfl := zsome H
  go_wp2
  go_ret
  exact HS.pk
 have c13a := beq_iff_eq.mpr c13
 have c13b := bne_eq_false_iff_eq.mpr c13
 clear c13
 replace H := zbind H; obtain ⟨t14, ht14, H⟩ := H
 go_upto_if 37 with ((with_reducible refine gd 36 rfl ?_); refine ev_cl HS (laws_eqKeptS.calls ht14.out (HS.ro gp4) lp4 (HS.ro gp9) lp9) Tryz.func82 ?_; clear HS; intro wt14 HS F)
 replace H := zifb H; rcases H with ⟨c16, H⟩ | ⟨c16, H⟩
 case inl =>
  subst c16
  (try simp only [dcn, dcu, dcf])
  obtain rfl := zsome H
  go_wp2
  go_ret
  exact HS.pk
 subst c16
 (try simp only [dcn, dcu, dcf])
 obtain rfl := zsome H
 go_wp2
 go_ret
 exact HS.pk
def laws_markRevS.l0 : Nat → (List S238) → Int → Int → (List S238) → Option (Int × (List S238))
  | 0, _, _, _, _ => none
  | k + 1, l24, x26, x27, a0 => (if x27 < (a0.length : Int) then (if 0 ≤ x27 then (if x27 < (a0.length : Int) then (lets (l24.set (x27).toNat (u238_0_3 (rd_T238 l24 x27) x26)) fun y34 => (lets (y34.set (x27).toNat (u238_1_3 (rd_T238 y34 x27) (wrap64 (x26 + 1)))) fun y38 => (laws_markRevS.l0 k y38 (wrap64 ((wrap64 (x26 + 1)) + 1)) (wrap64 (x27 + 1)) a0))) else none) else none) else (some (x26, l24)))
def laws_markRevS.f (k : Nat) (a0 : (List S238)) (a1 : Int) : Option (Int × (List S238)) := (laws_markRevS.l0 k a0 a1 0 a0)
theorem laws_markRevS.calls {k : Nat} {a0 : (List S238)} {a1 : Int} {A : FP} {vp0 : Value} {r1 : Int} {r2 : (List S238)} {w : World} (h : laws_markRevS.f k a0 a1 = some (r1, r2)) (HS : Hp A w w [.own (Zd.slice 238 q238) a0 [vp0]]) :
    Calls Tryz.prog 114 #[vp0, .int .i64 a1] w (fun e w' => e = .returned (.int .i64 r1) ∧ Hp A w w' [.own (Zd.slice 238 q238) r2 [vp0]]) := by
 obtain ⟨B1, d1, rfl, m1⟩ := HS.form 0 rfl
 have H := Aside0.mk h
 clear h
 unfold laws_markRevS.f at H
 go_enter Tryz.func114, Tryz.ntmps114
 go_wp2
 go_loopg [1, 5] k (fun kq v_1 v_5 w' => ∃ (l24 : List S238) (x26 : Int) (x27 : Int), v_1 = .int .i64 x26 ∧ v_5 = .int .i64 x27 ∧ Aside0 (laws_markRevS.l0 kq l24 x26 x27 a0 = some (r1, r2)) ∧ Aside0 (kq ≤ k) ∧ Hp A w w' [.own (Zd.slice 238 q238) l24 [.slice B1 a0.length d1]])
 case atStart => exact ⟨_, _, _, rfl, rfl, H, ⟨Nat.le_refl _⟩, HS⟩
 case round =>
  clear HS H; (try clear F)
  obtain ⟨l24, x26, x27, rfl, rfl, H, HKk23, HS⟩ := hrel
  cases gk with
  | zero => exact absurd H.out (by simp [laws_markRevS.l0])
  | succ k23 =>
   simp only [laws_markRevS.l0] at H
   replace H := znif H; rcases H with ⟨c29, H⟩ | ⟨c29, H⟩
   case inl =>
    obtain ⟨rfl, rfl⟩ := zsome2 H
    go_wp2
    go_ret
    exact ⟨rfl, HS.pick [0] (by decide) (by rfl)⟩
   replace H := zgo H; obtain ⟨c30, H⟩ := H
   replace H := zgo H; obtain ⟨c31, H⟩ := H
   obtain ⟨ad32, rfl, e32_0, e32_1⟩ := at_T238 (HS.rd 0 rfl) x27 (of_eq_true c30) (of_eq_true c31)
   replace H := zlets H; obtain ⟨y34, e_y34, H⟩ := H
   replace H := zlets H; obtain ⟨y38, e_y38, H⟩ := H
   go_wp2_with (first | ((with_reducible refine gate_store (p := 16) rfl ?_); refine ev_sp lens238_0_3 0 [] x27 (rd_T238 l24 x27) x26 HS (ad := ad32) (seg := [.int .i64 x26]) (of_eq_true c30) (of_eq_true c31) (fun hl => rd_T238_get hl) (made_flat (fun _ => rfl)) ?_; clear HS; intro w33 HS; rw [← e_y34.out] at HS; (try simp only [hpn, hpm] at HS); obtain ⟨ad36, hq36, e36_0, e36_1⟩ := at_T238 (HS.rd 0 rfl) x27 (of_eq_true c30) (of_eq_true c31); obtain rfl := Option.some.inj hq36) | ((with_reducible refine gate_store (p := 23) rfl ?_); refine ev_sp lens238_1_3 0 [] x27 (rd_T238 y34 x27) (wrap64 (x26 + 1)) HS (ad := ad32) (seg := [.int .i64 (wrap64 (x26 + 1))]) (of_eq_true c30) (of_eq_true c31) (fun hl => rd_T238_get hl) (made_flat (fun _ => rfl)) ?_; clear HS; intro w37 HS; rw [← e_y38.out] at HS; (try simp only [hpn, hpm] at HS)))
   go_roundg k23
   case measure => have := HKk23.out; omega
   case rel => exact ⟨_, _, _, rfl, rfl, H, ⟨by have := HKk23.out; omega⟩, HS.pick [0] (by decide) (by rfl)⟩
def laws_markCrl.f (k : Nat) (a0 : S81) (a1 : Int) : Option (Int × (List S238)) := ((laws_markRevS.f k a0.f5 a1).bind fun t4 => (some (t4.1, t4.2)))
theorem laws_markCrl.calls {k : Nat} {a0 : S81} {a1 : Int} {A : FP} {vp0 : Value} {r1 : Int} {r2 : (List S238)} {w : World} (h : laws_markCrl.f k a0 a1 = some (r1, r2)) (HS : Hp A w w [.own (Zd.slice 238 q238) a0.f5 [vp0]]) :
    Calls Tryz.prog 32 #[.agg #[.string a0.f0, .int .i64 a0.f1, .int .i64 a0.f2, .int .i64 a0.f3, .int .i64 a0.f4, vp0, .string a0.f6], .int .i64 a1] w (fun e w' => e = .returned (.int .i64 r1) ∧ Hp A w w' [.own (Zd.slice 238 q238) r2 [vp0]]) := by
 obtain ⟨B1, d1, rfl, m1⟩ := HS.form 0 rfl
 have H := Aside0.mk h
 clear h
 unfold laws_markCrl.f at H
 go_enter Tryz.func32, Tryz.ntmps32
 replace H := zbind H; obtain ⟨t4, ht4, H⟩ := H
 obtain ⟨rfl, rfl⟩ := zsome2 H
 go_wp2_with (first | ((with_reducible refine gd 2 rfl ?_); refine ev_bx HS ?_; clear HS; intro g2 w2 HS F) | ((with_reducible refine gd 8 rfl ?_); refine HS.lend [0] (by decide) [.own (Zd.slice 238 q238) a0.f5 [.slice B1 a0.f5.length d1]] rfl (fun A' HL HD HA HB => ?_); refine ev_lc (laws_markRevS.calls ht4.out HA) (fun _ HQ => HB _ _ HQ (Nat.le_of_ble_eq_true rfl)) Tryz.func114 ?_; clear HS HA HB HL HD; intro wt4 HS F))
 go_ret
 exact ⟨rfl, HS.pick [0] (by decide) (by rfl)⟩
def spec_l10Copy.f (a0 : S81) : Option (S81) := (if 0 + a0.f5.length ≤ 8796093022208 then (lets (([] : List S238) ++ a0.f5) fun y12 => (some (⟨a0.f0, a0.f1, a0.f2, a0.f3, a0.f4, y12, a0.f6⟩ : S81))) else none)
theorem spec_l10Copy.calls {a0 : S81} {Ap0 : Option Addr} {np0 cp0 : Nat} {r : S81} {w : World} (h : spec_l10Copy.f a0 = some r) (gp0 : k238.C w Ap0 np0 a0.f5) (lp0 : np0 ≤ cp0) :
    Calls Tryz.prog 106 #[.agg #[.string a0.f0, .int .i64 a0.f1, .int .i64 a0.f2, .int .i64 a0.f3, .int .i64 a0.f4, .slice Ap0 np0 cp0, .string a0.f6]] w (fun e w' => ∃ v0_ : Value, e = .returned (.agg #[.string r.f0, .int .i64 r.f1, .int .i64 r.f2, .int .i64 r.f3, .int .i64 r.f4, v0_, .string r.f6]) ∧ Hp noFP w w' [.own (Zd.slice 238 q238) r.f5 [v0_]]) := by
 obtain rfl := C_len gp0
 have HS := Hp.start w
 have H := Aside0.mk h
 clear h
 unfold spec_l10Copy.f at H
 go_enter Tryz.func106, Tryz.ntmps106
 replace H := zgo H; obtain ⟨c11, H⟩ := H
 replace H := zlets H; obtain ⟨y12, e_y12, H⟩ := H
 obtain rfl := zsome H
 go_wp2_with (first | ((with_reducible refine gd 1 rfl ?_); refine ev_bx HS ?_; clear HS; intro g1 w1 HS F) | ((with_reducible refine gd 2 rfl ?_); refine ev_bx HS ?_; clear HS; intro g2 w2 HS F) | ((with_reducible refine gd 3 rfl ?_); refine ev_bx HS ?_; clear HS; intro g3 w3 HS F) | ((with_reducible refine gate_store (p := 3) rfl ?_); refine ev_st 2 0 HS (seg := [.string a0.f0, .int .i64 a0.f1, .int .i64 a0.f2, .int .i64 a0.f3, .int .i64 a0.f4, .slice Ap0 a0.f5.length cp0, .string a0.f6]) ?_; clear HS; intro w7 HS F) | ((with_reducible refine gd 5 rfl ?_); refine ev_li q238 [] ([] : List S238) [] HS MadeL.nil ?_; clear HS; intro v9 w9 HS F; obtain ⟨B9, d9, rfl, m9⟩ := HS.formn 0 3 rfl rfl) | ((with_reducible refine gd 8 rfl ?_); refine ev_apr fl238 3 HS rfl (HS.ro gp0) Tryz.underlying79 info238 (of_eq_true c11) ?_; clear HS; intro v12 w12 HS; rw [← e_y12.out] at HS; obtain ⟨B12, d12, rfl, m12⟩ := HS.form 4 rfl; (try simp only [hpn, hpm] at HS); have F := HS.boxes; simp only [bxn] at F) | ((with_reducible refine gate_store (p := 9) rfl ?_); refine ev_st 2 5 HS (seg := [.slice B12 y12.length d12]) ?_; clear HS; intro w14 HS F) | ((with_reducible refine gate_store (p := 2) rfl ?_); refine ev_st 1 0 HS (seg := [.string a0.f0, .int .i64 a0.f1, .int .i64 a0.f2, .int .i64 a0.f3, .int .i64 a0.f4, .slice B12 y12.length d12, .string a0.f6]) ?_; clear HS; intro w16 HS F))
 exact bodyPost_ret (results_single rfl (.cell _ _ _ _ _ rfl (HS.boxAt (i := 1) rfl) Tryz.underlying81 rfl (by kernel_rfl) .nil)) rfl ⟨_, rfl, HS.pick [4] (by decide) (by rfl)⟩
def spec_l09Copy.f (a0 : S91) : Option (S91) := (if 0 + a0.f9.length ≤ 17592186044416 then (lets (([] : List Int) ++ a0.f9) fun y12 => (if 0 + a0.f10.length ≤ 8796093022208 then (lets (([] : List ByteArray) ++ a0.f10) fun y19 => (if 0 + a0.f11.length ≤ 8796093022208 then (lets (([] : List ByteArray) ++ a0.f11) fun y26 => (some (⟨a0.f0, a0.f1, a0.f2, a0.f3, a0.f4, a0.f5, a0.f6, a0.f7, a0.f8, y12, y19, y26, a0.f12⟩ : S91))) else none)) else none)) else none)
theorem spec_l09Copy.calls {a0 : S91} {Ap0 Ap1 Ap2 : Option Addr} {np0 cp0 np1 cp1 np2 cp2 : Nat} {r : S91} {w : World} (h : spec_l09Copy.f a0 = some r) (gp0 : (Kd.int .i64).C w Ap0 np0 a0.f9) (lp0 : np0 ≤ cp0) (gp1 : Kd.string.C w Ap1 np1 a0.f10) (lp1 : np1 ≤ cp1) (gp2 : Kd.string.C w Ap2 np2 a0.f11) (lp2 : np2 ≤ cp2) :
    Calls Tryz.prog 118 #[.agg #[.int .i64 a0.f0, .string a0.f1, .string a0.f2, .int .i64 a0.f3, .int .i64 a0.f4, .string a0.f5, .bool a0.f6, .int .i64 a0.f7, .int .i64 a0.f8, .slice Ap0 np0 cp0, .slice Ap1 np1 cp1, .slice Ap2 np2 cp2, .string a0.f12]] w (fun e w' => ∃ v0_ v1_ v2_ : Value, e = .returned (.agg #[.int .i64 r.f0, .string r.f1, .string r.f2, .int .i64 r.f3, .int .i64 r.f4, .string r.f5, .bool r.f6, .int .i64 r.f7, .int .i64 r.f8, v0_, v1_, v2_, .string r.f12]) ∧ Hp noFP w w' [.own (Zd.slice 3 (Zd.int .i64)) r.f9 [v0_], .own (Zd.slice 9 Zd.string) r.f10 [v1_], .own (Zd.slice 9 Zd.string) r.f11 [v2_]]) := by
 obtain rfl := C_len gp0
 obtain rfl := C_len gp1
 obtain rfl := C_len gp2
 have HS := Hp.start w
 have H := Aside0.mk h
 clear h
 unfold spec_l09Copy.f at H
 go_enter Tryz.func118, Tryz.ntmps118
 replace H := zgo H; obtain ⟨c11, H⟩ := H
 replace H := zlets H; obtain ⟨y12, e_y12, H⟩ := H
 replace H := zgo H; obtain ⟨c18, H⟩ := H
 replace H := zlets H; obtain ⟨y19, e_y19, H⟩ := H
 replace H := zgo H; obtain ⟨c25, H⟩ := H
 replace H := zlets H; obtain ⟨y26, e_y26, H⟩ := H
 obtain rfl := zsome H
 go_wp2_with (first | ((with_reducible refine gd 1 rfl ?_); refine ev_bx HS ?_; clear HS; intro g1 w1 HS F) | ((with_reducible refine gd 2 rfl ?_); refine ev_bx HS ?_; clear HS; intro g2 w2 HS F) | ((with_reducible refine gd 3 rfl ?_); refine ev_bx HS ?_; clear HS; intro g3 w3 HS F) | ((with_reducible refine gate_store (p := 3) rfl ?_); refine ev_st 2 0 HS (seg := [.int .i64 a0.f0, .string a0.f1, .string a0.f2, .int .i64 a0.f3, .int .i64 a0.f4, .string a0.f5, .bool a0.f6, .int .i64 a0.f7, .int .i64 a0.f8, .slice Ap0 a0.f9.length cp0, .slice Ap1 a0.f10.length cp1, .slice Ap2 a0.f11.length cp2, .string a0.f12]) ?_; clear HS; intro w7 HS F) | ((with_reducible refine gd 5 rfl ?_); refine ev_li (Zd.int .i64) [] ([] : List Int) [] HS MadeL.nil ?_; clear HS; intro v9 w9 HS F; obtain ⟨B9, d9, rfl, m9⟩ := HS.formn 0 3 rfl rfl) | ((with_reducible refine gd 8 rfl ?_); refine ev_apr (flat_int _) 3 HS rfl (HS.ro gp0) Tryz.underlying52 info3 (of_eq_true c11) ?_; clear HS; intro v12 w12 HS; rw [← e_y12.out] at HS; obtain ⟨B12, d12, rfl, m12⟩ := HS.form 4 rfl; (try simp only [hpn, hpm] at HS); have F := HS.boxes; simp only [bxn] at F) | ((with_reducible refine gate_store (p := 9) rfl ?_); refine ev_st 2 9 HS (seg := [.slice B12 y12.length d12]) ?_; clear HS; intro w14 HS F) | ((with_reducible refine gd 10 rfl ?_); refine ev_li Zd.string [] ([] : List ByteArray) [] HS MadeL.nil ?_; clear HS; intro v16 w16 HS F; obtain ⟨B16, d16, rfl, m16⟩ := HS.formn 0 5 rfl rfl) | ((with_reducible refine gd 13 rfl ?_); refine ev_apr flat_string 5 HS rfl (HS.ro gp1) Tryz.underlying57 info9 (of_eq_true c18) ?_; clear HS; intro v19 w19 HS; rw [← e_y19.out] at HS; obtain ⟨B19, d19, rfl, m19⟩ := HS.form 6 rfl; (try simp only [hpn, hpm] at HS); have F := HS.boxes; simp only [bxn] at F) | ((with_reducible refine gate_store (p := 14) rfl ?_); refine ev_st 2 10 HS (seg := [.slice B19 y19.length d19]) ?_; clear HS; intro w21 HS F) | ((with_reducible refine gd 15 rfl ?_); refine ev_li Zd.string [] ([] : List ByteArray) [] HS MadeL.nil ?_; clear HS; intro v23 w23 HS F; obtain ⟨B23, d23, rfl, m23⟩ := HS.formn 0 7 rfl rfl) | ((with_reducible refine gd 18 rfl ?_); refine ev_apr flat_string 7 HS rfl (HS.ro gp2) Tryz.underlying57 info9 (of_eq_true c25) ?_; clear HS; intro v26 w26 HS; rw [← e_y26.out] at HS; obtain ⟨B26, d26, rfl, m26⟩ := HS.form 8 rfl; (try simp only [hpn, hpm] at HS); have F := HS.boxes; simp only [bxn] at F) | ((with_reducible refine gate_store (p := 19) rfl ?_); refine ev_st 2 11 HS (seg := [.slice B26 y26.length d26]) ?_; clear HS; intro w28 HS F) | ((with_reducible refine gate_store (p := 2) rfl ?_); refine ev_st 1 0 HS (seg := [.int .i64 a0.f0, .string a0.f1, .string a0.f2, .int .i64 a0.f3, .int .i64 a0.f4, .string a0.f5, .bool a0.f6, .int .i64 a0.f7, .int .i64 a0.f8, .slice B12 y12.length d12, .slice B19 y19.length d19, .slice B26 y26.length d26, .string a0.f12]) ?_; clear HS; intro w30 HS F))
 exact bodyPost_ret (results_single rfl (.cell _ _ _ _ _ rfl (HS.boxAt (i := 1) rfl) Tryz.underlying91 rfl (by kernel_rfl) .nil)) rfl ⟨_, _, _, rfl, HS.pick [4, 6, 8] (by decide) (by rfl)⟩
def spec_l13Certs.l0 : Nat → (List S91) → Int → (List S91) → Option ((List S91))
  | 0, _, _, _ => none
  | k + 1, l11, x13, a0 => (if x13 < (a0.length : Int) then (if 0 ≤ x13 then (if x13 < (a0.length : Int) then ((spec_l09Copy.f (rd_T91 a0 x13)).bind fun t19 => (if l11.length + 1 ≤ 764877654105 then (lets (l11 ++ ([t19] : List S91)) fun y27 => (spec_l13Certs.l0 k y27 (wrap64 (x13 + 1)) a0)) else none)) else none) else none) else (some l11))
def spec_l13Certs.f (k : Nat) (a0 : (List S91)) : Option ((List S91)) := (spec_l13Certs.l0 k ([] : List S91) 0 a0)
theorem spec_l13Certs.calls {k : Nat} {a0 : (List S91)} {Ap0 : Option Addr} {np0 cp0 : Nat} {r : (List S91)} {w : World} (h : spec_l13Certs.f k a0 = some r) (gp0 : k91.C w Ap0 np0 a0) (lp0 : np0 ≤ cp0) :
    Calls Tryz.prog 175 #[.slice Ap0 np0 cp0] w (fun e w' => ∃ v0_ : Value, e = .returned (v0_) ∧ Hp noFP w w' [.own (Zd.slice 91 q91) r [v0_]]) := by
 obtain rfl := C_len gp0
 have HS := Hp.start w
 have H := Aside0.mk h
 clear h
 unfold spec_l13Certs.f at H
 go_enter Tryz.func175, Tryz.ntmps175
 go_wp2_with ((with_reducible refine gd 5 rfl ?_); refine ev_li q91 [] ([] : List S91) [] HS MadeL.nil ?_; clear HS; intro v1 w1 HS F; obtain ⟨B1, d1, rfl, m1⟩ := HS.formn 0 0 rfl rfl)
 go_loopg [3, 4] k (fun kq v_3 v_4 w' => ∃ (l11 : List S91) (v12 : Value) (x13 : Int), v_3 = v12 ∧ v_4 = .int .i64 x13 ∧ Aside0 (spec_l13Certs.l0 kq l11 x13 a0 = some r) ∧ Aside0 (kq ≤ k) ∧ Hp noFP w w' [.own (Zd.slice 91 q91) l11 [v12]])
 case atStart => exact ⟨_, _, _, rfl, rfl, H, ⟨Nat.le_refl _⟩, HS⟩
 case round =>
  clear HS H; (try clear F)
  obtain ⟨l11, v12, x13, rfl, rfl, H, HKk10, HS⟩ := hrel
  obtain ⟨B12, d12, rfl, m12⟩ := HS.form 0 rfl
  cases gk with
  | zero => exact absurd H.out (by simp [spec_l13Certs.l0])
  | succ k10 =>
   simp only [spec_l13Certs.l0] at H
   replace H := znif H; rcases H with ⟨c15, H⟩ | ⟨c15, H⟩
   case inl =>
    obtain rfl := zsome H
    go_wp2
    exact bodyPost_ret (results_single rfl (.tmp .nil)) rfl ⟨_, rfl, HS.pick [0] (by decide) (by rfl)⟩
   replace H := zgo H; obtain ⟨c16, H⟩ := H
   replace H := zgo H; obtain ⟨c17, H⟩ := H
   obtain ⟨ad18, B18_9, d18_9, B18_10, d18_10, B18_11, d18_11, rfl, e18_0, e18_1, e18_2, e18_3, e18_4, e18_5, e18_6, e18_7, e18_8, e18_9, e18_10, e18_11, e18_12, m18_9, y18_9, m18_10, y18_10, m18_11, y18_11⟩ := at_T91 gp0 x13 (of_eq_true c16) (of_eq_true c17)
   have e18_0_18 := HS.keepc e18_0
   have e18_1_18 := HS.keepc e18_1
   have e18_2_18 := HS.keepc e18_2
   have e18_3_18 := HS.keepc e18_3
   have e18_4_18 := HS.keepc e18_4
   have e18_5_18 := HS.keepc e18_5
   have e18_6_18 := HS.keepc e18_6
   have e18_7_18 := HS.keepc e18_7
   have e18_8_18 := HS.keepc e18_8
   have e18_9_18 := HS.keepc e18_9
   have e18_10_18 := HS.keepc e18_10
   have e18_11_18 := HS.keepc e18_11
   have e18_12_18 := HS.keepc e18_12
   replace H := zbind H; obtain ⟨t19, ht19, H⟩ := H
   replace H := zgo H; obtain ⟨c26, H⟩ := H
   replace H := zlets H; obtain ⟨y27, e_y27, H⟩ := H
   go_wp2_with (first | ((with_reducible refine gd 17 rfl ?_); refine ev_cl3 HS (spec_l09Copy.calls ht19.out (HS.ro y18_9) m18_9 (HS.ro y18_10) m18_10 (HS.ro y18_11) m18_11) Tryz.func118 ?_; clear HS; intro v20 v21 v22 wt19 HS F; obtain ⟨B20, d20, rfl, m20⟩ := HS.form 1 rfl; obtain ⟨B21, d21, rfl, m21⟩ := HS.form 2 rfl; obtain ⟨B22, d22, rfl, m22⟩ := HS.form 3 rfl) | ((with_reducible refine gd 18 rfl ?_); refine ev_li q91 [1, 2, 3] ([t19] : List S91) ([.int .i64 t19.f0, .string t19.f1, .string t19.f2, .int .i64 t19.f3, .int .i64 t19.f4, .string t19.f5, .bool t19.f6, .int .i64 t19.f7, .int .i64 t19.f8, .slice B20 t19.f9.length d20, .slice B21 t19.f10.length d21, .slice B22 t19.f11.length d22, .string t19.f12] ++ []) HS (MadeL.cons (js1 := [1, 2, 3]) (c := [.int .i64 t19.f0, .string t19.f1, .string t19.f2, .int .i64 t19.f3, .int .i64 t19.f4, .string t19.f5, .bool t19.f6, .int .i64 t19.f7, .int .i64 t19.f8, .slice B20 t19.f9.length d20, .slice B21 t19.f10.length d21, .slice B22 t19.f11.length d22, .string t19.f12]) rfl (fun S hd hh => q91_pack (x := t19) hd (hh 1 (.own (Zd.slice 3 (Zd.int .i64)) t19.f9 [.slice B20 t19.f9.length d20]) rfl) (hh 2 (.own (Zd.slice 9 Zd.string) t19.f10 [.slice B21 t19.f10.length d21]) rfl) (hh 3 (.own (Zd.slice 9 Zd.string) t19.f11 [.slice B22 t19.f11.length d22]) rfl) (by decide)) MadeL.nil (by decide)) ?_; clear HS; intro v24 w24 HS F; obtain ⟨B24, d24, rfl, m24⟩ := HS.formn 1 4 rfl rfl) | ((with_reducible refine gd 19 rfl ?_); refine ev_ap q91 0 4 HS rfl rfl Tryz.underlying29 info91 (of_eq_true c26) ?_; clear HS; intro v27 w27 HS; rw [← e_y27.out] at HS; obtain ⟨B27, d27, rfl, m27⟩ := HS.form 5 rfl; (try simp only [hpn, hpm] at HS)))
   go_roundg k10
   case measure => have := HKk10.out; omega
   case rel => exact ⟨_, _, _, rfl, rfl, H, ⟨by have := HKk10.out; omega⟩, HS.pick [5] (by decide) (by rfl)⟩
end Go.Proofs.YtacocpknielofaaGreatDoor.F

/- Functions of the program and of the law, and that their calls do what is written here. -/
import Derived.Test.YtacocpknielofaaGreatDoorZgFnExactServerOka
import Derived.Test.YtacocpknielofaaGreatDoorZgFnExactServerOkb
import Derived.Test.YtacocpknielofaaGreatDoorZgFnExactServerOkc
import Derived.Test.YtacocpknielofaaGreatDoorZgFnExactStoreOkk
namespace Go.Proofs.YtacocpknielofaaGreatDoor.F
open Go.RowKit Go.Proofs.YtacocpknielofaaGreatDoorW.PrintWords Go.Proofs.YtacocpknielofaaGreatDoorW.PrintLast Go.Proofs.YtacocpknielofaaGreatDoorW.PrintMore Go.Proofs.YtacocpknielofaaGreatDoor.Z
attribute [local go_sem] max2_int min2_int max_two min_two max_three min_three max_four min_four
set_option linter.unusedVariables false
set_option linter.unusedSimpArgs false
set_option maxRecDepth 100000
/-! ### laws_eqCrl: function 30 -/
def laws_eqCrl.f (k : Nat) (a0 : S81) (a1 : S81) : Option (Bool) := (if a0.f0.toList = a1.f0.toList then (if a0.f1 = a1.f1 then (if a0.f2 = a1.f2 then (if a0.f3 = a1.f3 then (if a0.f4 = a1.f4 then ((laws_eqRevS.f k a0.f5 a1.f5).bind fun t10 => (if t10 = true then (if a0.f6.toList = a1.f6.toList then (some true) else (some false)) else (some false))) else (some false)) else (some false)) else (some false)) else (some false)) else (some false))
set_option maxHeartbeats 16000000 in
theorem laws_eqCrl.calls {k : Nat} {a0 : S81} {a1 : S81} {Ap0 : Option Addr} {np0 cp0 : Nat} {Ap1 : Option Addr} {np1 cp1 : Nat} {r : Bool} {w : World} (h : laws_eqCrl.f k a0 a1 = some r) (gp0 : k238.C w Ap0 np0 a0.f5) (lp0 : np0 ≤ cp0) (gp1 : k238.C w Ap1 np1 a1.f5) (lp1 : np1 ≤ cp1) :
    Calls Tryz.prog 30 #[.agg #[.string a0.f0, .int .i64 a0.f1, .int .i64 a0.f2, .int .i64 a0.f3, .int .i64 a0.f4, .slice Ap0 np0 cp0, .string a0.f6], .agg #[.string a1.f0, .int .i64 a1.f1, .int .i64 a1.f2, .int .i64 a1.f3, .int .i64 a1.f4, .slice Ap1 np1 cp1, .string a1.f6]] w (fun e w' => e = .returned (.bool r) ∧ Hp noFP w w' []) := by
 obtain rfl := C_len gp0
 obtain rfl := C_len gp1
 have HS := Hp.start w
 have H := Aside0.mk h
 clear h
 unfold laws_eqCrl.f at H
 go_enter Tryz.func30, Tryz.ntmps30
 go_upto_if 9 with (first | ((with_reducible refine gate_dst (N := 2) rfl ?_); refine ev_bx HS ?_; clear HS; (try clear F); intro g2 w2 HS F) | ((with_reducible refine gate_dst (N := 3) rfl ?_); refine ev_bx HS ?_; clear HS; (try clear F); intro g3 w3 HS F))
 by_cases c5 : a0.f0.toList = a1.f0.toList
 case neg =>
  replace H := zneg c5 H
  have c5a := beq_eq_false_iff_ne.mpr c5
  have c5b := bne_iff_ne.mpr c5
  clear c5
  (try simp only [c5a, c5b, dcn])
  obtain rfl := zsome H
  go_wp2
  go_ret
  exact HS.pk
 replace H := zpos c5 H
 have c5a := beq_iff_eq.mpr c5
 have c5b := bne_eq_false_iff_eq.mpr c5
 clear c5
 (try simp only [c5a, c5b, dcn])
 by_cases c6 : a0.f1 = a1.f1
 case neg =>
  replace H := zneg c6 H
  have c6a := beq_eq_false_iff_ne.mpr c6
  have c6b := bne_iff_ne.mpr c6
  clear c6
  obtain rfl := zsome H
  go_wp2
  go_ret
  exact HS.pk
 replace H := zpos c6 H
 have c6a := beq_iff_eq.mpr c6
 have c6b := bne_eq_false_iff_eq.mpr c6
 clear c6
 by_cases c7 : a0.f2 = a1.f2
 case neg =>
  replace H := zneg c7 H
  have c7a := beq_eq_false_iff_ne.mpr c7
  have c7b := bne_iff_ne.mpr c7
  clear c7
  obtain rfl := zsome H
  go_wp2
  go_ret
  exact HS.pk
 replace H := zpos c7 H
 have c7a := beq_iff_eq.mpr c7
 have c7b := bne_eq_false_iff_eq.mpr c7
 clear c7
 by_cases c8 : a0.f3 = a1.f3
 case neg =>
  replace H := zneg c8 H
  have c8a := beq_eq_false_iff_ne.mpr c8
  have c8b := bne_iff_ne.mpr c8
  clear c8
  obtain rfl := zsome H
  go_wp2
  go_ret
  exact HS.pk
 replace H := zpos c8 H
 have c8a := beq_iff_eq.mpr c8
 have c8b := bne_eq_false_iff_eq.mpr c8
 clear c8
 by_cases c9 : a0.f4 = a1.f4
 case neg =>
  replace H := zneg c9 H
  have c9a := beq_eq_false_iff_ne.mpr c9
  have c9b := bne_iff_ne.mpr c9
  clear c9
  obtain rfl := zsome H
  go_wp2
  go_ret
  exact HS.pk
 replace H := zpos c9 H
 have c9a := beq_iff_eq.mpr c9
 have c9b := bne_eq_false_iff_eq.mpr c9
 clear c9
 replace H := zbind H; obtain ⟨t10, ht10, H⟩ := H
 go_upto_if 35 with (first | ((with_reducible refine gate_dst (N := 34) rfl ?_); refine ev_cl HS (laws_eqRevS.calls ht10.out (HS.ro gp0) lp0 (HS.ro gp1) lp1) Tryz.func110 ?_; clear HS; (try clear F); intro wt10 HS F))
 by_cases c12 : t10 = true
 case neg =>
  replace H := zneg c12 H
  replace c12 := eq_false_of_ne_true c12
  subst c12
  (try simp only [dcn, if_true, Bool.false_eq_true, if_false])
  obtain rfl := zsome H
  go_wp2
  go_ret
  exact HS.pk
 replace H := zpos c12 H
 subst c12
 (try simp only [dcn, if_true, Bool.false_eq_true, if_false])
 by_cases c13 : a0.f6.toList = a1.f6.toList
 case neg =>
  replace H := zneg c13 H
  have c13a := beq_eq_false_iff_ne.mpr c13
  have c13b := bne_iff_ne.mpr c13
  clear c13
  obtain rfl := zsome H
  go_wp2
  go_ret
  exact HS.pk
 replace H := zpos c13 H
 have c13a := beq_iff_eq.mpr c13
 have c13b := bne_eq_false_iff_eq.mpr c13
 clear c13
 obtain rfl := zsome H
 go_wp2
 go_ret
 exact HS.pk
/-! ### laws_eqCrlS: function 69 -/
def laws_eqCrlS.l0 : Nat → Int → (List S81) → (List S81) → Option (Bool)
  | 0, _, _, _ => none
  | k + 1, x5, a0, a1 => (if x5 < (a0.length : Int) then (if 0 ≤ x5 then (if x5 < (a0.length : Int) then (if x5 < (a1.length : Int) then ((laws_eqCrl.f k (rd_T81 a0 x5) (rd_T81 a1 x5)).bind fun t108001 => (if t108001 = true then (laws_eqCrlS.l0 k (wrap64 (x5 + 1)) a0 a1) else (some false))) else none) else none) else none) else (some true))
def laws_eqCrlS.f (k : Nat) (a0 : (List S81)) (a1 : (List S81)) : Option (Bool) := (if (a0.length : Int) = (a1.length : Int) then (laws_eqCrlS.l0 k 0 a0 a1) else (some false))
def laws_eqCrlS.T6 : Bool × List (List Nat × List Nat) := (true, [([], []), ([], []), ([0, 1], [0, 1]), ([2], [2]), ([], []), ([], []), ([4, 5], [4, 5]), ([6], [6]), ([3, 7], [3, 7]), ([8], [8])])
theorem laws_eqCrlS.tT6 : rtab .any (opsOf Tryz.f69 6) = laws_eqCrlS.T6 := by kernel_rfl
set_option maxHeartbeats 16000000 in
theorem laws_eqCrlS.calls {k : Nat} {a0 : (List S81)} {a1 : (List S81)} {Ap0 : Option Addr} {np0 cp0 : Nat} {Ap1 : Option Addr} {np1 cp1 : Nat} {r : Bool} {w : World} (h : laws_eqCrlS.f k a0 a1 = some r) (gp0 : k81.C w Ap0 np0 a0) (lp0 : np0 ≤ cp0) (gp1 : k81.C w Ap1 np1 a1) (lp1 : np1 ≤ cp1) :
    Calls Tryz.prog 69 #[.slice Ap0 np0 cp0, .slice Ap1 np1 cp1] w (fun e w' => e = .returned (.bool r) ∧ Hp noFP w w' []) := by
 obtain rfl := C_len gp0
 obtain rfl := C_len gp1
 have HS := Hp.start w
 have H := Aside0.mk h
 clear h
 unfold laws_eqCrlS.f at H
 go_enter Tryz.func69, Tryz.ntmps69
 by_cases c1 : (a0.length : Int) = (a1.length : Int)
 case neg =>
  replace H := zneg c1 H
  have c1a := beq_eq_false_iff_ne.mpr c1
  have c1b := bne_iff_ne.mpr c1
  clear c1
  obtain rfl := zsome H
  go_wp2
  go_ret
  exact HS.pk
 replace H := zpos c1 H
 have c1a := beq_iff_eq.mpr c1
 have c1b := bne_eq_false_iff_eq.mpr c1
 clear c1
 go_wp2
 go_loopg [5] k (fun kq v_5 w' => ∃ (x5 : Int), v_5 = .int .i64 x5 ∧ Aside0 (laws_eqCrlS.l0 kq x5 a0 a1 = some r) ∧ Aside0 (kq ≤ k) ∧ Hp noFP w w' [])
 case atStart => exact ⟨_, rfl, H, ⟨Nat.le_refl _⟩, HS⟩
 case round =>
  clear HS H; (try clear F)
  obtain ⟨x5, rfl, H, HKk4, HS⟩ := hrel
  cases gk with
  | zero => exact absurd H.out (by simp [laws_eqCrlS.l0])
  | succ k4 =>
   simp only [laws_eqCrlS.l0] at H
   by_cases c7 : x5 < (a0.length : Int)
   case neg =>
    replace H := zneg c7 H
    replace c7 := eq_false c7
    obtain rfl := zsome H
    go_wp2
    go_ret
    exact HS.pk
   replace H := zpos c7 H
   replace c7 := eq_true c7
   (try go_wp2)
   obtain ⟨c102001, H⟩ := zgo H
   obtain ⟨c102002, H⟩ := zgo H
   obtain ⟨ad102999, B102999_5, d102999_5, rfl, e102999_0, e102999_1, e102999_2, e102999_3, e102999_4, e102999_5, e102999_6, m102999_5, y102999_5⟩ := at_T81 gp0 x5 (of_eq_true c102001) (of_eq_true c102002)
   obtain ⟨c106001, H⟩ := zgo H
   obtain ⟨ad106999, B106999_5, d106999_5, rfl, e106999_0, e106999_1, e106999_2, e106999_3, e106999_4, e106999_5, e106999_6, m106999_5, y106999_5⟩ := at_T81 gp1 x5 (of_eq_true c102001) (of_eq_true c106001)
   replace H := zbind H; obtain ⟨t108001, ht108001, H⟩ := H
   refine dr_start [] HS #[false, false, false, false, false, false, false, false, false, false] (by kernel_rfl) rfl rfl laws_eqCrlS.tT6 (fun w9 HT HS HH => ?_)
   (try clear F)
   refine drq_of [(0, some 17), (1, some 18), (2, some 19)] ?_
   repeat (refine drp HT ?_)
   refine drq_end ?_
   refine dr_take 3 (some 20) HT HH (v := ?_) (a' := ?_) rfl rfl (by kernel_rfl) (fun _ _ _ h => h) (.inl ⟨by rfl, ?_⟩) ?_ ?_
   rotate_left
   · rintro w' ⟨rs', HS'⟩; have e102999_0 := (HS'.keepc e102999_0); have e102999_1 := (HS'.keepc e102999_1); have e102999_2 := (HS'.keepc e102999_2); have e102999_3 := (HS'.keepc e102999_3); have e102999_4 := (HS'.keepc e102999_4); have e102999_5 := (HS'.keepc e102999_5); have e102999_6 := (HS'.keepc e102999_6); go_simp; with_reducible rfl
   rotate_left
   · simp only [Act.put, ptn]; rfl
   refine drq_of [(4, some 21), (5, some 22), (6, some 23)] ?_
   repeat (refine drp HT ?_)
   refine drq_end ?_
   refine dr_take 7 (some 24) HT HH (v := ?_) (a' := ?_) rfl rfl (by kernel_rfl) (fun _ _ _ h => h) (.inl ⟨by rfl, ?_⟩) ?_ ?_
   rotate_left
   · rintro w' ⟨rs', HS'⟩; have e106999_0 := (HS'.keepc e106999_0); have e106999_1 := (HS'.keepc e106999_1); have e106999_2 := (HS'.keepc e106999_2); have e106999_3 := (HS'.keepc e106999_3); have e106999_4 := (HS'.keepc e106999_4); have e106999_5 := (HS'.keepc e106999_5); have e106999_6 := (HS'.keepc e106999_6); go_simp; with_reducible rfl
   rotate_left
   · simp only [Act.put, ptn]; rfl
   refine dr1 8 HT fun K hK => ?_
   refine go_cl HS (laws_eqCrl.calls ht108001.out (HS.ro y102999_5) m102999_5 (HS.ro y106999_5) m106999_5) Tryz.func30 ?_; clear HS; (try clear F); intro wt108001 HS F
   refine nrm 25 hK ⟨_, HS⟩ (fun HH => ?_); clear hK K
   refine drq_of [(9, some 26)] ?_
   repeat (refine drp HT ?_)
   refine drq_end ?_
   refine done_ (done_of HT.out (by kernel_rfl)) ?_
   by_cases c11 : t108001 = true
   case neg =>
    replace H := zneg c11 H
    replace c11 := eq_false_of_ne_true c11
    subst c11
    (try simp only [dcn, if_true, Bool.false_eq_true, if_false])
    obtain rfl := zsome H
    go_wp2
    go_ret
    exact HS.pk
   replace H := zpos c11 H
   subst c11
   (try simp only [dcn, if_true, Bool.false_eq_true, if_false])
   go_wp2
   go_roundg k4
   case measure => have := HKk4.out; omega
   case rel => exact ⟨_, rfl, H, ⟨by have := HKk4.out; omega⟩, HS.pick [] (by decide) (by rfl)⟩
/-! ### laws_eqAnchor: function 150 -/
def laws_eqAnchor.f (a0 : S115) (a1 : S115) : Option (Bool) := (if a0.f0.toList = a1.f0.toList then (if a0.f1.toList = a1.f1.toList then (some true) else (some false)) else (some false))
set_option maxHeartbeats 16000000 in
theorem laws_eqAnchor.calls {a0 : S115} {a1 : S115} {r : Bool} {w : World} (h : laws_eqAnchor.f a0 a1 = some r) :
    Calls Tryz.prog 150 #[.agg #[.string a0.f0, .string a0.f1], .agg #[.string a1.f0, .string a1.f1]] w (fun e w' => e = .returned (.bool r) ∧ Hp noFP w w' []) := by
 have HS := Hp.start w
 have H := Aside0.mk h
 clear h
 unfold laws_eqAnchor.f at H
 go_enter Tryz.func150, Tryz.ntmps150
 go_upto_if 9 with (first | ((with_reducible refine gate_dst (N := 2) rfl ?_); refine ev_bx HS ?_; clear HS; (try clear F); intro g2 w2 HS F) | ((with_reducible refine gate_dst (N := 3) rfl ?_); refine ev_bx HS ?_; clear HS; (try clear F); intro g3 w3 HS F))
 by_cases c5 : a0.f0.toList = a1.f0.toList
 case neg =>
  replace H := zneg c5 H
  have c5a := beq_eq_false_iff_ne.mpr c5
  have c5b := bne_iff_ne.mpr c5
  clear c5
  (try simp only [c5a, c5b, dcn])
  obtain rfl := zsome H
  go_wp2
  go_ret
  exact HS.pk
 replace H := zpos c5 H
 have c5a := beq_iff_eq.mpr c5
 have c5b := bne_eq_false_iff_eq.mpr c5
 clear c5
 (try simp only [c5a, c5b, dcn])
 by_cases c6 : a0.f1.toList = a1.f1.toList
 case neg =>
  replace H := zneg c6 H
  have c6a := beq_eq_false_iff_ne.mpr c6
  have c6b := bne_iff_ne.mpr c6
  clear c6
  obtain rfl := zsome H
  go_wp2
  go_ret
  exact HS.pk
 replace H := zpos c6 H
 have c6a := beq_iff_eq.mpr c6
 have c6b := bne_eq_false_iff_eq.mpr c6
 clear c6
 obtain rfl := zsome H
 go_wp2
 go_ret
 exact HS.pk
/-! ### laws_eqAnchorS: function 70 -/
def laws_eqAnchorS.l0 : Nat → Int → (List S115) → (List S115) → Option (Bool)
  | 0, _, _, _ => none
  | k + 1, x5, a0, a1 => (if x5 < (a0.length : Int) then (if 0 ≤ x5 then (if x5 < (a0.length : Int) then (if x5 < (a1.length : Int) then ((laws_eqAnchor.f (rd_T115 a0 x5) (rd_T115 a1 x5)).bind fun t108001 => (if t108001 = true then (laws_eqAnchorS.l0 k (wrap64 (x5 + 1)) a0 a1) else (some false))) else none) else none) else none) else (some true))
def laws_eqAnchorS.f (k : Nat) (a0 : (List S115)) (a1 : (List S115)) : Option (Bool) := (if (a0.length : Int) = (a1.length : Int) then (laws_eqAnchorS.l0 k 0 a0 a1) else (some false))
def laws_eqAnchorS.T6 : Bool × List (List Nat × List Nat) := (true, [([], []), ([], []), ([0, 1], [0, 1]), ([2], [2]), ([], []), ([], []), ([4, 5], [4, 5]), ([6], [6]), ([3, 7], [3, 7]), ([8], [8])])
theorem laws_eqAnchorS.tT6 : rtab .any (opsOf Tryz.f70 6) = laws_eqAnchorS.T6 := by kernel_rfl
set_option maxHeartbeats 16000000 in
theorem laws_eqAnchorS.calls {k : Nat} {a0 : (List S115)} {a1 : (List S115)} {Ap0 : Option Addr} {np0 cp0 : Nat} {Ap1 : Option Addr} {np1 cp1 : Nat} {r : Bool} {w : World} (h : laws_eqAnchorS.f k a0 a1 = some r) (gp0 : k115.C w Ap0 np0 a0) (lp0 : np0 ≤ cp0) (gp1 : k115.C w Ap1 np1 a1) (lp1 : np1 ≤ cp1) :
    Calls Tryz.prog 70 #[.slice Ap0 np0 cp0, .slice Ap1 np1 cp1] w (fun e w' => e = .returned (.bool r) ∧ Hp noFP w w' []) := by
 obtain rfl := C_len gp0
 obtain rfl := C_len gp1
 have HS := Hp.start w
 have H := Aside0.mk h
 clear h
 unfold laws_eqAnchorS.f at H
 go_enter Tryz.func70, Tryz.ntmps70
 by_cases c1 : (a0.length : Int) = (a1.length : Int)
 case neg =>
  replace H := zneg c1 H
  have c1a := beq_eq_false_iff_ne.mpr c1
  have c1b := bne_iff_ne.mpr c1
  clear c1
  obtain rfl := zsome H
  go_wp2
  go_ret
  exact HS.pk
 replace H := zpos c1 H
 have c1a := beq_iff_eq.mpr c1
 have c1b := bne_eq_false_iff_eq.mpr c1
 clear c1
 go_wp2
 go_loopg [5] k (fun kq v_5 w' => ∃ (x5 : Int), v_5 = .int .i64 x5 ∧ Aside0 (laws_eqAnchorS.l0 kq x5 a0 a1 = some r) ∧ Aside0 (kq ≤ k) ∧ Hp noFP w w' [])
 case atStart => exact ⟨_, rfl, H, ⟨Nat.le_refl _⟩, HS⟩
 case round =>
  clear HS H; (try clear F)
  obtain ⟨x5, rfl, H, HKk4, HS⟩ := hrel
  cases gk with
  | zero => exact absurd H.out (by simp [laws_eqAnchorS.l0])
  | succ k4 =>
   simp only [laws_eqAnchorS.l0] at H
   by_cases c7 : x5 < (a0.length : Int)
   case neg =>
    replace H := zneg c7 H
    replace c7 := eq_false c7
    obtain rfl := zsome H
    go_wp2
    go_ret
    exact HS.pk
   replace H := zpos c7 H
   replace c7 := eq_true c7
   (try go_wp2)
   obtain ⟨c102001, H⟩ := zgo H
   obtain ⟨c102002, H⟩ := zgo H
   obtain ⟨ad102999, rfl, e102999_0, e102999_1⟩ := at_T115 gp0 x5 (of_eq_true c102001) (of_eq_true c102002)
   obtain ⟨c106001, H⟩ := zgo H
   obtain ⟨ad106999, rfl, e106999_0, e106999_1⟩ := at_T115 gp1 x5 (of_eq_true c102001) (of_eq_true c106001)
   replace H := zbind H; obtain ⟨t108001, ht108001, H⟩ := H
   refine dr_start [] HS #[false, false, false, false, false, false, false, false, false, false] (by kernel_rfl) rfl rfl laws_eqAnchorS.tT6 (fun w9 HT HS HH => ?_)
   (try clear F)
   refine drq_of [(0, some 17), (1, some 18), (2, some 19)] ?_
   repeat (refine drp HT ?_)
   refine drq_end ?_
   refine dr_take 3 (some 20) HT HH (v := ?_) (a' := ?_) rfl rfl (by kernel_rfl) (fun _ _ _ h => h) (.inl ⟨by rfl, ?_⟩) ?_ ?_
   rotate_left
   · rintro w' ⟨rs', HS'⟩; have e102999_0 := (HS'.keepc e102999_0); have e102999_1 := (HS'.keepc e102999_1); go_simp; with_reducible rfl
   rotate_left
   · simp only [Act.put, ptn]; rfl
   refine drq_of [(4, some 21), (5, some 22), (6, some 23)] ?_
   repeat (refine drp HT ?_)
   refine drq_end ?_
   refine dr_take 7 (some 24) HT HH (v := ?_) (a' := ?_) rfl rfl (by kernel_rfl) (fun _ _ _ h => h) (.inl ⟨by rfl, ?_⟩) ?_ ?_
   rotate_left
   · rintro w' ⟨rs', HS'⟩; have e106999_0 := (HS'.keepc e106999_0); have e106999_1 := (HS'.keepc e106999_1); go_simp; with_reducible rfl
   rotate_left
   · simp only [Act.put, ptn]; rfl
   refine dr1 8 HT fun K hK => ?_
   refine go_cl HS (laws_eqAnchor.calls ht108001.out) Tryz.func150 ?_; clear HS; (try clear F); intro wt108001 HS F
   refine nrm 25 hK ⟨_, HS⟩ (fun HH => ?_); clear hK K
   refine drq_of [(9, some 26)] ?_
   repeat (refine drp HT ?_)
   refine drq_end ?_
   refine done_ (done_of HT.out (by kernel_rfl)) ?_
   by_cases c11 : t108001 = true
   case neg =>
    replace H := zneg c11 H
    replace c11 := eq_false_of_ne_true c11
    subst c11
    (try simp only [dcn, if_true, Bool.false_eq_true, if_false])
    obtain rfl := zsome H
    go_wp2
    go_ret
    exact HS.pk
   replace H := zpos c11 H
   subst c11
   (try simp only [dcn, if_true, Bool.false_eq_true, if_false])
   go_wp2
   go_roundg k4
   case measure => have := HKk4.out; omega
   case rel => exact ⟨_, rfl, H, ⟨by have := HKk4.out; omega⟩, HS.pick [] (by decide) (by rfl)⟩
/-! ### laws_eqStore: function 15 -/
def laws_eqStore.f (k : Nat) (a0 : S33) (a1 : S33) : Option (Bool) := ((laws_eqCertS.f k a0.f0 a1.f0).bind fun t5 => (if t5 = true then ((laws_eqCrlS.f k a0.f1 a1.f1).bind fun t8 => (if t8 = true then ((laws_eqAnchorS.f k a0.f2 a1.f2).bind fun t11 => (if t11 = true then (some true) else (some false))) else (some false))) else (some false)))
set_option maxHeartbeats 16000000 in
theorem laws_eqStore.calls {k : Nat} {a0 : S33} {a1 : S33} {Ap0 : Option Addr} {np0 cp0 : Nat} {Ap1 : Option Addr} {np1 cp1 : Nat} {Ap2 : Option Addr} {np2 cp2 : Nat} {Ap3 : Option Addr} {np3 cp3 : Nat} {Ap4 : Option Addr} {np4 cp4 : Nat} {Ap5 : Option Addr} {np5 cp5 : Nat} {r : Bool} {w : World} (h : laws_eqStore.f k a0 a1 = some r) (gp0 : k91.C w Ap0 np0 a0.f0) (lp0 : np0 ≤ cp0) (gp1 : k81.C w Ap1 np1 a0.f1) (lp1 : np1 ≤ cp1) (gp2 : k115.C w Ap2 np2 a0.f2) (lp2 : np2 ≤ cp2) (gp3 : k91.C w Ap3 np3 a1.f0) (lp3 : np3 ≤ cp3) (gp4 : k81.C w Ap4 np4 a1.f1) (lp4 : np4 ≤ cp4) (gp5 : k115.C w Ap5 np5 a1.f2) (lp5 : np5 ≤ cp5) :
    Calls Tryz.prog 15 #[.agg #[.slice Ap0 np0 cp0, .slice Ap1 np1 cp1, .slice Ap2 np2 cp2], .agg #[.slice Ap3 np3 cp3, .slice Ap4 np4 cp4, .slice Ap5 np5 cp5]] w (fun e w' => e = .returned (.bool r) ∧ Hp noFP w w' []) := by
 obtain rfl := C_len gp0
 obtain rfl := C_len gp1
 obtain rfl := C_len gp2
 obtain rfl := C_len gp3
 obtain rfl := C_len gp4
 obtain rfl := C_len gp5
 have HS := Hp.start w
 have H := Aside0.mk h
 clear h
 unfold laws_eqStore.f at H
 go_enter Tryz.func15, Tryz.ntmps15
 replace H := zbind H; obtain ⟨t5, ht5, H⟩ := H
 go_upto_if 10 with (first | ((with_reducible refine gate_dst (N := 2) rfl ?_); refine ev_bx HS ?_; clear HS; (try clear F); intro g2 w2 HS F) | ((with_reducible refine gate_dst (N := 3) rfl ?_); refine ev_bx HS ?_; clear HS; (try clear F); intro g3 w3 HS F) | ((with_reducible refine gate_dst (N := 9) rfl ?_); refine ev_cl HS (laws_eqCertS.calls ht5.out (HS.ro gp0) lp0 (HS.ro gp3) lp3) Tryz.func68 ?_; clear HS; (try clear F); intro wt5 HS F))
 by_cases c7 : t5 = true
 case neg =>
  replace H := zneg c7 H
  replace c7 := eq_false_of_ne_true c7
  subst c7
  (try simp only [dcn, if_true, Bool.false_eq_true, if_false])
  obtain rfl := zsome H
  go_wp2
  go_ret
  exact HS.pk
 replace H := zpos c7 H
 subst c7
 (try simp only [dcn, if_true, Bool.false_eq_true, if_false])
 replace H := zbind H; obtain ⟨t8, ht8, H⟩ := H
 go_upto_if 16 with (first | ((with_reducible refine gate_dst (N := 15) rfl ?_); refine ev_cl HS (laws_eqCrlS.calls ht8.out (HS.ro gp1) lp1 (HS.ro gp4) lp4) Tryz.func69 ?_; clear HS; (try clear F); intro wt8 HS F))
 by_cases c10 : t8 = true
 case neg =>
  replace H := zneg c10 H
  replace c10 := eq_false_of_ne_true c10
  subst c10
  (try simp only [dcn, if_true, Bool.false_eq_true, if_false])
  obtain rfl := zsome H
  go_wp2
  go_ret
  exact HS.pk
 replace H := zpos c10 H
 subst c10
 (try simp only [dcn, if_true, Bool.false_eq_true, if_false])
 replace H := zbind H; obtain ⟨t11, ht11, H⟩ := H
 go_upto_if 22 with (first | ((with_reducible refine gate_dst (N := 21) rfl ?_); refine ev_cl HS (laws_eqAnchorS.calls ht11.out (HS.ro gp2) lp2 (HS.ro gp5) lp5) Tryz.func70 ?_; clear HS; (try clear F); intro wt11 HS F))
 by_cases c13 : t11 = true
 case pos =>
  replace H := zpos c13 H
  subst c13
  (try simp only [dcn, if_true, Bool.false_eq_true, if_false])
  obtain rfl := zsome H
  go_wp2
  go_ret
  exact HS.pk
 replace H := zneg c13 H
 replace c13 := eq_false_of_ne_true c13
 subst c13
 (try simp only [dcn, if_true, Bool.false_eq_true, if_false])
 obtain rfl := zsome H
 go_wp2
 go_ret
 exact HS.pk
/-! ### laws_eqRules: function 212 -/
def laws_eqRules.f (k : Nat) (a0 : S200) (a1 : S200) : Option (Bool) := (if a0.f0 = a1.f0 then ((laws_eqIntS.f k a0.f1 a1.f1).bind fun t6 => (if t6 = true then (if a0.f2 = a1.f2 then (if a0.f3 = a1.f3 then (if a0.f4 = a1.f4 then (some true) else (some false)) else (some false)) else (some false)) else (some false))) else (some false))
set_option maxHeartbeats 16000000 in
theorem laws_eqRules.calls {k : Nat} {a0 : S200} {a1 : S200} {Ap0 : Option Addr} {np0 cp0 : Nat} {Ap1 : Option Addr} {np1 cp1 : Nat} {r : Bool} {w : World} (h : laws_eqRules.f k a0 a1 = some r) (gp0 : (Kd.int .i64).C w Ap0 np0 a0.f1) (lp0 : np0 ≤ cp0) (gp1 : (Kd.int .i64).C w Ap1 np1 a1.f1) (lp1 : np1 ≤ cp1) :
    Calls Tryz.prog 212 #[.agg #[.int .i64 a0.f0, .slice Ap0 np0 cp0, .bool a0.f2, .bool a0.f3, .int .i64 a0.f4], .agg #[.int .i64 a1.f0, .slice Ap1 np1 cp1, .bool a1.f2, .bool a1.f3, .int .i64 a1.f4]] w (fun e w' => e = .returned (.bool r) ∧ Hp noFP w w' []) := by
 obtain rfl := C_len gp0
 obtain rfl := C_len gp1
 have HS := Hp.start w
 have H := Aside0.mk h
 clear h
 unfold laws_eqRules.f at H
 go_enter Tryz.func212, Tryz.ntmps212
 go_upto_if 9 with (first | ((with_reducible refine gate_dst (N := 2) rfl ?_); refine ev_bx HS ?_; clear HS; (try clear F); intro g2 w2 HS F) | ((with_reducible refine gate_dst (N := 3) rfl ?_); refine ev_bx HS ?_; clear HS; (try clear F); intro g3 w3 HS F))
 by_cases c5 : a0.f0 = a1.f0
 case neg =>
  replace H := zneg c5 H
  have c5a := beq_eq_false_iff_ne.mpr c5
  have c5b := bne_iff_ne.mpr c5
  clear c5
  (try simp only [c5a, c5b, dcn])
  obtain rfl := zsome H
  go_wp2
  go_ret
  exact HS.pk
 replace H := zpos c5 H
 have c5a := beq_iff_eq.mpr c5
 have c5b := bne_eq_false_iff_eq.mpr c5
 clear c5
 (try simp only [c5a, c5b, dcn])
 replace H := zbind H; obtain ⟨t6, ht6, H⟩ := H
 go_upto_if 15 with (first | ((with_reducible refine gate_dst (N := 14) rfl ?_); refine ev_cl HS (laws_eqIntS.calls ht6.out (HS.ro gp0) lp0 (HS.ro gp1) lp1) Tryz.func101 ?_; clear HS; (try clear F); intro wt6 HS F))
 by_cases c8 : t6 = true
 case neg =>
  replace H := zneg c8 H
  replace c8 := eq_false_of_ne_true c8
  subst c8
  (try simp only [dcn, if_true, Bool.false_eq_true, if_false])
  obtain rfl := zsome H
  go_wp2
  go_ret
  exact HS.pk
 replace H := zpos c8 H
 subst c8
 (try simp only [dcn, if_true, Bool.false_eq_true, if_false])
 by_cases c9 : a0.f2 = a1.f2
 case neg =>
  replace H := zneg c9 H
  have c9a := beq_eq_false_iff_ne.mpr c9
  have c9b := bne_iff_ne.mpr c9
  clear c9
  obtain rfl := zsome H
  go_wp2
  go_ret
  exact HS.pk
 replace H := zpos c9 H
 have c9a := beq_iff_eq.mpr c9
 have c9b := bne_eq_false_iff_eq.mpr c9
 clear c9
 by_cases c10 : a0.f3 = a1.f3
 case neg =>
  replace H := zneg c10 H
  have c10a := beq_eq_false_iff_ne.mpr c10
  have c10b := bne_iff_ne.mpr c10
  clear c10
  obtain rfl := zsome H
  go_wp2
  go_ret
  exact HS.pk
 replace H := zpos c10 H
 have c10a := beq_iff_eq.mpr c10
 have c10b := bne_eq_false_iff_eq.mpr c10
 clear c10
 by_cases c11 : a0.f4 = a1.f4
 case neg =>
  replace H := zneg c11 H
  have c11a := beq_eq_false_iff_ne.mpr c11
  have c11b := bne_iff_ne.mpr c11
  clear c11
  obtain rfl := zsome H
  go_wp2
  go_ret
  exact HS.pk
 replace H := zpos c11 H
 have c11a := beq_iff_eq.mpr c11
 have c11b := bne_eq_false_iff_eq.mpr c11
 clear c11
 obtain rfl := zsome H
 go_wp2
 go_ret
 exact HS.pk
/-! ### laws_eqPlan: function 157 -/
def laws_eqPlan.f (k : Nat) (a0 : S202) (a1 : S202) : Option (Bool) := (if a0.f0 = a1.f0 then ((laws_eqIntS.f k a0.f1 a1.f1).bind fun t6 => (if t6 = true then ((laws_eqRules.f k a0.f2 a1.f2).bind fun t9 => (if t9 = true then (some true) else (some false))) else (some false))) else (some false))
set_option maxHeartbeats 16000000 in
theorem laws_eqPlan.calls {k : Nat} {a0 : S202} {a1 : S202} {Ap0 : Option Addr} {np0 cp0 : Nat} {Ap1 : Option Addr} {np1 cp1 : Nat} {Ap2 : Option Addr} {np2 cp2 : Nat} {Ap3 : Option Addr} {np3 cp3 : Nat} {r : Bool} {w : World} (h : laws_eqPlan.f k a0 a1 = some r) (gp0 : (Kd.int .i64).C w Ap0 np0 a0.f1) (lp0 : np0 ≤ cp0) (gp1 : (Kd.int .i64).C w Ap1 np1 a0.f2.f1) (lp1 : np1 ≤ cp1) (gp2 : (Kd.int .i64).C w Ap2 np2 a1.f1) (lp2 : np2 ≤ cp2) (gp3 : (Kd.int .i64).C w Ap3 np3 a1.f2.f1) (lp3 : np3 ≤ cp3) :
    Calls Tryz.prog 157 #[.agg #[.int .i64 a0.f0, .slice Ap0 np0 cp0, .int .i64 a0.f2.f0, .slice Ap1 np1 cp1, .bool a0.f2.f2, .bool a0.f2.f3, .int .i64 a0.f2.f4], .agg #[.int .i64 a1.f0, .slice Ap2 np2 cp2, .int .i64 a1.f2.f0, .slice Ap3 np3 cp3, .bool a1.f2.f2, .bool a1.f2.f3, .int .i64 a1.f2.f4]] w (fun e w' => e = .returned (.bool r) ∧ Hp noFP w w' []) := by
 obtain rfl := C_len gp0
 obtain rfl := C_len gp1
 obtain rfl := C_len gp2
 obtain rfl := C_len gp3
 have HS := Hp.start w
 have H := Aside0.mk h
 clear h
 unfold laws_eqPlan.f at H
 go_enter Tryz.func157, Tryz.ntmps157
 go_upto_if 9 with (first | ((with_reducible refine gate_dst (N := 2) rfl ?_); refine ev_bx HS ?_; clear HS; (try clear F); intro g2 w2 HS F) | ((with_reducible refine gate_dst (N := 3) rfl ?_); refine ev_bx HS ?_; clear HS; (try clear F); intro g3 w3 HS F))
 by_cases c5 : a0.f0 = a1.f0
 case neg =>
  replace H := zneg c5 H
  have c5a := beq_eq_false_iff_ne.mpr c5
  have c5b := bne_iff_ne.mpr c5
  clear c5
  (try simp only [c5a, c5b, dcn])
  obtain rfl := zsome H
  go_wp2
  go_ret
  exact HS.pk
 replace H := zpos c5 H
 have c5a := beq_iff_eq.mpr c5
 have c5b := bne_eq_false_iff_eq.mpr c5
 clear c5
 (try simp only [c5a, c5b, dcn])
 replace H := zbind H; obtain ⟨t6, ht6, H⟩ := H
 go_upto_if 15 with (first | ((with_reducible refine gate_dst (N := 14) rfl ?_); refine ev_cl HS (laws_eqIntS.calls ht6.out (HS.ro gp0) lp0 (HS.ro gp2) lp2) Tryz.func101 ?_; clear HS; (try clear F); intro wt6 HS F))
 by_cases c8 : t6 = true
 case neg =>
  replace H := zneg c8 H
  replace c8 := eq_false_of_ne_true c8
  subst c8
  (try simp only [dcn, if_true, Bool.false_eq_true, if_false])
  obtain rfl := zsome H
  go_wp2
  go_ret
  exact HS.pk
 replace H := zpos c8 H
 subst c8
 (try simp only [dcn, if_true, Bool.false_eq_true, if_false])
 replace H := zbind H; obtain ⟨t9, ht9, H⟩ := H
 go_upto_if 21 with (first | ((with_reducible refine gate_dst (N := 20) rfl ?_); refine ev_cl HS (laws_eqRules.calls ht9.out (HS.ro gp1) lp1 (HS.ro gp3) lp3) Tryz.func212 ?_; clear HS; (try clear F); intro wt9 HS F))
 by_cases c11 : t9 = true
 case pos =>
  replace H := zpos c11 H
  subst c11
  (try simp only [dcn, if_true, Bool.false_eq_true, if_false])
  obtain rfl := zsome H
  go_wp2
  go_ret
  exact HS.pk
 replace H := zneg c11 H
 replace c11 := eq_false_of_ne_true c11
 subst c11
 (try simp only [dcn, if_true, Bool.false_eq_true, if_false])
 obtain rfl := zsome H
 go_wp2
 go_ret
 exact HS.pk
/-! ### laws_eqPlanS: function 81 -/
def laws_eqPlanS.l0 : Nat → Int → (List S202) → (List S202) → Option (Bool)
  | 0, _, _, _ => none
  | k + 1, x5, a0, a1 => (if x5 < (a0.length : Int) then (if 0 ≤ x5 then (if x5 < (a0.length : Int) then (if x5 < (a1.length : Int) then ((laws_eqPlan.f k (rd_T202 a0 x5) (rd_T202 a1 x5)).bind fun t108001 => (if t108001 = true then (laws_eqPlanS.l0 k (wrap64 (x5 + 1)) a0 a1) else (some false))) else none) else none) else none) else (some true))
def laws_eqPlanS.f (k : Nat) (a0 : (List S202)) (a1 : (List S202)) : Option (Bool) := (if (a0.length : Int) = (a1.length : Int) then (laws_eqPlanS.l0 k 0 a0 a1) else (some false))
def laws_eqPlanS.T6 : Bool × List (List Nat × List Nat) := (true, [([], []), ([], []), ([0, 1], [0, 1]), ([2], [2]), ([], []), ([], []), ([4, 5], [4, 5]), ([6], [6]), ([3, 7], [3, 7]), ([8], [8])])
theorem laws_eqPlanS.tT6 : rtab .any (opsOf Tryz.f81 6) = laws_eqPlanS.T6 := by kernel_rfl
set_option maxHeartbeats 16000000 in
theorem laws_eqPlanS.calls {k : Nat} {a0 : (List S202)} {a1 : (List S202)} {Ap0 : Option Addr} {np0 cp0 : Nat} {Ap1 : Option Addr} {np1 cp1 : Nat} {r : Bool} {w : World} (h : laws_eqPlanS.f k a0 a1 = some r) (gp0 : k202.C w Ap0 np0 a0) (lp0 : np0 ≤ cp0) (gp1 : k202.C w Ap1 np1 a1) (lp1 : np1 ≤ cp1) :
    Calls Tryz.prog 81 #[.slice Ap0 np0 cp0, .slice Ap1 np1 cp1] w (fun e w' => e = .returned (.bool r) ∧ Hp noFP w w' []) := by
 obtain rfl := C_len gp0
 obtain rfl := C_len gp1
 have HS := Hp.start w
 have H := Aside0.mk h
 clear h
 unfold laws_eqPlanS.f at H
 go_enter Tryz.func81, Tryz.ntmps81
 by_cases c1 : (a0.length : Int) = (a1.length : Int)
 case neg =>
  replace H := zneg c1 H
  have c1a := beq_eq_false_iff_ne.mpr c1
  have c1b := bne_iff_ne.mpr c1
  clear c1
  obtain rfl := zsome H
  go_wp2
  go_ret
  exact HS.pk
 replace H := zpos c1 H
 have c1a := beq_iff_eq.mpr c1
 have c1b := bne_eq_false_iff_eq.mpr c1
 clear c1
 go_wp2
 go_loopg [5] k (fun kq v_5 w' => ∃ (x5 : Int), v_5 = .int .i64 x5 ∧ Aside0 (laws_eqPlanS.l0 kq x5 a0 a1 = some r) ∧ Aside0 (kq ≤ k) ∧ Hp noFP w w' [])
 case atStart => exact ⟨_, rfl, H, ⟨Nat.le_refl _⟩, HS⟩
 case round =>
  clear HS H; (try clear F)
  obtain ⟨x5, rfl, H, HKk4, HS⟩ := hrel
  cases gk with
  | zero => exact absurd H.out (by simp [laws_eqPlanS.l0])
  | succ k4 =>
   simp only [laws_eqPlanS.l0] at H
   by_cases c7 : x5 < (a0.length : Int)
   case neg =>
    replace H := zneg c7 H
    replace c7 := eq_false c7
    obtain rfl := zsome H
    go_wp2
    go_ret
    exact HS.pk
   replace H := zpos c7 H
   replace c7 := eq_true c7
   (try go_wp2)
   obtain ⟨c102001, H⟩ := zgo H
   obtain ⟨c102002, H⟩ := zgo H
   obtain ⟨ad102999, B102999_1, d102999_1, B102999_3, d102999_3, rfl, e102999_0, e102999_1, e102999_2, e102999_3, e102999_4, e102999_5, e102999_6, m102999_1, y102999_1, m102999_3, y102999_3⟩ := at_T202 gp0 x5 (of_eq_true c102001) (of_eq_true c102002)
   obtain ⟨c106001, H⟩ := zgo H
   obtain ⟨ad106999, B106999_1, d106999_1, B106999_3, d106999_3, rfl, e106999_0, e106999_1, e106999_2, e106999_3, e106999_4, e106999_5, e106999_6, m106999_1, y106999_1, m106999_3, y106999_3⟩ := at_T202 gp1 x5 (of_eq_true c102001) (of_eq_true c106001)
   replace H := zbind H; obtain ⟨t108001, ht108001, H⟩ := H
   refine dr_start [] HS #[false, false, false, false, false, false, false, false, false, false] (by kernel_rfl) rfl rfl laws_eqPlanS.tT6 (fun w9 HT HS HH => ?_)
   (try clear F)
   refine drq_of [(0, some 17), (1, some 18), (2, some 19)] ?_
   repeat (refine drp HT ?_)
   refine drq_end ?_
   refine dr_take 3 (some 20) HT HH (v := ?_) (a' := ?_) rfl rfl (by kernel_rfl) (fun _ _ _ h => h) (.inl ⟨by rfl, ?_⟩) ?_ ?_
   rotate_left
   · rintro w' ⟨rs', HS'⟩; have e102999_0 := (HS'.keepc e102999_0); have e102999_1 := (HS'.keepc e102999_1); have e102999_2 := (HS'.keepc e102999_2); have e102999_3 := (HS'.keepc e102999_3); have e102999_4 := (HS'.keepc e102999_4); have e102999_5 := (HS'.keepc e102999_5); have e102999_6 := (HS'.keepc e102999_6); go_simp; with_reducible rfl
   rotate_left
   · simp only [Act.put, ptn]; rfl
   refine drq_of [(4, some 21), (5, some 22), (6, some 23)] ?_
   repeat (refine drp HT ?_)
   refine drq_end ?_
   refine dr_take 7 (some 24) HT HH (v := ?_) (a' := ?_) rfl rfl (by kernel_rfl) (fun _ _ _ h => h) (.inl ⟨by rfl, ?_⟩) ?_ ?_
   rotate_left
   · rintro w' ⟨rs', HS'⟩; have e106999_0 := (HS'.keepc e106999_0); have e106999_1 := (HS'.keepc e106999_1); have e106999_2 := (HS'.keepc e106999_2); have e106999_3 := (HS'.keepc e106999_3); have e106999_4 := (HS'.keepc e106999_4); have e106999_5 := (HS'.keepc e106999_5); have e106999_6 := (HS'.keepc e106999_6); go_simp; with_reducible rfl
   rotate_left
   · simp only [Act.put, ptn]; rfl
   refine dr1 8 HT fun K hK => ?_
   refine go_cl HS (laws_eqPlan.calls ht108001.out (HS.ro y102999_1) m102999_1 (HS.ro y102999_3) m102999_3 (HS.ro y106999_1) m106999_1 (HS.ro y106999_3) m106999_3) Tryz.func157 ?_; clear HS; (try clear F); intro wt108001 HS F
   refine nrm 25 hK ⟨_, HS⟩ (fun HH => ?_); clear hK K
   refine drq_of [(9, some 26)] ?_
   repeat (refine drp HT ?_)
   refine drq_end ?_
   refine done_ (done_of HT.out (by kernel_rfl)) ?_
   by_cases c11 : t108001 = true
   case neg =>
    replace H := zneg c11 H
    replace c11 := eq_false_of_ne_true c11
    subst c11
    (try simp only [dcn, if_true, Bool.false_eq_true, if_false])
    obtain rfl := zsome H
    go_wp2
    go_ret
    exact HS.pk
   replace H := zpos c11 H
   subst c11
   (try simp only [dcn, if_true, Bool.false_eq_true, if_false])
   go_wp2
   go_roundg k4
   case measure => have := HKk4.out; omega
   case rel => exact ⟨_, rfl, H, ⟨by have := HKk4.out; omega⟩, HS.pick [] (by decide) (by rfl)⟩
/-! ### laws_eqKept: function 158 -/
def laws_eqKept.f (a0 : S205) (a1 : S205) : Option (Bool) := (if a0.f0.toList = a1.f0.toList then (if a0.f1.toList = a1.f1.toList then (if a0.f2 = a1.f2 then (some true) else (some false)) else (some false)) else (some false))
set_option maxHeartbeats 16000000 in
theorem laws_eqKept.calls {a0 : S205} {a1 : S205} {r : Bool} {w : World} (h : laws_eqKept.f a0 a1 = some r) :
    Calls Tryz.prog 158 #[.agg #[.string a0.f0, .string a0.f1, .int .i64 a0.f2], .agg #[.string a1.f0, .string a1.f1, .int .i64 a1.f2]] w (fun e w' => e = .returned (.bool r) ∧ Hp noFP w w' []) := by
 have HS := Hp.start w
 have H := Aside0.mk h
 clear h
 unfold laws_eqKept.f at H
 go_enter Tryz.func158, Tryz.ntmps158
 go_upto_if 9 with (first | ((with_reducible refine gate_dst (N := 2) rfl ?_); refine ev_bx HS ?_; clear HS; (try clear F); intro g2 w2 HS F) | ((with_reducible refine gate_dst (N := 3) rfl ?_); refine ev_bx HS ?_; clear HS; (try clear F); intro g3 w3 HS F))
 by_cases c5 : a0.f0.toList = a1.f0.toList
 case neg =>
  replace H := zneg c5 H
  have c5a := beq_eq_false_iff_ne.mpr c5
  have c5b := bne_iff_ne.mpr c5
  clear c5
  (try simp only [c5a, c5b, dcn])
  obtain rfl := zsome H
  go_wp2
  go_ret
  exact HS.pk
 replace H := zpos c5 H
 have c5a := beq_iff_eq.mpr c5
 have c5b := bne_eq_false_iff_eq.mpr c5
 clear c5
 (try simp only [c5a, c5b, dcn])
 by_cases c6 : a0.f1.toList = a1.f1.toList
 case neg =>
  replace H := zneg c6 H
  have c6a := beq_eq_false_iff_ne.mpr c6
  have c6b := bne_iff_ne.mpr c6
  clear c6
  obtain rfl := zsome H
  go_wp2
  go_ret
  exact HS.pk
 replace H := zpos c6 H
 have c6a := beq_iff_eq.mpr c6
 have c6b := bne_eq_false_iff_eq.mpr c6
 clear c6
 by_cases c7 : a0.f2 = a1.f2
 case neg =>
  replace H := zneg c7 H
  have c7a := beq_eq_false_iff_ne.mpr c7
  have c7b := bne_iff_ne.mpr c7
  clear c7
  obtain rfl := zsome H
  go_wp2
  go_ret
  exact HS.pk
 replace H := zpos c7 H
 have c7a := beq_iff_eq.mpr c7
 have c7b := bne_eq_false_iff_eq.mpr c7
 clear c7
 obtain rfl := zsome H
 go_wp2
 go_ret
 exact HS.pk
/-! ### laws_eqKeptS: function 82 -/
def laws_eqKeptS.l0 : Nat → Int → (List S205) → (List S205) → Option (Bool)
  | 0, _, _, _ => none
  | k + 1, x5, a0, a1 => (if x5 < (a0.length : Int) then (if 0 ≤ x5 then (if x5 < (a0.length : Int) then (if x5 < (a1.length : Int) then ((laws_eqKept.f (rd_T205 a0 x5) (rd_T205 a1 x5)).bind fun t108001 => (if t108001 = true then (laws_eqKeptS.l0 k (wrap64 (x5 + 1)) a0 a1) else (some false))) else none) else none) else none) else (some true))
def laws_eqKeptS.f (k : Nat) (a0 : (List S205)) (a1 : (List S205)) : Option (Bool) := (if (a0.length : Int) = (a1.length : Int) then (laws_eqKeptS.l0 k 0 a0 a1) else (some false))
def laws_eqKeptS.T6 : Bool × List (List Nat × List Nat) := (true, [([], []), ([], []), ([0, 1], [0, 1]), ([2], [2]), ([], []), ([], []), ([4, 5], [4, 5]), ([6], [6]), ([3, 7], [3, 7]), ([8], [8])])
theorem laws_eqKeptS.tT6 : rtab .any (opsOf Tryz.f82 6) = laws_eqKeptS.T6 := by kernel_rfl
set_option maxHeartbeats 16000000 in
theorem laws_eqKeptS.calls {k : Nat} {a0 : (List S205)} {a1 : (List S205)} {Ap0 : Option Addr} {np0 cp0 : Nat} {Ap1 : Option Addr} {np1 cp1 : Nat} {r : Bool} {w : World} (h : laws_eqKeptS.f k a0 a1 = some r) (gp0 : k205.C w Ap0 np0 a0) (lp0 : np0 ≤ cp0) (gp1 : k205.C w Ap1 np1 a1) (lp1 : np1 ≤ cp1) :
    Calls Tryz.prog 82 #[.slice Ap0 np0 cp0, .slice Ap1 np1 cp1] w (fun e w' => e = .returned (.bool r) ∧ Hp noFP w w' []) := by
 obtain rfl := C_len gp0
 obtain rfl := C_len gp1
 have HS := Hp.start w
 have H := Aside0.mk h
 clear h
 unfold laws_eqKeptS.f at H
 go_enter Tryz.func82, Tryz.ntmps82
 by_cases c1 : (a0.length : Int) = (a1.length : Int)
 case neg =>
  replace H := zneg c1 H
  have c1a := beq_eq_false_iff_ne.mpr c1
  have c1b := bne_iff_ne.mpr c1
  clear c1
  obtain rfl := zsome H
  go_wp2
  go_ret
  exact HS.pk
 replace H := zpos c1 H
 have c1a := beq_iff_eq.mpr c1
 have c1b := bne_eq_false_iff_eq.mpr c1
 clear c1
 go_wp2
 go_loopg [5] k (fun kq v_5 w' => ∃ (x5 : Int), v_5 = .int .i64 x5 ∧ Aside0 (laws_eqKeptS.l0 kq x5 a0 a1 = some r) ∧ Aside0 (kq ≤ k) ∧ Hp noFP w w' [])
 case atStart => exact ⟨_, rfl, H, ⟨Nat.le_refl _⟩, HS⟩
 case round =>
  clear HS H; (try clear F)
  obtain ⟨x5, rfl, H, HKk4, HS⟩ := hrel
  cases gk with
  | zero => exact absurd H.out (by simp [laws_eqKeptS.l0])
  | succ k4 =>
   simp only [laws_eqKeptS.l0] at H
   by_cases c7 : x5 < (a0.length : Int)
   case neg =>
    replace H := zneg c7 H
    replace c7 := eq_false c7
    obtain rfl := zsome H
    go_wp2
    go_ret
    exact HS.pk
   replace H := zpos c7 H
   replace c7 := eq_true c7
   (try go_wp2)
   obtain ⟨c102001, H⟩ := zgo H
   obtain ⟨c102002, H⟩ := zgo H
   obtain ⟨ad102999, rfl, e102999_0, e102999_1, e102999_2⟩ := at_T205 gp0 x5 (of_eq_true c102001) (of_eq_true c102002)
   obtain ⟨c106001, H⟩ := zgo H
   obtain ⟨ad106999, rfl, e106999_0, e106999_1, e106999_2⟩ := at_T205 gp1 x5 (of_eq_true c102001) (of_eq_true c106001)
   replace H := zbind H; obtain ⟨t108001, ht108001, H⟩ := H
   refine dr_start [] HS #[false, false, false, false, false, false, false, false, false, false] (by kernel_rfl) rfl rfl laws_eqKeptS.tT6 (fun w9 HT HS HH => ?_)
   (try clear F)
   refine drq_of [(0, some 17), (1, some 18), (2, some 19)] ?_
   repeat (refine drp HT ?_)
   refine drq_end ?_
   refine dr_take 3 (some 20) HT HH (v := ?_) (a' := ?_) rfl rfl (by kernel_rfl) (fun _ _ _ h => h) (.inl ⟨by rfl, ?_⟩) ?_ ?_
   rotate_left
   · rintro w' ⟨rs', HS'⟩; have e102999_0 := (HS'.keepc e102999_0); have e102999_1 := (HS'.keepc e102999_1); have e102999_2 := (HS'.keepc e102999_2); go_simp; with_reducible rfl
   rotate_left
   · simp only [Act.put, ptn]; rfl
   refine drq_of [(4, some 21), (5, some 22), (6, some 23)] ?_
   repeat (refine drp HT ?_)
   refine drq_end ?_
   refine dr_take 7 (some 24) HT HH (v := ?_) (a' := ?_) rfl rfl (by kernel_rfl) (fun _ _ _ h => h) (.inl ⟨by rfl, ?_⟩) ?_ ?_
   rotate_left
   · rintro w' ⟨rs', HS'⟩; have e106999_0 := (HS'.keepc e106999_0); have e106999_1 := (HS'.keepc e106999_1); have e106999_2 := (HS'.keepc e106999_2); go_simp; with_reducible rfl
   rotate_left
   · simp only [Act.put, ptn]; rfl
   refine dr1 8 HT fun K hK => ?_
   refine go_cl HS (laws_eqKept.calls ht108001.out) Tryz.func158 ?_; clear HS; (try clear F); intro wt108001 HS F
   refine nrm 25 hK ⟨_, HS⟩ (fun HH => ?_); clear hK K
   refine drq_of [(9, some 26)] ?_
   repeat (refine drp HT ?_)
   refine drq_end ?_
   refine done_ (done_of HT.out (by kernel_rfl)) ?_
   by_cases c11 : t108001 = true
   case neg =>
    replace H := zneg c11 H
    replace c11 := eq_false_of_ne_true c11
    subst c11
    (try simp only [dcn, if_true, Bool.false_eq_true, if_false])
    obtain rfl := zsome H
    go_wp2
    go_ret
    exact HS.pk
   replace H := zpos c11 H
   subst c11
   (try simp only [dcn, if_true, Bool.false_eq_true, if_false])
   go_wp2
   go_roundg k4
   case measure => have := HKk4.out; omega
   case rel => exact ⟨_, rfl, H, ⟨by have := HKk4.out; omega⟩, HS.pick [] (by decide) (by rfl)⟩
/-! ### laws_eqServer: function 20 -/
def laws_eqServer.f (k : Nat) (a0 : S46) (a1 : S46) : Option (Bool) := ((laws_eqStore.f k a0.f0 a1.f0).bind fun t5 => (if t5 = true then ((laws_eqPlanS.f k a0.f1 a1.f1).bind fun t8 => (if t8 = true then (if a0.f2 = a1.f2 then (if a0.f3 = a1.f3 then (if a0.f4 = a1.f4 then ((laws_eqKeptS.f k a0.f5 a1.f5).bind fun t14 => (if t14 = true then (some true) else (some false))) else (some false)) else (some false)) else (some false)) else (some false))) else (some false)))
set_option maxHeartbeats 16000000 in
theorem laws_eqServer.calls {k : Nat} {a0 : S46} {a1 : S46} {Ap0 : Option Addr} {np0 cp0 : Nat} {Ap1 : Option Addr} {np1 cp1 : Nat} {Ap2 : Option Addr} {np2 cp2 : Nat} {Ap3 : Option Addr} {np3 cp3 : Nat} {Ap4 : Option Addr} {np4 cp4 : Nat} {Ap5 : Option Addr} {np5 cp5 : Nat} {Ap6 : Option Addr} {np6 cp6 : Nat} {Ap7 : Option Addr} {np7 cp7 : Nat} {Ap8 : Option Addr} {np8 cp8 : Nat} {Ap9 : Option Addr} {np9 cp9 : Nat} {r : Bool} {w : World} (h : laws_eqServer.f k a0 a1 = some r) (gp0 : k91.C w Ap0 np0 a0.f0.f0) (lp0 : np0 ≤ cp0) (gp1 : k81.C w Ap1 np1 a0.f0.f1) (lp1 : np1 ≤ cp1) (gp2 : k115.C w Ap2 np2 a0.f0.f2) (lp2 : np2 ≤ cp2) (gp3 : k202.C w Ap3 np3 a0.f1) (lp3 : np3 ≤ cp3) (gp4 : k205.C w Ap4 np4 a0.f5) (lp4 : np4 ≤ cp4) (gp5 : k91.C w Ap5 np5 a1.f0.f0) (lp5 : np5 ≤ cp5) (gp6 : k81.C w Ap6 np6 a1.f0.f1) (lp6 : np6 ≤ cp6) (gp7 : k115.C w Ap7 np7 a1.f0.f2) (lp7 : np7 ≤ cp7) (gp8 : k202.C w Ap8 np8 a1.f1) (lp8 : np8 ≤ cp8) (gp9 : k205.C w Ap9 np9 a1.f5) (lp9 : np9 ≤ cp9) :
    Calls Tryz.prog 20 #[.agg #[.slice Ap0 np0 cp0, .slice Ap1 np1 cp1, .slice Ap2 np2 cp2, .slice Ap3 np3 cp3, .int .i64 a0.f2, .int .i64 a0.f3, .int .i64 a0.f4, .slice Ap4 np4 cp4], .agg #[.slice Ap5 np5 cp5, .slice Ap6 np6 cp6, .slice Ap7 np7 cp7, .slice Ap8 np8 cp8, .int .i64 a1.f2, .int .i64 a1.f3, .int .i64 a1.f4, .slice Ap9 np9 cp9]] w (fun e w' => e = .returned (.bool r) ∧ Hp noFP w w' []) := by
 obtain rfl := C_len gp0
 obtain rfl := C_len gp1
 obtain rfl := C_len gp2
 obtain rfl := C_len gp3
 obtain rfl := C_len gp4
 obtain rfl := C_len gp5
 obtain rfl := C_len gp6
 obtain rfl := C_len gp7
 obtain rfl := C_len gp8
 obtain rfl := C_len gp9
 have HS := Hp.start w
 have H := Aside0.mk h
 clear h
 unfold laws_eqServer.f at H
 go_enter Tryz.func20, Tryz.ntmps20
 replace H := zbind H; obtain ⟨t5, ht5, H⟩ := H
 go_upto_if 10 with (first | ((with_reducible refine gate_dst (N := 2) rfl ?_); refine ev_bx HS ?_; clear HS; (try clear F); intro g2 w2 HS F) | ((with_reducible refine gate_dst (N := 3) rfl ?_); refine ev_bx HS ?_; clear HS; (try clear F); intro g3 w3 HS F) | ((with_reducible refine gate_dst (N := 9) rfl ?_); refine ev_cl HS (laws_eqStore.calls ht5.out (HS.ro gp0) lp0 (HS.ro gp1) lp1 (HS.ro gp2) lp2 (HS.ro gp5) lp5 (HS.ro gp6) lp6 (HS.ro gp7) lp7) Tryz.func15 ?_; clear HS; (try clear F); intro wt5 HS F))
 by_cases c7 : t5 = true
 case neg =>
  replace H := zneg c7 H
  replace c7 := eq_false_of_ne_true c7
  subst c7
  (try simp only [dcn, if_true, Bool.false_eq_true, if_false])
  obtain rfl := zsome H
  go_wp2
  go_ret
  exact HS.pk
 replace H := zpos c7 H
 subst c7
 (try simp only [dcn, if_true, Bool.false_eq_true, if_false])
 replace H := zbind H; obtain ⟨t8, ht8, H⟩ := H
 go_upto_if 16 with (first | ((with_reducible refine gate_dst (N := 15) rfl ?_); refine ev_cl HS (laws_eqPlanS.calls ht8.out (HS.ro gp3) lp3 (HS.ro gp8) lp8) Tryz.func81 ?_; clear HS; (try clear F); intro wt8 HS F))
 by_cases c10 : t8 = true
 case neg =>
  replace H := zneg c10 H
  replace c10 := eq_false_of_ne_true c10
  subst c10
  (try simp only [dcn, if_true, Bool.false_eq_true, if_false])
  obtain rfl := zsome H
  go_wp2
  go_ret
  exact HS.pk
 replace H := zpos c10 H
 subst c10
 (try simp only [dcn, if_true, Bool.false_eq_true, if_false])
 by_cases c11 : a0.f2 = a1.f2
 case neg =>
  replace H := zneg c11 H
  have c11a := beq_eq_false_iff_ne.mpr c11
  have c11b := bne_iff_ne.mpr c11
  clear c11
  obtain rfl := zsome H
  go_wp2
  go_ret
  exact HS.pk
 replace H := zpos c11 H
 have c11a := beq_iff_eq.mpr c11
 have c11b := bne_eq_false_iff_eq.mpr c11
 clear c11
 by_cases c12 : a0.f3 = a1.f3
 case neg =>
  replace H := zneg c12 H
  have c12a := beq_eq_false_iff_ne.mpr c12
  have c12b := bne_iff_ne.mpr c12
  clear c12
  obtain rfl := zsome H
  go_wp2
  go_ret
  exact HS.pk
 replace H := zpos c12 H
 have c12a := beq_iff_eq.mpr c12
 have c12b := bne_eq_false_iff_eq.mpr c12
 clear c12
 by_cases c13 : a0.f4 = a1.f4
 case neg =>
  replace H := zneg c13 H
  have c13a := beq_eq_false_iff_ne.mpr c13
  have c13b := bne_iff_ne.mpr c13
  clear c13
  obtain rfl := zsome H
  go_wp2
  go_ret
  exact HS.pk
 replace H := zpos c13 H
 have c13a := beq_iff_eq.mpr c13
 have c13b := bne_eq_false_iff_eq.mpr c13
 clear c13
 replace H := zbind H; obtain ⟨t14, ht14, H⟩ := H
 go_upto_if 37 with (first | ((with_reducible refine gate_dst (N := 36) rfl ?_); refine ev_cl HS (laws_eqKeptS.calls ht14.out (HS.ro gp4) lp4 (HS.ro gp9) lp9) Tryz.func82 ?_; clear HS; (try clear F); intro wt14 HS F))
 by_cases c16 : t14 = true
 case pos =>
  replace H := zpos c16 H
  subst c16
  (try simp only [dcn, if_true, Bool.false_eq_true, if_false])
  obtain rfl := zsome H
  go_wp2
  go_ret
  exact HS.pk
 replace H := zneg c16 H
 replace c16 := eq_false_of_ne_true c16
 subst c16
 (try simp only [dcn, if_true, Bool.false_eq_true, if_false])
 obtain rfl := zsome H
 go_wp2
 go_ret
 exact HS.pk
/-! ### laws_FnExactServerOk: function 4 -/
def laws_FnExactServerOk.f (k : Nat) (a0 : S40) : Option (Bool) := ((laws_szServer.f k a0 1048576).bind fun t3 => (if t3 < 0 then (some true) else ((laws_toServer.f k a0).bind fun t6 => ((spec_ServerOk.f k t6).bind fun t13 => ((laws_toServer.f k a0).bind fun t15 => ((impl_ServerOk.f k t15).bind fun t26 => (if t26 = t13 then ((laws_toServer.f k a0).bind fun t102001 => ((laws_eqServer.f k t15 t102001).bind fun t103001 => (if t103001 = true then (some true) else (some false)))) else (some false))))))))
def laws_FnExactServerOk.T10 : Bool × List (List Nat × List Nat) := (true, [([], []), ([], []), ([1], [1]), ([0, 2, 2], [0, 2]), ([3], [3])])
theorem laws_FnExactServerOk.tT10 : rtab .any (opsOf Tryz.f4 10) = laws_FnExactServerOk.T10 := by kernel_rfl
set_option maxHeartbeats 16000000 in
theorem laws_FnExactServerOk.calls {k : Nat} {a0 : S40} {Ap0 : Option Addr} {np0 cp0 : Nat} {Ap1 : Option Addr} {np1 cp1 : Nat} {Ap2 : Option Addr} {np2 cp2 : Nat} {Ap3 : Option Addr} {np3 cp3 : Nat} {Ap4 : Option Addr} {np4 cp4 : Nat} {mG : Int} {r : Bool} {w : World} (h : laws_FnExactServerOk.f k a0 = some r) (gp0 : k88.C w Ap0 np0 a0.f0.f0) (lp0 : np0 ≤ cp0) (gp1 : k75.C w Ap1 np1 a0.f0.f1) (lp1 : np1 ≤ cp1) (gp2 : k178.C w Ap2 np2 a0.f0.f2) (lp2 : np2 ≤ cp2) (gp3 : k196.C w Ap3 np3 a0.f1) (lp3 : np3 ≤ cp3) (gp4 : k199.C w Ap4 np4 a0.f5) (lp4 : np4 ≤ cp4) (hgM : w.cell? ⟨0, 0, none⟩ = some (.int .i64 mG)) :
    Calls Tryz.prog 4 #[.agg #[.slice Ap0 np0 cp0, .slice Ap1 np1 cp1, .slice Ap2 np2 cp2, .slice Ap3 np3 cp3, .int .i64 a0.f2, .int .i64 a0.f3, .int .i64 a0.f4, .slice Ap4 np4 cp4]] w (fun e w' => e = .returned (.bool r) ∧ Hp noFP w w' []) := by
 obtain rfl := C_len gp0
 obtain rfl := C_len gp1
 obtain rfl := C_len gp2
 obtain rfl := C_len gp3
 obtain rfl := C_len gp4
 have HS := Hp.start w
 have H := Aside0.mk h
 clear h
 unfold laws_FnExactServerOk.f at H
 go_enter Tryz.func4, Tryz.ntmps4
 replace H := zbind H; obtain ⟨t3, ht3, H⟩ := H
 go_upto_if 11 with (first | ((with_reducible refine gate_dst (N := 1) rfl ?_); refine ev_bx HS ?_; clear HS; (try clear F); intro g1 w1 HS F) | ((with_reducible refine gate_dst (N := 9) rfl ?_); refine ev_cl HS (laws_szServer.calls ht3.out (HS.ro gp0) lp0 (HS.ro gp1) lp1 (HS.ro gp2) lp2 (HS.ro gp3) lp3 (HS.ro gp4) lp4) Tryz.func16 ?_; clear HS; (try clear F); intro wt3 HS F))
 by_cases c5 : t3 < 0
 case pos =>
  replace H := zpos c5 H
  replace c5 := eq_true c5
  (try simp only [c5, dcn])
  obtain rfl := zsome H
  go_wp2
  go_ret
  exact HS.pk
 replace H := zneg c5 H
 replace c5 := eq_false c5
 (try simp only [c5, dcn])
 replace H := zbind H; obtain ⟨t6, ht6, H⟩ := H
 replace H := zbind H; obtain ⟨t13, ht13, H⟩ := H
 replace H := zbind H; obtain ⟨t15, ht15, H⟩ := H
 replace H := zbind H; obtain ⟨t26, ht26, H⟩ := H
 go_upto_if 21 with (first | ((with_reducible refine gate_dst (N := 13) rfl ?_); refine ev_call rfl Tryz.func18 (by kernel_rfl) rfl #[.agg #[.slice Ap0 a0.f0.f0.length cp0, .slice Ap1 a0.f0.f1.length cp1, .slice Ap2 a0.f0.f2.length cp2, .slice Ap3 a0.f1.length cp3, .int .i64 a0.f2, .int .i64 a0.f3, .int .i64 a0.f4, .slice Ap4 a0.f5.length cp4]] rfl (by simp only [mpn]; rfl) ?_; refine (laws_toServer.calls ht6.out (HS.ro gp0) lp0 (HS.ro gp1) lp1 (HS.ro gp2) lp2 (HS.ro gp3) lp3 (HS.ro gp4) lp4).mono ?_; rintro _ wt6 ⟨v7, v8, v9, v10, v11, rfl, HQ⟩; refine ⟨_, rfl, ?_⟩; replace HS := HS.call HQ; clear HQ; (try clear F); obtain ⟨B7, d7, rfl, m7⟩ := HS.form 1 rfl; obtain ⟨B8, d8, rfl, m8⟩ := HS.form 2 rfl; obtain ⟨B9, d9, rfl, m9⟩ := HS.form 3 rfl; obtain ⟨B10, d10, rfl, m10⟩ := HS.form 4 rfl; obtain ⟨B11, d11, rfl, m11⟩ := HS.form 5 rfl; (try simp only [hpn, hpm] at HS); have F := HS.boxes; simp only [bxn] at F) | ((with_reducible refine gate_dst (N := 14) rfl ?_); refine ev_cl HS (spec_ServerOk.calls ht13.out (HS.rd 1 rfl) m7 (HS.rd 2 rfl) m8 (HS.rd 3 rfl) m9 (HS.rd 4 rfl) m10 (HS.rd 5 rfl) m11) Tryz.func17 ?_; clear HS; (try clear F); intro wt13 HS F) | ((with_reducible refine gate_dst (N := 16) rfl ?_); refine ev_call rfl Tryz.func18 (by kernel_rfl) rfl #[.agg #[.slice Ap0 a0.f0.f0.length cp0, .slice Ap1 a0.f0.f1.length cp1, .slice Ap2 a0.f0.f2.length cp2, .slice Ap3 a0.f1.length cp3, .int .i64 a0.f2, .int .i64 a0.f3, .int .i64 a0.f4, .slice Ap4 a0.f5.length cp4]] rfl (by simp only [mpn]; rfl) ?_; refine (laws_toServer.calls ht15.out (HS.ro gp0) lp0 (HS.ro gp1) lp1 (HS.ro gp2) lp2 (HS.ro gp3) lp3 (HS.ro gp4) lp4).mono ?_; rintro _ wt15 ⟨v16, v17, v18, v19, v20, rfl, HQ⟩; refine ⟨_, rfl, ?_⟩; replace HS := HS.call HQ; clear HQ; (try clear F); obtain ⟨B16, d16, rfl, m16⟩ := HS.form 6 rfl; obtain ⟨B17, d17, rfl, m17⟩ := HS.form 7 rfl; obtain ⟨B18, d18, rfl, m18⟩ := HS.form 8 rfl; obtain ⟨B19, d19, rfl, m19⟩ := HS.form 9 rfl; obtain ⟨B20, d20, rfl, m20⟩ := HS.form 10 rfl; (try simp only [hpn, hpm] at HS); have F := HS.boxes; simp only [bxn] at F) | ((with_reducible refine gate_dst (N := 5) rfl ?_); refine ev_bx HS ?_; clear HS; (try clear F); intro g5 w5 HS F) | ((with_reducible refine gate_store (p := 5) rfl ?_); refine ev_st 11 0 HS (seg := [.slice B16 t15.f0.f0.length d16, .slice B17 t15.f0.f1.length d17, .slice B18 t15.f0.f2.length d18, .slice B19 t15.f1.length d19, .int .i64 t15.f2, .int .i64 t15.f3, .int .i64 t15.f4, .slice B20 t15.f5.length d20]) ?_; clear HS; (try clear F); intro w24 HS F) | ((with_reducible refine gate_dst (N := 18) rfl ?_); refine ev_cl HS (impl_ServerOk.calls ht26.out (HS.rd 6 rfl) m16 (HS.rd 7 rfl) m17 (HS.rd 8 rfl) m18 (HS.rd 9 rfl) m19 (HS.rd 10 rfl) m20 (HS.keepc hgM)) Tryz.func19 ?_; clear HS; (try clear F); intro wt26 HS F))
 by_cases c28 : t26 = t13
 case neg =>
  replace H := zneg c28 H
  have c28a := beq_eq_false_iff_ne.mpr c28
  have c28b := bne_iff_ne.mpr c28
  clear c28
  (try simp only [c28a, c28b, dcn])
  obtain rfl := zsome H
  go_wp2
  go_ret
  exact HS.pk
 replace H := zpos c28 H
 have c28a := beq_iff_eq.mpr c28
 have c28b := bne_eq_false_iff_eq.mpr c28
 clear c28
 (try simp only [c28a, c28b, dcn])
 (try go_wp2)
 replace H := zbind H; obtain ⟨t102001, ht102001, H⟩ := H
 replace H := zbind H; obtain ⟨t103001, ht103001, H⟩ := H
 refine dr_start [] HS #[false, false, false, false, false] (by kernel_rfl) rfl rfl laws_FnExactServerOk.tT10 (fun w30 HT HS HH => ?_)
 (try clear F)
 refine drq_of [(0, some 22), (1, some 23)] ?_
 repeat (refine drt HT HH ?_)
 refine drq_end ?_
 refine dr1 2 HT fun K hK => ?_
 refine goes_ Tryz.func18 (by kernel_rfl) rfl #[.agg #[.slice Ap0 a0.f0.f0.length cp0, .slice Ap1 a0.f0.f1.length cp1, .slice Ap2 a0.f0.f2.length cp2, .slice Ap3 a0.f1.length cp3, .int .i64 a0.f2, .int .i64 a0.f3, .int .i64 a0.f4, .slice Ap4 a0.f5.length cp4]] (by rfl) rfl rfl (by simp only [mpn]; rfl) ?_; refine (laws_toServer.calls ht102001.out (HS.ro gp0) lp0 (HS.ro gp1) lp1 (HS.ro gp2) lp2 (HS.ro gp3) lp3 (HS.ro gp4) lp4).mono ?_; rintro _ wt102001 ⟨v102002, v102003, v102004, v102005, v102006, rfl, HQ⟩; refine ⟨_, rfl, ?_⟩; replace HS := HS.call HQ; clear HQ; (try clear F); obtain ⟨B102002, d102002, rfl, m102002⟩ := HS.form 12 rfl; obtain ⟨B102003, d102003, rfl, m102003⟩ := HS.form 13 rfl; obtain ⟨B102004, d102004, rfl, m102004⟩ := HS.form 14 rfl; obtain ⟨B102005, d102005, rfl, m102005⟩ := HS.form 15 rfl; obtain ⟨B102006, d102006, rfl, m102006⟩ := HS.form 16 rfl
 (try simp only [hpn, hpm] at HS)
 have F := HS.boxes; simp only [bxn] at F
 refine nrm 24 hK ⟨_, HS⟩ (fun HH => ?_); clear hK K
 refine dr1 3 HT fun K hK => ?_
 refine go_cl HS (laws_eqServer.calls ht103001.out (HS.rd 6 rfl) m16 (HS.rd 7 rfl) m17 (HS.rd 8 rfl) m18 (HS.rd 9 rfl) m19 (HS.rd 10 rfl) m20 (HS.rd 12 rfl) m102002 (HS.rd 13 rfl) m102003 (HS.rd 14 rfl) m102004 (HS.rd 15 rfl) m102005 (HS.rd 16 rfl) m102006) Tryz.func20 ?_; clear HS; (try clear F); intro wt103001 HS F
 refine nrm 25 hK ⟨_, HS⟩ (fun HH => ?_); clear hK K
 refine drq_of [(4, some 26)] ?_
 repeat (refine drp HT ?_)
 refine drq_end ?_
 refine done_ (done_of HT.out (by kernel_rfl)) ?_
 (try clear F)
 have F := HS.boxes; simp only [bxn] at F
 by_cases c32 : t103001 = true
 case pos =>
  replace H := zpos c32 H
  subst c32
  (try simp only [dcn, if_true, Bool.false_eq_true, if_false])
  obtain rfl := zsome H
  go_wp2
  go_ret
  exact HS.pk
 replace H := zneg c32 H
 replace c32 := eq_false_of_ne_true c32
 subst c32
 (try simp only [dcn, if_true, Bool.false_eq_true, if_false])
 obtain rfl := zsome H
 go_wp2
 go_ret
 exact HS.pk
end Go.Proofs.YtacocpknielofaaGreatDoor.F

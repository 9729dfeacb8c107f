/- Functions of the program and of the law, and that their calls do what is written here. -/
import Derived.Test.YtacocpknielofaaGreatDoorZgFnExactLearnb
namespace Go.Proofs.YtacocpknielofaaGreatDoor.F
open Go.RowKit YtacocpknielofaaGreatDoorW.PrintWords YtacocpknielofaaGreatDoorW.PrintLast YtacocpknielofaaGreatDoorW.PrintMore Z
attribute [local go_sem] max2_int min2_int max_two min_two max_three min_three max_four min_four
set_option linter.unusedVariables false
set_option linter.unusedSimpArgs false
set_option maxRecDepth 100000
set_option maxHeartbeats 16000000
def laws_heldCrlS.l0 : Nat → Int → Int → (List S81) → Option (Int)
  | 0, _, _, _ => none
  | k + 1, x9, x10, a0 => (if x10 < (a0.length : Int) then (if 0 ≤ x10 then (if x10 < (a0.length : Int) then ((laws_markText.f k x9).bind fun t15 => (if ((rd_T81 a0 x10).f0).toList = t15.toList then (if (rd_T81 a0 x10).f1 = (wrap64 (x9 + 1)) then (if (rd_T81 a0 x10).f2 = (wrap64 ((wrap64 (x9 + 1)) + 1)) then (if (rd_T81 a0 x10).f3 = (wrap64 ((wrap64 ((wrap64 (x9 + 1)) + 1)) + 1)) then (if (rd_T81 a0 x10).f4 = (wrap64 ((wrap64 ((wrap64 ((wrap64 (x9 + 1)) + 1)) + 1)) + 1)) then ((laws_heldRevS.f k ((rd_T81 a0 x10).f5) (wrap64 ((wrap64 ((wrap64 ((wrap64 ((wrap64 (x9 + 1)) + 1)) + 1)) + 1)) + 1))).bind fun t26 => (if t26 < 0 then (some (-1)) else ((laws_markText.f k t26).bind fun t17 => (if ((rd_T81 a0 x10).f6).toList = t17.toList then (laws_heldCrlS.l0 k (wrap64 (t26 + 1)) (wrap64 (x10 + 1)) a0) else (some (-1)))))) else (some (-1))) else (some (-1))) else (some (-1))) else (some (-1))) else (some (-1)))) else none) else none) else (some x9))
def laws_heldCrlS.f (k : Nat) (a0 : (List S81)) (a1 : Int) : Option (Int) := (laws_heldCrlS.l0 k a1 0 a0)
def laws_heldCrlS.T4 : TT := (true, [([], []), ([], []), ([0, 1], [0, 1]), ([2], [2]), ([3], [3]), ([], []), ([5], [5]), ([4, 6], [4, 6])])
theorem laws_heldCrlS.tT4 : rtab .any (opsOf Tryz.f116 4) = laws_heldCrlS.T4 := by kernel_rfl
def laws_heldCrlS.T22 : TT := (true, [([], []), ([], []), ([0, 1], [0, 1]), ([2], [2]), ([3], [3]), ([], []), ([5], [5]), ([4, 6], [4, 6])])
theorem laws_heldCrlS.tT22 : rtab .any (opsOf Tryz.f116 22) = laws_heldCrlS.T22 := by kernel_rfl
theorem laws_heldCrlS.calls {k : Nat} {a0 : (List S81)} {a1 : Int} {Ap0 : Option Addr} {np0 cp0 : Nat} {r : Int} {w : World} (h : laws_heldCrlS.f k a0 a1 = some r) (gp0 : k81.C w Ap0 np0 a0) (lp0 : np0 ≤ cp0) :
    Calls Tryz.prog 116 #[.slice Ap0 np0 cp0, .int .i64 a1] w (fun e w' => e = .returned (.int .i64 r) ∧ Hp noFP w w' []) := by
 obtain rfl := C_len gp0
 have HS := Hp.start w
 have H := Aside0.mk h
 clear h
 unfold laws_heldCrlS.f at H
 go_enter Tryz.func116, Tryz.ntmps116
 go_wp2
 go_loopg [1, 5] k (fun kq v_1 v_5 w' => ∃ (x9 : Int) (x10 : Int), v_1 = .int .i64 x9 ∧ v_5 = .int .i64 x10 ∧ Aside0 (laws_heldCrlS.l0 kq x9 x10 a0 = some r) ∧ Aside0 (kq ≤ k) ∧ Hp noFP w w' [])
 case atStart => exact ⟨_, _, rfl, rfl, H, ⟨Nat.le_refl _⟩, HS⟩
 case round =>
  clear HS H; (try clear F)
  obtain ⟨x9, x10, rfl, rfl, H, HKk8, HS⟩ := hrel
  cases gk with
  | zero => exact absurd H.out (by simp [laws_heldCrlS.l0])
  | succ k8 =>
   simp only [laws_heldCrlS.l0] at H
   replace H := znif H; rcases H with ⟨c12, H⟩ | ⟨c12, H⟩
   case inl =>
    obtain rfl := zsome H
    go_wp2
    go_ret
    exact HS.pk
   (try go_wp2)
   replace H := zgo H; obtain ⟨c7, H⟩ := H
   replace H := zgo H; obtain ⟨c11, H⟩ := H
   obtain ⟨ad13, B13_5, d13_5, rfl, e13_0, e13_1, e13_2, e13_3, e13_4, e13_5, e13_6, m13_5, y13_5⟩ := at_T81 gp0 x10 (of_eq_true c7) (of_eq_true c11)
   replace H := zbind H; obtain ⟨t15, ht15, H⟩ := H
   refine dr_start [] HS #[false, false, false, false, false, false, false, false] (by kernel_rfl) rfl rfl laws_heldCrlS.tT4 (fun w14 HT HS HH => ?_)
   (try clear F)
   refine drq_of [(0, some 12), (1, some 13), (2, some 14), (3, some 15)] ?_
   repeat (refine drp HT ?_)
   refine drq_end ?_
   refine dr_take 4 (some 16) HT HH (v := ?_) (a' := ?_) rfl rfl (by kernel_rfl) (fun _ _ _ h => h) (.inl ⟨by rfl, ?_⟩) ?_ ?_
   rotate_left
   · rintro w' ⟨rs', HS'⟩; have e13_0 := HS'.keepc e13_0; have e13_1 := HS'.keepc e13_1; have e13_2 := HS'.keepc e13_2; have e13_3 := HS'.keepc e13_3; have e13_4 := HS'.keepc e13_4; have e13_5 := HS'.keepc e13_5; have e13_6 := HS'.keepc e13_6; go_simp; with_reducible rfl
   rotate_left
   · simp only [Act.put, ptn]; rfl
   refine drq_of [(5, some 17)] ?_
   repeat (refine drp HT ?_)
   refine drq_end ?_
   refine dr1 6 HT fun K hK => ?_
   refine go_cl HS (laws_markText.calls ht15.out) Tryz.func180 ?_; clear HS; intro wt15 HS F
   refine nrm 18 hK ⟨_, HS⟩ (fun HH => ?_); clear hK K
   refine drq_of [(7, some 19)] ?_
   repeat (refine drp HT ?_)
   refine drq_end ?_
   refine done_ (done_of HT.out (by kernel_rfl)) ?_
   replace H := znif' H; rcases H with ⟨c16, H⟩ | ⟨c16, H⟩
   case inl =>
    have c16a := beq_eq_false_iff_ne.mpr c16
    have c16b := bne_iff_ne.mpr c16
    clear c16
    (try simp only [c16a, c16b, dcn])
    obtain rfl := zsome H
    go_wp2
    go_ret
    exact HS.pk
   have c16a := beq_iff_eq.mpr c16
   have c16b := bne_eq_false_iff_eq.mpr c16
   clear c16
   (try simp only [c16a, c16b, dcn])
   have e13_0_17 := HS.keepc e13_0
   have e13_1_17 := HS.keepc e13_1
   have e13_2_17 := HS.keepc e13_2
   have e13_3_17 := HS.keepc e13_3
   have e13_4_17 := HS.keepc e13_4
   have e13_5_17 := HS.keepc e13_5
   have e13_6_17 := HS.keepc e13_6
   replace H := znif' H; rcases H with ⟨c18, H⟩ | ⟨c18, H⟩
   case inl =>
    have c18a := beq_eq_false_iff_ne.mpr c18
    have c18b := bne_iff_ne.mpr c18
    clear c18
    (try simp only [c18a, c18b, dcn])
    obtain rfl := zsome H
    go_wp2
    go_ret
    exact HS.pk
   have c18a := beq_iff_eq.mpr c18
   have c18b := bne_eq_false_iff_eq.mpr c18
   clear c18
   (try simp only [c18a, c18b, dcn])
   have e13_0_19 := HS.keepc e13_0
   have e13_1_19 := HS.keepc e13_1
   have e13_2_19 := HS.keepc e13_2
   have e13_3_19 := HS.keepc e13_3
   have e13_4_19 := HS.keepc e13_4
   have e13_5_19 := HS.keepc e13_5
   have e13_6_19 := HS.keepc e13_6
   replace H := znif' H; rcases H with ⟨c20, H⟩ | ⟨c20, H⟩
   case inl =>
    have c20a := beq_eq_false_iff_ne.mpr c20
    have c20b := bne_iff_ne.mpr c20
    clear c20
    (try simp only [c20a, c20b, dcn])
    obtain rfl := zsome H
    go_wp2
    go_ret
    exact HS.pk
   have c20a := beq_iff_eq.mpr c20
   have c20b := bne_eq_false_iff_eq.mpr c20
   clear c20
   (try simp only [c20a, c20b, dcn])
   have e13_0_21 := HS.keepc e13_0
   have e13_1_21 := HS.keepc e13_1
   have e13_2_21 := HS.keepc e13_2
   have e13_3_21 := HS.keepc e13_3
   have e13_4_21 := HS.keepc e13_4
   have e13_5_21 := HS.keepc e13_5
   have e13_6_21 := HS.keepc e13_6
   replace H := znif' H; rcases H with ⟨c22, H⟩ | ⟨c22, H⟩
   case inl =>
    have c22a := beq_eq_false_iff_ne.mpr c22
    have c22b := bne_iff_ne.mpr c22
    clear c22
    (try simp only [c22a, c22b, dcn])
    obtain rfl := zsome H
    go_wp2
    go_ret
    exact HS.pk
   have c22a := beq_iff_eq.mpr c22
   have c22b := bne_eq_false_iff_eq.mpr c22
   clear c22
   (try simp only [c22a, c22b, dcn])
   have e13_0_23 := HS.keepc e13_0
   have e13_1_23 := HS.keepc e13_1
   have e13_2_23 := HS.keepc e13_2
   have e13_3_23 := HS.keepc e13_3
   have e13_4_23 := HS.keepc e13_4
   have e13_5_23 := HS.keepc e13_5
   have e13_6_23 := HS.keepc e13_6
   replace H := znif' H; rcases H with ⟨c24, H⟩ | ⟨c24, H⟩
   case inl =>
    have c24a := beq_eq_false_iff_ne.mpr c24
    have c24b := bne_iff_ne.mpr c24
    clear c24
    (try simp only [c24a, c24b, dcn])
    obtain rfl := zsome H
    go_wp2
    go_ret
    exact HS.pk
   have c24a := beq_iff_eq.mpr c24
   have c24b := bne_eq_false_iff_eq.mpr c24
   clear c24
   (try simp only [c24a, c24b, dcn])
   have e13_0_25 := HS.keepc e13_0
   have e13_1_25 := HS.keepc e13_1
   have e13_2_25 := HS.keepc e13_2
   have e13_3_25 := HS.keepc e13_3
   have e13_4_25 := HS.keepc e13_4
   have e13_5_25 := HS.keepc e13_5
   have e13_6_25 := HS.keepc e13_6
   replace H := zbind H; obtain ⟨t26, ht26, H⟩ := H
   go_upto_if 66 with ((with_reducible refine gd 64 rfl ?_); refine ev_cl HS (laws_heldRevS.calls ht26.out (HS.ro y13_5) m13_5) Tryz.func183 ?_; clear HS; intro wt26 HS F)
   replace H := zif H; rcases H with ⟨c28, H⟩ | ⟨c28, H⟩
   case inl =>
    (try simp only [c28, dcn])
    obtain rfl := zsome H
    go_wp2
    go_ret
    exact HS.pk
   (try simp only [c28, dcn])
   (try go_wp2)
   replace H := zbind H; obtain ⟨t17, ht17, H⟩ := H
   refine dr_start [] HS #[false, false, false, false, false, false, false, false] (by kernel_rfl) rfl rfl laws_heldCrlS.tT22 (fun w30 HT HS HH => ?_)
   (try clear F)
   refine drq_of [(0, some 67), (1, some 68), (2, some 69), (3, some 70)] ?_
   repeat (refine drp HT ?_)
   refine drq_end ?_
   refine dr_take 4 (some 71) HT HH (v := ?_) (a' := ?_) rfl rfl (by kernel_rfl) (fun _ _ _ h => h) (.inl ⟨by rfl, ?_⟩) ?_ ?_
   rotate_left
   · rintro w' ⟨rs', HS'⟩; have e13_0 := HS'.keepc e13_0; have e13_1 := HS'.keepc e13_1; have e13_2 := HS'.keepc e13_2; have e13_3 := HS'.keepc e13_3; have e13_4 := HS'.keepc e13_4; have e13_5 := HS'.keepc e13_5; have e13_6 := HS'.keepc e13_6; go_simp; with_reducible rfl
   rotate_left
   · simp only [Act.put, ptn]; rfl
   refine drq_of [(5, some 72)] ?_
   repeat (refine drp HT ?_)
   refine drq_end ?_
   refine dr1 6 HT fun K hK => ?_
   refine go_cl HS (laws_markText.calls ht17.out) Tryz.func180 ?_; clear HS; intro wt17 HS F
   refine nrm 73 hK ⟨_, HS⟩ (fun HH => ?_); clear hK K
   refine drq_of [(7, some 74)] ?_
   repeat (refine drp HT ?_)
   refine drq_end ?_
   refine done_ (done_of HT.out (by kernel_rfl)) ?_
   replace H := znif' H; rcases H with ⟨c32, H⟩ | ⟨c32, H⟩
   case inl =>
    have c32a := beq_eq_false_iff_ne.mpr c32
    have c32b := bne_iff_ne.mpr c32
    clear c32
    (try simp only [c32a, c32b, dcn])
    obtain rfl := zsome H
    go_wp2
    go_ret
    exact HS.pk
   have c32a := beq_iff_eq.mpr c32
   have c32b := bne_eq_false_iff_eq.mpr c32
   clear c32
   (try simp only [c32a, c32b, dcn])
   go_wp2
   go_roundg k8
   case measure => have := HKk8.out; omega
   case rel => exact ⟨_, _, rfl, rfl, H, ⟨by have := HKk8.out; omega⟩, HS.pick [] (by decide) (by rfl)⟩
def laws_heldAnchorS.l0 : Nat → Int → Int → (List S115) → Option (Int)
  | 0, _, _, _ => none
  | k + 1, x9, x10, a0 => (if x10 < (a0.length : Int) then (if 0 ≤ x10 then (if x10 < (a0.length : Int) then ((laws_markText.f k x9).bind fun t13 => (if ((rd_T115 a0 x10).f0).toList = t13.toList then ((laws_markText.f k (wrap64 (x9 + 1))).bind fun t15 => (if ((rd_T115 a0 x10).f1).toList = t15.toList then (laws_heldAnchorS.l0 k (wrap64 ((wrap64 (x9 + 1)) + 1)) (wrap64 (x10 + 1)) a0) else (some (-1)))) else (some (-1)))) else none) else none) else (some x9))
def laws_heldAnchorS.f (k : Nat) (a0 : (List S115)) (a1 : Int) : Option (Int) := (laws_heldAnchorS.l0 k a1 0 a0)
def laws_heldAnchorS.T4 : TT := (true, [([], []), ([], []), ([0, 1], [0, 1]), ([2], [2]), ([3], [3]), ([], []), ([5], [5]), ([4, 6], [4, 6])])
theorem laws_heldAnchorS.tT4 : rtab .any (opsOf Tryz.f117 4) = laws_heldAnchorS.T4 := by kernel_rfl
def laws_heldAnchorS.T7 : TT := (true, [([], []), ([], []), ([0, 1], [0, 1]), ([2], [2]), ([3], [3]), ([], []), ([5], [5]), ([4, 6], [4, 6])])
theorem laws_heldAnchorS.tT7 : rtab .any (opsOf Tryz.f117 7) = laws_heldAnchorS.T7 := by kernel_rfl
theorem laws_heldAnchorS.calls {k : Nat} {a0 : (List S115)} {a1 : Int} {Ap0 : Option Addr} {np0 cp0 : Nat} {r : Int} {w : World} (h : laws_heldAnchorS.f k a0 a1 = some r) (gp0 : k115.C w Ap0 np0 a0) (lp0 : np0 ≤ cp0) :
    Calls Tryz.prog 117 #[.slice Ap0 np0 cp0, .int .i64 a1] w (fun e w' => e = .returned (.int .i64 r) ∧ Hp noFP w w' []) := by
 obtain rfl := C_len gp0
 have HS := Hp.start w
 have H := Aside0.mk h
 clear h
 unfold laws_heldAnchorS.f at H
 go_enter Tryz.func117, Tryz.ntmps117
 go_wp2
 go_loopg [1, 5] k (fun kq v_1 v_5 w' => ∃ (x9 : Int) (x10 : Int), v_1 = .int .i64 x9 ∧ v_5 = .int .i64 x10 ∧ Aside0 (laws_heldAnchorS.l0 kq x9 x10 a0 = some r) ∧ Aside0 (kq ≤ k) ∧ Hp noFP w w' [])
 case atStart => exact ⟨_, _, rfl, rfl, H, ⟨Nat.le_refl _⟩, HS⟩
 case round =>
  clear HS H; (try clear F)
  obtain ⟨x9, x10, rfl, rfl, H, HKk8, HS⟩ := hrel
  cases gk with
  | zero => exact absurd H.out (by simp [laws_heldAnchorS.l0])
  | succ k8 =>
   simp only [laws_heldAnchorS.l0] at H
   replace H := znif H; rcases H with ⟨c12, H⟩ | ⟨c12, H⟩
   case inl =>
    obtain rfl := zsome H
    go_wp2
    go_ret
    exact HS.pk
   (try go_wp2)
   replace H := zgo H; obtain ⟨c3, H⟩ := H
   replace H := zgo H; obtain ⟨c6, H⟩ := H
   obtain ⟨ad11, rfl, e11_0, e11_1⟩ := at_T115 gp0 x10 (of_eq_true c3) (of_eq_true c6)
   replace H := zbind H; obtain ⟨t13, ht13, H⟩ := H
   refine dr_start [] HS #[false, false, false, false, false, false, false, false] (by kernel_rfl) rfl rfl laws_heldAnchorS.tT4 (fun w14 HT HS HH => ?_)
   (try clear F)
   refine drq_of [(0, some 12), (1, some 13), (2, some 14), (3, some 15)] ?_
   repeat (refine drp HT ?_)
   refine drq_end ?_
   refine dr_take 4 (some 16) HT HH (v := ?_) (a' := ?_) rfl rfl (by kernel_rfl) (fun _ _ _ h => h) (.inl ⟨by rfl, ?_⟩) ?_ ?_
   rotate_left
   · rintro w' ⟨rs', HS'⟩; have e11_0 := HS'.keepc e11_0; have e11_1 := HS'.keepc e11_1; go_simp; with_reducible rfl
   rotate_left
   · simp only [Act.put, ptn]; rfl
   refine drq_of [(5, some 17)] ?_
   repeat (refine drp HT ?_)
   refine drq_end ?_
   refine dr1 6 HT fun K hK => ?_
   refine go_cl HS (laws_markText.calls ht13.out) Tryz.func180 ?_; clear HS; intro wt13 HS F
   refine nrm 18 hK ⟨_, HS⟩ (fun HH => ?_); clear hK K
   refine drq_of [(7, some 19)] ?_
   repeat (refine drp HT ?_)
   refine drq_end ?_
   refine done_ (done_of HT.out (by kernel_rfl)) ?_
   replace H := znif' H; rcases H with ⟨c16, H⟩ | ⟨c16, H⟩
   case inl =>
    have c16a := beq_eq_false_iff_ne.mpr c16
    have c16b := bne_iff_ne.mpr c16
    clear c16
    (try simp only [c16a, c16b, dcn])
    obtain rfl := zsome H
    go_wp2
    go_ret
    exact HS.pk
   have c16a := beq_iff_eq.mpr c16
   have c16b := bne_eq_false_iff_eq.mpr c16
   clear c16
   (try simp only [c16a, c16b, dcn])
   (try go_wp2)
   replace H := zbind H; obtain ⟨t15, ht15, H⟩ := H
   refine dr_start [] HS #[false, false, false, false, false, false, false, false] (by kernel_rfl) rfl rfl laws_heldAnchorS.tT7 (fun w18 HT HS HH => ?_)
   (try clear F)
   refine drq_of [(0, some 22), (1, some 23), (2, some 24), (3, some 25)] ?_
   repeat (refine drp HT ?_)
   refine drq_end ?_
   refine dr_take 4 (some 26) HT HH (v := ?_) (a' := ?_) rfl rfl (by kernel_rfl) (fun _ _ _ h => h) (.inl ⟨by rfl, ?_⟩) ?_ ?_
   rotate_left
   · rintro w' ⟨rs', HS'⟩; have e11_0 := HS'.keepc e11_0; have e11_1 := HS'.keepc e11_1; go_simp; with_reducible rfl
   rotate_left
   · simp only [Act.put, ptn]; rfl
   refine drq_of [(5, some 27)] ?_
   repeat (refine drp HT ?_)
   refine drq_end ?_
   refine dr1 6 HT fun K hK => ?_
   refine go_cl HS (laws_markText.calls ht15.out) Tryz.func180 ?_; clear HS; intro wt15 HS F
   refine nrm 28 hK ⟨_, HS⟩ (fun HH => ?_); clear hK K
   refine drq_of [(7, some 29)] ?_
   repeat (refine drp HT ?_)
   refine drq_end ?_
   refine done_ (done_of HT.out (by kernel_rfl)) ?_
   replace H := znif' H; rcases H with ⟨c20, H⟩ | ⟨c20, H⟩
   case inl =>
    have c20a := beq_eq_false_iff_ne.mpr c20
    have c20b := bne_iff_ne.mpr c20
    clear c20
    (try simp only [c20a, c20b, dcn])
    obtain rfl := zsome H
    go_wp2
    go_ret
    exact HS.pk
   have c20a := beq_iff_eq.mpr c20
   have c20b := bne_eq_false_iff_eq.mpr c20
   clear c20
   (try simp only [c20a, c20b, dcn])
   go_wp2
   go_roundg k8
   case measure => have := HKk8.out; omega
   case rel => exact ⟨_, _, rfl, rfl, H, ⟨by have := HKk8.out; omega⟩, HS.pick [] (by decide) (by rfl)⟩
def laws_heldStore.f (k : Nat) (a0 : S33) (a1 : Int) : Option (Int) := ((laws_heldCertS.f k a0.f0 a1).bind fun t3 => (if t3 < 0 then (some (-1)) else ((laws_heldCrlS.f k a0.f1 t3).bind fun t6 => (if t6 < 0 then (some (-1)) else ((laws_heldAnchorS.f k a0.f2 t6).bind fun t9 => (if t9 < 0 then (some (-1)) else (some t9)))))))
theorem laws_heldStore.calls {k : Nat} {a0 : S33} {a1 : Int} {Ap0 Ap1 Ap2 : Option Addr} {np0 cp0 np1 cp1 np2 cp2 : Nat} {r : Int} {w : World} (h : laws_heldStore.f k a0 a1 = some r) (gp0 : k91.C w Ap0 np0 a0.f0) (lp0 : np0 ≤ cp0) (gp1 : k81.C w Ap1 np1 a0.f1) (lp1 : np1 ≤ cp1) (gp2 : k115.C w Ap2 np2 a0.f2) (lp2 : np2 ≤ cp2) :
    Calls Tryz.prog 33 #[.agg #[.slice Ap0 np0 cp0, .slice Ap1 np1 cp1, .slice Ap2 np2 cp2], .int .i64 a1] w (fun e w' => e = .returned (.int .i64 r) ∧ Hp noFP w w' []) := by
 obtain rfl := C_len gp0
 obtain rfl := C_len gp1
 obtain rfl := C_len gp2
 have HS := Hp.start w
 have H := Aside0.mk h
 clear h
 unfold laws_heldStore.f at H
 go_enter Tryz.func33, Tryz.ntmps33
 replace H := zbind H; obtain ⟨t3, ht3, H⟩ := H
 go_upto_if 10 with (first | ((with_reducible refine gd 2 rfl ?_); refine ev_bx HS ?_; clear HS; intro g2 w2 HS F) | ((with_reducible refine gd 8 rfl ?_); refine ev_cl HS (laws_heldCertS.calls ht3.out (HS.ro gp0) lp0) Tryz.func115 ?_; clear HS; intro wt3 HS F))
 replace H := zif H; rcases H with ⟨c5, H⟩ | ⟨c5, H⟩
 case inl =>
  (try simp only [c5, dcn])
  obtain rfl := zsome H
  go_wp2
  go_ret
  exact HS.pk
 (try simp only [c5, dcn])
 replace H := zbind H; obtain ⟨t6, ht6, H⟩ := H
 go_upto_if 16 with ((with_reducible refine gd 14 rfl ?_); refine ev_cl HS (laws_heldCrlS.calls ht6.out (HS.ro gp1) lp1) Tryz.func116 ?_; clear HS; intro wt6 HS F)
 replace H := zif H; rcases H with ⟨c8, H⟩ | ⟨c8, H⟩
 case inl =>
  (try simp only [c8, dcn])
  obtain rfl := zsome H
  go_wp2
  go_ret
  exact HS.pk
 (try simp only [c8, dcn])
 replace H := zbind H; obtain ⟨t9, ht9, H⟩ := H
 go_upto_if 22 with ((with_reducible refine gd 20 rfl ?_); refine ev_cl HS (laws_heldAnchorS.calls ht9.out (HS.ro gp2) lp2) Tryz.func117 ?_; clear HS; intro wt9 HS F)
 replace H := zif H; rcases H with ⟨c11, H⟩ | ⟨c11, H⟩
 case inl =>
  (try simp only [c11, dcn])
  obtain rfl := zsome H
  go_wp2
  go_ret
  exact HS.pk
 (try simp only [c11, dcn])
 obtain rfl := zsome H
 go_wp2
 go_ret
 exact HS.pk
def laws_heldServer.f (k : Nat) (a0 : S46) (a1 : Int) : Option (Int) := ((laws_heldStore.f k a0.f0 a1).bind fun t3 => (if t3 < 0 then (some (-1)) else ((laws_heldPlanS.f k a0.f1 t3).bind fun t6 => (if t6 < 0 then (some (-1)) else ((laws_heldKeptS.f k a0.f5 t6).bind fun t9 => (if t9 < 0 then (some (-1)) else (some t9)))))))
theorem laws_heldServer.calls {k : Nat} {a0 : S46} {a1 : Int} {Ap0 Ap1 Ap2 Ap3 Ap4 : Option Addr} {np0 cp0 np1 cp1 np2 cp2 np3 cp3 np4 cp4 : Nat} {r : Int} {w : World} (h : laws_heldServer.f k a0 a1 = some r) (gp0 : k91.C w Ap0 np0 a0.f0.f0) (lp0 : np0 ≤ cp0) (gp1 : k81.C w Ap1 np1 a0.f0.f1) (lp1 : np1 ≤ cp1) (gp2 : k115.C w Ap2 np2 a0.f0.f2) (lp2 : np2 ≤ cp2) (gp3 : k202.C w Ap3 np3 a0.f1) (lp3 : np3 ≤ cp3) (gp4 : k205.C w Ap4 np4 a0.f5) (lp4 : np4 ≤ cp4) :
    Calls Tryz.prog 48 #[.agg #[.slice Ap0 np0 cp0, .slice Ap1 np1 cp1, .slice Ap2 np2 cp2, .slice Ap3 np3 cp3, .int .i64 a0.f2, .int .i64 a0.f3, .int .i64 a0.f4, .slice Ap4 np4 cp4], .int .i64 a1] w (fun e w' => e = .returned (.int .i64 r) ∧ Hp noFP w w' []) := by
 obtain rfl := C_len gp0
 obtain rfl := C_len gp1
 obtain rfl := C_len gp2
 obtain rfl := C_len gp3
 obtain rfl := C_len gp4
 have HS := Hp.start w
 have H := Aside0.mk h
 clear h
 unfold laws_heldServer.f at H
 go_enter Tryz.func48, Tryz.ntmps48
 replace H := zbind H; obtain ⟨t3, ht3, H⟩ := H
 go_upto_if 10 with (first | ((with_reducible refine gd 2 rfl ?_); refine ev_bx HS ?_; clear HS; intro g2 w2 HS F) | ((with_reducible refine gd 8 rfl ?_); refine ev_cl HS (laws_heldStore.calls ht3.out (HS.ro gp0) lp0 (HS.ro gp1) lp1 (HS.ro gp2) lp2) Tryz.func33 ?_; clear HS; intro wt3 HS F))
 replace H := zif H; rcases H with ⟨c5, H⟩ | ⟨c5, H⟩
 case inl =>
  (try simp only [c5, dcn])
  obtain rfl := zsome H
  go_wp2
  go_ret
  exact HS.pk
 (try simp only [c5, dcn])
 replace H := zbind H; obtain ⟨t6, ht6, H⟩ := H
 go_upto_if 16 with ((with_reducible refine gd 14 rfl ?_); refine ev_cl HS (laws_heldPlanS.calls ht6.out (HS.ro gp3) lp3) Tryz.func131 ?_; clear HS; intro wt6 HS F)
 replace H := zif H; rcases H with ⟨c8, H⟩ | ⟨c8, H⟩
 case inl =>
  (try simp only [c8, dcn])
  obtain rfl := zsome H
  go_wp2
  go_ret
  exact HS.pk
 (try simp only [c8, dcn])
 replace H := zbind H; obtain ⟨t9, ht9, H⟩ := H
 go_upto_if 22 with ((with_reducible refine gd 20 rfl ?_); refine ev_cl HS (laws_heldKeptS.calls ht9.out (HS.ro gp4) lp4) Tryz.func132 ?_; clear HS; intro wt9 HS F)
 replace H := zif H; rcases H with ⟨c11, H⟩ | ⟨c11, H⟩
 case inl =>
  (try simp only [c11, dcn])
  obtain rfl := zsome H
  go_wp2
  go_ret
  exact HS.pk
 (try simp only [c11, dcn])
 obtain rfl := zsome H
 go_wp2
 go_ret
 exact HS.pk
def spec_l10Copy.f (a0 : S81) : Option (S81) := (if 0 + a0.f5.length ≤ 8796093022208 then (lets (([] : List S238) ++ a0.f5) fun y12 => (some (⟨a0.f0, a0.f1, a0.f2, a0.f3, a0.f4, y12, a0.f6⟩ : S81))) else none)
theorem spec_l10Copy.calls {a0 : S81} {Ap0 : Option Addr} {np0 cp0 : Nat} {r : S81} {w : World} (h : spec_l10Copy.f a0 = some r) (gp0 : k238.C w Ap0 np0 a0.f5) (lp0 : np0 ≤ cp0) :
    Calls Tryz.prog 106 #[.agg #[.string a0.f0, .int .i64 a0.f1, .int .i64 a0.f2, .int .i64 a0.f3, .int .i64 a0.f4, .slice Ap0 np0 cp0, .string a0.f6]] w (fun e w' => ∃ v0_ : Value, e = .returned (.agg #[.string r.f0, .int .i64 r.f1, .int .i64 r.f2, .int .i64 r.f3, .int .i64 r.f4, v0_, .string r.f6]) ∧ Hp noFP w w' [.own (Zd.slice 238 q238) r.f5 [v0_]]) := by
 obtain rfl := C_len gp0
 have HS := Hp.start w
 have H := Aside0.mk h
 clear h
 unfold spec_l10Copy.f at H
 go_enter Tryz.func106, Tryz.ntmps106
 replace H := zgo H; obtain ⟨c11, H⟩ := H
 replace H := zlets H; obtain ⟨y12, e_y12, H⟩ := H
 obtain rfl := zsome H
 go_wp2_with (first | ((with_reducible refine gd 1 rfl ?_); refine ev_bx HS ?_; clear HS; intro g1 w1 HS F) | ((with_reducible refine gd 2 rfl ?_); refine ev_bx HS ?_; clear HS; intro g2 w2 HS F) | ((with_reducible refine gd 3 rfl ?_); refine ev_bx HS ?_; clear HS; intro g3 w3 HS F) | ((with_reducible refine gate_store (p := 3) rfl ?_); refine ev_st 2 0 HS (seg := [.string a0.f0, .int .i64 a0.f1, .int .i64 a0.f2, .int .i64 a0.f3, .int .i64 a0.f4, .slice Ap0 a0.f5.length cp0, .string a0.f6]) ?_; clear HS; intro w7 HS F) | ((with_reducible refine gd 5 rfl ?_); refine ev_li q238 [] ([] : List S238) [] HS MadeL.nil ?_; clear HS; intro v9 w9 HS F; obtain ⟨B9, d9, rfl, m9⟩ := HS.formn 0 3 rfl rfl) | ((with_reducible refine gd 8 rfl ?_); refine ev_apr fl238 3 HS rfl (HS.ro gp0) Tryz.underlying79 info238 (of_eq_true c11) ?_; clear HS; intro v12 w12 HS; rw [← e_y12.out] at HS; obtain ⟨B12, d12, rfl, m12⟩ := HS.form 4 rfl; (try simp only [hpn, hpm] at HS); have F := HS.boxes; simp only [bxn] at F) | ((with_reducible refine gate_store (p := 9) rfl ?_); refine ev_st 2 5 HS (seg := [.slice B12 y12.length d12]) ?_; clear HS; intro w14 HS F) | ((with_reducible refine gate_store (p := 2) rfl ?_); refine ev_st 1 0 HS (seg := [.string a0.f0, .int .i64 a0.f1, .int .i64 a0.f2, .int .i64 a0.f3, .int .i64 a0.f4, .slice B12 y12.length d12, .string a0.f6]) ?_; clear HS; intro w16 HS F))
 exact bodyPost_ret (results_single rfl (.cell _ _ _ _ _ rfl (HS.boxAt (i := 1) rfl) Tryz.underlying81 rfl (by kernel_rfl) .nil)) rfl ⟨_, rfl, HS.pick [4] (by decide) (by rfl)⟩
def spec_l09Copy.f (a0 : S91) : Option (S91) := (if 0 + a0.f9.length ≤ 17592186044416 then (lets (([] : List Int) ++ a0.f9) fun y12 => (if 0 + a0.f10.length ≤ 8796093022208 then (lets (([] : List ByteArray) ++ a0.f10) fun y19 => (if 0 + a0.f11.length ≤ 8796093022208 then (lets (([] : List ByteArray) ++ a0.f11) fun y26 => (some (⟨a0.f0, a0.f1, a0.f2, a0.f3, a0.f4, a0.f5, a0.f6, a0.f7, a0.f8, y12, y19, y26, a0.f12⟩ : S91))) else none)) else none)) else none)
theorem spec_l09Copy.calls {a0 : S91} {Ap0 Ap1 Ap2 : Option Addr} {np0 cp0 np1 cp1 np2 cp2 : Nat} {r : S91} {w : World} (h : spec_l09Copy.f a0 = some r) (gp0 : (Kd.int .i64).C w Ap0 np0 a0.f9) (lp0 : np0 ≤ cp0) (gp1 : Kd.string.C w Ap1 np1 a0.f10) (lp1 : np1 ≤ cp1) (gp2 : Kd.string.C w Ap2 np2 a0.f11) (lp2 : np2 ≤ cp2) :
    Calls Tryz.prog 118 #[.agg #[.int .i64 a0.f0, .string a0.f1, .string a0.f2, .int .i64 a0.f3, .int .i64 a0.f4, .string a0.f5, .bool a0.f6, .int .i64 a0.f7, .int .i64 a0.f8, .slice Ap0 np0 cp0, .slice Ap1 np1 cp1, .slice Ap2 np2 cp2, .string a0.f12]] w (fun e w' => ∃ v0_ v1_ v2_ : Value, e = .returned (.agg #[.int .i64 r.f0, .string r.f1, .string r.f2, .int .i64 r.f3, .int .i64 r.f4, .string r.f5, .bool r.f6, .int .i64 r.f7, .int .i64 r.f8, v0_, v1_, v2_, .string r.f12]) ∧ Hp noFP w w' [.own (Zd.slice 3 (Zd.int .i64)) r.f9 [v0_], .own (Zd.slice 9 Zd.string) r.f10 [v1_], .own (Zd.slice 9 Zd.string) r.f11 [v2_]]) := by
 obtain rfl := C_len gp0
 obtain rfl := C_len gp1
 obtain rfl := C_len gp2
 have HS := Hp.start w
 have H := Aside0.mk h
 clear h
 unfold spec_l09Copy.f at H
 go_enter Tryz.func118, Tryz.ntmps118
 replace H := zgo H; obtain ⟨c11, H⟩ := H
 replace H := zlets H; obtain ⟨y12, e_y12, H⟩ := H
 replace H := zgo H; obtain ⟨c18, H⟩ := H
 replace H := zlets H; obtain ⟨y19, e_y19, H⟩ := H
 replace H := zgo H; obtain ⟨c25, H⟩ := H
 replace H := zlets H; obtain ⟨y26, e_y26, H⟩ := H
 obtain rfl := zsome H
 go_wp2_with (first | ((with_reducible refine gd 1 rfl ?_); refine ev_bx HS ?_; clear HS; intro g1 w1 HS F) | ((with_reducible refine gd 2 rfl ?_); refine ev_bx HS ?_; clear HS; intro g2 w2 HS F) | ((with_reducible refine gd 3 rfl ?_); refine ev_bx HS ?_; clear HS; intro g3 w3 HS F) | ((with_reducible refine gate_store (p := 3) rfl ?_); refine ev_st 2 0 HS (seg := [.int .i64 a0.f0, .string a0.f1, .string a0.f2, .int .i64 a0.f3, .int .i64 a0.f4, .string a0.f5, .bool a0.f6, .int .i64 a0.f7, .int .i64 a0.f8, .slice Ap0 a0.f9.length cp0, .slice Ap1 a0.f10.length cp1, .slice Ap2 a0.f11.length cp2, .string a0.f12]) ?_; clear HS; intro w7 HS F) | ((with_reducible refine gd 5 rfl ?_); refine ev_li (Zd.int .i64) [] ([] : List Int) [] HS MadeL.nil ?_; clear HS; intro v9 w9 HS F; obtain ⟨B9, d9, rfl, m9⟩ := HS.formn 0 3 rfl rfl) | ((with_reducible refine gd 8 rfl ?_); refine ev_apr (flat_int _) 3 HS rfl (HS.ro gp0) Tryz.underlying52 info3 (of_eq_true c11) ?_; clear HS; intro v12 w12 HS; rw [← e_y12.out] at HS; obtain ⟨B12, d12, rfl, m12⟩ := HS.form 4 rfl; (try simp only [hpn, hpm] at HS); have F := HS.boxes; simp only [bxn] at F) | ((with_reducible refine gate_store (p := 9) rfl ?_); refine ev_st 2 9 HS (seg := [.slice B12 y12.length d12]) ?_; clear HS; intro w14 HS F) | ((with_reducible refine gd 10 rfl ?_); refine ev_li Zd.string [] ([] : List ByteArray) [] HS MadeL.nil ?_; clear HS; intro v16 w16 HS F; obtain ⟨B16, d16, rfl, m16⟩ := HS.formn 0 5 rfl rfl) | ((with_reducible refine gd 13 rfl ?_); refine ev_apr flat_string 5 HS rfl (HS.ro gp1) Tryz.underlying57 info9 (of_eq_true c18) ?_; clear HS; intro v19 w19 HS; rw [← e_y19.out] at HS; obtain ⟨B19, d19, rfl, m19⟩ := HS.form 6 rfl; (try simp only [hpn, hpm] at HS); have F := HS.boxes; simp only [bxn] at F) | ((with_reducible refine gate_store (p := 14) rfl ?_); refine ev_st 2 10 HS (seg := [.slice B19 y19.length d19]) ?_; clear HS; intro w21 HS F) | ((with_reducible refine gd 15 rfl ?_); refine ev_li Zd.string [] ([] : List ByteArray) [] HS MadeL.nil ?_; clear HS; intro v23 w23 HS F; obtain ⟨B23, d23, rfl, m23⟩ := HS.formn 0 7 rfl rfl) | ((with_reducible refine gd 18 rfl ?_); refine ev_apr flat_string 7 HS rfl (HS.ro gp2) Tryz.underlying57 info9 (of_eq_true c25) ?_; clear HS; intro v26 w26 HS; rw [← e_y26.out] at HS; obtain ⟨B26, d26, rfl, m26⟩ := HS.form 8 rfl; (try simp only [hpn, hpm] at HS); have F := HS.boxes; simp only [bxn] at F) | ((with_reducible refine gate_store (p := 19) rfl ?_); refine ev_st 2 11 HS (seg := [.slice B26 y26.length d26]) ?_; clear HS; intro w28 HS F) | ((with_reducible refine gate_store (p := 2) rfl ?_); refine ev_st 1 0 HS (seg := [.int .i64 a0.f0, .string a0.f1, .string a0.f2, .int .i64 a0.f3, .int .i64 a0.f4, .string a0.f5, .bool a0.f6, .int .i64 a0.f7, .int .i64 a0.f8, .slice B12 y12.length d12, .slice B19 y19.length d19, .slice B26 y26.length d26, .string a0.f12]) ?_; clear HS; intro w30 HS F))
 exact bodyPost_ret (results_single rfl (.cell _ _ _ _ _ rfl (HS.boxAt (i := 1) rfl) Tryz.underlying91 rfl (by kernel_rfl) .nil)) rfl ⟨_, _, _, rfl, HS.pick [4, 6, 8] (by decide) (by rfl)⟩
def spec_l13Certs.l0 : Nat → (List S91) → Int → (List S91) → Option ((List S91))
  | 0, _, _, _ => none
  | k + 1, l11, x13, a0 => (if x13 < (a0.length : Int) then (if 0 ≤ x13 then (if x13 < (a0.length : Int) then ((spec_l09Copy.f (rd_T91 a0 x13)).bind fun t19 => (if l11.length + 1 ≤ 764877654105 then (lets (l11 ++ ([t19] : List S91)) fun y27 => (spec_l13Certs.l0 k y27 (wrap64 (x13 + 1)) a0)) else none)) else none) else none) else (some l11))
def spec_l13Certs.f (k : Nat) (a0 : (List S91)) : Option ((List S91)) := (spec_l13Certs.l0 k ([] : List S91) 0 a0)
theorem spec_l13Certs.calls {k : Nat} {a0 : (List S91)} {Ap0 : Option Addr} {np0 cp0 : Nat} {r : (List S91)} {w : World} (h : spec_l13Certs.f k a0 = some r) (gp0 : k91.C w Ap0 np0 a0) (lp0 : np0 ≤ cp0) :
    Calls Tryz.prog 175 #[.slice Ap0 np0 cp0] w (fun e w' => ∃ v0_ : Value, e = .returned (v0_) ∧ Hp noFP w w' [.own (Zd.slice 91 q91) r [v0_]]) := by
 obtain rfl := C_len gp0
 have HS := Hp.start w
 have H := Aside0.mk h
 clear h
 unfold spec_l13Certs.f at H
 go_enter Tryz.func175, Tryz.ntmps175
 go_wp2_with ((with_reducible refine gd 5 rfl ?_); refine ev_li q91 [] ([] : List S91) [] HS MadeL.nil ?_; clear HS; intro v1 w1 HS F; obtain ⟨B1, d1, rfl, m1⟩ := HS.formn 0 0 rfl rfl)
 go_loopg [3, 4] k (fun kq v_3 v_4 w' => ∃ (l11 : List S91) (v12 : Value) (x13 : Int), v_3 = v12 ∧ v_4 = .int .i64 x13 ∧ Aside0 (spec_l13Certs.l0 kq l11 x13 a0 = some r) ∧ Aside0 (kq ≤ k) ∧ Hp noFP w w' [.own (Zd.slice 91 q91) l11 [v12]])
 case atStart => exact ⟨_, _, _, rfl, rfl, H, ⟨Nat.le_refl _⟩, HS⟩
 case round =>
  clear HS H; (try clear F)
  obtain ⟨l11, v12, x13, rfl, rfl, H, HKk10, HS⟩ := hrel
  obtain ⟨B12, d12, rfl, m12⟩ := HS.form 0 rfl
  cases gk with
  | zero => exact absurd H.out (by simp [spec_l13Certs.l0])
  | succ k10 =>
   simp only [spec_l13Certs.l0] at H
   replace H := znif H; rcases H with ⟨c15, H⟩ | ⟨c15, H⟩
   case inl =>
    obtain rfl := zsome H
    go_wp2
    exact bodyPost_ret (results_single rfl (.tmp .nil)) rfl ⟨_, rfl, HS.pick [0] (by decide) (by rfl)⟩
   replace H := zgo H; obtain ⟨c16, H⟩ := H
   replace H := zgo H; obtain ⟨c17, H⟩ := H
   obtain ⟨ad18, B18_9, d18_9, B18_10, d18_10, B18_11, d18_11, rfl, e18_0, e18_1, e18_2, e18_3, e18_4, e18_5, e18_6, e18_7, e18_8, e18_9, e18_10, e18_11, e18_12, m18_9, y18_9, m18_10, y18_10, m18_11, y18_11⟩ := at_T91 gp0 x13 (of_eq_true c16) (of_eq_true c17)
   have e18_0_18 := HS.keepc e18_0
   have e18_1_18 := HS.keepc e18_1
   have e18_2_18 := HS.keepc e18_2
   have e18_3_18 := HS.keepc e18_3
   have e18_4_18 := HS.keepc e18_4
   have e18_5_18 := HS.keepc e18_5
   have e18_6_18 := HS.keepc e18_6
   have e18_7_18 := HS.keepc e18_7
   have e18_8_18 := HS.keepc e18_8
   have e18_9_18 := HS.keepc e18_9
   have e18_10_18 := HS.keepc e18_10
   have e18_11_18 := HS.keepc e18_11
   have e18_12_18 := HS.keepc e18_12
   replace H := zbind H; obtain ⟨t19, ht19, H⟩ := H
   replace H := zgo H; obtain ⟨c26, H⟩ := H
   replace H := zlets H; obtain ⟨y27, e_y27, H⟩ := H
   go_wp2_with (first | ((with_reducible refine gd 17 rfl ?_); refine ev_cl3 HS (spec_l09Copy.calls ht19.out (HS.ro y18_9) m18_9 (HS.ro y18_10) m18_10 (HS.ro y18_11) m18_11) Tryz.func118 ?_; clear HS; intro v20 v21 v22 wt19 HS F; obtain ⟨B20, d20, rfl, m20⟩ := HS.form 1 rfl; obtain ⟨B21, d21, rfl, m21⟩ := HS.form 2 rfl; obtain ⟨B22, d22, rfl, m22⟩ := HS.form 3 rfl) | ((with_reducible refine gd 18 rfl ?_); refine ev_li q91 [1, 2, 3] ([t19] : List S91) ([.int .i64 t19.f0, .string t19.f1, .string t19.f2, .int .i64 t19.f3, .int .i64 t19.f4, .string t19.f5, .bool t19.f6, .int .i64 t19.f7, .int .i64 t19.f8, .slice B20 t19.f9.length d20, .slice B21 t19.f10.length d21, .slice B22 t19.f11.length d22, .string t19.f12] ++ []) HS (MadeL.cons (js1 := [1, 2, 3]) (c := [.int .i64 t19.f0, .string t19.f1, .string t19.f2, .int .i64 t19.f3, .int .i64 t19.f4, .string t19.f5, .bool t19.f6, .int .i64 t19.f7, .int .i64 t19.f8, .slice B20 t19.f9.length d20, .slice B21 t19.f10.length d21, .slice B22 t19.f11.length d22, .string t19.f12]) rfl (fun S hd hh => q91_pack (x := t19) hd (hh 1 (.own (Zd.slice 3 (Zd.int .i64)) t19.f9 [.slice B20 t19.f9.length d20]) rfl) (hh 2 (.own (Zd.slice 9 Zd.string) t19.f10 [.slice B21 t19.f10.length d21]) rfl) (hh 3 (.own (Zd.slice 9 Zd.string) t19.f11 [.slice B22 t19.f11.length d22]) rfl) (by decide)) MadeL.nil (by decide)) ?_; clear HS; intro v24 w24 HS F; obtain ⟨B24, d24, rfl, m24⟩ := HS.formn 1 4 rfl rfl) | ((with_reducible refine gd 19 rfl ?_); refine ev_ap q91 0 4 HS rfl rfl Tryz.underlying29 info91 (of_eq_true c26) ?_; clear HS; intro v27 w27 HS; rw [← e_y27.out] at HS; obtain ⟨B27, d27, rfl, m27⟩ := HS.form 5 rfl; (try simp only [hpn, hpm] at HS)))
   go_roundg k10
   case measure => have := HKk10.out; omega
   case rel => exact ⟨_, _, _, rfl, rfl, H, ⟨by have := HKk10.out; omega⟩, HS.pick [5] (by decide) (by rfl)⟩
def spec_l13Copy.l0 : Nat → (List S81) → Int → S33 → (List S91) → (List S115) → Option (S33)
  | 0, _, _, _, _, _ => none
  | k + 1, l20, x22, a0, t7, y11 => (if x22 < (a0.f1.length : Int) then (if 0 ≤ x22 then (if x22 < (a0.f1.length : Int) then ((spec_l10Copy.f (rd_T81 a0.f1 x22)).bind fun t17 => (if l20.length + 1 ≤ 1599289640401 then (lets (l20 ++ ([t17] : List S81)) fun y27 => (spec_l13Copy.l0 k y27 (wrap64 (x22 + 1)) a0 t7 y11)) else none)) else none) else none) else (some (⟨t7, l20, y11⟩ : S33)))
def spec_l13Copy.f (k : Nat) (a0 : S33) : Option (S33) := ((spec_l13Certs.f k a0.f0).bind fun t7 => (if 0 + a0.f2.length ≤ 4398046511104 then (lets (([] : List S115) ++ a0.f2) fun y11 => (spec_l13Copy.l0 k [] 0 a0 t7 y11)) else none))
def spec_l13Copy.T1 : TT := (true, [([], []), ([0], [0]), ([1], [1]), ([], []), ([], []), ([4], [4]), ([3, 5, 2], [3, 5]), ([2, 6], [2, 6]), ([], []), ([8, 7, 6, 0, 1, 2, 3, 4, 5, 6, 7, 8], [7, 8])])
theorem spec_l13Copy.tT1 : rtab .any (opsOf Tryz.f105 1) = spec_l13Copy.T1 := by kernel_rfl
def spec_l13Copy.T5 : TT := (true, [([], []), ([0], [0]), ([], []), ([2], [2]), ([], []), ([3, 4], [3, 4]), ([5], [5]), ([6], [6]), ([7], [7]), ([1, 8, 7], [1, 8]), ([0, 1, 2, 3, 4, 5, 6, 7, 8, 9], []), ([10, 9, 9, 0, 1, 2, 3, 4, 5, 6, 7, 8, 9], [9, 10])])
theorem spec_l13Copy.tT5 : rtab .any (opsOf Tryz.f105 5) = spec_l13Copy.T5 := by kernel_rfl
theorem spec_l13Copy.calls {k : Nat} {a0 : S33} {Ap0 Ap1 Ap2 : Option Addr} {np0 cp0 np1 cp1 np2 cp2 : Nat} {r : S33} {w : World} (h : spec_l13Copy.f k a0 = some r) (gp0 : k91.C w Ap0 np0 a0.f0) (lp0 : np0 ≤ cp0) (gp1 : k81.C w Ap1 np1 a0.f1) (lp1 : np1 ≤ cp1) (gp2 : k115.C w Ap2 np2 a0.f2) (lp2 : np2 ≤ cp2) :
    Calls Tryz.prog 105 #[.agg #[.slice Ap0 np0 cp0, .slice Ap1 np1 cp1, .slice Ap2 np2 cp2]] w (fun e w' => ∃ v0_ v1_ v2_ : Value, e = .returned (.agg #[v0_, v1_, v2_]) ∧ Hp noFP w w' [.own (Zd.slice 91 q91) r.f0 [v0_], .own (Zd.slice 81 q81) r.f1 [v1_], .own (Zd.slice 115 q115) r.f2 [v2_]]) := by
 obtain rfl := C_len gp0
 obtain rfl := C_len gp1
 obtain rfl := C_len gp2
 have HS := Hp.start w
 have H := Aside0.mk h
 clear h
 unfold spec_l13Copy.f at H
 go_enter Tryz.func105, Tryz.ntmps105
 go_wp2_with (first | ((with_reducible refine gd 1 rfl ?_); refine ev_bx HS ?_; clear HS; intro g1 w1 HS F) | ((with_reducible refine gd 2 rfl ?_); refine ev_bx HS ?_; clear HS; intro g2 w2 HS F))
 replace H := zbind H; obtain ⟨t7, ht7, H⟩ := H
 replace H := zgo H; obtain ⟨c10, H⟩ := H
 replace H := zlets H; obtain ⟨y11, e_y11, H⟩ := H
 refine dr_start [9] HS #[false, false, false, false, false, false, false, false, false, false] (by kernel_rfl) rfl rfl spec_l13Copy.tT1 (fun w6 HT HS HH => ?_)
 (try clear F)
 refine join_ 0 #[true, true, true, true, true, true, true, true, true, true] (fun ((v8, v9, v11, g3) : Value × Value × Value × Nat) => ([(5, .pointer (some ⟨g1, 0, none⟩)), (6, .slice Ap0 a0.f0.length cp0), (7, v8), (8, v9), (9, .pointer (some ⟨g1, 2, none⟩)), (10, .slice Ap2 a0.f2.length cp2), (11, v11), (12, .agg #[v8, .slice none 0 0, v11]), (3, .pointer (some ⟨g3, 0, none⟩))] : List (Tmp × Value))) (fun ((v8, v9, v11, g3) : Value × Value × Value × Nat) w' => Hp noFP w w' [.box g1 [.slice Ap0 a0.f0.length cp0, .slice Ap1 a0.f1.length cp1, .slice Ap2 a0.f2.length cp2] 33, .box g2 [.slice none 0 0, .slice none 0 0, .slice none 0 0] 33, .own (Zd.slice 91 q91) t7 [v8], .emp, .own (Zd.slice 115 q115) y11 [v11], .box g3 [v8, .slice none 0 0, v11] 33]) ?_ ?_
 rotate_left
 · intro hJ
   refine drq_of [(0, some 5), (1, some 6), (4, some 9), (5, some 10)] ?_
   repeat (first | refine drp HT ?_ | refine drt HT HH ?_)
   refine drq_end ?_
   refine dr_any [2, 3, 8] HT (by kernel_rfl) (by decide) (AllReadyL.cons rfl (by decide) (fun K hK => ?_) (AllReadyL.cons rfl (by decide) (fun K hK => ?_) (AllReadyL.cons rfl (by decide) (fun K hK => ?_) AllReadyL.nil)))
   · refine go_cl1 HS (spec_l13Certs.calls ht7.out (HS.ro gp0) lp0) Tryz.func175 ?_; clear HS; intro v8 wt7 HS F; obtain ⟨B8, d8, rfl, m8⟩ := HS.form 2 rfl
     refine nrm 7 hK ⟨_, HS⟩ (fun HH => ?_); clear hK K
     refine dr_any [3, 8] HT (by kernel_rfl) (by decide) (AllReadyL.cons rfl (by decide) (fun K hK => ?_) (AllReadyL.cons rfl (by decide) (fun K hK => ?_) AllReadyL.nil))
     · refine if_li q115 [] ([] : List S115) [] HS MadeL.nil ?_; clear HS; intro v9 w9 HS F; obtain ⟨B9, d9, rfl, m9⟩ := HS.formn 0 3 rfl rfl
       refine nrm 8 hK ⟨_, HS⟩ (fun HH => ?_); clear hK K
       refine dr_any [6, 8] HT (by kernel_rfl) (by decide) (AllReadyL.cons rfl (by decide) (fun K hK => ?_) (AllReadyL.cons rfl (by decide) (fun K hK => ?_) AllReadyL.nil))
       · refine wp_apr fl115 3 HS rfl (HS.ro gp2) Tryz.underlying31 info115 (of_eq_true c10) ?_; clear HS; intro v11 w11 HS; rw [← e_y11.out] at HS; obtain ⟨B11, d11, rfl, m11⟩ := HS.form 4 rfl
         (try simp only [hpn, hpm] at HS)
         have F := HS.boxes; simp only [bxn] at F
         refine nrm 11 hK ⟨_, HS⟩ (fun HH => ?_); clear hK K
         refine drq_of [(7, some 12)] ?_
         repeat (refine drp HT ?_)
         refine drq_end ?_
         refine dr1 8 HT fun K hK => ?_
         refine if_bx HS ?_; clear HS; intro g3 w3 HS F
         refine nrm 3 hK ⟨_, HS⟩ (fun HH => ?_); clear hK K
         refine dr_last 9 HT rfl (by kernel_rfl) (by decide) (fun K hK => ?_)
         refine if_st 5 0 HS (seg := [.slice B8 t7.length d8, .slice none 0 0, .slice B11 y11.length d11]) ?_; clear HS; intro w12 HS F
         refine hK.out _ _ ?_
         clear hK K
         refine norm_ ?_ (hJ (.slice B8 t7.length d8, .slice B9 0 d9, .slice B11 y11.length d11, g3) _ (HS.arr [some 0, some 1, some 2, none, some 4, some 5] (by decide)))
         simp only [putAll, Act.put, ptn]
         (try rfl)
       · refine if_bx HS ?_; clear HS; intro g3 w3 HS F
         refine nrm 3 hK ⟨_, HS⟩ (fun HH => ?_); clear hK K
         refine dr1 6 HT fun K hK => ?_
         refine wp_apr fl115 3 HS rfl (HS.ro gp2) Tryz.underlying31 info115 (of_eq_true c10) ?_; clear HS; intro v11 w11 HS; rw [← e_y11.out] at HS; obtain ⟨B11, d11, rfl, m11⟩ := HS.form 5 rfl
         (try simp only [hpn, hpm] at HS)
         have F := HS.boxes; simp only [bxn] at F
         refine nrm 11 hK ⟨_, HS⟩ (fun HH => ?_); clear hK K
         refine drq_of [(7, some 12)] ?_
         repeat (refine drp HT ?_)
         refine drq_end ?_
         refine dr_last 9 HT rfl (by kernel_rfl) (by decide) (fun K hK => ?_)
         refine if_st 4 0 HS (seg := [.slice B8 t7.length d8, .slice none 0 0, .slice B11 y11.length d11]) ?_; clear HS; intro w12 HS F
         refine hK.out _ _ ?_
         clear hK K
         refine norm_ ?_ (hJ (.slice B8 t7.length d8, .slice B9 0 d9, .slice B11 y11.length d11, g3) _ (HS.arr [some 0, some 1, some 2, none, some 5, some 4] (by decide)))
         simp only [putAll, Act.put, ptn]
         (try rfl)
     · refine if_bx HS ?_; clear HS; intro g3 w3 HS F
       refine nrm 3 hK ⟨_, HS⟩ (fun HH => ?_); clear hK K
       refine dr1 3 HT fun K hK => ?_
       refine if_li q115 [] ([] : List S115) [] HS MadeL.nil ?_; clear HS; intro v9 w9 HS F; obtain ⟨B9, d9, rfl, m9⟩ := HS.formn 0 4 rfl rfl
       refine nrm 8 hK ⟨_, HS⟩ (fun HH => ?_); clear hK K
       refine dr1 6 HT fun K hK => ?_
       refine wp_apr fl115 4 HS rfl (HS.ro gp2) Tryz.underlying31 info115 (of_eq_true c10) ?_; clear HS; intro v11 w11 HS; rw [← e_y11.out] at HS; obtain ⟨B11, d11, rfl, m11⟩ := HS.form 5 rfl
       (try simp only [hpn, hpm] at HS)
       have F := HS.boxes; simp only [bxn] at F
       refine nrm 11 hK ⟨_, HS⟩ (fun HH => ?_); clear hK K
       refine drq_of [(7, some 12)] ?_
       repeat (refine drp HT ?_)
       refine drq_end ?_
       refine dr_last 9 HT rfl (by kernel_rfl) (by decide) (fun K hK => ?_)
       refine if_st 3 0 HS (seg := [.slice B8 t7.length d8, .slice none 0 0, .slice B11 y11.length d11]) ?_; clear HS; intro w12 HS F
       refine hK.out _ _ ?_
       clear hK K
       refine norm_ ?_ (hJ (.slice B8 t7.length d8, .slice B9 0 d9, .slice B11 y11.length d11, g3) _ (HS.arr [some 0, some 1, some 2, none, some 5, some 3] (by decide)))
       simp only [putAll, Act.put, ptn]
       (try rfl)
   · refine if_li q115 [] ([] : List S115) [] HS MadeL.nil ?_; clear HS; intro v9 w9 HS F; obtain ⟨B9, d9, rfl, m9⟩ := HS.formn 0 2 rfl rfl
     refine nrm 8 hK ⟨_, HS⟩ (fun HH => ?_); clear hK K
     refine dr_any [2, 8] HT (by kernel_rfl) (by decide) (AllReadyL.cons rfl (by decide) (fun K hK => ?_) (AllReadyL.cons rfl (by decide) (fun K hK => ?_) AllReadyL.nil))
     · refine go_cl1 HS (spec_l13Certs.calls ht7.out (HS.ro gp0) lp0) Tryz.func175 ?_; clear HS; intro v8 wt7 HS F; obtain ⟨B8, d8, rfl, m8⟩ := HS.form 3 rfl
       refine nrm 7 hK ⟨_, HS⟩ (fun HH => ?_); clear hK K
       refine dr_any [6, 8] HT (by kernel_rfl) (by decide) (AllReadyL.cons rfl (by decide) (fun K hK => ?_) (AllReadyL.cons rfl (by decide) (fun K hK => ?_) AllReadyL.nil))
       · refine wp_apr fl115 2 HS rfl (HS.ro gp2) Tryz.underlying31 info115 (of_eq_true c10) ?_; clear HS; intro v11 w11 HS; rw [← e_y11.out] at HS; obtain ⟨B11, d11, rfl, m11⟩ := HS.form 4 rfl
         (try simp only [hpn, hpm] at HS)
         have F := HS.boxes; simp only [bxn] at F
         refine nrm 11 hK ⟨_, HS⟩ (fun HH => ?_); clear hK K
         refine drq_of [(7, some 12)] ?_
         repeat (refine drp HT ?_)
         refine drq_end ?_
         refine dr1 8 HT fun K hK => ?_
         refine if_bx HS ?_; clear HS; intro g3 w3 HS F
         refine nrm 3 hK ⟨_, HS⟩ (fun HH => ?_); clear hK K
         refine dr_last 9 HT rfl (by kernel_rfl) (by decide) (fun K hK => ?_)
         refine if_st 5 0 HS (seg := [.slice B8 t7.length d8, .slice none 0 0, .slice B11 y11.length d11]) ?_; clear HS; intro w12 HS F
         refine hK.out _ _ ?_
         clear hK K
         refine norm_ ?_ (hJ (.slice B8 t7.length d8, .slice B9 0 d9, .slice B11 y11.length d11, g3) _ (HS.arr [some 0, some 1, some 3, none, some 4, some 5] (by decide)))
         simp only [putAll, Act.put, ptn]
         (try rfl)
       · refine if_bx HS ?_; clear HS; intro g3 w3 HS F
         refine nrm 3 hK ⟨_, HS⟩ (fun HH => ?_); clear hK K
         refine dr1 6 HT fun K hK => ?_
         refine wp_apr fl115 2 HS rfl (HS.ro gp2) Tryz.underlying31 info115 (of_eq_true c10) ?_; clear HS; intro v11 w11 HS; rw [← e_y11.out] at HS; obtain ⟨B11, d11, rfl, m11⟩ := HS.form 5 rfl
         (try simp only [hpn, hpm] at HS)
         have F := HS.boxes; simp only [bxn] at F
         refine nrm 11 hK ⟨_, HS⟩ (fun HH => ?_); clear hK K
         refine drq_of [(7, some 12)] ?_
         repeat (refine drp HT ?_)
         refine drq_end ?_
         refine dr_last 9 HT rfl (by kernel_rfl) (by decide) (fun K hK => ?_)
         refine if_st 4 0 HS (seg := [.slice B8 t7.length d8, .slice none 0 0, .slice B11 y11.length d11]) ?_; clear HS; intro w12 HS F
         refine hK.out _ _ ?_
         clear hK K
         refine norm_ ?_ (hJ (.slice B8 t7.length d8, .slice B9 0 d9, .slice B11 y11.length d11, g3) _ (HS.arr [some 0, some 1, some 3, none, some 5, some 4] (by decide)))
         simp only [putAll, Act.put, ptn]
         (try rfl)
     · refine if_bx HS ?_; clear HS; intro g3 w3 HS F
       refine nrm 3 hK ⟨_, HS⟩ (fun HH => ?_); clear hK K
       refine dr1 2 HT fun K hK => ?_
       refine go_cl1 HS (spec_l13Certs.calls ht7.out (HS.ro gp0) lp0) Tryz.func175 ?_; clear HS; intro v8 wt7 HS F; obtain ⟨B8, d8, rfl, m8⟩ := HS.form 4 rfl
       refine nrm 7 hK ⟨_, HS⟩ (fun HH => ?_); clear hK K
       refine dr1 6 HT fun K hK => ?_
       refine wp_apr fl115 2 HS rfl (HS.ro gp2) Tryz.underlying31 info115 (of_eq_true c10) ?_; clear HS; intro v11 w11 HS; rw [← e_y11.out] at HS; obtain ⟨B11, d11, rfl, m11⟩ := HS.form 5 rfl
       (try simp only [hpn, hpm] at HS)
       have F := HS.boxes; simp only [bxn] at F
       refine nrm 11 hK ⟨_, HS⟩ (fun HH => ?_); clear hK K
       refine drq_of [(7, some 12)] ?_
       repeat (refine drp HT ?_)
       refine drq_end ?_
       refine dr_last 9 HT rfl (by kernel_rfl) (by decide) (fun K hK => ?_)
       refine if_st 3 0 HS (seg := [.slice B8 t7.length d8, .slice none 0 0, .slice B11 y11.length d11]) ?_; clear HS; intro w12 HS F
       refine hK.out _ _ ?_
       clear hK K
       refine norm_ ?_ (hJ (.slice B8 t7.length d8, .slice B9 0 d9, .slice B11 y11.length d11, g3) _ (HS.arr [some 0, some 1, some 4, none, some 5, some 3] (by decide)))
       simp only [putAll, Act.put, ptn]
       (try rfl)
   · refine if_bx HS ?_; clear HS; intro g3 w3 HS F
     refine nrm 3 hK ⟨_, HS⟩ (fun HH => ?_); clear hK K
     refine dr_any [2, 3] HT (by kernel_rfl) (by decide) (AllReadyL.cons rfl (by decide) (fun K hK => ?_) (AllReadyL.cons rfl (by decide) (fun K hK => ?_) AllReadyL.nil))
     · refine go_cl1 HS (spec_l13Certs.calls ht7.out (HS.ro gp0) lp0) Tryz.func175 ?_; clear HS; intro v8 wt7 HS F; obtain ⟨B8, d8, rfl, m8⟩ := HS.form 3 rfl
       refine nrm 7 hK ⟨_, HS⟩ (fun HH => ?_); clear hK K
       refine dr1 3 HT fun K hK => ?_
       refine if_li q115 [] ([] : List S115) [] HS MadeL.nil ?_; clear HS; intro v9 w9 HS F; obtain ⟨B9, d9, rfl, m9⟩ := HS.formn 0 4 rfl rfl
       refine nrm 8 hK ⟨_, HS⟩ (fun HH => ?_); clear hK K
       refine dr1 6 HT fun K hK => ?_
       refine wp_apr fl115 4 HS rfl (HS.ro gp2) Tryz.underlying31 info115 (of_eq_true c10) ?_; clear HS; intro v11 w11 HS; rw [← e_y11.out] at HS; obtain ⟨B11, d11, rfl, m11⟩ := HS.form 5 rfl
       (try simp only [hpn, hpm] at HS)
       have F := HS.boxes; simp only [bxn] at F
       refine nrm 11 hK ⟨_, HS⟩ (fun HH => ?_); clear hK K
       refine drq_of [(7, some 12)] ?_
       repeat (refine drp HT ?_)
       refine drq_end ?_
       refine dr_last 9 HT rfl (by kernel_rfl) (by decide) (fun K hK => ?_)
       refine if_st 2 0 HS (seg := [.slice B8 t7.length d8, .slice none 0 0, .slice B11 y11.length d11]) ?_; clear HS; intro w12 HS F
       refine hK.out _ _ ?_
       clear hK K
       refine norm_ ?_ (hJ (.slice B8 t7.length d8, .slice B9 0 d9, .slice B11 y11.length d11, g3) _ (HS.arr [some 0, some 1, some 3, none, some 5, some 2] (by decide)))
       simp only [putAll, Act.put, ptn]
       (try rfl)
     · refine if_li q115 [] ([] : List S115) [] HS MadeL.nil ?_; clear HS; intro v9 w9 HS F; obtain ⟨B9, d9, rfl, m9⟩ := HS.formn 0 3 rfl rfl
       refine nrm 8 hK ⟨_, HS⟩ (fun HH => ?_); clear hK K
       refine dr1 2 HT fun K hK => ?_
       refine go_cl1 HS (spec_l13Certs.calls ht7.out (HS.ro gp0) lp0) Tryz.func175 ?_; clear HS; intro v8 wt7 HS F; obtain ⟨B8, d8, rfl, m8⟩ := HS.form 4 rfl
       refine nrm 7 hK ⟨_, HS⟩ (fun HH => ?_); clear hK K
       refine dr1 6 HT fun K hK => ?_
       refine wp_apr fl115 3 HS rfl (HS.ro gp2) Tryz.underlying31 info115 (of_eq_true c10) ?_; clear HS; intro v11 w11 HS; rw [← e_y11.out] at HS; obtain ⟨B11, d11, rfl, m11⟩ := HS.form 5 rfl
       (try simp only [hpn, hpm] at HS)
       have F := HS.boxes; simp only [bxn] at F
       refine nrm 11 hK ⟨_, HS⟩ (fun HH => ?_); clear hK K
       refine drq_of [(7, some 12)] ?_
       repeat (refine drp HT ?_)
       refine drq_end ?_
       refine dr_last 9 HT rfl (by kernel_rfl) (by decide) (fun K hK => ?_)
       refine if_st 2 0 HS (seg := [.slice B8 t7.length d8, .slice none 0 0, .slice B11 y11.length d11]) ?_; clear HS; intro w12 HS F
       refine hK.out _ _ ?_
       clear hK K
       refine norm_ ?_ (hJ (.slice B8 t7.length d8, .slice B9 0 d9, .slice B11 y11.length d11, g3) _ (HS.arr [some 0, some 1, some 4, none, some 5, some 2] (by decide)))
       simp only [putAll, Act.put, ptn]
       (try rfl)
 rintro ⟨v8, v9, v11, g3⟩ w13 HS
 obtain ⟨B8, d8, rfl, m8⟩ := HS.form 2 rfl
 obtain ⟨B11, d11, rfl, m11⟩ := HS.form 4 rfl
 have F := HS.boxes; simp only [bxn] at F
 refine norm_ (a' := ?_) ?_ ?_
 rotate_left
 · simp only [putAll, Act.put, ptn]; rfl
 refine done_ (done_of HT.out (by kernel_rfl)) ?_
 go_wp2
 replace HS := HS.nil 81 q81
 go_loopg [4] k (fun kq v_4 w' => ∃ (l20 : List S81) (v21 : Value) (x22 : Int), v_4 = .int .i64 x22 ∧ Aside0 (spec_l13Copy.l0 kq l20 x22 a0 t7 y11 = some r) ∧ Aside0 (kq ≤ k) ∧ Hp noFP w w' [.box g1 [.slice Ap0 a0.f0.length cp0, .slice Ap1 a0.f1.length cp1, .slice Ap2 a0.f2.length cp2] 33, .box g2 [.slice none 0 0, .slice none 0 0, .slice none 0 0] 33, .own (Zd.slice 91 q91) t7 [.slice B8 t7.length d8], .emp, .own (Zd.slice 115 q115) y11 [.slice B11 y11.length d11], .box g3 [.slice B8 t7.length d8, v21, .slice B11 y11.length d11] 33, .own (Zd.slice 81 q81) l20 [v21]])
 case atStart => exact ⟨_, _, _, rfl, H, ⟨Nat.le_refl _⟩, HS⟩
 case round =>
  clear HS H; (try clear F)
  obtain ⟨l20, v21, x22, rfl, H, HKk19, HS⟩ := hrel
  obtain ⟨B21, d21, rfl, m21⟩ := HS.form 6 rfl
  have F := HS.boxes; simp only [bxn] at F
  cases gk with
  | zero => exact absurd H.out (by simp [spec_l13Copy.l0])
  | succ k19 =>
   simp only [spec_l13Copy.l0] at H
   replace H := znif H; rcases H with ⟨c24, H⟩ | ⟨c24, H⟩
   case inl =>
    obtain rfl := zsome H
    go_wp2_with ((with_reducible refine gate_store (p := 2) rfl ?_); refine ev_st 1 0 HS (seg := [.slice B8 t7.length d8, .slice B21 l20.length d21, .slice B11 y11.length d11]) ?_; clear HS; intro w28 HS F)
    exact bodyPost_ret (results_single rfl (.cell _ _ _ _ _ rfl (HS.boxAt (i := 1) rfl) Tryz.underlying33 rfl (by kernel_rfl) .nil)) rfl ⟨_, _, _, rfl, HS.pick [2, 6, 4] (by decide) (by rfl)⟩
   (try go_wp2)
   replace H := zgo H; obtain ⟨c14, H⟩ := H
   replace H := zgo H; obtain ⟨c15, H⟩ := H
   obtain ⟨ad16, B16_5, d16_5, rfl, e16_0, e16_1, e16_2, e16_3, e16_4, e16_5, e16_6, m16_5, y16_5⟩ := at_T81 gp1 x22 (of_eq_true c14) (of_eq_true c15)
   replace H := zbind H; obtain ⟨t17, ht17, H⟩ := H
   replace H := zgo H; obtain ⟨c25, H⟩ := H
   replace H := zlets H; obtain ⟨y27, e_y27, H⟩ := H
   refine dr_start2 [.box g1 [.slice Ap0 a0.f0.length cp0, .slice (some ad16) a0.f1.length cp1, .slice Ap2 a0.f2.length cp2] 33, .box g2 [.slice none 0 0, .slice none 0 0, .slice none 0 0] 33, .own (Zd.slice 91 q91) t7 [.slice B8 t7.length d8], .emp, .own (Zd.slice 115 q115) y11 [.slice B11 y11.length d11], .box g3 [.slice B8 t7.length d8, .slice B21 l20.length d21, .slice B11 y11.length d11] 33, .emp] [11] HS (HS.arr [some 0, some 1, some 2, none, some 4, some 5, none] (by decide)) #[false, false, false, false, false, false, false, false, false, false, false, false] (by kernel_rfl) rfl rfl spec_l13Copy.tT5 (fun w26 HT HS HH => ?_)
   (try clear F)
   refine drq_of [(0, some 20), (1, some 21), (2, some 22), (3, some 23), (4, some 24), (5, some 25)] ?_
   repeat (first | refine drp HT ?_ | refine drt HT HH ?_)
   refine drq_end ?_
   refine dr_take 6 (some 26) HT HH (v := ?_) (a' := ?_) rfl rfl (by kernel_rfl) (fun _ _ _ h => h) (.inl ⟨by rfl, ?_⟩) ?_ ?_
   rotate_left
   · rintro w' ⟨rs', HS'⟩; have e16_0 := HS'.keepc e16_0; have e16_1 := HS'.keepc e16_1; have e16_2 := HS'.keepc e16_2; have e16_3 := HS'.keepc e16_3; have e16_4 := HS'.keepc e16_4; have e16_5 := HS'.keepc e16_5; have e16_6 := HS'.keepc e16_6; go_simp; with_reducible rfl
   rotate_left
   · simp only [Act.put, ptn]; rfl
   refine dr1 7 HT fun K hK => ?_
   refine go_cl1 HS (spec_l10Copy.calls ht17.out (HS.ro y16_5) m16_5) Tryz.func106 ?_; clear HS; intro v18 wt17 HS F; obtain ⟨B18, d18, rfl, m18⟩ := HS.form 7 rfl
   refine hK.out _ _ ⟨[], HS.arr [some 0, some 1, some 2, none, some 4, some 5, none] (by decide)⟩ (fun HH => ?_)
   clear hK K
   refine norm_ (a' := ?_) ?_ ?_
   rotate_left
   · show Act.put _ (some 27) _ = _; simp only [Act.put, ptn]; rfl
   refine dr1 8 HT fun K hK => ?_
   refine if_li q81 [7] ([t17] : List S81) ([.string t17.f0, .int .i64 t17.f1, .int .i64 t17.f2, .int .i64 t17.f3, .int .i64 t17.f4, .slice B18 t17.f5.length d18, .string t17.f6] ++ []) HS (MadeL.cons (js1 := [7]) (c := [.string t17.f0, .int .i64 t17.f1, .int .i64 t17.f2, .int .i64 t17.f3, .int .i64 t17.f4, .slice B18 t17.f5.length d18, .string t17.f6]) rfl (fun S hd hh => q81_pack (x := t17) hd (hh 7 (.own (Zd.slice 238 q238) t17.f5 [.slice B18 t17.f5.length d18]) rfl) (by decide)) MadeL.nil (by decide)) ?_; clear HS; intro v23 w23 HS F; obtain ⟨B23, d23, rfl, m23⟩ := HS.formn 1 8 rfl rfl
   refine hK.out _ _ ⟨[], HS.arr [some 0, some 1, some 2, none, some 4, some 5, none] (by decide)⟩ (fun HH => ?_)
   clear hK K
   refine norm_ (a' := ?_) ?_ ?_
   rotate_left
   · show Act.put _ (some 28) _ = _; simp only [Act.put, ptn]; rfl
   refine dr1 9 HT fun K hK => ?_
   refine wp_ap q81 6 8 HS rfl rfl Tryz.underlying30 info81 (of_eq_true c25) ?_; clear HS; intro v27 w27 HS; rw [← e_y27.out] at HS; obtain ⟨B27, d27, rfl, m27⟩ := HS.form 9 rfl
   (try simp only [hpn, hpm] at HS)
   have F := HS.boxes; simp only [bxn] at F
   refine hK.out _ _ ⟨[], HS.arr [some 0, some 1, some 2, none, some 4, some 5, none] (by decide)⟩ (fun HH => ?_)
   clear hK K
   refine norm_ (a' := ?_) ?_ ?_
   rotate_left
   · show Act.put _ (some 29) _ = _; simp only [Act.put, ptn]; rfl
   refine drq_of [(10, some 30)] ?_
   repeat (refine drp HT ?_)
   refine drq_end ?_
   refine dr_last 11 HT rfl (by kernel_rfl) (by decide) (fun K hK => ?_)
   refine if_st 5 1 HS (seg := [.slice B27 y27.length d27]) ?_; clear HS; intro w29 HS F
   refine hK.out _ _ ?_
   clear hK K
   refine done_ (done_of HT.out (by kernel_rfl)) ?_
   (try clear F)
   have F := HS.boxes; simp only [bxn] at F
   go_wp2
   go_roundg k19
   case measure => have := HKk19.out; omega
   case rel => exact ⟨_, _, _, rfl, H, ⟨by have := HKk19.out; omega⟩, HS.pick [0, 1, 2, 3, 4, 5, 9] (by decide) (by rfl)⟩
def spec_l17Copy.l0 : Nat → (List S202) → Int → S46 → S33 → Option (S46)
  | 0, _, _, _, _ => none
  | k + 1, l57, x59, a0, t9 => (if x59 < (a0.f1.length : Int) then (if 0 ≤ x59 then (if x59 < (a0.f1.length : Int) then (if 0 + (rd_T202 a0.f1 x59).f1.length ≤ 17592186044416 then (lets (([] : List Int) ++ ((rd_T202 a0.f1 x59).f1)) fun y72 => (if 0 + (rd_T202 a0.f1 x59).f2.f1.length ≤ 17592186044416 then (lets (([] : List Int) ++ ((rd_T202 a0.f1 x59).f2.f1)) fun y79 => (if l57.length + 1 ≤ 1759218604441 then (lets (l57 ++ ([(⟨(rd_T202 a0.f1 x59).f0, y72, (⟨(rd_T202 a0.f1 x59).f2.f0, y79, (rd_T202 a0.f1 x59).f2.f2, (rd_T202 a0.f1 x59).f2.f3, (rd_T202 a0.f1 x59).f2.f4⟩ : S200)⟩ : S202)] : List S202)) fun y86 => (spec_l17Copy.l0 k y86 (wrap64 (x59 + 1)) a0 t9)) else none)) else none)) else none) else none) else none) else (if 0 + a0.f5.length ≤ 3518437208883 then (lets (([] : List S205) ++ a0.f5) fun y93 => (some (⟨(⟨t9.f0, t9.f1, t9.f2⟩ : S33), l57, a0.f2, a0.f3, a0.f4, y93⟩ : S46))) else none))
def spec_l17Copy.f (k : Nat) (a0 : S46) : Option (S46) := ((spec_l13Copy.f k a0.f0).bind fun t9 => (spec_l17Copy.l0 k ([] : List S202) 0 a0 t9))
theorem spec_l17Copy.calls {k : Nat} {a0 : S46} {Ap0 Ap1 Ap2 Ap3 Ap4 : Option Addr} {np0 cp0 np1 cp1 np2 cp2 np3 cp3 np4 cp4 : Nat} {r : S46} {w : World} (h : spec_l17Copy.f k a0 = some r) (gp0 : k91.C w Ap0 np0 a0.f0.f0) (lp0 : np0 ≤ cp0) (gp1 : k81.C w Ap1 np1 a0.f0.f1) (lp1 : np1 ≤ cp1) (gp2 : k115.C w Ap2 np2 a0.f0.f2) (lp2 : np2 ≤ cp2) (gp3 : k202.C w Ap3 np3 a0.f1) (lp3 : np3 ≤ cp3) (gp4 : k205.C w Ap4 np4 a0.f5) (lp4 : np4 ≤ cp4) :
    Calls Tryz.prog 127 #[.agg #[.slice Ap0 np0 cp0, .slice Ap1 np1 cp1, .slice Ap2 np2 cp2, .slice Ap3 np3 cp3, .int .i64 a0.f2, .int .i64 a0.f3, .int .i64 a0.f4, .slice Ap4 np4 cp4]] w (fun e w' => ∃ v0_ v1_ v2_ v3_ v4_ : Value, e = .returned (.agg #[v0_, v1_, v2_, v3_, .int .i64 r.f2, .int .i64 r.f3, .int .i64 r.f4, v4_]) ∧ Hp noFP w w' [.own (Zd.slice 91 q91) r.f0.f0 [v0_], .own (Zd.slice 81 q81) r.f0.f1 [v1_], .own (Zd.slice 115 q115) r.f0.f2 [v2_], .own (Zd.slice 202 q202) r.f1 [v3_], .own (Zd.slice 205 q205) r.f5 [v4_]]) := by
 obtain rfl := C_len gp0
 obtain rfl := C_len gp1
 obtain rfl := C_len gp2
 obtain rfl := C_len gp3
 obtain rfl := C_len gp4
 have HS := Hp.start w
 have H := Aside0.mk h
 clear h
 unfold spec_l17Copy.f at H
 go_enter Tryz.func127, Tryz.ntmps127
 replace H := zbind H; obtain ⟨t9, ht9, H⟩ := H
 go_wp2_with (first | ((with_reducible refine gd 1 rfl ?_); refine ev_bx HS ?_; clear HS; intro g1 w1 HS F) | ((with_reducible refine gd 2 rfl ?_); refine ev_bx HS ?_; clear HS; intro g2 w2 HS F) | ((with_reducible refine gd 3 rfl ?_); refine ev_bx HS ?_; clear HS; intro g3 w3 HS F) | ((with_reducible refine gate_store (p := 3) rfl ?_); refine ev_st 2 0 HS (seg := [.slice Ap0 a0.f0.f0.length cp0, .slice Ap1 a0.f0.f1.length cp1, .slice Ap2 a0.f0.f2.length cp2, .slice Ap3 a0.f1.length cp3, .int .i64 a0.f2, .int .i64 a0.f3, .int .i64 a0.f4, .slice Ap4 a0.f5.length cp4]) ?_; clear HS; intro w7 HS F) | ((with_reducible refine gd 9 rfl ?_); refine ev_cl3 HS (spec_l13Copy.calls ht9.out (HS.ro gp0) lp0 (HS.ro gp1) lp1 (HS.ro gp2) lp2) Tryz.func105 ?_; clear HS; intro v10 v11 v12 wt9 HS F; obtain ⟨B10, d10, rfl, m10⟩ := HS.form 3 rfl; obtain ⟨B11, d11, rfl, m11⟩ := HS.form 4 rfl; obtain ⟨B12, d12, rfl, m12⟩ := HS.form 5 rfl) | ((with_reducible refine gate_store (p := 10) rfl ?_); refine ev_st 2 0 HS (seg := [.slice B10 t9.f0.length d10, .slice B11 t9.f1.length d11, .slice B12 t9.f2.length d12]) ?_; clear HS; intro w14 HS F) | ((with_reducible refine gd 11 rfl ?_); refine ev_li q202 [] ([] : List S202) [] HS MadeL.nil ?_; clear HS; intro v16 w16 HS F; obtain ⟨B16, d16, rfl, m16⟩ := HS.formn 0 6 rfl rfl) | ((with_reducible refine gate_store (p := 12) rfl ?_); refine ev_st 2 3 HS (seg := [.slice B16 0 d16]) ?_; clear HS; intro w18 HS F))
 go_loopg [4] k (fun kq v_4 w' => ∃ (l57 : List S202) (v58 : Value) (x59 : Int), v_4 = .int .i64 x59 ∧ Aside0 (spec_l17Copy.l0 kq l57 x59 a0 t9 = some r) ∧ Aside0 (kq ≤ k) ∧ Hp noFP w w' [.box g1 [.slice Ap0 a0.f0.f0.length cp0, .slice Ap1 a0.f0.f1.length cp1, .slice Ap2 a0.f0.f2.length cp2, .slice Ap3 a0.f1.length cp3, .int .i64 a0.f2, .int .i64 a0.f3, .int .i64 a0.f4, .slice Ap4 a0.f5.length cp4] 46, .box g2 [.slice none 0 0, .slice none 0 0, .slice none 0 0, .slice none 0 0, .int .i64 0, .int .i64 0, .int .i64 0, .slice none 0 0] 46, .box g3 [.slice B10 t9.f0.length d10, .slice B11 t9.f1.length d11, .slice B12 t9.f2.length d12, v58, .int .i64 a0.f2, .int .i64 a0.f3, .int .i64 a0.f4, .slice Ap4 a0.f5.length cp4] 46, .own (Zd.slice 91 q91) t9.f0 [.slice B10 t9.f0.length d10], .own (Zd.slice 81 q81) t9.f1 [.slice B11 t9.f1.length d11], .own (Zd.slice 115 q115) t9.f2 [.slice B12 t9.f2.length d12], .own (Zd.slice 202 q202) l57 [v58]])
 case atStart => exact ⟨_, _, _, rfl, H, ⟨Nat.le_refl _⟩, HS⟩
 case round =>
  clear HS H; (try clear F)
  obtain ⟨l57, v58, x59, rfl, H, HKk56, HS⟩ := hrel
  obtain ⟨B58, d58, rfl, m58⟩ := HS.form 6 rfl
  have F := HS.boxes; simp only [bxn] at F
  cases gk with
  | zero => exact absurd H.out (by simp [spec_l17Copy.l0])
  | succ k56 =>
   simp only [spec_l17Copy.l0] at H
   replace H := znif H; rcases H with ⟨c61, H⟩ | ⟨c61, H⟩
   case inl =>
    replace H := zgo H; obtain ⟨c92, H⟩ := H
    replace H := zlets H; obtain ⟨y93, e_y93, H⟩ := H
    obtain rfl := zsome H
    go_wp2_with (first | ((with_reducible refine gd 43 rfl ?_); refine ev_li q205 [] ([] : List S205) [] HS MadeL.nil ?_; clear HS; intro v90 w90 HS F; obtain ⟨B90, d90, rfl, m90⟩ := HS.formn 0 7 rfl rfl) | ((with_reducible refine gd 46 rfl ?_); refine ev_apr fl205 7 HS rfl (HS.ro gp4) Tryz.underlying44 info205 (of_eq_true c92) ?_; clear HS; intro v93 w93 HS; rw [← e_y93.out] at HS; obtain ⟨B93, d93, rfl, m93⟩ := HS.form 8 rfl; (try simp only [hpn, hpm] at HS); have F := HS.boxes; simp only [bxn] at F) | ((with_reducible refine gate_store (p := 47) rfl ?_); refine ev_st 2 7 HS (seg := [.slice B93 y93.length d93]) ?_; clear HS; intro w95 HS F) | ((with_reducible refine gate_store (p := 2) rfl ?_); refine ev_st 1 0 HS (seg := [.slice B10 t9.f0.length d10, .slice B11 t9.f1.length d11, .slice B12 t9.f2.length d12, .slice B58 l57.length d58, .int .i64 a0.f2, .int .i64 a0.f3, .int .i64 a0.f4, .slice B93 y93.length d93]) ?_; clear HS; intro w97 HS F))
    exact bodyPost_ret (results_single rfl (.cell _ _ _ _ _ rfl (HS.boxAt (i := 1) rfl) Tryz.underlying46 rfl (by kernel_rfl) .nil)) rfl ⟨_, _, _, _, _, rfl, HS.pick [3, 4, 5, 6, 8] (by decide) (by rfl)⟩
   replace H := zgo H; obtain ⟨c62, H⟩ := H
   replace H := zgo H; obtain ⟨c63, H⟩ := H
   obtain ⟨ad64, B64_1, d64_1, B64_3, d64_3, rfl, e64_0, e64_1, e64_2, e64_3, e64_4, e64_5, e64_6, m64_1, y64_1, m64_3, y64_3⟩ := at_T202 gp3 x59 (of_eq_true c62) (of_eq_true c63)
   have e64_0_64 := HS.keepc e64_0
   have e64_1_64 := HS.keepc e64_1
   have e64_2_64 := HS.keepc e64_2
   have e64_3_64 := HS.keepc e64_3
   have e64_4_64 := HS.keepc e64_4
   have e64_5_64 := HS.keepc e64_5
   have e64_6_64 := HS.keepc e64_6
   replace H := zgo H; obtain ⟨c71, H⟩ := H
   replace H := zlets H; obtain ⟨y72, e_y72, H⟩ := H
   replace H := zgo H; obtain ⟨c78, H⟩ := H
   replace H := zlets H; obtain ⟨y79, e_y79, H⟩ := H
   replace H := zgo H; obtain ⟨c85, H⟩ := H
   replace H := zlets H; obtain ⟨y86, e_y86, H⟩ := H
   go_wp2_with (first | ((with_reducible refine gd 5 rfl ?_); refine ev_bx HS ?_; clear HS; intro g5 w5 HS F) | ((with_reducible refine gate_store (p := 5) rfl ?_); refine ev_st 7 0 HS (seg := [.int .i64 ((rd_T202 a0.f1 x59).f0), .slice B64_1 (rd_T202 a0.f1 x59).f1.length d64_1, .int .i64 ((rd_T202 a0.f1 x59).f2.f0), .slice B64_3 (rd_T202 a0.f1 x59).f2.f1.length d64_3, .bool ((rd_T202 a0.f1 x59).f2.f2), .bool ((rd_T202 a0.f1 x59).f2.f3), .int .i64 ((rd_T202 a0.f1 x59).f2.f4)]) ?_; clear HS; intro w67 HS F) | ((with_reducible refine gd 25 rfl ?_); refine ev_li (Zd.int .i64) [] ([] : List Int) [] HS MadeL.nil ?_; clear HS; intro v69 w69 HS F; obtain ⟨B69, d69, rfl, m69⟩ := HS.formn 0 8 rfl rfl) | ((with_reducible refine gd 28 rfl ?_); refine ev_apr (flat_int _) 8 HS rfl (HS.ro y64_1) Tryz.underlying52 info3 (of_eq_true c71) ?_; clear HS; intro v72 w72 HS; rw [← e_y72.out] at HS; obtain ⟨B72, d72, rfl, m72⟩ := HS.form 9 rfl; (try simp only [hpn, hpm] at HS); have F := HS.boxes; simp only [bxn] at F) | ((with_reducible refine gate_store (p := 29) rfl ?_); refine ev_st 7 1 HS (seg := [.slice B72 y72.length d72]) ?_; clear HS; intro w74 HS F) | ((with_reducible refine gd 30 rfl ?_); refine ev_li (Zd.int .i64) [] ([] : List Int) [] HS MadeL.nil ?_; clear HS; intro v76 w76 HS F; obtain ⟨B76, d76, rfl, m76⟩ := HS.formn 0 10 rfl rfl) | ((with_reducible refine gd 34 rfl ?_); refine ev_apr (flat_int _) 10 HS rfl (HS.ro y64_3) Tryz.underlying52 info3 (of_eq_true c78) ?_; clear HS; intro v79 w79 HS; rw [← e_y79.out] at HS; obtain ⟨B79, d79, rfl, m79⟩ := HS.form 11 rfl; (try simp only [hpn, hpm] at HS); have F := HS.boxes; simp only [bxn] at F) | ((with_reducible refine gate_store (p := 36) rfl ?_); refine ev_st 7 3 HS (seg := [.slice B79 y79.length d79]) ?_; clear HS; intro w81 HS F) | ((with_reducible refine gd 40 rfl ?_); refine ev_li q202 [9, 11] ([(⟨(rd_T202 a0.f1 x59).f0, y72, (⟨(rd_T202 a0.f1 x59).f2.f0, y79, (rd_T202 a0.f1 x59).f2.f2, (rd_T202 a0.f1 x59).f2.f3, (rd_T202 a0.f1 x59).f2.f4⟩ : S200)⟩ : S202)] : List S202) ([.int .i64 ((rd_T202 a0.f1 x59).f0), .slice B72 y72.length d72, .int .i64 ((rd_T202 a0.f1 x59).f2.f0), .slice B79 y79.length d79, .bool ((rd_T202 a0.f1 x59).f2.f2), .bool ((rd_T202 a0.f1 x59).f2.f3), .int .i64 ((rd_T202 a0.f1 x59).f2.f4)] ++ []) HS (MadeL.cons (js1 := [9, 11]) (c := [.int .i64 ((rd_T202 a0.f1 x59).f0), .slice B72 y72.length d72, .int .i64 ((rd_T202 a0.f1 x59).f2.f0), .slice B79 y79.length d79, .bool ((rd_T202 a0.f1 x59).f2.f2), .bool ((rd_T202 a0.f1 x59).f2.f3), .int .i64 ((rd_T202 a0.f1 x59).f2.f4)]) rfl (fun S hd hh => q202_pack (x := (⟨(rd_T202 a0.f1 x59).f0, y72, (⟨(rd_T202 a0.f1 x59).f2.f0, y79, (rd_T202 a0.f1 x59).f2.f2, (rd_T202 a0.f1 x59).f2.f3, (rd_T202 a0.f1 x59).f2.f4⟩ : S200)⟩ : S202)) hd (hh 9 (.own (Zd.slice 3 (Zd.int .i64)) y72 [.slice B72 y72.length d72]) rfl) (hh 11 (.own (Zd.slice 3 (Zd.int .i64)) y79 [.slice B79 y79.length d79]) rfl) (by decide)) MadeL.nil (by decide)) ?_; clear HS; intro v83 w83 HS F; obtain ⟨B83, d83, rfl, m83⟩ := HS.formn 1 12 rfl rfl) | ((with_reducible refine gd 41 rfl ?_); refine ev_ap q202 6 12 HS rfl rfl Tryz.underlying43 info202 (of_eq_true c85) ?_; clear HS; intro v86 w86 HS; rw [← e_y86.out] at HS; obtain ⟨B86, d86, rfl, m86⟩ := HS.form 13 rfl; (try simp only [hpn, hpm] at HS); have F := HS.boxes; simp only [bxn] at F) | ((with_reducible refine gate_store (p := 42) rfl ?_); refine ev_st 2 3 HS (seg := [.slice B86 y86.length d86]) ?_; clear HS; intro w88 HS F))
   go_roundg k56
   case measure => have := HKk56.out; omega
   case rel => exact ⟨_, _, _, rfl, H, ⟨by have := HKk56.out; omega⟩, HS.pick [0, 1, 2, 3, 4, 5, 13] (by decide) (by rfl)⟩
def spec_l01In.f (a0 : Int) (a1 : Int) (a2 : Int) : Option (Bool) := (if a1 ≤ a0 then (some (decide (a0 ≤ a2))) else (some false))
theorem spec_l01In.calls {a0 : Int} {a1 : Int} {a2 : Int} {r : Bool} {w : World} (h : spec_l01In.f a0 a1 a2 = some r) :
    Calls Tryz.prog 74 #[.int .i64 a0, .int .i64 a1, .int .i64 a2] w (fun e w' => e = .returned (.bool r) ∧ Hp noFP w w' []) := by
 have HS := Hp.start w
 have H := Aside0.mk h
 clear h
 unfold spec_l01In.f at H
 go_enter Tryz.func74, Tryz.ntmps74
 replace H := zif H; rcases H with ⟨c1, H⟩ | ⟨c1, H⟩
 case inl =>
  obtain rfl := zsome H
  go_wp2
  go_ret
  exact HS.pk
 obtain rfl := zsome H
 go_wp2
 go_ret
 exact HS.pk
def spec_NameOk.l0 : Nat → Int → Int → ByteArray → Option (Bool)
  | 0, _, _, _ => none
  | k + 1, x14, x15, a0 => (if x15 < (a0.size : Int) then (if 0 ≤ x15 then (if x15 < (a0.size : Int) then (if 97 ≤ (bt a0 x15) then (if (bt a0 x15) ≤ 122 then (spec_NameOk.l0 k (wrap64 (x14 + 1)) (wrap64 (x15 + 1)) a0) else (if (bt a0 x15) = 46 then (if 0 < x14 then (spec_NameOk.l0 k 0 (wrap64 (x15 + 1)) a0) else (some false)) else (some false))) else (if (bt a0 x15) = 46 then (if 0 < x14 then (spec_NameOk.l0 k 0 (wrap64 (x15 + 1)) a0) else (some false)) else (some false))) else none) else none) else ((spec_l01In.f (a0.size : Int) 1 20).bind fun t30 => (if t30 = true then (some (decide (0 < x14))) else (some false))))
def spec_NameOk.f (k : Nat) (a0 : ByteArray) : Option (Bool) := (spec_NameOk.l0 k 0 0 a0)
theorem spec_NameOk.calls {k : Nat} {a0 : ByteArray} {r : Bool} {w : World} (h : spec_NameOk.f k a0 = some r) :
    Calls Tryz.prog 139 #[.string a0] w (fun e w' => e = .returned (.bool r) ∧ Hp noFP w w' []) := by
 have HS := Hp.start w
 have H := Aside0.mk h
 clear h
 unfold spec_NameOk.f at H
 go_enter Tryz.func139, Tryz.ntmps139
 go_wp2
 go_loopg [3, 4] k (fun kq v_3 v_4 w' => ∃ (x14 : Int) (x15 : Int), v_3 = .int .i64 x14 ∧ v_4 = .int .i64 x15 ∧ Aside0 (spec_NameOk.l0 kq x14 x15 a0 = some r) ∧ Aside0 (kq ≤ k) ∧ Hp noFP w w' [])
 case atStart => exact ⟨_, _, rfl, rfl, H, ⟨Nat.le_refl _⟩, HS⟩
 case round =>
  clear HS H; (try clear F)
  obtain ⟨x14, x15, rfl, rfl, H, HKk13, HS⟩ := hrel
  cases gk with
  | zero => exact absurd H.out (by simp [spec_NameOk.l0])
  | succ k13 =>
   simp only [spec_NameOk.l0] at H
   replace H := znif H; rcases H with ⟨c17, H⟩ | ⟨c17, H⟩
   case inl =>
    replace H := zbind H; obtain ⟨t30, ht30, H⟩ := H
    replace H := zifb H; rcases H with ⟨c32, H⟩ | ⟨c32, H⟩
    case inl =>
     subst c32
     obtain rfl := zsome H
     go_wp2_with ((with_reducible refine gd 35 rfl ?_); refine ev_cl HS (spec_l01In.calls ht30.out) Tryz.func74 ?_; clear HS; intro wt30 HS F)
     go_ret
     exact HS.pk
    subst c32
    obtain rfl := zsome H
    go_wp2_with ((with_reducible refine gd 35 rfl ?_); refine ev_cl HS (spec_l01In.calls ht30.out) Tryz.func74 ?_; clear HS; intro wt30 HS F)
    go_ret
    exact HS.pk
   replace H := zgo H; obtain ⟨c18, H⟩ := H
   replace H := zgo H; obtain ⟨c19, H⟩ := H
   have hx20 := bt_at a0 x15
   replace H := znif H; rcases H with ⟨c21, H⟩ | ⟨c21, H⟩
   case inl =>
    have hx27 := bt_at a0 x15
    replace H := znif' H; rcases H with ⟨c28, H⟩ | ⟨c28, H⟩
    case inl =>
     have c28a := beq_eq_false_iff_ne.mpr c28
     have c28b := bne_iff_ne.mpr c28
     clear c28
     obtain rfl := zsome H
     go_wp2
     go_ret
     exact HS.pk
    have c28a := beq_iff_eq.mpr c28
    have c28b := bne_eq_false_iff_eq.mpr c28
    clear c28
    replace H := znif H; rcases H with ⟨c29, H⟩ | ⟨c29, H⟩
    case inl =>
     obtain rfl := zsome H
     go_wp2
     go_ret
     exact HS.pk
    go_wp2
    go_roundg k13
    case measure => have := HKk13.out; omega
    case rel => exact ⟨_, _, rfl, rfl, H, ⟨by have := HKk13.out; omega⟩, HS.pick [] (by decide) (by rfl)⟩
   have hx22 := bt_at a0 x15
   replace H := zif H; rcases H with ⟨c23, H⟩ | ⟨c23, H⟩
   case inl =>
    go_wp2
    go_roundg k13
    case measure => have := HKk13.out; omega
    case rel => exact ⟨_, _, rfl, rfl, H, ⟨by have := HKk13.out; omega⟩, HS.pick [] (by decide) (by rfl)⟩
   have hx24 := bt_at a0 x15
   replace H := znif' H; rcases H with ⟨c25, H⟩ | ⟨c25, H⟩
   case inl =>
    have c25a := beq_eq_false_iff_ne.mpr c25
    have c25b := bne_iff_ne.mpr c25
    clear c25
    obtain rfl := zsome H
    go_wp2
    go_ret
    exact HS.pk
   have c25a := beq_iff_eq.mpr c25
   have c25b := bne_eq_false_iff_eq.mpr c25
   clear c25
   replace H := znif H; rcases H with ⟨c26, H⟩ | ⟨c26, H⟩
   case inl =>
    obtain rfl := zsome H
    go_wp2
    go_ret
    exact HS.pk
   go_wp2
   go_roundg k13
   case measure => have := HKk13.out; omega
   case rel => exact ⟨_, _, rfl, rfl, H, ⟨by have := HKk13.out; omega⟩, HS.pick [] (by decide) (by rfl)⟩
def spec_PoliciesOk.l0 : Nat → Int → (List Int) → Option (Bool)
  | 0, _, _ => none
  | k + 1, x4, a0 => (if x4 < (a0.length : Int) then (if 0 ≤ x4 then (if x4 < (a0.length : Int) then ((spec_l01In.f (rd a0 x4) 0 99).bind fun t12 => (if t12 = true then (if 0 < x4 then (if 0 ≤ (wrap64 (x4 - 1)) then (if (wrap64 (x4 - 1)) < (a0.length : Int) then (if (rd a0 x4) ≤ (rd a0 (wrap64 (x4 - 1))) then (some false) else (spec_PoliciesOk.l0 k (wrap64 (x4 + 1)) a0)) else none) else none) else (spec_PoliciesOk.l0 k (wrap64 (x4 + 1)) a0)) else (some false))) else none) else none) else (some (decide ((a0.length : Int) ≤ 4))))
def spec_PoliciesOk.f (k : Nat) (a0 : (List Int)) : Option (Bool) := (spec_PoliciesOk.l0 k 0 a0)
def spec_PoliciesOk.T4 : TT := (true, [([], []), ([], []), ([0, 1], [0, 1]), ([2], [2]), ([3], [3]), ([4], [4]), ([5, 4], [5]), ([6], [6]), ([7, 6], [6, 7]), ([8, 6, 6], [6, 8]), ([9], [9]), ([9], [9]), ([11, 9], [9, 11]), ([10, 12, 9], [9, 10, 12]), ([13, 9], [9, 13]), ([9], [9]), ([9], [9]), ([15, 16, 9], [9, 15, 16]), ([17, 9], [9, 17]), ([14, 18, 9], [9, 14, 18]), ([9, 19, 6], [6, 9, 19]), ([6, 20], [6, 20])])
theorem spec_PoliciesOk.tT4 : rtab .any (opsOf Tryz.f184 4) = spec_PoliciesOk.T4 := by kernel_rfl
theorem spec_PoliciesOk.calls {k : Nat} {a0 : (List Int)} {Ap0 : Option Addr} {np0 cp0 : Nat} {r : Bool} {w : World} (h : spec_PoliciesOk.f k a0 = some r) (gp0 : (Kd.int .i64).C w Ap0 np0 a0) (lp0 : np0 ≤ cp0) :
    Calls Tryz.prog 184 #[.slice Ap0 np0 cp0] w (fun e w' => e = .returned (.bool r) ∧ Hp noFP w w' []) := by
 obtain rfl := C_len gp0
 have HS := Hp.start w
 have H := Aside0.mk h
 clear h
 unfold spec_PoliciesOk.f at H
 go_enter Tryz.func184, Tryz.ntmps184
 go_wp2
 go_loopg [3] k (fun kq v_3 w' => ∃ (x4 : Int), v_3 = .int .i64 x4 ∧ Aside0 (spec_PoliciesOk.l0 kq x4 a0 = some r) ∧ Aside0 (kq ≤ k) ∧ Hp noFP w w' [])
 case atStart => exact ⟨_, rfl, H, ⟨Nat.le_refl _⟩, HS⟩
 case round =>
  clear HS H; (try clear F)
  obtain ⟨x4, rfl, H, HKk3, HS⟩ := hrel
  cases gk with
  | zero => exact absurd H.out (by simp [spec_PoliciesOk.l0])
  | succ k3 =>
   simp only [spec_PoliciesOk.l0] at H
   replace H := znif H; rcases H with ⟨c6, H⟩ | ⟨c6, H⟩
   case inl =>
    obtain rfl := zsome H
    go_wp2
    go_ret
    exact HS.pk
   (try go_wp2)
   replace H := zgo H; obtain ⟨c5, H⟩ := H
   replace H := zgo H; obtain ⟨c7, H⟩ := H
   obtain ⟨ad9, rfl, e9_0⟩ := Kd.at_int gp0 x4 (of_eq_true c5) (of_eq_true c7)
   replace H := zbind H; obtain ⟨t12, ht12, H⟩ := H
   replace H := znifb H; rcases H with ⟨c14, H⟩ | ⟨c14, H⟩
   case inl =>
    subst c14
    refine dr_start [] HS #[false, false, false, false, false, false, false, false, false, false, false, false, false, false, false, false, false, false, false, false, false, false] (by kernel_rfl) rfl rfl spec_PoliciesOk.tT4 (fun w13 HT HS HH => ?_)
    (try clear F)
    refine drq_of [(0, some 10), (1, some 11), (2, some 12)] ?_
    repeat (refine drp HT ?_)
    refine drq_end ?_
    refine dr_take 3 (some 13) HT HH (v := ?_) (a' := ?_) rfl rfl (by kernel_rfl) (fun _ _ _ h => h) (.inl ⟨by rfl, ?_⟩) ?_ ?_
    rotate_left
    · rintro w' ⟨rs', HS'⟩; have e9_0 := HS'.keepc e9_0; go_simp; with_reducible rfl
    rotate_left
    · simp only [Act.put, ptn]; rfl
    refine dr1 4 HT fun K hK => ?_
    refine go_cl HS (spec_l01In.calls ht12.out) Tryz.func74 ?_; clear HS; intro wt12 HS F
    refine nrm 14 hK ⟨_, HS⟩ (fun HH => ?_); clear hK K
    refine drq_of [(5, some 15), (6, some 16), (7, some 17), (8, some 18), (9, some 19), (10, some 20), (11, some 21), (12, some 22), (13, some 23), (14, some 24), (15, some 25), (16, some 26), (17, some 27), (18, some 28), (19, some 29), (20, some 30), (21, some 31)] ?_
    repeat (first | (refine drq_pure HT (v := ?_) (a' := ?_) rfl rfl (by kernel_rfl) (fun _ _ _ h => h) (.inl ⟨by rfl, ?_⟩) ?_ ?_; rotate_left; (intro w'; go_simp; with_reducible rfl); rotate_left; (simp only [Act.put, ptn]; rfl)) | (refine drq_pure HT (v := undef) (a' := ?_) rfl rfl (by kernel_rfl) (fun _ _ _ h => h) (.inr ⟨by rfl, rfl⟩) ?_ ?_; rotate_left; (simp only [Act.put, ptn]; rfl)))
    refine drq_end ?_
    refine done_ (done_of HT.out (by kernel_rfl)) ?_
    obtain rfl := zsome H
    go_wp2
    go_ret
    exact HS.pk
   subst c14
   replace H := znif H; rcases H with ⟨c15, H⟩ | ⟨c15, H⟩
   case inl =>
    refine dr_start [] HS #[false, false, false, false, false, false, false, false, false, false, false, false, false, false, false, false, false, false, false, false, false, false] (by kernel_rfl) rfl rfl spec_PoliciesOk.tT4 (fun w11 HT HS HH => ?_)
    (try clear F)
    refine drq_of [(0, some 10), (1, some 11), (2, some 12)] ?_
    repeat (refine drp HT ?_)
    refine drq_end ?_
    refine dr_take 3 (some 13) HT HH (v := ?_) (a' := ?_) rfl rfl (by kernel_rfl) (fun _ _ _ h => h) (.inl ⟨by rfl, ?_⟩) ?_ ?_
    rotate_left
    · rintro w' ⟨rs', HS'⟩; have e9_0 := HS'.keepc e9_0; go_simp; with_reducible rfl
    rotate_left
    · simp only [Act.put, ptn]; rfl
    refine dr1 4 HT fun K hK => ?_
    refine go_cl HS (spec_l01In.calls ht12.out) Tryz.func74 ?_; clear HS; intro wt12 HS F
    refine nrm 14 hK ⟨_, HS⟩ (fun HH => ?_); clear hK K
    refine drq_of [(5, some 15), (6, some 16), (7, some 17), (8, some 18), (9, some 19), (10, some 20), (11, some 21), (12, some 22), (13, some 23), (14, some 24), (15, some 25), (16, some 26), (17, some 27), (18, some 28), (19, some 29), (20, some 30), (21, some 31)] ?_
    repeat (first | (refine drq_pure HT (v := ?_) (a' := ?_) rfl rfl (by kernel_rfl) (fun _ _ _ h => h) (.inl ⟨by rfl, ?_⟩) ?_ ?_; rotate_left; (intro w'; go_simp; with_reducible rfl); rotate_left; (simp only [Act.put, ptn]; rfl)) | (refine drq_pure HT (v := undef) (a' := ?_) rfl rfl (by kernel_rfl) (fun _ _ _ h => h) (.inr ⟨by rfl, rfl⟩) ?_ ?_; rotate_left; (simp only [Act.put, ptn]; rfl)))
    refine drq_end ?_
    refine done_ (done_of HT.out (by kernel_rfl)) ?_
    go_wp2
    go_roundg k3
    case measure => have := HKk3.out; omega
    case rel => exact ⟨_, rfl, H, ⟨by have := HKk3.out; omega⟩, HS.pick [] (by decide) (by rfl)⟩
   replace H := zgo H; obtain ⟨c16, H⟩ := H
   replace H := zgo H; obtain ⟨c17, H⟩ := H
   obtain ⟨ad18, hq18, e18_0⟩ := Kd.at_int gp0 (wrap64 (x4 - 1)) (of_eq_true c16) (of_eq_true c17); obtain rfl := Option.some.inj hq18
   refine dr_start [] HS #[false, false, false, false, false, false, false, false, false, false, false, false, false, false, false, false, false, false, false, false, false, false] (by kernel_rfl) rfl rfl spec_PoliciesOk.tT4 (fun w8 HT HS HH => ?_)
   (try clear F)
   refine drq_of [(0, some 10), (1, some 11), (2, some 12)] ?_
   repeat (refine drp HT ?_)
   refine drq_end ?_
   refine dr_take 3 (some 13) HT HH (v := ?_) (a' := ?_) rfl rfl (by kernel_rfl) (fun _ _ _ h => h) (.inl ⟨by rfl, ?_⟩) ?_ ?_
   rotate_left
   · rintro w' ⟨rs', HS'⟩; have e9_0 := HS'.keepc e9_0; go_simp; with_reducible rfl
   rotate_left
   · simp only [Act.put, ptn]; rfl
   refine dr1 4 HT fun K hK => ?_
   refine go_cl HS (spec_l01In.calls ht12.out) Tryz.func74 ?_; clear HS; intro wt12 HS F
   refine nrm 14 hK ⟨_, HS⟩ (fun HH => ?_); clear hK K
   refine drq_of [(5, some 15), (6, some 16), (7, some 17), (8, some 18), (9, some 19), (10, some 20), (11, some 21), (12, some 22), (13, some 23)] ?_
   repeat (refine drp HT ?_)
   refine drq_end ?_
   refine dr_take 14 (some 24) HT HH (v := ?_) (a' := ?_) rfl rfl (by kernel_rfl) (fun _ _ _ h => h) (.inl ⟨by rfl, ?_⟩) ?_ ?_
   rotate_left
   · rintro w' ⟨rs', HS'⟩; have e18_0 := HS'.keepc e18_0; go_simp; with_reducible rfl
   rotate_left
   · simp only [Act.put, ptn]; rfl
   refine drq_of [(15, some 25), (16, some 26), (17, some 27)] ?_
   repeat (refine drp HT ?_)
   refine drq_end ?_
   refine dr_take 18 (some 28) HT HH (v := ?_) (a' := ?_) rfl rfl (by kernel_rfl) (fun _ _ _ h => h) (.inl ⟨by rfl, ?_⟩) ?_ ?_
   rotate_left
   · rintro w' ⟨rs', HS'⟩; have e9_0 := HS'.keepc e9_0; go_simp; with_reducible rfl
   rotate_left
   · simp only [Act.put, ptn]; rfl
   refine drq_of [(19, some 29), (20, some 30), (21, some 31)] ?_
   repeat (refine drp HT ?_)
   refine drq_end ?_
   refine done_ (done_of HT.out (by kernel_rfl)) ?_
   replace H := zif H; rcases H with ⟨c10, H⟩ | ⟨c10, H⟩
   case inl =>
    (try simp only [c10, dcn])
    obtain rfl := zsome H
    go_wp2
    go_ret
    exact HS.pk
   (try simp only [c10, dcn])
   go_wp2
   go_roundg k3
   case measure => have := HKk3.out; omega
   case rel => exact ⟨_, rfl, H, ⟨by have := HKk3.out; omega⟩, HS.pick [] (by decide) (by rfl)⟩
def spec_NamesOk.l0 : Nat → Int → (List ByteArray) → Option (Bool)
  | 0, _, _ => none
  | k + 1, x4, a0 => (if x4 < (a0.length : Int) then (if 0 ≤ x4 then (if x4 < (a0.length : Int) then ((spec_NameOk.f k (rdOf ByteArray.empty a0 x4)).bind fun t12 => (if t12 = true then (if 0 < x4 then (if 0 ≤ (wrap64 (x4 - 1)) then (if (wrap64 (x4 - 1)) < (a0.length : Int) then (if (Op.bytesLess ((rdOf ByteArray.empty a0 (wrap64 (x4 - 1))).toList) ((rdOf ByteArray.empty a0 x4).toList)) = true then (spec_NamesOk.l0 k (wrap64 (x4 + 1)) a0) else (some false)) else none) else none) else (spec_NamesOk.l0 k (wrap64 (x4 + 1)) a0)) else (some false))) else none) else none) else (some (decide ((a0.length : Int) ≤ 4))))
def spec_NamesOk.f (k : Nat) (a0 : (List ByteArray)) : Option (Bool) := (spec_NamesOk.l0 k 0 a0)
def spec_NamesOk.T4 : TT := (true, [([], []), ([], []), ([0, 1], [0, 1]), ([2], [2]), ([3], [3]), ([4], [4]), ([5, 4], [5]), ([6], [6]), ([7, 6], [6, 7]), ([8, 6, 6], [6, 8]), ([9], [9]), ([9], [9]), ([11, 9], [9, 11]), ([10, 12, 9], [9, 10, 12]), ([13, 9], [9, 13]), ([9], [9]), ([9], [9]), ([15, 16, 9], [9, 15, 16]), ([17, 9], [9, 17]), ([14, 18, 9], [9, 14, 18]), ([9, 19, 6], [6, 9, 19]), ([6, 20], [6, 20])])
theorem spec_NamesOk.tT4 : rtab .any (opsOf Tryz.f185 4) = spec_NamesOk.T4 := by kernel_rfl
theorem spec_NamesOk.calls {k : Nat} {a0 : (List ByteArray)} {Ap0 : Option Addr} {np0 cp0 : Nat} {r : Bool} {w : World} (h : spec_NamesOk.f k a0 = some r) (gp0 : Kd.string.C w Ap0 np0 a0) (lp0 : np0 ≤ cp0) :
    Calls Tryz.prog 185 #[.slice Ap0 np0 cp0] w (fun e w' => e = .returned (.bool r) ∧ Hp noFP w w' []) := by
 obtain rfl := C_len gp0
 have HS := Hp.start w
 have H := Aside0.mk h
 clear h
 unfold spec_NamesOk.f at H
 go_enter Tryz.func185, Tryz.ntmps185
 go_wp2
 go_loopg [3] k (fun kq v_3 w' => ∃ (x4 : Int), v_3 = .int .i64 x4 ∧ Aside0 (spec_NamesOk.l0 kq x4 a0 = some r) ∧ Aside0 (kq ≤ k) ∧ Hp noFP w w' [])
 case atStart => exact ⟨_, rfl, H, ⟨Nat.le_refl _⟩, HS⟩
 case round =>
  clear HS H; (try clear F)
  obtain ⟨x4, rfl, H, HKk3, HS⟩ := hrel
  cases gk with
  | zero => exact absurd H.out (by simp [spec_NamesOk.l0])
  | succ k3 =>
   simp only [spec_NamesOk.l0] at H
   replace H := znif H; rcases H with ⟨c6, H⟩ | ⟨c6, H⟩
   case inl =>
    obtain rfl := zsome H
    go_wp2
    go_ret
    exact HS.pk
   (try go_wp2)
   replace H := zgo H; obtain ⟨c5, H⟩ := H
   replace H := zgo H; obtain ⟨c7, H⟩ := H
   obtain ⟨ad9, rfl, e9_0⟩ := Kd.at_string gp0 x4 (of_eq_true c5) (of_eq_true c7)
   replace H := zbind H; obtain ⟨t12, ht12, H⟩ := H
   replace H := znifb H; rcases H with ⟨c14, H⟩ | ⟨c14, H⟩
   case inl =>
    subst c14
    refine dr_start [] HS #[false, false, false, false, false, false, false, false, false, false, false, false, false, false, false, false, false, false, false, false, false, false] (by kernel_rfl) rfl rfl spec_NamesOk.tT4 (fun w13 HT HS HH => ?_)
    (try clear F)
    refine drq_of [(0, some 10), (1, some 11), (2, some 12)] ?_
    repeat (refine drp HT ?_)
    refine drq_end ?_
    refine dr_take 3 (some 13) HT HH (v := ?_) (a' := ?_) rfl rfl (by kernel_rfl) (fun _ _ _ h => h) (.inl ⟨by rfl, ?_⟩) ?_ ?_
    rotate_left
    · rintro w' ⟨rs', HS'⟩; have e9_0 := HS'.keepc e9_0; go_simp; with_reducible rfl
    rotate_left
    · simp only [Act.put, ptn]; rfl
    refine dr1 4 HT fun K hK => ?_
    refine go_cl HS (spec_NameOk.calls ht12.out) Tryz.func139 ?_; clear HS; intro wt12 HS F
    refine nrm 14 hK ⟨_, HS⟩ (fun HH => ?_); clear hK K
    refine drq_of [(5, some 15), (6, some 16), (7, some 17), (8, some 18), (9, some 19), (10, some 20), (11, some 21), (12, some 22), (13, some 23), (14, some 24), (15, some 25), (16, some 26), (17, some 27), (18, some 28), (19, some 29), (20, some 30), (21, some 31)] ?_
    repeat (first | (refine drq_pure HT (v := ?_) (a' := ?_) rfl rfl (by kernel_rfl) (fun _ _ _ h => h) (.inl ⟨by rfl, ?_⟩) ?_ ?_; rotate_left; (intro w'; go_simp; with_reducible rfl); rotate_left; (simp only [Act.put, ptn]; rfl)) | (refine drq_pure HT (v := undef) (a' := ?_) rfl rfl (by kernel_rfl) (fun _ _ _ h => h) (.inr ⟨by rfl, rfl⟩) ?_ ?_; rotate_left; (simp only [Act.put, ptn]; rfl)))
    refine drq_end ?_
    refine done_ (done_of HT.out (by kernel_rfl)) ?_
    obtain rfl := zsome H
    go_wp2
    go_ret
    exact HS.pk
   subst c14
   replace H := znif H; rcases H with ⟨c15, H⟩ | ⟨c15, H⟩
   case inl =>
    refine dr_start [] HS #[false, false, false, false, false, false, false, false, false, false, false, false, false, false, false, false, false, false, false, false, false, false] (by kernel_rfl) rfl rfl spec_NamesOk.tT4 (fun w11 HT HS HH => ?_)
    (try clear F)
    refine drq_of [(0, some 10), (1, some 11), (2, some 12)] ?_
    repeat (refine drp HT ?_)
    refine drq_end ?_
    refine dr_take 3 (some 13) HT HH (v := ?_) (a' := ?_) rfl rfl (by kernel_rfl) (fun _ _ _ h => h) (.inl ⟨by rfl, ?_⟩) ?_ ?_
    rotate_left
    · rintro w' ⟨rs', HS'⟩; have e9_0 := HS'.keepc e9_0; go_simp; with_reducible rfl
    rotate_left
    · simp only [Act.put, ptn]; rfl
    refine dr1 4 HT fun K hK => ?_
    refine go_cl HS (spec_NameOk.calls ht12.out) Tryz.func139 ?_; clear HS; intro wt12 HS F
    refine nrm 14 hK ⟨_, HS⟩ (fun HH => ?_); clear hK K
    refine drq_of [(5, some 15), (6, some 16), (7, some 17), (8, some 18), (9, some 19), (10, some 20), (11, some 21), (12, some 22), (13, some 23), (14, some 24), (15, some 25), (16, some 26), (17, some 27), (18, some 28), (19, some 29), (20, some 30), (21, some 31)] ?_
    repeat (first | (refine drq_pure HT (v := ?_) (a' := ?_) rfl rfl (by kernel_rfl) (fun _ _ _ h => h) (.inl ⟨by rfl, ?_⟩) ?_ ?_; rotate_left; (intro w'; go_simp; with_reducible rfl); rotate_left; (simp only [Act.put, ptn]; rfl)) | (refine drq_pure HT (v := undef) (a' := ?_) rfl rfl (by kernel_rfl) (fun _ _ _ h => h) (.inr ⟨by rfl, rfl⟩) ?_ ?_; rotate_left; (simp only [Act.put, ptn]; rfl)))
    refine drq_end ?_
    refine done_ (done_of HT.out (by kernel_rfl)) ?_
    go_wp2
    go_roundg k3
    case measure => have := HKk3.out; omega
    case rel => exact ⟨_, rfl, H, ⟨by have := HKk3.out; omega⟩, HS.pick [] (by decide) (by rfl)⟩
   replace H := zgo H; obtain ⟨c16, H⟩ := H
   replace H := zgo H; obtain ⟨c17, H⟩ := H
   obtain ⟨ad18, hq18, e18_0⟩ := Kd.at_string gp0 (wrap64 (x4 - 1)) (of_eq_true c16) (of_eq_true c17); obtain rfl := Option.some.inj hq18
   refine dr_start [] HS #[false, false, false, false, false, false, false, false, false, false, false, false, false, false, false, false, false, false, false, false, false, false] (by kernel_rfl) rfl rfl spec_NamesOk.tT4 (fun w8 HT HS HH => ?_)
   (try clear F)
   refine drq_of [(0, some 10), (1, some 11), (2, some 12)] ?_
   repeat (refine drp HT ?_)
   refine drq_end ?_
   refine dr_take 3 (some 13) HT HH (v := ?_) (a' := ?_) rfl rfl (by kernel_rfl) (fun _ _ _ h => h) (.inl ⟨by rfl, ?_⟩) ?_ ?_
   rotate_left
   · rintro w' ⟨rs', HS'⟩; have e9_0 := HS'.keepc e9_0; go_simp; with_reducible rfl
   rotate_left
   · simp only [Act.put, ptn]; rfl
   refine dr1 4 HT fun K hK => ?_
   refine go_cl HS (spec_NameOk.calls ht12.out) Tryz.func139 ?_; clear HS; intro wt12 HS F
   refine nrm 14 hK ⟨_, HS⟩ (fun HH => ?_); clear hK K
   refine drq_of [(5, some 15), (6, some 16), (7, some 17), (8, some 18), (9, some 19), (10, some 20), (11, some 21), (12, some 22), (13, some 23)] ?_
   repeat (refine drp HT ?_)
   refine drq_end ?_
   refine dr_take 14 (some 24) HT HH (v := ?_) (a' := ?_) rfl rfl (by kernel_rfl) (fun _ _ _ h => h) (.inl ⟨by rfl, ?_⟩) ?_ ?_
   rotate_left
   · rintro w' ⟨rs', HS'⟩; have e18_0 := HS'.keepc e18_0; go_simp; with_reducible rfl
   rotate_left
   · simp only [Act.put, ptn]; rfl
   refine drq_of [(15, some 25), (16, some 26), (17, some 27)] ?_
   repeat (refine drp HT ?_)
   refine drq_end ?_
   refine dr_take 18 (some 28) HT HH (v := ?_) (a' := ?_) rfl rfl (by kernel_rfl) (fun _ _ _ h => h) (.inl ⟨by rfl, ?_⟩) ?_ ?_
   rotate_left
   · rintro w' ⟨rs', HS'⟩; have e9_0 := HS'.keepc e9_0; go_simp; with_reducible rfl
   rotate_left
   · simp only [Act.put, ptn]; rfl
   refine drq_of [(19, some 29), (20, some 30), (21, some 31)] ?_
   repeat (refine drp HT ?_)
   refine drq_end ?_
   refine done_ (done_of HT.out (by kernel_rfl)) ?_
   replace H := znifb H; rcases H with ⟨c10, H⟩ | ⟨c10, H⟩
   case inl =>
    (try simp only [c10, dcn])
    obtain rfl := zsome H
    go_wp2
    go_ret
    exact HS.pk
   (try simp only [c10, dcn])
   go_wp2
   go_roundg k3
   case measure => have := HKk3.out; omega
   case rel => exact ⟨_, rfl, H, ⟨by have := HKk3.out; omega⟩, HS.pick [] (by decide) (by rfl)⟩
def spec_l09Num.f (a0 : Int) : Option (Bool) := ((spec_l01In.f a0 0 9999).bind fun t1 => (some t1))
theorem spec_l09Num.calls {a0 : Int} {r : Bool} {w : World} (h : spec_l09Num.f a0 = some r) :
    Calls Tryz.prog 75 #[.int .i64 a0] w (fun e w' => e = .returned (.bool r) ∧ Hp noFP w w' []) := by
 have HS := Hp.start w
 have H := Aside0.mk h
 clear h
 unfold spec_l09Num.f at H
 go_enter Tryz.func75, Tryz.ntmps75
 replace H := zbind H; obtain ⟨t1, ht1, H⟩ := H
 obtain rfl := zsome H
 go_wp2_with ((with_reducible refine gd 4 rfl ?_); refine ev_cl HS (spec_l01In.calls ht1.out) Tryz.func74 ?_; clear HS; intro wt1 HS F)
 go_ret
 exact HS.pk
def spec_CertOk.f (k : Nat) (a0 : S91) : Option (Bool) := ((spec_l09Num.f a0.f0).bind fun t3 => (if t3 = true then ((spec_l09Num.f a0.f3).bind fun t6 => (if t6 = true then ((spec_l09Num.f a0.f4).bind fun t9 => (if t9 = true then ((spec_NameOk.f k a0.f1).bind fun t12 => (if t12 = true then ((spec_NameOk.f k a0.f2).bind fun t15 => (if t15 = true then (if (a0.f5.size : Int) = 15 then ((spec_l01In.f a0.f7 0 99).bind fun t19 => (if t19 = true then ((spec_l01In.f a0.f8 0 7).bind fun t22 => (if t22 = true then ((spec_PoliciesOk.f k a0.f9).bind fun t25 => (if t25 = true then ((spec_NamesOk.f k a0.f10).bind fun t28 => (if t28 = true then ((spec_NamesOk.f k a0.f11).bind fun t31 => (if t31 = true then (some ((a0.f12.size : Int) == 15)) else (some false))) else (some false))) else (some false))) else (some false))) else (some false))) else (some false)) else (some false))) else (some false))) else (some false))) else (some false))) else (some false)))
theorem spec_CertOk.calls {k : Nat} {a0 : S91} {Ap0 Ap1 Ap2 : Option Addr} {np0 cp0 np1 cp1 np2 cp2 : Nat} {r : Bool} {w : World} (h : spec_CertOk.f k a0 = some r) (gp0 : (Kd.int .i64).C w Ap0 np0 a0.f9) (lp0 : np0 ≤ cp0) (gp1 : Kd.string.C w Ap1 np1 a0.f10) (lp1 : np1 ≤ cp1) (gp2 : Kd.string.C w Ap2 np2 a0.f11) (lp2 : np2 ≤ cp2) :
    Calls Tryz.prog 122 #[.agg #[.int .i64 a0.f0, .string a0.f1, .string a0.f2, .int .i64 a0.f3, .int .i64 a0.f4, .string a0.f5, .bool a0.f6, .int .i64 a0.f7, .int .i64 a0.f8, .slice Ap0 np0 cp0, .slice Ap1 np1 cp1, .slice Ap2 np2 cp2, .string a0.f12]] w (fun e w' => e = .returned (.bool r) ∧ Hp noFP w w' []) := by
 obtain rfl := C_len gp0
 obtain rfl := C_len gp1
 obtain rfl := C_len gp2
 have HS := Hp.start w
 have H := Aside0.mk h
 clear h
 unfold spec_CertOk.f at H
 go_enter Tryz.func122, Tryz.ntmps122
 replace H := zbind H; obtain ⟨t3, ht3, H⟩ := H
 replace H := znifb H; rcases H with ⟨c5, H⟩ | ⟨c5, H⟩
 case inl =>
  subst c5
  obtain rfl := zsome H
  go_wp2_with (first | ((with_reducible refine gd 1 rfl ?_); refine ev_bx HS ?_; clear HS; intro g1 w1 HS F) | ((with_reducible refine gd 5 rfl ?_); refine ev_cl HS (spec_l09Num.calls ht3.out) Tryz.func75 ?_; clear HS; intro wt3 HS F))
  go_ret
  exact HS.pk
 subst c5
 replace H := zbind H; obtain ⟨t6, ht6, H⟩ := H
 replace H := znifb H; rcases H with ⟨c8, H⟩ | ⟨c8, H⟩
 case inl =>
  subst c8
  obtain rfl := zsome H
  go_wp2_with (first | ((with_reducible refine gd 1 rfl ?_); refine ev_bx HS ?_; clear HS; intro g1 w1 HS F) | ((with_reducible refine gd 5 rfl ?_); refine ev_cl HS (spec_l09Num.calls ht3.out) Tryz.func75 ?_; clear HS; intro wt3 HS F) | ((with_reducible refine gd 9 rfl ?_); refine gg ?_; refine ev_cl HS (spec_l09Num.calls ht6.out) Tryz.func75 ?_; clear HS; intro wt6 HS F))
  go_ret
  exact HS.pk
 subst c8
 replace H := zbind H; obtain ⟨t9, ht9, H⟩ := H
 replace H := znifb H; rcases H with ⟨c11, H⟩ | ⟨c11, H⟩
 case inl =>
  subst c11
  obtain rfl := zsome H
  go_wp2_with (first | ((with_reducible refine gd 1 rfl ?_); refine ev_bx HS ?_; clear HS; intro g1 w1 HS F) | ((with_reducible refine gd 5 rfl ?_); refine ev_cl HS (spec_l09Num.calls ht3.out) Tryz.func75 ?_; clear HS; intro wt3 HS F) | ((with_reducible refine gd 9 rfl ?_); refine gg ?_; refine ev_cl HS (spec_l09Num.calls ht6.out) Tryz.func75 ?_; clear HS; intro wt6 HS F) | ((with_reducible refine gd 14 rfl ?_); refine gg ?_; refine ev_cl HS (spec_l09Num.calls ht9.out) Tryz.func75 ?_; clear HS; intro wt9 HS F))
  go_ret
  exact HS.pk
 subst c11
 replace H := zbind H; obtain ⟨t12, ht12, H⟩ := H
 replace H := znifb H; rcases H with ⟨c14, H⟩ | ⟨c14, H⟩
 case inl =>
  subst c14
  obtain rfl := zsome H
  go_wp2_with (first | ((with_reducible refine gd 1 rfl ?_); refine ev_bx HS ?_; clear HS; intro g1 w1 HS F) | ((with_reducible refine gd 5 rfl ?_); refine ev_cl HS (spec_l09Num.calls ht3.out) Tryz.func75 ?_; clear HS; intro wt3 HS F) | ((with_reducible refine gd 9 rfl ?_); refine gg ?_; refine ev_cl HS (spec_l09Num.calls ht6.out) Tryz.func75 ?_; clear HS; intro wt6 HS F) | ((with_reducible refine gd 14 rfl ?_); refine gg ?_; refine ev_cl HS (spec_l09Num.calls ht9.out) Tryz.func75 ?_; clear HS; intro wt9 HS F) | ((with_reducible refine gd 19 rfl ?_); refine gg ?_; refine ev_cl HS (spec_NameOk.calls ht12.out) Tryz.func139 ?_; clear HS; intro wt12 HS F))
  go_ret
  exact HS.pk
 subst c14
 replace H := zbind H; obtain ⟨t15, ht15, H⟩ := H
 replace H := znifb H; rcases H with ⟨c17, H⟩ | ⟨c17, H⟩
 case inl =>
  subst c17
  obtain rfl := zsome H
  go_wp2_with (first | ((with_reducible refine gd 1 rfl ?_); refine ev_bx HS ?_; clear HS; intro g1 w1 HS F) | ((with_reducible refine gd 5 rfl ?_); refine ev_cl HS (spec_l09Num.calls ht3.out) Tryz.func75 ?_; clear HS; intro wt3 HS F) | ((with_reducible refine gd 9 rfl ?_); refine gg ?_; refine ev_cl HS (spec_l09Num.calls ht6.out) Tryz.func75 ?_; clear HS; intro wt6 HS F) | ((with_reducible refine gd 14 rfl ?_); refine gg ?_; refine ev_cl HS (spec_l09Num.calls ht9.out) Tryz.func75 ?_; clear HS; intro wt9 HS F) | ((with_reducible refine gd 19 rfl ?_); refine gg ?_; refine ev_cl HS (spec_NameOk.calls ht12.out) Tryz.func139 ?_; clear HS; intro wt12 HS F) | ((with_reducible refine gd 24 rfl ?_); refine gg ?_; refine ev_cl HS (spec_NameOk.calls ht15.out) Tryz.func139 ?_; clear HS; intro wt15 HS F))
  go_ret
  exact HS.pk
 subst c17
 replace H := znif' H; rcases H with ⟨c18, H⟩ | ⟨c18, H⟩
 case inl =>
  have c18a := beq_eq_false_iff_ne.mpr c18
  have c18b := bne_iff_ne.mpr c18
  clear c18
  obtain rfl := zsome H
  go_wp2_with (first | ((with_reducible refine gd 1 rfl ?_); refine ev_bx HS ?_; clear HS; intro g1 w1 HS F) | ((with_reducible refine gd 5 rfl ?_); refine ev_cl HS (spec_l09Num.calls ht3.out) Tryz.func75 ?_; clear HS; intro wt3 HS F) | ((with_reducible refine gd 9 rfl ?_); refine gg ?_; refine ev_cl HS (spec_l09Num.calls ht6.out) Tryz.func75 ?_; clear HS; intro wt6 HS F) | ((with_reducible refine gd 14 rfl ?_); refine gg ?_; refine ev_cl HS (spec_l09Num.calls ht9.out) Tryz.func75 ?_; clear HS; intro wt9 HS F) | ((with_reducible refine gd 19 rfl ?_); refine gg ?_; refine ev_cl HS (spec_NameOk.calls ht12.out) Tryz.func139 ?_; clear HS; intro wt12 HS F) | ((with_reducible refine gd 24 rfl ?_); refine gg ?_; refine ev_cl HS (spec_NameOk.calls ht15.out) Tryz.func139 ?_; clear HS; intro wt15 HS F))
  go_ret
  exact HS.pk
 have c18a := beq_iff_eq.mpr c18
 have c18b := bne_eq_false_iff_eq.mpr c18
 clear c18
 replace H := zbind H; obtain ⟨t19, ht19, H⟩ := H
 replace H := znifb H; rcases H with ⟨c21, H⟩ | ⟨c21, H⟩
 case inl =>
  subst c21
  obtain rfl := zsome H
  go_wp2_with (first | ((with_reducible refine gd 1 rfl ?_); refine ev_bx HS ?_; clear HS; intro g1 w1 HS F) | ((with_reducible refine gd 5 rfl ?_); refine ev_cl HS (spec_l09Num.calls ht3.out) Tryz.func75 ?_; clear HS; intro wt3 HS F) | ((with_reducible refine gd 9 rfl ?_); refine gg ?_; refine ev_cl HS (spec_l09Num.calls ht6.out) Tryz.func75 ?_; clear HS; intro wt6 HS F) | ((with_reducible refine gd 14 rfl ?_); refine gg ?_; refine ev_cl HS (spec_l09Num.calls ht9.out) Tryz.func75 ?_; clear HS; intro wt9 HS F) | ((with_reducible refine gd 19 rfl ?_); refine gg ?_; refine ev_cl HS (spec_NameOk.calls ht12.out) Tryz.func139 ?_; clear HS; intro wt12 HS F) | ((with_reducible refine gd 24 rfl ?_); refine gg ?_; refine ev_cl HS (spec_NameOk.calls ht15.out) Tryz.func139 ?_; clear HS; intro wt15 HS F) | ((with_reducible refine gd 35 rfl ?_); refine gg ?_; refine ev_cl HS (spec_l01In.calls ht19.out) Tryz.func74 ?_; clear HS; intro wt19 HS F))
  go_ret
  exact HS.pk
 subst c21
 replace H := zbind H; obtain ⟨t22, ht22, H⟩ := H
 replace H := znifb H; rcases H with ⟨c24, H⟩ | ⟨c24, H⟩
 case inl =>
  subst c24
  obtain rfl := zsome H
  go_wp2_with (first | ((with_reducible refine gd 1 rfl ?_); refine ev_bx HS ?_; clear HS; intro g1 w1 HS F) | ((with_reducible refine gd 5 rfl ?_); refine ev_cl HS (spec_l09Num.calls ht3.out) Tryz.func75 ?_; clear HS; intro wt3 HS F) | ((with_reducible refine gd 9 rfl ?_); refine gg ?_; refine ev_cl HS (spec_l09Num.calls ht6.out) Tryz.func75 ?_; clear HS; intro wt6 HS F) | ((with_reducible refine gd 14 rfl ?_); refine gg ?_; refine ev_cl HS (spec_l09Num.calls ht9.out) Tryz.func75 ?_; clear HS; intro wt9 HS F) | ((with_reducible refine gd 19 rfl ?_); refine gg ?_; refine ev_cl HS (spec_NameOk.calls ht12.out) Tryz.func139 ?_; clear HS; intro wt12 HS F) | ((with_reducible refine gd 24 rfl ?_); refine gg ?_; refine ev_cl HS (spec_NameOk.calls ht15.out) Tryz.func139 ?_; clear HS; intro wt15 HS F) | ((with_reducible refine gd 35 rfl ?_); refine gg ?_; refine ev_cl HS (spec_l01In.calls ht19.out) Tryz.func74 ?_; clear HS; intro wt19 HS F) | ((with_reducible refine gd 40 rfl ?_); refine gg ?_; refine ev_cl HS (spec_l01In.calls ht22.out) Tryz.func74 ?_; clear HS; intro wt22 HS F))
  go_ret
  exact HS.pk
 subst c24
 replace H := zbind H; obtain ⟨t25, ht25, H⟩ := H
 replace H := znifb H; rcases H with ⟨c27, H⟩ | ⟨c27, H⟩
 case inl =>
  subst c27
  obtain rfl := zsome H
  go_wp2_with (first | ((with_reducible refine gd 1 rfl ?_); refine ev_bx HS ?_; clear HS; intro g1 w1 HS F) | ((with_reducible refine gd 5 rfl ?_); refine ev_cl HS (spec_l09Num.calls ht3.out) Tryz.func75 ?_; clear HS; intro wt3 HS F) | ((with_reducible refine gd 9 rfl ?_); refine gg ?_; refine ev_cl HS (spec_l09Num.calls ht6.out) Tryz.func75 ?_; clear HS; intro wt6 HS F) | ((with_reducible refine gd 14 rfl ?_); refine gg ?_; refine ev_cl HS (spec_l09Num.calls ht9.out) Tryz.func75 ?_; clear HS; intro wt9 HS F) | ((with_reducible refine gd 19 rfl ?_); refine gg ?_; refine ev_cl HS (spec_NameOk.calls ht12.out) Tryz.func139 ?_; clear HS; intro wt12 HS F) | ((with_reducible refine gd 24 rfl ?_); refine gg ?_; refine ev_cl HS (spec_NameOk.calls ht15.out) Tryz.func139 ?_; clear HS; intro wt15 HS F) | ((with_reducible refine gd 35 rfl ?_); refine gg ?_; refine ev_cl HS (spec_l01In.calls ht19.out) Tryz.func74 ?_; clear HS; intro wt19 HS F) | ((with_reducible refine gd 40 rfl ?_); refine gg ?_; refine ev_cl HS (spec_l01In.calls ht22.out) Tryz.func74 ?_; clear HS; intro wt22 HS F) | ((with_reducible refine gd 45 rfl ?_); refine gg ?_; refine ev_cl HS (spec_PoliciesOk.calls ht25.out (HS.ro gp0) lp0) Tryz.func184 ?_; clear HS; intro wt25 HS F))
  go_ret
  exact HS.pk
 subst c27
 replace H := zbind H; obtain ⟨t28, ht28, H⟩ := H
 replace H := znifb H; rcases H with ⟨c30, H⟩ | ⟨c30, H⟩
 case inl =>
  subst c30
  obtain rfl := zsome H
  go_wp2_with (first | ((with_reducible refine gd 1 rfl ?_); refine ev_bx HS ?_; clear HS; intro g1 w1 HS F) | ((with_reducible refine gd 5 rfl ?_); refine ev_cl HS (spec_l09Num.calls ht3.out) Tryz.func75 ?_; clear HS; intro wt3 HS F) | ((with_reducible refine gd 9 rfl ?_); refine gg ?_; refine ev_cl HS (spec_l09Num.calls ht6.out) Tryz.func75 ?_; clear HS; intro wt6 HS F) | ((with_reducible refine gd 14 rfl ?_); refine gg ?_; refine ev_cl HS (spec_l09Num.calls ht9.out) Tryz.func75 ?_; clear HS; intro wt9 HS F) | ((with_reducible refine gd 19 rfl ?_); refine gg ?_; refine ev_cl HS (spec_NameOk.calls ht12.out) Tryz.func139 ?_; clear HS; intro wt12 HS F) | ((with_reducible refine gd 24 rfl ?_); refine gg ?_; refine ev_cl HS (spec_NameOk.calls ht15.out) Tryz.func139 ?_; clear HS; intro wt15 HS F) | ((with_reducible refine gd 35 rfl ?_); refine gg ?_; refine ev_cl HS (spec_l01In.calls ht19.out) Tryz.func74 ?_; clear HS; intro wt19 HS F) | ((with_reducible refine gd 40 rfl ?_); refine gg ?_; refine ev_cl HS (spec_l01In.calls ht22.out) Tryz.func74 ?_; clear HS; intro wt22 HS F) | ((with_reducible refine gd 45 rfl ?_); refine gg ?_; refine ev_cl HS (spec_PoliciesOk.calls ht25.out (HS.ro gp0) lp0) Tryz.func184 ?_; clear HS; intro wt25 HS F) | ((with_reducible refine gd 50 rfl ?_); refine gg ?_; refine ev_cl HS (spec_NamesOk.calls ht28.out (HS.ro gp1) lp1) Tryz.func185 ?_; clear HS; intro wt28 HS F))
  go_ret
  exact HS.pk
 subst c30
 replace H := zbind H; obtain ⟨t31, ht31, H⟩ := H
 replace H := zifb H; rcases H with ⟨c33, H⟩ | ⟨c33, H⟩
 case inl =>
  subst c33
  obtain rfl := zsome H
  go_wp2_with (first | ((with_reducible refine gd 1 rfl ?_); refine ev_bx HS ?_; clear HS; intro g1 w1 HS F) | ((with_reducible refine gd 5 rfl ?_); refine ev_cl HS (spec_l09Num.calls ht3.out) Tryz.func75 ?_; clear HS; intro wt3 HS F) | ((with_reducible refine gd 9 rfl ?_); refine gg ?_; refine ev_cl HS (spec_l09Num.calls ht6.out) Tryz.func75 ?_; clear HS; intro wt6 HS F) | ((with_reducible refine gd 14 rfl ?_); refine gg ?_; refine ev_cl HS (spec_l09Num.calls ht9.out) Tryz.func75 ?_; clear HS; intro wt9 HS F) | ((with_reducible refine gd 19 rfl ?_); refine gg ?_; refine ev_cl HS (spec_NameOk.calls ht12.out) Tryz.func139 ?_; clear HS; intro wt12 HS F) | ((with_reducible refine gd 24 rfl ?_); refine gg ?_; refine ev_cl HS (spec_NameOk.calls ht15.out) Tryz.func139 ?_; clear HS; intro wt15 HS F) | ((with_reducible refine gd 35 rfl ?_); refine gg ?_; refine ev_cl HS (spec_l01In.calls ht19.out) Tryz.func74 ?_; clear HS; intro wt19 HS F) | ((with_reducible refine gd 40 rfl ?_); refine gg ?_; refine ev_cl HS (spec_l01In.calls ht22.out) Tryz.func74 ?_; clear HS; intro wt22 HS F) | ((with_reducible refine gd 45 rfl ?_); refine gg ?_; refine ev_cl HS (spec_PoliciesOk.calls ht25.out (HS.ro gp0) lp0) Tryz.func184 ?_; clear HS; intro wt25 HS F) | ((with_reducible refine gd 50 rfl ?_); refine gg ?_; refine ev_cl HS (spec_NamesOk.calls ht28.out (HS.ro gp1) lp1) Tryz.func185 ?_; clear HS; intro wt28 HS F) | ((with_reducible refine gd 55 rfl ?_); refine gg ?_; refine ev_cl HS (spec_NamesOk.calls ht31.out (HS.ro gp2) lp2) Tryz.func185 ?_; clear HS; intro wt31 HS F))
  go_ret
  exact HS.pk
 subst c33
 obtain rfl := zsome H
 go_wp2_with (first | ((with_reducible refine gd 1 rfl ?_); refine ev_bx HS ?_; clear HS; intro g1 w1 HS F) | ((with_reducible refine gd 5 rfl ?_); refine ev_cl HS (spec_l09Num.calls ht3.out) Tryz.func75 ?_; clear HS; intro wt3 HS F) | ((with_reducible refine gd 9 rfl ?_); refine gg ?_; refine ev_cl HS (spec_l09Num.calls ht6.out) Tryz.func75 ?_; clear HS; intro wt6 HS F) | ((with_reducible refine gd 14 rfl ?_); refine gg ?_; refine ev_cl HS (spec_l09Num.calls ht9.out) Tryz.func75 ?_; clear HS; intro wt9 HS F) | ((with_reducible refine gd 19 rfl ?_); refine gg ?_; refine ev_cl HS (spec_NameOk.calls ht12.out) Tryz.func139 ?_; clear HS; intro wt12 HS F) | ((with_reducible refine gd 24 rfl ?_); refine gg ?_; refine ev_cl HS (spec_NameOk.calls ht15.out) Tryz.func139 ?_; clear HS; intro wt15 HS F) | ((with_reducible refine gd 35 rfl ?_); refine gg ?_; refine ev_cl HS (spec_l01In.calls ht19.out) Tryz.func74 ?_; clear HS; intro wt19 HS F) | ((with_reducible refine gd 40 rfl ?_); refine gg ?_; refine ev_cl HS (spec_l01In.calls ht22.out) Tryz.func74 ?_; clear HS; intro wt22 HS F) | ((with_reducible refine gd 45 rfl ?_); refine gg ?_; refine ev_cl HS (spec_PoliciesOk.calls ht25.out (HS.ro gp0) lp0) Tryz.func184 ?_; clear HS; intro wt25 HS F) | ((with_reducible refine gd 50 rfl ?_); refine gg ?_; refine ev_cl HS (spec_NamesOk.calls ht28.out (HS.ro gp1) lp1) Tryz.func185 ?_; clear HS; intro wt28 HS F) | ((with_reducible refine gd 55 rfl ?_); refine gg ?_; refine ev_cl HS (spec_NamesOk.calls ht31.out (HS.ro gp2) lp2) Tryz.func185 ?_; clear HS; intro wt31 HS F))
 go_ret
 exact HS.pk
def spec_l07Plain.l0 : Nat → Int → S182 → Option (Bool)
  | 0, _, _ => none
  | k + 1, x24, a0 => (if x24 < (a0.f1.size : Int) then (if 0 ≤ x24 then (if x24 < (a0.f1.size : Int) then (if (bt a0.f1 x24) < 32 then (some false) else (if 126 < (bt a0.f1 x24) then (some false) else (spec_l07Plain.l0 k (wrap64 (x24 + 1)) a0))) else none) else none) else (some true))
def spec_l07Plain.f (k : Nat) (a0 : S182) : Option (Bool) := (if a0.f0 = 1 then (if a0.f1.toList = ([0] : List UInt8) then (some true) else (some (a0.f1.toList == ([255] : List UInt8)))) else (if a0.f0 = 2 then ((spec_l01In.f (a0.f1.size : Int) 1 5).bind fun t6 => (if t6 = true then (if 0 < (a0.f1.size : Int) then (if 128 ≤ (bt a0.f1 0) then (some false) else (if (bt a0.f1 0) = 0 then (if (a0.f1.size : Int) = 1 then (some true) else (if 1 < (a0.f1.size : Int) then (some (decide (128 ≤ (bt a0.f1 1)))) else none)) else (some true))) else none) else (some false))) else (if a0.f0 = 12 then (spec_l07Plain.l0 k 0 a0) else (some (a0.f0 == 4)))))
theorem spec_l07Plain.calls {k : Nat} {a0 : S182} {Ap0 : Option Addr} {np0 cp0 : Nat} {r : Bool} {w : World} (h : spec_l07Plain.f k a0 = some r) (gp0 : k182.C w Ap0 np0 a0.f2) (lp0 : np0 ≤ cp0) :
    Calls Tryz.prog 234 #[.agg #[.int .i64 a0.f0, .string a0.f1, .slice Ap0 np0 cp0]] w (fun e w' => e = .returned (.bool r) ∧ Hp noFP w w' []) := by
 obtain rfl := C_len gp0
 have HS := Hp.start w
 have H := Aside0.mk h
 clear h
 unfold spec_l07Plain.f at H
 go_enter Tryz.func234, Tryz.ntmps234
 go_upto_if 6 with ((with_reducible refine gd 1 rfl ?_); refine ev_bx HS ?_; clear HS; intro g1 w1 HS F)
 replace H := zif' H; rcases H with ⟨c3, H⟩ | ⟨c3, H⟩
 case inl =>
  have c3a := beq_iff_eq.mpr c3
  have c3b := bne_eq_false_iff_eq.mpr c3
  clear c3
  (try simp only [c3a, c3b, dcn])
  replace H := znif' H; rcases H with ⟨c4, H⟩ | ⟨c4, H⟩
  case inl =>
   have c4a := beq_eq_false_iff_ne.mpr c4
   have c4b := bne_iff_ne.mpr c4
   clear c4
   obtain rfl := zsome H
   go_wp2
   go_ret
   exact HS.pk
  have c4a := beq_iff_eq.mpr c4
  have c4b := bne_eq_false_iff_eq.mpr c4
  clear c4
  obtain rfl := zsome H
  go_wp2
  go_ret
  exact HS.pk
 have c3a := beq_eq_false_iff_ne.mpr c3
 have c3b := bne_iff_ne.mpr c3
 clear c3
 (try simp only [c3a, c3b, dcn])
 replace H := znif' H; rcases H with ⟨c5, H⟩ | ⟨c5, H⟩
 case inl =>
  have c5a := beq_eq_false_iff_ne.mpr c5
  have c5b := bne_iff_ne.mpr c5
  clear c5
  replace H := znif' H; rcases H with ⟨c20, H⟩ | ⟨c20, H⟩
  case inl =>
   have c20a := beq_eq_false_iff_ne.mpr c20
   have c20b := bne_iff_ne.mpr c20
   clear c20
   obtain rfl := zsome H
   go_wp2
   go_ret
   exact HS.pk
  have c20a := beq_iff_eq.mpr c20
  have c20b := bne_eq_false_iff_eq.mpr c20
  clear c20
  go_wp2
  go_loopg [3] k (fun kq v_3 w' => ∃ (x24 : Int), v_3 = .int .i64 x24 ∧ Aside0 (spec_l07Plain.l0 kq x24 a0 = some r) ∧ Aside0 (kq ≤ k) ∧ Hp noFP w w' [.box g1 [.int .i64 a0.f0, .string a0.f1, .slice Ap0 a0.f2.length cp0] 182])
  case atStart => exact ⟨_, rfl, H, ⟨Nat.le_refl _⟩, HS⟩
  case round =>
   clear HS H; (try clear F)
   obtain ⟨x24, rfl, H, HKk23, HS⟩ := hrel
   have F := HS.boxes; simp only [bxn] at F
   cases gk with
   | zero => exact absurd H.out (by simp [spec_l07Plain.l0])
   | succ k23 =>
    simp only [spec_l07Plain.l0] at H
    replace H := znif H; rcases H with ⟨c26, H⟩ | ⟨c26, H⟩
    case inl =>
     obtain rfl := zsome H
     go_wp2
     go_ret
     exact HS.pk
    replace H := zgo H; obtain ⟨c27, H⟩ := H
    replace H := zgo H; obtain ⟨c28, H⟩ := H
    have hx29 := bt_at a0.f1 x24
    replace H := zif H; rcases H with ⟨c30, H⟩ | ⟨c30, H⟩
    case inl =>
     obtain rfl := zsome H
     go_wp2
     go_ret
     exact HS.pk
    have hx31 := bt_at a0.f1 x24
    replace H := zif H; rcases H with ⟨c32, H⟩ | ⟨c32, H⟩
    case inl =>
     obtain rfl := zsome H
     go_wp2
     go_ret
     exact HS.pk
    go_wp2
    go_roundg k23
    case measure => have := HKk23.out; omega
    case rel => exact ⟨_, rfl, H, ⟨by have := HKk23.out; omega⟩, HS.pick [0] (by decide) (by rfl)⟩
 have c5a := beq_iff_eq.mpr c5
 have c5b := bne_eq_false_iff_eq.mpr c5
 clear c5
 replace H := zbind H; obtain ⟨t6, ht6, H⟩ := H
 replace H := znifb H; rcases H with ⟨c8, H⟩ | ⟨c8, H⟩
 case inl =>
  subst c8
  obtain rfl := zsome H
  go_wp2_with ((with_reducible refine gd 21 rfl ?_); refine ev_cl HS (spec_l01In.calls ht6.out) Tryz.func74 ?_; clear HS; intro wt6 HS F)
  go_ret
  exact HS.pk
 subst c8
 replace H := zgo H; obtain ⟨c9, H⟩ := H
 have c9n : (0 < a0.f1.size) = True := eq_true (by have := of_eq_true c9; omega)
 go_upto_if 28 with ((with_reducible refine gd 21 rfl ?_); refine ev_cl HS (spec_l01In.calls ht6.out) Tryz.func74 ?_; clear HS; intro wt6 HS F; have hx10 : ∀ h : 0 < a0.f1.size, ((a0.f1[0]'h).toNat : Int) = bt a0.f1 0 := bt_at a0.f1 0; have hz11 : 0 < a0.f1.size := (by have := of_eq_true c9; omega))
 replace H := zif H; rcases H with ⟨c12, H⟩ | ⟨c12, H⟩
 case inl =>
  (try simp only [c12, dcn])
  obtain rfl := zsome H
  go_wp2
  go_ret
  exact HS.pk
 (try simp only [c12, dcn])
 have hx13 : ∀ h : 0 < a0.f1.size, ((a0.f1[0]'h).toNat : Int) = bt a0.f1 0 := bt_at a0.f1 0
 have hz14 : 0 < a0.f1.size := (by have := of_eq_true c9; omega)
 replace H := znif' H; rcases H with ⟨c15, H⟩ | ⟨c15, H⟩
 case inl =>
  have c15a := beq_eq_false_iff_ne.mpr c15
  have c15b := bne_iff_ne.mpr c15
  clear c15
  obtain rfl := zsome H
  go_wp2
  go_ret
  exact HS.pk
 have c15a := beq_iff_eq.mpr c15
 have c15b := bne_eq_false_iff_eq.mpr c15
 clear c15
 replace H := zif' H; rcases H with ⟨c16, H⟩ | ⟨c16, H⟩
 case inl =>
  have c16a := beq_iff_eq.mpr c16
  have c16b := bne_eq_false_iff_eq.mpr c16
  clear c16
  obtain rfl := zsome H
  go_wp2
  go_ret
  exact HS.pk
 have c16a := beq_eq_false_iff_ne.mpr c16
 have c16b := bne_iff_ne.mpr c16
 clear c16
 replace H := zgo H; obtain ⟨c17, H⟩ := H
 have c17n : (1 < a0.f1.size) = True := eq_true (by have := of_eq_true c17; omega)
 have hx18 : ∀ h : 1 < a0.f1.size, ((a0.f1[1]'h).toNat : Int) = bt a0.f1 1 := bt_at a0.f1 1
 have hz19 : 1 < a0.f1.size := (by have := of_eq_true c17; omega)
 obtain rfl := zsome H
 go_wp2
 go_ret
 exact HS.pk
mutual
def spec_l07Right.l0 : Nat → Int → S182 → Int → Option (Bool)
  | 0, _, _, _ => none
  | k + 1, x10, a0, a1 => (if x10 < (a0.f2.length : Int) then (if 0 ≤ x10 then (if x10 < (a0.f2.length : Int) then ((spec_l07Right.f k (rd_T182 a0.f2 x10) (wrap64 (a1 + 1))).bind fun t16 => (if t16 = true then (spec_l07Right.l0 k (wrap64 (x10 + 1)) a0 a1) else (some false))) else none) else none) else (some true))
def spec_l07Right.f : Nat → S182 → Int → Option (Bool)
  | 0, _, _ => none
  | k + 1, a0, a1 => (if a0.f0 = 48 then (if a0.f1.toList = ([] : List UInt8) then (if 40 < (a0.f2.length : Int) then (some false) else (if 6 ≤ a1 then (some false) else (spec_l07Right.l0 k 0 a0 a1))) else (some false)) else (if (a0.f2.length : Int) = 0 then ((spec_l07Plain.f k a0).bind fun t20 => (some t20)) else (some false)))
end
theorem spec_l07Right.calls_ (K : Nat) : ∀ {k : Nat} (hK : k ≤ K) {a0 : S182} {a1 : Int} {Ap0 : Option Addr} {np0 cp0 : Nat} {r : Bool} {w : World} (h : spec_l07Right.f k a0 a1 = some r) (gp0 : k182.C w Ap0 np0 a0.f2) (lp0 : np0 ≤ cp0),
    Calls Tryz.prog 222 #[.agg #[.int .i64 a0.f0, .string a0.f1, .slice Ap0 np0 cp0], .int .i64 a1] w (fun e w' => e = .returned (.bool r) ∧ Hp noFP w w' []) := by
  induction K with
  | zero =>
    intro k hK a0 a1 Ap0 np0 cp0 r w h gp0 lp0
    obtain rfl : k = 0 := by omega
    exact absurd h (by simp [spec_l07Right.f])
  | succ K IH =>
    intro k hK a0 a1 Ap0 np0 cp0 r w h gp0 lp0
    cases k with
    | zero => exact absurd h (by simp [spec_l07Right.f])
    | succ k =>
    have HK0 : Aside0 (k ≤ K) := ⟨by omega⟩
    clear hK
    obtain rfl := C_len gp0
    have HS := Hp.start w
    have H := Aside0.mk h
    clear h
    simp only [spec_l07Right.f] at H
    go_enter Tryz.func222, Tryz.ntmps222
    go_upto_if 8 with ((with_reducible refine gd 2 rfl ?_); refine ev_bx HS ?_; clear HS; intro g2 w2 HS F)
    replace H := znif' H; rcases H with ⟨c3, H⟩ | ⟨c3, H⟩
    case inl =>
     have c3a := beq_eq_false_iff_ne.mpr c3
     have c3b := bne_iff_ne.mpr c3
     clear c3
     (try simp only [c3a, c3b, dcn])
     replace H := znif' H; rcases H with ⟨c19, H⟩ | ⟨c19, H⟩
     case inl =>
      have c19a := beq_eq_false_iff_ne.mpr c19
      have c19b := bne_iff_ne.mpr c19
      clear c19
      obtain rfl := zsome H
      go_wp2
      go_ret
      exact HS.pk
     have c19a := beq_iff_eq.mpr c19
     have c19b := bne_eq_false_iff_eq.mpr c19
     clear c19
     replace H := zbind H; obtain ⟨t20, ht20, H⟩ := H
     obtain rfl := zsome H
     go_wp2_with ((with_reducible refine gd 15 rfl ?_); refine gg ?_; refine ev_cl HS (spec_l07Plain.calls ht20.out (HS.ro gp0) lp0) Tryz.func234 ?_; clear HS; intro wt20 HS F)
     go_ret
     exact HS.pk
    have c3a := beq_iff_eq.mpr c3
    have c3b := bne_eq_false_iff_eq.mpr c3
    clear c3
    (try simp only [c3a, c3b, dcn])
    replace H := znif' H; rcases H with ⟨c4, H⟩ | ⟨c4, H⟩
    case inl =>
     have c4a := beq_eq_false_iff_ne.mpr c4
     have c4b := bne_iff_ne.mpr c4
     have c4e := List.isEmpty_eq_false_iff.mpr c4
     clear c4
     obtain rfl := zsome H
     go_wp2
     go_ret
     exact HS.pk
    have c4a := beq_iff_eq.mpr c4
    have c4b := bne_eq_false_iff_eq.mpr c4
    have c4e := List.isEmpty_iff.mpr c4
    clear c4
    replace H := zif H; rcases H with ⟨c5, H⟩ | ⟨c5, H⟩
    case inl =>
     obtain rfl := zsome H
     go_wp2
     go_ret
     exact HS.pk
    replace H := zif H; rcases H with ⟨c6, H⟩ | ⟨c6, H⟩
    case inl =>
     obtain rfl := zsome H
     go_wp2
     go_ret
     exact HS.pk
    go_wp2
    go_loopg [5] k (fun kq v_5 w' => ∃ (x10 : Int), v_5 = .int .i64 x10 ∧ Aside0 (spec_l07Right.l0 kq x10 a0 a1 = some r) ∧ Aside0 (kq ≤ k) ∧ Hp noFP w w' [.box g2 [.int .i64 a0.f0, .string a0.f1, .slice Ap0 a0.f2.length cp0] 182])
    case atStart => exact ⟨_, rfl, H, ⟨Nat.le_refl _⟩, HS⟩
    case round =>
     clear HS H; (try clear F)
     obtain ⟨x10, rfl, H, HKk9, HS⟩ := hrel
     have F := HS.boxes; simp only [bxn] at F
     cases gk with
     | zero => exact absurd H.out (by simp [spec_l07Right.l0])
     | succ k9 =>
      simp only [spec_l07Right.l0] at H
      replace H := znif H; rcases H with ⟨c12, H⟩ | ⟨c12, H⟩
      case inl =>
       obtain rfl := zsome H
       go_wp2
       go_ret
       exact HS.pk
      replace H := zgo H; obtain ⟨c13, H⟩ := H
      replace H := zgo H; obtain ⟨c14, H⟩ := H
      obtain ⟨ad15, B15_2, d15_2, rfl, e15_0, e15_1, e15_2, m15_2, y15_2⟩ := at_T182 gp0 x10 (of_eq_true c13) (of_eq_true c14)
      have e15_0_15 := HS.keepc e15_0
      have e15_1_15 := HS.keepc e15_1
      have e15_2_15 := HS.keepc e15_2
      replace H := zbind H; obtain ⟨t16, ht16, H⟩ := H
      go_upto_if 45 with ((with_reducible refine gd 44 rfl ?_); refine ev_cl HS (IH (by have := HK0.out; have := HKk9.out; omega) ht16.out (HS.ro y15_2) m15_2) Tryz.func222 ?_; clear HS; intro wt16 HS F)
      replace H := znifb H; rcases H with ⟨c18, H⟩ | ⟨c18, H⟩
      case inl =>
       subst c18
       (try simp only [dcn, dcu, dcf])
       obtain rfl := zsome H
       go_wp2
       go_ret
       exact HS.pk
      subst c18
      (try simp only [dcn, dcu, dcf])
      go_wp2
      go_roundg k9
      case measure => have := HK0.out; have := HKk9.out; omega
      case rel => exact ⟨_, rfl, H, ⟨by have := HK0.out; have := HKk9.out; omega⟩, HS.pick [0] (by decide) (by rfl)⟩
theorem spec_l07Right.calls {k : Nat} {a0 : S182} {a1 : Int} {Ap0 : Option Addr} {np0 cp0 : Nat} {r : Bool} {w : World} (h : spec_l07Right.f k a0 a1 = some r) (gp0 : k182.C w Ap0 np0 a0.f2) (lp0 : np0 ≤ cp0) :
    Calls Tryz.prog 222 #[.agg #[.int .i64 a0.f0, .string a0.f1, .slice Ap0 np0 cp0], .int .i64 a1] w (fun e w' => e = .returned (.bool r) ∧ Hp noFP w w' []) := spec_l07Right.calls_ k (Nat.le_refl k) h gp0 lp0
def spec_ItemOk.f (k : Nat) (a0 : S182) : Option (Bool) := ((spec_l07Right.f k a0 0).bind fun t3 => (some t3))
theorem spec_ItemOk.calls {k : Nat} {a0 : S182} {Ap0 : Option Addr} {np0 cp0 : Nat} {r : Bool} {w : World} (h : spec_ItemOk.f k a0 = some r) (gp0 : k182.C w Ap0 np0 a0.f2) (lp0 : np0 ≤ cp0) :
    Calls Tryz.prog 190 #[.agg #[.int .i64 a0.f0, .string a0.f1, .slice Ap0 np0 cp0]] w (fun e w' => e = .returned (.bool r) ∧ Hp noFP w w' []) := by
 obtain rfl := C_len gp0
 have HS := Hp.start w
 have H := Aside0.mk h
 clear h
 unfold spec_ItemOk.f at H
 go_enter Tryz.func190, Tryz.ntmps190
 replace H := zbind H; obtain ⟨t3, ht3, H⟩ := H
 obtain rfl := zsome H
 go_wp2_with (first | ((with_reducible refine gd 1 rfl ?_); refine ev_bx HS ?_; clear HS; intro g1 w1 HS F) | ((with_reducible refine gd 4 rfl ?_); refine ev_cl HS (spec_l07Right.calls ht3.out (HS.ro gp0) lp0) Tryz.func222 ?_; clear HS; intro wt3 HS F))
 go_ret
 exact HS.pk
def spec_l07Length.l0 : Nat → Int → ByteArray → Option (ByteArray)
  | 0, _, _ => none
  | k + 1, x13, x14 => (if 0 < x13 then (if (strOfNums ([((Int.tmod x13 256) % 256)] : List Int)).size + x14.size ≤ 9223372036854775807 then (spec_l07Length.l0 k (wrap64 (Int.tdiv x13 256)) ((strOfNums ([((Int.tmod x13 256) % 256)] : List Int)) ++ x14)) else none) else (if (strOfNums ([((wrap64 (128 + (x14.size : Int))) % 256)] : List Int)).size + x14.size ≤ 9223372036854775807 then (some ((strOfNums ([((wrap64 (128 + (x14.size : Int))) % 256)] : List Int)) ++ x14)) else none))
def spec_l07Length.f (k : Nat) (a0 : Int) : Option (ByteArray) := (if a0 < 128 then (some (strOfNums ([(a0 % 256)] : List Int))) else (spec_l07Length.l0 k a0 (⟨#[]⟩ : ByteArray)))
theorem spec_l07Length.calls {k : Nat} {a0 : Int} {r : ByteArray} {w : World} (h : spec_l07Length.f k a0 = some r) :
    Calls Tryz.prog 223 #[.int .i64 a0] w (fun e w' => e = .returned (.string r) ∧ Hp noFP w w' []) := by
 have HS := Hp.start w
 have H := Aside0.mk h
 clear h
 unfold spec_l07Length.f at H
 go_enter Tryz.func223, Tryz.ntmps223
 replace H := zif H; rcases H with ⟨c1, H⟩ | ⟨c1, H⟩
 case inl =>
  obtain rfl := zsome H
  go_wp2_with (first | ((with_reducible refine gd 8 rfl ?_); refine ev_li (Zd.int .u8) [] ([(a0 % 256)] : List Int) ([.int .u8 (a0 % 256)] ++ []) HS (MadeL.cons (js1 := []) (c := [.int .u8 (a0 % 256)]) rfl (made_flat (fun _ => rfl)) MadeL.nil (by decide)) ?_; clear HS; intro v2 w2 HS F; obtain ⟨B2, d2, rfl, m2⟩ := HS.formn 1 0 rfl rfl) | ((with_reducible refine gd 9 rfl ?_); refine ev_val rfl (run_str rfl rfl Tryz.underlying225 Tryz.underlying5 Tryz.underlying9 (HS.rd 0 rfl)) ?_))
  go_ret
  exact HS.pk
 go_wp2
 go_loopg [0, 3] k (fun kq v_0 v_3 w' => ∃ (x13 : Int) (x14 : ByteArray), v_0 = .int .i64 x13 ∧ v_3 = .string x14 ∧ Aside0 (spec_l07Length.l0 kq x13 x14 = some r) ∧ Aside0 (kq ≤ k) ∧ Hp noFP w w' [])
 case atStart => exact ⟨_, _, rfl, rfl, H, ⟨Nat.le_refl _⟩, HS⟩
 case round =>
  clear HS H; (try clear F)
  obtain ⟨x13, x14, rfl, rfl, H, HKk12, HS⟩ := hrel
  cases gk with
  | zero => exact absurd H.out (by simp [spec_l07Length.l0])
  | succ k12 =>
   simp only [spec_l07Length.l0] at H
   replace H := znif H; rcases H with ⟨c16, H⟩ | ⟨c16, H⟩
   case inl =>
    replace H := zgo H; obtain ⟨c22, H⟩ := H
    obtain rfl := zsome H
    go_wp2_with (first | ((with_reducible refine gd 25 rfl ?_); refine ev_li (Zd.int .u8) [] ([((wrap64 (128 + (x14.size : Int))) % 256)] : List Int) ([.int .u8 ((wrap64 (128 + (x14.size : Int))) % 256)] ++ []) HS (MadeL.cons (js1 := []) (c := [.int .u8 ((wrap64 (128 + (x14.size : Int))) % 256)]) rfl (made_flat (fun _ => rfl)) MadeL.nil (by decide)) ?_; clear HS; intro v20 w20 HS F; obtain ⟨B20, d20, rfl, m20⟩ := HS.formn 1 0 rfl rfl) | ((with_reducible refine gd 26 rfl ?_); refine ev_val rfl (run_str rfl rfl Tryz.underlying225 Tryz.underlying5 Tryz.underlying9 (HS.rd 0 rfl)) ?_) | ((with_reducible refine gd 28 rfl ?_); refine ev_val rfl (run_cat rfl rfl rfl (of_eq_true c22)) ?_))
    go_ret
    exact HS.pk
   replace H := zgo H; obtain ⟨c19, H⟩ := H
   go_wp2_with (first | ((with_reducible refine gd 15 rfl ?_); refine ev_li (Zd.int .u8) [] ([((Int.tmod x13 256) % 256)] : List Int) ([.int .u8 ((Int.tmod x13 256) % 256)] ++ []) HS (MadeL.cons (js1 := []) (c := [.int .u8 ((Int.tmod x13 256) % 256)]) rfl (made_flat (fun _ => rfl)) MadeL.nil (by decide)) ?_; clear HS; intro v17 w17 HS F; obtain ⟨B17, d17, rfl, m17⟩ := HS.formn 1 0 rfl rfl) | ((with_reducible refine gd 16 rfl ?_); refine ev_val rfl (run_str rfl rfl Tryz.underlying225 Tryz.underlying5 Tryz.underlying9 (HS.rd 0 rfl)) ?_) | ((with_reducible refine gd 18 rfl ?_); refine ev_val rfl (run_cat rfl rfl rfl (of_eq_true c19)) ?_))
   go_roundg k12
   case measure => have := HKk12.out; omega
   case rel => exact ⟨_, _, rfl, rfl, H, ⟨by have := HKk12.out; omega⟩, HS.pick [] (by decide) (by rfl)⟩
end Go.Proofs.YtacocpknielofaaGreatDoor.F

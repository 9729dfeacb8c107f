/- Functions of the program and of the law, and that their calls do what is written here. -/
import Derived.Test.YtacocpknielofaaGreatDoorZgFnExactLearnCrlk
import Derived.Test.YtacocpknielofaaGreatDoorZgFnExactLearnCrll
namespace Go.Proofs.YtacocpknielofaaGreatDoor.F
open Go.RowKit YtacocpknielofaaGreatDoorW.PrintWords YtacocpknielofaaGreatDoorW.PrintLast YtacocpknielofaaGreatDoorW.PrintMore Z
attribute [local go_sem] max2_int min2_int max_two min_two max_three min_three max_four min_four
set_option linter.unusedVariables false
set_option linter.unusedSimpArgs false
set_option maxRecDepth 100000
set_option maxHeartbeats 16000000
def laws_heldCertS.l0 : Nat → Int → Int → (List S91) → Option (Int)
  | 0, _, _, _ => none
  | k + 1, x11, x12, a0 => (if x12 < (a0.length : Int) then (if 0 ≤ x12 then (if x12 < (a0.length : Int) then (if (rd_T91 a0 x12).f0 = x11 then ((laws_markText.f k (wrap64 (x11 + 1))).bind fun t13 => (if ((rd_T91 a0 x12).f1).toList = t13.toList then ((laws_markText.f k (wrap64 ((wrap64 (x11 + 1)) + 1))).bind fun t21 => (if ((rd_T91 a0 x12).f2).toList = t21.toList then (if (rd_T91 a0 x12).f3 = (wrap64 ((wrap64 ((wrap64 (x11 + 1)) + 1)) + 1)) then (if (rd_T91 a0 x12).f4 = (wrap64 ((wrap64 ((wrap64 ((wrap64 (x11 + 1)) + 1)) + 1)) + 1)) then ((laws_markText.f k (wrap64 ((wrap64 ((wrap64 ((wrap64 ((wrap64 (x11 + 1)) + 1)) + 1)) + 1)) + 1))).bind fun t23 => (if ((rd_T91 a0 x12).f5).toList = t23.toList then (if (rd_T91 a0 x12).f6 = ((Int.tmod (wrap64 ((wrap64 ((wrap64 ((wrap64 ((wrap64 ((wrap64 (x11 + 1)) + 1)) + 1)) + 1)) + 1)) + 1)) 3) == 0) then (if (rd_T91 a0 x12).f7 = (wrap64 ((wrap64 ((wrap64 ((wrap64 ((wrap64 ((wrap64 ((wrap64 (x11 + 1)) + 1)) + 1)) + 1)) + 1)) + 1)) + 1)) then (if (rd_T91 a0 x12).f8 = (wrap64 ((wrap64 ((wrap64 ((wrap64 ((wrap64 ((wrap64 ((wrap64 ((wrap64 (x11 + 1)) + 1)) + 1)) + 1)) + 1)) + 1)) + 1)) + 1)) then ((laws_heldIntS.f k ((rd_T91 a0 x12).f9) (wrap64 ((wrap64 ((wrap64 ((wrap64 ((wrap64 ((wrap64 ((wrap64 ((wrap64 ((wrap64 (x11 + 1)) + 1)) + 1)) + 1)) + 1)) + 1)) + 1)) + 1)) + 1))).bind fun t42 => (if t42 < 0 then (some (-1)) else ((laws_heldStringS.f k ((rd_T91 a0 x12).f10) t42).bind fun t46 => (if t46 < 0 then (some (-1)) else ((laws_heldStringS.f k ((rd_T91 a0 x12).f11) t46).bind fun t50 => (if t50 < 0 then (some (-1)) else ((laws_markText.f k t50).bind fun t25 => (if ((rd_T91 a0 x12).f12).toList = t25.toList then (laws_heldCertS.l0 k (wrap64 (t50 + 1)) (wrap64 (x12 + 1)) a0) else (some (-1)))))))))) else (some (-1))) else (some (-1))) else (some (-1))) else (some (-1)))) else (some (-1))) else (some (-1))) else (some (-1)))) else (some (-1)))) else (some (-1))) else none) else none) else (some x11))
def laws_heldCertS.f (k : Nat) (a0 : (List S91)) (a1 : Int) : Option (Int) := (laws_heldCertS.l0 k a1 0 a0)
def laws_heldCertS.T7 : TT := (true, [([], []), ([], []), ([0, 1], [0, 1]), ([2], [2]), ([3], [3]), ([], []), ([5], [5]), ([4, 6], [4, 6])])
theorem laws_heldCertS.tT7 : rtab .any (opsOf Tryz.f115 7) = laws_heldCertS.T7 := by kernel_rfl
def laws_heldCertS.T10 : TT := (true, [([], []), ([], []), ([0, 1], [0, 1]), ([2], [2]), ([3], [3]), ([], []), ([5], [5]), ([4, 6], [4, 6])])
theorem laws_heldCertS.tT10 : rtab .any (opsOf Tryz.f115 10) = laws_heldCertS.T10 := by kernel_rfl
def laws_heldCertS.T19 : TT := (true, [([], []), ([], []), ([0, 1], [0, 1]), ([2], [2]), ([3], [3]), ([], []), ([5], [5]), ([4, 6], [4, 6])])
theorem laws_heldCertS.tT19 : rtab .any (opsOf Tryz.f115 19) = laws_heldCertS.T19 := by kernel_rfl
def laws_heldCertS.T40 : TT := (true, [([], []), ([], []), ([0, 1], [0, 1]), ([2], [2]), ([3], [3]), ([], []), ([5], [5]), ([4, 6], [4, 6])])
theorem laws_heldCertS.tT40 : rtab .any (opsOf Tryz.f115 40) = laws_heldCertS.T40 := by kernel_rfl
theorem laws_heldCertS.calls {k : Nat} {a0 : (List S91)} {a1 : Int} {Ap0 : Option Addr} {np0 cp0 : Nat} {r : Int} {w : World} (h : laws_heldCertS.f k a0 a1 = some r) (gp0 : k91.C w Ap0 np0 a0) (lp0 : np0 ≤ cp0) :
    Calls Tryz.prog 115 #[.slice Ap0 np0 cp0, .int .i64 a1] w (fun e w' => e = .returned (.int .i64 r) ∧ Hp noFP w w' []) := by
 obtain rfl := C_len gp0
 have HS := Hp.start w
 have H := Aside0.mk h
 clear h
 unfold laws_heldCertS.f at H
 go_enter Tryz.func115, Tryz.ntmps115
 go_wp2
 go_loopg [1, 5] k (fun kq v_1 v_5 w' => ∃ (x11 : Int) (x12 : Int), v_1 = .int .i64 x11 ∧ v_5 = .int .i64 x12 ∧ Aside0 (laws_heldCertS.l0 kq x11 x12 a0 = some r) ∧ Aside0 (kq ≤ k) ∧ Hp noFP w w' [])
 case atStart => exact ⟨_, _, rfl, rfl, H, ⟨Nat.le_refl _⟩, HS⟩
 case round =>
  clear HS H; (try clear F)
  obtain ⟨x11, x12, rfl, rfl, H, HKk10, HS⟩ := hrel
  cases gk with
  | zero => exact absurd H.out (by simp [laws_heldCertS.l0])
  | succ k10 =>
   simp only [laws_heldCertS.l0] at H
   replace H := znif H; rcases H with ⟨c14, H⟩ | ⟨c14, H⟩
   case inl =>
    obtain rfl := zsome H
    go_wp2
    go_ret
    exact HS.pk
   replace H := zgo H; obtain ⟨c15, H⟩ := H
   replace H := zgo H; obtain ⟨c16, H⟩ := H
   obtain ⟨ad17, B17_9, d17_9, B17_10, d17_10, B17_11, d17_11, rfl, e17_0, e17_1, e17_2, e17_3, e17_4, e17_5, e17_6, e17_7, e17_8, e17_9, e17_10, e17_11, e17_12, m17_9, y17_9, m17_10, y17_10, m17_11, y17_11⟩ := at_T91 gp0 x12 (of_eq_true c15) (of_eq_true c16)
   have e17_0_17 := HS.keepc e17_0
   have e17_1_17 := HS.keepc e17_1
   have e17_2_17 := HS.keepc e17_2
   have e17_3_17 := HS.keepc e17_3
   have e17_4_17 := HS.keepc e17_4
   have e17_5_17 := HS.keepc e17_5
   have e17_6_17 := HS.keepc e17_6
   have e17_7_17 := HS.keepc e17_7
   have e17_8_17 := HS.keepc e17_8
   have e17_9_17 := HS.keepc e17_9
   have e17_10_17 := HS.keepc e17_10
   have e17_11_17 := HS.keepc e17_11
   have e17_12_17 := HS.keepc e17_12
   replace H := znif' H; rcases H with ⟨c18, H⟩ | ⟨c18, H⟩
   case inl =>
    have c18a := beq_eq_false_iff_ne.mpr c18
    have c18b := bne_iff_ne.mpr c18
    clear c18
    obtain rfl := zsome H
    go_wp2
    go_ret
    exact HS.pk
   have c18a := beq_iff_eq.mpr c18
   have c18b := bne_eq_false_iff_eq.mpr c18
   clear c18
   (try go_wp2)
   replace H := zbind H; obtain ⟨t13, ht13, H⟩ := H
   refine dr_start [] HS #[false, false, false, false, false, false, false, false] (by kernel_rfl) rfl rfl laws_heldCertS.tT7 (fun w20 HT HS HH => ?_)
   (try clear F)
   refine drq_of [(0, some 21), (1, some 22), (2, some 23), (3, some 24)] ?_
   repeat (refine drp HT ?_)
   refine drq_end ?_
   refine dr_take 4 (some 25) HT HH (v := ?_) (a' := ?_) rfl rfl (by kernel_rfl) (fun _ _ _ h => h) (.inl ⟨by rfl, ?_⟩) ?_ ?_
   rotate_left
   · rintro w' ⟨rs', HS'⟩; have e17_0 := HS'.keepc e17_0; have e17_1 := HS'.keepc e17_1; have e17_2 := HS'.keepc e17_2; have e17_3 := HS'.keepc e17_3; have e17_4 := HS'.keepc e17_4; have e17_5 := HS'.keepc e17_5; have e17_6 := HS'.keepc e17_6; have e17_7 := HS'.keepc e17_7; have e17_8 := HS'.keepc e17_8; have e17_9 := HS'.keepc e17_9; have e17_10 := HS'.keepc e17_10; have e17_11 := HS'.keepc e17_11; have e17_12 := HS'.keepc e17_12; go_simp; with_reducible rfl
   rotate_left
   · simp only [Act.put, ptn]; rfl
   refine drq_of [(5, some 26)] ?_
   repeat (refine drp HT ?_)
   refine drq_end ?_
   refine dr1 6 HT fun K hK => ?_
   refine go_cl HS (laws_markText.calls ht13.out) Tryz.func180 ?_; clear HS; intro wt13 HS F
   refine nrm 27 hK ⟨_, HS⟩ (fun HH => ?_); clear hK K
   refine drq_of [(7, some 28)] ?_
   repeat (refine drp HT ?_)
   refine drq_end ?_
   refine done_ (done_of HT.out (by kernel_rfl)) ?_
   replace H := znif' H; rcases H with ⟨c22, H⟩ | ⟨c22, H⟩
   case inl =>
    have c22a := beq_eq_false_iff_ne.mpr c22
    have c22b := bne_iff_ne.mpr c22
    clear c22
    (try simp only [c22a, c22b, dcn])
    obtain rfl := zsome H
    go_wp2
    go_ret
    exact HS.pk
   have c22a := beq_iff_eq.mpr c22
   have c22b := bne_eq_false_iff_eq.mpr c22
   clear c22
   (try simp only [c22a, c22b, dcn])
   (try go_wp2)
   replace H := zbind H; obtain ⟨t21, ht21, H⟩ := H
   refine dr_start [] HS #[false, false, false, false, false, false, false, false] (by kernel_rfl) rfl rfl laws_heldCertS.tT10 (fun w24 HT HS HH => ?_)
   (try clear F)
   refine drq_of [(0, some 31), (1, some 32), (2, some 33), (3, some 34)] ?_
   repeat (refine drp HT ?_)
   refine drq_end ?_
   refine dr_take 4 (some 35) HT HH (v := ?_) (a' := ?_) rfl rfl (by kernel_rfl) (fun _ _ _ h => h) (.inl ⟨by rfl, ?_⟩) ?_ ?_
   rotate_left
   · rintro w' ⟨rs', HS'⟩; have e17_0 := HS'.keepc e17_0; have e17_1 := HS'.keepc e17_1; have e17_2 := HS'.keepc e17_2; have e17_3 := HS'.keepc e17_3; have e17_4 := HS'.keepc e17_4; have e17_5 := HS'.keepc e17_5; have e17_6 := HS'.keepc e17_6; have e17_7 := HS'.keepc e17_7; have e17_8 := HS'.keepc e17_8; have e17_9 := HS'.keepc e17_9; have e17_10 := HS'.keepc e17_10; have e17_11 := HS'.keepc e17_11; have e17_12 := HS'.keepc e17_12; go_simp; with_reducible rfl
   rotate_left
   · simp only [Act.put, ptn]; rfl
   refine drq_of [(5, some 36)] ?_
   repeat (refine drp HT ?_)
   refine drq_end ?_
   refine dr1 6 HT fun K hK => ?_
   refine go_cl HS (laws_markText.calls ht21.out) Tryz.func180 ?_; clear HS; intro wt21 HS F
   refine nrm 37 hK ⟨_, HS⟩ (fun HH => ?_); clear hK K
   refine drq_of [(7, some 38)] ?_
   repeat (refine drp HT ?_)
   refine drq_end ?_
   refine done_ (done_of HT.out (by kernel_rfl)) ?_
   replace H := znif' H; rcases H with ⟨c26, H⟩ | ⟨c26, H⟩
   case inl =>
    have c26a := beq_eq_false_iff_ne.mpr c26
    have c26b := bne_iff_ne.mpr c26
    clear c26
    (try simp only [c26a, c26b, dcn])
    obtain rfl := zsome H
    go_wp2
    go_ret
    exact HS.pk
   have c26a := beq_iff_eq.mpr c26
   have c26b := bne_eq_false_iff_eq.mpr c26
   clear c26
   (try simp only [c26a, c26b, dcn])
   have e17_0_27 := HS.keepc e17_0
   have e17_1_27 := HS.keepc e17_1
   have e17_2_27 := HS.keepc e17_2
   have e17_3_27 := HS.keepc e17_3
   have e17_4_27 := HS.keepc e17_4
   have e17_5_27 := HS.keepc e17_5
   have e17_6_27 := HS.keepc e17_6
   have e17_7_27 := HS.keepc e17_7
   have e17_8_27 := HS.keepc e17_8
   have e17_9_27 := HS.keepc e17_9
   have e17_10_27 := HS.keepc e17_10
   have e17_11_27 := HS.keepc e17_11
   have e17_12_27 := HS.keepc e17_12
   replace H := znif' H; rcases H with ⟨c28, H⟩ | ⟨c28, H⟩
   case inl =>
    have c28a := beq_eq_false_iff_ne.mpr c28
    have c28b := bne_iff_ne.mpr c28
    clear c28
    (try simp only [c28a, c28b, dcn])
    obtain rfl := zsome H
    go_wp2
    go_ret
    exact HS.pk
   have c28a := beq_iff_eq.mpr c28
   have c28b := bne_eq_false_iff_eq.mpr c28
   clear c28
   (try simp only [c28a, c28b, dcn])
   have e17_0_29 := HS.keepc e17_0
   have e17_1_29 := HS.keepc e17_1
   have e17_2_29 := HS.keepc e17_2
   have e17_3_29 := HS.keepc e17_3
   have e17_4_29 := HS.keepc e17_4
   have e17_5_29 := HS.keepc e17_5
   have e17_6_29 := HS.keepc e17_6
   have e17_7_29 := HS.keepc e17_7
   have e17_8_29 := HS.keepc e17_8
   have e17_9_29 := HS.keepc e17_9
   have e17_10_29 := HS.keepc e17_10
   have e17_11_29 := HS.keepc e17_11
   have e17_12_29 := HS.keepc e17_12
   replace H := znif' H; rcases H with ⟨c30, H⟩ | ⟨c30, H⟩
   case inl =>
    have c30a := beq_eq_false_iff_ne.mpr c30
    have c30b := bne_iff_ne.mpr c30
    clear c30
    (try simp only [c30a, c30b, dcn])
    obtain rfl := zsome H
    go_wp2
    go_ret
    exact HS.pk
   have c30a := beq_iff_eq.mpr c30
   have c30b := bne_eq_false_iff_eq.mpr c30
   clear c30
   (try simp only [c30a, c30b, dcn])
   (try go_wp2)
   replace H := zbind H; obtain ⟨t23, ht23, H⟩ := H
   refine dr_start [] HS #[false, false, false, false, false, false, false, false] (by kernel_rfl) rfl rfl laws_heldCertS.tT19 (fun w32 HT HS HH => ?_)
   (try clear F)
   refine drq_of [(0, some 59), (1, some 60), (2, some 61), (3, some 62)] ?_
   repeat (refine drp HT ?_)
   refine drq_end ?_
   refine dr_take 4 (some 63) HT HH (v := ?_) (a' := ?_) rfl rfl (by kernel_rfl) (fun _ _ _ h => h) (.inl ⟨by rfl, ?_⟩) ?_ ?_
   rotate_left
   · rintro w' ⟨rs', HS'⟩; have e17_0 := HS'.keepc e17_0; have e17_1 := HS'.keepc e17_1; have e17_2 := HS'.keepc e17_2; have e17_3 := HS'.keepc e17_3; have e17_4 := HS'.keepc e17_4; have e17_5 := HS'.keepc e17_5; have e17_6 := HS'.keepc e17_6; have e17_7 := HS'.keepc e17_7; have e17_8 := HS'.keepc e17_8; have e17_9 := HS'.keepc e17_9; have e17_10 := HS'.keepc e17_10; have e17_11 := HS'.keepc e17_11; have e17_12 := HS'.keepc e17_12; go_simp; with_reducible rfl
   rotate_left
   · simp only [Act.put, ptn]; rfl
   refine drq_of [(5, some 64)] ?_
   repeat (refine drp HT ?_)
   refine drq_end ?_
   refine dr1 6 HT fun K hK => ?_
   refine go_cl HS (laws_markText.calls ht23.out) Tryz.func180 ?_; clear HS; intro wt23 HS F
   refine nrm 65 hK ⟨_, HS⟩ (fun HH => ?_); clear hK K
   refine drq_of [(7, some 66)] ?_
   repeat (refine drp HT ?_)
   refine drq_end ?_
   refine done_ (done_of HT.out (by kernel_rfl)) ?_
   replace H := znif' H; rcases H with ⟨c34, H⟩ | ⟨c34, H⟩
   case inl =>
    have c34a := beq_eq_false_iff_ne.mpr c34
    have c34b := bne_iff_ne.mpr c34
    clear c34
    (try simp only [c34a, c34b, dcn])
    obtain rfl := zsome H
    go_wp2
    go_ret
    exact HS.pk
   have c34a := beq_iff_eq.mpr c34
   have c34b := bne_eq_false_iff_eq.mpr c34
   clear c34
   (try simp only [c34a, c34b, dcn])
   have e17_0_35 := HS.keepc e17_0
   have e17_1_35 := HS.keepc e17_1
   have e17_2_35 := HS.keepc e17_2
   have e17_3_35 := HS.keepc e17_3
   have e17_4_35 := HS.keepc e17_4
   have e17_5_35 := HS.keepc e17_5
   have e17_6_35 := HS.keepc e17_6
   have e17_7_35 := HS.keepc e17_7
   have e17_8_35 := HS.keepc e17_8
   have e17_9_35 := HS.keepc e17_9
   have e17_10_35 := HS.keepc e17_10
   have e17_11_35 := HS.keepc e17_11
   have e17_12_35 := HS.keepc e17_12
   replace H := znif' H; rcases H with ⟨c36, H⟩ | ⟨c36, H⟩
   case inl =>
    have c36a := beq_eq_false_iff_ne.mpr c36
    have c36b := bne_iff_ne.mpr c36
    clear c36
    (try simp only [c36a, c36b, dcn])
    obtain rfl := zsome H
    go_wp2
    go_ret
    exact HS.pk
   have c36a := beq_iff_eq.mpr c36
   have c36b := bne_eq_false_iff_eq.mpr c36
   clear c36
   (try simp only [c36a, c36b, dcn])
   have e17_0_37 := HS.keepc e17_0
   have e17_1_37 := HS.keepc e17_1
   have e17_2_37 := HS.keepc e17_2
   have e17_3_37 := HS.keepc e17_3
   have e17_4_37 := HS.keepc e17_4
   have e17_5_37 := HS.keepc e17_5
   have e17_6_37 := HS.keepc e17_6
   have e17_7_37 := HS.keepc e17_7
   have e17_8_37 := HS.keepc e17_8
   have e17_9_37 := HS.keepc e17_9
   have e17_10_37 := HS.keepc e17_10
   have e17_11_37 := HS.keepc e17_11
   have e17_12_37 := HS.keepc e17_12
   replace H := znif' H; rcases H with ⟨c38, H⟩ | ⟨c38, H⟩
   case inl =>
    have c38a := beq_eq_false_iff_ne.mpr c38
    have c38b := bne_iff_ne.mpr c38
    clear c38
    (try simp only [c38a, c38b, dcn])
    obtain rfl := zsome H
    go_wp2
    go_ret
    exact HS.pk
   have c38a := beq_iff_eq.mpr c38
   have c38b := bne_eq_false_iff_eq.mpr c38
   clear c38
   (try simp only [c38a, c38b, dcn])
   have e17_0_39 := HS.keepc e17_0
   have e17_1_39 := HS.keepc e17_1
   have e17_2_39 := HS.keepc e17_2
   have e17_3_39 := HS.keepc e17_3
   have e17_4_39 := HS.keepc e17_4
   have e17_5_39 := HS.keepc e17_5
   have e17_6_39 := HS.keepc e17_6
   have e17_7_39 := HS.keepc e17_7
   have e17_8_39 := HS.keepc e17_8
   have e17_9_39 := HS.keepc e17_9
   have e17_10_39 := HS.keepc e17_10
   have e17_11_39 := HS.keepc e17_11
   have e17_12_39 := HS.keepc e17_12
   replace H := znif' H; rcases H with ⟨c40, H⟩ | ⟨c40, H⟩
   case inl =>
    have c40a := beq_eq_false_iff_ne.mpr c40
    have c40b := bne_iff_ne.mpr c40
    clear c40
    (try simp only [c40a, c40b, dcn])
    obtain rfl := zsome H
    go_wp2
    go_ret
    exact HS.pk
   have c40a := beq_iff_eq.mpr c40
   have c40b := bne_eq_false_iff_eq.mpr c40
   clear c40
   (try simp only [c40a, c40b, dcn])
   have e17_0_41 := HS.keepc e17_0
   have e17_1_41 := HS.keepc e17_1
   have e17_2_41 := HS.keepc e17_2
   have e17_3_41 := HS.keepc e17_3
   have e17_4_41 := HS.keepc e17_4
   have e17_5_41 := HS.keepc e17_5
   have e17_6_41 := HS.keepc e17_6
   have e17_7_41 := HS.keepc e17_7
   have e17_8_41 := HS.keepc e17_8
   have e17_9_41 := HS.keepc e17_9
   have e17_10_41 := HS.keepc e17_10
   have e17_11_41 := HS.keepc e17_11
   have e17_12_41 := HS.keepc e17_12
   replace H := zbind H; obtain ⟨t42, ht42, H⟩ := H
   go_upto_if 106 with ((with_reducible refine gd 104 rfl ?_); refine ev_cl HS (laws_heldIntS.calls ht42.out (HS.ro y17_9) m17_9) Tryz.func181 ?_; clear HS; intro wt42 HS F)
   replace H := zif H; rcases H with ⟨c44, H⟩ | ⟨c44, H⟩
   case inl =>
    (try simp only [c44, dcn])
    obtain rfl := zsome H
    go_wp2
    go_ret
    exact HS.pk
   (try simp only [c44, dcn])
   have e17_0_45 := HS.keepc e17_0
   have e17_1_45 := HS.keepc e17_1
   have e17_2_45 := HS.keepc e17_2
   have e17_3_45 := HS.keepc e17_3
   have e17_4_45 := HS.keepc e17_4
   have e17_5_45 := HS.keepc e17_5
   have e17_6_45 := HS.keepc e17_6
   have e17_7_45 := HS.keepc e17_7
   have e17_8_45 := HS.keepc e17_8
   have e17_9_45 := HS.keepc e17_9
   have e17_10_45 := HS.keepc e17_10
   have e17_11_45 := HS.keepc e17_11
   have e17_12_45 := HS.keepc e17_12
   replace H := zbind H; obtain ⟨t46, ht46, H⟩ := H
   go_upto_if 115 with ((with_reducible refine gd 113 rfl ?_); refine ev_cl HS (laws_heldStringS.calls ht46.out (HS.ro y17_10) m17_10) Tryz.func182 ?_; clear HS; intro wt46 HS F)
   replace H := zif H; rcases H with ⟨c48, H⟩ | ⟨c48, H⟩
   case inl =>
    (try simp only [c48, dcn])
    obtain rfl := zsome H
    go_wp2
    go_ret
    exact HS.pk
   (try simp only [c48, dcn])
   have e17_0_49 := HS.keepc e17_0
   have e17_1_49 := HS.keepc e17_1
   have e17_2_49 := HS.keepc e17_2
   have e17_3_49 := HS.keepc e17_3
   have e17_4_49 := HS.keepc e17_4
   have e17_5_49 := HS.keepc e17_5
   have e17_6_49 := HS.keepc e17_6
   have e17_7_49 := HS.keepc e17_7
   have e17_8_49 := HS.keepc e17_8
   have e17_9_49 := HS.keepc e17_9
   have e17_10_49 := HS.keepc e17_10
   have e17_11_49 := HS.keepc e17_11
   have e17_12_49 := HS.keepc e17_12
   replace H := zbind H; obtain ⟨t50, ht50, H⟩ := H
   go_upto_if 124 with ((with_reducible refine gd 122 rfl ?_); refine ev_cl HS (laws_heldStringS.calls ht50.out (HS.ro y17_11) m17_11) Tryz.func182 ?_; clear HS; intro wt50 HS F)
   replace H := zif H; rcases H with ⟨c52, H⟩ | ⟨c52, H⟩
   case inl =>
    (try simp only [c52, dcn])
    obtain rfl := zsome H
    go_wp2
    go_ret
    exact HS.pk
   (try simp only [c52, dcn])
   (try go_wp2)
   replace H := zbind H; obtain ⟨t25, ht25, H⟩ := H
   refine dr_start [] HS #[false, false, false, false, false, false, false, false] (by kernel_rfl) rfl rfl laws_heldCertS.tT40 (fun w54 HT HS HH => ?_)
   (try clear F)
   refine drq_of [(0, some 125), (1, some 126), (2, some 127), (3, some 128)] ?_
   repeat (refine drp HT ?_)
   refine drq_end ?_
   refine dr_take 4 (some 129) HT HH (v := ?_) (a' := ?_) rfl rfl (by kernel_rfl) (fun _ _ _ h => h) (.inl ⟨by rfl, ?_⟩) ?_ ?_
   rotate_left
   · rintro w' ⟨rs', HS'⟩; have e17_0 := HS'.keepc e17_0; have e17_1 := HS'.keepc e17_1; have e17_2 := HS'.keepc e17_2; have e17_3 := HS'.keepc e17_3; have e17_4 := HS'.keepc e17_4; have e17_5 := HS'.keepc e17_5; have e17_6 := HS'.keepc e17_6; have e17_7 := HS'.keepc e17_7; have e17_8 := HS'.keepc e17_8; have e17_9 := HS'.keepc e17_9; have e17_10 := HS'.keepc e17_10; have e17_11 := HS'.keepc e17_11; have e17_12 := HS'.keepc e17_12; go_simp; with_reducible rfl
   rotate_left
   · simp only [Act.put, ptn]; rfl
   refine drq_of [(5, some 130)] ?_
   repeat (refine drp HT ?_)
   refine drq_end ?_
   refine dr1 6 HT fun K hK => ?_
   refine go_cl HS (laws_markText.calls ht25.out) Tryz.func180 ?_; clear HS; intro wt25 HS F
   refine nrm 131 hK ⟨_, HS⟩ (fun HH => ?_); clear hK K
   refine drq_of [(7, some 132)] ?_
   repeat (refine drp HT ?_)
   refine drq_end ?_
   refine done_ (done_of HT.out (by kernel_rfl)) ?_
   replace H := znif' H; rcases H with ⟨c56, H⟩ | ⟨c56, H⟩
   case inl =>
    have c56a := beq_eq_false_iff_ne.mpr c56
    have c56b := bne_iff_ne.mpr c56
    clear c56
    (try simp only [c56a, c56b, dcn])
    obtain rfl := zsome H
    go_wp2
    go_ret
    exact HS.pk
   have c56a := beq_iff_eq.mpr c56
   have c56b := bne_eq_false_iff_eq.mpr c56
   clear c56
   (try simp only [c56a, c56b, dcn])
   go_wp2
   go_roundg k10
   case measure => have := HKk10.out; omega
   case rel => exact ⟨_, _, rfl, rfl, H, ⟨by have := HKk10.out; omega⟩, HS.pick [] (by decide) (by rfl)⟩
def laws_heldRevS.l0 : Nat → Int → Int → (List S238) → Option (Int)
  | 0, _, _, _ => none
  | k + 1, x11, x12, a0 => (if x12 < (a0.length : Int) then (if 0 ≤ x12 then (if x12 < (a0.length : Int) then (if (rd_T238 a0 x12).f0 = x11 then (if (rd_T238 a0 x12).f1 = (wrap64 (x11 + 1)) then (laws_heldRevS.l0 k (wrap64 ((wrap64 (x11 + 1)) + 1)) (wrap64 (x12 + 1)) a0) else (some (-1))) else (some (-1))) else none) else none) else (some x11))
def laws_heldRevS.f (k : Nat) (a0 : (List S238)) (a1 : Int) : Option (Int) := (laws_heldRevS.l0 k a1 0 a0)
theorem laws_heldRevS.calls {k : Nat} {a0 : (List S238)} {a1 : Int} {Ap0 : Option Addr} {np0 cp0 : Nat} {r : Int} {w : World} (h : laws_heldRevS.f k a0 a1 = some r) (gp0 : k238.C w Ap0 np0 a0) (lp0 : np0 ≤ cp0) :
    Calls Tryz.prog 183 #[.slice Ap0 np0 cp0, .int .i64 a1] w (fun e w' => e = .returned (.int .i64 r) ∧ Hp noFP w w' []) := by
 obtain rfl := C_len gp0
 have HS := Hp.start w
 have H := Aside0.mk h
 clear h
 unfold laws_heldRevS.f at H
 go_enter Tryz.func183, Tryz.ntmps183
 go_wp2
 go_loopg [1, 5] k (fun kq v_1 v_5 w' => ∃ (x11 : Int) (x12 : Int), v_1 = .int .i64 x11 ∧ v_5 = .int .i64 x12 ∧ Aside0 (laws_heldRevS.l0 kq x11 x12 a0 = some r) ∧ Aside0 (kq ≤ k) ∧ Hp noFP w w' [])
 case atStart => exact ⟨_, _, rfl, rfl, H, ⟨Nat.le_refl _⟩, HS⟩
 case round =>
  clear HS H; (try clear F)
  obtain ⟨x11, x12, rfl, rfl, H, HKk10, HS⟩ := hrel
  cases gk with
  | zero => exact absurd H.out (by simp [laws_heldRevS.l0])
  | succ k10 =>
   simp only [laws_heldRevS.l0] at H
   replace H := znif H; rcases H with ⟨c14, H⟩ | ⟨c14, H⟩
   case inl =>
    obtain rfl := zsome H
    go_wp2
    go_ret
    exact HS.pk
   replace H := zgo H; obtain ⟨c15, H⟩ := H
   replace H := zgo H; obtain ⟨c16, H⟩ := H
   obtain ⟨ad17, rfl, e17_0, e17_1⟩ := at_T238 gp0 x12 (of_eq_true c15) (of_eq_true c16)
   have e17_0_17 := HS.keepc e17_0
   have e17_1_17 := HS.keepc e17_1
   replace H := znif' H; rcases H with ⟨c18, H⟩ | ⟨c18, H⟩
   case inl =>
    have c18a := beq_eq_false_iff_ne.mpr c18
    have c18b := bne_iff_ne.mpr c18
    clear c18
    obtain rfl := zsome H
    go_wp2
    go_ret
    exact HS.pk
   have c18a := beq_iff_eq.mpr c18
   have c18b := bne_eq_false_iff_eq.mpr c18
   clear c18
   have e17_0_19 := HS.keepc e17_0
   have e17_1_19 := HS.keepc e17_1
   replace H := znif' H; rcases H with ⟨c20, H⟩ | ⟨c20, H⟩
   case inl =>
    have c20a := beq_eq_false_iff_ne.mpr c20
    have c20b := bne_iff_ne.mpr c20
    clear c20
    obtain rfl := zsome H
    go_wp2
    go_ret
    exact HS.pk
   have c20a := beq_iff_eq.mpr c20
   have c20b := bne_eq_false_iff_eq.mpr c20
   clear c20
   go_wp2
   go_roundg k10
   case measure => have := HKk10.out; omega
   case rel => exact ⟨_, _, rfl, rfl, H, ⟨by have := HKk10.out; omega⟩, HS.pick [] (by decide) (by rfl)⟩
def laws_heldCrlS.l0 : Nat → Int → Int → (List S81) → Option (Int)
  | 0, _, _, _ => none
  | k + 1, x9, x10, a0 => (if x10 < (a0.length : Int) then (if 0 ≤ x10 then (if x10 < (a0.length : Int) then ((laws_markText.f k x9).bind fun t15 => (if ((rd_T81 a0 x10).f0).toList = t15.toList then (if (rd_T81 a0 x10).f1 = (wrap64 (x9 + 1)) then (if (rd_T81 a0 x10).f2 = (wrap64 ((wrap64 (x9 + 1)) + 1)) then (if (rd_T81 a0 x10).f3 = (wrap64 ((wrap64 ((wrap64 (x9 + 1)) + 1)) + 1)) then (if (rd_T81 a0 x10).f4 = (wrap64 ((wrap64 ((wrap64 ((wrap64 (x9 + 1)) + 1)) + 1)) + 1)) then ((laws_heldRevS.f k ((rd_T81 a0 x10).f5) (wrap64 ((wrap64 ((wrap64 ((wrap64 ((wrap64 (x9 + 1)) + 1)) + 1)) + 1)) + 1))).bind fun t26 => (if t26 < 0 then (some (-1)) else ((laws_markText.f k t26).bind fun t17 => (if ((rd_T81 a0 x10).f6).toList = t17.toList then (laws_heldCrlS.l0 k (wrap64 (t26 + 1)) (wrap64 (x10 + 1)) a0) else (some (-1)))))) else (some (-1))) else (some (-1))) else (some (-1))) else (some (-1))) else (some (-1)))) else none) else none) else (some x9))
def laws_heldCrlS.f (k : Nat) (a0 : (List S81)) (a1 : Int) : Option (Int) := (laws_heldCrlS.l0 k a1 0 a0)
def laws_heldCrlS.T4 : TT := (true, [([], []), ([], []), ([0, 1], [0, 1]), ([2], [2]), ([3], [3]), ([], []), ([5], [5]), ([4, 6], [4, 6])])
theorem laws_heldCrlS.tT4 : rtab .any (opsOf Tryz.f116 4) = laws_heldCrlS.T4 := by kernel_rfl
def laws_heldCrlS.T22 : TT := (true, [([], []), ([], []), ([0, 1], [0, 1]), ([2], [2]), ([3], [3]), ([], []), ([5], [5]), ([4, 6], [4, 6])])
theorem laws_heldCrlS.tT22 : rtab .any (opsOf Tryz.f116 22) = laws_heldCrlS.T22 := by kernel_rfl
theorem laws_heldCrlS.calls {k : Nat} {a0 : (List S81)} {a1 : Int} {Ap0 : Option Addr} {np0 cp0 : Nat} {r : Int} {w : World} (h : laws_heldCrlS.f k a0 a1 = some r) (gp0 : k81.C w Ap0 np0 a0) (lp0 : np0 ≤ cp0) :
    Calls Tryz.prog 116 #[.slice Ap0 np0 cp0, .int .i64 a1] w (fun e w' => e = .returned (.int .i64 r) ∧ Hp noFP w w' []) := by
 obtain rfl := C_len gp0
 have HS := Hp.start w
 have H := Aside0.mk h
 clear h
 unfold laws_heldCrlS.f at H
 go_enter Tryz.func116, Tryz.ntmps116
 go_wp2
 go_loopg [1, 5] k (fun kq v_1 v_5 w' => ∃ (x9 : Int) (x10 : Int), v_1 = .int .i64 x9 ∧ v_5 = .int .i64 x10 ∧ Aside0 (laws_heldCrlS.l0 kq x9 x10 a0 = some r) ∧ Aside0 (kq ≤ k) ∧ Hp noFP w w' [])
 case atStart => exact ⟨_, _, rfl, rfl, H, ⟨Nat.le_refl _⟩, HS⟩
 case round =>
  clear HS H; (try clear F)
  obtain ⟨x9, x10, rfl, rfl, H, HKk8, HS⟩ := hrel
  cases gk with
  | zero => exact absurd H.out (by simp [laws_heldCrlS.l0])
  | succ k8 =>
   simp only [laws_heldCrlS.l0] at H
   replace H := znif H; rcases H with ⟨c12, H⟩ | ⟨c12, H⟩
   case inl =>
    obtain rfl := zsome H
    go_wp2
    go_ret
    exact HS.pk
   (try go_wp2)
   replace H := zgo H; obtain ⟨c7, H⟩ := H
   replace H := zgo H; obtain ⟨c11, H⟩ := H
   obtain ⟨ad13, B13_5, d13_5, rfl, e13_0, e13_1, e13_2, e13_3, e13_4, e13_5, e13_6, m13_5, y13_5⟩ := at_T81 gp0 x10 (of_eq_true c7) (of_eq_true c11)
   replace H := zbind H; obtain ⟨t15, ht15, H⟩ := H
   refine dr_start [] HS #[false, false, false, false, false, false, false, false] (by kernel_rfl) rfl rfl laws_heldCrlS.tT4 (fun w14 HT HS HH => ?_)
   (try clear F)
   refine drq_of [(0, some 12), (1, some 13), (2, some 14), (3, some 15)] ?_
   repeat (refine drp HT ?_)
   refine drq_end ?_
   refine dr_take 4 (some 16) HT HH (v := ?_) (a' := ?_) rfl rfl (by kernel_rfl) (fun _ _ _ h => h) (.inl ⟨by rfl, ?_⟩) ?_ ?_
   rotate_left
   · rintro w' ⟨rs', HS'⟩; have e13_0 := HS'.keepc e13_0; have e13_1 := HS'.keepc e13_1; have e13_2 := HS'.keepc e13_2; have e13_3 := HS'.keepc e13_3; have e13_4 := HS'.keepc e13_4; have e13_5 := HS'.keepc e13_5; have e13_6 := HS'.keepc e13_6; go_simp; with_reducible rfl
   rotate_left
   · simp only [Act.put, ptn]; rfl
   refine drq_of [(5, some 17)] ?_
   repeat (refine drp HT ?_)
   refine drq_end ?_
   refine dr1 6 HT fun K hK => ?_
   refine go_cl HS (laws_markText.calls ht15.out) Tryz.func180 ?_; clear HS; intro wt15 HS F
   refine nrm 18 hK ⟨_, HS⟩ (fun HH => ?_); clear hK K
   refine drq_of [(7, some 19)] ?_
   repeat (refine drp HT ?_)
   refine drq_end ?_
   refine done_ (done_of HT.out (by kernel_rfl)) ?_
   replace H := znif' H; rcases H with ⟨c16, H⟩ | ⟨c16, H⟩
   case inl =>
    have c16a := beq_eq_false_iff_ne.mpr c16
    have c16b := bne_iff_ne.mpr c16
    clear c16
    (try simp only [c16a, c16b, dcn])
    obtain rfl := zsome H
    go_wp2
    go_ret
    exact HS.pk
   have c16a := beq_iff_eq.mpr c16
   have c16b := bne_eq_false_iff_eq.mpr c16
   clear c16
   (try simp only [c16a, c16b, dcn])
   have e13_0_17 := HS.keepc e13_0
   have e13_1_17 := HS.keepc e13_1
   have e13_2_17 := HS.keepc e13_2
   have e13_3_17 := HS.keepc e13_3
   have e13_4_17 := HS.keepc e13_4
   have e13_5_17 := HS.keepc e13_5
   have e13_6_17 := HS.keepc e13_6
   replace H := znif' H; rcases H with ⟨c18, H⟩ | ⟨c18, H⟩
   case inl =>
    have c18a := beq_eq_false_iff_ne.mpr c18
    have c18b := bne_iff_ne.mpr c18
    clear c18
    (try simp only [c18a, c18b, dcn])
    obtain rfl := zsome H
    go_wp2
    go_ret
    exact HS.pk
   have c18a := beq_iff_eq.mpr c18
   have c18b := bne_eq_false_iff_eq.mpr c18
   clear c18
   (try simp only [c18a, c18b, dcn])
   have e13_0_19 := HS.keepc e13_0
   have e13_1_19 := HS.keepc e13_1
   have e13_2_19 := HS.keepc e13_2
   have e13_3_19 := HS.keepc e13_3
   have e13_4_19 := HS.keepc e13_4
   have e13_5_19 := HS.keepc e13_5
   have e13_6_19 := HS.keepc e13_6
   replace H := znif' H; rcases H with ⟨c20, H⟩ | ⟨c20, H⟩
   case inl =>
    have c20a := beq_eq_false_iff_ne.mpr c20
    have c20b := bne_iff_ne.mpr c20
    clear c20
    (try simp only [c20a, c20b, dcn])
    obtain rfl := zsome H
    go_wp2
    go_ret
    exact HS.pk
   have c20a := beq_iff_eq.mpr c20
   have c20b := bne_eq_false_iff_eq.mpr c20
   clear c20
   (try simp only [c20a, c20b, dcn])
   have e13_0_21 := HS.keepc e13_0
   have e13_1_21 := HS.keepc e13_1
   have e13_2_21 := HS.keepc e13_2
   have e13_3_21 := HS.keepc e13_3
   have e13_4_21 := HS.keepc e13_4
   have e13_5_21 := HS.keepc e13_5
   have e13_6_21 := HS.keepc e13_6
   replace H := znif' H; rcases H with ⟨c22, H⟩ | ⟨c22, H⟩
   case inl =>
    have c22a := beq_eq_false_iff_ne.mpr c22
    have c22b := bne_iff_ne.mpr c22
    clear c22
    (try simp only [c22a, c22b, dcn])
    obtain rfl := zsome H
    go_wp2
    go_ret
    exact HS.pk
   have c22a := beq_iff_eq.mpr c22
   have c22b := bne_eq_false_iff_eq.mpr c22
   clear c22
   (try simp only [c22a, c22b, dcn])
   have e13_0_23 := HS.keepc e13_0
   have e13_1_23 := HS.keepc e13_1
   have e13_2_23 := HS.keepc e13_2
   have e13_3_23 := HS.keepc e13_3
   have e13_4_23 := HS.keepc e13_4
   have e13_5_23 := HS.keepc e13_5
   have e13_6_23 := HS.keepc e13_6
   replace H := znif' H; rcases H with ⟨c24, H⟩ | ⟨c24, H⟩
   case inl =>
    have c24a := beq_eq_false_iff_ne.mpr c24
    have c24b := bne_iff_ne.mpr c24
    clear c24
    (try simp only [c24a, c24b, dcn])
    obtain rfl := zsome H
    go_wp2
    go_ret
    exact HS.pk
   have c24a := beq_iff_eq.mpr c24
   have c24b := bne_eq_false_iff_eq.mpr c24
   clear c24
   (try simp only [c24a, c24b, dcn])
   have e13_0_25 := HS.keepc e13_0
   have e13_1_25 := HS.keepc e13_1
   have e13_2_25 := HS.keepc e13_2
   have e13_3_25 := HS.keepc e13_3
   have e13_4_25 := HS.keepc e13_4
   have e13_5_25 := HS.keepc e13_5
   have e13_6_25 := HS.keepc e13_6
   replace H := zbind H; obtain ⟨t26, ht26, H⟩ := H
   go_upto_if 66 with ((with_reducible refine gd 64 rfl ?_); refine ev_cl HS (laws_heldRevS.calls ht26.out (HS.ro y13_5) m13_5) Tryz.func183 ?_; clear HS; intro wt26 HS F)
   replace H := zif H; rcases H with ⟨c28, H⟩ | ⟨c28, H⟩
   case inl =>
    (try simp only [c28, dcn])
    obtain rfl := zsome H
    go_wp2
    go_ret
    exact HS.pk
   (try simp only [c28, dcn])
   (try go_wp2)
   replace H := zbind H; obtain ⟨t17, ht17, H⟩ := H
   refine dr_start [] HS #[false, false, false, false, false, false, false, false] (by kernel_rfl) rfl rfl laws_heldCrlS.tT22 (fun w30 HT HS HH => ?_)
   (try clear F)
   refine drq_of [(0, some 67), (1, some 68), (2, some 69), (3, some 70)] ?_
   repeat (refine drp HT ?_)
   refine drq_end ?_
   refine dr_take 4 (some 71) HT HH (v := ?_) (a' := ?_) rfl rfl (by kernel_rfl) (fun _ _ _ h => h) (.inl ⟨by rfl, ?_⟩) ?_ ?_
   rotate_left
   · rintro w' ⟨rs', HS'⟩; have e13_0 := HS'.keepc e13_0; have e13_1 := HS'.keepc e13_1; have e13_2 := HS'.keepc e13_2; have e13_3 := HS'.keepc e13_3; have e13_4 := HS'.keepc e13_4; have e13_5 := HS'.keepc e13_5; have e13_6 := HS'.keepc e13_6; go_simp; with_reducible rfl
   rotate_left
   · simp only [Act.put, ptn]; rfl
   refine drq_of [(5, some 72)] ?_
   repeat (refine drp HT ?_)
   refine drq_end ?_
   refine dr1 6 HT fun K hK => ?_
   refine go_cl HS (laws_markText.calls ht17.out) Tryz.func180 ?_; clear HS; intro wt17 HS F
   refine nrm 73 hK ⟨_, HS⟩ (fun HH => ?_); clear hK K
   refine drq_of [(7, some 74)] ?_
   repeat (refine drp HT ?_)
   refine drq_end ?_
   refine done_ (done_of HT.out (by kernel_rfl)) ?_
   replace H := znif' H; rcases H with ⟨c32, H⟩ | ⟨c32, H⟩
   case inl =>
    have c32a := beq_eq_false_iff_ne.mpr c32
    have c32b := bne_iff_ne.mpr c32
    clear c32
    (try simp only [c32a, c32b, dcn])
    obtain rfl := zsome H
    go_wp2
    go_ret
    exact HS.pk
   have c32a := beq_iff_eq.mpr c32
   have c32b := bne_eq_false_iff_eq.mpr c32
   clear c32
   (try simp only [c32a, c32b, dcn])
   go_wp2
   go_roundg k8
   case measure => have := HKk8.out; omega
   case rel => exact ⟨_, _, rfl, rfl, H, ⟨by have := HKk8.out; omega⟩, HS.pick [] (by decide) (by rfl)⟩
def laws_heldAnchorS.l0 : Nat → Int → Int → (List S115) → Option (Int)
  | 0, _, _, _ => none
  | k + 1, x9, x10, a0 => (if x10 < (a0.length : Int) then (if 0 ≤ x10 then (if x10 < (a0.length : Int) then ((laws_markText.f k x9).bind fun t13 => (if ((rd_T115 a0 x10).f0).toList = t13.toList then ((laws_markText.f k (wrap64 (x9 + 1))).bind fun t15 => (if ((rd_T115 a0 x10).f1).toList = t15.toList then (laws_heldAnchorS.l0 k (wrap64 ((wrap64 (x9 + 1)) + 1)) (wrap64 (x10 + 1)) a0) else (some (-1)))) else (some (-1)))) else none) else none) else (some x9))
def laws_heldAnchorS.f (k : Nat) (a0 : (List S115)) (a1 : Int) : Option (Int) := (laws_heldAnchorS.l0 k a1 0 a0)
def laws_heldAnchorS.T4 : TT := (true, [([], []), ([], []), ([0, 1], [0, 1]), ([2], [2]), ([3], [3]), ([], []), ([5], [5]), ([4, 6], [4, 6])])
theorem laws_heldAnchorS.tT4 : rtab .any (opsOf Tryz.f117 4) = laws_heldAnchorS.T4 := by kernel_rfl
def laws_heldAnchorS.T7 : TT := (true, [([], []), ([], []), ([0, 1], [0, 1]), ([2], [2]), ([3], [3]), ([], []), ([5], [5]), ([4, 6], [4, 6])])
theorem laws_heldAnchorS.tT7 : rtab .any (opsOf Tryz.f117 7) = laws_heldAnchorS.T7 := by kernel_rfl
theorem laws_heldAnchorS.calls {k : Nat} {a0 : (List S115)} {a1 : Int} {Ap0 : Option Addr} {np0 cp0 : Nat} {r : Int} {w : World} (h : laws_heldAnchorS.f k a0 a1 = some r) (gp0 : k115.C w Ap0 np0 a0) (lp0 : np0 ≤ cp0) :
    Calls Tryz.prog 117 #[.slice Ap0 np0 cp0, .int .i64 a1] w (fun e w' => e = .returned (.int .i64 r) ∧ Hp noFP w w' []) := by
 obtain rfl := C_len gp0
 have HS := Hp.start w
 have H := Aside0.mk h
 clear h
 unfold laws_heldAnchorS.f at H
 go_enter Tryz.func117, Tryz.ntmps117
 go_wp2
 go_loopg [1, 5] k (fun kq v_1 v_5 w' => ∃ (x9 : Int) (x10 : Int), v_1 = .int .i64 x9 ∧ v_5 = .int .i64 x10 ∧ Aside0 (laws_heldAnchorS.l0 kq x9 x10 a0 = some r) ∧ Aside0 (kq ≤ k) ∧ Hp noFP w w' [])
 case atStart => exact ⟨_, _, rfl, rfl, H, ⟨Nat.le_refl _⟩, HS⟩
 case round =>
  clear HS H; (try clear F)
  obtain ⟨x9, x10, rfl, rfl, H, HKk8, HS⟩ := hrel
  cases gk with
  | zero => exact absurd H.out (by simp [laws_heldAnchorS.l0])
  | succ k8 =>
   simp only [laws_heldAnchorS.l0] at H
   replace H := znif H; rcases H with ⟨c12, H⟩ | ⟨c12, H⟩
   case inl =>
    obtain rfl := zsome H
    go_wp2
    go_ret
    exact HS.pk
   (try go_wp2)
   replace H := zgo H; obtain ⟨c3, H⟩ := H
   replace H := zgo H; obtain ⟨c6, H⟩ := H
   obtain ⟨ad11, rfl, e11_0, e11_1⟩ := at_T115 gp0 x10 (of_eq_true c3) (of_eq_true c6)
   replace H := zbind H; obtain ⟨t13, ht13, H⟩ := H
   refine dr_start [] HS #[false, false, false, false, false, false, false, false] (by kernel_rfl) rfl rfl laws_heldAnchorS.tT4 (fun w14 HT HS HH => ?_)
   (try clear F)
   refine drq_of [(0, some 12), (1, some 13), (2, some 14), (3, some 15)] ?_
   repeat (refine drp HT ?_)
   refine drq_end ?_
   refine dr_take 4 (some 16) HT HH (v := ?_) (a' := ?_) rfl rfl (by kernel_rfl) (fun _ _ _ h => h) (.inl ⟨by rfl, ?_⟩) ?_ ?_
   rotate_left
   · rintro w' ⟨rs', HS'⟩; have e11_0 := HS'.keepc e11_0; have e11_1 := HS'.keepc e11_1; go_simp; with_reducible rfl
   rotate_left
   · simp only [Act.put, ptn]; rfl
   refine drq_of [(5, some 17)] ?_
   repeat (refine drp HT ?_)
   refine drq_end ?_
   refine dr1 6 HT fun K hK => ?_
   refine go_cl HS (laws_markText.calls ht13.out) Tryz.func180 ?_; clear HS; intro wt13 HS F
   refine nrm 18 hK ⟨_, HS⟩ (fun HH => ?_); clear hK K
   refine drq_of [(7, some 19)] ?_
   repeat (refine drp HT ?_)
   refine drq_end ?_
   refine done_ (done_of HT.out (by kernel_rfl)) ?_
   replace H := znif' H; rcases H with ⟨c16, H⟩ | ⟨c16, H⟩
   case inl =>
    have c16a := beq_eq_false_iff_ne.mpr c16
    have c16b := bne_iff_ne.mpr c16
    clear c16
    (try simp only [c16a, c16b, dcn])
    obtain rfl := zsome H
    go_wp2
    go_ret
    exact HS.pk
   have c16a := beq_iff_eq.mpr c16
   have c16b := bne_eq_false_iff_eq.mpr c16
   clear c16
   (try simp only [c16a, c16b, dcn])
   (try go_wp2)
   replace H := zbind H; obtain ⟨t15, ht15, H⟩ := H
   refine dr_start [] HS #[false, false, false, false, false, false, false, false] (by kernel_rfl) rfl rfl laws_heldAnchorS.tT7 (fun w18 HT HS HH => ?_)
   (try clear F)
   refine drq_of [(0, some 22), (1, some 23), (2, some 24), (3, some 25)] ?_
   repeat (refine drp HT ?_)
   refine drq_end ?_
   refine dr_take 4 (some 26) HT HH (v := ?_) (a' := ?_) rfl rfl (by kernel_rfl) (fun _ _ _ h => h) (.inl ⟨by rfl, ?_⟩) ?_ ?_
   rotate_left
   · rintro w' ⟨rs', HS'⟩; have e11_0 := HS'.keepc e11_0; have e11_1 := HS'.keepc e11_1; go_simp; with_reducible rfl
   rotate_left
   · simp only [Act.put, ptn]; rfl
   refine drq_of [(5, some 27)] ?_
   repeat (refine drp HT ?_)
   refine drq_end ?_
   refine dr1 6 HT fun K hK => ?_
   refine go_cl HS (laws_markText.calls ht15.out) Tryz.func180 ?_; clear HS; intro wt15 HS F
   refine nrm 28 hK ⟨_, HS⟩ (fun HH => ?_); clear hK K
   refine drq_of [(7, some 29)] ?_
   repeat (refine drp HT ?_)
   refine drq_end ?_
   refine done_ (done_of HT.out (by kernel_rfl)) ?_
   replace H := znif' H; rcases H with ⟨c20, H⟩ | ⟨c20, H⟩
   case inl =>
    have c20a := beq_eq_false_iff_ne.mpr c20
    have c20b := bne_iff_ne.mpr c20
    clear c20
    (try simp only [c20a, c20b, dcn])
    obtain rfl := zsome H
    go_wp2
    go_ret
    exact HS.pk
   have c20a := beq_iff_eq.mpr c20
   have c20b := bne_eq_false_iff_eq.mpr c20
   clear c20
   (try simp only [c20a, c20b, dcn])
   go_wp2
   go_roundg k8
   case measure => have := HKk8.out; omega
   case rel => exact ⟨_, _, rfl, rfl, H, ⟨by have := HKk8.out; omega⟩, HS.pick [] (by decide) (by rfl)⟩
def laws_heldStore.f (k : Nat) (a0 : S33) (a1 : Int) : Option (Int) := ((laws_heldCertS.f k a0.f0 a1).bind fun t3 => (if t3 < 0 then (some (-1)) else ((laws_heldCrlS.f k a0.f1 t3).bind fun t6 => (if t6 < 0 then (some (-1)) else ((laws_heldAnchorS.f k a0.f2 t6).bind fun t9 => (if t9 < 0 then (some (-1)) else (some t9)))))))
theorem laws_heldStore.calls {k : Nat} {a0 : S33} {a1 : Int} {Ap0 Ap1 Ap2 : Option Addr} {np0 cp0 np1 cp1 np2 cp2 : Nat} {r : Int} {w : World} (h : laws_heldStore.f k a0 a1 = some r) (gp0 : k91.C w Ap0 np0 a0.f0) (lp0 : np0 ≤ cp0) (gp1 : k81.C w Ap1 np1 a0.f1) (lp1 : np1 ≤ cp1) (gp2 : k115.C w Ap2 np2 a0.f2) (lp2 : np2 ≤ cp2) :
    Calls Tryz.prog 33 #[.agg #[.slice Ap0 np0 cp0, .slice Ap1 np1 cp1, .slice Ap2 np2 cp2], .int .i64 a1] w (fun e w' => e = .returned (.int .i64 r) ∧ Hp noFP w w' []) := by
 obtain rfl := C_len gp0
 obtain rfl := C_len gp1
 obtain rfl := C_len gp2
 have HS := Hp.start w
 have H := Aside0.mk h
 clear h
 unfold laws_heldStore.f at H
 go_enter Tryz.func33, Tryz.ntmps33
 replace H := zbind H; obtain ⟨t3, ht3, H⟩ := H
 go_upto_if 10 with (first | ((with_reducible refine gd 2 rfl ?_); refine ev_bx HS ?_; clear HS; intro g2 w2 HS F) | ((with_reducible refine gd 8 rfl ?_); refine ev_cl HS (laws_heldCertS.calls ht3.out (HS.ro gp0) lp0) Tryz.func115 ?_; clear HS; intro wt3 HS F))
 replace H := zif H; rcases H with ⟨c5, H⟩ | ⟨c5, H⟩
 case inl =>
  (try simp only [c5, dcn])
  obtain rfl := zsome H
  go_wp2
  go_ret
  exact HS.pk
 (try simp only [c5, dcn])
 replace H := zbind H; obtain ⟨t6, ht6, H⟩ := H
 go_upto_if 16 with ((with_reducible refine gd 14 rfl ?_); refine ev_cl HS (laws_heldCrlS.calls ht6.out (HS.ro gp1) lp1) Tryz.func116 ?_; clear HS; intro wt6 HS F)
 replace H := zif H; rcases H with ⟨c8, H⟩ | ⟨c8, H⟩
 case inl =>
  (try simp only [c8, dcn])
  obtain rfl := zsome H
  go_wp2
  go_ret
  exact HS.pk
 (try simp only [c8, dcn])
 replace H := zbind H; obtain ⟨t9, ht9, H⟩ := H
 go_upto_if 22 with ((with_reducible refine gd 20 rfl ?_); refine ev_cl HS (laws_heldAnchorS.calls ht9.out (HS.ro gp2) lp2) Tryz.func117 ?_; clear HS; intro wt9 HS F)
 replace H := zif H; rcases H with ⟨c11, H⟩ | ⟨c11, H⟩
 case inl =>
  (try simp only [c11, dcn])
  obtain rfl := zsome H
  go_wp2
  go_ret
  exact HS.pk
 (try simp only [c11, dcn])
 obtain rfl := zsome H
 go_wp2
 go_ret
 exact HS.pk
def laws_heldServer.f (k : Nat) (a0 : S46) (a1 : Int) : Option (Int) := ((laws_heldStore.f k a0.f0 a1).bind fun t3 => (if t3 < 0 then (some (-1)) else ((laws_heldPlanS.f k a0.f1 t3).bind fun t6 => (if t6 < 0 then (some (-1)) else ((laws_heldKeptS.f k a0.f5 t6).bind fun t9 => (if t9 < 0 then (some (-1)) else (some t9)))))))
theorem laws_heldServer.calls {k : Nat} {a0 : S46} {a1 : Int} {Ap0 Ap1 Ap2 Ap3 Ap4 : Option Addr} {np0 cp0 np1 cp1 np2 cp2 np3 cp3 np4 cp4 : Nat} {r : Int} {w : World} (h : laws_heldServer.f k a0 a1 = some r) (gp0 : k91.C w Ap0 np0 a0.f0.f0) (lp0 : np0 ≤ cp0) (gp1 : k81.C w Ap1 np1 a0.f0.f1) (lp1 : np1 ≤ cp1) (gp2 : k115.C w Ap2 np2 a0.f0.f2) (lp2 : np2 ≤ cp2) (gp3 : k202.C w Ap3 np3 a0.f1) (lp3 : np3 ≤ cp3) (gp4 : k205.C w Ap4 np4 a0.f5) (lp4 : np4 ≤ cp4) :
    Calls Tryz.prog 48 #[.agg #[.slice Ap0 np0 cp0, .slice Ap1 np1 cp1, .slice Ap2 np2 cp2, .slice Ap3 np3 cp3, .int .i64 a0.f2, .int .i64 a0.f3, .int .i64 a0.f4, .slice Ap4 np4 cp4], .int .i64 a1] w (fun e w' => e = .returned (.int .i64 r) ∧ Hp noFP w w' []) := by
 obtain rfl := C_len gp0
 obtain rfl := C_len gp1
 obtain rfl := C_len gp2
 obtain rfl := C_len gp3
 obtain rfl := C_len gp4
 have HS := Hp.start w
 have H := Aside0.mk h
 clear h
 unfold laws_heldServer.f at H
 go_enter Tryz.func48, Tryz.ntmps48
 replace H := zbind H; obtain ⟨t3, ht3, H⟩ := H
 go_upto_if 10 with (first | ((with_reducible refine gd 2 rfl ?_); refine ev_bx HS ?_; clear HS; intro g2 w2 HS F) | ((with_reducible refine gd 8 rfl ?_); refine ev_cl HS (laws_heldStore.calls ht3.out (HS.ro gp0) lp0 (HS.ro gp1) lp1 (HS.ro gp2) lp2) Tryz.func33 ?_; clear HS; intro wt3 HS F))
 replace H := zif H; rcases H with ⟨c5, H⟩ | ⟨c5, H⟩
 case inl =>
  (try simp only [c5, dcn])
  obtain rfl := zsome H
  go_wp2
  go_ret
  exact HS.pk
 (try simp only [c5, dcn])
 replace H := zbind H; obtain ⟨t6, ht6, H⟩ := H
 go_upto_if 16 with ((with_reducible refine gd 14 rfl ?_); refine ev_cl HS (laws_heldPlanS.calls ht6.out (HS.ro gp3) lp3) Tryz.func131 ?_; clear HS; intro wt6 HS F)
 replace H := zif H; rcases H with ⟨c8, H⟩ | ⟨c8, H⟩
 case inl =>
  (try simp only [c8, dcn])
  obtain rfl := zsome H
  go_wp2
  go_ret
  exact HS.pk
 (try simp only [c8, dcn])
 replace H := zbind H; obtain ⟨t9, ht9, H⟩ := H
 go_upto_if 22 with ((with_reducible refine gd 20 rfl ?_); refine ev_cl HS (laws_heldKeptS.calls ht9.out (HS.ro gp4) lp4) Tryz.func132 ?_; clear HS; intro wt9 HS F)
 replace H := zif H; rcases H with ⟨c11, H⟩ | ⟨c11, H⟩
 case inl =>
  (try simp only [c11, dcn])
  obtain rfl := zsome H
  go_wp2
  go_ret
  exact HS.pk
 (try simp only [c11, dcn])
 obtain rfl := zsome H
 go_wp2
 go_ret
 exact HS.pk
end Go.Proofs.YtacocpknielofaaGreatDoor.F

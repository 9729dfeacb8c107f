/- Functions of the program and of the law, and that their calls do what is written here. -/
import Derived.Test.YtacocpknielofaaGreatDoorZgFnExactLearnCrlg
import Derived.Test.YtacocpknielofaaGreatDoorZgFnExactLearnCrlh
namespace Go.Proofs.YtacocpknielofaaGreatDoor.F
open Go.RowKit YtacocpknielofaaGreatDoorW.PrintWords YtacocpknielofaaGreatDoorW.PrintLast YtacocpknielofaaGreatDoorW.PrintMore Z
attribute [local go_sem] max2_int min2_int max_two min_two max_three min_three max_four min_four
set_option linter.unusedVariables false
set_option linter.unusedSimpArgs false
set_option maxRecDepth 100000
set_option maxHeartbeats 16000000
def impl_CrlOk.l0 : Nat → Int → S81 → Option (Bool)
  | 0, _, _ => none
  | k + 1, x23, a0 => (if x23 < (a0.f5.length : Int) then (if 0 ≤ x23 then (if x23 < (a0.f5.length : Int) then ((impl_timeOk.f ((rd_T238 a0.f5 x23).f0)).bind fun t7 => (if t7 = true then ((impl_within.f ((rd_T238 a0.f5 x23).f1) 1 10).bind fun t13 => (if t13 = true then (if (rd_T238 a0.f5 x23).f1 = 8 then (if a0.f4 = 0 then (some false) else (if 0 < x23 then (if 0 ≤ (wrap64 (x23 - 1)) then (if (wrap64 (x23 - 1)) < (a0.f5.length : Int) then (if (rd_T238 a0.f5 x23).f0 ≤ (rd_T238 a0.f5 (wrap64 (x23 - 1))).f0 then (some false) else (impl_CrlOk.l0 k (wrap64 (x23 + 1)) a0)) else none) else none) else (impl_CrlOk.l0 k (wrap64 (x23 + 1)) a0))) else (if 0 < x23 then (if 0 ≤ (wrap64 (x23 - 1)) then (if (wrap64 (x23 - 1)) < (a0.f5.length : Int) then (if (rd_T238 a0.f5 x23).f0 ≤ (rd_T238 a0.f5 (wrap64 (x23 - 1))).f0 then (some false) else (impl_CrlOk.l0 k (wrap64 (x23 + 1)) a0)) else none) else none) else (impl_CrlOk.l0 k (wrap64 (x23 + 1)) a0))) else (some false))) else (some false))) else none) else none) else (some true))
def impl_CrlOk.f (k : Nat) (a0 : S81) : Option (Bool) := ((impl_NameOk.f k a0.f0).bind fun t3 => (if t3 = true then ((impl_within.f a0.f1 1 9999).bind fun t6 => (if t6 = true then ((impl_within.f a0.f4 0 (wrap64 (a0.f1 - 1))).bind fun t9 => (if t9 = true then ((impl_timeOk.f a0.f2).bind fun t12 => (if t12 = true then ((impl_timeOk.f a0.f3).bind fun t15 => (if t15 = true then (if 8 < (a0.f5.length : Int) then (some false) else (if (a0.f6.size : Int) = 15 then (impl_CrlOk.l0 k 0 a0) else (some false))) else (some false))) else (some false))) else (some false))) else (some false))) else (some false)))
def impl_CrlOk.T6 : TT := (true, [([], []), ([0], [0]), ([1], [1]), ([2], [2]), ([3, 2], [3]), ([4], [4]), ([5, 4], [4, 5]), ([6, 4, 4], [4, 6]), ([7, 4], [4, 7]), ([4, 8], [4, 8]), ([9, 7], [9]), ([10], [10]), ([11, 10], [10, 11]), ([12, 10], [10, 12]), ([13, 10, 10], [10, 13]), ([14], [14]), ([15, 14], [14, 15]), ([16, 14], [14, 16]), ([14, 17, 10], [10, 14, 17]), ([10, 18], [10, 18]), ([19, 14], [19]), ([20], [20]), ([21, 20], [20, 21]), ([22, 20, 20], [20, 22]), ([23], [23]), ([24, 23], [23, 24]), ([23], [23]), ([26, 23], [23, 26]), ([25, 27, 23], [23, 25, 27]), ([28, 23], [23, 28]), ([29, 23], [23, 29]), ([23], [23]), ([31, 23], [23, 31]), ([30, 32, 23], [23, 30, 32]), ([23, 33, 20], [20, 23, 33]), ([20, 34], [20, 34])])
theorem impl_CrlOk.tT6 : rtab .any (opsOf Tryz.f148 6) = impl_CrlOk.T6 := by kernel_rfl
theorem impl_CrlOk.calls {k : Nat} {a0 : S81} {Ap0 : Option Addr} {np0 cp0 : Nat} {mG : Int} {r : Bool} {w : World} (h : impl_CrlOk.f k a0 = some r) (gp0 : k238.C w Ap0 np0 a0.f5) (lp0 : np0 ≤ cp0) (hgM : w.cell? ⟨0, 0, none⟩ = some (.int .i64 mG)) :
    Calls Tryz.prog 148 #[.agg #[.string a0.f0, .int .i64 a0.f1, .int .i64 a0.f2, .int .i64 a0.f3, .int .i64 a0.f4, .slice Ap0 np0 cp0, .string a0.f6]] w (fun e w' => e = .returned (.bool r) ∧ Hp noFP w w' []) := by
 obtain rfl := C_len gp0
 have HS := Hp.start w
 have H := Aside0.mk h
 clear h
 unfold impl_CrlOk.f at H
 go_enter Tryz.func148, Tryz.ntmps148
 replace H := zbind H; obtain ⟨t3, ht3, H⟩ := H
 replace H := znifb H; rcases H with ⟨c5, H⟩ | ⟨c5, H⟩
 case inl =>
  subst c5
  obtain rfl := zsome H
  go_wp2_with (first | ((with_reducible refine gd 1 rfl ?_); refine ev_bx HS ?_; clear HS; intro g1 w1 HS F) | ((with_reducible refine gd 7 rfl ?_); refine ev_cl HS (impl_NameOk.calls ht3.out (HS.keepc hgM)) Tryz.func62 ?_; clear HS; intro wt3 HS F))
  go_ret
  exact HS.pk
 subst c5
 replace H := zbind H; obtain ⟨t6, ht6, H⟩ := H
 replace H := znifb H; rcases H with ⟨c8, H⟩ | ⟨c8, H⟩
 case inl =>
  subst c8
  obtain rfl := zsome H
  go_wp2_with (first | ((with_reducible refine gd 1 rfl ?_); refine ev_bx HS ?_; clear HS; intro g1 w1 HS F) | ((with_reducible refine gd 7 rfl ?_); refine ev_cl HS (impl_NameOk.calls ht3.out (HS.keepc hgM)) Tryz.func62 ?_; clear HS; intro wt3 HS F) | ((with_reducible refine gd 12 rfl ?_); refine gg ?_; refine ev_cl HS (impl_within.calls ht6.out) Tryz.func79 ?_; clear HS; intro wt6 HS F))
  go_ret
  exact HS.pk
 subst c8
 replace H := zbind H; obtain ⟨t9, ht9, H⟩ := H
 replace H := znifb H; rcases H with ⟨c11, H⟩ | ⟨c11, H⟩
 case inl =>
  subst c11
  obtain rfl := zsome H
  go_wp2_with (first | ((with_reducible refine gd 1 rfl ?_); refine ev_bx HS ?_; clear HS; intro g1 w1 HS F) | ((with_reducible refine gd 7 rfl ?_); refine ev_cl HS (impl_NameOk.calls ht3.out (HS.keepc hgM)) Tryz.func62 ?_; clear HS; intro wt3 HS F) | ((with_reducible refine gd 12 rfl ?_); refine gg ?_; refine ev_cl HS (impl_within.calls ht6.out) Tryz.func79 ?_; clear HS; intro wt6 HS F) | ((with_reducible refine gd 21 rfl ?_); refine gg ?_; refine ev_cl HS (impl_within.calls ht9.out) Tryz.func79 ?_; clear HS; intro wt9 HS F))
  go_ret
  exact HS.pk
 subst c11
 replace H := zbind H; obtain ⟨t12, ht12, H⟩ := H
 replace H := znifb H; rcases H with ⟨c14, H⟩ | ⟨c14, H⟩
 case inl =>
  subst c14
  obtain rfl := zsome H
  go_wp2_with (first | ((with_reducible refine gd 1 rfl ?_); refine ev_bx HS ?_; clear HS; intro g1 w1 HS F) | ((with_reducible refine gd 7 rfl ?_); refine ev_cl HS (impl_NameOk.calls ht3.out (HS.keepc hgM)) Tryz.func62 ?_; clear HS; intro wt3 HS F) | ((with_reducible refine gd 12 rfl ?_); refine gg ?_; refine ev_cl HS (impl_within.calls ht6.out) Tryz.func79 ?_; clear HS; intro wt6 HS F) | ((with_reducible refine gd 21 rfl ?_); refine gg ?_; refine ev_cl HS (impl_within.calls ht9.out) Tryz.func79 ?_; clear HS; intro wt9 HS F) | ((with_reducible refine gd 27 rfl ?_); refine gg ?_; refine ev_cl HS (impl_timeOk.calls ht12.out) Tryz.func80 ?_; clear HS; intro wt12 HS F))
  go_ret
  exact HS.pk
 subst c14
 replace H := zbind H; obtain ⟨t15, ht15, H⟩ := H
 replace H := znifb H; rcases H with ⟨c17, H⟩ | ⟨c17, H⟩
 case inl =>
  subst c17
  obtain rfl := zsome H
  go_wp2_with (first | ((with_reducible refine gd 1 rfl ?_); refine ev_bx HS ?_; clear HS; intro g1 w1 HS F) | ((with_reducible refine gd 7 rfl ?_); refine ev_cl HS (impl_NameOk.calls ht3.out (HS.keepc hgM)) Tryz.func62 ?_; clear HS; intro wt3 HS F) | ((with_reducible refine gd 12 rfl ?_); refine gg ?_; refine ev_cl HS (impl_within.calls ht6.out) Tryz.func79 ?_; clear HS; intro wt6 HS F) | ((with_reducible refine gd 21 rfl ?_); refine gg ?_; refine ev_cl HS (impl_within.calls ht9.out) Tryz.func79 ?_; clear HS; intro wt9 HS F) | ((with_reducible refine gd 27 rfl ?_); refine gg ?_; refine ev_cl HS (impl_timeOk.calls ht12.out) Tryz.func80 ?_; clear HS; intro wt12 HS F) | ((with_reducible refine gd 33 rfl ?_); refine gg ?_; refine ev_cl HS (impl_timeOk.calls ht15.out) Tryz.func80 ?_; clear HS; intro wt15 HS F))
  go_ret
  exact HS.pk
 subst c17
 replace H := zif H; rcases H with ⟨c18, H⟩ | ⟨c18, H⟩
 case inl =>
  obtain rfl := zsome H
  go_wp2_with (first | ((with_reducible refine gd 1 rfl ?_); refine ev_bx HS ?_; clear HS; intro g1 w1 HS F) | ((with_reducible refine gd 7 rfl ?_); refine ev_cl HS (impl_NameOk.calls ht3.out (HS.keepc hgM)) Tryz.func62 ?_; clear HS; intro wt3 HS F) | ((with_reducible refine gd 12 rfl ?_); refine gg ?_; refine ev_cl HS (impl_within.calls ht6.out) Tryz.func79 ?_; clear HS; intro wt6 HS F) | ((with_reducible refine gd 21 rfl ?_); refine gg ?_; refine ev_cl HS (impl_within.calls ht9.out) Tryz.func79 ?_; clear HS; intro wt9 HS F) | ((with_reducible refine gd 27 rfl ?_); refine gg ?_; refine ev_cl HS (impl_timeOk.calls ht12.out) Tryz.func80 ?_; clear HS; intro wt12 HS F) | ((with_reducible refine gd 33 rfl ?_); refine gg ?_; refine ev_cl HS (impl_timeOk.calls ht15.out) Tryz.func80 ?_; clear HS; intro wt15 HS F))
  go_ret
  exact HS.pk
 go_upto_if 47 with (first | ((with_reducible refine gd 1 rfl ?_); refine ev_bx HS ?_; clear HS; intro g1 w1 HS F) | ((with_reducible refine gd 7 rfl ?_); refine ev_cl HS (impl_NameOk.calls ht3.out (HS.keepc hgM)) Tryz.func62 ?_; clear HS; intro wt3 HS F) | ((with_reducible refine gd 12 rfl ?_); refine gg ?_; refine ev_cl HS (impl_within.calls ht6.out) Tryz.func79 ?_; clear HS; intro wt6 HS F) | ((with_reducible refine gd 21 rfl ?_); refine gg ?_; refine ev_cl HS (impl_within.calls ht9.out) Tryz.func79 ?_; clear HS; intro wt9 HS F) | ((with_reducible refine gd 27 rfl ?_); refine gg ?_; refine ev_cl HS (impl_timeOk.calls ht12.out) Tryz.func80 ?_; clear HS; intro wt12 HS F) | ((with_reducible refine gd 33 rfl ?_); refine gg ?_; refine ev_cl HS (impl_timeOk.calls ht15.out) Tryz.func80 ?_; clear HS; intro wt15 HS F))
 replace H := znif' H; rcases H with ⟨c19, H⟩ | ⟨c19, H⟩
 case inl =>
  have c19a := beq_eq_false_iff_ne.mpr c19
  have c19b := bne_iff_ne.mpr c19
  clear c19
  (try simp only [c19a, c19b, dcn])
  obtain rfl := zsome H
  go_wp2
  go_ret
  exact HS.pk
 have c19a := beq_iff_eq.mpr c19
 have c19b := bne_eq_false_iff_eq.mpr c19
 clear c19
 (try simp only [c19a, c19b, dcn])
 go_wp2
 go_loopg [51] k (fun kq v_51 w' => ∃ (x23 : Int), v_51 = .int .i64 x23 ∧ Aside0 (impl_CrlOk.l0 kq x23 a0 = some r) ∧ Aside0 (kq ≤ k) ∧ Hp noFP w w' [.box g1 [.string a0.f0, .int .i64 a0.f1, .int .i64 a0.f2, .int .i64 a0.f3, .int .i64 a0.f4, .slice Ap0 a0.f5.length cp0, .string a0.f6] 81])
 case atStart => exact ⟨_, rfl, H, ⟨Nat.le_refl _⟩, HS⟩
 case round =>
  clear HS H; (try clear F)
  obtain ⟨x23, rfl, H, HKk22, HS⟩ := hrel
  have F := HS.boxes; simp only [bxn] at F
  cases gk with
  | zero => exact absurd H.out (by simp [impl_CrlOk.l0])
  | succ k22 =>
   simp only [impl_CrlOk.l0] at H
   replace H := znif H; rcases H with ⟨c25, H⟩ | ⟨c25, H⟩
   case inl =>
    obtain rfl := zsome H
    go_wp2
    go_ret
    exact HS.pk
   replace H := zgo H; obtain ⟨c26, H⟩ := H
   replace H := zgo H; obtain ⟨c27, H⟩ := H
   obtain ⟨ad28, rfl, e28_0, e28_1⟩ := at_T238 gp0 x23 (of_eq_true c26) (of_eq_true c27)
   have e28_0_28 := HS.keepc e28_0
   have e28_1_28 := HS.keepc e28_1
   go_wp2_with (first | ((with_reducible refine gd 4 rfl ?_); refine ev_bx HS ?_; clear HS; intro g4 w4 HS F) | ((with_reducible refine gate_store (p := 4) rfl ?_); refine ev_st 1 0 HS (seg := [.int .i64 ((rd_T238 a0.f5 x23).f0), .int .i64 ((rd_T238 a0.f5 x23).f1)]) ?_; clear HS; intro w31 HS F))
   replace H := zbind H; obtain ⟨t7, ht7, H⟩ := H
   replace H := znifb H; rcases H with ⟨c10, H⟩ | ⟨c10, H⟩
   case inl =>
    subst c10
    refine dr_start [] HS #[false, false, false, false, false, false, false, false, false, false, false, false, false, false, false, false, false, false, false, false, false, false, false, false, false, false, false, false, false, false, false, false, false, false, false, false] (by kernel_rfl) rfl rfl impl_CrlOk.tT6 (fun w48 HT HS HH => ?_)
    (try clear F)
    refine drq_of [(0, some 56), (1, some 57)] ?_
    repeat (first | refine drp HT ?_ | refine drt HT HH ?_)
    refine drq_end ?_
    refine dr1 2 HT fun K hK => ?_
    refine go_cl HS (impl_timeOk.calls ht7.out) Tryz.func80 ?_; clear HS; intro wt7 HS F
    refine nrm 58 hK ⟨_, HS⟩ (fun HH => ?_); clear hK K
    refine drq_of [(3, some 59), (4, some 60), (5, some 61), (6, some 62), (7, some 63), (8, some 64), (9, some 65), (10, some 66), (11, some 67), (12, some 68), (13, some 69), (14, some 70), (15, some 71), (16, some 72), (17, some 73), (18, some 74), (19, some 75), (20, some 76), (21, some 77), (22, some 78), (23, some 79), (24, some 80), (25, some 81), (26, some 82), (27, some 83), (28, some 84), (29, some 85), (30, some 86), (31, some 87), (32, some 88), (33, some 89), (34, some 90), (35, some 91)] ?_
    repeat (first | refine drp HT ?_ | (refine drq_pure HT (v := undef) (a' := ?_) rfl rfl (by kernel_rfl) (fun _ _ _ h => h) (.inr ⟨by rfl, rfl⟩) ?_ ?_; rotate_left; (simp only [Act.put, ptn]; rfl)))
    refine drq_end ?_
    refine done_ (done_of HT.out (by kernel_rfl)) ?_
    (try clear F)
    have F := HS.boxes; simp only [bxn] at F
    obtain rfl := zsome H
    go_wp2
    go_ret
    exact HS.pk
   subst c10
   replace H := zbind H; obtain ⟨t13, ht13, H⟩ := H
   replace H := znifb H; rcases H with ⟨c16, H⟩ | ⟨c16, H⟩
   case inl =>
    subst c16
    refine dr_start [] HS #[false, false, false, false, false, false, false, false, false, false, false, false, false, false, false, false, false, false, false, false, false, false, false, false, false, false, false, false, false, false, false, false, false, false, false, false] (by kernel_rfl) rfl rfl impl_CrlOk.tT6 (fun w46 HT HS HH => ?_)
    (try clear F)
    refine drq_of [(0, some 56), (1, some 57)] ?_
    repeat (first | refine drp HT ?_ | refine drt HT HH ?_)
    refine drq_end ?_
    refine dr1 2 HT fun K hK => ?_
    refine go_cl HS (impl_timeOk.calls ht7.out) Tryz.func80 ?_; clear HS; intro wt7 HS F
    refine nrm 58 hK ⟨_, HS⟩ (fun HH => ?_); clear hK K
    refine drq_of [(3, some 59), (4, some 60), (5, some 61), (6, some 62)] ?_
    repeat (first | refine drp HT ?_ | refine drt HT HH ?_)
    refine drq_end ?_
    refine dr1 7 HT fun K hK => ?_
    refine go_cl HS (impl_within.calls ht13.out) Tryz.func79 ?_; clear HS; intro wt13 HS F
    refine nrm 63 hK ⟨_, HS⟩ (fun HH => ?_); clear hK K
    refine drq_of [(8, some 64), (9, some 65), (10, some 66), (11, some 67), (12, some 68), (13, some 69), (14, some 70), (15, some 71), (16, some 72), (17, some 73), (18, some 74), (19, some 75), (20, some 76), (21, some 77), (22, some 78), (23, some 79), (24, some 80), (25, some 81), (26, some 82), (27, some 83), (28, some 84), (29, some 85), (30, some 86), (31, some 87), (32, some 88), (33, some 89), (34, some 90), (35, some 91)] ?_
    repeat (first | refine drp HT ?_ | (refine drq_pure HT (v := undef) (a' := ?_) rfl rfl (by kernel_rfl) (fun _ _ _ h => h) (.inr ⟨by rfl, rfl⟩) ?_ ?_; rotate_left; (simp only [Act.put, ptn]; rfl)))
    refine drq_end ?_
    refine done_ (done_of HT.out (by kernel_rfl)) ?_
    (try clear F)
    have F := HS.boxes; simp only [bxn] at F
    obtain rfl := zsome H
    go_wp2
    go_ret
    exact HS.pk
   subst c16
   replace H := znif' H; rcases H with ⟨c20, H⟩ | ⟨c20, H⟩
   case inl =>
    have c20a := beq_eq_false_iff_ne.mpr c20
    have c20b := bne_iff_ne.mpr c20
    clear c20
    replace H := znif H; rcases H with ⟨c24, H⟩ | ⟨c24, H⟩
    case inl =>
     refine dr_start [] HS #[false, false, false, false, false, false, false, false, false, false, false, false, false, false, false, false, false, false, false, false, false, false, false, false, false, false, false, false, false, false, false, false, false, false, false, false] (by kernel_rfl) rfl rfl impl_CrlOk.tT6 (fun w44 HT HS HH => ?_)
     (try clear F)
     refine drq_of [(0, some 56), (1, some 57)] ?_
     repeat (first | refine drp HT ?_ | refine drt HT HH ?_)
     refine drq_end ?_
     refine dr1 2 HT fun K hK => ?_
     refine go_cl HS (impl_timeOk.calls ht7.out) Tryz.func80 ?_; clear HS; intro wt7 HS F
     refine nrm 58 hK ⟨_, HS⟩ (fun HH => ?_); clear hK K
     refine drq_of [(3, some 59), (4, some 60), (5, some 61), (6, some 62)] ?_
     repeat (first | refine drp HT ?_ | refine drt HT HH ?_)
     refine drq_end ?_
     refine dr1 7 HT fun K hK => ?_
     refine go_cl HS (impl_within.calls ht13.out) Tryz.func79 ?_; clear HS; intro wt13 HS F
     refine nrm 63 hK ⟨_, HS⟩ (fun HH => ?_); clear hK K
     refine drq_of [(8, some 64), (9, some 65), (10, some 66), (11, some 67), (12, some 68), (13, some 69), (14, some 70), (15, some 71), (16, some 72), (17, some 73), (18, some 74), (19, some 75), (20, some 76), (21, some 77), (22, some 78), (23, some 79), (24, some 80), (25, some 81), (26, some 82), (27, some 83), (28, some 84), (29, some 85), (30, some 86), (31, some 87), (32, some 88), (33, some 89), (34, some 90), (35, some 91)] ?_
     repeat (first | refine drp HT ?_ | (refine drq_pure HT (v := undef) (a' := ?_) rfl rfl (by kernel_rfl) (fun _ _ _ h => h) (.inr ⟨by rfl, rfl⟩) ?_ ?_; rotate_left; (simp only [Act.put, ptn]; rfl)) | refine drt HT HH ?_)
     refine drq_end ?_
     refine done_ (done_of HT.out (by kernel_rfl)) ?_
     (try clear F)
     have F := HS.boxes; simp only [bxn] at F
     go_wp2
     go_roundg k22
     case measure => have := HKk22.out; omega
     case rel => exact ⟨_, rfl, H, ⟨by have := HKk22.out; omega⟩, HS.pick [0] (by decide) (by rfl)⟩
    replace H := zgo H; obtain ⟨c29, H⟩ := H
    replace H := zgo H; obtain ⟨c30, H⟩ := H
    obtain ⟨ad32, hq32, e32_0, e32_1⟩ := at_T238 gp0 (wrap64 (x23 - 1)) (of_eq_true c29) (of_eq_true c30); obtain rfl := Option.some.inj hq32
    refine dr_start [] HS #[false, false, false, false, false, false, false, false, false, false, false, false, false, false, false, false, false, false, false, false, false, false, false, false, false, false, false, false, false, false, false, false, false, false, false, false] (by kernel_rfl) rfl rfl impl_CrlOk.tT6 (fun w41 HT HS HH => ?_)
    (try clear F)
    refine drq_of [(0, some 56), (1, some 57)] ?_
    repeat (first | refine drp HT ?_ | refine drt HT HH ?_)
    refine drq_end ?_
    refine dr1 2 HT fun K hK => ?_
    refine go_cl HS (impl_timeOk.calls ht7.out) Tryz.func80 ?_; clear HS; intro wt7 HS F
    refine nrm 58 hK ⟨_, HS⟩ (fun HH => ?_); clear hK K
    refine drq_of [(3, some 59), (4, some 60), (5, some 61), (6, some 62)] ?_
    repeat (first | refine drp HT ?_ | refine drt HT HH ?_)
    refine drq_end ?_
    refine dr1 7 HT fun K hK => ?_
    refine go_cl HS (impl_within.calls ht13.out) Tryz.func79 ?_; clear HS; intro wt13 HS F
    refine nrm 63 hK ⟨_, HS⟩ (fun HH => ?_); clear hK K
    refine drq_of [(8, some 64), (9, some 65), (10, some 66), (11, some 67), (12, some 68), (13, some 69), (14, some 70), (15, some 71), (16, some 72), (17, some 73), (18, some 74), (19, some 75), (20, some 76), (21, some 77), (22, some 78), (23, some 79), (24, some 80), (25, some 81), (26, some 82), (27, some 83), (28, some 84), (29, some 85)] ?_
    repeat (first | refine drp HT ?_ | (refine drq_pure HT (v := undef) (a' := ?_) rfl rfl (by kernel_rfl) (fun _ _ _ h => h) (.inr ⟨by rfl, rfl⟩) ?_ ?_; rotate_left; (simp only [Act.put, ptn]; rfl)) | refine drt HT HH ?_)
    refine drq_end ?_
    refine dr_take 30 (some 86) HT HH (v := ?_) (a' := ?_) rfl rfl (by kernel_rfl) (fun _ _ _ h => h) (.inl ⟨by rfl, ?_⟩) ?_ ?_
    rotate_left
    · rintro w' ⟨rs', HS'⟩; have e32_0 := HS'.keepc e32_0; have e32_1 := HS'.keepc e32_1; go_simp; with_reducible rfl
    rotate_left
    · simp only [Act.put, ptn]; rfl
    refine drq_of [(31, some 87), (32, some 88), (33, some 89), (34, some 90), (35, some 91)] ?_
    repeat (first | refine drp HT ?_ | refine drt HT HH ?_)
    refine drq_end ?_
    refine done_ (done_of HT.out (by kernel_rfl)) ?_
    (try clear F)
    have F := HS.boxes; simp only [bxn] at F
    replace H := zif H; rcases H with ⟨c43, H⟩ | ⟨c43, H⟩
    case inl =>
     (try simp only [c43, dcn])
     obtain rfl := zsome H
     go_wp2
     go_ret
     exact HS.pk
    (try simp only [c43, dcn])
    go_wp2
    go_roundg k22
    case measure => have := HKk22.out; omega
    case rel => exact ⟨_, rfl, H, ⟨by have := HKk22.out; omega⟩, HS.pick [0] (by decide) (by rfl)⟩
   have c20a := beq_iff_eq.mpr c20
   have c20b := bne_eq_false_iff_eq.mpr c20
   clear c20
   replace H := zif' H; rcases H with ⟨c21, H⟩ | ⟨c21, H⟩
   case inl =>
    have c21a := beq_iff_eq.mpr c21
    have c21b := bne_eq_false_iff_eq.mpr c21
    clear c21
    refine dr_start [] HS #[false, false, false, false, false, false, false, false, false, false, false, false, false, false, false, false, false, false, false, false, false, false, false, false, false, false, false, false, false, false, false, false, false, false, false, false] (by kernel_rfl) rfl rfl impl_CrlOk.tT6 (fun w34 HT HS HH => ?_)
    (try clear F)
    refine drq_of [(0, some 56), (1, some 57)] ?_
    repeat (first | refine drp HT ?_ | refine drt HT HH ?_)
    refine drq_end ?_
    refine dr1 2 HT fun K hK => ?_
    refine go_cl HS (impl_timeOk.calls ht7.out) Tryz.func80 ?_; clear HS; intro wt7 HS F
    refine nrm 58 hK ⟨_, HS⟩ (fun HH => ?_); clear hK K
    refine drq_of [(3, some 59), (4, some 60), (5, some 61), (6, some 62)] ?_
    repeat (first | refine drp HT ?_ | refine drt HT HH ?_)
    refine drq_end ?_
    refine dr1 7 HT fun K hK => ?_
    refine go_cl HS (impl_within.calls ht13.out) Tryz.func79 ?_; clear HS; intro wt13 HS F
    refine nrm 63 hK ⟨_, HS⟩ (fun HH => ?_); clear hK K
    refine drq_of [(8, some 64), (9, some 65), (10, some 66), (11, some 67), (12, some 68), (13, some 69), (14, some 70), (15, some 71), (16, some 72), (17, some 73), (18, some 74), (19, some 75), (20, some 76), (21, some 77), (22, some 78), (23, some 79), (24, some 80), (25, some 81), (26, some 82), (27, some 83), (28, some 84), (29, some 85), (30, some 86), (31, some 87), (32, some 88), (33, some 89), (34, some 90), (35, some 91)] ?_
    repeat (first | refine drp HT ?_ | (refine drq_pure HT (v := undef) (a' := ?_) rfl rfl (by kernel_rfl) (fun _ _ _ h => h) (.inr ⟨by rfl, rfl⟩) ?_ ?_; rotate_left; (simp only [Act.put, ptn]; rfl)) | refine drt HT HH ?_)
    refine drq_end ?_
    refine done_ (done_of HT.out (by kernel_rfl)) ?_
    (try clear F)
    have F := HS.boxes; simp only [bxn] at F
    obtain rfl := zsome H
    go_wp2
    go_ret
    exact HS.pk
   have c21a := beq_eq_false_iff_ne.mpr c21
   have c21b := bne_iff_ne.mpr c21
   clear c21
   replace H := znif H; rcases H with ⟨c24, H⟩ | ⟨c24, H⟩
   case inl =>
    refine dr_start [] HS #[false, false, false, false, false, false, false, false, false, false, false, false, false, false, false, false, false, false, false, false, false, false, false, false, false, false, false, false, false, false, false, false, false, false, false, false] (by kernel_rfl) rfl rfl impl_CrlOk.tT6 (fun w39 HT HS HH => ?_)
    (try clear F)
    refine drq_of [(0, some 56), (1, some 57)] ?_
    repeat (first | refine drp HT ?_ | refine drt HT HH ?_)
    refine drq_end ?_
    refine dr1 2 HT fun K hK => ?_
    refine go_cl HS (impl_timeOk.calls ht7.out) Tryz.func80 ?_; clear HS; intro wt7 HS F
    refine nrm 58 hK ⟨_, HS⟩ (fun HH => ?_); clear hK K
    refine drq_of [(3, some 59), (4, some 60), (5, some 61), (6, some 62)] ?_
    repeat (first | refine drp HT ?_ | refine drt HT HH ?_)
    refine drq_end ?_
    refine dr1 7 HT fun K hK => ?_
    refine go_cl HS (impl_within.calls ht13.out) Tryz.func79 ?_; clear HS; intro wt13 HS F
    refine nrm 63 hK ⟨_, HS⟩ (fun HH => ?_); clear hK K
    refine drq_of [(8, some 64), (9, some 65), (10, some 66), (11, some 67), (12, some 68), (13, some 69), (14, some 70), (15, some 71), (16, some 72), (17, some 73), (18, some 74), (19, some 75), (20, some 76), (21, some 77), (22, some 78), (23, some 79), (24, some 80), (25, some 81), (26, some 82), (27, some 83), (28, some 84), (29, some 85), (30, some 86), (31, some 87), (32, some 88), (33, some 89), (34, some 90), (35, some 91)] ?_
    repeat (first | refine drp HT ?_ | (refine drq_pure HT (v := undef) (a' := ?_) rfl rfl (by kernel_rfl) (fun _ _ _ h => h) (.inr ⟨by rfl, rfl⟩) ?_ ?_; rotate_left; (simp only [Act.put, ptn]; rfl)) | refine drt HT HH ?_)
    refine drq_end ?_
    refine done_ (done_of HT.out (by kernel_rfl)) ?_
    (try clear F)
    have F := HS.boxes; simp only [bxn] at F
    go_wp2
    go_roundg k22
    case measure => have := HKk22.out; omega
    case rel => exact ⟨_, rfl, H, ⟨by have := HKk22.out; omega⟩, HS.pick [0] (by decide) (by rfl)⟩
   replace H := zgo H; obtain ⟨c29, H⟩ := H
   replace H := zgo H; obtain ⟨c30, H⟩ := H
   obtain ⟨ad32, hq32, e32_0, e32_1⟩ := at_T238 gp0 (wrap64 (x23 - 1)) (of_eq_true c29) (of_eq_true c30); obtain rfl := Option.some.inj hq32
   refine dr_start [] HS #[false, false, false, false, false, false, false, false, false, false, false, false, false, false, false, false, false, false, false, false, false, false, false, false, false, false, false, false, false, false, false, false, false, false, false, false] (by kernel_rfl) rfl rfl impl_CrlOk.tT6 (fun w36 HT HS HH => ?_)
   (try clear F)
   refine drq_of [(0, some 56), (1, some 57)] ?_
   repeat (first | refine drp HT ?_ | refine drt HT HH ?_)
   refine drq_end ?_
   refine dr1 2 HT fun K hK => ?_
   refine go_cl HS (impl_timeOk.calls ht7.out) Tryz.func80 ?_; clear HS; intro wt7 HS F
   refine nrm 58 hK ⟨_, HS⟩ (fun HH => ?_); clear hK K
   refine drq_of [(3, some 59), (4, some 60), (5, some 61), (6, some 62)] ?_
   repeat (first | refine drp HT ?_ | refine drt HT HH ?_)
   refine drq_end ?_
   refine dr1 7 HT fun K hK => ?_
   refine go_cl HS (impl_within.calls ht13.out) Tryz.func79 ?_; clear HS; intro wt13 HS F
   refine nrm 63 hK ⟨_, HS⟩ (fun HH => ?_); clear hK K
   refine drq_of [(8, some 64), (9, some 65), (10, some 66), (11, some 67), (12, some 68), (13, some 69), (14, some 70), (15, some 71), (16, some 72), (17, some 73), (18, some 74), (19, some 75), (20, some 76), (21, some 77), (22, some 78), (23, some 79), (24, some 80), (25, some 81), (26, some 82), (27, some 83), (28, some 84), (29, some 85)] ?_
   repeat (first | refine drp HT ?_ | refine drt HT HH ?_)
   refine drq_end ?_
   refine dr_take 30 (some 86) HT HH (v := ?_) (a' := ?_) rfl rfl (by kernel_rfl) (fun _ _ _ h => h) (.inl ⟨by rfl, ?_⟩) ?_ ?_
   rotate_left
   · rintro w' ⟨rs', HS'⟩; have e32_0 := HS'.keepc e32_0; have e32_1 := HS'.keepc e32_1; go_simp; with_reducible rfl
   rotate_left
   · simp only [Act.put, ptn]; rfl
   refine drq_of [(31, some 87), (32, some 88), (33, some 89), (34, some 90), (35, some 91)] ?_
   repeat (first | refine drp HT ?_ | refine drt HT HH ?_)
   refine drq_end ?_
   refine done_ (done_of HT.out (by kernel_rfl)) ?_
   (try clear F)
   have F := HS.boxes; simp only [bxn] at F
   replace H := zif H; rcases H with ⟨c38, H⟩ | ⟨c38, H⟩
   case inl =>
    (try simp only [c38, dcn])
    obtain rfl := zsome H
    go_wp2
    go_ret
    exact HS.pk
   (try simp only [c38, dcn])
   go_wp2
   go_roundg k22
   case measure => have := HKk22.out; omega
   case rel => exact ⟨_, rfl, H, ⟨by have := HKk22.out; omega⟩, HS.pick [0] (by decide) (by rfl)⟩
def impl_crlItem_1.f (k : Nat) (a0 : S238) : Option (S182) := ((impl_IntItem.f k a0.f0).bind fun t3 => ((impl_IntItem.f k a0.f1).bind fun t5 => ((impl_ListItem.f k ([t3, t5] : List S182)).bind fun t9 => (some (⟨t9.f0, t9.f1, t9.f2⟩ : S182)))))
def impl_crlItem_1.T1 : TT := (true, [([], []), ([0], [0]), ([1], [1]), ([], []), ([3], [3]), ([4, 2], [4]), ([2, 5], [2, 5]), ([6, 5], [6]), ([7, 7, 0, 1, 2, 3, 4, 5, 6, 7], [7])])
theorem impl_crlItem_1.tT1 : rtab .any (opsOf Tryz.f207 1) = impl_crlItem_1.T1 := by kernel_rfl
theorem impl_crlItem_1.calls {k : Nat} {a0 : S238} {r : S182} {w : World} (h : impl_crlItem_1.f k a0 = some r) :
    Calls Tryz.prog 207 #[.agg #[.int .i64 a0.f0, .int .i64 a0.f1]] w (fun e w' => ∃ v0_ : Value, e = .returned (.agg #[.int .i64 r.f0, .string r.f1, v0_]) ∧ Hp noFP w w' [.own (Zd.slice 182 q182) r.f2 [v0_]]) := by
 have HS := Hp.start w
 have H := Aside0.mk h
 clear h
 unfold impl_crlItem_1.f at H
 go_enter Tryz.func207, Tryz.ntmps207
 go_wp2_with (first | ((with_reducible refine gd 1 rfl ?_); refine ev_bx HS ?_; clear HS; intro g1 w1 HS F) | ((with_reducible refine gd 2 rfl ?_); refine ev_bx HS ?_; clear HS; intro g2 w2 HS F))
 replace H := zbind H; obtain ⟨t3, ht3, H⟩ := H
 replace H := zbind H; obtain ⟨t5, ht5, H⟩ := H
 replace H := zbind H; obtain ⟨t9, ht9, H⟩ := H
 refine dr_start [8] HS #[false, false, false, false, false, false, false, false, false] (by kernel_rfl) rfl rfl impl_crlItem_1.tT1 (fun w6 HT HS HH => ?_)
 (try clear F)
 refine drq_of [(0, some 3), (1, some 4), (3, some 6), (4, some 7)] ?_
 repeat (first | refine drp HT ?_ | refine drt HT HH ?_)
 refine drq_end ?_
 refine dr1 2 HT fun K hK => ?_
 refine go_cl1 HS (impl_IntItem.calls ht3.out) Tryz.func202 ?_; clear HS; intro v4 wt3 HS F; obtain ⟨B4, d4, rfl, m4⟩ := HS.form 2 rfl
 refine nrm 5 hK ⟨_, HS⟩ (fun HH => ?_); clear hK K
 refine dr1 5 HT fun K hK => ?_
 refine go_cl1 HS (impl_IntItem.calls ht5.out) Tryz.func202 ?_; clear HS; intro v7 wt5 HS F; obtain ⟨B7, d7, rfl, m7⟩ := HS.form 3 rfl
 refine nrm 8 hK ⟨_, HS⟩ (fun HH => ?_); clear hK K
 refine dr1 6 HT fun K hK => ?_
 refine if_li q182 [2, 3] ([t3, t5] : List S182) ([.int .i64 t3.f0, .string t3.f1, .slice B4 t3.f2.length d4] ++ ([.int .i64 t5.f0, .string t5.f1, .slice B7 t5.f2.length d7] ++ [])) HS (MadeL.cons (js1 := [2]) (c := [.int .i64 t3.f0, .string t3.f1, .slice B4 t3.f2.length d4]) rfl (fun S hd hh => q182_pack (x := t3) hd (hh 2 (.own (Zd.slice 182 q182) t3.f2 [.slice B4 t3.f2.length d4]) rfl) (by decide)) (MadeL.cons (js1 := [3]) (c := [.int .i64 t5.f0, .string t5.f1, .slice B7 t5.f2.length d7]) rfl (fun S hd hh => q182_pack (x := t5) hd (hh 3 (.own (Zd.slice 182 q182) t5.f2 [.slice B7 t5.f2.length d7]) rfl) (by decide)) MadeL.nil (by decide)) (by decide)) ?_; clear HS; intro v8 w8 HS F; obtain ⟨B8, d8, rfl, m8⟩ := HS.formn 2 4 rfl rfl
 refine nrm 9 hK ⟨_, HS⟩ (fun HH => ?_); clear hK K
 refine dr1 7 HT fun K hK => ?_
 refine go_cl1 HS (impl_ListItem.calls ht9.out (HS.rd 4 rfl) m8) Tryz.func145 ?_; clear HS; intro v10 wt9 HS F; obtain ⟨B10, d10, rfl, m10⟩ := HS.form 5 rfl
 refine nrm 10 hK ⟨_, HS⟩ (fun HH => ?_); clear hK K
 refine dr_last 8 HT rfl (by kernel_rfl) (by decide) (fun K hK => ?_)
 refine if_st 1 0 HS (seg := [.int .i64 t9.f0, .string t9.f1, .slice B10 t9.f2.length d10]) ?_; clear HS; intro w11 HS F
 refine hK.out _ _ ?_
 clear hK K
 refine done_ (done_of HT.out (by kernel_rfl)) ?_
 (try clear F)
 have F := HS.boxes; simp only [bxn] at F
 obtain rfl := zsome H
 go_wp2
 exact bodyPost_ret (results_single rfl (.cell _ _ _ _ _ rfl (HS.boxAt (i := 1) rfl) Tryz.underlying182 rfl (by kernel_rfl) .nil)) rfl ⟨_, rfl, HS.pick [5] (by decide) (by rfl)⟩
def impl_Rev_0.l0 : Nat → (List S182) → Int → (List S238) → Option (S182)
  | 0, _, _, _ => none
  | k + 1, l26, x28, a0 => (if x28 < (a0.length : Int) then (if 0 ≤ x28 then (if x28 < (a0.length : Int) then ((impl_crlItem_1.f k (rd_T238 a0 x28)).bind fun t3 => (if l26.length + 1 ≤ 2932031007402 then (lets (l26 ++ ([t3] : List S182)) fun y10 => (impl_Rev_0.l0 k y10 (wrap64 (x28 + 1)) a0)) else none)) else none) else none) else (some (⟨48, (⟨#[]⟩ : ByteArray), l26⟩ : S182)))
def impl_Rev_0.f (k : Nat) (a0 : (List S238)) : Option (S182) := (impl_Rev_0.l0 k [] 0 a0)
def impl_Rev_0.T5 : TT := (true, [([], []), ([0], [0]), ([], []), ([], []), ([2, 3], [2, 3]), ([4], [4]), ([1, 5, 4], [1, 5]), ([0, 1, 2, 3, 4, 5, 6], []), ([7, 6, 6, 0, 1, 2, 3, 4, 5, 6], [6, 7])])
theorem impl_Rev_0.tT5 : rtab .any (opsOf Tryz.f208 5) = impl_Rev_0.T5 := by kernel_rfl
theorem impl_Rev_0.calls {k : Nat} {a0 : (List S238)} {Ap0 : Option Addr} {np0 cp0 : Nat} {r : S182} {w : World} (h : impl_Rev_0.f k a0 = some r) (gp0 : k238.C w Ap0 np0 a0) (lp0 : np0 ≤ cp0) :
    Calls Tryz.prog 208 #[.slice Ap0 np0 cp0, .func (.func 207) #[] #[]] w (fun e w' => ∃ v0_ : Value, e = .returned (.agg #[.int .i64 r.f0, .string r.f1, v0_]) ∧ Hp noFP w w' [.own (Zd.slice 182 q182) r.f2 [v0_]]) := by
 obtain rfl := C_len gp0
 have HS := Hp.start w
 have H := Aside0.mk h
 clear h
 unfold impl_Rev_0.f at H
 go_enter Tryz.func208, Tryz.ntmps208
 go_wp2_with (first | ((with_reducible refine gd 4 rfl ?_); refine ev_bx HS ?_; clear HS; intro g4 w4 HS F) | ((with_reducible refine gd 5 rfl ?_); refine ev_bx HS ?_; clear HS; intro g5 w5 HS F) | ((with_reducible refine gate_store (p := 5) rfl ?_); refine ev_st 1 0 HS (seg := [.int .i64 48, .string (⟨#[]⟩ : ByteArray), .slice none 0 0]) ?_; clear HS; intro w5 HS F))
 replace HS := HS.nil 182 q182
 go_loopg [11] k (fun kq v_11 w' => ∃ (l26 : List S182) (v27 : Value) (x28 : Int), v_11 = .int .i64 x28 ∧ Aside0 (impl_Rev_0.l0 kq l26 x28 a0 = some r) ∧ Aside0 (kq ≤ k) ∧ Hp noFP w w' [.box g4 [.int .i64 0, .string (⟨#[]⟩ : ByteArray), .slice none 0 0] 182, .box g5 [.int .i64 48, .string (⟨#[]⟩ : ByteArray), v27] 182, .own (Zd.slice 182 q182) l26 [v27]])
 case atStart => exact ⟨_, _, _, rfl, H, ⟨Nat.le_refl _⟩, HS⟩
 case round =>
  clear HS H; (try clear F)
  obtain ⟨l26, v27, x28, rfl, H, HKk25, HS⟩ := hrel
  obtain ⟨B27, d27, rfl, m27⟩ := HS.form 2 rfl
  have F := HS.boxes; simp only [bxn] at F
  cases gk with
  | zero => exact absurd H.out (by simp [impl_Rev_0.l0])
  | succ k25 =>
   simp only [impl_Rev_0.l0] at H
   replace H := znif H; rcases H with ⟨c30, H⟩ | ⟨c30, H⟩
   case inl =>
    obtain rfl := zsome H
    go_wp2_with ((with_reducible refine gate_store (p := 4) rfl ?_); refine ev_st 0 0 HS (seg := [.int .i64 48, .string (⟨#[]⟩ : ByteArray), .slice B27 l26.length d27]) ?_; clear HS; intro w41 HS F)
    exact bodyPost_ret (results_single rfl (.cell _ _ _ _ _ rfl (HS.boxAt (i := 0) rfl) Tryz.underlying182 rfl (by kernel_rfl) .nil)) rfl ⟨_, rfl, HS.pick [2] (by decide) (by rfl)⟩
   replace H := zgo H; obtain ⟨c31, H⟩ := H
   replace H := zgo H; obtain ⟨c32, H⟩ := H
   obtain ⟨ad33, rfl, e33_0, e33_1⟩ := at_T238 gp0 x28 (of_eq_true c31) (of_eq_true c32)
   have e33_0_33 := HS.keepc e33_0
   have e33_1_33 := HS.keepc e33_1
   go_wp2_with (first | ((with_reducible refine gd 7 rfl ?_); refine ev_bx HS ?_; clear HS; intro g7 w7 HS F) | ((with_reducible refine gate_store (p := 7) rfl ?_); refine ev_st 3 0 HS (seg := [.int .i64 ((rd_T238 a0 x28).f0), .int .i64 ((rd_T238 a0 x28).f1)]) ?_; clear HS; intro w36 HS F))
   replace H := zbind H; obtain ⟨t3, ht3, H⟩ := H
   replace H := zgo H; obtain ⟨c9, H⟩ := H
   replace H := zlets H; obtain ⟨y10, e_y10, H⟩ := H
   refine dr_start2 [.box g4 [.int .i64 0, .string (⟨#[]⟩ : ByteArray), .slice none 0 0] 182, .box g5 [.int .i64 48, .string (⟨#[]⟩ : ByteArray), .slice B27 l26.length d27] 182, .emp, .box g7 [.int .i64 ((rd_T238 a0 x28).f0), .int .i64 ((rd_T238 a0 x28).f1)] 238] [8] HS (HS.arr [some 0, some 1, none, some 3] (by decide)) #[false, false, false, false, false, false, false, false, false] (by kernel_rfl) rfl rfl impl_Rev_0.tT5 (fun w39 HT HS HH => ?_)
   (try clear F)
   refine drq_of [(0, some 15), (1, some 16), (2, some 17), (3, some 18)] ?_
   repeat (first | refine drp HT ?_ | refine drt HT HH ?_)
   refine drq_end ?_
   refine dr1 4 HT fun K hK => ?_
   refine if_wp (by rfl) ?_; refine wp_callv Tryz.func207 (by kernel_rfl) rfl #[.agg #[.int .i64 ((rd_T238 a0 x28).f0), .int .i64 ((rd_T238 a0 x28).f1)]] #[.agg #[.int .i64 ((rd_T238 a0 x28).f0), .int .i64 ((rd_T238 a0 x28).f1)]] rfl rfl (by simp only [mpn]; rfl) (by first | rfl | simp) ?_; refine (impl_crlItem_1.calls ht3.out).mono ?_; rintro _ wt3 ⟨v6, rfl, HQ⟩; refine ⟨_, rfl, ?_⟩; replace HS := HS.call HQ; clear HQ; (try clear F); obtain ⟨B6, d6, rfl, m6⟩ := HS.form 4 rfl
   (try simp only [hpn, hpm] at HS)
   have F := HS.boxes; simp only [bxn] at F
   refine hK.out _ _ ⟨[], HS.arr [some 0, some 1, none, some 3] (by decide)⟩ (fun HH => ?_)
   clear hK K
   refine norm_ (a' := ?_) ?_ ?_
   rotate_left
   · show Act.put _ (some 19) _ = _; simp only [Act.put, ptn]; rfl
   refine dr1 5 HT fun K hK => ?_
   refine if_li q182 [4] ([t3] : List S182) ([.int .i64 t3.f0, .string t3.f1, .slice B6 t3.f2.length d6] ++ []) HS (MadeL.cons (js1 := [4]) (c := [.int .i64 t3.f0, .string t3.f1, .slice B6 t3.f2.length d6]) rfl (fun S hd hh => q182_pack (x := t3) hd (hh 4 (.own (Zd.slice 182 q182) t3.f2 [.slice B6 t3.f2.length d6]) rfl) (by decide)) MadeL.nil (by decide)) ?_; clear HS; intro v8 w8 HS F; obtain ⟨B8, d8, rfl, m8⟩ := HS.formn 1 5 rfl rfl
   refine hK.out _ _ ⟨[], HS.arr [some 0, some 1, none, some 3] (by decide)⟩ (fun HH => ?_)
   clear hK K
   refine norm_ (a' := ?_) ?_ ?_
   rotate_left
   · show Act.put _ (some 20) _ = _; simp only [Act.put, ptn]; rfl
   refine dr1 6 HT fun K hK => ?_
   refine wp_ap q182 2 5 HS rfl rfl Tryz.underlying180 info182 (of_eq_true c9) ?_; clear HS; intro v10 w10 HS; rw [← e_y10.out] at HS; obtain ⟨B10, d10, rfl, m10⟩ := HS.form 6 rfl
   (try simp only [hpn, hpm] at HS)
   have F := HS.boxes; simp only [bxn] at F
   refine hK.out _ _ ⟨[], HS.arr [some 0, some 1, none, some 3] (by decide)⟩ (fun HH => ?_)
   clear hK K
   refine norm_ (a' := ?_) ?_ ?_
   rotate_left
   · show Act.put _ (some 21) _ = _; simp only [Act.put, ptn]; rfl
   refine drq_of [(7, some 22)] ?_
   repeat (refine drp HT ?_)
   refine drq_end ?_
   refine dr_last 8 HT rfl (by kernel_rfl) (by decide) (fun K hK => ?_)
   refine if_st 1 2 HS (seg := [.slice B10 y10.length d10]) ?_; clear HS; intro w12 HS F
   refine hK.out _ _ ?_
   clear hK K
   refine done_ (done_of HT.out (by kernel_rfl)) ?_
   (try clear F)
   have F := HS.boxes; simp only [bxn] at F
   go_wp2
   go_roundg k25
   case measure => have := HKk25.out; omega
   case rel => exact ⟨_, _, _, rfl, H, ⟨by have := HKk25.out; omega⟩, HS.pick [0, 1, 6] (by decide) (by rfl)⟩
def impl_crlItem.f (k : Nat) (a0 : S81) : Option (S182) := ((impl_TextItem.f a0.f0).bind fun t7 => ((impl_IntItem.f k a0.f1).bind fun t9 => ((impl_IntItem.f k a0.f2).bind fun t11 => ((impl_IntItem.f k a0.f3).bind fun t13 => ((impl_IntItem.f k a0.f4).bind fun t15 => ((impl_Rev_0.f k a0.f5).bind fun t17 => ((impl_ListItem.f k ([t7, t9, t11, t13, t15, t17] : List S182)).bind fun t20 => (some (⟨t20.f0, t20.f1, t20.f2⟩ : S182)))))))))
def impl_crlItem.T2 : TT := (true, [([], []), ([0], [0]), ([1], [1]), ([], []), ([3], [3]), ([4, 2], [4]), ([], []), ([6], [6]), ([7, 5], [7]), ([], []), ([9], [9]), ([10, 8], [10]), ([], []), ([12], [12]), ([13, 11], [13]), ([], []), ([15], [15]), ([], []), ([16, 17, 14], [16, 17]), ([2, 5, 8, 11, 14, 18], [2, 5, 8, 11, 14, 18]), ([19, 18], [19]), ([20, 20, 0, 1, 2, 3, 4, 5, 6, 7, 8, 9, 10, 11, 12, 13, 14, 15, 16, 17, 18, 19, 20], [20])])
theorem impl_crlItem.tT2 : rtab .any (opsOf Tryz.f149 2) = impl_crlItem.T2 := by kernel_rfl
theorem impl_crlItem.calls {k : Nat} {a0 : S81} {Ap0 : Option Addr} {np0 cp0 : Nat} {r : S182} {w : World} (h : impl_crlItem.f k a0 = some r) (gp0 : k238.C w Ap0 np0 a0.f5) (lp0 : np0 ≤ cp0) :
    Calls Tryz.prog 149 #[.agg #[.string a0.f0, .int .i64 a0.f1, .int .i64 a0.f2, .int .i64 a0.f3, .int .i64 a0.f4, .slice Ap0 np0 cp0, .string a0.f6]] w (fun e w' => ∃ v0_ : Value, e = .returned (.agg #[.int .i64 r.f0, .string r.f1, v0_]) ∧ Hp noFP w w' [.own (Zd.slice 182 q182) r.f2 [v0_]]) := by
 obtain rfl := C_len gp0
 have HS := Hp.start w
 have H := Aside0.mk h
 clear h
 unfold impl_crlItem.f at H
 go_enter Tryz.func149, Tryz.ntmps149
 go_wp2_with (first | ((with_reducible refine gd 1 rfl ?_); refine ev_bx HS ?_; clear HS; intro g1 w1 HS F) | ((with_reducible refine gd 2 rfl ?_); refine ev_bx HS ?_; clear HS; intro g2 w2 HS F))
 replace H := zbind H; obtain ⟨t7, ht7, H⟩ := H
 replace H := zbind H; obtain ⟨t9, ht9, H⟩ := H
 replace H := zbind H; obtain ⟨t11, ht11, H⟩ := H
 replace H := zbind H; obtain ⟨t13, ht13, H⟩ := H
 replace H := zbind H; obtain ⟨t15, ht15, H⟩ := H
 replace H := zbind H; obtain ⟨t17, ht17, H⟩ := H
 replace H := zbind H; obtain ⟨t20, ht20, H⟩ := H
 refine dr_start [21] HS #[false, false, false, false, false, false, false, false, false, false, false, false, false, false, false, false, false, false, false, false, false, false] (by kernel_rfl) rfl rfl impl_crlItem.tT2 (fun w6 HT HS HH => ?_)
 (try clear F)
 refine drq_of [(0, some 4), (1, some 5), (3, some 7), (4, some 8), (6, some 10), (7, some 11), (9, some 13), (10, some 14), (12, some 16), (13, some 17), (15, some 19), (16, some 20), (17, some 21)] ?_
 repeat (first | refine drp HT ?_ | refine drt HT HH ?_)
 refine drq_end ?_
 refine dr1 2 HT fun K hK => ?_
 refine go_cl1 HS (impl_TextItem.calls ht7.out) Tryz.func203 ?_; clear HS; intro v8 wt7 HS F; obtain ⟨B8, d8, rfl, m8⟩ := HS.form 2 rfl
 refine nrm 6 hK ⟨_, HS⟩ (fun HH => ?_); clear hK K
 refine dr1 5 HT fun K hK => ?_
 refine go_cl1 HS (impl_IntItem.calls ht9.out) Tryz.func202 ?_; clear HS; intro v10 wt9 HS F; obtain ⟨B10, d10, rfl, m10⟩ := HS.form 3 rfl
 refine nrm 9 hK ⟨_, HS⟩ (fun HH => ?_); clear hK K
 refine dr1 8 HT fun K hK => ?_
 refine go_cl1 HS (impl_IntItem.calls ht11.out) Tryz.func202 ?_; clear HS; intro v12 wt11 HS F; obtain ⟨B12, d12, rfl, m12⟩ := HS.form 4 rfl
 refine nrm 12 hK ⟨_, HS⟩ (fun HH => ?_); clear hK K
 refine dr1 11 HT fun K hK => ?_
 refine go_cl1 HS (impl_IntItem.calls ht13.out) Tryz.func202 ?_; clear HS; intro v14 wt13 HS F; obtain ⟨B14, d14, rfl, m14⟩ := HS.form 5 rfl
 refine nrm 15 hK ⟨_, HS⟩ (fun HH => ?_); clear hK K
 refine dr1 14 HT fun K hK => ?_
 refine go_cl1 HS (impl_IntItem.calls ht15.out) Tryz.func202 ?_; clear HS; intro v16 wt15 HS F; obtain ⟨B16, d16, rfl, m16⟩ := HS.form 6 rfl
 refine nrm 18 hK ⟨_, HS⟩ (fun HH => ?_); clear hK K
 refine dr1 18 HT fun K hK => ?_
 refine go_cl1 HS (impl_Rev_0.calls ht17.out (HS.ro gp0) lp0) Tryz.func208 ?_; clear HS; intro v18 wt17 HS F; obtain ⟨B18, d18, rfl, m18⟩ := HS.form 7 rfl
 refine nrm 22 hK ⟨_, HS⟩ (fun HH => ?_); clear hK K
 refine dr1 19 HT fun K hK => ?_
 refine if_li q182 [2, 3, 4, 5, 6, 7] ([t7, t9, t11, t13, t15, t17] : List S182) ([.int .i64 t7.f0, .string t7.f1, .slice B8 t7.f2.length d8] ++ ([.int .i64 t9.f0, .string t9.f1, .slice B10 t9.f2.length d10] ++ ([.int .i64 t11.f0, .string t11.f1, .slice B12 t11.f2.length d12] ++ ([.int .i64 t13.f0, .string t13.f1, .slice B14 t13.f2.length d14] ++ ([.int .i64 t15.f0, .string t15.f1, .slice B16 t15.f2.length d16] ++ ([.int .i64 t17.f0, .string t17.f1, .slice B18 t17.f2.length d18] ++ [])))))) HS (MadeL.cons (js1 := [2]) (c := [.int .i64 t7.f0, .string t7.f1, .slice B8 t7.f2.length d8]) rfl (fun S hd hh => q182_pack (x := t7) hd (hh 2 (.own (Zd.slice 182 q182) t7.f2 [.slice B8 t7.f2.length d8]) rfl) (by decide)) (MadeL.cons (js1 := [3]) (c := [.int .i64 t9.f0, .string t9.f1, .slice B10 t9.f2.length d10]) rfl (fun S hd hh => q182_pack (x := t9) hd (hh 3 (.own (Zd.slice 182 q182) t9.f2 [.slice B10 t9.f2.length d10]) rfl) (by decide)) (MadeL.cons (js1 := [4]) (c := [.int .i64 t11.f0, .string t11.f1, .slice B12 t11.f2.length d12]) rfl (fun S hd hh => q182_pack (x := t11) hd (hh 4 (.own (Zd.slice 182 q182) t11.f2 [.slice B12 t11.f2.length d12]) rfl) (by decide)) (MadeL.cons (js1 := [5]) (c := [.int .i64 t13.f0, .string t13.f1, .slice B14 t13.f2.length d14]) rfl (fun S hd hh => q182_pack (x := t13) hd (hh 5 (.own (Zd.slice 182 q182) t13.f2 [.slice B14 t13.f2.length d14]) rfl) (by decide)) (MadeL.cons (js1 := [6]) (c := [.int .i64 t15.f0, .string t15.f1, .slice B16 t15.f2.length d16]) rfl (fun S hd hh => q182_pack (x := t15) hd (hh 6 (.own (Zd.slice 182 q182) t15.f2 [.slice B16 t15.f2.length d16]) rfl) (by decide)) (MadeL.cons (js1 := [7]) (c := [.int .i64 t17.f0, .string t17.f1, .slice B18 t17.f2.length d18]) rfl (fun S hd hh => q182_pack (x := t17) hd (hh 7 (.own (Zd.slice 182 q182) t17.f2 [.slice B18 t17.f2.length d18]) rfl) (by decide)) MadeL.nil (by decide)) (by decide)) (by decide)) (by decide)) (by decide)) (by decide)) ?_; clear HS; intro v19 w19 HS F; obtain ⟨B19, d19, rfl, m19⟩ := HS.formn 6 8 rfl rfl
 refine nrm 23 hK ⟨_, HS⟩ (fun HH => ?_); clear hK K
 refine dr1 20 HT fun K hK => ?_
 refine go_cl1 HS (impl_ListItem.calls ht20.out (HS.rd 8 rfl) m19) Tryz.func145 ?_; clear HS; intro v21 wt20 HS F; obtain ⟨B21, d21, rfl, m21⟩ := HS.form 9 rfl
 refine nrm 24 hK ⟨_, HS⟩ (fun HH => ?_); clear hK K
 refine dr_last 21 HT rfl (by kernel_rfl) (by decide) (fun K hK => ?_)
 refine if_st 1 0 HS (seg := [.int .i64 t20.f0, .string t20.f1, .slice B21 t20.f2.length d21]) ?_; clear HS; intro w22 HS F
 refine hK.out _ _ ?_
 clear hK K
 refine done_ (done_of HT.out (by kernel_rfl)) ?_
 (try clear F)
 have F := HS.boxes; simp only [bxn] at F
 obtain rfl := zsome H
 go_wp2
 exact bodyPost_ret (results_single rfl (.cell _ _ _ _ _ rfl (HS.boxAt (i := 1) rfl) Tryz.underlying182 rfl (by kernel_rfl) .nil)) rfl ⟨_, rfl, HS.pick [9] (by decide) (by rfl)⟩
def impl_CrlText.f (k : Nat) (a0 : S81) : Option (ByteArray × Bool) := ((impl_CrlOk.f k a0).bind fun t3 => (if t3 = true then ((impl_crlItem.f k a0).bind fun t8 => ((impl_bytesItem.f a0.f6).bind fun t10 => ((impl_ListItem.f k ([t8, t10] : List S182)).bind fun t13 => ((impl_ItemText.f k t13).bind fun t15 => (some (t15.1, t15.2)))))) else (some ((⟨#[]⟩ : ByteArray), false))))
def impl_CrlText.T3 : TT := (true, [([], []), ([0], [0]), ([], []), ([2], [2]), ([3, 1], [3]), ([1, 4], [1, 4]), ([5, 4], [5]), ([6, 6], [6]), ([7], [7]), ([7], [7]), ([8, 7, 0, 1, 2, 3, 4, 5, 6, 7, 8, 9], [8]), ([9, 10, 0, 1, 2, 3, 4, 5, 6, 7, 8, 9, 10], [9])])
theorem impl_CrlText.tT3 : rtab .any (opsOf Tryz.f66 3) = impl_CrlText.T3 := by kernel_rfl
theorem impl_CrlText.calls {k : Nat} {a0 : S81} {Ap0 : Option Addr} {np0 cp0 : Nat} {mG : Int} {r1 : ByteArray} {r2 : Bool} {w : World} (h : impl_CrlText.f k a0 = some (r1, r2)) (gp0 : k238.C w Ap0 np0 a0.f5) (lp0 : np0 ≤ cp0) (hgM : w.cell? ⟨0, 0, none⟩ = some (.int .i64 mG)) :
    Calls Tryz.prog 66 #[.agg #[.string a0.f0, .int .i64 a0.f1, .int .i64 a0.f2, .int .i64 a0.f3, .int .i64 a0.f4, .slice Ap0 np0 cp0, .string a0.f6]] w (fun e w' => e = .returned (.tuple #[.string r1, .bool r2]) ∧ Hp noFP w w' []) := by
 obtain rfl := C_len gp0
 have HS := Hp.start w
 have H := Aside0.mk h
 clear h
 unfold impl_CrlText.f at H
 go_enter Tryz.func66, Tryz.ntmps66
 replace H := zbind H; obtain ⟨t3, ht3, H⟩ := H
 go_upto_if 6 with (first | ((with_reducible refine gd 1 rfl ?_); refine ev_bx HS ?_; clear HS; intro g1 w1 HS F) | ((with_reducible refine gd 5 rfl ?_); refine ev_cl HS (impl_CrlOk.calls ht3.out (HS.ro gp0) lp0 (HS.keepc hgM)) Tryz.func148 ?_; clear HS; intro wt3 HS F))
 replace H := znifb H; rcases H with ⟨c5, H⟩ | ⟨c5, H⟩
 case inl =>
  subst c5
  (try simp only [dcn, dcu, dcf])
  obtain ⟨rfl, rfl⟩ := zsome2 H
  go_wp2
  exact bodyPost_ret (results_list (rs := [.tmp 2, .tmp 3]) rfl (by simp) (.tmp (.tmp .nil))) rfl ⟨rfl, HS.pick [] (by decide) (by rfl)⟩
 subst c5
 (try simp only [dcn, dcu, dcf])
 (try go_wp2)
 replace H := zbind H; obtain ⟨t8, ht8, H⟩ := H
 replace H := zbind H; obtain ⟨t10, ht10, H⟩ := H
 replace H := zbind H; obtain ⟨t13, ht13, H⟩ := H
 replace H := zbind H; obtain ⟨t15, ht15, H⟩ := H
 refine dr_start [] HS #[false, false, false, false, false, false, false, false, false, false, false, false] (by kernel_rfl) rfl rfl impl_CrlText.tT3 (fun w7 HT HS HH => ?_)
 (try clear F)
 refine drq_of [(0, some 7), (2, some 9), (3, some 10)] ?_
 repeat (first | refine drp HT ?_ | refine drt HT HH ?_)
 refine drq_end ?_
 refine dr1 1 HT fun K hK => ?_
 refine go_cl1 HS (impl_crlItem.calls ht8.out (HS.ro gp0) lp0) Tryz.func149 ?_; clear HS; intro v9 wt8 HS F; obtain ⟨B9, d9, rfl, m9⟩ := HS.form 1 rfl
 refine nrm 8 hK ⟨_, HS⟩ (fun HH => ?_); clear hK K
 refine dr1 4 HT fun K hK => ?_
 refine go_cl1 HS (impl_bytesItem.calls ht10.out) Tryz.func147 ?_; clear HS; intro v11 wt10 HS F; obtain ⟨B11, d11, rfl, m11⟩ := HS.form 2 rfl
 refine nrm 11 hK ⟨_, HS⟩ (fun HH => ?_); clear hK K
 refine dr1 5 HT fun K hK => ?_
 refine if_li q182 [1, 2] ([t8, t10] : List S182) ([.int .i64 t8.f0, .string t8.f1, .slice B9 t8.f2.length d9] ++ ([.int .i64 t10.f0, .string t10.f1, .slice B11 t10.f2.length d11] ++ [])) HS (MadeL.cons (js1 := [1]) (c := [.int .i64 t8.f0, .string t8.f1, .slice B9 t8.f2.length d9]) rfl (fun S hd hh => q182_pack (x := t8) hd (hh 1 (.own (Zd.slice 182 q182) t8.f2 [.slice B9 t8.f2.length d9]) rfl) (by decide)) (MadeL.cons (js1 := [2]) (c := [.int .i64 t10.f0, .string t10.f1, .slice B11 t10.f2.length d11]) rfl (fun S hd hh => q182_pack (x := t10) hd (hh 2 (.own (Zd.slice 182 q182) t10.f2 [.slice B11 t10.f2.length d11]) rfl) (by decide)) MadeL.nil (by decide)) (by decide)) ?_; clear HS; intro v12 w12 HS F; obtain ⟨B12, d12, rfl, m12⟩ := HS.formn 2 3 rfl rfl
 refine nrm 12 hK ⟨_, HS⟩ (fun HH => ?_); clear hK K
 refine dr1 6 HT fun K hK => ?_
 refine go_cl1 HS (impl_ListItem.calls ht13.out (HS.rd 3 rfl) m12) Tryz.func145 ?_; clear HS; intro v14 wt13 HS F; obtain ⟨B14, d14, rfl, m14⟩ := HS.form 4 rfl
 refine nrm 13 hK ⟨_, HS⟩ (fun HH => ?_); clear hK K
 refine dr1 7 HT fun K hK => ?_
 refine go_cl HS (impl_ItemText.calls ht15.out (HS.rd 4 rfl) m14) Tryz.func144 ?_; clear HS; intro wt15 HS F
 refine nrm 14 hK ⟨_, HS⟩ (fun HH => ?_); clear hK K
 refine drq_of [(8, some 15), (9, some 16), (10, some 2), (11, some 3)] ?_
 repeat (refine drp HT ?_)
 refine drq_end ?_
 refine done_ (done_of HT.out (by kernel_rfl)) ?_
 (try clear F)
 have F := HS.boxes; simp only [bxn] at F
 obtain ⟨rfl, rfl⟩ := zsome2 H
 go_wp2
 exact bodyPost_ret (results_list (rs := [.tmp 2, .tmp 3]) rfl (by simp) (.tmp (.tmp .nil))) rfl ⟨rfl, HS.pick [] (by decide) (by rfl)⟩
def impl_Crl_0.l0 : Nat → (List ByteArray) → Int → (List S81) → Option (Bool)
  | 0, _, _, _ => none
  | k + 1, l19, x21, a0 => (if x21 < (a0.length : Int) then (if 0 ≤ x21 then (if x21 < (a0.length : Int) then ((impl_CrlText.f k (rd_T81 a0 x21)).bind fun t31 => (if t31.2 = true then ((slices_Contains_string_string.f k l19 t31.1).bind fun t34 => (if t34 = true then (some false) else (if l19.length + 1 ≤ 8796093022208 then (lets (l19 ++ ([t31.1] : List ByteArray)) fun y40 => (impl_Crl_0.l0 k y40 (wrap64 (x21 + 1)) a0)) else none))) else (some false))) else none) else none) else (some true))
def impl_Crl_0.f (k : Nat) (a0 : (List S81)) : Option (Bool) := (impl_Crl_0.l0 k [] 0 a0)
theorem impl_Crl_0.calls {k : Nat} {a0 : (List S81)} {Ap0 : Option Addr} {np0 cp0 : Nat} {mG : Int} {r : Bool} {w : World} (h : impl_Crl_0.f k a0 = some r) (gp0 : k81.C w Ap0 np0 a0) (lp0 : np0 ≤ cp0) (hgM : w.cell? ⟨0, 0, none⟩ = some (.int .i64 mG)) :
    Calls Tryz.prog 65 #[.slice Ap0 np0 cp0, .func (.func 66) #[] #[]] w (fun e w' => e = .returned (.bool r) ∧ Hp noFP w w' []) := by
 obtain rfl := C_len gp0
 have HS := Hp.start w
 have H := Aside0.mk h
 clear h
 unfold impl_Crl_0.f at H
 go_enter Tryz.func65, Tryz.ntmps65
 go_wp2
 replace HS := HS.nil 9 Zd.string
 go_loopg [5, 12] k (fun kq v_5 v_12 w' => ∃ (l19 : List ByteArray) (v20 : Value) (x21 : Int), v_5 = v20 ∧ v_12 = .int .i64 x21 ∧ Aside0 (impl_Crl_0.l0 kq l19 x21 a0 = some r) ∧ Aside0 (kq ≤ k) ∧ Hp noFP w w' [.own (Zd.slice 9 Zd.string) l19 [v20]])
 case atStart => exact ⟨_, _, _, rfl, rfl, H, ⟨Nat.le_refl _⟩, HS⟩
 case round =>
  clear HS H; (try clear F)
  obtain ⟨l19, v20, x21, rfl, rfl, H, HKk18, HS⟩ := hrel
  obtain ⟨B20, d20, rfl, m20⟩ := HS.form 0 rfl
  cases gk with
  | zero => exact absurd H.out (by simp [impl_Crl_0.l0])
  | succ k18 =>
   simp only [impl_Crl_0.l0] at H
   replace H := znif H; rcases H with ⟨c23, H⟩ | ⟨c23, H⟩
   case inl =>
    obtain rfl := zsome H
    go_wp2
    go_ret
    exact HS.pk
   replace H := zgo H; obtain ⟨c24, H⟩ := H
   replace H := zgo H; obtain ⟨c25, H⟩ := H
   obtain ⟨ad26, B26_5, d26_5, rfl, e26_0, e26_1, e26_2, e26_3, e26_4, e26_5, e26_6, m26_5, y26_5⟩ := at_T81 gp0 x21 (of_eq_true c24) (of_eq_true c25)
   have e26_0_26 := HS.keepc e26_0
   have e26_1_26 := HS.keepc e26_1
   have e26_2_26 := HS.keepc e26_2
   have e26_3_26 := HS.keepc e26_3
   have e26_4_26 := HS.keepc e26_4
   have e26_5_26 := HS.keepc e26_5
   have e26_6_26 := HS.keepc e26_6
   replace H := zbind H; obtain ⟨t31, ht31, H⟩ := H
   replace H := znifb H; rcases H with ⟨c33, H⟩ | ⟨c33, H⟩
   case inl =>
    obtain rfl := zsome H
    go_wp2_with (first | ((with_reducible refine gd 7 rfl ?_); refine ev_bx HS ?_; clear HS; intro g7 w7 HS F) | ((with_reducible refine gate_store (p := 7) rfl ?_); refine ev_st 1 0 HS (seg := [.string ((rd_T81 a0 x21).f0), .int .i64 ((rd_T81 a0 x21).f1), .int .i64 ((rd_T81 a0 x21).f2), .int .i64 ((rd_T81 a0 x21).f3), .int .i64 ((rd_T81 a0 x21).f4), .slice B26_5 (rd_T81 a0 x21).f5.length d26_5, .string ((rd_T81 a0 x21).f6)]) ?_; clear HS; intro w29 HS F) | ((with_reducible refine gd 19 rfl ?_); refine ev_callv rfl Tryz.func66 (by kernel_rfl) rfl #[.agg #[.string ((rd_T81 a0 x21).f0), .int .i64 ((rd_T81 a0 x21).f1), .int .i64 ((rd_T81 a0 x21).f2), .int .i64 ((rd_T81 a0 x21).f3), .int .i64 ((rd_T81 a0 x21).f4), .slice B26_5 (rd_T81 a0 x21).f5.length d26_5, .string ((rd_T81 a0 x21).f6)]] #[.agg #[.string ((rd_T81 a0 x21).f0), .int .i64 ((rd_T81 a0 x21).f1), .int .i64 ((rd_T81 a0 x21).f2), .int .i64 ((rd_T81 a0 x21).f3), .int .i64 ((rd_T81 a0 x21).f4), .slice B26_5 (rd_T81 a0 x21).f5.length d26_5, .string ((rd_T81 a0 x21).f6)]] rfl rfl (by simp only [mpn]; rfl) (by first | rfl | simp) ?_; refine (impl_CrlText.calls ht31.out (HS.ro y26_5) m26_5 (HS.keepc hgM)).mono ?_; rintro _ wt31 ⟨rfl, HQ⟩; refine ⟨_, rfl, ?_⟩; replace HS := HS.call HQ; clear HQ; (try clear F); (try simp only [hpn, hpm] at HS); have F := HS.boxes; simp only [bxn] at F; (try simp only [c33])))
    go_ret
    exact HS.pk
   replace H := zbind H; obtain ⟨t34, ht34, H⟩ := H
   go_upto_if 28 with (first | ((with_reducible refine gd 7 rfl ?_); refine ev_bx HS ?_; clear HS; intro g7 w7 HS F) | ((with_reducible refine gate_store (p := 7) rfl ?_); refine ev_st 1 0 HS (seg := [.string ((rd_T81 a0 x21).f0), .int .i64 ((rd_T81 a0 x21).f1), .int .i64 ((rd_T81 a0 x21).f2), .int .i64 ((rd_T81 a0 x21).f3), .int .i64 ((rd_T81 a0 x21).f4), .slice B26_5 (rd_T81 a0 x21).f5.length d26_5, .string ((rd_T81 a0 x21).f6)]) ?_; clear HS; intro w29 HS F) | ((with_reducible refine gd 19 rfl ?_); refine ev_callv rfl Tryz.func66 (by kernel_rfl) rfl #[.agg #[.string ((rd_T81 a0 x21).f0), .int .i64 ((rd_T81 a0 x21).f1), .int .i64 ((rd_T81 a0 x21).f2), .int .i64 ((rd_T81 a0 x21).f3), .int .i64 ((rd_T81 a0 x21).f4), .slice B26_5 (rd_T81 a0 x21).f5.length d26_5, .string ((rd_T81 a0 x21).f6)]] #[.agg #[.string ((rd_T81 a0 x21).f0), .int .i64 ((rd_T81 a0 x21).f1), .int .i64 ((rd_T81 a0 x21).f2), .int .i64 ((rd_T81 a0 x21).f3), .int .i64 ((rd_T81 a0 x21).f4), .slice B26_5 (rd_T81 a0 x21).f5.length d26_5, .string ((rd_T81 a0 x21).f6)]] rfl rfl (by simp only [mpn]; rfl) (by first | rfl | simp) ?_; refine (impl_CrlText.calls ht31.out (HS.ro y26_5) m26_5 (HS.keepc hgM)).mono ?_; rintro _ wt31 ⟨rfl, HQ⟩; refine ⟨_, rfl, ?_⟩; replace HS := HS.call HQ; clear HQ; (try clear F); (try simp only [hpn, hpm] at HS); have F := HS.boxes; simp only [bxn] at F; (try simp only [c33])) | ((with_reducible refine gd 27 rfl ?_); refine gg ?_; refine ev_cl HS (slices_Contains_string_string.calls ht34.out (HS.rd 0 rfl) m20) Tryz.func143 ?_; clear HS; intro wt34 HS F))
   replace H := zifb H; rcases H with ⟨c36, H⟩ | ⟨c36, H⟩
   case inl =>
    subst c36
    (try simp only [dcn, dcu, dcf])
    obtain rfl := zsome H
    go_wp2
    go_ret
    exact HS.pk
   subst c36
   (try simp only [dcn, dcu, dcf])
   replace H := zgo H; obtain ⟨c39, H⟩ := H
   replace H := zlets H; obtain ⟨y40, e_y40, H⟩ := H
   go_wp2_with (first | ((with_reducible refine gd 31 rfl ?_); refine ev_li Zd.string [] ([t31.1] : List ByteArray) ([.string t31.1] ++ []) HS (MadeL.cons (js1 := []) (c := [.string t31.1]) rfl (made_flat (fun _ => rfl)) MadeL.nil (by decide)) ?_; clear HS; intro v37 w37 HS F; obtain ⟨B37, d37, rfl, m37⟩ := HS.formn 1 2 rfl rfl) | ((with_reducible refine gd 32 rfl ?_); refine ev_ap Zd.string 0 2 HS rfl rfl Tryz.underlying57 info9 (of_eq_true c39) ?_; clear HS; intro v40 w40 HS; rw [← e_y40.out] at HS; obtain ⟨B40, d40, rfl, m40⟩ := HS.form 3 rfl; (try simp only [hpn, hpm] at HS); have F := HS.boxes; simp only [bxn] at F))
   go_roundg k18
   case measure => have := HKk18.out; omega
   case rel => exact ⟨_, _, _, rfl, rfl, H, ⟨by have := HKk18.out; omega⟩, HS.pick [3] (by decide) (by rfl)⟩
end Go.Proofs.YtacocpknielofaaGreatDoor.F

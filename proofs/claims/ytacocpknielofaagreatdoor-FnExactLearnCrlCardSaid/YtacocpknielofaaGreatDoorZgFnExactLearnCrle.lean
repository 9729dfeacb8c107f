/- Functions of the program and of the law, and that their calls do what is written here. -/
import Derived.Test.YtacocpknielofaaGreatDoorZgFnExactLearnCrlb
import Derived.Test.YtacocpknielofaaGreatDoorZgFnExactLearnCrlc
import Derived.Test.YtacocpknielofaaGreatDoorZgFnExactLearnCrld
namespace Go.Proofs.YtacocpknielofaaGreatDoor.F
open Go.RowKit YtacocpknielofaaGreatDoorW.PrintWords YtacocpknielofaaGreatDoorW.PrintLast YtacocpknielofaaGreatDoorW.PrintMore Z
attribute [local go_sem] max2_int min2_int max_two min_two max_three min_three max_four min_four
set_option linter.unusedVariables false
set_option linter.unusedSimpArgs false
set_option maxRecDepth 100000
set_option maxHeartbeats 16000000
def spec_CrlOk.l0 : Nat → Int → S81 → Option (Bool)
  | 0, _, _ => none
  | k + 1, x23, a0 => (if x23 < (a0.f5.length : Int) then (if 0 ≤ x23 then (if x23 < (a0.f5.length : Int) then ((spec_l09Num.f ((rd_T238 a0.f5 x23).f0)).bind fun t10 => (if t10 = true then ((spec_l01In.f ((rd_T238 a0.f5 x23).f1) 1 10).bind fun t16 => (if t16 = true then (if (rd_T238 a0.f5 x23).f1 = 8 then (if a0.f4 = 0 then (some false) else (if 0 < x23 then (if 0 ≤ (wrap64 (x23 - 1)) then (if (wrap64 (x23 - 1)) < (a0.f5.length : Int) then (if (rd_T238 a0.f5 x23).f0 ≤ (rd_T238 a0.f5 (wrap64 (x23 - 1))).f0 then (some false) else (spec_CrlOk.l0 k (wrap64 (x23 + 1)) a0)) else none) else none) else (spec_CrlOk.l0 k (wrap64 (x23 + 1)) a0))) else (if 0 < x23 then (if 0 ≤ (wrap64 (x23 - 1)) then (if (wrap64 (x23 - 1)) < (a0.f5.length : Int) then (if (rd_T238 a0.f5 x23).f0 ≤ (rd_T238 a0.f5 (wrap64 (x23 - 1))).f0 then (some false) else (spec_CrlOk.l0 k (wrap64 (x23 + 1)) a0)) else none) else none) else (spec_CrlOk.l0 k (wrap64 (x23 + 1)) a0))) else (some false))) else (some false))) else none) else none) else (some true))
def spec_CrlOk.f (k : Nat) (a0 : S81) : Option (Bool) := ((spec_NameOk.f k a0.f0).bind fun t3 => (if t3 = true then ((spec_l01In.f a0.f1 1 9999).bind fun t6 => (if t6 = true then ((spec_l01In.f a0.f4 0 (wrap64 (a0.f1 - 1))).bind fun t9 => (if t9 = true then ((spec_l09Num.f a0.f2).bind fun t12 => (if t12 = true then ((spec_l09Num.f a0.f3).bind fun t15 => (if t15 = true then (if 8 < (a0.f5.length : Int) then (some false) else (if (a0.f6.size : Int) = 15 then (spec_CrlOk.l0 k 0 a0) else (some false))) else (some false))) else (some false))) else (some false))) else (some false))) else (some false)))
def spec_CrlOk.T7 : TT := (true, [([], []), ([0], [0]), ([1], [1]), ([2], [2]), ([3, 2], [3]), ([4], [4]), ([5, 4], [4, 5]), ([6, 4, 4], [4, 6]), ([7, 4], [4, 7]), ([4, 8], [4, 8]), ([9, 7], [9]), ([10], [10]), ([11, 10], [10, 11]), ([12, 10], [10, 12]), ([13, 10, 10], [10, 13]), ([14], [14]), ([15, 14], [14, 15]), ([16, 14], [14, 16]), ([14, 17, 10], [10, 14, 17]), ([10, 18], [10, 18]), ([19, 14], [19]), ([20], [20]), ([21, 20], [20, 21]), ([22, 20, 20], [20, 22]), ([23], [23]), ([24, 23], [23, 24]), ([23], [23]), ([26, 23], [23, 26]), ([25, 27, 23], [23, 25, 27]), ([28, 23], [23, 28]), ([29, 23], [23, 29]), ([23], [23]), ([31, 23], [23, 31]), ([30, 32, 23], [23, 30, 32]), ([23, 33, 20], [20, 23, 33]), ([20, 34], [20, 34])])
theorem spec_CrlOk.tT7 : rtab .any (opsOf Tryz.f137 7) = spec_CrlOk.T7 := by kernel_rfl
theorem spec_CrlOk.calls {k : Nat} {a0 : S81} {Ap0 : Option Addr} {np0 cp0 : Nat} {r : Bool} {w : World} (h : spec_CrlOk.f k a0 = some r) (gp0 : k238.C w Ap0 np0 a0.f5) (lp0 : np0 ≤ cp0) :
    Calls Tryz.prog 137 #[.agg #[.string a0.f0, .int .i64 a0.f1, .int .i64 a0.f2, .int .i64 a0.f3, .int .i64 a0.f4, .slice Ap0 np0 cp0, .string a0.f6]] w (fun e w' => e = .returned (.bool r) ∧ Hp noFP w w' []) := by
 obtain rfl := C_len gp0
 have HS := Hp.start w
 have H := Aside0.mk h
 clear h
 unfold spec_CrlOk.f at H
 go_enter Tryz.func137, Tryz.ntmps137
 replace H := zbind H; obtain ⟨t3, ht3, H⟩ := H
 replace H := znifb H; rcases H with ⟨c5, H⟩ | ⟨c5, H⟩
 case inl =>
  subst c5
  obtain rfl := zsome H
  go_wp2_with (first | ((with_reducible refine gd 1 rfl ?_); refine ev_bx HS ?_; clear HS; intro g1 w1 HS F) | ((with_reducible refine gd 7 rfl ?_); refine ev_cl HS (spec_NameOk.calls ht3.out) Tryz.func139 ?_; clear HS; intro wt3 HS F))
  go_ret
  exact HS.pk
 subst c5
 replace H := zbind H; obtain ⟨t6, ht6, H⟩ := H
 replace H := znifb H; rcases H with ⟨c8, H⟩ | ⟨c8, H⟩
 case inl =>
  subst c8
  obtain rfl := zsome H
  go_wp2_with (first | ((with_reducible refine gd 1 rfl ?_); refine ev_bx HS ?_; clear HS; intro g1 w1 HS F) | ((with_reducible refine gd 7 rfl ?_); refine ev_cl HS (spec_NameOk.calls ht3.out) Tryz.func139 ?_; clear HS; intro wt3 HS F) | ((with_reducible refine gd 12 rfl ?_); refine gg ?_; refine ev_cl HS (spec_l01In.calls ht6.out) Tryz.func74 ?_; clear HS; intro wt6 HS F))
  go_ret
  exact HS.pk
 subst c8
 replace H := zbind H; obtain ⟨t9, ht9, H⟩ := H
 replace H := znifb H; rcases H with ⟨c11, H⟩ | ⟨c11, H⟩
 case inl =>
  subst c11
  obtain rfl := zsome H
  go_wp2_with (first | ((with_reducible refine gd 1 rfl ?_); refine ev_bx HS ?_; clear HS; intro g1 w1 HS F) | ((with_reducible refine gd 7 rfl ?_); refine ev_cl HS (spec_NameOk.calls ht3.out) Tryz.func139 ?_; clear HS; intro wt3 HS F) | ((with_reducible refine gd 12 rfl ?_); refine gg ?_; refine ev_cl HS (spec_l01In.calls ht6.out) Tryz.func74 ?_; clear HS; intro wt6 HS F) | ((with_reducible refine gd 21 rfl ?_); refine gg ?_; refine ev_cl HS (spec_l01In.calls ht9.out) Tryz.func74 ?_; clear HS; intro wt9 HS F))
  go_ret
  exact HS.pk
 subst c11
 replace H := zbind H; obtain ⟨t12, ht12, H⟩ := H
 replace H := znifb H; rcases H with ⟨c14, H⟩ | ⟨c14, H⟩
 case inl =>
  subst c14
  obtain rfl := zsome H
  go_wp2_with (first | ((with_reducible refine gd 1 rfl ?_); refine ev_bx HS ?_; clear HS; intro g1 w1 HS F) | ((with_reducible refine gd 7 rfl ?_); refine ev_cl HS (spec_NameOk.calls ht3.out) Tryz.func139 ?_; clear HS; intro wt3 HS F) | ((with_reducible refine gd 12 rfl ?_); refine gg ?_; refine ev_cl HS (spec_l01In.calls ht6.out) Tryz.func74 ?_; clear HS; intro wt6 HS F) | ((with_reducible refine gd 21 rfl ?_); refine gg ?_; refine ev_cl HS (spec_l01In.calls ht9.out) Tryz.func74 ?_; clear HS; intro wt9 HS F) | ((with_reducible refine gd 27 rfl ?_); refine gg ?_; refine ev_cl HS (spec_l09Num.calls ht12.out) Tryz.func75 ?_; clear HS; intro wt12 HS F))
  go_ret
  exact HS.pk
 subst c14
 replace H := zbind H; obtain ⟨t15, ht15, H⟩ := H
 replace H := znifb H; rcases H with ⟨c17, H⟩ | ⟨c17, H⟩
 case inl =>
  subst c17
  obtain rfl := zsome H
  go_wp2_with (first | ((with_reducible refine gd 1 rfl ?_); refine ev_bx HS ?_; clear HS; intro g1 w1 HS F) | ((with_reducible refine gd 7 rfl ?_); refine ev_cl HS (spec_NameOk.calls ht3.out) Tryz.func139 ?_; clear HS; intro wt3 HS F) | ((with_reducible refine gd 12 rfl ?_); refine gg ?_; refine ev_cl HS (spec_l01In.calls ht6.out) Tryz.func74 ?_; clear HS; intro wt6 HS F) | ((with_reducible refine gd 21 rfl ?_); refine gg ?_; refine ev_cl HS (spec_l01In.calls ht9.out) Tryz.func74 ?_; clear HS; intro wt9 HS F) | ((with_reducible refine gd 27 rfl ?_); refine gg ?_; refine ev_cl HS (spec_l09Num.calls ht12.out) Tryz.func75 ?_; clear HS; intro wt12 HS F) | ((with_reducible refine gd 33 rfl ?_); refine gg ?_; refine ev_cl HS (spec_l09Num.calls ht15.out) Tryz.func75 ?_; clear HS; intro wt15 HS F))
  go_ret
  exact HS.pk
 subst c17
 replace H := zif H; rcases H with ⟨c18, H⟩ | ⟨c18, H⟩
 case inl =>
  obtain rfl := zsome H
  go_wp2_with (first | ((with_reducible refine gd 1 rfl ?_); refine ev_bx HS ?_; clear HS; intro g1 w1 HS F) | ((with_reducible refine gd 7 rfl ?_); refine ev_cl HS (spec_NameOk.calls ht3.out) Tryz.func139 ?_; clear HS; intro wt3 HS F) | ((with_reducible refine gd 12 rfl ?_); refine gg ?_; refine ev_cl HS (spec_l01In.calls ht6.out) Tryz.func74 ?_; clear HS; intro wt6 HS F) | ((with_reducible refine gd 21 rfl ?_); refine gg ?_; refine ev_cl HS (spec_l01In.calls ht9.out) Tryz.func74 ?_; clear HS; intro wt9 HS F) | ((with_reducible refine gd 27 rfl ?_); refine gg ?_; refine ev_cl HS (spec_l09Num.calls ht12.out) Tryz.func75 ?_; clear HS; intro wt12 HS F) | ((with_reducible refine gd 33 rfl ?_); refine gg ?_; refine ev_cl HS (spec_l09Num.calls ht15.out) Tryz.func75 ?_; clear HS; intro wt15 HS F))
  go_ret
  exact HS.pk
 go_upto_if 47 with (first | ((with_reducible refine gd 1 rfl ?_); refine ev_bx HS ?_; clear HS; intro g1 w1 HS F) | ((with_reducible refine gd 7 rfl ?_); refine ev_cl HS (spec_NameOk.calls ht3.out) Tryz.func139 ?_; clear HS; intro wt3 HS F) | ((with_reducible refine gd 12 rfl ?_); refine gg ?_; refine ev_cl HS (spec_l01In.calls ht6.out) Tryz.func74 ?_; clear HS; intro wt6 HS F) | ((with_reducible refine gd 21 rfl ?_); refine gg ?_; refine ev_cl HS (spec_l01In.calls ht9.out) Tryz.func74 ?_; clear HS; intro wt9 HS F) | ((with_reducible refine gd 27 rfl ?_); refine gg ?_; refine ev_cl HS (spec_l09Num.calls ht12.out) Tryz.func75 ?_; clear HS; intro wt12 HS F) | ((with_reducible refine gd 33 rfl ?_); refine gg ?_; refine ev_cl HS (spec_l09Num.calls ht15.out) Tryz.func75 ?_; clear HS; intro wt15 HS F))
 replace H := znif' H; rcases H with ⟨c19, H⟩ | ⟨c19, H⟩
 case inl =>
  have c19a := beq_eq_false_iff_ne.mpr c19
  have c19b := bne_iff_ne.mpr c19
  clear c19
  (try simp only [c19a, c19b, dcn])
  obtain rfl := zsome H
  go_wp2
  go_ret
  exact HS.pk
 have c19a := beq_iff_eq.mpr c19
 have c19b := bne_eq_false_iff_eq.mpr c19
 clear c19
 (try simp only [c19a, c19b, dcn])
 go_wp2
 go_loopg [3] k (fun kq v_3 w' => ∃ (x23 : Int), v_3 = .int .i64 x23 ∧ Aside0 (spec_CrlOk.l0 kq x23 a0 = some r) ∧ Aside0 (kq ≤ k) ∧ Hp noFP w w' [.box g1 [.string a0.f0, .int .i64 a0.f1, .int .i64 a0.f2, .int .i64 a0.f3, .int .i64 a0.f4, .slice Ap0 a0.f5.length cp0, .string a0.f6] 81])
 case atStart => exact ⟨_, rfl, H, ⟨Nat.le_refl _⟩, HS⟩
 case round =>
  clear HS H; (try clear F)
  obtain ⟨x23, rfl, H, HKk22, HS⟩ := hrel
  have F := HS.boxes; simp only [bxn] at F
  cases gk with
  | zero => exact absurd H.out (by simp [spec_CrlOk.l0])
  | succ k22 =>
   simp only [spec_CrlOk.l0] at H
   replace H := znif H; rcases H with ⟨c25, H⟩ | ⟨c25, H⟩
   case inl =>
    obtain rfl := zsome H
    go_wp2
    go_ret
    exact HS.pk
   replace H := zgo H; obtain ⟨c26, H⟩ := H
   replace H := zgo H; obtain ⟨c27, H⟩ := H
   obtain ⟨ad28, rfl, e28_0, e28_1⟩ := at_T238 gp0 x23 (of_eq_true c26) (of_eq_true c27)
   have e28_0_28 := HS.keepc e28_0
   have e28_1_28 := HS.keepc e28_1
   go_wp2_with (first | ((with_reducible refine gd 4 rfl ?_); refine ev_bx HS ?_; clear HS; intro g4 w4 HS F) | ((with_reducible refine gate_store (p := 4) rfl ?_); refine ev_st 1 0 HS (seg := [.int .i64 ((rd_T238 a0.f5 x23).f0), .int .i64 ((rd_T238 a0.f5 x23).f1)]) ?_; clear HS; intro w31 HS F))
   replace H := zbind H; obtain ⟨t10, ht10, H⟩ := H
   replace H := znifb H; rcases H with ⟨c13, H⟩ | ⟨c13, H⟩
   case inl =>
    subst c13
    refine dr_start [] HS #[false, false, false, false, false, false, false, false, false, false, false, false, false, false, false, false, false, false, false, false, false, false, false, false, false, false, false, false, false, false, false, false, false, false, false, false] (by kernel_rfl) rfl rfl spec_CrlOk.tT7 (fun w48 HT HS HH => ?_)
    (try clear F)
    refine drq_of [(0, some 60), (1, some 61)] ?_
    repeat (first | refine drp HT ?_ | refine drt HT HH ?_)
    refine drq_end ?_
    refine dr1 2 HT fun K hK => ?_
    refine go_cl HS (spec_l09Num.calls ht10.out) Tryz.func75 ?_; clear HS; intro wt10 HS F
    refine nrm 62 hK ⟨_, HS⟩ (fun HH => ?_); clear hK K
    refine drq_of [(3, some 63), (4, some 64), (5, some 65), (6, some 66), (7, some 67), (8, some 68), (9, some 69), (10, some 70), (11, some 71), (12, some 72), (13, some 73), (14, some 74), (15, some 75), (16, some 76), (17, some 77), (18, some 78), (19, some 79), (20, some 80), (21, some 81), (22, some 82), (23, some 83), (24, some 84), (25, some 85), (26, some 86), (27, some 87), (28, some 88), (29, some 89), (30, some 90), (31, some 91), (32, some 92), (33, some 93), (34, some 94), (35, some 95)] ?_
    repeat (first | refine drp HT ?_ | (refine drq_pure HT (v := undef) (a' := ?_) rfl rfl (by kernel_rfl) (fun _ _ _ h => h) (.inr ⟨by rfl, rfl⟩) ?_ ?_; rotate_left; (simp only [Act.put, ptn]; rfl)))
    refine drq_end ?_
    refine done_ (done_of HT.out (by kernel_rfl)) ?_
    (try clear F)
    have F := HS.boxes; simp only [bxn] at F
    obtain rfl := zsome H
    go_wp2
    go_ret
    exact HS.pk
   subst c13
   replace H := zbind H; obtain ⟨t16, ht16, H⟩ := H
   replace H := znifb H; rcases H with ⟨c20, H⟩ | ⟨c20, H⟩
   case inl =>
    subst c20
    refine dr_start [] HS #[false, false, false, false, false, false, false, false, false, false, false, false, false, false, false, false, false, false, false, false, false, false, false, false, false, false, false, false, false, false, false, false, false, false, false, false] (by kernel_rfl) rfl rfl spec_CrlOk.tT7 (fun w46 HT HS HH => ?_)
    (try clear F)
    refine drq_of [(0, some 60), (1, some 61)] ?_
    repeat (first | refine drp HT ?_ | refine drt HT HH ?_)
    refine drq_end ?_
    refine dr1 2 HT fun K hK => ?_
    refine go_cl HS (spec_l09Num.calls ht10.out) Tryz.func75 ?_; clear HS; intro wt10 HS F
    refine nrm 62 hK ⟨_, HS⟩ (fun HH => ?_); clear hK K
    refine drq_of [(3, some 63), (4, some 64), (5, some 65), (6, some 66)] ?_
    repeat (first | refine drp HT ?_ | refine drt HT HH ?_)
    refine drq_end ?_
    refine dr1 7 HT fun K hK => ?_
    refine go_cl HS (spec_l01In.calls ht16.out) Tryz.func74 ?_; clear HS; intro wt16 HS F
    refine nrm 67 hK ⟨_, HS⟩ (fun HH => ?_); clear hK K
    refine drq_of [(8, some 68), (9, some 69), (10, some 70), (11, some 71), (12, some 72), (13, some 73), (14, some 74), (15, some 75), (16, some 76), (17, some 77), (18, some 78), (19, some 79), (20, some 80), (21, some 81), (22, some 82), (23, some 83), (24, some 84), (25, some 85), (26, some 86), (27, some 87), (28, some 88), (29, some 89), (30, some 90), (31, some 91), (32, some 92), (33, some 93), (34, some 94), (35, some 95)] ?_
    repeat (first | refine drp HT ?_ | (refine drq_pure HT (v := undef) (a' := ?_) rfl rfl (by kernel_rfl) (fun _ _ _ h => h) (.inr ⟨by rfl, rfl⟩) ?_ ?_; rotate_left; (simp only [Act.put, ptn]; rfl)))
    refine drq_end ?_
    refine done_ (done_of HT.out (by kernel_rfl)) ?_
    (try clear F)
    have F := HS.boxes; simp only [bxn] at F
    obtain rfl := zsome H
    go_wp2
    go_ret
    exact HS.pk
   subst c20
   replace H := znif' H; rcases H with ⟨c21, H⟩ | ⟨c21, H⟩
   case inl =>
    have c21a := beq_eq_false_iff_ne.mpr c21
    have c21b := bne_iff_ne.mpr c21
    clear c21
    replace H := znif H; rcases H with ⟨c29, H⟩ | ⟨c29, H⟩
    case inl =>
     refine dr_start [] HS #[false, false, false, false, false, false, false, false, false, false, false, false, false, false, false, false, false, false, false, false, false, false, false, false, false, false, false, false, false, false, false, false, false, false, false, false] (by kernel_rfl) rfl rfl spec_CrlOk.tT7 (fun w44 HT HS HH => ?_)
     (try clear F)
     refine drq_of [(0, some 60), (1, some 61)] ?_
     repeat (first | refine drp HT ?_ | refine drt HT HH ?_)
     refine drq_end ?_
     refine dr1 2 HT fun K hK => ?_
     refine go_cl HS (spec_l09Num.calls ht10.out) Tryz.func75 ?_; clear HS; intro wt10 HS F
     refine nrm 62 hK ⟨_, HS⟩ (fun HH => ?_); clear hK K
     refine drq_of [(3, some 63), (4, some 64), (5, some 65), (6, some 66)] ?_
     repeat (first | refine drp HT ?_ | refine drt HT HH ?_)
     refine drq_end ?_
     refine dr1 7 HT fun K hK => ?_
     refine go_cl HS (spec_l01In.calls ht16.out) Tryz.func74 ?_; clear HS; intro wt16 HS F
     refine nrm 67 hK ⟨_, HS⟩ (fun HH => ?_); clear hK K
     refine drq_of [(8, some 68), (9, some 69), (10, some 70), (11, some 71), (12, some 72), (13, some 73), (14, some 74), (15, some 75), (16, some 76), (17, some 77), (18, some 78), (19, some 79), (20, some 80), (21, some 81), (22, some 82), (23, some 83), (24, some 84), (25, some 85), (26, some 86), (27, some 87), (28, some 88), (29, some 89), (30, some 90), (31, some 91), (32, some 92), (33, some 93), (34, some 94), (35, some 95)] ?_
     repeat (first | refine drp HT ?_ | (refine drq_pure HT (v := undef) (a' := ?_) rfl rfl (by kernel_rfl) (fun _ _ _ h => h) (.inr ⟨by rfl, rfl⟩) ?_ ?_; rotate_left; (simp only [Act.put, ptn]; rfl)) | refine drt HT HH ?_)
     refine drq_end ?_
     refine done_ (done_of HT.out (by kernel_rfl)) ?_
     (try clear F)
     have F := HS.boxes; simp only [bxn] at F
     go_wp2
     go_roundg k22
     case measure => have := HKk22.out; omega
     case rel => exact ⟨_, rfl, H, ⟨by have := HKk22.out; omega⟩, HS.pick [0] (by decide) (by rfl)⟩
    replace H := zgo H; obtain ⟨c30, H⟩ := H
    replace H := zgo H; obtain ⟨c32, H⟩ := H
    obtain ⟨ad33, hq33, e33_0, e33_1⟩ := at_T238 gp0 (wrap64 (x23 - 1)) (of_eq_true c30) (of_eq_true c32); obtain rfl := Option.some.inj hq33
    refine dr_start [] HS #[false, false, false, false, false, false, false, false, false, false, false, false, false, false, false, false, false, false, false, false, false, false, false, false, false, false, false, false, false, false, false, false, false, false, false, false] (by kernel_rfl) rfl rfl spec_CrlOk.tT7 (fun w41 HT HS HH => ?_)
    (try clear F)
    refine drq_of [(0, some 60), (1, some 61)] ?_
    repeat (first | refine drp HT ?_ | refine drt HT HH ?_)
    refine drq_end ?_
    refine dr1 2 HT fun K hK => ?_
    refine go_cl HS (spec_l09Num.calls ht10.out) Tryz.func75 ?_; clear HS; intro wt10 HS F
    refine nrm 62 hK ⟨_, HS⟩ (fun HH => ?_); clear hK K
    refine drq_of [(3, some 63), (4, some 64), (5, some 65), (6, some 66)] ?_
    repeat (first | refine drp HT ?_ | refine drt HT HH ?_)
    refine drq_end ?_
    refine dr1 7 HT fun K hK => ?_
    refine go_cl HS (spec_l01In.calls ht16.out) Tryz.func74 ?_; clear HS; intro wt16 HS F
    refine nrm 67 hK ⟨_, HS⟩ (fun HH => ?_); clear hK K
    refine drq_of [(8, some 68), (9, some 69), (10, some 70), (11, some 71), (12, some 72), (13, some 73), (14, some 74), (15, some 75), (16, some 76), (17, some 77), (18, some 78), (19, some 79), (20, some 80), (21, some 81), (22, some 82), (23, some 83), (24, some 84), (25, some 85), (26, some 86), (27, some 87), (28, some 88), (29, some 89)] ?_
    repeat (first | refine drp HT ?_ | (refine drq_pure HT (v := undef) (a' := ?_) rfl rfl (by kernel_rfl) (fun _ _ _ h => h) (.inr ⟨by rfl, rfl⟩) ?_ ?_; rotate_left; (simp only [Act.put, ptn]; rfl)) | refine drt HT HH ?_)
    refine drq_end ?_
    refine dr_take 30 (some 90) HT HH (v := ?_) (a' := ?_) rfl rfl (by kernel_rfl) (fun _ _ _ h => h) (.inl ⟨by rfl, ?_⟩) ?_ ?_
    rotate_left
    · rintro w' ⟨rs', HS'⟩; have e33_0 := HS'.keepc e33_0; have e33_1 := HS'.keepc e33_1; go_simp; with_reducible rfl
    rotate_left
    · simp only [Act.put, ptn]; rfl
    refine drq_of [(31, some 91), (32, some 92), (33, some 93), (34, some 94), (35, some 95)] ?_
    repeat (first | refine drp HT ?_ | refine drt HT HH ?_)
    refine drq_end ?_
    refine done_ (done_of HT.out (by kernel_rfl)) ?_
    (try clear F)
    have F := HS.boxes; simp only [bxn] at F
    replace H := zif H; rcases H with ⟨c43, H⟩ | ⟨c43, H⟩
    case inl =>
     (try simp only [c43, dcn])
     obtain rfl := zsome H
     go_wp2
     go_ret
     exact HS.pk
    (try simp only [c43, dcn])
    go_wp2
    go_roundg k22
    case measure => have := HKk22.out; omega
    case rel => exact ⟨_, rfl, H, ⟨by have := HKk22.out; omega⟩, HS.pick [0] (by decide) (by rfl)⟩
   have c21a := beq_iff_eq.mpr c21
   have c21b := bne_eq_false_iff_eq.mpr c21
   clear c21
   replace H := zif' H; rcases H with ⟨c24, H⟩ | ⟨c24, H⟩
   case inl =>
    have c24a := beq_iff_eq.mpr c24
    have c24b := bne_eq_false_iff_eq.mpr c24
    clear c24
    refine dr_start [] HS #[false, false, false, false, false, false, false, false, false, false, false, false, false, false, false, false, false, false, false, false, false, false, false, false, false, false, false, false, false, false, false, false, false, false, false, false] (by kernel_rfl) rfl rfl spec_CrlOk.tT7 (fun w34 HT HS HH => ?_)
    (try clear F)
    refine drq_of [(0, some 60), (1, some 61)] ?_
    repeat (first | refine drp HT ?_ | refine drt HT HH ?_)
    refine drq_end ?_
    refine dr1 2 HT fun K hK => ?_
    refine go_cl HS (spec_l09Num.calls ht10.out) Tryz.func75 ?_; clear HS; intro wt10 HS F
    refine nrm 62 hK ⟨_, HS⟩ (fun HH => ?_); clear hK K
    refine drq_of [(3, some 63), (4, some 64), (5, some 65), (6, some 66)] ?_
    repeat (first | refine drp HT ?_ | refine drt HT HH ?_)
    refine drq_end ?_
    refine dr1 7 HT fun K hK => ?_
    refine go_cl HS (spec_l01In.calls ht16.out) Tryz.func74 ?_; clear HS; intro wt16 HS F
    refine nrm 67 hK ⟨_, HS⟩ (fun HH => ?_); clear hK K
    refine drq_of [(8, some 68), (9, some 69), (10, some 70), (11, some 71), (12, some 72), (13, some 73), (14, some 74), (15, some 75), (16, some 76), (17, some 77), (18, some 78), (19, some 79), (20, some 80), (21, some 81), (22, some 82), (23, some 83), (24, some 84), (25, some 85), (26, some 86), (27, some 87), (28, some 88), (29, some 89), (30, some 90), (31, some 91), (32, some 92), (33, some 93), (34, some 94), (35, some 95)] ?_
    repeat (first | refine drp HT ?_ | (refine drq_pure HT (v := undef) (a' := ?_) rfl rfl (by kernel_rfl) (fun _ _ _ h => h) (.inr ⟨by rfl, rfl⟩) ?_ ?_; rotate_left; (simp only [Act.put, ptn]; rfl)) | refine drt HT HH ?_)
    refine drq_end ?_
    refine done_ (done_of HT.out (by kernel_rfl)) ?_
    (try clear F)
    have F := HS.boxes; simp only [bxn] at F
    obtain rfl := zsome H
    go_wp2
    go_ret
    exact HS.pk
   have c24a := beq_eq_false_iff_ne.mpr c24
   have c24b := bne_iff_ne.mpr c24
   clear c24
   replace H := znif H; rcases H with ⟨c29, H⟩ | ⟨c29, H⟩
   case inl =>
    refine dr_start [] HS #[false, false, false, false, false, false, false, false, false, false, false, false, false, false, false, false, false, false, false, false, false, false, false, false, false, false, false, false, false, false, false, false, false, false, false, false] (by kernel_rfl) rfl rfl spec_CrlOk.tT7 (fun w39 HT HS HH => ?_)
    (try clear F)
    refine drq_of [(0, some 60), (1, some 61)] ?_
    repeat (first | refine drp HT ?_ | refine drt HT HH ?_)
    refine drq_end ?_
    refine dr1 2 HT fun K hK => ?_
    refine go_cl HS (spec_l09Num.calls ht10.out) Tryz.func75 ?_; clear HS; intro wt10 HS F
    refine nrm 62 hK ⟨_, HS⟩ (fun HH => ?_); clear hK K
    refine drq_of [(3, some 63), (4, some 64), (5, some 65), (6, some 66)] ?_
    repeat (first | refine drp HT ?_ | refine drt HT HH ?_)
    refine drq_end ?_
    refine dr1 7 HT fun K hK => ?_
    refine go_cl HS (spec_l01In.calls ht16.out) Tryz.func74 ?_; clear HS; intro wt16 HS F
    refine nrm 67 hK ⟨_, HS⟩ (fun HH => ?_); clear hK K
    refine drq_of [(8, some 68), (9, some 69), (10, some 70), (11, some 71), (12, some 72), (13, some 73), (14, some 74), (15, some 75), (16, some 76), (17, some 77), (18, some 78), (19, some 79), (20, some 80), (21, some 81), (22, some 82), (23, some 83), (24, some 84), (25, some 85), (26, some 86), (27, some 87), (28, some 88), (29, some 89), (30, some 90), (31, some 91), (32, some 92), (33, some 93), (34, some 94), (35, some 95)] ?_
    repeat (first | refine drp HT ?_ | (refine drq_pure HT (v := undef) (a' := ?_) rfl rfl (by kernel_rfl) (fun _ _ _ h => h) (.inr ⟨by rfl, rfl⟩) ?_ ?_; rotate_left; (simp only [Act.put, ptn]; rfl)) | refine drt HT HH ?_)
    refine drq_end ?_
    refine done_ (done_of HT.out (by kernel_rfl)) ?_
    (try clear F)
    have F := HS.boxes; simp only [bxn] at F
    go_wp2
    go_roundg k22
    case measure => have := HKk22.out; omega
    case rel => exact ⟨_, rfl, H, ⟨by have := HKk22.out; omega⟩, HS.pick [0] (by decide) (by rfl)⟩
   replace H := zgo H; obtain ⟨c30, H⟩ := H
   replace H := zgo H; obtain ⟨c32, H⟩ := H
   obtain ⟨ad33, hq33, e33_0, e33_1⟩ := at_T238 gp0 (wrap64 (x23 - 1)) (of_eq_true c30) (of_eq_true c32); obtain rfl := Option.some.inj hq33
   refine dr_start [] HS #[false, false, false, false, false, false, false, false, false, false, false, false, false, false, false, false, false, false, false, false, false, false, false, false, false, false, false, false, false, false, false, false, false, false, false, false] (by kernel_rfl) rfl rfl spec_CrlOk.tT7 (fun w36 HT HS HH => ?_)
   (try clear F)
   refine drq_of [(0, some 60), (1, some 61)] ?_
   repeat (first | refine drp HT ?_ | refine drt HT HH ?_)
   refine drq_end ?_
   refine dr1 2 HT fun K hK => ?_
   refine go_cl HS (spec_l09Num.calls ht10.out) Tryz.func75 ?_; clear HS; intro wt10 HS F
   refine nrm 62 hK ⟨_, HS⟩ (fun HH => ?_); clear hK K
   refine drq_of [(3, some 63), (4, some 64), (5, some 65), (6, some 66)] ?_
   repeat (first | refine drp HT ?_ | refine drt HT HH ?_)
   refine drq_end ?_
   refine dr1 7 HT fun K hK => ?_
   refine go_cl HS (spec_l01In.calls ht16.out) Tryz.func74 ?_; clear HS; intro wt16 HS F
   refine nrm 67 hK ⟨_, HS⟩ (fun HH => ?_); clear hK K
   refine drq_of [(8, some 68), (9, some 69), (10, some 70), (11, some 71), (12, some 72), (13, some 73), (14, some 74), (15, some 75), (16, some 76), (17, some 77), (18, some 78), (19, some 79), (20, some 80), (21, some 81), (22, some 82), (23, some 83), (24, some 84), (25, some 85), (26, some 86), (27, some 87), (28, some 88), (29, some 89)] ?_
   repeat (first | refine drp HT ?_ | refine drt HT HH ?_)
   refine drq_end ?_
   refine dr_take 30 (some 90) HT HH (v := ?_) (a' := ?_) rfl rfl (by kernel_rfl) (fun _ _ _ h => h) (.inl ⟨by rfl, ?_⟩) ?_ ?_
   rotate_left
   · rintro w' ⟨rs', HS'⟩; have e33_0 := HS'.keepc e33_0; have e33_1 := HS'.keepc e33_1; go_simp; with_reducible rfl
   rotate_left
   · simp only [Act.put, ptn]; rfl
   refine drq_of [(31, some 91), (32, some 92), (33, some 93), (34, some 94), (35, some 95)] ?_
   repeat (first | refine drp HT ?_ | refine drt HT HH ?_)
   refine drq_end ?_
   refine done_ (done_of HT.out (by kernel_rfl)) ?_
   (try clear F)
   have F := HS.boxes; simp only [bxn] at F
   replace H := zif H; rcases H with ⟨c38, H⟩ | ⟨c38, H⟩
   case inl =>
    (try simp only [c38, dcn])
    obtain rfl := zsome H
    go_wp2
    go_ret
    exact HS.pk
   (try simp only [c38, dcn])
   go_wp2
   go_roundg k22
   case measure => have := HKk22.out; omega
   case rel => exact ⟨_, rfl, H, ⟨by have := HKk22.out; omega⟩, HS.pick [0] (by decide) (by rfl)⟩
def spec_l10Item.l0 : Nat → (List S182) → Int → S81 → Option (S182)
  | 0, _, _, _ => none
  | k + 1, l21, x23, a0 => (if x23 < (a0.f5.length : Int) then (if 0 ≤ x23 then (if x23 < (a0.f5.length : Int) then ((spec_l09Ints.f k ([(rd_T238 a0.f5 x23).f0, (rd_T238 a0.f5 x23).f1] : List Int)).bind fun t12 => (if l21.length + 1 ≤ 2932031007402 then (lets (l21 ++ ([t12] : List S182)) fun y16 => (spec_l10Item.l0 k y16 (wrap64 (x23 + 1)) a0)) else none)) else none) else none) else ((spec_TextItem.f a0.f0).bind fun t18 => ((spec_IntItem.f k a0.f1).bind fun t24 => ((spec_IntItem.f k a0.f2).bind fun t28 => ((spec_IntItem.f k a0.f3).bind fun t31 => ((spec_IntItem.f k a0.f4).bind fun t33 => (some (⟨48, (⟨#[]⟩ : ByteArray), ([t18, t24, t28, t31, t33, (⟨48, (⟨#[]⟩ : ByteArray), l21⟩ : S182)] : List S182)⟩ : S182))))))))
def spec_l10Item.f (k : Nat) (a0 : S81) : Option (S182) := (spec_l10Item.l0 k [] 0 a0)
def spec_l10Item.T5 : TT := (true, [([], []), ([0], [0]), ([], []), ([2], [2]), ([], []), ([3, 4], [3, 4]), ([5], [5]), ([6], [6]), ([], []), ([8], [8]), ([], []), ([9, 10], [9, 10]), ([11], [11]), ([12], [12]), ([7, 13], [7, 13]), ([14], [14]), ([15], [15]), ([1, 16, 15], [1, 16]), ([0, 1, 2, 3, 4, 5, 6, 7, 8, 9, 10, 11, 12, 13, 14, 15, 16, 17], []), ([18, 17, 17, 0, 1, 2, 3, 4, 5, 6, 7, 8, 9, 10, 11, 12, 13, 14, 15, 16, 17], [17, 18])])
theorem spec_l10Item.tT5 : rtab .any (opsOf Tryz.f138 5) = spec_l10Item.T5 := by kernel_rfl
def spec_l10Item.T6 : TT := (true, [([], []), ([0], [0]), ([1], [1]), ([], []), ([3], [3]), ([4, 2], [4]), ([], []), ([6], [6]), ([7, 5], [7]), ([], []), ([9], [9]), ([10, 8], [10]), ([], []), ([12], [12]), ([13, 11], [13]), ([], []), ([2, 5, 8, 11, 14, 15], [2, 5, 8, 11, 14, 15]), ([16], [16]), ([17, 14, 0, 1, 2, 3, 4, 5, 6, 7, 8, 9, 10, 11, 12, 13, 14, 15, 16, 17], [17])])
theorem spec_l10Item.tT6 : rtab .any (opsOf Tryz.f138 6) = spec_l10Item.T6 := by kernel_rfl
theorem spec_l10Item.calls {k : Nat} {a0 : S81} {Ap0 : Option Addr} {np0 cp0 : Nat} {r : S182} {w : World} (h : spec_l10Item.f k a0 = some r) (gp0 : k238.C w Ap0 np0 a0.f5) (lp0 : np0 ≤ cp0) :
    Calls Tryz.prog 138 #[.agg #[.string a0.f0, .int .i64 a0.f1, .int .i64 a0.f2, .int .i64 a0.f3, .int .i64 a0.f4, .slice Ap0 np0 cp0, .string a0.f6]] w (fun e w' => ∃ v0_ : Value, e = .returned (.agg #[.int .i64 r.f0, .string r.f1, v0_]) ∧ Hp noFP w w' [.own (Zd.slice 182 q182) r.f2 [v0_]]) := by
 obtain rfl := C_len gp0
 have HS := Hp.start w
 have H := Aside0.mk h
 clear h
 unfold spec_l10Item.f at H
 go_enter Tryz.func138, Tryz.ntmps138
 go_wp2_with (first | ((with_reducible refine gd 1 rfl ?_); refine ev_bx HS ?_; clear HS; intro g1 w1 HS F) | ((with_reducible refine gd 2 rfl ?_); refine ev_bx HS ?_; clear HS; intro g2 w2 HS F) | ((with_reducible refine gd 3 rfl ?_); refine ev_bx HS ?_; clear HS; intro g3 w3 HS F) | ((with_reducible refine gate_store (p := 3) rfl ?_); refine ev_st 2 0 HS (seg := [.int .i64 48, .string (⟨#[]⟩ : ByteArray), .slice none 0 0]) ?_; clear HS; intro w7 HS F))
 replace HS := HS.nil 182 q182
 go_loopg [4] k (fun kq v_4 w' => ∃ (l21 : List S182) (v22 : Value) (x23 : Int), v_4 = .int .i64 x23 ∧ Aside0 (spec_l10Item.l0 kq l21 x23 a0 = some r) ∧ Aside0 (kq ≤ k) ∧ Hp noFP w w' [.box g1 [.string a0.f0, .int .i64 a0.f1, .int .i64 a0.f2, .int .i64 a0.f3, .int .i64 a0.f4, .slice Ap0 a0.f5.length cp0, .string a0.f6] 81, .box g2 [.int .i64 0, .string (⟨#[]⟩ : ByteArray), .slice none 0 0] 182, .box g3 [.int .i64 48, .string (⟨#[]⟩ : ByteArray), v22] 182, .own (Zd.slice 182 q182) l21 [v22]])
 case atStart => exact ⟨_, _, _, rfl, H, ⟨Nat.le_refl _⟩, HS⟩
 case round =>
  clear HS H; (try clear F)
  obtain ⟨l21, v22, x23, rfl, H, HKk20, HS⟩ := hrel
  obtain ⟨B22, d22, rfl, m22⟩ := HS.form 3 rfl
  have F := HS.boxes; simp only [bxn] at F
  cases gk with
  | zero => exact absurd H.out (by simp [spec_l10Item.l0])
  | succ k20 =>
   simp only [spec_l10Item.l0] at H
   replace H := zif H; rcases H with ⟨c25, H⟩ | ⟨c25, H⟩
   case inl =>
    (try go_wp2)
    replace H := zgo H; obtain ⟨c8, H⟩ := H
    replace H := zgo H; obtain ⟨c9, H⟩ := H
    obtain ⟨ad10, rfl, e10_0, e10_1⟩ := at_T238 gp0 x23 (of_eq_true c8) (of_eq_true c9)
    replace H := zbind H; obtain ⟨t12, ht12, H⟩ := H
    replace H := zgo H; obtain ⟨c15, H⟩ := H
    replace H := zlets H; obtain ⟨y16, e_y16, H⟩ := H
    refine dr_start2 [.box g1 [.string a0.f0, .int .i64 a0.f1, .int .i64 a0.f2, .int .i64 a0.f3, .int .i64 a0.f4, .slice (some ad10) a0.f5.length cp0, .string a0.f6] 81, .box g2 [.int .i64 0, .string (⟨#[]⟩ : ByteArray), .slice none 0 0] 182, .box g3 [.int .i64 48, .string (⟨#[]⟩ : ByteArray), .slice B22 l21.length d22] 182, .emp] [19] HS (HS.arr [some 0, some 1, some 2, none] (by decide)) #[false, false, false, false, false, false, false, false, false, false, false, false, false, false, false, false, false, false, false, false] (by kernel_rfl) rfl rfl spec_l10Item.tT5 (fun w27 HT HS HH => ?_)
    (try clear F)
    refine drq_of [(0, some 13), (1, some 14), (2, some 15), (3, some 16), (4, some 17), (5, some 18), (6, some 19)] ?_
    repeat (first | refine drp HT ?_ | refine drt HT HH ?_)
    refine drq_end ?_
    refine dr_take 7 (some 20) HT HH (v := ?_) (a' := ?_) rfl rfl (by kernel_rfl) (fun _ _ _ h => h) (.inl ⟨by rfl, ?_⟩) ?_ ?_
    rotate_left
    · rintro w' ⟨rs', HS'⟩; have e10_0 := HS'.keepc e10_0; have e10_1 := HS'.keepc e10_1; go_simp; with_reducible rfl
    rotate_left
    · simp only [Act.put, ptn]; rfl
    refine drq_of [(8, some 21), (9, some 22), (10, some 23), (11, some 24), (12, some 25)] ?_
    repeat (first | refine drp HT ?_ | refine drt HT HH ?_)
    refine drq_end ?_
    refine dr_take 13 (some 26) HT HH (v := ?_) (a' := ?_) rfl rfl (by kernel_rfl) (fun _ _ _ h => h) (.inl ⟨by rfl, ?_⟩) ?_ ?_
    rotate_left
    · rintro w' ⟨rs', HS'⟩; have e10_0 := HS'.keepc e10_0; have e10_1 := HS'.keepc e10_1; go_simp; with_reducible rfl
    rotate_left
    · simp only [Act.put, ptn]; rfl
    refine dr1 14 HT fun K hK => ?_
    refine if_li (Zd.int .i64) [] ([(rd_T238 a0.f5 x23).f0, (rd_T238 a0.f5 x23).f1] : List Int) ([.int .i64 ((rd_T238 a0.f5 x23).f0)] ++ ([.int .i64 ((rd_T238 a0.f5 x23).f1)] ++ [])) HS (MadeL.cons (js1 := []) (c := [.int .i64 ((rd_T238 a0.f5 x23).f0)]) rfl (made_flat (fun _ => rfl)) (MadeL.cons (js1 := []) (c := [.int .i64 ((rd_T238 a0.f5 x23).f1)]) rfl (made_flat (fun _ => rfl)) MadeL.nil (by decide)) (by decide)) ?_; clear HS; intro v11 w11 HS F; obtain ⟨B11, d11, rfl, m11⟩ := HS.formn 2 4 rfl rfl
    refine hK.out _ _ ⟨[], HS.arr [some 0, some 1, some 2, none] (by decide)⟩ (fun HH => ?_)
    clear hK K
    refine norm_ (a' := ?_) ?_ ?_
    rotate_left
    · show Act.put _ (some 27) _ = _; simp only [Act.put, ptn]; rfl
    refine dr1 15 HT fun K hK => ?_
    refine go_cl1 HS (spec_l09Ints.calls ht12.out (HS.rd 4 rfl) m11) Tryz.func195 ?_; clear HS; intro v13 wt12 HS F; obtain ⟨B13, d13, rfl, m13⟩ := HS.form 5 rfl
    refine hK.out _ _ ⟨[], HS.arr [some 0, some 1, some 2, none] (by decide)⟩ (fun HH => ?_)
    clear hK K
    refine norm_ (a' := ?_) ?_ ?_
    rotate_left
    · show Act.put _ (some 28) _ = _; simp only [Act.put, ptn]; rfl
    refine dr1 16 HT fun K hK => ?_
    refine if_li q182 [5] ([t12] : List S182) ([.int .i64 t12.f0, .string t12.f1, .slice B13 t12.f2.length d13] ++ []) HS (MadeL.cons (js1 := [5]) (c := [.int .i64 t12.f0, .string t12.f1, .slice B13 t12.f2.length d13]) rfl (fun S hd hh => q182_pack (x := t12) hd (hh 5 (.own (Zd.slice 182 q182) t12.f2 [.slice B13 t12.f2.length d13]) rfl) (by decide)) MadeL.nil (by decide)) ?_; clear HS; intro v14 w14 HS F; obtain ⟨B14, d14, rfl, m14⟩ := HS.formn 1 6 rfl rfl
    refine hK.out _ _ ⟨[], HS.arr [some 0, some 1, some 2, none] (by decide)⟩ (fun HH => ?_)
    clear hK K
    refine norm_ (a' := ?_) ?_ ?_
    rotate_left
    · show Act.put _ (some 29) _ = _; simp only [Act.put, ptn]; rfl
    refine dr1 17 HT fun K hK => ?_
    refine wp_ap q182 3 6 HS rfl rfl Tryz.underlying180 info182 (of_eq_true c15) ?_; clear HS; intro v16 w16 HS; rw [← e_y16.out] at HS; obtain ⟨B16, d16, rfl, m16⟩ := HS.form 7 rfl
    (try simp only [hpn, hpm] at HS)
    have F := HS.boxes; simp only [bxn] at F
    refine hK.out _ _ ⟨[], HS.arr [some 0, some 1, some 2, none] (by decide)⟩ (fun HH => ?_)
    clear hK K
    refine norm_ (a' := ?_) ?_ ?_
    rotate_left
    · show Act.put _ (some 30) _ = _; simp only [Act.put, ptn]; rfl
    refine drq_of [(18, some 31)] ?_
    repeat (refine drp HT ?_)
    refine drq_end ?_
    refine dr_last 19 HT rfl (by kernel_rfl) (by decide) (fun K hK => ?_)
    refine if_st 2 2 HS (seg := [.slice B16 y16.length d16]) ?_; clear HS; intro w17 HS F
    refine hK.out _ _ ?_
    clear hK K
    refine done_ (done_of HT.out (by kernel_rfl)) ?_
    (try clear F)
    have F := HS.boxes; simp only [bxn] at F
    go_wp2
    go_roundg k20
    case measure => have := HKk20.out; omega
    case rel => exact ⟨_, _, _, rfl, H, ⟨by have := HKk20.out; omega⟩, HS.pick [0, 1, 2, 7] (by decide) (by rfl)⟩
   (try go_wp2)
   replace H := zbind H; obtain ⟨t18, ht18, H⟩ := H
   replace H := zbind H; obtain ⟨t24, ht24, H⟩ := H
   replace H := zbind H; obtain ⟨t28, ht28, H⟩ := H
   replace H := zbind H; obtain ⟨t31, ht31, H⟩ := H
   replace H := zbind H; obtain ⟨t33, ht33, H⟩ := H
   refine dr_start2 [.box g1 [.string a0.f0, .int .i64 a0.f1, .int .i64 a0.f2, .int .i64 a0.f3, .int .i64 a0.f4, .slice Ap0 a0.f5.length cp0, .string a0.f6] 81, .box g2 [.int .i64 0, .string (⟨#[]⟩ : ByteArray), .slice none 0 0] 182, .box g3 [.int .i64 48, .string (⟨#[]⟩ : ByteArray), .slice B22 l21.length d22] 182, .emp] [18] HS (HS.arr [some 0, some 1, some 2, none] (by decide)) #[false, false, false, false, false, false, false, false, false, false, false, false, false, false, false, false, false, false, false] (by kernel_rfl) rfl rfl spec_l10Item.tT6 (fun w30 HT HS HH => ?_)
   (try clear F)
   refine drq_of [(0, some 32), (1, some 33), (3, some 35), (4, some 36), (6, some 38), (7, some 39), (9, some 41), (10, some 42), (12, some 44), (13, some 45), (15, some 47)] ?_
   repeat (first | refine drp HT ?_ | refine drt HT HH ?_)
   refine drq_end ?_
   refine dr1 2 HT fun K hK => ?_
   refine go_cl1 HS (spec_TextItem.calls ht18.out) Tryz.func193 ?_; clear HS; intro v19 wt18 HS F; obtain ⟨B19, d19, rfl, m19⟩ := HS.form 4 rfl
   refine hK.out _ _ ⟨[], HS.arr [some 0, some 1, some 2, none] (by decide)⟩ (fun HH => ?_)
   clear hK K
   refine norm_ (a' := ?_) ?_ ?_
   rotate_left
   · show Act.put _ (some 34) _ = _; simp only [Act.put, ptn]; rfl
   refine dr1 5 HT fun K hK => ?_
   refine go_cl1 HS (spec_IntItem.calls ht24.out) Tryz.func192 ?_; clear HS; intro v26 wt24 HS F; obtain ⟨B26, d26, rfl, m26⟩ := HS.form 5 rfl
   refine hK.out _ _ ⟨[], HS.arr [some 0, some 1, some 2, none] (by decide)⟩ (fun HH => ?_)
   clear hK K
   refine norm_ (a' := ?_) ?_ ?_
   rotate_left
   · show Act.put _ (some 37) _ = _; simp only [Act.put, ptn]; rfl
   refine dr1 8 HT fun K hK => ?_
   refine go_cl1 HS (spec_IntItem.calls ht28.out) Tryz.func192 ?_; clear HS; intro v29 wt28 HS F; obtain ⟨B29, d29, rfl, m29⟩ := HS.form 6 rfl
   refine hK.out _ _ ⟨[], HS.arr [some 0, some 1, some 2, none] (by decide)⟩ (fun HH => ?_)
   clear hK K
   refine norm_ (a' := ?_) ?_ ?_
   rotate_left
   · show Act.put _ (some 40) _ = _; simp only [Act.put, ptn]; rfl
   refine dr1 11 HT fun K hK => ?_
   refine go_cl1 HS (spec_IntItem.calls ht31.out) Tryz.func192 ?_; clear HS; intro v32 wt31 HS F; obtain ⟨B32, d32, rfl, m32⟩ := HS.form 7 rfl
   refine hK.out _ _ ⟨[], HS.arr [some 0, some 1, some 2, none] (by decide)⟩ (fun HH => ?_)
   clear hK K
   refine norm_ (a' := ?_) ?_ ?_
   rotate_left
   · show Act.put _ (some 43) _ = _; simp only [Act.put, ptn]; rfl
   refine dr1 14 HT fun K hK => ?_
   refine go_cl1 HS (spec_IntItem.calls ht33.out) Tryz.func192 ?_; clear HS; intro v34 wt33 HS F; obtain ⟨B34, d34, rfl, m34⟩ := HS.form 8 rfl
   refine hK.out _ _ ⟨[], HS.arr [some 0, some 1, some 2, none] (by decide)⟩ (fun HH => ?_)
   clear hK K
   refine norm_ (a' := ?_) ?_ ?_
   rotate_left
   · show Act.put _ (some 46) _ = _; simp only [Act.put, ptn]; rfl
   refine dr1 16 HT fun K hK => ?_
   refine if_li q182 [4, 5, 6, 7, 8, 3] ([t18, t24, t28, t31, t33, (⟨48, (⟨#[]⟩ : ByteArray), l21⟩ : S182)] : List S182) ([.int .i64 t18.f0, .string t18.f1, .slice B19 t18.f2.length d19] ++ ([.int .i64 t24.f0, .string t24.f1, .slice B26 t24.f2.length d26] ++ ([.int .i64 t28.f0, .string t28.f1, .slice B29 t28.f2.length d29] ++ ([.int .i64 t31.f0, .string t31.f1, .slice B32 t31.f2.length d32] ++ ([.int .i64 t33.f0, .string t33.f1, .slice B34 t33.f2.length d34] ++ ([.int .i64 48, .string (⟨#[]⟩ : ByteArray), .slice B22 l21.length d22] ++ [])))))) HS (MadeL.cons (js1 := [4]) (c := [.int .i64 t18.f0, .string t18.f1, .slice B19 t18.f2.length d19]) rfl (fun S hd hh => q182_pack (x := t18) hd (hh 4 (.own (Zd.slice 182 q182) t18.f2 [.slice B19 t18.f2.length d19]) rfl) (by decide)) (MadeL.cons (js1 := [5]) (c := [.int .i64 t24.f0, .string t24.f1, .slice B26 t24.f2.length d26]) rfl (fun S hd hh => q182_pack (x := t24) hd (hh 5 (.own (Zd.slice 182 q182) t24.f2 [.slice B26 t24.f2.length d26]) rfl) (by decide)) (MadeL.cons (js1 := [6]) (c := [.int .i64 t28.f0, .string t28.f1, .slice B29 t28.f2.length d29]) rfl (fun S hd hh => q182_pack (x := t28) hd (hh 6 (.own (Zd.slice 182 q182) t28.f2 [.slice B29 t28.f2.length d29]) rfl) (by decide)) (MadeL.cons (js1 := [7]) (c := [.int .i64 t31.f0, .string t31.f1, .slice B32 t31.f2.length d32]) rfl (fun S hd hh => q182_pack (x := t31) hd (hh 7 (.own (Zd.slice 182 q182) t31.f2 [.slice B32 t31.f2.length d32]) rfl) (by decide)) (MadeL.cons (js1 := [8]) (c := [.int .i64 t33.f0, .string t33.f1, .slice B34 t33.f2.length d34]) rfl (fun S hd hh => q182_pack (x := t33) hd (hh 8 (.own (Zd.slice 182 q182) t33.f2 [.slice B34 t33.f2.length d34]) rfl) (by decide)) (MadeL.cons (js1 := [3]) (c := [.int .i64 48, .string (⟨#[]⟩ : ByteArray), .slice B22 l21.length d22]) rfl (fun S hd hh => q182_pack (x := (⟨48, (⟨#[]⟩ : ByteArray), l21⟩ : S182)) hd (hh 3 (.own (Zd.slice 182 q182) l21 [.slice B22 l21.length d22]) rfl) (by decide)) MadeL.nil (by decide)) (by decide)) (by decide)) (by decide)) (by decide)) (by decide)) ?_; clear HS; intro v35 w35 HS F; obtain ⟨B35, d35, rfl, m35⟩ := HS.formn 6 9 rfl rfl
   refine hK.out _ _ ⟨[], HS.arr [some 0, some 1, some 2, none] (by decide)⟩ (fun HH => ?_)
   clear hK K
   refine norm_ (a' := ?_) ?_ ?_
   rotate_left
   · show Act.put _ (some 48) _ = _; simp only [Act.put, ptn]; rfl
   refine drq_of [(17, some 49)] ?_
   repeat (refine drp HT ?_)
   refine drq_end ?_
   refine dr_last 18 HT rfl (by kernel_rfl) (by decide) (fun K hK => ?_)
   refine if_st 1 0 HS (seg := [.int .i64 48, .string (⟨#[]⟩ : ByteArray), .slice B35 6 d35]) ?_; clear HS; intro w36 HS F
   refine hK.out _ _ ?_
   clear hK K
   refine done_ (done_of HT.out (by kernel_rfl)) ?_
   (try clear F)
   have F := HS.boxes; simp only [bxn] at F
   obtain rfl := zsome H
   go_wp2
   exact bodyPost_ret (results_single rfl (.cell _ _ _ _ _ rfl (HS.boxAt (i := 1) rfl) Tryz.underlying182 rfl (by kernel_rfl) .nil)) rfl ⟨_, rfl, HS.pick [9] (by decide) (by rfl)⟩
def spec_CrlText.f (k : Nat) (a0 : S81) : Option (ByteArray × Bool) := ((spec_CrlOk.f k a0).bind fun t3 => (if t3 = true then ((spec_l10Item.f k a0).bind fun t8 => ((spec_l09Bytes.f a0.f6).bind fun t10 => ((spec_ItemText.f k (⟨48, (⟨#[]⟩ : ByteArray), ([t8, t10] : List S182)⟩ : S182)).bind fun t13 => (some (t13.1, t13.2))))) else (some ((⟨#[]⟩ : ByteArray), false))))
def spec_CrlText.T3 : TT := (true, [([], []), ([0], [0]), ([], []), ([2], [2]), ([3, 1], [3]), ([1, 4], [1, 4]), ([5], [5]), ([6, 4], [6]), ([7], [7]), ([7], [7]), ([8, 7, 0, 1, 2, 3, 4, 5, 6, 7, 8, 9], [8]), ([9, 10, 0, 1, 2, 3, 4, 5, 6, 7, 8, 9, 10], [9])])
theorem spec_CrlText.tT3 : rtab .any (opsOf Tryz.f56 3) = spec_CrlText.T3 := by kernel_rfl
theorem spec_CrlText.calls {k : Nat} {a0 : S81} {Ap0 : Option Addr} {np0 cp0 : Nat} {r1 : ByteArray} {r2 : Bool} {w : World} (h : spec_CrlText.f k a0 = some (r1, r2)) (gp0 : k238.C w Ap0 np0 a0.f5) (lp0 : np0 ≤ cp0) :
    Calls Tryz.prog 56 #[.agg #[.string a0.f0, .int .i64 a0.f1, .int .i64 a0.f2, .int .i64 a0.f3, .int .i64 a0.f4, .slice Ap0 np0 cp0, .string a0.f6]] w (fun e w' => e = .returned (.tuple #[.string r1, .bool r2]) ∧ Hp noFP w w' []) := by
 obtain rfl := C_len gp0
 have HS := Hp.start w
 have H := Aside0.mk h
 clear h
 unfold spec_CrlText.f at H
 go_enter Tryz.func56, Tryz.ntmps56
 replace H := zbind H; obtain ⟨t3, ht3, H⟩ := H
 go_upto_if 6 with (first | ((with_reducible refine gd 1 rfl ?_); refine ev_bx HS ?_; clear HS; intro g1 w1 HS F) | ((with_reducible refine gd 5 rfl ?_); refine ev_cl HS (spec_CrlOk.calls ht3.out (HS.ro gp0) lp0) Tryz.func137 ?_; clear HS; intro wt3 HS F))
 replace H := znifb H; rcases H with ⟨c5, H⟩ | ⟨c5, H⟩
 case inl =>
  subst c5
  (try simp only [dcn, dcu, dcf])
  obtain ⟨rfl, rfl⟩ := zsome2 H
  go_wp2
  exact bodyPost_ret (results_list (rs := [.tmp 2, .tmp 3]) rfl (by simp) (.tmp (.tmp .nil))) rfl ⟨rfl, HS.pick [] (by decide) (by rfl)⟩
 subst c5
 (try simp only [dcn, dcu, dcf])
 (try go_wp2)
 replace H := zbind H; obtain ⟨t8, ht8, H⟩ := H
 replace H := zbind H; obtain ⟨t10, ht10, H⟩ := H
 replace H := zbind H; obtain ⟨t13, ht13, H⟩ := H
 refine dr_start [] HS #[false, false, false, false, false, false, false, false, false, false, false, false] (by kernel_rfl) rfl rfl spec_CrlText.tT3 (fun w7 HT HS HH => ?_)
 (try clear F)
 refine drq_of [(0, some 7), (2, some 9), (3, some 10)] ?_
 repeat (first | refine drp HT ?_ | refine drt HT HH ?_)
 refine drq_end ?_
 refine dr1 1 HT fun K hK => ?_
 refine go_cl1 HS (spec_l10Item.calls ht8.out (HS.ro gp0) lp0) Tryz.func138 ?_; clear HS; intro v9 wt8 HS F; obtain ⟨B9, d9, rfl, m9⟩ := HS.form 1 rfl
 refine nrm 8 hK ⟨_, HS⟩ (fun HH => ?_); clear hK K
 refine dr1 4 HT fun K hK => ?_
 refine go_cl1 HS (spec_l09Bytes.calls ht10.out) Tryz.func136 ?_; clear HS; intro v11 wt10 HS F; obtain ⟨B11, d11, rfl, m11⟩ := HS.form 2 rfl
 refine nrm 11 hK ⟨_, HS⟩ (fun HH => ?_); clear hK K
 refine dr1 5 HT fun K hK => ?_
 refine if_li q182 [1, 2] ([t8, t10] : List S182) ([.int .i64 t8.f0, .string t8.f1, .slice B9 t8.f2.length d9] ++ ([.int .i64 t10.f0, .string t10.f1, .slice B11 t10.f2.length d11] ++ [])) HS (MadeL.cons (js1 := [1]) (c := [.int .i64 t8.f0, .string t8.f1, .slice B9 t8.f2.length d9]) rfl (fun S hd hh => q182_pack (x := t8) hd (hh 1 (.own (Zd.slice 182 q182) t8.f2 [.slice B9 t8.f2.length d9]) rfl) (by decide)) (MadeL.cons (js1 := [2]) (c := [.int .i64 t10.f0, .string t10.f1, .slice B11 t10.f2.length d11]) rfl (fun S hd hh => q182_pack (x := t10) hd (hh 2 (.own (Zd.slice 182 q182) t10.f2 [.slice B11 t10.f2.length d11]) rfl) (by decide)) MadeL.nil (by decide)) (by decide)) ?_; clear HS; intro v12 w12 HS F; obtain ⟨B12, d12, rfl, m12⟩ := HS.formn 2 3 rfl rfl
 refine nrm 12 hK ⟨_, HS⟩ (fun HH => ?_); clear hK K
 refine drq_of [(6, some 13)] ?_
 repeat (refine drp HT ?_)
 refine drq_end ?_
 refine dr1 7 HT fun K hK => ?_
 refine go_cl HS (spec_ItemText.calls ht13.out (HS.rd 3 rfl) m12) Tryz.func134 ?_; clear HS; intro wt13 HS F
 refine nrm 14 hK ⟨_, HS⟩ (fun HH => ?_); clear hK K
 refine drq_of [(8, some 15), (9, some 16), (10, some 2), (11, some 3)] ?_
 repeat (refine drp HT ?_)
 refine drq_end ?_
 refine done_ (done_of HT.out (by kernel_rfl)) ?_
 (try clear F)
 have F := HS.boxes; simp only [bxn] at F
 obtain ⟨rfl, rfl⟩ := zsome2 H
 go_wp2
 exact bodyPost_ret (results_list (rs := [.tmp 2, .tmp 3]) rfl (by simp) (.tmp (.tmp .nil))) rfl ⟨rfl, HS.pick [] (by decide) (by rfl)⟩
def spec_l13Anchor.f (k : Nat) (a0 : S115) : Option (Bool) := ((spec_NameOk.f k a0.f0).bind fun t3 => (if t3 = true then (some ((a0.f1.size : Int) == 15)) else (some false)))
theorem spec_l13Anchor.calls {k : Nat} {a0 : S115} {r : Bool} {w : World} (h : spec_l13Anchor.f k a0 = some r) :
    Calls Tryz.prog 57 #[.agg #[.string a0.f0, .string a0.f1]] w (fun e w' => e = .returned (.bool r) ∧ Hp noFP w w' []) := by
 have HS := Hp.start w
 have H := Aside0.mk h
 clear h
 unfold spec_l13Anchor.f at H
 go_enter Tryz.func57, Tryz.ntmps57
 replace H := zbind H; obtain ⟨t3, ht3, H⟩ := H
 replace H := zifb H; rcases H with ⟨c5, H⟩ | ⟨c5, H⟩
 case inl =>
  subst c5
  obtain rfl := zsome H
  go_wp2_with (first | ((with_reducible refine gd 1 rfl ?_); refine ev_bx HS ?_; clear HS; intro g1 w1 HS F) | ((with_reducible refine gd 5 rfl ?_); refine ev_cl HS (spec_NameOk.calls ht3.out) Tryz.func139 ?_; clear HS; intro wt3 HS F))
  go_ret
  exact HS.pk
 subst c5
 obtain rfl := zsome H
 go_wp2_with (first | ((with_reducible refine gd 1 rfl ?_); refine ev_bx HS ?_; clear HS; intro g1 w1 HS F) | ((with_reducible refine gd 5 rfl ?_); refine ev_cl HS (spec_NameOk.calls ht3.out) Tryz.func139 ?_; clear HS; intro wt3 HS F))
 go_ret
 exact HS.pk
end Go.Proofs.YtacocpknielofaaGreatDoor.F

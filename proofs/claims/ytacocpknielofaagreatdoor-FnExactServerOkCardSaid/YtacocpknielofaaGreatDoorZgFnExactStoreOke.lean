/- Functions of the program and of the law, and that their calls do what is written here. -/
import Derived.Test.YtacocpknielofaaGreatDoorZgFnExactStoreOka
import Derived.Test.YtacocpknielofaaGreatDoorZgFnExactStoreOkc
namespace Go.Proofs.YtacocpknielofaaGreatDoor.F
open Go.RowKit Go.Proofs.YtacocpknielofaaGreatDoorW.PrintWords Go.Proofs.YtacocpknielofaaGreatDoorW.PrintLast Go.Proofs.YtacocpknielofaaGreatDoorW.PrintMore Go.Proofs.YtacocpknielofaaGreatDoor.Z
attribute [local go_sem] max2_int min2_int max_two min_two max_three min_three max_four min_four
set_option linter.unusedVariables false
set_option linter.unusedSimpArgs false
set_option maxRecDepth 100000
/-! ### spec_CrlOk: function 137 -/
def spec_CrlOk.l0 : Nat → Int → S81 → Option (Bool)
  | 0, _, _ => none
  | k + 1, x23, a0 => (if x23 < (a0.f5.length : Int) then (if 0 ≤ x23 then (if x23 < (a0.f5.length : Int) then ((spec_l09Num.f ((rd_T238 a0.f5 x23).f0)).bind fun t102001 => (if t102001 = true then ((spec_l01In.f ((rd_T238 a0.f5 x23).f1) 1 10).bind fun t107001 => (if t107001 = true then (if (rd_T238 a0.f5 x23).f1 = 8 then (if a0.f4 = 0 then (some false) else (if 0 < x23 then (if 0 ≤ (wrap64 (x23 - 1)) then (if (wrap64 (x23 - 1)) < (a0.f5.length : Int) then (if (rd_T238 a0.f5 x23).f0 ≤ (rd_T238 a0.f5 (wrap64 (x23 - 1))).f0 then (some false) else (spec_CrlOk.l0 k (wrap64 (x23 + 1)) a0)) else none) else none) else (spec_CrlOk.l0 k (wrap64 (x23 + 1)) a0))) else (if 0 < x23 then (if 0 ≤ (wrap64 (x23 - 1)) then (if (wrap64 (x23 - 1)) < (a0.f5.length : Int) then (if (rd_T238 a0.f5 x23).f0 ≤ (rd_T238 a0.f5 (wrap64 (x23 - 1))).f0 then (some false) else (spec_CrlOk.l0 k (wrap64 (x23 + 1)) a0)) else none) else none) else (spec_CrlOk.l0 k (wrap64 (x23 + 1)) a0))) else (some false))) else (some false))) else none) else none) else (some true))
def spec_CrlOk.f (k : Nat) (a0 : S81) : Option (Bool) := ((spec_NameOk.f k a0.f0).bind fun t3 => (if t3 = true then ((spec_l01In.f a0.f1 1 9999).bind fun t6 => (if t6 = true then ((spec_l01In.f a0.f4 0 (wrap64 (a0.f1 - 1))).bind fun t9 => (if t9 = true then ((spec_l09Num.f a0.f2).bind fun t12 => (if t12 = true then ((spec_l09Num.f a0.f3).bind fun t15 => (if t15 = true then (if 8 < (a0.f5.length : Int) then (some false) else (if (a0.f6.size : Int) = 15 then (spec_CrlOk.l0 k 0 a0) else (some false))) else (some false))) else (some false))) else (some false))) else (some false))) else (some false)))
def spec_CrlOk.T7 : Bool × List (List Nat × List Nat) := (true, [([], []), ([0], [0]), ([1], [1]), ([2], [2]), ([3, 2], [3]), ([4], [4]), ([5, 4], [4, 5]), ([6, 4, 4], [4, 6]), ([7, 4], [4, 7]), ([4, 8], [4, 8]), ([9, 7], [9]), ([10], [10]), ([11, 10], [10, 11]), ([12, 10], [10, 12]), ([13, 10, 10], [10, 13]), ([14], [14]), ([15, 14], [14, 15]), ([16, 14], [14, 16]), ([14, 17, 10], [10, 14, 17]), ([10, 18], [10, 18]), ([19, 14], [19]), ([20], [20]), ([21, 20], [20, 21]), ([22, 20, 20], [20, 22]), ([23], [23]), ([24, 23], [23, 24]), ([23], [23]), ([26, 23], [23, 26]), ([25, 27, 23], [23, 25, 27]), ([28, 23], [23, 28]), ([29, 23], [23, 29]), ([23], [23]), ([31, 23], [23, 31]), ([30, 32, 23], [23, 30, 32]), ([23, 33, 20], [20, 23, 33]), ([20, 34], [20, 34])])
theorem spec_CrlOk.tT7 : rtab .any (opsOf Tryz.f137 7) = spec_CrlOk.T7 := by kernel_rfl
set_option maxHeartbeats 16000000 in
theorem spec_CrlOk.calls {k : Nat} {a0 : S81} {Ap0 : Option Addr} {np0 cp0 : Nat} {r : Bool} {w : World} (h : spec_CrlOk.f k a0 = some r) (gp0 : k238.C w Ap0 np0 a0.f5) (lp0 : np0 ≤ cp0) :
    Calls Tryz.prog 137 #[.agg #[.string a0.f0, .int .i64 a0.f1, .int .i64 a0.f2, .int .i64 a0.f3, .int .i64 a0.f4, .slice Ap0 np0 cp0, .string a0.f6]] w (fun e w' => e = .returned (.bool r) ∧ Hp noFP w w' []) := by
 obtain rfl := C_len gp0
 have HS := Hp.start w
 have H := Aside0.mk h
 clear h
 unfold spec_CrlOk.f at H
 go_enter Tryz.func137, Tryz.ntmps137
 replace H := zbind H; obtain ⟨t3, ht3, H⟩ := H
 by_cases c5 : t3 = true
 case neg =>
  replace H := zneg c5 H
  replace c5 := eq_false_of_ne_true c5
  subst c5
  obtain rfl := zsome H
  go_wp2_with (first | ((with_reducible refine gate_dst (N := 1) rfl ?_); refine ev_bx HS ?_; clear HS; (try clear F); intro g1 w1 HS F) | ((with_reducible refine gate_dst (N := 7) rfl ?_); refine ev_cl HS (spec_NameOk.calls ht3.out) Tryz.func139 ?_; clear HS; (try clear F); intro wt3 HS F))
  go_ret
  exact HS.pk
 replace H := zpos c5 H
 subst c5
 replace H := zbind H; obtain ⟨t6, ht6, H⟩ := H
 by_cases c8 : t6 = true
 case neg =>
  replace H := zneg c8 H
  replace c8 := eq_false_of_ne_true c8
  subst c8
  obtain rfl := zsome H
  go_wp2_with (first | ((with_reducible refine gate_dst (N := 1) rfl ?_); refine ev_bx HS ?_; clear HS; (try clear F); intro g1 w1 HS F) | ((with_reducible refine gate_dst (N := 7) rfl ?_); refine ev_cl HS (spec_NameOk.calls ht3.out) Tryz.func139 ?_; clear HS; (try clear F); intro wt3 HS F) | ((with_reducible refine gate_dst (N := 12) rfl ?_); refine gate_guard (by rfl) ?_; refine ev_cl HS (spec_l01In.calls ht6.out) Tryz.func74 ?_; clear HS; (try clear F); intro wt6 HS F))
  go_ret
  exact HS.pk
 replace H := zpos c8 H
 subst c8
 replace H := zbind H; obtain ⟨t9, ht9, H⟩ := H
 by_cases c11 : t9 = true
 case neg =>
  replace H := zneg c11 H
  replace c11 := eq_false_of_ne_true c11
  subst c11
  obtain rfl := zsome H
  go_wp2_with (first | ((with_reducible refine gate_dst (N := 1) rfl ?_); refine ev_bx HS ?_; clear HS; (try clear F); intro g1 w1 HS F) | ((with_reducible refine gate_dst (N := 7) rfl ?_); refine ev_cl HS (spec_NameOk.calls ht3.out) Tryz.func139 ?_; clear HS; (try clear F); intro wt3 HS F) | ((with_reducible refine gate_dst (N := 12) rfl ?_); refine gate_guard (by rfl) ?_; refine ev_cl HS (spec_l01In.calls ht6.out) Tryz.func74 ?_; clear HS; (try clear F); intro wt6 HS F) | ((with_reducible refine gate_dst (N := 21) rfl ?_); refine gate_guard (by rfl) ?_; refine ev_cl HS (spec_l01In.calls ht9.out) Tryz.func74 ?_; clear HS; (try clear F); intro wt9 HS F))
  go_ret
  exact HS.pk
 replace H := zpos c11 H
 subst c11
 replace H := zbind H; obtain ⟨t12, ht12, H⟩ := H
 by_cases c14 : t12 = true
 case neg =>
  replace H := zneg c14 H
  replace c14 := eq_false_of_ne_true c14
  subst c14
  obtain rfl := zsome H
  go_wp2_with (first | ((with_reducible refine gate_dst (N := 1) rfl ?_); refine ev_bx HS ?_; clear HS; (try clear F); intro g1 w1 HS F) | ((with_reducible refine gate_dst (N := 7) rfl ?_); refine ev_cl HS (spec_NameOk.calls ht3.out) Tryz.func139 ?_; clear HS; (try clear F); intro wt3 HS F) | ((with_reducible refine gate_dst (N := 12) rfl ?_); refine gate_guard (by rfl) ?_; refine ev_cl HS (spec_l01In.calls ht6.out) Tryz.func74 ?_; clear HS; (try clear F); intro wt6 HS F) | ((with_reducible refine gate_dst (N := 21) rfl ?_); refine gate_guard (by rfl) ?_; refine ev_cl HS (spec_l01In.calls ht9.out) Tryz.func74 ?_; clear HS; (try clear F); intro wt9 HS F) | ((with_reducible refine gate_dst (N := 27) rfl ?_); refine gate_guard (by rfl) ?_; refine ev_cl HS (spec_l09Num.calls ht12.out) Tryz.func75 ?_; clear HS; (try clear F); intro wt12 HS F))
  go_ret
  exact HS.pk
 replace H := zpos c14 H
 subst c14
 replace H := zbind H; obtain ⟨t15, ht15, H⟩ := H
 by_cases c17 : t15 = true
 case neg =>
  replace H := zneg c17 H
  replace c17 := eq_false_of_ne_true c17
  subst c17
  obtain rfl := zsome H
  go_wp2_with (first | ((with_reducible refine gate_dst (N := 1) rfl ?_); refine ev_bx HS ?_; clear HS; (try clear F); intro g1 w1 HS F) | ((with_reducible refine gate_dst (N := 7) rfl ?_); refine ev_cl HS (spec_NameOk.calls ht3.out) Tryz.func139 ?_; clear HS; (try clear F); intro wt3 HS F) | ((with_reducible refine gate_dst (N := 12) rfl ?_); refine gate_guard (by rfl) ?_; refine ev_cl HS (spec_l01In.calls ht6.out) Tryz.func74 ?_; clear HS; (try clear F); intro wt6 HS F) | ((with_reducible refine gate_dst (N := 21) rfl ?_); refine gate_guard (by rfl) ?_; refine ev_cl HS (spec_l01In.calls ht9.out) Tryz.func74 ?_; clear HS; (try clear F); intro wt9 HS F) | ((with_reducible refine gate_dst (N := 27) rfl ?_); refine gate_guard (by rfl) ?_; refine ev_cl HS (spec_l09Num.calls ht12.out) Tryz.func75 ?_; clear HS; (try clear F); intro wt12 HS F) | ((with_reducible refine gate_dst (N := 33) rfl ?_); refine gate_guard (by rfl) ?_; refine ev_cl HS (spec_l09Num.calls ht15.out) Tryz.func75 ?_; clear HS; (try clear F); intro wt15 HS F))
  go_ret
  exact HS.pk
 replace H := zpos c17 H
 subst c17
 by_cases c18 : 8 < (a0.f5.length : Int)
 case pos =>
  replace H := zpos c18 H
  replace c18 := eq_true c18
  obtain rfl := zsome H
  go_wp2_with (first | ((with_reducible refine gate_dst (N := 1) rfl ?_); refine ev_bx HS ?_; clear HS; (try clear F); intro g1 w1 HS F) | ((with_reducible refine gate_dst (N := 7) rfl ?_); refine ev_cl HS (spec_NameOk.calls ht3.out) Tryz.func139 ?_; clear HS; (try clear F); intro wt3 HS F) | ((with_reducible refine gate_dst (N := 12) rfl ?_); refine gate_guard (by rfl) ?_; refine ev_cl HS (spec_l01In.calls ht6.out) Tryz.func74 ?_; clear HS; (try clear F); intro wt6 HS F) | ((with_reducible refine gate_dst (N := 21) rfl ?_); refine gate_guard (by rfl) ?_; refine ev_cl HS (spec_l01In.calls ht9.out) Tryz.func74 ?_; clear HS; (try clear F); intro wt9 HS F) | ((with_reducible refine gate_dst (N := 27) rfl ?_); refine gate_guard (by rfl) ?_; refine ev_cl HS (spec_l09Num.calls ht12.out) Tryz.func75 ?_; clear HS; (try clear F); intro wt12 HS F) | ((with_reducible refine gate_dst (N := 33) rfl ?_); refine gate_guard (by rfl) ?_; refine ev_cl HS (spec_l09Num.calls ht15.out) Tryz.func75 ?_; clear HS; (try clear F); intro wt15 HS F))
  go_ret
  exact HS.pk
 replace H := zneg c18 H
 replace c18 := eq_false c18
 go_upto_if 47 with (first | ((with_reducible refine gate_dst (N := 1) rfl ?_); refine ev_bx HS ?_; clear HS; (try clear F); intro g1 w1 HS F) | ((with_reducible refine gate_dst (N := 7) rfl ?_); refine ev_cl HS (spec_NameOk.calls ht3.out) Tryz.func139 ?_; clear HS; (try clear F); intro wt3 HS F) | ((with_reducible refine gate_dst (N := 12) rfl ?_); refine gate_guard (by rfl) ?_; refine ev_cl HS (spec_l01In.calls ht6.out) Tryz.func74 ?_; clear HS; (try clear F); intro wt6 HS F) | ((with_reducible refine gate_dst (N := 21) rfl ?_); refine gate_guard (by rfl) ?_; refine ev_cl HS (spec_l01In.calls ht9.out) Tryz.func74 ?_; clear HS; (try clear F); intro wt9 HS F) | ((with_reducible refine gate_dst (N := 27) rfl ?_); refine gate_guard (by rfl) ?_; refine ev_cl HS (spec_l09Num.calls ht12.out) Tryz.func75 ?_; clear HS; (try clear F); intro wt12 HS F) | ((with_reducible refine gate_dst (N := 33) rfl ?_); refine gate_guard (by rfl) ?_; refine ev_cl HS (spec_l09Num.calls ht15.out) Tryz.func75 ?_; clear HS; (try clear F); intro wt15 HS F))
 by_cases c19 : (a0.f6.size : Int) = 15
 case neg =>
  replace H := zneg c19 H
  have c19a := beq_eq_false_iff_ne.mpr c19
  have c19b := bne_iff_ne.mpr c19
  clear c19
  (try simp only [c19a, c19b, dcn])
  obtain rfl := zsome H
  go_wp2
  go_ret
  exact HS.pk
 replace H := zpos c19 H
 have c19a := beq_iff_eq.mpr c19
 have c19b := bne_eq_false_iff_eq.mpr c19
 clear c19
 (try simp only [c19a, c19b, dcn])
 go_wp2
 go_loopg [3] k (fun kq v_3 w' => ∃ (x23 : Int), v_3 = .int .i64 x23 ∧ Aside0 (spec_CrlOk.l0 kq x23 a0 = some r) ∧ Aside0 (kq ≤ k) ∧ Hp noFP w w' [.box g1 [.string a0.f0, .int .i64 a0.f1, .int .i64 a0.f2, .int .i64 a0.f3, .int .i64 a0.f4, .slice Ap0 a0.f5.length cp0, .string a0.f6] 81])
 case atStart => exact ⟨_, rfl, H, ⟨Nat.le_refl _⟩, HS⟩
 case round =>
  clear HS H; (try clear F)
  obtain ⟨x23, rfl, H, HKk22, HS⟩ := hrel
  have F := HS.boxes; simp only [bxn] at F
  cases gk with
  | zero => exact absurd H.out (by simp [spec_CrlOk.l0])
  | succ k22 =>
   simp only [spec_CrlOk.l0] at H
   by_cases c25 : x23 < (a0.f5.length : Int)
   case neg =>
    replace H := zneg c25 H
    replace c25 := eq_false c25
    obtain rfl := zsome H
    go_wp2
    go_ret
    exact HS.pk
   replace H := zpos c25 H
   replace c25 := eq_true c25
   obtain ⟨c26, H⟩ := zgo H
   obtain ⟨c27, H⟩ := zgo H
   obtain ⟨ad28, rfl, e28_0, e28_1⟩ := at_T238 gp0 x23 (of_eq_true c26) (of_eq_true c27)
   have e28_0_28 := (HS.keepc e28_0)
   have e28_1_28 := (HS.keepc e28_1)
   go_wp2_with (first | ((with_reducible refine gate_dst (N := 4) rfl ?_); refine ev_bx HS ?_; clear HS; (try clear F); intro g4 w4 HS F) | ((with_reducible refine gate_store (p := 4) rfl ?_); refine ev_st 1 0 HS (seg := [.int .i64 ((rd_T238 a0.f5 x23).f0), .int .i64 ((rd_T238 a0.f5 x23).f1)]) ?_; clear HS; (try clear F); intro w31 HS F))
   replace H := zbind H; obtain ⟨t102001, ht102001, H⟩ := H
   by_cases c104001 : t102001 = true
   case neg =>
    replace H := zneg c104001 H
    replace c104001 := eq_false_of_ne_true c104001
    subst c104001
    refine dr_start [] HS #[false, false, false, false, false, false, false, false, false, false, false, false, false, false, false, false, false, false, false, false, false, false, false, false, false, false, false, false, false, false, false, false, false, false, false, false] (by kernel_rfl) rfl rfl spec_CrlOk.tT7 (fun w48 HT HS HH => ?_)
    (try clear F)
    refine drq_of [(0, some 60), (1, some 61)] ?_
    repeat (first | refine drp HT ?_ | refine drt HT HH ?_)
    refine drq_end ?_
    refine dr1 2 HT fun K hK => ?_
    refine go_cl HS (spec_l09Num.calls ht102001.out) Tryz.func75 ?_; clear HS; (try clear F); intro wt102001 HS F
    refine nrm 62 hK ⟨_, HS⟩ (fun HH => ?_); clear hK K
    refine drq_of [(3, some 63), (4, some 64), (5, some 65), (6, some 66), (7, some 67), (8, some 68), (9, some 69), (10, some 70), (11, some 71), (12, some 72), (13, some 73), (14, some 74), (15, some 75), (16, some 76), (17, some 77), (18, some 78), (19, some 79), (20, some 80), (21, some 81), (22, some 82), (23, some 83), (24, some 84), (25, some 85), (26, some 86), (27, some 87), (28, some 88), (29, some 89), (30, some 90), (31, some 91), (32, some 92), (33, some 93), (34, some 94), (35, some 95)] ?_
    repeat (first | (refine drq_pure HT (v := ?_) (a' := ?_) rfl rfl (by kernel_rfl) (fun _ _ _ h => h) (.inl ⟨by rfl, ?_⟩) ?_ ?_; rotate_left; (intro w'; go_simp; with_reducible rfl); rotate_left; (simp only [Act.put, ptn]; rfl)) | (refine drq_pure HT (v := undef) (a' := ?_) rfl rfl (by kernel_rfl) (fun _ _ _ h => h) (.inr ⟨by rfl, rfl⟩) ?_ ?_; rotate_left; (simp only [Act.put, ptn]; rfl)))
    refine drq_end ?_
    refine done_ (done_of HT.out (by kernel_rfl)) ?_
    (try clear F)
    have F := HS.boxes; simp only [bxn] at F
    obtain rfl := zsome H
    go_wp2
    go_ret
    exact HS.pk
   replace H := zpos c104001 H
   subst c104001
   replace H := zbind H; obtain ⟨t107001, ht107001, H⟩ := H
   by_cases c110001 : t107001 = true
   case neg =>
    replace H := zneg c110001 H
    replace c110001 := eq_false_of_ne_true c110001
    subst c110001
    refine dr_start [] HS #[false, false, false, false, false, false, false, false, false, false, false, false, false, false, false, false, false, false, false, false, false, false, false, false, false, false, false, false, false, false, false, false, false, false, false, false] (by kernel_rfl) rfl rfl spec_CrlOk.tT7 (fun w46 HT HS HH => ?_)
    (try clear F)
    refine drq_of [(0, some 60), (1, some 61)] ?_
    repeat (first | refine drp HT ?_ | refine drt HT HH ?_)
    refine drq_end ?_
    refine dr1 2 HT fun K hK => ?_
    refine go_cl HS (spec_l09Num.calls ht102001.out) Tryz.func75 ?_; clear HS; (try clear F); intro wt102001 HS F
    refine nrm 62 hK ⟨_, HS⟩ (fun HH => ?_); clear hK K
    refine drq_of [(3, some 63), (4, some 64), (5, some 65), (6, some 66)] ?_
    repeat (first | refine drp HT ?_ | refine drt HT HH ?_)
    refine drq_end ?_
    refine dr1 7 HT fun K hK => ?_
    refine go_cl HS (spec_l01In.calls ht107001.out) Tryz.func74 ?_; clear HS; (try clear F); intro wt107001 HS F
    refine nrm 67 hK ⟨_, HS⟩ (fun HH => ?_); clear hK K
    refine drq_of [(8, some 68), (9, some 69), (10, some 70), (11, some 71), (12, some 72), (13, some 73), (14, some 74), (15, some 75), (16, some 76), (17, some 77), (18, some 78), (19, some 79), (20, some 80), (21, some 81), (22, some 82), (23, some 83), (24, some 84), (25, some 85), (26, some 86), (27, some 87), (28, some 88), (29, some 89), (30, some 90), (31, some 91), (32, some 92), (33, some 93), (34, some 94), (35, some 95)] ?_
    repeat (first | (refine drq_pure HT (v := ?_) (a' := ?_) rfl rfl (by kernel_rfl) (fun _ _ _ h => h) (.inl ⟨by rfl, ?_⟩) ?_ ?_; rotate_left; (intro w'; go_simp; with_reducible rfl); rotate_left; (simp only [Act.put, ptn]; rfl)) | (refine drq_pure HT (v := undef) (a' := ?_) rfl rfl (by kernel_rfl) (fun _ _ _ h => h) (.inr ⟨by rfl, rfl⟩) ?_ ?_; rotate_left; (simp only [Act.put, ptn]; rfl)))
    refine drq_end ?_
    refine done_ (done_of HT.out (by kernel_rfl)) ?_
    (try clear F)
    have F := HS.boxes; simp only [bxn] at F
    obtain rfl := zsome H
    go_wp2
    go_ret
    exact HS.pk
   replace H := zpos c110001 H
   subst c110001
   by_cases c114001 : (rd_T238 a0.f5 x23).f1 = 8
   case neg =>
    replace H := zneg c114001 H
    have c114001a := beq_eq_false_iff_ne.mpr c114001
    have c114001b := bne_iff_ne.mpr c114001
    clear c114001
    by_cases c123001 : 0 < x23
    case neg =>
     replace H := zneg c123001 H
     replace c123001 := eq_false c123001
     refine dr_start [] HS #[false, false, false, false, false, false, false, false, false, false, false, false, false, false, false, false, false, false, false, false, false, false, false, false, false, false, false, false, false, false, false, false, false, false, false, false] (by kernel_rfl) rfl rfl spec_CrlOk.tT7 (fun w44 HT HS HH => ?_)
     (try clear F)
     refine drq_of [(0, some 60), (1, some 61)] ?_
     repeat (first | refine drp HT ?_ | refine drt HT HH ?_)
     refine drq_end ?_
     refine dr1 2 HT fun K hK => ?_
     refine go_cl HS (spec_l09Num.calls ht102001.out) Tryz.func75 ?_; clear HS; (try clear F); intro wt102001 HS F
     refine nrm 62 hK ⟨_, HS⟩ (fun HH => ?_); clear hK K
     refine drq_of [(3, some 63), (4, some 64), (5, some 65), (6, some 66)] ?_
     repeat (first | refine drp HT ?_ | refine drt HT HH ?_)
     refine drq_end ?_
     refine dr1 7 HT fun K hK => ?_
     refine go_cl HS (spec_l01In.calls ht107001.out) Tryz.func74 ?_; clear HS; (try clear F); intro wt107001 HS F
     refine nrm 67 hK ⟨_, HS⟩ (fun HH => ?_); clear hK K
     refine drq_of [(8, some 68), (9, some 69), (10, some 70), (11, some 71), (12, some 72), (13, some 73), (14, some 74), (15, some 75), (16, some 76), (17, some 77), (18, some 78), (19, some 79), (20, some 80), (21, some 81), (22, some 82), (23, some 83), (24, some 84), (25, some 85), (26, some 86), (27, some 87), (28, some 88), (29, some 89), (30, some 90), (31, some 91), (32, some 92), (33, some 93), (34, some 94), (35, some 95)] ?_
     repeat (first | (refine drq_pure HT (v := ?_) (a' := ?_) rfl rfl (by kernel_rfl) (fun _ _ _ h => h) (.inl ⟨by rfl, ?_⟩) ?_ ?_; rotate_left; (intro w'; go_simp; with_reducible rfl); rotate_left; (simp only [Act.put, ptn]; rfl)) | (refine drq_pure HT (v := undef) (a' := ?_) rfl rfl (by kernel_rfl) (fun _ _ _ h => h) (.inr ⟨by rfl, rfl⟩) ?_ ?_; rotate_left; (simp only [Act.put, ptn]; rfl)) | (refine drq_take HT HH (v := ?_) (a' := ?_) rfl rfl (by kernel_rfl) (fun _ _ _ h => h) (.inl ⟨by rfl, ?_⟩) ?_ ?_; rotate_left; (rintro w' ⟨rs', HS'⟩; have F := HS'.boxes; simp only [bxn, List.cons_append, List.nil_append] at F; go_simp; with_reducible rfl); rotate_left; (simp only [Act.put, ptn]; rfl)))
     refine drq_end ?_
     refine done_ (done_of HT.out (by kernel_rfl)) ?_
     (try clear F)
     have F := HS.boxes; simp only [bxn] at F
     go_wp2
     go_roundg k22
     case measure => have := HKk22.out; omega
     case rel => exact ⟨_, rfl, H, ⟨by have := HKk22.out; omega⟩, HS.pick [0] (by decide) (by rfl)⟩
    replace H := zpos c123001 H
    replace c123001 := eq_true c123001
    obtain ⟨c128001, H⟩ := zgo H
    obtain ⟨c128002, H⟩ := zgo H
    obtain ⟨ad128999, hq128999, e128999_0, e128999_1⟩ := at_T238 gp0 (wrap64 (x23 - 1)) (of_eq_true c128001) (of_eq_true c128002); obtain rfl := Option.some.inj hq128999
    refine dr_start [] HS #[false, false, false, false, false, false, false, false, false, false, false, false, false, false, false, false, false, false, false, false, false, false, false, false, false, false, false, false, false, false, false, false, false, false, false, false] (by kernel_rfl) rfl rfl spec_CrlOk.tT7 (fun w41 HT HS HH => ?_)
    (try clear F)
    refine drq_of [(0, some 60), (1, some 61)] ?_
    repeat (first | refine drp HT ?_ | refine drt HT HH ?_)
    refine drq_end ?_
    refine dr1 2 HT fun K hK => ?_
    refine go_cl HS (spec_l09Num.calls ht102001.out) Tryz.func75 ?_; clear HS; (try clear F); intro wt102001 HS F
    refine nrm 62 hK ⟨_, HS⟩ (fun HH => ?_); clear hK K
    refine drq_of [(3, some 63), (4, some 64), (5, some 65), (6, some 66)] ?_
    repeat (first | refine drp HT ?_ | refine drt HT HH ?_)
    refine drq_end ?_
    refine dr1 7 HT fun K hK => ?_
    refine go_cl HS (spec_l01In.calls ht107001.out) Tryz.func74 ?_; clear HS; (try clear F); intro wt107001 HS F
    refine nrm 67 hK ⟨_, HS⟩ (fun HH => ?_); clear hK K
    refine drq_of [(8, some 68), (9, some 69), (10, some 70), (11, some 71), (12, some 72), (13, some 73), (14, some 74), (15, some 75), (16, some 76), (17, some 77), (18, some 78), (19, some 79), (20, some 80), (21, some 81), (22, some 82), (23, some 83), (24, some 84), (25, some 85), (26, some 86), (27, some 87), (28, some 88), (29, some 89)] ?_
    repeat (first | (refine drq_pure HT (v := ?_) (a' := ?_) rfl rfl (by kernel_rfl) (fun _ _ _ h => h) (.inl ⟨by rfl, ?_⟩) ?_ ?_; rotate_left; (intro w'; go_simp; with_reducible rfl); rotate_left; (simp only [Act.put, ptn]; rfl)) | (refine drq_pure HT (v := undef) (a' := ?_) rfl rfl (by kernel_rfl) (fun _ _ _ h => h) (.inr ⟨by rfl, rfl⟩) ?_ ?_; rotate_left; (simp only [Act.put, ptn]; rfl)) | (refine drq_take HT HH (v := ?_) (a' := ?_) rfl rfl (by kernel_rfl) (fun _ _ _ h => h) (.inl ⟨by rfl, ?_⟩) ?_ ?_; rotate_left; (rintro w' ⟨rs', HS'⟩; have F := HS'.boxes; simp only [bxn, List.cons_append, List.nil_append] at F; go_simp; with_reducible rfl); rotate_left; (simp only [Act.put, ptn]; rfl)))
    refine drq_end ?_
    refine dr_take 30 (some 90) HT HH (v := ?_) (a' := ?_) rfl rfl (by kernel_rfl) (fun _ _ _ h => h) (.inl ⟨by rfl, ?_⟩) ?_ ?_
    rotate_left
    · rintro w' ⟨rs', HS'⟩; have e128999_0 := (HS'.keepc e128999_0); have e128999_1 := (HS'.keepc e128999_1); go_simp; with_reducible rfl
    rotate_left
    · simp only [Act.put, ptn]; rfl
    refine drq_of [(31, some 91), (32, some 92), (33, some 93), (34, some 94), (35, some 95)] ?_
    repeat (first | refine drp HT ?_ | refine drt HT HH ?_)
    refine drq_end ?_
    refine done_ (done_of HT.out (by kernel_rfl)) ?_
    (try clear F)
    have F := HS.boxes; simp only [bxn] at F
    by_cases c43 : (rd_T238 a0.f5 x23).f0 ≤ (rd_T238 a0.f5 (wrap64 (x23 - 1))).f0
    case pos =>
     replace H := zpos c43 H
     replace c43 := eq_true c43
     (try simp only [c43, dcn])
     obtain rfl := zsome H
     go_wp2
     go_ret
     exact HS.pk
    replace H := zneg c43 H
    replace c43 := eq_false c43
    (try simp only [c43, dcn])
    go_wp2
    go_roundg k22
    case measure => have := HKk22.out; omega
    case rel => exact ⟨_, rfl, H, ⟨by have := HKk22.out; omega⟩, HS.pick [0] (by decide) (by rfl)⟩
   replace H := zpos c114001 H
   have c114001a := beq_iff_eq.mpr c114001
   have c114001b := bne_eq_false_iff_eq.mpr c114001
   clear c114001
   by_cases c120001 : a0.f4 = 0
   case pos =>
    replace H := zpos c120001 H
    have c120001a := beq_iff_eq.mpr c120001
    have c120001b := bne_eq_false_iff_eq.mpr c120001
    clear c120001
    refine dr_start [] HS #[false, false, false, false, false, false, false, false, false, false, false, false, false, false, false, false, false, false, false, false, false, false, false, false, false, false, false, false, false, false, false, false, false, false, false, false] (by kernel_rfl) rfl rfl spec_CrlOk.tT7 (fun w34 HT HS HH => ?_)
    (try clear F)
    refine drq_of [(0, some 60), (1, some 61)] ?_
    repeat (first | refine drp HT ?_ | refine drt HT HH ?_)
    refine drq_end ?_
    refine dr1 2 HT fun K hK => ?_
    refine go_cl HS (spec_l09Num.calls ht102001.out) Tryz.func75 ?_; clear HS; (try clear F); intro wt102001 HS F
    refine nrm 62 hK ⟨_, HS⟩ (fun HH => ?_); clear hK K
    refine drq_of [(3, some 63), (4, some 64), (5, some 65), (6, some 66)] ?_
    repeat (first | refine drp HT ?_ | refine drt HT HH ?_)
    refine drq_end ?_
    refine dr1 7 HT fun K hK => ?_
    refine go_cl HS (spec_l01In.calls ht107001.out) Tryz.func74 ?_; clear HS; (try clear F); intro wt107001 HS F
    refine nrm 67 hK ⟨_, HS⟩ (fun HH => ?_); clear hK K
    refine drq_of [(8, some 68), (9, some 69), (10, some 70), (11, some 71), (12, some 72), (13, some 73), (14, some 74), (15, some 75), (16, some 76), (17, some 77), (18, some 78), (19, some 79), (20, some 80), (21, some 81), (22, some 82), (23, some 83), (24, some 84), (25, some 85), (26, some 86), (27, some 87), (28, some 88), (29, some 89), (30, some 90), (31, some 91), (32, some 92), (33, some 93), (34, some 94), (35, some 95)] ?_
    repeat (first | (refine drq_pure HT (v := ?_) (a' := ?_) rfl rfl (by kernel_rfl) (fun _ _ _ h => h) (.inl ⟨by rfl, ?_⟩) ?_ ?_; rotate_left; (intro w'; go_simp; with_reducible rfl); rotate_left; (simp only [Act.put, ptn]; rfl)) | (refine drq_pure HT (v := undef) (a' := ?_) rfl rfl (by kernel_rfl) (fun _ _ _ h => h) (.inr ⟨by rfl, rfl⟩) ?_ ?_; rotate_left; (simp only [Act.put, ptn]; rfl)) | (refine drq_take HT HH (v := ?_) (a' := ?_) rfl rfl (by kernel_rfl) (fun _ _ _ h => h) (.inl ⟨by rfl, ?_⟩) ?_ ?_; rotate_left; (rintro w' ⟨rs', HS'⟩; have F := HS'.boxes; simp only [bxn, List.cons_append, List.nil_append] at F; go_simp; with_reducible rfl); rotate_left; (simp only [Act.put, ptn]; rfl)))
    refine drq_end ?_
    refine done_ (done_of HT.out (by kernel_rfl)) ?_
    (try clear F)
    have F := HS.boxes; simp only [bxn] at F
    obtain rfl := zsome H
    go_wp2
    go_ret
    exact HS.pk
   replace H := zneg c120001 H
   have c120001a := beq_eq_false_iff_ne.mpr c120001
   have c120001b := bne_iff_ne.mpr c120001
   clear c120001
   by_cases c123001 : 0 < x23
   case neg =>
    replace H := zneg c123001 H
    replace c123001 := eq_false c123001
    refine dr_start [] HS #[false, false, false, false, false, false, false, false, false, false, false, false, false, false, false, false, false, false, false, false, false, false, false, false, false, false, false, false, false, false, false, false, false, false, false, false] (by kernel_rfl) rfl rfl spec_CrlOk.tT7 (fun w39 HT HS HH => ?_)
    (try clear F)
    refine drq_of [(0, some 60), (1, some 61)] ?_
    repeat (first | refine drp HT ?_ | refine drt HT HH ?_)
    refine drq_end ?_
    refine dr1 2 HT fun K hK => ?_
    refine go_cl HS (spec_l09Num.calls ht102001.out) Tryz.func75 ?_; clear HS; (try clear F); intro wt102001 HS F
    refine nrm 62 hK ⟨_, HS⟩ (fun HH => ?_); clear hK K
    refine drq_of [(3, some 63), (4, some 64), (5, some 65), (6, some 66)] ?_
    repeat (first | refine drp HT ?_ | refine drt HT HH ?_)
    refine drq_end ?_
    refine dr1 7 HT fun K hK => ?_
    refine go_cl HS (spec_l01In.calls ht107001.out) Tryz.func74 ?_; clear HS; (try clear F); intro wt107001 HS F
    refine nrm 67 hK ⟨_, HS⟩ (fun HH => ?_); clear hK K
    refine drq_of [(8, some 68), (9, some 69), (10, some 70), (11, some 71), (12, some 72), (13, some 73), (14, some 74), (15, some 75), (16, some 76), (17, some 77), (18, some 78), (19, some 79), (20, some 80), (21, some 81), (22, some 82), (23, some 83), (24, some 84), (25, some 85), (26, some 86), (27, some 87), (28, some 88), (29, some 89), (30, some 90), (31, some 91), (32, some 92), (33, some 93), (34, some 94), (35, some 95)] ?_
    repeat (first | (refine drq_pure HT (v := ?_) (a' := ?_) rfl rfl (by kernel_rfl) (fun _ _ _ h => h) (.inl ⟨by rfl, ?_⟩) ?_ ?_; rotate_left; (intro w'; go_simp; with_reducible rfl); rotate_left; (simp only [Act.put, ptn]; rfl)) | (refine drq_pure HT (v := undef) (a' := ?_) rfl rfl (by kernel_rfl) (fun _ _ _ h => h) (.inr ⟨by rfl, rfl⟩) ?_ ?_; rotate_left; (simp only [Act.put, ptn]; rfl)) | (refine drq_take HT HH (v := ?_) (a' := ?_) rfl rfl (by kernel_rfl) (fun _ _ _ h => h) (.inl ⟨by rfl, ?_⟩) ?_ ?_; rotate_left; (rintro w' ⟨rs', HS'⟩; have F := HS'.boxes; simp only [bxn, List.cons_append, List.nil_append] at F; go_simp; with_reducible rfl); rotate_left; (simp only [Act.put, ptn]; rfl)))
    refine drq_end ?_
    refine done_ (done_of HT.out (by kernel_rfl)) ?_
    (try clear F)
    have F := HS.boxes; simp only [bxn] at F
    go_wp2
    go_roundg k22
    case measure => have := HKk22.out; omega
    case rel => exact ⟨_, rfl, H, ⟨by have := HKk22.out; omega⟩, HS.pick [0] (by decide) (by rfl)⟩
   replace H := zpos c123001 H
   replace c123001 := eq_true c123001
   obtain ⟨c128001, H⟩ := zgo H
   obtain ⟨c128002, H⟩ := zgo H
   obtain ⟨ad128999, hq128999, e128999_0, e128999_1⟩ := at_T238 gp0 (wrap64 (x23 - 1)) (of_eq_true c128001) (of_eq_true c128002); obtain rfl := Option.some.inj hq128999
   refine dr_start [] HS #[false, false, false, false, false, false, false, false, false, false, false, false, false, false, false, false, false, false, false, false, false, false, false, false, false, false, false, false, false, false, false, false, false, false, false, false] (by kernel_rfl) rfl rfl spec_CrlOk.tT7 (fun w36 HT HS HH => ?_)
   (try clear F)
   refine drq_of [(0, some 60), (1, some 61)] ?_
   repeat (first | refine drp HT ?_ | refine drt HT HH ?_)
   refine drq_end ?_
   refine dr1 2 HT fun K hK => ?_
   refine go_cl HS (spec_l09Num.calls ht102001.out) Tryz.func75 ?_; clear HS; (try clear F); intro wt102001 HS F
   refine nrm 62 hK ⟨_, HS⟩ (fun HH => ?_); clear hK K
   refine drq_of [(3, some 63), (4, some 64), (5, some 65), (6, some 66)] ?_
   repeat (first | refine drp HT ?_ | refine drt HT HH ?_)
   refine drq_end ?_
   refine dr1 7 HT fun K hK => ?_
   refine go_cl HS (spec_l01In.calls ht107001.out) Tryz.func74 ?_; clear HS; (try clear F); intro wt107001 HS F
   refine nrm 67 hK ⟨_, HS⟩ (fun HH => ?_); clear hK K
   refine drq_of [(8, some 68), (9, some 69), (10, some 70), (11, some 71), (12, some 72), (13, some 73), (14, some 74), (15, some 75), (16, some 76), (17, some 77), (18, some 78), (19, some 79), (20, some 80), (21, some 81), (22, some 82), (23, some 83), (24, some 84), (25, some 85), (26, some 86), (27, some 87), (28, some 88), (29, some 89)] ?_
   repeat (first | refine drp HT ?_ | refine drt HT HH ?_)
   refine drq_end ?_
   refine dr_take 30 (some 90) HT HH (v := ?_) (a' := ?_) rfl rfl (by kernel_rfl) (fun _ _ _ h => h) (.inl ⟨by rfl, ?_⟩) ?_ ?_
   rotate_left
   · rintro w' ⟨rs', HS'⟩; have e128999_0 := (HS'.keepc e128999_0); have e128999_1 := (HS'.keepc e128999_1); go_simp; with_reducible rfl
   rotate_left
   · simp only [Act.put, ptn]; rfl
   refine drq_of [(31, some 91), (32, some 92), (33, some 93), (34, some 94), (35, some 95)] ?_
   repeat (first | refine drp HT ?_ | refine drt HT HH ?_)
   refine drq_end ?_
   refine done_ (done_of HT.out (by kernel_rfl)) ?_
   (try clear F)
   have F := HS.boxes; simp only [bxn] at F
   by_cases c38 : (rd_T238 a0.f5 x23).f0 ≤ (rd_T238 a0.f5 (wrap64 (x23 - 1))).f0
   case pos =>
    replace H := zpos c38 H
    replace c38 := eq_true c38
    (try simp only [c38, dcn])
    obtain rfl := zsome H
    go_wp2
    go_ret
    exact HS.pk
   replace H := zneg c38 H
   replace c38 := eq_false c38
   (try simp only [c38, dcn])
   go_wp2
   go_roundg k22
   case measure => have := HKk22.out; omega
   case rel => exact ⟨_, rfl, H, ⟨by have := HKk22.out; omega⟩, HS.pick [0] (by decide) (by rfl)⟩
/-! ### spec_l10Item: function 138 -/
def spec_l10Item.l0 : Nat → (List S182) → Int → S81 → Option (S182)
  | 0, _, _, _ => none
  | k + 1, l21, x23, a0 => (if x23 < (a0.f5.length : Int) then (if 0 ≤ x23 then (if x23 < (a0.f5.length : Int) then ((spec_l09Ints.f k ([(rd_T238 a0.f5 x23).f0, (rd_T238 a0.f5 x23).f1] : List Int)).bind fun t215001 => (if l21.length + 1 ≤ 2932031007402 then (lets (l21 ++ ([t215001] : List S182)) fun y217999 => (spec_l10Item.l0 k y217999 (wrap64 (x23 + 1)) a0)) else none)) else none) else none) else ((spec_TextItem.f a0.f0).bind fun t302001 => ((spec_IntItem.f k a0.f1).bind fun t305001 => ((spec_IntItem.f k a0.f2).bind fun t308001 => ((spec_IntItem.f k a0.f3).bind fun t311001 => ((spec_IntItem.f k a0.f4).bind fun t314001 => (some (⟨48, (⟨#[]⟩ : ByteArray), ([t302001, t305001, t308001, t311001, t314001, (⟨48, (⟨#[]⟩ : ByteArray), l21⟩ : S182)] : List S182)⟩ : S182))))))))
def spec_l10Item.f (k : Nat) (a0 : S81) : Option (S182) := (spec_l10Item.l0 k [] 0 a0)
def spec_l10Item.T5 : Bool × List (List Nat × List Nat) := (true, [([], []), ([0], [0]), ([], []), ([2], [2]), ([], []), ([3, 4], [3, 4]), ([5], [5]), ([6], [6]), ([], []), ([8], [8]), ([], []), ([9, 10], [9, 10]), ([11], [11]), ([12], [12]), ([7, 13], [7, 13]), ([14], [14]), ([15], [15]), ([1, 16, 15], [1, 16]), ([0, 1, 2, 3, 4, 5, 6, 7, 8, 9, 10, 11, 12, 13, 14, 15, 16, 17], []), ([18, 17, 17, 0, 1, 2, 3, 4, 5, 6, 7, 8, 9, 10, 11, 12, 13, 14, 15, 16, 17], [17, 18])])
theorem spec_l10Item.tT5 : rtab .any (opsOf Tryz.f138 5) = spec_l10Item.T5 := by kernel_rfl
def spec_l10Item.T6 : Bool × List (List Nat × List Nat) := (true, [([], []), ([0], [0]), ([1], [1]), ([], []), ([3], [3]), ([4, 2], [4]), ([], []), ([6], [6]), ([7, 5], [7]), ([], []), ([9], [9]), ([10, 8], [10]), ([], []), ([12], [12]), ([13, 11], [13]), ([], []), ([2, 5, 8, 11, 14, 15], [2, 5, 8, 11, 14, 15]), ([16], [16]), ([17, 14, 0, 1, 2, 3, 4, 5, 6, 7, 8, 9, 10, 11, 12, 13, 14, 15, 16, 17], [17])])
theorem spec_l10Item.tT6 : rtab .any (opsOf Tryz.f138 6) = spec_l10Item.T6 := by kernel_rfl
set_option maxHeartbeats 16000000 in
theorem spec_l10Item.calls {k : Nat} {a0 : S81} {Ap0 : Option Addr} {np0 cp0 : Nat} {r : S182} {w : World} (h : spec_l10Item.f k a0 = some r) (gp0 : k238.C w Ap0 np0 a0.f5) (lp0 : np0 ≤ cp0) :
    Calls Tryz.prog 138 #[.agg #[.string a0.f0, .int .i64 a0.f1, .int .i64 a0.f2, .int .i64 a0.f3, .int .i64 a0.f4, .slice Ap0 np0 cp0, .string a0.f6]] w (fun e w' => ∃ v0_ : Value, e = .returned (.agg #[.int .i64 r.f0, .string r.f1, v0_]) ∧ Hp noFP w w' [.own (Zd.slice 182 q182) r.f2 [v0_]]) := by
 obtain rfl := C_len gp0
 have HS := Hp.start w
 have H := Aside0.mk h
 clear h
 unfold spec_l10Item.f at H
 go_enter Tryz.func138, Tryz.ntmps138
 go_wp2_with (first | ((with_reducible refine gate_dst (N := 1) rfl ?_); refine ev_bx HS ?_; clear HS; (try clear F); intro g1 w1 HS F) | ((with_reducible refine gate_dst (N := 2) rfl ?_); refine ev_bx HS ?_; clear HS; (try clear F); intro g2 w2 HS F) | ((with_reducible refine gate_dst (N := 3) rfl ?_); refine ev_bx HS ?_; clear HS; (try clear F); intro g3 w3 HS F) | ((with_reducible refine gate_store (p := 3) rfl ?_); refine ev_st 2 0 HS (seg := [.int .i64 48, .string (⟨#[]⟩ : ByteArray), .slice none 0 0]) ?_; clear HS; (try clear F); intro w7 HS F))
 replace HS := HS.nil 182 q182
 go_loopg [4] k (fun kq v_4 w' => ∃ (l21 : List S182) (v22 : Value) (x23 : Int), v_4 = .int .i64 x23 ∧ Aside0 (spec_l10Item.l0 kq l21 x23 a0 = some r) ∧ Aside0 (kq ≤ k) ∧ Hp noFP w w' [.box g1 [.string a0.f0, .int .i64 a0.f1, .int .i64 a0.f2, .int .i64 a0.f3, .int .i64 a0.f4, .slice Ap0 a0.f5.length cp0, .string a0.f6] 81, .box g2 [.int .i64 0, .string (⟨#[]⟩ : ByteArray), .slice none 0 0] 182, .box g3 [.int .i64 48, .string (⟨#[]⟩ : ByteArray), v22] 182, .own (Zd.slice 182 q182) l21 [v22]])
 case atStart => exact ⟨_, _, _, rfl, H, ⟨Nat.le_refl _⟩, HS⟩
 case round =>
  clear HS H; (try clear F)
  obtain ⟨l21, v22, x23, rfl, H, HKk20, HS⟩ := hrel
  obtain ⟨B22, d22, rfl, m22⟩ := HS.form 3 rfl
  have F := HS.boxes; simp only [bxn] at F
  cases gk with
  | zero => exact absurd H.out (by simp [spec_l10Item.l0])
  | succ k20 =>
   simp only [spec_l10Item.l0] at H
   by_cases c25 : x23 < (a0.f5.length : Int)
   case pos =>
    replace H := zpos c25 H
    replace c25 := eq_true c25
    (try go_wp2)
    obtain ⟨c205001, H⟩ := zgo H
    obtain ⟨c205002, H⟩ := zgo H
    obtain ⟨ad205999, rfl, e205999_0, e205999_1⟩ := at_T238 gp0 x23 (of_eq_true c205001) (of_eq_true c205002)
    replace H := zbind H; obtain ⟨t215001, ht215001, H⟩ := H
    obtain ⟨c217001, H⟩ := zgo H
    replace H := zlets H; obtain ⟨y217999, e_y217999, H⟩ := H
    refine dr_start2 [.box g1 [.string a0.f0, .int .i64 a0.f1, .int .i64 a0.f2, .int .i64 a0.f3, .int .i64 a0.f4, .slice (some ad205999) a0.f5.length cp0, .string a0.f6] 81, .box g2 [.int .i64 0, .string (⟨#[]⟩ : ByteArray), .slice none 0 0] 182, .box g3 [.int .i64 48, .string (⟨#[]⟩ : ByteArray), .slice B22 l21.length d22] 182, .emp] [19] HS (HS.arr [some 0, some 1, some 2, none] (by decide)) #[false, false, false, false, false, false, false, false, false, false, false, false, false, false, false, false, false, false, false, false] (by kernel_rfl) rfl rfl spec_l10Item.tT5 (fun w27 HT HS HH => ?_)
    (try clear F)
    refine drq_of [(0, some 13), (1, some 14), (2, some 15), (3, some 16), (4, some 17), (5, some 18), (6, some 19)] ?_
    repeat (first | refine drp HT ?_ | refine drt HT HH ?_)
    refine drq_end ?_
    refine dr_take 7 (some 20) HT HH (v := ?_) (a' := ?_) rfl rfl (by kernel_rfl) (fun _ _ _ h => h) (.inl ⟨by rfl, ?_⟩) ?_ ?_
    rotate_left
    · rintro w' ⟨rs', HS'⟩; have e205999_0 := (HS'.keepc e205999_0); have e205999_1 := (HS'.keepc e205999_1); go_simp; with_reducible rfl
    rotate_left
    · simp only [Act.put, ptn]; rfl
    refine drq_of [(8, some 21), (9, some 22), (10, some 23), (11, some 24), (12, some 25)] ?_
    repeat (first | refine drp HT ?_ | refine drt HT HH ?_)
    refine drq_end ?_
    refine dr_take 13 (some 26) HT HH (v := ?_) (a' := ?_) rfl rfl (by kernel_rfl) (fun _ _ _ h => h) (.inl ⟨by rfl, ?_⟩) ?_ ?_
    rotate_left
    · rintro w' ⟨rs', HS'⟩; have e205999_0 := (HS'.keepc e205999_0); have e205999_1 := (HS'.keepc e205999_1); go_simp; with_reducible rfl
    rotate_left
    · simp only [Act.put, ptn]; rfl
    refine dr1 14 HT fun K hK => ?_
    refine if_wp (by rfl) ?_; refine wp_lit (Zd.int .i64) [] ([(rd_T238 a0.f5 x23).f0, (rd_T238 a0.f5 x23).f1] : List Int) ([.int .i64 ((rd_T238 a0.f5 x23).f0)] ++ ([.int .i64 ((rd_T238 a0.f5 x23).f1)] ++ [])) HS (by first | (go_simp; done) | (go_simp; rfl)) rfl rfl (Nat.le_of_ble_eq_true rfl) (MadeL.cons (js1 := []) (c := [.int .i64 ((rd_T238 a0.f5 x23).f0)]) rfl (made_flat (fun _ => rfl)) (MadeL.cons (js1 := []) (c := [.int .i64 ((rd_T238 a0.f5 x23).f1)]) rfl (made_flat (fun _ => rfl)) MadeL.nil (by decide)) (by decide)) ?_; clear HS; (try clear F); intro v214001 w214001 HS; obtain ⟨B214001, d214001, rfl, m214001⟩ := HS.formn 2 4 rfl rfl
    (try simp only [hpn, hpm] at HS)
    have F := HS.boxes; simp only [bxn] at F
    refine hK.out _ _ ⟨[], HS.arr [some 0, some 1, some 2, none] (by decide)⟩ (fun HH => ?_)
    clear hK K
    refine norm_ (a' := ?_) ?_ ?_
    rotate_left
    · show Act.put _ (some 27) _ = _; simp only [Act.put, ptn]; rfl
    refine dr1 15 HT fun K hK => ?_
    refine go_cl1 HS (spec_l09Ints.calls ht215001.out (HS.rd 4 rfl) m214001) Tryz.func195 ?_; clear HS; (try clear F); intro v215002 wt215001 HS F; obtain ⟨B215002, d215002, rfl, m215002⟩ := HS.form 5 rfl
    refine hK.out _ _ ⟨[], HS.arr [some 0, some 1, some 2, none] (by decide)⟩ (fun HH => ?_)
    clear hK K
    refine norm_ (a' := ?_) ?_ ?_
    rotate_left
    · show Act.put _ (some 28) _ = _; simp only [Act.put, ptn]; rfl
    refine dr1 16 HT fun K hK => ?_
    refine if_wp (by rfl) ?_; refine wp_lit q182 [5] ([t215001] : List S182) ([.int .i64 t215001.f0, .string t215001.f1, .slice B215002 t215001.f2.length d215002] ++ []) HS (by first | (go_simp; done) | (go_simp; rfl)) rfl rfl (Nat.le_of_ble_eq_true rfl) (MadeL.cons (js1 := [5]) (c := [.int .i64 t215001.f0, .string t215001.f1, .slice B215002 t215001.f2.length d215002]) rfl (fun S hd hh => q182_pack (x := t215001) hd (hh 5 (.own (Zd.slice 182 q182) t215001.f2 [.slice B215002 t215001.f2.length d215002]) rfl) (by decide)) MadeL.nil (by decide)) ?_; clear HS; (try clear F); intro v216001 w216001 HS; obtain ⟨B216001, d216001, rfl, m216001⟩ := HS.formn 1 6 rfl rfl
    (try simp only [hpn, hpm] at HS)
    have F := HS.boxes; simp only [bxn] at F
    refine hK.out _ _ ⟨[], HS.arr [some 0, some 1, some 2, none] (by decide)⟩ (fun HH => ?_)
    clear hK K
    refine norm_ (a' := ?_) ?_ ?_
    rotate_left
    · show Act.put _ (some 29) _ = _; simp only [Act.put, ptn]; rfl
    refine dr1 17 HT fun K hK => ?_
    refine if_wp (by rfl) ?_; refine wp_append q182 3 6 HS rfl rfl (by decide) rfl rfl rfl Tryz.underlying180 info182 rfl (by decide) (by decide) (by have := of_eq_true c217001; first | omega | (simp only [List.length_cons, List.length_nil, List.length_append, Nat.zero_add] at this ⊢; omega)) ?_; clear HS; (try clear F); intro v217999 w217999 HS; rw [← e_y217999.out] at HS; obtain ⟨B217999, d217999, rfl, m217999⟩ := HS.form 7 rfl
    (try simp only [hpn, hpm] at HS)
    have F := HS.boxes; simp only [bxn] at F
    refine hK.out _ _ ⟨[], HS.arr [some 0, some 1, some 2, none] (by decide)⟩ (fun HH => ?_)
    clear hK K
    refine norm_ (a' := ?_) ?_ ?_
    rotate_left
    · show Act.put _ (some 30) _ = _; simp only [Act.put, ptn]; rfl
    refine drq_of [(18, some 31)] ?_
    repeat (refine drp HT ?_)
    refine drq_end ?_
    refine dr_last 19 HT rfl (by kernel_rfl) (by decide) (fun K hK => ?_)
    refine if_st 2 2 HS (seg := [.slice B217999 y217999.length d217999]) ?_; clear HS; (try clear F); intro w219001 HS F
    refine hK.out _ _ ?_
    clear hK K
    refine done_ (done_of HT.out (by kernel_rfl)) ?_
    (try clear F)
    have F := HS.boxes; simp only [bxn] at F
    go_wp2
    go_roundg k20
    case measure => have := HKk20.out; omega
    case rel => exact ⟨_, _, _, rfl, H, ⟨by have := HKk20.out; omega⟩, HS.pick [0, 1, 2, 7] (by decide) (by rfl)⟩
   replace H := zneg c25 H
   replace c25 := eq_false c25
   (try go_wp2)
   replace H := zbind H; obtain ⟨t302001, ht302001, H⟩ := H
   replace H := zbind H; obtain ⟨t305001, ht305001, H⟩ := H
   replace H := zbind H; obtain ⟨t308001, ht308001, H⟩ := H
   replace H := zbind H; obtain ⟨t311001, ht311001, H⟩ := H
   replace H := zbind H; obtain ⟨t314001, ht314001, H⟩ := H
   refine dr_start2 [.box g1 [.string a0.f0, .int .i64 a0.f1, .int .i64 a0.f2, .int .i64 a0.f3, .int .i64 a0.f4, .slice Ap0 a0.f5.length cp0, .string a0.f6] 81, .box g2 [.int .i64 0, .string (⟨#[]⟩ : ByteArray), .slice none 0 0] 182, .box g3 [.int .i64 48, .string (⟨#[]⟩ : ByteArray), .slice B22 l21.length d22] 182, .emp] [18] HS (HS.arr [some 0, some 1, some 2, none] (by decide)) #[false, false, false, false, false, false, false, false, false, false, false, false, false, false, false, false, false, false, false] (by kernel_rfl) rfl rfl spec_l10Item.tT6 (fun w30 HT HS HH => ?_)
   (try clear F)
   refine drq_of [(0, some 32), (1, some 33), (3, some 35), (4, some 36), (6, some 38), (7, some 39), (9, some 41), (10, some 42), (12, some 44), (13, some 45), (15, some 47)] ?_
   repeat (first | refine drp HT ?_ | refine drt HT HH ?_)
   refine drq_end ?_
   refine dr1 2 HT fun K hK => ?_
   refine go_cl1 HS (spec_TextItem.calls ht302001.out) Tryz.func193 ?_; clear HS; (try clear F); intro v302002 wt302001 HS F; obtain ⟨B302002, d302002, rfl, m302002⟩ := HS.form 4 rfl
   refine hK.out _ _ ⟨[], HS.arr [some 0, some 1, some 2, none] (by decide)⟩ (fun HH => ?_)
   clear hK K
   refine norm_ (a' := ?_) ?_ ?_
   rotate_left
   · show Act.put _ (some 34) _ = _; simp only [Act.put, ptn]; rfl
   refine dr1 5 HT fun K hK => ?_
   refine go_cl1 HS (spec_IntItem.calls ht305001.out) Tryz.func192 ?_; clear HS; (try clear F); intro v305002 wt305001 HS F; obtain ⟨B305002, d305002, rfl, m305002⟩ := HS.form 5 rfl
   refine hK.out _ _ ⟨[], HS.arr [some 0, some 1, some 2, none] (by decide)⟩ (fun HH => ?_)
   clear hK K
   refine norm_ (a' := ?_) ?_ ?_
   rotate_left
   · show Act.put _ (some 37) _ = _; simp only [Act.put, ptn]; rfl
   refine dr1 8 HT fun K hK => ?_
   refine go_cl1 HS (spec_IntItem.calls ht308001.out) Tryz.func192 ?_; clear HS; (try clear F); intro v308002 wt308001 HS F; obtain ⟨B308002, d308002, rfl, m308002⟩ := HS.form 6 rfl
   refine hK.out _ _ ⟨[], HS.arr [some 0, some 1, some 2, none] (by decide)⟩ (fun HH => ?_)
   clear hK K
   refine norm_ (a' := ?_) ?_ ?_
   rotate_left
   · show Act.put _ (some 40) _ = _; simp only [Act.put, ptn]; rfl
   refine dr1 11 HT fun K hK => ?_
   refine go_cl1 HS (spec_IntItem.calls ht311001.out) Tryz.func192 ?_; clear HS; (try clear F); intro v311002 wt311001 HS F; obtain ⟨B311002, d311002, rfl, m311002⟩ := HS.form 7 rfl
   refine hK.out _ _ ⟨[], HS.arr [some 0, some 1, some 2, none] (by decide)⟩ (fun HH => ?_)
   clear hK K
   refine norm_ (a' := ?_) ?_ ?_
   rotate_left
   · show Act.put _ (some 43) _ = _; simp only [Act.put, ptn]; rfl
   refine dr1 14 HT fun K hK => ?_
   refine go_cl1 HS (spec_IntItem.calls ht314001.out) Tryz.func192 ?_; clear HS; (try clear F); intro v314002 wt314001 HS F; obtain ⟨B314002, d314002, rfl, m314002⟩ := HS.form 8 rfl
   refine hK.out _ _ ⟨[], HS.arr [some 0, some 1, some 2, none] (by decide)⟩ (fun HH => ?_)
   clear hK K
   refine norm_ (a' := ?_) ?_ ?_
   rotate_left
   · show Act.put _ (some 46) _ = _; simp only [Act.put, ptn]; rfl
   refine dr1 16 HT fun K hK => ?_
   refine if_wp (by rfl) ?_; refine wp_lit q182 [4, 5, 6, 7, 8, 3] ([t302001, t305001, t308001, t311001, t314001, (⟨48, (⟨#[]⟩ : ByteArray), l21⟩ : S182)] : List S182) ([.int .i64 t302001.f0, .string t302001.f1, .slice B302002 t302001.f2.length d302002] ++ ([.int .i64 t305001.f0, .string t305001.f1, .slice B305002 t305001.f2.length d305002] ++ ([.int .i64 t308001.f0, .string t308001.f1, .slice B308002 t308001.f2.length d308002] ++ ([.int .i64 t311001.f0, .string t311001.f1, .slice B311002 t311001.f2.length d311002] ++ ([.int .i64 t314001.f0, .string t314001.f1, .slice B314002 t314001.f2.length d314002] ++ ([.int .i64 48, .string (⟨#[]⟩ : ByteArray), .slice B22 l21.length d22] ++ [])))))) HS (by first | (go_simp; done) | (go_simp; rfl)) rfl rfl (Nat.le_of_ble_eq_true rfl) (MadeL.cons (js1 := [4]) (c := [.int .i64 t302001.f0, .string t302001.f1, .slice B302002 t302001.f2.length d302002]) rfl (fun S hd hh => q182_pack (x := t302001) hd (hh 4 (.own (Zd.slice 182 q182) t302001.f2 [.slice B302002 t302001.f2.length d302002]) rfl) (by decide)) (MadeL.cons (js1 := [5]) (c := [.int .i64 t305001.f0, .string t305001.f1, .slice B305002 t305001.f2.length d305002]) rfl (fun S hd hh => q182_pack (x := t305001) hd (hh 5 (.own (Zd.slice 182 q182) t305001.f2 [.slice B305002 t305001.f2.length d305002]) rfl) (by decide)) (MadeL.cons (js1 := [6]) (c := [.int .i64 t308001.f0, .string t308001.f1, .slice B308002 t308001.f2.length d308002]) rfl (fun S hd hh => q182_pack (x := t308001) hd (hh 6 (.own (Zd.slice 182 q182) t308001.f2 [.slice B308002 t308001.f2.length d308002]) rfl) (by decide)) (MadeL.cons (js1 := [7]) (c := [.int .i64 t311001.f0, .string t311001.f1, .slice B311002 t311001.f2.length d311002]) rfl (fun S hd hh => q182_pack (x := t311001) hd (hh 7 (.own (Zd.slice 182 q182) t311001.f2 [.slice B311002 t311001.f2.length d311002]) rfl) (by decide)) (MadeL.cons (js1 := [8]) (c := [.int .i64 t314001.f0, .string t314001.f1, .slice B314002 t314001.f2.length d314002]) rfl (fun S hd hh => q182_pack (x := t314001) hd (hh 8 (.own (Zd.slice 182 q182) t314001.f2 [.slice B314002 t314001.f2.length d314002]) rfl) (by decide)) (MadeL.cons (js1 := [3]) (c := [.int .i64 48, .string (⟨#[]⟩ : ByteArray), .slice B22 l21.length d22]) rfl (fun S hd hh => q182_pack (x := (⟨48, (⟨#[]⟩ : ByteArray), l21⟩ : S182)) hd (hh 3 (.own (Zd.slice 182 q182) l21 [.slice B22 l21.length d22]) rfl) (by decide)) MadeL.nil (by decide)) (by decide)) (by decide)) (by decide)) (by decide)) (by decide)) ?_; clear HS; (try clear F); intro v316001 w316001 HS; obtain ⟨B316001, d316001, rfl, m316001⟩ := HS.formn 6 9 rfl rfl
   (try simp only [hpn, hpm] at HS)
   have F := HS.boxes; simp only [bxn] at F
   refine hK.out _ _ ⟨[], HS.arr [some 0, some 1, some 2, none] (by decide)⟩ (fun HH => ?_)
   clear hK K
   refine norm_ (a' := ?_) ?_ ?_
   rotate_left
   · show Act.put _ (some 48) _ = _; simp only [Act.put, ptn]; rfl
   refine drq_of [(17, some 49)] ?_
   repeat (refine drp HT ?_)
   refine drq_end ?_
   refine dr_last 18 HT rfl (by kernel_rfl) (by decide) (fun K hK => ?_)
   refine if_st 1 0 HS (seg := [.int .i64 48, .string (⟨#[]⟩ : ByteArray), .slice B316001 6 d316001]) ?_; clear HS; (try clear F); intro w318001 HS F
   refine hK.out _ _ ?_
   clear hK K
   refine done_ (done_of HT.out (by kernel_rfl)) ?_
   (try clear F)
   have F := HS.boxes; simp only [bxn] at F
   obtain rfl := zsome H
   go_wp2
   exact bodyPost_ret (results_single rfl (.cell _ _ _ _ _ rfl (HS.boxAt (i := 1) rfl) Tryz.underlying182 rfl (by kernel_rfl) .nil)) rfl ⟨_, rfl, HS.pick [9] (by decide) (by rfl)⟩
/-! ### spec_CrlText: function 56 -/
def spec_CrlText.f (k : Nat) (a0 : S81) : Option (ByteArray × Bool) := ((spec_CrlOk.f k a0).bind fun t3 => (if t3 = true then ((spec_l10Item.f k a0).bind fun t101001 => ((spec_l09Bytes.f a0.f6).bind fun t104001 => ((spec_ItemText.f k (⟨48, (⟨#[]⟩ : ByteArray), ([t101001, t104001] : List S182)⟩ : S182)).bind fun t107001 => (some (t107001.1, t107001.2))))) else (some ((⟨#[]⟩ : ByteArray), false))))
def spec_CrlText.T3 : Bool × List (List Nat × List Nat) := (true, [([], []), ([0], [0]), ([], []), ([2], [2]), ([3, 1], [3]), ([1, 4], [1, 4]), ([5], [5]), ([6, 4], [6]), ([7], [7]), ([7], [7]), ([8, 7, 0, 1, 2, 3, 4, 5, 6, 7, 8, 9], [8]), ([9, 10, 0, 1, 2, 3, 4, 5, 6, 7, 8, 9, 10], [9])])
theorem spec_CrlText.tT3 : rtab .any (opsOf Tryz.f56 3) = spec_CrlText.T3 := by kernel_rfl
set_option maxHeartbeats 16000000 in
theorem spec_CrlText.calls {k : Nat} {a0 : S81} {Ap0 : Option Addr} {np0 cp0 : Nat} {r1 : ByteArray} {r2 : Bool} {w : World} (h : spec_CrlText.f k a0 = some (r1, r2)) (gp0 : k238.C w Ap0 np0 a0.f5) (lp0 : np0 ≤ cp0) :
    Calls Tryz.prog 56 #[.agg #[.string a0.f0, .int .i64 a0.f1, .int .i64 a0.f2, .int .i64 a0.f3, .int .i64 a0.f4, .slice Ap0 np0 cp0, .string a0.f6]] w (fun e w' => e = .returned (.tuple #[.string r1, .bool r2]) ∧ Hp noFP w w' []) := by
 obtain rfl := C_len gp0
 have HS := Hp.start w
 have H := Aside0.mk h
 clear h
 unfold spec_CrlText.f at H
 go_enter Tryz.func56, Tryz.ntmps56
 replace H := zbind H; obtain ⟨t3, ht3, H⟩ := H
 go_upto_if 6 with (first | ((with_reducible refine gate_dst (N := 1) rfl ?_); refine ev_bx HS ?_; clear HS; (try clear F); intro g1 w1 HS F) | ((with_reducible refine gate_dst (N := 5) rfl ?_); refine ev_cl HS (spec_CrlOk.calls ht3.out (HS.ro gp0) lp0) Tryz.func137 ?_; clear HS; (try clear F); intro wt3 HS F))
 by_cases c5 : t3 = true
 case neg =>
  replace H := zneg c5 H
  replace c5 := eq_false_of_ne_true c5
  subst c5
  (try simp only [dcn, if_true, Bool.false_eq_true, if_false])
  obtain ⟨rfl, rfl⟩ := zsome2 H
  go_wp2
  exact bodyPost_ret (results_list (rs := [.tmp 2, .tmp 3]) rfl (by simp) (.tmp (.tmp .nil))) rfl ⟨rfl, HS.pick [] (by decide) (by rfl)⟩
 replace H := zpos c5 H
 subst c5
 (try simp only [dcn, if_true, Bool.false_eq_true, if_false])
 (try go_wp2)
 replace H := zbind H; obtain ⟨t101001, ht101001, H⟩ := H
 replace H := zbind H; obtain ⟨t104001, ht104001, H⟩ := H
 replace H := zbind H; obtain ⟨t107001, ht107001, H⟩ := H
 refine dr_start [] HS #[false, false, false, false, false, false, false, false, false, false, false, false] (by kernel_rfl) rfl rfl spec_CrlText.tT3 (fun w7 HT HS HH => ?_)
 (try clear F)
 refine drq_of [(0, some 7), (2, some 9), (3, some 10)] ?_
 repeat (first | refine drp HT ?_ | refine drt HT HH ?_)
 refine drq_end ?_
 refine dr1 1 HT fun K hK => ?_
 refine go_cl1 HS (spec_l10Item.calls ht101001.out (HS.ro gp0) lp0) Tryz.func138 ?_; clear HS; (try clear F); intro v101002 wt101001 HS F; obtain ⟨B101002, d101002, rfl, m101002⟩ := HS.form 1 rfl
 refine nrm 8 hK ⟨_, HS⟩ (fun HH => ?_); clear hK K
 refine dr1 4 HT fun K hK => ?_
 refine go_cl1 HS (spec_l09Bytes.calls ht104001.out) Tryz.func136 ?_; clear HS; (try clear F); intro v104002 wt104001 HS F; obtain ⟨B104002, d104002, rfl, m104002⟩ := HS.form 2 rfl
 refine nrm 11 hK ⟨_, HS⟩ (fun HH => ?_); clear hK K
 refine dr1 5 HT fun K hK => ?_
 refine if_wp (by rfl) ?_; refine wp_lit q182 [1, 2] ([t101001, t104001] : List S182) ([.int .i64 t101001.f0, .string t101001.f1, .slice B101002 t101001.f2.length d101002] ++ ([.int .i64 t104001.f0, .string t104001.f1, .slice B104002 t104001.f2.length d104002] ++ [])) HS (by first | (go_simp; done) | (go_simp; rfl)) rfl rfl (Nat.le_of_ble_eq_true rfl) (MadeL.cons (js1 := [1]) (c := [.int .i64 t101001.f0, .string t101001.f1, .slice B101002 t101001.f2.length d101002]) rfl (fun S hd hh => q182_pack (x := t101001) hd (hh 1 (.own (Zd.slice 182 q182) t101001.f2 [.slice B101002 t101001.f2.length d101002]) rfl) (by decide)) (MadeL.cons (js1 := [2]) (c := [.int .i64 t104001.f0, .string t104001.f1, .slice B104002 t104001.f2.length d104002]) rfl (fun S hd hh => q182_pack (x := t104001) hd (hh 2 (.own (Zd.slice 182 q182) t104001.f2 [.slice B104002 t104001.f2.length d104002]) rfl) (by decide)) MadeL.nil (by decide)) (by decide)) ?_; clear HS; (try clear F); intro v105001 w105001 HS; obtain ⟨B105001, d105001, rfl, m105001⟩ := HS.formn 2 3 rfl rfl
 (try simp only [hpn, hpm] at HS)
 have F := HS.boxes; simp only [bxn] at F
 refine nrm 12 hK ⟨_, HS⟩ (fun HH => ?_); clear hK K
 refine drq_of [(6, some 13)] ?_
 repeat (refine drp HT ?_)
 refine drq_end ?_
 refine dr1 7 HT fun K hK => ?_
 refine go_cl HS (spec_ItemText.calls ht107001.out (HS.rd 3 rfl) m105001) Tryz.func134 ?_; clear HS; (try clear F); intro wt107001 HS F
 refine nrm 14 hK ⟨_, HS⟩ (fun HH => ?_); clear hK K
 refine drq_of [(8, some 15), (9, some 16), (10, some 2), (11, some 3)] ?_
 repeat (refine drp HT ?_)
 refine drq_end ?_
 refine done_ (done_of HT.out (by kernel_rfl)) ?_
 (try clear F)
 have F := HS.boxes; simp only [bxn] at F
 obtain ⟨rfl, rfl⟩ := zsome2 H
 go_wp2
 exact bodyPost_ret (results_list (rs := [.tmp 2, .tmp 3]) rfl (by simp) (.tmp (.tmp .nil))) rfl ⟨rfl, HS.pick [] (by decide) (by rfl)⟩
/-! ### spec_l13Anchor: function 57 -/
def spec_l13Anchor.f (k : Nat) (a0 : S115) : Option (Bool) := ((spec_NameOk.f k a0.f0).bind fun t3 => (if t3 = true then (some ((a0.f1.size : Int) == 15)) else (some false)))
set_option maxHeartbeats 16000000 in
theorem spec_l13Anchor.calls {k : Nat} {a0 : S115} {r : Bool} {w : World} (h : spec_l13Anchor.f k a0 = some r) :
    Calls Tryz.prog 57 #[.agg #[.string a0.f0, .string a0.f1]] w (fun e w' => e = .returned (.bool r) ∧ Hp noFP w w' []) := by
 have HS := Hp.start w
 have H := Aside0.mk h
 clear h
 unfold spec_l13Anchor.f at H
 go_enter Tryz.func57, Tryz.ntmps57
 replace H := zbind H; obtain ⟨t3, ht3, H⟩ := H
 by_cases c5 : t3 = true
 case pos =>
  replace H := zpos c5 H
  subst c5
  obtain rfl := zsome H
  go_wp2_with (first | ((with_reducible refine gate_dst (N := 1) rfl ?_); refine ev_bx HS ?_; clear HS; (try clear F); intro g1 w1 HS F) | ((with_reducible refine gate_dst (N := 5) rfl ?_); refine ev_cl HS (spec_NameOk.calls ht3.out) Tryz.func139 ?_; clear HS; (try clear F); intro wt3 HS F))
  go_ret
  exact HS.pk
 replace H := zneg c5 H
 replace c5 := eq_false_of_ne_true c5
 subst c5
 obtain rfl := zsome H
 go_wp2_with (first | ((with_reducible refine gate_dst (N := 1) rfl ?_); refine ev_bx HS ?_; clear HS; (try clear F); intro g1 w1 HS F) | ((with_reducible refine gate_dst (N := 5) rfl ?_); refine ev_cl HS (spec_NameOk.calls ht3.out) Tryz.func139 ?_; clear HS; (try clear F); intro wt3 HS F))
 go_ret
 exact HS.pk
end Go.Proofs.YtacocpknielofaaGreatDoor.F

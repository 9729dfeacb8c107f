/- Functions of the program and of the law, and that their calls do what is written here. -/
import Derived.Test.YtacocpknielofaaGreatDoorZgFnExactServerOka
import Derived.Test.YtacocpknielofaaGreatDoorZgFnExactStoreOka
import Derived.Test.YtacocpknielofaaGreatDoorZgFnExactStoreOkf
namespace Go.Proofs.YtacocpknielofaaGreatDoor.F
open Go.RowKit Go.Proofs.YtacocpknielofaaGreatDoorW.PrintWords Go.Proofs.YtacocpknielofaaGreatDoorW.PrintLast Go.Proofs.YtacocpknielofaaGreatDoorW.PrintMore Go.Proofs.YtacocpknielofaaGreatDoor.Z
attribute [local go_sem] max2_int min2_int max_two min_two max_three min_three max_four min_four
set_option linter.unusedVariables false
set_option linter.unusedSimpArgs false
set_option maxRecDepth 100000
/-! ### spec_PlansOk: function 73 -/
mutual
def spec_PlansOk.l0 : Nat → Int → (List S202) → S33 → Option (Bool)
  | 0, _, _, _ => none
  | k + 1, x6, a0, a1 => (if x6 < (a0.length : Int) then (if 0 ≤ x6 then (if x6 < (a0.length : Int) then ((spec_l01In.f ((rd_T202 a0 x6).f0) 0 99).bind fun t102001 => (if t102001 = true then (if 0 < x6 then (if 0 ≤ (wrap64 (x6 - 1)) then (if (wrap64 (x6 - 1)) < (a0.length : Int) then (if (rd_T202 a0 x6).f0 ≤ (rd_T202 a0 (wrap64 (x6 - 1))).f0 then (some false) else ((spec_RulesOk.f k (⟨0, (rd_T202 a0 x6).f2.f1, (rd_T202 a0 x6).f2.f2, (rd_T202 a0 x6).f2.f3, (rd_T202 a0 x6).f2.f4⟩ : S200)).bind fun t121001 => (if t121001 = true then ((spec_l01In.f ((rd_T202 a0 x6).f1.length : Int) 1 3).bind fun t128001 => (if t128001 = true then (spec_PlansOk.l1 k 0 a0 a1 x6) else (some false))) else (some false)))) else none) else none) else ((spec_RulesOk.f k (⟨0, (rd_T202 a0 x6).f2.f1, (rd_T202 a0 x6).f2.f2, (rd_T202 a0 x6).f2.f3, (rd_T202 a0 x6).f2.f4⟩ : S200)).bind fun t121001 => (if t121001 = true then ((spec_l01In.f ((rd_T202 a0 x6).f1.length : Int) 1 3).bind fun t128001 => (if t128001 = true then (spec_PlansOk.l2 k 0 a0 a1 x6) else (some false))) else (some false)))) else (some false))) else none) else none) else (some (decide ((a0.length : Int) ≤ 6))))
def spec_PlansOk.l1 : Nat → Int → (List S202) → S33 → Int → Option (Bool)
  | 0, _, _, _, _ => none
  | k + 1, x31, a0, a1, x6 => (if x31 < ((rd_T202 a0 x6).f1.length : Int) then (if 0 ≤ x31 then (if x31 < ((rd_T202 a0 x6).f1.length : Int) then ((spec_l01In.f (rd ((rd_T202 a0 x6).f1) x31) 0 (wrap64 ((a1.f2.length : Int) - 1))).bind fun t209001 => (if t209001 = true then (if 0 < x31 then (if 0 ≤ (wrap64 (x31 - 1)) then (if (wrap64 (x31 - 1)) < ((rd_T202 a0 x6).f1.length : Int) then (if (rd ((rd_T202 a0 x6).f1) x31) ≤ (rd ((rd_T202 a0 x6).f1) (wrap64 (x31 - 1))) then (some false) else (spec_PlansOk.l1 k (wrap64 (x31 + 1)) a0 a1 x6)) else none) else none) else (spec_PlansOk.l1 k (wrap64 (x31 + 1)) a0 a1 x6)) else (some false))) else none) else none) else (spec_PlansOk.l0 k (wrap64 (x6 + 1)) a0 a1))
def spec_PlansOk.l2 : Nat → Int → (List S202) → S33 → Int → Option (Bool)
  | 0, _, _, _, _ => none
  | k + 1, x50, a0, a1, x6 => (if x50 < ((rd_T202 a0 x6).f1.length : Int) then (if 0 ≤ x50 then (if x50 < ((rd_T202 a0 x6).f1.length : Int) then ((spec_l01In.f (rd ((rd_T202 a0 x6).f1) x50) 0 (wrap64 ((a1.f2.length : Int) - 1))).bind fun t309001 => (if t309001 = true then (if 0 < x50 then (if 0 ≤ (wrap64 (x50 - 1)) then (if (wrap64 (x50 - 1)) < ((rd_T202 a0 x6).f1.length : Int) then (if (rd ((rd_T202 a0 x6).f1) x50) ≤ (rd ((rd_T202 a0 x6).f1) (wrap64 (x50 - 1))) then (some false) else (spec_PlansOk.l2 k (wrap64 (x50 + 1)) a0 a1 x6)) else none) else none) else (spec_PlansOk.l2 k (wrap64 (x50 + 1)) a0 a1 x6)) else (some false))) else none) else none) else (spec_PlansOk.l0 k (wrap64 (x6 + 1)) a0 a1))
end
def spec_PlansOk.f (k : Nat) (a0 : (List S202)) (a1 : S33) : Option (Bool) := (spec_PlansOk.l0 k 0 a0 a1)
def spec_PlansOk.T7 : Bool × List (List Nat × List Nat) := (true, [([], []), ([0], [0]), ([1], [1]), ([2], [2]), ([3, 2], [3]), ([4], [4]), ([5, 4], [4, 5]), ([6, 4, 4], [4, 6]), ([7], [7]), ([7], [7]), ([9, 7], [7, 9]), ([8, 10, 7], [7, 8, 10]), ([11, 7], [7, 11]), ([12, 7], [7, 12]), ([7], [7]), ([14, 7], [7, 14]), ([13, 15, 7], [7, 13, 15]), ([7, 16, 4], [4, 7, 16]), ([4, 17], [4, 17]), ([18, 7], [18]), ([19], [19]), ([20, 19, 19], [19, 20]), ([21, 19], [19, 21]), ([19, 22], [19, 22]), ([23, 21], [23]), ([24], [24]), ([25, 24], [24, 25]), ([26, 24], [24, 26]), ([27, 24, 24], [24, 27]), ([28, 24], [24, 28]), ([24, 29], [24, 29])])
theorem spec_PlansOk.tT7 : rtab .any (opsOf Tryz.f73 7) = spec_PlansOk.T7 := by kernel_rfl
def spec_PlansOk.T12 : Bool × List (List Nat × List Nat) := (true, [([], []), ([0], [0]), ([], []), ([1, 2], [1, 2]), ([3], [3]), ([], []), ([5], [5]), ([6], [6]), ([7], [7]), ([4, 8], [4, 8]), ([9], [9]), ([10, 9], [10]), ([11], [11]), ([12, 11], [11, 12]), ([13, 11, 11], [11, 13]), ([14], [14]), ([15, 14], [14, 15]), ([14], [14]), ([17, 14], [14, 17]), ([16, 18, 14], [14, 16, 18]), ([19, 14], [14, 19]), ([14], [14]), ([21, 14], [14, 21]), ([14], [14]), ([22, 23, 14], [14, 22, 23]), ([24, 14], [14, 24]), ([20, 25, 14], [14, 20, 25]), ([14, 26, 11], [11, 14, 26]), ([11, 27], [11, 27])])
theorem spec_PlansOk.tT12 : rtab .any (opsOf Tryz.f73 12) = spec_PlansOk.T12 := by kernel_rfl
set_option maxHeartbeats 16000000 in
theorem spec_PlansOk.calls {k : Nat} {a0 : (List S202)} {a1 : S33} {Ap0 : Option Addr} {np0 cp0 : Nat} {Ap1 : Option Addr} {np1 cp1 : Nat} {Ap2 : Option Addr} {np2 cp2 : Nat} {Ap3 : Option Addr} {np3 cp3 : Nat} {r : Bool} {w : World} (h : spec_PlansOk.f k a0 a1 = some r) (gp0 : k202.C w Ap0 np0 a0) (lp0 : np0 ≤ cp0) (gp1 : k91.C w Ap1 np1 a1.f0) (lp1 : np1 ≤ cp1) (gp2 : k81.C w Ap2 np2 a1.f1) (lp2 : np2 ≤ cp2) (gp3 : k115.C w Ap3 np3 a1.f2) (lp3 : np3 ≤ cp3) :
    Calls Tryz.prog 73 #[.slice Ap0 np0 cp0, .agg #[.slice Ap1 np1 cp1, .slice Ap2 np2 cp2, .slice Ap3 np3 cp3]] w (fun e w' => e = .returned (.bool r) ∧ Hp noFP w w' []) := by
 obtain rfl := C_len gp0
 obtain rfl := C_len gp1
 obtain rfl := C_len gp2
 obtain rfl := C_len gp3
 have HS := Hp.start w
 have H := Aside0.mk h
 clear h
 unfold spec_PlansOk.f at H
 go_enter Tryz.func73, Tryz.ntmps73
 go_wp2_with (first | ((with_reducible refine gate_dst (N := 3) rfl ?_); refine ev_bx HS ?_; clear HS; (try clear F); intro g3 w3 HS F))
 go_loopg [5] k (fun kq v_5 w' => ∃ (x6 : Int), v_5 = .int .i64 x6 ∧ Aside0 (spec_PlansOk.l0 kq x6 a0 a1 = some r) ∧ Aside0 (kq ≤ k) ∧ Hp noFP w w' [.box g3 [.slice Ap1 a1.f0.length cp1, .slice Ap2 a1.f1.length cp2, .slice Ap3 a1.f2.length cp3] 33])
 case atStart => exact ⟨_, rfl, H, ⟨Nat.le_refl _⟩, HS⟩
 case round =>
  clear HS H; (try clear F)
  obtain ⟨x6, rfl, H, HKk5, HS⟩ := hrel
  have F := HS.boxes; simp only [bxn] at F
  cases gk with
  | zero => exact absurd H.out (by simp [spec_PlansOk.l0])
  | succ k5 =>
   simp only [spec_PlansOk.l0] at H
   by_cases c8 : x6 < (a0.length : Int)
   case neg =>
    replace H := zneg c8 H
    replace c8 := eq_false c8
    obtain rfl := zsome H
    go_wp2
    go_ret
    exact HS.pk
   replace H := zpos c8 H
   replace c8 := eq_true c8
   obtain ⟨c9, H⟩ := zgo H
   obtain ⟨c10, H⟩ := zgo H
   obtain ⟨ad11, B11_1, d11_1, B11_3, d11_3, rfl, e11_0, e11_1, e11_2, e11_3, e11_4, e11_5, e11_6, m11_1, y11_1, m11_3, y11_3⟩ := at_T202 gp0 x6 (of_eq_true c9) (of_eq_true c10)
   have e11_0_11 := (HS.keepc e11_0)
   have e11_1_11 := (HS.keepc e11_1)
   have e11_2_11 := (HS.keepc e11_2)
   have e11_3_11 := (HS.keepc e11_3)
   have e11_4_11 := (HS.keepc e11_4)
   have e11_5_11 := (HS.keepc e11_5)
   have e11_6_11 := (HS.keepc e11_6)
   go_wp2_with (first | ((with_reducible refine gate_dst (N := 6) rfl ?_); refine ev_bx HS ?_; clear HS; (try clear F); intro g6 w6 HS F) | ((with_reducible refine gate_store (p := 6) rfl ?_); refine ev_st 1 0 HS (seg := [.int .i64 ((rd_T202 a0 x6).f0), .slice B11_1 (rd_T202 a0 x6).f1.length d11_1, .int .i64 ((rd_T202 a0 x6).f2.f0), .slice B11_3 (rd_T202 a0 x6).f2.f1.length d11_3, .bool ((rd_T202 a0 x6).f2.f2), .bool ((rd_T202 a0 x6).f2.f3), .int .i64 ((rd_T202 a0 x6).f2.f4)]) ?_; clear HS; (try clear F); intro w14 HS F) | ((with_reducible refine gate_dst (N := 7) rfl ?_); refine ev_bx HS ?_; clear HS; (try clear F); intro g7 w7 HS F) | ((with_reducible refine gate_store (p := 7) rfl ?_); refine ev_st 2 0 HS (seg := [.int .i64 ((rd_T202 a0 x6).f2.f0), .slice B11_3 (rd_T202 a0 x6).f2.f1.length d11_3, .bool ((rd_T202 a0 x6).f2.f2), .bool ((rd_T202 a0 x6).f2.f3), .int .i64 ((rd_T202 a0 x6).f2.f4)]) ?_; clear HS; (try clear F); intro w18 HS F) | ((with_reducible refine gate_store (p := 21) rfl ?_); refine ev_st 2 0 HS (seg := [.int .i64 0]) ?_; clear HS; (try clear F); intro w20 HS F))
   replace H := zbind H; obtain ⟨t102001, ht102001, H⟩ := H
   by_cases c104001 : t102001 = true
   case neg =>
    replace H := zneg c104001 H
    replace c104001 := eq_false_of_ne_true c104001
    subst c104001
    refine dr_start [] HS #[false, false, false, false, false, false, false, false, false, false, false, false, false, false, false, false, false, false, false, false, false, false, false, false, false, false, false, false, false, false, false] (by kernel_rfl) rfl rfl spec_PlansOk.tT7 (fun w63 HT HS HH => ?_)
    (try clear F)
    refine drq_of [(0, some 22), (1, some 23)] ?_
    repeat (first | refine drp HT ?_ | refine drt HT HH ?_)
    refine drq_end ?_
    refine dr1 2 HT fun K hK => ?_
    refine go_cl HS (spec_l01In.calls ht102001.out) Tryz.func74 ?_; clear HS; (try clear F); intro wt102001 HS F
    refine nrm 24 hK ⟨_, HS⟩ (fun HH => ?_); clear hK K
    refine drq_of [(3, some 25), (4, some 26), (5, some 27), (6, some 28), (7, some 29), (8, some 30), (9, some 31), (10, some 32), (11, some 33), (12, some 34), (13, some 35), (14, some 36), (15, some 37), (16, some 38), (17, some 39), (18, some 40), (19, some 41), (20, some 42), (21, some 43), (22, some 44), (23, some 45), (24, some 46), (25, some 47), (26, some 48), (27, some 49), (28, some 50), (29, some 51), (30, some 52)] ?_
    repeat (first | (refine drq_pure HT (v := ?_) (a' := ?_) rfl rfl (by kernel_rfl) (fun _ _ _ h => h) (.inl ⟨by rfl, ?_⟩) ?_ ?_; rotate_left; (intro w'; go_simp; with_reducible rfl); rotate_left; (simp only [Act.put, ptn]; rfl)) | (refine drq_pure HT (v := undef) (a' := ?_) rfl rfl (by kernel_rfl) (fun _ _ _ h => h) (.inr ⟨by rfl, rfl⟩) ?_ ?_; rotate_left; (simp only [Act.put, ptn]; rfl)))
    refine drq_end ?_
    refine done_ (done_of HT.out (by kernel_rfl)) ?_
    (try clear F)
    have F := HS.boxes; simp only [bxn] at F
    obtain rfl := zsome H
    go_wp2
    go_ret
    exact HS.pk
   replace H := zpos c104001 H
   subst c104001
   by_cases c107001 : 0 < x6
   case neg =>
    replace H := zneg c107001 H
    replace c107001 := eq_false c107001
    replace H := zbind H; obtain ⟨t121001, ht121001, H⟩ := H
    by_cases c124001 : t121001 = true
    case neg =>
     replace H := zneg c124001 H
     replace c124001 := eq_false_of_ne_true c124001
     subst c124001
     refine dr_start [] HS #[false, false, false, false, false, false, false, false, false, false, false, false, false, false, false, false, false, false, false, false, false, false, false, false, false, false, false, false, false, false, false] (by kernel_rfl) rfl rfl spec_PlansOk.tT7 (fun w61 HT HS HH => ?_)
     (try clear F)
     refine drq_of [(0, some 22), (1, some 23)] ?_
     repeat (first | refine drp HT ?_ | refine drt HT HH ?_)
     refine drq_end ?_
     refine dr1 2 HT fun K hK => ?_
     refine go_cl HS (spec_l01In.calls ht102001.out) Tryz.func74 ?_; clear HS; (try clear F); intro wt102001 HS F
     refine nrm 24 hK ⟨_, HS⟩ (fun HH => ?_); clear hK K
     refine drq_of [(3, some 25), (4, some 26), (5, some 27), (6, some 28), (7, some 29), (8, some 30), (9, some 31), (10, some 32), (11, some 33), (12, some 34), (13, some 35), (14, some 36), (15, some 37), (16, some 38), (17, some 39), (18, some 40), (19, some 41), (20, some 42)] ?_
     repeat (first | (refine drq_pure HT (v := ?_) (a' := ?_) rfl rfl (by kernel_rfl) (fun _ _ _ h => h) (.inl ⟨by rfl, ?_⟩) ?_ ?_; rotate_left; (intro w'; go_simp; with_reducible rfl); rotate_left; (simp only [Act.put, ptn]; rfl)) | (refine drq_pure HT (v := undef) (a' := ?_) rfl rfl (by kernel_rfl) (fun _ _ _ h => h) (.inr ⟨by rfl, rfl⟩) ?_ ?_; rotate_left; (simp only [Act.put, ptn]; rfl)) | (refine drq_take HT HH (v := ?_) (a' := ?_) rfl rfl (by kernel_rfl) (fun _ _ _ h => h) (.inl ⟨by rfl, ?_⟩) ?_ ?_; rotate_left; (rintro w' ⟨rs', HS'⟩; have F := HS'.boxes; simp only [bxn, List.cons_append, List.nil_append] at F; go_simp; with_reducible rfl); rotate_left; (simp only [Act.put, ptn]; rfl)))
     refine drq_end ?_
     refine dr1 21 HT fun K hK => ?_
     refine go_cl HS (spec_RulesOk.calls ht121001.out (HS.ro y11_3) m11_3) Tryz.func153 ?_; clear HS; (try clear F); intro wt121001 HS F
     refine nrm 43 hK ⟨_, HS⟩ (fun HH => ?_); clear hK K
     refine drq_of [(22, some 44), (23, some 45), (24, some 46), (25, some 47), (26, some 48), (27, some 49), (28, some 50), (29, some 51), (30, some 52)] ?_
     repeat (first | (refine drq_pure HT (v := ?_) (a' := ?_) rfl rfl (by kernel_rfl) (fun _ _ _ h => h) (.inl ⟨by rfl, ?_⟩) ?_ ?_; rotate_left; (intro w'; go_simp; with_reducible rfl); rotate_left; (simp only [Act.put, ptn]; rfl)) | (refine drq_pure HT (v := undef) (a' := ?_) rfl rfl (by kernel_rfl) (fun _ _ _ h => h) (.inr ⟨by rfl, rfl⟩) ?_ ?_; rotate_left; (simp only [Act.put, ptn]; rfl)))
     refine drq_end ?_
     refine done_ (done_of HT.out (by kernel_rfl)) ?_
     (try clear F)
     have F := HS.boxes; simp only [bxn] at F
     obtain rfl := zsome H
     go_wp2
     go_ret
     exact HS.pk
    replace H := zpos c124001 H
    subst c124001
    replace H := zbind H; obtain ⟨t128001, ht128001, H⟩ := H
    refine dr_start [] HS #[false, false, false, false, false, false, false, false, false, false, false, false, false, false, false, false, false, false, false, false, false, false, false, false, false, false, false, false, false, false, false] (by kernel_rfl) rfl rfl spec_PlansOk.tT7 (fun w44 HT HS HH => ?_)
    (try clear F)
    refine drq_of [(0, some 22), (1, some 23)] ?_
    repeat (first | refine drp HT ?_ | refine drt HT HH ?_)
    refine drq_end ?_
    refine dr1 2 HT fun K hK => ?_
    refine go_cl HS (spec_l01In.calls ht102001.out) Tryz.func74 ?_; clear HS; (try clear F); intro wt102001 HS F
    refine nrm 24 hK ⟨_, HS⟩ (fun HH => ?_); clear hK K
    refine drq_of [(3, some 25), (4, some 26), (5, some 27), (6, some 28), (7, some 29), (8, some 30), (9, some 31), (10, some 32), (11, some 33), (12, some 34), (13, some 35), (14, some 36), (15, some 37), (16, some 38), (17, some 39), (18, some 40), (19, some 41), (20, some 42)] ?_
    repeat (first | (refine drq_pure HT (v := ?_) (a' := ?_) rfl rfl (by kernel_rfl) (fun _ _ _ h => h) (.inl ⟨by rfl, ?_⟩) ?_ ?_; rotate_left; (intro w'; go_simp; with_reducible rfl); rotate_left; (simp only [Act.put, ptn]; rfl)) | (refine drq_pure HT (v := undef) (a' := ?_) rfl rfl (by kernel_rfl) (fun _ _ _ h => h) (.inr ⟨by rfl, rfl⟩) ?_ ?_; rotate_left; (simp only [Act.put, ptn]; rfl)) | (refine drq_take HT HH (v := ?_) (a' := ?_) rfl rfl (by kernel_rfl) (fun _ _ _ h => h) (.inl ⟨by rfl, ?_⟩) ?_ ?_; rotate_left; (rintro w' ⟨rs', HS'⟩; have F := HS'.boxes; simp only [bxn, List.cons_append, List.nil_append] at F; go_simp; with_reducible rfl); rotate_left; (simp only [Act.put, ptn]; rfl)))
    refine drq_end ?_
    refine dr1 21 HT fun K hK => ?_
    refine go_cl HS (spec_RulesOk.calls ht121001.out (HS.ro y11_3) m11_3) Tryz.func153 ?_; clear HS; (try clear F); intro wt121001 HS F
    refine nrm 43 hK ⟨_, HS⟩ (fun HH => ?_); clear hK K
    refine drq_of [(22, some 44), (23, some 45), (24, some 46), (25, some 47), (26, some 48), (27, some 49)] ?_
    repeat (first | refine drp HT ?_ | refine drt HT HH ?_)
    refine drq_end ?_
    refine dr1 28 HT fun K hK => ?_
    refine go_cl HS (spec_l01In.calls ht128001.out) Tryz.func74 ?_; clear HS; (try clear F); intro wt128001 HS F
    refine nrm 50 hK ⟨_, HS⟩ (fun HH => ?_); clear hK K
    refine drq_of [(29, some 51), (30, some 52)] ?_
    repeat (refine drp HT ?_)
    refine drq_end ?_
    refine done_ (done_of HT.out (by kernel_rfl)) ?_
    (try clear F)
    have F := HS.boxes; simp only [bxn] at F
    by_cases c46 : t128001 = true
    case neg =>
     replace H := zneg c46 H
     replace c46 := eq_false_of_ne_true c46
     subst c46
     (try simp only [dcn, if_true, Bool.false_eq_true, if_false])
     obtain rfl := zsome H
     go_wp2
     go_ret
     exact HS.pk
    replace H := zpos c46 H
    subst c46
    (try simp only [dcn, if_true, Bool.false_eq_true, if_false])
    go_wp2
    (try obtain ⟨wok49, rfl⟩ : ∃ wo_ : World, wo_ = wr := ⟨_, rfl⟩)
    go_loopg [8] k5 (fun kq v_8 w' => ∃ (x50 : Int), v_8 = .int .i64 x50 ∧ Aside0 (spec_PlansOk.l2 kq x50 a0 a1 x6 = some r) ∧ Aside0 (kq ≤ k5) ∧ Hp noFP w w' [.box g3 [.slice Ap1 a1.f0.length cp1, .slice Ap2 a1.f1.length cp2, .slice Ap3 a1.f2.length cp3] 33, .box g6 [.int .i64 ((rd_T202 a0 x6).f0), .slice B11_1 (rd_T202 a0 x6).f1.length d11_1, .int .i64 ((rd_T202 a0 x6).f2.f0), .slice B11_3 (rd_T202 a0 x6).f2.f1.length d11_3, .bool ((rd_T202 a0 x6).f2.f2), .bool ((rd_T202 a0 x6).f2.f3), .int .i64 ((rd_T202 a0 x6).f2.f4)] 202, .box g7 [.int .i64 0, .slice B11_3 (rd_T202 a0 x6).f2.f1.length d11_3, .bool ((rd_T202 a0 x6).f2.f2), .bool ((rd_T202 a0 x6).f2.f3), .int .i64 ((rd_T202 a0 x6).f2.f4)] 200])
    case atStart => exact ⟨_, rfl, H, ⟨Nat.le_refl _⟩, HS⟩
    case round =>
     clear HS H; (try clear F)
     obtain ⟨x50, rfl, H, HKk49, HS⟩ := hrel
     have F := HS.boxes; simp only [bxn] at F
     cases gk with
     | zero => exact absurd H.out (by simp [spec_PlansOk.l2])
     | succ k49 =>
      simp only [spec_PlansOk.l2] at H
      by_cases c52 : x50 < ((rd_T202 a0 x6).f1.length : Int)
      case neg =>
       replace H := zneg c52 H
       replace c52 := eq_false c52
       go_wp2
       go_roundg k49
       case measure => have := HKk5.out; have := HKk49.out; omega
       case rel => exact ⟨_, rfl, H, ⟨by have := HKk5.out; have := HKk49.out; omega⟩, HS.pick [0] (by decide) (by rfl)⟩
      replace H := zpos c52 H
      replace c52 := eq_true c52
      (try go_wp2)
      obtain ⟨c303001, H⟩ := zgo H
      obtain ⟨c303002, H⟩ := zgo H
      obtain ⟨ad303999, rfl, e303999_0⟩ := Kd.at_int y11_1 x50 (of_eq_true c303001) (of_eq_true c303002)
      replace H := zbind H; obtain ⟨t309001, ht309001, H⟩ := H
      by_cases c311001 : t309001 = true
      case neg =>
       replace H := zneg c311001 H
       replace c311001 := eq_false_of_ne_true c311001
       subst c311001
       refine dr_start [] HS #[false, false, false, false, false, false, false, false, false, false, false, false, false, false, false, false, false, false, false, false, false, false, false, false, false, false, false, false, false] (by kernel_rfl) rfl rfl spec_PlansOk.tT12 (fun w59 HT HS HH => ?_)
       (try clear F)
       refine drq_of [(0, some 60), (1, some 61), (2, some 62), (3, some 63)] ?_
       repeat (first | refine drp HT ?_ | refine drt HT HH ?_)
       refine drq_end ?_
       refine dr_take 4 (some 64) HT HH (v := ?_) (a' := ?_) rfl rfl (by kernel_rfl) (fun _ _ _ h => h) (.inl ⟨by rfl, ?_⟩) ?_ ?_
       rotate_left
       · rintro w' ⟨rs', HS'⟩; have e303999_0 := (HS'.keepc e303999_0); go_simp; with_reducible rfl
       rotate_left
       · simp only [Act.put, ptn]; rfl
       refine drq_of [(5, some 65), (6, some 66), (7, some 67), (8, some 68)] ?_
       repeat (first | refine drp HT ?_ | refine drt HT HH ?_)
       refine drq_end ?_
       refine dr1 9 HT fun K hK => ?_
       refine go_cl HS (spec_l01In.calls ht309001.out) Tryz.func74 ?_; clear HS; (try clear F); intro wt309001 HS F
       refine nrm 69 hK ⟨_, HS⟩ (fun HH => ?_); clear hK K
       refine drq_of [(10, some 70), (11, some 71), (12, some 72), (13, some 73), (14, some 74), (15, some 75), (16, some 76), (17, some 77), (18, some 78), (19, some 79), (20, some 80), (21, some 81), (22, some 82), (23, some 83), (24, some 84), (25, some 85), (26, some 86), (27, some 87), (28, some 88)] ?_
       repeat (first | (refine drq_pure HT (v := ?_) (a' := ?_) rfl rfl (by kernel_rfl) (fun _ _ _ h => h) (.inl ⟨by rfl, ?_⟩) ?_ ?_; rotate_left; (intro w'; go_simp; with_reducible rfl); rotate_left; (simp only [Act.put, ptn]; rfl)) | (refine drq_pure HT (v := undef) (a' := ?_) rfl rfl (by kernel_rfl) (fun _ _ _ h => h) (.inr ⟨by rfl, rfl⟩) ?_ ?_; rotate_left; (simp only [Act.put, ptn]; rfl)))
       refine drq_end ?_
       refine done_ (done_of HT.out (by kernel_rfl)) ?_
       (try clear F)
       have F := HS.boxes; simp only [bxn] at F
       obtain rfl := zsome H
       go_wp2
       go_ret
       exact HS.pk
      replace H := zpos c311001 H
      subst c311001
      by_cases c314001 : 0 < x50
      case neg =>
       replace H := zneg c314001 H
       replace c314001 := eq_false c314001
       refine dr_start [] HS #[false, false, false, false, false, false, false, false, false, false, false, false, false, false, false, false, false, false, false, false, false, false, false, false, false, false, false, false, false] (by kernel_rfl) rfl rfl spec_PlansOk.tT12 (fun w57 HT HS HH => ?_)
       (try clear F)
       refine drq_of [(0, some 60), (1, some 61), (2, some 62), (3, some 63)] ?_
       repeat (first | refine drp HT ?_ | refine drt HT HH ?_)
       refine drq_end ?_
       refine dr_take 4 (some 64) HT HH (v := ?_) (a' := ?_) rfl rfl (by kernel_rfl) (fun _ _ _ h => h) (.inl ⟨by rfl, ?_⟩) ?_ ?_
       rotate_left
       · rintro w' ⟨rs', HS'⟩; have e303999_0 := (HS'.keepc e303999_0); go_simp; with_reducible rfl
       rotate_left
       · simp only [Act.put, ptn]; rfl
       refine drq_of [(5, some 65), (6, some 66), (7, some 67), (8, some 68)] ?_
       repeat (first | refine drp HT ?_ | refine drt HT HH ?_)
       refine drq_end ?_
       refine dr1 9 HT fun K hK => ?_
       refine go_cl HS (spec_l01In.calls ht309001.out) Tryz.func74 ?_; clear HS; (try clear F); intro wt309001 HS F
       refine nrm 69 hK ⟨_, HS⟩ (fun HH => ?_); clear hK K
       refine drq_of [(10, some 70), (11, some 71), (12, some 72), (13, some 73), (14, some 74), (15, some 75), (16, some 76), (17, some 77), (18, some 78), (19, some 79), (20, some 80), (21, some 81), (22, some 82), (23, some 83), (24, some 84), (25, some 85), (26, some 86), (27, some 87), (28, some 88)] ?_
       repeat (first | (refine drq_pure HT (v := ?_) (a' := ?_) rfl rfl (by kernel_rfl) (fun _ _ _ h => h) (.inl ⟨by rfl, ?_⟩) ?_ ?_; rotate_left; (intro w'; go_simp; with_reducible rfl); rotate_left; (simp only [Act.put, ptn]; rfl)) | (refine drq_pure HT (v := undef) (a' := ?_) rfl rfl (by kernel_rfl) (fun _ _ _ h => h) (.inr ⟨by rfl, rfl⟩) ?_ ?_; rotate_left; (simp only [Act.put, ptn]; rfl)))
       refine drq_end ?_
       refine done_ (done_of HT.out (by kernel_rfl)) ?_
       (try clear F)
       have F := HS.boxes; simp only [bxn] at F
       go_wp2
       go_roundg k49
       case measure => have := HKk5.out; have := HKk49.out; omega
       case rel => exact ⟨_, rfl, H, ⟨by have := HKk5.out; have := HKk49.out; omega⟩, HS.pick [0, 1, 2] (by decide) (by rfl)⟩
      replace H := zpos c314001 H
      replace c314001 := eq_true c314001
      obtain ⟨c319001, H⟩ := zgo H
      obtain ⟨c319002, H⟩ := zgo H
      obtain ⟨ad319999, hq319999, e319999_0⟩ := Kd.at_int y11_1 (wrap64 (x50 - 1)) (of_eq_true c319001) (of_eq_true c319002); obtain rfl := Option.some.inj hq319999
      refine dr_start [] HS #[false, false, false, false, false, false, false, false, false, false, false, false, false, false, false, false, false, false, false, false, false, false, false, false, false, false, false, false, false] (by kernel_rfl) rfl rfl spec_PlansOk.tT12 (fun w54 HT HS HH => ?_)
      (try clear F)
      refine drq_of [(0, some 60), (1, some 61), (2, some 62), (3, some 63)] ?_
      repeat (first | refine drp HT ?_ | refine drt HT HH ?_)
      refine drq_end ?_
      refine dr_take 4 (some 64) HT HH (v := ?_) (a' := ?_) rfl rfl (by kernel_rfl) (fun _ _ _ h => h) (.inl ⟨by rfl, ?_⟩) ?_ ?_
      rotate_left
      · rintro w' ⟨rs', HS'⟩; have e303999_0 := (HS'.keepc e303999_0); go_simp; with_reducible rfl
      rotate_left
      · simp only [Act.put, ptn]; rfl
      refine drq_of [(5, some 65), (6, some 66), (7, some 67), (8, some 68)] ?_
      repeat (first | refine drp HT ?_ | refine drt HT HH ?_)
      refine drq_end ?_
      refine dr1 9 HT fun K hK => ?_
      refine go_cl HS (spec_l01In.calls ht309001.out) Tryz.func74 ?_; clear HS; (try clear F); intro wt309001 HS F
      refine nrm 69 hK ⟨_, HS⟩ (fun HH => ?_); clear hK K
      refine drq_of [(10, some 70), (11, some 71), (12, some 72), (13, some 73), (14, some 74), (15, some 75), (16, some 76), (17, some 77), (18, some 78), (19, some 79)] ?_
      repeat (first | refine drp HT ?_ | refine drt HT HH ?_)
      refine drq_end ?_
      refine dr_take 20 (some 80) HT HH (v := ?_) (a' := ?_) rfl rfl (by kernel_rfl) (fun _ _ _ h => h) (.inl ⟨by rfl, ?_⟩) ?_ ?_
      rotate_left
      · rintro w' ⟨rs', HS'⟩; have e319999_0 := (HS'.keepc e319999_0); go_simp; with_reducible rfl
      rotate_left
      · simp only [Act.put, ptn]; rfl
      refine drq_of [(21, some 81), (22, some 82), (23, some 83), (24, some 84)] ?_
      repeat (first | refine drp HT ?_ | refine drt HT HH ?_)
      refine drq_end ?_
      refine dr_take 25 (some 85) HT HH (v := ?_) (a' := ?_) rfl rfl (by kernel_rfl) (fun _ _ _ h => h) (.inl ⟨by rfl, ?_⟩) ?_ ?_
      rotate_left
      · rintro w' ⟨rs', HS'⟩; have e303999_0 := (HS'.keepc e303999_0); go_simp; with_reducible rfl
      rotate_left
      · simp only [Act.put, ptn]; rfl
      refine drq_of [(26, some 86), (27, some 87), (28, some 88)] ?_
      repeat (refine drp HT ?_)
      refine drq_end ?_
      refine done_ (done_of HT.out (by kernel_rfl)) ?_
      (try clear F)
      have F := HS.boxes; simp only [bxn] at F
      by_cases c56 : (rd ((rd_T202 a0 x6).f1) x50) ≤ (rd ((rd_T202 a0 x6).f1) (wrap64 (x50 - 1)))
      case pos =>
       replace H := zpos c56 H
       replace c56 := eq_true c56
       (try simp only [c56, dcn])
       obtain rfl := zsome H
       go_wp2
       go_ret
       exact HS.pk
      replace H := zneg c56 H
      replace c56 := eq_false c56
      (try simp only [c56, dcn])
      go_wp2
      go_roundg k49
      case measure => have := HKk5.out; have := HKk49.out; omega
      case rel => exact ⟨_, rfl, H, ⟨by have := HKk5.out; have := HKk49.out; omega⟩, HS.pick [0, 1, 2] (by decide) (by rfl)⟩
   replace H := zpos c107001 H
   replace c107001 := eq_true c107001
   obtain ⟨c111001, H⟩ := zgo H
   obtain ⟨c111002, H⟩ := zgo H
   obtain ⟨ad111999, B111999_1, d111999_1, B111999_3, d111999_3, hq111999, e111999_0, e111999_1, e111999_2, e111999_3, e111999_4, e111999_5, e111999_6, m111999_1, y111999_1, m111999_3, y111999_3⟩ := at_T202 gp0 (wrap64 (x6 - 1)) (of_eq_true c111001) (of_eq_true c111002); obtain rfl := Option.some.inj hq111999
   by_cases c119001 : (rd_T202 a0 x6).f0 ≤ (rd_T202 a0 (wrap64 (x6 - 1))).f0
   case pos =>
    replace H := zpos c119001 H
    replace c119001 := eq_true c119001
    refine dr_start [] HS #[false, false, false, false, false, false, false, false, false, false, false, false, false, false, false, false, false, false, false, false, false, false, false, false, false, false, false, false, false, false, false] (by kernel_rfl) rfl rfl spec_PlansOk.tT7 (fun w23 HT HS HH => ?_)
    (try clear F)
    refine drq_of [(0, some 22), (1, some 23)] ?_
    repeat (first | refine drp HT ?_ | refine drt HT HH ?_)
    refine drq_end ?_
    refine dr1 2 HT fun K hK => ?_
    refine go_cl HS (spec_l01In.calls ht102001.out) Tryz.func74 ?_; clear HS; (try clear F); intro wt102001 HS F
    refine nrm 24 hK ⟨_, HS⟩ (fun HH => ?_); clear hK K
    refine drq_of [(3, some 25), (4, some 26), (5, some 27), (6, some 28), (7, some 29), (8, some 30), (9, some 31), (10, some 32), (11, some 33), (12, some 34)] ?_
    repeat (refine drp HT ?_)
    refine drq_end ?_
    refine dr_take 13 (some 35) HT HH (v := ?_) (a' := ?_) rfl rfl (by kernel_rfl) (fun _ _ _ h => h) (.inl ⟨by rfl, ?_⟩) ?_ ?_
    rotate_left
    · rintro w' ⟨rs', HS'⟩; have e111999_0 := (HS'.keepc e111999_0); have e111999_1 := (HS'.keepc e111999_1); have e111999_2 := (HS'.keepc e111999_2); have e111999_3 := (HS'.keepc e111999_3); have e111999_4 := (HS'.keepc e111999_4); have e111999_5 := (HS'.keepc e111999_5); have e111999_6 := (HS'.keepc e111999_6); go_simp; with_reducible rfl
    rotate_left
    · simp only [Act.put, ptn]; rfl
    refine drq_of [(14, some 36), (15, some 37), (16, some 38), (17, some 39), (18, some 40), (19, some 41), (20, some 42), (21, some 43), (22, some 44), (23, some 45), (24, some 46), (25, some 47), (26, some 48), (27, some 49), (28, some 50), (29, some 51), (30, some 52)] ?_
    repeat (first | (refine drq_pure HT (v := ?_) (a' := ?_) rfl rfl (by kernel_rfl) (fun _ _ _ h => h) (.inl ⟨by rfl, ?_⟩) ?_ ?_; rotate_left; (intro w'; go_simp; with_reducible rfl); rotate_left; (simp only [Act.put, ptn]; rfl)) | (refine drq_pure HT (v := undef) (a' := ?_) rfl rfl (by kernel_rfl) (fun _ _ _ h => h) (.inr ⟨by rfl, rfl⟩) ?_ ?_; rotate_left; (simp only [Act.put, ptn]; rfl)) | (refine drq_take HT HH (v := ?_) (a' := ?_) rfl rfl (by kernel_rfl) (fun _ _ _ h => h) (.inl ⟨by rfl, ?_⟩) ?_ ?_; rotate_left; (rintro w' ⟨rs', HS'⟩; have F := HS'.boxes; simp only [bxn, List.cons_append, List.nil_append] at F; go_simp; with_reducible rfl); rotate_left; (simp only [Act.put, ptn]; rfl)))
    refine drq_end ?_
    refine done_ (done_of HT.out (by kernel_rfl)) ?_
    (try clear F)
    have F := HS.boxes; simp only [bxn] at F
    obtain rfl := zsome H
    go_wp2
    go_ret
    exact HS.pk
   replace H := zneg c119001 H
   replace c119001 := eq_false c119001
   replace H := zbind H; obtain ⟨t121001, ht121001, H⟩ := H
   by_cases c124001 : t121001 = true
   case neg =>
    replace H := zneg c124001 H
    replace c124001 := eq_false_of_ne_true c124001
    subst c124001
    refine dr_start [] HS #[false, false, false, false, false, false, false, false, false, false, false, false, false, false, false, false, false, false, false, false, false, false, false, false, false, false, false, false, false, false, false] (by kernel_rfl) rfl rfl spec_PlansOk.tT7 (fun w42 HT HS HH => ?_)
    (try clear F)
    refine drq_of [(0, some 22), (1, some 23)] ?_
    repeat (first | refine drp HT ?_ | refine drt HT HH ?_)
    refine drq_end ?_
    refine dr1 2 HT fun K hK => ?_
    refine go_cl HS (spec_l01In.calls ht102001.out) Tryz.func74 ?_; clear HS; (try clear F); intro wt102001 HS F
    refine nrm 24 hK ⟨_, HS⟩ (fun HH => ?_); clear hK K
    refine drq_of [(3, some 25), (4, some 26), (5, some 27), (6, some 28), (7, some 29), (8, some 30), (9, some 31), (10, some 32), (11, some 33), (12, some 34)] ?_
    repeat (refine drp HT ?_)
    refine drq_end ?_
    refine dr_take 13 (some 35) HT HH (v := ?_) (a' := ?_) rfl rfl (by kernel_rfl) (fun _ _ _ h => h) (.inl ⟨by rfl, ?_⟩) ?_ ?_
    rotate_left
    · rintro w' ⟨rs', HS'⟩; have e111999_0 := (HS'.keepc e111999_0); have e111999_1 := (HS'.keepc e111999_1); have e111999_2 := (HS'.keepc e111999_2); have e111999_3 := (HS'.keepc e111999_3); have e111999_4 := (HS'.keepc e111999_4); have e111999_5 := (HS'.keepc e111999_5); have e111999_6 := (HS'.keepc e111999_6); go_simp; with_reducible rfl
    rotate_left
    · simp only [Act.put, ptn]; rfl
    refine drq_of [(14, some 36), (15, some 37), (16, some 38), (17, some 39), (18, some 40), (19, some 41), (20, some 42)] ?_
    repeat (first | refine drp HT ?_ | refine drt HT HH ?_)
    refine drq_end ?_
    refine dr1 21 HT fun K hK => ?_
    refine go_cl HS (spec_RulesOk.calls ht121001.out (HS.ro y11_3) m11_3) Tryz.func153 ?_; clear HS; (try clear F); intro wt121001 HS F
    refine nrm 43 hK ⟨_, HS⟩ (fun HH => ?_); clear hK K
    refine drq_of [(22, some 44), (23, some 45), (24, some 46), (25, some 47), (26, some 48), (27, some 49), (28, some 50), (29, some 51), (30, some 52)] ?_
    repeat (first | (refine drq_pure HT (v := ?_) (a' := ?_) rfl rfl (by kernel_rfl) (fun _ _ _ h => h) (.inl ⟨by rfl, ?_⟩) ?_ ?_; rotate_left; (intro w'; go_simp; with_reducible rfl); rotate_left; (simp only [Act.put, ptn]; rfl)) | (refine drq_pure HT (v := undef) (a' := ?_) rfl rfl (by kernel_rfl) (fun _ _ _ h => h) (.inr ⟨by rfl, rfl⟩) ?_ ?_; rotate_left; (simp only [Act.put, ptn]; rfl)))
    refine drq_end ?_
    refine done_ (done_of HT.out (by kernel_rfl)) ?_
    (try clear F)
    have F := HS.boxes; simp only [bxn] at F
    obtain rfl := zsome H
    go_wp2
    go_ret
    exact HS.pk
   replace H := zpos c124001 H
   subst c124001
   replace H := zbind H; obtain ⟨t128001, ht128001, H⟩ := H
   refine dr_start [] HS #[false, false, false, false, false, false, false, false, false, false, false, false, false, false, false, false, false, false, false, false, false, false, false, false, false, false, false, false, false, false, false] (by kernel_rfl) rfl rfl spec_PlansOk.tT7 (fun w25 HT HS HH => ?_)
   (try clear F)
   refine drq_of [(0, some 22), (1, some 23)] ?_
   repeat (first | refine drp HT ?_ | refine drt HT HH ?_)
   refine drq_end ?_
   refine dr1 2 HT fun K hK => ?_
   refine go_cl HS (spec_l01In.calls ht102001.out) Tryz.func74 ?_; clear HS; (try clear F); intro wt102001 HS F
   refine nrm 24 hK ⟨_, HS⟩ (fun HH => ?_); clear hK K
   refine drq_of [(3, some 25), (4, some 26), (5, some 27), (6, some 28), (7, some 29), (8, some 30), (9, some 31), (10, some 32), (11, some 33), (12, some 34)] ?_
   repeat (refine drp HT ?_)
   refine drq_end ?_
   refine dr_take 13 (some 35) HT HH (v := ?_) (a' := ?_) rfl rfl (by kernel_rfl) (fun _ _ _ h => h) (.inl ⟨by rfl, ?_⟩) ?_ ?_
   rotate_left
   · rintro w' ⟨rs', HS'⟩; have e111999_0 := (HS'.keepc e111999_0); have e111999_1 := (HS'.keepc e111999_1); have e111999_2 := (HS'.keepc e111999_2); have e111999_3 := (HS'.keepc e111999_3); have e111999_4 := (HS'.keepc e111999_4); have e111999_5 := (HS'.keepc e111999_5); have e111999_6 := (HS'.keepc e111999_6); go_simp; with_reducible rfl
   rotate_left
   · simp only [Act.put, ptn]; rfl
   refine drq_of [(14, some 36), (15, some 37), (16, some 38), (17, some 39), (18, some 40), (19, some 41), (20, some 42)] ?_
   repeat (first | refine drp HT ?_ | refine drt HT HH ?_)
   refine drq_end ?_
   refine dr1 21 HT fun K hK => ?_
   refine go_cl HS (spec_RulesOk.calls ht121001.out (HS.ro y11_3) m11_3) Tryz.func153 ?_; clear HS; (try clear F); intro wt121001 HS F
   refine nrm 43 hK ⟨_, HS⟩ (fun HH => ?_); clear hK K
   refine drq_of [(22, some 44), (23, some 45), (24, some 46), (25, some 47), (26, some 48), (27, some 49)] ?_
   repeat (first | refine drp HT ?_ | refine drt HT HH ?_)
   refine drq_end ?_
   refine dr1 28 HT fun K hK => ?_
   refine go_cl HS (spec_l01In.calls ht128001.out) Tryz.func74 ?_; clear HS; (try clear F); intro wt128001 HS F
   refine nrm 50 hK ⟨_, HS⟩ (fun HH => ?_); clear hK K
   refine drq_of [(29, some 51), (30, some 52)] ?_
   repeat (refine drp HT ?_)
   refine drq_end ?_
   refine done_ (done_of HT.out (by kernel_rfl)) ?_
   (try clear F)
   have F := HS.boxes; simp only [bxn] at F
   by_cases c27 : t128001 = true
   case neg =>
    replace H := zneg c27 H
    replace c27 := eq_false_of_ne_true c27
    subst c27
    (try simp only [dcn, if_true, Bool.false_eq_true, if_false])
    obtain rfl := zsome H
    go_wp2
    go_ret
    exact HS.pk
   replace H := zpos c27 H
   subst c27
   (try simp only [dcn, if_true, Bool.false_eq_true, if_false])
   go_wp2
   (try obtain ⟨wok30, rfl⟩ : ∃ wo_ : World, wo_ = wr := ⟨_, rfl⟩)
   go_loopg [8] k5 (fun kq v_8 w' => ∃ (x31 : Int), v_8 = .int .i64 x31 ∧ Aside0 (spec_PlansOk.l1 kq x31 a0 a1 x6 = some r) ∧ Aside0 (kq ≤ k5) ∧ Hp noFP w w' [.box g3 [.slice Ap1 a1.f0.length cp1, .slice Ap2 a1.f1.length cp2, .slice Ap3 a1.f2.length cp3] 33, .box g6 [.int .i64 ((rd_T202 a0 x6).f0), .slice B11_1 (rd_T202 a0 x6).f1.length d11_1, .int .i64 ((rd_T202 a0 x6).f2.f0), .slice B11_3 (rd_T202 a0 x6).f2.f1.length d11_3, .bool ((rd_T202 a0 x6).f2.f2), .bool ((rd_T202 a0 x6).f2.f3), .int .i64 ((rd_T202 a0 x6).f2.f4)] 202, .box g7 [.int .i64 0, .slice B11_3 (rd_T202 a0 x6).f2.f1.length d11_3, .bool ((rd_T202 a0 x6).f2.f2), .bool ((rd_T202 a0 x6).f2.f3), .int .i64 ((rd_T202 a0 x6).f2.f4)] 200])
   case atStart => exact ⟨_, rfl, H, ⟨Nat.le_refl _⟩, HS⟩
   case round =>
    clear HS H; (try clear F)
    obtain ⟨x31, rfl, H, HKk30, HS⟩ := hrel
    have F := HS.boxes; simp only [bxn] at F
    cases gk with
    | zero => exact absurd H.out (by simp [spec_PlansOk.l1])
    | succ k30 =>
     simp only [spec_PlansOk.l1] at H
     by_cases c33 : x31 < ((rd_T202 a0 x6).f1.length : Int)
     case neg =>
      replace H := zneg c33 H
      replace c33 := eq_false c33
      go_wp2
      go_roundg k30
      case measure => have := HKk5.out; have := HKk30.out; omega
      case rel => exact ⟨_, rfl, H, ⟨by have := HKk5.out; have := HKk30.out; omega⟩, HS.pick [0] (by decide) (by rfl)⟩
     replace H := zpos c33 H
     replace c33 := eq_true c33
     (try go_wp2)
     obtain ⟨c203001, H⟩ := zgo H
     obtain ⟨c203002, H⟩ := zgo H
     obtain ⟨ad203999, rfl, e203999_0⟩ := Kd.at_int y11_1 x31 (of_eq_true c203001) (of_eq_true c203002)
     replace H := zbind H; obtain ⟨t209001, ht209001, H⟩ := H
     by_cases c211001 : t209001 = true
     case neg =>
      replace H := zneg c211001 H
      replace c211001 := eq_false_of_ne_true c211001
      subst c211001
      refine dr_start [] HS #[false, false, false, false, false, false, false, false, false, false, false, false, false, false, false, false, false, false, false, false, false, false, false, false, false, false, false, false, false] (by kernel_rfl) rfl rfl spec_PlansOk.tT12 (fun w40 HT HS HH => ?_)
      (try clear F)
      refine drq_of [(0, some 60), (1, some 61), (2, some 62), (3, some 63)] ?_
      repeat (first | refine drp HT ?_ | refine drt HT HH ?_)
      refine drq_end ?_
      refine dr_take 4 (some 64) HT HH (v := ?_) (a' := ?_) rfl rfl (by kernel_rfl) (fun _ _ _ h => h) (.inl ⟨by rfl, ?_⟩) ?_ ?_
      rotate_left
      · rintro w' ⟨rs', HS'⟩; have e203999_0 := (HS'.keepc e203999_0); go_simp; with_reducible rfl
      rotate_left
      · simp only [Act.put, ptn]; rfl
      refine drq_of [(5, some 65), (6, some 66), (7, some 67), (8, some 68)] ?_
      repeat (first | refine drp HT ?_ | refine drt HT HH ?_)
      refine drq_end ?_
      refine dr1 9 HT fun K hK => ?_
      refine go_cl HS (spec_l01In.calls ht209001.out) Tryz.func74 ?_; clear HS; (try clear F); intro wt209001 HS F
      refine nrm 69 hK ⟨_, HS⟩ (fun HH => ?_); clear hK K
      refine drq_of [(10, some 70), (11, some 71), (12, some 72), (13, some 73), (14, some 74), (15, some 75), (16, some 76), (17, some 77), (18, some 78), (19, some 79), (20, some 80), (21, some 81), (22, some 82), (23, some 83), (24, some 84), (25, some 85), (26, some 86), (27, some 87), (28, some 88)] ?_
      repeat (first | (refine drq_pure HT (v := ?_) (a' := ?_) rfl rfl (by kernel_rfl) (fun _ _ _ h => h) (.inl ⟨by rfl, ?_⟩) ?_ ?_; rotate_left; (intro w'; go_simp; with_reducible rfl); rotate_left; (simp only [Act.put, ptn]; rfl)) | (refine drq_pure HT (v := undef) (a' := ?_) rfl rfl (by kernel_rfl) (fun _ _ _ h => h) (.inr ⟨by rfl, rfl⟩) ?_ ?_; rotate_left; (simp only [Act.put, ptn]; rfl)))
      refine drq_end ?_
      refine done_ (done_of HT.out (by kernel_rfl)) ?_
      (try clear F)
      have F := HS.boxes; simp only [bxn] at F
      obtain rfl := zsome H
      go_wp2
      go_ret
      exact HS.pk
     replace H := zpos c211001 H
     subst c211001
     by_cases c214001 : 0 < x31
     case neg =>
      replace H := zneg c214001 H
      replace c214001 := eq_false c214001
      refine dr_start [] HS #[false, false, false, false, false, false, false, false, false, false, false, false, false, false, false, false, false, false, false, false, false, false, false, false, false, false, false, false, false] (by kernel_rfl) rfl rfl spec_PlansOk.tT12 (fun w38 HT HS HH => ?_)
      (try clear F)
      refine drq_of [(0, some 60), (1, some 61), (2, some 62), (3, some 63)] ?_
      repeat (first | refine drp HT ?_ | refine drt HT HH ?_)
      refine drq_end ?_
      refine dr_take 4 (some 64) HT HH (v := ?_) (a' := ?_) rfl rfl (by kernel_rfl) (fun _ _ _ h => h) (.inl ⟨by rfl, ?_⟩) ?_ ?_
      rotate_left
      · rintro w' ⟨rs', HS'⟩; have e203999_0 := (HS'.keepc e203999_0); go_simp; with_reducible rfl
      rotate_left
      · simp only [Act.put, ptn]; rfl
      refine drq_of [(5, some 65), (6, some 66), (7, some 67), (8, some 68)] ?_
      repeat (first | refine drp HT ?_ | refine drt HT HH ?_)
      refine drq_end ?_
      refine dr1 9 HT fun K hK => ?_
      refine go_cl HS (spec_l01In.calls ht209001.out) Tryz.func74 ?_; clear HS; (try clear F); intro wt209001 HS F
      refine nrm 69 hK ⟨_, HS⟩ (fun HH => ?_); clear hK K
      refine drq_of [(10, some 70), (11, some 71), (12, some 72), (13, some 73), (14, some 74), (15, some 75), (16, some 76), (17, some 77), (18, some 78), (19, some 79), (20, some 80), (21, some 81), (22, some 82), (23, some 83), (24, some 84), (25, some 85), (26, some 86), (27, some 87), (28, some 88)] ?_
      repeat (first | (refine drq_pure HT (v := ?_) (a' := ?_) rfl rfl (by kernel_rfl) (fun _ _ _ h => h) (.inl ⟨by rfl, ?_⟩) ?_ ?_; rotate_left; (intro w'; go_simp; with_reducible rfl); rotate_left; (simp only [Act.put, ptn]; rfl)) | (refine drq_pure HT (v := undef) (a' := ?_) rfl rfl (by kernel_rfl) (fun _ _ _ h => h) (.inr ⟨by rfl, rfl⟩) ?_ ?_; rotate_left; (simp only [Act.put, ptn]; rfl)))
      refine drq_end ?_
      refine done_ (done_of HT.out (by kernel_rfl)) ?_
      (try clear F)
      have F := HS.boxes; simp only [bxn] at F
      go_wp2
      go_roundg k30
      case measure => have := HKk5.out; have := HKk30.out; omega
      case rel => exact ⟨_, rfl, H, ⟨by have := HKk5.out; have := HKk30.out; omega⟩, HS.pick [0, 1, 2] (by decide) (by rfl)⟩
     replace H := zpos c214001 H
     replace c214001 := eq_true c214001
     obtain ⟨c219001, H⟩ := zgo H
     obtain ⟨c219002, H⟩ := zgo H
     obtain ⟨ad219999, hq219999, e219999_0⟩ := Kd.at_int y11_1 (wrap64 (x31 - 1)) (of_eq_true c219001) (of_eq_true c219002); obtain rfl := Option.some.inj hq219999
     refine dr_start [] HS #[false, false, false, false, false, false, false, false, false, false, false, false, false, false, false, false, false, false, false, false, false, false, false, false, false, false, false, false, false] (by kernel_rfl) rfl rfl spec_PlansOk.tT12 (fun w35 HT HS HH => ?_)
     (try clear F)
     refine drq_of [(0, some 60), (1, some 61), (2, some 62), (3, some 63)] ?_
     repeat (first | refine drp HT ?_ | refine drt HT HH ?_)
     refine drq_end ?_
     refine dr_take 4 (some 64) HT HH (v := ?_) (a' := ?_) rfl rfl (by kernel_rfl) (fun _ _ _ h => h) (.inl ⟨by rfl, ?_⟩) ?_ ?_
     rotate_left
     · rintro w' ⟨rs', HS'⟩; have e203999_0 := (HS'.keepc e203999_0); go_simp; with_reducible rfl
     rotate_left
     · simp only [Act.put, ptn]; rfl
     refine drq_of [(5, some 65), (6, some 66), (7, some 67), (8, some 68)] ?_
     repeat (first | refine drp HT ?_ | refine drt HT HH ?_)
     refine drq_end ?_
     refine dr1 9 HT fun K hK => ?_
     refine go_cl HS (spec_l01In.calls ht209001.out) Tryz.func74 ?_; clear HS; (try clear F); intro wt209001 HS F
     refine nrm 69 hK ⟨_, HS⟩ (fun HH => ?_); clear hK K
     refine drq_of [(10, some 70), (11, some 71), (12, some 72), (13, some 73), (14, some 74), (15, some 75), (16, some 76), (17, some 77), (18, some 78), (19, some 79)] ?_
     repeat (first | refine drp HT ?_ | refine drt HT HH ?_)
     refine drq_end ?_
     refine dr_take 20 (some 80) HT HH (v := ?_) (a' := ?_) rfl rfl (by kernel_rfl) (fun _ _ _ h => h) (.inl ⟨by rfl, ?_⟩) ?_ ?_
     rotate_left
     · rintro w' ⟨rs', HS'⟩; have e219999_0 := (HS'.keepc e219999_0); go_simp; with_reducible rfl
     rotate_left
     · simp only [Act.put, ptn]; rfl
     refine drq_of [(21, some 81), (22, some 82), (23, some 83), (24, some 84)] ?_
     repeat (first | refine drp HT ?_ | refine drt HT HH ?_)
     refine drq_end ?_
     refine dr_take 25 (some 85) HT HH (v := ?_) (a' := ?_) rfl rfl (by kernel_rfl) (fun _ _ _ h => h) (.inl ⟨by rfl, ?_⟩) ?_ ?_
     rotate_left
     · rintro w' ⟨rs', HS'⟩; have e203999_0 := (HS'.keepc e203999_0); go_simp; with_reducible rfl
     rotate_left
     · simp only [Act.put, ptn]; rfl
     refine drq_of [(26, some 86), (27, some 87), (28, some 88)] ?_
     repeat (refine drp HT ?_)
     refine drq_end ?_
     refine done_ (done_of HT.out (by kernel_rfl)) ?_
     (try clear F)
     have F := HS.boxes; simp only [bxn] at F
     by_cases c37 : (rd ((rd_T202 a0 x6).f1) x31) ≤ (rd ((rd_T202 a0 x6).f1) (wrap64 (x31 - 1)))
     case pos =>
      replace H := zpos c37 H
      replace c37 := eq_true c37
      (try simp only [c37, dcn])
      obtain rfl := zsome H
      go_wp2
      go_ret
      exact HS.pk
     replace H := zneg c37 H
     replace c37 := eq_false c37
     (try simp only [c37, dcn])
     go_wp2
     go_roundg k30
     case measure => have := HKk5.out; have := HKk30.out; omega
     case rel => exact ⟨_, rfl, H, ⟨by have := HKk5.out; have := HKk30.out; omega⟩, HS.pick [0, 1, 2] (by decide) (by rfl)⟩
/-! ### spec_ServerOk: function 17 -/
def spec_ServerOk.f (k : Nat) (a0 : S46) : Option (Bool) := ((spec_StoreOk.f k a0.f0).bind fun t3 => (if t3 = true then ((spec_PlansOk.f k a0.f1 a0.f0).bind fun t6 => (if t6 = true then ((spec_l01In.f a0.f2 0 5).bind fun t9 => (if t9 = true then ((spec_l09Num.f a0.f3).bind fun t12 => (if t12 = true then ((spec_l09Num.f a0.f4).bind fun t15 => (if t15 = true then (some (decide ((a0.f5.length : Int) ≤ 3))) else (some false))) else (some false))) else (some false))) else (some false))) else (some false)))
set_option maxHeartbeats 16000000 in
theorem spec_ServerOk.calls {k : Nat} {a0 : S46} {Ap0 : Option Addr} {np0 cp0 : Nat} {Ap1 : Option Addr} {np1 cp1 : Nat} {Ap2 : Option Addr} {np2 cp2 : Nat} {Ap3 : Option Addr} {np3 cp3 : Nat} {Ap4 : Option Addr} {np4 cp4 : Nat} {r : Bool} {w : World} (h : spec_ServerOk.f k a0 = some r) (gp0 : k91.C w Ap0 np0 a0.f0.f0) (lp0 : np0 ≤ cp0) (gp1 : k81.C w Ap1 np1 a0.f0.f1) (lp1 : np1 ≤ cp1) (gp2 : k115.C w Ap2 np2 a0.f0.f2) (lp2 : np2 ≤ cp2) (gp3 : k202.C w Ap3 np3 a0.f1) (lp3 : np3 ≤ cp3) (gp4 : k205.C w Ap4 np4 a0.f5) (lp4 : np4 ≤ cp4) :
    Calls Tryz.prog 17 #[.agg #[.slice Ap0 np0 cp0, .slice Ap1 np1 cp1, .slice Ap2 np2 cp2, .slice Ap3 np3 cp3, .int .i64 a0.f2, .int .i64 a0.f3, .int .i64 a0.f4, .slice Ap4 np4 cp4]] w (fun e w' => e = .returned (.bool r) ∧ Hp noFP w w' []) := by
 obtain rfl := C_len gp0
 obtain rfl := C_len gp1
 obtain rfl := C_len gp2
 obtain rfl := C_len gp3
 obtain rfl := C_len gp4
 have HS := Hp.start w
 have H := Aside0.mk h
 clear h
 unfold spec_ServerOk.f at H
 go_enter Tryz.func17, Tryz.ntmps17
 replace H := zbind H; obtain ⟨t3, ht3, H⟩ := H
 by_cases c5 : t3 = true
 case neg =>
  replace H := zneg c5 H
  replace c5 := eq_false_of_ne_true c5
  subst c5
  obtain rfl := zsome H
  go_wp2_with (first | ((with_reducible refine gate_dst (N := 1) rfl ?_); refine ev_bx HS ?_; clear HS; (try clear F); intro g1 w1 HS F) | ((with_reducible refine gate_dst (N := 5) rfl ?_); refine ev_cl HS (spec_StoreOk.calls ht3.out (HS.ro gp0) lp0 (HS.ro gp1) lp1 (HS.ro gp2) lp2) Tryz.func12 ?_; clear HS; (try clear F); intro wt3 HS F))
  go_ret
  exact HS.pk
 replace H := zpos c5 H
 subst c5
 replace H := zbind H; obtain ⟨t6, ht6, H⟩ := H
 by_cases c8 : t6 = true
 case neg =>
  replace H := zneg c8 H
  replace c8 := eq_false_of_ne_true c8
  subst c8
  obtain rfl := zsome H
  go_wp2_with (first | ((with_reducible refine gate_dst (N := 1) rfl ?_); refine ev_bx HS ?_; clear HS; (try clear F); intro g1 w1 HS F) | ((with_reducible refine gate_dst (N := 5) rfl ?_); refine ev_cl HS (spec_StoreOk.calls ht3.out (HS.ro gp0) lp0 (HS.ro gp1) lp1 (HS.ro gp2) lp2) Tryz.func12 ?_; clear HS; (try clear F); intro wt3 HS F) | ((with_reducible refine gate_dst (N := 11) rfl ?_); refine gate_guard (by rfl) ?_; refine ev_cl HS (spec_PlansOk.calls ht6.out (HS.ro gp3) lp3 (HS.ro gp0) lp0 (HS.ro gp1) lp1 (HS.ro gp2) lp2) Tryz.func73 ?_; clear HS; (try clear F); intro wt6 HS F))
  go_ret
  exact HS.pk
 replace H := zpos c8 H
 subst c8
 replace H := zbind H; obtain ⟨t9, ht9, H⟩ := H
 by_cases c11 : t9 = true
 case neg =>
  replace H := zneg c11 H
  replace c11 := eq_false_of_ne_true c11
  subst c11
  obtain rfl := zsome H
  go_wp2_with (first | ((with_reducible refine gate_dst (N := 1) rfl ?_); refine ev_bx HS ?_; clear HS; (try clear F); intro g1 w1 HS F) | ((with_reducible refine gate_dst (N := 5) rfl ?_); refine ev_cl HS (spec_StoreOk.calls ht3.out (HS.ro gp0) lp0 (HS.ro gp1) lp1 (HS.ro gp2) lp2) Tryz.func12 ?_; clear HS; (try clear F); intro wt3 HS F) | ((with_reducible refine gate_dst (N := 11) rfl ?_); refine gate_guard (by rfl) ?_; refine ev_cl HS (spec_PlansOk.calls ht6.out (HS.ro gp3) lp3 (HS.ro gp0) lp0 (HS.ro gp1) lp1 (HS.ro gp2) lp2) Tryz.func73 ?_; clear HS; (try clear F); intro wt6 HS F) | ((with_reducible refine gate_dst (N := 16) rfl ?_); refine gate_guard (by rfl) ?_; refine ev_cl HS (spec_l01In.calls ht9.out) Tryz.func74 ?_; clear HS; (try clear F); intro wt9 HS F))
  go_ret
  exact HS.pk
 replace H := zpos c11 H
 subst c11
 replace H := zbind H; obtain ⟨t12, ht12, H⟩ := H
 by_cases c14 : t12 = true
 case neg =>
  replace H := zneg c14 H
  replace c14 := eq_false_of_ne_true c14
  subst c14
  obtain rfl := zsome H
  go_wp2_with (first | ((with_reducible refine gate_dst (N := 1) rfl ?_); refine ev_bx HS ?_; clear HS; (try clear F); intro g1 w1 HS F) | ((with_reducible refine gate_dst (N := 5) rfl ?_); refine ev_cl HS (spec_StoreOk.calls ht3.out (HS.ro gp0) lp0 (HS.ro gp1) lp1 (HS.ro gp2) lp2) Tryz.func12 ?_; clear HS; (try clear F); intro wt3 HS F) | ((with_reducible refine gate_dst (N := 11) rfl ?_); refine gate_guard (by rfl) ?_; refine ev_cl HS (spec_PlansOk.calls ht6.out (HS.ro gp3) lp3 (HS.ro gp0) lp0 (HS.ro gp1) lp1 (HS.ro gp2) lp2) Tryz.func73 ?_; clear HS; (try clear F); intro wt6 HS F) | ((with_reducible refine gate_dst (N := 16) rfl ?_); refine gate_guard (by rfl) ?_; refine ev_cl HS (spec_l01In.calls ht9.out) Tryz.func74 ?_; clear HS; (try clear F); intro wt9 HS F) | ((with_reducible refine gate_dst (N := 21) rfl ?_); refine gate_guard (by rfl) ?_; refine ev_cl HS (spec_l09Num.calls ht12.out) Tryz.func75 ?_; clear HS; (try clear F); intro wt12 HS F))
  go_ret
  exact HS.pk
 replace H := zpos c14 H
 subst c14
 replace H := zbind H; obtain ⟨t15, ht15, H⟩ := H
 by_cases c17 : t15 = true
 case pos =>
  replace H := zpos c17 H
  subst c17
  obtain rfl := zsome H
  go_wp2_with (first | ((with_reducible refine gate_dst (N := 1) rfl ?_); refine ev_bx HS ?_; clear HS; (try clear F); intro g1 w1 HS F) | ((with_reducible refine gate_dst (N := 5) rfl ?_); refine ev_cl HS (spec_StoreOk.calls ht3.out (HS.ro gp0) lp0 (HS.ro gp1) lp1 (HS.ro gp2) lp2) Tryz.func12 ?_; clear HS; (try clear F); intro wt3 HS F) | ((with_reducible refine gate_dst (N := 11) rfl ?_); refine gate_guard (by rfl) ?_; refine ev_cl HS (spec_PlansOk.calls ht6.out (HS.ro gp3) lp3 (HS.ro gp0) lp0 (HS.ro gp1) lp1 (HS.ro gp2) lp2) Tryz.func73 ?_; clear HS; (try clear F); intro wt6 HS F) | ((with_reducible refine gate_dst (N := 16) rfl ?_); refine gate_guard (by rfl) ?_; refine ev_cl HS (spec_l01In.calls ht9.out) Tryz.func74 ?_; clear HS; (try clear F); intro wt9 HS F) | ((with_reducible refine gate_dst (N := 21) rfl ?_); refine gate_guard (by rfl) ?_; refine ev_cl HS (spec_l09Num.calls ht12.out) Tryz.func75 ?_; clear HS; (try clear F); intro wt12 HS F) | ((with_reducible refine gate_dst (N := 26) rfl ?_); refine gate_guard (by rfl) ?_; refine ev_cl HS (spec_l09Num.calls ht15.out) Tryz.func75 ?_; clear HS; (try clear F); intro wt15 HS F))
  go_ret
  exact HS.pk
 replace H := zneg c17 H
 replace c17 := eq_false_of_ne_true c17
 subst c17
 obtain rfl := zsome H
 go_wp2_with (first | ((with_reducible refine gate_dst (N := 1) rfl ?_); refine ev_bx HS ?_; clear HS; (try clear F); intro g1 w1 HS F) | ((with_reducible refine gate_dst (N := 5) rfl ?_); refine ev_cl HS (spec_StoreOk.calls ht3.out (HS.ro gp0) lp0 (HS.ro gp1) lp1 (HS.ro gp2) lp2) Tryz.func12 ?_; clear HS; (try clear F); intro wt3 HS F) | ((with_reducible refine gate_dst (N := 11) rfl ?_); refine gate_guard (by rfl) ?_; refine ev_cl HS (spec_PlansOk.calls ht6.out (HS.ro gp3) lp3 (HS.ro gp0) lp0 (HS.ro gp1) lp1 (HS.ro gp2) lp2) Tryz.func73 ?_; clear HS; (try clear F); intro wt6 HS F) | ((with_reducible refine gate_dst (N := 16) rfl ?_); refine gate_guard (by rfl) ?_; refine ev_cl HS (spec_l01In.calls ht9.out) Tryz.func74 ?_; clear HS; (try clear F); intro wt9 HS F) | ((with_reducible refine gate_dst (N := 21) rfl ?_); refine gate_guard (by rfl) ?_; refine ev_cl HS (spec_l09Num.calls ht12.out) Tryz.func75 ?_; clear HS; (try clear F); intro wt12 HS F) | ((with_reducible refine gate_dst (N := 26) rfl ?_); refine gate_guard (by rfl) ?_; refine ev_cl HS (spec_l09Num.calls ht15.out) Tryz.func75 ?_; clear HS; (try clear F); intro wt15 HS F))
 go_ret
 exact HS.pk
/-! ### laws_toRules: function 210 -/
def laws_toRules.f (k : Nat) (a0 : S194) : Option (S200) := ((laws_toIntS.f k a0.f1).bind fun t9 => (some (⟨a0.f0, t9, a0.f2, a0.f3, a0.f4⟩ : S200)))
set_option maxHeartbeats 16000000 in
theorem laws_toRules.calls {k : Nat} {a0 : S194} {Ap0 : Option Addr} {np0 cp0 : Nat} {r : S200} {w : World} (h : laws_toRules.f k a0 = some r) (gp0 : (Kd.int .i64).C w Ap0 np0 a0.f1) (lp0 : np0 ≤ cp0) :
    Calls Tryz.prog 210 #[.agg #[.int .i64 a0.f0, .slice Ap0 np0 cp0, .bool a0.f2, .bool a0.f3, .int .i64 a0.f4]] w (fun e w' => ∃ v0_ : Value, e = .returned (.agg #[.int .i64 r.f0, v0_, .bool r.f2, .bool r.f3, .int .i64 r.f4]) ∧ Hp noFP w w' [.own (Zd.slice 3 (Zd.int .i64)) r.f1 [v0_]]) := by
 obtain rfl := C_len gp0
 have HS := Hp.start w
 have H := Aside0.mk h
 clear h
 unfold laws_toRules.f at H
 go_enter Tryz.func210, Tryz.ntmps210
 replace H := zbind H; obtain ⟨t9, ht9, H⟩ := H
 obtain rfl := zsome H
 go_wp2_with (first | ((with_reducible refine gate_dst (N := 1) rfl ?_); refine ev_bx HS ?_; clear HS; (try clear F); intro g1 w1 HS F) | ((with_reducible refine gate_dst (N := 2) rfl ?_); refine ev_bx HS ?_; clear HS; (try clear F); intro g2 w2 HS F) | ((with_reducible refine gate_dst (N := 3) rfl ?_); refine ev_bx HS ?_; clear HS; (try clear F); intro g3 w3 HS F) | ((with_reducible refine gate_store (p := 6) rfl ?_); refine ev_st 2 0 HS (seg := [.int .i64 a0.f0]) ?_; clear HS; (try clear F); intro w7 HS F) | ((with_reducible refine gate_dst (N := 9) rfl ?_); refine ev_cl1 HS (laws_toIntS.calls ht9.out (HS.ro gp0) lp0) Tryz.func93 ?_; clear HS; (try clear F); intro v10 wt9 HS F; obtain ⟨B10, d10, rfl, m10⟩ := HS.form 3 rfl) | ((with_reducible refine gate_store (p := 10) rfl ?_); refine ev_st 2 1 HS (seg := [.slice B10 t9.length d10]) ?_; clear HS; (try clear F); intro w12 HS F) | ((with_reducible refine gate_store (p := 13) rfl ?_); refine ev_st 2 2 HS (seg := [.bool a0.f2]) ?_; clear HS; (try clear F); intro w14 HS F) | ((with_reducible refine gate_store (p := 16) rfl ?_); refine ev_st 2 3 HS (seg := [.bool a0.f3]) ?_; clear HS; (try clear F); intro w16 HS F) | ((with_reducible refine gate_store (p := 19) rfl ?_); refine ev_st 2 4 HS (seg := [.int .i64 a0.f4]) ?_; clear HS; (try clear F); intro w18 HS F) | ((with_reducible refine gate_store (p := 2) rfl ?_); refine ev_st 1 0 HS (seg := [.int .i64 a0.f0, .slice B10 t9.length d10, .bool a0.f2, .bool a0.f3, .int .i64 a0.f4]) ?_; clear HS; (try clear F); intro w20 HS F))
 exact bodyPost_ret (results_single rfl (.cell _ _ _ _ _ rfl (HS.boxAt (i := 1) rfl) Tryz.underlying200 rfl (by kernel_rfl) .nil)) rfl ⟨_, rfl, HS.pick [3] (by decide) (by rfl)⟩
/-! ### laws_toPlan: function 154 -/
def laws_toPlan.f (k : Nat) (a0 : S196) : Option (S202) := ((laws_toIntS.f k a0.f1).bind fun t9 => ((laws_toRules.f k a0.f2).bind fun t14 => (some (⟨a0.f0, t9, (⟨t14.f0, t14.f1, t14.f2, t14.f3, t14.f4⟩ : S200)⟩ : S202))))
set_option maxHeartbeats 16000000 in
theorem laws_toPlan.calls {k : Nat} {a0 : S196} {Ap0 : Option Addr} {np0 cp0 : Nat} {Ap1 : Option Addr} {np1 cp1 : Nat} {r : S202} {w : World} (h : laws_toPlan.f k a0 = some r) (gp0 : (Kd.int .i64).C w Ap0 np0 a0.f1) (lp0 : np0 ≤ cp0) (gp1 : (Kd.int .i64).C w Ap1 np1 a0.f2.f1) (lp1 : np1 ≤ cp1) :
    Calls Tryz.prog 154 #[.agg #[.int .i64 a0.f0, .slice Ap0 np0 cp0, .int .i64 a0.f2.f0, .slice Ap1 np1 cp1, .bool a0.f2.f2, .bool a0.f2.f3, .int .i64 a0.f2.f4]] w (fun e w' => ∃ v0_ v1_ : Value, e = .returned (.agg #[.int .i64 r.f0, v0_, .int .i64 r.f2.f0, v1_, .bool r.f2.f2, .bool r.f2.f3, .int .i64 r.f2.f4]) ∧ Hp noFP w w' [.own (Zd.slice 3 (Zd.int .i64)) r.f1 [v0_], .own (Zd.slice 3 (Zd.int .i64)) r.f2.f1 [v1_]]) := by
 obtain rfl := C_len gp0
 obtain rfl := C_len gp1
 have HS := Hp.start w
 have H := Aside0.mk h
 clear h
 unfold laws_toPlan.f at H
 go_enter Tryz.func154, Tryz.ntmps154
 replace H := zbind H; obtain ⟨t9, ht9, H⟩ := H
 replace H := zbind H; obtain ⟨t14, ht14, H⟩ := H
 obtain rfl := zsome H
 go_wp2_with (first | ((with_reducible refine gate_dst (N := 1) rfl ?_); refine ev_bx HS ?_; clear HS; (try clear F); intro g1 w1 HS F) | ((with_reducible refine gate_dst (N := 2) rfl ?_); refine ev_bx HS ?_; clear HS; (try clear F); intro g2 w2 HS F) | ((with_reducible refine gate_dst (N := 3) rfl ?_); refine ev_bx HS ?_; clear HS; (try clear F); intro g3 w3 HS F) | ((with_reducible refine gate_store (p := 6) rfl ?_); refine ev_st 2 0 HS (seg := [.int .i64 a0.f0]) ?_; clear HS; (try clear F); intro w7 HS F) | ((with_reducible refine gate_dst (N := 9) rfl ?_); refine ev_cl1 HS (laws_toIntS.calls ht9.out (HS.ro gp0) lp0) Tryz.func93 ?_; clear HS; (try clear F); intro v10 wt9 HS F; obtain ⟨B10, d10, rfl, m10⟩ := HS.form 3 rfl) | ((with_reducible refine gate_store (p := 10) rfl ?_); refine ev_st 2 1 HS (seg := [.slice B10 t9.length d10]) ?_; clear HS; (try clear F); intro w12 HS F) | ((with_reducible refine gate_dst (N := 13) rfl ?_); refine ev_cl1 HS (laws_toRules.calls ht14.out (HS.ro gp1) lp1) Tryz.func210 ?_; clear HS; (try clear F); intro v15 wt14 HS F; obtain ⟨B15, d15, rfl, m15⟩ := HS.form 4 rfl) | ((with_reducible refine gate_store (p := 14) rfl ?_); refine ev_st 2 2 HS (seg := [.int .i64 t14.f0, .slice B15 t14.f1.length d15, .bool t14.f2, .bool t14.f3, .int .i64 t14.f4]) ?_; clear HS; (try clear F); intro w17 HS F) | ((with_reducible refine gate_store (p := 2) rfl ?_); refine ev_st 1 0 HS (seg := [.int .i64 a0.f0, .slice B10 t9.length d10, .int .i64 t14.f0, .slice B15 t14.f1.length d15, .bool t14.f2, .bool t14.f3, .int .i64 t14.f4]) ?_; clear HS; (try clear F); intro w19 HS F))
 exact bodyPost_ret (results_single rfl (.cell _ _ _ _ _ rfl (HS.boxAt (i := 1) rfl) Tryz.underlying202 rfl (by kernel_rfl) .nil)) rfl ⟨_, _, rfl, HS.pick [3, 4] (by decide) (by rfl)⟩
end Go.Proofs.YtacocpknielofaaGreatDoor.F

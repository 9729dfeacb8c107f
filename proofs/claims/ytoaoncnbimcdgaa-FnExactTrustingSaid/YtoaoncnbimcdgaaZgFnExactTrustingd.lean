/- Functions of the program and of the law, and that their calls do what is written here. -/
import Derived.Test.YtoaoncnbimcdgaaZgFnExactTrustingc
namespace Go.Proofs.Ytoaoncnbimcdgaa.F
open Go.RowKit Go.Proofs.YtoaoncnbimcdgaaW.PrintWords Go.Proofs.YtoaoncnbimcdgaaW.PrintLast Go.Proofs.YtoaoncnbimcdgaaW.PrintMore Go.Proofs.Ytoaoncnbimcdgaa.Z
attribute [local go_sem] max2_int min2_int max_two min_two max_three min_three max_four min_four
set_option linter.unusedVariables false
set_option linter.unusedSimpArgs false
set_option maxRecDepth 100000
/-! ### spec_l01In: function 72 -/
def spec_l01In.f (a0 : Int) (a1 : Int) (a2 : Int) : Option (Bool) := (if a1 ≤ a0 then (some (decide (a0 ≤ a2))) else (some false))
set_option maxHeartbeats 16000000 in
theorem spec_l01In.calls {a0 : Int} {a1 : Int} {a2 : Int} {r : Bool} {w : World} (h : spec_l01In.f a0 a1 a2 = some r) :
    Calls Try.prog 72 #[.int .i64 a0, .int .i64 a1, .int .i64 a2] w (fun e w' => e = .returned (.bool r) ∧ Hp noFP w w' []) := by
 have HS := Hp.start w
 have H := Aside0.mk h
 clear h
 unfold spec_l01In.f at H
 go_enter Try.func72, Try.ntmps72
 by_cases c1 : a1 ≤ a0
 · replace H := zpos c1 H
   replace c1 := eq_true c1
   obtain rfl := zsome H
   go_wp2
   go_ret
   exact ⟨rfl, HS.pick [] (by decide) (by rfl)⟩
 · replace H := zneg c1 H
   replace c1 := eq_false c1
   obtain rfl := zsome H
   go_wp2
   go_ret
   exact ⟨rfl, HS.pick [] (by decide) (by rfl)⟩
/-! ### spec_Trusting: function 21 -/
def spec_Trusting.l0 : Nat → (List S128) → Int → S61 → S66 → S61 → Option (S61)
  | 0, _, _, _, _, _ => none
  | k + 1, l36, x38, a0, a1, t7 => (if x38 < (a1.f1.length : Int) then (if 0 ≤ x38 then (if x38 < (a1.f1.length : Int) then ((spec_l01In.f (rd a1.f1 x38) 0 (wrap64 ((a0.f2.length : Int) - 1))).bind fun t309001 => (if t309001 = true then (if 0 ≤ (rd a1.f1 x38) then (if (rd a1.f1 x38) < (a0.f2.length : Int) then (if l36.length + 1 ≤ 4398046511104 then (lets (l36 ++ ([(rd_T128 a0.f2 (rd a1.f1 x38))] : List S128)) fun y412999 => (spec_Trusting.l0 k y412999 (wrap64 (x38 + 1)) a0 a1 t7)) else none) else none) else none) else (spec_Trusting.l0 k l36 (wrap64 (x38 + 1)) a0 a1 t7))) else none) else none) else (some (⟨t7.f0, t7.f1, l36⟩ : S61)))
def spec_Trusting.f (k : Nat) (a0 : S61) (a1 : S66) : Option (S61) := ((spec_l13Copy.f k a0).bind fun t7 => (spec_Trusting.l0 k ([] : List S128) 0 a0 a1 t7))
def spec_Trusting.T6 : Bool × List (List Nat × List Nat) := (true, [([], []), ([0], [0]), ([], []), ([1, 2], [1, 2]), ([3], [3]), ([], []), ([5], [5]), ([6], [6]), ([7], [7]), ([4, 8], [4, 8])])
theorem spec_Trusting.tT6 : rtab .any (opsOf Try.f21 6) = spec_Trusting.T6 := by kernel_rfl
def spec_Trusting.T7 : Bool × List (List Nat × List Nat) := (true, [([], []), ([0], [0]), ([], []), ([2], [2]), ([], []), ([4], [4]), ([], []), ([5, 6], [5, 6]), ([7], [7]), ([3, 8], [3, 8]), ([9], [9]), ([10], [10]), ([1, 11], [1, 11]), ([0, 1, 2, 3, 4, 5, 6, 7, 8, 9, 10, 11, 12], []), ([13, 12, 12, 0, 1, 2, 3, 4, 5, 6, 7, 8, 9, 10, 11, 12], [12, 13])])
theorem spec_Trusting.tT7 : rtab .any (opsOf Try.f21 7) = spec_Trusting.T7 := by kernel_rfl
set_option maxHeartbeats 16000000 in
theorem spec_Trusting.calls {k : Nat} {a0 : S61} {a1 : S66} {Ap0 : Option Addr} {np0 cp0 : Nat} {Ap1 : Option Addr} {np1 cp1 : Nat} {Ap2 : Option Addr} {np2 cp2 : Nat} {Ap3 : Option Addr} {np3 cp3 : Nat} {Ap4 : Option Addr} {np4 cp4 : Nat} {r : S61} {w : World} (h : spec_Trusting.f k a0 a1 = some r) (gp0 : k192.C w Ap0 np0 a0.f0) (lp0 : np0 ≤ cp0) (gp1 : k190.C w Ap1 np1 a0.f1) (lp1 : np1 ≤ cp1) (gp2 : k128.C w Ap2 np2 a0.f2) (lp2 : np2 ≤ cp2) (gp3 : (Kd.int .i64).C w Ap3 np3 a1.f1) (lp3 : np3 ≤ cp3) (gp4 : (Kd.int .i64).C w Ap4 np4 a1.f2.f1) (lp4 : np4 ≤ cp4) :
    Calls Try.prog 21 #[.agg #[.slice Ap0 np0 cp0, .slice Ap1 np1 cp1, .slice Ap2 np2 cp2], .agg #[.int .i64 a1.f0, .slice Ap3 np3 cp3, .int .i64 a1.f2.f0, .slice Ap4 np4 cp4, .bool a1.f2.f2, .bool a1.f2.f3, .int .i64 a1.f2.f4]] w (fun e w' => ∃ v0_ v1_ v2_ : Value, e = .returned (.agg #[v0_, v1_, v2_]) ∧ Hp noFP w w' [.own (Zd.slice 192 q192) r.f0 [v0_], .own (Zd.slice 190 q190) r.f1 [v1_], .own (Zd.slice 128 q128) r.f2 [v2_]]) := by
 obtain rfl := C_len gp0
 obtain rfl := C_len gp1
 obtain rfl := C_len gp2
 obtain rfl := C_len gp3
 obtain rfl := C_len gp4
 have HS := Hp.start w
 have H := Aside0.mk h
 clear h
 unfold spec_Trusting.f at H
 go_enter Try.func21, Try.ntmps21
 replace H := zbind H; obtain ⟨t7, ht7, H⟩ := H
 go_wp2_with (first | ((with_reducible refine gate_dst (N := 2) rfl ?_); refine ev_box rfl HS (by first | (go_simp; done) | (go_simp; rfl)) rfl ?_; clear HS; (try clear F); intro g2 w2 HS; replace HS : Hp noFP w _ [.box g2 [.slice Ap0 a0.f0.length cp0, .slice Ap1 a0.f1.length cp1, .slice Ap2 a0.f2.length cp2] 61] := HS; have F := HS.boxes; simp only [boxFacts, and_true] at F) | ((with_reducible refine gate_dst (N := 3) rfl ?_); refine ev_box rfl HS (by first | (go_simp; done) | (go_simp; rfl)) rfl ?_; clear HS; (try clear F); intro g3 w3 HS; replace HS : Hp noFP w _ [.box g2 [.slice Ap0 a0.f0.length cp0, .slice Ap1 a0.f1.length cp1, .slice Ap2 a0.f2.length cp2] 61, .box g3 [.int .i64 a1.f0, .slice Ap3 a1.f1.length cp3, .int .i64 a1.f2.f0, .slice Ap4 a1.f2.f1.length cp4, .bool a1.f2.f2, .bool a1.f2.f3, .int .i64 a1.f2.f4] 66] := HS; have F := HS.boxes; simp only [boxFacts, and_true] at F) | ((with_reducible refine gate_dst (N := 4) rfl ?_); refine ev_box rfl HS (by first | (go_simp; done) | (go_simp; rfl)) rfl ?_; clear HS; (try clear F); intro g4 w4 HS; replace HS : Hp noFP w _ [.box g2 [.slice Ap0 a0.f0.length cp0, .slice Ap1 a0.f1.length cp1, .slice Ap2 a0.f2.length cp2] 61, .box g3 [.int .i64 a1.f0, .slice Ap3 a1.f1.length cp3, .int .i64 a1.f2.f0, .slice Ap4 a1.f2.f1.length cp4, .bool a1.f2.f2, .bool a1.f2.f3, .int .i64 a1.f2.f4] 66, .box g4 [.slice none 0 0, .slice none 0 0, .slice none 0 0] 61] := HS; have F := HS.boxes; simp only [boxFacts, and_true] at F) | ((with_reducible refine gate_dst (N := 8) rfl ?_); refine ev_call rfl Try.func71 (by kernel_rfl) rfl #[.agg #[.slice Ap0 a0.f0.length cp0, .slice Ap1 a0.f1.length cp1, .slice Ap2 a0.f2.length cp2]] rfl (by simp only [List.map_toArray, List.map_cons, List.map_nil]; rfl) ?_; refine (spec_l13Copy.calls ht7.out (HS.ro gp0) lp0 (HS.ro gp1) lp1 (HS.ro gp2) lp2).mono ?_; rintro _ wt7 ⟨v8, v9, v10, rfl, HQ⟩; refine ⟨_, rfl, ?_⟩; replace HS := HS.call HQ; clear HQ; (try clear F); obtain ⟨B8, d8, rfl, m8⟩ := HS.form 3 rfl; obtain ⟨B9, d9, rfl, m9⟩ := HS.form 4 rfl; obtain ⟨B10, d10, rfl, m10⟩ := HS.form 5 rfl; replace HS : Hp noFP w _ [.box g2 [.slice Ap0 a0.f0.length cp0, .slice Ap1 a0.f1.length cp1, .slice Ap2 a0.f2.length cp2] 61, .box g3 [.int .i64 a1.f0, .slice Ap3 a1.f1.length cp3, .int .i64 a1.f2.f0, .slice Ap4 a1.f2.f1.length cp4, .bool a1.f2.f2, .bool a1.f2.f3, .int .i64 a1.f2.f4] 66, .box g4 [.slice none 0 0, .slice none 0 0, .slice none 0 0] 61, .own (Zd.slice 192 q192) t7.f0 [.slice B8 t7.f0.length d8], .own (Zd.slice 190 q190) t7.f1 [.slice B9 t7.f1.length d9], .own (Zd.slice 128 q128) t7.f2 [.slice B10 t7.f2.length d10]] := HS; have F := HS.boxes; simp only [boxFacts, and_true] at F) | ((with_reducible refine gate_dst (N := 5) rfl ?_); refine ev_box rfl HS (by first | (go_simp; done) | (go_simp; rfl)) rfl ?_; clear HS; (try clear F); intro g5 w5 HS; replace HS : Hp noFP w _ [.box g2 [.slice Ap0 a0.f0.length cp0, .slice Ap1 a0.f1.length cp1, .slice Ap2 a0.f2.length cp2] 61, .box g3 [.int .i64 a1.f0, .slice Ap3 a1.f1.length cp3, .int .i64 a1.f2.f0, .slice Ap4 a1.f2.f1.length cp4, .bool a1.f2.f2, .bool a1.f2.f3, .int .i64 a1.f2.f4] 66, .box g4 [.slice none 0 0, .slice none 0 0, .slice none 0 0] 61, .own (Zd.slice 192 q192) t7.f0 [.slice B8 t7.f0.length d8], .own (Zd.slice 190 q190) t7.f1 [.slice B9 t7.f1.length d9], .own (Zd.slice 128 q128) t7.f2 [.slice B10 t7.f2.length d10], .box g5 [.slice none 0 0, .slice none 0 0, .slice none 0 0] 61] := HS; have F := HS.boxes; simp only [boxFacts, and_true] at F) | ((with_reducible refine gate_store (p := 5) rfl ?_); refine ev_store rfl 6 0 HS (seg := [.slice B8 t7.f0.length d8, .slice B9 t7.f1.length d9, .slice B10 t7.f2.length d10]) rfl rfl rfl rfl rfl rfl (by kernel_rfl) (by simp [wrt]) (by simp [Value.oneCell']) ?_; clear HS; (try clear F); intro w14 HS; replace HS : Hp noFP w _ [.box g2 [.slice Ap0 a0.f0.length cp0, .slice Ap1 a0.f1.length cp1, .slice Ap2 a0.f2.length cp2] 61, .box g3 [.int .i64 a1.f0, .slice Ap3 a1.f1.length cp3, .int .i64 a1.f2.f0, .slice Ap4 a1.f2.f1.length cp4, .bool a1.f2.f2, .bool a1.f2.f3, .int .i64 a1.f2.f4] 66, .box g4 [.slice none 0 0, .slice none 0 0, .slice none 0 0] 61, .own (Zd.slice 192 q192) t7.f0 [.slice B8 t7.f0.length d8], .own (Zd.slice 190 q190) t7.f1 [.slice B9 t7.f1.length d9], .own (Zd.slice 128 q128) t7.f2 [.slice B10 t7.f2.length d10], .box g5 [.slice B8 t7.f0.length d8, .slice B9 t7.f1.length d9, .slice B10 t7.f2.length d10] 61] := HS; have F := HS.boxes; simp only [boxFacts, and_true] at F) | ((with_reducible refine gate_dst (N := 9) rfl ?_); refine ev_lit rfl q128 [] ([] : List S128) [] HS (by first | (go_simp; done) | (go_simp; rfl)) rfl rfl (Nat.le_of_ble_eq_true rfl) MadeL.nil ?_; clear HS; (try clear F); intro v16 w16 HS; obtain ⟨B16, d16, rfl, m16⟩ := HS.formn 0 7 rfl rfl; replace HS : Hp noFP w _ [.box g2 [.slice Ap0 a0.f0.length cp0, .slice Ap1 a0.f1.length cp1, .slice Ap2 a0.f2.length cp2] 61, .box g3 [.int .i64 a1.f0, .slice Ap3 a1.f1.length cp3, .int .i64 a1.f2.f0, .slice Ap4 a1.f2.f1.length cp4, .bool a1.f2.f2, .bool a1.f2.f3, .int .i64 a1.f2.f4] 66, .box g4 [.slice none 0 0, .slice none 0 0, .slice none 0 0] 61, .own (Zd.slice 192 q192) t7.f0 [.slice B8 t7.f0.length d8], .own (Zd.slice 190 q190) t7.f1 [.slice B9 t7.f1.length d9], .own (Zd.slice 128 q128) t7.f2 [.slice B10 t7.f2.length d10], .box g5 [.slice B8 t7.f0.length d8, .slice B9 t7.f1.length d9, .slice B10 t7.f2.length d10] 61, .own (Zd.slice 128 q128) ([] : List S128) [.slice B16 0 d16]] := HS; have F := HS.boxes; simp only [boxFacts, and_true] at F) | ((with_reducible refine gate_store (p := 10) rfl ?_); refine ev_store rfl 6 2 HS (seg := [.slice B16 0 d16]) rfl rfl rfl rfl rfl rfl (by kernel_rfl) (by simp [wrt]) (by simp [Value.oneCell']) ?_; clear HS; (try clear F); intro w18 HS; replace HS : Hp noFP w _ [.box g2 [.slice Ap0 a0.f0.length cp0, .slice Ap1 a0.f1.length cp1, .slice Ap2 a0.f2.length cp2] 61, .box g3 [.int .i64 a1.f0, .slice Ap3 a1.f1.length cp3, .int .i64 a1.f2.f0, .slice Ap4 a1.f2.f1.length cp4, .bool a1.f2.f2, .bool a1.f2.f3, .int .i64 a1.f2.f4] 66, .box g4 [.slice none 0 0, .slice none 0 0, .slice none 0 0] 61, .own (Zd.slice 192 q192) t7.f0 [.slice B8 t7.f0.length d8], .own (Zd.slice 190 q190) t7.f1 [.slice B9 t7.f1.length d9], .own (Zd.slice 128 q128) t7.f2 [.slice B10 t7.f2.length d10], .box g5 [.slice B8 t7.f0.length d8, .slice B9 t7.f1.length d9, .slice B16 0 d16] 61, .own (Zd.slice 128 q128) ([] : List S128) [.slice B16 0 d16]] := HS; have F := HS.boxes; simp only [boxFacts, and_true] at F))
 go_loopg [6] k (fun kq v_6 w' => ∃ (l36 : List S128) (v37 : Value) (x38 : Int), v_6 = .int .i64 x38 ∧ Aside0 (spec_Trusting.l0 kq l36 x38 a0 a1 t7 = some r) ∧ Aside0 (kq ≤ k) ∧ Hp noFP w w' [.box g2 [.slice Ap0 a0.f0.length cp0, .slice Ap1 a0.f1.length cp1, .slice Ap2 a0.f2.length cp2] 61, .box g3 [.int .i64 a1.f0, .slice Ap3 a1.f1.length cp3, .int .i64 a1.f2.f0, .slice Ap4 a1.f2.f1.length cp4, .bool a1.f2.f2, .bool a1.f2.f3, .int .i64 a1.f2.f4] 66, .box g4 [.slice none 0 0, .slice none 0 0, .slice none 0 0] 61, .own (Zd.slice 192 q192) t7.f0 [.slice B8 t7.f0.length d8], .own (Zd.slice 190 q190) t7.f1 [.slice B9 t7.f1.length d9], .own (Zd.slice 128 q128) t7.f2 [.slice B10 t7.f2.length d10], .box g5 [.slice B8 t7.f0.length d8, .slice B9 t7.f1.length d9, v37] 61, .own (Zd.slice 128 q128) l36 [v37]])
 case atStart => exact ⟨_, _, _, rfl, H, ⟨Nat.le_refl _⟩, HS⟩
 case round =>
  clear HS H; (try clear F)
  obtain ⟨l36, v37, x38, rfl, H, HKk35, HS⟩ := hrel
  obtain ⟨B37, d37, rfl, m37⟩ := HS.form 7 rfl
  have F := HS.boxes; simp only [boxFacts, and_true] at F
  cases gk with
  | zero => exact absurd H.out (by simp [spec_Trusting.l0])
  | succ k35 =>
   simp only [spec_Trusting.l0] at H
   by_cases c40 : x38 < (a1.f1.length : Int)
   · replace H := zpos c40 H
     replace c40 := eq_true c40
     (try go_wp2)
     by_cases c303001 : 0 ≤ x38
     case neg => exact zno c303001 H
     replace H := zpos c303001 H
     replace c303001 := eq_true c303001
     by_cases c303002 : x38 < (a1.f1.length : Int)
     case neg => exact zno c303002 H
     replace H := zpos c303002 H
     replace c303002 := eq_true c303002
     obtain ⟨ad303999, rfl, e303999_0⟩ := Kd.at_int gp3 x38 (of_eq_true c303001) (of_eq_true c303002)
     replace H := zbind H; obtain ⟨t309001, ht309001, H⟩ := H
     refine dr_start [] HS #[false, false, false, false, false, false, false, false, false, false] (by kernel_rfl) rfl rfl spec_Trusting.tT6 (fun w42 HT HS HH => ?_)
     (try clear F)
     refine drq_of [(0, some 18), (1, some 19), (2, some 20), (3, some 21)] ?_
     repeat (first | (refine drq_pure HT (v := ?_) (a' := ?_) rfl rfl (by kernel_rfl) (fun _ _ _ h => h) (.inl ⟨by rfl, ?_⟩) ?_ ?_; rotate_left; (intro w'; go_simp; with_reducible rfl); rotate_left; (simp only [Act.put, List.setIfInBounds_toArray, List.set_cons_zero, List.set_cons_succ, i64_w, i32_w]; rfl)) | (refine drq_take HT HH (v := ?_) (a' := ?_) rfl rfl (by kernel_rfl) (fun _ _ _ h => h) (.inl ⟨by rfl, ?_⟩) ?_ ?_; rotate_left; (rintro w' ⟨rs', HS'⟩; have F := HS'.boxes; simp only [boxFacts, List.cons_append, List.nil_append, and_true] at F; go_simp; with_reducible rfl); rotate_left; (simp only [Act.put, List.setIfInBounds_toArray, List.set_cons_zero, List.set_cons_succ, i64_w, i32_w]; rfl)))
     refine drq_end ?_
     refine dr_take 4 (some 22) HT HH (v := ?_) (a' := ?_) rfl rfl (by kernel_rfl) (fun _ _ _ h => h) (.inl ⟨by rfl, ?_⟩) ?_ ?_
     rotate_left
     · rintro w' ⟨rs', HS'⟩; have e303999_0 := (HS'.keepc e303999_0); go_simp; with_reducible rfl
     rotate_left
     · simp only [Act.put, List.setIfInBounds_toArray, List.set_cons_zero, List.set_cons_succ, i64_w, i32_w]; rfl
     refine drq_of [(5, some 23), (6, some 24), (7, some 25), (8, some 26)] ?_
     repeat (first | (refine drq_pure HT (v := ?_) (a' := ?_) rfl rfl (by kernel_rfl) (fun _ _ _ h => h) (.inl ⟨by rfl, ?_⟩) ?_ ?_; rotate_left; (intro w'; go_simp; with_reducible rfl); rotate_left; (simp only [Act.put, List.setIfInBounds_toArray, List.set_cons_zero, List.set_cons_succ, i64_w, i32_w]; rfl)) | (refine drq_take HT HH (v := ?_) (a' := ?_) rfl rfl (by kernel_rfl) (fun _ _ _ h => h) (.inl ⟨by rfl, ?_⟩) ?_ ?_; rotate_left; (rintro w' ⟨rs', HS'⟩; have F := HS'.boxes; simp only [boxFacts, List.cons_append, List.nil_append, and_true] at F; go_simp; with_reducible rfl); rotate_left; (simp only [Act.put, List.setIfInBounds_toArray, List.set_cons_zero, List.set_cons_succ, i64_w, i32_w]; rfl)))
     refine drq_end ?_
     refine dr_one 9 HT rfl (by kernel_rfl) (by decide) (fun K hK => ?_)
     refine goes_ Try.func72 (by kernel_rfl) rfl #[.int .i64 (rd a1.f1 x38), .int .i64 0, .int .i64 (wrap64 ((a0.f2.length : Int) - 1))] (by rfl) rfl rfl (by simp only [List.map_toArray, List.map_cons, List.map_nil]; rfl) ?_; refine (spec_l01In.calls ht309001.out).mono ?_; rintro _ wt309001 ⟨rfl, HQ⟩; refine ⟨_, rfl, ?_⟩; replace HS := HS.call HQ; clear HQ; (try clear F)
     replace HS : Hp noFP w _ [.box g2 [.slice Ap0 a0.f0.length cp0, .slice Ap1 a0.f1.length cp1, .slice Ap2 a0.f2.length cp2] 61, .box g3 [.int .i64 a1.f0, .slice (some ad303999) a1.f1.length cp3, .int .i64 a1.f2.f0, .slice Ap4 a1.f2.f1.length cp4, .bool a1.f2.f2, .bool a1.f2.f3, .int .i64 a1.f2.f4] 66, .box g4 [.slice none 0 0, .slice none 0 0, .slice none 0 0] 61, .own (Zd.slice 192 q192) t7.f0 [.slice B8 t7.f0.length d8], .own (Zd.slice 190 q190) t7.f1 [.slice B9 t7.f1.length d9], .own (Zd.slice 128 q128) t7.f2 [.slice B10 t7.f2.length d10], .box g5 [.slice B8 t7.f0.length d8, .slice B9 t7.f1.length d9, .slice B37 l36.length d37] 61, .own (Zd.slice 128 q128) l36 [.slice B37 l36.length d37]] := HS
     have F := HS.boxes; simp only [boxFacts, and_true] at F
     refine hK.out _ _ ⟨_, HS⟩ (fun HH => ?_)
     clear hK K
     refine norm_ (a' := ?_) ?_ ?_
     rotate_left
     · show Act.put _ (some 27) _ = _; simp only [Act.put, List.setIfInBounds_toArray, List.set_cons_zero, List.set_cons_succ, i64_w, i32_w]; rfl
     refine done_ (done_of HT.out (by kernel_rfl)) ?_
     (try clear F)
     have F := HS.boxes; simp only [boxFacts, and_true] at F
     by_cases c44 : t309001 = true
     · replace H := zpos c44 H
       subst c44
       (try simp only [decide_true, decide_false, Bool.not_true, Bool.not_false, if_true, Bool.false_eq_true, if_false])
       (try go_wp2)
       by_cases c409001 : 0 ≤ (rd a1.f1 x38)
       case neg => exact zno c409001 H
       replace H := zpos c409001 H
       replace c409001 := eq_true c409001
       by_cases c409002 : (rd a1.f1 x38) < (a0.f2.length : Int)
       case neg => exact zno c409002 H
       replace H := zpos c409002 H
       replace c409002 := eq_true c409002
       obtain ⟨ad409999, rfl, e409999_0, e409999_1⟩ := at_T128 gp2 (rd a1.f1 x38) (of_eq_true c409001) (of_eq_true c409002)
       by_cases c412001 : l36.length + 1 ≤ 4398046511104
       case neg => exact zno c412001 H
       replace H := zpos c412001 H
       replace c412001 := eq_true c412001
       replace H := zlets H; obtain ⟨y412999, e_y412999, H⟩ := H
       refine dr_start2 [.box g2 [.slice Ap0 a0.f0.length cp0, .slice Ap1 a0.f1.length cp1, .slice (some ad409999) a0.f2.length cp2] 61, .box g3 [.int .i64 a1.f0, .slice (some ad303999) a1.f1.length cp3, .int .i64 a1.f2.f0, .slice Ap4 a1.f2.f1.length cp4, .bool a1.f2.f2, .bool a1.f2.f3, .int .i64 a1.f2.f4] 66, .box g4 [.slice none 0 0, .slice none 0 0, .slice none 0 0] 61, .own (Zd.slice 192 q192) t7.f0 [.slice B8 t7.f0.length d8], .own (Zd.slice 190 q190) t7.f1 [.slice B9 t7.f1.length d9], .own (Zd.slice 128 q128) t7.f2 [.slice B10 t7.f2.length d10], .box g5 [.slice B8 t7.f0.length d8, .slice B9 t7.f1.length d9, .slice B37 l36.length d37] 61, .emp] [14] HS (HS.arr [some 0, some 1, some 2, some 3, some 4, some 5, some 6, none] (by decide)) #[false, false, false, false, false, false, false, false, false, false, false, false, false, false, false] (by kernel_rfl) rfl rfl spec_Trusting.tT7 (fun w46 HT HS HH => ?_)
       (try clear F)
       refine drq_of [(0, some 28), (1, some 29), (2, some 30), (3, some 31), (4, some 32), (5, some 33), (6, some 34), (7, some 35)] ?_
       repeat (first | (refine drq_pure HT (v := ?_) (a' := ?_) rfl rfl (by kernel_rfl) (fun _ _ _ h => h) (.inl ⟨by rfl, ?_⟩) ?_ ?_; rotate_left; (intro w'; go_simp; with_reducible rfl); rotate_left; (simp only [Act.put, List.setIfInBounds_toArray, List.set_cons_zero, List.set_cons_succ, i64_w, i32_w]; rfl)) | (refine drq_take HT HH (v := ?_) (a' := ?_) rfl rfl (by kernel_rfl) (fun _ _ _ h => h) (.inl ⟨by rfl, ?_⟩) ?_ ?_; rotate_left; (rintro w' ⟨rs', HS'⟩; have F := HS'.boxes; simp only [boxFacts, List.cons_append, List.nil_append, and_true] at F; go_simp; with_reducible rfl); rotate_left; (simp only [Act.put, List.setIfInBounds_toArray, List.set_cons_zero, List.set_cons_succ, i64_w, i32_w]; rfl)))
       refine drq_end ?_
       refine dr_take 8 (some 36) HT HH (v := ?_) (a' := ?_) rfl rfl (by kernel_rfl) (fun _ _ _ h => h) (.inl ⟨by rfl, ?_⟩) ?_ ?_
       rotate_left
       · rintro w' ⟨rs', HS'⟩; have e303999_0 := (HS'.keepc e303999_0); go_simp; with_reducible rfl
       rotate_left
       · simp only [Act.put, List.setIfInBounds_toArray, List.set_cons_zero, List.set_cons_succ, i64_w, i32_w]; rfl
       refine drq_of [(9, some 37)] ?_
       repeat (first | (refine drq_pure HT (v := ?_) (a' := ?_) rfl rfl (by kernel_rfl) (fun _ _ _ h => h) (.inl ⟨by rfl, ?_⟩) ?_ ?_; rotate_left; (intro w'; go_simp; with_reducible rfl); rotate_left; (simp only [Act.put, List.setIfInBounds_toArray, List.set_cons_zero, List.set_cons_succ, i64_w, i32_w]; rfl)))
       refine drq_end ?_
       refine dr_take 10 (some 38) HT HH (v := ?_) (a' := ?_) rfl rfl (by kernel_rfl) (fun _ _ _ h => h) (.inl ⟨by rfl, ?_⟩) ?_ ?_
       rotate_left
       · rintro w' ⟨rs', HS'⟩; have e409999_0 := (HS'.keepc e409999_0); have e409999_1 := (HS'.keepc e409999_1); go_simp; with_reducible rfl
       rotate_left
       · simp only [Act.put, List.setIfInBounds_toArray, List.set_cons_zero, List.set_cons_succ, i64_w, i32_w]; rfl
       refine dr_one 11 HT rfl (by kernel_rfl) (by decide) (fun K hK => ?_)
       refine if_wp (by rfl) ?_; refine wp_lit q128 [] ([(rd_T128 a0.f2 (rd a1.f1 x38))] : List S128) ([.string ((rd_T128 a0.f2 (rd a1.f1 x38)).f0), .string ((rd_T128 a0.f2 (rd a1.f1 x38)).f1)] ++ []) HS (by first | (go_simp; done) | (go_simp; rfl)) rfl rfl (Nat.le_of_ble_eq_true rfl) (MadeL.cons (js1 := []) (c := [.string ((rd_T128 a0.f2 (rd a1.f1 x38)).f0), .string ((rd_T128 a0.f2 (rd a1.f1 x38)).f1)]) rfl (made_flat (fun _ => q128_flat _ _ _)) MadeL.nil (by decide)) ?_; clear HS; (try clear F); intro v411001 w411001 HS; obtain ⟨B411001, d411001, rfl, m411001⟩ := HS.formn 1 8 rfl rfl
       replace HS : Hp noFP w _ [.box g2 [.slice Ap0 a0.f0.length cp0, .slice Ap1 a0.f1.length cp1, .slice (some ad409999) a0.f2.length cp2] 61, .box g3 [.int .i64 a1.f0, .slice (some ad303999) a1.f1.length cp3, .int .i64 a1.f2.f0, .slice Ap4 a1.f2.f1.length cp4, .bool a1.f2.f2, .bool a1.f2.f3, .int .i64 a1.f2.f4] 66, .box g4 [.slice none 0 0, .slice none 0 0, .slice none 0 0] 61, .own (Zd.slice 192 q192) t7.f0 [.slice B8 t7.f0.length d8], .own (Zd.slice 190 q190) t7.f1 [.slice B9 t7.f1.length d9], .own (Zd.slice 128 q128) t7.f2 [.slice B10 t7.f2.length d10], .box g5 [.slice B8 t7.f0.length d8, .slice B9 t7.f1.length d9, .slice B37 l36.length d37] 61, .own (Zd.slice 128 q128) l36 [.slice B37 l36.length d37], .own (Zd.slice 128 q128) ([(rd_T128 a0.f2 (rd a1.f1 x38))] : List S128) [.slice B411001 1 d411001]] := HS
       have F := HS.boxes; simp only [boxFacts, and_true] at F
       refine hK.out _ _ ⟨[], HS.arr [some 0, some 1, some 2, some 3, some 4, some 5, some 6, none] (by decide)⟩ (fun HH => ?_)
       clear hK K
       refine norm_ (a' := ?_) ?_ ?_
       rotate_left
       · show Act.put _ (some 39) _ = _; simp only [Act.put, List.setIfInBounds_toArray, List.set_cons_zero, List.set_cons_succ, i64_w, i32_w]; rfl
       refine dr_one 12 HT rfl (by kernel_rfl) (by decide) (fun K hK => ?_)
       refine if_wp (by rfl) ?_; refine wp_append q128 7 8 HS rfl rfl (by decide) rfl rfl rfl Try.underlying59 info128 rfl (by decide) (by decide) (by have := of_eq_true c412001; first | omega | (simp only [List.length_cons, List.length_nil, List.length_append, Nat.zero_add] at this ⊢; omega)) ?_; clear HS; (try clear F); intro v412999 w412999 HS; rw [← e_y412999.out] at HS; obtain ⟨B412999, d412999, rfl, m412999⟩ := HS.form 9 rfl
       replace HS : Hp noFP w _ [.box g2 [.slice Ap0 a0.f0.length cp0, .slice Ap1 a0.f1.length cp1, .slice (some ad409999) a0.f2.length cp2] 61, .box g3 [.int .i64 a1.f0, .slice (some ad303999) a1.f1.length cp3, .int .i64 a1.f2.f0, .slice Ap4 a1.f2.f1.length cp4, .bool a1.f2.f2, .bool a1.f2.f3, .int .i64 a1.f2.f4] 66, .box g4 [.slice none 0 0, .slice none 0 0, .slice none 0 0] 61, .own (Zd.slice 192 q192) t7.f0 [.slice B8 t7.f0.length d8], .own (Zd.slice 190 q190) t7.f1 [.slice B9 t7.f1.length d9], .own (Zd.slice 128 q128) t7.f2 [.slice B10 t7.f2.length d10], .box g5 [.slice B8 t7.f0.length d8, .slice B9 t7.f1.length d9, .slice B37 l36.length d37] 61, .emp, .emp, .own (Zd.slice 128 q128) y412999 [.slice B412999 y412999.length d412999]] := HS
       have F := HS.boxes; simp only [boxFacts, and_true] at F
       refine hK.out _ _ ⟨[], HS.arr [some 0, some 1, some 2, some 3, some 4, some 5, some 6, none] (by decide)⟩ (fun HH => ?_)
       clear hK K
       refine norm_ (a' := ?_) ?_ ?_
       rotate_left
       · show Act.put _ (some 40) _ = _; simp only [Act.put, List.setIfInBounds_toArray, List.set_cons_zero, List.set_cons_succ, i64_w, i32_w]; rfl
       refine drq_of [(13, some 41)] ?_
       repeat (first | (refine drq_pure HT (v := ?_) (a' := ?_) rfl rfl (by kernel_rfl) (fun _ _ _ h => h) (.inl ⟨by rfl, ?_⟩) ?_ ?_; rotate_left; (intro w'; go_simp; with_reducible rfl); rotate_left; (simp only [Act.put, List.setIfInBounds_toArray, List.set_cons_zero, List.set_cons_succ, i64_w, i32_w]; rfl)))
       refine drq_end ?_
       refine dr_last 14 HT rfl (by kernel_rfl) (by decide) (fun K hK => ?_)
       refine if_wp (by rfl) ?_; refine wp_store 6 2 HS (seg := [.slice B412999 y412999.length d412999]) rfl rfl rfl rfl rfl rfl (by kernel_rfl) (by simp [wrt]) (by simp [Value.oneCell']) ?_; clear HS; (try clear F); intro w414001 HS
       replace HS : Hp noFP w _ [.box g2 [.slice Ap0 a0.f0.length cp0, .slice Ap1 a0.f1.length cp1, .slice (some ad409999) a0.f2.length cp2] 61, .box g3 [.int .i64 a1.f0, .slice (some ad303999) a1.f1.length cp3, .int .i64 a1.f2.f0, .slice Ap4 a1.f2.f1.length cp4, .bool a1.f2.f2, .bool a1.f2.f3, .int .i64 a1.f2.f4] 66, .box g4 [.slice none 0 0, .slice none 0 0, .slice none 0 0] 61, .own (Zd.slice 192 q192) t7.f0 [.slice B8 t7.f0.length d8], .own (Zd.slice 190 q190) t7.f1 [.slice B9 t7.f1.length d9], .own (Zd.slice 128 q128) t7.f2 [.slice B10 t7.f2.length d10], .box g5 [.slice B8 t7.f0.length d8, .slice B9 t7.f1.length d9, .slice B412999 y412999.length d412999] 61, .emp, .emp, .own (Zd.slice 128 q128) y412999 [.slice B412999 y412999.length d412999]] := HS
       have F := HS.boxes; simp only [boxFacts, and_true] at F
       refine hK.out _ _ ?_
       clear hK K
       refine done_ (done_of HT.out (by kernel_rfl)) ?_
       (try clear F)
       have F := HS.boxes; simp only [boxFacts, and_true] at F
       go_wp2
       go_roundg k35
       case measure => have := HKk35.out; omega
       case rel => exact ⟨_, _, _, rfl, H, ⟨by have := HKk35.out; omega⟩, HS.pick [0, 1, 2, 3, 4, 5, 6, 9] (by decide) (by rfl)⟩
     · replace H := zneg c44 H
       replace c44 := eq_false_of_ne_true c44
       subst c44
       (try simp only [decide_true, decide_false, Bool.not_true, Bool.not_false, if_true, Bool.false_eq_true, if_false])
       go_wp2
       go_roundg k35
       case measure => have := HKk35.out; omega
       case rel => exact ⟨_, _, _, rfl, H, ⟨by have := HKk35.out; omega⟩, HS.pick [0, 1, 2, 3, 4, 5, 6, 7] (by decide) (by rfl)⟩
   · replace H := zneg c40 H
     replace c40 := eq_false c40
     obtain rfl := zsome H
     go_wp2_with (first | ((with_reducible refine gate_store (p := 4) rfl ?_); refine ev_store rfl 2 0 HS (seg := [.slice B8 t7.f0.length d8, .slice B9 t7.f1.length d9, .slice B37 l36.length d37]) rfl rfl rfl rfl rfl rfl (by kernel_rfl) (by simp [wrt]) (by simp [Value.oneCell']) ?_; clear HS; (try clear F); intro w48 HS; replace HS : Hp noFP w _ [.box g2 [.slice Ap0 a0.f0.length cp0, .slice Ap1 a0.f1.length cp1, .slice Ap2 a0.f2.length cp2] 61, .box g3 [.int .i64 a1.f0, .slice Ap3 a1.f1.length cp3, .int .i64 a1.f2.f0, .slice Ap4 a1.f2.f1.length cp4, .bool a1.f2.f2, .bool a1.f2.f3, .int .i64 a1.f2.f4] 66, .box g4 [.slice B8 t7.f0.length d8, .slice B9 t7.f1.length d9, .slice B37 l36.length d37] 61, .own (Zd.slice 192 q192) t7.f0 [.slice B8 t7.f0.length d8], .own (Zd.slice 190 q190) t7.f1 [.slice B9 t7.f1.length d9], .own (Zd.slice 128 q128) t7.f2 [.slice B10 t7.f2.length d10], .box g5 [.slice B8 t7.f0.length d8, .slice B9 t7.f1.length d9, .slice B37 l36.length d37] 61, .own (Zd.slice 128 q128) l36 [.slice B37 l36.length d37]] := HS; have F := HS.boxes; simp only [boxFacts, and_true] at F))
     exact bodyPost_ret (results_single rfl (.cell _ _ _ _ _ rfl (HS.boxAt (i := 2) rfl) Try.underlying61 rfl (by kernel_rfl) .nil)) rfl ⟨_, _, _, rfl, HS.pick [3, 4, 7] (by decide) (by rfl)⟩
/-! ### laws_toIntS: function 42 -/
def laws_toIntS.l0 : Nat → (List Int) → Int → (List Int) → Option ((List Int))
  | 0, _, _, _ => none
  | k + 1, l18, x20, a0 => (if x20 < (a0.length : Int) then (if 0 ≤ x20 then (if x20 < (a0.length : Int) then (laws_toIntS.l0 k (l18.set (x20).toNat (rd a0 x20)) (wrap64 (x20 + 1)) a0) else none) else none) else (some l18))
def laws_toIntS.f (k : Nat) (a0 : (List Int)) : Option ((List Int)) := (if 0 ≤ (a0.length : Int) then (if ((a0.length : Int)).toNat ≤ 35184372088832 then (laws_toIntS.l0 k (List.replicate a0.length (0 : Int)) 0 a0) else none) else none)
set_option maxHeartbeats 16000000 in
theorem laws_toIntS.calls {k : Nat} {a0 : (List Int)} {Ap0 : Option Addr} {np0 cp0 : Nat} {r : (List Int)} {w : World} (h : laws_toIntS.f k a0 = some r) (gp0 : (Kd.int .i64).C w Ap0 np0 a0) (lp0 : np0 ≤ cp0) :
    Calls Try.prog 42 #[.slice Ap0 np0 cp0] w (fun e w' => ∃ v0_ : Value, e = .returned (v0_) ∧ Hp noFP w w' [.own (Zd.slice 3 (Zd.int .i64)) r [v0_]]) := by
 obtain rfl := C_len gp0
 have HS := Hp.start w
 have H := Aside0.mk h
 clear h
 unfold laws_toIntS.f at H
 go_enter Try.func42, Try.ntmps42
 by_cases c1 : 0 ≤ (a0.length : Int)
 case neg => exact zno c1 H
 replace H := zpos c1 H
 replace c1 := eq_true c1
 by_cases c2 : ((a0.length : Int)).toNat ≤ 35184372088832
 case neg => exact zno c2 H
 replace H := zpos c2 H
 replace c2 := eq_true c2
 go_wp2_with (first | ((with_reducible refine gate_dst (N := 7) rfl ?_); refine ev_make rfl (Zd.int .i64) (0 : Int) HS rfl (a0.length : Int) rfl rfl Try.underlying24 info3 rfl (by decide) (by decide) (fun _ _ => rfl) (of_eq_true c1) (by have := of_eq_true c2; omega) ?_; clear HS; (try clear F); intro v3 w3 HS; obtain ⟨B3, d3, rfl, m3⟩ := HS.formn a0.length 0 rfl (by first | rfl | simp); replace HS : Hp noFP w _ [.own (Zd.slice 3 (Zd.int .i64)) (List.replicate a0.length (0 : Int)) [.slice B3 a0.length d3]] := HS))
 go_loopg [4] k (fun kq v_4 w' => ∃ (l18 : List Int) (x20 : Int), v_4 = .int .i64 x20 ∧ Aside0 (laws_toIntS.l0 kq l18 x20 a0 = some r) ∧ Aside0 (kq ≤ k) ∧ Hp noFP w w' [.own (Zd.slice 3 (Zd.int .i64)) l18 [.slice B3 a0.length d3]])
 case atStart => exact ⟨_, _, rfl, H, ⟨Nat.le_refl _⟩, HS⟩
 case round =>
  clear HS H; (try clear F)
  obtain ⟨l18, x20, rfl, H, HKk17, HS⟩ := hrel
  cases gk with
  | zero => exact absurd H.out (by simp [laws_toIntS.l0])
  | succ k17 =>
   simp only [laws_toIntS.l0] at H
   by_cases c22 : x20 < (a0.length : Int)
   · replace H := zpos c22 H
     replace c22 := eq_true c22
     by_cases c23 : 0 ≤ x20
     case neg => exact zno c23 H
     replace H := zpos c23 H
     replace c23 := eq_true c23
     by_cases c24 : x20 < (a0.length : Int)
     case neg => exact zno c24 H
     replace H := zpos c24 H
     replace c24 := eq_true c24
     obtain ⟨ad25, rfl, e25_0⟩ := Kd.at_int gp0 x20 (of_eq_true c23) (of_eq_true c24)
     have e25_0_25 := (HS.keepc e25_0)
     obtain ⟨ad26, rfl, e26_0⟩ := Kd.at_int (HS.rd 0 rfl) x20 (of_eq_true c23) (of_eq_true c24)
     go_wp2_with (first | ((with_reducible refine gate_store (p := 20) rfl ?_); refine ev_set rfl (Zd.int .i64) 0 [] x20 (rd a0 x20) HS (seg := [.int .i64 (rd a0 x20)]) rfl (by decide) rfl rfl rfl (by first | rfl | exact (Nat.mul_one _).symm) rfl rfl (by kernel_rfl) (by simp [Value.oneCell']) ⟨of_eq_true c23, of_eq_true c24⟩ rfl (made_flat (fun _ => rfl)) ?_; clear HS; (try clear F); intro w27 HS; replace HS : Hp noFP w _ [.own (Zd.slice 3 (Zd.int .i64)) (l18.set (x20).toNat (rd a0 x20)) [.slice (some ad26) a0.length d3]] := HS))
     go_roundg k17
     case measure => have := HKk17.out; omega
     case rel => exact ⟨_, _, rfl, H, ⟨by have := HKk17.out; omega⟩, HS.pick [0] (by decide) (by rfl)⟩
   · replace H := zneg c22 H
     replace c22 := eq_false c22
     obtain rfl := zsome H
     go_wp2
     exact bodyPost_ret (results_single rfl (.tmp .nil)) rfl ⟨_, rfl, HS.pick [0] (by decide) (by rfl)⟩
/-! ### laws_toStringS: function 94 -/
def laws_toStringS.l0 : Nat → (List ByteArray) → Int → (List ByteArray) → Option ((List ByteArray))
  | 0, _, _, _ => none
  | k + 1, l18, x20, a0 => (if x20 < (a0.length : Int) then (if 0 ≤ x20 then (if x20 < (a0.length : Int) then (laws_toStringS.l0 k (l18.set (x20).toNat (rdOf ByteArray.empty a0 x20)) (wrap64 (x20 + 1)) a0) else none) else none) else (some l18))
def laws_toStringS.f (k : Nat) (a0 : (List ByteArray)) : Option ((List ByteArray)) := (if 0 ≤ (a0.length : Int) then (if ((a0.length : Int)).toNat ≤ 17592186044416 then (laws_toStringS.l0 k (List.replicate a0.length (⟨#[]⟩ : ByteArray)) 0 a0) else none) else none)
set_option maxHeartbeats 16000000 in
theorem laws_toStringS.calls {k : Nat} {a0 : (List ByteArray)} {Ap0 : Option Addr} {np0 cp0 : Nat} {r : (List ByteArray)} {w : World} (h : laws_toStringS.f k a0 = some r) (gp0 : Kd.string.C w Ap0 np0 a0) (lp0 : np0 ≤ cp0) :
    Calls Try.prog 94 #[.slice Ap0 np0 cp0] w (fun e w' => ∃ v0_ : Value, e = .returned (v0_) ∧ Hp noFP w w' [.own (Zd.slice 9 Zd.string) r [v0_]]) := by
 obtain rfl := C_len gp0
 have HS := Hp.start w
 have H := Aside0.mk h
 clear h
 unfold laws_toStringS.f at H
 go_enter Try.func94, Try.ntmps94
 by_cases c1 : 0 ≤ (a0.length : Int)
 case neg => exact zno c1 H
 replace H := zpos c1 H
 replace c1 := eq_true c1
 by_cases c2 : ((a0.length : Int)).toNat ≤ 17592186044416
 case neg => exact zno c2 H
 replace H := zpos c2 H
 replace c2 := eq_true c2
 go_wp2_with (first | ((with_reducible refine gate_dst (N := 7) rfl ?_); refine ev_make rfl Zd.string (⟨#[]⟩ : ByteArray) HS rfl (a0.length : Int) rfl rfl Try.underlying73 info9 rfl (by decide) (by decide) (fun _ _ => rfl) (of_eq_true c1) (by have := of_eq_true c2; omega) ?_; clear HS; (try clear F); intro v3 w3 HS; obtain ⟨B3, d3, rfl, m3⟩ := HS.formn a0.length 0 rfl (by first | rfl | simp); replace HS : Hp noFP w _ [.own (Zd.slice 9 Zd.string) (List.replicate a0.length (⟨#[]⟩ : ByteArray)) [.slice B3 a0.length d3]] := HS))
 go_loopg [4] k (fun kq v_4 w' => ∃ (l18 : List ByteArray) (x20 : Int), v_4 = .int .i64 x20 ∧ Aside0 (laws_toStringS.l0 kq l18 x20 a0 = some r) ∧ Aside0 (kq ≤ k) ∧ Hp noFP w w' [.own (Zd.slice 9 Zd.string) l18 [.slice B3 a0.length d3]])
 case atStart => exact ⟨_, _, rfl, H, ⟨Nat.le_refl _⟩, HS⟩
 case round =>
  clear HS H; (try clear F)
  obtain ⟨l18, x20, rfl, H, HKk17, HS⟩ := hrel
  cases gk with
  | zero => exact absurd H.out (by simp [laws_toStringS.l0])
  | succ k17 =>
   simp only [laws_toStringS.l0] at H
   by_cases c22 : x20 < (a0.length : Int)
   · replace H := zpos c22 H
     replace c22 := eq_true c22
     by_cases c23 : 0 ≤ x20
     case neg => exact zno c23 H
     replace H := zpos c23 H
     replace c23 := eq_true c23
     by_cases c24 : x20 < (a0.length : Int)
     case neg => exact zno c24 H
     replace H := zpos c24 H
     replace c24 := eq_true c24
     obtain ⟨ad25, rfl, e25_0⟩ := Kd.at_string gp0 x20 (of_eq_true c23) (of_eq_true c24)
     have e25_0_25 := (HS.keepc e25_0)
     obtain ⟨ad26, rfl, e26_0⟩ := Kd.at_string (HS.rd 0 rfl) x20 (of_eq_true c23) (of_eq_true c24)
     go_wp2_with (first | ((with_reducible refine gate_store (p := 20) rfl ?_); refine ev_set rfl Zd.string 0 [] x20 (rdOf ByteArray.empty a0 x20) HS (seg := [.string (rdOf ByteArray.empty a0 x20)]) rfl (by decide) rfl rfl rfl (by first | rfl | exact (Nat.mul_one _).symm) rfl rfl (by kernel_rfl) (by simp [Value.oneCell']) ⟨of_eq_true c23, of_eq_true c24⟩ rfl (made_flat (fun _ => rfl)) ?_; clear HS; (try clear F); intro w27 HS; replace HS : Hp noFP w _ [.own (Zd.slice 9 Zd.string) (l18.set (x20).toNat (rdOf ByteArray.empty a0 x20)) [.slice (some ad26) a0.length d3]] := HS))
     go_roundg k17
     case measure => have := HKk17.out; omega
     case rel => exact ⟨_, _, rfl, H, ⟨by have := HKk17.out; omega⟩, HS.pick [0] (by decide) (by rfl)⟩
   · replace H := zneg c22 H
     replace c22 := eq_false c22
     obtain rfl := zsome H
     go_wp2
     exact bodyPost_ret (results_single rfl (.tmp .nil)) rfl ⟨_, rfl, HS.pick [0] (by decide) (by rfl)⟩
end Go.Proofs.Ytoaoncnbimcdgaa.F

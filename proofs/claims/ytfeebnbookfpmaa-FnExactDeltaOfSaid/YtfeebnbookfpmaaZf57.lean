import Derived.Test.YtfeebnbookfpmaaZT
import Derived.Test.YtfeebnbookfpmaaZf100
namespace Go.Proofs.Ytfeebnbookfpmaa.F
open Go.RowKit Go.Proofs.YtfeebnbookfpmaaW.PrintWords Go.Proofs.YtfeebnbookfpmaaW.PrintLast Go.Proofs.YtfeebnbookfpmaaW.PrintMore Go.Proofs.Ytfeebnbookfpmaa.Z
attribute [local go_sem] max2_int min2_int max_two min_two max_three min_three max_four min_four
set_option linter.unusedVariables false
set_option linter.unusedSimpArgs false
set_option maxRecDepth 100000
/-! ### spec_DeltaOf: function 57 -/
def spec_DeltaOf.l0 : Nat → Int → Int → (List S54) → S54 → Option (S54 × Bool)
  | 0, _, _, _, _ => none
  | k + 1, x22, x23, a0, a1 => (if x23 < (a0.length : Int) then (if 0 ≤ x23 then (if x23 < (a0.length : Int) then (if (rd_T54 a0 x23).f4 = 0 then (spec_DeltaOf.l0 k x22 (wrap64 (x23 + 1)) a0 a1) else (if (rd_T54 a0 x23).f4 ≤ a1.f1 then (if a1.f1 < (rd_T54 a0 x23).f1 then (if x22 < 0 then (spec_DeltaOf.l0 k x23 (wrap64 (x23 + 1)) a0 a1) else (if 0 ≤ x22 then (if x22 < (a0.length : Int) then (if (rd_T54 a0 x22).f1 < (rd_T54 a0 x23).f1 then (spec_DeltaOf.l0 k x23 (wrap64 (x23 + 1)) a0 a1) else (spec_DeltaOf.l0 k x22 (wrap64 (x23 + 1)) a0 a1)) else none) else none)) else (spec_DeltaOf.l0 k x22 (wrap64 (x23 + 1)) a0 a1)) else (spec_DeltaOf.l0 k x22 (wrap64 (x23 + 1)) a0 a1))) else none) else none) else (if x22 < 0 then (some ((⟨(⟨#[]⟩ : ByteArray), 0, 0, 0, 0, ([] : List S119), (⟨#[]⟩ : ByteArray)⟩ : S54), false)) else (if 0 ≤ x22 then (if x22 < (a0.length : Int) then ((spec_l10Copy.f (rd_T54 a0 x22)).bind fun t51 => (some ((⟨t51.f0, t51.f1, t51.f2, t51.f3, t51.f4, t51.f5, t51.f6⟩ : S54), true))) else none) else none)))
def spec_DeltaOf.f (k : Nat) (a0 : (List S54)) (a1 : S54) : Option (S54 × Bool) := (spec_DeltaOf.l0 k (-1) 0 a0 a1)
def spec_DeltaOf.T6 : Bool × List (List Nat × List Nat) := (true, [([], []), ([0], [0]), ([1], [1]), ([2], [2]), ([3], [3]), ([4, 3], [3, 4]), ([3], [3]), ([6, 3], [3, 6]), ([5, 7, 3], [3, 5, 7]), ([3, 8], [3, 8]), ([9, 3], [9]), ([10], [10]), ([11, 10], [10, 11]), ([10], [10]), ([13, 10], [10, 13]), ([12, 14, 10], [10, 12, 14]), ([10, 15], [10, 15]), ([16, 10], [16]), ([17], [17]), ([18, 17], [17, 18]), ([19, 17, 17], [17, 19]), ([20], [20]), ([21, 20], [20, 21]), ([20], [20]), ([20], [20]), ([23, 24, 20], [20, 23, 24]), ([25, 20], [20, 25]), ([26, 20], [20, 26]), ([22, 27, 20], [20, 22, 27]), ([20, 28, 17], [17, 20, 28]), ([17, 29], [17, 29])])
theorem spec_DeltaOf.tT6 : rtab .any (opsOf Try.f57 6) = spec_DeltaOf.T6 := by kernel_rfl
set_option maxHeartbeats 16000000 in
theorem spec_DeltaOf.calls {k : Nat} {a0 : (List S54)} {a1 : S54} {Ap0 : Option Addr} {np0 cp0 : Nat} {Ap1 : Option Addr} {np1 cp1 : Nat} {r1 : S54} {r2 : Bool} {w : World} (h : spec_DeltaOf.f k a0 a1 = some (r1, r2)) (gp0 : k54.C w Ap0 np0 a0) (lp0 : np0 ≤ cp0) (gp1 : k119.C w Ap1 np1 a1.f5) (lp1 : np1 ≤ cp1) :
    Calls Try.prog 57 #[.slice Ap0 np0 cp0, .agg #[.string a1.f0, .int .i64 a1.f1, .int .i64 a1.f2, .int .i64 a1.f3, .int .i64 a1.f4, .slice Ap1 np1 cp1, .string a1.f6]] w (fun e w' => ∃ v0_ : Value, e = .returned (.tuple #[.agg #[.string r1.f0, .int .i64 r1.f1, .int .i64 r1.f2, .int .i64 r1.f3, .int .i64 r1.f4, v0_, .string r1.f6], .bool r2]) ∧ Hp noFP w w' [.own (Zd.slice 119 q119) r1.f5 [v0_]]) := by
 obtain rfl := C_len gp0
 obtain rfl := C_len gp1
 have HS := Hp.start w
 have H := Aside0.mk h
 clear h
 unfold spec_DeltaOf.f at H
 go_enter Try.func57, Try.ntmps57
 go_wp2_with (first | ((with_reducible refine gate_dst (N := 3) rfl ?_); refine ev_box rfl HS (by first | (go_simp; done) | (go_simp; rfl)) rfl ?_; clear HS; (try clear F); intro g3 w3 HS; have F := HS.boxes; simp only [boxFacts, wrt, clr0, clr1, List.cons_append, List.nil_append, List.append_nil, List.set_cons_zero, List.set_cons_succ, and_true] at F) | ((with_reducible refine gate_dst (N := 4) rfl ?_); refine ev_box rfl HS (by first | (go_simp; done) | (go_simp; rfl)) rfl ?_; clear HS; (try clear F); intro g4 w4 HS; have F := HS.boxes; simp only [boxFacts, wrt, clr0, clr1, List.cons_append, List.nil_append, List.append_nil, List.set_cons_zero, List.set_cons_succ, and_true] at F))
 go_loopg [6, 7] k (fun kq v_6 v_7 w' => ∃ (x22 : Int) (x23 : Int), v_6 = .int .i64 x22 ∧ v_7 = .int .i64 x23 ∧ Aside0 (spec_DeltaOf.l0 kq x22 x23 a0 a1 = some (r1, r2)) ∧ Aside0 (kq ≤ k) ∧ Hp noFP w w' [.box g3 [.string a1.f0, .int .i64 a1.f1, .int .i64 a1.f2, .int .i64 a1.f3, .int .i64 a1.f4, .slice Ap1 a1.f5.length cp1, .string a1.f6] 54, .box g4 [.string (⟨#[]⟩ : ByteArray), .int .i64 0, .int .i64 0, .int .i64 0, .int .i64 0, .slice none 0 0, .string (⟨#[]⟩ : ByteArray)] 54])
 case atStart => exact ⟨_, _, rfl, rfl, H, ⟨Nat.le_refl _⟩, HS⟩
 case round =>
  clear HS H; (try clear F)
  obtain ⟨x22, x23, rfl, rfl, H, HKk21, HS⟩ := hrel
  have F := HS.boxes; simp only [boxFacts, wrt, clr0, clr1, List.cons_append, List.nil_append, List.append_nil, List.set_cons_zero, List.set_cons_succ, and_true] at F
  cases gk with
  | zero => exact absurd H.out (by simp [spec_DeltaOf.l0])
  | succ k21 =>
   simp only [spec_DeltaOf.l0] at H
   by_cases c25 : x23 < (a0.length : Int)
   · replace H := zpos c25 H
     replace c25 := eq_true c25
     by_cases c26 : 0 ≤ x23
     case neg => exact zno c26 H
     replace H := zpos c26 H
     replace c26 := eq_true c26
     by_cases c27 : x23 < (a0.length : Int)
     case neg => exact zno c27 H
     replace H := zpos c27 H
     replace c27 := eq_true c27
     obtain ⟨ad28, B28_5, d28_5, rfl, e28_0, e28_1, e28_2, e28_3, e28_4, e28_5, e28_6, m28_5, y28_5⟩ := at_T54 gp0 x23 (of_eq_true c26) (of_eq_true c27)
     replace e28_0 := HS.keepc e28_0
     replace e28_1 := HS.keepc e28_1
     replace e28_2 := HS.keepc e28_2
     replace e28_3 := HS.keepc e28_3
     replace e28_4 := HS.keepc e28_4
     replace e28_5 := HS.keepc e28_5
     replace e28_6 := HS.keepc e28_6
     go_wp2_with (first | ((with_reducible refine gate_dst (N := 8) rfl ?_); refine ev_box rfl HS (by first | (go_simp; done) | (go_simp; rfl)) rfl ?_; clear HS; (try clear F); intro g8 w8 HS; have F := HS.boxes; simp only [boxFacts, wrt, clr0, clr1, List.cons_append, List.nil_append, List.append_nil, List.set_cons_zero, List.set_cons_succ, and_true] at F) | ((with_reducible refine gate_store (p := 8) rfl ?_); refine ev_store rfl 2 0 HS (seg := [.string ((rd_T54 a0 x23).f0), .int .i64 ((rd_T54 a0 x23).f1), .int .i64 ((rd_T54 a0 x23).f2), .int .i64 ((rd_T54 a0 x23).f3), .int .i64 ((rd_T54 a0 x23).f4), .slice B28_5 (rd_T54 a0 x23).f5.length d28_5, .string ((rd_T54 a0 x23).f6)]) rfl rfl rfl rfl rfl rfl (by kernel_rfl) (by simp [wrt]) (by simp [Value.oneCell']) ?_; clear HS; (try clear F); intro w31 HS; have F := HS.boxes; simp only [boxFacts, wrt, clr0, clr1, List.cons_append, List.nil_append, List.append_nil, List.set_cons_zero, List.set_cons_succ, and_true] at F))
     by_cases c203001 : (rd_T54 a0 x23).f4 = 0
     · replace H := zpos c203001 H
       have c203001a := beq_iff_eq.mpr c203001
       have c203001b := bne_eq_false_iff_eq.mpr c203001
       clear c203001
       refine dr_start [] HS #[false, false, false, false, false, false, false, false, false, false, false, false, false, false, false, false, false, false, false, false, false, false, false, false, false, false, false, false, false, false, false] (by kernel_rfl) rfl rfl spec_DeltaOf.tT6 (fun w34 HT HS HH => ?_)
       (try clear F)
       refine dr_pure 0 (some 19) HT (v := ?_) (a' := ?_) rfl rfl (by kernel_rfl) (fun _ _ _ h => h) (.inl ⟨by rfl, ?_⟩) ?_ ?_
       rotate_left
       · intro w'; go_simp; with_reducible rfl
       rotate_left
       · simp only [Act.put, List.setIfInBounds_toArray, List.set_cons_zero, List.set_cons_succ, i64_w, i32_w]; rfl
       refine dr_take 1 (some 20) HT HH (v := ?_) (a' := ?_) rfl rfl (by kernel_rfl) (fun _ _ _ h => h) (.inl ⟨by rfl, ?_⟩) ?_ ?_
       rotate_left
       · rintro w' ⟨rs', HS'⟩; have F := HS'.boxes; simp only [boxFacts, wrt, clr0, clr1, List.cons_append, List.nil_append, List.append_nil, List.set_cons_zero, List.set_cons_succ, and_true] at F; go_simp; with_reducible rfl
       rotate_left
       · simp only [Act.put, List.setIfInBounds_toArray, List.set_cons_zero, List.set_cons_succ, i64_w, i32_w]; rfl
       refine dr_pure 2 (some 21) HT (v := ?_) (a' := ?_) rfl rfl (by kernel_rfl) (fun _ _ _ h => h) (.inl ⟨by rfl, ?_⟩) ?_ ?_
       rotate_left
       · intro w'; go_simp; with_reducible rfl
       rotate_left
       · simp only [Act.put, List.setIfInBounds_toArray, List.set_cons_zero, List.set_cons_succ, i64_w, i32_w]; rfl
       refine dr_pure 3 (some 22) HT (v := ?_) (a' := ?_) rfl rfl (by kernel_rfl) (fun _ _ _ h => h) (.inl ⟨by rfl, ?_⟩) ?_ ?_
       rotate_left
       · intro w'; go_simp; with_reducible rfl
       rotate_left
       · simp only [Act.put, List.setIfInBounds_toArray, List.set_cons_zero, List.set_cons_succ, i64_w, i32_w]; rfl
       refine dr_pure 4 (some 23) HT (v := undef) (a' := ?_) rfl rfl (by kernel_rfl) (fun _ _ _ h => h) (.inr ⟨by rfl, rfl⟩) ?_ ?_
       rotate_left
       · simp only [Act.put, List.setIfInBounds_toArray, List.set_cons_zero, List.set_cons_succ, i64_w, i32_w]; rfl
       refine dr_pure 5 (some 24) HT (v := undef) (a' := ?_) rfl rfl (by kernel_rfl) (fun _ _ _ h => h) (.inr ⟨by rfl, rfl⟩) ?_ ?_
       rotate_left
       · simp only [Act.put, List.setIfInBounds_toArray, List.set_cons_zero, List.set_cons_succ, i64_w, i32_w]; rfl
       refine dr_pure 6 (some 25) HT (v := undef) (a' := ?_) rfl rfl (by kernel_rfl) (fun _ _ _ h => h) (.inr ⟨by rfl, rfl⟩) ?_ ?_
       rotate_left
       · simp only [Act.put, List.setIfInBounds_toArray, List.set_cons_zero, List.set_cons_succ, i64_w, i32_w]; rfl
       refine dr_pure 7 (some 26) HT (v := undef) (a' := ?_) rfl rfl (by kernel_rfl) (fun _ _ _ h => h) (.inr ⟨by rfl, rfl⟩) ?_ ?_
       rotate_left
       · simp only [Act.put, List.setIfInBounds_toArray, List.set_cons_zero, List.set_cons_succ, i64_w, i32_w]; rfl
       refine dr_pure 8 (some 27) HT (v := undef) (a' := ?_) rfl rfl (by kernel_rfl) (fun _ _ _ h => h) (.inr ⟨by rfl, rfl⟩) ?_ ?_
       rotate_left
       · simp only [Act.put, List.setIfInBounds_toArray, List.set_cons_zero, List.set_cons_succ, i64_w, i32_w]; rfl
       refine dr_pure 9 (some 28) HT (v := ?_) (a' := ?_) rfl rfl (by kernel_rfl) (fun _ _ _ h => h) (.inl ⟨by rfl, ?_⟩) ?_ ?_
       rotate_left
       · intro w'; go_simp; with_reducible rfl
       rotate_left
       · simp only [Act.put, List.setIfInBounds_toArray, List.set_cons_zero, List.set_cons_succ, i64_w, i32_w]; rfl
       refine dr_pure 10 (some 29) HT (v := ?_) (a' := ?_) rfl rfl (by kernel_rfl) (fun _ _ _ h => h) (.inl ⟨by rfl, ?_⟩) ?_ ?_
       rotate_left
       · intro w'; go_simp; with_reducible rfl
       rotate_left
       · simp only [Act.put, List.setIfInBounds_toArray, List.set_cons_zero, List.set_cons_succ, i64_w, i32_w]; rfl
       refine dr_pure 11 (some 30) HT (v := undef) (a' := ?_) rfl rfl (by kernel_rfl) (fun _ _ _ h => h) (.inr ⟨by rfl, rfl⟩) ?_ ?_
       rotate_left
       · simp only [Act.put, List.setIfInBounds_toArray, List.set_cons_zero, List.set_cons_succ, i64_w, i32_w]; rfl
       refine dr_pure 12 (some 31) HT (v := undef) (a' := ?_) rfl rfl (by kernel_rfl) (fun _ _ _ h => h) (.inr ⟨by rfl, rfl⟩) ?_ ?_
       rotate_left
       · simp only [Act.put, List.setIfInBounds_toArray, List.set_cons_zero, List.set_cons_succ, i64_w, i32_w]; rfl
       refine dr_pure 13 (some 32) HT (v := undef) (a' := ?_) rfl rfl (by kernel_rfl) (fun _ _ _ h => h) (.inr ⟨by rfl, rfl⟩) ?_ ?_
       rotate_left
       · simp only [Act.put, List.setIfInBounds_toArray, List.set_cons_zero, List.set_cons_succ, i64_w, i32_w]; rfl
       refine dr_pure 14 (some 33) HT (v := undef) (a' := ?_) rfl rfl (by kernel_rfl) (fun _ _ _ h => h) (.inr ⟨by rfl, rfl⟩) ?_ ?_
       rotate_left
       · simp only [Act.put, List.setIfInBounds_toArray, List.set_cons_zero, List.set_cons_succ, i64_w, i32_w]; rfl
       refine dr_pure 15 (some 34) HT (v := undef) (a' := ?_) rfl rfl (by kernel_rfl) (fun _ _ _ h => h) (.inr ⟨by rfl, rfl⟩) ?_ ?_
       rotate_left
       · simp only [Act.put, List.setIfInBounds_toArray, List.set_cons_zero, List.set_cons_succ, i64_w, i32_w]; rfl
       refine dr_pure 16 (some 35) HT (v := ?_) (a' := ?_) rfl rfl (by kernel_rfl) (fun _ _ _ h => h) (.inl ⟨by rfl, ?_⟩) ?_ ?_
       rotate_left
       · intro w'; go_simp; with_reducible rfl
       rotate_left
       · simp only [Act.put, List.setIfInBounds_toArray, List.set_cons_zero, List.set_cons_succ, i64_w, i32_w]; rfl
       refine dr_pure 17 (some 36) HT (v := ?_) (a' := ?_) rfl rfl (by kernel_rfl) (fun _ _ _ h => h) (.inl ⟨by rfl, ?_⟩) ?_ ?_
       rotate_left
       · intro w'; go_simp; with_reducible rfl
       rotate_left
       · simp only [Act.put, List.setIfInBounds_toArray, List.set_cons_zero, List.set_cons_succ, i64_w, i32_w]; rfl
       refine dr_pure 18 (some 37) HT (v := undef) (a' := ?_) rfl rfl (by kernel_rfl) (fun _ _ _ h => h) (.inr ⟨by rfl, rfl⟩) ?_ ?_
       rotate_left
       · simp only [Act.put, List.setIfInBounds_toArray, List.set_cons_zero, List.set_cons_succ, i64_w, i32_w]; rfl
       refine dr_pure 19 (some 38) HT (v := undef) (a' := ?_) rfl rfl (by kernel_rfl) (fun _ _ _ h => h) (.inr ⟨by rfl, rfl⟩) ?_ ?_
       rotate_left
       · simp only [Act.put, List.setIfInBounds_toArray, List.set_cons_zero, List.set_cons_succ, i64_w, i32_w]; rfl
       refine dr_pure 20 (some 39) HT (v := undef) (a' := ?_) rfl rfl (by kernel_rfl) (fun _ _ _ h => h) (.inr ⟨by rfl, rfl⟩) ?_ ?_
       rotate_left
       · simp only [Act.put, List.setIfInBounds_toArray, List.set_cons_zero, List.set_cons_succ, i64_w, i32_w]; rfl
       refine dr_pure 21 (some 40) HT (v := undef) (a' := ?_) rfl rfl (by kernel_rfl) (fun _ _ _ h => h) (.inr ⟨by rfl, rfl⟩) ?_ ?_
       rotate_left
       · simp only [Act.put, List.setIfInBounds_toArray, List.set_cons_zero, List.set_cons_succ, i64_w, i32_w]; rfl
       refine dr_pure 22 (some 41) HT (v := undef) (a' := ?_) rfl rfl (by kernel_rfl) (fun _ _ _ h => h) (.inr ⟨by rfl, rfl⟩) ?_ ?_
       rotate_left
       · simp only [Act.put, List.setIfInBounds_toArray, List.set_cons_zero, List.set_cons_succ, i64_w, i32_w]; rfl
       refine dr_pure 23 (some 42) HT (v := undef) (a' := ?_) rfl rfl (by kernel_rfl) (fun _ _ _ h => h) (.inr ⟨by rfl, rfl⟩) ?_ ?_
       rotate_left
       · simp only [Act.put, List.setIfInBounds_toArray, List.set_cons_zero, List.set_cons_succ, i64_w, i32_w]; rfl
       refine dr_pure 24 (some 43) HT (v := undef) (a' := ?_) rfl rfl (by kernel_rfl) (fun _ _ _ h => h) (.inr ⟨by rfl, rfl⟩) ?_ ?_
       rotate_left
       · simp only [Act.put, List.setIfInBounds_toArray, List.set_cons_zero, List.set_cons_succ, i64_w, i32_w]; rfl
       refine dr_pure 25 (some 44) HT (v := undef) (a' := ?_) rfl rfl (by kernel_rfl) (fun _ _ _ h => h) (.inr ⟨by rfl, rfl⟩) ?_ ?_
       rotate_left
       · simp only [Act.put, List.setIfInBounds_toArray, List.set_cons_zero, List.set_cons_succ, i64_w, i32_w]; rfl
       refine dr_pure 26 (some 45) HT (v := undef) (a' := ?_) rfl rfl (by kernel_rfl) (fun _ _ _ h => h) (.inr ⟨by rfl, rfl⟩) ?_ ?_
       rotate_left
       · simp only [Act.put, List.setIfInBounds_toArray, List.set_cons_zero, List.set_cons_succ, i64_w, i32_w]; rfl
       refine dr_pure 27 (some 46) HT (v := undef) (a' := ?_) rfl rfl (by kernel_rfl) (fun _ _ _ h => h) (.inr ⟨by rfl, rfl⟩) ?_ ?_
       rotate_left
       · simp only [Act.put, List.setIfInBounds_toArray, List.set_cons_zero, List.set_cons_succ, i64_w, i32_w]; rfl
       refine dr_pure 28 (some 47) HT (v := undef) (a' := ?_) rfl rfl (by kernel_rfl) (fun _ _ _ h => h) (.inr ⟨by rfl, rfl⟩) ?_ ?_
       rotate_left
       · simp only [Act.put, List.setIfInBounds_toArray, List.set_cons_zero, List.set_cons_succ, i64_w, i32_w]; rfl
       refine dr_pure 29 (some 48) HT (v := undef) (a' := ?_) rfl rfl (by kernel_rfl) (fun _ _ _ h => h) (.inr ⟨by rfl, rfl⟩) ?_ ?_
       rotate_left
       · simp only [Act.put, List.setIfInBounds_toArray, List.set_cons_zero, List.set_cons_succ, i64_w, i32_w]; rfl
       refine dr_pure 30 (some 49) HT (v := ?_) (a' := ?_) rfl rfl (by kernel_rfl) (fun _ _ _ h => h) (.inl ⟨by rfl, ?_⟩) ?_ ?_
       rotate_left
       · intro w'; go_simp; with_reducible rfl
       rotate_left
       · simp only [Act.put, List.setIfInBounds_toArray, List.set_cons_zero, List.set_cons_succ, i64_w, i32_w]; rfl
       refine done_ (done_of HT.out (by kernel_rfl)) ?_
       go_wp2
       go_roundg k21
       case measure => have := HKk21.out; omega
       case rel => exact ⟨_, _, rfl, rfl, H, ⟨by have := HKk21.out; omega⟩, HS.pick [0, 1] (by decide) (by rfl)⟩
     · replace H := zneg c203001 H
       have c203001a := beq_eq_false_iff_ne.mpr c203001
       have c203001b := bne_iff_ne.mpr c203001
       clear c203001
       by_cases c210001 : (rd_T54 a0 x23).f4 ≤ a1.f1
       · replace H := zpos c210001 H
         replace c210001 := eq_true c210001
         by_cases c217001 : a1.f1 < (rd_T54 a0 x23).f1
         · replace H := zpos c217001 H
           replace c217001 := eq_true c217001
           by_cases c220001 : x22 < 0
           · replace H := zpos c220001 H
             replace c220001 := eq_true c220001
             refine dr_start [] HS #[false, false, false, false, false, false, false, false, false, false, false, false, false, false, false, false, false, false, false, false, false, false, false, false, false, false, false, false, false, false, false] (by kernel_rfl) rfl rfl spec_DeltaOf.tT6 (fun w36 HT HS HH => ?_)
             (try clear F)
             refine dr_pure 0 (some 19) HT (v := ?_) (a' := ?_) rfl rfl (by kernel_rfl) (fun _ _ _ h => h) (.inl ⟨by rfl, ?_⟩) ?_ ?_
             rotate_left
             · intro w'; go_simp; with_reducible rfl
             rotate_left
             · simp only [Act.put, List.setIfInBounds_toArray, List.set_cons_zero, List.set_cons_succ, i64_w, i32_w]; rfl
             refine dr_take 1 (some 20) HT HH (v := ?_) (a' := ?_) rfl rfl (by kernel_rfl) (fun _ _ _ h => h) (.inl ⟨by rfl, ?_⟩) ?_ ?_
             rotate_left
             · rintro w' ⟨rs', HS'⟩; have F := HS'.boxes; simp only [boxFacts, wrt, clr0, clr1, List.cons_append, List.nil_append, List.append_nil, List.set_cons_zero, List.set_cons_succ, and_true] at F; go_simp; with_reducible rfl
             rotate_left
             · simp only [Act.put, List.setIfInBounds_toArray, List.set_cons_zero, List.set_cons_succ, i64_w, i32_w]; rfl
             refine dr_pure 2 (some 21) HT (v := ?_) (a' := ?_) rfl rfl (by kernel_rfl) (fun _ _ _ h => h) (.inl ⟨by rfl, ?_⟩) ?_ ?_
             rotate_left
             · intro w'; go_simp; with_reducible rfl
             rotate_left
             · simp only [Act.put, List.setIfInBounds_toArray, List.set_cons_zero, List.set_cons_succ, i64_w, i32_w]; rfl
             refine dr_pure 3 (some 22) HT (v := ?_) (a' := ?_) rfl rfl (by kernel_rfl) (fun _ _ _ h => h) (.inl ⟨by rfl, ?_⟩) ?_ ?_
             rotate_left
             · intro w'; go_simp; with_reducible rfl
             rotate_left
             · simp only [Act.put, List.setIfInBounds_toArray, List.set_cons_zero, List.set_cons_succ, i64_w, i32_w]; rfl
             refine dr_pure 4 (some 23) HT (v := ?_) (a' := ?_) rfl rfl (by kernel_rfl) (fun _ _ _ h => h) (.inl ⟨by rfl, ?_⟩) ?_ ?_
             rotate_left
             · intro w'; go_simp; with_reducible rfl
             rotate_left
             · simp only [Act.put, List.setIfInBounds_toArray, List.set_cons_zero, List.set_cons_succ, i64_w, i32_w]; rfl
             refine dr_take 5 (some 24) HT HH (v := ?_) (a' := ?_) rfl rfl (by kernel_rfl) (fun _ _ _ h => h) (.inl ⟨by rfl, ?_⟩) ?_ ?_
             rotate_left
             · rintro w' ⟨rs', HS'⟩; have F := HS'.boxes; simp only [boxFacts, wrt, clr0, clr1, List.cons_append, List.nil_append, List.append_nil, List.set_cons_zero, List.set_cons_succ, and_true] at F; go_simp; with_reducible rfl
             rotate_left
             · simp only [Act.put, List.setIfInBounds_toArray, List.set_cons_zero, List.set_cons_succ, i64_w, i32_w]; rfl
             refine dr_pure 6 (some 25) HT (v := ?_) (a' := ?_) rfl rfl (by kernel_rfl) (fun _ _ _ h => h) (.inl ⟨by rfl, ?_⟩) ?_ ?_
             rotate_left
             · intro w'; go_simp; with_reducible rfl
             rotate_left
             · simp only [Act.put, List.setIfInBounds_toArray, List.set_cons_zero, List.set_cons_succ, i64_w, i32_w]; rfl
             refine dr_take 7 (some 26) HT HH (v := ?_) (a' := ?_) rfl rfl (by kernel_rfl) (fun _ _ _ h => h) (.inl ⟨by rfl, ?_⟩) ?_ ?_
             rotate_left
             · rintro w' ⟨rs', HS'⟩; have F := HS'.boxes; simp only [boxFacts, wrt, clr0, clr1, List.cons_append, List.nil_append, List.append_nil, List.set_cons_zero, List.set_cons_succ, and_true] at F; go_simp; with_reducible rfl
             rotate_left
             · simp only [Act.put, List.setIfInBounds_toArray, List.set_cons_zero, List.set_cons_succ, i64_w, i32_w]; rfl
             refine dr_pure 8 (some 27) HT (v := ?_) (a' := ?_) rfl rfl (by kernel_rfl) (fun _ _ _ h => h) (.inl ⟨by rfl, ?_⟩) ?_ ?_
             rotate_left
             · intro w'; go_simp; with_reducible rfl
             rotate_left
             · simp only [Act.put, List.setIfInBounds_toArray, List.set_cons_zero, List.set_cons_succ, i64_w, i32_w]; rfl
             refine dr_pure 9 (some 28) HT (v := ?_) (a' := ?_) rfl rfl (by kernel_rfl) (fun _ _ _ h => h) (.inl ⟨by rfl, ?_⟩) ?_ ?_
             rotate_left
             · intro w'; go_simp; with_reducible rfl
             rotate_left
             · simp only [Act.put, List.setIfInBounds_toArray, List.set_cons_zero, List.set_cons_succ, i64_w, i32_w]; rfl
             refine dr_pure 10 (some 29) HT (v := ?_) (a' := ?_) rfl rfl (by kernel_rfl) (fun _ _ _ h => h) (.inl ⟨by rfl, ?_⟩) ?_ ?_
             rotate_left
             · intro w'; go_simp; with_reducible rfl
             rotate_left
             · simp only [Act.put, List.setIfInBounds_toArray, List.set_cons_zero, List.set_cons_succ, i64_w, i32_w]; rfl
             refine dr_pure 11 (some 30) HT (v := ?_) (a' := ?_) rfl rfl (by kernel_rfl) (fun _ _ _ h => h) (.inl ⟨by rfl, ?_⟩) ?_ ?_
             rotate_left
             · intro w'; go_simp; with_reducible rfl
             rotate_left
             · simp only [Act.put, List.setIfInBounds_toArray, List.set_cons_zero, List.set_cons_succ, i64_w, i32_w]; rfl
             refine dr_take 12 (some 31) HT HH (v := ?_) (a' := ?_) rfl rfl (by kernel_rfl) (fun _ _ _ h => h) (.inl ⟨by rfl, ?_⟩) ?_ ?_
             rotate_left
             · rintro w' ⟨rs', HS'⟩; have F := HS'.boxes; simp only [boxFacts, wrt, clr0, clr1, List.cons_append, List.nil_append, List.append_nil, List.set_cons_zero, List.set_cons_succ, and_true] at F; go_simp; with_reducible rfl
             rotate_left
             · simp only [Act.put, List.setIfInBounds_toArray, List.set_cons_zero, List.set_cons_succ, i64_w, i32_w]; rfl
             refine dr_pure 13 (some 32) HT (v := ?_) (a' := ?_) rfl rfl (by kernel_rfl) (fun _ _ _ h => h) (.inl ⟨by rfl, ?_⟩) ?_ ?_
             rotate_left
             · intro w'; go_simp; with_reducible rfl
             rotate_left
             · simp only [Act.put, List.setIfInBounds_toArray, List.set_cons_zero, List.set_cons_succ, i64_w, i32_w]; rfl
             refine dr_take 14 (some 33) HT HH (v := ?_) (a' := ?_) rfl rfl (by kernel_rfl) (fun _ _ _ h => h) (.inl ⟨by rfl, ?_⟩) ?_ ?_
             rotate_left
             · rintro w' ⟨rs', HS'⟩; have F := HS'.boxes; simp only [boxFacts, wrt, clr0, clr1, List.cons_append, List.nil_append, List.append_nil, List.set_cons_zero, List.set_cons_succ, and_true] at F; go_simp; with_reducible rfl
             rotate_left
             · simp only [Act.put, List.setIfInBounds_toArray, List.set_cons_zero, List.set_cons_succ, i64_w, i32_w]; rfl
             refine dr_pure 15 (some 34) HT (v := ?_) (a' := ?_) rfl rfl (by kernel_rfl) (fun _ _ _ h => h) (.inl ⟨by rfl, ?_⟩) ?_ ?_
             rotate_left
             · intro w'; go_simp; with_reducible rfl
             rotate_left
             · simp only [Act.put, List.setIfInBounds_toArray, List.set_cons_zero, List.set_cons_succ, i64_w, i32_w]; rfl
             refine dr_pure 16 (some 35) HT (v := ?_) (a' := ?_) rfl rfl (by kernel_rfl) (fun _ _ _ h => h) (.inl ⟨by rfl, ?_⟩) ?_ ?_
             rotate_left
             · intro w'; go_simp; with_reducible rfl
             rotate_left
             · simp only [Act.put, List.setIfInBounds_toArray, List.set_cons_zero, List.set_cons_succ, i64_w, i32_w]; rfl
             refine dr_pure 17 (some 36) HT (v := ?_) (a' := ?_) rfl rfl (by kernel_rfl) (fun _ _ _ h => h) (.inl ⟨by rfl, ?_⟩) ?_ ?_
             rotate_left
             · intro w'; go_simp; with_reducible rfl
             rotate_left
             · simp only [Act.put, List.setIfInBounds_toArray, List.set_cons_zero, List.set_cons_succ, i64_w, i32_w]; rfl
             refine dr_pure 18 (some 37) HT (v := ?_) (a' := ?_) rfl rfl (by kernel_rfl) (fun _ _ _ h => h) (.inl ⟨by rfl, ?_⟩) ?_ ?_
             rotate_left
             · intro w'; go_simp; with_reducible rfl
             rotate_left
             · simp only [Act.put, List.setIfInBounds_toArray, List.set_cons_zero, List.set_cons_succ, i64_w, i32_w]; rfl
             refine dr_pure 19 (some 38) HT (v := ?_) (a' := ?_) rfl rfl (by kernel_rfl) (fun _ _ _ h => h) (.inl ⟨by rfl, ?_⟩) ?_ ?_
             rotate_left
             · intro w'; go_simp; with_reducible rfl
             rotate_left
             · simp only [Act.put, List.setIfInBounds_toArray, List.set_cons_zero, List.set_cons_succ, i64_w, i32_w]; rfl
             refine dr_pure 20 (some 39) HT (v := ?_) (a' := ?_) rfl rfl (by kernel_rfl) (fun _ _ _ h => h) (.inl ⟨by rfl, ?_⟩) ?_ ?_
             rotate_left
             · intro w'; go_simp; with_reducible rfl
             rotate_left
             · simp only [Act.put, List.setIfInBounds_toArray, List.set_cons_zero, List.set_cons_succ, i64_w, i32_w]; rfl
             refine dr_pure 21 (some 40) HT (v := undef) (a' := ?_) rfl rfl (by kernel_rfl) (fun _ _ _ h => h) (.inr ⟨by rfl, rfl⟩) ?_ ?_
             rotate_left
             · simp only [Act.put, List.setIfInBounds_toArray, List.set_cons_zero, List.set_cons_succ, i64_w, i32_w]; rfl
             refine dr_pure 22 (some 41) HT (v := undef) (a' := ?_) rfl rfl (by kernel_rfl) (fun _ _ _ h => h) (.inr ⟨by rfl, rfl⟩) ?_ ?_
             rotate_left
             · simp only [Act.put, List.setIfInBounds_toArray, List.set_cons_zero, List.set_cons_succ, i64_w, i32_w]; rfl
             refine dr_pure 23 (some 42) HT (v := undef) (a' := ?_) rfl rfl (by kernel_rfl) (fun _ _ _ h => h) (.inr ⟨by rfl, rfl⟩) ?_ ?_
             rotate_left
             · simp only [Act.put, List.setIfInBounds_toArray, List.set_cons_zero, List.set_cons_succ, i64_w, i32_w]; rfl
             refine dr_pure 24 (some 43) HT (v := undef) (a' := ?_) rfl rfl (by kernel_rfl) (fun _ _ _ h => h) (.inr ⟨by rfl, rfl⟩) ?_ ?_
             rotate_left
             · simp only [Act.put, List.setIfInBounds_toArray, List.set_cons_zero, List.set_cons_succ, i64_w, i32_w]; rfl
             refine dr_pure 25 (some 44) HT (v := undef) (a' := ?_) rfl rfl (by kernel_rfl) (fun _ _ _ h => h) (.inr ⟨by rfl, rfl⟩) ?_ ?_
             rotate_left
             · simp only [Act.put, List.setIfInBounds_toArray, List.set_cons_zero, List.set_cons_succ, i64_w, i32_w]; rfl
             refine dr_pure 26 (some 45) HT (v := undef) (a' := ?_) rfl rfl (by kernel_rfl) (fun _ _ _ h => h) (.inr ⟨by rfl, rfl⟩) ?_ ?_
             rotate_left
             · simp only [Act.put, List.setIfInBounds_toArray, List.set_cons_zero, List.set_cons_succ, i64_w, i32_w]; rfl
             refine dr_pure 27 (some 46) HT (v := undef) (a' := ?_) rfl rfl (by kernel_rfl) (fun _ _ _ h => h) (.inr ⟨by rfl, rfl⟩) ?_ ?_
             rotate_left
             · simp only [Act.put, List.setIfInBounds_toArray, List.set_cons_zero, List.set_cons_succ, i64_w, i32_w]; rfl
             refine dr_pure 28 (some 47) HT (v := undef) (a' := ?_) rfl rfl (by kernel_rfl) (fun _ _ _ h => h) (.inr ⟨by rfl, rfl⟩) ?_ ?_
             rotate_left
             · simp only [Act.put, List.setIfInBounds_toArray, List.set_cons_zero, List.set_cons_succ, i64_w, i32_w]; rfl
             refine dr_pure 29 (some 48) HT (v := ?_) (a' := ?_) rfl rfl (by kernel_rfl) (fun _ _ _ h => h) (.inl ⟨by rfl, ?_⟩) ?_ ?_
             rotate_left
             · intro w'; go_simp; with_reducible rfl
             rotate_left
             · simp only [Act.put, List.setIfInBounds_toArray, List.set_cons_zero, List.set_cons_succ, i64_w, i32_w]; rfl
             refine dr_pure 30 (some 49) HT (v := ?_) (a' := ?_) rfl rfl (by kernel_rfl) (fun _ _ _ h => h) (.inl ⟨by rfl, ?_⟩) ?_ ?_
             rotate_left
             · intro w'; go_simp; with_reducible rfl
             rotate_left
             · simp only [Act.put, List.setIfInBounds_toArray, List.set_cons_zero, List.set_cons_succ, i64_w, i32_w]; rfl
             refine done_ (done_of HT.out (by kernel_rfl)) ?_
             go_wp2
             go_roundg k21
             case measure => have := HKk21.out; omega
             case rel => exact ⟨_, _, rfl, rfl, H, ⟨by have := HKk21.out; omega⟩, HS.pick [0, 1] (by decide) (by rfl)⟩
           · replace H := zneg c220001 H
             replace c220001 := eq_false c220001
             by_cases c225001 : 0 ≤ x22
             case neg => exact zno c225001 H
             replace H := zpos c225001 H
             replace c225001 := eq_true c225001
             by_cases c225002 : x22 < (a0.length : Int)
             case neg => exact zno c225002 H
             replace H := zpos c225002 H
             replace c225002 := eq_true c225002
             obtain ⟨ad225003, B225003_5, d225003_5, hq225003, e225003_0, e225003_1, e225003_2, e225003_3, e225003_4, e225003_5, e225003_6, m225003_5, y225003_5⟩ := at_T54 gp0 x22 (of_eq_true c225001) (of_eq_true c225002)
             obtain rfl := Option.some.inj hq225003
             refine dr_start [] HS #[false, false, false, false, false, false, false, false, false, false, false, false, false, false, false, false, false, false, false, false, false, false, false, false, false, false, false, false, false, false, false] (by kernel_rfl) rfl rfl spec_DeltaOf.tT6 (fun w38 HT HS HH => ?_)
             (try clear F)
             refine dr_pure 0 (some 19) HT (v := ?_) (a' := ?_) rfl rfl (by kernel_rfl) (fun _ _ _ h => h) (.inl ⟨by rfl, ?_⟩) ?_ ?_
             rotate_left
             · intro w'; go_simp; with_reducible rfl
             rotate_left
             · simp only [Act.put, List.setIfInBounds_toArray, List.set_cons_zero, List.set_cons_succ, i64_w, i32_w]; rfl
             refine dr_take 1 (some 20) HT HH (v := ?_) (a' := ?_) rfl rfl (by kernel_rfl) (fun _ _ _ h => h) (.inl ⟨by rfl, ?_⟩) ?_ ?_
             rotate_left
             · rintro w' ⟨rs', HS'⟩; have F := HS'.boxes; simp only [boxFacts, wrt, clr0, clr1, List.cons_append, List.nil_append, List.append_nil, List.set_cons_zero, List.set_cons_succ, and_true] at F; go_simp; with_reducible rfl
             rotate_left
             · simp only [Act.put, List.setIfInBounds_toArray, List.set_cons_zero, List.set_cons_succ, i64_w, i32_w]; rfl
             refine dr_pure 2 (some 21) HT (v := ?_) (a' := ?_) rfl rfl (by kernel_rfl) (fun _ _ _ h => h) (.inl ⟨by rfl, ?_⟩) ?_ ?_
             rotate_left
             · intro w'; go_simp; with_reducible rfl
             rotate_left
             · simp only [Act.put, List.setIfInBounds_toArray, List.set_cons_zero, List.set_cons_succ, i64_w, i32_w]; rfl
             refine dr_pure 3 (some 22) HT (v := ?_) (a' := ?_) rfl rfl (by kernel_rfl) (fun _ _ _ h => h) (.inl ⟨by rfl, ?_⟩) ?_ ?_
             rotate_left
             · intro w'; go_simp; with_reducible rfl
             rotate_left
             · simp only [Act.put, List.setIfInBounds_toArray, List.set_cons_zero, List.set_cons_succ, i64_w, i32_w]; rfl
             refine dr_pure 4 (some 23) HT (v := ?_) (a' := ?_) rfl rfl (by kernel_rfl) (fun _ _ _ h => h) (.inl ⟨by rfl, ?_⟩) ?_ ?_
             rotate_left
             · intro w'; go_simp; with_reducible rfl
             rotate_left
             · simp only [Act.put, List.setIfInBounds_toArray, List.set_cons_zero, List.set_cons_succ, i64_w, i32_w]; rfl
             refine dr_take 5 (some 24) HT HH (v := ?_) (a' := ?_) rfl rfl (by kernel_rfl) (fun _ _ _ h => h) (.inl ⟨by rfl, ?_⟩) ?_ ?_
             rotate_left
             · rintro w' ⟨rs', HS'⟩; have F := HS'.boxes; simp only [boxFacts, wrt, clr0, clr1, List.cons_append, List.nil_append, List.append_nil, List.set_cons_zero, List.set_cons_succ, and_true] at F; go_simp; with_reducible rfl
             rotate_left
             · simp only [Act.put, List.setIfInBounds_toArray, List.set_cons_zero, List.set_cons_succ, i64_w, i32_w]; rfl
             refine dr_pure 6 (some 25) HT (v := ?_) (a' := ?_) rfl rfl (by kernel_rfl) (fun _ _ _ h => h) (.inl ⟨by rfl, ?_⟩) ?_ ?_
             rotate_left
             · intro w'; go_simp; with_reducible rfl
             rotate_left
             · simp only [Act.put, List.setIfInBounds_toArray, List.set_cons_zero, List.set_cons_succ, i64_w, i32_w]; rfl
             refine dr_take 7 (some 26) HT HH (v := ?_) (a' := ?_) rfl rfl (by kernel_rfl) (fun _ _ _ h => h) (.inl ⟨by rfl, ?_⟩) ?_ ?_
             rotate_left
             · rintro w' ⟨rs', HS'⟩; have F := HS'.boxes; simp only [boxFacts, wrt, clr0, clr1, List.cons_append, List.nil_append, List.append_nil, List.set_cons_zero, List.set_cons_succ, and_true] at F; go_simp; with_reducible rfl
             rotate_left
             · simp only [Act.put, List.setIfInBounds_toArray, List.set_cons_zero, List.set_cons_succ, i64_w, i32_w]; rfl
             refine dr_pure 8 (some 27) HT (v := ?_) (a' := ?_) rfl rfl (by kernel_rfl) (fun _ _ _ h => h) (.inl ⟨by rfl, ?_⟩) ?_ ?_
             rotate_left
             · intro w'; go_simp; with_reducible rfl
             rotate_left
             · simp only [Act.put, List.setIfInBounds_toArray, List.set_cons_zero, List.set_cons_succ, i64_w, i32_w]; rfl
             refine dr_pure 9 (some 28) HT (v := ?_) (a' := ?_) rfl rfl (by kernel_rfl) (fun _ _ _ h => h) (.inl ⟨by rfl, ?_⟩) ?_ ?_
             rotate_left
             · intro w'; go_simp; with_reducible rfl
             rotate_left
             · simp only [Act.put, List.setIfInBounds_toArray, List.set_cons_zero, List.set_cons_succ, i64_w, i32_w]; rfl
             refine dr_pure 10 (some 29) HT (v := ?_) (a' := ?_) rfl rfl (by kernel_rfl) (fun _ _ _ h => h) (.inl ⟨by rfl, ?_⟩) ?_ ?_
             rotate_left
             · intro w'; go_simp; with_reducible rfl
             rotate_left
             · simp only [Act.put, List.setIfInBounds_toArray, List.set_cons_zero, List.set_cons_succ, i64_w, i32_w]; rfl
             refine dr_pure 11 (some 30) HT (v := ?_) (a' := ?_) rfl rfl (by kernel_rfl) (fun _ _ _ h => h) (.inl ⟨by rfl, ?_⟩) ?_ ?_
             rotate_left
             · intro w'; go_simp; with_reducible rfl
             rotate_left
             · simp only [Act.put, List.setIfInBounds_toArray, List.set_cons_zero, List.set_cons_succ, i64_w, i32_w]; rfl
             refine dr_take 12 (some 31) HT HH (v := ?_) (a' := ?_) rfl rfl (by kernel_rfl) (fun _ _ _ h => h) (.inl ⟨by rfl, ?_⟩) ?_ ?_
             rotate_left
             · rintro w' ⟨rs', HS'⟩; have F := HS'.boxes; simp only [boxFacts, wrt, clr0, clr1, List.cons_append, List.nil_append, List.append_nil, List.set_cons_zero, List.set_cons_succ, and_true] at F; go_simp; with_reducible rfl
             rotate_left
             · simp only [Act.put, List.setIfInBounds_toArray, List.set_cons_zero, List.set_cons_succ, i64_w, i32_w]; rfl
             refine dr_pure 13 (some 32) HT (v := ?_) (a' := ?_) rfl rfl (by kernel_rfl) (fun _ _ _ h => h) (.inl ⟨by rfl, ?_⟩) ?_ ?_
             rotate_left
             · intro w'; go_simp; with_reducible rfl
             rotate_left
             · simp only [Act.put, List.setIfInBounds_toArray, List.set_cons_zero, List.set_cons_succ, i64_w, i32_w]; rfl
             refine dr_take 14 (some 33) HT HH (v := ?_) (a' := ?_) rfl rfl (by kernel_rfl) (fun _ _ _ h => h) (.inl ⟨by rfl, ?_⟩) ?_ ?_
             rotate_left
             · rintro w' ⟨rs', HS'⟩; have F := HS'.boxes; simp only [boxFacts, wrt, clr0, clr1, List.cons_append, List.nil_append, List.append_nil, List.set_cons_zero, List.set_cons_succ, and_true] at F; go_simp; with_reducible rfl
             rotate_left
             · simp only [Act.put, List.setIfInBounds_toArray, List.set_cons_zero, List.set_cons_succ, i64_w, i32_w]; rfl
             refine dr_pure 15 (some 34) HT (v := ?_) (a' := ?_) rfl rfl (by kernel_rfl) (fun _ _ _ h => h) (.inl ⟨by rfl, ?_⟩) ?_ ?_
             rotate_left
             · intro w'; go_simp; with_reducible rfl
             rotate_left
             · simp only [Act.put, List.setIfInBounds_toArray, List.set_cons_zero, List.set_cons_succ, i64_w, i32_w]; rfl
             refine dr_pure 16 (some 35) HT (v := ?_) (a' := ?_) rfl rfl (by kernel_rfl) (fun _ _ _ h => h) (.inl ⟨by rfl, ?_⟩) ?_ ?_
             rotate_left
             · intro w'; go_simp; with_reducible rfl
             rotate_left
             · simp only [Act.put, List.setIfInBounds_toArray, List.set_cons_zero, List.set_cons_succ, i64_w, i32_w]; rfl
             refine dr_pure 17 (some 36) HT (v := ?_) (a' := ?_) rfl rfl (by kernel_rfl) (fun _ _ _ h => h) (.inl ⟨by rfl, ?_⟩) ?_ ?_
             rotate_left
             · intro w'; go_simp; with_reducible rfl
             rotate_left
             · simp only [Act.put, List.setIfInBounds_toArray, List.set_cons_zero, List.set_cons_succ, i64_w, i32_w]; rfl
             refine dr_pure 18 (some 37) HT (v := ?_) (a' := ?_) rfl rfl (by kernel_rfl) (fun _ _ _ h => h) (.inl ⟨by rfl, ?_⟩) ?_ ?_
             rotate_left
             · intro w'; go_simp; with_reducible rfl
             rotate_left
             · simp only [Act.put, List.setIfInBounds_toArray, List.set_cons_zero, List.set_cons_succ, i64_w, i32_w]; rfl
             refine dr_pure 19 (some 38) HT (v := ?_) (a' := ?_) rfl rfl (by kernel_rfl) (fun _ _ _ h => h) (.inl ⟨by rfl, ?_⟩) ?_ ?_
             rotate_left
             · intro w'; go_simp; with_reducible rfl
             rotate_left
             · simp only [Act.put, List.setIfInBounds_toArray, List.set_cons_zero, List.set_cons_succ, i64_w, i32_w]; rfl
             refine dr_pure 20 (some 39) HT (v := ?_) (a' := ?_) rfl rfl (by kernel_rfl) (fun _ _ _ h => h) (.inl ⟨by rfl, ?_⟩) ?_ ?_
             rotate_left
             · intro w'; go_simp; with_reducible rfl
             rotate_left
             · simp only [Act.put, List.setIfInBounds_toArray, List.set_cons_zero, List.set_cons_succ, i64_w, i32_w]; rfl
             refine dr_pure 21 (some 40) HT (v := ?_) (a' := ?_) rfl rfl (by kernel_rfl) (fun _ _ _ h => h) (.inl ⟨by rfl, ?_⟩) ?_ ?_
             rotate_left
             · intro w'; go_simp; with_reducible rfl
             rotate_left
             · simp only [Act.put, List.setIfInBounds_toArray, List.set_cons_zero, List.set_cons_succ, i64_w, i32_w]; rfl
             refine dr_take 22 (some 41) HT HH (v := ?_) (a' := ?_) rfl rfl (by kernel_rfl) (fun _ _ _ h => h) (.inl ⟨by rfl, ?_⟩) ?_ ?_
             rotate_left
             · rintro w' ⟨rs', HS'⟩; have F := HS'.boxes; simp only [boxFacts, wrt, clr0, clr1, List.cons_append, List.nil_append, List.append_nil, List.set_cons_zero, List.set_cons_succ, and_true] at F; go_simp; with_reducible rfl
             rotate_left
             · simp only [Act.put, List.setIfInBounds_toArray, List.set_cons_zero, List.set_cons_succ, i64_w, i32_w]; rfl
             refine dr_pure 23 (some 42) HT (v := ?_) (a' := ?_) rfl rfl (by kernel_rfl) (fun _ _ _ h => h) (.inl ⟨by rfl, ?_⟩) ?_ ?_
             rotate_left
             · intro w'; go_simp; with_reducible rfl
             rotate_left
             · simp only [Act.put, List.setIfInBounds_toArray, List.set_cons_zero, List.set_cons_succ, i64_w, i32_w]; rfl
             refine dr_pure 24 (some 43) HT (v := ?_) (a' := ?_) rfl rfl (by kernel_rfl) (fun _ _ _ h => h) (.inl ⟨by rfl, ?_⟩) ?_ ?_
             rotate_left
             · intro w'; go_simp; with_reducible rfl
             rotate_left
             · simp only [Act.put, List.setIfInBounds_toArray, List.set_cons_zero, List.set_cons_succ, i64_w, i32_w]; rfl
             refine dr_pure 25 (some 44) HT (v := ?_) (a' := ?_) rfl rfl (by kernel_rfl) (fun _ _ _ h => h) (.inl ⟨by rfl, ?_⟩) ?_ ?_
             rotate_left
             · intro w'; go_simp; with_reducible rfl
             rotate_left
             · simp only [Act.put, List.setIfInBounds_toArray, List.set_cons_zero, List.set_cons_succ, i64_w, i32_w]; rfl
             refine dr_pure 26 (some 45) HT (v := ?_) (a' := ?_) rfl rfl (by kernel_rfl) (fun _ _ _ h => h) (.inl ⟨by rfl, ?_⟩) ?_ ?_
             rotate_left
             · intro w'; go_simp; with_reducible rfl
             rotate_left
             · simp only [Act.put, List.setIfInBounds_toArray, List.set_cons_zero, List.set_cons_succ, i64_w, i32_w]; rfl
             refine dr_take 27 (some 46) HT HH (v := ?_) (a' := ?_) rfl rfl (by kernel_rfl) (fun _ _ _ h => h) (.inl ⟨by rfl, ?_⟩) ?_ ?_
             rotate_left
             · rintro w' ⟨rs', HS'⟩; have e225003_0 := HS'.keepc e225003_0; have e225003_1 := HS'.keepc e225003_1; have e225003_2 := HS'.keepc e225003_2; have e225003_3 := HS'.keepc e225003_3; have e225003_4 := HS'.keepc e225003_4; have e225003_5 := HS'.keepc e225003_5; have e225003_6 := HS'.keepc e225003_6; go_simp; with_reducible rfl
             rotate_left
             · simp only [Act.put, List.setIfInBounds_toArray, List.set_cons_zero, List.set_cons_succ, i64_w, i32_w]; rfl
             refine dr_pure 28 (some 47) HT (v := ?_) (a' := ?_) rfl rfl (by kernel_rfl) (fun _ _ _ h => h) (.inl ⟨by rfl, ?_⟩) ?_ ?_
             rotate_left
             · intro w'; go_simp; with_reducible rfl
             rotate_left
             · simp only [Act.put, List.setIfInBounds_toArray, List.set_cons_zero, List.set_cons_succ, i64_w, i32_w]; rfl
             refine dr_pure 29 (some 48) HT (v := ?_) (a' := ?_) rfl rfl (by kernel_rfl) (fun _ _ _ h => h) (.inl ⟨by rfl, ?_⟩) ?_ ?_
             rotate_left
             · intro w'; go_simp; with_reducible rfl
             rotate_left
             · simp only [Act.put, List.setIfInBounds_toArray, List.set_cons_zero, List.set_cons_succ, i64_w, i32_w]; rfl
             refine dr_pure 30 (some 49) HT (v := ?_) (a' := ?_) rfl rfl (by kernel_rfl) (fun _ _ _ h => h) (.inl ⟨by rfl, ?_⟩) ?_ ?_
             rotate_left
             · intro w'; go_simp; with_reducible rfl
             rotate_left
             · simp only [Act.put, List.setIfInBounds_toArray, List.set_cons_zero, List.set_cons_succ, i64_w, i32_w]; rfl
             refine done_ (done_of HT.out (by kernel_rfl)) ?_
             by_cases c40 : (rd_T54 a0 x22).f1 < (rd_T54 a0 x23).f1
             · replace H := zpos c40 H
               replace c40 := eq_true c40
               (try simp only [c40, decide_true, decide_false, Bool.not_true, Bool.not_false])
               go_wp2
               go_roundg k21
               case measure => have := HKk21.out; omega
               case rel => exact ⟨_, _, rfl, rfl, H, ⟨by have := HKk21.out; omega⟩, HS.pick [0, 1] (by decide) (by rfl)⟩
             · replace H := zneg c40 H
               replace c40 := eq_false c40
               (try simp only [c40, decide_true, decide_false, Bool.not_true, Bool.not_false])
               go_wp2
               go_roundg k21
               case measure => have := HKk21.out; omega
               case rel => exact ⟨_, _, rfl, rfl, H, ⟨by have := HKk21.out; omega⟩, HS.pick [0, 1] (by decide) (by rfl)⟩
         · replace H := zneg c217001 H
           replace c217001 := eq_false c217001
           refine dr_start [] HS #[false, false, false, false, false, false, false, false, false, false, false, false, false, false, false, false, false, false, false, false, false, false, false, false, false, false, false, false, false, false, false] (by kernel_rfl) rfl rfl spec_DeltaOf.tT6 (fun w41 HT HS HH => ?_)
           (try clear F)
           refine dr_pure 0 (some 19) HT (v := ?_) (a' := ?_) rfl rfl (by kernel_rfl) (fun _ _ _ h => h) (.inl ⟨by rfl, ?_⟩) ?_ ?_
           rotate_left
           · intro w'; go_simp; with_reducible rfl
           rotate_left
           · simp only [Act.put, List.setIfInBounds_toArray, List.set_cons_zero, List.set_cons_succ, i64_w, i32_w]; rfl
           refine dr_take 1 (some 20) HT HH (v := ?_) (a' := ?_) rfl rfl (by kernel_rfl) (fun _ _ _ h => h) (.inl ⟨by rfl, ?_⟩) ?_ ?_
           rotate_left
           · rintro w' ⟨rs', HS'⟩; have F := HS'.boxes; simp only [boxFacts, wrt, clr0, clr1, List.cons_append, List.nil_append, List.append_nil, List.set_cons_zero, List.set_cons_succ, and_true] at F; go_simp; with_reducible rfl
           rotate_left
           · simp only [Act.put, List.setIfInBounds_toArray, List.set_cons_zero, List.set_cons_succ, i64_w, i32_w]; rfl
           refine dr_pure 2 (some 21) HT (v := ?_) (a' := ?_) rfl rfl (by kernel_rfl) (fun _ _ _ h => h) (.inl ⟨by rfl, ?_⟩) ?_ ?_
           rotate_left
           · intro w'; go_simp; with_reducible rfl
           rotate_left
           · simp only [Act.put, List.setIfInBounds_toArray, List.set_cons_zero, List.set_cons_succ, i64_w, i32_w]; rfl
           refine dr_pure 3 (some 22) HT (v := ?_) (a' := ?_) rfl rfl (by kernel_rfl) (fun _ _ _ h => h) (.inl ⟨by rfl, ?_⟩) ?_ ?_
           rotate_left
           · intro w'; go_simp; with_reducible rfl
           rotate_left
           · simp only [Act.put, List.setIfInBounds_toArray, List.set_cons_zero, List.set_cons_succ, i64_w, i32_w]; rfl
           refine dr_pure 4 (some 23) HT (v := ?_) (a' := ?_) rfl rfl (by kernel_rfl) (fun _ _ _ h => h) (.inl ⟨by rfl, ?_⟩) ?_ ?_
           rotate_left
           · intro w'; go_simp; with_reducible rfl
           rotate_left
           · simp only [Act.put, List.setIfInBounds_toArray, List.set_cons_zero, List.set_cons_succ, i64_w, i32_w]; rfl
           refine dr_take 5 (some 24) HT HH (v := ?_) (a' := ?_) rfl rfl (by kernel_rfl) (fun _ _ _ h => h) (.inl ⟨by rfl, ?_⟩) ?_ ?_
           rotate_left
           · rintro w' ⟨rs', HS'⟩; have F := HS'.boxes; simp only [boxFacts, wrt, clr0, clr1, List.cons_append, List.nil_append, List.append_nil, List.set_cons_zero, List.set_cons_succ, and_true] at F; go_simp; with_reducible rfl
           rotate_left
           · simp only [Act.put, List.setIfInBounds_toArray, List.set_cons_zero, List.set_cons_succ, i64_w, i32_w]; rfl
           refine dr_pure 6 (some 25) HT (v := ?_) (a' := ?_) rfl rfl (by kernel_rfl) (fun _ _ _ h => h) (.inl ⟨by rfl, ?_⟩) ?_ ?_
           rotate_left
           · intro w'; go_simp; with_reducible rfl
           rotate_left
           · simp only [Act.put, List.setIfInBounds_toArray, List.set_cons_zero, List.set_cons_succ, i64_w, i32_w]; rfl
           refine dr_take 7 (some 26) HT HH (v := ?_) (a' := ?_) rfl rfl (by kernel_rfl) (fun _ _ _ h => h) (.inl ⟨by rfl, ?_⟩) ?_ ?_
           rotate_left
           · rintro w' ⟨rs', HS'⟩; have F := HS'.boxes; simp only [boxFacts, wrt, clr0, clr1, List.cons_append, List.nil_append, List.append_nil, List.set_cons_zero, List.set_cons_succ, and_true] at F; go_simp; with_reducible rfl
           rotate_left
           · simp only [Act.put, List.setIfInBounds_toArray, List.set_cons_zero, List.set_cons_succ, i64_w, i32_w]; rfl
           refine dr_pure 8 (some 27) HT (v := ?_) (a' := ?_) rfl rfl (by kernel_rfl) (fun _ _ _ h => h) (.inl ⟨by rfl, ?_⟩) ?_ ?_
           rotate_left
           · intro w'; go_simp; with_reducible rfl
           rotate_left
           · simp only [Act.put, List.setIfInBounds_toArray, List.set_cons_zero, List.set_cons_succ, i64_w, i32_w]; rfl
           refine dr_pure 9 (some 28) HT (v := ?_) (a' := ?_) rfl rfl (by kernel_rfl) (fun _ _ _ h => h) (.inl ⟨by rfl, ?_⟩) ?_ ?_
           rotate_left
           · intro w'; go_simp; with_reducible rfl
           rotate_left
           · simp only [Act.put, List.setIfInBounds_toArray, List.set_cons_zero, List.set_cons_succ, i64_w, i32_w]; rfl
           refine dr_pure 10 (some 29) HT (v := ?_) (a' := ?_) rfl rfl (by kernel_rfl) (fun _ _ _ h => h) (.inl ⟨by rfl, ?_⟩) ?_ ?_
           rotate_left
           · intro w'; go_simp; with_reducible rfl
           rotate_left
           · simp only [Act.put, List.setIfInBounds_toArray, List.set_cons_zero, List.set_cons_succ, i64_w, i32_w]; rfl
           refine dr_pure 11 (some 30) HT (v := ?_) (a' := ?_) rfl rfl (by kernel_rfl) (fun _ _ _ h => h) (.inl ⟨by rfl, ?_⟩) ?_ ?_
           rotate_left
           · intro w'; go_simp; with_reducible rfl
           rotate_left
           · simp only [Act.put, List.setIfInBounds_toArray, List.set_cons_zero, List.set_cons_succ, i64_w, i32_w]; rfl
           refine dr_take 12 (some 31) HT HH (v := ?_) (a' := ?_) rfl rfl (by kernel_rfl) (fun _ _ _ h => h) (.inl ⟨by rfl, ?_⟩) ?_ ?_
           rotate_left
           · rintro w' ⟨rs', HS'⟩; have F := HS'.boxes; simp only [boxFacts, wrt, clr0, clr1, List.cons_append, List.nil_append, List.append_nil, List.set_cons_zero, List.set_cons_succ, and_true] at F; go_simp; with_reducible rfl
           rotate_left
           · simp only [Act.put, List.setIfInBounds_toArray, List.set_cons_zero, List.set_cons_succ, i64_w, i32_w]; rfl
           refine dr_pure 13 (some 32) HT (v := ?_) (a' := ?_) rfl rfl (by kernel_rfl) (fun _ _ _ h => h) (.inl ⟨by rfl, ?_⟩) ?_ ?_
           rotate_left
           · intro w'; go_simp; with_reducible rfl
           rotate_left
           · simp only [Act.put, List.setIfInBounds_toArray, List.set_cons_zero, List.set_cons_succ, i64_w, i32_w]; rfl
           refine dr_take 14 (some 33) HT HH (v := ?_) (a' := ?_) rfl rfl (by kernel_rfl) (fun _ _ _ h => h) (.inl ⟨by rfl, ?_⟩) ?_ ?_
           rotate_left
           · rintro w' ⟨rs', HS'⟩; have F := HS'.boxes; simp only [boxFacts, wrt, clr0, clr1, List.cons_append, List.nil_append, List.append_nil, List.set_cons_zero, List.set_cons_succ, and_true] at F; go_simp; with_reducible rfl
           rotate_left
           · simp only [Act.put, List.setIfInBounds_toArray, List.set_cons_zero, List.set_cons_succ, i64_w, i32_w]; rfl
           refine dr_pure 15 (some 34) HT (v := ?_) (a' := ?_) rfl rfl (by kernel_rfl) (fun _ _ _ h => h) (.inl ⟨by rfl, ?_⟩) ?_ ?_
           rotate_left
           · intro w'; go_simp; with_reducible rfl
           rotate_left
           · simp only [Act.put, List.setIfInBounds_toArray, List.set_cons_zero, List.set_cons_succ, i64_w, i32_w]; rfl
           refine dr_pure 16 (some 35) HT (v := ?_) (a' := ?_) rfl rfl (by kernel_rfl) (fun _ _ _ h => h) (.inl ⟨by rfl, ?_⟩) ?_ ?_
           rotate_left
           · intro w'; go_simp; with_reducible rfl
           rotate_left
           · simp only [Act.put, List.setIfInBounds_toArray, List.set_cons_zero, List.set_cons_succ, i64_w, i32_w]; rfl
           refine dr_pure 17 (some 36) HT (v := ?_) (a' := ?_) rfl rfl (by kernel_rfl) (fun _ _ _ h => h) (.inl ⟨by rfl, ?_⟩) ?_ ?_
           rotate_left
           · intro w'; go_simp; with_reducible rfl
           rotate_left
           · simp only [Act.put, List.setIfInBounds_toArray, List.set_cons_zero, List.set_cons_succ, i64_w, i32_w]; rfl
           refine dr_pure 18 (some 37) HT (v := undef) (a' := ?_) rfl rfl (by kernel_rfl) (fun _ _ _ h => h) (.inr ⟨by rfl, rfl⟩) ?_ ?_
           rotate_left
           · simp only [Act.put, List.setIfInBounds_toArray, List.set_cons_zero, List.set_cons_succ, i64_w, i32_w]; rfl
           refine dr_pure 19 (some 38) HT (v := undef) (a' := ?_) rfl rfl (by kernel_rfl) (fun _ _ _ h => h) (.inr ⟨by rfl, rfl⟩) ?_ ?_
           rotate_left
           · simp only [Act.put, List.setIfInBounds_toArray, List.set_cons_zero, List.set_cons_succ, i64_w, i32_w]; rfl
           refine dr_pure 20 (some 39) HT (v := undef) (a' := ?_) rfl rfl (by kernel_rfl) (fun _ _ _ h => h) (.inr ⟨by rfl, rfl⟩) ?_ ?_
           rotate_left
           · simp only [Act.put, List.setIfInBounds_toArray, List.set_cons_zero, List.set_cons_succ, i64_w, i32_w]; rfl
           refine dr_pure 21 (some 40) HT (v := undef) (a' := ?_) rfl rfl (by kernel_rfl) (fun _ _ _ h => h) (.inr ⟨by rfl, rfl⟩) ?_ ?_
           rotate_left
           · simp only [Act.put, List.setIfInBounds_toArray, List.set_cons_zero, List.set_cons_succ, i64_w, i32_w]; rfl
           refine dr_pure 22 (some 41) HT (v := undef) (a' := ?_) rfl rfl (by kernel_rfl) (fun _ _ _ h => h) (.inr ⟨by rfl, rfl⟩) ?_ ?_
           rotate_left
           · simp only [Act.put, List.setIfInBounds_toArray, List.set_cons_zero, List.set_cons_succ, i64_w, i32_w]; rfl
           refine dr_pure 23 (some 42) HT (v := undef) (a' := ?_) rfl rfl (by kernel_rfl) (fun _ _ _ h => h) (.inr ⟨by rfl, rfl⟩) ?_ ?_
           rotate_left
           · simp only [Act.put, List.setIfInBounds_toArray, List.set_cons_zero, List.set_cons_succ, i64_w, i32_w]; rfl
           refine dr_pure 24 (some 43) HT (v := undef) (a' := ?_) rfl rfl (by kernel_rfl) (fun _ _ _ h => h) (.inr ⟨by rfl, rfl⟩) ?_ ?_
           rotate_left
           · simp only [Act.put, List.setIfInBounds_toArray, List.set_cons_zero, List.set_cons_succ, i64_w, i32_w]; rfl
           refine dr_pure 25 (some 44) HT (v := undef) (a' := ?_) rfl rfl (by kernel_rfl) (fun _ _ _ h => h) (.inr ⟨by rfl, rfl⟩) ?_ ?_
           rotate_left
           · simp only [Act.put, List.setIfInBounds_toArray, List.set_cons_zero, List.set_cons_succ, i64_w, i32_w]; rfl
           refine dr_pure 26 (some 45) HT (v := undef) (a' := ?_) rfl rfl (by kernel_rfl) (fun _ _ _ h => h) (.inr ⟨by rfl, rfl⟩) ?_ ?_
           rotate_left
           · simp only [Act.put, List.setIfInBounds_toArray, List.set_cons_zero, List.set_cons_succ, i64_w, i32_w]; rfl
           refine dr_pure 27 (some 46) HT (v := undef) (a' := ?_) rfl rfl (by kernel_rfl) (fun _ _ _ h => h) (.inr ⟨by rfl, rfl⟩) ?_ ?_
           rotate_left
           · simp only [Act.put, List.setIfInBounds_toArray, List.set_cons_zero, List.set_cons_succ, i64_w, i32_w]; rfl
           refine dr_pure 28 (some 47) HT (v := undef) (a' := ?_) rfl rfl (by kernel_rfl) (fun _ _ _ h => h) (.inr ⟨by rfl, rfl⟩) ?_ ?_
           rotate_left
           · simp only [Act.put, List.setIfInBounds_toArray, List.set_cons_zero, List.set_cons_succ, i64_w, i32_w]; rfl
           refine dr_pure 29 (some 48) HT (v := undef) (a' := ?_) rfl rfl (by kernel_rfl) (fun _ _ _ h => h) (.inr ⟨by rfl, rfl⟩) ?_ ?_
           rotate_left
           · simp only [Act.put, List.setIfInBounds_toArray, List.set_cons_zero, List.set_cons_succ, i64_w, i32_w]; rfl
           refine dr_pure 30 (some 49) HT (v := ?_) (a' := ?_) rfl rfl (by kernel_rfl) (fun _ _ _ h => h) (.inl ⟨by rfl, ?_⟩) ?_ ?_
           rotate_left
           · intro w'; go_simp; with_reducible rfl
           rotate_left
           · simp only [Act.put, List.setIfInBounds_toArray, List.set_cons_zero, List.set_cons_succ, i64_w, i32_w]; rfl
           refine done_ (done_of HT.out (by kernel_rfl)) ?_
           go_wp2
           go_roundg k21
           case measure => have := HKk21.out; omega
           case rel => exact ⟨_, _, rfl, rfl, H, ⟨by have := HKk21.out; omega⟩, HS.pick [0, 1] (by decide) (by rfl)⟩
       · replace H := zneg c210001 H
         replace c210001 := eq_false c210001
         refine dr_start [] HS #[false, false, false, false, false, false, false, false, false, false, false, false, false, false, false, false, false, false, false, false, false, false, false, false, false, false, false, false, false, false, false] (by kernel_rfl) rfl rfl spec_DeltaOf.tT6 (fun w43 HT HS HH => ?_)
         (try clear F)
         refine dr_pure 0 (some 19) HT (v := ?_) (a' := ?_) rfl rfl (by kernel_rfl) (fun _ _ _ h => h) (.inl ⟨by rfl, ?_⟩) ?_ ?_
         rotate_left
         · intro w'; go_simp; with_reducible rfl
         rotate_left
         · simp only [Act.put, List.setIfInBounds_toArray, List.set_cons_zero, List.set_cons_succ, i64_w, i32_w]; rfl
         refine dr_take 1 (some 20) HT HH (v := ?_) (a' := ?_) rfl rfl (by kernel_rfl) (fun _ _ _ h => h) (.inl ⟨by rfl, ?_⟩) ?_ ?_
         rotate_left
         · rintro w' ⟨rs', HS'⟩; have F := HS'.boxes; simp only [boxFacts, wrt, clr0, clr1, List.cons_append, List.nil_append, List.append_nil, List.set_cons_zero, List.set_cons_succ, and_true] at F; go_simp; with_reducible rfl
         rotate_left
         · simp only [Act.put, List.setIfInBounds_toArray, List.set_cons_zero, List.set_cons_succ, i64_w, i32_w]; rfl
         refine dr_pure 2 (some 21) HT (v := ?_) (a' := ?_) rfl rfl (by kernel_rfl) (fun _ _ _ h => h) (.inl ⟨by rfl, ?_⟩) ?_ ?_
         rotate_left
         · intro w'; go_simp; with_reducible rfl
         rotate_left
         · simp only [Act.put, List.setIfInBounds_toArray, List.set_cons_zero, List.set_cons_succ, i64_w, i32_w]; rfl
         refine dr_pure 3 (some 22) HT (v := ?_) (a' := ?_) rfl rfl (by kernel_rfl) (fun _ _ _ h => h) (.inl ⟨by rfl, ?_⟩) ?_ ?_
         rotate_left
         · intro w'; go_simp; with_reducible rfl
         rotate_left
         · simp only [Act.put, List.setIfInBounds_toArray, List.set_cons_zero, List.set_cons_succ, i64_w, i32_w]; rfl
         refine dr_pure 4 (some 23) HT (v := ?_) (a' := ?_) rfl rfl (by kernel_rfl) (fun _ _ _ h => h) (.inl ⟨by rfl, ?_⟩) ?_ ?_
         rotate_left
         · intro w'; go_simp; with_reducible rfl
         rotate_left
         · simp only [Act.put, List.setIfInBounds_toArray, List.set_cons_zero, List.set_cons_succ, i64_w, i32_w]; rfl
         refine dr_take 5 (some 24) HT HH (v := ?_) (a' := ?_) rfl rfl (by kernel_rfl) (fun _ _ _ h => h) (.inl ⟨by rfl, ?_⟩) ?_ ?_
         rotate_left
         · rintro w' ⟨rs', HS'⟩; have F := HS'.boxes; simp only [boxFacts, wrt, clr0, clr1, List.cons_append, List.nil_append, List.append_nil, List.set_cons_zero, List.set_cons_succ, and_true] at F; go_simp; with_reducible rfl
         rotate_left
         · simp only [Act.put, List.setIfInBounds_toArray, List.set_cons_zero, List.set_cons_succ, i64_w, i32_w]; rfl
         refine dr_pure 6 (some 25) HT (v := ?_) (a' := ?_) rfl rfl (by kernel_rfl) (fun _ _ _ h => h) (.inl ⟨by rfl, ?_⟩) ?_ ?_
         rotate_left
         · intro w'; go_simp; with_reducible rfl
         rotate_left
         · simp only [Act.put, List.setIfInBounds_toArray, List.set_cons_zero, List.set_cons_succ, i64_w, i32_w]; rfl
         refine dr_take 7 (some 26) HT HH (v := ?_) (a' := ?_) rfl rfl (by kernel_rfl) (fun _ _ _ h => h) (.inl ⟨by rfl, ?_⟩) ?_ ?_
         rotate_left
         · rintro w' ⟨rs', HS'⟩; have F := HS'.boxes; simp only [boxFacts, wrt, clr0, clr1, List.cons_append, List.nil_append, List.append_nil, List.set_cons_zero, List.set_cons_succ, and_true] at F; go_simp; with_reducible rfl
         rotate_left
         · simp only [Act.put, List.setIfInBounds_toArray, List.set_cons_zero, List.set_cons_succ, i64_w, i32_w]; rfl
         refine dr_pure 8 (some 27) HT (v := ?_) (a' := ?_) rfl rfl (by kernel_rfl) (fun _ _ _ h => h) (.inl ⟨by rfl, ?_⟩) ?_ ?_
         rotate_left
         · intro w'; go_simp; with_reducible rfl
         rotate_left
         · simp only [Act.put, List.setIfInBounds_toArray, List.set_cons_zero, List.set_cons_succ, i64_w, i32_w]; rfl
         refine dr_pure 9 (some 28) HT (v := ?_) (a' := ?_) rfl rfl (by kernel_rfl) (fun _ _ _ h => h) (.inl ⟨by rfl, ?_⟩) ?_ ?_
         rotate_left
         · intro w'; go_simp; with_reducible rfl
         rotate_left
         · simp only [Act.put, List.setIfInBounds_toArray, List.set_cons_zero, List.set_cons_succ, i64_w, i32_w]; rfl
         refine dr_pure 10 (some 29) HT (v := ?_) (a' := ?_) rfl rfl (by kernel_rfl) (fun _ _ _ h => h) (.inl ⟨by rfl, ?_⟩) ?_ ?_
         rotate_left
         · intro w'; go_simp; with_reducible rfl
         rotate_left
         · simp only [Act.put, List.setIfInBounds_toArray, List.set_cons_zero, List.set_cons_succ, i64_w, i32_w]; rfl
         refine dr_pure 11 (some 30) HT (v := undef) (a' := ?_) rfl rfl (by kernel_rfl) (fun _ _ _ h => h) (.inr ⟨by rfl, rfl⟩) ?_ ?_
         rotate_left
         · simp only [Act.put, List.setIfInBounds_toArray, List.set_cons_zero, List.set_cons_succ, i64_w, i32_w]; rfl
         refine dr_pure 12 (some 31) HT (v := undef) (a' := ?_) rfl rfl (by kernel_rfl) (fun _ _ _ h => h) (.inr ⟨by rfl, rfl⟩) ?_ ?_
         rotate_left
         · simp only [Act.put, List.setIfInBounds_toArray, List.set_cons_zero, List.set_cons_succ, i64_w, i32_w]; rfl
         refine dr_pure 13 (some 32) HT (v := undef) (a' := ?_) rfl rfl (by kernel_rfl) (fun _ _ _ h => h) (.inr ⟨by rfl, rfl⟩) ?_ ?_
         rotate_left
         · simp only [Act.put, List.setIfInBounds_toArray, List.set_cons_zero, List.set_cons_succ, i64_w, i32_w]; rfl
         refine dr_pure 14 (some 33) HT (v := undef) (a' := ?_) rfl rfl (by kernel_rfl) (fun _ _ _ h => h) (.inr ⟨by rfl, rfl⟩) ?_ ?_
         rotate_left
         · simp only [Act.put, List.setIfInBounds_toArray, List.set_cons_zero, List.set_cons_succ, i64_w, i32_w]; rfl
         refine dr_pure 15 (some 34) HT (v := undef) (a' := ?_) rfl rfl (by kernel_rfl) (fun _ _ _ h => h) (.inr ⟨by rfl, rfl⟩) ?_ ?_
         rotate_left
         · simp only [Act.put, List.setIfInBounds_toArray, List.set_cons_zero, List.set_cons_succ, i64_w, i32_w]; rfl
         refine dr_pure 16 (some 35) HT (v := ?_) (a' := ?_) rfl rfl (by kernel_rfl) (fun _ _ _ h => h) (.inl ⟨by rfl, ?_⟩) ?_ ?_
         rotate_left
         · intro w'; go_simp; with_reducible rfl
         rotate_left
         · simp only [Act.put, List.setIfInBounds_toArray, List.set_cons_zero, List.set_cons_succ, i64_w, i32_w]; rfl
         refine dr_pure 17 (some 36) HT (v := ?_) (a' := ?_) rfl rfl (by kernel_rfl) (fun _ _ _ h => h) (.inl ⟨by rfl, ?_⟩) ?_ ?_
         rotate_left
         · intro w'; go_simp; with_reducible rfl
         rotate_left
         · simp only [Act.put, List.setIfInBounds_toArray, List.set_cons_zero, List.set_cons_succ, i64_w, i32_w]; rfl
         refine dr_pure 18 (some 37) HT (v := undef) (a' := ?_) rfl rfl (by kernel_rfl) (fun _ _ _ h => h) (.inr ⟨by rfl, rfl⟩) ?_ ?_
         rotate_left
         · simp only [Act.put, List.setIfInBounds_toArray, List.set_cons_zero, List.set_cons_succ, i64_w, i32_w]; rfl
         refine dr_pure 19 (some 38) HT (v := undef) (a' := ?_) rfl rfl (by kernel_rfl) (fun _ _ _ h => h) (.inr ⟨by rfl, rfl⟩) ?_ ?_
         rotate_left
         · simp only [Act.put, List.setIfInBounds_toArray, List.set_cons_zero, List.set_cons_succ, i64_w, i32_w]; rfl
         refine dr_pure 20 (some 39) HT (v := undef) (a' := ?_) rfl rfl (by kernel_rfl) (fun _ _ _ h => h) (.inr ⟨by rfl, rfl⟩) ?_ ?_
         rotate_left
         · simp only [Act.put, List.setIfInBounds_toArray, List.set_cons_zero, List.set_cons_succ, i64_w, i32_w]; rfl
         refine dr_pure 21 (some 40) HT (v := undef) (a' := ?_) rfl rfl (by kernel_rfl) (fun _ _ _ h => h) (.inr ⟨by rfl, rfl⟩) ?_ ?_
         rotate_left
         · simp only [Act.put, List.setIfInBounds_toArray, List.set_cons_zero, List.set_cons_succ, i64_w, i32_w]; rfl
         refine dr_pure 22 (some 41) HT (v := undef) (a' := ?_) rfl rfl (by kernel_rfl) (fun _ _ _ h => h) (.inr ⟨by rfl, rfl⟩) ?_ ?_
         rotate_left
         · simp only [Act.put, List.setIfInBounds_toArray, List.set_cons_zero, List.set_cons_succ, i64_w, i32_w]; rfl
         refine dr_pure 23 (some 42) HT (v := undef) (a' := ?_) rfl rfl (by kernel_rfl) (fun _ _ _ h => h) (.inr ⟨by rfl, rfl⟩) ?_ ?_
         rotate_left
         · simp only [Act.put, List.setIfInBounds_toArray, List.set_cons_zero, List.set_cons_succ, i64_w, i32_w]; rfl
         refine dr_pure 24 (some 43) HT (v := undef) (a' := ?_) rfl rfl (by kernel_rfl) (fun _ _ _ h => h) (.inr ⟨by rfl, rfl⟩) ?_ ?_
         rotate_left
         · simp only [Act.put, List.setIfInBounds_toArray, List.set_cons_zero, List.set_cons_succ, i64_w, i32_w]; rfl
         refine dr_pure 25 (some 44) HT (v := undef) (a' := ?_) rfl rfl (by kernel_rfl) (fun _ _ _ h => h) (.inr ⟨by rfl, rfl⟩) ?_ ?_
         rotate_left
         · simp only [Act.put, List.setIfInBounds_toArray, List.set_cons_zero, List.set_cons_succ, i64_w, i32_w]; rfl
         refine dr_pure 26 (some 45) HT (v := undef) (a' := ?_) rfl rfl (by kernel_rfl) (fun _ _ _ h => h) (.inr ⟨by rfl, rfl⟩) ?_ ?_
         rotate_left
         · simp only [Act.put, List.setIfInBounds_toArray, List.set_cons_zero, List.set_cons_succ, i64_w, i32_w]; rfl
         refine dr_pure 27 (some 46) HT (v := undef) (a' := ?_) rfl rfl (by kernel_rfl) (fun _ _ _ h => h) (.inr ⟨by rfl, rfl⟩) ?_ ?_
         rotate_left
         · simp only [Act.put, List.setIfInBounds_toArray, List.set_cons_zero, List.set_cons_succ, i64_w, i32_w]; rfl
         refine dr_pure 28 (some 47) HT (v := undef) (a' := ?_) rfl rfl (by kernel_rfl) (fun _ _ _ h => h) (.inr ⟨by rfl, rfl⟩) ?_ ?_
         rotate_left
         · simp only [Act.put, List.setIfInBounds_toArray, List.set_cons_zero, List.set_cons_succ, i64_w, i32_w]; rfl
         refine dr_pure 29 (some 48) HT (v := undef) (a' := ?_) rfl rfl (by kernel_rfl) (fun _ _ _ h => h) (.inr ⟨by rfl, rfl⟩) ?_ ?_
         rotate_left
         · simp only [Act.put, List.setIfInBounds_toArray, List.set_cons_zero, List.set_cons_succ, i64_w, i32_w]; rfl
         refine dr_pure 30 (some 49) HT (v := ?_) (a' := ?_) rfl rfl (by kernel_rfl) (fun _ _ _ h => h) (.inl ⟨by rfl, ?_⟩) ?_ ?_
         rotate_left
         · intro w'; go_simp; with_reducible rfl
         rotate_left
         · simp only [Act.put, List.setIfInBounds_toArray, List.set_cons_zero, List.set_cons_succ, i64_w, i32_w]; rfl
         refine done_ (done_of HT.out (by kernel_rfl)) ?_
         go_wp2
         go_roundg k21
         case measure => have := HKk21.out; omega
         case rel => exact ⟨_, _, rfl, rfl, H, ⟨by have := HKk21.out; omega⟩, HS.pick [0, 1] (by decide) (by rfl)⟩
   · replace H := zneg c25 H
     replace c25 := eq_false c25
     by_cases c45 : x22 < 0
     · replace H := zpos c45 H
       replace c45 := eq_true c45
       obtain ⟨rfl, rfl⟩ := zsome2 H
       go_wp2_with (first | ((with_reducible refine gate_store (p := 4) rfl ?_); refine ev_store rfl 1 0 HS (seg := [.string (⟨#[]⟩ : ByteArray), .int .i64 0, .int .i64 0, .int .i64 0, .int .i64 0, .slice none 0 0, .string (⟨#[]⟩ : ByteArray)]) rfl rfl rfl rfl rfl rfl (by kernel_rfl) (by simp [wrt]) (by simp [Value.oneCell']) ?_; clear HS; (try clear F); intro w46 HS; have F := HS.boxes; simp only [boxFacts, wrt, clr0, clr1, List.cons_append, List.nil_append, List.append_nil, List.set_cons_zero, List.set_cons_succ, and_true] at F))
       replace HS := HS.nil 119 q119
       exact bodyPost_ret (results_list (rs := [.cell 4 54, .tmp 5]) rfl (by simp) (.cell _ _ _ _ _ rfl (HS.boxAt (i := 1) rfl) Try.underlying54 rfl (by kernel_rfl) (.tmp .nil))) rfl ⟨_, rfl, HS.pick [2] (by decide) (by rfl)⟩
     · replace H := zneg c45 H
       replace c45 := eq_false c45
       by_cases c48 : 0 ≤ x22
       case neg => exact zno c48 H
       replace H := zpos c48 H
       replace c48 := eq_true c48
       by_cases c49 : x22 < (a0.length : Int)
       case neg => exact zno c49 H
       replace H := zpos c49 H
       replace c49 := eq_true c49
       obtain ⟨ad50, B50_5, d50_5, rfl, e50_0, e50_1, e50_2, e50_3, e50_4, e50_5, e50_6, m50_5, y50_5⟩ := at_T54 gp0 x22 (of_eq_true c48) (of_eq_true c49)
       replace e50_0 := HS.keepc e50_0
       replace e50_1 := HS.keepc e50_1
       replace e50_2 := HS.keepc e50_2
       replace e50_3 := HS.keepc e50_3
       replace e50_4 := HS.keepc e50_4
       replace e50_5 := HS.keepc e50_5
       replace e50_6 := HS.keepc e50_6
       obtain ⟨t51, ht51, H⟩ := zbind H
       obtain ⟨rfl, rfl⟩ := zsome2 H
       go_wp2_with (first | ((with_reducible refine gate_dst (N := 58) rfl ?_); refine ev_call rfl Try.func100 (by kernel_rfl) rfl #[.agg #[.string ((rd_T54 a0 x22).f0), .int .i64 ((rd_T54 a0 x22).f1), .int .i64 ((rd_T54 a0 x22).f2), .int .i64 ((rd_T54 a0 x22).f3), .int .i64 ((rd_T54 a0 x22).f4), .slice B50_5 (rd_T54 a0 x22).f5.length d50_5, .string ((rd_T54 a0 x22).f6)]] rfl (by simp only [List.map_toArray, List.map_cons, List.map_nil]; rfl) ?_; refine (spec_l10Copy.calls ht51.out (HS.ro y50_5) m50_5).mono ?_; rintro _ wt51 ⟨v52, rfl, HQ⟩; refine ⟨_, rfl, ?_⟩; replace HS := HS.call HQ; clear HQ; (try clear F); obtain ⟨B52, d52, rfl, m52⟩ := HS.form 2 rfl; have F := HS.boxes; simp only [boxFacts, wrt, clr0, clr1, List.cons_append, List.nil_append, List.append_nil, List.set_cons_zero, List.set_cons_succ, and_true] at F) | ((with_reducible refine gate_store (p := 4) rfl ?_); refine ev_store rfl 1 0 HS (seg := [.string t51.f0, .int .i64 t51.f1, .int .i64 t51.f2, .int .i64 t51.f3, .int .i64 t51.f4, .slice B52 t51.f5.length d52, .string t51.f6]) rfl rfl rfl rfl rfl rfl (by kernel_rfl) (by simp [wrt]) (by simp [Value.oneCell']) ?_; clear HS; (try clear F); intro w54 HS; have F := HS.boxes; simp only [boxFacts, wrt, clr0, clr1, List.cons_append, List.nil_append, List.append_nil, List.set_cons_zero, List.set_cons_succ, and_true] at F))
       exact bodyPost_ret (results_list (rs := [.cell 4 54, .tmp 5]) rfl (by simp) (.cell _ _ _ _ _ rfl (HS.boxAt (i := 1) rfl) Try.underlying54 rfl (by kernel_rfl) (.tmp .nil))) rfl ⟨_, rfl, HS.pick [2] (by decide) (by rfl)⟩
end Go.Proofs.Ytfeebnbookfpmaa.F

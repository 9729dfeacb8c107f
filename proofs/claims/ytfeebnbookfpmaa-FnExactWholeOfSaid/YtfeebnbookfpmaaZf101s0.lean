import Derived.Test.YtfeebnbookfpmaaZT
import Derived.Test.YtfeebnbookfpmaaZf102
import Derived.Test.YtfeebnbookfpmaaZf128
namespace Go.Proofs.Ytfeebnbookfpmaa.F
open Go.RowKit Go.Proofs.YtfeebnbookfpmaaW.PrintWords Go.Proofs.YtfeebnbookfpmaaW.PrintLast Go.Proofs.YtfeebnbookfpmaaW.PrintMore Go.Proofs.Ytfeebnbookfpmaa.Z
attribute [local go_sem] max2_int min2_int max_two min_two max_three min_three max_four min_four
set_option linter.unusedVariables false
set_option linter.unusedSimpArgs false
set_option maxRecDepth 100000
/-! ### impl_greatest_0: function 101 -/
def impl_greatest_0.l0 : Nat → Int → Int → (List S54) → Option (S54 × Bool)
  | 0, _, _, _ => none
  | k + 1, x18, x19, a0 => (if x19 < (a0.length : Int) then (if 0 ≤ x19 then (if x19 < (a0.length : Int) then ((impl_WholeOf_1.f (rd_T54 a0 x19)).bind fun t202001 => (if t202001 = true then (if x18 < 0 then (impl_greatest_0.l0 k x19 (wrap64 (x19 + 1)) a0) else (if 0 ≤ x18 then (if x18 < (a0.length : Int) then (if (rd_T54 a0 x18).f1 < (rd_T54 a0 x19).f1 then (impl_greatest_0.l0 k x19 (wrap64 (x19 + 1)) a0) else (impl_greatest_0.l0 k x18 (wrap64 (x19 + 1)) a0)) else none) else none)) else (impl_greatest_0.l0 k x18 (wrap64 (x19 + 1)) a0))) else none) else none) else (if x18 < 0 then (some ((⟨(⟨#[]⟩ : ByteArray), 0, 0, 0, 0, ([] : List S119), (⟨#[]⟩ : ByteArray)⟩ : S54), false)) else (if 0 ≤ x18 then (if x18 < (a0.length : Int) then ((impl_copyCrl.f (rd_T54 a0 x18)).bind fun t43 => (some ((⟨t43.f0, t43.f1, t43.f2, t43.f3, t43.f4, t43.f5, t43.f6⟩ : S54), true))) else none) else none)))
def impl_greatest_0.f (k : Nat) (a0 : (List S54)) : Option (S54 × Bool) := (impl_greatest_0.l0 k (-1) 0 a0)
def impl_greatest_0.T5 : Bool × List (List Nat × List Nat) := (true, [([], []), ([], []), ([0, 1], [0, 1]), ([2, 2], [2]), ([3], [3]), ([4, 3], [3, 4]), ([5, 3, 3], [3, 5]), ([6], [6]), ([7, 6], [6, 7]), ([6], [6]), ([6], [6]), ([9, 10, 6], [6, 9, 10]), ([11, 6], [6, 11]), ([12, 6], [6, 12]), ([8, 13, 6], [6, 8, 13]), ([6, 14, 3], [3, 6, 14]), ([3, 15], [3, 15])])
theorem impl_greatest_0.tT5 : rtab .any (opsOf Try.f101 5) = impl_greatest_0.T5 := by kernel_rfl
set_option maxHeartbeats 16000000 in
theorem impl_greatest_0.calls {k : Nat} {a0 : (List S54)} {Ap0 : Option Addr} {np0 cp0 : Nat} {r1 : S54} {r2 : Bool} {w : World} (h : impl_greatest_0.f k a0 = some (r1, r2)) (gp0 : k54.C w Ap0 np0 a0) (lp0 : np0 ≤ cp0) :
    Calls Try.prog 101 #[.slice Ap0 np0 cp0, .func (.func 102) #[] #[]] w (fun e w' => ∃ v0_ : Value, e = .returned (.tuple #[.agg #[.string r1.f0, .int .i64 r1.f1, .int .i64 r1.f2, .int .i64 r1.f3, .int .i64 r1.f4, v0_, .string r1.f6], .bool r2]) ∧ Hp noFP w w' [.own (Zd.slice 119 q119) r1.f5 [v0_]]) := by
 obtain rfl := C_len gp0
 have HS := Hp.start w
 have H := Aside0.mk h
 clear h
 unfold impl_greatest_0.f at H
 go_enter Try.func101, Try.ntmps101
 go_wp2_with (first | ((with_reducible refine gate_dst (N := 4) rfl ?_); refine ev_box rfl HS (by first | (go_simp; done) | (go_simp; rfl)) rfl ?_; clear HS; (try clear F); intro g4 w4 HS; have F := HS.boxes; simp only [boxFacts, wrt, clr0, clr1, List.cons_append, List.nil_append, List.append_nil, List.set_cons_zero, List.set_cons_succ, and_true] at F))
 go_loopg [6, 11] k (fun kq v_6 v_11 w' => ∃ (x18 : Int) (x19 : Int), v_6 = .int .i64 x18 ∧ v_11 = .int .i64 x19 ∧ Aside0 (impl_greatest_0.l0 kq x18 x19 a0 = some (r1, r2)) ∧ Aside0 (kq ≤ k) ∧ Hp noFP w w' [.box g4 [.string (⟨#[]⟩ : ByteArray), .int .i64 0, .int .i64 0, .int .i64 0, .int .i64 0, .slice none 0 0, .string (⟨#[]⟩ : ByteArray)] 54])
 case atStart => exact ⟨_, _, rfl, rfl, H, ⟨Nat.le_refl _⟩, HS⟩
 case round =>
  clear HS H; (try clear F)
  obtain ⟨x18, x19, rfl, rfl, H, HKk17, HS⟩ := hrel
  have F := HS.boxes; simp only [boxFacts, wrt, clr0, clr1, List.cons_append, List.nil_append, List.append_nil, List.set_cons_zero, List.set_cons_succ, and_true] at F
  cases gk with
  | zero => exact absurd H.out (by simp [impl_greatest_0.l0])
  | succ k17 =>
   simp only [impl_greatest_0.l0] at H
   by_cases c21 : x19 < (a0.length : Int)
   · replace H := zpos c21 H
     replace c21 := eq_true c21
     by_cases c22 : 0 ≤ x19
     case neg => exact zno c22 H
     replace H := zpos c22 H
     replace c22 := eq_true c22
     by_cases c23 : x19 < (a0.length : Int)
     case neg => exact zno c23 H
     replace H := zpos c23 H
     replace c23 := eq_true c23
     obtain ⟨ad24, B24_5, d24_5, rfl, e24_0, e24_1, e24_2, e24_3, e24_4, e24_5, e24_6, m24_5, y24_5⟩ := at_T54 gp0 x19 (of_eq_true c22) (of_eq_true c23)
     replace e24_0 := HS.keepc e24_0
     replace e24_1 := HS.keepc e24_1
     replace e24_2 := HS.keepc e24_2
     replace e24_3 := HS.keepc e24_3
     replace e24_4 := HS.keepc e24_4
     replace e24_5 := HS.keepc e24_5
     replace e24_6 := HS.keepc e24_6
     go_wp2_with (first | ((with_reducible refine gate_dst (N := 8) rfl ?_); refine ev_box rfl HS (by first | (go_simp; done) | (go_simp; rfl)) rfl ?_; clear HS; (try clear F); intro g8 w8 HS; have F := HS.boxes; simp only [boxFacts, wrt, clr0, clr1, List.cons_append, List.nil_append, List.append_nil, List.set_cons_zero, List.set_cons_succ, and_true] at F) | ((with_reducible refine gate_store (p := 8) rfl ?_); refine ev_store rfl 1 0 HS (seg := [.string ((rd_T54 a0 x19).f0), .int .i64 ((rd_T54 a0 x19).f1), .int .i64 ((rd_T54 a0 x19).f2), .int .i64 ((rd_T54 a0 x19).f3), .int .i64 ((rd_T54 a0 x19).f4), .slice B24_5 (rd_T54 a0 x19).f5.length d24_5, .string ((rd_T54 a0 x19).f6)]) rfl rfl rfl rfl rfl rfl (by kernel_rfl) (by simp [wrt]) (by simp [Value.oneCell']) ?_; clear HS; (try clear F); intro w27 HS; have F := HS.boxes; simp only [boxFacts, wrt, clr0, clr1, List.cons_append, List.nil_append, List.append_nil, List.set_cons_zero, List.set_cons_succ, and_true] at F))
     obtain ⟨t202001, ht202001, H⟩ := zbind H
     by_cases c203001 : t202001 = true
     · replace H := zpos c203001 H
       by_cases c206001 : x18 < 0
       · replace H := zpos c206001 H
         replace c206001 := eq_true c206001
         refine dr_start [] HS #[false, false, false, false, false, false, false, false, false, false, false, false, false, false, false, false, false] (by kernel_rfl) rfl rfl impl_greatest_0.tT5 (fun w30 HT HS HH => ?_)
         (try clear F)
         refine dr_pure 0 (some 16) HT (v := ?_) (a' := ?_) rfl rfl (by kernel_rfl) (fun _ _ _ h => h) (.inl ⟨by rfl, ?_⟩) ?_ ?_
         rotate_left
         · intro w'; go_simp; with_reducible rfl
         rotate_left
         · simp only [Act.put, List.setIfInBounds_toArray, List.set_cons_zero, List.set_cons_succ, i64_w, i32_w]; rfl
         refine dr_take 1 (some 17) HT HH (v := ?_) (a' := ?_) rfl rfl (by kernel_rfl) (fun _ _ _ h => h) (.inl ⟨by rfl, ?_⟩) ?_ ?_
         rotate_left
         · rintro w' ⟨rs', HS'⟩; have F := HS'.boxes; simp only [boxFacts, wrt, clr0, clr1, List.cons_append, List.nil_append, List.append_nil, List.set_cons_zero, List.set_cons_succ, and_true] at F; go_simp; with_reducible rfl
         rotate_left
         · simp only [Act.put, List.setIfInBounds_toArray, List.set_cons_zero, List.set_cons_succ, i64_w, i32_w]; rfl
         refine dr_one 2 HT rfl (by kernel_rfl) (by decide) (fun K hK => ?_)
         refine if_wp (by rfl) ?_; refine wp_callv Try.func102 (by kernel_rfl) rfl #[.agg #[.string ((rd_T54 a0 x19).f0), .int .i64 ((rd_T54 a0 x19).f1), .int .i64 ((rd_T54 a0 x19).f2), .int .i64 ((rd_T54 a0 x19).f3), .int .i64 ((rd_T54 a0 x19).f4), .slice B24_5 (rd_T54 a0 x19).f5.length d24_5, .string ((rd_T54 a0 x19).f6)]] #[.agg #[.string ((rd_T54 a0 x19).f0), .int .i64 ((rd_T54 a0 x19).f1), .int .i64 ((rd_T54 a0 x19).f2), .int .i64 ((rd_T54 a0 x19).f3), .int .i64 ((rd_T54 a0 x19).f4), .slice B24_5 (rd_T54 a0 x19).f5.length d24_5, .string ((rd_T54 a0 x19).f6)]] rfl rfl (by simp only [List.map_toArray, List.map_cons, List.map_nil]; rfl) (by first | rfl | simp) ?_; refine (impl_WholeOf_1.calls ht202001.out (HS.ro y24_5) m24_5).mono ?_; rintro _ wt202001 ⟨rfl, HQ⟩; refine ⟨_, rfl, ?_⟩; replace HS := HS.call HQ; clear HQ; (try clear F); have F := HS.boxes; simp only [boxFacts, wrt, clr0, clr1, List.cons_append, List.nil_append, List.append_nil, List.set_cons_zero, List.set_cons_succ, and_true] at F
         refine hK.out _ _ ⟨_, HS⟩ (fun HH => ?_)
         clear hK K
         refine norm_ (a' := ?_) ?_ ?_
         rotate_left
         · show Act.put _ (some 18) _ = _; simp only [Act.put, List.setIfInBounds_toArray, List.set_cons_zero, List.set_cons_succ, i64_w, i32_w, c203001]; rfl
         refine dr_pure 3 (some 19) HT (v := ?_) (a' := ?_) rfl rfl (by kernel_rfl) (fun _ _ _ h => h) (.inl ⟨by rfl, ?_⟩) ?_ ?_
         rotate_left
         · intro w'; go_simp; with_reducible rfl
         rotate_left
         · simp only [Act.put, List.setIfInBounds_toArray, List.set_cons_zero, List.set_cons_succ, i64_w, i32_w]; rfl
         refine dr_pure 4 (some 20) HT (v := ?_) (a' := ?_) rfl rfl (by kernel_rfl) (fun _ _ _ h => h) (.inl ⟨by rfl, ?_⟩) ?_ ?_
         rotate_left
         · intro w'; go_simp; with_reducible rfl
         rotate_left
         · simp only [Act.put, List.setIfInBounds_toArray, List.set_cons_zero, List.set_cons_succ, i64_w, i32_w]; rfl
         refine dr_pure 5 (some 21) HT (v := ?_) (a' := ?_) rfl rfl (by kernel_rfl) (fun _ _ _ h => h) (.inl ⟨by rfl, ?_⟩) ?_ ?_
         rotate_left
         · intro w'; go_simp; with_reducible rfl
         rotate_left
         · simp only [Act.put, List.setIfInBounds_toArray, List.set_cons_zero, List.set_cons_succ, i64_w, i32_w]; rfl
         refine dr_pure 6 (some 22) HT (v := ?_) (a' := ?_) rfl rfl (by kernel_rfl) (fun _ _ _ h => h) (.inl ⟨by rfl, ?_⟩) ?_ ?_
         rotate_left
         · intro w'; go_simp; with_reducible rfl
         rotate_left
         · simp only [Act.put, List.setIfInBounds_toArray, List.set_cons_zero, List.set_cons_succ, i64_w, i32_w]; rfl
         refine dr_pure 7 (some 23) HT (v := undef) (a' := ?_) rfl rfl (by kernel_rfl) (fun _ _ _ h => h) (.inr ⟨by rfl, rfl⟩) ?_ ?_
         rotate_left
         · simp only [Act.put, List.setIfInBounds_toArray, List.set_cons_zero, List.set_cons_succ, i64_w, i32_w]; rfl
         refine dr_pure 8 (some 24) HT (v := undef) (a' := ?_) rfl rfl (by kernel_rfl) (fun _ _ _ h => h) (.inr ⟨by rfl, rfl⟩) ?_ ?_
         rotate_left
         · simp only [Act.put, List.setIfInBounds_toArray, List.set_cons_zero, List.set_cons_succ, i64_w, i32_w]; rfl
         refine dr_pure 9 (some 25) HT (v := undef) (a' := ?_) rfl rfl (by kernel_rfl) (fun _ _ _ h => h) (.inr ⟨by rfl, rfl⟩) ?_ ?_
         rotate_left
         · simp only [Act.put, List.setIfInBounds_toArray, List.set_cons_zero, List.set_cons_succ, i64_w, i32_w]; rfl
         refine dr_pure 10 (some 26) HT (v := undef) (a' := ?_) rfl rfl (by kernel_rfl) (fun _ _ _ h => h) (.inr ⟨by rfl, rfl⟩) ?_ ?_
         rotate_left
         · simp only [Act.put, List.setIfInBounds_toArray, List.set_cons_zero, List.set_cons_succ, i64_w, i32_w]; rfl
         refine dr_pure 11 (some 27) HT (v := undef) (a' := ?_) rfl rfl (by kernel_rfl) (fun _ _ _ h => h) (.inr ⟨by rfl, rfl⟩) ?_ ?_
         rotate_left
         · simp only [Act.put, List.setIfInBounds_toArray, List.set_cons_zero, List.set_cons_succ, i64_w, i32_w]; rfl
         refine dr_pure 12 (some 28) HT (v := undef) (a' := ?_) rfl rfl (by kernel_rfl) (fun _ _ _ h => h) (.inr ⟨by rfl, rfl⟩) ?_ ?_
         rotate_left
         · simp only [Act.put, List.setIfInBounds_toArray, List.set_cons_zero, List.set_cons_succ, i64_w, i32_w]; rfl
         refine dr_pure 13 (some 29) HT (v := undef) (a' := ?_) rfl rfl (by kernel_rfl) (fun _ _ _ h => h) (.inr ⟨by rfl, rfl⟩) ?_ ?_
         rotate_left
         · simp only [Act.put, List.setIfInBounds_toArray, List.set_cons_zero, List.set_cons_succ, i64_w, i32_w]; rfl
         refine dr_pure 14 (some 30) HT (v := undef) (a' := ?_) rfl rfl (by kernel_rfl) (fun _ _ _ h => h) (.inr ⟨by rfl, rfl⟩) ?_ ?_
         rotate_left
         · simp only [Act.put, List.setIfInBounds_toArray, List.set_cons_zero, List.set_cons_succ, i64_w, i32_w]; rfl
         refine dr_pure 15 (some 31) HT (v := ?_) (a' := ?_) rfl rfl (by kernel_rfl) (fun _ _ _ h => h) (.inl ⟨by rfl, ?_⟩) ?_ ?_
         rotate_left
         · intro w'; go_simp; with_reducible rfl
         rotate_left
         · simp only [Act.put, List.setIfInBounds_toArray, List.set_cons_zero, List.set_cons_succ, i64_w, i32_w]; rfl
         refine dr_pure 16 (some 32) HT (v := ?_) (a' := ?_) rfl rfl (by kernel_rfl) (fun _ _ _ h => h) (.inl ⟨by rfl, ?_⟩) ?_ ?_
         rotate_left
         · intro w'; go_simp; with_reducible rfl
         rotate_left
         · simp only [Act.put, List.setIfInBounds_toArray, List.set_cons_zero, List.set_cons_succ, i64_w, i32_w]; rfl
         refine done_ (done_of HT.out (by kernel_rfl)) ?_
         go_wp2
         go_roundg k17
         case measure => have := HKk17.out; omega
         case rel => exact ⟨_, _, rfl, rfl, H, ⟨by have := HKk17.out; omega⟩, HS.pick [0] (by decide) (by rfl)⟩
       · replace H := zneg c206001 H
         replace c206001 := eq_false c206001
         by_cases c211001 : 0 ≤ x18
         case neg => exact zno c211001 H
         replace H := zpos c211001 H
         replace c211001 := eq_true c211001
         by_cases c211002 : x18 < (a0.length : Int)
         case neg => exact zno c211002 H
         replace H := zpos c211002 H
         replace c211002 := eq_true c211002
         obtain ⟨ad211003, B211003_5, d211003_5, hq211003, e211003_0, e211003_1, e211003_2, e211003_3, e211003_4, e211003_5, e211003_6, m211003_5, y211003_5⟩ := at_T54 gp0 x18 (of_eq_true c211001) (of_eq_true c211002)
         obtain rfl := Option.some.inj hq211003
         refine dr_start [] HS #[false, false, false, false, false, false, false, false, false, false, false, false, false, false, false, false, false] (by kernel_rfl) rfl rfl impl_greatest_0.tT5 (fun w32 HT HS HH => ?_)
         (try clear F)
         refine dr_pure 0 (some 16) HT (v := ?_) (a' := ?_) rfl rfl (by kernel_rfl) (fun _ _ _ h => h) (.inl ⟨by rfl, ?_⟩) ?_ ?_
         rotate_left
         · intro w'; go_simp; with_reducible rfl
         rotate_left
         · simp only [Act.put, List.setIfInBounds_toArray, List.set_cons_zero, List.set_cons_succ, i64_w, i32_w]; rfl
         refine dr_take 1 (some 17) HT HH (v := ?_) (a' := ?_) rfl rfl (by kernel_rfl) (fun _ _ _ h => h) (.inl ⟨by rfl, ?_⟩) ?_ ?_
         rotate_left
         · rintro w' ⟨rs', HS'⟩; have F := HS'.boxes; simp only [boxFacts, wrt, clr0, clr1, List.cons_append, List.nil_append, List.append_nil, List.set_cons_zero, List.set_cons_succ, and_true] at F; go_simp; with_reducible rfl
         rotate_left
         · simp only [Act.put, List.setIfInBounds_toArray, List.set_cons_zero, List.set_cons_succ, i64_w, i32_w]; rfl
         refine dr_one 2 HT rfl (by kernel_rfl) (by decide) (fun K hK => ?_)
         refine if_wp (by rfl) ?_; refine wp_callv Try.func102 (by kernel_rfl) rfl #[.agg #[.string ((rd_T54 a0 x19).f0), .int .i64 ((rd_T54 a0 x19).f1), .int .i64 ((rd_T54 a0 x19).f2), .int .i64 ((rd_T54 a0 x19).f3), .int .i64 ((rd_T54 a0 x19).f4), .slice B24_5 (rd_T54 a0 x19).f5.length d24_5, .string ((rd_T54 a0 x19).f6)]] #[.agg #[.string ((rd_T54 a0 x19).f0), .int .i64 ((rd_T54 a0 x19).f1), .int .i64 ((rd_T54 a0 x19).f2), .int .i64 ((rd_T54 a0 x19).f3), .int .i64 ((rd_T54 a0 x19).f4), .slice B24_5 (rd_T54 a0 x19).f5.length d24_5, .string ((rd_T54 a0 x19).f6)]] rfl rfl (by simp only [List.map_toArray, List.map_cons, List.map_nil]; rfl) (by first | rfl | simp) ?_; refine (impl_WholeOf_1.calls ht202001.out (HS.ro y24_5) m24_5).mono ?_; rintro _ wt202001 ⟨rfl, HQ⟩; refine ⟨_, rfl, ?_⟩; replace HS := HS.call HQ; clear HQ; (try clear F); have F := HS.boxes; simp only [boxFacts, wrt, clr0, clr1, List.cons_append, List.nil_append, List.append_nil, List.set_cons_zero, List.set_cons_succ, and_true] at F
         refine hK.out _ _ ⟨_, HS⟩ (fun HH => ?_)
         clear hK K
         refine norm_ (a' := ?_) ?_ ?_
         rotate_left
         · show Act.put _ (some 18) _ = _; simp only [Act.put, List.setIfInBounds_toArray, List.set_cons_zero, List.set_cons_succ, i64_w, i32_w, c203001]; rfl
         refine dr_pure 3 (some 19) HT (v := ?_) (a' := ?_) rfl rfl (by kernel_rfl) (fun _ _ _ h => h) (.inl ⟨by rfl, ?_⟩) ?_ ?_
         rotate_left
         · intro w'; go_simp; with_reducible rfl
         rotate_left
         · simp only [Act.put, List.setIfInBounds_toArray, List.set_cons_zero, List.set_cons_succ, i64_w, i32_w]; rfl
         refine dr_pure 4 (some 20) HT (v := ?_) (a' := ?_) rfl rfl (by kernel_rfl) (fun _ _ _ h => h) (.inl ⟨by rfl, ?_⟩) ?_ ?_
         rotate_left
         · intro w'; go_simp; with_reducible rfl
         rotate_left
         · simp only [Act.put, List.setIfInBounds_toArray, List.set_cons_zero, List.set_cons_succ, i64_w, i32_w]; rfl
         refine dr_pure 5 (some 21) HT (v := ?_) (a' := ?_) rfl rfl (by kernel_rfl) (fun _ _ _ h => h) (.inl ⟨by rfl, ?_⟩) ?_ ?_
         rotate_left
         · intro w'; go_simp; with_reducible rfl
         rotate_left
         · simp only [Act.put, List.setIfInBounds_toArray, List.set_cons_zero, List.set_cons_succ, i64_w, i32_w]; rfl
         refine dr_pure 6 (some 22) HT (v := ?_) (a' := ?_) rfl rfl (by kernel_rfl) (fun _ _ _ h => h) (.inl ⟨by rfl, ?_⟩) ?_ ?_
         rotate_left
         · intro w'; go_simp; with_reducible rfl
         rotate_left
         · simp only [Act.put, List.setIfInBounds_toArray, List.set_cons_zero, List.set_cons_succ, i64_w, i32_w]; rfl
         refine dr_pure 7 (some 23) HT (v := ?_) (a' := ?_) rfl rfl (by kernel_rfl) (fun _ _ _ h => h) (.inl ⟨by rfl, ?_⟩) ?_ ?_
         rotate_left
         · intro w'; go_simp; with_reducible rfl
         rotate_left
         · simp only [Act.put, List.setIfInBounds_toArray, List.set_cons_zero, List.set_cons_succ, i64_w, i32_w]; rfl
         refine dr_take 8 (some 24) HT HH (v := ?_) (a' := ?_) rfl rfl (by kernel_rfl) (fun _ _ _ h => h) (.inl ⟨by rfl, ?_⟩) ?_ ?_
         rotate_left
         · rintro w' ⟨rs', HS'⟩; have F := HS'.boxes; simp only [boxFacts, wrt, clr0, clr1, List.cons_append, List.nil_append, List.append_nil, List.set_cons_zero, List.set_cons_succ, and_true] at F; go_simp; with_reducible rfl
         rotate_left
         · simp only [Act.put, List.setIfInBounds_toArray, List.set_cons_zero, List.set_cons_succ, i64_w, i32_w]; rfl
         refine dr_pure 9 (some 25) HT (v := ?_) (a' := ?_) rfl rfl (by kernel_rfl) (fun _ _ _ h => h) (.inl ⟨by rfl, ?_⟩) ?_ ?_
         rotate_left
         · intro w'; go_simp; with_reducible rfl
         rotate_left
         · simp only [Act.put, List.setIfInBounds_toArray, List.set_cons_zero, List.set_cons_succ, i64_w, i32_w]; rfl
         refine dr_pure 10 (some 26) HT (v := ?_) (a' := ?_) rfl rfl (by kernel_rfl) (fun _ _ _ h => h) (.inl ⟨by rfl, ?_⟩) ?_ ?_
         rotate_left
         · intro w'; go_simp; with_reducible rfl
         rotate_left
         · simp only [Act.put, List.setIfInBounds_toArray, List.set_cons_zero, List.set_cons_succ, i64_w, i32_w]; rfl
         refine dr_pure 11 (some 27) HT (v := ?_) (a' := ?_) rfl rfl (by kernel_rfl) (fun _ _ _ h => h) (.inl ⟨by rfl, ?_⟩) ?_ ?_
         rotate_left
         · intro w'; go_simp; with_reducible rfl
         rotate_left
         · simp only [Act.put, List.setIfInBounds_toArray, List.set_cons_zero, List.set_cons_succ, i64_w, i32_w]; rfl
         refine dr_pure 12 (some 28) HT (v := ?_) (a' := ?_) rfl rfl (by kernel_rfl) (fun _ _ _ h => h) (.inl ⟨by rfl, ?_⟩) ?_ ?_
         rotate_left
         · intro w'; go_simp; with_reducible rfl
         rotate_left
         · simp only [Act.put, List.setIfInBounds_toArray, List.set_cons_zero, List.set_cons_succ, i64_w, i32_w]; rfl
         refine dr_take 13 (some 29) HT HH (v := ?_) (a' := ?_) rfl rfl (by kernel_rfl) (fun _ _ _ h => h) (.inl ⟨by rfl, ?_⟩) ?_ ?_
         rotate_left
         · rintro w' ⟨rs', HS'⟩; have e211003_0 := HS'.keepc e211003_0; have e211003_1 := HS'.keepc e211003_1; have e211003_2 := HS'.keepc e211003_2; have e211003_3 := HS'.keepc e211003_3; have e211003_4 := HS'.keepc e211003_4; have e211003_5 := HS'.keepc e211003_5; have e211003_6 := HS'.keepc e211003_6; go_simp; with_reducible rfl
         rotate_left
         · simp only [Act.put, List.setIfInBounds_toArray, List.set_cons_zero, List.set_cons_succ, i64_w, i32_w]; rfl
         refine dr_pure 14 (some 30) HT (v := ?_) (a' := ?_) rfl rfl (by kernel_rfl) (fun _ _ _ h => h) (.inl ⟨by rfl, ?_⟩) ?_ ?_
         rotate_left
         · intro w'; go_simp; with_reducible rfl
         rotate_left
         · simp only [Act.put, List.setIfInBounds_toArray, List.set_cons_zero, List.set_cons_succ, i64_w, i32_w]; rfl
         refine dr_pure 15 (some 31) HT (v := ?_) (a' := ?_) rfl rfl (by kernel_rfl) (fun _ _ _ h => h) (.inl ⟨by rfl, ?_⟩) ?_ ?_
         rotate_left
         · intro w'; go_simp; with_reducible rfl
         rotate_left
         · simp only [Act.put, List.setIfInBounds_toArray, List.set_cons_zero, List.set_cons_succ, i64_w, i32_w]; rfl
         refine dr_pure 16 (some 32) HT (v := ?_) (a' := ?_) rfl rfl (by kernel_rfl) (fun _ _ _ h => h) (.inl ⟨by rfl, ?_⟩) ?_ ?_
         rotate_left
         · intro w'; go_simp; with_reducible rfl
         rotate_left
         · simp only [Act.put, List.setIfInBounds_toArray, List.set_cons_zero, List.set_cons_succ, i64_w, i32_w]; rfl
         refine done_ (done_of HT.out (by kernel_rfl)) ?_
         by_cases c34 : (rd_T54 a0 x18).f1 < (rd_T54 a0 x19).f1
         · replace H := zpos c34 H
           replace c34 := eq_true c34
           (try simp only [c34, decide_true, decide_false, Bool.not_true, Bool.not_false])
           go_wp2
           go_roundg k17
           case measure => have := HKk17.out; omega
           case rel => exact ⟨_, _, rfl, rfl, H, ⟨by have := HKk17.out; omega⟩, HS.pick [0] (by decide) (by rfl)⟩
         · replace H := zneg c34 H
           replace c34 := eq_false c34
           (try simp only [c34, decide_true, decide_false, Bool.not_true, Bool.not_false])
           go_wp2
           go_roundg k17
           case measure => have := HKk17.out; omega
           case rel => exact ⟨_, _, rfl, rfl, H, ⟨by have := HKk17.out; omega⟩, HS.pick [0] (by decide) (by rfl)⟩
     · replace H := zneg c203001 H
       replace c203001 := eq_false_of_ne_true c203001
       refine dr_start [] HS #[false, false, false, false, false, false, false, false, false, false, false, false, false, false, false, false, false] (by kernel_rfl) rfl rfl impl_greatest_0.tT5 (fun w35 HT HS HH => ?_)
       (try clear F)
       refine dr_pure 0 (some 16) HT (v := ?_) (a' := ?_) rfl rfl (by kernel_rfl) (fun _ _ _ h => h) (.inl ⟨by rfl, ?_⟩) ?_ ?_
       rotate_left
       · intro w'; go_simp; with_reducible rfl
       rotate_left
       · simp only [Act.put, List.setIfInBounds_toArray, List.set_cons_zero, List.set_cons_succ, i64_w, i32_w]; rfl
       refine dr_take 1 (some 17) HT HH (v := ?_) (a' := ?_) rfl rfl (by kernel_rfl) (fun _ _ _ h => h) (.inl ⟨by rfl, ?_⟩) ?_ ?_
       rotate_left
       · rintro w' ⟨rs', HS'⟩; have F := HS'.boxes; simp only [boxFacts, wrt, clr0, clr1, List.cons_append, List.nil_append, List.append_nil, List.set_cons_zero, List.set_cons_succ, and_true] at F; go_simp; with_reducible rfl
       rotate_left
       · simp only [Act.put, List.setIfInBounds_toArray, List.set_cons_zero, List.set_cons_succ, i64_w, i32_w]; rfl
       refine dr_one 2 HT rfl (by kernel_rfl) (by decide) (fun K hK => ?_)
       refine if_wp (by rfl) ?_; refine wp_callv Try.func102 (by kernel_rfl) rfl #[.agg #[.string ((rd_T54 a0 x19).f0), .int .i64 ((rd_T54 a0 x19).f1), .int .i64 ((rd_T54 a0 x19).f2), .int .i64 ((rd_T54 a0 x19).f3), .int .i64 ((rd_T54 a0 x19).f4), .slice B24_5 (rd_T54 a0 x19).f5.length d24_5, .string ((rd_T54 a0 x19).f6)]] #[.agg #[.string ((rd_T54 a0 x19).f0), .int .i64 ((rd_T54 a0 x19).f1), .int .i64 ((rd_T54 a0 x19).f2), .int .i64 ((rd_T54 a0 x19).f3), .int .i64 ((rd_T54 a0 x19).f4), .slice B24_5 (rd_T54 a0 x19).f5.length d24_5, .string ((rd_T54 a0 x19).f6)]] rfl rfl (by simp only [List.map_toArray, List.map_cons, List.map_nil]; rfl) (by first | rfl | simp) ?_; refine (impl_WholeOf_1.calls ht202001.out (HS.ro y24_5) m24_5).mono ?_; rintro _ wt202001 ⟨rfl, HQ⟩; refine ⟨_, rfl, ?_⟩; replace HS := HS.call HQ; clear HQ; (try clear F); have F := HS.boxes; simp only [boxFacts, wrt, clr0, clr1, List.cons_append, List.nil_append, List.append_nil, List.set_cons_zero, List.set_cons_succ, and_true] at F
       refine hK.out _ _ ⟨_, HS⟩ (fun HH => ?_)
       clear hK K
       refine norm_ (a' := ?_) ?_ ?_
       rotate_left
       · show Act.put _ (some 18) _ = _; simp only [Act.put, List.setIfInBounds_toArray, List.set_cons_zero, List.set_cons_succ, i64_w, i32_w, c203001]; rfl
       refine dr_pure 3 (some 19) HT (v := ?_) (a' := ?_) rfl rfl (by kernel_rfl) (fun _ _ _ h => h) (.inl ⟨by rfl, ?_⟩) ?_ ?_
       rotate_left
       · intro w'; go_simp; with_reducible rfl
       rotate_left
       · simp only [Act.put, List.setIfInBounds_toArray, List.set_cons_zero, List.set_cons_succ, i64_w, i32_w]; rfl
       refine dr_pure 4 (some 20) HT (v := undef) (a' := ?_) rfl rfl (by kernel_rfl) (fun _ _ _ h => h) (.inr ⟨by rfl, rfl⟩) ?_ ?_
       rotate_left
       · simp only [Act.put, List.setIfInBounds_toArray, List.set_cons_zero, List.set_cons_succ, i64_w, i32_w]; rfl
       refine dr_pure 5 (some 21) HT (v := undef) (a' := ?_) rfl rfl (by kernel_rfl) (fun _ _ _ h => h) (.inr ⟨by rfl, rfl⟩) ?_ ?_
       rotate_left
       · simp only [Act.put, List.setIfInBounds_toArray, List.set_cons_zero, List.set_cons_succ, i64_w, i32_w]; rfl
       refine dr_pure 6 (some 22) HT (v := undef) (a' := ?_) rfl rfl (by kernel_rfl) (fun _ _ _ h => h) (.inr ⟨by rfl, rfl⟩) ?_ ?_
       rotate_left
       · simp only [Act.put, List.setIfInBounds_toArray, List.set_cons_zero, List.set_cons_succ, i64_w, i32_w]; rfl
       refine dr_pure 7 (some 23) HT (v := undef) (a' := ?_) rfl rfl (by kernel_rfl) (fun _ _ _ h => h) (.inr ⟨by rfl, rfl⟩) ?_ ?_
       rotate_left
       · simp only [Act.put, List.setIfInBounds_toArray, List.set_cons_zero, List.set_cons_succ, i64_w, i32_w]; rfl
       refine dr_pure 8 (some 24) HT (v := undef) (a' := ?_) rfl rfl (by kernel_rfl) (fun _ _ _ h => h) (.inr ⟨by rfl, rfl⟩) ?_ ?_
       rotate_left
       · simp only [Act.put, List.setIfInBounds_toArray, List.set_cons_zero, List.set_cons_succ, i64_w, i32_w]; rfl
       refine dr_pure 9 (some 25) HT (v := undef) (a' := ?_) rfl rfl (by kernel_rfl) (fun _ _ _ h => h) (.inr ⟨by rfl, rfl⟩) ?_ ?_
       rotate_left
       · simp only [Act.put, List.setIfInBounds_toArray, List.set_cons_zero, List.set_cons_succ, i64_w, i32_w]; rfl
       refine dr_pure 10 (some 26) HT (v := undef) (a' := ?_) rfl rfl (by kernel_rfl) (fun _ _ _ h => h) (.inr ⟨by rfl, rfl⟩) ?_ ?_
       rotate_left
       · simp only [Act.put, List.setIfInBounds_toArray, List.set_cons_zero, List.set_cons_succ, i64_w, i32_w]; rfl
       refine dr_pure 11 (some 27) HT (v := undef) (a' := ?_) rfl rfl (by kernel_rfl) (fun _ _ _ h => h) (.inr ⟨by rfl, rfl⟩) ?_ ?_
       rotate_left
       · simp only [Act.put, List.setIfInBounds_toArray, List.set_cons_zero, List.set_cons_succ, i64_w, i32_w]; rfl
       refine dr_pure 12 (some 28) HT (v := undef) (a' := ?_) rfl rfl (by kernel_rfl) (fun _ _ _ h => h) (.inr ⟨by rfl, rfl⟩) ?_ ?_
       rotate_left
       · simp only [Act.put, List.setIfInBounds_toArray, List.set_cons_zero, List.set_cons_succ, i64_w, i32_w]; rfl
       refine dr_pure 13 (some 29) HT (v := undef) (a' := ?_) rfl rfl (by kernel_rfl) (fun _ _ _ h => h) (.inr ⟨by rfl, rfl⟩) ?_ ?_
       rotate_left
       · simp only [Act.put, List.setIfInBounds_toArray, List.set_cons_zero, List.set_cons_succ, i64_w, i32_w]; rfl
       refine dr_pure 14 (some 30) HT (v := undef) (a' := ?_) rfl rfl (by kernel_rfl) (fun _ _ _ h => h) (.inr ⟨by rfl, rfl⟩) ?_ ?_
       rotate_left
       · simp only [Act.put, List.setIfInBounds_toArray, List.set_cons_zero, List.set_cons_succ, i64_w, i32_w]; rfl
       refine dr_pure 15 (some 31) HT (v := undef) (a' := ?_) rfl rfl (by kernel_rfl) (fun _ _ _ h => h) (.inr ⟨by rfl, rfl⟩) ?_ ?_
       rotate_left
       · simp only [Act.put, List.setIfInBounds_toArray, List.set_cons_zero, List.set_cons_succ, i64_w, i32_w]; rfl
       refine dr_pure 16 (some 32) HT (v := ?_) (a' := ?_) rfl rfl (by kernel_rfl) (fun _ _ _ h => h) (.inl ⟨by rfl, ?_⟩) ?_ ?_
       rotate_left
       · intro w'; go_simp; with_reducible rfl
       rotate_left
       · simp only [Act.put, List.setIfInBounds_toArray, List.set_cons_zero, List.set_cons_succ, i64_w, i32_w]; rfl
       refine done_ (done_of HT.out (by kernel_rfl)) ?_
       go_wp2
       go_roundg k17
       case measure => have := HKk17.out; omega
       case rel => exact ⟨_, _, rfl, rfl, H, ⟨by have := HKk17.out; omega⟩, HS.pick [0] (by decide) (by rfl)⟩
   · replace H := zneg c21 H
     replace c21 := eq_false c21
     by_cases c37 : x18 < 0
     · replace H := zpos c37 H
       replace c37 := eq_true c37
       obtain ⟨rfl, rfl⟩ := zsome2 H
       go_wp2_with (first | ((with_reducible refine gate_store (p := 4) rfl ?_); refine ev_store rfl 0 0 HS (seg := [.string (⟨#[]⟩ : ByteArray), .int .i64 0, .int .i64 0, .int .i64 0, .int .i64 0, .slice none 0 0, .string (⟨#[]⟩ : ByteArray)]) rfl rfl rfl rfl rfl rfl (by kernel_rfl) (by simp [wrt]) (by simp [Value.oneCell']) ?_; clear HS; (try clear F); intro w38 HS; have F := HS.boxes; simp only [boxFacts, wrt, clr0, clr1, List.cons_append, List.nil_append, List.append_nil, List.set_cons_zero, List.set_cons_succ, and_true] at F))
       replace HS := HS.nil 119 q119
       exact bodyPost_ret (results_list (rs := [.cell 4 54, .tmp 5]) rfl (by simp) (.cell _ _ _ _ _ rfl (HS.boxAt (i := 0) rfl) Try.underlying54 rfl (by kernel_rfl) (.tmp .nil))) rfl ⟨_, rfl, HS.pick [1] (by decide) (by rfl)⟩
     · replace H := zneg c37 H
       replace c37 := eq_false c37
       by_cases c40 : 0 ≤ x18
       case neg => exact zno c40 H
       replace H := zpos c40 H
       replace c40 := eq_true c40
       by_cases c41 : x18 < (a0.length : Int)
       case neg => exact zno c41 H
       replace H := zpos c41 H
       replace c41 := eq_true c41
       obtain ⟨ad42, B42_5, d42_5, rfl, e42_0, e42_1, e42_2, e42_3, e42_4, e42_5, e42_6, m42_5, y42_5⟩ := at_T54 gp0 x18 (of_eq_true c40) (of_eq_true c41)
       replace e42_0 := HS.keepc e42_0
       replace e42_1 := HS.keepc e42_1
       replace e42_2 := HS.keepc e42_2
       replace e42_3 := HS.keepc e42_3
       replace e42_4 := HS.keepc e42_4
       replace e42_5 := HS.keepc e42_5
       replace e42_6 := HS.keepc e42_6
       obtain ⟨t43, ht43, H⟩ := zbind H
       obtain ⟨rfl, rfl⟩ := zsome2 H
       go_wp2_with (first | ((with_reducible refine gate_dst (N := 42) rfl ?_); refine ev_call rfl Try.func128 (by kernel_rfl) rfl #[.agg #[.string ((rd_T54 a0 x18).f0), .int .i64 ((rd_T54 a0 x18).f1), .int .i64 ((rd_T54 a0 x18).f2), .int .i64 ((rd_T54 a0 x18).f3), .int .i64 ((rd_T54 a0 x18).f4), .slice B42_5 (rd_T54 a0 x18).f5.length d42_5, .string ((rd_T54 a0 x18).f6)]] rfl (by simp only [List.map_toArray, List.map_cons, List.map_nil]; rfl) ?_; refine (impl_copyCrl.calls ht43.out (HS.ro y42_5) m42_5).mono ?_; rintro _ wt43 ⟨v44, rfl, HQ⟩; refine ⟨_, rfl, ?_⟩; replace HS := HS.call HQ; clear HQ; (try clear F); obtain ⟨B44, d44, rfl, m44⟩ := HS.form 1 rfl; have F := HS.boxes; simp only [boxFacts, wrt, clr0, clr1, List.cons_append, List.nil_append, List.append_nil, List.set_cons_zero, List.set_cons_succ, and_true] at F) | ((with_reducible refine gate_store (p := 4) rfl ?_); refine ev_store rfl 0 0 HS (seg := [.string t43.f0, .int .i64 t43.f1, .int .i64 t43.f2, .int .i64 t43.f3, .int .i64 t43.f4, .slice B44 t43.f5.length d44, .string t43.f6]) rfl rfl rfl rfl rfl rfl (by kernel_rfl) (by simp [wrt]) (by simp [Value.oneCell']) ?_; clear HS; (try clear F); intro w46 HS; have F := HS.boxes; simp only [boxFacts, wrt, clr0, clr1, List.cons_append, List.nil_append, List.append_nil, List.set_cons_zero, List.set_cons_succ, and_true] at F))
       exact bodyPost_ret (results_list (rs := [.cell 4 54, .tmp 5]) rfl (by simp) (.cell _ _ _ _ _ rfl (HS.boxAt (i := 0) rfl) Try.underlying54 rfl (by kernel_rfl) (.tmp .nil))) rfl ⟨_, rfl, HS.pick [1] (by decide) (by rfl)⟩
end Go.Proofs.Ytfeebnbookfpmaa.F

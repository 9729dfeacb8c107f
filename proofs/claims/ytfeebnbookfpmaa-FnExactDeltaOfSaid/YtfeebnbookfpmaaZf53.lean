import Derived.Test.YtfeebnbookfpmaaZT
import Derived.Test.YtfeebnbookfpmaaZf33
namespace Go.Proofs.Ytfeebnbookfpmaa.F
open Go.RowKit Go.Proofs.YtfeebnbookfpmaaW.PrintWords Go.Proofs.YtfeebnbookfpmaaW.PrintLast Go.Proofs.YtfeebnbookfpmaaW.PrintMore Go.Proofs.Ytfeebnbookfpmaa.Z
attribute [local go_sem] max2_int min2_int max_two min_two max_three min_three max_four min_four
set_option linter.unusedVariables false
set_option linter.unusedSimpArgs false
set_option maxRecDepth 100000
/-! ### laws_eqCrlS: function 53 -/
def laws_eqCrlS.l0 : Nat → Int → (List S54) → (List S54) → Option (Bool)
  | 0, _, _, _ => none
  | k + 1, x5, a0, a1 => (if x5 < (a0.length : Int) then (if 0 ≤ x5 then (if x5 < (a0.length : Int) then (if x5 < (a1.length : Int) then ((laws_eqCrl.f k (rd_T54 a0 x5) (rd_T54 a1 x5)).bind fun t108001 => (if t108001 = true then (laws_eqCrlS.l0 k (wrap64 (x5 + 1)) a0 a1) else (some false))) else none) else none) else none) else (some true))
def laws_eqCrlS.f (k : Nat) (a0 : (List S54)) (a1 : (List S54)) : Option (Bool) := (if (a0.length : Int) = (a1.length : Int) then (laws_eqCrlS.l0 k 0 a0 a1) else (some false))
def laws_eqCrlS.T6 : Bool × List (List Nat × List Nat) := (true, [([], []), ([], []), ([0, 1], [0, 1]), ([2], [2]), ([], []), ([], []), ([4, 5], [4, 5]), ([6], [6]), ([3, 7], [3, 7]), ([8], [8])])
theorem laws_eqCrlS.tT6 : rtab .any (opsOf Try.f53 6) = laws_eqCrlS.T6 := by kernel_rfl
set_option maxHeartbeats 16000000 in
theorem laws_eqCrlS.calls {k : Nat} {a0 : (List S54)} {a1 : (List S54)} {Ap0 : Option Addr} {np0 cp0 : Nat} {Ap1 : Option Addr} {np1 cp1 : Nat} {r : Bool} {w : World} (h : laws_eqCrlS.f k a0 a1 = some r) (gp0 : k54.C w Ap0 np0 a0) (lp0 : np0 ≤ cp0) (gp1 : k54.C w Ap1 np1 a1) (lp1 : np1 ≤ cp1) :
    Calls Try.prog 53 #[.slice Ap0 np0 cp0, .slice Ap1 np1 cp1] w (fun e w' => e = .returned (.bool r) ∧ Hp noFP w w' []) := by
 obtain rfl := C_len gp0
 obtain rfl := C_len gp1
 have HS := Hp.start w
 have H := Aside0.mk h
 clear h
 unfold laws_eqCrlS.f at H
 go_enter Try.func53, Try.ntmps53
 by_cases c1 : (a0.length : Int) = (a1.length : Int)
 · replace H := zpos c1 H
   have c1a := beq_iff_eq.mpr c1
   have c1b := bne_eq_false_iff_eq.mpr c1
   clear c1
   go_wp2
   go_loopg [5] k (fun kq v_5 w' => ∃ (x5 : Int), v_5 = .int .i64 x5 ∧ Aside0 (laws_eqCrlS.l0 kq x5 a0 a1 = some r) ∧ Aside0 (kq ≤ k) ∧ Hp noFP w w' [])
   case atStart => exact ⟨_, rfl, H, ⟨Nat.le_refl _⟩, HS⟩
   case round =>
    clear HS H; (try clear F)
    obtain ⟨x5, rfl, H, HKk4, HS⟩ := hrel
    cases gk with
    | zero => exact absurd H.out (by simp [laws_eqCrlS.l0])
    | succ k4 =>
     simp only [laws_eqCrlS.l0] at H
     by_cases c7 : x5 < (a0.length : Int)
     · replace H := zpos c7 H
       replace c7 := eq_true c7
       (try go_wp2)
       by_cases c102001 : 0 ≤ x5
       case neg => exact zno c102001 H
       replace H := zpos c102001 H
       replace c102001 := eq_true c102001
       by_cases c102002 : x5 < (a0.length : Int)
       case neg => exact zno c102002 H
       replace H := zpos c102002 H
       replace c102002 := eq_true c102002
       obtain ⟨ad102003, B102003_5, d102003_5, rfl, e102003_0, e102003_1, e102003_2, e102003_3, e102003_4, e102003_5, e102003_6, m102003_5, y102003_5⟩ := at_T54 gp0 x5 (of_eq_true c102001) (of_eq_true c102002)
       by_cases c106001 : x5 < (a1.length : Int)
       case neg => exact zno c106001 H
       replace H := zpos c106001 H
       replace c106001 := eq_true c106001
       obtain ⟨ad106002, B106002_5, d106002_5, rfl, e106002_0, e106002_1, e106002_2, e106002_3, e106002_4, e106002_5, e106002_6, m106002_5, y106002_5⟩ := at_T54 gp1 x5 (of_eq_true c102001) (of_eq_true c106001)
       obtain ⟨t108001, ht108001, H⟩ := zbind H
       refine dr_start [] HS #[false, false, false, false, false, false, false, false, false, false] (by kernel_rfl) rfl rfl laws_eqCrlS.tT6 (fun w9 HT HS HH => ?_)
       (try clear F)
       refine dr_pure 0 (some 17) HT (v := ?_) (a' := ?_) rfl rfl (by kernel_rfl) (fun _ _ _ h => h) (.inl ⟨by rfl, ?_⟩) ?_ ?_
       rotate_left
       · intro w'; go_simp; with_reducible rfl
       rotate_left
       · simp only [Act.put, List.setIfInBounds_toArray, List.set_cons_zero, List.set_cons_succ, i64_w, i32_w]; rfl
       refine dr_pure 1 (some 18) HT (v := ?_) (a' := ?_) rfl rfl (by kernel_rfl) (fun _ _ _ h => h) (.inl ⟨by rfl, ?_⟩) ?_ ?_
       rotate_left
       · intro w'; go_simp; with_reducible rfl
       rotate_left
       · simp only [Act.put, List.setIfInBounds_toArray, List.set_cons_zero, List.set_cons_succ, i64_w, i32_w]; rfl
       refine dr_pure 2 (some 19) HT (v := ?_) (a' := ?_) rfl rfl (by kernel_rfl) (fun _ _ _ h => h) (.inl ⟨by rfl, ?_⟩) ?_ ?_
       rotate_left
       · intro w'; go_simp; with_reducible rfl
       rotate_left
       · simp only [Act.put, List.setIfInBounds_toArray, List.set_cons_zero, List.set_cons_succ, i64_w, i32_w]; rfl
       refine dr_take 3 (some 20) HT HH (v := ?_) (a' := ?_) rfl rfl (by kernel_rfl) (fun _ _ _ h => h) (.inl ⟨by rfl, ?_⟩) ?_ ?_
       rotate_left
       · rintro w' ⟨rs', HS'⟩; have e102003_0 := HS'.keepc e102003_0; have e102003_1 := HS'.keepc e102003_1; have e102003_2 := HS'.keepc e102003_2; have e102003_3 := HS'.keepc e102003_3; have e102003_4 := HS'.keepc e102003_4; have e102003_5 := HS'.keepc e102003_5; have e102003_6 := HS'.keepc e102003_6; go_simp; with_reducible rfl
       rotate_left
       · simp only [Act.put, List.setIfInBounds_toArray, List.set_cons_zero, List.set_cons_succ, i64_w, i32_w]; rfl
       refine dr_pure 4 (some 21) HT (v := ?_) (a' := ?_) rfl rfl (by kernel_rfl) (fun _ _ _ h => h) (.inl ⟨by rfl, ?_⟩) ?_ ?_
       rotate_left
       · intro w'; go_simp; with_reducible rfl
       rotate_left
       · simp only [Act.put, List.setIfInBounds_toArray, List.set_cons_zero, List.set_cons_succ, i64_w, i32_w]; rfl
       refine dr_pure 5 (some 22) HT (v := ?_) (a' := ?_) rfl rfl (by kernel_rfl) (fun _ _ _ h => h) (.inl ⟨by rfl, ?_⟩) ?_ ?_
       rotate_left
       · intro w'; go_simp; with_reducible rfl
       rotate_left
       · simp only [Act.put, List.setIfInBounds_toArray, List.set_cons_zero, List.set_cons_succ, i64_w, i32_w]; rfl
       refine dr_pure 6 (some 23) HT (v := ?_) (a' := ?_) rfl rfl (by kernel_rfl) (fun _ _ _ h => h) (.inl ⟨by rfl, ?_⟩) ?_ ?_
       rotate_left
       · intro w'; go_simp; with_reducible rfl
       rotate_left
       · simp only [Act.put, List.setIfInBounds_toArray, List.set_cons_zero, List.set_cons_succ, i64_w, i32_w]; rfl
       refine dr_take 7 (some 24) HT HH (v := ?_) (a' := ?_) rfl rfl (by kernel_rfl) (fun _ _ _ h => h) (.inl ⟨by rfl, ?_⟩) ?_ ?_
       rotate_left
       · rintro w' ⟨rs', HS'⟩; have e106002_0 := HS'.keepc e106002_0; have e106002_1 := HS'.keepc e106002_1; have e106002_2 := HS'.keepc e106002_2; have e106002_3 := HS'.keepc e106002_3; have e106002_4 := HS'.keepc e106002_4; have e106002_5 := HS'.keepc e106002_5; have e106002_6 := HS'.keepc e106002_6; go_simp; with_reducible rfl
       rotate_left
       · simp only [Act.put, List.setIfInBounds_toArray, List.set_cons_zero, List.set_cons_succ, i64_w, i32_w]; rfl
       refine dr_one 8 HT rfl (by kernel_rfl) (by decide) (fun K hK => ?_)
       refine goes_ Try.func33 (by kernel_rfl) rfl #[.agg #[.string ((rd_T54 a0 x5).f0), .int .i64 ((rd_T54 a0 x5).f1), .int .i64 ((rd_T54 a0 x5).f2), .int .i64 ((rd_T54 a0 x5).f3), .int .i64 ((rd_T54 a0 x5).f4), .slice B102003_5 (rd_T54 a0 x5).f5.length d102003_5, .string ((rd_T54 a0 x5).f6)], .agg #[.string ((rd_T54 a1 x5).f0), .int .i64 ((rd_T54 a1 x5).f1), .int .i64 ((rd_T54 a1 x5).f2), .int .i64 ((rd_T54 a1 x5).f3), .int .i64 ((rd_T54 a1 x5).f4), .slice B106002_5 (rd_T54 a1 x5).f5.length d106002_5, .string ((rd_T54 a1 x5).f6)]] (by rfl) rfl rfl (by simp only [List.map_toArray, List.map_cons, List.map_nil]; rfl) ?_; refine (laws_eqCrl.calls ht108001.out (HS.ro y102003_5) m102003_5 (HS.ro y106002_5) m106002_5).mono ?_; rintro _ wt108001 ⟨rfl, HQ⟩; refine ⟨_, rfl, ?_⟩; replace HS := HS.call HQ; clear HQ; (try clear F)
       refine hK.out _ _ ⟨_, HS⟩ (fun HH => ?_)
       clear hK K
       refine norm_ (a' := ?_) ?_ ?_
       rotate_left
       · show Act.put _ (some 25) _ = _; simp only [Act.put, List.setIfInBounds_toArray, List.set_cons_zero, List.set_cons_succ, i64_w, i32_w]; rfl
       refine dr_pure 9 (some 26) HT (v := ?_) (a' := ?_) rfl rfl (by kernel_rfl) (fun _ _ _ h => h) (.inl ⟨by rfl, ?_⟩) ?_ ?_
       rotate_left
       · intro w'; go_simp; with_reducible rfl
       rotate_left
       · simp only [Act.put, List.setIfInBounds_toArray, List.set_cons_zero, List.set_cons_succ, i64_w, i32_w]; rfl
       refine done_ (done_of HT.out (by kernel_rfl)) ?_
       by_cases c11 : t108001 = true
       · replace H := zpos c11 H
         (try simp only [c11, decide_true, decide_false, Bool.not_true, Bool.not_false])
         go_wp2
         go_roundg k4
         case measure => have := HKk4.out; omega
         case rel => exact ⟨_, rfl, H, ⟨by have := HKk4.out; omega⟩, HS.pick [] (by decide) (by rfl)⟩
       · replace H := zneg c11 H
         replace c11 := eq_false_of_ne_true c11
         (try simp only [c11, decide_true, decide_false, Bool.not_true, Bool.not_false])
         obtain rfl := zsome H
         go_wp2
         go_ret
         exact ⟨rfl, HS.pick [] (by decide) (by rfl)⟩
     · replace H := zneg c7 H
       replace c7 := eq_false c7
       obtain rfl := zsome H
       go_wp2
       go_ret
       exact ⟨rfl, HS.pick [] (by decide) (by rfl)⟩
 · replace H := zneg c1 H
   have c1a := beq_eq_false_iff_ne.mpr c1
   have c1b := bne_iff_ne.mpr c1
   clear c1
   obtain rfl := zsome H
   go_wp2
   go_ret
   exact ⟨rfl, HS.pick [] (by decide) (by rfl)⟩
end Go.Proofs.Ytfeebnbookfpmaa.F

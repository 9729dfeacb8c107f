/- Functions of the program and of the law, and that their calls do what is written here. -/
import Derived.Test.YtoaoncnbimcdgaaZgFnExactTickd
namespace Go.Proofs.Ytoaoncnbimcdgaa.F
open Go.RowKit Go.Proofs.YtoaoncnbimcdgaaW.PrintWords Go.Proofs.YtoaoncnbimcdgaaW.PrintLast Go.Proofs.YtoaoncnbimcdgaaW.PrintMore Go.Proofs.Ytoaoncnbimcdgaa.Z
attribute [local go_sem] max2_int min2_int max_two min_two max_three min_three max_four min_four
set_option linter.unusedVariables false
set_option linter.unusedSimpArgs false
set_option maxRecDepth 100000
/-! ### laws_heldStringS: function 125 -/
def laws_heldStringS.l0 : Nat → Int → Int → (List ByteArray) → Option (Int)
  | 0, _, _, _ => none
  | k + 1, x9, x10, a0 => (if x10 < (a0.length : Int) then (if 0 ≤ x10 then (if x10 < (a0.length : Int) then ((laws_markText.f k x9).bind fun t205001 => (if (rdOf ByteArray.empty a0 x10).toList = t205001.toList then (laws_heldStringS.l0 k (wrap64 (x9 + 1)) (wrap64 (x10 + 1)) a0) else (some (-1)))) else none) else none) else (some x9))
def laws_heldStringS.f (k : Nat) (a0 : (List ByteArray)) (a1 : Int) : Option (Int) := (laws_heldStringS.l0 k a1 0 a0)
def laws_heldStringS.T4 : Bool × List (List Nat × List Nat) := (true, [([], []), ([], []), ([0, 1], [0, 1]), ([2], [2]), ([], []), ([4], [4]), ([3, 5], [3, 5])])
theorem laws_heldStringS.tT4 : rtab .any (opsOf Try.f125 4) = laws_heldStringS.T4 := by kernel_rfl
set_option maxHeartbeats 16000000 in
theorem laws_heldStringS.calls {k : Nat} {a0 : (List ByteArray)} {a1 : Int} {Ap0 : Option Addr} {np0 cp0 : Nat} {r : Int} {w : World} (h : laws_heldStringS.f k a0 a1 = some r) (gp0 : Kd.string.C w Ap0 np0 a0) (lp0 : np0 ≤ cp0) :
    Calls Try.prog 125 #[.slice Ap0 np0 cp0, .int .i64 a1] w (fun e w' => e = .returned (.int .i64 r) ∧ Hp noFP w w' []) := by
 obtain rfl := C_len gp0
 have HS := Hp.start w
 have H := Aside0.mk h
 clear h
 unfold laws_heldStringS.f at H
 go_enter Try.func125, Try.ntmps125
 go_wp2
 go_loopg [1, 5] k (fun kq v_1 v_5 w' => ∃ (x9 : Int) (x10 : Int), v_1 = .int .i64 x9 ∧ v_5 = .int .i64 x10 ∧ Aside0 (laws_heldStringS.l0 kq x9 x10 a0 = some r) ∧ Aside0 (kq ≤ k) ∧ Hp noFP w w' [])
 case atStart => exact ⟨_, _, rfl, rfl, H, ⟨Nat.le_refl _⟩, HS⟩
 case round =>
  clear HS H; (try clear F)
  obtain ⟨x9, x10, rfl, rfl, H, HKk8, HS⟩ := hrel
  cases gk with
  | zero => exact absurd H.out (by simp [laws_heldStringS.l0])
  | succ k8 =>
   simp only [laws_heldStringS.l0] at H
   by_cases c12 : x10 < (a0.length : Int)
   · replace H := zpos c12 H
     replace c12 := eq_true c12
     (try go_wp2)
     by_cases c202001 : 0 ≤ x10
     case neg => exact zno c202001 H
     replace H := zpos c202001 H
     replace c202001 := eq_true c202001
     by_cases c202002 : x10 < (a0.length : Int)
     case neg => exact zno c202002 H
     replace H := zpos c202002 H
     replace c202002 := eq_true c202002
     obtain ⟨ad202999, rfl, e202999_0⟩ := Kd.at_string gp0 x10 (of_eq_true c202001) (of_eq_true c202002)
     replace H := zbind H; obtain ⟨t205001, ht205001, H⟩ := H
     refine dr_start [] HS #[false, false, false, false, false, false, false] (by kernel_rfl) rfl rfl laws_heldStringS.tT4 (fun w14 HT HS HH => ?_)
     (try clear F)
     refine drq_of [(0, some 12), (1, some 13), (2, some 14)] ?_
     repeat (first | (refine drq_pure HT (v := ?_) (a' := ?_) rfl rfl (by kernel_rfl) (fun _ _ _ h => h) (.inl ⟨by rfl, ?_⟩) ?_ ?_; rotate_left; (intro w'; go_simp; with_reducible rfl); rotate_left; (simp only [Act.put, List.setIfInBounds_toArray, List.set_cons_zero, List.set_cons_succ, i64_w, i32_w]; rfl)))
     refine drq_end ?_
     refine dr_take 3 (some 15) HT HH (v := ?_) (a' := ?_) rfl rfl (by kernel_rfl) (fun _ _ _ h => h) (.inl ⟨by rfl, ?_⟩) ?_ ?_
     rotate_left
     · rintro w' ⟨rs', HS'⟩; have e202999_0 := (HS'.keepc e202999_0); go_simp; with_reducible rfl
     rotate_left
     · simp only [Act.put, List.setIfInBounds_toArray, List.set_cons_zero, List.set_cons_succ, i64_w, i32_w]; rfl
     refine drq_of [(4, some 16)] ?_
     repeat (first | (refine drq_pure HT (v := ?_) (a' := ?_) rfl rfl (by kernel_rfl) (fun _ _ _ h => h) (.inl ⟨by rfl, ?_⟩) ?_ ?_; rotate_left; (intro w'; go_simp; with_reducible rfl); rotate_left; (simp only [Act.put, List.setIfInBounds_toArray, List.set_cons_zero, List.set_cons_succ, i64_w, i32_w]; rfl)))
     refine drq_end ?_
     refine dr_one 5 HT rfl (by kernel_rfl) (by decide) (fun K hK => ?_)
     refine goes_ Try.func110 (by kernel_rfl) rfl #[.int .i64 x9] (by rfl) rfl rfl (by simp only [List.map_toArray, List.map_cons, List.map_nil]; rfl) ?_; refine (laws_markText.calls ht205001.out).mono ?_; rintro _ wt205001 ⟨rfl, HQ⟩; refine ⟨_, rfl, ?_⟩; replace HS := HS.call HQ; clear HQ; (try clear F)
     replace HS : Hp noFP w _ [] := HS
     refine hK.out _ _ ⟨_, HS⟩ (fun HH => ?_)
     clear hK K
     refine norm_ (a' := ?_) ?_ ?_
     rotate_left
     · show Act.put _ (some 17) _ = _; simp only [Act.put, List.setIfInBounds_toArray, List.set_cons_zero, List.set_cons_succ, i64_w, i32_w]; rfl
     refine drq_of [(6, some 18)] ?_
     repeat (first | (refine drq_pure HT (v := ?_) (a' := ?_) rfl rfl (by kernel_rfl) (fun _ _ _ h => h) (.inl ⟨by rfl, ?_⟩) ?_ ?_; rotate_left; (intro w'; go_simp; with_reducible rfl); rotate_left; (simp only [Act.put, List.setIfInBounds_toArray, List.set_cons_zero, List.set_cons_succ, i64_w, i32_w]; rfl)))
     refine drq_end ?_
     refine done_ (done_of HT.out (by kernel_rfl)) ?_
     by_cases c16 : (rdOf ByteArray.empty a0 x10).toList = t205001.toList
     · replace H := zpos c16 H
       have c16a := beq_iff_eq.mpr c16
       have c16b := bne_eq_false_iff_eq.mpr c16
       clear c16
       (try simp only [c16a, c16b, decide_true, decide_false, Bool.not_true, Bool.not_false])
       go_wp2
       go_roundg k8
       case measure => have := HKk8.out; omega
       case rel => exact ⟨_, _, rfl, rfl, H, ⟨by have := HKk8.out; omega⟩, HS.pick [] (by decide) (by rfl)⟩
     · replace H := zneg c16 H
       have c16a := beq_eq_false_iff_ne.mpr c16
       have c16b := bne_iff_ne.mpr c16
       clear c16
       (try simp only [c16a, c16b, decide_true, decide_false, Bool.not_true, Bool.not_false])
       obtain rfl := zsome H
       go_wp2
       go_ret
       exact ⟨rfl, HS.pick [] (by decide) (by rfl)⟩
   · replace H := zneg c12 H
     replace c12 := eq_false c12
     obtain rfl := zsome H
     go_wp2
     go_ret
     exact ⟨rfl, HS.pick [] (by decide) (by rfl)⟩
/-! ### laws_heldAnswerS: function 66 -/
def laws_heldAnswerS.l0 : Nat → Int → Int → (List S109) → Option (Int)
  | 0, _, _, _ => none
  | k + 1, x11, x12, a0 => (if x12 < (a0.length : Int) then (if 0 ≤ x12 then (if x12 < (a0.length : Int) then (if (rd_T109 a0 x12).f0 = x11 then (if (rd_T109 a0 x12).f1 = (wrap64 (x11 + 1)) then ((laws_heldStringS.f k ((rd_T109 a0 x12).f2) (wrap64 ((wrap64 (x11 + 1)) + 1))).bind fun t22 => (if t22 < 0 then (some (-1)) else ((laws_heldStringS.f k ((rd_T109 a0 x12).f3) t22).bind fun t26 => (if t26 < 0 then (some (-1)) else (laws_heldAnswerS.l0 k t26 (wrap64 (x12 + 1)) a0))))) else (some (-1))) else (some (-1))) else none) else none) else (some x11))
def laws_heldAnswerS.f (k : Nat) (a0 : (List S109)) (a1 : Int) : Option (Int) := (laws_heldAnswerS.l0 k a1 0 a0)
set_option maxHeartbeats 16000000 in
theorem laws_heldAnswerS.calls {k : Nat} {a0 : (List S109)} {a1 : Int} {Ap0 : Option Addr} {np0 cp0 : Nat} {r : Int} {w : World} (h : laws_heldAnswerS.f k a0 a1 = some r) (gp0 : k109.C w Ap0 np0 a0) (lp0 : np0 ≤ cp0) :
    Calls Try.prog 66 #[.slice Ap0 np0 cp0, .int .i64 a1] w (fun e w' => e = .returned (.int .i64 r) ∧ Hp noFP w w' []) := by
 obtain rfl := C_len gp0
 have HS := Hp.start w
 have H := Aside0.mk h
 clear h
 unfold laws_heldAnswerS.f at H
 go_enter Try.func66, Try.ntmps66
 go_wp2
 go_loopg [1, 5] k (fun kq v_1 v_5 w' => ∃ (x11 : Int) (x12 : Int), v_1 = .int .i64 x11 ∧ v_5 = .int .i64 x12 ∧ Aside0 (laws_heldAnswerS.l0 kq x11 x12 a0 = some r) ∧ Aside0 (kq ≤ k) ∧ Hp noFP w w' [])
 case atStart => exact ⟨_, _, rfl, rfl, H, ⟨Nat.le_refl _⟩, HS⟩
 case round =>
  clear HS H; (try clear F)
  obtain ⟨x11, x12, rfl, rfl, H, HKk10, HS⟩ := hrel
  cases gk with
  | zero => exact absurd H.out (by simp [laws_heldAnswerS.l0])
  | succ k10 =>
   simp only [laws_heldAnswerS.l0] at H
   by_cases c14 : x12 < (a0.length : Int)
   · replace H := zpos c14 H
     replace c14 := eq_true c14
     by_cases c15 : 0 ≤ x12
     case neg => exact zno c15 H
     replace H := zpos c15 H
     replace c15 := eq_true c15
     by_cases c16 : x12 < (a0.length : Int)
     case neg => exact zno c16 H
     replace H := zpos c16 H
     replace c16 := eq_true c16
     obtain ⟨ad17, B17_2, d17_2, B17_3, d17_3, rfl, e17_0, e17_1, e17_2, e17_3, m17_2, y17_2, m17_3, y17_3⟩ := at_T109 gp0 x12 (of_eq_true c15) (of_eq_true c16)
     have e17_0_17 := (HS.keepc e17_0)
     have e17_1_17 := (HS.keepc e17_1)
     have e17_2_17 := (HS.keepc e17_2)
     have e17_3_17 := (HS.keepc e17_3)
     by_cases c18 : (rd_T109 a0 x12).f0 = x11
     · replace H := zpos c18 H
       have c18a := beq_iff_eq.mpr c18
       have c18b := bne_eq_false_iff_eq.mpr c18
       clear c18
       have e17_0_19 := (HS.keepc e17_0)
       have e17_1_19 := (HS.keepc e17_1)
       have e17_2_19 := (HS.keepc e17_2)
       have e17_3_19 := (HS.keepc e17_3)
       by_cases c20 : (rd_T109 a0 x12).f1 = (wrap64 (x11 + 1))
       · replace H := zpos c20 H
         have c20a := beq_iff_eq.mpr c20
         have c20b := bne_eq_false_iff_eq.mpr c20
         clear c20
         have e17_0_21 := (HS.keepc e17_0)
         have e17_1_21 := (HS.keepc e17_1)
         have e17_2_21 := (HS.keepc e17_2)
         have e17_3_21 := (HS.keepc e17_3)
         replace H := zbind H; obtain ⟨t22, ht22, H⟩ := H
         go_upto_if 38 with (first | ((with_reducible refine gate_dst (N := 36) rfl ?_); refine ev_call rfl Try.func125 (by kernel_rfl) rfl #[.slice B17_2 (rd_T109 a0 x12).f2.length d17_2, .int .i64 (wrap64 ((wrap64 (x11 + 1)) + 1))] rfl (by simp only [List.map_toArray, List.map_cons, List.map_nil]; rfl) ?_; refine (laws_heldStringS.calls ht22.out (HS.ro y17_2) m17_2).mono ?_; rintro _ wt22 ⟨rfl, HQ⟩; refine ⟨_, rfl, ?_⟩; replace HS := HS.call HQ; clear HQ; (try clear F); replace HS : Hp noFP w _ [] := HS))
         by_cases c24 : t22 < 0
         · replace H := zpos c24 H
           replace c24 := eq_true c24
           (try simp only [c24, decide_true, decide_false, Bool.not_true, Bool.not_false])
           obtain rfl := zsome H
           go_wp2
           go_ret
           exact ⟨rfl, HS.pick [] (by decide) (by rfl)⟩
         · replace H := zneg c24 H
           replace c24 := eq_false c24
           (try simp only [c24, decide_true, decide_false, Bool.not_true, Bool.not_false])
           have e17_0_25 := (HS.keepc e17_0)
           have e17_1_25 := (HS.keepc e17_1)
           have e17_2_25 := (HS.keepc e17_2)
           have e17_3_25 := (HS.keepc e17_3)
           replace H := zbind H; obtain ⟨t26, ht26, H⟩ := H
           go_upto_if 47 with (first | ((with_reducible refine gate_dst (N := 45) rfl ?_); refine ev_call rfl Try.func125 (by kernel_rfl) rfl #[.slice B17_3 (rd_T109 a0 x12).f3.length d17_3, .int .i64 t22] rfl (by simp only [List.map_toArray, List.map_cons, List.map_nil]; rfl) ?_; refine (laws_heldStringS.calls ht26.out (HS.ro y17_3) m17_3).mono ?_; rintro _ wt26 ⟨rfl, HQ⟩; refine ⟨_, rfl, ?_⟩; replace HS := HS.call HQ; clear HQ; (try clear F); replace HS : Hp noFP w _ [] := HS))
           by_cases c28 : t26 < 0
           · replace H := zpos c28 H
             replace c28 := eq_true c28
             (try simp only [c28, decide_true, decide_false, Bool.not_true, Bool.not_false])
             obtain rfl := zsome H
             go_wp2
             go_ret
             exact ⟨rfl, HS.pick [] (by decide) (by rfl)⟩
           · replace H := zneg c28 H
             replace c28 := eq_false c28
             (try simp only [c28, decide_true, decide_false, Bool.not_true, Bool.not_false])
             go_wp2
             go_roundg k10
             case measure => have := HKk10.out; omega
             case rel => exact ⟨_, _, rfl, rfl, H, ⟨by have := HKk10.out; omega⟩, HS.pick [] (by decide) (by rfl)⟩
       · replace H := zneg c20 H
         have c20a := beq_eq_false_iff_ne.mpr c20
         have c20b := bne_iff_ne.mpr c20
         clear c20
         obtain rfl := zsome H
         go_wp2
         go_ret
         exact ⟨rfl, HS.pick [] (by decide) (by rfl)⟩
     · replace H := zneg c18 H
       have c18a := beq_eq_false_iff_ne.mpr c18
       have c18b := bne_iff_ne.mpr c18
       clear c18
       obtain rfl := zsome H
       go_wp2
       go_ret
       exact ⟨rfl, HS.pick [] (by decide) (by rfl)⟩
   · replace H := zneg c14 H
     replace c14 := eq_false c14
     obtain rfl := zsome H
     go_wp2
     go_ret
     exact ⟨rfl, HS.pick [] (by decide) (by rfl)⟩
/-! ### laws_heldGotS: function 51 -/
def laws_heldGotS.l0 : Nat → Int → Int → (List S150) → Option (Int)
  | 0, _, _, _ => none
  | k + 1, x11, x12, a0 => (if x12 < (a0.length : Int) then (if 0 ≤ x12 then (if x12 < (a0.length : Int) then (if (rd_T150 a0 x12).f0 = x11 then ((laws_markText.f k (wrap64 (x11 + 1))).bind fun t107001 => (if ((rd_T150 a0 x12).f1.f0).toList = t107001.toList then (if (rd_T150 a0 x12).f1.f1 = (wrap64 ((wrap64 (x11 + 1)) + 1)) then (if (rd_T150 a0 x12).f1.f2 = (wrap64 ((wrap64 ((wrap64 (x11 + 1)) + 1)) + 1)) then (if (rd_T150 a0 x12).f1.f3 = (wrap64 ((wrap64 ((wrap64 ((wrap64 (x11 + 1)) + 1)) + 1)) + 1)) then (if (rd_T150 a0 x12).f1.f4 = (wrap64 ((wrap64 ((wrap64 ((wrap64 ((wrap64 (x11 + 1)) + 1)) + 1)) + 1)) + 1)) then (if (rd_T150 a0 x12).f1.f5 = (wrap64 ((wrap64 ((wrap64 ((wrap64 ((wrap64 ((wrap64 (x11 + 1)) + 1)) + 1)) + 1)) + 1)) + 1)) then ((laws_heldAnswerS.f k ((rd_T150 a0 x12).f1.f6) (wrap64 ((wrap64 ((wrap64 ((wrap64 ((wrap64 ((wrap64 ((wrap64 (x11 + 1)) + 1)) + 1)) + 1)) + 1)) + 1)) + 1))).bind fun t34 => (if t34 < 0 then (some (-1)) else ((laws_markText.f k t34).bind fun t207001 => (if ((rd_T150 a0 x12).f1.f7).toList = t207001.toList then (laws_heldGotS.l0 k (wrap64 (t34 + 1)) (wrap64 (x12 + 1)) a0) else (some (-1)))))) else (some (-1))) else (some (-1))) else (some (-1))) else (some (-1))) else (some (-1))) else (some (-1)))) else (some (-1))) else none) else none) else (some x11))
def laws_heldGotS.f (k : Nat) (a0 : (List S150)) (a1 : Int) : Option (Int) := (laws_heldGotS.l0 k a1 0 a0)
def laws_heldGotS.T7 : Bool × List (List Nat × List Nat) := (true, [([], []), ([], []), ([0, 1], [0, 1]), ([2], [2]), ([3], [3]), ([4], [4]), ([], []), ([6], [6]), ([5, 7], [5, 7])])
theorem laws_heldGotS.tT7 : rtab .any (opsOf Try.f51 7) = laws_heldGotS.T7 := by kernel_rfl
def laws_heldGotS.T28 : Bool × List (List Nat × List Nat) := (true, [([], []), ([], []), ([0, 1], [0, 1]), ([2], [2]), ([3], [3]), ([4], [4]), ([], []), ([6], [6]), ([5, 7], [5, 7])])
theorem laws_heldGotS.tT28 : rtab .any (opsOf Try.f51 28) = laws_heldGotS.T28 := by kernel_rfl
set_option maxHeartbeats 16000000 in
theorem laws_heldGotS.calls {k : Nat} {a0 : (List S150)} {a1 : Int} {Ap0 : Option Addr} {np0 cp0 : Nat} {r : Int} {w : World} (h : laws_heldGotS.f k a0 a1 = some r) (gp0 : k150.C w Ap0 np0 a0) (lp0 : np0 ≤ cp0) :
    Calls Try.prog 51 #[.slice Ap0 np0 cp0, .int .i64 a1] w (fun e w' => e = .returned (.int .i64 r) ∧ Hp noFP w w' []) := by
 obtain rfl := C_len gp0
 have HS := Hp.start w
 have H := Aside0.mk h
 clear h
 unfold laws_heldGotS.f at H
 go_enter Try.func51, Try.ntmps51
 go_wp2
 go_loopg [1, 5] k (fun kq v_1 v_5 w' => ∃ (x11 : Int) (x12 : Int), v_1 = .int .i64 x11 ∧ v_5 = .int .i64 x12 ∧ Aside0 (laws_heldGotS.l0 kq x11 x12 a0 = some r) ∧ Aside0 (kq ≤ k) ∧ Hp noFP w w' [])
 case atStart => exact ⟨_, _, rfl, rfl, H, ⟨Nat.le_refl _⟩, HS⟩
 case round =>
  clear HS H; (try clear F)
  obtain ⟨x11, x12, rfl, rfl, H, HKk10, HS⟩ := hrel
  cases gk with
  | zero => exact absurd H.out (by simp [laws_heldGotS.l0])
  | succ k10 =>
   simp only [laws_heldGotS.l0] at H
   by_cases c14 : x12 < (a0.length : Int)
   · replace H := zpos c14 H
     replace c14 := eq_true c14
     by_cases c15 : 0 ≤ x12
     case neg => exact zno c15 H
     replace H := zpos c15 H
     replace c15 := eq_true c15
     by_cases c16 : x12 < (a0.length : Int)
     case neg => exact zno c16 H
     replace H := zpos c16 H
     replace c16 := eq_true c16
     obtain ⟨ad17, B17_7, d17_7, rfl, e17_0, e17_1, e17_2, e17_3, e17_4, e17_5, e17_6, e17_7, e17_8, m17_7, y17_7⟩ := at_T150 gp0 x12 (of_eq_true c15) (of_eq_true c16)
     have e17_0_17 := (HS.keepc e17_0)
     have e17_1_17 := (HS.keepc e17_1)
     have e17_2_17 := (HS.keepc e17_2)
     have e17_3_17 := (HS.keepc e17_3)
     have e17_4_17 := (HS.keepc e17_4)
     have e17_5_17 := (HS.keepc e17_5)
     have e17_6_17 := (HS.keepc e17_6)
     have e17_7_17 := (HS.keepc e17_7)
     have e17_8_17 := (HS.keepc e17_8)
     by_cases c18 : (rd_T150 a0 x12).f0 = x11
     · replace H := zpos c18 H
       have c18a := beq_iff_eq.mpr c18
       have c18b := bne_eq_false_iff_eq.mpr c18
       clear c18
       (try go_wp2)
       replace H := zbind H; obtain ⟨t107001, ht107001, H⟩ := H
       refine dr_start [] HS #[false, false, false, false, false, false, false, false, false] (by kernel_rfl) rfl rfl laws_heldGotS.tT7 (fun w20 HT HS HH => ?_)
       (try clear F)
       refine drq_of [(0, some 21), (1, some 22), (2, some 23), (3, some 24), (4, some 25)] ?_
       repeat (first | (refine drq_pure HT (v := ?_) (a' := ?_) rfl rfl (by kernel_rfl) (fun _ _ _ h => h) (.inl ⟨by rfl, ?_⟩) ?_ ?_; rotate_left; (intro w'; go_simp; with_reducible rfl); rotate_left; (simp only [Act.put, List.setIfInBounds_toArray, List.set_cons_zero, List.set_cons_succ, i64_w, i32_w]; rfl)))
       refine drq_end ?_
       refine dr_take 5 (some 26) HT HH (v := ?_) (a' := ?_) rfl rfl (by kernel_rfl) (fun _ _ _ h => h) (.inl ⟨by rfl, ?_⟩) ?_ ?_
       rotate_left
       · rintro w' ⟨rs', HS'⟩; have e17_0 := (HS'.keepc e17_0); have e17_1 := (HS'.keepc e17_1); have e17_2 := (HS'.keepc e17_2); have e17_3 := (HS'.keepc e17_3); have e17_4 := (HS'.keepc e17_4); have e17_5 := (HS'.keepc e17_5); have e17_6 := (HS'.keepc e17_6); have e17_7 := (HS'.keepc e17_7); have e17_8 := (HS'.keepc e17_8); go_simp; with_reducible rfl
       rotate_left
       · simp only [Act.put, List.setIfInBounds_toArray, List.set_cons_zero, List.set_cons_succ, i64_w, i32_w]; rfl
       refine drq_of [(6, some 27)] ?_
       repeat (first | (refine drq_pure HT (v := ?_) (a' := ?_) rfl rfl (by kernel_rfl) (fun _ _ _ h => h) (.inl ⟨by rfl, ?_⟩) ?_ ?_; rotate_left; (intro w'; go_simp; with_reducible rfl); rotate_left; (simp only [Act.put, List.setIfInBounds_toArray, List.set_cons_zero, List.set_cons_succ, i64_w, i32_w]; rfl)))
       refine drq_end ?_
       refine dr_one 7 HT rfl (by kernel_rfl) (by decide) (fun K hK => ?_)
       refine goes_ Try.func110 (by kernel_rfl) rfl #[.int .i64 (wrap64 (x11 + 1))] (by rfl) rfl rfl (by simp only [List.map_toArray, List.map_cons, List.map_nil]; rfl) ?_; refine (laws_markText.calls ht107001.out).mono ?_; rintro _ wt107001 ⟨rfl, HQ⟩; refine ⟨_, rfl, ?_⟩; replace HS := HS.call HQ; clear HQ; (try clear F)
       replace HS : Hp noFP w _ [] := HS
       refine hK.out _ _ ⟨_, HS⟩ (fun HH => ?_)
       clear hK K
       refine norm_ (a' := ?_) ?_ ?_
       rotate_left
       · show Act.put _ (some 28) _ = _; simp only [Act.put, List.setIfInBounds_toArray, List.set_cons_zero, List.set_cons_succ, i64_w, i32_w]; rfl
       refine drq_of [(8, some 29)] ?_
       repeat (first | (refine drq_pure HT (v := ?_) (a' := ?_) rfl rfl (by kernel_rfl) (fun _ _ _ h => h) (.inl ⟨by rfl, ?_⟩) ?_ ?_; rotate_left; (intro w'; go_simp; with_reducible rfl); rotate_left; (simp only [Act.put, List.setIfInBounds_toArray, List.set_cons_zero, List.set_cons_succ, i64_w, i32_w]; rfl)))
       refine drq_end ?_
       refine done_ (done_of HT.out (by kernel_rfl)) ?_
       by_cases c22 : ((rd_T150 a0 x12).f1.f0).toList = t107001.toList
       · replace H := zpos c22 H
         have c22a := beq_iff_eq.mpr c22
         have c22b := bne_eq_false_iff_eq.mpr c22
         clear c22
         (try simp only [c22a, c22b, decide_true, decide_false, Bool.not_true, Bool.not_false])
         have e17_0_23 := (HS.keepc e17_0)
         have e17_1_23 := (HS.keepc e17_1)
         have e17_2_23 := (HS.keepc e17_2)
         have e17_3_23 := (HS.keepc e17_3)
         have e17_4_23 := (HS.keepc e17_4)
         have e17_5_23 := (HS.keepc e17_5)
         have e17_6_23 := (HS.keepc e17_6)
         have e17_7_23 := (HS.keepc e17_7)
         have e17_8_23 := (HS.keepc e17_8)
         by_cases c24 : (rd_T150 a0 x12).f1.f1 = (wrap64 ((wrap64 (x11 + 1)) + 1))
         · replace H := zpos c24 H
           have c24a := beq_iff_eq.mpr c24
           have c24b := bne_eq_false_iff_eq.mpr c24
           clear c24
           (try simp only [c24a, c24b, decide_true, decide_false, Bool.not_true, Bool.not_false])
           have e17_0_25 := (HS.keepc e17_0)
           have e17_1_25 := (HS.keepc e17_1)
           have e17_2_25 := (HS.keepc e17_2)
           have e17_3_25 := (HS.keepc e17_3)
           have e17_4_25 := (HS.keepc e17_4)
           have e17_5_25 := (HS.keepc e17_5)
           have e17_6_25 := (HS.keepc e17_6)
           have e17_7_25 := (HS.keepc e17_7)
           have e17_8_25 := (HS.keepc e17_8)
           by_cases c26 : (rd_T150 a0 x12).f1.f2 = (wrap64 ((wrap64 ((wrap64 (x11 + 1)) + 1)) + 1))
           · replace H := zpos c26 H
             have c26a := beq_iff_eq.mpr c26
             have c26b := bne_eq_false_iff_eq.mpr c26
             clear c26
             (try simp only [c26a, c26b, decide_true, decide_false, Bool.not_true, Bool.not_false])
             have e17_0_27 := (HS.keepc e17_0)
             have e17_1_27 := (HS.keepc e17_1)
             have e17_2_27 := (HS.keepc e17_2)
             have e17_3_27 := (HS.keepc e17_3)
             have e17_4_27 := (HS.keepc e17_4)
             have e17_5_27 := (HS.keepc e17_5)
             have e17_6_27 := (HS.keepc e17_6)
             have e17_7_27 := (HS.keepc e17_7)
             have e17_8_27 := (HS.keepc e17_8)
             by_cases c28 : (rd_T150 a0 x12).f1.f3 = (wrap64 ((wrap64 ((wrap64 ((wrap64 (x11 + 1)) + 1)) + 1)) + 1))
             · replace H := zpos c28 H
               have c28a := beq_iff_eq.mpr c28
               have c28b := bne_eq_false_iff_eq.mpr c28
               clear c28
               (try simp only [c28a, c28b, decide_true, decide_false, Bool.not_true, Bool.not_false])
               have e17_0_29 := (HS.keepc e17_0)
               have e17_1_29 := (HS.keepc e17_1)
               have e17_2_29 := (HS.keepc e17_2)
               have e17_3_29 := (HS.keepc e17_3)
               have e17_4_29 := (HS.keepc e17_4)
               have e17_5_29 := (HS.keepc e17_5)
               have e17_6_29 := (HS.keepc e17_6)
               have e17_7_29 := (HS.keepc e17_7)
               have e17_8_29 := (HS.keepc e17_8)
               by_cases c30 : (rd_T150 a0 x12).f1.f4 = (wrap64 ((wrap64 ((wrap64 ((wrap64 ((wrap64 (x11 + 1)) + 1)) + 1)) + 1)) + 1))
               · replace H := zpos c30 H
                 have c30a := beq_iff_eq.mpr c30
                 have c30b := bne_eq_false_iff_eq.mpr c30
                 clear c30
                 (try simp only [c30a, c30b, decide_true, decide_false, Bool.not_true, Bool.not_false])
                 have e17_0_31 := (HS.keepc e17_0)
                 have e17_1_31 := (HS.keepc e17_1)
                 have e17_2_31 := (HS.keepc e17_2)
                 have e17_3_31 := (HS.keepc e17_3)
                 have e17_4_31 := (HS.keepc e17_4)
                 have e17_5_31 := (HS.keepc e17_5)
                 have e17_6_31 := (HS.keepc e17_6)
                 have e17_7_31 := (HS.keepc e17_7)
                 have e17_8_31 := (HS.keepc e17_8)
                 by_cases c32 : (rd_T150 a0 x12).f1.f5 = (wrap64 ((wrap64 ((wrap64 ((wrap64 ((wrap64 ((wrap64 (x11 + 1)) + 1)) + 1)) + 1)) + 1)) + 1))
                 · replace H := zpos c32 H
                   have c32a := beq_iff_eq.mpr c32
                   have c32b := bne_eq_false_iff_eq.mpr c32
                   clear c32
                   (try simp only [c32a, c32b, decide_true, decide_false, Bool.not_true, Bool.not_false])
                   have e17_0_33 := (HS.keepc e17_0)
                   have e17_1_33 := (HS.keepc e17_1)
                   have e17_2_33 := (HS.keepc e17_2)
                   have e17_3_33 := (HS.keepc e17_3)
                   have e17_4_33 := (HS.keepc e17_4)
                   have e17_5_33 := (HS.keepc e17_5)
                   have e17_6_33 := (HS.keepc e17_6)
                   have e17_7_33 := (HS.keepc e17_7)
                   have e17_8_33 := (HS.keepc e17_8)
                   replace H := zbind H; obtain ⟨t34, ht34, H⟩ := H
                   go_upto_if 91 with (first | ((with_reducible refine gate_dst (N := 89) rfl ?_); refine ev_call rfl Try.func66 (by kernel_rfl) rfl #[.slice B17_7 (rd_T150 a0 x12).f1.f6.length d17_7, .int .i64 (wrap64 ((wrap64 ((wrap64 ((wrap64 ((wrap64 ((wrap64 ((wrap64 (x11 + 1)) + 1)) + 1)) + 1)) + 1)) + 1)) + 1))] rfl (by simp only [List.map_toArray, List.map_cons, List.map_nil]; rfl) ?_; refine (laws_heldAnswerS.calls ht34.out (HS.ro y17_7) m17_7).mono ?_; rintro _ wt34 ⟨rfl, HQ⟩; refine ⟨_, rfl, ?_⟩; replace HS := HS.call HQ; clear HQ; (try clear F); replace HS : Hp noFP w _ [] := HS))
                   by_cases c36 : t34 < 0
                   · replace H := zpos c36 H
                     replace c36 := eq_true c36
                     (try simp only [c36, decide_true, decide_false, Bool.not_true, Bool.not_false])
                     obtain rfl := zsome H
                     go_wp2
                     go_ret
                     exact ⟨rfl, HS.pick [] (by decide) (by rfl)⟩
                   · replace H := zneg c36 H
                     replace c36 := eq_false c36
                     (try simp only [c36, decide_true, decide_false, Bool.not_true, Bool.not_false])
                     (try go_wp2)
                     replace H := zbind H; obtain ⟨t207001, ht207001, H⟩ := H
                     refine dr_start [] HS #[false, false, false, false, false, false, false, false, false] (by kernel_rfl) rfl rfl laws_heldGotS.tT28 (fun w38 HT HS HH => ?_)
                     (try clear F)
                     refine drq_of [(0, some 92), (1, some 93), (2, some 94), (3, some 95), (4, some 96)] ?_
                     repeat (first | (refine drq_pure HT (v := ?_) (a' := ?_) rfl rfl (by kernel_rfl) (fun _ _ _ h => h) (.inl ⟨by rfl, ?_⟩) ?_ ?_; rotate_left; (intro w'; go_simp; with_reducible rfl); rotate_left; (simp only [Act.put, List.setIfInBounds_toArray, List.set_cons_zero, List.set_cons_succ, i64_w, i32_w]; rfl)))
                     refine drq_end ?_
                     refine dr_take 5 (some 97) HT HH (v := ?_) (a' := ?_) rfl rfl (by kernel_rfl) (fun _ _ _ h => h) (.inl ⟨by rfl, ?_⟩) ?_ ?_
                     rotate_left
                     · rintro w' ⟨rs', HS'⟩; have e17_0 := (HS'.keepc e17_0); have e17_1 := (HS'.keepc e17_1); have e17_2 := (HS'.keepc e17_2); have e17_3 := (HS'.keepc e17_3); have e17_4 := (HS'.keepc e17_4); have e17_5 := (HS'.keepc e17_5); have e17_6 := (HS'.keepc e17_6); have e17_7 := (HS'.keepc e17_7); have e17_8 := (HS'.keepc e17_8); go_simp; with_reducible rfl
                     rotate_left
                     · simp only [Act.put, List.setIfInBounds_toArray, List.set_cons_zero, List.set_cons_succ, i64_w, i32_w]; rfl
                     refine drq_of [(6, some 98)] ?_
                     repeat (first | (refine drq_pure HT (v := ?_) (a' := ?_) rfl rfl (by kernel_rfl) (fun _ _ _ h => h) (.inl ⟨by rfl, ?_⟩) ?_ ?_; rotate_left; (intro w'; go_simp; with_reducible rfl); rotate_left; (simp only [Act.put, List.setIfInBounds_toArray, List.set_cons_zero, List.set_cons_succ, i64_w, i32_w]; rfl)))
                     refine drq_end ?_
                     refine dr_one 7 HT rfl (by kernel_rfl) (by decide) (fun K hK => ?_)
                     refine goes_ Try.func110 (by kernel_rfl) rfl #[.int .i64 t34] (by rfl) rfl rfl (by simp only [List.map_toArray, List.map_cons, List.map_nil]; rfl) ?_; refine (laws_markText.calls ht207001.out).mono ?_; rintro _ wt207001 ⟨rfl, HQ⟩; refine ⟨_, rfl, ?_⟩; replace HS := HS.call HQ; clear HQ; (try clear F)
                     replace HS : Hp noFP w _ [] := HS
                     refine hK.out _ _ ⟨_, HS⟩ (fun HH => ?_)
                     clear hK K
                     refine norm_ (a' := ?_) ?_ ?_
                     rotate_left
                     · show Act.put _ (some 99) _ = _; simp only [Act.put, List.setIfInBounds_toArray, List.set_cons_zero, List.set_cons_succ, i64_w, i32_w]; rfl
                     refine drq_of [(8, some 100)] ?_
                     repeat (first | (refine drq_pure HT (v := ?_) (a' := ?_) rfl rfl (by kernel_rfl) (fun _ _ _ h => h) (.inl ⟨by rfl, ?_⟩) ?_ ?_; rotate_left; (intro w'; go_simp; with_reducible rfl); rotate_left; (simp only [Act.put, List.setIfInBounds_toArray, List.set_cons_zero, List.set_cons_succ, i64_w, i32_w]; rfl)))
                     refine drq_end ?_
                     refine done_ (done_of HT.out (by kernel_rfl)) ?_
                     by_cases c40 : ((rd_T150 a0 x12).f1.f7).toList = t207001.toList
                     · replace H := zpos c40 H
                       have c40a := beq_iff_eq.mpr c40
                       have c40b := bne_eq_false_iff_eq.mpr c40
                       clear c40
                       (try simp only [c40a, c40b, decide_true, decide_false, Bool.not_true, Bool.not_false])
                       go_wp2
                       go_roundg k10
                       case measure => have := HKk10.out; omega
                       case rel => exact ⟨_, _, rfl, rfl, H, ⟨by have := HKk10.out; omega⟩, HS.pick [] (by decide) (by rfl)⟩
                     · replace H := zneg c40 H
                       have c40a := beq_eq_false_iff_ne.mpr c40
                       have c40b := bne_iff_ne.mpr c40
                       clear c40
                       (try simp only [c40a, c40b, decide_true, decide_false, Bool.not_true, Bool.not_false])
                       obtain rfl := zsome H
                       go_wp2
                       go_ret
                       exact ⟨rfl, HS.pick [] (by decide) (by rfl)⟩
                 · replace H := zneg c32 H
                   have c32a := beq_eq_false_iff_ne.mpr c32
                   have c32b := bne_iff_ne.mpr c32
                   clear c32
                   (try simp only [c32a, c32b, decide_true, decide_false, Bool.not_true, Bool.not_false])
                   obtain rfl := zsome H
                   go_wp2
                   go_ret
                   exact ⟨rfl, HS.pick [] (by decide) (by rfl)⟩
               · replace H := zneg c30 H
                 have c30a := beq_eq_false_iff_ne.mpr c30
                 have c30b := bne_iff_ne.mpr c30
                 clear c30
                 (try simp only [c30a, c30b, decide_true, decide_false, Bool.not_true, Bool.not_false])
                 obtain rfl := zsome H
                 go_wp2
                 go_ret
                 exact ⟨rfl, HS.pick [] (by decide) (by rfl)⟩
             · replace H := zneg c28 H
               have c28a := beq_eq_false_iff_ne.mpr c28
               have c28b := bne_iff_ne.mpr c28
               clear c28
               (try simp only [c28a, c28b, decide_true, decide_false, Bool.not_true, Bool.not_false])
               obtain rfl := zsome H
               go_wp2
               go_ret
               exact ⟨rfl, HS.pick [] (by decide) (by rfl)⟩
           · replace H := zneg c26 H
             have c26a := beq_eq_false_iff_ne.mpr c26
             have c26b := bne_iff_ne.mpr c26
             clear c26
             (try simp only [c26a, c26b, decide_true, decide_false, Bool.not_true, Bool.not_false])
             obtain rfl := zsome H
             go_wp2
             go_ret
             exact ⟨rfl, HS.pick [] (by decide) (by rfl)⟩
         · replace H := zneg c24 H
           have c24a := beq_eq_false_iff_ne.mpr c24
           have c24b := bne_iff_ne.mpr c24
           clear c24
           (try simp only [c24a, c24b, decide_true, decide_false, Bool.not_true, Bool.not_false])
           obtain rfl := zsome H
           go_wp2
           go_ret
           exact ⟨rfl, HS.pick [] (by decide) (by rfl)⟩
       · replace H := zneg c22 H
         have c22a := beq_eq_false_iff_ne.mpr c22
         have c22b := bne_iff_ne.mpr c22
         clear c22
         (try simp only [c22a, c22b, decide_true, decide_false, Bool.not_true, Bool.not_false])
         obtain rfl := zsome H
         go_wp2
         go_ret
         exact ⟨rfl, HS.pick [] (by decide) (by rfl)⟩
     · replace H := zneg c18 H
       have c18a := beq_eq_false_iff_ne.mpr c18
       have c18b := bne_iff_ne.mpr c18
       clear c18
       obtain rfl := zsome H
       go_wp2
       go_ret
       exact ⟨rfl, HS.pick [] (by decide) (by rfl)⟩
   · replace H := zneg c14 H
     replace c14 := eq_false c14
     obtain rfl := zsome H
     go_wp2
     go_ret
     exact ⟨rfl, HS.pick [] (by decide) (by rfl)⟩
/-! ### laws_heldIntS: function 52 -/
def laws_heldIntS.l0 : Nat → Int → Int → (List Int) → Option (Int)
  | 0, _, _, _ => none
  | k + 1, x11, x12, a0 => (if x12 < (a0.length : Int) then (if 0 ≤ x12 then (if x12 < (a0.length : Int) then (if (rd a0 x12) = x11 then (laws_heldIntS.l0 k (wrap64 (x11 + 1)) (wrap64 (x12 + 1)) a0) else (some (-1))) else none) else none) else (some x11))
def laws_heldIntS.f (k : Nat) (a0 : (List Int)) (a1 : Int) : Option (Int) := (laws_heldIntS.l0 k a1 0 a0)
set_option maxHeartbeats 16000000 in
theorem laws_heldIntS.calls {k : Nat} {a0 : (List Int)} {a1 : Int} {Ap0 : Option Addr} {np0 cp0 : Nat} {r : Int} {w : World} (h : laws_heldIntS.f k a0 a1 = some r) (gp0 : (Kd.int .i64).C w Ap0 np0 a0) (lp0 : np0 ≤ cp0) :
    Calls Try.prog 52 #[.slice Ap0 np0 cp0, .int .i64 a1] w (fun e w' => e = .returned (.int .i64 r) ∧ Hp noFP w w' []) := by
 obtain rfl := C_len gp0
 have HS := Hp.start w
 have H := Aside0.mk h
 clear h
 unfold laws_heldIntS.f at H
 go_enter Try.func52, Try.ntmps52
 go_wp2
 go_loopg [1, 5] k (fun kq v_1 v_5 w' => ∃ (x11 : Int) (x12 : Int), v_1 = .int .i64 x11 ∧ v_5 = .int .i64 x12 ∧ Aside0 (laws_heldIntS.l0 kq x11 x12 a0 = some r) ∧ Aside0 (kq ≤ k) ∧ Hp noFP w w' [])
 case atStart => exact ⟨_, _, rfl, rfl, H, ⟨Nat.le_refl _⟩, HS⟩
 case round =>
  clear HS H; (try clear F)
  obtain ⟨x11, x12, rfl, rfl, H, HKk10, HS⟩ := hrel
  cases gk with
  | zero => exact absurd H.out (by simp [laws_heldIntS.l0])
  | succ k10 =>
   simp only [laws_heldIntS.l0] at H
   by_cases c14 : x12 < (a0.length : Int)
   · replace H := zpos c14 H
     replace c14 := eq_true c14
     by_cases c15 : 0 ≤ x12
     case neg => exact zno c15 H
     replace H := zpos c15 H
     replace c15 := eq_true c15
     by_cases c16 : x12 < (a0.length : Int)
     case neg => exact zno c16 H
     replace H := zpos c16 H
     replace c16 := eq_true c16
     obtain ⟨ad17, rfl, e17_0⟩ := Kd.at_int gp0 x12 (of_eq_true c15) (of_eq_true c16)
     have e17_0_17 := (HS.keepc e17_0)
     by_cases c18 : (rd a0 x12) = x11
     · replace H := zpos c18 H
       have c18a := beq_iff_eq.mpr c18
       have c18b := bne_eq_false_iff_eq.mpr c18
       clear c18
       go_wp2
       go_roundg k10
       case measure => have := HKk10.out; omega
       case rel => exact ⟨_, _, rfl, rfl, H, ⟨by have := HKk10.out; omega⟩, HS.pick [] (by decide) (by rfl)⟩
     · replace H := zneg c18 H
       have c18a := beq_eq_false_iff_ne.mpr c18
       have c18b := bne_iff_ne.mpr c18
       clear c18
       obtain rfl := zsome H
       go_wp2
       go_ret
       exact ⟨rfl, HS.pick [] (by decide) (by rfl)⟩
   · replace H := zneg c14 H
     replace c14 := eq_false c14
     obtain rfl := zsome H
     go_wp2
     go_ret
     exact ⟨rfl, HS.pick [] (by decide) (by rfl)⟩
/-! ### laws_heldClient: function 13 -/
def laws_heldClient.f (k : Nat) (a0 : S31) (a1 : Int) : Option (Int) := ((laws_heldWaitS.f k a0.f2 a1).bind fun t3 => (if t3 < 0 then (some (-1)) else ((laws_heldGotS.f k a0.f3 t3).bind fun t6 => (if t6 < 0 then (some (-1)) else ((laws_heldIntS.f k a0.f4 t6).bind fun t9 => (if t9 < 0 then (some (-1)) else (some t9)))))))
set_option maxHeartbeats 16000000 in
theorem laws_heldClient.calls {k : Nat} {a0 : S31} {a1 : Int} {Ap0 : Option Addr} {np0 cp0 : Nat} {Ap1 : Option Addr} {np1 cp1 : Nat} {Ap2 : Option Addr} {np2 cp2 : Nat} {r : Int} {w : World} (h : laws_heldClient.f k a0 a1 = some r) (gp0 : k89.C w Ap0 np0 a0.f2) (lp0 : np0 ≤ cp0) (gp1 : k150.C w Ap1 np1 a0.f3) (lp1 : np1 ≤ cp1) (gp2 : (Kd.int .i64).C w Ap2 np2 a0.f4) (lp2 : np2 ≤ cp2) :
    Calls Try.prog 13 #[.agg #[.string a0.f0, .int .i64 a0.f1, .slice Ap0 np0 cp0, .slice Ap1 np1 cp1, .slice Ap2 np2 cp2], .int .i64 a1] w (fun e w' => e = .returned (.int .i64 r) ∧ Hp noFP w w' []) := by
 obtain rfl := C_len gp0
 obtain rfl := C_len gp1
 obtain rfl := C_len gp2
 have HS := Hp.start w
 have H := Aside0.mk h
 clear h
 unfold laws_heldClient.f at H
 go_enter Try.func13, Try.ntmps13
 replace H := zbind H; obtain ⟨t3, ht3, H⟩ := H
 go_upto_if 10 with (first | ((with_reducible refine gate_dst (N := 2) rfl ?_); refine ev_box rfl HS (by first | (go_simp; done) | (go_simp; rfl)) rfl ?_; clear HS; (try clear F); intro g2 w2 HS; replace HS : Hp noFP w _ [.box g2 [.string a0.f0, .int .i64 a0.f1, .slice Ap0 a0.f2.length cp0, .slice Ap1 a0.f3.length cp1, .slice Ap2 a0.f4.length cp2] 31] := HS; have F := HS.boxes; simp only [boxFacts, and_true] at F) | ((with_reducible refine gate_dst (N := 8) rfl ?_); refine ev_call rfl Try.func50 (by kernel_rfl) rfl #[.slice Ap0 a0.f2.length cp0, .int .i64 a1] rfl (by simp only [List.map_toArray, List.map_cons, List.map_nil]; rfl) ?_; refine (laws_heldWaitS.calls ht3.out (HS.ro gp0) lp0).mono ?_; rintro _ wt3 ⟨rfl, HQ⟩; refine ⟨_, rfl, ?_⟩; replace HS := HS.call HQ; clear HQ; (try clear F); replace HS : Hp noFP w _ [.box g2 [.string a0.f0, .int .i64 a0.f1, .slice Ap0 a0.f2.length cp0, .slice Ap1 a0.f3.length cp1, .slice Ap2 a0.f4.length cp2] 31] := HS; have F := HS.boxes; simp only [boxFacts, and_true] at F))
 by_cases c5 : t3 < 0
 · replace H := zpos c5 H
   replace c5 := eq_true c5
   (try simp only [c5, decide_true, decide_false, Bool.not_true, Bool.not_false])
   obtain rfl := zsome H
   go_wp2
   go_ret
   exact ⟨rfl, HS.pick [] (by decide) (by rfl)⟩
 · replace H := zneg c5 H
   replace c5 := eq_false c5
   (try simp only [c5, decide_true, decide_false, Bool.not_true, Bool.not_false])
   replace H := zbind H; obtain ⟨t6, ht6, H⟩ := H
   go_upto_if 16 with (first | ((with_reducible refine gate_dst (N := 14) rfl ?_); refine ev_call rfl Try.func51 (by kernel_rfl) rfl #[.slice Ap1 a0.f3.length cp1, .int .i64 t3] rfl (by simp only [List.map_toArray, List.map_cons, List.map_nil]; rfl) ?_; refine (laws_heldGotS.calls ht6.out (HS.ro gp1) lp1).mono ?_; rintro _ wt6 ⟨rfl, HQ⟩; refine ⟨_, rfl, ?_⟩; replace HS := HS.call HQ; clear HQ; (try clear F); replace HS : Hp noFP w _ [.box g2 [.string a0.f0, .int .i64 a0.f1, .slice Ap0 a0.f2.length cp0, .slice Ap1 a0.f3.length cp1, .slice Ap2 a0.f4.length cp2] 31] := HS; have F := HS.boxes; simp only [boxFacts, and_true] at F))
   by_cases c8 : t6 < 0
   · replace H := zpos c8 H
     replace c8 := eq_true c8
     (try simp only [c8, decide_true, decide_false, Bool.not_true, Bool.not_false])
     obtain rfl := zsome H
     go_wp2
     go_ret
     exact ⟨rfl, HS.pick [] (by decide) (by rfl)⟩
   · replace H := zneg c8 H
     replace c8 := eq_false c8
     (try simp only [c8, decide_true, decide_false, Bool.not_true, Bool.not_false])
     replace H := zbind H; obtain ⟨t9, ht9, H⟩ := H
     go_upto_if 22 with (first | ((with_reducible refine gate_dst (N := 20) rfl ?_); refine ev_call rfl Try.func52 (by kernel_rfl) rfl #[.slice Ap2 a0.f4.length cp2, .int .i64 t6] rfl (by simp only [List.map_toArray, List.map_cons, List.map_nil]; rfl) ?_; refine (laws_heldIntS.calls ht9.out (HS.ro gp2) lp2).mono ?_; rintro _ wt9 ⟨rfl, HQ⟩; refine ⟨_, rfl, ?_⟩; replace HS := HS.call HQ; clear HQ; (try clear F); replace HS : Hp noFP w _ [.box g2 [.string a0.f0, .int .i64 a0.f1, .slice Ap0 a0.f2.length cp0, .slice Ap1 a0.f3.length cp1, .slice Ap2 a0.f4.length cp2] 31] := HS; have F := HS.boxes; simp only [boxFacts, and_true] at F))
     by_cases c11 : t9 < 0
     · replace H := zpos c11 H
       replace c11 := eq_true c11
       (try simp only [c11, decide_true, decide_false, Bool.not_true, Bool.not_false])
       obtain rfl := zsome H
       go_wp2
       go_ret
       exact ⟨rfl, HS.pick [] (by decide) (by rfl)⟩
     · replace H := zneg c11 H
       replace c11 := eq_false c11
       (try simp only [c11, decide_true, decide_false, Bool.not_true, Bool.not_false])
       obtain rfl := zsome H
       go_wp2
       go_ret
       exact ⟨rfl, HS.pick [] (by decide) (by rfl)⟩
/-! ### laws_szWait: function 102 -/
def laws_szWait.f (a0 : S154) (a1 : Int) : Option (Int) := (if (wrap64 (a1 - (a0.f2.size : Int))) < 0 then (some (-1)) else (some (wrap64 (a1 - (a0.f2.size : Int)))))
set_option maxHeartbeats 16000000 in
theorem laws_szWait.calls {a0 : S154} {a1 : Int} {r : Int} {w : World} (h : laws_szWait.f a0 a1 = some r) :
    Calls Try.prog 102 #[.agg #[.int .i64 a0.f0, .int .i64 a0.f1, .string a0.f2, .int .i64 a0.f3], .int .i64 a1] w (fun e w' => e = .returned (.int .i64 r) ∧ Hp noFP w w' []) := by
 have HS := Hp.start w
 have H := Aside0.mk h
 clear h
 unfold laws_szWait.f at H
 go_enter Try.func102, Try.ntmps102
 go_upto_if 11 with (first | ((with_reducible refine gate_dst (N := 2) rfl ?_); refine ev_box rfl HS (by first | (go_simp; done) | (go_simp; rfl)) rfl ?_; clear HS; (try clear F); intro g2 w2 HS; replace HS : Hp noFP w _ [.box g2 [.int .i64 a0.f0, .int .i64 a0.f1, .string a0.f2, .int .i64 a0.f3] 154] := HS; have F := HS.boxes; simp only [boxFacts, and_true] at F))
 by_cases c3 : (wrap64 (a1 - (a0.f2.size : Int))) < 0
 · replace H := zpos c3 H
   replace c3 := eq_true c3
   (try simp only [c3, decide_true, decide_false, Bool.not_true, Bool.not_false])
   obtain rfl := zsome H
   go_wp2
   go_ret
   exact ⟨rfl, HS.pick [] (by decide) (by rfl)⟩
 · replace H := zneg c3 H
   replace c3 := eq_false c3
   (try simp only [c3, decide_true, decide_false, Bool.not_true, Bool.not_false])
   obtain rfl := zsome H
   go_wp2
   go_ret
   exact ⟨rfl, HS.pick [] (by decide) (by rfl)⟩
/-! ### laws_szWaitS: function 36 -/
def laws_szWaitS.l0 : Nat → Int → Int → (List S154) → Option (Int)
  | 0, _, _, _ => none
  | k + 1, x12, x13, a0 => (if x13 < (a0.length : Int) then (if 0 ≤ x13 then (if x13 < (a0.length : Int) then ((laws_szWait.f (rd_T154 a0 x13) x12).bind fun t19 => (if t19 < 0 then (some (-1)) else (laws_szWaitS.l0 k t19 (wrap64 (x13 + 1)) a0))) else none) else none) else (some x12))
def laws_szWaitS.f (k : Nat) (a0 : (List S154)) (a1 : Int) : Option (Int) := (if (wrap64 (a1 - (a0.length : Int))) < 0 then (some (-1)) else (laws_szWaitS.l0 k (wrap64 (a1 - (a0.length : Int))) 0 a0))
set_option maxHeartbeats 16000000 in
theorem laws_szWaitS.calls {k : Nat} {a0 : (List S154)} {a1 : Int} {Ap0 : Option Addr} {np0 cp0 : Nat} {r : Int} {w : World} (h : laws_szWaitS.f k a0 a1 = some r) (gp0 : k154.C w Ap0 np0 a0) (lp0 : np0 ≤ cp0) :
    Calls Try.prog 36 #[.slice Ap0 np0 cp0, .int .i64 a1] w (fun e w' => e = .returned (.int .i64 r) ∧ Hp noFP w w' []) := by
 obtain rfl := C_len gp0
 have HS := Hp.start w
 have H := Aside0.mk h
 clear h
 unfold laws_szWaitS.f at H
 go_enter Try.func36, Try.ntmps36
 by_cases c1 : (wrap64 (a1 - (a0.length : Int))) < 0
 · replace H := zpos c1 H
   replace c1 := eq_true c1
   obtain rfl := zsome H
   go_wp2
   go_ret
   exact ⟨rfl, HS.pick [] (by decide) (by rfl)⟩
 · replace H := zneg c1 H
   replace c1 := eq_false c1
   go_wp2
   go_loopg [1, 5] k (fun kq v_1 v_5 w' => ∃ (x12 : Int) (x13 : Int), v_1 = .int .i64 x12 ∧ v_5 = .int .i64 x13 ∧ Aside0 (laws_szWaitS.l0 kq x12 x13 a0 = some r) ∧ Aside0 (kq ≤ k) ∧ Hp noFP w w' [])
   case atStart => exact ⟨_, _, rfl, rfl, H, ⟨Nat.le_refl _⟩, HS⟩
   case round =>
    clear HS H; (try clear F)
    obtain ⟨x12, x13, rfl, rfl, H, HKk11, HS⟩ := hrel
    cases gk with
    | zero => exact absurd H.out (by simp [laws_szWaitS.l0])
    | succ k11 =>
     simp only [laws_szWaitS.l0] at H
     by_cases c15 : x13 < (a0.length : Int)
     · replace H := zpos c15 H
       replace c15 := eq_true c15
       by_cases c16 : 0 ≤ x13
       case neg => exact zno c16 H
       replace H := zpos c16 H
       replace c16 := eq_true c16
       by_cases c17 : x13 < (a0.length : Int)
       case neg => exact zno c17 H
       replace H := zpos c17 H
       replace c17 := eq_true c17
       obtain ⟨ad18, rfl, e18_0, e18_1, e18_2, e18_3⟩ := at_T154 gp0 x13 (of_eq_true c16) (of_eq_true c17)
       have e18_0_18 := (HS.keepc e18_0)
       have e18_1_18 := (HS.keepc e18_1)
       have e18_2_18 := (HS.keepc e18_2)
       have e18_3_18 := (HS.keepc e18_3)
       replace H := zbind H; obtain ⟨t19, ht19, H⟩ := H
       go_upto_if 25 with (first | ((with_reducible refine gate_dst (N := 23) rfl ?_); refine ev_call rfl Try.func102 (by kernel_rfl) rfl #[.agg #[.int .i64 ((rd_T154 a0 x13).f0), .int .i64 ((rd_T154 a0 x13).f1), .string ((rd_T154 a0 x13).f2), .int .i64 ((rd_T154 a0 x13).f3)], .int .i64 x12] rfl (by simp only [List.map_toArray, List.map_cons, List.map_nil]; rfl) ?_; refine (laws_szWait.calls ht19.out).mono ?_; rintro _ wt19 ⟨rfl, HQ⟩; refine ⟨_, rfl, ?_⟩; replace HS := HS.call HQ; clear HQ; (try clear F); replace HS : Hp noFP w _ [] := HS))
       by_cases c21 : t19 < 0
       · replace H := zpos c21 H
         replace c21 := eq_true c21
         (try simp only [c21, decide_true, decide_false, Bool.not_true, Bool.not_false])
         obtain rfl := zsome H
         go_wp2
         go_ret
         exact ⟨rfl, HS.pick [] (by decide) (by rfl)⟩
       · replace H := zneg c21 H
         replace c21 := eq_false c21
         (try simp only [c21, decide_true, decide_false, Bool.not_true, Bool.not_false])
         go_wp2
         go_roundg k11
         case measure => have := HKk11.out; omega
         case rel => exact ⟨_, _, rfl, rfl, H, ⟨by have := HKk11.out; omega⟩, HS.pick [] (by decide) (by rfl)⟩
     · replace H := zneg c15 H
       replace c15 := eq_false c15
       obtain rfl := zsome H
       go_wp2
       go_ret
       exact ⟨rfl, HS.pick [] (by decide) (by rfl)⟩
/-! ### laws_szStringS: function 90 -/
def laws_szStringS.l0 : Nat → Int → Int → (List ByteArray) → Option (Int)
  | 0, _, _, _ => none
  | k + 1, x9, x10, a0 => (if x10 < (a0.length : Int) then (if 0 ≤ x10 then (if x10 < (a0.length : Int) then (if (wrap64 (x9 - ((rdOf ByteArray.empty a0 x10).size : Int))) < 0 then (some (-1)) else (laws_szStringS.l0 k (wrap64 (x9 - ((rdOf ByteArray.empty a0 x10).size : Int))) (wrap64 (x10 + 1)) a0)) else none) else none) else (some x9))
def laws_szStringS.f (k : Nat) (a0 : (List ByteArray)) (a1 : Int) : Option (Int) := (if (wrap64 (a1 - (a0.length : Int))) < 0 then (some (-1)) else (laws_szStringS.l0 k (wrap64 (a1 - (a0.length : Int))) 0 a0))
set_option maxHeartbeats 16000000 in
theorem laws_szStringS.calls {k : Nat} {a0 : (List ByteArray)} {a1 : Int} {Ap0 : Option Addr} {np0 cp0 : Nat} {r : Int} {w : World} (h : laws_szStringS.f k a0 a1 = some r) (gp0 : Kd.string.C w Ap0 np0 a0) (lp0 : np0 ≤ cp0) :
    Calls Try.prog 90 #[.slice Ap0 np0 cp0, .int .i64 a1] w (fun e w' => e = .returned (.int .i64 r) ∧ Hp noFP w w' []) := by
 obtain rfl := C_len gp0
 have HS := Hp.start w
 have H := Aside0.mk h
 clear h
 unfold laws_szStringS.f at H
 go_enter Try.func90, Try.ntmps90
 by_cases c1 : (wrap64 (a1 - (a0.length : Int))) < 0
 · replace H := zpos c1 H
   replace c1 := eq_true c1
   obtain rfl := zsome H
   go_wp2
   go_ret
   exact ⟨rfl, HS.pick [] (by decide) (by rfl)⟩
 · replace H := zneg c1 H
   replace c1 := eq_false c1
   go_wp2
   go_loopg [1, 5] k (fun kq v_1 v_5 w' => ∃ (x9 : Int) (x10 : Int), v_1 = .int .i64 x9 ∧ v_5 = .int .i64 x10 ∧ Aside0 (laws_szStringS.l0 kq x9 x10 a0 = some r) ∧ Aside0 (kq ≤ k) ∧ Hp noFP w w' [])
   case atStart => exact ⟨_, _, rfl, rfl, H, ⟨Nat.le_refl _⟩, HS⟩
   case round =>
    clear HS H; (try clear F)
    obtain ⟨x9, x10, rfl, rfl, H, HKk8, HS⟩ := hrel
    cases gk with
    | zero => exact absurd H.out (by simp [laws_szStringS.l0])
    | succ k8 =>
     simp only [laws_szStringS.l0] at H
     by_cases c12 : x10 < (a0.length : Int)
     · replace H := zpos c12 H
       replace c12 := eq_true c12
       by_cases c13 : 0 ≤ x10
       case neg => exact zno c13 H
       replace H := zpos c13 H
       replace c13 := eq_true c13
       by_cases c14 : x10 < (a0.length : Int)
       case neg => exact zno c14 H
       replace H := zpos c14 H
       replace c14 := eq_true c14
       obtain ⟨ad15, rfl, e15_0⟩ := Kd.at_string gp0 x10 (of_eq_true c13) (of_eq_true c14)
       have e15_0_15 := (HS.keepc e15_0)
       by_cases c16 : (wrap64 (x9 - ((rdOf ByteArray.empty a0 x10).size : Int))) < 0
       · replace H := zpos c16 H
         replace c16 := eq_true c16
         obtain rfl := zsome H
         go_wp2
         go_ret
         exact ⟨rfl, HS.pick [] (by decide) (by rfl)⟩
       · replace H := zneg c16 H
         replace c16 := eq_false c16
         go_wp2
         go_roundg k8
         case measure => have := HKk8.out; omega
         case rel => exact ⟨_, _, rfl, rfl, H, ⟨by have := HKk8.out; omega⟩, HS.pick [] (by decide) (by rfl)⟩
     · replace H := zneg c12 H
       replace c12 := eq_false c12
       obtain rfl := zsome H
       go_wp2
       go_ret
       exact ⟨rfl, HS.pick [] (by decide) (by rfl)⟩
/-! ### laws_szAnswer: function 188 -/
def laws_szAnswer.f (k : Nat) (a0 : S241) (a1 : Int) : Option (Int) := ((laws_szStringS.f k a0.f2 a1).bind fun t3 => (if t3 < 0 then (some (-1)) else ((laws_szStringS.f k a0.f3 t3).bind fun t6 => (if t6 < 0 then (some (-1)) else (some t6)))))
set_option maxHeartbeats 16000000 in
theorem laws_szAnswer.calls {k : Nat} {a0 : S241} {a1 : Int} {Ap0 : Option Addr} {np0 cp0 : Nat} {Ap1 : Option Addr} {np1 cp1 : Nat} {r : Int} {w : World} (h : laws_szAnswer.f k a0 a1 = some r) (gp0 : Kd.string.C w Ap0 np0 a0.f2) (lp0 : np0 ≤ cp0) (gp1 : Kd.string.C w Ap1 np1 a0.f3) (lp1 : np1 ≤ cp1) :
    Calls Try.prog 188 #[.agg #[.int .i64 a0.f0, .int .i64 a0.f1, .slice Ap0 np0 cp0, .slice Ap1 np1 cp1], .int .i64 a1] w (fun e w' => e = .returned (.int .i64 r) ∧ Hp noFP w w' []) := by
 obtain rfl := C_len gp0
 obtain rfl := C_len gp1
 have HS := Hp.start w
 have H := Aside0.mk h
 clear h
 unfold laws_szAnswer.f at H
 go_enter Try.func188, Try.ntmps188
 replace H := zbind H; obtain ⟨t3, ht3, H⟩ := H
 go_upto_if 10 with (first | ((with_reducible refine gate_dst (N := 2) rfl ?_); refine ev_box rfl HS (by first | (go_simp; done) | (go_simp; rfl)) rfl ?_; clear HS; (try clear F); intro g2 w2 HS; replace HS : Hp noFP w _ [.box g2 [.int .i64 a0.f0, .int .i64 a0.f1, .slice Ap0 a0.f2.length cp0, .slice Ap1 a0.f3.length cp1] 241] := HS; have F := HS.boxes; simp only [boxFacts, and_true] at F) | ((with_reducible refine gate_dst (N := 8) rfl ?_); refine ev_call rfl Try.func90 (by kernel_rfl) rfl #[.slice Ap0 a0.f2.length cp0, .int .i64 a1] rfl (by simp only [List.map_toArray, List.map_cons, List.map_nil]; rfl) ?_; refine (laws_szStringS.calls ht3.out (HS.ro gp0) lp0).mono ?_; rintro _ wt3 ⟨rfl, HQ⟩; refine ⟨_, rfl, ?_⟩; replace HS := HS.call HQ; clear HQ; (try clear F); replace HS : Hp noFP w _ [.box g2 [.int .i64 a0.f0, .int .i64 a0.f1, .slice Ap0 a0.f2.length cp0, .slice Ap1 a0.f3.length cp1] 241] := HS; have F := HS.boxes; simp only [boxFacts, and_true] at F))
 by_cases c5 : t3 < 0
 · replace H := zpos c5 H
   replace c5 := eq_true c5
   (try simp only [c5, decide_true, decide_false, Bool.not_true, Bool.not_false])
   obtain rfl := zsome H
   go_wp2
   go_ret
   exact ⟨rfl, HS.pick [] (by decide) (by rfl)⟩
 · replace H := zneg c5 H
   replace c5 := eq_false c5
   (try simp only [c5, decide_true, decide_false, Bool.not_true, Bool.not_false])
   replace H := zbind H; obtain ⟨t6, ht6, H⟩ := H
   go_upto_if 16 with (first | ((with_reducible refine gate_dst (N := 14) rfl ?_); refine ev_call rfl Try.func90 (by kernel_rfl) rfl #[.slice Ap1 a0.f3.length cp1, .int .i64 t3] rfl (by simp only [List.map_toArray, List.map_cons, List.map_nil]; rfl) ?_; refine (laws_szStringS.calls ht6.out (HS.ro gp1) lp1).mono ?_; rintro _ wt6 ⟨rfl, HQ⟩; refine ⟨_, rfl, ?_⟩; replace HS := HS.call HQ; clear HQ; (try clear F); replace HS : Hp noFP w _ [.box g2 [.int .i64 a0.f0, .int .i64 a0.f1, .slice Ap0 a0.f2.length cp0, .slice Ap1 a0.f3.length cp1] 241] := HS; have F := HS.boxes; simp only [boxFacts, and_true] at F))
   by_cases c8 : t6 < 0
   · replace H := zpos c8 H
     replace c8 := eq_true c8
     (try simp only [c8, decide_true, decide_false, Bool.not_true, Bool.not_false])
     obtain rfl := zsome H
     go_wp2
     go_ret
     exact ⟨rfl, HS.pick [] (by decide) (by rfl)⟩
   · replace H := zneg c8 H
     replace c8 := eq_false c8
     (try simp only [c8, decide_true, decide_false, Bool.not_true, Bool.not_false])
     obtain rfl := zsome H
     go_wp2
     go_ret
     exact ⟨rfl, HS.pick [] (by decide) (by rfl)⟩
/-! ### laws_szAnswerS: function 176 -/
def laws_szAnswerS.l0 : Nat → Int → Int → (List S241) → Option (Int)
  | 0, _, _, _ => none
  | k + 1, x12, x13, a0 => (if x13 < (a0.length : Int) then (if 0 ≤ x13 then (if x13 < (a0.length : Int) then ((laws_szAnswer.f k (rd_T241 a0 x13) x12).bind fun t19 => (if t19 < 0 then (some (-1)) else (laws_szAnswerS.l0 k t19 (wrap64 (x13 + 1)) a0))) else none) else none) else (some x12))
def laws_szAnswerS.f (k : Nat) (a0 : (List S241)) (a1 : Int) : Option (Int) := (if (wrap64 (a1 - (a0.length : Int))) < 0 then (some (-1)) else (laws_szAnswerS.l0 k (wrap64 (a1 - (a0.length : Int))) 0 a0))
set_option maxHeartbeats 16000000 in
theorem laws_szAnswerS.calls {k : Nat} {a0 : (List S241)} {a1 : Int} {Ap0 : Option Addr} {np0 cp0 : Nat} {r : Int} {w : World} (h : laws_szAnswerS.f k a0 a1 = some r) (gp0 : k241.C w Ap0 np0 a0) (lp0 : np0 ≤ cp0) :
    Calls Try.prog 176 #[.slice Ap0 np0 cp0, .int .i64 a1] w (fun e w' => e = .returned (.int .i64 r) ∧ Hp noFP w w' []) := by
 obtain rfl := C_len gp0
 have HS := Hp.start w
 have H := Aside0.mk h
 clear h
 unfold laws_szAnswerS.f at H
 go_enter Try.func176, Try.ntmps176
 by_cases c1 : (wrap64 (a1 - (a0.length : Int))) < 0
 · replace H := zpos c1 H
   replace c1 := eq_true c1
   obtain rfl := zsome H
   go_wp2
   go_ret
   exact ⟨rfl, HS.pick [] (by decide) (by rfl)⟩
 · replace H := zneg c1 H
   replace c1 := eq_false c1
   go_wp2
   go_loopg [1, 5] k (fun kq v_1 v_5 w' => ∃ (x12 : Int) (x13 : Int), v_1 = .int .i64 x12 ∧ v_5 = .int .i64 x13 ∧ Aside0 (laws_szAnswerS.l0 kq x12 x13 a0 = some r) ∧ Aside0 (kq ≤ k) ∧ Hp noFP w w' [])
   case atStart => exact ⟨_, _, rfl, rfl, H, ⟨Nat.le_refl _⟩, HS⟩
   case round =>
    clear HS H; (try clear F)
    obtain ⟨x12, x13, rfl, rfl, H, HKk11, HS⟩ := hrel
    cases gk with
    | zero => exact absurd H.out (by simp [laws_szAnswerS.l0])
    | succ k11 =>
     simp only [laws_szAnswerS.l0] at H
     by_cases c15 : x13 < (a0.length : Int)
     · replace H := zpos c15 H
       replace c15 := eq_true c15
       by_cases c16 : 0 ≤ x13
       case neg => exact zno c16 H
       replace H := zpos c16 H
       replace c16 := eq_true c16
       by_cases c17 : x13 < (a0.length : Int)
       case neg => exact zno c17 H
       replace H := zpos c17 H
       replace c17 := eq_true c17
       obtain ⟨ad18, B18_2, d18_2, B18_3, d18_3, rfl, e18_0, e18_1, e18_2, e18_3, m18_2, y18_2, m18_3, y18_3⟩ := at_T241 gp0 x13 (of_eq_true c16) (of_eq_true c17)
       have e18_0_18 := (HS.keepc e18_0)
       have e18_1_18 := (HS.keepc e18_1)
       have e18_2_18 := (HS.keepc e18_2)
       have e18_3_18 := (HS.keepc e18_3)
       replace H := zbind H; obtain ⟨t19, ht19, H⟩ := H
       go_upto_if 25 with (first | ((with_reducible refine gate_dst (N := 23) rfl ?_); refine ev_call rfl Try.func188 (by kernel_rfl) rfl #[.agg #[.int .i64 ((rd_T241 a0 x13).f0), .int .i64 ((rd_T241 a0 x13).f1), .slice B18_2 (rd_T241 a0 x13).f2.length d18_2, .slice B18_3 (rd_T241 a0 x13).f3.length d18_3], .int .i64 x12] rfl (by simp only [List.map_toArray, List.map_cons, List.map_nil]; rfl) ?_; refine (laws_szAnswer.calls ht19.out (HS.ro y18_2) m18_2 (HS.ro y18_3) m18_3).mono ?_; rintro _ wt19 ⟨rfl, HQ⟩; refine ⟨_, rfl, ?_⟩; replace HS := HS.call HQ; clear HQ; (try clear F); replace HS : Hp noFP w _ [] := HS))
       by_cases c21 : t19 < 0
       · replace H := zpos c21 H
         replace c21 := eq_true c21
         (try simp only [c21, decide_true, decide_false, Bool.not_true, Bool.not_false])
         obtain rfl := zsome H
         go_wp2
         go_ret
         exact ⟨rfl, HS.pick [] (by decide) (by rfl)⟩
       · replace H := zneg c21 H
         replace c21 := eq_false c21
         (try simp only [c21, decide_true, decide_false, Bool.not_true, Bool.not_false])
         go_wp2
         go_roundg k11
         case measure => have := HKk11.out; omega
         case rel => exact ⟨_, _, rfl, rfl, H, ⟨by have := HKk11.out; omega⟩, HS.pick [] (by decide) (by rfl)⟩
     · replace H := zneg c15 H
       replace c15 := eq_false c15
       obtain rfl := zsome H
       go_wp2
       go_ret
       exact ⟨rfl, HS.pick [] (by decide) (by rfl)⟩
end Go.Proofs.Ytoaoncnbimcdgaa.F

/- Functions of the program and of the law, and that their calls do what is written here. -/
import Derived.Test.YtoaoncnbimcdgaaZgFnExactAskNowb
namespace Go.Proofs.Ytoaoncnbimcdgaa.F
open Go.RowKit Go.Proofs.YtoaoncnbimcdgaaW.PrintWords Go.Proofs.YtoaoncnbimcdgaaW.PrintLast Go.Proofs.YtoaoncnbimcdgaaW.PrintMore Go.Proofs.Ytoaoncnbimcdgaa.Z
attribute [local go_sem] max2_int min2_int max_two min_two max_three min_three max_four min_four
set_option linter.unusedVariables false
set_option linter.unusedSimpArgs false
set_option maxRecDepth 100000
/-! ### laws_heldStringS: function 125 -/
def laws_heldStringS.l0 : Nat → Int → Int → (List ByteArray) → Option (Int)
  | 0, _, _, _ => none
  | k + 1, x9, x10, a0 => (if x10 < (a0.length : Int) then (if 0 ≤ x10 then (if x10 < (a0.length : Int) then ((laws_markText.f k x9).bind fun t205001 => (if (rdOf ByteArray.empty a0 x10).toList = t205001.toList then (laws_heldStringS.l0 k (wrap64 (x9 + 1)) (wrap64 (x10 + 1)) a0) else (some (-1)))) else none) else none) else (some x9))
def laws_heldStringS.f (k : Nat) (a0 : (List ByteArray)) (a1 : Int) : Option (Int) := (laws_heldStringS.l0 k a1 0 a0)
def laws_heldStringS.T4 : Bool × List (List Nat × List Nat) := (true, [([], []), ([], []), ([0, 1], [0, 1]), ([2], [2]), ([], []), ([4], [4]), ([3, 5], [3, 5])])
theorem laws_heldStringS.tT4 : rtab .any (opsOf Try.f125 4) = laws_heldStringS.T4 := by kernel_rfl
set_option maxHeartbeats 16000000 in
theorem laws_heldStringS.calls {k : Nat} {a0 : (List ByteArray)} {a1 : Int} {Ap0 : Option Addr} {np0 cp0 : Nat} {r : Int} {w : World} (h : laws_heldStringS.f k a0 a1 = some r) (gp0 : Kd.string.C w Ap0 np0 a0) (lp0 : np0 ≤ cp0) :
    Calls Try.prog 125 #[.slice Ap0 np0 cp0, .int .i64 a1] w (fun e w' => e = .returned (.int .i64 r) ∧ Hp noFP w w' []) := by
 obtain rfl := C_len gp0
 have HS := Hp.start w
 have H := Aside0.mk h
 clear h
 unfold laws_heldStringS.f at H
 go_enter Try.func125, Try.ntmps125
 go_wp2
 go_loopg [1, 5] k (fun kq v_1 v_5 w' => ∃ (x9 : Int) (x10 : Int), v_1 = .int .i64 x9 ∧ v_5 = .int .i64 x10 ∧ Aside0 (laws_heldStringS.l0 kq x9 x10 a0 = some r) ∧ Aside0 (kq ≤ k) ∧ Hp noFP w w' [])
 case atStart => exact ⟨_, _, rfl, rfl, H, ⟨Nat.le_refl _⟩, HS⟩
 case round =>
  clear HS H; (try clear F)
  obtain ⟨x9, x10, rfl, rfl, H, HKk8, HS⟩ := hrel
  cases gk with
  | zero => exact absurd H.out (by simp [laws_heldStringS.l0])
  | succ k8 =>
   simp only [laws_heldStringS.l0] at H
   by_cases c12 : x10 < (a0.length : Int)
   · replace H := zpos c12 H
     replace c12 := eq_true c12
     (try go_wp2)
     by_cases c202001 : 0 ≤ x10
     case neg => exact zno c202001 H
     replace H := zpos c202001 H
     replace c202001 := eq_true c202001
     by_cases c202002 : x10 < (a0.length : Int)
     case neg => exact zno c202002 H
     replace H := zpos c202002 H
     replace c202002 := eq_true c202002
     obtain ⟨ad202999, rfl, e202999_0⟩ := Kd.at_string gp0 x10 (of_eq_true c202001) (of_eq_true c202002)
     replace H := zbind H; obtain ⟨t205001, ht205001, H⟩ := H
     refine dr_start [] HS #[false, false, false, false, false, false, false] (by kernel_rfl) rfl rfl laws_heldStringS.tT4 (fun w14 HT HS HH => ?_)
     (try clear F)
     refine drq_of [(0, some 12), (1, some 13), (2, some 14)] ?_
     repeat (first | (refine drq_pure HT (v := ?_) (a' := ?_) rfl rfl (by kernel_rfl) (fun _ _ _ h => h) (.inl ⟨by rfl, ?_⟩) ?_ ?_; rotate_left; (intro w'; go_simp; with_reducible rfl); rotate_left; (simp only [Act.put, List.setIfInBounds_toArray, List.set_cons_zero, List.set_cons_succ, i64_w, i32_w]; rfl)))
     refine drq_end ?_
     refine dr_take 3 (some 15) HT HH (v := ?_) (a' := ?_) rfl rfl (by kernel_rfl) (fun _ _ _ h => h) (.inl ⟨by rfl, ?_⟩) ?_ ?_
     rotate_left
     · rintro w' ⟨rs', HS'⟩; have e202999_0 := (HS'.keepc e202999_0); go_simp; with_reducible rfl
     rotate_left
     · simp only [Act.put, List.setIfInBounds_toArray, List.set_cons_zero, List.set_cons_succ, i64_w, i32_w]; rfl
     refine drq_of [(4, some 16)] ?_
     repeat (first | (refine drq_pure HT (v := ?_) (a' := ?_) rfl rfl (by kernel_rfl) (fun _ _ _ h => h) (.inl ⟨by rfl, ?_⟩) ?_ ?_; rotate_left; (intro w'; go_simp; with_reducible rfl); rotate_left; (simp only [Act.put, List.setIfInBounds_toArray, List.set_cons_zero, List.set_cons_succ, i64_w, i32_w]; rfl)))
     refine drq_end ?_
     refine dr_one 5 HT rfl (by kernel_rfl) (by decide) (fun K hK => ?_)
     refine goes_ Try.func110 (by kernel_rfl) rfl #[.int .i64 x9] (by rfl) rfl rfl (by simp only [List.map_toArray, List.map_cons, List.map_nil]; rfl) ?_; refine (laws_markText.calls ht205001.out).mono ?_; rintro _ wt205001 ⟨rfl, HQ⟩; refine ⟨_, rfl, ?_⟩; replace HS := HS.call HQ; clear HQ; (try clear F)
     (try simp only [hpn, hpm] at HS)
     refine hK.out _ _ ⟨_, HS⟩ (fun HH => ?_)
     clear hK K
     refine norm_ (a' := ?_) ?_ ?_
     rotate_left
     · show Act.put _ (some 17) _ = _; simp only [Act.put, List.setIfInBounds_toArray, List.set_cons_zero, List.set_cons_succ, i64_w, i32_w]; rfl
     refine drq_of [(6, some 18)] ?_
     repeat (first | (refine drq_pure HT (v := ?_) (a' := ?_) rfl rfl (by kernel_rfl) (fun _ _ _ h => h) (.inl ⟨by rfl, ?_⟩) ?_ ?_; rotate_left; (intro w'; go_simp; with_reducible rfl); rotate_left; (simp only [Act.put, List.setIfInBounds_toArray, List.set_cons_zero, List.set_cons_succ, i64_w, i32_w]; rfl)))
     refine drq_end ?_
     refine done_ (done_of HT.out (by kernel_rfl)) ?_
     by_cases c16 : (rdOf ByteArray.empty a0 x10).toList = t205001.toList
     · replace H := zpos c16 H
       have c16a := beq_iff_eq.mpr c16
       have c16b := bne_eq_false_iff_eq.mpr c16
       clear c16
       (try simp only [c16a, c16b, dcn])
       go_wp2
       go_roundg k8
       case measure => have := HKk8.out; omega
       case rel => exact ⟨_, _, rfl, rfl, H, ⟨by have := HKk8.out; omega⟩, HS.pick [] (by decide) (by rfl)⟩
     · replace H := zneg c16 H
       have c16a := beq_eq_false_iff_ne.mpr c16
       have c16b := bne_iff_ne.mpr c16
       clear c16
       (try simp only [c16a, c16b, dcn])
       obtain rfl := zsome H
       go_wp2
       go_ret
       exact ⟨rfl, HS.pick [] (by decide) (by rfl)⟩
   · replace H := zneg c12 H
     replace c12 := eq_false c12
     obtain rfl := zsome H
     go_wp2
     go_ret
     exact ⟨rfl, HS.pick [] (by decide) (by rfl)⟩
/-! ### laws_heldAnswerS: function 66 -/
def laws_heldAnswerS.l0 : Nat → Int → Int → (List S109) → Option (Int)
  | 0, _, _, _ => none
  | k + 1, x11, x12, a0 => (if x12 < (a0.length : Int) then (if 0 ≤ x12 then (if x12 < (a0.length : Int) then (if (rd_T109 a0 x12).f0 = x11 then (if (rd_T109 a0 x12).f1 = (wrap64 (x11 + 1)) then ((laws_heldStringS.f k ((rd_T109 a0 x12).f2) (wrap64 ((wrap64 (x11 + 1)) + 1))).bind fun t22 => (if t22 < 0 then (some (-1)) else ((laws_heldStringS.f k ((rd_T109 a0 x12).f3) t22).bind fun t26 => (if t26 < 0 then (some (-1)) else (laws_heldAnswerS.l0 k t26 (wrap64 (x12 + 1)) a0))))) else (some (-1))) else (some (-1))) else none) else none) else (some x11))
def laws_heldAnswerS.f (k : Nat) (a0 : (List S109)) (a1 : Int) : Option (Int) := (laws_heldAnswerS.l0 k a1 0 a0)
set_option maxHeartbeats 16000000 in
theorem laws_heldAnswerS.calls {k : Nat} {a0 : (List S109)} {a1 : Int} {Ap0 : Option Addr} {np0 cp0 : Nat} {r : Int} {w : World} (h : laws_heldAnswerS.f k a0 a1 = some r) (gp0 : k109.C w Ap0 np0 a0) (lp0 : np0 ≤ cp0) :
    Calls Try.prog 66 #[.slice Ap0 np0 cp0, .int .i64 a1] w (fun e w' => e = .returned (.int .i64 r) ∧ Hp noFP w w' []) := by
 obtain rfl := C_len gp0
 have HS := Hp.start w
 have H := Aside0.mk h
 clear h
 unfold laws_heldAnswerS.f at H
 go_enter Try.func66, Try.ntmps66
 go_wp2
 go_loopg [1, 5] k (fun kq v_1 v_5 w' => ∃ (x11 : Int) (x12 : Int), v_1 = .int .i64 x11 ∧ v_5 = .int .i64 x12 ∧ Aside0 (laws_heldAnswerS.l0 kq x11 x12 a0 = some r) ∧ Aside0 (kq ≤ k) ∧ Hp noFP w w' [])
 case atStart => exact ⟨_, _, rfl, rfl, H, ⟨Nat.le_refl _⟩, HS⟩
 case round =>
  clear HS H; (try clear F)
  obtain ⟨x11, x12, rfl, rfl, H, HKk10, HS⟩ := hrel
  cases gk with
  | zero => exact absurd H.out (by simp [laws_heldAnswerS.l0])
  | succ k10 =>
   simp only [laws_heldAnswerS.l0] at H
   by_cases c14 : x12 < (a0.length : Int)
   · replace H := zpos c14 H
     replace c14 := eq_true c14
     by_cases c15 : 0 ≤ x12
     case neg => exact zno c15 H
     replace H := zpos c15 H
     replace c15 := eq_true c15
     by_cases c16 : x12 < (a0.length : Int)
     case neg => exact zno c16 H
     replace H := zpos c16 H
     replace c16 := eq_true c16
     obtain ⟨ad17, B17_2, d17_2, B17_3, d17_3, rfl, e17_0, e17_1, e17_2, e17_3, m17_2, y17_2, m17_3, y17_3⟩ := at_T109 gp0 x12 (of_eq_true c15) (of_eq_true c16)
     have e17_0_17 := (HS.keepc e17_0)
     have e17_1_17 := (HS.keepc e17_1)
     have e17_2_17 := (HS.keepc e17_2)
     have e17_3_17 := (HS.keepc e17_3)
     by_cases c18 : (rd_T109 a0 x12).f0 = x11
     · replace H := zpos c18 H
       have c18a := beq_iff_eq.mpr c18
       have c18b := bne_eq_false_iff_eq.mpr c18
       clear c18
       have e17_0_19 := (HS.keepc e17_0)
       have e17_1_19 := (HS.keepc e17_1)
       have e17_2_19 := (HS.keepc e17_2)
       have e17_3_19 := (HS.keepc e17_3)
       by_cases c20 : (rd_T109 a0 x12).f1 = (wrap64 (x11 + 1))
       · replace H := zpos c20 H
         have c20a := beq_iff_eq.mpr c20
         have c20b := bne_eq_false_iff_eq.mpr c20
         clear c20
         have e17_0_21 := (HS.keepc e17_0)
         have e17_1_21 := (HS.keepc e17_1)
         have e17_2_21 := (HS.keepc e17_2)
         have e17_3_21 := (HS.keepc e17_3)
         replace H := zbind H; obtain ⟨t22, ht22, H⟩ := H
         go_upto_if 38 with (first | ((with_reducible refine gate_dst (N := 36) rfl ?_); refine ev_call rfl Try.func125 (by kernel_rfl) rfl #[.slice B17_2 (rd_T109 a0 x12).f2.length d17_2, .int .i64 (wrap64 ((wrap64 (x11 + 1)) + 1))] rfl (by simp only [List.map_toArray, List.map_cons, List.map_nil]; rfl) ?_; refine (laws_heldStringS.calls ht22.out (HS.ro y17_2) m17_2).mono ?_; rintro _ wt22 ⟨rfl, HQ⟩; refine ⟨_, rfl, ?_⟩; replace HS := HS.call HQ; clear HQ; (try clear F); (try simp only [hpn, hpm] at HS)))
         by_cases c24 : t22 < 0
         · replace H := zpos c24 H
           replace c24 := eq_true c24
           (try simp only [c24, dcn])
           obtain rfl := zsome H
           go_wp2
           go_ret
           exact ⟨rfl, HS.pick [] (by decide) (by rfl)⟩
         · replace H := zneg c24 H
           replace c24 := eq_false c24
           (try simp only [c24, dcn])
           have e17_0_25 := (HS.keepc e17_0)
           have e17_1_25 := (HS.keepc e17_1)
           have e17_2_25 := (HS.keepc e17_2)
           have e17_3_25 := (HS.keepc e17_3)
           replace H := zbind H; obtain ⟨t26, ht26, H⟩ := H
           go_upto_if 47 with (first | ((with_reducible refine gate_dst (N := 45) rfl ?_); refine ev_call rfl Try.func125 (by kernel_rfl) rfl #[.slice B17_3 (rd_T109 a0 x12).f3.length d17_3, .int .i64 t22] rfl (by simp only [List.map_toArray, List.map_cons, List.map_nil]; rfl) ?_; refine (laws_heldStringS.calls ht26.out (HS.ro y17_3) m17_3).mono ?_; rintro _ wt26 ⟨rfl, HQ⟩; refine ⟨_, rfl, ?_⟩; replace HS := HS.call HQ; clear HQ; (try clear F); (try simp only [hpn, hpm] at HS)))
           by_cases c28 : t26 < 0
           · replace H := zpos c28 H
             replace c28 := eq_true c28
             (try simp only [c28, dcn])
             obtain rfl := zsome H
             go_wp2
             go_ret
             exact ⟨rfl, HS.pick [] (by decide) (by rfl)⟩
           · replace H := zneg c28 H
             replace c28 := eq_false c28
             (try simp only [c28, dcn])
             go_wp2
             go_roundg k10
             case measure => have := HKk10.out; omega
             case rel => exact ⟨_, _, rfl, rfl, H, ⟨by have := HKk10.out; omega⟩, HS.pick [] (by decide) (by rfl)⟩
       · replace H := zneg c20 H
         have c20a := beq_eq_false_iff_ne.mpr c20
         have c20b := bne_iff_ne.mpr c20
         clear c20
         obtain rfl := zsome H
         go_wp2
         go_ret
         exact ⟨rfl, HS.pick [] (by decide) (by rfl)⟩
     · replace H := zneg c18 H
       have c18a := beq_eq_false_iff_ne.mpr c18
       have c18b := bne_iff_ne.mpr c18
       clear c18
       obtain rfl := zsome H
       go_wp2
       go_ret
       exact ⟨rfl, HS.pick [] (by decide) (by rfl)⟩
   · replace H := zneg c14 H
     replace c14 := eq_false c14
     obtain rfl := zsome H
     go_wp2
     go_ret
     exact ⟨rfl, HS.pick [] (by decide) (by rfl)⟩
/-! ### laws_heldGotS: function 51 -/
def laws_heldGotS.l0 : Nat → Int → Int → (List S150) → Option (Int)
  | 0, _, _, _ => none
  | k + 1, x11, x12, a0 => (if x12 < (a0.length : Int) then (if 0 ≤ x12 then (if x12 < (a0.length : Int) then (if (rd_T150 a0 x12).f0 = x11 then ((laws_markText.f k (wrap64 (x11 + 1))).bind fun t107001 => (if ((rd_T150 a0 x12).f1.f0).toList = t107001.toList then (if (rd_T150 a0 x12).f1.f1 = (wrap64 ((wrap64 (x11 + 1)) + 1)) then (if (rd_T150 a0 x12).f1.f2 = (wrap64 ((wrap64 ((wrap64 (x11 + 1)) + 1)) + 1)) then (if (rd_T150 a0 x12).f1.f3 = (wrap64 ((wrap64 ((wrap64 ((wrap64 (x11 + 1)) + 1)) + 1)) + 1)) then (if (rd_T150 a0 x12).f1.f4 = (wrap64 ((wrap64 ((wrap64 ((wrap64 ((wrap64 (x11 + 1)) + 1)) + 1)) + 1)) + 1)) then (if (rd_T150 a0 x12).f1.f5 = (wrap64 ((wrap64 ((wrap64 ((wrap64 ((wrap64 ((wrap64 (x11 + 1)) + 1)) + 1)) + 1)) + 1)) + 1)) then ((laws_heldAnswerS.f k ((rd_T150 a0 x12).f1.f6) (wrap64 ((wrap64 ((wrap64 ((wrap64 ((wrap64 ((wrap64 ((wrap64 (x11 + 1)) + 1)) + 1)) + 1)) + 1)) + 1)) + 1))).bind fun t34 => (if t34 < 0 then (some (-1)) else ((laws_markText.f k t34).bind fun t207001 => (if ((rd_T150 a0 x12).f1.f7).toList = t207001.toList then (laws_heldGotS.l0 k (wrap64 (t34 + 1)) (wrap64 (x12 + 1)) a0) else (some (-1)))))) else (some (-1))) else (some (-1))) else (some (-1))) else (some (-1))) else (some (-1))) else (some (-1)))) else (some (-1))) else none) else none) else (some x11))
def laws_heldGotS.f (k : Nat) (a0 : (List S150)) (a1 : Int) : Option (Int) := (laws_heldGotS.l0 k a1 0 a0)
def laws_heldGotS.T7 : Bool × List (List Nat × List Nat) := (true, [([], []), ([], []), ([0, 1], [0, 1]), ([2], [2]), ([3], [3]), ([4], [4]), ([], []), ([6], [6]), ([5, 7], [5, 7])])
theorem laws_heldGotS.tT7 : rtab .any (opsOf Try.f51 7) = laws_heldGotS.T7 := by kernel_rfl
def laws_heldGotS.T28 : Bool × List (List Nat × List Nat) := (true, [([], []), ([], []), ([0, 1], [0, 1]), ([2], [2]), ([3], [3]), ([4], [4]), ([], []), ([6], [6]), ([5, 7], [5, 7])])
theorem laws_heldGotS.tT28 : rtab .any (opsOf Try.f51 28) = laws_heldGotS.T28 := by kernel_rfl
set_option maxHeartbeats 16000000 in
theorem laws_heldGotS.calls {k : Nat} {a0 : (List S150)} {a1 : Int} {Ap0 : Option Addr} {np0 cp0 : Nat} {r : Int} {w : World} (h : laws_heldGotS.f k a0 a1 = some r) (gp0 : k150.C w Ap0 np0 a0) (lp0 : np0 ≤ cp0) :
    Calls Try.prog 51 #[.slice Ap0 np0 cp0, .int .i64 a1] w (fun e w' => e = .returned (.int .i64 r) ∧ Hp noFP w w' []) := by
 obtain rfl := C_len gp0
 have HS := Hp.start w
 have H := Aside0.mk h
 clear h
 unfold laws_heldGotS.f at H
 go_enter Try.func51, Try.ntmps51
 go_wp2
 go_loopg [1, 5] k (fun kq v_1 v_5 w' => ∃ (x11 : Int) (x12 : Int), v_1 = .int .i64 x11 ∧ v_5 = .int .i64 x12 ∧ Aside0 (laws_heldGotS.l0 kq x11 x12 a0 = some r) ∧ Aside0 (kq ≤ k) ∧ Hp noFP w w' [])
 case atStart => exact ⟨_, _, rfl, rfl, H, ⟨Nat.le_refl _⟩, HS⟩
 case round =>
  clear HS H; (try clear F)
  obtain ⟨x11, x12, rfl, rfl, H, HKk10, HS⟩ := hrel
  cases gk with
  | zero => exact absurd H.out (by simp [laws_heldGotS.l0])
  | succ k10 =>
   simp only [laws_heldGotS.l0] at H
   by_cases c14 : x12 < (a0.length : Int)
   · replace H := zpos c14 H
     replace c14 := eq_true c14
     by_cases c15 : 0 ≤ x12
     case neg => exact zno c15 H
     replace H := zpos c15 H
     replace c15 := eq_true c15
     by_cases c16 : x12 < (a0.length : Int)
     case neg => exact zno c16 H
     replace H := zpos c16 H
     replace c16 := eq_true c16
     obtain ⟨ad17, B17_7, d17_7, rfl, e17_0, e17_1, e17_2, e17_3, e17_4, e17_5, e17_6, e17_7, e17_8, m17_7, y17_7⟩ := at_T150 gp0 x12 (of_eq_true c15) (of_eq_true c16)
     have e17_0_17 := (HS.keepc e17_0)
     have e17_1_17 := (HS.keepc e17_1)
     have e17_2_17 := (HS.keepc e17_2)
     have e17_3_17 := (HS.keepc e17_3)
     have e17_4_17 := (HS.keepc e17_4)
     have e17_5_17 := (HS.keepc e17_5)
     have e17_6_17 := (HS.keepc e17_6)
     have e17_7_17 := (HS.keepc e17_7)
     have e17_8_17 := (HS.keepc e17_8)
     by_cases c18 : (rd_T150 a0 x12).f0 = x11
     · replace H := zpos c18 H
       have c18a := beq_iff_eq.mpr c18
       have c18b := bne_eq_false_iff_eq.mpr c18
       clear c18
       (try go_wp2)
       replace H := zbind H; obtain ⟨t107001, ht107001, H⟩ := H
       refine dr_start [] HS #[false, false, false, false, false, false, false, false, false] (by kernel_rfl) rfl rfl laws_heldGotS.tT7 (fun w20 HT HS HH => ?_)
       (try clear F)
       refine drq_of [(0, some 21), (1, some 22), (2, some 23), (3, some 24), (4, some 25)] ?_
       repeat (first | (refine drq_pure HT (v := ?_) (a' := ?_) rfl rfl (by kernel_rfl) (fun _ _ _ h => h) (.inl ⟨by rfl, ?_⟩) ?_ ?_; rotate_left; (intro w'; go_simp; with_reducible rfl); rotate_left; (simp only [Act.put, List.setIfInBounds_toArray, List.set_cons_zero, List.set_cons_succ, i64_w, i32_w]; rfl)))
       refine drq_end ?_
       refine dr_take 5 (some 26) HT HH (v := ?_) (a' := ?_) rfl rfl (by kernel_rfl) (fun _ _ _ h => h) (.inl ⟨by rfl, ?_⟩) ?_ ?_
       rotate_left
       · rintro w' ⟨rs', HS'⟩; have e17_0 := (HS'.keepc e17_0); have e17_1 := (HS'.keepc e17_1); have e17_2 := (HS'.keepc e17_2); have e17_3 := (HS'.keepc e17_3); have e17_4 := (HS'.keepc e17_4); have e17_5 := (HS'.keepc e17_5); have e17_6 := (HS'.keepc e17_6); have e17_7 := (HS'.keepc e17_7); have e17_8 := (HS'.keepc e17_8); go_simp; with_reducible rfl
       rotate_left
       · simp only [Act.put, List.setIfInBounds_toArray, List.set_cons_zero, List.set_cons_succ, i64_w, i32_w]; rfl
       refine drq_of [(6, some 27)] ?_
       repeat (first | (refine drq_pure HT (v := ?_) (a' := ?_) rfl rfl (by kernel_rfl) (fun _ _ _ h => h) (.inl ⟨by rfl, ?_⟩) ?_ ?_; rotate_left; (intro w'; go_simp; with_reducible rfl); rotate_left; (simp only [Act.put, List.setIfInBounds_toArray, List.set_cons_zero, List.set_cons_succ, i64_w, i32_w]; rfl)))
       refine drq_end ?_
       refine dr_one 7 HT rfl (by kernel_rfl) (by decide) (fun K hK => ?_)
       refine goes_ Try.func110 (by kernel_rfl) rfl #[.int .i64 (wrap64 (x11 + 1))] (by rfl) rfl rfl (by simp only [List.map_toArray, List.map_cons, List.map_nil]; rfl) ?_; refine (laws_markText.calls ht107001.out).mono ?_; rintro _ wt107001 ⟨rfl, HQ⟩; refine ⟨_, rfl, ?_⟩; replace HS := HS.call HQ; clear HQ; (try clear F)
       (try simp only [hpn, hpm] at HS)
       refine hK.out _ _ ⟨_, HS⟩ (fun HH => ?_)
       clear hK K
       refine norm_ (a' := ?_) ?_ ?_
       rotate_left
       · show Act.put _ (some 28) _ = _; simp only [Act.put, List.setIfInBounds_toArray, List.set_cons_zero, List.set_cons_succ, i64_w, i32_w]; rfl
       refine drq_of [(8, some 29)] ?_
       repeat (first | (refine drq_pure HT (v := ?_) (a' := ?_) rfl rfl (by kernel_rfl) (fun _ _ _ h => h) (.inl ⟨by rfl, ?_⟩) ?_ ?_; rotate_left; (intro w'; go_simp; with_reducible rfl); rotate_left; (simp only [Act.put, List.setIfInBounds_toArray, List.set_cons_zero, List.set_cons_succ, i64_w, i32_w]; rfl)))
       refine drq_end ?_
       refine done_ (done_of HT.out (by kernel_rfl)) ?_
       by_cases c22 : ((rd_T150 a0 x12).f1.f0).toList = t107001.toList
       · replace H := zpos c22 H
         have c22a := beq_iff_eq.mpr c22
         have c22b := bne_eq_false_iff_eq.mpr c22
         clear c22
         (try simp only [c22a, c22b, dcn])
         have e17_0_23 := (HS.keepc e17_0)
         have e17_1_23 := (HS.keepc e17_1)
         have e17_2_23 := (HS.keepc e17_2)
         have e17_3_23 := (HS.keepc e17_3)
         have e17_4_23 := (HS.keepc e17_4)
         have e17_5_23 := (HS.keepc e17_5)
         have e17_6_23 := (HS.keepc e17_6)
         have e17_7_23 := (HS.keepc e17_7)
         have e17_8_23 := (HS.keepc e17_8)
         by_cases c24 : (rd_T150 a0 x12).f1.f1 = (wrap64 ((wrap64 (x11 + 1)) + 1))
         · replace H := zpos c24 H
           have c24a := beq_iff_eq.mpr c24
           have c24b := bne_eq_false_iff_eq.mpr c24
           clear c24
           (try simp only [c24a, c24b, dcn])
           have e17_0_25 := (HS.keepc e17_0)
           have e17_1_25 := (HS.keepc e17_1)
           have e17_2_25 := (HS.keepc e17_2)
           have e17_3_25 := (HS.keepc e17_3)
           have e17_4_25 := (HS.keepc e17_4)
           have e17_5_25 := (HS.keepc e17_5)
           have e17_6_25 := (HS.keepc e17_6)
           have e17_7_25 := (HS.keepc e17_7)
           have e17_8_25 := (HS.keepc e17_8)
           by_cases c26 : (rd_T150 a0 x12).f1.f2 = (wrap64 ((wrap64 ((wrap64 (x11 + 1)) + 1)) + 1))
           · replace H := zpos c26 H
             have c26a := beq_iff_eq.mpr c26
             have c26b := bne_eq_false_iff_eq.mpr c26
             clear c26
             (try simp only [c26a, c26b, dcn])
             have e17_0_27 := (HS.keepc e17_0)
             have e17_1_27 := (HS.keepc e17_1)
             have e17_2_27 := (HS.keepc e17_2)
             have e17_3_27 := (HS.keepc e17_3)
             have e17_4_27 := (HS.keepc e17_4)
             have e17_5_27 := (HS.keepc e17_5)
             have e17_6_27 := (HS.keepc e17_6)
             have e17_7_27 := (HS.keepc e17_7)
             have e17_8_27 := (HS.keepc e17_8)
             by_cases c28 : (rd_T150 a0 x12).f1.f3 = (wrap64 ((wrap64 ((wrap64 ((wrap64 (x11 + 1)) + 1)) + 1)) + 1))
             · replace H := zpos c28 H
               have c28a := beq_iff_eq.mpr c28
               have c28b := bne_eq_false_iff_eq.mpr c28
               clear c28
               (try simp only [c28a, c28b, dcn])
               have e17_0_29 := (HS.keepc e17_0)
               have e17_1_29 := (HS.keepc e17_1)
               have e17_2_29 := (HS.keepc e17_2)
               have e17_3_29 := (HS.keepc e17_3)
               have e17_4_29 := (HS.keepc e17_4)
               have e17_5_29 := (HS.keepc e17_5)
               have e17_6_29 := (HS.keepc e17_6)
               have e17_7_29 := (HS.keepc e17_7)
               have e17_8_29 := (HS.keepc e17_8)
               by_cases c30 : (rd_T150 a0 x12).f1.f4 = (wrap64 ((wrap64 ((wrap64 ((wrap64 ((wrap64 (x11 + 1)) + 1)) + 1)) + 1)) + 1))
               · replace H := zpos c30 H
                 have c30a := beq_iff_eq.mpr c30
                 have c30b := bne_eq_false_iff_eq.mpr c30
                 clear c30
                 (try simp only [c30a, c30b, dcn])
                 have e17_0_31 := (HS.keepc e17_0)
                 have e17_1_31 := (HS.keepc e17_1)
                 have e17_2_31 := (HS.keepc e17_2)
                 have e17_3_31 := (HS.keepc e17_3)
                 have e17_4_31 := (HS.keepc e17_4)
                 have e17_5_31 := (HS.keepc e17_5)
                 have e17_6_31 := (HS.keepc e17_6)
                 have e17_7_31 := (HS.keepc e17_7)
                 have e17_8_31 := (HS.keepc e17_8)
                 by_cases c32 : (rd_T150 a0 x12).f1.f5 = (wrap64 ((wrap64 ((wrap64 ((wrap64 ((wrap64 ((wrap64 (x11 + 1)) + 1)) + 1)) + 1)) + 1)) + 1))
                 · replace H := zpos c32 H
                   have c32a := beq_iff_eq.mpr c32
                   have c32b := bne_eq_false_iff_eq.mpr c32
                   clear c32
                   (try simp only [c32a, c32b, dcn])
                   have e17_0_33 := (HS.keepc e17_0)
                   have e17_1_33 := (HS.keepc e17_1)
                   have e17_2_33 := (HS.keepc e17_2)
                   have e17_3_33 := (HS.keepc e17_3)
                   have e17_4_33 := (HS.keepc e17_4)
                   have e17_5_33 := (HS.keepc e17_5)
                   have e17_6_33 := (HS.keepc e17_6)
                   have e17_7_33 := (HS.keepc e17_7)
                   have e17_8_33 := (HS.keepc e17_8)
                   replace H := zbind H; obtain ⟨t34, ht34, H⟩ := H
                   go_upto_if 91 with (first | ((with_reducible refine gate_dst (N := 89) rfl ?_); refine ev_call rfl Try.func66 (by kernel_rfl) rfl #[.slice B17_7 (rd_T150 a0 x12).f1.f6.length d17_7, .int .i64 (wrap64 ((wrap64 ((wrap64 ((wrap64 ((wrap64 ((wrap64 ((wrap64 (x11 + 1)) + 1)) + 1)) + 1)) + 1)) + 1)) + 1))] rfl (by simp only [List.map_toArray, List.map_cons, List.map_nil]; rfl) ?_; refine (laws_heldAnswerS.calls ht34.out (HS.ro y17_7) m17_7).mono ?_; rintro _ wt34 ⟨rfl, HQ⟩; refine ⟨_, rfl, ?_⟩; replace HS := HS.call HQ; clear HQ; (try clear F); (try simp only [hpn, hpm] at HS)))
                   by_cases c36 : t34 < 0
                   · replace H := zpos c36 H
                     replace c36 := eq_true c36
                     (try simp only [c36, dcn])
                     obtain rfl := zsome H
                     go_wp2
                     go_ret
                     exact ⟨rfl, HS.pick [] (by decide) (by rfl)⟩
                   · replace H := zneg c36 H
                     replace c36 := eq_false c36
                     (try simp only [c36, dcn])
                     (try go_wp2)
                     replace H := zbind H; obtain ⟨t207001, ht207001, H⟩ := H
                     refine dr_start [] HS #[false, false, false, false, false, false, false, false, false] (by kernel_rfl) rfl rfl laws_heldGotS.tT28 (fun w38 HT HS HH => ?_)
                     (try clear F)
                     refine drq_of [(0, some 92), (1, some 93), (2, some 94), (3, some 95), (4, some 96)] ?_
                     repeat (first | (refine drq_pure HT (v := ?_) (a' := ?_) rfl rfl (by kernel_rfl) (fun _ _ _ h => h) (.inl ⟨by rfl, ?_⟩) ?_ ?_; rotate_left; (intro w'; go_simp; with_reducible rfl); rotate_left; (simp only [Act.put, List.setIfInBounds_toArray, List.set_cons_zero, List.set_cons_succ, i64_w, i32_w]; rfl)))
                     refine drq_end ?_
                     refine dr_take 5 (some 97) HT HH (v := ?_) (a' := ?_) rfl rfl (by kernel_rfl) (fun _ _ _ h => h) (.inl ⟨by rfl, ?_⟩) ?_ ?_
                     rotate_left
                     · rintro w' ⟨rs', HS'⟩; have e17_0 := (HS'.keepc e17_0); have e17_1 := (HS'.keepc e17_1); have e17_2 := (HS'.keepc e17_2); have e17_3 := (HS'.keepc e17_3); have e17_4 := (HS'.keepc e17_4); have e17_5 := (HS'.keepc e17_5); have e17_6 := (HS'.keepc e17_6); have e17_7 := (HS'.keepc e17_7); have e17_8 := (HS'.keepc e17_8); go_simp; with_reducible rfl
                     rotate_left
                     · simp only [Act.put, List.setIfInBounds_toArray, List.set_cons_zero, List.set_cons_succ, i64_w, i32_w]; rfl
                     refine drq_of [(6, some 98)] ?_
                     repeat (first | (refine drq_pure HT (v := ?_) (a' := ?_) rfl rfl (by kernel_rfl) (fun _ _ _ h => h) (.inl ⟨by rfl, ?_⟩) ?_ ?_; rotate_left; (intro w'; go_simp; with_reducible rfl); rotate_left; (simp only [Act.put, List.setIfInBounds_toArray, List.set_cons_zero, List.set_cons_succ, i64_w, i32_w]; rfl)))
                     refine drq_end ?_
                     refine dr_one 7 HT rfl (by kernel_rfl) (by decide) (fun K hK => ?_)
                     refine goes_ Try.func110 (by kernel_rfl) rfl #[.int .i64 t34] (by rfl) rfl rfl (by simp only [List.map_toArray, List.map_cons, List.map_nil]; rfl) ?_; refine (laws_markText.calls ht207001.out).mono ?_; rintro _ wt207001 ⟨rfl, HQ⟩; refine ⟨_, rfl, ?_⟩; replace HS := HS.call HQ; clear HQ; (try clear F)
                     (try simp only [hpn, hpm] at HS)
                     refine hK.out _ _ ⟨_, HS⟩ (fun HH => ?_)
                     clear hK K
                     refine norm_ (a' := ?_) ?_ ?_
                     rotate_left
                     · show Act.put _ (some 99) _ = _; simp only [Act.put, List.setIfInBounds_toArray, List.set_cons_zero, List.set_cons_succ, i64_w, i32_w]; rfl
                     refine drq_of [(8, some 100)] ?_
                     repeat (first | (refine drq_pure HT (v := ?_) (a' := ?_) rfl rfl (by kernel_rfl) (fun _ _ _ h => h) (.inl ⟨by rfl, ?_⟩) ?_ ?_; rotate_left; (intro w'; go_simp; with_reducible rfl); rotate_left; (simp only [Act.put, List.setIfInBounds_toArray, List.set_cons_zero, List.set_cons_succ, i64_w, i32_w]; rfl)))
                     refine drq_end ?_
                     refine done_ (done_of HT.out (by kernel_rfl)) ?_
                     by_cases c40 : ((rd_T150 a0 x12).f1.f7).toList = t207001.toList
                     · replace H := zpos c40 H
                       have c40a := beq_iff_eq.mpr c40
                       have c40b := bne_eq_false_iff_eq.mpr c40
                       clear c40
                       (try simp only [c40a, c40b, dcn])
                       go_wp2
                       go_roundg k10
                       case measure => have := HKk10.out; omega
                       case rel => exact ⟨_, _, rfl, rfl, H, ⟨by have := HKk10.out; omega⟩, HS.pick [] (by decide) (by rfl)⟩
                     · replace H := zneg c40 H
                       have c40a := beq_eq_false_iff_ne.mpr c40
                       have c40b := bne_iff_ne.mpr c40
                       clear c40
                       (try simp only [c40a, c40b, dcn])
                       obtain rfl := zsome H
                       go_wp2
                       go_ret
                       exact ⟨rfl, HS.pick [] (by decide) (by rfl)⟩
                 · replace H := zneg c32 H
                   have c32a := beq_eq_false_iff_ne.mpr c32
                   have c32b := bne_iff_ne.mpr c32
                   clear c32
                   (try simp only [c32a, c32b, dcn])
                   obtain rfl := zsome H
                   go_wp2
                   go_ret
                   exact ⟨rfl, HS.pick [] (by decide) (by rfl)⟩
               · replace H := zneg c30 H
                 have c30a := beq_eq_false_iff_ne.mpr c30
                 have c30b := bne_iff_ne.mpr c30
                 clear c30
                 (try simp only [c30a, c30b, dcn])
                 obtain rfl := zsome H
                 go_wp2
                 go_ret
                 exact ⟨rfl, HS.pick [] (by decide) (by rfl)⟩
             · replace H := zneg c28 H
               have c28a := beq_eq_false_iff_ne.mpr c28
               have c28b := bne_iff_ne.mpr c28
               clear c28
               (try simp only [c28a, c28b, dcn])
               obtain rfl := zsome H
               go_wp2
               go_ret
               exact ⟨rfl, HS.pick [] (by decide) (by rfl)⟩
           · replace H := zneg c26 H
             have c26a := beq_eq_false_iff_ne.mpr c26
             have c26b := bne_iff_ne.mpr c26
             clear c26
             (try simp only [c26a, c26b, dcn])
             obtain rfl := zsome H
             go_wp2
             go_ret
             exact ⟨rfl, HS.pick [] (by decide) (by rfl)⟩
         · replace H := zneg c24 H
           have c24a := beq_eq_false_iff_ne.mpr c24
           have c24b := bne_iff_ne.mpr c24
           clear c24
           (try simp only [c24a, c24b, dcn])
           obtain rfl := zsome H
           go_wp2
           go_ret
           exact ⟨rfl, HS.pick [] (by decide) (by rfl)⟩
       · replace H := zneg c22 H
         have c22a := beq_eq_false_iff_ne.mpr c22
         have c22b := bne_iff_ne.mpr c22
         clear c22
         (try simp only [c22a, c22b, dcn])
         obtain rfl := zsome H
         go_wp2
         go_ret
         exact ⟨rfl, HS.pick [] (by decide) (by rfl)⟩
     · replace H := zneg c18 H
       have c18a := beq_eq_false_iff_ne.mpr c18
       have c18b := bne_iff_ne.mpr c18
       clear c18
       obtain rfl := zsome H
       go_wp2
       go_ret
       exact ⟨rfl, HS.pick [] (by decide) (by rfl)⟩
   · replace H := zneg c14 H
     replace c14 := eq_false c14
     obtain rfl := zsome H
     go_wp2
     go_ret
     exact ⟨rfl, HS.pick [] (by decide) (by rfl)⟩
/-! ### laws_heldIntS: function 52 -/
def laws_heldIntS.l0 : Nat → Int → Int → (List Int) → Option (Int)
  | 0, _, _, _ => none
  | k + 1, x11, x12, a0 => (if x12 < (a0.length : Int) then (if 0 ≤ x12 then (if x12 < (a0.length : Int) then (if (rd a0 x12) = x11 then (laws_heldIntS.l0 k (wrap64 (x11 + 1)) (wrap64 (x12 + 1)) a0) else (some (-1))) else none) else none) else (some x11))
def laws_heldIntS.f (k : Nat) (a0 : (List Int)) (a1 : Int) : Option (Int) := (laws_heldIntS.l0 k a1 0 a0)
set_option maxHeartbeats 16000000 in
theorem laws_heldIntS.calls {k : Nat} {a0 : (List Int)} {a1 : Int} {Ap0 : Option Addr} {np0 cp0 : Nat} {r : Int} {w : World} (h : laws_heldIntS.f k a0 a1 = some r) (gp0 : (Kd.int .i64).C w Ap0 np0 a0) (lp0 : np0 ≤ cp0) :
    Calls Try.prog 52 #[.slice Ap0 np0 cp0, .int .i64 a1] w (fun e w' => e = .returned (.int .i64 r) ∧ Hp noFP w w' []) := by
 obtain rfl := C_len gp0
 have HS := Hp.start w
 have H := Aside0.mk h
 clear h
 unfold laws_heldIntS.f at H
 go_enter Try.func52, Try.ntmps52
 go_wp2
 go_loopg [1, 5] k (fun kq v_1 v_5 w' => ∃ (x11 : Int) (x12 : Int), v_1 = .int .i64 x11 ∧ v_5 = .int .i64 x12 ∧ Aside0 (laws_heldIntS.l0 kq x11 x12 a0 = some r) ∧ Aside0 (kq ≤ k) ∧ Hp noFP w w' [])
 case atStart => exact ⟨_, _, rfl, rfl, H, ⟨Nat.le_refl _⟩, HS⟩
 case round =>
  clear HS H; (try clear F)
  obtain ⟨x11, x12, rfl, rfl, H, HKk10, HS⟩ := hrel
  cases gk with
  | zero => exact absurd H.out (by simp [laws_heldIntS.l0])
  | succ k10 =>
   simp only [laws_heldIntS.l0] at H
   by_cases c14 : x12 < (a0.length : Int)
   · replace H := zpos c14 H
     replace c14 := eq_true c14
     by_cases c15 : 0 ≤ x12
     case neg => exact zno c15 H
     replace H := zpos c15 H
     replace c15 := eq_true c15
     by_cases c16 : x12 < (a0.length : Int)
     case neg => exact zno c16 H
     replace H := zpos c16 H
     replace c16 := eq_true c16
     obtain ⟨ad17, rfl, e17_0⟩ := Kd.at_int gp0 x12 (of_eq_true c15) (of_eq_true c16)
     have e17_0_17 := (HS.keepc e17_0)
     by_cases c18 : (rd a0 x12) = x11
     · replace H := zpos c18 H
       have c18a := beq_iff_eq.mpr c18
       have c18b := bne_eq_false_iff_eq.mpr c18
       clear c18
       go_wp2
       go_roundg k10
       case measure => have := HKk10.out; omega
       case rel => exact ⟨_, _, rfl, rfl, H, ⟨by have := HKk10.out; omega⟩, HS.pick [] (by decide) (by rfl)⟩
     · replace H := zneg c18 H
       have c18a := beq_eq_false_iff_ne.mpr c18
       have c18b := bne_iff_ne.mpr c18
       clear c18
       obtain rfl := zsome H
       go_wp2
       go_ret
       exact ⟨rfl, HS.pick [] (by decide) (by rfl)⟩
   · replace H := zneg c14 H
     replace c14 := eq_false c14
     obtain rfl := zsome H
     go_wp2
     go_ret
     exact ⟨rfl, HS.pick [] (by decide) (by rfl)⟩
/-! ### laws_heldClient: function 13 -/
def laws_heldClient.f (k : Nat) (a0 : S31) (a1 : Int) : Option (Int) := ((laws_heldWaitS.f k a0.f2 a1).bind fun t3 => (if t3 < 0 then (some (-1)) else ((laws_heldGotS.f k a0.f3 t3).bind fun t6 => (if t6 < 0 then (some (-1)) else ((laws_heldIntS.f k a0.f4 t6).bind fun t9 => (if t9 < 0 then (some (-1)) else (some t9)))))))
set_option maxHeartbeats 16000000 in
theorem laws_heldClient.calls {k : Nat} {a0 : S31} {a1 : Int} {Ap0 : Option Addr} {np0 cp0 : Nat} {Ap1 : Option Addr} {np1 cp1 : Nat} {Ap2 : Option Addr} {np2 cp2 : Nat} {r : Int} {w : World} (h : laws_heldClient.f k a0 a1 = some r) (gp0 : k89.C w Ap0 np0 a0.f2) (lp0 : np0 ≤ cp0) (gp1 : k150.C w Ap1 np1 a0.f3) (lp1 : np1 ≤ cp1) (gp2 : (Kd.int .i64).C w Ap2 np2 a0.f4) (lp2 : np2 ≤ cp2) :
    Calls Try.prog 13 #[.agg #[.string a0.f0, .int .i64 a0.f1, .slice Ap0 np0 cp0, .slice Ap1 np1 cp1, .slice Ap2 np2 cp2], .int .i64 a1] w (fun e w' => e = .returned (.int .i64 r) ∧ Hp noFP w w' []) := by
 obtain rfl := C_len gp0
 obtain rfl := C_len gp1
 obtain rfl := C_len gp2
 have HS := Hp.start w
 have H := Aside0.mk h
 clear h
 unfold laws_heldClient.f at H
 go_enter Try.func13, Try.ntmps13
 replace H := zbind H; obtain ⟨t3, ht3, H⟩ := H
 go_upto_if 10 with (first | ((with_reducible refine gate_dst (N := 2) rfl ?_); refine ev_box rfl HS (by first | (go_simp; done) | (go_simp; rfl)) rfl ?_; clear HS; (try clear F); intro g2 w2 HS; (try simp only [hpn, hpm] at HS); have F := HS.boxes; simp only [boxFacts, and_true] at F) | ((with_reducible refine gate_dst (N := 8) rfl ?_); refine ev_call rfl Try.func50 (by kernel_rfl) rfl #[.slice Ap0 a0.f2.length cp0, .int .i64 a1] rfl (by simp only [List.map_toArray, List.map_cons, List.map_nil]; rfl) ?_; refine (laws_heldWaitS.calls ht3.out (HS.ro gp0) lp0).mono ?_; rintro _ wt3 ⟨rfl, HQ⟩; refine ⟨_, rfl, ?_⟩; replace HS := HS.call HQ; clear HQ; (try clear F); (try simp only [hpn, hpm] at HS); have F := HS.boxes; simp only [boxFacts, and_true] at F))
 by_cases c5 : t3 < 0
 · replace H := zpos c5 H
   replace c5 := eq_true c5
   (try simp only [c5, dcn])
   obtain rfl := zsome H
   go_wp2
   go_ret
   exact ⟨rfl, HS.pick [] (by decide) (by rfl)⟩
 · replace H := zneg c5 H
   replace c5 := eq_false c5
   (try simp only [c5, dcn])
   replace H := zbind H; obtain ⟨t6, ht6, H⟩ := H
   go_upto_if 16 with (first | ((with_reducible refine gate_dst (N := 14) rfl ?_); refine ev_call rfl Try.func51 (by kernel_rfl) rfl #[.slice Ap1 a0.f3.length cp1, .int .i64 t3] rfl (by simp only [List.map_toArray, List.map_cons, List.map_nil]; rfl) ?_; refine (laws_heldGotS.calls ht6.out (HS.ro gp1) lp1).mono ?_; rintro _ wt6 ⟨rfl, HQ⟩; refine ⟨_, rfl, ?_⟩; replace HS := HS.call HQ; clear HQ; (try clear F); (try simp only [hpn, hpm] at HS); have F := HS.boxes; simp only [boxFacts, and_true] at F))
   by_cases c8 : t6 < 0
   · replace H := zpos c8 H
     replace c8 := eq_true c8
     (try simp only [c8, dcn])
     obtain rfl := zsome H
     go_wp2
     go_ret
     exact ⟨rfl, HS.pick [] (by decide) (by rfl)⟩
   · replace H := zneg c8 H
     replace c8 := eq_false c8
     (try simp only [c8, dcn])
     replace H := zbind H; obtain ⟨t9, ht9, H⟩ := H
     go_upto_if 22 with (first | ((with_reducible refine gate_dst (N := 20) rfl ?_); refine ev_call rfl Try.func52 (by kernel_rfl) rfl #[.slice Ap2 a0.f4.length cp2, .int .i64 t6] rfl (by simp only [List.map_toArray, List.map_cons, List.map_nil]; rfl) ?_; refine (laws_heldIntS.calls ht9.out (HS.ro gp2) lp2).mono ?_; rintro _ wt9 ⟨rfl, HQ⟩; refine ⟨_, rfl, ?_⟩; replace HS := HS.call HQ; clear HQ; (try clear F); (try simp only [hpn, hpm] at HS); have F := HS.boxes; simp only [boxFacts, and_true] at F))
     by_cases c11 : t9 < 0
     · replace H := zpos c11 H
       replace c11 := eq_true c11
       (try simp only [c11, dcn])
       obtain rfl := zsome H
       go_wp2
       go_ret
       exact ⟨rfl, HS.pick [] (by decide) (by rfl)⟩
     · replace H := zneg c11 H
       replace c11 := eq_false c11
       (try simp only [c11, dcn])
       obtain rfl := zsome H
       go_wp2
       go_ret
       exact ⟨rfl, HS.pick [] (by decide) (by rfl)⟩
/-! ### laws_szStringS: function 90 -/
def laws_szStringS.l0 : Nat → Int → Int → (List ByteArray) → Option (Int)
  | 0, _, _, _ => none
  | k + 1, x9, x10, a0 => (if x10 < (a0.length : Int) then (if 0 ≤ x10 then (if x10 < (a0.length : Int) then (if (wrap64 (x9 - ((rdOf ByteArray.empty a0 x10).size : Int))) < 0 then (some (-1)) else (laws_szStringS.l0 k (wrap64 (x9 - ((rdOf ByteArray.empty a0 x10).size : Int))) (wrap64 (x10 + 1)) a0)) else none) else none) else (some x9))
def laws_szStringS.f (k : Nat) (a0 : (List ByteArray)) (a1 : Int) : Option (Int) := (if (wrap64 (a1 - (a0.length : Int))) < 0 then (some (-1)) else (laws_szStringS.l0 k (wrap64 (a1 - (a0.length : Int))) 0 a0))
set_option maxHeartbeats 16000000 in
theorem laws_szStringS.calls {k : Nat} {a0 : (List ByteArray)} {a1 : Int} {Ap0 : Option Addr} {np0 cp0 : Nat} {r : Int} {w : World} (h : laws_szStringS.f k a0 a1 = some r) (gp0 : Kd.string.C w Ap0 np0 a0) (lp0 : np0 ≤ cp0) :
    Calls Try.prog 90 #[.slice Ap0 np0 cp0, .int .i64 a1] w (fun e w' => e = .returned (.int .i64 r) ∧ Hp noFP w w' []) := by
 obtain rfl := C_len gp0
 have HS := Hp.start w
 have H := Aside0.mk h
 clear h
 unfold laws_szStringS.f at H
 go_enter Try.func90, Try.ntmps90
 by_cases c1 : (wrap64 (a1 - (a0.length : Int))) < 0
 · replace H := zpos c1 H
   replace c1 := eq_true c1
   obtain rfl := zsome H
   go_wp2
   go_ret
   exact ⟨rfl, HS.pick [] (by decide) (by rfl)⟩
 · replace H := zneg c1 H
   replace c1 := eq_false c1
   go_wp2
   go_loopg [1, 5] k (fun kq v_1 v_5 w' => ∃ (x9 : Int) (x10 : Int), v_1 = .int .i64 x9 ∧ v_5 = .int .i64 x10 ∧ Aside0 (laws_szStringS.l0 kq x9 x10 a0 = some r) ∧ Aside0 (kq ≤ k) ∧ Hp noFP w w' [])
   case atStart => exact ⟨_, _, rfl, rfl, H, ⟨Nat.le_refl _⟩, HS⟩
   case round =>
    clear HS H; (try clear F)
    obtain ⟨x9, x10, rfl, rfl, H, HKk8, HS⟩ := hrel
    cases gk with
    | zero => exact absurd H.out (by simp [laws_szStringS.l0])
    | succ k8 =>
     simp only [laws_szStringS.l0] at H
     by_cases c12 : x10 < (a0.length : Int)
     · replace H := zpos c12 H
       replace c12 := eq_true c12
       by_cases c13 : 0 ≤ x10
       case neg => exact zno c13 H
       replace H := zpos c13 H
       replace c13 := eq_true c13
       by_cases c14 : x10 < (a0.length : Int)
       case neg => exact zno c14 H
       replace H := zpos c14 H
       replace c14 := eq_true c14
       obtain ⟨ad15, rfl, e15_0⟩ := Kd.at_string gp0 x10 (of_eq_true c13) (of_eq_true c14)
       have e15_0_15 := (HS.keepc e15_0)
       by_cases c16 : (wrap64 (x9 - ((rdOf ByteArray.empty a0 x10).size : Int))) < 0
       · replace H := zpos c16 H
         replace c16 := eq_true c16
         obtain rfl := zsome H
         go_wp2
         go_ret
         exact ⟨rfl, HS.pick [] (by decide) (by rfl)⟩
       · replace H := zneg c16 H
         replace c16 := eq_false c16
         go_wp2
         go_roundg k8
         case measure => have := HKk8.out; omega
         case rel => exact ⟨_, _, rfl, rfl, H, ⟨by have := HKk8.out; omega⟩, HS.pick [] (by decide) (by rfl)⟩
     · replace H := zneg c12 H
       replace c12 := eq_false c12
       obtain rfl := zsome H
       go_wp2
       go_ret
       exact ⟨rfl, HS.pick [] (by decide) (by rfl)⟩
/-! ### laws_szAsk: function 30 -/
def laws_szAsk.f (k : Nat) (a0 : S75) (a1 : Int) : Option (Int) := ((laws_szStringS.f k a0.f0 a1).bind fun t3 => (if t3 < 0 then (some (-1)) else (some t3)))
set_option maxHeartbeats 16000000 in
theorem laws_szAsk.calls {k : Nat} {a0 : S75} {a1 : Int} {Ap0 : Option Addr} {np0 cp0 : Nat} {r : Int} {w : World} (h : laws_szAsk.f k a0 a1 = some r) (gp0 : Kd.string.C w Ap0 np0 a0.f0) (lp0 : np0 ≤ cp0) :
    Calls Try.prog 30 #[.agg #[.slice Ap0 np0 cp0, .int .i64 a0.f1, .int .i64 a0.f2, .int .i64 a0.f3, .int .i64 a0.f4, .bool a0.f5], .int .i64 a1] w (fun e w' => e = .returned (.int .i64 r) ∧ Hp noFP w w' []) := by
 obtain rfl := C_len gp0
 have HS := Hp.start w
 have H := Aside0.mk h
 clear h
 unfold laws_szAsk.f at H
 go_enter Try.func30, Try.ntmps30
 replace H := zbind H; obtain ⟨t3, ht3, H⟩ := H
 go_upto_if 10 with (first | ((with_reducible refine gate_dst (N := 2) rfl ?_); refine ev_box rfl HS (by first | (go_simp; done) | (go_simp; rfl)) rfl ?_; clear HS; (try clear F); intro g2 w2 HS; (try simp only [hpn, hpm] at HS); have F := HS.boxes; simp only [boxFacts, and_true] at F) | ((with_reducible refine gate_dst (N := 8) rfl ?_); refine ev_call rfl Try.func90 (by kernel_rfl) rfl #[.slice Ap0 a0.f0.length cp0, .int .i64 a1] rfl (by simp only [List.map_toArray, List.map_cons, List.map_nil]; rfl) ?_; refine (laws_szStringS.calls ht3.out (HS.ro gp0) lp0).mono ?_; rintro _ wt3 ⟨rfl, HQ⟩; refine ⟨_, rfl, ?_⟩; replace HS := HS.call HQ; clear HQ; (try clear F); (try simp only [hpn, hpm] at HS); have F := HS.boxes; simp only [boxFacts, and_true] at F))
 by_cases c5 : t3 < 0
 · replace H := zpos c5 H
   replace c5 := eq_true c5
   (try simp only [c5, dcn])
   obtain rfl := zsome H
   go_wp2
   go_ret
   exact ⟨rfl, HS.pick [] (by decide) (by rfl)⟩
 · replace H := zneg c5 H
   replace c5 := eq_false c5
   (try simp only [c5, dcn])
   obtain rfl := zsome H
   go_wp2
   go_ret
   exact ⟨rfl, HS.pick [] (by decide) (by rfl)⟩
/-! ### spec_l15Copy: function 104 -/
def spec_l15Copy.l0 : Nat → (List S109) → Int → S40 → Option (S40)
  | 0, _, _, _ => none
  | k + 1, l50, x52, a0 => (if x52 < (a0.f6.length : Int) then (if 0 ≤ x52 then (if x52 < (a0.f6.length : Int) then (if 0 + (rd_T109 a0.f6 x52).f2.length ≤ 8796093022208 then (lets (([] : List ByteArray) ++ ((rd_T109 a0.f6 x52).f2)) fun y65 => (if 0 + (rd_T109 a0.f6 x52).f3.length ≤ 8796093022208 then (lets (([] : List ByteArray) ++ ((rd_T109 a0.f6 x52).f3)) fun y72 => (if l50.length + 1 ≤ 2199023255552 then (lets (l50 ++ ([(⟨(rd_T109 a0.f6 x52).f0, (rd_T109 a0.f6 x52).f1, y65, y72⟩ : S109)] : List S109)) fun y79 => (spec_l15Copy.l0 k y79 (wrap64 (x52 + 1)) a0)) else none)) else none)) else none) else none) else none) else (some (⟨a0.f0, a0.f1, a0.f2, a0.f3, a0.f4, a0.f5, l50, a0.f7⟩ : S40)))
def spec_l15Copy.f (k : Nat) (a0 : S40) : Option (S40) := (spec_l15Copy.l0 k ([] : List S109) 0 a0)
set_option maxHeartbeats 16000000 in
theorem spec_l15Copy.calls {k : Nat} {a0 : S40} {Ap0 : Option Addr} {np0 cp0 : Nat} {r : S40} {w : World} (h : spec_l15Copy.f k a0 = some r) (gp0 : k109.C w Ap0 np0 a0.f6) (lp0 : np0 ≤ cp0) :
    Calls Try.prog 104 #[.agg #[.string a0.f0, .int .i64 a0.f1, .int .i64 a0.f2, .int .i64 a0.f3, .int .i64 a0.f4, .int .i64 a0.f5, .slice Ap0 np0 cp0, .string a0.f7]] w (fun e w' => ∃ v0_ : Value, e = .returned (.agg #[.string r.f0, .int .i64 r.f1, .int .i64 r.f2, .int .i64 r.f3, .int .i64 r.f4, .int .i64 r.f5, v0_, .string r.f7]) ∧ Hp noFP w w' [.own (Zd.slice 109 q109) r.f6 [v0_]]) := by
 obtain rfl := C_len gp0
 have HS := Hp.start w
 have H := Aside0.mk h
 clear h
 unfold spec_l15Copy.f at H
 go_enter Try.func104, Try.ntmps104
 go_wp2_with (first | ((with_reducible refine gate_dst (N := 1) rfl ?_); refine ev_box rfl HS (by first | (go_simp; done) | (go_simp; rfl)) rfl ?_; clear HS; (try clear F); intro g1 w1 HS; (try simp only [hpn, hpm] at HS); have F := HS.boxes; simp only [boxFacts, and_true] at F) | ((with_reducible refine gate_dst (N := 2) rfl ?_); refine ev_box rfl HS (by first | (go_simp; done) | (go_simp; rfl)) rfl ?_; clear HS; (try clear F); intro g2 w2 HS; (try simp only [hpn, hpm] at HS); have F := HS.boxes; simp only [boxFacts, and_true] at F) | ((with_reducible refine gate_dst (N := 3) rfl ?_); refine ev_box rfl HS (by first | (go_simp; done) | (go_simp; rfl)) rfl ?_; clear HS; (try clear F); intro g3 w3 HS; (try simp only [hpn, hpm] at HS); have F := HS.boxes; simp only [boxFacts, and_true] at F) | ((with_reducible refine gate_store (p := 3) rfl ?_); refine ev_store rfl 2 0 HS (seg := [.string a0.f0, .int .i64 a0.f1, .int .i64 a0.f2, .int .i64 a0.f3, .int .i64 a0.f4, .int .i64 a0.f5, .slice Ap0 a0.f6.length cp0, .string a0.f7]) rfl rfl rfl rfl rfl rfl (by kernel_rfl) (by simp [wrt]) (by simp [Value.oneCell']) ?_; clear HS; (try clear F); intro w7 HS; (try simp only [hpn, hpm] at HS); have F := HS.boxes; simp only [boxFacts, and_true] at F) | ((with_reducible refine gate_dst (N := 7) rfl ?_); refine ev_lit rfl q109 [] ([] : List S109) [] HS (by first | (go_simp; done) | (go_simp; rfl)) rfl rfl (Nat.le_of_ble_eq_true rfl) MadeL.nil ?_; clear HS; (try clear F); intro v9 w9 HS; obtain ⟨B9, d9, rfl, m9⟩ := HS.formn 0 3 rfl rfl; (try simp only [hpn, hpm] at HS); have F := HS.boxes; simp only [boxFacts, and_true] at F) | ((with_reducible refine gate_store (p := 8) rfl ?_); refine ev_store rfl 2 6 HS (seg := [.slice B9 0 d9]) rfl rfl rfl rfl rfl rfl (by kernel_rfl) (by simp [wrt]) (by simp [Value.oneCell']) ?_; clear HS; (try clear F); intro w11 HS; (try simp only [hpn, hpm] at HS); have F := HS.boxes; simp only [boxFacts, and_true] at F))
 go_loopg [4] k (fun kq v_4 w' => ∃ (l50 : List S109) (v51 : Value) (x52 : Int), v_4 = .int .i64 x52 ∧ Aside0 (spec_l15Copy.l0 kq l50 x52 a0 = some r) ∧ Aside0 (kq ≤ k) ∧ Hp noFP w w' [.box g1 [.string a0.f0, .int .i64 a0.f1, .int .i64 a0.f2, .int .i64 a0.f3, .int .i64 a0.f4, .int .i64 a0.f5, .slice Ap0 a0.f6.length cp0, .string a0.f7] 40, .box g2 [.string (⟨#[]⟩ : ByteArray), .int .i64 0, .int .i64 0, .int .i64 0, .int .i64 0, .int .i64 0, .slice none 0 0, .string (⟨#[]⟩ : ByteArray)] 40, .box g3 [.string a0.f0, .int .i64 a0.f1, .int .i64 a0.f2, .int .i64 a0.f3, .int .i64 a0.f4, .int .i64 a0.f5, v51, .string a0.f7] 40, .own (Zd.slice 109 q109) l50 [v51]])
 case atStart => exact ⟨_, _, _, rfl, H, ⟨Nat.le_refl _⟩, HS⟩
 case round =>
  clear HS H; (try clear F)
  obtain ⟨l50, v51, x52, rfl, H, HKk49, HS⟩ := hrel
  obtain ⟨B51, d51, rfl, m51⟩ := HS.form 3 rfl
  have F := HS.boxes; simp only [boxFacts, and_true] at F
  cases gk with
  | zero => exact absurd H.out (by simp [spec_l15Copy.l0])
  | succ k49 =>
   simp only [spec_l15Copy.l0] at H
   by_cases c54 : x52 < (a0.f6.length : Int)
   · replace H := zpos c54 H
     replace c54 := eq_true c54
     by_cases c55 : 0 ≤ x52
     case neg => exact zno c55 H
     replace H := zpos c55 H
     replace c55 := eq_true c55
     by_cases c56 : x52 < (a0.f6.length : Int)
     case neg => exact zno c56 H
     replace H := zpos c56 H
     replace c56 := eq_true c56
     obtain ⟨ad57, B57_2, d57_2, B57_3, d57_3, rfl, e57_0, e57_1, e57_2, e57_3, m57_2, y57_2, m57_3, y57_3⟩ := at_T109 gp0 x52 (of_eq_true c55) (of_eq_true c56)
     have e57_0_57 := (HS.keepc e57_0)
     have e57_1_57 := (HS.keepc e57_1)
     have e57_2_57 := (HS.keepc e57_2)
     have e57_3_57 := (HS.keepc e57_3)
     by_cases c64 : 0 + (rd_T109 a0.f6 x52).f2.length ≤ 8796093022208
     case neg => exact zno c64 H
     replace H := zpos c64 H
     replace c64 := eq_true c64
     replace H := zlets H; obtain ⟨y65, e_y65, H⟩ := H
     by_cases c71 : 0 + (rd_T109 a0.f6 x52).f3.length ≤ 8796093022208
     case neg => exact zno c71 H
     replace H := zpos c71 H
     replace c71 := eq_true c71
     replace H := zlets H; obtain ⟨y72, e_y72, H⟩ := H
     by_cases c78 : l50.length + 1 ≤ 2199023255552
     case neg => exact zno c78 H
     replace H := zpos c78 H
     replace c78 := eq_true c78
     replace H := zlets H; obtain ⟨y79, e_y79, H⟩ := H
     go_wp2_with (first | ((with_reducible refine gate_dst (N := 5) rfl ?_); refine ev_box rfl HS (by first | (go_simp; done) | (go_simp; rfl)) rfl ?_; clear HS; (try clear F); intro g5 w5 HS; (try simp only [hpn, hpm] at HS); have F := HS.boxes; simp only [boxFacts, and_true] at F) | ((with_reducible refine gate_store (p := 5) rfl ?_); refine ev_store rfl 4 0 HS (seg := [.int .i64 ((rd_T109 a0.f6 x52).f0), .int .i64 ((rd_T109 a0.f6 x52).f1), .slice B57_2 (rd_T109 a0.f6 x52).f2.length d57_2, .slice B57_3 (rd_T109 a0.f6 x52).f3.length d57_3]) rfl rfl rfl rfl rfl rfl (by kernel_rfl) (by simp [wrt]) (by simp [Value.oneCell']) ?_; clear HS; (try clear F); intro w60 HS; (try simp only [hpn, hpm] at HS); have F := HS.boxes; simp only [boxFacts, and_true] at F) | ((with_reducible refine gate_dst (N := 21) rfl ?_); refine ev_lit rfl Zd.string [] ([] : List ByteArray) [] HS (by first | (go_simp; done) | (go_simp; rfl)) rfl rfl (Nat.le_of_ble_eq_true rfl) MadeL.nil ?_; clear HS; (try clear F); intro v62 w62 HS; obtain ⟨B62, d62, rfl, m62⟩ := HS.formn 0 5 rfl rfl; (try simp only [hpn, hpm] at HS); have F := HS.boxes; simp only [boxFacts, and_true] at F) | ((with_reducible refine gate_dst (N := 24) rfl ?_); refine ev_appendr rfl Zd.string flat_string 5 HS rfl (HS.ro y57_2) rfl rfl rfl Try.underlying73 info9 rfl (by decide) (by decide) (by have := of_eq_true c64; first | omega | (simp only [List.length_cons, List.length_nil, List.length_append, Nat.zero_add] at this ⊢; omega)) ?_; clear HS; (try clear F); intro v65 w65 HS; rw [← e_y65.out] at HS; obtain ⟨B65, d65, rfl, m65⟩ := HS.form 6 rfl; (try simp only [hpn, hpm] at HS); have F := HS.boxes; simp only [boxFacts, and_true] at F) | ((with_reducible refine gate_store (p := 25) rfl ?_); refine ev_store rfl 4 2 HS (seg := [.slice B65 y65.length d65]) rfl rfl rfl rfl rfl rfl (by kernel_rfl) (by simp [wrt]) (by simp [Value.oneCell']) ?_; clear HS; (try clear F); intro w67 HS; (try simp only [hpn, hpm] at HS); have F := HS.boxes; simp only [boxFacts, and_true] at F) | ((with_reducible refine gate_dst (N := 26) rfl ?_); refine ev_lit rfl Zd.string [] ([] : List ByteArray) [] HS (by first | (go_simp; done) | (go_simp; rfl)) rfl rfl (Nat.le_of_ble_eq_true rfl) MadeL.nil ?_; clear HS; (try clear F); intro v69 w69 HS; obtain ⟨B69, d69, rfl, m69⟩ := HS.formn 0 7 rfl rfl; (try simp only [hpn, hpm] at HS); have F := HS.boxes; simp only [boxFacts, and_true] at F) | ((with_reducible refine gate_dst (N := 29) rfl ?_); refine ev_appendr rfl Zd.string flat_string 7 HS rfl (HS.ro y57_3) rfl rfl rfl Try.underlying73 info9 rfl (by decide) (by decide) (by have := of_eq_true c71; first | omega | (simp only [List.length_cons, List.length_nil, List.length_append, Nat.zero_add] at this ⊢; omega)) ?_; clear HS; (try clear F); intro v72 w72 HS; rw [← e_y72.out] at HS; obtain ⟨B72, d72, rfl, m72⟩ := HS.form 8 rfl; (try simp only [hpn, hpm] at HS); have F := HS.boxes; simp only [boxFacts, and_true] at F) | ((with_reducible refine gate_store (p := 30) rfl ?_); refine ev_store rfl 4 3 HS (seg := [.slice B72 y72.length d72]) rfl rfl rfl rfl rfl rfl (by kernel_rfl) (by simp [wrt]) (by simp [Value.oneCell']) ?_; clear HS; (try clear F); intro w74 HS; (try simp only [hpn, hpm] at HS); have F := HS.boxes; simp only [boxFacts, and_true] at F) | ((with_reducible refine gate_dst (N := 34) rfl ?_); refine ev_lit rfl q109 [6, 8] ([(⟨(rd_T109 a0.f6 x52).f0, (rd_T109 a0.f6 x52).f1, y65, y72⟩ : S109)] : List S109) ([.int .i64 ((rd_T109 a0.f6 x52).f0), .int .i64 ((rd_T109 a0.f6 x52).f1), .slice B65 y65.length d65, .slice B72 y72.length d72] ++ []) HS (by first | (go_simp; done) | (go_simp; rfl)) rfl rfl (Nat.le_of_ble_eq_true rfl) (MadeL.cons (js1 := [6, 8]) (c := [.int .i64 ((rd_T109 a0.f6 x52).f0), .int .i64 ((rd_T109 a0.f6 x52).f1), .slice B65 y65.length d65, .slice B72 y72.length d72]) rfl (fun S hd hh => q109_pack (x := (⟨(rd_T109 a0.f6 x52).f0, (rd_T109 a0.f6 x52).f1, y65, y72⟩ : S109)) hd (hh 6 (.own (Zd.slice 9 Zd.string) y65 [.slice B65 y65.length d65]) rfl) (hh 8 (.own (Zd.slice 9 Zd.string) y72 [.slice B72 y72.length d72]) rfl) (by decide)) MadeL.nil (by decide)) ?_; clear HS; (try clear F); intro v76 w76 HS; obtain ⟨B76, d76, rfl, m76⟩ := HS.formn 1 9 rfl rfl; (try simp only [hpn, hpm] at HS); have F := HS.boxes; simp only [boxFacts, and_true] at F) | ((with_reducible refine gate_dst (N := 35) rfl ?_); refine ev_append rfl q109 3 9 HS rfl rfl (by decide) rfl rfl rfl Try.underlying38 info109 rfl (by decide) (by decide) (by have := of_eq_true c78; first | omega | (simp only [List.length_cons, List.length_nil, List.length_append, Nat.zero_add] at this ⊢; omega)) ?_; clear HS; (try clear F); intro v79 w79 HS; rw [← e_y79.out] at HS; obtain ⟨B79, d79, rfl, m79⟩ := HS.form 10 rfl; (try simp only [hpn, hpm] at HS); have F := HS.boxes; simp only [boxFacts, and_true] at F) | ((with_reducible refine gate_store (p := 36) rfl ?_); refine ev_store rfl 2 6 HS (seg := [.slice B79 y79.length d79]) rfl rfl rfl rfl rfl rfl (by kernel_rfl) (by simp [wrt]) (by simp [Value.oneCell']) ?_; clear HS; (try clear F); intro w81 HS; (try simp only [hpn, hpm] at HS); have F := HS.boxes; simp only [boxFacts, and_true] at F))
     go_roundg k49
     case measure => have := HKk49.out; omega
     case rel => exact ⟨_, _, _, rfl, H, ⟨by have := HKk49.out; omega⟩, HS.pick [0, 1, 2, 10] (by decide) (by rfl)⟩
   · replace H := zneg c54 H
     replace c54 := eq_false c54
     obtain rfl := zsome H
     go_wp2_with (first | ((with_reducible refine gate_store (p := 2) rfl ?_); refine ev_store rfl 1 0 HS (seg := [.string a0.f0, .int .i64 a0.f1, .int .i64 a0.f2, .int .i64 a0.f3, .int .i64 a0.f4, .int .i64 a0.f5, .slice B51 l50.length d51, .string a0.f7]) rfl rfl rfl rfl rfl rfl (by kernel_rfl) (by simp [wrt]) (by simp [Value.oneCell']) ?_; clear HS; (try clear F); intro w83 HS; (try simp only [hpn, hpm] at HS); have F := HS.boxes; simp only [boxFacts, and_true] at F))
     exact bodyPost_ret (results_single rfl (.cell _ _ _ _ _ rfl (HS.boxAt (i := 1) rfl) Try.underlying40 rfl (by kernel_rfl) .nil)) rfl ⟨_, rfl, HS.pick [3] (by decide) (by rfl)⟩
end Go.Proofs.Ytoaoncnbimcdgaa.F

/- Functions of the program and of the law, and that their calls do what is written here. -/
import Derived.Test.YtoaoncnbimcdgaaZgFnExactTrustingi
import Derived.Test.YtoaoncnbimcdgaaZgFnExactTrustingj
namespace Go.Proofs.Ytoaoncnbimcdgaa.F
open Go.RowKit Go.Proofs.YtoaoncnbimcdgaaW.PrintWords Go.Proofs.YtoaoncnbimcdgaaW.PrintLast Go.Proofs.YtoaoncnbimcdgaaW.PrintMore Go.Proofs.Ytoaoncnbimcdgaa.Z
attribute [local go_sem] max2_int min2_int max_two min_two max_three min_three max_four min_four
set_option linter.unusedVariables false
set_option linter.unusedSimpArgs false
set_option maxRecDepth 100000
/-! ### laws_heldCertS: function 87 -/
def laws_heldCertS.l0 : Nat → Int → Int → (List S192) → Option (Int)
  | 0, _, _, _ => none
  | k + 1, x11, x12, a0 => (if x12 < (a0.length : Int) then (if 0 ≤ x12 then (if x12 < (a0.length : Int) then (if (rd_T192 a0 x12).f0 = x11 then ((laws_markText.f k (wrap64 (x11 + 1))).bind fun t106001 => (if ((rd_T192 a0 x12).f1).toList = t106001.toList then ((laws_markText.f k (wrap64 ((wrap64 (x11 + 1)) + 1))).bind fun t206001 => (if ((rd_T192 a0 x12).f2).toList = t206001.toList then (if (rd_T192 a0 x12).f3 = (wrap64 ((wrap64 ((wrap64 (x11 + 1)) + 1)) + 1)) then (if (rd_T192 a0 x12).f4 = (wrap64 ((wrap64 ((wrap64 ((wrap64 (x11 + 1)) + 1)) + 1)) + 1)) then ((laws_markText.f k (wrap64 ((wrap64 ((wrap64 ((wrap64 ((wrap64 (x11 + 1)) + 1)) + 1)) + 1)) + 1))).bind fun t306001 => (if ((rd_T192 a0 x12).f5).toList = t306001.toList then (if (rd_T192 a0 x12).f6 = ((Int.tmod (wrap64 ((wrap64 ((wrap64 ((wrap64 ((wrap64 ((wrap64 (x11 + 1)) + 1)) + 1)) + 1)) + 1)) + 1)) 3) == 0) then (if (rd_T192 a0 x12).f7 = (wrap64 ((wrap64 ((wrap64 ((wrap64 ((wrap64 ((wrap64 ((wrap64 (x11 + 1)) + 1)) + 1)) + 1)) + 1)) + 1)) + 1)) then (if (rd_T192 a0 x12).f8 = (wrap64 ((wrap64 ((wrap64 ((wrap64 ((wrap64 ((wrap64 ((wrap64 ((wrap64 (x11 + 1)) + 1)) + 1)) + 1)) + 1)) + 1)) + 1)) + 1)) then ((laws_heldIntS.f k ((rd_T192 a0 x12).f9) (wrap64 ((wrap64 ((wrap64 ((wrap64 ((wrap64 ((wrap64 ((wrap64 ((wrap64 ((wrap64 (x11 + 1)) + 1)) + 1)) + 1)) + 1)) + 1)) + 1)) + 1)) + 1))).bind fun t42 => (if t42 < 0 then (some (-1)) else ((laws_heldStringS.f k ((rd_T192 a0 x12).f10) t42).bind fun t46 => (if t46 < 0 then (some (-1)) else ((laws_heldStringS.f k ((rd_T192 a0 x12).f11) t46).bind fun t50 => (if t50 < 0 then (some (-1)) else ((laws_markText.f k t50).bind fun t406001 => (if ((rd_T192 a0 x12).f12).toList = t406001.toList then (laws_heldCertS.l0 k (wrap64 (t50 + 1)) (wrap64 (x12 + 1)) a0) else (some (-1)))))))))) else (some (-1))) else (some (-1))) else (some (-1))) else (some (-1)))) else (some (-1))) else (some (-1))) else (some (-1)))) else (some (-1)))) else (some (-1))) else none) else none) else (some x11))
def laws_heldCertS.f (k : Nat) (a0 : (List S192)) (a1 : Int) : Option (Int) := (laws_heldCertS.l0 k a1 0 a0)
def laws_heldCertS.T7 : Bool × List (List Nat × List Nat) := (true, [([], []), ([], []), ([0, 1], [0, 1]), ([2], [2]), ([3], [3]), ([], []), ([5], [5]), ([4, 6], [4, 6])])
theorem laws_heldCertS.tT7 : rtab .any (opsOf Try.f87 7) = laws_heldCertS.T7 := by kernel_rfl
def laws_heldCertS.T10 : Bool × List (List Nat × List Nat) := (true, [([], []), ([], []), ([0, 1], [0, 1]), ([2], [2]), ([3], [3]), ([], []), ([5], [5]), ([4, 6], [4, 6])])
theorem laws_heldCertS.tT10 : rtab .any (opsOf Try.f87 10) = laws_heldCertS.T10 := by kernel_rfl
def laws_heldCertS.T19 : Bool × List (List Nat × List Nat) := (true, [([], []), ([], []), ([0, 1], [0, 1]), ([2], [2]), ([3], [3]), ([], []), ([5], [5]), ([4, 6], [4, 6])])
theorem laws_heldCertS.tT19 : rtab .any (opsOf Try.f87 19) = laws_heldCertS.T19 := by kernel_rfl
def laws_heldCertS.T40 : Bool × List (List Nat × List Nat) := (true, [([], []), ([], []), ([0, 1], [0, 1]), ([2], [2]), ([3], [3]), ([], []), ([5], [5]), ([4, 6], [4, 6])])
theorem laws_heldCertS.tT40 : rtab .any (opsOf Try.f87 40) = laws_heldCertS.T40 := by kernel_rfl
set_option maxHeartbeats 16000000 in
theorem laws_heldCertS.calls {k : Nat} {a0 : (List S192)} {a1 : Int} {Ap0 : Option Addr} {np0 cp0 : Nat} {r : Int} {w : World} (h : laws_heldCertS.f k a0 a1 = some r) (gp0 : k192.C w Ap0 np0 a0) (lp0 : np0 ≤ cp0) :
    Calls Try.prog 87 #[.slice Ap0 np0 cp0, .int .i64 a1] w (fun e w' => e = .returned (.int .i64 r) ∧ Hp noFP w w' []) := by
 obtain rfl := C_len gp0
 have HS := Hp.start w
 have H := Aside0.mk h
 clear h
 unfold laws_heldCertS.f at H
 go_enter Try.func87, Try.ntmps87
 go_wp2
 go_loopg [1, 5] k (fun kq v_1 v_5 w' => ∃ (x11 : Int) (x12 : Int), v_1 = .int .i64 x11 ∧ v_5 = .int .i64 x12 ∧ Aside0 (laws_heldCertS.l0 kq x11 x12 a0 = some r) ∧ Aside0 (kq ≤ k) ∧ Hp noFP w w' [])
 case atStart => exact ⟨_, _, rfl, rfl, H, ⟨Nat.le_refl _⟩, HS⟩
 case round =>
  clear HS H; (try clear F)
  obtain ⟨x11, x12, rfl, rfl, H, HKk10, HS⟩ := hrel
  cases gk with
  | zero => exact absurd H.out (by simp [laws_heldCertS.l0])
  | succ k10 =>
   simp only [laws_heldCertS.l0] at H
   by_cases c14 : x12 < (a0.length : Int)
   · replace H := zpos c14 H
     replace c14 := eq_true c14
     by_cases c15 : 0 ≤ x12
     case neg => exact zno c15 H
     replace H := zpos c15 H
     replace c15 := eq_true c15
     by_cases c16 : x12 < (a0.length : Int)
     case neg => exact zno c16 H
     replace H := zpos c16 H
     replace c16 := eq_true c16
     obtain ⟨ad17, B17_9, d17_9, B17_10, d17_10, B17_11, d17_11, rfl, e17_0, e17_1, e17_2, e17_3, e17_4, e17_5, e17_6, e17_7, e17_8, e17_9, e17_10, e17_11, e17_12, m17_9, y17_9, m17_10, y17_10, m17_11, y17_11⟩ := at_T192 gp0 x12 (of_eq_true c15) (of_eq_true c16)
     have e17_0_17 := (HS.keepc e17_0)
     have e17_1_17 := (HS.keepc e17_1)
     have e17_2_17 := (HS.keepc e17_2)
     have e17_3_17 := (HS.keepc e17_3)
     have e17_4_17 := (HS.keepc e17_4)
     have e17_5_17 := (HS.keepc e17_5)
     have e17_6_17 := (HS.keepc e17_6)
     have e17_7_17 := (HS.keepc e17_7)
     have e17_8_17 := (HS.keepc e17_8)
     have e17_9_17 := (HS.keepc e17_9)
     have e17_10_17 := (HS.keepc e17_10)
     have e17_11_17 := (HS.keepc e17_11)
     have e17_12_17 := (HS.keepc e17_12)
     by_cases c18 : (rd_T192 a0 x12).f0 = x11
     · replace H := zpos c18 H
       have c18a := beq_iff_eq.mpr c18
       have c18b := bne_eq_false_iff_eq.mpr c18
       clear c18
       (try go_wp2)
       replace H := zbind H; obtain ⟨t106001, ht106001, H⟩ := H
       refine dr_start [] HS #[false, false, false, false, false, false, false, false] (by kernel_rfl) rfl rfl laws_heldCertS.tT7 (fun w20 HT HS HH => ?_)
       (try clear F)
       refine drq_of [(0, some 21), (1, some 22), (2, some 23), (3, some 24)] ?_
       repeat (first | (refine drq_pure HT (v := ?_) (a' := ?_) rfl rfl (by kernel_rfl) (fun _ _ _ h => h) (.inl ⟨by rfl, ?_⟩) ?_ ?_; rotate_left; (intro w'; go_simp; with_reducible rfl); rotate_left; (simp only [Act.put, List.setIfInBounds_toArray, List.set_cons_zero, List.set_cons_succ, i64_w, i32_w]; rfl)))
       refine drq_end ?_
       refine dr_take 4 (some 25) HT HH (v := ?_) (a' := ?_) rfl rfl (by kernel_rfl) (fun _ _ _ h => h) (.inl ⟨by rfl, ?_⟩) ?_ ?_
       rotate_left
       · rintro w' ⟨rs', HS'⟩; have e17_0 := (HS'.keepc e17_0); have e17_1 := (HS'.keepc e17_1); have e17_2 := (HS'.keepc e17_2); have e17_3 := (HS'.keepc e17_3); have e17_4 := (HS'.keepc e17_4); have e17_5 := (HS'.keepc e17_5); have e17_6 := (HS'.keepc e17_6); have e17_7 := (HS'.keepc e17_7); have e17_8 := (HS'.keepc e17_8); have e17_9 := (HS'.keepc e17_9); have e17_10 := (HS'.keepc e17_10); have e17_11 := (HS'.keepc e17_11); have e17_12 := (HS'.keepc e17_12); go_simp; with_reducible rfl
       rotate_left
       · simp only [Act.put, List.setIfInBounds_toArray, List.set_cons_zero, List.set_cons_succ, i64_w, i32_w]; rfl
       refine drq_of [(5, some 26)] ?_
       repeat (first | (refine drq_pure HT (v := ?_) (a' := ?_) rfl rfl (by kernel_rfl) (fun _ _ _ h => h) (.inl ⟨by rfl, ?_⟩) ?_ ?_; rotate_left; (intro w'; go_simp; with_reducible rfl); rotate_left; (simp only [Act.put, List.setIfInBounds_toArray, List.set_cons_zero, List.set_cons_succ, i64_w, i32_w]; rfl)))
       refine drq_end ?_
       refine dr_one 6 HT rfl (by kernel_rfl) (by decide) (fun K hK => ?_)
       refine goes_ Try.func110 (by kernel_rfl) rfl #[.int .i64 (wrap64 (x11 + 1))] (by rfl) rfl rfl (by simp only [List.map_toArray, List.map_cons, List.map_nil]; rfl) ?_; refine (laws_markText.calls ht106001.out).mono ?_; rintro _ wt106001 ⟨rfl, HQ⟩; refine ⟨_, rfl, ?_⟩; replace HS := HS.call HQ; clear HQ; (try clear F)
       replace HS : Hp noFP w _ [] := HS
       refine hK.out _ _ ⟨_, HS⟩ (fun HH => ?_)
       clear hK K
       refine norm_ (a' := ?_) ?_ ?_
       rotate_left
       · show Act.put _ (some 27) _ = _; simp only [Act.put, List.setIfInBounds_toArray, List.set_cons_zero, List.set_cons_succ, i64_w, i32_w]; rfl
       refine drq_of [(7, some 28)] ?_
       repeat (first | (refine drq_pure HT (v := ?_) (a' := ?_) rfl rfl (by kernel_rfl) (fun _ _ _ h => h) (.inl ⟨by rfl, ?_⟩) ?_ ?_; rotate_left; (intro w'; go_simp; with_reducible rfl); rotate_left; (simp only [Act.put, List.setIfInBounds_toArray, List.set_cons_zero, List.set_cons_succ, i64_w, i32_w]; rfl)))
       refine drq_end ?_
       refine done_ (done_of HT.out (by kernel_rfl)) ?_
       by_cases c22 : ((rd_T192 a0 x12).f1).toList = t106001.toList
       · replace H := zpos c22 H
         have c22a := beq_iff_eq.mpr c22
         have c22b := bne_eq_false_iff_eq.mpr c22
         clear c22
         (try simp only [c22a, c22b, decide_true, decide_false, Bool.not_true, Bool.not_false])
         (try go_wp2)
         replace H := zbind H; obtain ⟨t206001, ht206001, H⟩ := H
         refine dr_start [] HS #[false, false, false, false, false, false, false, false] (by kernel_rfl) rfl rfl laws_heldCertS.tT10 (fun w24 HT HS HH => ?_)
         (try clear F)
         refine drq_of [(0, some 31), (1, some 32), (2, some 33), (3, some 34)] ?_
         repeat (first | (refine drq_pure HT (v := ?_) (a' := ?_) rfl rfl (by kernel_rfl) (fun _ _ _ h => h) (.inl ⟨by rfl, ?_⟩) ?_ ?_; rotate_left; (intro w'; go_simp; with_reducible rfl); rotate_left; (simp only [Act.put, List.setIfInBounds_toArray, List.set_cons_zero, List.set_cons_succ, i64_w, i32_w]; rfl)))
         refine drq_end ?_
         refine dr_take 4 (some 35) HT HH (v := ?_) (a' := ?_) rfl rfl (by kernel_rfl) (fun _ _ _ h => h) (.inl ⟨by rfl, ?_⟩) ?_ ?_
         rotate_left
         · rintro w' ⟨rs', HS'⟩; have e17_0 := (HS'.keepc e17_0); have e17_1 := (HS'.keepc e17_1); have e17_2 := (HS'.keepc e17_2); have e17_3 := (HS'.keepc e17_3); have e17_4 := (HS'.keepc e17_4); have e17_5 := (HS'.keepc e17_5); have e17_6 := (HS'.keepc e17_6); have e17_7 := (HS'.keepc e17_7); have e17_8 := (HS'.keepc e17_8); have e17_9 := (HS'.keepc e17_9); have e17_10 := (HS'.keepc e17_10); have e17_11 := (HS'.keepc e17_11); have e17_12 := (HS'.keepc e17_12); go_simp; with_reducible rfl
         rotate_left
         · simp only [Act.put, List.setIfInBounds_toArray, List.set_cons_zero, List.set_cons_succ, i64_w, i32_w]; rfl
         refine drq_of [(5, some 36)] ?_
         repeat (first | (refine drq_pure HT (v := ?_) (a' := ?_) rfl rfl (by kernel_rfl) (fun _ _ _ h => h) (.inl ⟨by rfl, ?_⟩) ?_ ?_; rotate_left; (intro w'; go_simp; with_reducible rfl); rotate_left; (simp only [Act.put, List.setIfInBounds_toArray, List.set_cons_zero, List.set_cons_succ, i64_w, i32_w]; rfl)))
         refine drq_end ?_
         refine dr_one 6 HT rfl (by kernel_rfl) (by decide) (fun K hK => ?_)
         refine goes_ Try.func110 (by kernel_rfl) rfl #[.int .i64 (wrap64 ((wrap64 (x11 + 1)) + 1))] (by rfl) rfl rfl (by simp only [List.map_toArray, List.map_cons, List.map_nil]; rfl) ?_; refine (laws_markText.calls ht206001.out).mono ?_; rintro _ wt206001 ⟨rfl, HQ⟩; refine ⟨_, rfl, ?_⟩; replace HS := HS.call HQ; clear HQ; (try clear F)
         replace HS : Hp noFP w _ [] := HS
         refine hK.out _ _ ⟨_, HS⟩ (fun HH => ?_)
         clear hK K
         refine norm_ (a' := ?_) ?_ ?_
         rotate_left
         · show Act.put _ (some 37) _ = _; simp only [Act.put, List.setIfInBounds_toArray, List.set_cons_zero, List.set_cons_succ, i64_w, i32_w]; rfl
         refine drq_of [(7, some 38)] ?_
         repeat (first | (refine drq_pure HT (v := ?_) (a' := ?_) rfl rfl (by kernel_rfl) (fun _ _ _ h => h) (.inl ⟨by rfl, ?_⟩) ?_ ?_; rotate_left; (intro w'; go_simp; with_reducible rfl); rotate_left; (simp only [Act.put, List.setIfInBounds_toArray, List.set_cons_zero, List.set_cons_succ, i64_w, i32_w]; rfl)))
         refine drq_end ?_
         refine done_ (done_of HT.out (by kernel_rfl)) ?_
         by_cases c26 : ((rd_T192 a0 x12).f2).toList = t206001.toList
         · replace H := zpos c26 H
           have c26a := beq_iff_eq.mpr c26
           have c26b := bne_eq_false_iff_eq.mpr c26
           clear c26
           (try simp only [c26a, c26b, decide_true, decide_false, Bool.not_true, Bool.not_false])
           have e17_0_27 := (HS.keepc e17_0)
           have e17_1_27 := (HS.keepc e17_1)
           have e17_2_27 := (HS.keepc e17_2)
           have e17_3_27 := (HS.keepc e17_3)
           have e17_4_27 := (HS.keepc e17_4)
           have e17_5_27 := (HS.keepc e17_5)
           have e17_6_27 := (HS.keepc e17_6)
           have e17_7_27 := (HS.keepc e17_7)
           have e17_8_27 := (HS.keepc e17_8)
           have e17_9_27 := (HS.keepc e17_9)
           have e17_10_27 := (HS.keepc e17_10)
           have e17_11_27 := (HS.keepc e17_11)
           have e17_12_27 := (HS.keepc e17_12)
           by_cases c28 : (rd_T192 a0 x12).f3 = (wrap64 ((wrap64 ((wrap64 (x11 + 1)) + 1)) + 1))
           · replace H := zpos c28 H
             have c28a := beq_iff_eq.mpr c28
             have c28b := bne_eq_false_iff_eq.mpr c28
             clear c28
             (try simp only [c28a, c28b, decide_true, decide_false, Bool.not_true, Bool.not_false])
             have e17_0_29 := (HS.keepc e17_0)
             have e17_1_29 := (HS.keepc e17_1)
             have e17_2_29 := (HS.keepc e17_2)
             have e17_3_29 := (HS.keepc e17_3)
             have e17_4_29 := (HS.keepc e17_4)
             have e17_5_29 := (HS.keepc e17_5)
             have e17_6_29 := (HS.keepc e17_6)
             have e17_7_29 := (HS.keepc e17_7)
             have e17_8_29 := (HS.keepc e17_8)
             have e17_9_29 := (HS.keepc e17_9)
             have e17_10_29 := (HS.keepc e17_10)
             have e17_11_29 := (HS.keepc e17_11)
             have e17_12_29 := (HS.keepc e17_12)
             by_cases c30 : (rd_T192 a0 x12).f4 = (wrap64 ((wrap64 ((wrap64 ((wrap64 (x11 + 1)) + 1)) + 1)) + 1))
             · replace H := zpos c30 H
               have c30a := beq_iff_eq.mpr c30
               have c30b := bne_eq_false_iff_eq.mpr c30
               clear c30
               (try simp only [c30a, c30b, decide_true, decide_false, Bool.not_true, Bool.not_false])
               (try go_wp2)
               replace H := zbind H; obtain ⟨t306001, ht306001, H⟩ := H
               refine dr_start [] HS #[false, false, false, false, false, false, false, false] (by kernel_rfl) rfl rfl laws_heldCertS.tT19 (fun w32 HT HS HH => ?_)
               (try clear F)
               refine drq_of [(0, some 59), (1, some 60), (2, some 61), (3, some 62)] ?_
               repeat (first | (refine drq_pure HT (v := ?_) (a' := ?_) rfl rfl (by kernel_rfl) (fun _ _ _ h => h) (.inl ⟨by rfl, ?_⟩) ?_ ?_; rotate_left; (intro w'; go_simp; with_reducible rfl); rotate_left; (simp only [Act.put, List.setIfInBounds_toArray, List.set_cons_zero, List.set_cons_succ, i64_w, i32_w]; rfl)))
               refine drq_end ?_
               refine dr_take 4 (some 63) HT HH (v := ?_) (a' := ?_) rfl rfl (by kernel_rfl) (fun _ _ _ h => h) (.inl ⟨by rfl, ?_⟩) ?_ ?_
               rotate_left
               · rintro w' ⟨rs', HS'⟩; have e17_0 := (HS'.keepc e17_0); have e17_1 := (HS'.keepc e17_1); have e17_2 := (HS'.keepc e17_2); have e17_3 := (HS'.keepc e17_3); have e17_4 := (HS'.keepc e17_4); have e17_5 := (HS'.keepc e17_5); have e17_6 := (HS'.keepc e17_6); have e17_7 := (HS'.keepc e17_7); have e17_8 := (HS'.keepc e17_8); have e17_9 := (HS'.keepc e17_9); have e17_10 := (HS'.keepc e17_10); have e17_11 := (HS'.keepc e17_11); have e17_12 := (HS'.keepc e17_12); go_simp; with_reducible rfl
               rotate_left
               · simp only [Act.put, List.setIfInBounds_toArray, List.set_cons_zero, List.set_cons_succ, i64_w, i32_w]; rfl
               refine drq_of [(5, some 64)] ?_
               repeat (first | (refine drq_pure HT (v := ?_) (a' := ?_) rfl rfl (by kernel_rfl) (fun _ _ _ h => h) (.inl ⟨by rfl, ?_⟩) ?_ ?_; rotate_left; (intro w'; go_simp; with_reducible rfl); rotate_left; (simp only [Act.put, List.setIfInBounds_toArray, List.set_cons_zero, List.set_cons_succ, i64_w, i32_w]; rfl)))
               refine drq_end ?_
               refine dr_one 6 HT rfl (by kernel_rfl) (by decide) (fun K hK => ?_)
               refine goes_ Try.func110 (by kernel_rfl) rfl #[.int .i64 (wrap64 ((wrap64 ((wrap64 ((wrap64 ((wrap64 (x11 + 1)) + 1)) + 1)) + 1)) + 1))] (by rfl) rfl rfl (by simp only [List.map_toArray, List.map_cons, List.map_nil]; rfl) ?_; refine (laws_markText.calls ht306001.out).mono ?_; rintro _ wt306001 ⟨rfl, HQ⟩; refine ⟨_, rfl, ?_⟩; replace HS := HS.call HQ; clear HQ; (try clear F)
               replace HS : Hp noFP w _ [] := HS
               refine hK.out _ _ ⟨_, HS⟩ (fun HH => ?_)
               clear hK K
               refine norm_ (a' := ?_) ?_ ?_
               rotate_left
               · show Act.put _ (some 65) _ = _; simp only [Act.put, List.setIfInBounds_toArray, List.set_cons_zero, List.set_cons_succ, i64_w, i32_w]; rfl
               refine drq_of [(7, some 66)] ?_
               repeat (first | (refine drq_pure HT (v := ?_) (a' := ?_) rfl rfl (by kernel_rfl) (fun _ _ _ h => h) (.inl ⟨by rfl, ?_⟩) ?_ ?_; rotate_left; (intro w'; go_simp; with_reducible rfl); rotate_left; (simp only [Act.put, List.setIfInBounds_toArray, List.set_cons_zero, List.set_cons_succ, i64_w, i32_w]; rfl)))
               refine drq_end ?_
               refine done_ (done_of HT.out (by kernel_rfl)) ?_
               by_cases c34 : ((rd_T192 a0 x12).f5).toList = t306001.toList
               · replace H := zpos c34 H
                 have c34a := beq_iff_eq.mpr c34
                 have c34b := bne_eq_false_iff_eq.mpr c34
                 clear c34
                 (try simp only [c34a, c34b, decide_true, decide_false, Bool.not_true, Bool.not_false])
                 have e17_0_35 := (HS.keepc e17_0)
                 have e17_1_35 := (HS.keepc e17_1)
                 have e17_2_35 := (HS.keepc e17_2)
                 have e17_3_35 := (HS.keepc e17_3)
                 have e17_4_35 := (HS.keepc e17_4)
                 have e17_5_35 := (HS.keepc e17_5)
                 have e17_6_35 := (HS.keepc e17_6)
                 have e17_7_35 := (HS.keepc e17_7)
                 have e17_8_35 := (HS.keepc e17_8)
                 have e17_9_35 := (HS.keepc e17_9)
                 have e17_10_35 := (HS.keepc e17_10)
                 have e17_11_35 := (HS.keepc e17_11)
                 have e17_12_35 := (HS.keepc e17_12)
                 by_cases c36 : (rd_T192 a0 x12).f6 = ((Int.tmod (wrap64 ((wrap64 ((wrap64 ((wrap64 ((wrap64 ((wrap64 (x11 + 1)) + 1)) + 1)) + 1)) + 1)) + 1)) 3) == 0)
                 · replace H := zpos c36 H
                   have c36a := beq_iff_eq.mpr c36
                   have c36b := bne_eq_false_iff_eq.mpr c36
                   clear c36
                   (try simp only [c36a, c36b, decide_true, decide_false, Bool.not_true, Bool.not_false])
                   have e17_0_37 := (HS.keepc e17_0)
                   have e17_1_37 := (HS.keepc e17_1)
                   have e17_2_37 := (HS.keepc e17_2)
                   have e17_3_37 := (HS.keepc e17_3)
                   have e17_4_37 := (HS.keepc e17_4)
                   have e17_5_37 := (HS.keepc e17_5)
                   have e17_6_37 := (HS.keepc e17_6)
                   have e17_7_37 := (HS.keepc e17_7)
                   have e17_8_37 := (HS.keepc e17_8)
                   have e17_9_37 := (HS.keepc e17_9)
                   have e17_10_37 := (HS.keepc e17_10)
                   have e17_11_37 := (HS.keepc e17_11)
                   have e17_12_37 := (HS.keepc e17_12)
                   by_cases c38 : (rd_T192 a0 x12).f7 = (wrap64 ((wrap64 ((wrap64 ((wrap64 ((wrap64 ((wrap64 ((wrap64 (x11 + 1)) + 1)) + 1)) + 1)) + 1)) + 1)) + 1))
                   · replace H := zpos c38 H
                     have c38a := beq_iff_eq.mpr c38
                     have c38b := bne_eq_false_iff_eq.mpr c38
                     clear c38
                     (try simp only [c38a, c38b, decide_true, decide_false, Bool.not_true, Bool.not_false])
                     have e17_0_39 := (HS.keepc e17_0)
                     have e17_1_39 := (HS.keepc e17_1)
                     have e17_2_39 := (HS.keepc e17_2)
                     have e17_3_39 := (HS.keepc e17_3)
                     have e17_4_39 := (HS.keepc e17_4)
                     have e17_5_39 := (HS.keepc e17_5)
                     have e17_6_39 := (HS.keepc e17_6)
                     have e17_7_39 := (HS.keepc e17_7)
                     have e17_8_39 := (HS.keepc e17_8)
                     have e17_9_39 := (HS.keepc e17_9)
                     have e17_10_39 := (HS.keepc e17_10)
                     have e17_11_39 := (HS.keepc e17_11)
                     have e17_12_39 := (HS.keepc e17_12)
                     by_cases c40 : (rd_T192 a0 x12).f8 = (wrap64 ((wrap64 ((wrap64 ((wrap64 ((wrap64 ((wrap64 ((wrap64 ((wrap64 (x11 + 1)) + 1)) + 1)) + 1)) + 1)) + 1)) + 1)) + 1))
                     · replace H := zpos c40 H
                       have c40a := beq_iff_eq.mpr c40
                       have c40b := bne_eq_false_iff_eq.mpr c40
                       clear c40
                       (try simp only [c40a, c40b, decide_true, decide_false, Bool.not_true, Bool.not_false])
                       have e17_0_41 := (HS.keepc e17_0)
                       have e17_1_41 := (HS.keepc e17_1)
                       have e17_2_41 := (HS.keepc e17_2)
                       have e17_3_41 := (HS.keepc e17_3)
                       have e17_4_41 := (HS.keepc e17_4)
                       have e17_5_41 := (HS.keepc e17_5)
                       have e17_6_41 := (HS.keepc e17_6)
                       have e17_7_41 := (HS.keepc e17_7)
                       have e17_8_41 := (HS.keepc e17_8)
                       have e17_9_41 := (HS.keepc e17_9)
                       have e17_10_41 := (HS.keepc e17_10)
                       have e17_11_41 := (HS.keepc e17_11)
                       have e17_12_41 := (HS.keepc e17_12)
                       replace H := zbind H; obtain ⟨t42, ht42, H⟩ := H
                       go_upto_if 106 with (first | ((with_reducible refine gate_dst (N := 104) rfl ?_); refine ev_call rfl Try.func52 (by kernel_rfl) rfl #[.slice B17_9 (rd_T192 a0 x12).f9.length d17_9, .int .i64 (wrap64 ((wrap64 ((wrap64 ((wrap64 ((wrap64 ((wrap64 ((wrap64 ((wrap64 ((wrap64 (x11 + 1)) + 1)) + 1)) + 1)) + 1)) + 1)) + 1)) + 1)) + 1))] rfl (by simp only [List.map_toArray, List.map_cons, List.map_nil]; rfl) ?_; refine (laws_heldIntS.calls ht42.out (HS.ro y17_9) m17_9).mono ?_; rintro _ wt42 ⟨rfl, HQ⟩; refine ⟨_, rfl, ?_⟩; replace HS := HS.call HQ; clear HQ; (try clear F); replace HS : Hp noFP w _ [] := HS))
                       by_cases c44 : t42 < 0
                       · replace H := zpos c44 H
                         replace c44 := eq_true c44
                         (try simp only [c44, decide_true, decide_false, Bool.not_true, Bool.not_false])
                         obtain rfl := zsome H
                         go_wp2
                         go_ret
                         exact ⟨rfl, HS.pick [] (by decide) (by rfl)⟩
                       · replace H := zneg c44 H
                         replace c44 := eq_false c44
                         (try simp only [c44, decide_true, decide_false, Bool.not_true, Bool.not_false])
                         have e17_0_45 := (HS.keepc e17_0)
                         have e17_1_45 := (HS.keepc e17_1)
                         have e17_2_45 := (HS.keepc e17_2)
                         have e17_3_45 := (HS.keepc e17_3)
                         have e17_4_45 := (HS.keepc e17_4)
                         have e17_5_45 := (HS.keepc e17_5)
                         have e17_6_45 := (HS.keepc e17_6)
                         have e17_7_45 := (HS.keepc e17_7)
                         have e17_8_45 := (HS.keepc e17_8)
                         have e17_9_45 := (HS.keepc e17_9)
                         have e17_10_45 := (HS.keepc e17_10)
                         have e17_11_45 := (HS.keepc e17_11)
                         have e17_12_45 := (HS.keepc e17_12)
                         replace H := zbind H; obtain ⟨t46, ht46, H⟩ := H
                         go_upto_if 115 with (first | ((with_reducible refine gate_dst (N := 113) rfl ?_); refine ev_call rfl Try.func125 (by kernel_rfl) rfl #[.slice B17_10 (rd_T192 a0 x12).f10.length d17_10, .int .i64 t42] rfl (by simp only [List.map_toArray, List.map_cons, List.map_nil]; rfl) ?_; refine (laws_heldStringS.calls ht46.out (HS.ro y17_10) m17_10).mono ?_; rintro _ wt46 ⟨rfl, HQ⟩; refine ⟨_, rfl, ?_⟩; replace HS := HS.call HQ; clear HQ; (try clear F); replace HS : Hp noFP w _ [] := HS))
                         by_cases c48 : t46 < 0
                         · replace H := zpos c48 H
                           replace c48 := eq_true c48
                           (try simp only [c48, decide_true, decide_false, Bool.not_true, Bool.not_false])
                           obtain rfl := zsome H
                           go_wp2
                           go_ret
                           exact ⟨rfl, HS.pick [] (by decide) (by rfl)⟩
                         · replace H := zneg c48 H
                           replace c48 := eq_false c48
                           (try simp only [c48, decide_true, decide_false, Bool.not_true, Bool.not_false])
                           have e17_0_49 := (HS.keepc e17_0)
                           have e17_1_49 := (HS.keepc e17_1)
                           have e17_2_49 := (HS.keepc e17_2)
                           have e17_3_49 := (HS.keepc e17_3)
                           have e17_4_49 := (HS.keepc e17_4)
                           have e17_5_49 := (HS.keepc e17_5)
                           have e17_6_49 := (HS.keepc e17_6)
                           have e17_7_49 := (HS.keepc e17_7)
                           have e17_8_49 := (HS.keepc e17_8)
                           have e17_9_49 := (HS.keepc e17_9)
                           have e17_10_49 := (HS.keepc e17_10)
                           have e17_11_49 := (HS.keepc e17_11)
                           have e17_12_49 := (HS.keepc e17_12)
                           replace H := zbind H; obtain ⟨t50, ht50, H⟩ := H
                           go_upto_if 124 with (first | ((with_reducible refine gate_dst (N := 122) rfl ?_); refine ev_call rfl Try.func125 (by kernel_rfl) rfl #[.slice B17_11 (rd_T192 a0 x12).f11.length d17_11, .int .i64 t46] rfl (by simp only [List.map_toArray, List.map_cons, List.map_nil]; rfl) ?_; refine (laws_heldStringS.calls ht50.out (HS.ro y17_11) m17_11).mono ?_; rintro _ wt50 ⟨rfl, HQ⟩; refine ⟨_, rfl, ?_⟩; replace HS := HS.call HQ; clear HQ; (try clear F); replace HS : Hp noFP w _ [] := HS))
                           by_cases c52 : t50 < 0
                           · replace H := zpos c52 H
                             replace c52 := eq_true c52
                             (try simp only [c52, decide_true, decide_false, Bool.not_true, Bool.not_false])
                             obtain rfl := zsome H
                             go_wp2
                             go_ret
                             exact ⟨rfl, HS.pick [] (by decide) (by rfl)⟩
                           · replace H := zneg c52 H
                             replace c52 := eq_false c52
                             (try simp only [c52, decide_true, decide_false, Bool.not_true, Bool.not_false])
                             (try go_wp2)
                             replace H := zbind H; obtain ⟨t406001, ht406001, H⟩ := H
                             refine dr_start [] HS #[false, false, false, false, false, false, false, false] (by kernel_rfl) rfl rfl laws_heldCertS.tT40 (fun w54 HT HS HH => ?_)
                             (try clear F)
                             refine drq_of [(0, some 125), (1, some 126), (2, some 127), (3, some 128)] ?_
                             repeat (first | (refine drq_pure HT (v := ?_) (a' := ?_) rfl rfl (by kernel_rfl) (fun _ _ _ h => h) (.inl ⟨by rfl, ?_⟩) ?_ ?_; rotate_left; (intro w'; go_simp; with_reducible rfl); rotate_left; (simp only [Act.put, List.setIfInBounds_toArray, List.set_cons_zero, List.set_cons_succ, i64_w, i32_w]; rfl)))
                             refine drq_end ?_
                             refine dr_take 4 (some 129) HT HH (v := ?_) (a' := ?_) rfl rfl (by kernel_rfl) (fun _ _ _ h => h) (.inl ⟨by rfl, ?_⟩) ?_ ?_
                             rotate_left
                             · rintro w' ⟨rs', HS'⟩; have e17_0 := (HS'.keepc e17_0); have e17_1 := (HS'.keepc e17_1); have e17_2 := (HS'.keepc e17_2); have e17_3 := (HS'.keepc e17_3); have e17_4 := (HS'.keepc e17_4); have e17_5 := (HS'.keepc e17_5); have e17_6 := (HS'.keepc e17_6); have e17_7 := (HS'.keepc e17_7); have e17_8 := (HS'.keepc e17_8); have e17_9 := (HS'.keepc e17_9); have e17_10 := (HS'.keepc e17_10); have e17_11 := (HS'.keepc e17_11); have e17_12 := (HS'.keepc e17_12); go_simp; with_reducible rfl
                             rotate_left
                             · simp only [Act.put, List.setIfInBounds_toArray, List.set_cons_zero, List.set_cons_succ, i64_w, i32_w]; rfl
                             refine drq_of [(5, some 130)] ?_
                             repeat (first | (refine drq_pure HT (v := ?_) (a' := ?_) rfl rfl (by kernel_rfl) (fun _ _ _ h => h) (.inl ⟨by rfl, ?_⟩) ?_ ?_; rotate_left; (intro w'; go_simp; with_reducible rfl); rotate_left; (simp only [Act.put, List.setIfInBounds_toArray, List.set_cons_zero, List.set_cons_succ, i64_w, i32_w]; rfl)))
                             refine drq_end ?_
                             refine dr_one 6 HT rfl (by kernel_rfl) (by decide) (fun K hK => ?_)
                             refine goes_ Try.func110 (by kernel_rfl) rfl #[.int .i64 t50] (by rfl) rfl rfl (by simp only [List.map_toArray, List.map_cons, List.map_nil]; rfl) ?_; refine (laws_markText.calls ht406001.out).mono ?_; rintro _ wt406001 ⟨rfl, HQ⟩; refine ⟨_, rfl, ?_⟩; replace HS := HS.call HQ; clear HQ; (try clear F)
                             replace HS : Hp noFP w _ [] := HS
                             refine hK.out _ _ ⟨_, HS⟩ (fun HH => ?_)
                             clear hK K
                             refine norm_ (a' := ?_) ?_ ?_
                             rotate_left
                             · show Act.put _ (some 131) _ = _; simp only [Act.put, List.setIfInBounds_toArray, List.set_cons_zero, List.set_cons_succ, i64_w, i32_w]; rfl
                             refine drq_of [(7, some 132)] ?_
                             repeat (first | (refine drq_pure HT (v := ?_) (a' := ?_) rfl rfl (by kernel_rfl) (fun _ _ _ h => h) (.inl ⟨by rfl, ?_⟩) ?_ ?_; rotate_left; (intro w'; go_simp; with_reducible rfl); rotate_left; (simp only [Act.put, List.setIfInBounds_toArray, List.set_cons_zero, List.set_cons_succ, i64_w, i32_w]; rfl)))
                             refine drq_end ?_
                             refine done_ (done_of HT.out (by kernel_rfl)) ?_
                             by_cases c56 : ((rd_T192 a0 x12).f12).toList = t406001.toList
                             · replace H := zpos c56 H
                               have c56a := beq_iff_eq.mpr c56
                               have c56b := bne_eq_false_iff_eq.mpr c56
                               clear c56
                               (try simp only [c56a, c56b, decide_true, decide_false, Bool.not_true, Bool.not_false])
                               go_wp2
                               go_roundg k10
                               case measure => have := HKk10.out; omega
                               case rel => exact ⟨_, _, rfl, rfl, H, ⟨by have := HKk10.out; omega⟩, HS.pick [] (by decide) (by rfl)⟩
                             · replace H := zneg c56 H
                               have c56a := beq_eq_false_iff_ne.mpr c56
                               have c56b := bne_iff_ne.mpr c56
                               clear c56
                               (try simp only [c56a, c56b, decide_true, decide_false, Bool.not_true, Bool.not_false])
                               obtain rfl := zsome H
                               go_wp2
                               go_ret
                               exact ⟨rfl, HS.pick [] (by decide) (by rfl)⟩
                     · replace H := zneg c40 H
                       have c40a := beq_eq_false_iff_ne.mpr c40
                       have c40b := bne_iff_ne.mpr c40
                       clear c40
                       (try simp only [c40a, c40b, decide_true, decide_false, Bool.not_true, Bool.not_false])
                       obtain rfl := zsome H
                       go_wp2
                       go_ret
                       exact ⟨rfl, HS.pick [] (by decide) (by rfl)⟩
                   · replace H := zneg c38 H
                     have c38a := beq_eq_false_iff_ne.mpr c38
                     have c38b := bne_iff_ne.mpr c38
                     clear c38
                     (try simp only [c38a, c38b, decide_true, decide_false, Bool.not_true, Bool.not_false])
                     obtain rfl := zsome H
                     go_wp2
                     go_ret
                     exact ⟨rfl, HS.pick [] (by decide) (by rfl)⟩
                 · replace H := zneg c36 H
                   have c36a := beq_eq_false_iff_ne.mpr c36
                   have c36b := bne_iff_ne.mpr c36
                   clear c36
                   (try simp only [c36a, c36b, decide_true, decide_false, Bool.not_true, Bool.not_false])
                   obtain rfl := zsome H
                   go_wp2
                   go_ret
                   exact ⟨rfl, HS.pick [] (by decide) (by rfl)⟩
               · replace H := zneg c34 H
                 have c34a := beq_eq_false_iff_ne.mpr c34
                 have c34b := bne_iff_ne.mpr c34
                 clear c34
                 (try simp only [c34a, c34b, decide_true, decide_false, Bool.not_true, Bool.not_false])
                 obtain rfl := zsome H
                 go_wp2
                 go_ret
                 exact ⟨rfl, HS.pick [] (by decide) (by rfl)⟩
             · replace H := zneg c30 H
               have c30a := beq_eq_false_iff_ne.mpr c30
               have c30b := bne_iff_ne.mpr c30
               clear c30
               (try simp only [c30a, c30b, decide_true, decide_false, Bool.not_true, Bool.not_false])
               obtain rfl := zsome H
               go_wp2
               go_ret
               exact ⟨rfl, HS.pick [] (by decide) (by rfl)⟩
           · replace H := zneg c28 H
             have c28a := beq_eq_false_iff_ne.mpr c28
             have c28b := bne_iff_ne.mpr c28
             clear c28
             (try simp only [c28a, c28b, decide_true, decide_false, Bool.not_true, Bool.not_false])
             obtain rfl := zsome H
             go_wp2
             go_ret
             exact ⟨rfl, HS.pick [] (by decide) (by rfl)⟩
         · replace H := zneg c26 H
           have c26a := beq_eq_false_iff_ne.mpr c26
           have c26b := bne_iff_ne.mpr c26
           clear c26
           (try simp only [c26a, c26b, decide_true, decide_false, Bool.not_true, Bool.not_false])
           obtain rfl := zsome H
           go_wp2
           go_ret
           exact ⟨rfl, HS.pick [] (by decide) (by rfl)⟩
       · replace H := zneg c22 H
         have c22a := beq_eq_false_iff_ne.mpr c22
         have c22b := bne_iff_ne.mpr c22
         clear c22
         (try simp only [c22a, c22b, decide_true, decide_false, Bool.not_true, Bool.not_false])
         obtain rfl := zsome H
         go_wp2
         go_ret
         exact ⟨rfl, HS.pick [] (by decide) (by rfl)⟩
     · replace H := zneg c18 H
       have c18a := beq_eq_false_iff_ne.mpr c18
       have c18b := bne_iff_ne.mpr c18
       clear c18
       obtain rfl := zsome H
       go_wp2
       go_ret
       exact ⟨rfl, HS.pick [] (by decide) (by rfl)⟩
   · replace H := zneg c14 H
     replace c14 := eq_false c14
     obtain rfl := zsome H
     go_wp2
     go_ret
     exact ⟨rfl, HS.pick [] (by decide) (by rfl)⟩
/-! ### laws_heldRevS: function 140 -/
def laws_heldRevS.l0 : Nat → Int → Int → (List S230) → Option (Int)
  | 0, _, _, _ => none
  | k + 1, x11, x12, a0 => (if x12 < (a0.length : Int) then (if 0 ≤ x12 then (if x12 < (a0.length : Int) then (if (rd_T230 a0 x12).f0 = x11 then (if (rd_T230 a0 x12).f1 = (wrap64 (x11 + 1)) then (laws_heldRevS.l0 k (wrap64 ((wrap64 (x11 + 1)) + 1)) (wrap64 (x12 + 1)) a0) else (some (-1))) else (some (-1))) else none) else none) else (some x11))
def laws_heldRevS.f (k : Nat) (a0 : (List S230)) (a1 : Int) : Option (Int) := (laws_heldRevS.l0 k a1 0 a0)
set_option maxHeartbeats 16000000 in
theorem laws_heldRevS.calls {k : Nat} {a0 : (List S230)} {a1 : Int} {Ap0 : Option Addr} {np0 cp0 : Nat} {r : Int} {w : World} (h : laws_heldRevS.f k a0 a1 = some r) (gp0 : k230.C w Ap0 np0 a0) (lp0 : np0 ≤ cp0) :
    Calls Try.prog 140 #[.slice Ap0 np0 cp0, .int .i64 a1] w (fun e w' => e = .returned (.int .i64 r) ∧ Hp noFP w w' []) := by
 obtain rfl := C_len gp0
 have HS := Hp.start w
 have H := Aside0.mk h
 clear h
 unfold laws_heldRevS.f at H
 go_enter Try.func140, Try.ntmps140
 go_wp2
 go_loopg [1, 5] k (fun kq v_1 v_5 w' => ∃ (x11 : Int) (x12 : Int), v_1 = .int .i64 x11 ∧ v_5 = .int .i64 x12 ∧ Aside0 (laws_heldRevS.l0 kq x11 x12 a0 = some r) ∧ Aside0 (kq ≤ k) ∧ Hp noFP w w' [])
 case atStart => exact ⟨_, _, rfl, rfl, H, ⟨Nat.le_refl _⟩, HS⟩
 case round =>
  clear HS H; (try clear F)
  obtain ⟨x11, x12, rfl, rfl, H, HKk10, HS⟩ := hrel
  cases gk with
  | zero => exact absurd H.out (by simp [laws_heldRevS.l0])
  | succ k10 =>
   simp only [laws_heldRevS.l0] at H
   by_cases c14 : x12 < (a0.length : Int)
   · replace H := zpos c14 H
     replace c14 := eq_true c14
     by_cases c15 : 0 ≤ x12
     case neg => exact zno c15 H
     replace H := zpos c15 H
     replace c15 := eq_true c15
     by_cases c16 : x12 < (a0.length : Int)
     case neg => exact zno c16 H
     replace H := zpos c16 H
     replace c16 := eq_true c16
     obtain ⟨ad17, rfl, e17_0, e17_1⟩ := at_T230 gp0 x12 (of_eq_true c15) (of_eq_true c16)
     have e17_0_17 := (HS.keepc e17_0)
     have e17_1_17 := (HS.keepc e17_1)
     by_cases c18 : (rd_T230 a0 x12).f0 = x11
     · replace H := zpos c18 H
       have c18a := beq_iff_eq.mpr c18
       have c18b := bne_eq_false_iff_eq.mpr c18
       clear c18
       have e17_0_19 := (HS.keepc e17_0)
       have e17_1_19 := (HS.keepc e17_1)
       by_cases c20 : (rd_T230 a0 x12).f1 = (wrap64 (x11 + 1))
       · replace H := zpos c20 H
         have c20a := beq_iff_eq.mpr c20
         have c20b := bne_eq_false_iff_eq.mpr c20
         clear c20
         go_wp2
         go_roundg k10
         case measure => have := HKk10.out; omega
         case rel => exact ⟨_, _, rfl, rfl, H, ⟨by have := HKk10.out; omega⟩, HS.pick [] (by decide) (by rfl)⟩
       · replace H := zneg c20 H
         have c20a := beq_eq_false_iff_ne.mpr c20
         have c20b := bne_iff_ne.mpr c20
         clear c20
         obtain rfl := zsome H
         go_wp2
         go_ret
         exact ⟨rfl, HS.pick [] (by decide) (by rfl)⟩
     · replace H := zneg c18 H
       have c18a := beq_eq_false_iff_ne.mpr c18
       have c18b := bne_iff_ne.mpr c18
       clear c18
       obtain rfl := zsome H
       go_wp2
       go_ret
       exact ⟨rfl, HS.pick [] (by decide) (by rfl)⟩
   · replace H := zneg c14 H
     replace c14 := eq_false c14
     obtain rfl := zsome H
     go_wp2
     go_ret
     exact ⟨rfl, HS.pick [] (by decide) (by rfl)⟩
/-! ### laws_heldCrlS: function 88 -/
def laws_heldCrlS.l0 : Nat → Int → Int → (List S190) → Option (Int)
  | 0, _, _, _ => none
  | k + 1, x9, x10, a0 => (if x10 < (a0.length : Int) then (if 0 ≤ x10 then (if x10 < (a0.length : Int) then ((laws_markText.f k x9).bind fun t206001 => (if ((rd_T190 a0 x10).f0).toList = t206001.toList then (if (rd_T190 a0 x10).f1 = (wrap64 (x9 + 1)) then (if (rd_T190 a0 x10).f2 = (wrap64 ((wrap64 (x9 + 1)) + 1)) then (if (rd_T190 a0 x10).f3 = (wrap64 ((wrap64 ((wrap64 (x9 + 1)) + 1)) + 1)) then (if (rd_T190 a0 x10).f4 = (wrap64 ((wrap64 ((wrap64 ((wrap64 (x9 + 1)) + 1)) + 1)) + 1)) then ((laws_heldRevS.f k ((rd_T190 a0 x10).f5) (wrap64 ((wrap64 ((wrap64 ((wrap64 ((wrap64 (x9 + 1)) + 1)) + 1)) + 1)) + 1))).bind fun t26 => (if t26 < 0 then (some (-1)) else ((laws_markText.f k t26).bind fun t306001 => (if ((rd_T190 a0 x10).f6).toList = t306001.toList then (laws_heldCrlS.l0 k (wrap64 (t26 + 1)) (wrap64 (x10 + 1)) a0) else (some (-1)))))) else (some (-1))) else (some (-1))) else (some (-1))) else (some (-1))) else (some (-1)))) else none) else none) else (some x9))
def laws_heldCrlS.f (k : Nat) (a0 : (List S190)) (a1 : Int) : Option (Int) := (laws_heldCrlS.l0 k a1 0 a0)
def laws_heldCrlS.T4 : Bool × List (List Nat × List Nat) := (true, [([], []), ([], []), ([0, 1], [0, 1]), ([2], [2]), ([3], [3]), ([], []), ([5], [5]), ([4, 6], [4, 6])])
theorem laws_heldCrlS.tT4 : rtab .any (opsOf Try.f88 4) = laws_heldCrlS.T4 := by kernel_rfl
def laws_heldCrlS.T22 : Bool × List (List Nat × List Nat) := (true, [([], []), ([], []), ([0, 1], [0, 1]), ([2], [2]), ([3], [3]), ([], []), ([5], [5]), ([4, 6], [4, 6])])
theorem laws_heldCrlS.tT22 : rtab .any (opsOf Try.f88 22) = laws_heldCrlS.T22 := by kernel_rfl
set_option maxHeartbeats 16000000 in
theorem laws_heldCrlS.calls {k : Nat} {a0 : (List S190)} {a1 : Int} {Ap0 : Option Addr} {np0 cp0 : Nat} {r : Int} {w : World} (h : laws_heldCrlS.f k a0 a1 = some r) (gp0 : k190.C w Ap0 np0 a0) (lp0 : np0 ≤ cp0) :
    Calls Try.prog 88 #[.slice Ap0 np0 cp0, .int .i64 a1] w (fun e w' => e = .returned (.int .i64 r) ∧ Hp noFP w w' []) := by
 obtain rfl := C_len gp0
 have HS := Hp.start w
 have H := Aside0.mk h
 clear h
 unfold laws_heldCrlS.f at H
 go_enter Try.func88, Try.ntmps88
 go_wp2
 go_loopg [1, 5] k (fun kq v_1 v_5 w' => ∃ (x9 : Int) (x10 : Int), v_1 = .int .i64 x9 ∧ v_5 = .int .i64 x10 ∧ Aside0 (laws_heldCrlS.l0 kq x9 x10 a0 = some r) ∧ Aside0 (kq ≤ k) ∧ Hp noFP w w' [])
 case atStart => exact ⟨_, _, rfl, rfl, H, ⟨Nat.le_refl _⟩, HS⟩
 case round =>
  clear HS H; (try clear F)
  obtain ⟨x9, x10, rfl, rfl, H, HKk8, HS⟩ := hrel
  cases gk with
  | zero => exact absurd H.out (by simp [laws_heldCrlS.l0])
  | succ k8 =>
   simp only [laws_heldCrlS.l0] at H
   by_cases c12 : x10 < (a0.length : Int)
   · replace H := zpos c12 H
     replace c12 := eq_true c12
     (try go_wp2)
     by_cases c202001 : 0 ≤ x10
     case neg => exact zno c202001 H
     replace H := zpos c202001 H
     replace c202001 := eq_true c202001
     by_cases c202002 : x10 < (a0.length : Int)
     case neg => exact zno c202002 H
     replace H := zpos c202002 H
     replace c202002 := eq_true c202002
     obtain ⟨ad202999, B202999_5, d202999_5, rfl, e202999_0, e202999_1, e202999_2, e202999_3, e202999_4, e202999_5, e202999_6, m202999_5, y202999_5⟩ := at_T190 gp0 x10 (of_eq_true c202001) (of_eq_true c202002)
     replace H := zbind H; obtain ⟨t206001, ht206001, H⟩ := H
     refine dr_start [] HS #[false, false, false, false, false, false, false, false] (by kernel_rfl) rfl rfl laws_heldCrlS.tT4 (fun w14 HT HS HH => ?_)
     (try clear F)
     refine drq_of [(0, some 12), (1, some 13), (2, some 14), (3, some 15)] ?_
     repeat (first | (refine drq_pure HT (v := ?_) (a' := ?_) rfl rfl (by kernel_rfl) (fun _ _ _ h => h) (.inl ⟨by rfl, ?_⟩) ?_ ?_; rotate_left; (intro w'; go_simp; with_reducible rfl); rotate_left; (simp only [Act.put, List.setIfInBounds_toArray, List.set_cons_zero, List.set_cons_succ, i64_w, i32_w]; rfl)))
     refine drq_end ?_
     refine dr_take 4 (some 16) HT HH (v := ?_) (a' := ?_) rfl rfl (by kernel_rfl) (fun _ _ _ h => h) (.inl ⟨by rfl, ?_⟩) ?_ ?_
     rotate_left
     · rintro w' ⟨rs', HS'⟩; have e202999_0 := (HS'.keepc e202999_0); have e202999_1 := (HS'.keepc e202999_1); have e202999_2 := (HS'.keepc e202999_2); have e202999_3 := (HS'.keepc e202999_3); have e202999_4 := (HS'.keepc e202999_4); have e202999_5 := (HS'.keepc e202999_5); have e202999_6 := (HS'.keepc e202999_6); go_simp; with_reducible rfl
     rotate_left
     · simp only [Act.put, List.setIfInBounds_toArray, List.set_cons_zero, List.set_cons_succ, i64_w, i32_w]; rfl
     refine drq_of [(5, some 17)] ?_
     repeat (first | (refine drq_pure HT (v := ?_) (a' := ?_) rfl rfl (by kernel_rfl) (fun _ _ _ h => h) (.inl ⟨by rfl, ?_⟩) ?_ ?_; rotate_left; (intro w'; go_simp; with_reducible rfl); rotate_left; (simp only [Act.put, List.setIfInBounds_toArray, List.set_cons_zero, List.set_cons_succ, i64_w, i32_w]; rfl)))
     refine drq_end ?_
     refine dr_one 6 HT rfl (by kernel_rfl) (by decide) (fun K hK => ?_)
     refine goes_ Try.func110 (by kernel_rfl) rfl #[.int .i64 x9] (by rfl) rfl rfl (by simp only [List.map_toArray, List.map_cons, List.map_nil]; rfl) ?_; refine (laws_markText.calls ht206001.out).mono ?_; rintro _ wt206001 ⟨rfl, HQ⟩; refine ⟨_, rfl, ?_⟩; replace HS := HS.call HQ; clear HQ; (try clear F)
     replace HS : Hp noFP w _ [] := HS
     refine hK.out _ _ ⟨_, HS⟩ (fun HH => ?_)
     clear hK K
     refine norm_ (a' := ?_) ?_ ?_
     rotate_left
     · show Act.put _ (some 18) _ = _; simp only [Act.put, List.setIfInBounds_toArray, List.set_cons_zero, List.set_cons_succ, i64_w, i32_w]; rfl
     refine drq_of [(7, some 19)] ?_
     repeat (first | (refine drq_pure HT (v := ?_) (a' := ?_) rfl rfl (by kernel_rfl) (fun _ _ _ h => h) (.inl ⟨by rfl, ?_⟩) ?_ ?_; rotate_left; (intro w'; go_simp; with_reducible rfl); rotate_left; (simp only [Act.put, List.setIfInBounds_toArray, List.set_cons_zero, List.set_cons_succ, i64_w, i32_w]; rfl)))
     refine drq_end ?_
     refine done_ (done_of HT.out (by kernel_rfl)) ?_
     by_cases c16 : ((rd_T190 a0 x10).f0).toList = t206001.toList
     · replace H := zpos c16 H
       have c16a := beq_iff_eq.mpr c16
       have c16b := bne_eq_false_iff_eq.mpr c16
       clear c16
       (try simp only [c16a, c16b, decide_true, decide_false, Bool.not_true, Bool.not_false])
       have e202999_0_17 := (HS.keepc e202999_0)
       have e202999_1_17 := (HS.keepc e202999_1)
       have e202999_2_17 := (HS.keepc e202999_2)
       have e202999_3_17 := (HS.keepc e202999_3)
       have e202999_4_17 := (HS.keepc e202999_4)
       have e202999_5_17 := (HS.keepc e202999_5)
       have e202999_6_17 := (HS.keepc e202999_6)
       by_cases c18 : (rd_T190 a0 x10).f1 = (wrap64 (x9 + 1))
       · replace H := zpos c18 H
         have c18a := beq_iff_eq.mpr c18
         have c18b := bne_eq_false_iff_eq.mpr c18
         clear c18
         (try simp only [c18a, c18b, decide_true, decide_false, Bool.not_true, Bool.not_false])
         have e202999_0_19 := (HS.keepc e202999_0)
         have e202999_1_19 := (HS.keepc e202999_1)
         have e202999_2_19 := (HS.keepc e202999_2)
         have e202999_3_19 := (HS.keepc e202999_3)
         have e202999_4_19 := (HS.keepc e202999_4)
         have e202999_5_19 := (HS.keepc e202999_5)
         have e202999_6_19 := (HS.keepc e202999_6)
         by_cases c20 : (rd_T190 a0 x10).f2 = (wrap64 ((wrap64 (x9 + 1)) + 1))
         · replace H := zpos c20 H
           have c20a := beq_iff_eq.mpr c20
           have c20b := bne_eq_false_iff_eq.mpr c20
           clear c20
           (try simp only [c20a, c20b, decide_true, decide_false, Bool.not_true, Bool.not_false])
           have e202999_0_21 := (HS.keepc e202999_0)
           have e202999_1_21 := (HS.keepc e202999_1)
           have e202999_2_21 := (HS.keepc e202999_2)
           have e202999_3_21 := (HS.keepc e202999_3)
           have e202999_4_21 := (HS.keepc e202999_4)
           have e202999_5_21 := (HS.keepc e202999_5)
           have e202999_6_21 := (HS.keepc e202999_6)
           by_cases c22 : (rd_T190 a0 x10).f3 = (wrap64 ((wrap64 ((wrap64 (x9 + 1)) + 1)) + 1))
           · replace H := zpos c22 H
             have c22a := beq_iff_eq.mpr c22
             have c22b := bne_eq_false_iff_eq.mpr c22
             clear c22
             (try simp only [c22a, c22b, decide_true, decide_false, Bool.not_true, Bool.not_false])
             have e202999_0_23 := (HS.keepc e202999_0)
             have e202999_1_23 := (HS.keepc e202999_1)
             have e202999_2_23 := (HS.keepc e202999_2)
             have e202999_3_23 := (HS.keepc e202999_3)
             have e202999_4_23 := (HS.keepc e202999_4)
             have e202999_5_23 := (HS.keepc e202999_5)
             have e202999_6_23 := (HS.keepc e202999_6)
             by_cases c24 : (rd_T190 a0 x10).f4 = (wrap64 ((wrap64 ((wrap64 ((wrap64 (x9 + 1)) + 1)) + 1)) + 1))
             · replace H := zpos c24 H
               have c24a := beq_iff_eq.mpr c24
               have c24b := bne_eq_false_iff_eq.mpr c24
               clear c24
               (try simp only [c24a, c24b, decide_true, decide_false, Bool.not_true, Bool.not_false])
               have e202999_0_25 := (HS.keepc e202999_0)
               have e202999_1_25 := (HS.keepc e202999_1)
               have e202999_2_25 := (HS.keepc e202999_2)
               have e202999_3_25 := (HS.keepc e202999_3)
               have e202999_4_25 := (HS.keepc e202999_4)
               have e202999_5_25 := (HS.keepc e202999_5)
               have e202999_6_25 := (HS.keepc e202999_6)
               replace H := zbind H; obtain ⟨t26, ht26, H⟩ := H
               go_upto_if 66 with (first | ((with_reducible refine gate_dst (N := 64) rfl ?_); refine ev_call rfl Try.func140 (by kernel_rfl) rfl #[.slice B202999_5 (rd_T190 a0 x10).f5.length d202999_5, .int .i64 (wrap64 ((wrap64 ((wrap64 ((wrap64 ((wrap64 (x9 + 1)) + 1)) + 1)) + 1)) + 1))] rfl (by simp only [List.map_toArray, List.map_cons, List.map_nil]; rfl) ?_; refine (laws_heldRevS.calls ht26.out (HS.ro y202999_5) m202999_5).mono ?_; rintro _ wt26 ⟨rfl, HQ⟩; refine ⟨_, rfl, ?_⟩; replace HS := HS.call HQ; clear HQ; (try clear F); replace HS : Hp noFP w _ [] := HS))
               by_cases c28 : t26 < 0
               · replace H := zpos c28 H
                 replace c28 := eq_true c28
                 (try simp only [c28, decide_true, decide_false, Bool.not_true, Bool.not_false])
                 obtain rfl := zsome H
                 go_wp2
                 go_ret
                 exact ⟨rfl, HS.pick [] (by decide) (by rfl)⟩
               · replace H := zneg c28 H
                 replace c28 := eq_false c28
                 (try simp only [c28, decide_true, decide_false, Bool.not_true, Bool.not_false])
                 (try go_wp2)
                 replace H := zbind H; obtain ⟨t306001, ht306001, H⟩ := H
                 refine dr_start [] HS #[false, false, false, false, false, false, false, false] (by kernel_rfl) rfl rfl laws_heldCrlS.tT22 (fun w30 HT HS HH => ?_)
                 (try clear F)
                 refine drq_of [(0, some 67), (1, some 68), (2, some 69), (3, some 70)] ?_
                 repeat (first | (refine drq_pure HT (v := ?_) (a' := ?_) rfl rfl (by kernel_rfl) (fun _ _ _ h => h) (.inl ⟨by rfl, ?_⟩) ?_ ?_; rotate_left; (intro w'; go_simp; with_reducible rfl); rotate_left; (simp only [Act.put, List.setIfInBounds_toArray, List.set_cons_zero, List.set_cons_succ, i64_w, i32_w]; rfl)))
                 refine drq_end ?_
                 refine dr_take 4 (some 71) HT HH (v := ?_) (a' := ?_) rfl rfl (by kernel_rfl) (fun _ _ _ h => h) (.inl ⟨by rfl, ?_⟩) ?_ ?_
                 rotate_left
                 · rintro w' ⟨rs', HS'⟩; have e202999_0 := (HS'.keepc e202999_0); have e202999_1 := (HS'.keepc e202999_1); have e202999_2 := (HS'.keepc e202999_2); have e202999_3 := (HS'.keepc e202999_3); have e202999_4 := (HS'.keepc e202999_4); have e202999_5 := (HS'.keepc e202999_5); have e202999_6 := (HS'.keepc e202999_6); go_simp; with_reducible rfl
                 rotate_left
                 · simp only [Act.put, List.setIfInBounds_toArray, List.set_cons_zero, List.set_cons_succ, i64_w, i32_w]; rfl
                 refine drq_of [(5, some 72)] ?_
                 repeat (first | (refine drq_pure HT (v := ?_) (a' := ?_) rfl rfl (by kernel_rfl) (fun _ _ _ h => h) (.inl ⟨by rfl, ?_⟩) ?_ ?_; rotate_left; (intro w'; go_simp; with_reducible rfl); rotate_left; (simp only [Act.put, List.setIfInBounds_toArray, List.set_cons_zero, List.set_cons_succ, i64_w, i32_w]; rfl)))
                 refine drq_end ?_
                 refine dr_one 6 HT rfl (by kernel_rfl) (by decide) (fun K hK => ?_)
                 refine goes_ Try.func110 (by kernel_rfl) rfl #[.int .i64 t26] (by rfl) rfl rfl (by simp only [List.map_toArray, List.map_cons, List.map_nil]; rfl) ?_; refine (laws_markText.calls ht306001.out).mono ?_; rintro _ wt306001 ⟨rfl, HQ⟩; refine ⟨_, rfl, ?_⟩; replace HS := HS.call HQ; clear HQ; (try clear F)
                 replace HS : Hp noFP w _ [] := HS
                 refine hK.out _ _ ⟨_, HS⟩ (fun HH => ?_)
                 clear hK K
                 refine norm_ (a' := ?_) ?_ ?_
                 rotate_left
                 · show Act.put _ (some 73) _ = _; simp only [Act.put, List.setIfInBounds_toArray, List.set_cons_zero, List.set_cons_succ, i64_w, i32_w]; rfl
                 refine drq_of [(7, some 74)] ?_
                 repeat (first | (refine drq_pure HT (v := ?_) (a' := ?_) rfl rfl (by kernel_rfl) (fun _ _ _ h => h) (.inl ⟨by rfl, ?_⟩) ?_ ?_; rotate_left; (intro w'; go_simp; with_reducible rfl); rotate_left; (simp only [Act.put, List.setIfInBounds_toArray, List.set_cons_zero, List.set_cons_succ, i64_w, i32_w]; rfl)))
                 refine drq_end ?_
                 refine done_ (done_of HT.out (by kernel_rfl)) ?_
                 by_cases c32 : ((rd_T190 a0 x10).f6).toList = t306001.toList
                 · replace H := zpos c32 H
                   have c32a := beq_iff_eq.mpr c32
                   have c32b := bne_eq_false_iff_eq.mpr c32
                   clear c32
                   (try simp only [c32a, c32b, decide_true, decide_false, Bool.not_true, Bool.not_false])
                   go_wp2
                   go_roundg k8
                   case measure => have := HKk8.out; omega
                   case rel => exact ⟨_, _, rfl, rfl, H, ⟨by have := HKk8.out; omega⟩, HS.pick [] (by decide) (by rfl)⟩
                 · replace H := zneg c32 H
                   have c32a := beq_eq_false_iff_ne.mpr c32
                   have c32b := bne_iff_ne.mpr c32
                   clear c32
                   (try simp only [c32a, c32b, decide_true, decide_false, Bool.not_true, Bool.not_false])
                   obtain rfl := zsome H
                   go_wp2
                   go_ret
                   exact ⟨rfl, HS.pick [] (by decide) (by rfl)⟩
             · replace H := zneg c24 H
               have c24a := beq_eq_false_iff_ne.mpr c24
               have c24b := bne_iff_ne.mpr c24
               clear c24
               (try simp only [c24a, c24b, decide_true, decide_false, Bool.not_true, Bool.not_false])
               obtain rfl := zsome H
               go_wp2
               go_ret
               exact ⟨rfl, HS.pick [] (by decide) (by rfl)⟩
           · replace H := zneg c22 H
             have c22a := beq_eq_false_iff_ne.mpr c22
             have c22b := bne_iff_ne.mpr c22
             clear c22
             (try simp only [c22a, c22b, decide_true, decide_false, Bool.not_true, Bool.not_false])
             obtain rfl := zsome H
             go_wp2
             go_ret
             exact ⟨rfl, HS.pick [] (by decide) (by rfl)⟩
         · replace H := zneg c20 H
           have c20a := beq_eq_false_iff_ne.mpr c20
           have c20b := bne_iff_ne.mpr c20
           clear c20
           (try simp only [c20a, c20b, decide_true, decide_false, Bool.not_true, Bool.not_false])
           obtain rfl := zsome H
           go_wp2
           go_ret
           exact ⟨rfl, HS.pick [] (by decide) (by rfl)⟩
       · replace H := zneg c18 H
         have c18a := beq_eq_false_iff_ne.mpr c18
         have c18b := bne_iff_ne.mpr c18
         clear c18
         (try simp only [c18a, c18b, decide_true, decide_false, Bool.not_true, Bool.not_false])
         obtain rfl := zsome H
         go_wp2
         go_ret
         exact ⟨rfl, HS.pick [] (by decide) (by rfl)⟩
     · replace H := zneg c16 H
       have c16a := beq_eq_false_iff_ne.mpr c16
       have c16b := bne_iff_ne.mpr c16
       clear c16
       (try simp only [c16a, c16b, decide_true, decide_false, Bool.not_true, Bool.not_false])
       obtain rfl := zsome H
       go_wp2
       go_ret
       exact ⟨rfl, HS.pick [] (by decide) (by rfl)⟩
   · replace H := zneg c12 H
     replace c12 := eq_false c12
     obtain rfl := zsome H
     go_wp2
     go_ret
     exact ⟨rfl, HS.pick [] (by decide) (by rfl)⟩
end Go.Proofs.Ytoaoncnbimcdgaa.F

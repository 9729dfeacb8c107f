/- Functions of the program and of the law, and that their calls do what is written here. -/
import Derived.Test.YtdcjcanobiohnaaZT
namespace Go.Proofs.Ytdcjcanobiohnaa.F
open Go.RowKit Go.Proofs.YtdcjcanobiohnaaW.PrintWords Go.Proofs.YtdcjcanobiohnaaW.PrintLast Go.Proofs.YtdcjcanobiohnaaW.PrintMore Go.Proofs.Ytdcjcanobiohnaa.Z
attribute [local go_sem] max2_int min2_int max_two min_two max_three min_three max_four min_four
set_option linter.unusedVariables false
set_option linter.unusedSimpArgs false
set_option maxRecDepth 100000
/-! ### laws_eqIntS: function 14 -/
def laws_eqIntS.l0 : Nat → Int → (List Int) → (List Int) → Option (Bool)
  | 0, _, _, _ => none
  | k + 1, x5, a0, a1 => (if x5 < (a0.length : Int) then (if 0 ≤ x5 then (if x5 < (a0.length : Int) then (if x5 < (a1.length : Int) then (if (rd a0 x5) = (rd a1 x5) then (laws_eqIntS.l0 k (wrap64 (x5 + 1)) a0 a1) else (some false)) else none) else none) else none) else (some true))
def laws_eqIntS.f (k : Nat) (a0 : (List Int)) (a1 : (List Int)) : Option (Bool) := (if (a0.length : Int) = (a1.length : Int) then (laws_eqIntS.l0 k 0 a0 a1) else (some false))
def laws_eqIntS.T6 : Bool × List (List Nat × List Nat) := (true, [([], []), ([], []), ([0, 1], [0, 1]), ([2], [2]), ([], []), ([], []), ([4, 5], [4, 5]), ([6], [6]), ([3, 7], [3, 7])])
theorem laws_eqIntS.tT6 : rtab .any (opsOf Try.f14 6) = laws_eqIntS.T6 := by kernel_rfl
set_option maxHeartbeats 16000000 in
theorem laws_eqIntS.calls {k : Nat} {a0 : (List Int)} {a1 : (List Int)} {Ap0 : Option Addr} {np0 cp0 : Nat} {Ap1 : Option Addr} {np1 cp1 : Nat} {r : Bool} {w : World} (h : laws_eqIntS.f k a0 a1 = some r) (gp0 : (Kd.int .i64).C w Ap0 np0 a0) (lp0 : np0 ≤ cp0) (gp1 : (Kd.int .i64).C w Ap1 np1 a1) (lp1 : np1 ≤ cp1) :
    Calls Try.prog 14 #[.slice Ap0 np0 cp0, .slice Ap1 np1 cp1] w (fun e w' => e = .returned (.bool r) ∧ Hp noFP w w' []) := by
 obtain rfl := C_len gp0
 obtain rfl := C_len gp1
 have HS := Hp.start w
 have H := Aside0.mk h
 clear h
 unfold laws_eqIntS.f at H
 go_enter Try.func14, Try.ntmps14
 by_cases c1 : (a0.length : Int) = (a1.length : Int)
 · replace H := zpos c1 H
   have c1a := beq_iff_eq.mpr c1
   have c1b := bne_eq_false_iff_eq.mpr c1
   clear c1
   go_wp2
   go_loopg [5] k (fun kq v_5 w' => ∃ (x5 : Int), v_5 = .int .i64 x5 ∧ Aside0 (laws_eqIntS.l0 kq x5 a0 a1 = some r) ∧ Aside0 (kq ≤ k) ∧ Hp noFP w w' [])
   case atStart => exact ⟨_, rfl, H, ⟨Nat.le_refl _⟩, HS⟩
   case round =>
    clear HS H; (try clear F)
    obtain ⟨x5, rfl, H, HKk4, HS⟩ := hrel
    cases gk with
    | zero => exact absurd H.out (by simp [laws_eqIntS.l0])
    | succ k4 =>
     simp only [laws_eqIntS.l0] at H
     by_cases c7 : x5 < (a0.length : Int)
     · replace H := zpos c7 H
       replace c7 := eq_true c7
       (try go_wp2)
       by_cases c102001 : 0 ≤ x5
       case neg => exact zno c102001 H
       replace H := zpos c102001 H
       replace c102001 := eq_true c102001
       by_cases c102002 : x5 < (a0.length : Int)
       case neg => exact zno c102002 H
       replace H := zpos c102002 H
       replace c102002 := eq_true c102002
       obtain ⟨ad102003, rfl, e102003_0⟩ := Kd.at_int gp0 x5 (of_eq_true c102001) (of_eq_true c102002)
       by_cases c106001 : x5 < (a1.length : Int)
       case neg => exact zno c106001 H
       replace H := zpos c106001 H
       replace c106001 := eq_true c106001
       obtain ⟨ad106002, rfl, e106002_0⟩ := Kd.at_int gp1 x5 (of_eq_true c102001) (of_eq_true c106001)
       refine dr_start [] HS #[false, false, false, false, false, false, false, false, false] (by kernel_rfl) rfl rfl laws_eqIntS.tT6 (fun w9 HT HS HH => ?_)
       (try clear F)
       refine dr_pure 0 (some 17) HT (v := ?_) (a' := ?_) rfl rfl (by kernel_rfl) (fun _ _ _ h => h) (.inl ⟨by rfl, ?_⟩) ?_ ?_
       rotate_left
       · intro w'; go_simp; with_reducible rfl
       rotate_left
       · simp only [Act.put, List.setIfInBounds_toArray, List.set_cons_zero, List.set_cons_succ, i64_w, i32_w]; rfl
       refine dr_pure 1 (some 18) HT (v := ?_) (a' := ?_) rfl rfl (by kernel_rfl) (fun _ _ _ h => h) (.inl ⟨by rfl, ?_⟩) ?_ ?_
       rotate_left
       · intro w'; go_simp; with_reducible rfl
       rotate_left
       · simp only [Act.put, List.setIfInBounds_toArray, List.set_cons_zero, List.set_cons_succ, i64_w, i32_w]; rfl
       refine dr_pure 2 (some 19) HT (v := ?_) (a' := ?_) rfl rfl (by kernel_rfl) (fun _ _ _ h => h) (.inl ⟨by rfl, ?_⟩) ?_ ?_
       rotate_left
       · intro w'; go_simp; with_reducible rfl
       rotate_left
       · simp only [Act.put, List.setIfInBounds_toArray, List.set_cons_zero, List.set_cons_succ, i64_w, i32_w]; rfl
       refine dr_take 3 (some 20) HT HH (v := ?_) (a' := ?_) rfl rfl (by kernel_rfl) (fun _ _ _ h => h) (.inl ⟨by rfl, ?_⟩) ?_ ?_
       rotate_left
       · rintro w' ⟨rs', HS'⟩; have e102003_0 := HS'.keepc e102003_0; go_simp; with_reducible rfl
       rotate_left
       · simp only [Act.put, List.setIfInBounds_toArray, List.set_cons_zero, List.set_cons_succ, i64_w, i32_w]; rfl
       refine dr_pure 4 (some 21) HT (v := ?_) (a' := ?_) rfl rfl (by kernel_rfl) (fun _ _ _ h => h) (.inl ⟨by rfl, ?_⟩) ?_ ?_
       rotate_left
       · intro w'; go_simp; with_reducible rfl
       rotate_left
       · simp only [Act.put, List.setIfInBounds_toArray, List.set_cons_zero, List.set_cons_succ, i64_w, i32_w]; rfl
       refine dr_pure 5 (some 22) HT (v := ?_) (a' := ?_) rfl rfl (by kernel_rfl) (fun _ _ _ h => h) (.inl ⟨by rfl, ?_⟩) ?_ ?_
       rotate_left
       · intro w'; go_simp; with_reducible rfl
       rotate_left
       · simp only [Act.put, List.setIfInBounds_toArray, List.set_cons_zero, List.set_cons_succ, i64_w, i32_w]; rfl
       refine dr_pure 6 (some 23) HT (v := ?_) (a' := ?_) rfl rfl (by kernel_rfl) (fun _ _ _ h => h) (.inl ⟨by rfl, ?_⟩) ?_ ?_
       rotate_left
       · intro w'; go_simp; with_reducible rfl
       rotate_left
       · simp only [Act.put, List.setIfInBounds_toArray, List.set_cons_zero, List.set_cons_succ, i64_w, i32_w]; rfl
       refine dr_take 7 (some 24) HT HH (v := ?_) (a' := ?_) rfl rfl (by kernel_rfl) (fun _ _ _ h => h) (.inl ⟨by rfl, ?_⟩) ?_ ?_
       rotate_left
       · rintro w' ⟨rs', HS'⟩; have e106002_0 := HS'.keepc e106002_0; go_simp; with_reducible rfl
       rotate_left
       · simp only [Act.put, List.setIfInBounds_toArray, List.set_cons_zero, List.set_cons_succ, i64_w, i32_w]; rfl
       refine dr_pure 8 (some 25) HT (v := ?_) (a' := ?_) rfl rfl (by kernel_rfl) (fun _ _ _ h => h) (.inl ⟨by rfl, ?_⟩) ?_ ?_
       rotate_left
       · intro w'; go_simp; with_reducible rfl
       rotate_left
       · simp only [Act.put, List.setIfInBounds_toArray, List.set_cons_zero, List.set_cons_succ, i64_w, i32_w]; rfl
       refine done_ (done_of HT.out (by kernel_rfl)) ?_
       by_cases c11 : (rd a0 x5) = (rd a1 x5)
       · replace H := zpos c11 H
         have c11a := beq_iff_eq.mpr c11
         have c11b := bne_eq_false_iff_eq.mpr c11
         clear c11
         (try simp only [c11a, c11b, decide_true, decide_false, Bool.not_true, Bool.not_false])
         go_wp2
         go_roundg k4
         case measure => have := HKk4.out; omega
         case rel => exact ⟨_, rfl, H, ⟨by have := HKk4.out; omega⟩, HS.pick [] (by decide) (by rfl)⟩
       · replace H := zneg c11 H
         have c11a := beq_eq_false_iff_ne.mpr c11
         have c11b := bne_iff_ne.mpr c11
         clear c11
         (try simp only [c11a, c11b, decide_true, decide_false, Bool.not_true, Bool.not_false])
         obtain rfl := zsome H
         go_wp2
         go_ret
         exact ⟨rfl, HS.pick [] (by decide) (by rfl)⟩
     · replace H := zneg c7 H
       replace c7 := eq_false c7
       obtain rfl := zsome H
       go_wp2
       go_ret
       exact ⟨rfl, HS.pick [] (by decide) (by rfl)⟩
 · replace H := zneg c1 H
   have c1a := beq_eq_false_iff_ne.mpr c1
   have c1b := bne_iff_ne.mpr c1
   clear c1
   obtain rfl := zsome H
   go_wp2
   go_ret
   exact ⟨rfl, HS.pick [] (by decide) (by rfl)⟩
/-! ### laws_eqRules: function 158 -/
def laws_eqRules.f (k : Nat) (a0 : S146) (a1 : S146) : Option (Bool) := (if a0.f0 = a1.f0 then ((laws_eqIntS.f k a0.f1 a1.f1).bind fun t6 => (if t6 = true then (if a0.f2 = a1.f2 then (if a0.f3 = a1.f3 then (if a0.f4 = a1.f4 then (some true) else (some false)) else (some false)) else (some false)) else (some false))) else (some false))
set_option maxHeartbeats 16000000 in
theorem laws_eqRules.calls {k : Nat} {a0 : S146} {a1 : S146} {Ap0 : Option Addr} {np0 cp0 : Nat} {Ap1 : Option Addr} {np1 cp1 : Nat} {r : Bool} {w : World} (h : laws_eqRules.f k a0 a1 = some r) (gp0 : (Kd.int .i64).C w Ap0 np0 a0.f1) (lp0 : np0 ≤ cp0) (gp1 : (Kd.int .i64).C w Ap1 np1 a1.f1) (lp1 : np1 ≤ cp1) :
    Calls Try.prog 158 #[.agg #[.int .i64 a0.f0, .slice Ap0 np0 cp0, .bool a0.f2, .bool a0.f3, .int .i64 a0.f4], .agg #[.int .i64 a1.f0, .slice Ap1 np1 cp1, .bool a1.f2, .bool a1.f3, .int .i64 a1.f4]] w (fun e w' => e = .returned (.bool r) ∧ Hp noFP w w' []) := by
 obtain rfl := C_len gp0
 obtain rfl := C_len gp1
 have HS := Hp.start w
 have H := Aside0.mk h
 clear h
 unfold laws_eqRules.f at H
 go_enter Try.func158, Try.ntmps158
 go_upto_if 9 with (first | ((with_reducible refine gate_dst (N := 2) rfl ?_); refine ev_box rfl HS (by first | (go_simp; done) | (go_simp; rfl)) rfl ?_; clear HS; (try clear F); intro g2 w2 HS; replace HS : Hp noFP w _ [.box g2 [.int .i64 a0.f0, .slice Ap0 a0.f1.length cp0, .bool a0.f2, .bool a0.f3, .int .i64 a0.f4] 146] := HS; have F := HS.boxes; simp only [boxFacts, wrt, clr0, clr1, List.cons_append, List.nil_append, List.append_nil, List.set_cons_zero, List.set_cons_succ, and_true] at F) | ((with_reducible refine gate_dst (N := 3) rfl ?_); refine ev_box rfl HS (by first | (go_simp; done) | (go_simp; rfl)) rfl ?_; clear HS; (try clear F); intro g3 w3 HS; replace HS : Hp noFP w _ [.box g2 [.int .i64 a0.f0, .slice Ap0 a0.f1.length cp0, .bool a0.f2, .bool a0.f3, .int .i64 a0.f4] 146, .box g3 [.int .i64 a1.f0, .slice Ap1 a1.f1.length cp1, .bool a1.f2, .bool a1.f3, .int .i64 a1.f4] 146] := HS; have F := HS.boxes; simp only [boxFacts, wrt, clr0, clr1, List.cons_append, List.nil_append, List.append_nil, List.set_cons_zero, List.set_cons_succ, and_true] at F))
 by_cases c5 : a0.f0 = a1.f0
 · replace H := zpos c5 H
   have c5a := beq_iff_eq.mpr c5
   have c5b := bne_eq_false_iff_eq.mpr c5
   clear c5
   (try simp only [c5a, c5b, decide_true, decide_false, Bool.not_true, Bool.not_false])
   obtain ⟨t6, ht6, H⟩ := zbind H
   go_upto_if 15 with (first | ((with_reducible refine gate_dst (N := 14) rfl ?_); refine ev_call rfl Try.func14 (by kernel_rfl) rfl #[.slice Ap0 a0.f1.length cp0, .slice Ap1 a1.f1.length cp1] rfl (by simp only [List.map_toArray, List.map_cons, List.map_nil]; rfl) ?_; refine (laws_eqIntS.calls ht6.out (HS.ro gp0) lp0 (HS.ro gp1) lp1).mono ?_; rintro _ wt6 ⟨rfl, HQ⟩; refine ⟨_, rfl, ?_⟩; replace HS := HS.call HQ; clear HQ; (try clear F); replace HS : Hp noFP w _ [.box g2 [.int .i64 a0.f0, .slice Ap0 a0.f1.length cp0, .bool a0.f2, .bool a0.f3, .int .i64 a0.f4] 146, .box g3 [.int .i64 a1.f0, .slice Ap1 a1.f1.length cp1, .bool a1.f2, .bool a1.f3, .int .i64 a1.f4] 146] := HS; have F := HS.boxes; simp only [boxFacts, wrt, clr0, clr1, List.cons_append, List.nil_append, List.append_nil, List.set_cons_zero, List.set_cons_succ, and_true] at F))
   by_cases c8 : t6 = true
   · replace H := zpos c8 H
     (try simp only [c8, decide_true, decide_false, Bool.not_true, Bool.not_false])
     by_cases c9 : a0.f2 = a1.f2
     · replace H := zpos c9 H
       have c9a := beq_iff_eq.mpr c9
       have c9b := bne_eq_false_iff_eq.mpr c9
       clear c9
       by_cases c10 : a0.f3 = a1.f3
       · replace H := zpos c10 H
         have c10a := beq_iff_eq.mpr c10
         have c10b := bne_eq_false_iff_eq.mpr c10
         clear c10
         by_cases c11 : a0.f4 = a1.f4
         · replace H := zpos c11 H
           have c11a := beq_iff_eq.mpr c11
           have c11b := bne_eq_false_iff_eq.mpr c11
           clear c11
           obtain rfl := zsome H
           go_wp2
           go_ret
           exact ⟨rfl, HS.pick [] (by decide) (by rfl)⟩
         · replace H := zneg c11 H
           have c11a := beq_eq_false_iff_ne.mpr c11
           have c11b := bne_iff_ne.mpr c11
           clear c11
           obtain rfl := zsome H
           go_wp2
           go_ret
           exact ⟨rfl, HS.pick [] (by decide) (by rfl)⟩
       · replace H := zneg c10 H
         have c10a := beq_eq_false_iff_ne.mpr c10
         have c10b := bne_iff_ne.mpr c10
         clear c10
         obtain rfl := zsome H
         go_wp2
         go_ret
         exact ⟨rfl, HS.pick [] (by decide) (by rfl)⟩
     · replace H := zneg c9 H
       have c9a := beq_eq_false_iff_ne.mpr c9
       have c9b := bne_iff_ne.mpr c9
       clear c9
       obtain rfl := zsome H
       go_wp2
       go_ret
       exact ⟨rfl, HS.pick [] (by decide) (by rfl)⟩
   · replace H := zneg c8 H
     replace c8 := eq_false_of_ne_true c8
     (try simp only [c8, decide_true, decide_false, Bool.not_true, Bool.not_false])
     obtain rfl := zsome H
     go_wp2
     go_ret
     exact ⟨rfl, HS.pick [] (by decide) (by rfl)⟩
 · replace H := zneg c5 H
   have c5a := beq_eq_false_iff_ne.mpr c5
   have c5b := bne_iff_ne.mpr c5
   clear c5
   (try simp only [c5a, c5b, decide_true, decide_false, Bool.not_true, Bool.not_false])
   obtain rfl := zsome H
   go_wp2
   go_ret
   exact ⟨rfl, HS.pick [] (by decide) (by rfl)⟩
/-! ### laws_eqPlan: function 107 -/
def laws_eqPlan.f (k : Nat) (a0 : S148) (a1 : S148) : Option (Bool) := (if a0.f0 = a1.f0 then ((laws_eqIntS.f k a0.f1 a1.f1).bind fun t6 => (if t6 = true then ((laws_eqRules.f k a0.f2 a1.f2).bind fun t9 => (if t9 = true then (some true) else (some false))) else (some false))) else (some false))
set_option maxHeartbeats 16000000 in
theorem laws_eqPlan.calls {k : Nat} {a0 : S148} {a1 : S148} {Ap0 : Option Addr} {np0 cp0 : Nat} {Ap1 : Option Addr} {np1 cp1 : Nat} {Ap2 : Option Addr} {np2 cp2 : Nat} {Ap3 : Option Addr} {np3 cp3 : Nat} {r : Bool} {w : World} (h : laws_eqPlan.f k a0 a1 = some r) (gp0 : (Kd.int .i64).C w Ap0 np0 a0.f1) (lp0 : np0 ≤ cp0) (gp1 : (Kd.int .i64).C w Ap1 np1 a0.f2.f1) (lp1 : np1 ≤ cp1) (gp2 : (Kd.int .i64).C w Ap2 np2 a1.f1) (lp2 : np2 ≤ cp2) (gp3 : (Kd.int .i64).C w Ap3 np3 a1.f2.f1) (lp3 : np3 ≤ cp3) :
    Calls Try.prog 107 #[.agg #[.int .i64 a0.f0, .slice Ap0 np0 cp0, .int .i64 a0.f2.f0, .slice Ap1 np1 cp1, .bool a0.f2.f2, .bool a0.f2.f3, .int .i64 a0.f2.f4], .agg #[.int .i64 a1.f0, .slice Ap2 np2 cp2, .int .i64 a1.f2.f0, .slice Ap3 np3 cp3, .bool a1.f2.f2, .bool a1.f2.f3, .int .i64 a1.f2.f4]] w (fun e w' => e = .returned (.bool r) ∧ Hp noFP w w' []) := by
 obtain rfl := C_len gp0
 obtain rfl := C_len gp1
 obtain rfl := C_len gp2
 obtain rfl := C_len gp3
 have HS := Hp.start w
 have H := Aside0.mk h
 clear h
 unfold laws_eqPlan.f at H
 go_enter Try.func107, Try.ntmps107
 go_upto_if 9 with (first | ((with_reducible refine gate_dst (N := 2) rfl ?_); refine ev_box rfl HS (by first | (go_simp; done) | (go_simp; rfl)) rfl ?_; clear HS; (try clear F); intro g2 w2 HS; replace HS : Hp noFP w _ [.box g2 [.int .i64 a0.f0, .slice Ap0 a0.f1.length cp0, .int .i64 a0.f2.f0, .slice Ap1 a0.f2.f1.length cp1, .bool a0.f2.f2, .bool a0.f2.f3, .int .i64 a0.f2.f4] 148] := HS; have F := HS.boxes; simp only [boxFacts, wrt, clr0, clr1, List.cons_append, List.nil_append, List.append_nil, List.set_cons_zero, List.set_cons_succ, and_true] at F) | ((with_reducible refine gate_dst (N := 3) rfl ?_); refine ev_box rfl HS (by first | (go_simp; done) | (go_simp; rfl)) rfl ?_; clear HS; (try clear F); intro g3 w3 HS; replace HS : Hp noFP w _ [.box g2 [.int .i64 a0.f0, .slice Ap0 a0.f1.length cp0, .int .i64 a0.f2.f0, .slice Ap1 a0.f2.f1.length cp1, .bool a0.f2.f2, .bool a0.f2.f3, .int .i64 a0.f2.f4] 148, .box g3 [.int .i64 a1.f0, .slice Ap2 a1.f1.length cp2, .int .i64 a1.f2.f0, .slice Ap3 a1.f2.f1.length cp3, .bool a1.f2.f2, .bool a1.f2.f3, .int .i64 a1.f2.f4] 148] := HS; have F := HS.boxes; simp only [boxFacts, wrt, clr0, clr1, List.cons_append, List.nil_append, List.append_nil, List.set_cons_zero, List.set_cons_succ, and_true] at F))
 by_cases c5 : a0.f0 = a1.f0
 · replace H := zpos c5 H
   have c5a := beq_iff_eq.mpr c5
   have c5b := bne_eq_false_iff_eq.mpr c5
   clear c5
   (try simp only [c5a, c5b, decide_true, decide_false, Bool.not_true, Bool.not_false])
   obtain ⟨t6, ht6, H⟩ := zbind H
   go_upto_if 15 with (first | ((with_reducible refine gate_dst (N := 14) rfl ?_); refine ev_call rfl Try.func14 (by kernel_rfl) rfl #[.slice Ap0 a0.f1.length cp0, .slice Ap2 a1.f1.length cp2] rfl (by simp only [List.map_toArray, List.map_cons, List.map_nil]; rfl) ?_; refine (laws_eqIntS.calls ht6.out (HS.ro gp0) lp0 (HS.ro gp2) lp2).mono ?_; rintro _ wt6 ⟨rfl, HQ⟩; refine ⟨_, rfl, ?_⟩; replace HS := HS.call HQ; clear HQ; (try clear F); replace HS : Hp noFP w _ [.box g2 [.int .i64 a0.f0, .slice Ap0 a0.f1.length cp0, .int .i64 a0.f2.f0, .slice Ap1 a0.f2.f1.length cp1, .bool a0.f2.f2, .bool a0.f2.f3, .int .i64 a0.f2.f4] 148, .box g3 [.int .i64 a1.f0, .slice Ap2 a1.f1.length cp2, .int .i64 a1.f2.f0, .slice Ap3 a1.f2.f1.length cp3, .bool a1.f2.f2, .bool a1.f2.f3, .int .i64 a1.f2.f4] 148] := HS; have F := HS.boxes; simp only [boxFacts, wrt, clr0, clr1, List.cons_append, List.nil_append, List.append_nil, List.set_cons_zero, List.set_cons_succ, and_true] at F))
   by_cases c8 : t6 = true
   · replace H := zpos c8 H
     (try simp only [c8, decide_true, decide_false, Bool.not_true, Bool.not_false])
     obtain ⟨t9, ht9, H⟩ := zbind H
     go_upto_if 21 with (first | ((with_reducible refine gate_dst (N := 20) rfl ?_); refine ev_call rfl Try.func158 (by kernel_rfl) rfl #[.agg #[.int .i64 a0.f2.f0, .slice Ap1 a0.f2.f1.length cp1, .bool a0.f2.f2, .bool a0.f2.f3, .int .i64 a0.f2.f4], .agg #[.int .i64 a1.f2.f0, .slice Ap3 a1.f2.f1.length cp3, .bool a1.f2.f2, .bool a1.f2.f3, .int .i64 a1.f2.f4]] rfl (by simp only [List.map_toArray, List.map_cons, List.map_nil]; rfl) ?_; refine (laws_eqRules.calls ht9.out (HS.ro gp1) lp1 (HS.ro gp3) lp3).mono ?_; rintro _ wt9 ⟨rfl, HQ⟩; refine ⟨_, rfl, ?_⟩; replace HS := HS.call HQ; clear HQ; (try clear F); replace HS : Hp noFP w _ [.box g2 [.int .i64 a0.f0, .slice Ap0 a0.f1.length cp0, .int .i64 a0.f2.f0, .slice Ap1 a0.f2.f1.length cp1, .bool a0.f2.f2, .bool a0.f2.f3, .int .i64 a0.f2.f4] 148, .box g3 [.int .i64 a1.f0, .slice Ap2 a1.f1.length cp2, .int .i64 a1.f2.f0, .slice Ap3 a1.f2.f1.length cp3, .bool a1.f2.f2, .bool a1.f2.f3, .int .i64 a1.f2.f4] 148] := HS; have F := HS.boxes; simp only [boxFacts, wrt, clr0, clr1, List.cons_append, List.nil_append, List.append_nil, List.set_cons_zero, List.set_cons_succ, and_true] at F))
     by_cases c11 : t9 = true
     · replace H := zpos c11 H
       (try simp only [c11, decide_true, decide_false, Bool.not_true, Bool.not_false])
       obtain rfl := zsome H
       go_wp2
       go_ret
       exact ⟨rfl, HS.pick [] (by decide) (by rfl)⟩
     · replace H := zneg c11 H
       replace c11 := eq_false_of_ne_true c11
       (try simp only [c11, decide_true, decide_false, Bool.not_true, Bool.not_false])
       obtain rfl := zsome H
       go_wp2
       go_ret
       exact ⟨rfl, HS.pick [] (by decide) (by rfl)⟩
   · replace H := zneg c8 H
     replace c8 := eq_false_of_ne_true c8
     (try simp only [c8, decide_true, decide_false, Bool.not_true, Bool.not_false])
     obtain rfl := zsome H
     go_wp2
     go_ret
     exact ⟨rfl, HS.pick [] (by decide) (by rfl)⟩
 · replace H := zneg c5 H
   have c5a := beq_eq_false_iff_ne.mpr c5
   have c5b := bne_iff_ne.mpr c5
   clear c5
   (try simp only [c5a, c5b, decide_true, decide_false, Bool.not_true, Bool.not_false])
   obtain rfl := zsome H
   go_wp2
   go_ret
   exact ⟨rfl, HS.pick [] (by decide) (by rfl)⟩
/-! ### laws_eqPlanS: function 48 -/
def laws_eqPlanS.l0 : Nat → Int → (List S148) → (List S148) → Option (Bool)
  | 0, _, _, _ => none
  | k + 1, x5, a0, a1 => (if x5 < (a0.length : Int) then (if 0 ≤ x5 then (if x5 < (a0.length : Int) then (if x5 < (a1.length : Int) then ((laws_eqPlan.f k (rd_T148 a0 x5) (rd_T148 a1 x5)).bind fun t108001 => (if t108001 = true then (laws_eqPlanS.l0 k (wrap64 (x5 + 1)) a0 a1) else (some false))) else none) else none) else none) else (some true))
def laws_eqPlanS.f (k : Nat) (a0 : (List S148)) (a1 : (List S148)) : Option (Bool) := (if (a0.length : Int) = (a1.length : Int) then (laws_eqPlanS.l0 k 0 a0 a1) else (some false))
def laws_eqPlanS.T6 : Bool × List (List Nat × List Nat) := (true, [([], []), ([], []), ([0, 1], [0, 1]), ([2], [2]), ([], []), ([], []), ([4, 5], [4, 5]), ([6], [6]), ([3, 7], [3, 7]), ([8], [8])])
theorem laws_eqPlanS.tT6 : rtab .any (opsOf Try.f48 6) = laws_eqPlanS.T6 := by kernel_rfl
set_option maxHeartbeats 16000000 in
theorem laws_eqPlanS.calls {k : Nat} {a0 : (List S148)} {a1 : (List S148)} {Ap0 : Option Addr} {np0 cp0 : Nat} {Ap1 : Option Addr} {np1 cp1 : Nat} {r : Bool} {w : World} (h : laws_eqPlanS.f k a0 a1 = some r) (gp0 : k148.C w Ap0 np0 a0) (lp0 : np0 ≤ cp0) (gp1 : k148.C w Ap1 np1 a1) (lp1 : np1 ≤ cp1) :
    Calls Try.prog 48 #[.slice Ap0 np0 cp0, .slice Ap1 np1 cp1] w (fun e w' => e = .returned (.bool r) ∧ Hp noFP w w' []) := by
 obtain rfl := C_len gp0
 obtain rfl := C_len gp1
 have HS := Hp.start w
 have H := Aside0.mk h
 clear h
 unfold laws_eqPlanS.f at H
 go_enter Try.func48, Try.ntmps48
 by_cases c1 : (a0.length : Int) = (a1.length : Int)
 · replace H := zpos c1 H
   have c1a := beq_iff_eq.mpr c1
   have c1b := bne_eq_false_iff_eq.mpr c1
   clear c1
   go_wp2
   go_loopg [5] k (fun kq v_5 w' => ∃ (x5 : Int), v_5 = .int .i64 x5 ∧ Aside0 (laws_eqPlanS.l0 kq x5 a0 a1 = some r) ∧ Aside0 (kq ≤ k) ∧ Hp noFP w w' [])
   case atStart => exact ⟨_, rfl, H, ⟨Nat.le_refl _⟩, HS⟩
   case round =>
    clear HS H; (try clear F)
    obtain ⟨x5, rfl, H, HKk4, HS⟩ := hrel
    cases gk with
    | zero => exact absurd H.out (by simp [laws_eqPlanS.l0])
    | succ k4 =>
     simp only [laws_eqPlanS.l0] at H
     by_cases c7 : x5 < (a0.length : Int)
     · replace H := zpos c7 H
       replace c7 := eq_true c7
       (try go_wp2)
       by_cases c102001 : 0 ≤ x5
       case neg => exact zno c102001 H
       replace H := zpos c102001 H
       replace c102001 := eq_true c102001
       by_cases c102002 : x5 < (a0.length : Int)
       case neg => exact zno c102002 H
       replace H := zpos c102002 H
       replace c102002 := eq_true c102002
       obtain ⟨ad102003, B102003_1, d102003_1, B102003_3, d102003_3, rfl, e102003_0, e102003_1, e102003_2, e102003_3, e102003_4, e102003_5, e102003_6, m102003_1, y102003_1, m102003_3, y102003_3⟩ := at_T148 gp0 x5 (of_eq_true c102001) (of_eq_true c102002)
       by_cases c106001 : x5 < (a1.length : Int)
       case neg => exact zno c106001 H
       replace H := zpos c106001 H
       replace c106001 := eq_true c106001
       obtain ⟨ad106002, B106002_1, d106002_1, B106002_3, d106002_3, rfl, e106002_0, e106002_1, e106002_2, e106002_3, e106002_4, e106002_5, e106002_6, m106002_1, y106002_1, m106002_3, y106002_3⟩ := at_T148 gp1 x5 (of_eq_true c102001) (of_eq_true c106001)
       obtain ⟨t108001, ht108001, H⟩ := zbind H
       refine dr_start [] HS #[false, false, false, false, false, false, false, false, false, false] (by kernel_rfl) rfl rfl laws_eqPlanS.tT6 (fun w9 HT HS HH => ?_)
       (try clear F)
       refine dr_pure 0 (some 17) HT (v := ?_) (a' := ?_) rfl rfl (by kernel_rfl) (fun _ _ _ h => h) (.inl ⟨by rfl, ?_⟩) ?_ ?_
       rotate_left
       · intro w'; go_simp; with_reducible rfl
       rotate_left
       · simp only [Act.put, List.setIfInBounds_toArray, List.set_cons_zero, List.set_cons_succ, i64_w, i32_w]; rfl
       refine dr_pure 1 (some 18) HT (v := ?_) (a' := ?_) rfl rfl (by kernel_rfl) (fun _ _ _ h => h) (.inl ⟨by rfl, ?_⟩) ?_ ?_
       rotate_left
       · intro w'; go_simp; with_reducible rfl
       rotate_left
       · simp only [Act.put, List.setIfInBounds_toArray, List.set_cons_zero, List.set_cons_succ, i64_w, i32_w]; rfl
       refine dr_pure 2 (some 19) HT (v := ?_) (a' := ?_) rfl rfl (by kernel_rfl) (fun _ _ _ h => h) (.inl ⟨by rfl, ?_⟩) ?_ ?_
       rotate_left
       · intro w'; go_simp; with_reducible rfl
       rotate_left
       · simp only [Act.put, List.setIfInBounds_toArray, List.set_cons_zero, List.set_cons_succ, i64_w, i32_w]; rfl
       refine dr_take 3 (some 20) HT HH (v := ?_) (a' := ?_) rfl rfl (by kernel_rfl) (fun _ _ _ h => h) (.inl ⟨by rfl, ?_⟩) ?_ ?_
       rotate_left
       · rintro w' ⟨rs', HS'⟩; have e102003_0 := HS'.keepc e102003_0; have e102003_1 := HS'.keepc e102003_1; have e102003_2 := HS'.keepc e102003_2; have e102003_3 := HS'.keepc e102003_3; have e102003_4 := HS'.keepc e102003_4; have e102003_5 := HS'.keepc e102003_5; have e102003_6 := HS'.keepc e102003_6; go_simp; with_reducible rfl
       rotate_left
       · simp only [Act.put, List.setIfInBounds_toArray, List.set_cons_zero, List.set_cons_succ, i64_w, i32_w]; rfl
       refine dr_pure 4 (some 21) HT (v := ?_) (a' := ?_) rfl rfl (by kernel_rfl) (fun _ _ _ h => h) (.inl ⟨by rfl, ?_⟩) ?_ ?_
       rotate_left
       · intro w'; go_simp; with_reducible rfl
       rotate_left
       · simp only [Act.put, List.setIfInBounds_toArray, List.set_cons_zero, List.set_cons_succ, i64_w, i32_w]; rfl
       refine dr_pure 5 (some 22) HT (v := ?_) (a' := ?_) rfl rfl (by kernel_rfl) (fun _ _ _ h => h) (.inl ⟨by rfl, ?_⟩) ?_ ?_
       rotate_left
       · intro w'; go_simp; with_reducible rfl
       rotate_left
       · simp only [Act.put, List.setIfInBounds_toArray, List.set_cons_zero, List.set_cons_succ, i64_w, i32_w]; rfl
       refine dr_pure 6 (some 23) HT (v := ?_) (a' := ?_) rfl rfl (by kernel_rfl) (fun _ _ _ h => h) (.inl ⟨by rfl, ?_⟩) ?_ ?_
       rotate_left
       · intro w'; go_simp; with_reducible rfl
       rotate_left
       · simp only [Act.put, List.setIfInBounds_toArray, List.set_cons_zero, List.set_cons_succ, i64_w, i32_w]; rfl
       refine dr_take 7 (some 24) HT HH (v := ?_) (a' := ?_) rfl rfl (by kernel_rfl) (fun _ _ _ h => h) (.inl ⟨by rfl, ?_⟩) ?_ ?_
       rotate_left
       · rintro w' ⟨rs', HS'⟩; have e106002_0 := HS'.keepc e106002_0; have e106002_1 := HS'.keepc e106002_1; have e106002_2 := HS'.keepc e106002_2; have e106002_3 := HS'.keepc e106002_3; have e106002_4 := HS'.keepc e106002_4; have e106002_5 := HS'.keepc e106002_5; have e106002_6 := HS'.keepc e106002_6; go_simp; with_reducible rfl
       rotate_left
       · simp only [Act.put, List.setIfInBounds_toArray, List.set_cons_zero, List.set_cons_succ, i64_w, i32_w]; rfl
       refine dr_one 8 HT rfl (by kernel_rfl) (by decide) (fun K hK => ?_)
       refine goes_ Try.func107 (by kernel_rfl) rfl #[.agg #[.int .i64 ((rd_T148 a0 x5).f0), .slice B102003_1 (rd_T148 a0 x5).f1.length d102003_1, .int .i64 ((rd_T148 a0 x5).f2.f0), .slice B102003_3 (rd_T148 a0 x5).f2.f1.length d102003_3, .bool ((rd_T148 a0 x5).f2.f2), .bool ((rd_T148 a0 x5).f2.f3), .int .i64 ((rd_T148 a0 x5).f2.f4)], .agg #[.int .i64 ((rd_T148 a1 x5).f0), .slice B106002_1 (rd_T148 a1 x5).f1.length d106002_1, .int .i64 ((rd_T148 a1 x5).f2.f0), .slice B106002_3 (rd_T148 a1 x5).f2.f1.length d106002_3, .bool ((rd_T148 a1 x5).f2.f2), .bool ((rd_T148 a1 x5).f2.f3), .int .i64 ((rd_T148 a1 x5).f2.f4)]] (by rfl) rfl rfl (by simp only [List.map_toArray, List.map_cons, List.map_nil]; rfl) ?_; refine (laws_eqPlan.calls ht108001.out (HS.ro y102003_1) m102003_1 (HS.ro y102003_3) m102003_3 (HS.ro y106002_1) m106002_1 (HS.ro y106002_3) m106002_3).mono ?_; rintro _ wt108001 ⟨rfl, HQ⟩; refine ⟨_, rfl, ?_⟩; replace HS := HS.call HQ; clear HQ; (try clear F)
       replace HS : Hp noFP w _ [] := HS
       refine hK.out _ _ ⟨_, HS⟩ (fun HH => ?_)
       clear hK K
       refine norm_ (a' := ?_) ?_ ?_
       rotate_left
       · show Act.put _ (some 25) _ = _; simp only [Act.put, List.setIfInBounds_toArray, List.set_cons_zero, List.set_cons_succ, i64_w, i32_w]; rfl
       refine dr_pure 9 (some 26) HT (v := ?_) (a' := ?_) rfl rfl (by kernel_rfl) (fun _ _ _ h => h) (.inl ⟨by rfl, ?_⟩) ?_ ?_
       rotate_left
       · intro w'; go_simp; with_reducible rfl
       rotate_left
       · simp only [Act.put, List.setIfInBounds_toArray, List.set_cons_zero, List.set_cons_succ, i64_w, i32_w]; rfl
       refine done_ (done_of HT.out (by kernel_rfl)) ?_
       by_cases c11 : t108001 = true
       · replace H := zpos c11 H
         (try simp only [c11, decide_true, decide_false, Bool.not_true, Bool.not_false])
         go_wp2
         go_roundg k4
         case measure => have := HKk4.out; omega
         case rel => exact ⟨_, rfl, H, ⟨by have := HKk4.out; omega⟩, HS.pick [] (by decide) (by rfl)⟩
       · replace H := zneg c11 H
         replace c11 := eq_false_of_ne_true c11
         (try simp only [c11, decide_true, decide_false, Bool.not_true, Bool.not_false])
         obtain rfl := zsome H
         go_wp2
         go_ret
         exact ⟨rfl, HS.pick [] (by decide) (by rfl)⟩
     · replace H := zneg c7 H
       replace c7 := eq_false c7
       obtain rfl := zsome H
       go_wp2
       go_ret
       exact ⟨rfl, HS.pick [] (by decide) (by rfl)⟩
 · replace H := zneg c1 H
   have c1a := beq_eq_false_iff_ne.mpr c1
   have c1b := bne_iff_ne.mpr c1
   clear c1
   obtain rfl := zsome H
   go_wp2
   go_ret
   exact ⟨rfl, HS.pick [] (by decide) (by rfl)⟩
/-! ### laws_eqRev: function 183 -/
def laws_eqRev.f (a0 : S232) (a1 : S232) : Option (Bool) := (if a0.f0 = a1.f0 then (if a0.f1 = a1.f1 then (some true) else (some false)) else (some false))
set_option maxHeartbeats 16000000 in
theorem laws_eqRev.calls {a0 : S232} {a1 : S232} {r : Bool} {w : World} (h : laws_eqRev.f a0 a1 = some r) :
    Calls Try.prog 183 #[.agg #[.int .i64 a0.f0, .int .i64 a0.f1], .agg #[.int .i64 a1.f0, .int .i64 a1.f1]] w (fun e w' => e = .returned (.bool r) ∧ Hp noFP w w' []) := by
 have HS := Hp.start w
 have H := Aside0.mk h
 clear h
 unfold laws_eqRev.f at H
 go_enter Try.func183, Try.ntmps183
 go_upto_if 9 with (first | ((with_reducible refine gate_dst (N := 2) rfl ?_); refine ev_box rfl HS (by first | (go_simp; done) | (go_simp; rfl)) rfl ?_; clear HS; (try clear F); intro g2 w2 HS; replace HS : Hp noFP w _ [.box g2 [.int .i64 a0.f0, .int .i64 a0.f1] 232] := HS; have F := HS.boxes; simp only [boxFacts, wrt, clr0, clr1, List.cons_append, List.nil_append, List.append_nil, List.set_cons_zero, List.set_cons_succ, and_true] at F) | ((with_reducible refine gate_dst (N := 3) rfl ?_); refine ev_box rfl HS (by first | (go_simp; done) | (go_simp; rfl)) rfl ?_; clear HS; (try clear F); intro g3 w3 HS; replace HS : Hp noFP w _ [.box g2 [.int .i64 a0.f0, .int .i64 a0.f1] 232, .box g3 [.int .i64 a1.f0, .int .i64 a1.f1] 232] := HS; have F := HS.boxes; simp only [boxFacts, wrt, clr0, clr1, List.cons_append, List.nil_append, List.append_nil, List.set_cons_zero, List.set_cons_succ, and_true] at F))
 by_cases c5 : a0.f0 = a1.f0
 · replace H := zpos c5 H
   have c5a := beq_iff_eq.mpr c5
   have c5b := bne_eq_false_iff_eq.mpr c5
   clear c5
   (try simp only [c5a, c5b, decide_true, decide_false, Bool.not_true, Bool.not_false])
   by_cases c6 : a0.f1 = a1.f1
   · replace H := zpos c6 H
     have c6a := beq_iff_eq.mpr c6
     have c6b := bne_eq_false_iff_eq.mpr c6
     clear c6
     obtain rfl := zsome H
     go_wp2
     go_ret
     exact ⟨rfl, HS.pick [] (by decide) (by rfl)⟩
   · replace H := zneg c6 H
     have c6a := beq_eq_false_iff_ne.mpr c6
     have c6b := bne_iff_ne.mpr c6
     clear c6
     obtain rfl := zsome H
     go_wp2
     go_ret
     exact ⟨rfl, HS.pick [] (by decide) (by rfl)⟩
 · replace H := zneg c5 H
   have c5a := beq_eq_false_iff_ne.mpr c5
   have c5b := bne_iff_ne.mpr c5
   clear c5
   (try simp only [c5a, c5b, decide_true, decide_false, Bool.not_true, Bool.not_false])
   obtain rfl := zsome H
   go_wp2
   go_ret
   exact ⟨rfl, HS.pick [] (by decide) (by rfl)⟩
/-! ### laws_eqRevS: function 176 -/
def laws_eqRevS.l0 : Nat → Int → (List S232) → (List S232) → Option (Bool)
  | 0, _, _, _ => none
  | k + 1, x5, a0, a1 => (if x5 < (a0.length : Int) then (if 0 ≤ x5 then (if x5 < (a0.length : Int) then (if x5 < (a1.length : Int) then ((laws_eqRev.f (rd_T232 a0 x5) (rd_T232 a1 x5)).bind fun t108001 => (if t108001 = true then (laws_eqRevS.l0 k (wrap64 (x5 + 1)) a0 a1) else (some false))) else none) else none) else none) else (some true))
def laws_eqRevS.f (k : Nat) (a0 : (List S232)) (a1 : (List S232)) : Option (Bool) := (if (a0.length : Int) = (a1.length : Int) then (laws_eqRevS.l0 k 0 a0 a1) else (some false))
def laws_eqRevS.T6 : Bool × List (List Nat × List Nat) := (true, [([], []), ([], []), ([0, 1], [0, 1]), ([2], [2]), ([], []), ([], []), ([4, 5], [4, 5]), ([6], [6]), ([3, 7], [3, 7]), ([8], [8])])
theorem laws_eqRevS.tT6 : rtab .any (opsOf Try.f176 6) = laws_eqRevS.T6 := by kernel_rfl
set_option maxHeartbeats 16000000 in
theorem laws_eqRevS.calls {k : Nat} {a0 : (List S232)} {a1 : (List S232)} {Ap0 : Option Addr} {np0 cp0 : Nat} {Ap1 : Option Addr} {np1 cp1 : Nat} {r : Bool} {w : World} (h : laws_eqRevS.f k a0 a1 = some r) (gp0 : k232.C w Ap0 np0 a0) (lp0 : np0 ≤ cp0) (gp1 : k232.C w Ap1 np1 a1) (lp1 : np1 ≤ cp1) :
    Calls Try.prog 176 #[.slice Ap0 np0 cp0, .slice Ap1 np1 cp1] w (fun e w' => e = .returned (.bool r) ∧ Hp noFP w w' []) := by
 obtain rfl := C_len gp0
 obtain rfl := C_len gp1
 have HS := Hp.start w
 have H := Aside0.mk h
 clear h
 unfold laws_eqRevS.f at H
 go_enter Try.func176, Try.ntmps176
 by_cases c1 : (a0.length : Int) = (a1.length : Int)
 · replace H := zpos c1 H
   have c1a := beq_iff_eq.mpr c1
   have c1b := bne_eq_false_iff_eq.mpr c1
   clear c1
   go_wp2
   go_loopg [5] k (fun kq v_5 w' => ∃ (x5 : Int), v_5 = .int .i64 x5 ∧ Aside0 (laws_eqRevS.l0 kq x5 a0 a1 = some r) ∧ Aside0 (kq ≤ k) ∧ Hp noFP w w' [])
   case atStart => exact ⟨_, rfl, H, ⟨Nat.le_refl _⟩, HS⟩
   case round =>
    clear HS H; (try clear F)
    obtain ⟨x5, rfl, H, HKk4, HS⟩ := hrel
    cases gk with
    | zero => exact absurd H.out (by simp [laws_eqRevS.l0])
    | succ k4 =>
     simp only [laws_eqRevS.l0] at H
     by_cases c7 : x5 < (a0.length : Int)
     · replace H := zpos c7 H
       replace c7 := eq_true c7
       (try go_wp2)
       by_cases c102001 : 0 ≤ x5
       case neg => exact zno c102001 H
       replace H := zpos c102001 H
       replace c102001 := eq_true c102001
       by_cases c102002 : x5 < (a0.length : Int)
       case neg => exact zno c102002 H
       replace H := zpos c102002 H
       replace c102002 := eq_true c102002
       obtain ⟨ad102003, rfl, e102003_0, e102003_1⟩ := at_T232 gp0 x5 (of_eq_true c102001) (of_eq_true c102002)
       by_cases c106001 : x5 < (a1.length : Int)
       case neg => exact zno c106001 H
       replace H := zpos c106001 H
       replace c106001 := eq_true c106001
       obtain ⟨ad106002, rfl, e106002_0, e106002_1⟩ := at_T232 gp1 x5 (of_eq_true c102001) (of_eq_true c106001)
       obtain ⟨t108001, ht108001, H⟩ := zbind H
       refine dr_start [] HS #[false, false, false, false, false, false, false, false, false, false] (by kernel_rfl) rfl rfl laws_eqRevS.tT6 (fun w9 HT HS HH => ?_)
       (try clear F)
       refine dr_pure 0 (some 17) HT (v := ?_) (a' := ?_) rfl rfl (by kernel_rfl) (fun _ _ _ h => h) (.inl ⟨by rfl, ?_⟩) ?_ ?_
       rotate_left
       · intro w'; go_simp; with_reducible rfl
       rotate_left
       · simp only [Act.put, List.setIfInBounds_toArray, List.set_cons_zero, List.set_cons_succ, i64_w, i32_w]; rfl
       refine dr_pure 1 (some 18) HT (v := ?_) (a' := ?_) rfl rfl (by kernel_rfl) (fun _ _ _ h => h) (.inl ⟨by rfl, ?_⟩) ?_ ?_
       rotate_left
       · intro w'; go_simp; with_reducible rfl
       rotate_left
       · simp only [Act.put, List.setIfInBounds_toArray, List.set_cons_zero, List.set_cons_succ, i64_w, i32_w]; rfl
       refine dr_pure 2 (some 19) HT (v := ?_) (a' := ?_) rfl rfl (by kernel_rfl) (fun _ _ _ h => h) (.inl ⟨by rfl, ?_⟩) ?_ ?_
       rotate_left
       · intro w'; go_simp; with_reducible rfl
       rotate_left
       · simp only [Act.put, List.setIfInBounds_toArray, List.set_cons_zero, List.set_cons_succ, i64_w, i32_w]; rfl
       refine dr_take 3 (some 20) HT HH (v := ?_) (a' := ?_) rfl rfl (by kernel_rfl) (fun _ _ _ h => h) (.inl ⟨by rfl, ?_⟩) ?_ ?_
       rotate_left
       · rintro w' ⟨rs', HS'⟩; have e102003_0 := HS'.keepc e102003_0; have e102003_1 := HS'.keepc e102003_1; go_simp; with_reducible rfl
       rotate_left
       · simp only [Act.put, List.setIfInBounds_toArray, List.set_cons_zero, List.set_cons_succ, i64_w, i32_w]; rfl
       refine dr_pure 4 (some 21) HT (v := ?_) (a' := ?_) rfl rfl (by kernel_rfl) (fun _ _ _ h => h) (.inl ⟨by rfl, ?_⟩) ?_ ?_
       rotate_left
       · intro w'; go_simp; with_reducible rfl
       rotate_left
       · simp only [Act.put, List.setIfInBounds_toArray, List.set_cons_zero, List.set_cons_succ, i64_w, i32_w]; rfl
       refine dr_pure 5 (some 22) HT (v := ?_) (a' := ?_) rfl rfl (by kernel_rfl) (fun _ _ _ h => h) (.inl ⟨by rfl, ?_⟩) ?_ ?_
       rotate_left
       · intro w'; go_simp; with_reducible rfl
       rotate_left
       · simp only [Act.put, List.setIfInBounds_toArray, List.set_cons_zero, List.set_cons_succ, i64_w, i32_w]; rfl
       refine dr_pure 6 (some 23) HT (v := ?_) (a' := ?_) rfl rfl (by kernel_rfl) (fun _ _ _ h => h) (.inl ⟨by rfl, ?_⟩) ?_ ?_
       rotate_left
       · intro w'; go_simp; with_reducible rfl
       rotate_left
       · simp only [Act.put, List.setIfInBounds_toArray, List.set_cons_zero, List.set_cons_succ, i64_w, i32_w]; rfl
       refine dr_take 7 (some 24) HT HH (v := ?_) (a' := ?_) rfl rfl (by kernel_rfl) (fun _ _ _ h => h) (.inl ⟨by rfl, ?_⟩) ?_ ?_
       rotate_left
       · rintro w' ⟨rs', HS'⟩; have e106002_0 := HS'.keepc e106002_0; have e106002_1 := HS'.keepc e106002_1; go_simp; with_reducible rfl
       rotate_left
       · simp only [Act.put, List.setIfInBounds_toArray, List.set_cons_zero, List.set_cons_succ, i64_w, i32_w]; rfl
       refine dr_one 8 HT rfl (by kernel_rfl) (by decide) (fun K hK => ?_)
       refine goes_ Try.func183 (by kernel_rfl) rfl #[.agg #[.int .i64 ((rd_T232 a0 x5).f0), .int .i64 ((rd_T232 a0 x5).f1)], .agg #[.int .i64 ((rd_T232 a1 x5).f0), .int .i64 ((rd_T232 a1 x5).f1)]] (by rfl) rfl rfl (by simp only [List.map_toArray, List.map_cons, List.map_nil]; rfl) ?_; refine (laws_eqRev.calls ht108001.out).mono ?_; rintro _ wt108001 ⟨rfl, HQ⟩; refine ⟨_, rfl, ?_⟩; replace HS := HS.call HQ; clear HQ; (try clear F)
       replace HS : Hp noFP w _ [] := HS
       refine hK.out _ _ ⟨_, HS⟩ (fun HH => ?_)
       clear hK K
       refine norm_ (a' := ?_) ?_ ?_
       rotate_left
       · show Act.put _ (some 25) _ = _; simp only [Act.put, List.setIfInBounds_toArray, List.set_cons_zero, List.set_cons_succ, i64_w, i32_w]; rfl
       refine dr_pure 9 (some 26) HT (v := ?_) (a' := ?_) rfl rfl (by kernel_rfl) (fun _ _ _ h => h) (.inl ⟨by rfl, ?_⟩) ?_ ?_
       rotate_left
       · intro w'; go_simp; with_reducible rfl
       rotate_left
       · simp only [Act.put, List.setIfInBounds_toArray, List.set_cons_zero, List.set_cons_succ, i64_w, i32_w]; rfl
       refine done_ (done_of HT.out (by kernel_rfl)) ?_
       by_cases c11 : t108001 = true
       · replace H := zpos c11 H
         (try simp only [c11, decide_true, decide_false, Bool.not_true, Bool.not_false])
         go_wp2
         go_roundg k4
         case measure => have := HKk4.out; omega
         case rel => exact ⟨_, rfl, H, ⟨by have := HKk4.out; omega⟩, HS.pick [] (by decide) (by rfl)⟩
       · replace H := zneg c11 H
         replace c11 := eq_false_of_ne_true c11
         (try simp only [c11, decide_true, decide_false, Bool.not_true, Bool.not_false])
         obtain rfl := zsome H
         go_wp2
         go_ret
         exact ⟨rfl, HS.pick [] (by decide) (by rfl)⟩
     · replace H := zneg c7 H
       replace c7 := eq_false c7
       obtain rfl := zsome H
       go_wp2
       go_ret
       exact ⟨rfl, HS.pick [] (by decide) (by rfl)⟩
 · replace H := zneg c1 H
   have c1a := beq_eq_false_iff_ne.mpr c1
   have c1b := bne_iff_ne.mpr c1
   clear c1
   obtain rfl := zsome H
   go_wp2
   go_ret
   exact ⟨rfl, HS.pick [] (by decide) (by rfl)⟩
/-! ### laws_eqCrl: function 159 -/
def laws_eqCrl.f (k : Nat) (a0 : S209) (a1 : S209) : Option (Bool) := (if a0.f0.toList = a1.f0.toList then (if a0.f1 = a1.f1 then (if a0.f2 = a1.f2 then (if a0.f3 = a1.f3 then (if a0.f4 = a1.f4 then ((laws_eqRevS.f k a0.f5 a1.f5).bind fun t10 => (if t10 = true then (if a0.f6.toList = a1.f6.toList then (some true) else (some false)) else (some false))) else (some false)) else (some false)) else (some false)) else (some false)) else (some false))
set_option maxHeartbeats 16000000 in
theorem laws_eqCrl.calls {k : Nat} {a0 : S209} {a1 : S209} {Ap0 : Option Addr} {np0 cp0 : Nat} {Ap1 : Option Addr} {np1 cp1 : Nat} {r : Bool} {w : World} (h : laws_eqCrl.f k a0 a1 = some r) (gp0 : k232.C w Ap0 np0 a0.f5) (lp0 : np0 ≤ cp0) (gp1 : k232.C w Ap1 np1 a1.f5) (lp1 : np1 ≤ cp1) :
    Calls Try.prog 159 #[.agg #[.string a0.f0, .int .i64 a0.f1, .int .i64 a0.f2, .int .i64 a0.f3, .int .i64 a0.f4, .slice Ap0 np0 cp0, .string a0.f6], .agg #[.string a1.f0, .int .i64 a1.f1, .int .i64 a1.f2, .int .i64 a1.f3, .int .i64 a1.f4, .slice Ap1 np1 cp1, .string a1.f6]] w (fun e w' => e = .returned (.bool r) ∧ Hp noFP w w' []) := by
 obtain rfl := C_len gp0
 obtain rfl := C_len gp1
 have HS := Hp.start w
 have H := Aside0.mk h
 clear h
 unfold laws_eqCrl.f at H
 go_enter Try.func159, Try.ntmps159
 go_upto_if 9 with (first | ((with_reducible refine gate_dst (N := 2) rfl ?_); refine ev_box rfl HS (by first | (go_simp; done) | (go_simp; rfl)) rfl ?_; clear HS; (try clear F); intro g2 w2 HS; replace HS : Hp noFP w _ [.box g2 [.string a0.f0, .int .i64 a0.f1, .int .i64 a0.f2, .int .i64 a0.f3, .int .i64 a0.f4, .slice Ap0 a0.f5.length cp0, .string a0.f6] 209] := HS; have F := HS.boxes; simp only [boxFacts, wrt, clr0, clr1, List.cons_append, List.nil_append, List.append_nil, List.set_cons_zero, List.set_cons_succ, and_true] at F) | ((with_reducible refine gate_dst (N := 3) rfl ?_); refine ev_box rfl HS (by first | (go_simp; done) | (go_simp; rfl)) rfl ?_; clear HS; (try clear F); intro g3 w3 HS; replace HS : Hp noFP w _ [.box g2 [.string a0.f0, .int .i64 a0.f1, .int .i64 a0.f2, .int .i64 a0.f3, .int .i64 a0.f4, .slice Ap0 a0.f5.length cp0, .string a0.f6] 209, .box g3 [.string a1.f0, .int .i64 a1.f1, .int .i64 a1.f2, .int .i64 a1.f3, .int .i64 a1.f4, .slice Ap1 a1.f5.length cp1, .string a1.f6] 209] := HS; have F := HS.boxes; simp only [boxFacts, wrt, clr0, clr1, List.cons_append, List.nil_append, List.append_nil, List.set_cons_zero, List.set_cons_succ, and_true] at F))
 by_cases c5 : a0.f0.toList = a1.f0.toList
 · replace H := zpos c5 H
   have c5a := beq_iff_eq.mpr c5
   have c5b := bne_eq_false_iff_eq.mpr c5
   clear c5
   (try simp only [c5a, c5b, decide_true, decide_false, Bool.not_true, Bool.not_false])
   by_cases c6 : a0.f1 = a1.f1
   · replace H := zpos c6 H
     have c6a := beq_iff_eq.mpr c6
     have c6b := bne_eq_false_iff_eq.mpr c6
     clear c6
     by_cases c7 : a0.f2 = a1.f2
     · replace H := zpos c7 H
       have c7a := beq_iff_eq.mpr c7
       have c7b := bne_eq_false_iff_eq.mpr c7
       clear c7
       by_cases c8 : a0.f3 = a1.f3
       · replace H := zpos c8 H
         have c8a := beq_iff_eq.mpr c8
         have c8b := bne_eq_false_iff_eq.mpr c8
         clear c8
         by_cases c9 : a0.f4 = a1.f4
         · replace H := zpos c9 H
           have c9a := beq_iff_eq.mpr c9
           have c9b := bne_eq_false_iff_eq.mpr c9
           clear c9
           obtain ⟨t10, ht10, H⟩ := zbind H
           go_upto_if 35 with (first | ((with_reducible refine gate_dst (N := 34) rfl ?_); refine ev_call rfl Try.func176 (by kernel_rfl) rfl #[.slice Ap0 a0.f5.length cp0, .slice Ap1 a1.f5.length cp1] rfl (by simp only [List.map_toArray, List.map_cons, List.map_nil]; rfl) ?_; refine (laws_eqRevS.calls ht10.out (HS.ro gp0) lp0 (HS.ro gp1) lp1).mono ?_; rintro _ wt10 ⟨rfl, HQ⟩; refine ⟨_, rfl, ?_⟩; replace HS := HS.call HQ; clear HQ; (try clear F); replace HS : Hp noFP w _ [.box g2 [.string a0.f0, .int .i64 a0.f1, .int .i64 a0.f2, .int .i64 a0.f3, .int .i64 a0.f4, .slice Ap0 a0.f5.length cp0, .string a0.f6] 209, .box g3 [.string a1.f0, .int .i64 a1.f1, .int .i64 a1.f2, .int .i64 a1.f3, .int .i64 a1.f4, .slice Ap1 a1.f5.length cp1, .string a1.f6] 209] := HS; have F := HS.boxes; simp only [boxFacts, wrt, clr0, clr1, List.cons_append, List.nil_append, List.append_nil, List.set_cons_zero, List.set_cons_succ, and_true] at F))
           by_cases c12 : t10 = true
           · replace H := zpos c12 H
             (try simp only [c12, decide_true, decide_false, Bool.not_true, Bool.not_false])
             by_cases c13 : a0.f6.toList = a1.f6.toList
             · replace H := zpos c13 H
               have c13a := beq_iff_eq.mpr c13
               have c13b := bne_eq_false_iff_eq.mpr c13
               clear c13
               obtain rfl := zsome H
               go_wp2
               go_ret
               exact ⟨rfl, HS.pick [] (by decide) (by rfl)⟩
             · replace H := zneg c13 H
               have c13a := beq_eq_false_iff_ne.mpr c13
               have c13b := bne_iff_ne.mpr c13
               clear c13
               obtain rfl := zsome H
               go_wp2
               go_ret
               exact ⟨rfl, HS.pick [] (by decide) (by rfl)⟩
           · replace H := zneg c12 H
             replace c12 := eq_false_of_ne_true c12
             (try simp only [c12, decide_true, decide_false, Bool.not_true, Bool.not_false])
             obtain rfl := zsome H
             go_wp2
             go_ret
             exact ⟨rfl, HS.pick [] (by decide) (by rfl)⟩
         · replace H := zneg c9 H
           have c9a := beq_eq_false_iff_ne.mpr c9
           have c9b := bne_iff_ne.mpr c9
           clear c9
           obtain rfl := zsome H
           go_wp2
           go_ret
           exact ⟨rfl, HS.pick [] (by decide) (by rfl)⟩
       · replace H := zneg c8 H
         have c8a := beq_eq_false_iff_ne.mpr c8
         have c8b := bne_iff_ne.mpr c8
         clear c8
         obtain rfl := zsome H
         go_wp2
         go_ret
         exact ⟨rfl, HS.pick [] (by decide) (by rfl)⟩
     · replace H := zneg c7 H
       have c7a := beq_eq_false_iff_ne.mpr c7
       have c7b := bne_iff_ne.mpr c7
       clear c7
       obtain rfl := zsome H
       go_wp2
       go_ret
       exact ⟨rfl, HS.pick [] (by decide) (by rfl)⟩
   · replace H := zneg c6 H
     have c6a := beq_eq_false_iff_ne.mpr c6
     have c6b := bne_iff_ne.mpr c6
     clear c6
     obtain rfl := zsome H
     go_wp2
     go_ret
     exact ⟨rfl, HS.pick [] (by decide) (by rfl)⟩
 · replace H := zneg c5 H
   have c5a := beq_eq_false_iff_ne.mpr c5
   have c5b := bne_iff_ne.mpr c5
   clear c5
   (try simp only [c5a, c5b, decide_true, decide_false, Bool.not_true, Bool.not_false])
   obtain rfl := zsome H
   go_wp2
   go_ret
   exact ⟨rfl, HS.pick [] (by decide) (by rfl)⟩
/-! ### laws_eqCrlS: function 108 -/
def laws_eqCrlS.l0 : Nat → Int → (List S209) → (List S209) → Option (Bool)
  | 0, _, _, _ => none
  | k + 1, x5, a0, a1 => (if x5 < (a0.length : Int) then (if 0 ≤ x5 then (if x5 < (a0.length : Int) then (if x5 < (a1.length : Int) then ((laws_eqCrl.f k (rd_T209 a0 x5) (rd_T209 a1 x5)).bind fun t108001 => (if t108001 = true then (laws_eqCrlS.l0 k (wrap64 (x5 + 1)) a0 a1) else (some false))) else none) else none) else none) else (some true))
def laws_eqCrlS.f (k : Nat) (a0 : (List S209)) (a1 : (List S209)) : Option (Bool) := (if (a0.length : Int) = (a1.length : Int) then (laws_eqCrlS.l0 k 0 a0 a1) else (some false))
def laws_eqCrlS.T6 : Bool × List (List Nat × List Nat) := (true, [([], []), ([], []), ([0, 1], [0, 1]), ([2], [2]), ([], []), ([], []), ([4, 5], [4, 5]), ([6], [6]), ([3, 7], [3, 7]), ([8], [8])])
theorem laws_eqCrlS.tT6 : rtab .any (opsOf Try.f108 6) = laws_eqCrlS.T6 := by kernel_rfl
set_option maxHeartbeats 16000000 in
theorem laws_eqCrlS.calls {k : Nat} {a0 : (List S209)} {a1 : (List S209)} {Ap0 : Option Addr} {np0 cp0 : Nat} {Ap1 : Option Addr} {np1 cp1 : Nat} {r : Bool} {w : World} (h : laws_eqCrlS.f k a0 a1 = some r) (gp0 : k209.C w Ap0 np0 a0) (lp0 : np0 ≤ cp0) (gp1 : k209.C w Ap1 np1 a1) (lp1 : np1 ≤ cp1) :
    Calls Try.prog 108 #[.slice Ap0 np0 cp0, .slice Ap1 np1 cp1] w (fun e w' => e = .returned (.bool r) ∧ Hp noFP w w' []) := by
 obtain rfl := C_len gp0
 obtain rfl := C_len gp1
 have HS := Hp.start w
 have H := Aside0.mk h
 clear h
 unfold laws_eqCrlS.f at H
 go_enter Try.func108, Try.ntmps108
 by_cases c1 : (a0.length : Int) = (a1.length : Int)
 · replace H := zpos c1 H
   have c1a := beq_iff_eq.mpr c1
   have c1b := bne_eq_false_iff_eq.mpr c1
   clear c1
   go_wp2
   go_loopg [5] k (fun kq v_5 w' => ∃ (x5 : Int), v_5 = .int .i64 x5 ∧ Aside0 (laws_eqCrlS.l0 kq x5 a0 a1 = some r) ∧ Aside0 (kq ≤ k) ∧ Hp noFP w w' [])
   case atStart => exact ⟨_, rfl, H, ⟨Nat.le_refl _⟩, HS⟩
   case round =>
    clear HS H; (try clear F)
    obtain ⟨x5, rfl, H, HKk4, HS⟩ := hrel
    cases gk with
    | zero => exact absurd H.out (by simp [laws_eqCrlS.l0])
    | succ k4 =>
     simp only [laws_eqCrlS.l0] at H
     by_cases c7 : x5 < (a0.length : Int)
     · replace H := zpos c7 H
       replace c7 := eq_true c7
       (try go_wp2)
       by_cases c102001 : 0 ≤ x5
       case neg => exact zno c102001 H
       replace H := zpos c102001 H
       replace c102001 := eq_true c102001
       by_cases c102002 : x5 < (a0.length : Int)
       case neg => exact zno c102002 H
       replace H := zpos c102002 H
       replace c102002 := eq_true c102002
       obtain ⟨ad102003, B102003_5, d102003_5, rfl, e102003_0, e102003_1, e102003_2, e102003_3, e102003_4, e102003_5, e102003_6, m102003_5, y102003_5⟩ := at_T209 gp0 x5 (of_eq_true c102001) (of_eq_true c102002)
       by_cases c106001 : x5 < (a1.length : Int)
       case neg => exact zno c106001 H
       replace H := zpos c106001 H
       replace c106001 := eq_true c106001
       obtain ⟨ad106002, B106002_5, d106002_5, rfl, e106002_0, e106002_1, e106002_2, e106002_3, e106002_4, e106002_5, e106002_6, m106002_5, y106002_5⟩ := at_T209 gp1 x5 (of_eq_true c102001) (of_eq_true c106001)
       obtain ⟨t108001, ht108001, H⟩ := zbind H
       refine dr_start [] HS #[false, false, false, false, false, false, false, false, false, false] (by kernel_rfl) rfl rfl laws_eqCrlS.tT6 (fun w9 HT HS HH => ?_)
       (try clear F)
       refine dr_pure 0 (some 17) HT (v := ?_) (a' := ?_) rfl rfl (by kernel_rfl) (fun _ _ _ h => h) (.inl ⟨by rfl, ?_⟩) ?_ ?_
       rotate_left
       · intro w'; go_simp; with_reducible rfl
       rotate_left
       · simp only [Act.put, List.setIfInBounds_toArray, List.set_cons_zero, List.set_cons_succ, i64_w, i32_w]; rfl
       refine dr_pure 1 (some 18) HT (v := ?_) (a' := ?_) rfl rfl (by kernel_rfl) (fun _ _ _ h => h) (.inl ⟨by rfl, ?_⟩) ?_ ?_
       rotate_left
       · intro w'; go_simp; with_reducible rfl
       rotate_left
       · simp only [Act.put, List.setIfInBounds_toArray, List.set_cons_zero, List.set_cons_succ, i64_w, i32_w]; rfl
       refine dr_pure 2 (some 19) HT (v := ?_) (a' := ?_) rfl rfl (by kernel_rfl) (fun _ _ _ h => h) (.inl ⟨by rfl, ?_⟩) ?_ ?_
       rotate_left
       · intro w'; go_simp; with_reducible rfl
       rotate_left
       · simp only [Act.put, List.setIfInBounds_toArray, List.set_cons_zero, List.set_cons_succ, i64_w, i32_w]; rfl
       refine dr_take 3 (some 20) HT HH (v := ?_) (a' := ?_) rfl rfl (by kernel_rfl) (fun _ _ _ h => h) (.inl ⟨by rfl, ?_⟩) ?_ ?_
       rotate_left
       · rintro w' ⟨rs', HS'⟩; have e102003_0 := HS'.keepc e102003_0; have e102003_1 := HS'.keepc e102003_1; have e102003_2 := HS'.keepc e102003_2; have e102003_3 := HS'.keepc e102003_3; have e102003_4 := HS'.keepc e102003_4; have e102003_5 := HS'.keepc e102003_5; have e102003_6 := HS'.keepc e102003_6; go_simp; with_reducible rfl
       rotate_left
       · simp only [Act.put, List.setIfInBounds_toArray, List.set_cons_zero, List.set_cons_succ, i64_w, i32_w]; rfl
       refine dr_pure 4 (some 21) HT (v := ?_) (a' := ?_) rfl rfl (by kernel_rfl) (fun _ _ _ h => h) (.inl ⟨by rfl, ?_⟩) ?_ ?_
       rotate_left
       · intro w'; go_simp; with_reducible rfl
       rotate_left
       · simp only [Act.put, List.setIfInBounds_toArray, List.set_cons_zero, List.set_cons_succ, i64_w, i32_w]; rfl
       refine dr_pure 5 (some 22) HT (v := ?_) (a' := ?_) rfl rfl (by kernel_rfl) (fun _ _ _ h => h) (.inl ⟨by rfl, ?_⟩) ?_ ?_
       rotate_left
       · intro w'; go_simp; with_reducible rfl
       rotate_left
       · simp only [Act.put, List.setIfInBounds_toArray, List.set_cons_zero, List.set_cons_succ, i64_w, i32_w]; rfl
       refine dr_pure 6 (some 23) HT (v := ?_) (a' := ?_) rfl rfl (by kernel_rfl) (fun _ _ _ h => h) (.inl ⟨by rfl, ?_⟩) ?_ ?_
       rotate_left
       · intro w'; go_simp; with_reducible rfl
       rotate_left
       · simp only [Act.put, List.setIfInBounds_toArray, List.set_cons_zero, List.set_cons_succ, i64_w, i32_w]; rfl
       refine dr_take 7 (some 24) HT HH (v := ?_) (a' := ?_) rfl rfl (by kernel_rfl) (fun _ _ _ h => h) (.inl ⟨by rfl, ?_⟩) ?_ ?_
       rotate_left
       · rintro w' ⟨rs', HS'⟩; have e106002_0 := HS'.keepc e106002_0; have e106002_1 := HS'.keepc e106002_1; have e106002_2 := HS'.keepc e106002_2; have e106002_3 := HS'.keepc e106002_3; have e106002_4 := HS'.keepc e106002_4; have e106002_5 := HS'.keepc e106002_5; have e106002_6 := HS'.keepc e106002_6; go_simp; with_reducible rfl
       rotate_left
       · simp only [Act.put, List.setIfInBounds_toArray, List.set_cons_zero, List.set_cons_succ, i64_w, i32_w]; rfl
       refine dr_one 8 HT rfl (by kernel_rfl) (by decide) (fun K hK => ?_)
       refine goes_ Try.func159 (by kernel_rfl) rfl #[.agg #[.string ((rd_T209 a0 x5).f0), .int .i64 ((rd_T209 a0 x5).f1), .int .i64 ((rd_T209 a0 x5).f2), .int .i64 ((rd_T209 a0 x5).f3), .int .i64 ((rd_T209 a0 x5).f4), .slice B102003_5 (rd_T209 a0 x5).f5.length d102003_5, .string ((rd_T209 a0 x5).f6)], .agg #[.string ((rd_T209 a1 x5).f0), .int .i64 ((rd_T209 a1 x5).f1), .int .i64 ((rd_T209 a1 x5).f2), .int .i64 ((rd_T209 a1 x5).f3), .int .i64 ((rd_T209 a1 x5).f4), .slice B106002_5 (rd_T209 a1 x5).f5.length d106002_5, .string ((rd_T209 a1 x5).f6)]] (by rfl) rfl rfl (by simp only [List.map_toArray, List.map_cons, List.map_nil]; rfl) ?_; refine (laws_eqCrl.calls ht108001.out (HS.ro y102003_5) m102003_5 (HS.ro y106002_5) m106002_5).mono ?_; rintro _ wt108001 ⟨rfl, HQ⟩; refine ⟨_, rfl, ?_⟩; replace HS := HS.call HQ; clear HQ; (try clear F)
       replace HS : Hp noFP w _ [] := HS
       refine hK.out _ _ ⟨_, HS⟩ (fun HH => ?_)
       clear hK K
       refine norm_ (a' := ?_) ?_ ?_
       rotate_left
       · show Act.put _ (some 25) _ = _; simp only [Act.put, List.setIfInBounds_toArray, List.set_cons_zero, List.set_cons_succ, i64_w, i32_w]; rfl
       refine dr_pure 9 (some 26) HT (v := ?_) (a' := ?_) rfl rfl (by kernel_rfl) (fun _ _ _ h => h) (.inl ⟨by rfl, ?_⟩) ?_ ?_
       rotate_left
       · intro w'; go_simp; with_reducible rfl
       rotate_left
       · simp only [Act.put, List.setIfInBounds_toArray, List.set_cons_zero, List.set_cons_succ, i64_w, i32_w]; rfl
       refine done_ (done_of HT.out (by kernel_rfl)) ?_
       by_cases c11 : t108001 = true
       · replace H := zpos c11 H
         (try simp only [c11, decide_true, decide_false, Bool.not_true, Bool.not_false])
         go_wp2
         go_roundg k4
         case measure => have := HKk4.out; omega
         case rel => exact ⟨_, rfl, H, ⟨by have := HKk4.out; omega⟩, HS.pick [] (by decide) (by rfl)⟩
       · replace H := zneg c11 H
         replace c11 := eq_false_of_ne_true c11
         (try simp only [c11, decide_true, decide_false, Bool.not_true, Bool.not_false])
         obtain rfl := zsome H
         go_wp2
         go_ret
         exact ⟨rfl, HS.pick [] (by decide) (by rfl)⟩
     · replace H := zneg c7 H
       replace c7 := eq_false c7
       obtain rfl := zsome H
       go_wp2
       go_ret
       exact ⟨rfl, HS.pick [] (by decide) (by rfl)⟩
 · replace H := zneg c1 H
   have c1a := beq_eq_false_iff_ne.mpr c1
   have c1b := bne_iff_ne.mpr c1
   clear c1
   obtain rfl := zsome H
   go_wp2
   go_ret
   exact ⟨rfl, HS.pick [] (by decide) (by rfl)⟩
/-! ### laws_eqAnchor: function 160 -/
def laws_eqAnchor.f (a0 : S211) (a1 : S211) : Option (Bool) := (if a0.f0.toList = a1.f0.toList then (if a0.f1.toList = a1.f1.toList then (some true) else (some false)) else (some false))
set_option maxHeartbeats 16000000 in
theorem laws_eqAnchor.calls {a0 : S211} {a1 : S211} {r : Bool} {w : World} (h : laws_eqAnchor.f a0 a1 = some r) :
    Calls Try.prog 160 #[.agg #[.string a0.f0, .string a0.f1], .agg #[.string a1.f0, .string a1.f1]] w (fun e w' => e = .returned (.bool r) ∧ Hp noFP w w' []) := by
 have HS := Hp.start w
 have H := Aside0.mk h
 clear h
 unfold laws_eqAnchor.f at H
 go_enter Try.func160, Try.ntmps160
 go_upto_if 9 with (first | ((with_reducible refine gate_dst (N := 2) rfl ?_); refine ev_box rfl HS (by first | (go_simp; done) | (go_simp; rfl)) rfl ?_; clear HS; (try clear F); intro g2 w2 HS; replace HS : Hp noFP w _ [.box g2 [.string a0.f0, .string a0.f1] 211] := HS; have F := HS.boxes; simp only [boxFacts, wrt, clr0, clr1, List.cons_append, List.nil_append, List.append_nil, List.set_cons_zero, List.set_cons_succ, and_true] at F) | ((with_reducible refine gate_dst (N := 3) rfl ?_); refine ev_box rfl HS (by first | (go_simp; done) | (go_simp; rfl)) rfl ?_; clear HS; (try clear F); intro g3 w3 HS; replace HS : Hp noFP w _ [.box g2 [.string a0.f0, .string a0.f1] 211, .box g3 [.string a1.f0, .string a1.f1] 211] := HS; have F := HS.boxes; simp only [boxFacts, wrt, clr0, clr1, List.cons_append, List.nil_append, List.append_nil, List.set_cons_zero, List.set_cons_succ, and_true] at F))
 by_cases c5 : a0.f0.toList = a1.f0.toList
 · replace H := zpos c5 H
   have c5a := beq_iff_eq.mpr c5
   have c5b := bne_eq_false_iff_eq.mpr c5
   clear c5
   (try simp only [c5a, c5b, decide_true, decide_false, Bool.not_true, Bool.not_false])
   by_cases c6 : a0.f1.toList = a1.f1.toList
   · replace H := zpos c6 H
     have c6a := beq_iff_eq.mpr c6
     have c6b := bne_eq_false_iff_eq.mpr c6
     clear c6
     obtain rfl := zsome H
     go_wp2
     go_ret
     exact ⟨rfl, HS.pick [] (by decide) (by rfl)⟩
   · replace H := zneg c6 H
     have c6a := beq_eq_false_iff_ne.mpr c6
     have c6b := bne_iff_ne.mpr c6
     clear c6
     obtain rfl := zsome H
     go_wp2
     go_ret
     exact ⟨rfl, HS.pick [] (by decide) (by rfl)⟩
 · replace H := zneg c5 H
   have c5a := beq_eq_false_iff_ne.mpr c5
   have c5b := bne_iff_ne.mpr c5
   clear c5
   (try simp only [c5a, c5b, decide_true, decide_false, Bool.not_true, Bool.not_false])
   obtain rfl := zsome H
   go_wp2
   go_ret
   exact ⟨rfl, HS.pick [] (by decide) (by rfl)⟩
end Go.Proofs.Ytdcjcanobiohnaa.F

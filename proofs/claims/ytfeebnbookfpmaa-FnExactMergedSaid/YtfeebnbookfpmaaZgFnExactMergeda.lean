/- Functions of the program and of the law, and that their calls do what is written here. -/
import Derived.Test.YtfeebnbookfpmaaZT
namespace Go.Proofs.Ytfeebnbookfpmaa.F
open Go.RowKit Go.Proofs.YtfeebnbookfpmaaW.PrintWords Go.Proofs.YtfeebnbookfpmaaW.PrintLast Go.Proofs.YtfeebnbookfpmaaW.PrintMore Go.Proofs.Ytfeebnbookfpmaa.Z
attribute [local go_sem] max2_int min2_int max_two min_two max_three min_three max_four min_four
set_option linter.unusedVariables false
set_option linter.unusedSimpArgs false
set_option maxRecDepth 100000
/-! ### laws_eqIntS: function 80 -/
def laws_eqIntS.l0 : Nat → Int → (List Int) → (List Int) → Option (Bool)
  | 0, _, _, _ => none
  | k + 1, x5, a0, a1 => (if x5 < (a0.length : Int) then (if 0 ≤ x5 then (if x5 < (a0.length : Int) then (if x5 < (a1.length : Int) then (if (rd a0 x5) = (rd a1 x5) then (laws_eqIntS.l0 k (wrap64 (x5 + 1)) a0 a1) else (some false)) else none) else none) else none) else (some true))
def laws_eqIntS.f (k : Nat) (a0 : (List Int)) (a1 : (List Int)) : Option (Bool) := (if (a0.length : Int) = (a1.length : Int) then (laws_eqIntS.l0 k 0 a0 a1) else (some false))
def laws_eqIntS.T6 : Bool × List (List Nat × List Nat) := (true, [([], []), ([], []), ([0, 1], [0, 1]), ([2], [2]), ([], []), ([], []), ([4, 5], [4, 5]), ([6], [6]), ([3, 7], [3, 7])])
theorem laws_eqIntS.tT6 : rtab .any (opsOf Try.f80 6) = laws_eqIntS.T6 := by kernel_rfl
set_option maxHeartbeats 16000000 in
theorem laws_eqIntS.calls {k : Nat} {a0 : (List Int)} {a1 : (List Int)} {Ap0 : Option Addr} {np0 cp0 : Nat} {Ap1 : Option Addr} {np1 cp1 : Nat} {r : Bool} {w : World} (h : laws_eqIntS.f k a0 a1 = some r) (gp0 : (Kd.int .i64).C w Ap0 np0 a0) (lp0 : np0 ≤ cp0) (gp1 : (Kd.int .i64).C w Ap1 np1 a1) (lp1 : np1 ≤ cp1) :
    Calls Try.prog 80 #[.slice Ap0 np0 cp0, .slice Ap1 np1 cp1] w (fun e w' => e = .returned (.bool r) ∧ Hp noFP w w' []) := by
 obtain rfl := C_len gp0
 obtain rfl := C_len gp1
 have HS := Hp.start w
 have H := Aside0.mk h
 clear h
 unfold laws_eqIntS.f at H
 go_enter Try.func80, Try.ntmps80
 by_cases c1 : (a0.length : Int) = (a1.length : Int)
 · replace H := zpos c1 H
   have c1a := beq_iff_eq.mpr c1
   have c1b := bne_eq_false_iff_eq.mpr c1
   clear c1
   go_wp2
   go_loopg [5] k (fun kq v_5 w' => ∃ (x5 : Int), v_5 = .int .i64 x5 ∧ Aside0 (laws_eqIntS.l0 kq x5 a0 a1 = some r) ∧ Aside0 (kq ≤ k) ∧ Hp noFP w w' [])
   case atStart => exact ⟨_, rfl, H, ⟨Nat.le_refl _⟩, HS⟩
   case round =>
    clear HS H; (try clear F)
    obtain ⟨x5, rfl, H, HKk4, HS⟩ := hrel
    cases gk with
    | zero => exact absurd H.out (by simp [laws_eqIntS.l0])
    | succ k4 =>
     simp only [laws_eqIntS.l0] at H
     by_cases c7 : x5 < (a0.length : Int)
     · replace H := zpos c7 H
       replace c7 := eq_true c7
       (try go_wp2)
       by_cases c102001 : 0 ≤ x5
       case neg => exact zno c102001 H
       replace H := zpos c102001 H
       replace c102001 := eq_true c102001
       by_cases c102002 : x5 < (a0.length : Int)
       case neg => exact zno c102002 H
       replace H := zpos c102002 H
       replace c102002 := eq_true c102002
       obtain ⟨ad102003, rfl, e102003_0⟩ := Kd.at_int gp0 x5 (of_eq_true c102001) (of_eq_true c102002)
       by_cases c106001 : x5 < (a1.length : Int)
       case neg => exact zno c106001 H
       replace H := zpos c106001 H
       replace c106001 := eq_true c106001
       obtain ⟨ad106002, rfl, e106002_0⟩ := Kd.at_int gp1 x5 (of_eq_true c102001) (of_eq_true c106001)
       refine dr_start [] HS #[false, false, false, false, false, false, false, false, false] (by kernel_rfl) rfl rfl laws_eqIntS.tT6 (fun w9 HT HS HH => ?_)
       (try clear F)
       refine dr_pure 0 (some 17) HT (v := ?_) (a' := ?_) rfl rfl (by kernel_rfl) (fun _ _ _ h => h) (.inl ⟨by rfl, ?_⟩) ?_ ?_
       rotate_left
       · intro w'; go_simp; with_reducible rfl
       rotate_left
       · simp only [Act.put, List.setIfInBounds_toArray, List.set_cons_zero, List.set_cons_succ, i64_w, i32_w]; rfl
       refine dr_pure 1 (some 18) HT (v := ?_) (a' := ?_) rfl rfl (by kernel_rfl) (fun _ _ _ h => h) (.inl ⟨by rfl, ?_⟩) ?_ ?_
       rotate_left
       · intro w'; go_simp; with_reducible rfl
       rotate_left
       · simp only [Act.put, List.setIfInBounds_toArray, List.set_cons_zero, List.set_cons_succ, i64_w, i32_w]; rfl
       refine dr_pure 2 (some 19) HT (v := ?_) (a' := ?_) rfl rfl (by kernel_rfl) (fun _ _ _ h => h) (.inl ⟨by rfl, ?_⟩) ?_ ?_
       rotate_left
       · intro w'; go_simp; with_reducible rfl
       rotate_left
       · simp only [Act.put, List.setIfInBounds_toArray, List.set_cons_zero, List.set_cons_succ, i64_w, i32_w]; rfl
       refine dr_take 3 (some 20) HT HH (v := ?_) (a' := ?_) rfl rfl (by kernel_rfl) (fun _ _ _ h => h) (.inl ⟨by rfl, ?_⟩) ?_ ?_
       rotate_left
       · rintro w' ⟨rs', HS'⟩; have e102003_0 := HS'.keepc e102003_0; go_simp; with_reducible rfl
       rotate_left
       · simp only [Act.put, List.setIfInBounds_toArray, List.set_cons_zero, List.set_cons_succ, i64_w, i32_w]; rfl
       refine dr_pure 4 (some 21) HT (v := ?_) (a' := ?_) rfl rfl (by kernel_rfl) (fun _ _ _ h => h) (.inl ⟨by rfl, ?_⟩) ?_ ?_
       rotate_left
       · intro w'; go_simp; with_reducible rfl
       rotate_left
       · simp only [Act.put, List.setIfInBounds_toArray, List.set_cons_zero, List.set_cons_succ, i64_w, i32_w]; rfl
       refine dr_pure 5 (some 22) HT (v := ?_) (a' := ?_) rfl rfl (by kernel_rfl) (fun _ _ _ h => h) (.inl ⟨by rfl, ?_⟩) ?_ ?_
       rotate_left
       · intro w'; go_simp; with_reducible rfl
       rotate_left
       · simp only [Act.put, List.setIfInBounds_toArray, List.set_cons_zero, List.set_cons_succ, i64_w, i32_w]; rfl
       refine dr_pure 6 (some 23) HT (v := ?_) (a' := ?_) rfl rfl (by kernel_rfl) (fun _ _ _ h => h) (.inl ⟨by rfl, ?_⟩) ?_ ?_
       rotate_left
       · intro w'; go_simp; with_reducible rfl
       rotate_left
       · simp only [Act.put, List.setIfInBounds_toArray, List.set_cons_zero, List.set_cons_succ, i64_w, i32_w]; rfl
       refine dr_take 7 (some 24) HT HH (v := ?_) (a' := ?_) rfl rfl (by kernel_rfl) (fun _ _ _ h => h) (.inl ⟨by rfl, ?_⟩) ?_ ?_
       rotate_left
       · rintro w' ⟨rs', HS'⟩; have e106002_0 := HS'.keepc e106002_0; go_simp; with_reducible rfl
       rotate_left
       · simp only [Act.put, List.setIfInBounds_toArray, List.set_cons_zero, List.set_cons_succ, i64_w, i32_w]; rfl
       refine dr_pure 8 (some 25) HT (v := ?_) (a' := ?_) rfl rfl (by kernel_rfl) (fun _ _ _ h => h) (.inl ⟨by rfl, ?_⟩) ?_ ?_
       rotate_left
       · intro w'; go_simp; with_reducible rfl
       rotate_left
       · simp only [Act.put, List.setIfInBounds_toArray, List.set_cons_zero, List.set_cons_succ, i64_w, i32_w]; rfl
       refine done_ (done_of HT.out (by kernel_rfl)) ?_
       by_cases c11 : (rd a0 x5) = (rd a1 x5)
       · replace H := zpos c11 H
         have c11a := beq_iff_eq.mpr c11
         have c11b := bne_eq_false_iff_eq.mpr c11
         clear c11
         (try simp only [c11a, c11b, decide_true, decide_false, Bool.not_true, Bool.not_false])
         go_wp2
         go_roundg k4
         case measure => have := HKk4.out; omega
         case rel => exact ⟨_, rfl, H, ⟨by have := HKk4.out; omega⟩, HS.pick [] (by decide) (by rfl)⟩
       · replace H := zneg c11 H
         have c11a := beq_eq_false_iff_ne.mpr c11
         have c11b := bne_iff_ne.mpr c11
         clear c11
         (try simp only [c11a, c11b, decide_true, decide_false, Bool.not_true, Bool.not_false])
         obtain rfl := zsome H
         go_wp2
         go_ret
         exact ⟨rfl, HS.pick [] (by decide) (by rfl)⟩
     · replace H := zneg c7 H
       replace c7 := eq_false c7
       obtain rfl := zsome H
       go_wp2
       go_ret
       exact ⟨rfl, HS.pick [] (by decide) (by rfl)⟩
 · replace H := zneg c1 H
   have c1a := beq_eq_false_iff_ne.mpr c1
   have c1b := bne_iff_ne.mpr c1
   clear c1
   obtain rfl := zsome H
   go_wp2
   go_ret
   exact ⟨rfl, HS.pick [] (by decide) (by rfl)⟩
/-! ### laws_eqRules: function 23 -/
def laws_eqRules.f (k : Nat) (a0 : S34) (a1 : S34) : Option (Bool) := (if a0.f0 = a1.f0 then ((laws_eqIntS.f k a0.f1 a1.f1).bind fun t6 => (if t6 = true then (if a0.f2 = a1.f2 then (if a0.f3 = a1.f3 then (if a0.f4 = a1.f4 then (some true) else (some false)) else (some false)) else (some false)) else (some false))) else (some false))
set_option maxHeartbeats 16000000 in
theorem laws_eqRules.calls {k : Nat} {a0 : S34} {a1 : S34} {Ap0 : Option Addr} {np0 cp0 : Nat} {Ap1 : Option Addr} {np1 cp1 : Nat} {r : Bool} {w : World} (h : laws_eqRules.f k a0 a1 = some r) (gp0 : (Kd.int .i64).C w Ap0 np0 a0.f1) (lp0 : np0 ≤ cp0) (gp1 : (Kd.int .i64).C w Ap1 np1 a1.f1) (lp1 : np1 ≤ cp1) :
    Calls Try.prog 23 #[.agg #[.int .i64 a0.f0, .slice Ap0 np0 cp0, .bool a0.f2, .bool a0.f3, .int .i64 a0.f4], .agg #[.int .i64 a1.f0, .slice Ap1 np1 cp1, .bool a1.f2, .bool a1.f3, .int .i64 a1.f4]] w (fun e w' => e = .returned (.bool r) ∧ Hp noFP w w' []) := by
 obtain rfl := C_len gp0
 obtain rfl := C_len gp1
 have HS := Hp.start w
 have H := Aside0.mk h
 clear h
 unfold laws_eqRules.f at H
 go_enter Try.func23, Try.ntmps23
 go_upto_if 9 with (first | ((with_reducible refine gate_dst (N := 2) rfl ?_); refine ev_box rfl HS (by first | (go_simp; done) | (go_simp; rfl)) rfl ?_; clear HS; (try clear F); intro g2 w2 HS; replace HS : Hp noFP w _ [.box g2 [.int .i64 a0.f0, .slice Ap0 a0.f1.length cp0, .bool a0.f2, .bool a0.f3, .int .i64 a0.f4] 34] := HS; have F := HS.boxes; simp only [boxFacts, wrt, clr0, clr1, List.cons_append, List.nil_append, List.append_nil, List.set_cons_zero, List.set_cons_succ, and_true] at F) | ((with_reducible refine gate_dst (N := 3) rfl ?_); refine ev_box rfl HS (by first | (go_simp; done) | (go_simp; rfl)) rfl ?_; clear HS; (try clear F); intro g3 w3 HS; replace HS : Hp noFP w _ [.box g2 [.int .i64 a0.f0, .slice Ap0 a0.f1.length cp0, .bool a0.f2, .bool a0.f3, .int .i64 a0.f4] 34, .box g3 [.int .i64 a1.f0, .slice Ap1 a1.f1.length cp1, .bool a1.f2, .bool a1.f3, .int .i64 a1.f4] 34] := HS; have F := HS.boxes; simp only [boxFacts, wrt, clr0, clr1, List.cons_append, List.nil_append, List.append_nil, List.set_cons_zero, List.set_cons_succ, and_true] at F))
 by_cases c5 : a0.f0 = a1.f0
 · replace H := zpos c5 H
   have c5a := beq_iff_eq.mpr c5
   have c5b := bne_eq_false_iff_eq.mpr c5
   clear c5
   (try simp only [c5a, c5b, decide_true, decide_false, Bool.not_true, Bool.not_false])
   obtain ⟨t6, ht6, H⟩ := zbind H
   go_upto_if 15 with (first | ((with_reducible refine gate_dst (N := 14) rfl ?_); refine ev_call rfl Try.func80 (by kernel_rfl) rfl #[.slice Ap0 a0.f1.length cp0, .slice Ap1 a1.f1.length cp1] rfl (by simp only [List.map_toArray, List.map_cons, List.map_nil]; rfl) ?_; refine (laws_eqIntS.calls ht6.out (HS.ro gp0) lp0 (HS.ro gp1) lp1).mono ?_; rintro _ wt6 ⟨rfl, HQ⟩; refine ⟨_, rfl, ?_⟩; replace HS := HS.call HQ; clear HQ; (try clear F); replace HS : Hp noFP w _ [.box g2 [.int .i64 a0.f0, .slice Ap0 a0.f1.length cp0, .bool a0.f2, .bool a0.f3, .int .i64 a0.f4] 34, .box g3 [.int .i64 a1.f0, .slice Ap1 a1.f1.length cp1, .bool a1.f2, .bool a1.f3, .int .i64 a1.f4] 34] := HS; have F := HS.boxes; simp only [boxFacts, wrt, clr0, clr1, List.cons_append, List.nil_append, List.append_nil, List.set_cons_zero, List.set_cons_succ, and_true] at F))
   by_cases c8 : t6 = true
   · replace H := zpos c8 H
     (try simp only [c8, decide_true, decide_false, Bool.not_true, Bool.not_false])
     by_cases c9 : a0.f2 = a1.f2
     · replace H := zpos c9 H
       have c9a := beq_iff_eq.mpr c9
       have c9b := bne_eq_false_iff_eq.mpr c9
       clear c9
       by_cases c10 : a0.f3 = a1.f3
       · replace H := zpos c10 H
         have c10a := beq_iff_eq.mpr c10
         have c10b := bne_eq_false_iff_eq.mpr c10
         clear c10
         by_cases c11 : a0.f4 = a1.f4
         · replace H := zpos c11 H
           have c11a := beq_iff_eq.mpr c11
           have c11b := bne_eq_false_iff_eq.mpr c11
           clear c11
           obtain rfl := zsome H
           go_wp2
           go_ret
           exact ⟨rfl, HS.pick [] (by decide) (by rfl)⟩
         · replace H := zneg c11 H
           have c11a := beq_eq_false_iff_ne.mpr c11
           have c11b := bne_iff_ne.mpr c11
           clear c11
           obtain rfl := zsome H
           go_wp2
           go_ret
           exact ⟨rfl, HS.pick [] (by decide) (by rfl)⟩
       · replace H := zneg c10 H
         have c10a := beq_eq_false_iff_ne.mpr c10
         have c10b := bne_iff_ne.mpr c10
         clear c10
         obtain rfl := zsome H
         go_wp2
         go_ret
         exact ⟨rfl, HS.pick [] (by decide) (by rfl)⟩
     · replace H := zneg c9 H
       have c9a := beq_eq_false_iff_ne.mpr c9
       have c9b := bne_iff_ne.mpr c9
       clear c9
       obtain rfl := zsome H
       go_wp2
       go_ret
       exact ⟨rfl, HS.pick [] (by decide) (by rfl)⟩
   · replace H := zneg c8 H
     replace c8 := eq_false_of_ne_true c8
     (try simp only [c8, decide_true, decide_false, Bool.not_true, Bool.not_false])
     obtain rfl := zsome H
     go_wp2
     go_ret
     exact ⟨rfl, HS.pick [] (by decide) (by rfl)⟩
 · replace H := zneg c5 H
   have c5a := beq_eq_false_iff_ne.mpr c5
   have c5b := bne_iff_ne.mpr c5
   clear c5
   (try simp only [c5a, c5b, decide_true, decide_false, Bool.not_true, Bool.not_false])
   obtain rfl := zsome H
   go_wp2
   go_ret
   exact ⟨rfl, HS.pick [] (by decide) (by rfl)⟩
/-! ### laws_szStringS: function 81 -/
def laws_szStringS.l0 : Nat → Int → Int → (List ByteArray) → Option (Int)
  | 0, _, _, _ => none
  | k + 1, x9, x10, a0 => (if x10 < (a0.length : Int) then (if 0 ≤ x10 then (if x10 < (a0.length : Int) then (if (wrap64 (x9 - ((rdOf ByteArray.empty a0 x10).size : Int))) < 0 then (some (-1)) else (laws_szStringS.l0 k (wrap64 (x9 - ((rdOf ByteArray.empty a0 x10).size : Int))) (wrap64 (x10 + 1)) a0)) else none) else none) else (some x9))
def laws_szStringS.f (k : Nat) (a0 : (List ByteArray)) (a1 : Int) : Option (Int) := (if (wrap64 (a1 - (a0.length : Int))) < 0 then (some (-1)) else (laws_szStringS.l0 k (wrap64 (a1 - (a0.length : Int))) 0 a0))
set_option maxHeartbeats 16000000 in
theorem laws_szStringS.calls {k : Nat} {a0 : (List ByteArray)} {a1 : Int} {Ap0 : Option Addr} {np0 cp0 : Nat} {r : Int} {w : World} (h : laws_szStringS.f k a0 a1 = some r) (gp0 : Kd.string.C w Ap0 np0 a0) (lp0 : np0 ≤ cp0) :
    Calls Try.prog 81 #[.slice Ap0 np0 cp0, .int .i64 a1] w (fun e w' => e = .returned (.int .i64 r) ∧ Hp noFP w w' []) := by
 obtain rfl := C_len gp0
 have HS := Hp.start w
 have H := Aside0.mk h
 clear h
 unfold laws_szStringS.f at H
 go_enter Try.func81, Try.ntmps81
 by_cases c1 : (wrap64 (a1 - (a0.length : Int))) < 0
 · replace H := zpos c1 H
   replace c1 := eq_true c1
   obtain rfl := zsome H
   go_wp2
   go_ret
   exact ⟨rfl, HS.pick [] (by decide) (by rfl)⟩
 · replace H := zneg c1 H
   replace c1 := eq_false c1
   go_wp2
   go_loopg [1, 5] k (fun kq v_1 v_5 w' => ∃ (x9 : Int) (x10 : Int), v_1 = .int .i64 x9 ∧ v_5 = .int .i64 x10 ∧ Aside0 (laws_szStringS.l0 kq x9 x10 a0 = some r) ∧ Aside0 (kq ≤ k) ∧ Hp noFP w w' [])
   case atStart => exact ⟨_, _, rfl, rfl, H, ⟨Nat.le_refl _⟩, HS⟩
   case round =>
    clear HS H; (try clear F)
    obtain ⟨x9, x10, rfl, rfl, H, HKk8, HS⟩ := hrel
    cases gk with
    | zero => exact absurd H.out (by simp [laws_szStringS.l0])
    | succ k8 =>
     simp only [laws_szStringS.l0] at H
     by_cases c12 : x10 < (a0.length : Int)
     · replace H := zpos c12 H
       replace c12 := eq_true c12
       by_cases c13 : 0 ≤ x10
       case neg => exact zno c13 H
       replace H := zpos c13 H
       replace c13 := eq_true c13
       by_cases c14 : x10 < (a0.length : Int)
       case neg => exact zno c14 H
       replace H := zpos c14 H
       replace c14 := eq_true c14
       obtain ⟨ad15, rfl, e15_0⟩ := Kd.at_string gp0 x10 (of_eq_true c13) (of_eq_true c14)
       replace e15_0 := HS.keepc e15_0
       by_cases c16 : (wrap64 (x9 - ((rdOf ByteArray.empty a0 x10).size : Int))) < 0
       · replace H := zpos c16 H
         replace c16 := eq_true c16
         obtain rfl := zsome H
         go_wp2
         go_ret
         exact ⟨rfl, HS.pick [] (by decide) (by rfl)⟩
       · replace H := zneg c16 H
         replace c16 := eq_false c16
         go_wp2
         go_roundg k8
         case measure => have := HKk8.out; omega
         case rel => exact ⟨_, _, rfl, rfl, H, ⟨by have := HKk8.out; omega⟩, HS.pick [] (by decide) (by rfl)⟩
     · replace H := zneg c12 H
       replace c12 := eq_false c12
       obtain rfl := zsome H
       go_wp2
       go_ret
       exact ⟨rfl, HS.pick [] (by decide) (by rfl)⟩
/-! ### laws_szAsk: function 24 -/
def laws_szAsk.f (k : Nat) (a0 : S40) (a1 : Int) : Option (Int) := ((laws_szStringS.f k a0.f0 a1).bind fun t3 => (if t3 < 0 then (some (-1)) else (some t3)))
set_option maxHeartbeats 16000000 in
theorem laws_szAsk.calls {k : Nat} {a0 : S40} {a1 : Int} {Ap0 : Option Addr} {np0 cp0 : Nat} {r : Int} {w : World} (h : laws_szAsk.f k a0 a1 = some r) (gp0 : Kd.string.C w Ap0 np0 a0.f0) (lp0 : np0 ≤ cp0) :
    Calls Try.prog 24 #[.agg #[.slice Ap0 np0 cp0, .int .i64 a0.f1, .int .i64 a0.f2, .int .i64 a0.f3, .int .i64 a0.f4, .bool a0.f5], .int .i64 a1] w (fun e w' => e = .returned (.int .i64 r) ∧ Hp noFP w w' []) := by
 obtain rfl := C_len gp0
 have HS := Hp.start w
 have H := Aside0.mk h
 clear h
 unfold laws_szAsk.f at H
 go_enter Try.func24, Try.ntmps24
 obtain ⟨t3, ht3, H⟩ := zbind H
 go_upto_if 10 with (first | ((with_reducible refine gate_dst (N := 2) rfl ?_); refine ev_box rfl HS (by first | (go_simp; done) | (go_simp; rfl)) rfl ?_; clear HS; (try clear F); intro g2 w2 HS; replace HS : Hp noFP w _ [.box g2 [.slice Ap0 a0.f0.length cp0, .int .i64 a0.f1, .int .i64 a0.f2, .int .i64 a0.f3, .int .i64 a0.f4, .bool a0.f5] 40] := HS; have F := HS.boxes; simp only [boxFacts, wrt, clr0, clr1, List.cons_append, List.nil_append, List.append_nil, List.set_cons_zero, List.set_cons_succ, and_true] at F) | ((with_reducible refine gate_dst (N := 8) rfl ?_); refine ev_call rfl Try.func81 (by kernel_rfl) rfl #[.slice Ap0 a0.f0.length cp0, .int .i64 a1] rfl (by simp only [List.map_toArray, List.map_cons, List.map_nil]; rfl) ?_; refine (laws_szStringS.calls ht3.out (HS.ro gp0) lp0).mono ?_; rintro _ wt3 ⟨rfl, HQ⟩; refine ⟨_, rfl, ?_⟩; replace HS := HS.call HQ; clear HQ; (try clear F); replace HS : Hp noFP w _ [.box g2 [.slice Ap0 a0.f0.length cp0, .int .i64 a0.f1, .int .i64 a0.f2, .int .i64 a0.f3, .int .i64 a0.f4, .bool a0.f5] 40] := HS; have F := HS.boxes; simp only [boxFacts, wrt, clr0, clr1, List.cons_append, List.nil_append, List.append_nil, List.set_cons_zero, List.set_cons_succ, and_true] at F))
 by_cases c5 : t3 < 0
 · replace H := zpos c5 H
   replace c5 := eq_true c5
   (try simp only [c5, decide_true, decide_false, Bool.not_true, Bool.not_false])
   obtain rfl := zsome H
   go_wp2
   go_ret
   exact ⟨rfl, HS.pick [] (by decide) (by rfl)⟩
 · replace H := zneg c5 H
   replace c5 := eq_false c5
   (try simp only [c5, decide_true, decide_false, Bool.not_true, Bool.not_false])
   obtain rfl := zsome H
   go_wp2
   go_ret
   exact ⟨rfl, HS.pick [] (by decide) (by rfl)⟩
/-! ### laws_toStringS: function 82 -/
def laws_toStringS.l0 : Nat → (List ByteArray) → Int → (List ByteArray) → Option ((List ByteArray))
  | 0, _, _, _ => none
  | k + 1, l18, x20, a0 => (if x20 < (a0.length : Int) then (if 0 ≤ x20 then (if x20 < (a0.length : Int) then (laws_toStringS.l0 k (l18.set (x20).toNat (rdOf ByteArray.empty a0 x20)) (wrap64 (x20 + 1)) a0) else none) else none) else (some l18))
def laws_toStringS.f (k : Nat) (a0 : (List ByteArray)) : Option ((List ByteArray)) := (if 0 ≤ (a0.length : Int) then (if ((a0.length : Int)).toNat ≤ 17592186044416 then (laws_toStringS.l0 k (List.replicate a0.length (⟨#[]⟩ : ByteArray)) 0 a0) else none) else none)
set_option maxHeartbeats 16000000 in
theorem laws_toStringS.calls {k : Nat} {a0 : (List ByteArray)} {Ap0 : Option Addr} {np0 cp0 : Nat} {r : (List ByteArray)} {w : World} (h : laws_toStringS.f k a0 = some r) (gp0 : Kd.string.C w Ap0 np0 a0) (lp0 : np0 ≤ cp0) :
    Calls Try.prog 82 #[.slice Ap0 np0 cp0] w (fun e w' => ∃ v0_ : Value, e = .returned (v0_) ∧ Hp noFP w w' [.own (Zd.slice 9 Zd.string) r [v0_]]) := by
 obtain rfl := C_len gp0
 have HS := Hp.start w
 have H := Aside0.mk h
 clear h
 unfold laws_toStringS.f at H
 go_enter Try.func82, Try.ntmps82
 by_cases c1 : 0 ≤ (a0.length : Int)
 case neg => exact zno c1 H
 replace H := zpos c1 H
 replace c1 := eq_true c1
 by_cases c2 : ((a0.length : Int)).toNat ≤ 17592186044416
 case neg => exact zno c2 H
 replace H := zpos c2 H
 replace c2 := eq_true c2
 go_wp2_with (first | ((with_reducible refine gate_dst (N := 7) rfl ?_); refine ev_make rfl Zd.string (⟨#[]⟩ : ByteArray) HS rfl (a0.length : Int) rfl rfl Try.underlying38 info9 rfl (by decide) (by decide) (fun _ _ => rfl) (of_eq_true c1) (by have := of_eq_true c2; omega) ?_; clear HS; (try clear F); intro v3 w3 HS; obtain ⟨B3, d3, rfl, m3⟩ := HS.formn a0.length 0 rfl (by first | rfl | simp); replace HS : Hp noFP w _ [.own (Zd.slice 9 Zd.string) (List.replicate a0.length (⟨#[]⟩ : ByteArray)) [.slice B3 a0.length d3]] := HS))
 go_loopg [4] k (fun kq v_4 w' => ∃ (l18 : List ByteArray) (x20 : Int), v_4 = .int .i64 x20 ∧ Aside0 (laws_toStringS.l0 kq l18 x20 a0 = some r) ∧ Aside0 (kq ≤ k) ∧ Hp noFP w w' [.own (Zd.slice 9 Zd.string) l18 [.slice B3 a0.length d3]])
 case atStart => exact ⟨_, _, rfl, H, ⟨Nat.le_refl _⟩, HS⟩
 case round =>
  clear HS H; (try clear F)
  obtain ⟨l18, x20, rfl, H, HKk17, HS⟩ := hrel
  cases gk with
  | zero => exact absurd H.out (by simp [laws_toStringS.l0])
  | succ k17 =>
   simp only [laws_toStringS.l0] at H
   by_cases c22 : x20 < (a0.length : Int)
   · replace H := zpos c22 H
     replace c22 := eq_true c22
     by_cases c23 : 0 ≤ x20
     case neg => exact zno c23 H
     replace H := zpos c23 H
     replace c23 := eq_true c23
     by_cases c24 : x20 < (a0.length : Int)
     case neg => exact zno c24 H
     replace H := zpos c24 H
     replace c24 := eq_true c24
     obtain ⟨ad25, rfl, e25_0⟩ := Kd.at_string gp0 x20 (of_eq_true c23) (of_eq_true c24)
     replace e25_0 := HS.keepc e25_0
     obtain ⟨ad26, rfl, e26_0⟩ := Kd.at_string (HS.rd 0 rfl) x20 (of_eq_true c23) (of_eq_true c24)
     go_wp2_with (first | ((with_reducible refine gate_store (p := 20) rfl ?_); refine ev_set rfl Zd.string 0 [] x20 (rdOf ByteArray.empty a0 x20) HS (seg := [.string (rdOf ByteArray.empty a0 x20)]) rfl (by decide) rfl rfl rfl (by first | rfl | exact (Nat.mul_one _).symm) rfl rfl (by kernel_rfl) (by simp [Value.oneCell']) ⟨of_eq_true c23, of_eq_true c24⟩ rfl (made_flat (fun _ => rfl)) ?_; clear HS; (try clear F); intro w27 HS; replace HS : Hp noFP w _ [.own (Zd.slice 9 Zd.string) (l18.set (x20).toNat (rdOf ByteArray.empty a0 x20)) [.slice (some ad26) a0.length d3]] := HS))
     go_roundg k17
     case measure => have := HKk17.out; omega
     case rel => exact ⟨_, _, rfl, H, ⟨by have := HKk17.out; omega⟩, HS.pick [0] (by decide) (by rfl)⟩
   · replace H := zneg c22 H
     replace c22 := eq_false c22
     obtain rfl := zsome H
     go_wp2
     exact bodyPost_ret (results_single rfl (.tmp .nil)) rfl ⟨_, rfl, HS.pick [0] (by decide) (by rfl)⟩
/-! ### laws_toAsk: function 26 -/
def laws_toAsk.f (k : Nat) (a0 : S40) : Option (S43) := ((laws_toStringS.f k a0.f0).bind fun t7 => (some (⟨t7, a0.f1, a0.f2, a0.f3, a0.f4, a0.f5⟩ : S43)))
set_option maxHeartbeats 16000000 in
theorem laws_toAsk.calls {k : Nat} {a0 : S40} {Ap0 : Option Addr} {np0 cp0 : Nat} {r : S43} {w : World} (h : laws_toAsk.f k a0 = some r) (gp0 : Kd.string.C w Ap0 np0 a0.f0) (lp0 : np0 ≤ cp0) :
    Calls Try.prog 26 #[.agg #[.slice Ap0 np0 cp0, .int .i64 a0.f1, .int .i64 a0.f2, .int .i64 a0.f3, .int .i64 a0.f4, .bool a0.f5]] w (fun e w' => ∃ v0_ : Value, e = .returned (.agg #[v0_, .int .i64 r.f1, .int .i64 r.f2, .int .i64 r.f3, .int .i64 r.f4, .bool r.f5]) ∧ Hp noFP w w' [.own (Zd.slice 9 Zd.string) r.f0 [v0_]]) := by
 obtain rfl := C_len gp0
 have HS := Hp.start w
 have H := Aside0.mk h
 clear h
 unfold laws_toAsk.f at H
 go_enter Try.func26, Try.ntmps26
 obtain ⟨t7, ht7, H⟩ := zbind H
 obtain rfl := zsome H
 go_wp2_with (first | ((with_reducible refine gate_dst (N := 1) rfl ?_); refine ev_box rfl HS (by first | (go_simp; done) | (go_simp; rfl)) rfl ?_; clear HS; (try clear F); intro g1 w1 HS; replace HS : Hp noFP w _ [.box g1 [.slice Ap0 a0.f0.length cp0, .int .i64 a0.f1, .int .i64 a0.f2, .int .i64 a0.f3, .int .i64 a0.f4, .bool a0.f5] 40] := HS; have F := HS.boxes; simp only [boxFacts, wrt, clr0, clr1, List.cons_append, List.nil_append, List.append_nil, List.set_cons_zero, List.set_cons_succ, and_true] at F) | ((with_reducible refine gate_dst (N := 2) rfl ?_); refine ev_box rfl HS (by first | (go_simp; done) | (go_simp; rfl)) rfl ?_; clear HS; (try clear F); intro g2 w2 HS; replace HS : Hp noFP w _ [.box g1 [.slice Ap0 a0.f0.length cp0, .int .i64 a0.f1, .int .i64 a0.f2, .int .i64 a0.f3, .int .i64 a0.f4, .bool a0.f5] 40, .box g2 [.slice none 0 0, .int .i64 0, .int .i64 0, .int .i64 0, .int .i64 0, .bool false] 43] := HS; have F := HS.boxes; simp only [boxFacts, wrt, clr0, clr1, List.cons_append, List.nil_append, List.append_nil, List.set_cons_zero, List.set_cons_succ, and_true] at F) | ((with_reducible refine gate_dst (N := 3) rfl ?_); refine ev_box rfl HS (by first | (go_simp; done) | (go_simp; rfl)) rfl ?_; clear HS; (try clear F); intro g3 w3 HS; replace HS : Hp noFP w _ [.box g1 [.slice Ap0 a0.f0.length cp0, .int .i64 a0.f1, .int .i64 a0.f2, .int .i64 a0.f3, .int .i64 a0.f4, .bool a0.f5] 40, .box g2 [.slice none 0 0, .int .i64 0, .int .i64 0, .int .i64 0, .int .i64 0, .bool false] 43, .box g3 [.slice none 0 0, .int .i64 0, .int .i64 0, .int .i64 0, .int .i64 0, .bool false] 43] := HS; have F := HS.boxes; simp only [boxFacts, wrt, clr0, clr1, List.cons_append, List.nil_append, List.append_nil, List.set_cons_zero, List.set_cons_succ, and_true] at F) | ((with_reducible refine gate_dst (N := 6) rfl ?_); refine ev_call rfl Try.func82 (by kernel_rfl) rfl #[.slice Ap0 a0.f0.length cp0] rfl (by simp only [List.map_toArray, List.map_cons, List.map_nil]; rfl) ?_; refine (laws_toStringS.calls ht7.out (HS.ro gp0) lp0).mono ?_; rintro _ wt7 ⟨v8, rfl, HQ⟩; refine ⟨_, rfl, ?_⟩; replace HS := HS.call HQ; clear HQ; (try clear F); obtain ⟨B8, d8, rfl, m8⟩ := HS.form 3 rfl; replace HS : Hp noFP w _ [.box g1 [.slice Ap0 a0.f0.length cp0, .int .i64 a0.f1, .int .i64 a0.f2, .int .i64 a0.f3, .int .i64 a0.f4, .bool a0.f5] 40, .box g2 [.slice none 0 0, .int .i64 0, .int .i64 0, .int .i64 0, .int .i64 0, .bool false] 43, .box g3 [.slice none 0 0, .int .i64 0, .int .i64 0, .int .i64 0, .int .i64 0, .bool false] 43, .own (Zd.slice 9 Zd.string) t7 [.slice B8 t7.length d8]] := HS; have F := HS.boxes; simp only [boxFacts, wrt, clr0, clr1, List.cons_append, List.nil_append, List.append_nil, List.set_cons_zero, List.set_cons_succ, and_true] at F) | ((with_reducible refine gate_store (p := 7) rfl ?_); refine ev_store rfl 2 0 HS (seg := [.slice B8 t7.length d8]) rfl rfl rfl rfl rfl rfl (by kernel_rfl) (by simp [wrt]) (by simp [Value.oneCell']) ?_; clear HS; (try clear F); intro w10 HS; replace HS : Hp noFP w _ [.box g1 [.slice Ap0 a0.f0.length cp0, .int .i64 a0.f1, .int .i64 a0.f2, .int .i64 a0.f3, .int .i64 a0.f4, .bool a0.f5] 40, .box g2 [.slice none 0 0, .int .i64 0, .int .i64 0, .int .i64 0, .int .i64 0, .bool false] 43, .box g3 [.slice B8 t7.length d8, .int .i64 0, .int .i64 0, .int .i64 0, .int .i64 0, .bool false] 43, .own (Zd.slice 9 Zd.string) t7 [.slice B8 t7.length d8]] := HS; have F := HS.boxes; simp only [boxFacts, wrt, clr0, clr1, List.cons_append, List.nil_append, List.append_nil, List.set_cons_zero, List.set_cons_succ, and_true] at F) | ((with_reducible refine gate_store (p := 10) rfl ?_); refine ev_store rfl 2 1 HS (seg := [.int .i64 a0.f1]) rfl rfl rfl rfl rfl rfl (by kernel_rfl) (by simp [wrt]) (by simp [Value.oneCell']) ?_; clear HS; (try clear F); intro w12 HS; replace HS : Hp noFP w _ [.box g1 [.slice Ap0 a0.f0.length cp0, .int .i64 a0.f1, .int .i64 a0.f2, .int .i64 a0.f3, .int .i64 a0.f4, .bool a0.f5] 40, .box g2 [.slice none 0 0, .int .i64 0, .int .i64 0, .int .i64 0, .int .i64 0, .bool false] 43, .box g3 [.slice B8 t7.length d8, .int .i64 a0.f1, .int .i64 0, .int .i64 0, .int .i64 0, .bool false] 43, .own (Zd.slice 9 Zd.string) t7 [.slice B8 t7.length d8]] := HS; have F := HS.boxes; simp only [boxFacts, wrt, clr0, clr1, List.cons_append, List.nil_append, List.append_nil, List.set_cons_zero, List.set_cons_succ, and_true] at F) | ((with_reducible refine gate_store (p := 13) rfl ?_); refine ev_store rfl 2 2 HS (seg := [.int .i64 a0.f2]) rfl rfl rfl rfl rfl rfl (by kernel_rfl) (by simp [wrt]) (by simp [Value.oneCell']) ?_; clear HS; (try clear F); intro w14 HS; replace HS : Hp noFP w _ [.box g1 [.slice Ap0 a0.f0.length cp0, .int .i64 a0.f1, .int .i64 a0.f2, .int .i64 a0.f3, .int .i64 a0.f4, .bool a0.f5] 40, .box g2 [.slice none 0 0, .int .i64 0, .int .i64 0, .int .i64 0, .int .i64 0, .bool false] 43, .box g3 [.slice B8 t7.length d8, .int .i64 a0.f1, .int .i64 a0.f2, .int .i64 0, .int .i64 0, .bool false] 43, .own (Zd.slice 9 Zd.string) t7 [.slice B8 t7.length d8]] := HS; have F := HS.boxes; simp only [boxFacts, wrt, clr0, clr1, List.cons_append, List.nil_append, List.append_nil, List.set_cons_zero, List.set_cons_succ, and_true] at F) | ((with_reducible refine gate_store (p := 16) rfl ?_); refine ev_store rfl 2 3 HS (seg := [.int .i64 a0.f3]) rfl rfl rfl rfl rfl rfl (by kernel_rfl) (by simp [wrt]) (by simp [Value.oneCell']) ?_; clear HS; (try clear F); intro w16 HS; replace HS : Hp noFP w _ [.box g1 [.slice Ap0 a0.f0.length cp0, .int .i64 a0.f1, .int .i64 a0.f2, .int .i64 a0.f3, .int .i64 a0.f4, .bool a0.f5] 40, .box g2 [.slice none 0 0, .int .i64 0, .int .i64 0, .int .i64 0, .int .i64 0, .bool false] 43, .box g3 [.slice B8 t7.length d8, .int .i64 a0.f1, .int .i64 a0.f2, .int .i64 a0.f3, .int .i64 0, .bool false] 43, .own (Zd.slice 9 Zd.string) t7 [.slice B8 t7.length d8]] := HS; have F := HS.boxes; simp only [boxFacts, wrt, clr0, clr1, List.cons_append, List.nil_append, List.append_nil, List.set_cons_zero, List.set_cons_succ, and_true] at F) | ((with_reducible refine gate_store (p := 19) rfl ?_); refine ev_store rfl 2 4 HS (seg := [.int .i64 a0.f4]) rfl rfl rfl rfl rfl rfl (by kernel_rfl) (by simp [wrt]) (by simp [Value.oneCell']) ?_; clear HS; (try clear F); intro w18 HS; replace HS : Hp noFP w _ [.box g1 [.slice Ap0 a0.f0.length cp0, .int .i64 a0.f1, .int .i64 a0.f2, .int .i64 a0.f3, .int .i64 a0.f4, .bool a0.f5] 40, .box g2 [.slice none 0 0, .int .i64 0, .int .i64 0, .int .i64 0, .int .i64 0, .bool false] 43, .box g3 [.slice B8 t7.length d8, .int .i64 a0.f1, .int .i64 a0.f2, .int .i64 a0.f3, .int .i64 a0.f4, .bool false] 43, .own (Zd.slice 9 Zd.string) t7 [.slice B8 t7.length d8]] := HS; have F := HS.boxes; simp only [boxFacts, wrt, clr0, clr1, List.cons_append, List.nil_append, List.append_nil, List.set_cons_zero, List.set_cons_succ, and_true] at F) | ((with_reducible refine gate_store (p := 22) rfl ?_); refine ev_store rfl 2 5 HS (seg := [.bool a0.f5]) rfl rfl rfl rfl rfl rfl (by kernel_rfl) (by simp [wrt]) (by simp [Value.oneCell']) ?_; clear HS; (try clear F); intro w20 HS; replace HS : Hp noFP w _ [.box g1 [.slice Ap0 a0.f0.length cp0, .int .i64 a0.f1, .int .i64 a0.f2, .int .i64 a0.f3, .int .i64 a0.f4, .bool a0.f5] 40, .box g2 [.slice none 0 0, .int .i64 0, .int .i64 0, .int .i64 0, .int .i64 0, .bool false] 43, .box g3 [.slice B8 t7.length d8, .int .i64 a0.f1, .int .i64 a0.f2, .int .i64 a0.f3, .int .i64 a0.f4, .bool a0.f5] 43, .own (Zd.slice 9 Zd.string) t7 [.slice B8 t7.length d8]] := HS; have F := HS.boxes; simp only [boxFacts, wrt, clr0, clr1, List.cons_append, List.nil_append, List.append_nil, List.set_cons_zero, List.set_cons_succ, and_true] at F) | ((with_reducible refine gate_store (p := 2) rfl ?_); refine ev_store rfl 1 0 HS (seg := [.slice B8 t7.length d8, .int .i64 a0.f1, .int .i64 a0.f2, .int .i64 a0.f3, .int .i64 a0.f4, .bool a0.f5]) rfl rfl rfl rfl rfl rfl (by kernel_rfl) (by simp [wrt]) (by simp [Value.oneCell']) ?_; clear HS; (try clear F); intro w22 HS; replace HS : Hp noFP w _ [.box g1 [.slice Ap0 a0.f0.length cp0, .int .i64 a0.f1, .int .i64 a0.f2, .int .i64 a0.f3, .int .i64 a0.f4, .bool a0.f5] 40, .box g2 [.slice B8 t7.length d8, .int .i64 a0.f1, .int .i64 a0.f2, .int .i64 a0.f3, .int .i64 a0.f4, .bool a0.f5] 43, .box g3 [.slice B8 t7.length d8, .int .i64 a0.f1, .int .i64 a0.f2, .int .i64 a0.f3, .int .i64 a0.f4, .bool a0.f5] 43, .own (Zd.slice 9 Zd.string) t7 [.slice B8 t7.length d8]] := HS; have F := HS.boxes; simp only [boxFacts, wrt, clr0, clr1, List.cons_append, List.nil_append, List.append_nil, List.set_cons_zero, List.set_cons_succ, and_true] at F))
 exact bodyPost_ret (results_single rfl (.cell _ _ _ _ _ rfl (HS.boxAt (i := 1) rfl) Try.underlying43 rfl (by kernel_rfl) .nil)) rfl ⟨_, rfl, HS.pick [3] (by decide) (by rfl)⟩
/-! ### laws_eqStringS: function 84 -/
def laws_eqStringS.l0 : Nat → Int → (List ByteArray) → (List ByteArray) → Option (Bool)
  | 0, _, _, _ => none
  | k + 1, x5, a0, a1 => (if x5 < (a0.length : Int) then (if 0 ≤ x5 then (if x5 < (a0.length : Int) then (if x5 < (a1.length : Int) then (if (rdOf ByteArray.empty a0 x5).toList = (rdOf ByteArray.empty a1 x5).toList then (laws_eqStringS.l0 k (wrap64 (x5 + 1)) a0 a1) else (some false)) else none) else none) else none) else (some true))
def laws_eqStringS.f (k : Nat) (a0 : (List ByteArray)) (a1 : (List ByteArray)) : Option (Bool) := (if (a0.length : Int) = (a1.length : Int) then (laws_eqStringS.l0 k 0 a0 a1) else (some false))
def laws_eqStringS.T6 : Bool × List (List Nat × List Nat) := (true, [([], []), ([], []), ([0, 1], [0, 1]), ([2], [2]), ([], []), ([], []), ([4, 5], [4, 5]), ([6], [6]), ([3, 7], [3, 7])])
theorem laws_eqStringS.tT6 : rtab .any (opsOf Try.f84 6) = laws_eqStringS.T6 := by kernel_rfl
set_option maxHeartbeats 16000000 in
theorem laws_eqStringS.calls {k : Nat} {a0 : (List ByteArray)} {a1 : (List ByteArray)} {Ap0 : Option Addr} {np0 cp0 : Nat} {Ap1 : Option Addr} {np1 cp1 : Nat} {r : Bool} {w : World} (h : laws_eqStringS.f k a0 a1 = some r) (gp0 : Kd.string.C w Ap0 np0 a0) (lp0 : np0 ≤ cp0) (gp1 : Kd.string.C w Ap1 np1 a1) (lp1 : np1 ≤ cp1) :
    Calls Try.prog 84 #[.slice Ap0 np0 cp0, .slice Ap1 np1 cp1] w (fun e w' => e = .returned (.bool r) ∧ Hp noFP w w' []) := by
 obtain rfl := C_len gp0
 obtain rfl := C_len gp1
 have HS := Hp.start w
 have H := Aside0.mk h
 clear h
 unfold laws_eqStringS.f at H
 go_enter Try.func84, Try.ntmps84
 by_cases c1 : (a0.length : Int) = (a1.length : Int)
 · replace H := zpos c1 H
   have c1a := beq_iff_eq.mpr c1
   have c1b := bne_eq_false_iff_eq.mpr c1
   clear c1
   go_wp2
   go_loopg [5] k (fun kq v_5 w' => ∃ (x5 : Int), v_5 = .int .i64 x5 ∧ Aside0 (laws_eqStringS.l0 kq x5 a0 a1 = some r) ∧ Aside0 (kq ≤ k) ∧ Hp noFP w w' [])
   case atStart => exact ⟨_, rfl, H, ⟨Nat.le_refl _⟩, HS⟩
   case round =>
    clear HS H; (try clear F)
    obtain ⟨x5, rfl, H, HKk4, HS⟩ := hrel
    cases gk with
    | zero => exact absurd H.out (by simp [laws_eqStringS.l0])
    | succ k4 =>
     simp only [laws_eqStringS.l0] at H
     by_cases c7 : x5 < (a0.length : Int)
     · replace H := zpos c7 H
       replace c7 := eq_true c7
       (try go_wp2)
       by_cases c102001 : 0 ≤ x5
       case neg => exact zno c102001 H
       replace H := zpos c102001 H
       replace c102001 := eq_true c102001
       by_cases c102002 : x5 < (a0.length : Int)
       case neg => exact zno c102002 H
       replace H := zpos c102002 H
       replace c102002 := eq_true c102002
       obtain ⟨ad102003, rfl, e102003_0⟩ := Kd.at_string gp0 x5 (of_eq_true c102001) (of_eq_true c102002)
       by_cases c106001 : x5 < (a1.length : Int)
       case neg => exact zno c106001 H
       replace H := zpos c106001 H
       replace c106001 := eq_true c106001
       obtain ⟨ad106002, rfl, e106002_0⟩ := Kd.at_string gp1 x5 (of_eq_true c102001) (of_eq_true c106001)
       refine dr_start [] HS #[false, false, false, false, false, false, false, false, false] (by kernel_rfl) rfl rfl laws_eqStringS.tT6 (fun w9 HT HS HH => ?_)
       (try clear F)
       refine dr_pure 0 (some 17) HT (v := ?_) (a' := ?_) rfl rfl (by kernel_rfl) (fun _ _ _ h => h) (.inl ⟨by rfl, ?_⟩) ?_ ?_
       rotate_left
       · intro w'; go_simp; with_reducible rfl
       rotate_left
       · simp only [Act.put, List.setIfInBounds_toArray, List.set_cons_zero, List.set_cons_succ, i64_w, i32_w]; rfl
       refine dr_pure 1 (some 18) HT (v := ?_) (a' := ?_) rfl rfl (by kernel_rfl) (fun _ _ _ h => h) (.inl ⟨by rfl, ?_⟩) ?_ ?_
       rotate_left
       · intro w'; go_simp; with_reducible rfl
       rotate_left
       · simp only [Act.put, List.setIfInBounds_toArray, List.set_cons_zero, List.set_cons_succ, i64_w, i32_w]; rfl
       refine dr_pure 2 (some 19) HT (v := ?_) (a' := ?_) rfl rfl (by kernel_rfl) (fun _ _ _ h => h) (.inl ⟨by rfl, ?_⟩) ?_ ?_
       rotate_left
       · intro w'; go_simp; with_reducible rfl
       rotate_left
       · simp only [Act.put, List.setIfInBounds_toArray, List.set_cons_zero, List.set_cons_succ, i64_w, i32_w]; rfl
       refine dr_take 3 (some 20) HT HH (v := ?_) (a' := ?_) rfl rfl (by kernel_rfl) (fun _ _ _ h => h) (.inl ⟨by rfl, ?_⟩) ?_ ?_
       rotate_left
       · rintro w' ⟨rs', HS'⟩; have e102003_0 := HS'.keepc e102003_0; go_simp; with_reducible rfl
       rotate_left
       · simp only [Act.put, List.setIfInBounds_toArray, List.set_cons_zero, List.set_cons_succ, i64_w, i32_w]; rfl
       refine dr_pure 4 (some 21) HT (v := ?_) (a' := ?_) rfl rfl (by kernel_rfl) (fun _ _ _ h => h) (.inl ⟨by rfl, ?_⟩) ?_ ?_
       rotate_left
       · intro w'; go_simp; with_reducible rfl
       rotate_left
       · simp only [Act.put, List.setIfInBounds_toArray, List.set_cons_zero, List.set_cons_succ, i64_w, i32_w]; rfl
       refine dr_pure 5 (some 22) HT (v := ?_) (a' := ?_) rfl rfl (by kernel_rfl) (fun _ _ _ h => h) (.inl ⟨by rfl, ?_⟩) ?_ ?_
       rotate_left
       · intro w'; go_simp; with_reducible rfl
       rotate_left
       · simp only [Act.put, List.setIfInBounds_toArray, List.set_cons_zero, List.set_cons_succ, i64_w, i32_w]; rfl
       refine dr_pure 6 (some 23) HT (v := ?_) (a' := ?_) rfl rfl (by kernel_rfl) (fun _ _ _ h => h) (.inl ⟨by rfl, ?_⟩) ?_ ?_
       rotate_left
       · intro w'; go_simp; with_reducible rfl
       rotate_left
       · simp only [Act.put, List.setIfInBounds_toArray, List.set_cons_zero, List.set_cons_succ, i64_w, i32_w]; rfl
       refine dr_take 7 (some 24) HT HH (v := ?_) (a' := ?_) rfl rfl (by kernel_rfl) (fun _ _ _ h => h) (.inl ⟨by rfl, ?_⟩) ?_ ?_
       rotate_left
       · rintro w' ⟨rs', HS'⟩; have e106002_0 := HS'.keepc e106002_0; go_simp; with_reducible rfl
       rotate_left
       · simp only [Act.put, List.setIfInBounds_toArray, List.set_cons_zero, List.set_cons_succ, i64_w, i32_w]; rfl
       refine dr_pure 8 (some 25) HT (v := ?_) (a' := ?_) rfl rfl (by kernel_rfl) (fun _ _ _ h => h) (.inl ⟨by rfl, ?_⟩) ?_ ?_
       rotate_left
       · intro w'; go_simp; with_reducible rfl
       rotate_left
       · simp only [Act.put, List.setIfInBounds_toArray, List.set_cons_zero, List.set_cons_succ, i64_w, i32_w]; rfl
       refine done_ (done_of HT.out (by kernel_rfl)) ?_
       by_cases c11 : (rdOf ByteArray.empty a0 x5).toList = (rdOf ByteArray.empty a1 x5).toList
       · replace H := zpos c11 H
         have c11a := beq_iff_eq.mpr c11
         have c11b := bne_eq_false_iff_eq.mpr c11
         clear c11
         (try simp only [c11a, c11b, decide_true, decide_false, Bool.not_true, Bool.not_false])
         go_wp2
         go_roundg k4
         case measure => have := HKk4.out; omega
         case rel => exact ⟨_, rfl, H, ⟨by have := HKk4.out; omega⟩, HS.pick [] (by decide) (by rfl)⟩
       · replace H := zneg c11 H
         have c11a := beq_eq_false_iff_ne.mpr c11
         have c11b := bne_iff_ne.mpr c11
         clear c11
         (try simp only [c11a, c11b, decide_true, decide_false, Bool.not_true, Bool.not_false])
         obtain rfl := zsome H
         go_wp2
         go_ret
         exact ⟨rfl, HS.pick [] (by decide) (by rfl)⟩
     · replace H := zneg c7 H
       replace c7 := eq_false c7
       obtain rfl := zsome H
       go_wp2
       go_ret
       exact ⟨rfl, HS.pick [] (by decide) (by rfl)⟩
 · replace H := zneg c1 H
   have c1a := beq_eq_false_iff_ne.mpr c1
   have c1b := bne_iff_ne.mpr c1
   clear c1
   obtain rfl := zsome H
   go_wp2
   go_ret
   exact ⟨rfl, HS.pick [] (by decide) (by rfl)⟩
/-! ### laws_eqAsk: function 28 -/
def laws_eqAsk.f (k : Nat) (a0 : S43) (a1 : S43) : Option (Bool) := ((laws_eqStringS.f k a0.f0 a1.f0).bind fun t5 => (if t5 = true then (if a0.f1 = a1.f1 then (if a0.f2 = a1.f2 then (if a0.f3 = a1.f3 then (if a0.f4 = a1.f4 then (if a0.f5 = a1.f5 then (some true) else (some false)) else (some false)) else (some false)) else (some false)) else (some false)) else (some false)))
set_option maxHeartbeats 16000000 in
theorem laws_eqAsk.calls {k : Nat} {a0 : S43} {a1 : S43} {Ap0 : Option Addr} {np0 cp0 : Nat} {Ap1 : Option Addr} {np1 cp1 : Nat} {r : Bool} {w : World} (h : laws_eqAsk.f k a0 a1 = some r) (gp0 : Kd.string.C w Ap0 np0 a0.f0) (lp0 : np0 ≤ cp0) (gp1 : Kd.string.C w Ap1 np1 a1.f0) (lp1 : np1 ≤ cp1) :
    Calls Try.prog 28 #[.agg #[.slice Ap0 np0 cp0, .int .i64 a0.f1, .int .i64 a0.f2, .int .i64 a0.f3, .int .i64 a0.f4, .bool a0.f5], .agg #[.slice Ap1 np1 cp1, .int .i64 a1.f1, .int .i64 a1.f2, .int .i64 a1.f3, .int .i64 a1.f4, .bool a1.f5]] w (fun e w' => e = .returned (.bool r) ∧ Hp noFP w w' []) := by
 obtain rfl := C_len gp0
 obtain rfl := C_len gp1
 have HS := Hp.start w
 have H := Aside0.mk h
 clear h
 unfold laws_eqAsk.f at H
 go_enter Try.func28, Try.ntmps28
 obtain ⟨t5, ht5, H⟩ := zbind H
 go_upto_if 10 with (first | ((with_reducible refine gate_dst (N := 2) rfl ?_); refine ev_box rfl HS (by first | (go_simp; done) | (go_simp; rfl)) rfl ?_; clear HS; (try clear F); intro g2 w2 HS; replace HS : Hp noFP w _ [.box g2 [.slice Ap0 a0.f0.length cp0, .int .i64 a0.f1, .int .i64 a0.f2, .int .i64 a0.f3, .int .i64 a0.f4, .bool a0.f5] 43] := HS; have F := HS.boxes; simp only [boxFacts, wrt, clr0, clr1, List.cons_append, List.nil_append, List.append_nil, List.set_cons_zero, List.set_cons_succ, and_true] at F) | ((with_reducible refine gate_dst (N := 3) rfl ?_); refine ev_box rfl HS (by first | (go_simp; done) | (go_simp; rfl)) rfl ?_; clear HS; (try clear F); intro g3 w3 HS; replace HS : Hp noFP w _ [.box g2 [.slice Ap0 a0.f0.length cp0, .int .i64 a0.f1, .int .i64 a0.f2, .int .i64 a0.f3, .int .i64 a0.f4, .bool a0.f5] 43, .box g3 [.slice Ap1 a1.f0.length cp1, .int .i64 a1.f1, .int .i64 a1.f2, .int .i64 a1.f3, .int .i64 a1.f4, .bool a1.f5] 43] := HS; have F := HS.boxes; simp only [boxFacts, wrt, clr0, clr1, List.cons_append, List.nil_append, List.append_nil, List.set_cons_zero, List.set_cons_succ, and_true] at F) | ((with_reducible refine gate_dst (N := 9) rfl ?_); refine ev_call rfl Try.func84 (by kernel_rfl) rfl #[.slice Ap0 a0.f0.length cp0, .slice Ap1 a1.f0.length cp1] rfl (by simp only [List.map_toArray, List.map_cons, List.map_nil]; rfl) ?_; refine (laws_eqStringS.calls ht5.out (HS.ro gp0) lp0 (HS.ro gp1) lp1).mono ?_; rintro _ wt5 ⟨rfl, HQ⟩; refine ⟨_, rfl, ?_⟩; replace HS := HS.call HQ; clear HQ; (try clear F); replace HS : Hp noFP w _ [.box g2 [.slice Ap0 a0.f0.length cp0, .int .i64 a0.f1, .int .i64 a0.f2, .int .i64 a0.f3, .int .i64 a0.f4, .bool a0.f5] 43, .box g3 [.slice Ap1 a1.f0.length cp1, .int .i64 a1.f1, .int .i64 a1.f2, .int .i64 a1.f3, .int .i64 a1.f4, .bool a1.f5] 43] := HS; have F := HS.boxes; simp only [boxFacts, wrt, clr0, clr1, List.cons_append, List.nil_append, List.append_nil, List.set_cons_zero, List.set_cons_succ, and_true] at F))
 by_cases c7 : t5 = true
 · replace H := zpos c7 H
   (try simp only [c7, decide_true, decide_false, Bool.not_true, Bool.not_false])
   by_cases c8 : a0.f1 = a1.f1
   · replace H := zpos c8 H
     have c8a := beq_iff_eq.mpr c8
     have c8b := bne_eq_false_iff_eq.mpr c8
     clear c8
     by_cases c9 : a0.f2 = a1.f2
     · replace H := zpos c9 H
       have c9a := beq_iff_eq.mpr c9
       have c9b := bne_eq_false_iff_eq.mpr c9
       clear c9
       by_cases c10 : a0.f3 = a1.f3
       · replace H := zpos c10 H
         have c10a := beq_iff_eq.mpr c10
         have c10b := bne_eq_false_iff_eq.mpr c10
         clear c10
         by_cases c11 : a0.f4 = a1.f4
         · replace H := zpos c11 H
           have c11a := beq_iff_eq.mpr c11
           have c11b := bne_eq_false_iff_eq.mpr c11
           clear c11
           by_cases c12 : a0.f5 = a1.f5
           · replace H := zpos c12 H
             have c12a := beq_iff_eq.mpr c12
             have c12b := bne_eq_false_iff_eq.mpr c12
             clear c12
             obtain rfl := zsome H
             go_wp2
             go_ret
             exact ⟨rfl, HS.pick [] (by decide) (by rfl)⟩
           · replace H := zneg c12 H
             have c12a := beq_eq_false_iff_ne.mpr c12
             have c12b := bne_iff_ne.mpr c12
             clear c12
             obtain rfl := zsome H
             go_wp2
             go_ret
             exact ⟨rfl, HS.pick [] (by decide) (by rfl)⟩
         · replace H := zneg c11 H
           have c11a := beq_eq_false_iff_ne.mpr c11
           have c11b := bne_iff_ne.mpr c11
           clear c11
           obtain rfl := zsome H
           go_wp2
           go_ret
           exact ⟨rfl, HS.pick [] (by decide) (by rfl)⟩
       · replace H := zneg c10 H
         have c10a := beq_eq_false_iff_ne.mpr c10
         have c10b := bne_iff_ne.mpr c10
         clear c10
         obtain rfl := zsome H
         go_wp2
         go_ret
         exact ⟨rfl, HS.pick [] (by decide) (by rfl)⟩
     · replace H := zneg c9 H
       have c9a := beq_eq_false_iff_ne.mpr c9
       have c9b := bne_iff_ne.mpr c9
       clear c9
       obtain rfl := zsome H
       go_wp2
       go_ret
       exact ⟨rfl, HS.pick [] (by decide) (by rfl)⟩
   · replace H := zneg c8 H
     have c8a := beq_eq_false_iff_ne.mpr c8
     have c8b := bne_iff_ne.mpr c8
     clear c8
     obtain rfl := zsome H
     go_wp2
     go_ret
     exact ⟨rfl, HS.pick [] (by decide) (by rfl)⟩
 · replace H := zneg c7 H
   replace c7 := eq_false_of_ne_true c7
   (try simp only [c7, decide_true, decide_false, Bool.not_true, Bool.not_false])
   obtain rfl := zsome H
   go_wp2
   go_ret
   exact ⟨rfl, HS.pick [] (by decide) (by rfl)⟩
/-! ### laws_szIntS: function 74 -/
def laws_szIntS.f (a0 : (List Int)) (a1 : Int) : Option (Int) := (if (wrap64 (a1 - (a0.length : Int))) < 0 then (some (-1)) else (some (wrap64 (a1 - (a0.length : Int)))))
set_option maxHeartbeats 16000000 in
theorem laws_szIntS.calls {a0 : (List Int)} {a1 : Int} {Ap0 : Option Addr} {np0 cp0 : Nat} {r : Int} {w : World} (h : laws_szIntS.f a0 a1 = some r) (gp0 : (Kd.int .i64).C w Ap0 np0 a0) (lp0 : np0 ≤ cp0) :
    Calls Try.prog 74 #[.slice Ap0 np0 cp0, .int .i64 a1] w (fun e w' => e = .returned (.int .i64 r) ∧ Hp noFP w w' []) := by
 obtain rfl := C_len gp0
 have HS := Hp.start w
 have H := Aside0.mk h
 clear h
 unfold laws_szIntS.f at H
 go_enter Try.func74, Try.ntmps74
 by_cases c1 : (wrap64 (a1 - (a0.length : Int))) < 0
 · replace H := zpos c1 H
   replace c1 := eq_true c1
   obtain rfl := zsome H
   go_wp2
   go_ret
   exact ⟨rfl, HS.pick [] (by decide) (by rfl)⟩
 · replace H := zneg c1 H
   replace c1 := eq_false c1
   obtain rfl := zsome H
   go_wp2
   go_ret
   exact ⟨rfl, HS.pick [] (by decide) (by rfl)⟩
/-! ### laws_szRules: function 19 -/
def laws_szRules.f (a0 : S31) (a1 : Int) : Option (Int) := ((laws_szIntS.f a0.f1 a1).bind fun t3 => (if t3 < 0 then (some (-1)) else (some t3)))
set_option maxHeartbeats 16000000 in
theorem laws_szRules.calls {a0 : S31} {a1 : Int} {Ap0 : Option Addr} {np0 cp0 : Nat} {r : Int} {w : World} (h : laws_szRules.f a0 a1 = some r) (gp0 : (Kd.int .i64).C w Ap0 np0 a0.f1) (lp0 : np0 ≤ cp0) :
    Calls Try.prog 19 #[.agg #[.int .i64 a0.f0, .slice Ap0 np0 cp0, .bool a0.f2, .bool a0.f3, .int .i64 a0.f4], .int .i64 a1] w (fun e w' => e = .returned (.int .i64 r) ∧ Hp noFP w w' []) := by
 obtain rfl := C_len gp0
 have HS := Hp.start w
 have H := Aside0.mk h
 clear h
 unfold laws_szRules.f at H
 go_enter Try.func19, Try.ntmps19
 obtain ⟨t3, ht3, H⟩ := zbind H
 go_upto_if 10 with (first | ((with_reducible refine gate_dst (N := 2) rfl ?_); refine ev_box rfl HS (by first | (go_simp; done) | (go_simp; rfl)) rfl ?_; clear HS; (try clear F); intro g2 w2 HS; replace HS : Hp noFP w _ [.box g2 [.int .i64 a0.f0, .slice Ap0 a0.f1.length cp0, .bool a0.f2, .bool a0.f3, .int .i64 a0.f4] 31] := HS; have F := HS.boxes; simp only [boxFacts, wrt, clr0, clr1, List.cons_append, List.nil_append, List.append_nil, List.set_cons_zero, List.set_cons_succ, and_true] at F) | ((with_reducible refine gate_dst (N := 8) rfl ?_); refine ev_call rfl Try.func74 (by kernel_rfl) rfl #[.slice Ap0 a0.f1.length cp0, .int .i64 a1] rfl (by simp only [List.map_toArray, List.map_cons, List.map_nil]; rfl) ?_; refine (laws_szIntS.calls ht3.out (HS.ro gp0) lp0).mono ?_; rintro _ wt3 ⟨rfl, HQ⟩; refine ⟨_, rfl, ?_⟩; replace HS := HS.call HQ; clear HQ; (try clear F); replace HS : Hp noFP w _ [.box g2 [.int .i64 a0.f0, .slice Ap0 a0.f1.length cp0, .bool a0.f2, .bool a0.f3, .int .i64 a0.f4] 31] := HS; have F := HS.boxes; simp only [boxFacts, wrt, clr0, clr1, List.cons_append, List.nil_append, List.append_nil, List.set_cons_zero, List.set_cons_succ, and_true] at F))
 by_cases c5 : t3 < 0
 · replace H := zpos c5 H
   replace c5 := eq_true c5
   (try simp only [c5, decide_true, decide_false, Bool.not_true, Bool.not_false])
   obtain rfl := zsome H
   go_wp2
   go_ret
   exact ⟨rfl, HS.pick [] (by decide) (by rfl)⟩
 · replace H := zneg c5 H
   replace c5 := eq_false c5
   (try simp only [c5, decide_true, decide_false, Bool.not_true, Bool.not_false])
   obtain rfl := zsome H
   go_wp2
   go_ret
   exact ⟨rfl, HS.pick [] (by decide) (by rfl)⟩
/-! ### laws_szPlan: function 59 -/
def laws_szPlan.f (a0 : S92) (a1 : Int) : Option (Int) := ((laws_szIntS.f a0.f1 a1).bind fun t3 => (if t3 < 0 then (some (-1)) else ((laws_szRules.f a0.f2 t3).bind fun t6 => (if t6 < 0 then (some (-1)) else (some t6)))))
set_option maxHeartbeats 16000000 in
theorem laws_szPlan.calls {a0 : S92} {a1 : Int} {Ap0 : Option Addr} {np0 cp0 : Nat} {Ap1 : Option Addr} {np1 cp1 : Nat} {r : Int} {w : World} (h : laws_szPlan.f a0 a1 = some r) (gp0 : (Kd.int .i64).C w Ap0 np0 a0.f1) (lp0 : np0 ≤ cp0) (gp1 : (Kd.int .i64).C w Ap1 np1 a0.f2.f1) (lp1 : np1 ≤ cp1) :
    Calls Try.prog 59 #[.agg #[.int .i64 a0.f0, .slice Ap0 np0 cp0, .int .i64 a0.f2.f0, .slice Ap1 np1 cp1, .bool a0.f2.f2, .bool a0.f2.f3, .int .i64 a0.f2.f4], .int .i64 a1] w (fun e w' => e = .returned (.int .i64 r) ∧ Hp noFP w w' []) := by
 obtain rfl := C_len gp0
 obtain rfl := C_len gp1
 have HS := Hp.start w
 have H := Aside0.mk h
 clear h
 unfold laws_szPlan.f at H
 go_enter Try.func59, Try.ntmps59
 obtain ⟨t3, ht3, H⟩ := zbind H
 go_upto_if 10 with (first | ((with_reducible refine gate_dst (N := 2) rfl ?_); refine ev_box rfl HS (by first | (go_simp; done) | (go_simp; rfl)) rfl ?_; clear HS; (try clear F); intro g2 w2 HS; replace HS : Hp noFP w _ [.box g2 [.int .i64 a0.f0, .slice Ap0 a0.f1.length cp0, .int .i64 a0.f2.f0, .slice Ap1 a0.f2.f1.length cp1, .bool a0.f2.f2, .bool a0.f2.f3, .int .i64 a0.f2.f4] 92] := HS; have F := HS.boxes; simp only [boxFacts, wrt, clr0, clr1, List.cons_append, List.nil_append, List.append_nil, List.set_cons_zero, List.set_cons_succ, and_true] at F) | ((with_reducible refine gate_dst (N := 8) rfl ?_); refine ev_call rfl Try.func74 (by kernel_rfl) rfl #[.slice Ap0 a0.f1.length cp0, .int .i64 a1] rfl (by simp only [List.map_toArray, List.map_cons, List.map_nil]; rfl) ?_; refine (laws_szIntS.calls ht3.out (HS.ro gp0) lp0).mono ?_; rintro _ wt3 ⟨rfl, HQ⟩; refine ⟨_, rfl, ?_⟩; replace HS := HS.call HQ; clear HQ; (try clear F); replace HS : Hp noFP w _ [.box g2 [.int .i64 a0.f0, .slice Ap0 a0.f1.length cp0, .int .i64 a0.f2.f0, .slice Ap1 a0.f2.f1.length cp1, .bool a0.f2.f2, .bool a0.f2.f3, .int .i64 a0.f2.f4] 92] := HS; have F := HS.boxes; simp only [boxFacts, wrt, clr0, clr1, List.cons_append, List.nil_append, List.append_nil, List.set_cons_zero, List.set_cons_succ, and_true] at F))
 by_cases c5 : t3 < 0
 · replace H := zpos c5 H
   replace c5 := eq_true c5
   (try simp only [c5, decide_true, decide_false, Bool.not_true, Bool.not_false])
   obtain rfl := zsome H
   go_wp2
   go_ret
   exact ⟨rfl, HS.pick [] (by decide) (by rfl)⟩
 · replace H := zneg c5 H
   replace c5 := eq_false c5
   (try simp only [c5, decide_true, decide_false, Bool.not_true, Bool.not_false])
   obtain ⟨t6, ht6, H⟩ := zbind H
   go_upto_if 16 with (first | ((with_reducible refine gate_dst (N := 14) rfl ?_); refine ev_call rfl Try.func19 (by kernel_rfl) rfl #[.agg #[.int .i64 a0.f2.f0, .slice Ap1 a0.f2.f1.length cp1, .bool a0.f2.f2, .bool a0.f2.f3, .int .i64 a0.f2.f4], .int .i64 t3] rfl (by simp only [List.map_toArray, List.map_cons, List.map_nil]; rfl) ?_; refine (laws_szRules.calls ht6.out (HS.ro gp1) lp1).mono ?_; rintro _ wt6 ⟨rfl, HQ⟩; refine ⟨_, rfl, ?_⟩; replace HS := HS.call HQ; clear HQ; (try clear F); replace HS : Hp noFP w _ [.box g2 [.int .i64 a0.f0, .slice Ap0 a0.f1.length cp0, .int .i64 a0.f2.f0, .slice Ap1 a0.f2.f1.length cp1, .bool a0.f2.f2, .bool a0.f2.f3, .int .i64 a0.f2.f4] 92] := HS; have F := HS.boxes; simp only [boxFacts, wrt, clr0, clr1, List.cons_append, List.nil_append, List.append_nil, List.set_cons_zero, List.set_cons_succ, and_true] at F))
   by_cases c8 : t6 < 0
   · replace H := zpos c8 H
     replace c8 := eq_true c8
     (try simp only [c8, decide_true, decide_false, Bool.not_true, Bool.not_false])
     obtain rfl := zsome H
     go_wp2
     go_ret
     exact ⟨rfl, HS.pick [] (by decide) (by rfl)⟩
   · replace H := zneg c8 H
     replace c8 := eq_false c8
     (try simp only [c8, decide_true, decide_false, Bool.not_true, Bool.not_false])
     obtain rfl := zsome H
     go_wp2
     go_ret
     exact ⟨rfl, HS.pick [] (by decide) (by rfl)⟩
/-! ### spec_Merged: function 60 -/
def spec_Merged.f (a0 : S96) (a1 : S43) (a2 : Int) : Option (S34) := (if 0 + a0.f2.f1.length ≤ 17592186044416 then (lets (([] : List Int) ++ a0.f2.f1) fun y14 => (if a1.f4 = 0 then (some (⟨a2, y14, a0.f2.f2, a0.f2.f3, a0.f2.f4⟩ : S34)) else (some (⟨a1.f4, y14, a0.f2.f2, a0.f2.f3, a0.f2.f4⟩ : S34)))) else none)
set_option maxHeartbeats 16000000 in
theorem spec_Merged.calls {a0 : S96} {a1 : S43} {a2 : Int} {Ap0 : Option Addr} {np0 cp0 : Nat} {Ap1 : Option Addr} {np1 cp1 : Nat} {Ap2 : Option Addr} {np2 cp2 : Nat} {r : S34} {w : World} (h : spec_Merged.f a0 a1 a2 = some r) (gp0 : (Kd.int .i64).C w Ap0 np0 a0.f1) (lp0 : np0 ≤ cp0) (gp1 : (Kd.int .i64).C w Ap1 np1 a0.f2.f1) (lp1 : np1 ≤ cp1) (gp2 : Kd.string.C w Ap2 np2 a1.f0) (lp2 : np2 ≤ cp2) :
    Calls Try.prog 60 #[.agg #[.int .i64 a0.f0, .slice Ap0 np0 cp0, .int .i64 a0.f2.f0, .slice Ap1 np1 cp1, .bool a0.f2.f2, .bool a0.f2.f3, .int .i64 a0.f2.f4], .agg #[.slice Ap2 np2 cp2, .int .i64 a1.f1, .int .i64 a1.f2, .int .i64 a1.f3, .int .i64 a1.f4, .bool a1.f5], .int .i64 a2] w (fun e w' => ∃ v0_ : Value, e = .returned (.agg #[.int .i64 r.f0, v0_, .bool r.f2, .bool r.f3, .int .i64 r.f4]) ∧ Hp noFP w w' [.own (Zd.slice 3 (Zd.int .i64)) r.f1 [v0_]]) := by
 obtain rfl := C_len gp0
 obtain rfl := C_len gp1
 obtain rfl := C_len gp2
 have HS := Hp.start w
 have H := Aside0.mk h
 clear h
 unfold spec_Merged.f at H
 go_enter Try.func60, Try.ntmps60
 by_cases c13 : 0 + a0.f2.f1.length ≤ 17592186044416
 case neg => exact zno c13 H
 replace H := zpos c13 H
 replace c13 := eq_true c13
 obtain ⟨y14, e_y14, H⟩ := zlets H
 go_upto_if 20 with (first | ((with_reducible refine gate_dst (N := 3) rfl ?_); refine ev_box rfl HS (by first | (go_simp; done) | (go_simp; rfl)) rfl ?_; clear HS; (try clear F); intro g3 w3 HS; replace HS : Hp noFP w _ [.box g3 [.int .i64 a0.f0, .slice Ap0 a0.f1.length cp0, .int .i64 a0.f2.f0, .slice Ap1 a0.f2.f1.length cp1, .bool a0.f2.f2, .bool a0.f2.f3, .int .i64 a0.f2.f4] 96] := HS; have F := HS.boxes; simp only [boxFacts, wrt, clr0, clr1, List.cons_append, List.nil_append, List.append_nil, List.set_cons_zero, List.set_cons_succ, and_true] at F) | ((with_reducible refine gate_dst (N := 4) rfl ?_); refine ev_box rfl HS (by first | (go_simp; done) | (go_simp; rfl)) rfl ?_; clear HS; (try clear F); intro g4 w4 HS; replace HS : Hp noFP w _ [.box g3 [.int .i64 a0.f0, .slice Ap0 a0.f1.length cp0, .int .i64 a0.f2.f0, .slice Ap1 a0.f2.f1.length cp1, .bool a0.f2.f2, .bool a0.f2.f3, .int .i64 a0.f2.f4] 96, .box g4 [.slice Ap2 a1.f0.length cp2, .int .i64 a1.f1, .int .i64 a1.f2, .int .i64 a1.f3, .int .i64 a1.f4, .bool a1.f5] 43] := HS; have F := HS.boxes; simp only [boxFacts, wrt, clr0, clr1, List.cons_append, List.nil_append, List.append_nil, List.set_cons_zero, List.set_cons_succ, and_true] at F) | ((with_reducible refine gate_dst (N := 6) rfl ?_); refine ev_box rfl HS (by first | (go_simp; done) | (go_simp; rfl)) rfl ?_; clear HS; (try clear F); intro g6 w6 HS; replace HS : Hp noFP w _ [.box g3 [.int .i64 a0.f0, .slice Ap0 a0.f1.length cp0, .int .i64 a0.f2.f0, .slice Ap1 a0.f2.f1.length cp1, .bool a0.f2.f2, .bool a0.f2.f3, .int .i64 a0.f2.f4] 96, .box g4 [.slice Ap2 a1.f0.length cp2, .int .i64 a1.f1, .int .i64 a1.f2, .int .i64 a1.f3, .int .i64 a1.f4, .bool a1.f5] 43, .box g6 [.int .i64 0, .slice none 0 0, .bool false, .bool false, .int .i64 0] 34] := HS; have F := HS.boxes; simp only [boxFacts, wrt, clr0, clr1, List.cons_append, List.nil_append, List.append_nil, List.set_cons_zero, List.set_cons_succ, and_true] at F) | ((with_reducible refine gate_dst (N := 7) rfl ?_); refine ev_box rfl HS (by first | (go_simp; done) | (go_simp; rfl)) rfl ?_; clear HS; (try clear F); intro g7 w7 HS; replace HS : Hp noFP w _ [.box g3 [.int .i64 a0.f0, .slice Ap0 a0.f1.length cp0, .int .i64 a0.f2.f0, .slice Ap1 a0.f2.f1.length cp1, .bool a0.f2.f2, .bool a0.f2.f3, .int .i64 a0.f2.f4] 96, .box g4 [.slice Ap2 a1.f0.length cp2, .int .i64 a1.f1, .int .i64 a1.f2, .int .i64 a1.f3, .int .i64 a1.f4, .bool a1.f5] 43, .box g6 [.int .i64 0, .slice none 0 0, .bool false, .bool false, .int .i64 0] 34, .box g7 [.int .i64 0, .slice none 0 0, .bool false, .bool false, .int .i64 0] 34] := HS; have F := HS.boxes; simp only [boxFacts, wrt, clr0, clr1, List.cons_append, List.nil_append, List.append_nil, List.set_cons_zero, List.set_cons_succ, and_true] at F) | ((with_reducible refine gate_store (p := 7) rfl ?_); refine ev_store rfl 3 0 HS (seg := [.int .i64 a0.f2.f0, .slice Ap1 a0.f2.f1.length cp1, .bool a0.f2.f2, .bool a0.f2.f3, .int .i64 a0.f2.f4]) rfl rfl rfl rfl rfl rfl (by kernel_rfl) (by simp [wrt]) (by simp [Value.oneCell']) ?_; clear HS; (try clear F); intro w9 HS; replace HS : Hp noFP w _ [.box g3 [.int .i64 a0.f0, .slice Ap0 a0.f1.length cp0, .int .i64 a0.f2.f0, .slice Ap1 a0.f2.f1.length cp1, .bool a0.f2.f2, .bool a0.f2.f3, .int .i64 a0.f2.f4] 96, .box g4 [.slice Ap2 a1.f0.length cp2, .int .i64 a1.f1, .int .i64 a1.f2, .int .i64 a1.f3, .int .i64 a1.f4, .bool a1.f5] 43, .box g6 [.int .i64 0, .slice none 0 0, .bool false, .bool false, .int .i64 0] 34, .box g7 [.int .i64 a0.f2.f0, .slice Ap1 a0.f2.f1.length cp1, .bool a0.f2.f2, .bool a0.f2.f3, .int .i64 a0.f2.f4] 34] := HS; have F := HS.boxes; simp only [boxFacts, wrt, clr0, clr1, List.cons_append, List.nil_append, List.append_nil, List.set_cons_zero, List.set_cons_succ, and_true] at F) | ((with_reducible refine gate_dst (N := 10) rfl ?_); refine ev_lit rfl (Zd.int .i64) [] ([] : List Int) [] HS (by first | (go_simp; done) | (go_simp; rfl)) rfl rfl (Nat.le_of_ble_eq_true rfl) MadeL.nil ?_; clear HS; (try clear F); intro v11 w11 HS; obtain ⟨B11, d11, rfl, m11⟩ := HS.formn 0 4 rfl rfl; replace HS : Hp noFP w _ [.box g3 [.int .i64 a0.f0, .slice Ap0 a0.f1.length cp0, .int .i64 a0.f2.f0, .slice Ap1 a0.f2.f1.length cp1, .bool a0.f2.f2, .bool a0.f2.f3, .int .i64 a0.f2.f4] 96, .box g4 [.slice Ap2 a1.f0.length cp2, .int .i64 a1.f1, .int .i64 a1.f2, .int .i64 a1.f3, .int .i64 a1.f4, .bool a1.f5] 43, .box g6 [.int .i64 0, .slice none 0 0, .bool false, .bool false, .int .i64 0] 34, .box g7 [.int .i64 a0.f2.f0, .slice Ap1 a0.f2.f1.length cp1, .bool a0.f2.f2, .bool a0.f2.f3, .int .i64 a0.f2.f4] 34, .own (Zd.slice 3 (Zd.int .i64)) ([] : List Int) [.slice B11 0 d11]] := HS; have F := HS.boxes; simp only [boxFacts, wrt, clr0, clr1, List.cons_append, List.nil_append, List.append_nil, List.set_cons_zero, List.set_cons_succ, and_true] at F) | ((with_reducible refine gate_dst (N := 14) rfl ?_); refine ev_appendr rfl (Zd.int .i64) (flat_int _) 4 HS rfl (HS.ro gp1) rfl rfl rfl Try.underlying29 info3 rfl (by decide) (by decide) (by have := of_eq_true c13; first | omega | (simp only [List.length_cons, List.length_nil, List.length_append, Nat.zero_add] at this ⊢; omega)) ?_; clear HS; (try clear F); intro v14 w14 HS; rw [← e_y14.out] at HS; obtain ⟨B14, d14, rfl, m14⟩ := HS.form 5 rfl; replace HS : Hp noFP w _ [.box g3 [.int .i64 a0.f0, .slice Ap0 a0.f1.length cp0, .int .i64 a0.f2.f0, .slice Ap1 a0.f2.f1.length cp1, .bool a0.f2.f2, .bool a0.f2.f3, .int .i64 a0.f2.f4] 96, .box g4 [.slice Ap2 a1.f0.length cp2, .int .i64 a1.f1, .int .i64 a1.f2, .int .i64 a1.f3, .int .i64 a1.f4, .bool a1.f5] 43, .box g6 [.int .i64 0, .slice none 0 0, .bool false, .bool false, .int .i64 0] 34, .box g7 [.int .i64 a0.f2.f0, .slice Ap1 a0.f2.f1.length cp1, .bool a0.f2.f2, .bool a0.f2.f3, .int .i64 a0.f2.f4] 34, .emp, .own (Zd.slice 3 (Zd.int .i64)) y14 [.slice B14 y14.length d14]] := HS; have F := HS.boxes; simp only [boxFacts, wrt, clr0, clr1, List.cons_append, List.nil_append, List.append_nil, List.set_cons_zero, List.set_cons_succ, and_true] at F) | ((with_reducible refine gate_store (p := 15) rfl ?_); refine ev_store rfl 3 1 HS (seg := [.slice B14 y14.length d14]) rfl rfl rfl rfl rfl rfl (by kernel_rfl) (by simp [wrt]) (by simp [Value.oneCell']) ?_; clear HS; (try clear F); intro w16 HS; replace HS : Hp noFP w _ [.box g3 [.int .i64 a0.f0, .slice Ap0 a0.f1.length cp0, .int .i64 a0.f2.f0, .slice Ap1 a0.f2.f1.length cp1, .bool a0.f2.f2, .bool a0.f2.f3, .int .i64 a0.f2.f4] 96, .box g4 [.slice Ap2 a1.f0.length cp2, .int .i64 a1.f1, .int .i64 a1.f2, .int .i64 a1.f3, .int .i64 a1.f4, .bool a1.f5] 43, .box g6 [.int .i64 0, .slice none 0 0, .bool false, .bool false, .int .i64 0] 34, .box g7 [.int .i64 a0.f2.f0, .slice B14 y14.length d14, .bool a0.f2.f2, .bool a0.f2.f3, .int .i64 a0.f2.f4] 34, .emp, .own (Zd.slice 3 (Zd.int .i64)) y14 [.slice B14 y14.length d14]] := HS; have F := HS.boxes; simp only [boxFacts, wrt, clr0, clr1, List.cons_append, List.nil_append, List.append_nil, List.set_cons_zero, List.set_cons_succ, and_true] at F) | ((with_reducible refine gate_store (p := 17) rfl ?_); refine ev_store rfl 3 0 HS (seg := [.int .i64 a2]) rfl rfl rfl rfl rfl rfl (by kernel_rfl) (by simp [wrt]) (by simp [Value.oneCell']) ?_; clear HS; (try clear F); intro w18 HS; replace HS : Hp noFP w _ [.box g3 [.int .i64 a0.f0, .slice Ap0 a0.f1.length cp0, .int .i64 a0.f2.f0, .slice Ap1 a0.f2.f1.length cp1, .bool a0.f2.f2, .bool a0.f2.f3, .int .i64 a0.f2.f4] 96, .box g4 [.slice Ap2 a1.f0.length cp2, .int .i64 a1.f1, .int .i64 a1.f2, .int .i64 a1.f3, .int .i64 a1.f4, .bool a1.f5] 43, .box g6 [.int .i64 0, .slice none 0 0, .bool false, .bool false, .int .i64 0] 34, .box g7 [.int .i64 a2, .slice B14 y14.length d14, .bool a0.f2.f2, .bool a0.f2.f3, .int .i64 a0.f2.f4] 34, .emp, .own (Zd.slice 3 (Zd.int .i64)) y14 [.slice B14 y14.length d14]] := HS; have F := HS.boxes; simp only [boxFacts, wrt, clr0, clr1, List.cons_append, List.nil_append, List.append_nil, List.set_cons_zero, List.set_cons_succ, and_true] at F))
 by_cases c20 : a1.f4 = 0
 · replace H := zpos c20 H
   have c20a := beq_iff_eq.mpr c20
   have c20b := bne_eq_false_iff_eq.mpr c20
   clear c20
   (try simp only [c20a, c20b, decide_true, decide_false, Bool.not_true, Bool.not_false])
   obtain rfl := zsome H
   go_wp2_with (first | ((with_reducible refine gate_store (p := 6) rfl ?_); refine ev_store rfl 2 0 HS (seg := [.int .i64 a2, .slice B14 y14.length d14, .bool a0.f2.f2, .bool a0.f2.f3, .int .i64 a0.f2.f4]) rfl rfl rfl rfl rfl rfl (by kernel_rfl) (by simp [wrt]) (by simp [Value.oneCell']) ?_; clear HS; (try clear F); intro w21 HS; replace HS : Hp noFP w _ [.box g3 [.int .i64 a0.f0, .slice Ap0 a0.f1.length cp0, .int .i64 a0.f2.f0, .slice Ap1 a0.f2.f1.length cp1, .bool a0.f2.f2, .bool a0.f2.f3, .int .i64 a0.f2.f4] 96, .box g4 [.slice Ap2 a1.f0.length cp2, .int .i64 a1.f1, .int .i64 a1.f2, .int .i64 a1.f3, .int .i64 a1.f4, .bool a1.f5] 43, .box g6 [.int .i64 a2, .slice B14 y14.length d14, .bool a0.f2.f2, .bool a0.f2.f3, .int .i64 a0.f2.f4] 34, .box g7 [.int .i64 a2, .slice B14 y14.length d14, .bool a0.f2.f2, .bool a0.f2.f3, .int .i64 a0.f2.f4] 34, .emp, .own (Zd.slice 3 (Zd.int .i64)) y14 [.slice B14 y14.length d14]] := HS; have F := HS.boxes; simp only [boxFacts, wrt, clr0, clr1, List.cons_append, List.nil_append, List.append_nil, List.set_cons_zero, List.set_cons_succ, and_true] at F))
   exact bodyPost_ret (results_single rfl (.cell _ _ _ _ _ rfl (HS.boxAt (i := 2) rfl) Try.underlying34 rfl (by kernel_rfl) .nil)) rfl ⟨_, rfl, HS.pick [5] (by decide) (by rfl)⟩
 · replace H := zneg c20 H
   have c20a := beq_eq_false_iff_ne.mpr c20
   have c20b := bne_iff_ne.mpr c20
   clear c20
   (try simp only [c20a, c20b, decide_true, decide_false, Bool.not_true, Bool.not_false])
   obtain rfl := zsome H
   go_wp2_with (first | ((with_reducible refine gate_store (p := 23) rfl ?_); refine ev_store rfl 3 0 HS (seg := [.int .i64 a1.f4]) rfl rfl rfl rfl rfl rfl (by kernel_rfl) (by simp [wrt]) (by simp [Value.oneCell']) ?_; clear HS; (try clear F); intro w23 HS; replace HS : Hp noFP w _ [.box g3 [.int .i64 a0.f0, .slice Ap0 a0.f1.length cp0, .int .i64 a0.f2.f0, .slice Ap1 a0.f2.f1.length cp1, .bool a0.f2.f2, .bool a0.f2.f3, .int .i64 a0.f2.f4] 96, .box g4 [.slice Ap2 a1.f0.length cp2, .int .i64 a1.f1, .int .i64 a1.f2, .int .i64 a1.f3, .int .i64 a1.f4, .bool a1.f5] 43, .box g6 [.int .i64 0, .slice none 0 0, .bool false, .bool false, .int .i64 0] 34, .box g7 [.int .i64 a1.f4, .slice B14 y14.length d14, .bool a0.f2.f2, .bool a0.f2.f3, .int .i64 a0.f2.f4] 34, .emp, .own (Zd.slice 3 (Zd.int .i64)) y14 [.slice B14 y14.length d14]] := HS; have F := HS.boxes; simp only [boxFacts, wrt, clr0, clr1, List.cons_append, List.nil_append, List.append_nil, List.set_cons_zero, List.set_cons_succ, and_true] at F) | ((with_reducible refine gate_store (p := 6) rfl ?_); refine ev_store rfl 2 0 HS (seg := [.int .i64 a1.f4, .slice B14 y14.length d14, .bool a0.f2.f2, .bool a0.f2.f3, .int .i64 a0.f2.f4]) rfl rfl rfl rfl rfl rfl (by kernel_rfl) (by simp [wrt]) (by simp [Value.oneCell']) ?_; clear HS; (try clear F); intro w25 HS; replace HS : Hp noFP w _ [.box g3 [.int .i64 a0.f0, .slice Ap0 a0.f1.length cp0, .int .i64 a0.f2.f0, .slice Ap1 a0.f2.f1.length cp1, .bool a0.f2.f2, .bool a0.f2.f3, .int .i64 a0.f2.f4] 96, .box g4 [.slice Ap2 a1.f0.length cp2, .int .i64 a1.f1, .int .i64 a1.f2, .int .i64 a1.f3, .int .i64 a1.f4, .bool a1.f5] 43, .box g6 [.int .i64 a1.f4, .slice B14 y14.length d14, .bool a0.f2.f2, .bool a0.f2.f3, .int .i64 a0.f2.f4] 34, .box g7 [.int .i64 a1.f4, .slice B14 y14.length d14, .bool a0.f2.f2, .bool a0.f2.f3, .int .i64 a0.f2.f4] 34, .emp, .own (Zd.slice 3 (Zd.int .i64)) y14 [.slice B14 y14.length d14]] := HS; have F := HS.boxes; simp only [boxFacts, wrt, clr0, clr1, List.cons_append, List.nil_append, List.append_nil, List.set_cons_zero, List.set_cons_succ, and_true] at F))
   exact bodyPost_ret (results_single rfl (.cell _ _ _ _ _ rfl (HS.boxAt (i := 2) rfl) Try.underlying34 rfl (by kernel_rfl) .nil)) rfl ⟨_, rfl, HS.pick [5] (by decide) (by rfl)⟩
/-! ### laws_toIntS: function 77 -/
def laws_toIntS.l0 : Nat → (List Int) → Int → (List Int) → Option ((List Int))
  | 0, _, _, _ => none
  | k + 1, l18, x20, a0 => (if x20 < (a0.length : Int) then (if 0 ≤ x20 then (if x20 < (a0.length : Int) then (laws_toIntS.l0 k (l18.set (x20).toNat (rd a0 x20)) (wrap64 (x20 + 1)) a0) else none) else none) else (some l18))
def laws_toIntS.f (k : Nat) (a0 : (List Int)) : Option ((List Int)) := (if 0 ≤ (a0.length : Int) then (if ((a0.length : Int)).toNat ≤ 35184372088832 then (laws_toIntS.l0 k (List.replicate a0.length (0 : Int)) 0 a0) else none) else none)
set_option maxHeartbeats 16000000 in
theorem laws_toIntS.calls {k : Nat} {a0 : (List Int)} {Ap0 : Option Addr} {np0 cp0 : Nat} {r : (List Int)} {w : World} (h : laws_toIntS.f k a0 = some r) (gp0 : (Kd.int .i64).C w Ap0 np0 a0) (lp0 : np0 ≤ cp0) :
    Calls Try.prog 77 #[.slice Ap0 np0 cp0] w (fun e w' => ∃ v0_ : Value, e = .returned (v0_) ∧ Hp noFP w w' [.own (Zd.slice 3 (Zd.int .i64)) r [v0_]]) := by
 obtain rfl := C_len gp0
 have HS := Hp.start w
 have H := Aside0.mk h
 clear h
 unfold laws_toIntS.f at H
 go_enter Try.func77, Try.ntmps77
 by_cases c1 : 0 ≤ (a0.length : Int)
 case neg => exact zno c1 H
 replace H := zpos c1 H
 replace c1 := eq_true c1
 by_cases c2 : ((a0.length : Int)).toNat ≤ 35184372088832
 case neg => exact zno c2 H
 replace H := zpos c2 H
 replace c2 := eq_true c2
 go_wp2_with (first | ((with_reducible refine gate_dst (N := 7) rfl ?_); refine ev_make rfl (Zd.int .i64) (0 : Int) HS rfl (a0.length : Int) rfl rfl Try.underlying29 info3 rfl (by decide) (by decide) (fun _ _ => rfl) (of_eq_true c1) (by have := of_eq_true c2; omega) ?_; clear HS; (try clear F); intro v3 w3 HS; obtain ⟨B3, d3, rfl, m3⟩ := HS.formn a0.length 0 rfl (by first | rfl | simp); replace HS : Hp noFP w _ [.own (Zd.slice 3 (Zd.int .i64)) (List.replicate a0.length (0 : Int)) [.slice B3 a0.length d3]] := HS))
 go_loopg [4] k (fun kq v_4 w' => ∃ (l18 : List Int) (x20 : Int), v_4 = .int .i64 x20 ∧ Aside0 (laws_toIntS.l0 kq l18 x20 a0 = some r) ∧ Aside0 (kq ≤ k) ∧ Hp noFP w w' [.own (Zd.slice 3 (Zd.int .i64)) l18 [.slice B3 a0.length d3]])
 case atStart => exact ⟨_, _, rfl, H, ⟨Nat.le_refl _⟩, HS⟩
 case round =>
  clear HS H; (try clear F)
  obtain ⟨l18, x20, rfl, H, HKk17, HS⟩ := hrel
  cases gk with
  | zero => exact absurd H.out (by simp [laws_toIntS.l0])
  | succ k17 =>
   simp only [laws_toIntS.l0] at H
   by_cases c22 : x20 < (a0.length : Int)
   · replace H := zpos c22 H
     replace c22 := eq_true c22
     by_cases c23 : 0 ≤ x20
     case neg => exact zno c23 H
     replace H := zpos c23 H
     replace c23 := eq_true c23
     by_cases c24 : x20 < (a0.length : Int)
     case neg => exact zno c24 H
     replace H := zpos c24 H
     replace c24 := eq_true c24
     obtain ⟨ad25, rfl, e25_0⟩ := Kd.at_int gp0 x20 (of_eq_true c23) (of_eq_true c24)
     replace e25_0 := HS.keepc e25_0
     obtain ⟨ad26, rfl, e26_0⟩ := Kd.at_int (HS.rd 0 rfl) x20 (of_eq_true c23) (of_eq_true c24)
     go_wp2_with (first | ((with_reducible refine gate_store (p := 20) rfl ?_); refine ev_set rfl (Zd.int .i64) 0 [] x20 (rd a0 x20) HS (seg := [.int .i64 (rd a0 x20)]) rfl (by decide) rfl rfl rfl (by first | rfl | exact (Nat.mul_one _).symm) rfl rfl (by kernel_rfl) (by simp [Value.oneCell']) ⟨of_eq_true c23, of_eq_true c24⟩ rfl (made_flat (fun _ => rfl)) ?_; clear HS; (try clear F); intro w27 HS; replace HS : Hp noFP w _ [.own (Zd.slice 3 (Zd.int .i64)) (l18.set (x20).toNat (rd a0 x20)) [.slice (some ad26) a0.length d3]] := HS))
     go_roundg k17
     case measure => have := HKk17.out; omega
     case rel => exact ⟨_, _, rfl, H, ⟨by have := HKk17.out; omega⟩, HS.pick [0] (by decide) (by rfl)⟩
   · replace H := zneg c22 H
     replace c22 := eq_false c22
     obtain rfl := zsome H
     go_wp2
     exact bodyPost_ret (results_single rfl (.tmp .nil)) rfl ⟨_, rfl, HS.pick [0] (by decide) (by rfl)⟩
/-! ### laws_toRules: function 21 -/
def laws_toRules.f (k : Nat) (a0 : S31) : Option (S34) := ((laws_toIntS.f k a0.f1).bind fun t9 => (some (⟨a0.f0, t9, a0.f2, a0.f3, a0.f4⟩ : S34)))
set_option maxHeartbeats 16000000 in
theorem laws_toRules.calls {k : Nat} {a0 : S31} {Ap0 : Option Addr} {np0 cp0 : Nat} {r : S34} {w : World} (h : laws_toRules.f k a0 = some r) (gp0 : (Kd.int .i64).C w Ap0 np0 a0.f1) (lp0 : np0 ≤ cp0) :
    Calls Try.prog 21 #[.agg #[.int .i64 a0.f0, .slice Ap0 np0 cp0, .bool a0.f2, .bool a0.f3, .int .i64 a0.f4]] w (fun e w' => ∃ v0_ : Value, e = .returned (.agg #[.int .i64 r.f0, v0_, .bool r.f2, .bool r.f3, .int .i64 r.f4]) ∧ Hp noFP w w' [.own (Zd.slice 3 (Zd.int .i64)) r.f1 [v0_]]) := by
 obtain rfl := C_len gp0
 have HS := Hp.start w
 have H := Aside0.mk h
 clear h
 unfold laws_toRules.f at H
 go_enter Try.func21, Try.ntmps21
 obtain ⟨t9, ht9, H⟩ := zbind H
 obtain rfl := zsome H
 go_wp2_with (first | ((with_reducible refine gate_dst (N := 1) rfl ?_); refine ev_box rfl HS (by first | (go_simp; done) | (go_simp; rfl)) rfl ?_; clear HS; (try clear F); intro g1 w1 HS; replace HS : Hp noFP w _ [.box g1 [.int .i64 a0.f0, .slice Ap0 a0.f1.length cp0, .bool a0.f2, .bool a0.f3, .int .i64 a0.f4] 31] := HS; have F := HS.boxes; simp only [boxFacts, wrt, clr0, clr1, List.cons_append, List.nil_append, List.append_nil, List.set_cons_zero, List.set_cons_succ, and_true] at F) | ((with_reducible refine gate_dst (N := 2) rfl ?_); refine ev_box rfl HS (by first | (go_simp; done) | (go_simp; rfl)) rfl ?_; clear HS; (try clear F); intro g2 w2 HS; replace HS : Hp noFP w _ [.box g1 [.int .i64 a0.f0, .slice Ap0 a0.f1.length cp0, .bool a0.f2, .bool a0.f3, .int .i64 a0.f4] 31, .box g2 [.int .i64 0, .slice none 0 0, .bool false, .bool false, .int .i64 0] 34] := HS; have F := HS.boxes; simp only [boxFacts, wrt, clr0, clr1, List.cons_append, List.nil_append, List.append_nil, List.set_cons_zero, List.set_cons_succ, and_true] at F) | ((with_reducible refine gate_dst (N := 3) rfl ?_); refine ev_box rfl HS (by first | (go_simp; done) | (go_simp; rfl)) rfl ?_; clear HS; (try clear F); intro g3 w3 HS; replace HS : Hp noFP w _ [.box g1 [.int .i64 a0.f0, .slice Ap0 a0.f1.length cp0, .bool a0.f2, .bool a0.f3, .int .i64 a0.f4] 31, .box g2 [.int .i64 0, .slice none 0 0, .bool false, .bool false, .int .i64 0] 34, .box g3 [.int .i64 0, .slice none 0 0, .bool false, .bool false, .int .i64 0] 34] := HS; have F := HS.boxes; simp only [boxFacts, wrt, clr0, clr1, List.cons_append, List.nil_append, List.append_nil, List.set_cons_zero, List.set_cons_succ, and_true] at F) | ((with_reducible refine gate_store (p := 6) rfl ?_); refine ev_store rfl 2 0 HS (seg := [.int .i64 a0.f0]) rfl rfl rfl rfl rfl rfl (by kernel_rfl) (by simp [wrt]) (by simp [Value.oneCell']) ?_; clear HS; (try clear F); intro w7 HS; replace HS : Hp noFP w _ [.box g1 [.int .i64 a0.f0, .slice Ap0 a0.f1.length cp0, .bool a0.f2, .bool a0.f3, .int .i64 a0.f4] 31, .box g2 [.int .i64 0, .slice none 0 0, .bool false, .bool false, .int .i64 0] 34, .box g3 [.int .i64 a0.f0, .slice none 0 0, .bool false, .bool false, .int .i64 0] 34] := HS; have F := HS.boxes; simp only [boxFacts, wrt, clr0, clr1, List.cons_append, List.nil_append, List.append_nil, List.set_cons_zero, List.set_cons_succ, and_true] at F) | ((with_reducible refine gate_dst (N := 9) rfl ?_); refine ev_call rfl Try.func77 (by kernel_rfl) rfl #[.slice Ap0 a0.f1.length cp0] rfl (by simp only [List.map_toArray, List.map_cons, List.map_nil]; rfl) ?_; refine (laws_toIntS.calls ht9.out (HS.ro gp0) lp0).mono ?_; rintro _ wt9 ⟨v10, rfl, HQ⟩; refine ⟨_, rfl, ?_⟩; replace HS := HS.call HQ; clear HQ; (try clear F); obtain ⟨B10, d10, rfl, m10⟩ := HS.form 3 rfl; replace HS : Hp noFP w _ [.box g1 [.int .i64 a0.f0, .slice Ap0 a0.f1.length cp0, .bool a0.f2, .bool a0.f3, .int .i64 a0.f4] 31, .box g2 [.int .i64 0, .slice none 0 0, .bool false, .bool false, .int .i64 0] 34, .box g3 [.int .i64 a0.f0, .slice none 0 0, .bool false, .bool false, .int .i64 0] 34, .own (Zd.slice 3 (Zd.int .i64)) t9 [.slice B10 t9.length d10]] := HS; have F := HS.boxes; simp only [boxFacts, wrt, clr0, clr1, List.cons_append, List.nil_append, List.append_nil, List.set_cons_zero, List.set_cons_succ, and_true] at F) | ((with_reducible refine gate_store (p := 10) rfl ?_); refine ev_store rfl 2 1 HS (seg := [.slice B10 t9.length d10]) rfl rfl rfl rfl rfl rfl (by kernel_rfl) (by simp [wrt]) (by simp [Value.oneCell']) ?_; clear HS; (try clear F); intro w12 HS; replace HS : Hp noFP w _ [.box g1 [.int .i64 a0.f0, .slice Ap0 a0.f1.length cp0, .bool a0.f2, .bool a0.f3, .int .i64 a0.f4] 31, .box g2 [.int .i64 0, .slice none 0 0, .bool false, .bool false, .int .i64 0] 34, .box g3 [.int .i64 a0.f0, .slice B10 t9.length d10, .bool false, .bool false, .int .i64 0] 34, .own (Zd.slice 3 (Zd.int .i64)) t9 [.slice B10 t9.length d10]] := HS; have F := HS.boxes; simp only [boxFacts, wrt, clr0, clr1, List.cons_append, List.nil_append, List.append_nil, List.set_cons_zero, List.set_cons_succ, and_true] at F) | ((with_reducible refine gate_store (p := 13) rfl ?_); refine ev_store rfl 2 2 HS (seg := [.bool a0.f2]) rfl rfl rfl rfl rfl rfl (by kernel_rfl) (by simp [wrt]) (by simp [Value.oneCell']) ?_; clear HS; (try clear F); intro w14 HS; replace HS : Hp noFP w _ [.box g1 [.int .i64 a0.f0, .slice Ap0 a0.f1.length cp0, .bool a0.f2, .bool a0.f3, .int .i64 a0.f4] 31, .box g2 [.int .i64 0, .slice none 0 0, .bool false, .bool false, .int .i64 0] 34, .box g3 [.int .i64 a0.f0, .slice B10 t9.length d10, .bool a0.f2, .bool false, .int .i64 0] 34, .own (Zd.slice 3 (Zd.int .i64)) t9 [.slice B10 t9.length d10]] := HS; have F := HS.boxes; simp only [boxFacts, wrt, clr0, clr1, List.cons_append, List.nil_append, List.append_nil, List.set_cons_zero, List.set_cons_succ, and_true] at F) | ((with_reducible refine gate_store (p := 16) rfl ?_); refine ev_store rfl 2 3 HS (seg := [.bool a0.f3]) rfl rfl rfl rfl rfl rfl (by kernel_rfl) (by simp [wrt]) (by simp [Value.oneCell']) ?_; clear HS; (try clear F); intro w16 HS; replace HS : Hp noFP w _ [.box g1 [.int .i64 a0.f0, .slice Ap0 a0.f1.length cp0, .bool a0.f2, .bool a0.f3, .int .i64 a0.f4] 31, .box g2 [.int .i64 0, .slice none 0 0, .bool false, .bool false, .int .i64 0] 34, .box g3 [.int .i64 a0.f0, .slice B10 t9.length d10, .bool a0.f2, .bool a0.f3, .int .i64 0] 34, .own (Zd.slice 3 (Zd.int .i64)) t9 [.slice B10 t9.length d10]] := HS; have F := HS.boxes; simp only [boxFacts, wrt, clr0, clr1, List.cons_append, List.nil_append, List.append_nil, List.set_cons_zero, List.set_cons_succ, and_true] at F) | ((with_reducible refine gate_store (p := 19) rfl ?_); refine ev_store rfl 2 4 HS (seg := [.int .i64 a0.f4]) rfl rfl rfl rfl rfl rfl (by kernel_rfl) (by simp [wrt]) (by simp [Value.oneCell']) ?_; clear HS; (try clear F); intro w18 HS; replace HS : Hp noFP w _ [.box g1 [.int .i64 a0.f0, .slice Ap0 a0.f1.length cp0, .bool a0.f2, .bool a0.f3, .int .i64 a0.f4] 31, .box g2 [.int .i64 0, .slice none 0 0, .bool false, .bool false, .int .i64 0] 34, .box g3 [.int .i64 a0.f0, .slice B10 t9.length d10, .bool a0.f2, .bool a0.f3, .int .i64 a0.f4] 34, .own (Zd.slice 3 (Zd.int .i64)) t9 [.slice B10 t9.length d10]] := HS; have F := HS.boxes; simp only [boxFacts, wrt, clr0, clr1, List.cons_append, List.nil_append, List.append_nil, List.set_cons_zero, List.set_cons_succ, and_true] at F) | ((with_reducible refine gate_store (p := 2) rfl ?_); refine ev_store rfl 1 0 HS (seg := [.int .i64 a0.f0, .slice B10 t9.length d10, .bool a0.f2, .bool a0.f3, .int .i64 a0.f4]) rfl rfl rfl rfl rfl rfl (by kernel_rfl) (by simp [wrt]) (by simp [Value.oneCell']) ?_; clear HS; (try clear F); intro w20 HS; replace HS : Hp noFP w _ [.box g1 [.int .i64 a0.f0, .slice Ap0 a0.f1.length cp0, .bool a0.f2, .bool a0.f3, .int .i64 a0.f4] 31, .box g2 [.int .i64 a0.f0, .slice B10 t9.length d10, .bool a0.f2, .bool a0.f3, .int .i64 a0.f4] 34, .box g3 [.int .i64 a0.f0, .slice B10 t9.length d10, .bool a0.f2, .bool a0.f3, .int .i64 a0.f4] 34, .own (Zd.slice 3 (Zd.int .i64)) t9 [.slice B10 t9.length d10]] := HS; have F := HS.boxes; simp only [boxFacts, wrt, clr0, clr1, List.cons_append, List.nil_append, List.append_nil, List.set_cons_zero, List.set_cons_succ, and_true] at F))
 exact bodyPost_ret (results_single rfl (.cell _ _ _ _ _ rfl (HS.boxAt (i := 1) rfl) Try.underlying34 rfl (by kernel_rfl) .nil)) rfl ⟨_, rfl, HS.pick [3] (by decide) (by rfl)⟩
/-! ### laws_toPlan: function 61 -/
def laws_toPlan.f (k : Nat) (a0 : S92) : Option (S96) := ((laws_toIntS.f k a0.f1).bind fun t9 => ((laws_toRules.f k a0.f2).bind fun t14 => (some (⟨a0.f0, t9, (⟨t14.f0, t14.f1, t14.f2, t14.f3, t14.f4⟩ : S34)⟩ : S96))))
set_option maxHeartbeats 16000000 in
theorem laws_toPlan.calls {k : Nat} {a0 : S92} {Ap0 : Option Addr} {np0 cp0 : Nat} {Ap1 : Option Addr} {np1 cp1 : Nat} {r : S96} {w : World} (h : laws_toPlan.f k a0 = some r) (gp0 : (Kd.int .i64).C w Ap0 np0 a0.f1) (lp0 : np0 ≤ cp0) (gp1 : (Kd.int .i64).C w Ap1 np1 a0.f2.f1) (lp1 : np1 ≤ cp1) :
    Calls Try.prog 61 #[.agg #[.int .i64 a0.f0, .slice Ap0 np0 cp0, .int .i64 a0.f2.f0, .slice Ap1 np1 cp1, .bool a0.f2.f2, .bool a0.f2.f3, .int .i64 a0.f2.f4]] w (fun e w' => ∃ v0_ v1_ : Value, e = .returned (.agg #[.int .i64 r.f0, v0_, .int .i64 r.f2.f0, v1_, .bool r.f2.f2, .bool r.f2.f3, .int .i64 r.f2.f4]) ∧ Hp noFP w w' [.own (Zd.slice 3 (Zd.int .i64)) r.f1 [v0_], .own (Zd.slice 3 (Zd.int .i64)) r.f2.f1 [v1_]]) := by
 obtain rfl := C_len gp0
 obtain rfl := C_len gp1
 have HS := Hp.start w
 have H := Aside0.mk h
 clear h
 unfold laws_toPlan.f at H
 go_enter Try.func61, Try.ntmps61
 obtain ⟨t9, ht9, H⟩ := zbind H
 obtain ⟨t14, ht14, H⟩ := zbind H
 obtain rfl := zsome H
 go_wp2_with (first | ((with_reducible refine gate_dst (N := 1) rfl ?_); refine ev_box rfl HS (by first | (go_simp; done) | (go_simp; rfl)) rfl ?_; clear HS; (try clear F); intro g1 w1 HS; replace HS : Hp noFP w _ [.box g1 [.int .i64 a0.f0, .slice Ap0 a0.f1.length cp0, .int .i64 a0.f2.f0, .slice Ap1 a0.f2.f1.length cp1, .bool a0.f2.f2, .bool a0.f2.f3, .int .i64 a0.f2.f4] 92] := HS; have F := HS.boxes; simp only [boxFacts, wrt, clr0, clr1, List.cons_append, List.nil_append, List.append_nil, List.set_cons_zero, List.set_cons_succ, and_true] at F) | ((with_reducible refine gate_dst (N := 2) rfl ?_); refine ev_box rfl HS (by first | (go_simp; done) | (go_simp; rfl)) rfl ?_; clear HS; (try clear F); intro g2 w2 HS; replace HS : Hp noFP w _ [.box g1 [.int .i64 a0.f0, .slice Ap0 a0.f1.length cp0, .int .i64 a0.f2.f0, .slice Ap1 a0.f2.f1.length cp1, .bool a0.f2.f2, .bool a0.f2.f3, .int .i64 a0.f2.f4] 92, .box g2 [.int .i64 0, .slice none 0 0, .int .i64 0, .slice none 0 0, .bool false, .bool false, .int .i64 0] 96] := HS; have F := HS.boxes; simp only [boxFacts, wrt, clr0, clr1, List.cons_append, List.nil_append, List.append_nil, List.set_cons_zero, List.set_cons_succ, and_true] at F) | ((with_reducible refine gate_dst (N := 3) rfl ?_); refine ev_box rfl HS (by first | (go_simp; done) | (go_simp; rfl)) rfl ?_; clear HS; (try clear F); intro g3 w3 HS; replace HS : Hp noFP w _ [.box g1 [.int .i64 a0.f0, .slice Ap0 a0.f1.length cp0, .int .i64 a0.f2.f0, .slice Ap1 a0.f2.f1.length cp1, .bool a0.f2.f2, .bool a0.f2.f3, .int .i64 a0.f2.f4] 92, .box g2 [.int .i64 0, .slice none 0 0, .int .i64 0, .slice none 0 0, .bool false, .bool false, .int .i64 0] 96, .box g3 [.int .i64 0, .slice none 0 0, .int .i64 0, .slice none 0 0, .bool false, .bool false, .int .i64 0] 96] := HS; have F := HS.boxes; simp only [boxFacts, wrt, clr0, clr1, List.cons_append, List.nil_append, List.append_nil, List.set_cons_zero, List.set_cons_succ, and_true] at F) | ((with_reducible refine gate_store (p := 6) rfl ?_); refine ev_store rfl 2 0 HS (seg := [.int .i64 a0.f0]) rfl rfl rfl rfl rfl rfl (by kernel_rfl) (by simp [wrt]) (by simp [Value.oneCell']) ?_; clear HS; (try clear F); intro w7 HS; replace HS : Hp noFP w _ [.box g1 [.int .i64 a0.f0, .slice Ap0 a0.f1.length cp0, .int .i64 a0.f2.f0, .slice Ap1 a0.f2.f1.length cp1, .bool a0.f2.f2, .bool a0.f2.f3, .int .i64 a0.f2.f4] 92, .box g2 [.int .i64 0, .slice none 0 0, .int .i64 0, .slice none 0 0, .bool false, .bool false, .int .i64 0] 96, .box g3 [.int .i64 a0.f0, .slice none 0 0, .int .i64 0, .slice none 0 0, .bool false, .bool false, .int .i64 0] 96] := HS; have F := HS.boxes; simp only [boxFacts, wrt, clr0, clr1, List.cons_append, List.nil_append, List.append_nil, List.set_cons_zero, List.set_cons_succ, and_true] at F) | ((with_reducible refine gate_dst (N := 9) rfl ?_); refine ev_call rfl Try.func77 (by kernel_rfl) rfl #[.slice Ap0 a0.f1.length cp0] rfl (by simp only [List.map_toArray, List.map_cons, List.map_nil]; rfl) ?_; refine (laws_toIntS.calls ht9.out (HS.ro gp0) lp0).mono ?_; rintro _ wt9 ⟨v10, rfl, HQ⟩; refine ⟨_, rfl, ?_⟩; replace HS := HS.call HQ; clear HQ; (try clear F); obtain ⟨B10, d10, rfl, m10⟩ := HS.form 3 rfl; replace HS : Hp noFP w _ [.box g1 [.int .i64 a0.f0, .slice Ap0 a0.f1.length cp0, .int .i64 a0.f2.f0, .slice Ap1 a0.f2.f1.length cp1, .bool a0.f2.f2, .bool a0.f2.f3, .int .i64 a0.f2.f4] 92, .box g2 [.int .i64 0, .slice none 0 0, .int .i64 0, .slice none 0 0, .bool false, .bool false, .int .i64 0] 96, .box g3 [.int .i64 a0.f0, .slice none 0 0, .int .i64 0, .slice none 0 0, .bool false, .bool false, .int .i64 0] 96, .own (Zd.slice 3 (Zd.int .i64)) t9 [.slice B10 t9.length d10]] := HS; have F := HS.boxes; simp only [boxFacts, wrt, clr0, clr1, List.cons_append, List.nil_append, List.append_nil, List.set_cons_zero, List.set_cons_succ, and_true] at F) | ((with_reducible refine gate_store (p := 10) rfl ?_); refine ev_store rfl 2 1 HS (seg := [.slice B10 t9.length d10]) rfl rfl rfl rfl rfl rfl (by kernel_rfl) (by simp [wrt]) (by simp [Value.oneCell']) ?_; clear HS; (try clear F); intro w12 HS; replace HS : Hp noFP w _ [.box g1 [.int .i64 a0.f0, .slice Ap0 a0.f1.length cp0, .int .i64 a0.f2.f0, .slice Ap1 a0.f2.f1.length cp1, .bool a0.f2.f2, .bool a0.f2.f3, .int .i64 a0.f2.f4] 92, .box g2 [.int .i64 0, .slice none 0 0, .int .i64 0, .slice none 0 0, .bool false, .bool false, .int .i64 0] 96, .box g3 [.int .i64 a0.f0, .slice B10 t9.length d10, .int .i64 0, .slice none 0 0, .bool false, .bool false, .int .i64 0] 96, .own (Zd.slice 3 (Zd.int .i64)) t9 [.slice B10 t9.length d10]] := HS; have F := HS.boxes; simp only [boxFacts, wrt, clr0, clr1, List.cons_append, List.nil_append, List.append_nil, List.set_cons_zero, List.set_cons_succ, and_true] at F) | ((with_reducible refine gate_dst (N := 13) rfl ?_); refine ev_call rfl Try.func21 (by kernel_rfl) rfl #[.agg #[.int .i64 a0.f2.f0, .slice Ap1 a0.f2.f1.length cp1, .bool a0.f2.f2, .bool a0.f2.f3, .int .i64 a0.f2.f4]] rfl (by simp only [List.map_toArray, List.map_cons, List.map_nil]; rfl) ?_; refine (laws_toRules.calls ht14.out (HS.ro gp1) lp1).mono ?_; rintro _ wt14 ⟨v15, rfl, HQ⟩; refine ⟨_, rfl, ?_⟩; replace HS := HS.call HQ; clear HQ; (try clear F); obtain ⟨B15, d15, rfl, m15⟩ := HS.form 4 rfl; replace HS : Hp noFP w _ [.box g1 [.int .i64 a0.f0, .slice Ap0 a0.f1.length cp0, .int .i64 a0.f2.f0, .slice Ap1 a0.f2.f1.length cp1, .bool a0.f2.f2, .bool a0.f2.f3, .int .i64 a0.f2.f4] 92, .box g2 [.int .i64 0, .slice none 0 0, .int .i64 0, .slice none 0 0, .bool false, .bool false, .int .i64 0] 96, .box g3 [.int .i64 a0.f0, .slice B10 t9.length d10, .int .i64 0, .slice none 0 0, .bool false, .bool false, .int .i64 0] 96, .own (Zd.slice 3 (Zd.int .i64)) t9 [.slice B10 t9.length d10], .own (Zd.slice 3 (Zd.int .i64)) t14.f1 [.slice B15 t14.f1.length d15]] := HS; have F := HS.boxes; simp only [boxFacts, wrt, clr0, clr1, List.cons_append, List.nil_append, List.append_nil, List.set_cons_zero, List.set_cons_succ, and_true] at F) | ((with_reducible refine gate_store (p := 14) rfl ?_); refine ev_store rfl 2 2 HS (seg := [.int .i64 t14.f0, .slice B15 t14.f1.length d15, .bool t14.f2, .bool t14.f3, .int .i64 t14.f4]) rfl rfl rfl rfl rfl rfl (by kernel_rfl) (by simp [wrt]) (by simp [Value.oneCell']) ?_; clear HS; (try clear F); intro w17 HS; replace HS : Hp noFP w _ [.box g1 [.int .i64 a0.f0, .slice Ap0 a0.f1.length cp0, .int .i64 a0.f2.f0, .slice Ap1 a0.f2.f1.length cp1, .bool a0.f2.f2, .bool a0.f2.f3, .int .i64 a0.f2.f4] 92, .box g2 [.int .i64 0, .slice none 0 0, .int .i64 0, .slice none 0 0, .bool false, .bool false, .int .i64 0] 96, .box g3 [.int .i64 a0.f0, .slice B10 t9.length d10, .int .i64 t14.f0, .slice B15 t14.f1.length d15, .bool t14.f2, .bool t14.f3, .int .i64 t14.f4] 96, .own (Zd.slice 3 (Zd.int .i64)) t9 [.slice B10 t9.length d10], .own (Zd.slice 3 (Zd.int .i64)) t14.f1 [.slice B15 t14.f1.length d15]] := HS; have F := HS.boxes; simp only [boxFacts, wrt, clr0, clr1, List.cons_append, List.nil_append, List.append_nil, List.set_cons_zero, List.set_cons_succ, and_true] at F) | ((with_reducible refine gate_store (p := 2) rfl ?_); refine ev_store rfl 1 0 HS (seg := [.int .i64 a0.f0, .slice B10 t9.length d10, .int .i64 t14.f0, .slice B15 t14.f1.length d15, .bool t14.f2, .bool t14.f3, .int .i64 t14.f4]) rfl rfl rfl rfl rfl rfl (by kernel_rfl) (by simp [wrt]) (by simp [Value.oneCell']) ?_; clear HS; (try clear F); intro w19 HS; replace HS : Hp noFP w _ [.box g1 [.int .i64 a0.f0, .slice Ap0 a0.f1.length cp0, .int .i64 a0.f2.f0, .slice Ap1 a0.f2.f1.length cp1, .bool a0.f2.f2, .bool a0.f2.f3, .int .i64 a0.f2.f4] 92, .box g2 [.int .i64 a0.f0, .slice B10 t9.length d10, .int .i64 t14.f0, .slice B15 t14.f1.length d15, .bool t14.f2, .bool t14.f3, .int .i64 t14.f4] 96, .box g3 [.int .i64 a0.f0, .slice B10 t9.length d10, .int .i64 t14.f0, .slice B15 t14.f1.length d15, .bool t14.f2, .bool t14.f3, .int .i64 t14.f4] 96, .own (Zd.slice 3 (Zd.int .i64)) t9 [.slice B10 t9.length d10], .own (Zd.slice 3 (Zd.int .i64)) t14.f1 [.slice B15 t14.f1.length d15]] := HS; have F := HS.boxes; simp only [boxFacts, wrt, clr0, clr1, List.cons_append, List.nil_append, List.append_nil, List.set_cons_zero, List.set_cons_succ, and_true] at F))
 exact bodyPost_ret (results_single rfl (.cell _ _ _ _ _ rfl (HS.boxAt (i := 1) rfl) Try.underlying96 rfl (by kernel_rfl) .nil)) rfl ⟨_, _, rfl, HS.pick [3, 4] (by decide) (by rfl)⟩
/-! ### impl_Merged: function 62 -/
def impl_Merged.f (a0 : S96) (a1 : S43) (a2 : Int) : Option (S34) := (if 0 + a0.f2.f1.length ≤ 17592186044416 then (lets (([] : List Int) ++ a0.f2.f1) fun y12 => (if a1.f4 = 0 then (some (⟨a2, y12, a0.f2.f2, a0.f2.f3, a0.f2.f4⟩ : S34)) else (some (⟨a1.f4, y12, a0.f2.f2, a0.f2.f3, a0.f2.f4⟩ : S34)))) else none)
set_option maxHeartbeats 16000000 in
theorem impl_Merged.calls {a0 : S96} {a1 : S43} {a2 : Int} {Ap0 : Option Addr} {np0 cp0 : Nat} {Ap1 : Option Addr} {np1 cp1 : Nat} {Ap2 : Option Addr} {np2 cp2 : Nat} {r : S34} {w : World} (h : impl_Merged.f a0 a1 a2 = some r) (gp0 : (Kd.int .i64).C w Ap0 np0 a0.f1) (lp0 : np0 ≤ cp0) (gp1 : (Kd.int .i64).C w Ap1 np1 a0.f2.f1) (lp1 : np1 ≤ cp1) (gp2 : Kd.string.C w Ap2 np2 a1.f0) (lp2 : np2 ≤ cp2) :
    Calls Try.prog 62 #[.agg #[.int .i64 a0.f0, .slice Ap0 np0 cp0, .int .i64 a0.f2.f0, .slice Ap1 np1 cp1, .bool a0.f2.f2, .bool a0.f2.f3, .int .i64 a0.f2.f4], .agg #[.slice Ap2 np2 cp2, .int .i64 a1.f1, .int .i64 a1.f2, .int .i64 a1.f3, .int .i64 a1.f4, .bool a1.f5], .int .i64 a2] w (fun e w' => ∃ v0_ : Value, e = .returned (.agg #[.int .i64 r.f0, v0_, .bool r.f2, .bool r.f3, .int .i64 r.f4]) ∧ Hp noFP w w' [.own (Zd.slice 3 (Zd.int .i64)) r.f1 [v0_]]) := by
 obtain rfl := C_len gp0
 obtain rfl := C_len gp1
 obtain rfl := C_len gp2
 have HS := Hp.start w
 have H := Aside0.mk h
 clear h
 unfold impl_Merged.f at H
 go_enter Try.func62, Try.ntmps62
 by_cases c11 : 0 + a0.f2.f1.length ≤ 17592186044416
 case neg => exact zno c11 H
 replace H := zpos c11 H
 replace c11 := eq_true c11
 obtain ⟨y12, e_y12, H⟩ := zlets H
 go_upto_if 18 with (first | ((with_reducible refine gate_dst (N := 3) rfl ?_); refine ev_box rfl HS (by first | (go_simp; done) | (go_simp; rfl)) rfl ?_; clear HS; (try clear F); intro g3 w3 HS; replace HS : Hp noFP w _ [.box g3 [.int .i64 a0.f0, .slice Ap0 a0.f1.length cp0, .int .i64 a0.f2.f0, .slice Ap1 a0.f2.f1.length cp1, .bool a0.f2.f2, .bool a0.f2.f3, .int .i64 a0.f2.f4] 96] := HS; have F := HS.boxes; simp only [boxFacts, wrt, clr0, clr1, List.cons_append, List.nil_append, List.append_nil, List.set_cons_zero, List.set_cons_succ, and_true] at F) | ((with_reducible refine gate_dst (N := 4) rfl ?_); refine ev_box rfl HS (by first | (go_simp; done) | (go_simp; rfl)) rfl ?_; clear HS; (try clear F); intro g4 w4 HS; replace HS : Hp noFP w _ [.box g3 [.int .i64 a0.f0, .slice Ap0 a0.f1.length cp0, .int .i64 a0.f2.f0, .slice Ap1 a0.f2.f1.length cp1, .bool a0.f2.f2, .bool a0.f2.f3, .int .i64 a0.f2.f4] 96, .box g4 [.slice Ap2 a1.f0.length cp2, .int .i64 a1.f1, .int .i64 a1.f2, .int .i64 a1.f3, .int .i64 a1.f4, .bool a1.f5] 43] := HS; have F := HS.boxes; simp only [boxFacts, wrt, clr0, clr1, List.cons_append, List.nil_append, List.append_nil, List.set_cons_zero, List.set_cons_succ, and_true] at F) | ((with_reducible refine gate_dst (N := 6) rfl ?_); refine ev_box rfl HS (by first | (go_simp; done) | (go_simp; rfl)) rfl ?_; clear HS; (try clear F); intro g6 w6 HS; replace HS : Hp noFP w _ [.box g3 [.int .i64 a0.f0, .slice Ap0 a0.f1.length cp0, .int .i64 a0.f2.f0, .slice Ap1 a0.f2.f1.length cp1, .bool a0.f2.f2, .bool a0.f2.f3, .int .i64 a0.f2.f4] 96, .box g4 [.slice Ap2 a1.f0.length cp2, .int .i64 a1.f1, .int .i64 a1.f2, .int .i64 a1.f3, .int .i64 a1.f4, .bool a1.f5] 43, .box g6 [.int .i64 0, .slice none 0 0, .bool false, .bool false, .int .i64 0] 34] := HS; have F := HS.boxes; simp only [boxFacts, wrt, clr0, clr1, List.cons_append, List.nil_append, List.append_nil, List.set_cons_zero, List.set_cons_succ, and_true] at F) | ((with_reducible refine gate_dst (N := 7) rfl ?_); refine ev_box rfl HS (by first | (go_simp; done) | (go_simp; rfl)) rfl ?_; clear HS; (try clear F); intro g7 w7 HS; replace HS : Hp noFP w _ [.box g3 [.int .i64 a0.f0, .slice Ap0 a0.f1.length cp0, .int .i64 a0.f2.f0, .slice Ap1 a0.f2.f1.length cp1, .bool a0.f2.f2, .bool a0.f2.f3, .int .i64 a0.f2.f4] 96, .box g4 [.slice Ap2 a1.f0.length cp2, .int .i64 a1.f1, .int .i64 a1.f2, .int .i64 a1.f3, .int .i64 a1.f4, .bool a1.f5] 43, .box g6 [.int .i64 0, .slice none 0 0, .bool false, .bool false, .int .i64 0] 34, .box g7 [.int .i64 0, .slice none 0 0, .bool false, .bool false, .int .i64 0] 34] := HS; have F := HS.boxes; simp only [boxFacts, wrt, clr0, clr1, List.cons_append, List.nil_append, List.append_nil, List.set_cons_zero, List.set_cons_succ, and_true] at F) | ((with_reducible refine gate_store (p := 7) rfl ?_); refine ev_store rfl 3 0 HS (seg := [.int .i64 a0.f2.f0, .slice Ap1 a0.f2.f1.length cp1, .bool a0.f2.f2, .bool a0.f2.f3, .int .i64 a0.f2.f4]) rfl rfl rfl rfl rfl rfl (by kernel_rfl) (by simp [wrt]) (by simp [Value.oneCell']) ?_; clear HS; (try clear F); intro w9 HS; replace HS : Hp noFP w _ [.box g3 [.int .i64 a0.f0, .slice Ap0 a0.f1.length cp0, .int .i64 a0.f2.f0, .slice Ap1 a0.f2.f1.length cp1, .bool a0.f2.f2, .bool a0.f2.f3, .int .i64 a0.f2.f4] 96, .box g4 [.slice Ap2 a1.f0.length cp2, .int .i64 a1.f1, .int .i64 a1.f2, .int .i64 a1.f3, .int .i64 a1.f4, .bool a1.f5] 43, .box g6 [.int .i64 0, .slice none 0 0, .bool false, .bool false, .int .i64 0] 34, .box g7 [.int .i64 a0.f2.f0, .slice Ap1 a0.f2.f1.length cp1, .bool a0.f2.f2, .bool a0.f2.f3, .int .i64 a0.f2.f4] 34] := HS; have F := HS.boxes; simp only [boxFacts, wrt, clr0, clr1, List.cons_append, List.nil_append, List.append_nil, List.set_cons_zero, List.set_cons_succ, and_true] at F) | ((with_reducible refine gate_dst (N := 12) rfl ?_); replace HS := HS.nil 3 (Zd.int .i64); refine ev_appendr rfl (Zd.int .i64) (flat_int _) 4 HS rfl (HS.ro gp1) rfl rfl rfl Try.underlying29 info3 rfl (by decide) (by decide) (by have := of_eq_true c11; first | omega | (simp only [List.length_cons, List.length_nil, List.length_append, Nat.zero_add] at this ⊢; omega)) ?_; clear HS; (try clear F); intro v12 w12 HS; rw [← e_y12.out] at HS; obtain ⟨B12, d12, rfl, m12⟩ := HS.form 5 rfl; replace HS : Hp noFP w _ [.box g3 [.int .i64 a0.f0, .slice Ap0 a0.f1.length cp0, .int .i64 a0.f2.f0, .slice Ap1 a0.f2.f1.length cp1, .bool a0.f2.f2, .bool a0.f2.f3, .int .i64 a0.f2.f4] 96, .box g4 [.slice Ap2 a1.f0.length cp2, .int .i64 a1.f1, .int .i64 a1.f2, .int .i64 a1.f3, .int .i64 a1.f4, .bool a1.f5] 43, .box g6 [.int .i64 0, .slice none 0 0, .bool false, .bool false, .int .i64 0] 34, .box g7 [.int .i64 a0.f2.f0, .slice Ap1 a0.f2.f1.length cp1, .bool a0.f2.f2, .bool a0.f2.f3, .int .i64 a0.f2.f4] 34, .emp, .own (Zd.slice 3 (Zd.int .i64)) y12 [.slice B12 y12.length d12]] := HS; have F := HS.boxes; simp only [boxFacts, wrt, clr0, clr1, List.cons_append, List.nil_append, List.append_nil, List.set_cons_zero, List.set_cons_succ, and_true] at F) | ((with_reducible refine gate_store (p := 13) rfl ?_); refine ev_store rfl 3 1 HS (seg := [.slice B12 y12.length d12]) rfl rfl rfl rfl rfl rfl (by kernel_rfl) (by simp [wrt]) (by simp [Value.oneCell']) ?_; clear HS; (try clear F); intro w14 HS; replace HS : Hp noFP w _ [.box g3 [.int .i64 a0.f0, .slice Ap0 a0.f1.length cp0, .int .i64 a0.f2.f0, .slice Ap1 a0.f2.f1.length cp1, .bool a0.f2.f2, .bool a0.f2.f3, .int .i64 a0.f2.f4] 96, .box g4 [.slice Ap2 a1.f0.length cp2, .int .i64 a1.f1, .int .i64 a1.f2, .int .i64 a1.f3, .int .i64 a1.f4, .bool a1.f5] 43, .box g6 [.int .i64 0, .slice none 0 0, .bool false, .bool false, .int .i64 0] 34, .box g7 [.int .i64 a0.f2.f0, .slice B12 y12.length d12, .bool a0.f2.f2, .bool a0.f2.f3, .int .i64 a0.f2.f4] 34, .emp, .own (Zd.slice 3 (Zd.int .i64)) y12 [.slice B12 y12.length d12]] := HS; have F := HS.boxes; simp only [boxFacts, wrt, clr0, clr1, List.cons_append, List.nil_append, List.append_nil, List.set_cons_zero, List.set_cons_succ, and_true] at F) | ((with_reducible refine gate_store (p := 15) rfl ?_); refine ev_store rfl 3 0 HS (seg := [.int .i64 a2]) rfl rfl rfl rfl rfl rfl (by kernel_rfl) (by simp [wrt]) (by simp [Value.oneCell']) ?_; clear HS; (try clear F); intro w16 HS; replace HS : Hp noFP w _ [.box g3 [.int .i64 a0.f0, .slice Ap0 a0.f1.length cp0, .int .i64 a0.f2.f0, .slice Ap1 a0.f2.f1.length cp1, .bool a0.f2.f2, .bool a0.f2.f3, .int .i64 a0.f2.f4] 96, .box g4 [.slice Ap2 a1.f0.length cp2, .int .i64 a1.f1, .int .i64 a1.f2, .int .i64 a1.f3, .int .i64 a1.f4, .bool a1.f5] 43, .box g6 [.int .i64 0, .slice none 0 0, .bool false, .bool false, .int .i64 0] 34, .box g7 [.int .i64 a2, .slice B12 y12.length d12, .bool a0.f2.f2, .bool a0.f2.f3, .int .i64 a0.f2.f4] 34, .emp, .own (Zd.slice 3 (Zd.int .i64)) y12 [.slice B12 y12.length d12]] := HS; have F := HS.boxes; simp only [boxFacts, wrt, clr0, clr1, List.cons_append, List.nil_append, List.append_nil, List.set_cons_zero, List.set_cons_succ, and_true] at F))
 by_cases c18 : a1.f4 = 0
 · replace H := zpos c18 H
   have c18a := beq_iff_eq.mpr c18
   have c18b := bne_eq_false_iff_eq.mpr c18
   clear c18
   (try simp only [c18a, c18b, decide_true, decide_false, Bool.not_true, Bool.not_false])
   obtain rfl := zsome H
   go_wp2_with (first | ((with_reducible refine gate_store (p := 6) rfl ?_); refine ev_store rfl 2 0 HS (seg := [.int .i64 a2, .slice B12 y12.length d12, .bool a0.f2.f2, .bool a0.f2.f3, .int .i64 a0.f2.f4]) rfl rfl rfl rfl rfl rfl (by kernel_rfl) (by simp [wrt]) (by simp [Value.oneCell']) ?_; clear HS; (try clear F); intro w19 HS; replace HS : Hp noFP w _ [.box g3 [.int .i64 a0.f0, .slice Ap0 a0.f1.length cp0, .int .i64 a0.f2.f0, .slice Ap1 a0.f2.f1.length cp1, .bool a0.f2.f2, .bool a0.f2.f3, .int .i64 a0.f2.f4] 96, .box g4 [.slice Ap2 a1.f0.length cp2, .int .i64 a1.f1, .int .i64 a1.f2, .int .i64 a1.f3, .int .i64 a1.f4, .bool a1.f5] 43, .box g6 [.int .i64 a2, .slice B12 y12.length d12, .bool a0.f2.f2, .bool a0.f2.f3, .int .i64 a0.f2.f4] 34, .box g7 [.int .i64 a2, .slice B12 y12.length d12, .bool a0.f2.f2, .bool a0.f2.f3, .int .i64 a0.f2.f4] 34, .emp, .own (Zd.slice 3 (Zd.int .i64)) y12 [.slice B12 y12.length d12]] := HS; have F := HS.boxes; simp only [boxFacts, wrt, clr0, clr1, List.cons_append, List.nil_append, List.append_nil, List.set_cons_zero, List.set_cons_succ, and_true] at F))
   exact bodyPost_ret (results_single rfl (.cell _ _ _ _ _ rfl (HS.boxAt (i := 2) rfl) Try.underlying34 rfl (by kernel_rfl) .nil)) rfl ⟨_, rfl, HS.pick [5] (by decide) (by rfl)⟩
 · replace H := zneg c18 H
   have c18a := beq_eq_false_iff_ne.mpr c18
   have c18b := bne_iff_ne.mpr c18
   clear c18
   (try simp only [c18a, c18b, decide_true, decide_false, Bool.not_true, Bool.not_false])
   obtain rfl := zsome H
   go_wp2_with (first | ((with_reducible refine gate_store (p := 21) rfl ?_); refine ev_store rfl 3 0 HS (seg := [.int .i64 a1.f4]) rfl rfl rfl rfl rfl rfl (by kernel_rfl) (by simp [wrt]) (by simp [Value.oneCell']) ?_; clear HS; (try clear F); intro w21 HS; replace HS : Hp noFP w _ [.box g3 [.int .i64 a0.f0, .slice Ap0 a0.f1.length cp0, .int .i64 a0.f2.f0, .slice Ap1 a0.f2.f1.length cp1, .bool a0.f2.f2, .bool a0.f2.f3, .int .i64 a0.f2.f4] 96, .box g4 [.slice Ap2 a1.f0.length cp2, .int .i64 a1.f1, .int .i64 a1.f2, .int .i64 a1.f3, .int .i64 a1.f4, .bool a1.f5] 43, .box g6 [.int .i64 0, .slice none 0 0, .bool false, .bool false, .int .i64 0] 34, .box g7 [.int .i64 a1.f4, .slice B12 y12.length d12, .bool a0.f2.f2, .bool a0.f2.f3, .int .i64 a0.f2.f4] 34, .emp, .own (Zd.slice 3 (Zd.int .i64)) y12 [.slice B12 y12.length d12]] := HS; have F := HS.boxes; simp only [boxFacts, wrt, clr0, clr1, List.cons_append, List.nil_append, List.append_nil, List.set_cons_zero, List.set_cons_succ, and_true] at F) | ((with_reducible refine gate_store (p := 6) rfl ?_); refine ev_store rfl 2 0 HS (seg := [.int .i64 a1.f4, .slice B12 y12.length d12, .bool a0.f2.f2, .bool a0.f2.f3, .int .i64 a0.f2.f4]) rfl rfl rfl rfl rfl rfl (by kernel_rfl) (by simp [wrt]) (by simp [Value.oneCell']) ?_; clear HS; (try clear F); intro w23 HS; replace HS : Hp noFP w _ [.box g3 [.int .i64 a0.f0, .slice Ap0 a0.f1.length cp0, .int .i64 a0.f2.f0, .slice Ap1 a0.f2.f1.length cp1, .bool a0.f2.f2, .bool a0.f2.f3, .int .i64 a0.f2.f4] 96, .box g4 [.slice Ap2 a1.f0.length cp2, .int .i64 a1.f1, .int .i64 a1.f2, .int .i64 a1.f3, .int .i64 a1.f4, .bool a1.f5] 43, .box g6 [.int .i64 a1.f4, .slice B12 y12.length d12, .bool a0.f2.f2, .bool a0.f2.f3, .int .i64 a0.f2.f4] 34, .box g7 [.int .i64 a1.f4, .slice B12 y12.length d12, .bool a0.f2.f2, .bool a0.f2.f3, .int .i64 a0.f2.f4] 34, .emp, .own (Zd.slice 3 (Zd.int .i64)) y12 [.slice B12 y12.length d12]] := HS; have F := HS.boxes; simp only [boxFacts, wrt, clr0, clr1, List.cons_append, List.nil_append, List.append_nil, List.set_cons_zero, List.set_cons_succ, and_true] at F))
   exact bodyPost_ret (results_single rfl (.cell _ _ _ _ _ rfl (HS.boxAt (i := 2) rfl) Try.underlying34 rfl (by kernel_rfl) .nil)) rfl ⟨_, rfl, HS.pick [5] (by decide) (by rfl)⟩
/-! ### laws_eqPlan: function 63 -/
def laws_eqPlan.f (k : Nat) (a0 : S96) (a1 : S96) : Option (Bool) := (if a0.f0 = a1.f0 then ((laws_eqIntS.f k a0.f1 a1.f1).bind fun t6 => (if t6 = true then ((laws_eqRules.f k a0.f2 a1.f2).bind fun t9 => (if t9 = true then (some true) else (some false))) else (some false))) else (some false))
set_option maxHeartbeats 16000000 in
theorem laws_eqPlan.calls {k : Nat} {a0 : S96} {a1 : S96} {Ap0 : Option Addr} {np0 cp0 : Nat} {Ap1 : Option Addr} {np1 cp1 : Nat} {Ap2 : Option Addr} {np2 cp2 : Nat} {Ap3 : Option Addr} {np3 cp3 : Nat} {r : Bool} {w : World} (h : laws_eqPlan.f k a0 a1 = some r) (gp0 : (Kd.int .i64).C w Ap0 np0 a0.f1) (lp0 : np0 ≤ cp0) (gp1 : (Kd.int .i64).C w Ap1 np1 a0.f2.f1) (lp1 : np1 ≤ cp1) (gp2 : (Kd.int .i64).C w Ap2 np2 a1.f1) (lp2 : np2 ≤ cp2) (gp3 : (Kd.int .i64).C w Ap3 np3 a1.f2.f1) (lp3 : np3 ≤ cp3) :
    Calls Try.prog 63 #[.agg #[.int .i64 a0.f0, .slice Ap0 np0 cp0, .int .i64 a0.f2.f0, .slice Ap1 np1 cp1, .bool a0.f2.f2, .bool a0.f2.f3, .int .i64 a0.f2.f4], .agg #[.int .i64 a1.f0, .slice Ap2 np2 cp2, .int .i64 a1.f2.f0, .slice Ap3 np3 cp3, .bool a1.f2.f2, .bool a1.f2.f3, .int .i64 a1.f2.f4]] w (fun e w' => e = .returned (.bool r) ∧ Hp noFP w w' []) := by
 obtain rfl := C_len gp0
 obtain rfl := C_len gp1
 obtain rfl := C_len gp2
 obtain rfl := C_len gp3
 have HS := Hp.start w
 have H := Aside0.mk h
 clear h
 unfold laws_eqPlan.f at H
 go_enter Try.func63, Try.ntmps63
 go_upto_if 9 with (first | ((with_reducible refine gate_dst (N := 2) rfl ?_); refine ev_box rfl HS (by first | (go_simp; done) | (go_simp; rfl)) rfl ?_; clear HS; (try clear F); intro g2 w2 HS; replace HS : Hp noFP w _ [.box g2 [.int .i64 a0.f0, .slice Ap0 a0.f1.length cp0, .int .i64 a0.f2.f0, .slice Ap1 a0.f2.f1.length cp1, .bool a0.f2.f2, .bool a0.f2.f3, .int .i64 a0.f2.f4] 96] := HS; have F := HS.boxes; simp only [boxFacts, wrt, clr0, clr1, List.cons_append, List.nil_append, List.append_nil, List.set_cons_zero, List.set_cons_succ, and_true] at F) | ((with_reducible refine gate_dst (N := 3) rfl ?_); refine ev_box rfl HS (by first | (go_simp; done) | (go_simp; rfl)) rfl ?_; clear HS; (try clear F); intro g3 w3 HS; replace HS : Hp noFP w _ [.box g2 [.int .i64 a0.f0, .slice Ap0 a0.f1.length cp0, .int .i64 a0.f2.f0, .slice Ap1 a0.f2.f1.length cp1, .bool a0.f2.f2, .bool a0.f2.f3, .int .i64 a0.f2.f4] 96, .box g3 [.int .i64 a1.f0, .slice Ap2 a1.f1.length cp2, .int .i64 a1.f2.f0, .slice Ap3 a1.f2.f1.length cp3, .bool a1.f2.f2, .bool a1.f2.f3, .int .i64 a1.f2.f4] 96] := HS; have F := HS.boxes; simp only [boxFacts, wrt, clr0, clr1, List.cons_append, List.nil_append, List.append_nil, List.set_cons_zero, List.set_cons_succ, and_true] at F))
 by_cases c5 : a0.f0 = a1.f0
 · replace H := zpos c5 H
   have c5a := beq_iff_eq.mpr c5
   have c5b := bne_eq_false_iff_eq.mpr c5
   clear c5
   (try simp only [c5a, c5b, decide_true, decide_false, Bool.not_true, Bool.not_false])
   obtain ⟨t6, ht6, H⟩ := zbind H
   go_upto_if 15 with (first | ((with_reducible refine gate_dst (N := 14) rfl ?_); refine ev_call rfl Try.func80 (by kernel_rfl) rfl #[.slice Ap0 a0.f1.length cp0, .slice Ap2 a1.f1.length cp2] rfl (by simp only [List.map_toArray, List.map_cons, List.map_nil]; rfl) ?_; refine (laws_eqIntS.calls ht6.out (HS.ro gp0) lp0 (HS.ro gp2) lp2).mono ?_; rintro _ wt6 ⟨rfl, HQ⟩; refine ⟨_, rfl, ?_⟩; replace HS := HS.call HQ; clear HQ; (try clear F); replace HS : Hp noFP w _ [.box g2 [.int .i64 a0.f0, .slice Ap0 a0.f1.length cp0, .int .i64 a0.f2.f0, .slice Ap1 a0.f2.f1.length cp1, .bool a0.f2.f2, .bool a0.f2.f3, .int .i64 a0.f2.f4] 96, .box g3 [.int .i64 a1.f0, .slice Ap2 a1.f1.length cp2, .int .i64 a1.f2.f0, .slice Ap3 a1.f2.f1.length cp3, .bool a1.f2.f2, .bool a1.f2.f3, .int .i64 a1.f2.f4] 96] := HS; have F := HS.boxes; simp only [boxFacts, wrt, clr0, clr1, List.cons_append, List.nil_append, List.append_nil, List.set_cons_zero, List.set_cons_succ, and_true] at F))
   by_cases c8 : t6 = true
   · replace H := zpos c8 H
     (try simp only [c8, decide_true, decide_false, Bool.not_true, Bool.not_false])
     obtain ⟨t9, ht9, H⟩ := zbind H
     go_upto_if 21 with (first | ((with_reducible refine gate_dst (N := 20) rfl ?_); refine ev_call rfl Try.func23 (by kernel_rfl) rfl #[.agg #[.int .i64 a0.f2.f0, .slice Ap1 a0.f2.f1.length cp1, .bool a0.f2.f2, .bool a0.f2.f3, .int .i64 a0.f2.f4], .agg #[.int .i64 a1.f2.f0, .slice Ap3 a1.f2.f1.length cp3, .bool a1.f2.f2, .bool a1.f2.f3, .int .i64 a1.f2.f4]] rfl (by simp only [List.map_toArray, List.map_cons, List.map_nil]; rfl) ?_; refine (laws_eqRules.calls ht9.out (HS.ro gp1) lp1 (HS.ro gp3) lp3).mono ?_; rintro _ wt9 ⟨rfl, HQ⟩; refine ⟨_, rfl, ?_⟩; replace HS := HS.call HQ; clear HQ; (try clear F); replace HS : Hp noFP w _ [.box g2 [.int .i64 a0.f0, .slice Ap0 a0.f1.length cp0, .int .i64 a0.f2.f0, .slice Ap1 a0.f2.f1.length cp1, .bool a0.f2.f2, .bool a0.f2.f3, .int .i64 a0.f2.f4] 96, .box g3 [.int .i64 a1.f0, .slice Ap2 a1.f1.length cp2, .int .i64 a1.f2.f0, .slice Ap3 a1.f2.f1.length cp3, .bool a1.f2.f2, .bool a1.f2.f3, .int .i64 a1.f2.f4] 96] := HS; have F := HS.boxes; simp only [boxFacts, wrt, clr0, clr1, List.cons_append, List.nil_append, List.append_nil, List.set_cons_zero, List.set_cons_succ, and_true] at F))
     by_cases c11 : t9 = true
     · replace H := zpos c11 H
       (try simp only [c11, decide_true, decide_false, Bool.not_true, Bool.not_false])
       obtain rfl := zsome H
       go_wp2
       go_ret
       exact ⟨rfl, HS.pick [] (by decide) (by rfl)⟩
     · replace H := zneg c11 H
       replace c11 := eq_false_of_ne_true c11
       (try simp only [c11, decide_true, decide_false, Bool.not_true, Bool.not_false])
       obtain rfl := zsome H
       go_wp2
       go_ret
       exact ⟨rfl, HS.pick [] (by decide) (by rfl)⟩
   · replace H := zneg c8 H
     replace c8 := eq_false_of_ne_true c8
     (try simp only [c8, decide_true, decide_false, Bool.not_true, Bool.not_false])
     obtain rfl := zsome H
     go_wp2
     go_ret
     exact ⟨rfl, HS.pick [] (by decide) (by rfl)⟩
 · replace H := zneg c5 H
   have c5a := beq_eq_false_iff_ne.mpr c5
   have c5b := bne_iff_ne.mpr c5
   clear c5
   (try simp only [c5a, c5b, decide_true, decide_false, Bool.not_true, Bool.not_false])
   obtain rfl := zsome H
   go_wp2
   go_ret
   exact ⟨rfl, HS.pick [] (by decide) (by rfl)⟩
end Go.Proofs.Ytfeebnbookfpmaa.F

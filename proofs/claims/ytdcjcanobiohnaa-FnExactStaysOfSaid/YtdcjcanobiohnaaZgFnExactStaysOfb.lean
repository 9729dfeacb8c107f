/- Functions of the program and of the law, and that their calls do what is written here. -/
import Derived.Test.YtdcjcanobiohnaaZgFnExactStaysOfa
namespace Go.Proofs.Ytdcjcanobiohnaa.F
open Go.RowKit Go.Proofs.YtdcjcanobiohnaaW.PrintWords Go.Proofs.YtdcjcanobiohnaaW.PrintLast Go.Proofs.YtdcjcanobiohnaaW.PrintMore Go.Proofs.Ytdcjcanobiohnaa.Z
attribute [local go_sem] max2_int min2_int max_two min_two max_three min_three max_four min_four
set_option linter.unusedVariables false
set_option linter.unusedSimpArgs false
set_option maxRecDepth 100000
/-! ### laws_eqIntS: function 14 -/
def laws_eqIntS.l0 : Nat → Int → (List Int) → (List Int) → Option (Bool)
  | 0, _, _, _ => none
  | k + 1, x5, a0, a1 => (if x5 < (a0.length : Int) then (if 0 ≤ x5 then (if x5 < (a0.length : Int) then (if x5 < (a1.length : Int) then (if (rd a0 x5) = (rd a1 x5) then (laws_eqIntS.l0 k (wrap64 (x5 + 1)) a0 a1) else (some false)) else none) else none) else none) else (some true))
def laws_eqIntS.f (k : Nat) (a0 : (List Int)) (a1 : (List Int)) : Option (Bool) := (if (a0.length : Int) = (a1.length : Int) then (laws_eqIntS.l0 k 0 a0 a1) else (some false))
def laws_eqIntS.T6 : Bool × List (List Nat × List Nat) := (true, [([], []), ([], []), ([0, 1], [0, 1]), ([2], [2]), ([], []), ([], []), ([4, 5], [4, 5]), ([6], [6]), ([3, 7], [3, 7])])
theorem laws_eqIntS.tT6 : rtab .any (opsOf Try.f14 6) = laws_eqIntS.T6 := by kernel_rfl
set_option maxHeartbeats 16000000 in
theorem laws_eqIntS.calls {k : Nat} {a0 : (List Int)} {a1 : (List Int)} {Ap0 : Option Addr} {np0 cp0 : Nat} {Ap1 : Option Addr} {np1 cp1 : Nat} {r : Bool} {w : World} (h : laws_eqIntS.f k a0 a1 = some r) (gp0 : (Kd.int .i64).C w Ap0 np0 a0) (lp0 : np0 ≤ cp0) (gp1 : (Kd.int .i64).C w Ap1 np1 a1) (lp1 : np1 ≤ cp1) :
    Calls Try.prog 14 #[.slice Ap0 np0 cp0, .slice Ap1 np1 cp1] w (fun e w' => e = .returned (.bool r) ∧ Hp noFP w w' []) := by
 obtain rfl := C_len gp0
 obtain rfl := C_len gp1
 have HS := Hp.start w
 have H := Aside0.mk h
 clear h
 unfold laws_eqIntS.f at H
 go_enter Try.func14, Try.ntmps14
 by_cases c1 : (a0.length : Int) = (a1.length : Int)
 · replace H := zpos c1 H
   have c1a := beq_iff_eq.mpr c1
   have c1b := bne_eq_false_iff_eq.mpr c1
   clear c1
   go_wp2
   go_loopg [5] k (fun kq v_5 w' => ∃ (x5 : Int), v_5 = .int .i64 x5 ∧ Aside0 (laws_eqIntS.l0 kq x5 a0 a1 = some r) ∧ Aside0 (kq ≤ k) ∧ Hp noFP w w' [])
   case atStart => exact ⟨_, rfl, H, ⟨Nat.le_refl _⟩, HS⟩
   case round =>
    clear HS H; (try clear F)
    obtain ⟨x5, rfl, H, HKk4, HS⟩ := hrel
    cases gk with
    | zero => exact absurd H.out (by simp [laws_eqIntS.l0])
    | succ k4 =>
     simp only [laws_eqIntS.l0] at H
     by_cases c7 : x5 < (a0.length : Int)
     · replace H := zpos c7 H
       replace c7 := eq_true c7
       (try go_wp2)
       by_cases c102001 : 0 ≤ x5
       case neg => exact zno c102001 H
       replace H := zpos c102001 H
       replace c102001 := eq_true c102001
       by_cases c102002 : x5 < (a0.length : Int)
       case neg => exact zno c102002 H
       replace H := zpos c102002 H
       replace c102002 := eq_true c102002
       obtain ⟨ad102003, rfl, e102003_0⟩ := Kd.at_int gp0 x5 (of_eq_true c102001) (of_eq_true c102002)
       by_cases c106001 : x5 < (a1.length : Int)
       case neg => exact zno c106001 H
       replace H := zpos c106001 H
       replace c106001 := eq_true c106001
       obtain ⟨ad106002, rfl, e106002_0⟩ := Kd.at_int gp1 x5 (of_eq_true c102001) (of_eq_true c106001)
       refine dr_start [] HS #[false, false, false, false, false, false, false, false, false] (by kernel_rfl) rfl rfl laws_eqIntS.tT6 (fun w9 HT HS HH => ?_)
       (try clear F)
       refine drq_of [(0, some 17), (1, some 18), (2, some 19)] ?_
       repeat (first | (refine drq_pure HT (v := ?_) (a' := ?_) rfl rfl (by kernel_rfl) (fun _ _ _ h => h) (.inl ⟨by rfl, ?_⟩) ?_ ?_; rotate_left; (intro w'; go_simp; with_reducible rfl); rotate_left; (simp only [Act.put, List.setIfInBounds_toArray, List.set_cons_zero, List.set_cons_succ, i64_w, i32_w]; rfl)))
       refine drq_end ?_
       refine dr_take 3 (some 20) HT HH (v := ?_) (a' := ?_) rfl rfl (by kernel_rfl) (fun _ _ _ h => h) (.inl ⟨by rfl, ?_⟩) ?_ ?_
       rotate_left
       · rintro w' ⟨rs', HS'⟩; have e102003_0 := (HS'.keepc e102003_0); go_simp; with_reducible rfl
       rotate_left
       · simp only [Act.put, List.setIfInBounds_toArray, List.set_cons_zero, List.set_cons_succ, i64_w, i32_w]; rfl
       refine drq_of [(4, some 21), (5, some 22), (6, some 23)] ?_
       repeat (first | (refine drq_pure HT (v := ?_) (a' := ?_) rfl rfl (by kernel_rfl) (fun _ _ _ h => h) (.inl ⟨by rfl, ?_⟩) ?_ ?_; rotate_left; (intro w'; go_simp; with_reducible rfl); rotate_left; (simp only [Act.put, List.setIfInBounds_toArray, List.set_cons_zero, List.set_cons_succ, i64_w, i32_w]; rfl)))
       refine drq_end ?_
       refine dr_take 7 (some 24) HT HH (v := ?_) (a' := ?_) rfl rfl (by kernel_rfl) (fun _ _ _ h => h) (.inl ⟨by rfl, ?_⟩) ?_ ?_
       rotate_left
       · rintro w' ⟨rs', HS'⟩; have e106002_0 := (HS'.keepc e106002_0); go_simp; with_reducible rfl
       rotate_left
       · simp only [Act.put, List.setIfInBounds_toArray, List.set_cons_zero, List.set_cons_succ, i64_w, i32_w]; rfl
       refine drq_of [(8, some 25)] ?_
       repeat (first | (refine drq_pure HT (v := ?_) (a' := ?_) rfl rfl (by kernel_rfl) (fun _ _ _ h => h) (.inl ⟨by rfl, ?_⟩) ?_ ?_; rotate_left; (intro w'; go_simp; with_reducible rfl); rotate_left; (simp only [Act.put, List.setIfInBounds_toArray, List.set_cons_zero, List.set_cons_succ, i64_w, i32_w]; rfl)))
       refine drq_end ?_
       refine done_ (done_of HT.out (by kernel_rfl)) ?_
       by_cases c11 : (rd a0 x5) = (rd a1 x5)
       · replace H := zpos c11 H
         have c11a := beq_iff_eq.mpr c11
         have c11b := bne_eq_false_iff_eq.mpr c11
         clear c11
         (try simp only [c11a, c11b, decide_true, decide_false, Bool.not_true, Bool.not_false])
         go_wp2
         go_roundg k4
         case measure => have := HKk4.out; omega
         case rel => exact ⟨_, rfl, H, ⟨by have := HKk4.out; omega⟩, HS.pick [] (by decide) (by rfl)⟩
       · replace H := zneg c11 H
         have c11a := beq_eq_false_iff_ne.mpr c11
         have c11b := bne_iff_ne.mpr c11
         clear c11
         (try simp only [c11a, c11b, decide_true, decide_false, Bool.not_true, Bool.not_false])
         obtain rfl := zsome H
         go_wp2
         go_ret
         exact ⟨rfl, HS.pick [] (by decide) (by rfl)⟩
     · replace H := zneg c7 H
       replace c7 := eq_false c7
       obtain rfl := zsome H
       go_wp2
       go_ret
       exact ⟨rfl, HS.pick [] (by decide) (by rfl)⟩
 · replace H := zneg c1 H
   have c1a := beq_eq_false_iff_ne.mpr c1
   have c1b := bne_iff_ne.mpr c1
   clear c1
   obtain rfl := zsome H
   go_wp2
   go_ret
   exact ⟨rfl, HS.pick [] (by decide) (by rfl)⟩
/-! ### laws_eqStringS: function 96 -/
def laws_eqStringS.l0 : Nat → Int → (List ByteArray) → (List ByteArray) → Option (Bool)
  | 0, _, _, _ => none
  | k + 1, x5, a0, a1 => (if x5 < (a0.length : Int) then (if 0 ≤ x5 then (if x5 < (a0.length : Int) then (if x5 < (a1.length : Int) then (if (rdOf ByteArray.empty a0 x5).toList = (rdOf ByteArray.empty a1 x5).toList then (laws_eqStringS.l0 k (wrap64 (x5 + 1)) a0 a1) else (some false)) else none) else none) else none) else (some true))
def laws_eqStringS.f (k : Nat) (a0 : (List ByteArray)) (a1 : (List ByteArray)) : Option (Bool) := (if (a0.length : Int) = (a1.length : Int) then (laws_eqStringS.l0 k 0 a0 a1) else (some false))
def laws_eqStringS.T6 : Bool × List (List Nat × List Nat) := (true, [([], []), ([], []), ([0, 1], [0, 1]), ([2], [2]), ([], []), ([], []), ([4, 5], [4, 5]), ([6], [6]), ([3, 7], [3, 7])])
theorem laws_eqStringS.tT6 : rtab .any (opsOf Try.f96 6) = laws_eqStringS.T6 := by kernel_rfl
set_option maxHeartbeats 16000000 in
theorem laws_eqStringS.calls {k : Nat} {a0 : (List ByteArray)} {a1 : (List ByteArray)} {Ap0 : Option Addr} {np0 cp0 : Nat} {Ap1 : Option Addr} {np1 cp1 : Nat} {r : Bool} {w : World} (h : laws_eqStringS.f k a0 a1 = some r) (gp0 : Kd.string.C w Ap0 np0 a0) (lp0 : np0 ≤ cp0) (gp1 : Kd.string.C w Ap1 np1 a1) (lp1 : np1 ≤ cp1) :
    Calls Try.prog 96 #[.slice Ap0 np0 cp0, .slice Ap1 np1 cp1] w (fun e w' => e = .returned (.bool r) ∧ Hp noFP w w' []) := by
 obtain rfl := C_len gp0
 obtain rfl := C_len gp1
 have HS := Hp.start w
 have H := Aside0.mk h
 clear h
 unfold laws_eqStringS.f at H
 go_enter Try.func96, Try.ntmps96
 by_cases c1 : (a0.length : Int) = (a1.length : Int)
 · replace H := zpos c1 H
   have c1a := beq_iff_eq.mpr c1
   have c1b := bne_eq_false_iff_eq.mpr c1
   clear c1
   go_wp2
   go_loopg [5] k (fun kq v_5 w' => ∃ (x5 : Int), v_5 = .int .i64 x5 ∧ Aside0 (laws_eqStringS.l0 kq x5 a0 a1 = some r) ∧ Aside0 (kq ≤ k) ∧ Hp noFP w w' [])
   case atStart => exact ⟨_, rfl, H, ⟨Nat.le_refl _⟩, HS⟩
   case round =>
    clear HS H; (try clear F)
    obtain ⟨x5, rfl, H, HKk4, HS⟩ := hrel
    cases gk with
    | zero => exact absurd H.out (by simp [laws_eqStringS.l0])
    | succ k4 =>
     simp only [laws_eqStringS.l0] at H
     by_cases c7 : x5 < (a0.length : Int)
     · replace H := zpos c7 H
       replace c7 := eq_true c7
       (try go_wp2)
       by_cases c102001 : 0 ≤ x5
       case neg => exact zno c102001 H
       replace H := zpos c102001 H
       replace c102001 := eq_true c102001
       by_cases c102002 : x5 < (a0.length : Int)
       case neg => exact zno c102002 H
       replace H := zpos c102002 H
       replace c102002 := eq_true c102002
       obtain ⟨ad102003, rfl, e102003_0⟩ := Kd.at_string gp0 x5 (of_eq_true c102001) (of_eq_true c102002)
       by_cases c106001 : x5 < (a1.length : Int)
       case neg => exact zno c106001 H
       replace H := zpos c106001 H
       replace c106001 := eq_true c106001
       obtain ⟨ad106002, rfl, e106002_0⟩ := Kd.at_string gp1 x5 (of_eq_true c102001) (of_eq_true c106001)
       refine dr_start [] HS #[false, false, false, false, false, false, false, false, false] (by kernel_rfl) rfl rfl laws_eqStringS.tT6 (fun w9 HT HS HH => ?_)
       (try clear F)
       refine drq_of [(0, some 17), (1, some 18), (2, some 19)] ?_
       repeat (first | (refine drq_pure HT (v := ?_) (a' := ?_) rfl rfl (by kernel_rfl) (fun _ _ _ h => h) (.inl ⟨by rfl, ?_⟩) ?_ ?_; rotate_left; (intro w'; go_simp; with_reducible rfl); rotate_left; (simp only [Act.put, List.setIfInBounds_toArray, List.set_cons_zero, List.set_cons_succ, i64_w, i32_w]; rfl)))
       refine drq_end ?_
       refine dr_take 3 (some 20) HT HH (v := ?_) (a' := ?_) rfl rfl (by kernel_rfl) (fun _ _ _ h => h) (.inl ⟨by rfl, ?_⟩) ?_ ?_
       rotate_left
       · rintro w' ⟨rs', HS'⟩; have e102003_0 := (HS'.keepc e102003_0); go_simp; with_reducible rfl
       rotate_left
       · simp only [Act.put, List.setIfInBounds_toArray, List.set_cons_zero, List.set_cons_succ, i64_w, i32_w]; rfl
       refine drq_of [(4, some 21), (5, some 22), (6, some 23)] ?_
       repeat (first | (refine drq_pure HT (v := ?_) (a' := ?_) rfl rfl (by kernel_rfl) (fun _ _ _ h => h) (.inl ⟨by rfl, ?_⟩) ?_ ?_; rotate_left; (intro w'; go_simp; with_reducible rfl); rotate_left; (simp only [Act.put, List.setIfInBounds_toArray, List.set_cons_zero, List.set_cons_succ, i64_w, i32_w]; rfl)))
       refine drq_end ?_
       refine dr_take 7 (some 24) HT HH (v := ?_) (a' := ?_) rfl rfl (by kernel_rfl) (fun _ _ _ h => h) (.inl ⟨by rfl, ?_⟩) ?_ ?_
       rotate_left
       · rintro w' ⟨rs', HS'⟩; have e106002_0 := (HS'.keepc e106002_0); go_simp; with_reducible rfl
       rotate_left
       · simp only [Act.put, List.setIfInBounds_toArray, List.set_cons_zero, List.set_cons_succ, i64_w, i32_w]; rfl
       refine drq_of [(8, some 25)] ?_
       repeat (first | (refine drq_pure HT (v := ?_) (a' := ?_) rfl rfl (by kernel_rfl) (fun _ _ _ h => h) (.inl ⟨by rfl, ?_⟩) ?_ ?_; rotate_left; (intro w'; go_simp; with_reducible rfl); rotate_left; (simp only [Act.put, List.setIfInBounds_toArray, List.set_cons_zero, List.set_cons_succ, i64_w, i32_w]; rfl)))
       refine drq_end ?_
       refine done_ (done_of HT.out (by kernel_rfl)) ?_
       by_cases c11 : (rdOf ByteArray.empty a0 x5).toList = (rdOf ByteArray.empty a1 x5).toList
       · replace H := zpos c11 H
         have c11a := beq_iff_eq.mpr c11
         have c11b := bne_eq_false_iff_eq.mpr c11
         clear c11
         (try simp only [c11a, c11b, decide_true, decide_false, Bool.not_true, Bool.not_false])
         go_wp2
         go_roundg k4
         case measure => have := HKk4.out; omega
         case rel => exact ⟨_, rfl, H, ⟨by have := HKk4.out; omega⟩, HS.pick [] (by decide) (by rfl)⟩
       · replace H := zneg c11 H
         have c11a := beq_eq_false_iff_ne.mpr c11
         have c11b := bne_iff_ne.mpr c11
         clear c11
         (try simp only [c11a, c11b, decide_true, decide_false, Bool.not_true, Bool.not_false])
         obtain rfl := zsome H
         go_wp2
         go_ret
         exact ⟨rfl, HS.pick [] (by decide) (by rfl)⟩
     · replace H := zneg c7 H
       replace c7 := eq_false c7
       obtain rfl := zsome H
       go_wp2
       go_ret
       exact ⟨rfl, HS.pick [] (by decide) (by rfl)⟩
 · replace H := zneg c1 H
   have c1a := beq_eq_false_iff_ne.mpr c1
   have c1b := bne_iff_ne.mpr c1
   clear c1
   obtain rfl := zsome H
   go_wp2
   go_ret
   exact ⟨rfl, HS.pick [] (by decide) (by rfl)⟩
/-! ### laws_eqCert: function 54 -/
def laws_eqCert.f (k : Nat) (a0 : S94) (a1 : S94) : Option (Bool) := (if a0.f0 = a1.f0 then (if a0.f1.toList = a1.f1.toList then (if a0.f2.toList = a1.f2.toList then (if a0.f3 = a1.f3 then (if a0.f4 = a1.f4 then (if a0.f5.toList = a1.f5.toList then (if a0.f6 = a1.f6 then (if a0.f7 = a1.f7 then (if a0.f8 = a1.f8 then ((laws_eqIntS.f k a0.f9 a1.f9).bind fun t14 => (if t14 = true then ((laws_eqStringS.f k a0.f10 a1.f10).bind fun t17 => (if t17 = true then ((laws_eqStringS.f k a0.f11 a1.f11).bind fun t20 => (if t20 = true then (if a0.f12.toList = a1.f12.toList then (some true) else (some false)) else (some false))) else (some false))) else (some false))) else (some false)) else (some false)) else (some false)) else (some false)) else (some false)) else (some false)) else (some false)) else (some false)) else (some false))
set_option maxHeartbeats 16000000 in
theorem laws_eqCert.calls {k : Nat} {a0 : S94} {a1 : S94} {Ap0 : Option Addr} {np0 cp0 : Nat} {Ap1 : Option Addr} {np1 cp1 : Nat} {Ap2 : Option Addr} {np2 cp2 : Nat} {Ap3 : Option Addr} {np3 cp3 : Nat} {Ap4 : Option Addr} {np4 cp4 : Nat} {Ap5 : Option Addr} {np5 cp5 : Nat} {r : Bool} {w : World} (h : laws_eqCert.f k a0 a1 = some r) (gp0 : (Kd.int .i64).C w Ap0 np0 a0.f9) (lp0 : np0 ≤ cp0) (gp1 : Kd.string.C w Ap1 np1 a0.f10) (lp1 : np1 ≤ cp1) (gp2 : Kd.string.C w Ap2 np2 a0.f11) (lp2 : np2 ≤ cp2) (gp3 : (Kd.int .i64).C w Ap3 np3 a1.f9) (lp3 : np3 ≤ cp3) (gp4 : Kd.string.C w Ap4 np4 a1.f10) (lp4 : np4 ≤ cp4) (gp5 : Kd.string.C w Ap5 np5 a1.f11) (lp5 : np5 ≤ cp5) :
    Calls Try.prog 54 #[.agg #[.int .i64 a0.f0, .string a0.f1, .string a0.f2, .int .i64 a0.f3, .int .i64 a0.f4, .string a0.f5, .bool a0.f6, .int .i64 a0.f7, .int .i64 a0.f8, .slice Ap0 np0 cp0, .slice Ap1 np1 cp1, .slice Ap2 np2 cp2, .string a0.f12], .agg #[.int .i64 a1.f0, .string a1.f1, .string a1.f2, .int .i64 a1.f3, .int .i64 a1.f4, .string a1.f5, .bool a1.f6, .int .i64 a1.f7, .int .i64 a1.f8, .slice Ap3 np3 cp3, .slice Ap4 np4 cp4, .slice Ap5 np5 cp5, .string a1.f12]] w (fun e w' => e = .returned (.bool r) ∧ Hp noFP w w' []) := by
 obtain rfl := C_len gp0
 obtain rfl := C_len gp1
 obtain rfl := C_len gp2
 obtain rfl := C_len gp3
 obtain rfl := C_len gp4
 obtain rfl := C_len gp5
 have HS := Hp.start w
 have H := Aside0.mk h
 clear h
 unfold laws_eqCert.f at H
 go_enter Try.func54, Try.ntmps54
 go_upto_if 9 with (first | ((with_reducible refine gate_dst (N := 2) rfl ?_); refine ev_box rfl HS (by first | (go_simp; done) | (go_simp; rfl)) rfl ?_; clear HS; (try clear F); intro g2 w2 HS; replace HS : Hp noFP w _ [.box g2 [.int .i64 a0.f0, .string a0.f1, .string a0.f2, .int .i64 a0.f3, .int .i64 a0.f4, .string a0.f5, .bool a0.f6, .int .i64 a0.f7, .int .i64 a0.f8, .slice Ap0 a0.f9.length cp0, .slice Ap1 a0.f10.length cp1, .slice Ap2 a0.f11.length cp2, .string a0.f12] 94] := HS; have F := HS.boxes; simp only [boxFacts, and_true] at F) | ((with_reducible refine gate_dst (N := 3) rfl ?_); refine ev_box rfl HS (by first | (go_simp; done) | (go_simp; rfl)) rfl ?_; clear HS; (try clear F); intro g3 w3 HS; replace HS : Hp noFP w _ [.box g2 [.int .i64 a0.f0, .string a0.f1, .string a0.f2, .int .i64 a0.f3, .int .i64 a0.f4, .string a0.f5, .bool a0.f6, .int .i64 a0.f7, .int .i64 a0.f8, .slice Ap0 a0.f9.length cp0, .slice Ap1 a0.f10.length cp1, .slice Ap2 a0.f11.length cp2, .string a0.f12] 94, .box g3 [.int .i64 a1.f0, .string a1.f1, .string a1.f2, .int .i64 a1.f3, .int .i64 a1.f4, .string a1.f5, .bool a1.f6, .int .i64 a1.f7, .int .i64 a1.f8, .slice Ap3 a1.f9.length cp3, .slice Ap4 a1.f10.length cp4, .slice Ap5 a1.f11.length cp5, .string a1.f12] 94] := HS; have F := HS.boxes; simp only [boxFacts, and_true] at F))
 by_cases c5 : a0.f0 = a1.f0
 · replace H := zpos c5 H
   have c5a := beq_iff_eq.mpr c5
   have c5b := bne_eq_false_iff_eq.mpr c5
   clear c5
   (try simp only [c5a, c5b, decide_true, decide_false, Bool.not_true, Bool.not_false])
   by_cases c6 : a0.f1.toList = a1.f1.toList
   · replace H := zpos c6 H
     have c6a := beq_iff_eq.mpr c6
     have c6b := bne_eq_false_iff_eq.mpr c6
     clear c6
     by_cases c7 : a0.f2.toList = a1.f2.toList
     · replace H := zpos c7 H
       have c7a := beq_iff_eq.mpr c7
       have c7b := bne_eq_false_iff_eq.mpr c7
       clear c7
       by_cases c8 : a0.f3 = a1.f3
       · replace H := zpos c8 H
         have c8a := beq_iff_eq.mpr c8
         have c8b := bne_eq_false_iff_eq.mpr c8
         clear c8
         by_cases c9 : a0.f4 = a1.f4
         · replace H := zpos c9 H
           have c9a := beq_iff_eq.mpr c9
           have c9b := bne_eq_false_iff_eq.mpr c9
           clear c9
           by_cases c10 : a0.f5.toList = a1.f5.toList
           · replace H := zpos c10 H
             have c10a := beq_iff_eq.mpr c10
             have c10b := bne_eq_false_iff_eq.mpr c10
             clear c10
             by_cases c11 : a0.f6 = a1.f6
             · replace H := zpos c11 H
               have c11a := beq_iff_eq.mpr c11
               have c11b := bne_eq_false_iff_eq.mpr c11
               clear c11
               by_cases c12 : a0.f7 = a1.f7
               · replace H := zpos c12 H
                 have c12a := beq_iff_eq.mpr c12
                 have c12b := bne_eq_false_iff_eq.mpr c12
                 clear c12
                 by_cases c13 : a0.f8 = a1.f8
                 · replace H := zpos c13 H
                   have c13a := beq_iff_eq.mpr c13
                   have c13b := bne_eq_false_iff_eq.mpr c13
                   clear c13
                   replace H := zbind H; obtain ⟨t14, ht14, H⟩ := H
                   go_upto_if 55 with (first | ((with_reducible refine gate_dst (N := 54) rfl ?_); refine ev_call rfl Try.func14 (by kernel_rfl) rfl #[.slice Ap0 a0.f9.length cp0, .slice Ap3 a1.f9.length cp3] rfl (by simp only [List.map_toArray, List.map_cons, List.map_nil]; rfl) ?_; refine (laws_eqIntS.calls ht14.out (HS.ro gp0) lp0 (HS.ro gp3) lp3).mono ?_; rintro _ wt14 ⟨rfl, HQ⟩; refine ⟨_, rfl, ?_⟩; replace HS := HS.call HQ; clear HQ; (try clear F); replace HS : Hp noFP w _ [.box g2 [.int .i64 a0.f0, .string a0.f1, .string a0.f2, .int .i64 a0.f3, .int .i64 a0.f4, .string a0.f5, .bool a0.f6, .int .i64 a0.f7, .int .i64 a0.f8, .slice Ap0 a0.f9.length cp0, .slice Ap1 a0.f10.length cp1, .slice Ap2 a0.f11.length cp2, .string a0.f12] 94, .box g3 [.int .i64 a1.f0, .string a1.f1, .string a1.f2, .int .i64 a1.f3, .int .i64 a1.f4, .string a1.f5, .bool a1.f6, .int .i64 a1.f7, .int .i64 a1.f8, .slice Ap3 a1.f9.length cp3, .slice Ap4 a1.f10.length cp4, .slice Ap5 a1.f11.length cp5, .string a1.f12] 94] := HS; have F := HS.boxes; simp only [boxFacts, and_true] at F))
                   by_cases c16 : t14 = true
                   · replace H := zpos c16 H
                     subst c16
                     (try simp only [decide_true, decide_false, Bool.not_true, Bool.not_false, if_true, Bool.false_eq_true, if_false])
                     replace H := zbind H; obtain ⟨t17, ht17, H⟩ := H
                     go_upto_if 61 with (first | ((with_reducible refine gate_dst (N := 60) rfl ?_); refine ev_call rfl Try.func96 (by kernel_rfl) rfl #[.slice Ap1 a0.f10.length cp1, .slice Ap4 a1.f10.length cp4] rfl (by simp only [List.map_toArray, List.map_cons, List.map_nil]; rfl) ?_; refine (laws_eqStringS.calls ht17.out (HS.ro gp1) lp1 (HS.ro gp4) lp4).mono ?_; rintro _ wt17 ⟨rfl, HQ⟩; refine ⟨_, rfl, ?_⟩; replace HS := HS.call HQ; clear HQ; (try clear F); replace HS : Hp noFP w _ [.box g2 [.int .i64 a0.f0, .string a0.f1, .string a0.f2, .int .i64 a0.f3, .int .i64 a0.f4, .string a0.f5, .bool a0.f6, .int .i64 a0.f7, .int .i64 a0.f8, .slice Ap0 a0.f9.length cp0, .slice Ap1 a0.f10.length cp1, .slice Ap2 a0.f11.length cp2, .string a0.f12] 94, .box g3 [.int .i64 a1.f0, .string a1.f1, .string a1.f2, .int .i64 a1.f3, .int .i64 a1.f4, .string a1.f5, .bool a1.f6, .int .i64 a1.f7, .int .i64 a1.f8, .slice Ap3 a1.f9.length cp3, .slice Ap4 a1.f10.length cp4, .slice Ap5 a1.f11.length cp5, .string a1.f12] 94] := HS; have F := HS.boxes; simp only [boxFacts, and_true] at F))
                     by_cases c19 : t17 = true
                     · replace H := zpos c19 H
                       subst c19
                       (try simp only [decide_true, decide_false, Bool.not_true, Bool.not_false, if_true, Bool.false_eq_true, if_false])
                       replace H := zbind H; obtain ⟨t20, ht20, H⟩ := H
                       go_upto_if 67 with (first | ((with_reducible refine gate_dst (N := 66) rfl ?_); refine ev_call rfl Try.func96 (by kernel_rfl) rfl #[.slice Ap2 a0.f11.length cp2, .slice Ap5 a1.f11.length cp5] rfl (by simp only [List.map_toArray, List.map_cons, List.map_nil]; rfl) ?_; refine (laws_eqStringS.calls ht20.out (HS.ro gp2) lp2 (HS.ro gp5) lp5).mono ?_; rintro _ wt20 ⟨rfl, HQ⟩; refine ⟨_, rfl, ?_⟩; replace HS := HS.call HQ; clear HQ; (try clear F); replace HS : Hp noFP w _ [.box g2 [.int .i64 a0.f0, .string a0.f1, .string a0.f2, .int .i64 a0.f3, .int .i64 a0.f4, .string a0.f5, .bool a0.f6, .int .i64 a0.f7, .int .i64 a0.f8, .slice Ap0 a0.f9.length cp0, .slice Ap1 a0.f10.length cp1, .slice Ap2 a0.f11.length cp2, .string a0.f12] 94, .box g3 [.int .i64 a1.f0, .string a1.f1, .string a1.f2, .int .i64 a1.f3, .int .i64 a1.f4, .string a1.f5, .bool a1.f6, .int .i64 a1.f7, .int .i64 a1.f8, .slice Ap3 a1.f9.length cp3, .slice Ap4 a1.f10.length cp4, .slice Ap5 a1.f11.length cp5, .string a1.f12] 94] := HS; have F := HS.boxes; simp only [boxFacts, and_true] at F))
                       by_cases c22 : t20 = true
                       · replace H := zpos c22 H
                         subst c22
                         (try simp only [decide_true, decide_false, Bool.not_true, Bool.not_false, if_true, Bool.false_eq_true, if_false])
                         by_cases c23 : a0.f12.toList = a1.f12.toList
                         · replace H := zpos c23 H
                           have c23a := beq_iff_eq.mpr c23
                           have c23b := bne_eq_false_iff_eq.mpr c23
                           clear c23
                           obtain rfl := zsome H
                           go_wp2
                           go_ret
                           exact ⟨rfl, HS.pick [] (by decide) (by rfl)⟩
                         · replace H := zneg c23 H
                           have c23a := beq_eq_false_iff_ne.mpr c23
                           have c23b := bne_iff_ne.mpr c23
                           clear c23
                           obtain rfl := zsome H
                           go_wp2
                           go_ret
                           exact ⟨rfl, HS.pick [] (by decide) (by rfl)⟩
                       · replace H := zneg c22 H
                         replace c22 := eq_false_of_ne_true c22
                         subst c22
                         (try simp only [decide_true, decide_false, Bool.not_true, Bool.not_false, if_true, Bool.false_eq_true, if_false])
                         obtain rfl := zsome H
                         go_wp2
                         go_ret
                         exact ⟨rfl, HS.pick [] (by decide) (by rfl)⟩
                     · replace H := zneg c19 H
                       replace c19 := eq_false_of_ne_true c19
                       subst c19
                       (try simp only [decide_true, decide_false, Bool.not_true, Bool.not_false, if_true, Bool.false_eq_true, if_false])
                       obtain rfl := zsome H
                       go_wp2
                       go_ret
                       exact ⟨rfl, HS.pick [] (by decide) (by rfl)⟩
                   · replace H := zneg c16 H
                     replace c16 := eq_false_of_ne_true c16
                     subst c16
                     (try simp only [decide_true, decide_false, Bool.not_true, Bool.not_false, if_true, Bool.false_eq_true, if_false])
                     obtain rfl := zsome H
                     go_wp2
                     go_ret
                     exact ⟨rfl, HS.pick [] (by decide) (by rfl)⟩
                 · replace H := zneg c13 H
                   have c13a := beq_eq_false_iff_ne.mpr c13
                   have c13b := bne_iff_ne.mpr c13
                   clear c13
                   obtain rfl := zsome H
                   go_wp2
                   go_ret
                   exact ⟨rfl, HS.pick [] (by decide) (by rfl)⟩
               · replace H := zneg c12 H
                 have c12a := beq_eq_false_iff_ne.mpr c12
                 have c12b := bne_iff_ne.mpr c12
                 clear c12
                 obtain rfl := zsome H
                 go_wp2
                 go_ret
                 exact ⟨rfl, HS.pick [] (by decide) (by rfl)⟩
             · replace H := zneg c11 H
               have c11a := beq_eq_false_iff_ne.mpr c11
               have c11b := bne_iff_ne.mpr c11
               clear c11
               obtain rfl := zsome H
               go_wp2
               go_ret
               exact ⟨rfl, HS.pick [] (by decide) (by rfl)⟩
           · replace H := zneg c10 H
             have c10a := beq_eq_false_iff_ne.mpr c10
             have c10b := bne_iff_ne.mpr c10
             clear c10
             obtain rfl := zsome H
             go_wp2
             go_ret
             exact ⟨rfl, HS.pick [] (by decide) (by rfl)⟩
         · replace H := zneg c9 H
           have c9a := beq_eq_false_iff_ne.mpr c9
           have c9b := bne_iff_ne.mpr c9
           clear c9
           obtain rfl := zsome H
           go_wp2
           go_ret
           exact ⟨rfl, HS.pick [] (by decide) (by rfl)⟩
       · replace H := zneg c8 H
         have c8a := beq_eq_false_iff_ne.mpr c8
         have c8b := bne_iff_ne.mpr c8
         clear c8
         obtain rfl := zsome H
         go_wp2
         go_ret
         exact ⟨rfl, HS.pick [] (by decide) (by rfl)⟩
     · replace H := zneg c7 H
       have c7a := beq_eq_false_iff_ne.mpr c7
       have c7b := bne_iff_ne.mpr c7
       clear c7
       obtain rfl := zsome H
       go_wp2
       go_ret
       exact ⟨rfl, HS.pick [] (by decide) (by rfl)⟩
   · replace H := zneg c6 H
     have c6a := beq_eq_false_iff_ne.mpr c6
     have c6b := bne_iff_ne.mpr c6
     clear c6
     obtain rfl := zsome H
     go_wp2
     go_ret
     exact ⟨rfl, HS.pick [] (by decide) (by rfl)⟩
 · replace H := zneg c5 H
   have c5a := beq_eq_false_iff_ne.mpr c5
   have c5b := bne_iff_ne.mpr c5
   clear c5
   (try simp only [c5a, c5b, decide_true, decide_false, Bool.not_true, Bool.not_false])
   obtain rfl := zsome H
   go_wp2
   go_ret
   exact ⟨rfl, HS.pick [] (by decide) (by rfl)⟩
/-! ### laws_eqCertS: function 15 -/
def laws_eqCertS.l0 : Nat → Int → (List S94) → (List S94) → Option (Bool)
  | 0, _, _, _ => none
  | k + 1, x5, a0, a1 => (if x5 < (a0.length : Int) then (if 0 ≤ x5 then (if x5 < (a0.length : Int) then (if x5 < (a1.length : Int) then ((laws_eqCert.f k (rd_T94 a0 x5) (rd_T94 a1 x5)).bind fun t108001 => (if t108001 = true then (laws_eqCertS.l0 k (wrap64 (x5 + 1)) a0 a1) else (some false))) else none) else none) else none) else (some true))
def laws_eqCertS.f (k : Nat) (a0 : (List S94)) (a1 : (List S94)) : Option (Bool) := (if (a0.length : Int) = (a1.length : Int) then (laws_eqCertS.l0 k 0 a0 a1) else (some false))
def laws_eqCertS.T6 : Bool × List (List Nat × List Nat) := (true, [([], []), ([], []), ([0, 1], [0, 1]), ([2], [2]), ([], []), ([], []), ([4, 5], [4, 5]), ([6], [6]), ([3, 7], [3, 7]), ([8], [8])])
theorem laws_eqCertS.tT6 : rtab .any (opsOf Try.f15 6) = laws_eqCertS.T6 := by kernel_rfl
set_option maxHeartbeats 16000000 in
theorem laws_eqCertS.calls {k : Nat} {a0 : (List S94)} {a1 : (List S94)} {Ap0 : Option Addr} {np0 cp0 : Nat} {Ap1 : Option Addr} {np1 cp1 : Nat} {r : Bool} {w : World} (h : laws_eqCertS.f k a0 a1 = some r) (gp0 : k94.C w Ap0 np0 a0) (lp0 : np0 ≤ cp0) (gp1 : k94.C w Ap1 np1 a1) (lp1 : np1 ≤ cp1) :
    Calls Try.prog 15 #[.slice Ap0 np0 cp0, .slice Ap1 np1 cp1] w (fun e w' => e = .returned (.bool r) ∧ Hp noFP w w' []) := by
 obtain rfl := C_len gp0
 obtain rfl := C_len gp1
 have HS := Hp.start w
 have H := Aside0.mk h
 clear h
 unfold laws_eqCertS.f at H
 go_enter Try.func15, Try.ntmps15
 by_cases c1 : (a0.length : Int) = (a1.length : Int)
 · replace H := zpos c1 H
   have c1a := beq_iff_eq.mpr c1
   have c1b := bne_eq_false_iff_eq.mpr c1
   clear c1
   go_wp2
   go_loopg [5] k (fun kq v_5 w' => ∃ (x5 : Int), v_5 = .int .i64 x5 ∧ Aside0 (laws_eqCertS.l0 kq x5 a0 a1 = some r) ∧ Aside0 (kq ≤ k) ∧ Hp noFP w w' [])
   case atStart => exact ⟨_, rfl, H, ⟨Nat.le_refl _⟩, HS⟩
   case round =>
    clear HS H; (try clear F)
    obtain ⟨x5, rfl, H, HKk4, HS⟩ := hrel
    cases gk with
    | zero => exact absurd H.out (by simp [laws_eqCertS.l0])
    | succ k4 =>
     simp only [laws_eqCertS.l0] at H
     by_cases c7 : x5 < (a0.length : Int)
     · replace H := zpos c7 H
       replace c7 := eq_true c7
       (try go_wp2)
       by_cases c102001 : 0 ≤ x5
       case neg => exact zno c102001 H
       replace H := zpos c102001 H
       replace c102001 := eq_true c102001
       by_cases c102002 : x5 < (a0.length : Int)
       case neg => exact zno c102002 H
       replace H := zpos c102002 H
       replace c102002 := eq_true c102002
       obtain ⟨ad102003, B102003_9, d102003_9, B102003_10, d102003_10, B102003_11, d102003_11, rfl, e102003_0, e102003_1, e102003_2, e102003_3, e102003_4, e102003_5, e102003_6, e102003_7, e102003_8, e102003_9, e102003_10, e102003_11, e102003_12, m102003_9, y102003_9, m102003_10, y102003_10, m102003_11, y102003_11⟩ := at_T94 gp0 x5 (of_eq_true c102001) (of_eq_true c102002)
       by_cases c106001 : x5 < (a1.length : Int)
       case neg => exact zno c106001 H
       replace H := zpos c106001 H
       replace c106001 := eq_true c106001
       obtain ⟨ad106002, B106002_9, d106002_9, B106002_10, d106002_10, B106002_11, d106002_11, rfl, e106002_0, e106002_1, e106002_2, e106002_3, e106002_4, e106002_5, e106002_6, e106002_7, e106002_8, e106002_9, e106002_10, e106002_11, e106002_12, m106002_9, y106002_9, m106002_10, y106002_10, m106002_11, y106002_11⟩ := at_T94 gp1 x5 (of_eq_true c102001) (of_eq_true c106001)
       replace H := zbind H; obtain ⟨t108001, ht108001, H⟩ := H
       refine dr_start [] HS #[false, false, false, false, false, false, false, false, false, false] (by kernel_rfl) rfl rfl laws_eqCertS.tT6 (fun w9 HT HS HH => ?_)
       (try clear F)
       refine drq_of [(0, some 17), (1, some 18), (2, some 19)] ?_
       repeat (first | (refine drq_pure HT (v := ?_) (a' := ?_) rfl rfl (by kernel_rfl) (fun _ _ _ h => h) (.inl ⟨by rfl, ?_⟩) ?_ ?_; rotate_left; (intro w'; go_simp; with_reducible rfl); rotate_left; (simp only [Act.put, List.setIfInBounds_toArray, List.set_cons_zero, List.set_cons_succ, i64_w, i32_w]; rfl)))
       refine drq_end ?_
       refine dr_take 3 (some 20) HT HH (v := ?_) (a' := ?_) rfl rfl (by kernel_rfl) (fun _ _ _ h => h) (.inl ⟨by rfl, ?_⟩) ?_ ?_
       rotate_left
       · rintro w' ⟨rs', HS'⟩; have e102003_0 := (HS'.keepc e102003_0); have e102003_1 := (HS'.keepc e102003_1); have e102003_2 := (HS'.keepc e102003_2); have e102003_3 := (HS'.keepc e102003_3); have e102003_4 := (HS'.keepc e102003_4); have e102003_5 := (HS'.keepc e102003_5); have e102003_6 := (HS'.keepc e102003_6); have e102003_7 := (HS'.keepc e102003_7); have e102003_8 := (HS'.keepc e102003_8); have e102003_9 := (HS'.keepc e102003_9); have e102003_10 := (HS'.keepc e102003_10); have e102003_11 := (HS'.keepc e102003_11); have e102003_12 := (HS'.keepc e102003_12); go_simp; with_reducible rfl
       rotate_left
       · simp only [Act.put, List.setIfInBounds_toArray, List.set_cons_zero, List.set_cons_succ, i64_w, i32_w]; rfl
       refine drq_of [(4, some 21), (5, some 22), (6, some 23)] ?_
       repeat (first | (refine drq_pure HT (v := ?_) (a' := ?_) rfl rfl (by kernel_rfl) (fun _ _ _ h => h) (.inl ⟨by rfl, ?_⟩) ?_ ?_; rotate_left; (intro w'; go_simp; with_reducible rfl); rotate_left; (simp only [Act.put, List.setIfInBounds_toArray, List.set_cons_zero, List.set_cons_succ, i64_w, i32_w]; rfl)))
       refine drq_end ?_
       refine dr_take 7 (some 24) HT HH (v := ?_) (a' := ?_) rfl rfl (by kernel_rfl) (fun _ _ _ h => h) (.inl ⟨by rfl, ?_⟩) ?_ ?_
       rotate_left
       · rintro w' ⟨rs', HS'⟩; have e106002_0 := (HS'.keepc e106002_0); have e106002_1 := (HS'.keepc e106002_1); have e106002_2 := (HS'.keepc e106002_2); have e106002_3 := (HS'.keepc e106002_3); have e106002_4 := (HS'.keepc e106002_4); have e106002_5 := (HS'.keepc e106002_5); have e106002_6 := (HS'.keepc e106002_6); have e106002_7 := (HS'.keepc e106002_7); have e106002_8 := (HS'.keepc e106002_8); have e106002_9 := (HS'.keepc e106002_9); have e106002_10 := (HS'.keepc e106002_10); have e106002_11 := (HS'.keepc e106002_11); have e106002_12 := (HS'.keepc e106002_12); go_simp; with_reducible rfl
       rotate_left
       · simp only [Act.put, List.setIfInBounds_toArray, List.set_cons_zero, List.set_cons_succ, i64_w, i32_w]; rfl
       refine dr_one 8 HT rfl (by kernel_rfl) (by decide) (fun K hK => ?_)
       refine goes_ Try.func54 (by kernel_rfl) rfl #[.agg #[.int .i64 ((rd_T94 a0 x5).f0), .string ((rd_T94 a0 x5).f1), .string ((rd_T94 a0 x5).f2), .int .i64 ((rd_T94 a0 x5).f3), .int .i64 ((rd_T94 a0 x5).f4), .string ((rd_T94 a0 x5).f5), .bool ((rd_T94 a0 x5).f6), .int .i64 ((rd_T94 a0 x5).f7), .int .i64 ((rd_T94 a0 x5).f8), .slice B102003_9 (rd_T94 a0 x5).f9.length d102003_9, .slice B102003_10 (rd_T94 a0 x5).f10.length d102003_10, .slice B102003_11 (rd_T94 a0 x5).f11.length d102003_11, .string ((rd_T94 a0 x5).f12)], .agg #[.int .i64 ((rd_T94 a1 x5).f0), .string ((rd_T94 a1 x5).f1), .string ((rd_T94 a1 x5).f2), .int .i64 ((rd_T94 a1 x5).f3), .int .i64 ((rd_T94 a1 x5).f4), .string ((rd_T94 a1 x5).f5), .bool ((rd_T94 a1 x5).f6), .int .i64 ((rd_T94 a1 x5).f7), .int .i64 ((rd_T94 a1 x5).f8), .slice B106002_9 (rd_T94 a1 x5).f9.length d106002_9, .slice B106002_10 (rd_T94 a1 x5).f10.length d106002_10, .slice B106002_11 (rd_T94 a1 x5).f11.length d106002_11, .string ((rd_T94 a1 x5).f12)]] (by rfl) rfl rfl (by simp only [List.map_toArray, List.map_cons, List.map_nil]; rfl) ?_; refine (laws_eqCert.calls ht108001.out (HS.ro y102003_9) m102003_9 (HS.ro y102003_10) m102003_10 (HS.ro y102003_11) m102003_11 (HS.ro y106002_9) m106002_9 (HS.ro y106002_10) m106002_10 (HS.ro y106002_11) m106002_11).mono ?_; rintro _ wt108001 ⟨rfl, HQ⟩; refine ⟨_, rfl, ?_⟩; replace HS := HS.call HQ; clear HQ; (try clear F)
       replace HS : Hp noFP w _ [] := HS
       refine hK.out _ _ ⟨_, HS⟩ (fun HH => ?_)
       clear hK K
       refine norm_ (a' := ?_) ?_ ?_
       rotate_left
       · show Act.put _ (some 25) _ = _; simp only [Act.put, List.setIfInBounds_toArray, List.set_cons_zero, List.set_cons_succ, i64_w, i32_w]; rfl
       refine drq_of [(9, some 26)] ?_
       repeat (first | (refine drq_pure HT (v := ?_) (a' := ?_) rfl rfl (by kernel_rfl) (fun _ _ _ h => h) (.inl ⟨by rfl, ?_⟩) ?_ ?_; rotate_left; (intro w'; go_simp; with_reducible rfl); rotate_left; (simp only [Act.put, List.setIfInBounds_toArray, List.set_cons_zero, List.set_cons_succ, i64_w, i32_w]; rfl)))
       refine drq_end ?_
       refine done_ (done_of HT.out (by kernel_rfl)) ?_
       by_cases c11 : t108001 = true
       · replace H := zpos c11 H
         subst c11
         (try simp only [decide_true, decide_false, Bool.not_true, Bool.not_false, if_true, Bool.false_eq_true, if_false])
         go_wp2
         go_roundg k4
         case measure => have := HKk4.out; omega
         case rel => exact ⟨_, rfl, H, ⟨by have := HKk4.out; omega⟩, HS.pick [] (by decide) (by rfl)⟩
       · replace H := zneg c11 H
         replace c11 := eq_false_of_ne_true c11
         subst c11
         (try simp only [decide_true, decide_false, Bool.not_true, Bool.not_false, if_true, Bool.false_eq_true, if_false])
         obtain rfl := zsome H
         go_wp2
         go_ret
         exact ⟨rfl, HS.pick [] (by decide) (by rfl)⟩
     · replace H := zneg c7 H
       replace c7 := eq_false c7
       obtain rfl := zsome H
       go_wp2
       go_ret
       exact ⟨rfl, HS.pick [] (by decide) (by rfl)⟩
 · replace H := zneg c1 H
   have c1a := beq_eq_false_iff_ne.mpr c1
   have c1b := bne_iff_ne.mpr c1
   clear c1
   obtain rfl := zsome H
   go_wp2
   go_ret
   exact ⟨rfl, HS.pick [] (by decide) (by rfl)⟩
/-! ### laws_markIntS: function 17 -/
def laws_markIntS.l0 : Nat → (List Int) → Int → Int → (List Int) → Option (Int × (List Int))
  | 0, _, _, _, _ => none
  | k + 1, l19, x21, x22, a0 => (if x22 < (a0.length : Int) then (if 0 ≤ x22 then (if x22 < (a0.length : Int) then (laws_markIntS.l0 k (l19.set (x22).toNat x21) (wrap64 (x21 + 1)) (wrap64 (x22 + 1)) a0) else none) else none) else (some (x21, l19)))
def laws_markIntS.f (k : Nat) (a0 : (List Int)) (a1 : Int) : Option (Int × (List Int)) := (laws_markIntS.l0 k a0 a1 0 a0)
set_option maxHeartbeats 16000000 in
theorem laws_markIntS.calls {k : Nat} {a0 : (List Int)} {a1 : Int} {A : FP} {vp0 : Value} {r1 : Int} {r2 : (List Int)} {w : World} (h : laws_markIntS.f k a0 a1 = some (r1, r2)) (HS : Hp A w w [.own (Zd.slice 3 (Zd.int .i64)) a0 [vp0]]) :
    Calls Try.prog 17 #[vp0, .int .i64 a1] w (fun e w' => e = .returned (.int .i64 r1) ∧ Hp A w w' [.own (Zd.slice 3 (Zd.int .i64)) r2 [vp0]]) := by
 obtain ⟨B1, d1, rfl, m1⟩ := HS.form 0 rfl
 have H := Aside0.mk h
 clear h
 unfold laws_markIntS.f at H
 go_enter Try.func17, Try.ntmps17
 go_wp2
 go_loopg [1, 5] k (fun kq v_1 v_5 w' => ∃ (l19 : List Int) (x21 : Int) (x22 : Int), v_1 = .int .i64 x21 ∧ v_5 = .int .i64 x22 ∧ Aside0 (laws_markIntS.l0 kq l19 x21 x22 a0 = some (r1, r2)) ∧ Aside0 (kq ≤ k) ∧ Hp A w w' [.own (Zd.slice 3 (Zd.int .i64)) l19 [.slice B1 a0.length d1]])
 case atStart => exact ⟨_, _, _, rfl, rfl, H, ⟨Nat.le_refl _⟩, HS⟩
 case round =>
  clear HS H; (try clear F)
  obtain ⟨l19, x21, x22, rfl, rfl, H, HKk18, HS⟩ := hrel
  cases gk with
  | zero => exact absurd H.out (by simp [laws_markIntS.l0])
  | succ k18 =>
   simp only [laws_markIntS.l0] at H
   by_cases c24 : x22 < (a0.length : Int)
   · replace H := zpos c24 H
     replace c24 := eq_true c24
     by_cases c25 : 0 ≤ x22
     case neg => exact zno c25 H
     replace H := zpos c25 H
     replace c25 := eq_true c25
     by_cases c26 : x22 < (a0.length : Int)
     case neg => exact zno c26 H
     replace H := zpos c26 H
     replace c26 := eq_true c26
     obtain ⟨ad27, rfl, e27_0⟩ := Kd.at_int (HS.rd 0 rfl) x22 (of_eq_true c25) (of_eq_true c26)
     go_wp2_with (first | ((with_reducible refine gate_store (p := 15) rfl ?_); refine ev_set rfl (Zd.int .i64) 0 [] x22 x21 HS (seg := [.int .i64 x21]) rfl (by decide) rfl rfl rfl (by first | rfl | exact (Nat.mul_one _).symm) rfl rfl (by kernel_rfl) (by simp [Value.oneCell']) ⟨of_eq_true c25, of_eq_true c26⟩ rfl (made_flat (fun _ => rfl)) ?_; clear HS; (try clear F); intro w28 HS; replace HS : Hp A w _ [.own (Zd.slice 3 (Zd.int .i64)) (l19.set (x22).toNat x21) [.slice (some ad27) a0.length d1]] := HS))
     go_roundg k18
     case measure => have := HKk18.out; omega
     case rel => exact ⟨_, _, _, rfl, rfl, H, ⟨by have := HKk18.out; omega⟩, HS.pick [0] (by decide) (by rfl)⟩
   · replace H := zneg c24 H
     replace c24 := eq_false c24
     obtain ⟨rfl, rfl⟩ := zsome2 H
     go_wp2
     go_ret
     exact ⟨rfl, HS.pick [0] (by decide) (by rfl)⟩
/-! ### laws_markText: function 55 -/
def laws_markText.l0 : Nat → Int → ByteArray → Option (ByteArray)
  | 0, _, _ => none
  | k + 1, x11, x12 => (if 0 < x11 then (if (strOfNums ([((wrap64 (48 + (Int.tmod x11 10))) % 256)] : List Int)).size + x12.size ≤ 9223372036854775807 then (laws_markText.l0 k (wrap64 (Int.tdiv x11 10)) ((strOfNums ([((wrap64 (48 + (Int.tmod x11 10))) % 256)] : List Int)) ++ x12)) else none) else (if (⟨#[109]⟩ : ByteArray).size + x12.size ≤ 9223372036854775807 then (some ((⟨#[109]⟩ : ByteArray) ++ x12)) else none))
def laws_markText.f (k : Nat) (a0 : Int) : Option (ByteArray) := (if a0 ≤ 0 then (some (⟨#[109, 48]⟩ : ByteArray)) else (laws_markText.l0 k a0 (⟨#[]⟩ : ByteArray)))
set_option maxHeartbeats 16000000 in
theorem laws_markText.calls {k : Nat} {a0 : Int} {r : ByteArray} {w : World} (h : laws_markText.f k a0 = some r) :
    Calls Try.prog 55 #[.int .i64 a0] w (fun e w' => e = .returned (.string r) ∧ Hp noFP w w' []) := by
 have HS := Hp.start w
 have H := Aside0.mk h
 clear h
 unfold laws_markText.f at H
 go_enter Try.func55, Try.ntmps55
 by_cases c1 : a0 ≤ 0
 · replace H := zpos c1 H
   replace c1 := eq_true c1
   obtain rfl := zsome H
   go_wp2
   go_ret
   exact ⟨rfl, HS.pick [] (by decide) (by rfl)⟩
 · replace H := zneg c1 H
   replace c1 := eq_false c1
   go_wp2
   go_loopg [0, 3] k (fun kq v_0 v_3 w' => ∃ (x11 : Int) (x12 : ByteArray), v_0 = .int .i64 x11 ∧ v_3 = .string x12 ∧ Aside0 (laws_markText.l0 kq x11 x12 = some r) ∧ Aside0 (kq ≤ k) ∧ Hp noFP w w' [])
   case atStart => exact ⟨_, _, rfl, rfl, H, ⟨Nat.le_refl _⟩, HS⟩
   case round =>
    clear HS H; (try clear F)
    obtain ⟨x11, x12, rfl, rfl, H, HKk10, HS⟩ := hrel
    cases gk with
    | zero => exact absurd H.out (by simp [laws_markText.l0])
    | succ k10 =>
     simp only [laws_markText.l0] at H
     by_cases c14 : 0 < x11
     · replace H := zpos c14 H
       replace c14 := eq_true c14
       by_cases c17 : (strOfNums ([((wrap64 (48 + (Int.tmod x11 10))) % 256)] : List Int)).size + x12.size ≤ 9223372036854775807
       case neg => exact zno c17 H
       replace H := zpos c17 H
       replace c17 := eq_true c17
       go_wp2_with (first | ((with_reducible refine gate_dst (N := 12) rfl ?_); refine ev_lit rfl (Zd.int .u8) [] ([((wrap64 (48 + (Int.tmod x11 10))) % 256)] : List Int) ([.int .u8 ((wrap64 (48 + (Int.tmod x11 10))) % 256)] ++ []) HS (by first | (go_simp; done) | (go_simp; rfl)) rfl rfl (Nat.le_of_ble_eq_true rfl) (MadeL.cons (js1 := []) (c := [.int .u8 ((wrap64 (48 + (Int.tmod x11 10))) % 256)]) rfl (made_flat (fun _ => rfl)) MadeL.nil (by decide)) ?_; clear HS; (try clear F); intro v15 w15 HS; obtain ⟨B15, d15, rfl, m15⟩ := HS.formn 1 0 rfl rfl; replace HS : Hp noFP w _ [.own (Zd.slice 5 (Zd.int .u8)) ([((wrap64 (48 + (Int.tmod x11 10))) % 256)] : List Int) [.slice B15 1 d15]] := HS) | ((with_reducible refine gate_dst (N := 13) rfl ?_); refine ev_val rfl (run_str rfl rfl Try.underlying162 Try.underlying5 Try.underlying9 (HS.rd 0 rfl)) ?_) | ((with_reducible refine gate_dst (N := 15) rfl ?_); refine ev_val rfl (run_cat rfl rfl rfl (of_eq_true c17)) ?_))
       go_roundg k10
       case measure => have := HKk10.out; omega
       case rel => exact ⟨_, _, rfl, rfl, H, ⟨by have := HKk10.out; omega⟩, HS.pick [] (by decide) (by rfl)⟩
     · replace H := zneg c14 H
       replace c14 := eq_false c14
       by_cases c18 : (⟨#[109]⟩ : ByteArray).size + x12.size ≤ 9223372036854775807
       case neg => exact zno c18 H
       replace H := zpos c18 H
       replace c18 := eq_true c18
       obtain rfl := zsome H
       go_wp2_with (first | ((with_reducible refine gate_dst (N := 19) rfl ?_); refine ev_val rfl (run_cat rfl rfl rfl (of_eq_true c18)) ?_))
       go_ret
       exact ⟨rfl, HS.pick [] (by decide) (by rfl)⟩
/-! ### laws_markStringS: function 56 -/
def laws_markStringS.l0 : Nat → (List ByteArray) → Int → Int → (List ByteArray) → Option (Int × (List ByteArray))
  | 0, _, _, _, _ => none
  | k + 1, l21, x23, x24, a0 => (if x24 < (a0.length : Int) then ((laws_markText.f k x23).bind fun t27 => (if 0 ≤ x24 then (if x24 < (a0.length : Int) then (laws_markStringS.l0 k (l21.set (x24).toNat t27) (wrap64 (x23 + 1)) (wrap64 (x24 + 1)) a0) else none) else none)) else (some (x23, l21)))
def laws_markStringS.f (k : Nat) (a0 : (List ByteArray)) (a1 : Int) : Option (Int × (List ByteArray)) := (laws_markStringS.l0 k a0 a1 0 a0)
set_option maxHeartbeats 16000000 in
theorem laws_markStringS.calls {k : Nat} {a0 : (List ByteArray)} {a1 : Int} {A : FP} {vp0 : Value} {r1 : Int} {r2 : (List ByteArray)} {w : World} (h : laws_markStringS.f k a0 a1 = some (r1, r2)) (HS : Hp A w w [.own (Zd.slice 9 Zd.string) a0 [vp0]]) :
    Calls Try.prog 56 #[vp0, .int .i64 a1] w (fun e w' => e = .returned (.int .i64 r1) ∧ Hp A w w' [.own (Zd.slice 9 Zd.string) r2 [vp0]]) := by
 obtain ⟨B1, d1, rfl, m1⟩ := HS.form 0 rfl
 have H := Aside0.mk h
 clear h
 unfold laws_markStringS.f at H
 go_enter Try.func56, Try.ntmps56
 go_wp2
 go_loopg [1, 5] k (fun kq v_1 v_5 w' => ∃ (l21 : List ByteArray) (x23 : Int) (x24 : Int), v_1 = .int .i64 x23 ∧ v_5 = .int .i64 x24 ∧ Aside0 (laws_markStringS.l0 kq l21 x23 x24 a0 = some (r1, r2)) ∧ Aside0 (kq ≤ k) ∧ Hp A w w' [.own (Zd.slice 9 Zd.string) l21 [.slice B1 a0.length d1]])
 case atStart => exact ⟨_, _, _, rfl, rfl, H, ⟨Nat.le_refl _⟩, HS⟩
 case round =>
  clear HS H; (try clear F)
  obtain ⟨l21, x23, x24, rfl, rfl, H, HKk20, HS⟩ := hrel
  cases gk with
  | zero => exact absurd H.out (by simp [laws_markStringS.l0])
  | succ k20 =>
   simp only [laws_markStringS.l0] at H
   by_cases c26 : x24 < (a0.length : Int)
   · replace H := zpos c26 H
     replace c26 := eq_true c26
     replace H := zbind H; obtain ⟨t27, ht27, H⟩ := H
     by_cases c29 : 0 ≤ x24
     case neg => exact zno c29 H
     replace H := zpos c29 H
     replace c29 := eq_true c29
     by_cases c30 : x24 < (a0.length : Int)
     case neg => exact zno c30 H
     replace H := zpos c30 H
     replace c30 := eq_true c30
     go_wp2_with (first | ((with_reducible refine gate_dst (N := 15) rfl ?_); refine ev_call rfl Try.func55 (by kernel_rfl) rfl #[.int .i64 x23] rfl (by simp only [List.map_toArray, List.map_cons, List.map_nil]; rfl) ?_; refine (laws_markText.calls ht27.out).mono ?_; rintro _ wt27 ⟨rfl, HQ⟩; refine ⟨_, rfl, ?_⟩; replace HS := HS.call HQ; clear HQ; (try clear F); replace HS : Hp A w _ [.own (Zd.slice 9 Zd.string) l21 [.slice B1 a0.length d1]] := HS; obtain ⟨ad31, rfl, e31_0⟩ := Kd.at_string (HS.rd 0 rfl) x24 (of_eq_true c29) (of_eq_true c30)) | ((with_reducible refine gate_store (p := 16) rfl ?_); refine ev_set rfl Zd.string 0 [] x24 t27 HS (seg := [.string t27]) rfl (by decide) rfl rfl rfl (by first | rfl | exact (Nat.mul_one _).symm) rfl rfl (by kernel_rfl) (by simp [Value.oneCell']) ⟨of_eq_true c29, of_eq_true c30⟩ rfl (made_flat (fun _ => rfl)) ?_; clear HS; (try clear F); intro w32 HS; replace HS : Hp A w _ [.own (Zd.slice 9 Zd.string) (l21.set (x24).toNat t27) [.slice (some ad31) a0.length d1]] := HS))
     go_roundg k20
     case measure => have := HKk20.out; omega
     case rel => exact ⟨_, _, _, rfl, rfl, H, ⟨by have := HKk20.out; omega⟩, HS.pick [0] (by decide) (by rfl)⟩
   · replace H := zneg c26 H
     replace c26 := eq_false c26
     obtain ⟨rfl, rfl⟩ := zsome2 H
     go_wp2
     go_ret
     exact ⟨rfl, HS.pick [0] (by decide) (by rfl)⟩
/-! ### laws_markCertS: function 16 -/
def laws_markCertS.l0 : Nat → (List S94) → Int → Int → (List S94) → Option (Int × (List S94))
  | 0, _, _, _, _ => none
  | k + 1, l76, x78, x79, a0 => (if x79 < (a0.length : Int) then (if 0 ≤ x79 then (if x79 < (a0.length : Int) then (lets (l76.set (x79).toNat (u94_0_3 (rd_T94 l76 x79) x78)) fun y86 => ((laws_markText.f k (wrap64 (x78 + 1))).bind fun t88 => (lets (y86.set (x79).toNat (u94_1_9 (rd_T94 y86 x79) t88)) fun y92 => ((laws_markText.f k (wrap64 ((wrap64 (x78 + 1)) + 1))).bind fun t94 => (lets (y92.set (x79).toNat (u94_2_9 (rd_T94 y92 x79) t94)) fun y98 => (lets (y98.set (x79).toNat (u94_3_3 (rd_T94 y98 x79) (wrap64 ((wrap64 ((wrap64 (x78 + 1)) + 1)) + 1)))) fun y102 => (lets (y102.set (x79).toNat (u94_4_3 (rd_T94 y102 x79) (wrap64 ((wrap64 ((wrap64 ((wrap64 (x78 + 1)) + 1)) + 1)) + 1)))) fun y106 => ((laws_markText.f k (wrap64 ((wrap64 ((wrap64 ((wrap64 ((wrap64 (x78 + 1)) + 1)) + 1)) + 1)) + 1))).bind fun t108 => (lets (y106.set (x79).toNat (u94_5_9 (rd_T94 y106 x79) t108)) fun y112 => (lets (y112.set (x79).toNat (u94_6_4 (rd_T94 y112 x79) ((Int.tmod (wrap64 ((wrap64 ((wrap64 ((wrap64 ((wrap64 ((wrap64 (x78 + 1)) + 1)) + 1)) + 1)) + 1)) + 1)) 3) == 0))) fun y116 => (lets (y116.set (x79).toNat (u94_7_3 (rd_T94 y116 x79) (wrap64 ((wrap64 ((wrap64 ((wrap64 ((wrap64 ((wrap64 ((wrap64 (x78 + 1)) + 1)) + 1)) + 1)) + 1)) + 1)) + 1)))) fun y120 => (lets (y120.set (x79).toNat (u94_8_3 (rd_T94 y120 x79) (wrap64 ((wrap64 ((wrap64 ((wrap64 ((wrap64 ((wrap64 ((wrap64 ((wrap64 (x78 + 1)) + 1)) + 1)) + 1)) + 1)) + 1)) + 1)) + 1)))) fun y124 => ((laws_markIntS.f k ((rd_T94 y124 x79).f9) (wrap64 ((wrap64 ((wrap64 ((wrap64 ((wrap64 ((wrap64 ((wrap64 ((wrap64 ((wrap64 (x78 + 1)) + 1)) + 1)) + 1)) + 1)) + 1)) + 1)) + 1)) + 1))).bind fun t127 => (lets (y124.set (x79).toNat (u94_9_24 (rd_T94 y124 x79) t127.2)) fun y128 => ((laws_markStringS.f k ((rd_T94 y128 x79).f10) t127.1).bind fun t131 => (lets (y128.set (x79).toNat (u94_10_65 (rd_T94 y128 x79) t131.2)) fun y132 => ((laws_markStringS.f k ((rd_T94 y132 x79).f11) t131.1).bind fun t135 => (lets (y132.set (x79).toNat (u94_11_65 (rd_T94 y132 x79) t135.2)) fun y136 => ((laws_markText.f k t135.1).bind fun t138 => (lets (y136.set (x79).toNat (u94_12_9 (rd_T94 y136 x79) t138)) fun y142 => (laws_markCertS.l0 k y142 (wrap64 (t135.1 + 1)) (wrap64 (x79 + 1)) a0))))))))))))))))))))) else none) else none) else (some (x78, l76)))
def laws_markCertS.f (k : Nat) (a0 : (List S94)) (a1 : Int) : Option (Int × (List S94)) := (laws_markCertS.l0 k a0 a1 0 a0)
set_option maxHeartbeats 16000000 in
theorem laws_markCertS.calls {k : Nat} {a0 : (List S94)} {a1 : Int} {A : FP} {vp0 : Value} {r1 : Int} {r2 : (List S94)} {w : World} (h : laws_markCertS.f k a0 a1 = some (r1, r2)) (HS : Hp A w w [.own (Zd.slice 94 q94) a0 [vp0]]) :
    Calls Try.prog 16 #[vp0, .int .i64 a1] w (fun e w' => e = .returned (.int .i64 r1) ∧ Hp A w w' [.own (Zd.slice 94 q94) r2 [vp0]]) := by
 obtain ⟨B1, d1, rfl, m1⟩ := HS.form 0 rfl
 have H := Aside0.mk h
 clear h
 unfold laws_markCertS.f at H
 go_enter Try.func16, Try.ntmps16
 go_wp2
 go_loopg [1, 5] k (fun kq v_1 v_5 w' => ∃ (l76 : List S94) (x78 : Int) (x79 : Int), v_1 = .int .i64 x78 ∧ v_5 = .int .i64 x79 ∧ Aside0 (laws_markCertS.l0 kq l76 x78 x79 a0 = some (r1, r2)) ∧ Aside0 (kq ≤ k) ∧ Hp A w w' [.own (Zd.slice 94 q94) l76 [.slice B1 a0.length d1]])
 case atStart => exact ⟨_, _, _, rfl, rfl, H, ⟨Nat.le_refl _⟩, HS⟩
 case round =>
  clear HS H; (try clear F)
  obtain ⟨l76, x78, x79, rfl, rfl, H, HKk75, HS⟩ := hrel
  cases gk with
  | zero => exact absurd H.out (by simp [laws_markCertS.l0])
  | succ k75 =>
   simp only [laws_markCertS.l0] at H
   by_cases c81 : x79 < (a0.length : Int)
   · replace H := zpos c81 H
     replace c81 := eq_true c81
     by_cases c82 : 0 ≤ x79
     case neg => exact zno c82 H
     replace H := zpos c82 H
     replace c82 := eq_true c82
     by_cases c83 : x79 < (a0.length : Int)
     case neg => exact zno c83 H
     replace H := zpos c83 H
     replace c83 := eq_true c83
     obtain ⟨ad84, B84_9, d84_9, B84_10, d84_10, B84_11, d84_11, rfl, e84_0, e84_1, e84_2, e84_3, e84_4, e84_5, e84_6, e84_7, e84_8, e84_9, e84_10, e84_11, e84_12, m84_9, y84_9, m84_10, y84_10, m84_11, y84_11⟩ := at_T94 (HS.rd 0 rfl) x79 (of_eq_true c82) (of_eq_true c83)
     replace H := zlets H; obtain ⟨y86, e_y86, H⟩ := H
     replace H := zbind H; obtain ⟨t88, ht88, H⟩ := H
     replace H := zlets H; obtain ⟨y92, e_y92, H⟩ := H
     replace H := zbind H; obtain ⟨t94, ht94, H⟩ := H
     replace H := zlets H; obtain ⟨y98, e_y98, H⟩ := H
     replace H := zlets H; obtain ⟨y102, e_y102, H⟩ := H
     replace H := zlets H; obtain ⟨y106, e_y106, H⟩ := H
     replace H := zbind H; obtain ⟨t108, ht108, H⟩ := H
     replace H := zlets H; obtain ⟨y112, e_y112, H⟩ := H
     replace H := zlets H; obtain ⟨y116, e_y116, H⟩ := H
     replace H := zlets H; obtain ⟨y120, e_y120, H⟩ := H
     replace H := zlets H; obtain ⟨y124, e_y124, H⟩ := H
     replace H := zbind H; obtain ⟨t127, ht127, H⟩ := H
     replace H := zlets H; obtain ⟨y128, e_y128, H⟩ := H
     replace H := zbind H; obtain ⟨t131, ht131, H⟩ := H
     replace H := zlets H; obtain ⟨y132, e_y132, H⟩ := H
     replace H := zbind H; obtain ⟨t135, ht135, H⟩ := H
     replace H := zlets H; obtain ⟨y136, e_y136, H⟩ := H
     replace H := zbind H; obtain ⟨t138, ht138, H⟩ := H
     replace H := zlets H; obtain ⟨y142, e_y142, H⟩ := H
     go_wp2_with (first | ((with_reducible refine gate_store (p := 16) rfl ?_); refine ev_setp (ad := ad84) rfl q94 (Zd.int .i64) lens94_0_3 0 [] x79 (rd_T94 l76 x79) x78 HS (seg := [.int .i64 x78]) rfl (by decide) rfl rfl rfl (by rintro g rfl; simp only [add_plain]; refine congrArg (fun n => (⟨g, n, none⟩ : Addr)) ?_; first | rfl | (show 0 + (x79).toNat * 13 + 0 = (x79).toNat * 13 + 0; omega) | (show 0 + (x79).toNat * 13 = (x79).toNat * 13 + 0; omega)) rfl rfl (by kernel_rfl) (by simp [Value.oneCell']) ⟨of_eq_true c82, of_eq_true c83⟩ rfl (fun hl => rd_T94_get hl) (made_flat (fun _ => rfl)) ?_; clear HS; (try clear F); intro w85 HS; rw [← e_y86.out] at HS; replace HS : Hp A w _ [.own (Zd.slice 94 q94) y86 [.slice (some ad84) a0.length d1]] := HS) | ((with_reducible refine gate_dst (N := 22) rfl ?_); refine ev_call rfl Try.func55 (by kernel_rfl) rfl #[.int .i64 (wrap64 (x78 + 1))] rfl (by simp only [List.map_toArray, List.map_cons, List.map_nil]; rfl) ?_; refine (laws_markText.calls ht88.out).mono ?_; rintro _ wt88 ⟨rfl, HQ⟩; refine ⟨_, rfl, ?_⟩; replace HS := HS.call HQ; clear HQ; (try clear F); replace HS : Hp A w _ [.own (Zd.slice 94 q94) y86 [.slice (some ad84) a0.length d1]] := HS; obtain ⟨ad90, B90_9, d90_9, B90_10, d90_10, B90_11, d90_11, hq90, e90_0, e90_1, e90_2, e90_3, e90_4, e90_5, e90_6, e90_7, e90_8, e90_9, e90_10, e90_11, e90_12, m90_9, y90_9, m90_10, y90_10, m90_11, y90_11⟩ := at_T94 (HS.rd 0 rfl) x79 (of_eq_true c82) (of_eq_true c83); obtain rfl := Option.some.inj hq90) | ((with_reducible refine gate_store (p := 24) rfl ?_); refine ev_setp (ad := ad84) rfl q94 Zd.string lens94_1_9 0 [] x79 (rd_T94 y86 x79) t88 HS (seg := [.string t88]) rfl (by decide) rfl rfl rfl (by rintro g rfl; simp only [add_plain]; refine congrArg (fun n => (⟨g, n, none⟩ : Addr)) ?_; first | rfl | (show 0 + (x79).toNat * 13 + 1 = (x79).toNat * 13 + 1; omega) | (show 0 + (x79).toNat * 13 = (x79).toNat * 13 + 0; omega)) rfl rfl (by kernel_rfl) (by simp [Value.oneCell']) ⟨of_eq_true c82, of_eq_true c83⟩ rfl (fun hl => rd_T94_get hl) (made_flat (fun _ => rfl)) ?_; clear HS; (try clear F); intro w91 HS; rw [← e_y92.out] at HS; replace HS : Hp A w _ [.own (Zd.slice 94 q94) y92 [.slice (some ad84) a0.length d1]] := HS) | ((with_reducible refine gate_dst (N := 30) rfl ?_); refine ev_call rfl Try.func55 (by kernel_rfl) rfl #[.int .i64 (wrap64 ((wrap64 (x78 + 1)) + 1))] rfl (by simp only [List.map_toArray, List.map_cons, List.map_nil]; rfl) ?_; refine (laws_markText.calls ht94.out).mono ?_; rintro _ wt94 ⟨rfl, HQ⟩; refine ⟨_, rfl, ?_⟩; replace HS := HS.call HQ; clear HQ; (try clear F); replace HS : Hp A w _ [.own (Zd.slice 94 q94) y92 [.slice (some ad84) a0.length d1]] := HS; obtain ⟨ad96, B96_9, d96_9, B96_10, d96_10, B96_11, d96_11, hq96, e96_0, e96_1, e96_2, e96_3, e96_4, e96_5, e96_6, e96_7, e96_8, e96_9, e96_10, e96_11, e96_12, m96_9, y96_9, m96_10, y96_10, m96_11, y96_11⟩ := at_T94 (HS.rd 0 rfl) x79 (of_eq_true c82) (of_eq_true c83); obtain rfl := Option.some.inj hq96) | ((with_reducible refine gate_store (p := 32) rfl ?_); refine ev_setp (ad := ad84) rfl q94 Zd.string lens94_2_9 0 [] x79 (rd_T94 y92 x79) t94 HS (seg := [.string t94]) rfl (by decide) rfl rfl rfl (by rintro g rfl; simp only [add_plain]; refine congrArg (fun n => (⟨g, n, none⟩ : Addr)) ?_; first | rfl | (show 0 + (x79).toNat * 13 + 2 = (x79).toNat * 13 + 2; omega) | (show 0 + (x79).toNat * 13 = (x79).toNat * 13 + 0; omega)) rfl rfl (by kernel_rfl) (by simp [Value.oneCell']) ⟨of_eq_true c82, of_eq_true c83⟩ rfl (fun hl => rd_T94_get hl) (made_flat (fun _ => rfl)) ?_; clear HS; (try clear F); intro w97 HS; rw [← e_y98.out] at HS; replace HS : Hp A w _ [.own (Zd.slice 94 q94) y98 [.slice (some ad84) a0.length d1]] := HS; obtain ⟨ad100, B100_9, d100_9, B100_10, d100_10, B100_11, d100_11, hq100, e100_0, e100_1, e100_2, e100_3, e100_4, e100_5, e100_6, e100_7, e100_8, e100_9, e100_10, e100_11, e100_12, m100_9, y100_9, m100_10, y100_10, m100_11, y100_11⟩ := at_T94 (HS.rd 0 rfl) x79 (of_eq_true c82) (of_eq_true c83); obtain rfl := Option.some.inj hq100) | ((with_reducible refine gate_store (p := 39) rfl ?_); refine ev_setp (ad := ad84) rfl q94 (Zd.int .i64) lens94_3_3 0 [] x79 (rd_T94 y98 x79) (wrap64 ((wrap64 ((wrap64 (x78 + 1)) + 1)) + 1)) HS (seg := [.int .i64 (wrap64 ((wrap64 ((wrap64 (x78 + 1)) + 1)) + 1))]) rfl (by decide) rfl rfl rfl (by rintro g rfl; simp only [add_plain]; refine congrArg (fun n => (⟨g, n, none⟩ : Addr)) ?_; first | rfl | (show 0 + (x79).toNat * 13 + 3 = (x79).toNat * 13 + 3; omega) | (show 0 + (x79).toNat * 13 = (x79).toNat * 13 + 0; omega)) rfl rfl (by kernel_rfl) (by simp [Value.oneCell']) ⟨of_eq_true c82, of_eq_true c83⟩ rfl (fun hl => rd_T94_get hl) (made_flat (fun _ => rfl)) ?_; clear HS; (try clear F); intro w101 HS; rw [← e_y102.out] at HS; replace HS : Hp A w _ [.own (Zd.slice 94 q94) y102 [.slice (some ad84) a0.length d1]] := HS; obtain ⟨ad104, B104_9, d104_9, B104_10, d104_10, B104_11, d104_11, hq104, e104_0, e104_1, e104_2, e104_3, e104_4, e104_5, e104_6, e104_7, e104_8, e104_9, e104_10, e104_11, e104_12, m104_9, y104_9, m104_10, y104_10, m104_11, y104_11⟩ := at_T94 (HS.rd 0 rfl) x79 (of_eq_true c82) (of_eq_true c83); obtain rfl := Option.some.inj hq104) | ((with_reducible refine gate_store (p := 46) rfl ?_); refine ev_setp (ad := ad84) rfl q94 (Zd.int .i64) lens94_4_3 0 [] x79 (rd_T94 y102 x79) (wrap64 ((wrap64 ((wrap64 ((wrap64 (x78 + 1)) + 1)) + 1)) + 1)) HS (seg := [.int .i64 (wrap64 ((wrap64 ((wrap64 ((wrap64 (x78 + 1)) + 1)) + 1)) + 1))]) rfl (by decide) rfl rfl rfl (by rintro g rfl; simp only [add_plain]; refine congrArg (fun n => (⟨g, n, none⟩ : Addr)) ?_; first | rfl | (show 0 + (x79).toNat * 13 + 4 = (x79).toNat * 13 + 4; omega) | (show 0 + (x79).toNat * 13 = (x79).toNat * 13 + 0; omega)) rfl rfl (by kernel_rfl) (by simp [Value.oneCell']) ⟨of_eq_true c82, of_eq_true c83⟩ rfl (fun hl => rd_T94_get hl) (made_flat (fun _ => rfl)) ?_; clear HS; (try clear F); intro w105 HS; rw [← e_y106.out] at HS; replace HS : Hp A w _ [.own (Zd.slice 94 q94) y106 [.slice (some ad84) a0.length d1]] := HS) | ((with_reducible refine gate_dst (N := 52) rfl ?_); refine ev_call rfl Try.func55 (by kernel_rfl) rfl #[.int .i64 (wrap64 ((wrap64 ((wrap64 ((wrap64 ((wrap64 (x78 + 1)) + 1)) + 1)) + 1)) + 1))] rfl (by simp only [List.map_toArray, List.map_cons, List.map_nil]; rfl) ?_; refine (laws_markText.calls ht108.out).mono ?_; rintro _ wt108 ⟨rfl, HQ⟩; refine ⟨_, rfl, ?_⟩; replace HS := HS.call HQ; clear HQ; (try clear F); replace HS : Hp A w _ [.own (Zd.slice 94 q94) y106 [.slice (some ad84) a0.length d1]] := HS; obtain ⟨ad110, B110_9, d110_9, B110_10, d110_10, B110_11, d110_11, hq110, e110_0, e110_1, e110_2, e110_3, e110_4, e110_5, e110_6, e110_7, e110_8, e110_9, e110_10, e110_11, e110_12, m110_9, y110_9, m110_10, y110_10, m110_11, y110_11⟩ := at_T94 (HS.rd 0 rfl) x79 (of_eq_true c82) (of_eq_true c83); obtain rfl := Option.some.inj hq110) | ((with_reducible refine gate_store (p := 54) rfl ?_); refine ev_setp (ad := ad84) rfl q94 Zd.string lens94_5_9 0 [] x79 (rd_T94 y106 x79) t108 HS (seg := [.string t108]) rfl (by decide) rfl rfl rfl (by rintro g rfl; simp only [add_plain]; refine congrArg (fun n => (⟨g, n, none⟩ : Addr)) ?_; first | rfl | (show 0 + (x79).toNat * 13 + 5 = (x79).toNat * 13 + 5; omega) | (show 0 + (x79).toNat * 13 = (x79).toNat * 13 + 0; omega)) rfl rfl (by kernel_rfl) (by simp [Value.oneCell']) ⟨of_eq_true c82, of_eq_true c83⟩ rfl (fun hl => rd_T94_get hl) (made_flat (fun _ => rfl)) ?_; clear HS; (try clear F); intro w111 HS; rw [← e_y112.out] at HS; replace HS : Hp A w _ [.own (Zd.slice 94 q94) y112 [.slice (some ad84) a0.length d1]] := HS; obtain ⟨ad114, B114_9, d114_9, B114_10, d114_10, B114_11, d114_11, hq114, e114_0, e114_1, e114_2, e114_3, e114_4, e114_5, e114_6, e114_7, e114_8, e114_9, e114_10, e114_11, e114_12, m114_9, y114_9, m114_10, y114_10, m114_11, y114_11⟩ := at_T94 (HS.rd 0 rfl) x79 (of_eq_true c82) (of_eq_true c83); obtain rfl := Option.some.inj hq114) | ((with_reducible refine gate_store (p := 63) rfl ?_); refine ev_setp (ad := ad84) rfl q94 Zd.bool lens94_6_4 0 [] x79 (rd_T94 y112 x79) ((Int.tmod (wrap64 ((wrap64 ((wrap64 ((wrap64 ((wrap64 ((wrap64 (x78 + 1)) + 1)) + 1)) + 1)) + 1)) + 1)) 3) == 0) HS (seg := [.bool ((Int.tmod (wrap64 ((wrap64 ((wrap64 ((wrap64 ((wrap64 ((wrap64 (x78 + 1)) + 1)) + 1)) + 1)) + 1)) + 1)) 3) == 0)]) rfl (by decide) rfl rfl rfl (by rintro g rfl; simp only [add_plain]; refine congrArg (fun n => (⟨g, n, none⟩ : Addr)) ?_; first | rfl | (show 0 + (x79).toNat * 13 + 6 = (x79).toNat * 13 + 6; omega) | (show 0 + (x79).toNat * 13 = (x79).toNat * 13 + 0; omega)) rfl rfl (by kernel_rfl) (by simp [Value.oneCell']) ⟨of_eq_true c82, of_eq_true c83⟩ rfl (fun hl => rd_T94_get hl) (made_flat (fun _ => rfl)) ?_; clear HS; (try clear F); intro w115 HS; rw [← e_y116.out] at HS; replace HS : Hp A w _ [.own (Zd.slice 94 q94) y116 [.slice (some ad84) a0.length d1]] := HS; obtain ⟨ad118, B118_9, d118_9, B118_10, d118_10, B118_11, d118_11, hq118, e118_0, e118_1, e118_2, e118_3, e118_4, e118_5, e118_6, e118_7, e118_8, e118_9, e118_10, e118_11, e118_12, m118_9, y118_9, m118_10, y118_10, m118_11, y118_11⟩ := at_T94 (HS.rd 0 rfl) x79 (of_eq_true c82) (of_eq_true c83); obtain rfl := Option.some.inj hq118) | ((with_reducible refine gate_store (p := 70) rfl ?_); refine ev_setp (ad := ad84) rfl q94 (Zd.int .i64) lens94_7_3 0 [] x79 (rd_T94 y116 x79) (wrap64 ((wrap64 ((wrap64 ((wrap64 ((wrap64 ((wrap64 ((wrap64 (x78 + 1)) + 1)) + 1)) + 1)) + 1)) + 1)) + 1)) HS (seg := [.int .i64 (wrap64 ((wrap64 ((wrap64 ((wrap64 ((wrap64 ((wrap64 ((wrap64 (x78 + 1)) + 1)) + 1)) + 1)) + 1)) + 1)) + 1))]) rfl (by decide) rfl rfl rfl (by rintro g rfl; simp only [add_plain]; refine congrArg (fun n => (⟨g, n, none⟩ : Addr)) ?_; first | rfl | (show 0 + (x79).toNat * 13 + 7 = (x79).toNat * 13 + 7; omega) | (show 0 + (x79).toNat * 13 = (x79).toNat * 13 + 0; omega)) rfl rfl (by kernel_rfl) (by simp [Value.oneCell']) ⟨of_eq_true c82, of_eq_true c83⟩ rfl (fun hl => rd_T94_get hl) (made_flat (fun _ => rfl)) ?_; clear HS; (try clear F); intro w119 HS; rw [← e_y120.out] at HS; replace HS : Hp A w _ [.own (Zd.slice 94 q94) y120 [.slice (some ad84) a0.length d1]] := HS; obtain ⟨ad122, B122_9, d122_9, B122_10, d122_10, B122_11, d122_11, hq122, e122_0, e122_1, e122_2, e122_3, e122_4, e122_5, e122_6, e122_7, e122_8, e122_9, e122_10, e122_11, e122_12, m122_9, y122_9, m122_10, y122_10, m122_11, y122_11⟩ := at_T94 (HS.rd 0 rfl) x79 (of_eq_true c82) (of_eq_true c83); obtain rfl := Option.some.inj hq122) | ((with_reducible refine gate_store (p := 77) rfl ?_); refine ev_setp (ad := ad84) rfl q94 (Zd.int .i64) lens94_8_3 0 [] x79 (rd_T94 y120 x79) (wrap64 ((wrap64 ((wrap64 ((wrap64 ((wrap64 ((wrap64 ((wrap64 ((wrap64 (x78 + 1)) + 1)) + 1)) + 1)) + 1)) + 1)) + 1)) + 1)) HS (seg := [.int .i64 (wrap64 ((wrap64 ((wrap64 ((wrap64 ((wrap64 ((wrap64 ((wrap64 ((wrap64 (x78 + 1)) + 1)) + 1)) + 1)) + 1)) + 1)) + 1)) + 1))]) rfl (by decide) rfl rfl rfl (by rintro g rfl; simp only [add_plain]; refine congrArg (fun n => (⟨g, n, none⟩ : Addr)) ?_; first | rfl | (show 0 + (x79).toNat * 13 + 8 = (x79).toNat * 13 + 8; omega) | (show 0 + (x79).toNat * 13 = (x79).toNat * 13 + 0; omega)) rfl rfl (by kernel_rfl) (by simp [Value.oneCell']) ⟨of_eq_true c82, of_eq_true c83⟩ rfl (fun hl => rd_T94_get hl) (made_flat (fun _ => rfl)) ?_; clear HS; (try clear F); intro w123 HS; rw [← e_y124.out] at HS; replace HS : Hp A w _ [.own (Zd.slice 94 q94) y124 [.slice (some ad84) a0.length d1]] := HS; obtain ⟨ad126, B126_9, d126_9, B126_10, d126_10, B126_11, d126_11, hq126, e126_0, e126_1, e126_2, e126_3, e126_4, e126_5, e126_6, e126_7, e126_8, e126_9, e126_10, e126_11, e126_12, m126_9, y126_9, m126_10, y126_10, m126_11, y126_11⟩ := at_T94 (HS.rd 0 rfl) x79 (of_eq_true c82) (of_eq_true c83); obtain rfl := Option.some.inj hq126) | ((with_reducible refine gate_dst (N := 86) rfl ?_); refine HS.lend_el 0 x79 rfl lens94_9_24 (of_eq_true c82) (of_eq_true c83) e126_9 (by rintro g rfl; simp only [add_plain]; refine congrArg (fun n => (⟨g, n, none⟩ : Addr)) ?_; first | rfl | omega) (fun hl => rd_T94_get hl) (fun A' HL HA HB => ?_); refine ev_call rfl Try.func17 (by kernel_rfl) rfl #[.slice B126_9 (rd_T94 y124 x79).f9.length d126_9, .int .i64 (wrap64 ((wrap64 ((wrap64 ((wrap64 ((wrap64 ((wrap64 ((wrap64 ((wrap64 ((wrap64 (x78 + 1)) + 1)) + 1)) + 1)) + 1)) + 1)) + 1)) + 1)) + 1))] rfl (by simp only [List.map_toArray, List.map_cons, List.map_nil]; rfl) ?_; refine (laws_markIntS.calls ht127.out HA).mono ?_; rintro _ wt127 ⟨rfl, HQ⟩; refine ⟨_, rfl, ?_⟩; replace HS := HB _ _ _ HQ; clear HQ HA HB HL; rw [← e_y128.out] at HS; replace HS : Hp A w _ [.own (Zd.slice 94 q94) y128 [.slice (some ad84) a0.length d1]] := HS; (try clear F); replace HS : Hp A w _ [.own (Zd.slice 94 q94) y128 [.slice (some ad84) a0.length d1]] := HS; obtain ⟨ad130, B130_9, d130_9, B130_10, d130_10, B130_11, d130_11, hq130, e130_0, e130_1, e130_2, e130_3, e130_4, e130_5, e130_6, e130_7, e130_8, e130_9, e130_10, e130_11, e130_12, m130_9, y130_9, m130_10, y130_10, m130_11, y130_11⟩ := at_T94 (HS.rd 0 rfl) x79 (of_eq_true c82) (of_eq_true c83); obtain rfl := Option.some.inj hq130) | ((with_reducible refine gate_dst (N := 93) rfl ?_); refine HS.lend_el 0 x79 rfl lens94_10_65 (of_eq_true c82) (of_eq_true c83) e130_10 (by rintro g rfl; simp only [add_plain]; refine congrArg (fun n => (⟨g, n, none⟩ : Addr)) ?_; first | rfl | omega) (fun hl => rd_T94_get hl) (fun A' HL HA HB => ?_); refine ev_call rfl Try.func56 (by kernel_rfl) rfl #[.slice B130_10 (rd_T94 y128 x79).f10.length d130_10, .int .i64 t127.1] rfl (by simp only [List.map_toArray, List.map_cons, List.map_nil]; rfl) ?_; refine (laws_markStringS.calls ht131.out HA).mono ?_; rintro _ wt131 ⟨rfl, HQ⟩; refine ⟨_, rfl, ?_⟩; replace HS := HB _ _ _ HQ; clear HQ HA HB HL; rw [← e_y132.out] at HS; replace HS : Hp A w _ [.own (Zd.slice 94 q94) y132 [.slice (some ad84) a0.length d1]] := HS; (try clear F); replace HS : Hp A w _ [.own (Zd.slice 94 q94) y132 [.slice (some ad84) a0.length d1]] := HS; obtain ⟨ad134, B134_9, d134_9, B134_10, d134_10, B134_11, d134_11, hq134, e134_0, e134_1, e134_2, e134_3, e134_4, e134_5, e134_6, e134_7, e134_8, e134_9, e134_10, e134_11, e134_12, m134_9, y134_9, m134_10, y134_10, m134_11, y134_11⟩ := at_T94 (HS.rd 0 rfl) x79 (of_eq_true c82) (of_eq_true c83); obtain rfl := Option.some.inj hq134) | ((with_reducible refine gate_dst (N := 100) rfl ?_); refine HS.lend_el 0 x79 rfl lens94_11_65 (of_eq_true c82) (of_eq_true c83) e134_11 (by rintro g rfl; simp only [add_plain]; refine congrArg (fun n => (⟨g, n, none⟩ : Addr)) ?_; first | rfl | omega) (fun hl => rd_T94_get hl) (fun A' HL HA HB => ?_); refine ev_call rfl Try.func56 (by kernel_rfl) rfl #[.slice B134_11 (rd_T94 y132 x79).f11.length d134_11, .int .i64 t131.1] rfl (by simp only [List.map_toArray, List.map_cons, List.map_nil]; rfl) ?_; refine (laws_markStringS.calls ht135.out HA).mono ?_; rintro _ wt135 ⟨rfl, HQ⟩; refine ⟨_, rfl, ?_⟩; replace HS := HB _ _ _ HQ; clear HQ HA HB HL; rw [← e_y136.out] at HS; replace HS : Hp A w _ [.own (Zd.slice 94 q94) y136 [.slice (some ad84) a0.length d1]] := HS; (try clear F); replace HS : Hp A w _ [.own (Zd.slice 94 q94) y136 [.slice (some ad84) a0.length d1]] := HS) | ((with_reducible refine gate_dst (N := 104) rfl ?_); refine ev_call rfl Try.func55 (by kernel_rfl) rfl #[.int .i64 t135.1] rfl (by simp only [List.map_toArray, List.map_cons, List.map_nil]; rfl) ?_; refine (laws_markText.calls ht138.out).mono ?_; rintro _ wt138 ⟨rfl, HQ⟩; refine ⟨_, rfl, ?_⟩; replace HS := HS.call HQ; clear HQ; (try clear F); replace HS : Hp A w _ [.own (Zd.slice 94 q94) y136 [.slice (some ad84) a0.length d1]] := HS; obtain ⟨ad140, B140_9, d140_9, B140_10, d140_10, B140_11, d140_11, hq140, e140_0, e140_1, e140_2, e140_3, e140_4, e140_5, e140_6, e140_7, e140_8, e140_9, e140_10, e140_11, e140_12, m140_9, y140_9, m140_10, y140_10, m140_11, y140_11⟩ := at_T94 (HS.rd 0 rfl) x79 (of_eq_true c82) (of_eq_true c83); obtain rfl := Option.some.inj hq140) | ((with_reducible refine gate_store (p := 106) rfl ?_); refine ev_setp (ad := ad84) rfl q94 Zd.string lens94_12_9 0 [] x79 (rd_T94 y136 x79) t138 HS (seg := [.string t138]) rfl (by decide) rfl rfl rfl (by rintro g rfl; simp only [add_plain]; refine congrArg (fun n => (⟨g, n, none⟩ : Addr)) ?_; first | rfl | (show 0 + (x79).toNat * 13 + 12 = (x79).toNat * 13 + 12; omega) | (show 0 + (x79).toNat * 13 = (x79).toNat * 13 + 0; omega)) rfl rfl (by kernel_rfl) (by simp [Value.oneCell']) ⟨of_eq_true c82, of_eq_true c83⟩ rfl (fun hl => rd_T94_get hl) (made_flat (fun _ => rfl)) ?_; clear HS; (try clear F); intro w141 HS; rw [← e_y142.out] at HS; replace HS : Hp A w _ [.own (Zd.slice 94 q94) y142 [.slice (some ad84) a0.length d1]] := HS))
     go_roundg k75
     case measure => have := HKk75.out; omega
     case rel => exact ⟨_, _, _, rfl, rfl, H, ⟨by have := HKk75.out; omega⟩, HS.pick [0] (by decide) (by rfl)⟩
   · replace H := zneg c81 H
     replace c81 := eq_false c81
     obtain ⟨rfl, rfl⟩ := zsome2 H
     go_wp2
     go_ret
     exact ⟨rfl, HS.pick [0] (by decide) (by rfl)⟩
/-! ### laws_heldIntS: function 18 -/
def laws_heldIntS.l0 : Nat → Int → Int → (List Int) → Option (Int)
  | 0, _, _, _ => none
  | k + 1, x11, x12, a0 => (if x12 < (a0.length : Int) then (if 0 ≤ x12 then (if x12 < (a0.length : Int) then (if (rd a0 x12) = x11 then (laws_heldIntS.l0 k (wrap64 (x11 + 1)) (wrap64 (x12 + 1)) a0) else (some (-1))) else none) else none) else (some x11))
def laws_heldIntS.f (k : Nat) (a0 : (List Int)) (a1 : Int) : Option (Int) := (laws_heldIntS.l0 k a1 0 a0)
set_option maxHeartbeats 16000000 in
theorem laws_heldIntS.calls {k : Nat} {a0 : (List Int)} {a1 : Int} {Ap0 : Option Addr} {np0 cp0 : Nat} {r : Int} {w : World} (h : laws_heldIntS.f k a0 a1 = some r) (gp0 : (Kd.int .i64).C w Ap0 np0 a0) (lp0 : np0 ≤ cp0) :
    Calls Try.prog 18 #[.slice Ap0 np0 cp0, .int .i64 a1] w (fun e w' => e = .returned (.int .i64 r) ∧ Hp noFP w w' []) := by
 obtain rfl := C_len gp0
 have HS := Hp.start w
 have H := Aside0.mk h
 clear h
 unfold laws_heldIntS.f at H
 go_enter Try.func18, Try.ntmps18
 go_wp2
 go_loopg [1, 5] k (fun kq v_1 v_5 w' => ∃ (x11 : Int) (x12 : Int), v_1 = .int .i64 x11 ∧ v_5 = .int .i64 x12 ∧ Aside0 (laws_heldIntS.l0 kq x11 x12 a0 = some r) ∧ Aside0 (kq ≤ k) ∧ Hp noFP w w' [])
 case atStart => exact ⟨_, _, rfl, rfl, H, ⟨Nat.le_refl _⟩, HS⟩
 case round =>
  clear HS H; (try clear F)
  obtain ⟨x11, x12, rfl, rfl, H, HKk10, HS⟩ := hrel
  cases gk with
  | zero => exact absurd H.out (by simp [laws_heldIntS.l0])
  | succ k10 =>
   simp only [laws_heldIntS.l0] at H
   by_cases c14 : x12 < (a0.length : Int)
   · replace H := zpos c14 H
     replace c14 := eq_true c14
     by_cases c15 : 0 ≤ x12
     case neg => exact zno c15 H
     replace H := zpos c15 H
     replace c15 := eq_true c15
     by_cases c16 : x12 < (a0.length : Int)
     case neg => exact zno c16 H
     replace H := zpos c16 H
     replace c16 := eq_true c16
     obtain ⟨ad17, rfl, e17_0⟩ := Kd.at_int gp0 x12 (of_eq_true c15) (of_eq_true c16)
     have e17_0_17 := (HS.keepc e17_0)
     by_cases c18 : (rd a0 x12) = x11
     · replace H := zpos c18 H
       have c18a := beq_iff_eq.mpr c18
       have c18b := bne_eq_false_iff_eq.mpr c18
       clear c18
       go_wp2
       go_roundg k10
       case measure => have := HKk10.out; omega
       case rel => exact ⟨_, _, rfl, rfl, H, ⟨by have := HKk10.out; omega⟩, HS.pick [] (by decide) (by rfl)⟩
     · replace H := zneg c18 H
       have c18a := beq_eq_false_iff_ne.mpr c18
       have c18b := bne_iff_ne.mpr c18
       clear c18
       obtain rfl := zsome H
       go_wp2
       go_ret
       exact ⟨rfl, HS.pick [] (by decide) (by rfl)⟩
   · replace H := zneg c14 H
     replace c14 := eq_false c14
     obtain rfl := zsome H
     go_wp2
     go_ret
     exact ⟨rfl, HS.pick [] (by decide) (by rfl)⟩
/-! ### laws_FnExactStaysOf: function 3 -/
def laws_FnExactStaysOf.f (k : Nat) (a0 : (List S92)) : Option (Bool) := ((laws_szCertS.f k a0 1048576).bind fun t1 => (if t1 < 0 then (some true) else ((laws_toCertS.f k a0).bind fun t4 => ((spec_StaysOf.f k t4).bind fun t7 => ((laws_toCertS.f k a0).bind fun t10 => ((impl_StaysOf.f k t10).bind fun t13 => ((laws_eqIntS.f k t13.1 t7.1).bind fun t16 => (if t16 = true then (if t13.2 = t7.2 then ((laws_toCertS.f k a0).bind fun t20 => ((laws_eqCertS.f k t10 t20).bind fun t23 => (if t23 = true then ((laws_markCertS.f k t10 1).bind fun t26 => (if t26.1 < 0 then (some false) else ((laws_eqIntS.f k t13.1 t7.1).bind fun t29 => (if t29 = true then ((laws_markIntS.f k t13.1 1).bind fun t32 => ((laws_heldIntS.f k t32.2 1).bind fun t34 => (if t34 < 0 then (some false) else (if t34 = t32.1 then ((laws_toCertS.f k a0).bind fun t38 => ((impl_StaysOf.f k t38).bind fun t41 => ((laws_eqIntS.f k t41.1 t7.1).bind fun t44 => (if t44 = true then (if t41.2 = t7.2 then ((laws_heldIntS.f k t32.2 1).bind fun t48 => (if t48 < 0 then (some false) else (if t48 = t32.1 then (some true) else (some false)))) else (some false)) else (some false))))) else (some false))))) else (some false))))) else (some false)))) else (some false)) else (some false)))))))))
set_option maxHeartbeats 16000000 in
theorem laws_FnExactStaysOf.calls {k : Nat} {a0 : (List S92)} {Ap0 : Option Addr} {np0 cp0 : Nat} {r : Bool} {w : World} (h : laws_FnExactStaysOf.f k a0 = some r) (gp0 : k92.C w Ap0 np0 a0) (lp0 : np0 ≤ cp0) :
    Calls Try.prog 3 #[.slice Ap0 np0 cp0] w (fun e w' => e = .returned (.bool r) ∧ Hp noFP w w' []) := by
 obtain rfl := C_len gp0
 have HS := Hp.start w
 have H := Aside0.mk h
 clear h
 unfold laws_FnExactStaysOf.f at H
 go_enter Try.func3, Try.ntmps3
 replace H := zbind H; obtain ⟨t1, ht1, H⟩ := H
 go_upto_if 18 with (first | ((with_reducible refine gate_dst (N := 16) rfl ?_); refine ev_call rfl Try.func10 (by kernel_rfl) rfl #[.slice Ap0 a0.length cp0, .int .i64 1048576] rfl (by simp only [List.map_toArray, List.map_cons, List.map_nil]; rfl) ?_; refine (laws_szCertS.calls ht1.out (HS.ro gp0) lp0).mono ?_; rintro _ wt1 ⟨rfl, HQ⟩; refine ⟨_, rfl, ?_⟩; replace HS := HS.call HQ; clear HQ; (try clear F); replace HS : Hp noFP w _ [] := HS))
 by_cases c3 : t1 < 0
 · replace H := zpos c3 H
   replace c3 := eq_true c3
   (try simp only [c3, decide_true, decide_false, Bool.not_true, Bool.not_false])
   obtain rfl := zsome H
   go_wp2
   go_ret
   exact ⟨rfl, HS.pick [] (by decide) (by rfl)⟩
 · replace H := zneg c3 H
   replace c3 := eq_false c3
   (try simp only [c3, decide_true, decide_false, Bool.not_true, Bool.not_false])
   replace H := zbind H; obtain ⟨t4, ht4, H⟩ := H
   replace H := zbind H; obtain ⟨t7, ht7, H⟩ := H
   replace H := zbind H; obtain ⟨t10, ht10, H⟩ := H
   replace H := zbind H; obtain ⟨t13, ht13, H⟩ := H
   replace H := zbind H; obtain ⟨t16, ht16, H⟩ := H
   by_cases c18 : t16 = true
   · replace H := zpos c18 H
     subst c18
     go_upto_if 40 with (first | ((with_reducible refine gate_dst (N := 21) rfl ?_); refine ev_call rfl Try.func12 (by kernel_rfl) rfl #[.slice Ap0 a0.length cp0] rfl (by simp only [List.map_toArray, List.map_cons, List.map_nil]; rfl) ?_; refine (laws_toCertS.calls ht4.out (HS.ro gp0) lp0).mono ?_; rintro _ wt4 ⟨v5, rfl, HQ⟩; refine ⟨_, rfl, ?_⟩; replace HS := HS.call HQ; clear HQ; (try clear F); obtain ⟨B5, d5, rfl, m5⟩ := HS.form 0 rfl; replace HS : Hp noFP w _ [.own (Zd.slice 94 q94) t4 [.slice B5 t4.length d5]] := HS) | ((with_reducible refine gate_dst (N := 22) rfl ?_); refine ev_call rfl Try.func11 (by kernel_rfl) rfl #[.slice B5 t4.length d5] rfl (by simp only [List.map_toArray, List.map_cons, List.map_nil]; rfl) ?_; refine (spec_StaysOf.calls ht7.out (HS.rd 0 rfl) m5).mono ?_; rintro _ wt7 ⟨v8, rfl, HQ⟩; refine ⟨_, rfl, ?_⟩; replace HS := HS.call HQ; clear HQ; (try clear F); obtain ⟨B8, d8, rfl, m8⟩ := HS.form 1 rfl; replace HS : Hp noFP w _ [.own (Zd.slice 94 q94) t4 [.slice B5 t4.length d5], .own (Zd.slice 3 (Zd.int .i64)) t7.1 [.slice B8 t7.1.length d8]] := HS) | ((with_reducible refine gate_dst (N := 26) rfl ?_); refine ev_call rfl Try.func12 (by kernel_rfl) rfl #[.slice Ap0 a0.length cp0] rfl (by simp only [List.map_toArray, List.map_cons, List.map_nil]; rfl) ?_; refine (laws_toCertS.calls ht10.out (HS.ro gp0) lp0).mono ?_; rintro _ wt10 ⟨v11, rfl, HQ⟩; refine ⟨_, rfl, ?_⟩; replace HS := HS.call HQ; clear HQ; (try clear F); obtain ⟨B11, d11, rfl, m11⟩ := HS.form 2 rfl; replace HS : Hp noFP w _ [.own (Zd.slice 94 q94) t4 [.slice B5 t4.length d5], .own (Zd.slice 3 (Zd.int .i64)) t7.1 [.slice B8 t7.1.length d8], .own (Zd.slice 94 q94) t10 [.slice B11 t10.length d11]] := HS) | ((with_reducible refine gate_dst (N := 29) rfl ?_); refine ev_call rfl Try.func13 (by kernel_rfl) rfl #[.slice B11 t10.length d11] rfl (by simp only [List.map_toArray, List.map_cons, List.map_nil]; rfl) ?_; refine (impl_StaysOf.calls ht13.out (HS.rd 2 rfl) m11).mono ?_; rintro _ wt13 ⟨v14, rfl, HQ⟩; refine ⟨_, rfl, ?_⟩; replace HS := HS.call HQ; clear HQ; (try clear F); obtain ⟨B14, d14, rfl, m14⟩ := HS.form 3 rfl; replace HS : Hp noFP w _ [.own (Zd.slice 94 q94) t4 [.slice B5 t4.length d5], .own (Zd.slice 3 (Zd.int .i64)) t7.1 [.slice B8 t7.1.length d8], .own (Zd.slice 94 q94) t10 [.slice B11 t10.length d11], .own (Zd.slice 3 (Zd.int .i64)) t13.1 [.slice B14 t13.1.length d14]] := HS) | ((with_reducible refine gate_dst (N := 34) rfl ?_); refine ev_call rfl Try.func14 (by kernel_rfl) rfl #[.slice B14 t13.1.length d14, .slice B8 t7.1.length d8] rfl (by simp only [List.map_toArray, List.map_cons, List.map_nil]; rfl) ?_; refine (laws_eqIntS.calls ht16.out (HS.rd 3 rfl) m14 (HS.rd 1 rfl) m8).mono ?_; rintro _ wt16 ⟨rfl, HQ⟩; refine ⟨_, rfl, ?_⟩; replace HS := HS.call HQ; clear HQ; (try clear F); replace HS : Hp noFP w _ [.own (Zd.slice 94 q94) t4 [.slice B5 t4.length d5], .own (Zd.slice 3 (Zd.int .i64)) t7.1 [.slice B8 t7.1.length d8], .own (Zd.slice 94 q94) t10 [.slice B11 t10.length d11], .own (Zd.slice 3 (Zd.int .i64)) t13.1 [.slice B14 t13.1.length d14]] := HS))
     by_cases c19 : t13.2 = t7.2
     · replace H := zpos c19 H
       have c19a := beq_iff_eq.mpr c19
       have c19b := bne_eq_false_iff_eq.mpr c19
       clear c19
       (try simp only [c19a, c19b, decide_true, decide_false, Bool.not_true, Bool.not_false])
       replace H := zbind H; obtain ⟨t20, ht20, H⟩ := H
       replace H := zbind H; obtain ⟨t23, ht23, H⟩ := H
       go_upto_if 45 with (first | ((with_reducible refine gate_dst (N := 43) rfl ?_); refine ev_call rfl Try.func12 (by kernel_rfl) rfl #[.slice Ap0 a0.length cp0] rfl (by simp only [List.map_toArray, List.map_cons, List.map_nil]; rfl) ?_; refine (laws_toCertS.calls ht20.out (HS.ro gp0) lp0).mono ?_; rintro _ wt20 ⟨v21, rfl, HQ⟩; refine ⟨_, rfl, ?_⟩; replace HS := HS.call HQ; clear HQ; (try clear F); obtain ⟨B21, d21, rfl, m21⟩ := HS.form 4 rfl; replace HS : Hp noFP w _ [.own (Zd.slice 94 q94) t4 [.slice B5 t4.length d5], .own (Zd.slice 3 (Zd.int .i64)) t7.1 [.slice B8 t7.1.length d8], .own (Zd.slice 94 q94) t10 [.slice B11 t10.length d11], .own (Zd.slice 3 (Zd.int .i64)) t13.1 [.slice B14 t13.1.length d14], .own (Zd.slice 94 q94) t20 [.slice B21 t20.length d21]] := HS) | ((with_reducible refine gate_dst (N := 44) rfl ?_); refine ev_call rfl Try.func15 (by kernel_rfl) rfl #[.slice B11 t10.length d11, .slice B21 t20.length d21] rfl (by simp only [List.map_toArray, List.map_cons, List.map_nil]; rfl) ?_; refine (laws_eqCertS.calls ht23.out (HS.rd 2 rfl) m11 (HS.rd 4 rfl) m21).mono ?_; rintro _ wt23 ⟨rfl, HQ⟩; refine ⟨_, rfl, ?_⟩; replace HS := HS.call HQ; clear HQ; (try clear F); replace HS : Hp noFP w _ [.own (Zd.slice 94 q94) t4 [.slice B5 t4.length d5], .own (Zd.slice 3 (Zd.int .i64)) t7.1 [.slice B8 t7.1.length d8], .own (Zd.slice 94 q94) t10 [.slice B11 t10.length d11], .own (Zd.slice 3 (Zd.int .i64)) t13.1 [.slice B14 t13.1.length d14], .own (Zd.slice 94 q94) t20 [.slice B21 t20.length d21]] := HS))
       by_cases c25 : t23 = true
       · replace H := zpos c25 H
         subst c25
         (try simp only [decide_true, decide_false, Bool.not_true, Bool.not_false, if_true, Bool.false_eq_true, if_false])
         replace H := zbind H; obtain ⟨t26, ht26, H⟩ := H
         by_cases c28 : t26.1 < 0
         · replace H := zpos c28 H
           replace c28 := eq_true c28
           obtain rfl := zsome H
           go_wp2_with (first | ((with_reducible refine gate_dst (N := 48) rfl ?_); refine HS.lend [2] (by decide) [.own (Zd.slice 94 q94) t10 [.slice B11 t10.length d11]] rfl (fun A' HL HA HB => ?_); refine ev_call rfl Try.func16 (by kernel_rfl) rfl #[.slice B11 t10.length d11, .int .i64 1] rfl (by simp only [List.map_toArray, List.map_cons, List.map_nil]; rfl) ?_; refine (laws_markCertS.calls ht26.out HA).mono ?_; rintro _ wt26 ⟨rfl, HQ⟩; refine ⟨_, rfl, ?_⟩; replace HS : Hp noFP w _ [.own (Zd.slice 94 q94) t4 [.slice B5 t4.length d5], .own (Zd.slice 3 (Zd.int .i64)) t7.1 [.slice B8 t7.1.length d8], .own (Zd.slice 94 q94) t26.2 [.slice B11 t10.length d11], .own (Zd.slice 3 (Zd.int .i64)) t13.1 [.slice B14 t13.1.length d14], .own (Zd.slice 94 q94) t20 [.slice B21 t20.length d21]] := HB _ _ HQ (Nat.le_of_ble_eq_true rfl); clear HQ HA HB HL; (try clear F); replace HS : Hp noFP w _ [.own (Zd.slice 94 q94) t4 [.slice B5 t4.length d5], .own (Zd.slice 3 (Zd.int .i64)) t7.1 [.slice B8 t7.1.length d8], .own (Zd.slice 94 q94) t26.2 [.slice B11 t10.length d11], .own (Zd.slice 3 (Zd.int .i64)) t13.1 [.slice B14 t13.1.length d14], .own (Zd.slice 94 q94) t20 [.slice B21 t20.length d21]] := HS))
           go_ret
           exact ⟨rfl, HS.pick [] (by decide) (by rfl)⟩
         · replace H := zneg c28 H
           replace c28 := eq_false c28
           replace H := zbind H; obtain ⟨t29, ht29, H⟩ := H
           by_cases c31 : t29 = true
           · replace H := zpos c31 H
             subst c31
             replace H := zbind H; obtain ⟨t32, ht32, H⟩ := H
             replace H := zbind H; obtain ⟨t34, ht34, H⟩ := H
             go_upto_if 69 with (first | ((with_reducible refine gate_dst (N := 48) rfl ?_); refine HS.lend [2] (by decide) [.own (Zd.slice 94 q94) t10 [.slice B11 t10.length d11]] rfl (fun A' HL HA HB => ?_); refine ev_call rfl Try.func16 (by kernel_rfl) rfl #[.slice B11 t10.length d11, .int .i64 1] rfl (by simp only [List.map_toArray, List.map_cons, List.map_nil]; rfl) ?_; refine (laws_markCertS.calls ht26.out HA).mono ?_; rintro _ wt26 ⟨rfl, HQ⟩; refine ⟨_, rfl, ?_⟩; replace HS : Hp noFP w _ [.own (Zd.slice 94 q94) t4 [.slice B5 t4.length d5], .own (Zd.slice 3 (Zd.int .i64)) t7.1 [.slice B8 t7.1.length d8], .own (Zd.slice 94 q94) t26.2 [.slice B11 t10.length d11], .own (Zd.slice 3 (Zd.int .i64)) t13.1 [.slice B14 t13.1.length d14], .own (Zd.slice 94 q94) t20 [.slice B21 t20.length d21]] := HB _ _ HQ (Nat.le_of_ble_eq_true rfl); clear HQ HA HB HL; (try clear F); replace HS : Hp noFP w _ [.own (Zd.slice 94 q94) t4 [.slice B5 t4.length d5], .own (Zd.slice 3 (Zd.int .i64)) t7.1 [.slice B8 t7.1.length d8], .own (Zd.slice 94 q94) t26.2 [.slice B11 t10.length d11], .own (Zd.slice 3 (Zd.int .i64)) t13.1 [.slice B14 t13.1.length d14], .own (Zd.slice 94 q94) t20 [.slice B21 t20.length d21]] := HS) | ((with_reducible refine gate_dst (N := 54) rfl ?_); refine gate_guard (by rfl) ?_; refine ev_call rfl Try.func14 (by kernel_rfl) rfl #[.slice B14 t13.1.length d14, .slice B8 t7.1.length d8] rfl (by simp only [List.map_toArray, List.map_cons, List.map_nil]; rfl) ?_; refine (laws_eqIntS.calls ht29.out (HS.rd 3 rfl) m14 (HS.rd 1 rfl) m8).mono ?_; rintro _ wt29 ⟨rfl, HQ⟩; refine ⟨_, rfl, ?_⟩; replace HS := HS.call HQ; clear HQ; (try clear F); replace HS : Hp noFP w _ [.own (Zd.slice 94 q94) t4 [.slice B5 t4.length d5], .own (Zd.slice 3 (Zd.int .i64)) t7.1 [.slice B8 t7.1.length d8], .own (Zd.slice 94 q94) t26.2 [.slice B11 t10.length d11], .own (Zd.slice 3 (Zd.int .i64)) t13.1 [.slice B14 t13.1.length d14], .own (Zd.slice 94 q94) t20 [.slice B21 t20.length d21]] := HS) | ((with_reducible refine gate_dst (N := 64) rfl ?_); refine HS.lend [3] (by decide) [.own (Zd.slice 3 (Zd.int .i64)) t13.1 [.slice B14 t13.1.length d14]] rfl (fun A' HL HA HB => ?_); refine ev_call rfl Try.func17 (by kernel_rfl) rfl #[.slice B14 t13.1.length d14, .int .i64 1] rfl (by simp only [List.map_toArray, List.map_cons, List.map_nil]; rfl) ?_; refine (laws_markIntS.calls ht32.out HA).mono ?_; rintro _ wt32 ⟨rfl, HQ⟩; refine ⟨_, rfl, ?_⟩; replace HS : Hp noFP w _ [.own (Zd.slice 94 q94) t4 [.slice B5 t4.length d5], .own (Zd.slice 3 (Zd.int .i64)) t7.1 [.slice B8 t7.1.length d8], .own (Zd.slice 94 q94) t26.2 [.slice B11 t10.length d11], .own (Zd.slice 3 (Zd.int .i64)) t32.2 [.slice B14 t13.1.length d14], .own (Zd.slice 94 q94) t20 [.slice B21 t20.length d21]] := HB _ _ HQ (Nat.le_of_ble_eq_true rfl); clear HQ HA HB HL; (try clear F); replace HS : Hp noFP w _ [.own (Zd.slice 94 q94) t4 [.slice B5 t4.length d5], .own (Zd.slice 3 (Zd.int .i64)) t7.1 [.slice B8 t7.1.length d8], .own (Zd.slice 94 q94) t26.2 [.slice B11 t10.length d11], .own (Zd.slice 3 (Zd.int .i64)) t32.2 [.slice B14 t13.1.length d14], .own (Zd.slice 94 q94) t20 [.slice B21 t20.length d21]] := HS) | ((with_reducible refine gate_dst (N := 67) rfl ?_); refine ev_call rfl Try.func18 (by kernel_rfl) rfl #[.slice B14 t13.1.length d14, .int .i64 1] rfl (by simp only [List.map_toArray, List.map_cons, List.map_nil]; rfl) ?_; refine (laws_heldIntS.calls ht34.out (HS.rd 3 rfl) m14).mono ?_; rintro _ wt34 ⟨rfl, HQ⟩; refine ⟨_, rfl, ?_⟩; replace HS := HS.call HQ; clear HQ; (try clear F); replace HS : Hp noFP w _ [.own (Zd.slice 94 q94) t4 [.slice B5 t4.length d5], .own (Zd.slice 3 (Zd.int .i64)) t7.1 [.slice B8 t7.1.length d8], .own (Zd.slice 94 q94) t26.2 [.slice B11 t10.length d11], .own (Zd.slice 3 (Zd.int .i64)) t32.2 [.slice B14 t13.1.length d14], .own (Zd.slice 94 q94) t20 [.slice B21 t20.length d21]] := HS))
             by_cases c36 : t34 < 0
             · replace H := zpos c36 H
               replace c36 := eq_true c36
               (try simp only [c36, decide_true, decide_false, Bool.not_true, Bool.not_false])
               obtain rfl := zsome H
               go_wp2
               go_ret
               exact ⟨rfl, HS.pick [] (by decide) (by rfl)⟩
             · replace H := zneg c36 H
               replace c36 := eq_false c36
               (try simp only [c36, decide_true, decide_false, Bool.not_true, Bool.not_false])
               by_cases c37 : t34 = t32.1
               · replace H := zpos c37 H
                 have c37a := beq_iff_eq.mpr c37
                 have c37b := bne_eq_false_iff_eq.mpr c37
                 clear c37
                 replace H := zbind H; obtain ⟨t38, ht38, H⟩ := H
                 replace H := zbind H; obtain ⟨t41, ht41, H⟩ := H
                 replace H := zbind H; obtain ⟨t44, ht44, H⟩ := H
                 by_cases c46 : t44 = true
                 · replace H := zpos c46 H
                   subst c46
                   go_upto_if 87 with (first | ((with_reducible refine gate_dst (N := 75) rfl ?_); refine ev_call rfl Try.func12 (by kernel_rfl) rfl #[.slice Ap0 a0.length cp0] rfl (by simp only [List.map_toArray, List.map_cons, List.map_nil]; rfl) ?_; refine (laws_toCertS.calls ht38.out (HS.ro gp0) lp0).mono ?_; rintro _ wt38 ⟨v39, rfl, HQ⟩; refine ⟨_, rfl, ?_⟩; replace HS := HS.call HQ; clear HQ; (try clear F); obtain ⟨B39, d39, rfl, m39⟩ := HS.form 5 rfl; replace HS : Hp noFP w _ [.own (Zd.slice 94 q94) t4 [.slice B5 t4.length d5], .own (Zd.slice 3 (Zd.int .i64)) t7.1 [.slice B8 t7.1.length d8], .own (Zd.slice 94 q94) t26.2 [.slice B11 t10.length d11], .own (Zd.slice 3 (Zd.int .i64)) t32.2 [.slice B14 t13.1.length d14], .own (Zd.slice 94 q94) t20 [.slice B21 t20.length d21], .own (Zd.slice 94 q94) t38 [.slice B39 t38.length d39]] := HS) | ((with_reducible refine gate_dst (N := 76) rfl ?_); refine ev_call rfl Try.func13 (by kernel_rfl) rfl #[.slice B39 t38.length d39] rfl (by simp only [List.map_toArray, List.map_cons, List.map_nil]; rfl) ?_; refine (impl_StaysOf.calls ht41.out (HS.rd 5 rfl) m39).mono ?_; rintro _ wt41 ⟨v42, rfl, HQ⟩; refine ⟨_, rfl, ?_⟩; replace HS := HS.call HQ; clear HQ; (try clear F); obtain ⟨B42, d42, rfl, m42⟩ := HS.form 6 rfl; replace HS : Hp noFP w _ [.own (Zd.slice 94 q94) t4 [.slice B5 t4.length d5], .own (Zd.slice 3 (Zd.int .i64)) t7.1 [.slice B8 t7.1.length d8], .own (Zd.slice 94 q94) t26.2 [.slice B11 t10.length d11], .own (Zd.slice 3 (Zd.int .i64)) t32.2 [.slice B14 t13.1.length d14], .own (Zd.slice 94 q94) t20 [.slice B21 t20.length d21], .own (Zd.slice 94 q94) t38 [.slice B39 t38.length d39], .own (Zd.slice 3 (Zd.int .i64)) t41.1 [.slice B42 t41.1.length d42]] := HS) | ((with_reducible refine gate_dst (N := 81) rfl ?_); refine ev_call rfl Try.func14 (by kernel_rfl) rfl #[.slice B42 t41.1.length d42, .slice B8 t7.1.length d8] rfl (by simp only [List.map_toArray, List.map_cons, List.map_nil]; rfl) ?_; refine (laws_eqIntS.calls ht44.out (HS.rd 6 rfl) m42 (HS.rd 1 rfl) m8).mono ?_; rintro _ wt44 ⟨rfl, HQ⟩; refine ⟨_, rfl, ?_⟩; replace HS := HS.call HQ; clear HQ; (try clear F); replace HS : Hp noFP w _ [.own (Zd.slice 94 q94) t4 [.slice B5 t4.length d5], .own (Zd.slice 3 (Zd.int .i64)) t7.1 [.slice B8 t7.1.length d8], .own (Zd.slice 94 q94) t26.2 [.slice B11 t10.length d11], .own (Zd.slice 3 (Zd.int .i64)) t32.2 [.slice B14 t13.1.length d14], .own (Zd.slice 94 q94) t20 [.slice B21 t20.length d21], .own (Zd.slice 94 q94) t38 [.slice B39 t38.length d39], .own (Zd.slice 3 (Zd.int .i64)) t41.1 [.slice B42 t41.1.length d42]] := HS))
                   by_cases c47 : t41.2 = t7.2
                   · replace H := zpos c47 H
                     have c47a := beq_iff_eq.mpr c47
                     have c47b := bne_eq_false_iff_eq.mpr c47
                     clear c47
                     (try simp only [c47a, c47b, decide_true, decide_false, Bool.not_true, Bool.not_false])
                     replace H := zbind H; obtain ⟨t48, ht48, H⟩ := H
                     go_upto_if 92 with (first | ((with_reducible refine gate_dst (N := 90) rfl ?_); refine ev_call rfl Try.func18 (by kernel_rfl) rfl #[.slice B14 t13.1.length d14, .int .i64 1] rfl (by simp only [List.map_toArray, List.map_cons, List.map_nil]; rfl) ?_; refine (laws_heldIntS.calls ht48.out (HS.rd 3 rfl) m14).mono ?_; rintro _ wt48 ⟨rfl, HQ⟩; refine ⟨_, rfl, ?_⟩; replace HS := HS.call HQ; clear HQ; (try clear F); replace HS : Hp noFP w _ [.own (Zd.slice 94 q94) t4 [.slice B5 t4.length d5], .own (Zd.slice 3 (Zd.int .i64)) t7.1 [.slice B8 t7.1.length d8], .own (Zd.slice 94 q94) t26.2 [.slice B11 t10.length d11], .own (Zd.slice 3 (Zd.int .i64)) t32.2 [.slice B14 t13.1.length d14], .own (Zd.slice 94 q94) t20 [.slice B21 t20.length d21], .own (Zd.slice 94 q94) t38 [.slice B39 t38.length d39], .own (Zd.slice 3 (Zd.int .i64)) t41.1 [.slice B42 t41.1.length d42]] := HS))
                     by_cases c50 : t48 < 0
                     · replace H := zpos c50 H
                       replace c50 := eq_true c50
                       (try simp only [c50, decide_true, decide_false, Bool.not_true, Bool.not_false])
                       obtain rfl := zsome H
                       go_wp2
                       go_ret
                       exact ⟨rfl, HS.pick [] (by decide) (by rfl)⟩
                     · replace H := zneg c50 H
                       replace c50 := eq_false c50
                       (try simp only [c50, decide_true, decide_false, Bool.not_true, Bool.not_false])
                       by_cases c51 : t48 = t32.1
                       · replace H := zpos c51 H
                         have c51a := beq_iff_eq.mpr c51
                         have c51b := bne_eq_false_iff_eq.mpr c51
                         clear c51
                         obtain rfl := zsome H
                         go_wp2
                         go_ret
                         exact ⟨rfl, HS.pick [] (by decide) (by rfl)⟩
                       · replace H := zneg c51 H
                         have c51a := beq_eq_false_iff_ne.mpr c51
                         have c51b := bne_iff_ne.mpr c51
                         clear c51
                         obtain rfl := zsome H
                         go_wp2
                         go_ret
                         exact ⟨rfl, HS.pick [] (by decide) (by rfl)⟩
                   · replace H := zneg c47 H
                     have c47a := beq_eq_false_iff_ne.mpr c47
                     have c47b := bne_iff_ne.mpr c47
                     clear c47
                     (try simp only [c47a, c47b, decide_true, decide_false, Bool.not_true, Bool.not_false])
                     obtain rfl := zsome H
                     go_wp2
                     go_ret
                     exact ⟨rfl, HS.pick [] (by decide) (by rfl)⟩
                 · replace H := zneg c46 H
                   replace c46 := eq_false_of_ne_true c46
                   subst c46
                   obtain rfl := zsome H
                   go_wp2_with (first | ((with_reducible refine gate_dst (N := 75) rfl ?_); refine ev_call rfl Try.func12 (by kernel_rfl) rfl #[.slice Ap0 a0.length cp0] rfl (by simp only [List.map_toArray, List.map_cons, List.map_nil]; rfl) ?_; refine (laws_toCertS.calls ht38.out (HS.ro gp0) lp0).mono ?_; rintro _ wt38 ⟨v39, rfl, HQ⟩; refine ⟨_, rfl, ?_⟩; replace HS := HS.call HQ; clear HQ; (try clear F); obtain ⟨B39, d39, rfl, m39⟩ := HS.form 5 rfl; replace HS : Hp noFP w _ [.own (Zd.slice 94 q94) t4 [.slice B5 t4.length d5], .own (Zd.slice 3 (Zd.int .i64)) t7.1 [.slice B8 t7.1.length d8], .own (Zd.slice 94 q94) t26.2 [.slice B11 t10.length d11], .own (Zd.slice 3 (Zd.int .i64)) t32.2 [.slice B14 t13.1.length d14], .own (Zd.slice 94 q94) t20 [.slice B21 t20.length d21], .own (Zd.slice 94 q94) t38 [.slice B39 t38.length d39]] := HS) | ((with_reducible refine gate_dst (N := 76) rfl ?_); refine ev_call rfl Try.func13 (by kernel_rfl) rfl #[.slice B39 t38.length d39] rfl (by simp only [List.map_toArray, List.map_cons, List.map_nil]; rfl) ?_; refine (impl_StaysOf.calls ht41.out (HS.rd 5 rfl) m39).mono ?_; rintro _ wt41 ⟨v42, rfl, HQ⟩; refine ⟨_, rfl, ?_⟩; replace HS := HS.call HQ; clear HQ; (try clear F); obtain ⟨B42, d42, rfl, m42⟩ := HS.form 6 rfl; replace HS : Hp noFP w _ [.own (Zd.slice 94 q94) t4 [.slice B5 t4.length d5], .own (Zd.slice 3 (Zd.int .i64)) t7.1 [.slice B8 t7.1.length d8], .own (Zd.slice 94 q94) t26.2 [.slice B11 t10.length d11], .own (Zd.slice 3 (Zd.int .i64)) t32.2 [.slice B14 t13.1.length d14], .own (Zd.slice 94 q94) t20 [.slice B21 t20.length d21], .own (Zd.slice 94 q94) t38 [.slice B39 t38.length d39], .own (Zd.slice 3 (Zd.int .i64)) t41.1 [.slice B42 t41.1.length d42]] := HS) | ((with_reducible refine gate_dst (N := 81) rfl ?_); refine ev_call rfl Try.func14 (by kernel_rfl) rfl #[.slice B42 t41.1.length d42, .slice B8 t7.1.length d8] rfl (by simp only [List.map_toArray, List.map_cons, List.map_nil]; rfl) ?_; refine (laws_eqIntS.calls ht44.out (HS.rd 6 rfl) m42 (HS.rd 1 rfl) m8).mono ?_; rintro _ wt44 ⟨rfl, HQ⟩; refine ⟨_, rfl, ?_⟩; replace HS := HS.call HQ; clear HQ; (try clear F); replace HS : Hp noFP w _ [.own (Zd.slice 94 q94) t4 [.slice B5 t4.length d5], .own (Zd.slice 3 (Zd.int .i64)) t7.1 [.slice B8 t7.1.length d8], .own (Zd.slice 94 q94) t26.2 [.slice B11 t10.length d11], .own (Zd.slice 3 (Zd.int .i64)) t32.2 [.slice B14 t13.1.length d14], .own (Zd.slice 94 q94) t20 [.slice B21 t20.length d21], .own (Zd.slice 94 q94) t38 [.slice B39 t38.length d39], .own (Zd.slice 3 (Zd.int .i64)) t41.1 [.slice B42 t41.1.length d42]] := HS))
                   go_ret
                   exact ⟨rfl, HS.pick [] (by decide) (by rfl)⟩
               · replace H := zneg c37 H
                 have c37a := beq_eq_false_iff_ne.mpr c37
                 have c37b := bne_iff_ne.mpr c37
                 clear c37
                 obtain rfl := zsome H
                 go_wp2
                 go_ret
                 exact ⟨rfl, HS.pick [] (by decide) (by rfl)⟩
           · replace H := zneg c31 H
             replace c31 := eq_false_of_ne_true c31
             subst c31
             obtain rfl := zsome H
             go_wp2_with (first | ((with_reducible refine gate_dst (N := 48) rfl ?_); refine HS.lend [2] (by decide) [.own (Zd.slice 94 q94) t10 [.slice B11 t10.length d11]] rfl (fun A' HL HA HB => ?_); refine ev_call rfl Try.func16 (by kernel_rfl) rfl #[.slice B11 t10.length d11, .int .i64 1] rfl (by simp only [List.map_toArray, List.map_cons, List.map_nil]; rfl) ?_; refine (laws_markCertS.calls ht26.out HA).mono ?_; rintro _ wt26 ⟨rfl, HQ⟩; refine ⟨_, rfl, ?_⟩; replace HS : Hp noFP w _ [.own (Zd.slice 94 q94) t4 [.slice B5 t4.length d5], .own (Zd.slice 3 (Zd.int .i64)) t7.1 [.slice B8 t7.1.length d8], .own (Zd.slice 94 q94) t26.2 [.slice B11 t10.length d11], .own (Zd.slice 3 (Zd.int .i64)) t13.1 [.slice B14 t13.1.length d14], .own (Zd.slice 94 q94) t20 [.slice B21 t20.length d21]] := HB _ _ HQ (Nat.le_of_ble_eq_true rfl); clear HQ HA HB HL; (try clear F); replace HS : Hp noFP w _ [.own (Zd.slice 94 q94) t4 [.slice B5 t4.length d5], .own (Zd.slice 3 (Zd.int .i64)) t7.1 [.slice B8 t7.1.length d8], .own (Zd.slice 94 q94) t26.2 [.slice B11 t10.length d11], .own (Zd.slice 3 (Zd.int .i64)) t13.1 [.slice B14 t13.1.length d14], .own (Zd.slice 94 q94) t20 [.slice B21 t20.length d21]] := HS) | ((with_reducible refine gate_dst (N := 54) rfl ?_); refine gate_guard (by rfl) ?_; refine ev_call rfl Try.func14 (by kernel_rfl) rfl #[.slice B14 t13.1.length d14, .slice B8 t7.1.length d8] rfl (by simp only [List.map_toArray, List.map_cons, List.map_nil]; rfl) ?_; refine (laws_eqIntS.calls ht29.out (HS.rd 3 rfl) m14 (HS.rd 1 rfl) m8).mono ?_; rintro _ wt29 ⟨rfl, HQ⟩; refine ⟨_, rfl, ?_⟩; replace HS := HS.call HQ; clear HQ; (try clear F); replace HS : Hp noFP w _ [.own (Zd.slice 94 q94) t4 [.slice B5 t4.length d5], .own (Zd.slice 3 (Zd.int .i64)) t7.1 [.slice B8 t7.1.length d8], .own (Zd.slice 94 q94) t26.2 [.slice B11 t10.length d11], .own (Zd.slice 3 (Zd.int .i64)) t13.1 [.slice B14 t13.1.length d14], .own (Zd.slice 94 q94) t20 [.slice B21 t20.length d21]] := HS))
             go_ret
             exact ⟨rfl, HS.pick [] (by decide) (by rfl)⟩
       · replace H := zneg c25 H
         replace c25 := eq_false_of_ne_true c25
         subst c25
         (try simp only [decide_true, decide_false, Bool.not_true, Bool.not_false, if_true, Bool.false_eq_true, if_false])
         obtain rfl := zsome H
         go_wp2
         go_ret
         exact ⟨rfl, HS.pick [] (by decide) (by rfl)⟩
     · replace H := zneg c19 H
       have c19a := beq_eq_false_iff_ne.mpr c19
       have c19b := bne_iff_ne.mpr c19
       clear c19
       (try simp only [c19a, c19b, decide_true, decide_false, Bool.not_true, Bool.not_false])
       obtain rfl := zsome H
       go_wp2
       go_ret
       exact ⟨rfl, HS.pick [] (by decide) (by rfl)⟩
   · replace H := zneg c18 H
     replace c18 := eq_false_of_ne_true c18
     subst c18
     obtain rfl := zsome H
     go_wp2_with (first | ((with_reducible refine gate_dst (N := 21) rfl ?_); refine ev_call rfl Try.func12 (by kernel_rfl) rfl #[.slice Ap0 a0.length cp0] rfl (by simp only [List.map_toArray, List.map_cons, List.map_nil]; rfl) ?_; refine (laws_toCertS.calls ht4.out (HS.ro gp0) lp0).mono ?_; rintro _ wt4 ⟨v5, rfl, HQ⟩; refine ⟨_, rfl, ?_⟩; replace HS := HS.call HQ; clear HQ; (try clear F); obtain ⟨B5, d5, rfl, m5⟩ := HS.form 0 rfl; replace HS : Hp noFP w _ [.own (Zd.slice 94 q94) t4 [.slice B5 t4.length d5]] := HS) | ((with_reducible refine gate_dst (N := 22) rfl ?_); refine ev_call rfl Try.func11 (by kernel_rfl) rfl #[.slice B5 t4.length d5] rfl (by simp only [List.map_toArray, List.map_cons, List.map_nil]; rfl) ?_; refine (spec_StaysOf.calls ht7.out (HS.rd 0 rfl) m5).mono ?_; rintro _ wt7 ⟨v8, rfl, HQ⟩; refine ⟨_, rfl, ?_⟩; replace HS := HS.call HQ; clear HQ; (try clear F); obtain ⟨B8, d8, rfl, m8⟩ := HS.form 1 rfl; replace HS : Hp noFP w _ [.own (Zd.slice 94 q94) t4 [.slice B5 t4.length d5], .own (Zd.slice 3 (Zd.int .i64)) t7.1 [.slice B8 t7.1.length d8]] := HS) | ((with_reducible refine gate_dst (N := 26) rfl ?_); refine ev_call rfl Try.func12 (by kernel_rfl) rfl #[.slice Ap0 a0.length cp0] rfl (by simp only [List.map_toArray, List.map_cons, List.map_nil]; rfl) ?_; refine (laws_toCertS.calls ht10.out (HS.ro gp0) lp0).mono ?_; rintro _ wt10 ⟨v11, rfl, HQ⟩; refine ⟨_, rfl, ?_⟩; replace HS := HS.call HQ; clear HQ; (try clear F); obtain ⟨B11, d11, rfl, m11⟩ := HS.form 2 rfl; replace HS : Hp noFP w _ [.own (Zd.slice 94 q94) t4 [.slice B5 t4.length d5], .own (Zd.slice 3 (Zd.int .i64)) t7.1 [.slice B8 t7.1.length d8], .own (Zd.slice 94 q94) t10 [.slice B11 t10.length d11]] := HS) | ((with_reducible refine gate_dst (N := 29) rfl ?_); refine ev_call rfl Try.func13 (by kernel_rfl) rfl #[.slice B11 t10.length d11] rfl (by simp only [List.map_toArray, List.map_cons, List.map_nil]; rfl) ?_; refine (impl_StaysOf.calls ht13.out (HS.rd 2 rfl) m11).mono ?_; rintro _ wt13 ⟨v14, rfl, HQ⟩; refine ⟨_, rfl, ?_⟩; replace HS := HS.call HQ; clear HQ; (try clear F); obtain ⟨B14, d14, rfl, m14⟩ := HS.form 3 rfl; replace HS : Hp noFP w _ [.own (Zd.slice 94 q94) t4 [.slice B5 t4.length d5], .own (Zd.slice 3 (Zd.int .i64)) t7.1 [.slice B8 t7.1.length d8], .own (Zd.slice 94 q94) t10 [.slice B11 t10.length d11], .own (Zd.slice 3 (Zd.int .i64)) t13.1 [.slice B14 t13.1.length d14]] := HS) | ((with_reducible refine gate_dst (N := 34) rfl ?_); refine ev_call rfl Try.func14 (by kernel_rfl) rfl #[.slice B14 t13.1.length d14, .slice B8 t7.1.length d8] rfl (by simp only [List.map_toArray, List.map_cons, List.map_nil]; rfl) ?_; refine (laws_eqIntS.calls ht16.out (HS.rd 3 rfl) m14 (HS.rd 1 rfl) m8).mono ?_; rintro _ wt16 ⟨rfl, HQ⟩; refine ⟨_, rfl, ?_⟩; replace HS := HS.call HQ; clear HQ; (try clear F); replace HS : Hp noFP w _ [.own (Zd.slice 94 q94) t4 [.slice B5 t4.length d5], .own (Zd.slice 3 (Zd.int .i64)) t7.1 [.slice B8 t7.1.length d8], .own (Zd.slice 94 q94) t10 [.slice B11 t10.length d11], .own (Zd.slice 3 (Zd.int .i64)) t13.1 [.slice B14 t13.1.length d14]] := HS))
     go_ret
     exact ⟨rfl, HS.pick [] (by decide) (by rfl)⟩
end Go.Proofs.Ytdcjcanobiohnaa.F

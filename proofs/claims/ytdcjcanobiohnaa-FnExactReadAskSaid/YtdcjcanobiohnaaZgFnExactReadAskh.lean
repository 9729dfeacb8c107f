/- Functions of the program and of the law, and that their calls do what is written here. -/
import Derived.Test.YtdcjcanobiohnaaZgFnExactReadAskc
import Derived.Test.YtdcjcanobiohnaaZgFnExactReadAskg
namespace Go.Proofs.Ytdcjcanobiohnaa.F
open Go.RowKit Go.Proofs.YtdcjcanobiohnaaW.PrintWords Go.Proofs.YtdcjcanobiohnaaW.PrintLast Go.Proofs.YtdcjcanobiohnaaW.PrintMore Go.Proofs.Ytdcjcanobiohnaa.Z
attribute [local go_sem] max2_int min2_int max_two min_two max_three min_three max_four min_four
set_option linter.unusedVariables false
set_option linter.unusedSimpArgs false
set_option maxRecDepth 100000
/-! ### laws_eqStringS: function 96 -/
def laws_eqStringS.l0 : Nat → Int → (List ByteArray) → (List ByteArray) → Option (Bool)
  | 0, _, _, _ => none
  | k + 1, x5, a0, a1 => (if x5 < (a0.length : Int) then (if 0 ≤ x5 then (if x5 < (a0.length : Int) then (if x5 < (a1.length : Int) then (if (rdOf ByteArray.empty a0 x5).toList = (rdOf ByteArray.empty a1 x5).toList then (laws_eqStringS.l0 k (wrap64 (x5 + 1)) a0 a1) else (some false)) else none) else none) else none) else (some true))
def laws_eqStringS.f (k : Nat) (a0 : (List ByteArray)) (a1 : (List ByteArray)) : Option (Bool) := (if (a0.length : Int) = (a1.length : Int) then (laws_eqStringS.l0 k 0 a0 a1) else (some false))
def laws_eqStringS.T6 : Bool × List (List Nat × List Nat) := (true, [([], []), ([], []), ([0, 1], [0, 1]), ([2], [2]), ([], []), ([], []), ([4, 5], [4, 5]), ([6], [6]), ([3, 7], [3, 7])])
theorem laws_eqStringS.tT6 : rtab .any (opsOf Try.f96 6) = laws_eqStringS.T6 := by kernel_rfl
set_option maxHeartbeats 16000000 in
theorem laws_eqStringS.calls {k : Nat} {a0 : (List ByteArray)} {a1 : (List ByteArray)} {Ap0 : Option Addr} {np0 cp0 : Nat} {Ap1 : Option Addr} {np1 cp1 : Nat} {r : Bool} {w : World} (h : laws_eqStringS.f k a0 a1 = some r) (gp0 : Kd.string.C w Ap0 np0 a0) (lp0 : np0 ≤ cp0) (gp1 : Kd.string.C w Ap1 np1 a1) (lp1 : np1 ≤ cp1) :
    Calls Try.prog 96 #[.slice Ap0 np0 cp0, .slice Ap1 np1 cp1] w (fun e w' => e = .returned (.bool r) ∧ Hp noFP w w' []) := by
 obtain rfl := C_len gp0
 obtain rfl := C_len gp1
 have HS := Hp.start w
 have H := Aside0.mk h
 clear h
 unfold laws_eqStringS.f at H
 go_enter Try.func96, Try.ntmps96
 by_cases c1 : (a0.length : Int) = (a1.length : Int)
 · replace H := zpos c1 H
   have c1a := beq_iff_eq.mpr c1
   have c1b := bne_eq_false_iff_eq.mpr c1
   clear c1
   go_wp2
   go_loopg [5] k (fun kq v_5 w' => ∃ (x5 : Int), v_5 = .int .i64 x5 ∧ Aside0 (laws_eqStringS.l0 kq x5 a0 a1 = some r) ∧ Aside0 (kq ≤ k) ∧ Hp noFP w w' [])
   case atStart => exact ⟨_, rfl, H, ⟨Nat.le_refl _⟩, HS⟩
   case round =>
    clear HS H; (try clear F)
    obtain ⟨x5, rfl, H, HKk4, HS⟩ := hrel
    cases gk with
    | zero => exact absurd H.out (by simp [laws_eqStringS.l0])
    | succ k4 =>
     simp only [laws_eqStringS.l0] at H
     by_cases c7 : x5 < (a0.length : Int)
     · replace H := zpos c7 H
       replace c7 := eq_true c7
       (try go_wp2)
       by_cases c102001 : 0 ≤ x5
       case neg => exact zno c102001 H
       replace H := zpos c102001 H
       replace c102001 := eq_true c102001
       by_cases c102002 : x5 < (a0.length : Int)
       case neg => exact zno c102002 H
       replace H := zpos c102002 H
       replace c102002 := eq_true c102002
       obtain ⟨ad102999, rfl, e102999_0⟩ := Kd.at_string gp0 x5 (of_eq_true c102001) (of_eq_true c102002)
       by_cases c106001 : x5 < (a1.length : Int)
       case neg => exact zno c106001 H
       replace H := zpos c106001 H
       replace c106001 := eq_true c106001
       obtain ⟨ad106999, rfl, e106999_0⟩ := Kd.at_string gp1 x5 (of_eq_true c102001) (of_eq_true c106001)
       refine dr_start [] HS #[false, false, false, false, false, false, false, false, false] (by kernel_rfl) rfl rfl laws_eqStringS.tT6 (fun w9 HT HS HH => ?_)
       (try clear F)
       refine drq_of [(0, some 17), (1, some 18), (2, some 19)] ?_
       repeat (first | (refine drq_pure HT (v := ?_) (a' := ?_) rfl rfl (by kernel_rfl) (fun _ _ _ h => h) (.inl ⟨by rfl, ?_⟩) ?_ ?_; rotate_left; (intro w'; go_simp; with_reducible rfl); rotate_left; (simp only [Act.put, List.setIfInBounds_toArray, List.set_cons_zero, List.set_cons_succ, i64_w, i32_w]; rfl)))
       refine drq_end ?_
       refine dr_take 3 (some 20) HT HH (v := ?_) (a' := ?_) rfl rfl (by kernel_rfl) (fun _ _ _ h => h) (.inl ⟨by rfl, ?_⟩) ?_ ?_
       rotate_left
       · rintro w' ⟨rs', HS'⟩; have e102999_0 := (HS'.keepc e102999_0); go_simp; with_reducible rfl
       rotate_left
       · simp only [Act.put, List.setIfInBounds_toArray, List.set_cons_zero, List.set_cons_succ, i64_w, i32_w]; rfl
       refine drq_of [(4, some 21), (5, some 22), (6, some 23)] ?_
       repeat (first | (refine drq_pure HT (v := ?_) (a' := ?_) rfl rfl (by kernel_rfl) (fun _ _ _ h => h) (.inl ⟨by rfl, ?_⟩) ?_ ?_; rotate_left; (intro w'; go_simp; with_reducible rfl); rotate_left; (simp only [Act.put, List.setIfInBounds_toArray, List.set_cons_zero, List.set_cons_succ, i64_w, i32_w]; rfl)))
       refine drq_end ?_
       refine dr_take 7 (some 24) HT HH (v := ?_) (a' := ?_) rfl rfl (by kernel_rfl) (fun _ _ _ h => h) (.inl ⟨by rfl, ?_⟩) ?_ ?_
       rotate_left
       · rintro w' ⟨rs', HS'⟩; have e106999_0 := (HS'.keepc e106999_0); go_simp; with_reducible rfl
       rotate_left
       · simp only [Act.put, List.setIfInBounds_toArray, List.set_cons_zero, List.set_cons_succ, i64_w, i32_w]; rfl
       refine drq_of [(8, some 25)] ?_
       repeat (first | (refine drq_pure HT (v := ?_) (a' := ?_) rfl rfl (by kernel_rfl) (fun _ _ _ h => h) (.inl ⟨by rfl, ?_⟩) ?_ ?_; rotate_left; (intro w'; go_simp; with_reducible rfl); rotate_left; (simp only [Act.put, List.setIfInBounds_toArray, List.set_cons_zero, List.set_cons_succ, i64_w, i32_w]; rfl)))
       refine drq_end ?_
       refine done_ (done_of HT.out (by kernel_rfl)) ?_
       by_cases c11 : (rdOf ByteArray.empty a0 x5).toList = (rdOf ByteArray.empty a1 x5).toList
       · replace H := zpos c11 H
         have c11a := beq_iff_eq.mpr c11
         have c11b := bne_eq_false_iff_eq.mpr c11
         clear c11
         (try simp only [c11a, c11b, decide_true, decide_false, Bool.not_true, Bool.not_false])
         go_wp2
         go_roundg k4
         case measure => have := HKk4.out; omega
         case rel => exact ⟨_, rfl, H, ⟨by have := HKk4.out; omega⟩, HS.pick [] (by decide) (by rfl)⟩
       · replace H := zneg c11 H
         have c11a := beq_eq_false_iff_ne.mpr c11
         have c11b := bne_iff_ne.mpr c11
         clear c11
         (try simp only [c11a, c11b, decide_true, decide_false, Bool.not_true, Bool.not_false])
         obtain rfl := zsome H
         go_wp2
         go_ret
         exact ⟨rfl, HS.pick [] (by decide) (by rfl)⟩
     · replace H := zneg c7 H
       replace c7 := eq_false c7
       obtain rfl := zsome H
       go_wp2
       go_ret
       exact ⟨rfl, HS.pick [] (by decide) (by rfl)⟩
 · replace H := zneg c1 H
   have c1a := beq_eq_false_iff_ne.mpr c1
   have c1b := bne_iff_ne.mpr c1
   clear c1
   obtain rfl := zsome H
   go_wp2
   go_ret
   exact ⟨rfl, HS.pick [] (by decide) (by rfl)⟩
/-! ### laws_eqAsk: function 39 -/
def laws_eqAsk.f (k : Nat) (a0 : S67) (a1 : S67) : Option (Bool) := ((laws_eqStringS.f k a0.f0 a1.f0).bind fun t5 => (if t5 = true then (if a0.f1 = a1.f1 then (if a0.f2 = a1.f2 then (if a0.f3 = a1.f3 then (if a0.f4 = a1.f4 then (if a0.f5 = a1.f5 then (some true) else (some false)) else (some false)) else (some false)) else (some false)) else (some false)) else (some false)))
set_option maxHeartbeats 16000000 in
theorem laws_eqAsk.calls {k : Nat} {a0 : S67} {a1 : S67} {Ap0 : Option Addr} {np0 cp0 : Nat} {Ap1 : Option Addr} {np1 cp1 : Nat} {r : Bool} {w : World} (h : laws_eqAsk.f k a0 a1 = some r) (gp0 : Kd.string.C w Ap0 np0 a0.f0) (lp0 : np0 ≤ cp0) (gp1 : Kd.string.C w Ap1 np1 a1.f0) (lp1 : np1 ≤ cp1) :
    Calls Try.prog 39 #[.agg #[.slice Ap0 np0 cp0, .int .i64 a0.f1, .int .i64 a0.f2, .int .i64 a0.f3, .int .i64 a0.f4, .bool a0.f5], .agg #[.slice Ap1 np1 cp1, .int .i64 a1.f1, .int .i64 a1.f2, .int .i64 a1.f3, .int .i64 a1.f4, .bool a1.f5]] w (fun e w' => e = .returned (.bool r) ∧ Hp noFP w w' []) := by
 obtain rfl := C_len gp0
 obtain rfl := C_len gp1
 have HS := Hp.start w
 have H := Aside0.mk h
 clear h
 unfold laws_eqAsk.f at H
 go_enter Try.func39, Try.ntmps39
 replace H := zbind H; obtain ⟨t5, ht5, H⟩ := H
 go_upto_if 10 with (first | ((with_reducible refine gate_dst (N := 2) rfl ?_); refine ev_box rfl HS (by first | (go_simp; done) | (go_simp; rfl)) rfl ?_; clear HS; (try clear F); intro g2 w2 HS; replace HS : Hp noFP w _ [.box g2 [.slice Ap0 a0.f0.length cp0, .int .i64 a0.f1, .int .i64 a0.f2, .int .i64 a0.f3, .int .i64 a0.f4, .bool a0.f5] 67] := HS; have F := HS.boxes; simp only [boxFacts, and_true] at F) | ((with_reducible refine gate_dst (N := 3) rfl ?_); refine ev_box rfl HS (by first | (go_simp; done) | (go_simp; rfl)) rfl ?_; clear HS; (try clear F); intro g3 w3 HS; replace HS : Hp noFP w _ [.box g2 [.slice Ap0 a0.f0.length cp0, .int .i64 a0.f1, .int .i64 a0.f2, .int .i64 a0.f3, .int .i64 a0.f4, .bool a0.f5] 67, .box g3 [.slice Ap1 a1.f0.length cp1, .int .i64 a1.f1, .int .i64 a1.f2, .int .i64 a1.f3, .int .i64 a1.f4, .bool a1.f5] 67] := HS; have F := HS.boxes; simp only [boxFacts, and_true] at F) | ((with_reducible refine gate_dst (N := 9) rfl ?_); refine ev_call rfl Try.func96 (by kernel_rfl) rfl #[.slice Ap0 a0.f0.length cp0, .slice Ap1 a1.f0.length cp1] rfl (by simp only [List.map_toArray, List.map_cons, List.map_nil]; rfl) ?_; refine (laws_eqStringS.calls ht5.out (HS.ro gp0) lp0 (HS.ro gp1) lp1).mono ?_; rintro _ wt5 ⟨rfl, HQ⟩; refine ⟨_, rfl, ?_⟩; replace HS := HS.call HQ; clear HQ; (try clear F); replace HS : Hp noFP w _ [.box g2 [.slice Ap0 a0.f0.length cp0, .int .i64 a0.f1, .int .i64 a0.f2, .int .i64 a0.f3, .int .i64 a0.f4, .bool a0.f5] 67, .box g3 [.slice Ap1 a1.f0.length cp1, .int .i64 a1.f1, .int .i64 a1.f2, .int .i64 a1.f3, .int .i64 a1.f4, .bool a1.f5] 67] := HS; have F := HS.boxes; simp only [boxFacts, and_true] at F))
 by_cases c7 : t5 = true
 · replace H := zpos c7 H
   subst c7
   (try simp only [decide_true, decide_false, Bool.not_true, Bool.not_false, if_true, Bool.false_eq_true, if_false])
   by_cases c8 : a0.f1 = a1.f1
   · replace H := zpos c8 H
     have c8a := beq_iff_eq.mpr c8
     have c8b := bne_eq_false_iff_eq.mpr c8
     clear c8
     by_cases c9 : a0.f2 = a1.f2
     · replace H := zpos c9 H
       have c9a := beq_iff_eq.mpr c9
       have c9b := bne_eq_false_iff_eq.mpr c9
       clear c9
       by_cases c10 : a0.f3 = a1.f3
       · replace H := zpos c10 H
         have c10a := beq_iff_eq.mpr c10
         have c10b := bne_eq_false_iff_eq.mpr c10
         clear c10
         by_cases c11 : a0.f4 = a1.f4
         · replace H := zpos c11 H
           have c11a := beq_iff_eq.mpr c11
           have c11b := bne_eq_false_iff_eq.mpr c11
           clear c11
           by_cases c12 : a0.f5 = a1.f5
           · replace H := zpos c12 H
             have c12a := beq_iff_eq.mpr c12
             have c12b := bne_eq_false_iff_eq.mpr c12
             clear c12
             obtain rfl := zsome H
             go_wp2
             go_ret
             exact ⟨rfl, HS.pick [] (by decide) (by rfl)⟩
           · replace H := zneg c12 H
             have c12a := beq_eq_false_iff_ne.mpr c12
             have c12b := bne_iff_ne.mpr c12
             clear c12
             obtain rfl := zsome H
             go_wp2
             go_ret
             exact ⟨rfl, HS.pick [] (by decide) (by rfl)⟩
         · replace H := zneg c11 H
           have c11a := beq_eq_false_iff_ne.mpr c11
           have c11b := bne_iff_ne.mpr c11
           clear c11
           obtain rfl := zsome H
           go_wp2
           go_ret
           exact ⟨rfl, HS.pick [] (by decide) (by rfl)⟩
       · replace H := zneg c10 H
         have c10a := beq_eq_false_iff_ne.mpr c10
         have c10b := bne_iff_ne.mpr c10
         clear c10
         obtain rfl := zsome H
         go_wp2
         go_ret
         exact ⟨rfl, HS.pick [] (by decide) (by rfl)⟩
     · replace H := zneg c9 H
       have c9a := beq_eq_false_iff_ne.mpr c9
       have c9b := bne_iff_ne.mpr c9
       clear c9
       obtain rfl := zsome H
       go_wp2
       go_ret
       exact ⟨rfl, HS.pick [] (by decide) (by rfl)⟩
   · replace H := zneg c8 H
     have c8a := beq_eq_false_iff_ne.mpr c8
     have c8b := bne_iff_ne.mpr c8
     clear c8
     obtain rfl := zsome H
     go_wp2
     go_ret
     exact ⟨rfl, HS.pick [] (by decide) (by rfl)⟩
 · replace H := zneg c7 H
   replace c7 := eq_false_of_ne_true c7
   subst c7
   (try simp only [decide_true, decide_false, Bool.not_true, Bool.not_false, if_true, Bool.false_eq_true, if_false])
   obtain rfl := zsome H
   go_wp2
   go_ret
   exact ⟨rfl, HS.pick [] (by decide) (by rfl)⟩
/-! ### laws_markText: function 55 -/
def laws_markText.l0 : Nat → Int → ByteArray → Option (ByteArray)
  | 0, _, _ => none
  | k + 1, x11, x12 => (if 0 < x11 then (if (strOfNums ([((wrap64 (48 + (Int.tmod x11 10))) % 256)] : List Int)).size + x12.size ≤ 9223372036854775807 then (laws_markText.l0 k (wrap64 (Int.tdiv x11 10)) ((strOfNums ([((wrap64 (48 + (Int.tmod x11 10))) % 256)] : List Int)) ++ x12)) else none) else (if (⟨#[109]⟩ : ByteArray).size + x12.size ≤ 9223372036854775807 then (some ((⟨#[109]⟩ : ByteArray) ++ x12)) else none))
def laws_markText.f (k : Nat) (a0 : Int) : Option (ByteArray) := (if a0 ≤ 0 then (some (⟨#[109, 48]⟩ : ByteArray)) else (laws_markText.l0 k a0 (⟨#[]⟩ : ByteArray)))
set_option maxHeartbeats 16000000 in
theorem laws_markText.calls {k : Nat} {a0 : Int} {r : ByteArray} {w : World} (h : laws_markText.f k a0 = some r) :
    Calls Try.prog 55 #[.int .i64 a0] w (fun e w' => e = .returned (.string r) ∧ Hp noFP w w' []) := by
 have HS := Hp.start w
 have H := Aside0.mk h
 clear h
 unfold laws_markText.f at H
 go_enter Try.func55, Try.ntmps55
 by_cases c1 : a0 ≤ 0
 · replace H := zpos c1 H
   replace c1 := eq_true c1
   obtain rfl := zsome H
   go_wp2
   go_ret
   exact ⟨rfl, HS.pick [] (by decide) (by rfl)⟩
 · replace H := zneg c1 H
   replace c1 := eq_false c1
   go_wp2
   go_loopg [0, 3] k (fun kq v_0 v_3 w' => ∃ (x11 : Int) (x12 : ByteArray), v_0 = .int .i64 x11 ∧ v_3 = .string x12 ∧ Aside0 (laws_markText.l0 kq x11 x12 = some r) ∧ Aside0 (kq ≤ k) ∧ Hp noFP w w' [])
   case atStart => exact ⟨_, _, rfl, rfl, H, ⟨Nat.le_refl _⟩, HS⟩
   case round =>
    clear HS H; (try clear F)
    obtain ⟨x11, x12, rfl, rfl, H, HKk10, HS⟩ := hrel
    cases gk with
    | zero => exact absurd H.out (by simp [laws_markText.l0])
    | succ k10 =>
     simp only [laws_markText.l0] at H
     by_cases c14 : 0 < x11
     · replace H := zpos c14 H
       replace c14 := eq_true c14
       by_cases c17 : (strOfNums ([((wrap64 (48 + (Int.tmod x11 10))) % 256)] : List Int)).size + x12.size ≤ 9223372036854775807
       case neg => exact zno c17 H
       replace H := zpos c17 H
       replace c17 := eq_true c17
       go_wp2_with (first | ((with_reducible refine gate_dst (N := 12) rfl ?_); refine ev_lit rfl (Zd.int .u8) [] ([((wrap64 (48 + (Int.tmod x11 10))) % 256)] : List Int) ([.int .u8 ((wrap64 (48 + (Int.tmod x11 10))) % 256)] ++ []) HS (by first | (go_simp; done) | (go_simp; rfl)) rfl rfl (Nat.le_of_ble_eq_true rfl) (MadeL.cons (js1 := []) (c := [.int .u8 ((wrap64 (48 + (Int.tmod x11 10))) % 256)]) rfl (made_flat (fun _ => rfl)) MadeL.nil (by decide)) ?_; clear HS; (try clear F); intro v15 w15 HS; obtain ⟨B15, d15, rfl, m15⟩ := HS.formn 1 0 rfl rfl; replace HS : Hp noFP w _ [.own (Zd.slice 5 (Zd.int .u8)) ([((wrap64 (48 + (Int.tmod x11 10))) % 256)] : List Int) [.slice B15 1 d15]] := HS) | ((with_reducible refine gate_dst (N := 13) rfl ?_); refine ev_val rfl (run_str rfl rfl Try.underlying162 Try.underlying5 Try.underlying9 (HS.rd 0 rfl)) ?_) | ((with_reducible refine gate_dst (N := 15) rfl ?_); refine ev_val rfl (run_cat rfl rfl rfl (of_eq_true c17)) ?_))
       go_roundg k10
       case measure => have := HKk10.out; omega
       case rel => exact ⟨_, _, rfl, rfl, H, ⟨by have := HKk10.out; omega⟩, HS.pick [] (by decide) (by rfl)⟩
     · replace H := zneg c14 H
       replace c14 := eq_false c14
       by_cases c18 : (⟨#[109]⟩ : ByteArray).size + x12.size ≤ 9223372036854775807
       case neg => exact zno c18 H
       replace H := zpos c18 H
       replace c18 := eq_true c18
       obtain rfl := zsome H
       go_wp2_with (first | ((with_reducible refine gate_dst (N := 19) rfl ?_); refine ev_val rfl (run_cat rfl rfl rfl (of_eq_true c18)) ?_))
       go_ret
       exact ⟨rfl, HS.pick [] (by decide) (by rfl)⟩
/-! ### laws_markStringS: function 56 -/
def laws_markStringS.l0 : Nat → (List ByteArray) → Int → Int → (List ByteArray) → Option (Int × (List ByteArray))
  | 0, _, _, _, _ => none
  | k + 1, l21, x23, x24, a0 => (if x24 < (a0.length : Int) then ((laws_markText.f k x23).bind fun t27 => (if 0 ≤ x24 then (if x24 < (a0.length : Int) then (laws_markStringS.l0 k (l21.set (x24).toNat t27) (wrap64 (x23 + 1)) (wrap64 (x24 + 1)) a0) else none) else none)) else (some (x23, l21)))
def laws_markStringS.f (k : Nat) (a0 : (List ByteArray)) (a1 : Int) : Option (Int × (List ByteArray)) := (laws_markStringS.l0 k a0 a1 0 a0)
set_option maxHeartbeats 16000000 in
theorem laws_markStringS.calls {k : Nat} {a0 : (List ByteArray)} {a1 : Int} {A : FP} {vp0 : Value} {r1 : Int} {r2 : (List ByteArray)} {w : World} (h : laws_markStringS.f k a0 a1 = some (r1, r2)) (HS : Hp A w w [.own (Zd.slice 9 Zd.string) a0 [vp0]]) :
    Calls Try.prog 56 #[vp0, .int .i64 a1] w (fun e w' => e = .returned (.int .i64 r1) ∧ Hp A w w' [.own (Zd.slice 9 Zd.string) r2 [vp0]]) := by
 obtain ⟨B1, d1, rfl, m1⟩ := HS.form 0 rfl
 have H := Aside0.mk h
 clear h
 unfold laws_markStringS.f at H
 go_enter Try.func56, Try.ntmps56
 go_wp2
 go_loopg [1, 5] k (fun kq v_1 v_5 w' => ∃ (l21 : List ByteArray) (x23 : Int) (x24 : Int), v_1 = .int .i64 x23 ∧ v_5 = .int .i64 x24 ∧ Aside0 (laws_markStringS.l0 kq l21 x23 x24 a0 = some (r1, r2)) ∧ Aside0 (kq ≤ k) ∧ Hp A w w' [.own (Zd.slice 9 Zd.string) l21 [.slice B1 a0.length d1]])
 case atStart => exact ⟨_, _, _, rfl, rfl, H, ⟨Nat.le_refl _⟩, HS⟩
 case round =>
  clear HS H; (try clear F)
  obtain ⟨l21, x23, x24, rfl, rfl, H, HKk20, HS⟩ := hrel
  cases gk with
  | zero => exact absurd H.out (by simp [laws_markStringS.l0])
  | succ k20 =>
   simp only [laws_markStringS.l0] at H
   by_cases c26 : x24 < (a0.length : Int)
   · replace H := zpos c26 H
     replace c26 := eq_true c26
     replace H := zbind H; obtain ⟨t27, ht27, H⟩ := H
     by_cases c29 : 0 ≤ x24
     case neg => exact zno c29 H
     replace H := zpos c29 H
     replace c29 := eq_true c29
     by_cases c30 : x24 < (a0.length : Int)
     case neg => exact zno c30 H
     replace H := zpos c30 H
     replace c30 := eq_true c30
     go_wp2_with (first | ((with_reducible refine gate_dst (N := 15) rfl ?_); refine ev_call rfl Try.func55 (by kernel_rfl) rfl #[.int .i64 x23] rfl (by simp only [List.map_toArray, List.map_cons, List.map_nil]; rfl) ?_; refine (laws_markText.calls ht27.out).mono ?_; rintro _ wt27 ⟨rfl, HQ⟩; refine ⟨_, rfl, ?_⟩; replace HS := HS.call HQ; clear HQ; (try clear F); replace HS : Hp A w _ [.own (Zd.slice 9 Zd.string) l21 [.slice B1 a0.length d1]] := HS; obtain ⟨ad31, rfl, e31_0⟩ := Kd.at_string (HS.rd 0 rfl) x24 (of_eq_true c29) (of_eq_true c30)) | ((with_reducible refine gate_store (p := 16) rfl ?_); refine ev_set rfl Zd.string 0 [] x24 t27 HS (seg := [.string t27]) rfl (by decide) rfl rfl rfl (by first | rfl | exact (Nat.mul_one _).symm) rfl rfl (by kernel_rfl) (by simp [Value.oneCell']) ⟨of_eq_true c29, of_eq_true c30⟩ rfl (made_flat (fun _ => rfl)) ?_; clear HS; (try clear F); intro w32 HS; replace HS : Hp A w _ [.own (Zd.slice 9 Zd.string) (l21.set (x24).toNat t27) [.slice (some ad31) a0.length d1]] := HS))
     go_roundg k20
     case measure => have := HKk20.out; omega
     case rel => exact ⟨_, _, _, rfl, rfl, H, ⟨by have := HKk20.out; omega⟩, HS.pick [0] (by decide) (by rfl)⟩
   · replace H := zneg c26 H
     replace c26 := eq_false c26
     obtain ⟨rfl, rfl⟩ := zsome2 H
     go_wp2
     go_ret
     exact ⟨rfl, HS.pick [0] (by decide) (by rfl)⟩
/-! ### laws_markAsk: function 40 -/
def laws_markAsk.f (k : Nat) (a0 : S67) (a1 : Int) : Option (Int × (List ByteArray)) := ((laws_markStringS.f k a0.f0 a1).bind fun t4 => (some (t4.1, t4.2)))
set_option maxHeartbeats 16000000 in
theorem laws_markAsk.calls {k : Nat} {a0 : S67} {a1 : Int} {A : FP} {vp0 : Value} {r1 : Int} {r2 : (List ByteArray)} {w : World} (h : laws_markAsk.f k a0 a1 = some (r1, r2)) (HS : Hp A w w [.own (Zd.slice 9 Zd.string) a0.f0 [vp0]]) :
    Calls Try.prog 40 #[.agg #[vp0, .int .i64 a0.f1, .int .i64 a0.f2, .int .i64 a0.f3, .int .i64 a0.f4, .bool a0.f5], .int .i64 a1] w (fun e w' => e = .returned (.int .i64 r1) ∧ Hp A w w' [.own (Zd.slice 9 Zd.string) r2 [vp0]]) := by
 obtain ⟨B1, d1, rfl, m1⟩ := HS.form 0 rfl
 have H := Aside0.mk h
 clear h
 unfold laws_markAsk.f at H
 go_enter Try.func40, Try.ntmps40
 replace H := zbind H; obtain ⟨t4, ht4, H⟩ := H
 obtain ⟨rfl, rfl⟩ := zsome2 H
 go_wp2_with (first | ((with_reducible refine gate_dst (N := 2) rfl ?_); refine ev_box rfl HS (by first | (go_simp; done) | (go_simp; rfl)) rfl ?_; clear HS; (try clear F); intro g2 w2 HS; replace HS : Hp A w _ [.own (Zd.slice 9 Zd.string) a0.f0 [.slice B1 a0.f0.length d1], .box g2 [.slice B1 a0.f0.length d1, .int .i64 a0.f1, .int .i64 a0.f2, .int .i64 a0.f3, .int .i64 a0.f4, .bool a0.f5] 67] := HS; have F := HS.boxes; simp only [boxFacts, and_true] at F) | ((with_reducible refine gate_dst (N := 8) rfl ?_); refine HS.lend [0] (by decide) [.own (Zd.slice 9 Zd.string) a0.f0 [.slice B1 a0.f0.length d1]] rfl (fun A' HL HD HA HB => ?_); refine ev_call rfl Try.func56 (by kernel_rfl) rfl #[.slice B1 a0.f0.length d1, .int .i64 a1] rfl (by simp only [List.map_toArray, List.map_cons, List.map_nil]; rfl) ?_; refine (laws_markStringS.calls ht4.out HA).mono ?_; rintro _ wt4 ⟨rfl, HQ⟩; refine ⟨_, rfl, ?_⟩; replace HS : Hp A w _ [.own (Zd.slice 9 Zd.string) t4.2 [.slice B1 a0.f0.length d1], .box g2 [.slice B1 a0.f0.length d1, .int .i64 a0.f1, .int .i64 a0.f2, .int .i64 a0.f3, .int .i64 a0.f4, .bool a0.f5] 67] := HB _ _ HQ (Nat.le_of_ble_eq_true rfl); clear HQ HA HB HL HD; (try clear F); replace HS : Hp A w _ [.own (Zd.slice 9 Zd.string) t4.2 [.slice B1 a0.f0.length d1], .box g2 [.slice B1 a0.f0.length d1, .int .i64 a0.f1, .int .i64 a0.f2, .int .i64 a0.f3, .int .i64 a0.f4, .bool a0.f5] 67] := HS; have F := HS.boxes; simp only [boxFacts, and_true] at F))
 go_ret
 exact ⟨rfl, HS.pick [0] (by decide) (by rfl)⟩
/-! ### laws_heldStringS: function 97 -/
def laws_heldStringS.l0 : Nat → Int → Int → (List ByteArray) → Option (Int)
  | 0, _, _, _ => none
  | k + 1, x9, x10, a0 => (if x10 < (a0.length : Int) then (if 0 ≤ x10 then (if x10 < (a0.length : Int) then ((laws_markText.f k x9).bind fun t205001 => (if (rdOf ByteArray.empty a0 x10).toList = t205001.toList then (laws_heldStringS.l0 k (wrap64 (x9 + 1)) (wrap64 (x10 + 1)) a0) else (some (-1)))) else none) else none) else (some x9))
def laws_heldStringS.f (k : Nat) (a0 : (List ByteArray)) (a1 : Int) : Option (Int) := (laws_heldStringS.l0 k a1 0 a0)
def laws_heldStringS.T4 : Bool × List (List Nat × List Nat) := (true, [([], []), ([], []), ([0, 1], [0, 1]), ([2], [2]), ([], []), ([4], [4]), ([3, 5], [3, 5])])
theorem laws_heldStringS.tT4 : rtab .any (opsOf Try.f97 4) = laws_heldStringS.T4 := by kernel_rfl
set_option maxHeartbeats 16000000 in
theorem laws_heldStringS.calls {k : Nat} {a0 : (List ByteArray)} {a1 : Int} {Ap0 : Option Addr} {np0 cp0 : Nat} {r : Int} {w : World} (h : laws_heldStringS.f k a0 a1 = some r) (gp0 : Kd.string.C w Ap0 np0 a0) (lp0 : np0 ≤ cp0) :
    Calls Try.prog 97 #[.slice Ap0 np0 cp0, .int .i64 a1] w (fun e w' => e = .returned (.int .i64 r) ∧ Hp noFP w w' []) := by
 obtain rfl := C_len gp0
 have HS := Hp.start w
 have H := Aside0.mk h
 clear h
 unfold laws_heldStringS.f at H
 go_enter Try.func97, Try.ntmps97
 go_wp2
 go_loopg [1, 5] k (fun kq v_1 v_5 w' => ∃ (x9 : Int) (x10 : Int), v_1 = .int .i64 x9 ∧ v_5 = .int .i64 x10 ∧ Aside0 (laws_heldStringS.l0 kq x9 x10 a0 = some r) ∧ Aside0 (kq ≤ k) ∧ Hp noFP w w' [])
 case atStart => exact ⟨_, _, rfl, rfl, H, ⟨Nat.le_refl _⟩, HS⟩
 case round =>
  clear HS H; (try clear F)
  obtain ⟨x9, x10, rfl, rfl, H, HKk8, HS⟩ := hrel
  cases gk with
  | zero => exact absurd H.out (by simp [laws_heldStringS.l0])
  | succ k8 =>
   simp only [laws_heldStringS.l0] at H
   by_cases c12 : x10 < (a0.length : Int)
   · replace H := zpos c12 H
     replace c12 := eq_true c12
     (try go_wp2)
     by_cases c202001 : 0 ≤ x10
     case neg => exact zno c202001 H
     replace H := zpos c202001 H
     replace c202001 := eq_true c202001
     by_cases c202002 : x10 < (a0.length : Int)
     case neg => exact zno c202002 H
     replace H := zpos c202002 H
     replace c202002 := eq_true c202002
     obtain ⟨ad202999, rfl, e202999_0⟩ := Kd.at_string gp0 x10 (of_eq_true c202001) (of_eq_true c202002)
     replace H := zbind H; obtain ⟨t205001, ht205001, H⟩ := H
     refine dr_start [] HS #[false, false, false, false, false, false, false] (by kernel_rfl) rfl rfl laws_heldStringS.tT4 (fun w14 HT HS HH => ?_)
     (try clear F)
     refine drq_of [(0, some 12), (1, some 13), (2, some 14)] ?_
     repeat (first | (refine drq_pure HT (v := ?_) (a' := ?_) rfl rfl (by kernel_rfl) (fun _ _ _ h => h) (.inl ⟨by rfl, ?_⟩) ?_ ?_; rotate_left; (intro w'; go_simp; with_reducible rfl); rotate_left; (simp only [Act.put, List.setIfInBounds_toArray, List.set_cons_zero, List.set_cons_succ, i64_w, i32_w]; rfl)))
     refine drq_end ?_
     refine dr_take 3 (some 15) HT HH (v := ?_) (a' := ?_) rfl rfl (by kernel_rfl) (fun _ _ _ h => h) (.inl ⟨by rfl, ?_⟩) ?_ ?_
     rotate_left
     · rintro w' ⟨rs', HS'⟩; have e202999_0 := (HS'.keepc e202999_0); go_simp; with_reducible rfl
     rotate_left
     · simp only [Act.put, List.setIfInBounds_toArray, List.set_cons_zero, List.set_cons_succ, i64_w, i32_w]; rfl
     refine drq_of [(4, some 16)] ?_
     repeat (first | (refine drq_pure HT (v := ?_) (a' := ?_) rfl rfl (by kernel_rfl) (fun _ _ _ h => h) (.inl ⟨by rfl, ?_⟩) ?_ ?_; rotate_left; (intro w'; go_simp; with_reducible rfl); rotate_left; (simp only [Act.put, List.setIfInBounds_toArray, List.set_cons_zero, List.set_cons_succ, i64_w, i32_w]; rfl)))
     refine drq_end ?_
     refine dr_one 5 HT rfl (by kernel_rfl) (by decide) (fun K hK => ?_)
     refine goes_ Try.func55 (by kernel_rfl) rfl #[.int .i64 x9] (by rfl) rfl rfl (by simp only [List.map_toArray, List.map_cons, List.map_nil]; rfl) ?_; refine (laws_markText.calls ht205001.out).mono ?_; rintro _ wt205001 ⟨rfl, HQ⟩; refine ⟨_, rfl, ?_⟩; replace HS := HS.call HQ; clear HQ; (try clear F)
     replace HS : Hp noFP w _ [] := HS
     refine hK.out _ _ ⟨_, HS⟩ (fun HH => ?_)
     clear hK K
     refine norm_ (a' := ?_) ?_ ?_
     rotate_left
     · show Act.put _ (some 17) _ = _; simp only [Act.put, List.setIfInBounds_toArray, List.set_cons_zero, List.set_cons_succ, i64_w, i32_w]; rfl
     refine drq_of [(6, some 18)] ?_
     repeat (first | (refine drq_pure HT (v := ?_) (a' := ?_) rfl rfl (by kernel_rfl) (fun _ _ _ h => h) (.inl ⟨by rfl, ?_⟩) ?_ ?_; rotate_left; (intro w'; go_simp; with_reducible rfl); rotate_left; (simp only [Act.put, List.setIfInBounds_toArray, List.set_cons_zero, List.set_cons_succ, i64_w, i32_w]; rfl)))
     refine drq_end ?_
     refine done_ (done_of HT.out (by kernel_rfl)) ?_
     by_cases c16 : (rdOf ByteArray.empty a0 x10).toList = t205001.toList
     · replace H := zpos c16 H
       have c16a := beq_iff_eq.mpr c16
       have c16b := bne_eq_false_iff_eq.mpr c16
       clear c16
       (try simp only [c16a, c16b, decide_true, decide_false, Bool.not_true, Bool.not_false])
       go_wp2
       go_roundg k8
       case measure => have := HKk8.out; omega
       case rel => exact ⟨_, _, rfl, rfl, H, ⟨by have := HKk8.out; omega⟩, HS.pick [] (by decide) (by rfl)⟩
     · replace H := zneg c16 H
       have c16a := beq_eq_false_iff_ne.mpr c16
       have c16b := bne_iff_ne.mpr c16
       clear c16
       (try simp only [c16a, c16b, decide_true, decide_false, Bool.not_true, Bool.not_false])
       obtain rfl := zsome H
       go_wp2
       go_ret
       exact ⟨rfl, HS.pick [] (by decide) (by rfl)⟩
   · replace H := zneg c12 H
     replace c12 := eq_false c12
     obtain rfl := zsome H
     go_wp2
     go_ret
     exact ⟨rfl, HS.pick [] (by decide) (by rfl)⟩
/-! ### laws_heldAsk: function 41 -/
def laws_heldAsk.f (k : Nat) (a0 : S67) (a1 : Int) : Option (Int) := ((laws_heldStringS.f k a0.f0 a1).bind fun t3 => (if t3 < 0 then (some (-1)) else (some t3)))
set_option maxHeartbeats 16000000 in
theorem laws_heldAsk.calls {k : Nat} {a0 : S67} {a1 : Int} {Ap0 : Option Addr} {np0 cp0 : Nat} {r : Int} {w : World} (h : laws_heldAsk.f k a0 a1 = some r) (gp0 : Kd.string.C w Ap0 np0 a0.f0) (lp0 : np0 ≤ cp0) :
    Calls Try.prog 41 #[.agg #[.slice Ap0 np0 cp0, .int .i64 a0.f1, .int .i64 a0.f2, .int .i64 a0.f3, .int .i64 a0.f4, .bool a0.f5], .int .i64 a1] w (fun e w' => e = .returned (.int .i64 r) ∧ Hp noFP w w' []) := by
 obtain rfl := C_len gp0
 have HS := Hp.start w
 have H := Aside0.mk h
 clear h
 unfold laws_heldAsk.f at H
 go_enter Try.func41, Try.ntmps41
 replace H := zbind H; obtain ⟨t3, ht3, H⟩ := H
 go_upto_if 10 with (first | ((with_reducible refine gate_dst (N := 2) rfl ?_); refine ev_box rfl HS (by first | (go_simp; done) | (go_simp; rfl)) rfl ?_; clear HS; (try clear F); intro g2 w2 HS; replace HS : Hp noFP w _ [.box g2 [.slice Ap0 a0.f0.length cp0, .int .i64 a0.f1, .int .i64 a0.f2, .int .i64 a0.f3, .int .i64 a0.f4, .bool a0.f5] 67] := HS; have F := HS.boxes; simp only [boxFacts, and_true] at F) | ((with_reducible refine gate_dst (N := 8) rfl ?_); refine ev_call rfl Try.func97 (by kernel_rfl) rfl #[.slice Ap0 a0.f0.length cp0, .int .i64 a1] rfl (by simp only [List.map_toArray, List.map_cons, List.map_nil]; rfl) ?_; refine (laws_heldStringS.calls ht3.out (HS.ro gp0) lp0).mono ?_; rintro _ wt3 ⟨rfl, HQ⟩; refine ⟨_, rfl, ?_⟩; replace HS := HS.call HQ; clear HQ; (try clear F); replace HS : Hp noFP w _ [.box g2 [.slice Ap0 a0.f0.length cp0, .int .i64 a0.f1, .int .i64 a0.f2, .int .i64 a0.f3, .int .i64 a0.f4, .bool a0.f5] 67] := HS; have F := HS.boxes; simp only [boxFacts, and_true] at F))
 by_cases c5 : t3 < 0
 · replace H := zpos c5 H
   replace c5 := eq_true c5
   (try simp only [c5, decide_true, decide_false, Bool.not_true, Bool.not_false])
   obtain rfl := zsome H
   go_wp2
   go_ret
   exact ⟨rfl, HS.pick [] (by decide) (by rfl)⟩
 · replace H := zneg c5 H
   replace c5 := eq_false c5
   (try simp only [c5, decide_true, decide_false, Bool.not_true, Bool.not_false])
   obtain rfl := zsome H
   go_wp2
   go_ret
   exact ⟨rfl, HS.pick [] (by decide) (by rfl)⟩
/-! ### laws_FnExactReadAsk: function 8 -/
def laws_FnExactReadAsk.f (k : Nat) (a0 : ByteArray) : Option (Bool) := (if 1048576 < (a0.size : Int) then (some true) else ((spec_ReadAsk.f k a0).bind fun t2 => ((impl_ReadAsk.f k a0).bind fun t9 => ((laws_eqAsk.f k t9.1 t2.1).bind fun t16 => (if t16 = true then (if t9.2 = t2.2 then ((laws_markAsk.f k t9.1 1).bind fun t20 => ((laws_heldAsk.f k (⟨t20.2, t9.1.f1, t9.1.f2, t9.1.f3, t9.1.f4, t9.1.f5⟩ : S67) 1).bind fun t22 => (if t22 < 0 then (some false) else (if t22 = t20.1 then ((impl_ReadAsk.f k a0).bind fun t26 => ((laws_eqAsk.f k t26.1 t2.1).bind fun t33 => (if t33 = true then (if t26.2 = t2.2 then ((laws_heldAsk.f k (⟨t20.2, t9.1.f1, t9.1.f2, t9.1.f3, t9.1.f4, t9.1.f5⟩ : S67) 1).bind fun t37 => (if t37 < 0 then (some false) else (if t37 = t20.1 then (some true) else (some false)))) else (some false)) else (some false)))) else (some false))))) else (some false)) else (some false))))))
set_option maxHeartbeats 16000000 in
theorem laws_FnExactReadAsk.calls {k : Nat} {a0 : ByteArray} {r : Bool} {w : World} (h : laws_FnExactReadAsk.f k a0 = some r) :
    Calls Try.prog 8 #[.string a0] w (fun e w' => e = .returned (.bool r) ∧ Hp noFP w w' []) := by
 have HS := Hp.start w
 have H := Aside0.mk h
 clear h
 unfold laws_FnExactReadAsk.f at H
 go_enter Try.func8, Try.ntmps8
 by_cases c1 : 1048576 < (a0.size : Int)
 · replace H := zpos c1 H
   replace c1 := eq_true c1
   obtain rfl := zsome H
   go_wp2
   go_ret
   exact ⟨rfl, HS.pick [] (by decide) (by rfl)⟩
 · replace H := zneg c1 H
   replace c1 := eq_false c1
   replace H := zbind H; obtain ⟨t2, ht2, H⟩ := H
   replace H := zbind H; obtain ⟨t9, ht9, H⟩ := H
   replace H := zbind H; obtain ⟨t16, ht16, H⟩ := H
   by_cases c18 : t16 = true
   · replace H := zpos c18 H
     subst c18
     go_upto_if 32 with (first | ((with_reducible refine gate_dst (N := 16) rfl ?_); refine ev_call rfl Try.func37 (by kernel_rfl) rfl #[.string a0] rfl (by simp only [List.map_toArray, List.map_cons, List.map_nil]; rfl) ?_; refine (spec_ReadAsk.calls ht2.out).mono ?_; rintro _ wt2 ⟨v3, rfl, HQ⟩; refine ⟨_, rfl, ?_⟩; replace HS := HS.call HQ; clear HQ; (try clear F); obtain ⟨B3, d3, rfl, m3⟩ := HS.form 0 rfl; replace HS : Hp noFP w _ [.own (Zd.slice 9 Zd.string) t2.1.f0 [.slice B3 t2.1.f0.length d3]] := HS) | ((with_reducible refine gate_dst (N := 3) rfl ?_); refine ev_box rfl HS (by first | (go_simp; done) | (go_simp; rfl)) rfl ?_; clear HS; (try clear F); intro g3 w3 HS; replace HS : Hp noFP w _ [.own (Zd.slice 9 Zd.string) t2.1.f0 [.slice B3 t2.1.f0.length d3], .box g3 [.slice none 0 0, .int .i64 0, .int .i64 0, .int .i64 0, .int .i64 0, .bool false] 67] := HS; have F := HS.boxes; simp only [boxFacts, and_true] at F) | ((with_reducible refine gate_store (p := 3) rfl ?_); refine ev_store rfl 1 0 HS (seg := [.slice B3 t2.1.f0.length d3, .int .i64 t2.1.f1, .int .i64 t2.1.f2, .int .i64 t2.1.f3, .int .i64 t2.1.f4, .bool t2.1.f5]) rfl rfl rfl rfl rfl rfl (by kernel_rfl) (by simp [wrt]) (by simp [Value.oneCell']) ?_; clear HS; (try clear F); intro w7 HS; replace HS : Hp noFP w _ [.own (Zd.slice 9 Zd.string) t2.1.f0 [.slice B3 t2.1.f0.length d3], .box g3 [.slice B3 t2.1.f0.length d3, .int .i64 t2.1.f1, .int .i64 t2.1.f2, .int .i64 t2.1.f3, .int .i64 t2.1.f4, .bool t2.1.f5] 67] := HS; have F := HS.boxes; simp only [boxFacts, and_true] at F) | ((with_reducible refine gate_dst (N := 21) rfl ?_); refine ev_call rfl Try.func38 (by kernel_rfl) rfl #[.string a0] rfl (by simp only [List.map_toArray, List.map_cons, List.map_nil]; rfl) ?_; refine (impl_ReadAsk.calls ht9.out).mono ?_; rintro _ wt9 ⟨v10, rfl, HQ⟩; refine ⟨_, rfl, ?_⟩; replace HS := HS.call HQ; clear HQ; (try clear F); obtain ⟨B10, d10, rfl, m10⟩ := HS.form 2 rfl; replace HS : Hp noFP w _ [.own (Zd.slice 9 Zd.string) t2.1.f0 [.slice B3 t2.1.f0.length d3], .box g3 [.slice B3 t2.1.f0.length d3, .int .i64 t2.1.f1, .int .i64 t2.1.f2, .int .i64 t2.1.f3, .int .i64 t2.1.f4, .bool t2.1.f5] 67, .own (Zd.slice 9 Zd.string) t9.1.f0 [.slice B10 t9.1.f0.length d10]] := HS; have F := HS.boxes; simp only [boxFacts, and_true] at F) | ((with_reducible refine gate_dst (N := 5) rfl ?_); refine ev_box rfl HS (by first | (go_simp; done) | (go_simp; rfl)) rfl ?_; clear HS; (try clear F); intro g5 w5 HS; replace HS : Hp noFP w _ [.own (Zd.slice 9 Zd.string) t2.1.f0 [.slice B3 t2.1.f0.length d3], .box g3 [.slice B3 t2.1.f0.length d3, .int .i64 t2.1.f1, .int .i64 t2.1.f2, .int .i64 t2.1.f3, .int .i64 t2.1.f4, .bool t2.1.f5] 67, .own (Zd.slice 9 Zd.string) t9.1.f0 [.slice B10 t9.1.f0.length d10], .box g5 [.slice none 0 0, .int .i64 0, .int .i64 0, .int .i64 0, .int .i64 0, .bool false] 67] := HS; have F := HS.boxes; simp only [boxFacts, and_true] at F) | ((with_reducible refine gate_store (p := 5) rfl ?_); refine ev_store rfl 3 0 HS (seg := [.slice B10 t9.1.f0.length d10, .int .i64 t9.1.f1, .int .i64 t9.1.f2, .int .i64 t9.1.f3, .int .i64 t9.1.f4, .bool t9.1.f5]) rfl rfl rfl rfl rfl rfl (by kernel_rfl) (by simp [wrt]) (by simp [Value.oneCell']) ?_; clear HS; (try clear F); intro w14 HS; replace HS : Hp noFP w _ [.own (Zd.slice 9 Zd.string) t2.1.f0 [.slice B3 t2.1.f0.length d3], .box g3 [.slice B3 t2.1.f0.length d3, .int .i64 t2.1.f1, .int .i64 t2.1.f2, .int .i64 t2.1.f3, .int .i64 t2.1.f4, .bool t2.1.f5] 67, .own (Zd.slice 9 Zd.string) t9.1.f0 [.slice B10 t9.1.f0.length d10], .box g5 [.slice B10 t9.1.f0.length d10, .int .i64 t9.1.f1, .int .i64 t9.1.f2, .int .i64 t9.1.f3, .int .i64 t9.1.f4, .bool t9.1.f5] 67] := HS; have F := HS.boxes; simp only [boxFacts, and_true] at F) | ((with_reducible refine gate_dst (N := 26) rfl ?_); refine ev_call rfl Try.func39 (by kernel_rfl) rfl #[.agg #[.slice B10 t9.1.f0.length d10, .int .i64 t9.1.f1, .int .i64 t9.1.f2, .int .i64 t9.1.f3, .int .i64 t9.1.f4, .bool t9.1.f5], .agg #[.slice B3 t2.1.f0.length d3, .int .i64 t2.1.f1, .int .i64 t2.1.f2, .int .i64 t2.1.f3, .int .i64 t2.1.f4, .bool t2.1.f5]] rfl (by simp only [List.map_toArray, List.map_cons, List.map_nil]; rfl) ?_; refine (laws_eqAsk.calls ht16.out (HS.rd 2 rfl) m10 (HS.rd 0 rfl) m3).mono ?_; rintro _ wt16 ⟨rfl, HQ⟩; refine ⟨_, rfl, ?_⟩; replace HS := HS.call HQ; clear HQ; (try clear F); replace HS : Hp noFP w _ [.own (Zd.slice 9 Zd.string) t2.1.f0 [.slice B3 t2.1.f0.length d3], .box g3 [.slice B3 t2.1.f0.length d3, .int .i64 t2.1.f1, .int .i64 t2.1.f2, .int .i64 t2.1.f3, .int .i64 t2.1.f4, .bool t2.1.f5] 67, .own (Zd.slice 9 Zd.string) t9.1.f0 [.slice B10 t9.1.f0.length d10], .box g5 [.slice B10 t9.1.f0.length d10, .int .i64 t9.1.f1, .int .i64 t9.1.f2, .int .i64 t9.1.f3, .int .i64 t9.1.f4, .bool t9.1.f5] 67] := HS; have F := HS.boxes; simp only [boxFacts, and_true] at F))
     by_cases c19 : t9.2 = t2.2
     · replace H := zpos c19 H
       have c19a := beq_iff_eq.mpr c19
       have c19b := bne_eq_false_iff_eq.mpr c19
       clear c19
       (try simp only [c19a, c19b, decide_true, decide_false, Bool.not_true, Bool.not_false])
       replace H := zbind H; obtain ⟨t20, ht20, H⟩ := H
       replace H := zbind H; obtain ⟨t22, ht22, H⟩ := H
       go_upto_if 40 with (first | ((with_reducible refine gate_dst (N := 35) rfl ?_); refine HS.lend [2] (by decide) [.own (Zd.slice 9 Zd.string) t9.1.f0 [.slice B10 t9.1.f0.length d10]] rfl (fun A' HL HD HA HB => ?_); refine ev_call rfl Try.func40 (by kernel_rfl) rfl #[.agg #[.slice B10 t9.1.f0.length d10, .int .i64 t9.1.f1, .int .i64 t9.1.f2, .int .i64 t9.1.f3, .int .i64 t9.1.f4, .bool t9.1.f5], .int .i64 1] rfl (by simp only [List.map_toArray, List.map_cons, List.map_nil]; rfl) ?_; refine (laws_markAsk.calls ht20.out HA).mono ?_; rintro _ wt20 ⟨rfl, HQ⟩; refine ⟨_, rfl, ?_⟩; replace HS : Hp noFP w _ [.own (Zd.slice 9 Zd.string) t2.1.f0 [.slice B3 t2.1.f0.length d3], .box g3 [.slice B3 t2.1.f0.length d3, .int .i64 t2.1.f1, .int .i64 t2.1.f2, .int .i64 t2.1.f3, .int .i64 t2.1.f4, .bool t2.1.f5] 67, .own (Zd.slice 9 Zd.string) t20.2 [.slice B10 t9.1.f0.length d10], .box g5 [.slice B10 t9.1.f0.length d10, .int .i64 t9.1.f1, .int .i64 t9.1.f2, .int .i64 t9.1.f3, .int .i64 t9.1.f4, .bool t9.1.f5] 67] := HB _ _ HQ (Nat.le_of_ble_eq_true rfl); clear HQ HA HB HL HD; (try clear F); replace HS : Hp noFP w _ [.own (Zd.slice 9 Zd.string) t2.1.f0 [.slice B3 t2.1.f0.length d3], .box g3 [.slice B3 t2.1.f0.length d3, .int .i64 t2.1.f1, .int .i64 t2.1.f2, .int .i64 t2.1.f3, .int .i64 t2.1.f4, .bool t2.1.f5] 67, .own (Zd.slice 9 Zd.string) t20.2 [.slice B10 t9.1.f0.length d10], .box g5 [.slice B10 t9.1.f0.length d10, .int .i64 t9.1.f1, .int .i64 t9.1.f2, .int .i64 t9.1.f3, .int .i64 t9.1.f4, .bool t9.1.f5] 67] := HS; have F := HS.boxes; simp only [boxFacts, and_true] at F) | ((with_reducible refine gate_dst (N := 38) rfl ?_); refine ev_call rfl Try.func41 (by kernel_rfl) rfl #[.agg #[.slice B10 t9.1.f0.length d10, .int .i64 t9.1.f1, .int .i64 t9.1.f2, .int .i64 t9.1.f3, .int .i64 t9.1.f4, .bool t9.1.f5], .int .i64 1] rfl (by simp only [List.map_toArray, List.map_cons, List.map_nil]; rfl) ?_; refine (laws_heldAsk.calls ht22.out (HS.rd 2 rfl) m10).mono ?_; rintro _ wt22 ⟨rfl, HQ⟩; refine ⟨_, rfl, ?_⟩; replace HS := HS.call HQ; clear HQ; (try clear F); replace HS : Hp noFP w _ [.own (Zd.slice 9 Zd.string) t2.1.f0 [.slice B3 t2.1.f0.length d3], .box g3 [.slice B3 t2.1.f0.length d3, .int .i64 t2.1.f1, .int .i64 t2.1.f2, .int .i64 t2.1.f3, .int .i64 t2.1.f4, .bool t2.1.f5] 67, .own (Zd.slice 9 Zd.string) t20.2 [.slice B10 t9.1.f0.length d10], .box g5 [.slice B10 t9.1.f0.length d10, .int .i64 t9.1.f1, .int .i64 t9.1.f2, .int .i64 t9.1.f3, .int .i64 t9.1.f4, .bool t9.1.f5] 67] := HS; have F := HS.boxes; simp only [boxFacts, and_true] at F))
       by_cases c24 : t22 < 0
       · replace H := zpos c24 H
         replace c24 := eq_true c24
         (try simp only [c24, decide_true, decide_false, Bool.not_true, Bool.not_false])
         obtain rfl := zsome H
         go_wp2
         go_ret
         exact ⟨rfl, HS.pick [] (by decide) (by rfl)⟩
       · replace H := zneg c24 H
         replace c24 := eq_false c24
         (try simp only [c24, decide_true, decide_false, Bool.not_true, Bool.not_false])
         by_cases c25 : t22 = t20.1
         · replace H := zpos c25 H
           have c25a := beq_iff_eq.mpr c25
           have c25b := bne_eq_false_iff_eq.mpr c25
           clear c25
           replace H := zbind H; obtain ⟨t26, ht26, H⟩ := H
           replace H := zbind H; obtain ⟨t33, ht33, H⟩ := H
           by_cases c35 : t33 = true
           · replace H := zpos c35 H
             subst c35
             go_upto_if 57 with (first | ((with_reducible refine gate_dst (N := 46) rfl ?_); refine ev_call rfl Try.func38 (by kernel_rfl) rfl #[.string a0] rfl (by simp only [List.map_toArray, List.map_cons, List.map_nil]; rfl) ?_; refine (impl_ReadAsk.calls ht26.out).mono ?_; rintro _ wt26 ⟨v27, rfl, HQ⟩; refine ⟨_, rfl, ?_⟩; replace HS := HS.call HQ; clear HQ; (try clear F); obtain ⟨B27, d27, rfl, m27⟩ := HS.form 4 rfl; replace HS : Hp noFP w _ [.own (Zd.slice 9 Zd.string) t2.1.f0 [.slice B3 t2.1.f0.length d3], .box g3 [.slice B3 t2.1.f0.length d3, .int .i64 t2.1.f1, .int .i64 t2.1.f2, .int .i64 t2.1.f3, .int .i64 t2.1.f4, .bool t2.1.f5] 67, .own (Zd.slice 9 Zd.string) t20.2 [.slice B10 t9.1.f0.length d10], .box g5 [.slice B10 t9.1.f0.length d10, .int .i64 t9.1.f1, .int .i64 t9.1.f2, .int .i64 t9.1.f3, .int .i64 t9.1.f4, .bool t9.1.f5] 67, .own (Zd.slice 9 Zd.string) t26.1.f0 [.slice B27 t26.1.f0.length d27]] := HS; have F := HS.boxes; simp only [boxFacts, and_true] at F) | ((with_reducible refine gate_dst (N := 9) rfl ?_); refine ev_box rfl HS (by first | (go_simp; done) | (go_simp; rfl)) rfl ?_; clear HS; (try clear F); intro g9 w9 HS; replace HS : Hp noFP w _ [.own (Zd.slice 9 Zd.string) t2.1.f0 [.slice B3 t2.1.f0.length d3], .box g3 [.slice B3 t2.1.f0.length d3, .int .i64 t2.1.f1, .int .i64 t2.1.f2, .int .i64 t2.1.f3, .int .i64 t2.1.f4, .bool t2.1.f5] 67, .own (Zd.slice 9 Zd.string) t20.2 [.slice B10 t9.1.f0.length d10], .box g5 [.slice B10 t9.1.f0.length d10, .int .i64 t9.1.f1, .int .i64 t9.1.f2, .int .i64 t9.1.f3, .int .i64 t9.1.f4, .bool t9.1.f5] 67, .own (Zd.slice 9 Zd.string) t26.1.f0 [.slice B27 t26.1.f0.length d27], .box g9 [.slice none 0 0, .int .i64 0, .int .i64 0, .int .i64 0, .int .i64 0, .bool false] 67] := HS; have F := HS.boxes; simp only [boxFacts, and_true] at F) | ((with_reducible refine gate_store (p := 9) rfl ?_); refine ev_store rfl 5 0 HS (seg := [.slice B27 t26.1.f0.length d27, .int .i64 t26.1.f1, .int .i64 t26.1.f2, .int .i64 t26.1.f3, .int .i64 t26.1.f4, .bool t26.1.f5]) rfl rfl rfl rfl rfl rfl (by kernel_rfl) (by simp [wrt]) (by simp [Value.oneCell']) ?_; clear HS; (try clear F); intro w31 HS; replace HS : Hp noFP w _ [.own (Zd.slice 9 Zd.string) t2.1.f0 [.slice B3 t2.1.f0.length d3], .box g3 [.slice B3 t2.1.f0.length d3, .int .i64 t2.1.f1, .int .i64 t2.1.f2, .int .i64 t2.1.f3, .int .i64 t2.1.f4, .bool t2.1.f5] 67, .own (Zd.slice 9 Zd.string) t20.2 [.slice B10 t9.1.f0.length d10], .box g5 [.slice B10 t9.1.f0.length d10, .int .i64 t9.1.f1, .int .i64 t9.1.f2, .int .i64 t9.1.f3, .int .i64 t9.1.f4, .bool t9.1.f5] 67, .own (Zd.slice 9 Zd.string) t26.1.f0 [.slice B27 t26.1.f0.length d27], .box g9 [.slice B27 t26.1.f0.length d27, .int .i64 t26.1.f1, .int .i64 t26.1.f2, .int .i64 t26.1.f3, .int .i64 t26.1.f4, .bool t26.1.f5] 67] := HS; have F := HS.boxes; simp only [boxFacts, and_true] at F) | ((with_reducible refine gate_dst (N := 51) rfl ?_); refine ev_call rfl Try.func39 (by kernel_rfl) rfl #[.agg #[.slice B27 t26.1.f0.length d27, .int .i64 t26.1.f1, .int .i64 t26.1.f2, .int .i64 t26.1.f3, .int .i64 t26.1.f4, .bool t26.1.f5], .agg #[.slice B3 t2.1.f0.length d3, .int .i64 t2.1.f1, .int .i64 t2.1.f2, .int .i64 t2.1.f3, .int .i64 t2.1.f4, .bool t2.1.f5]] rfl (by simp only [List.map_toArray, List.map_cons, List.map_nil]; rfl) ?_; refine (laws_eqAsk.calls ht33.out (HS.rd 4 rfl) m27 (HS.rd 0 rfl) m3).mono ?_; rintro _ wt33 ⟨rfl, HQ⟩; refine ⟨_, rfl, ?_⟩; replace HS := HS.call HQ; clear HQ; (try clear F); replace HS : Hp noFP w _ [.own (Zd.slice 9 Zd.string) t2.1.f0 [.slice B3 t2.1.f0.length d3], .box g3 [.slice B3 t2.1.f0.length d3, .int .i64 t2.1.f1, .int .i64 t2.1.f2, .int .i64 t2.1.f3, .int .i64 t2.1.f4, .bool t2.1.f5] 67, .own (Zd.slice 9 Zd.string) t20.2 [.slice B10 t9.1.f0.length d10], .box g5 [.slice B10 t9.1.f0.length d10, .int .i64 t9.1.f1, .int .i64 t9.1.f2, .int .i64 t9.1.f3, .int .i64 t9.1.f4, .bool t9.1.f5] 67, .own (Zd.slice 9 Zd.string) t26.1.f0 [.slice B27 t26.1.f0.length d27], .box g9 [.slice B27 t26.1.f0.length d27, .int .i64 t26.1.f1, .int .i64 t26.1.f2, .int .i64 t26.1.f3, .int .i64 t26.1.f4, .bool t26.1.f5] 67] := HS; have F := HS.boxes; simp only [boxFacts, and_true] at F))
             by_cases c36 : t26.2 = t2.2
             · replace H := zpos c36 H
               have c36a := beq_iff_eq.mpr c36
               have c36b := bne_eq_false_iff_eq.mpr c36
               clear c36
               (try simp only [c36a, c36b, decide_true, decide_false, Bool.not_true, Bool.not_false])
               replace H := zbind H; obtain ⟨t37, ht37, H⟩ := H
               go_upto_if 62 with (first | ((with_reducible refine gate_dst (N := 60) rfl ?_); refine ev_call rfl Try.func41 (by kernel_rfl) rfl #[.agg #[.slice B10 t9.1.f0.length d10, .int .i64 t9.1.f1, .int .i64 t9.1.f2, .int .i64 t9.1.f3, .int .i64 t9.1.f4, .bool t9.1.f5], .int .i64 1] rfl (by simp only [List.map_toArray, List.map_cons, List.map_nil]; rfl) ?_; refine (laws_heldAsk.calls ht37.out (HS.rd 2 rfl) m10).mono ?_; rintro _ wt37 ⟨rfl, HQ⟩; refine ⟨_, rfl, ?_⟩; replace HS := HS.call HQ; clear HQ; (try clear F); replace HS : Hp noFP w _ [.own (Zd.slice 9 Zd.string) t2.1.f0 [.slice B3 t2.1.f0.length d3], .box g3 [.slice B3 t2.1.f0.length d3, .int .i64 t2.1.f1, .int .i64 t2.1.f2, .int .i64 t2.1.f3, .int .i64 t2.1.f4, .bool t2.1.f5] 67, .own (Zd.slice 9 Zd.string) t20.2 [.slice B10 t9.1.f0.length d10], .box g5 [.slice B10 t9.1.f0.length d10, .int .i64 t9.1.f1, .int .i64 t9.1.f2, .int .i64 t9.1.f3, .int .i64 t9.1.f4, .bool t9.1.f5] 67, .own (Zd.slice 9 Zd.string) t26.1.f0 [.slice B27 t26.1.f0.length d27], .box g9 [.slice B27 t26.1.f0.length d27, .int .i64 t26.1.f1, .int .i64 t26.1.f2, .int .i64 t26.1.f3, .int .i64 t26.1.f4, .bool t26.1.f5] 67] := HS; have F := HS.boxes; simp only [boxFacts, and_true] at F))
               by_cases c39 : t37 < 0
               · replace H := zpos c39 H
                 replace c39 := eq_true c39
                 (try simp only [c39, decide_true, decide_false, Bool.not_true, Bool.not_false])
                 obtain rfl := zsome H
                 go_wp2
                 go_ret
                 exact ⟨rfl, HS.pick [] (by decide) (by rfl)⟩
               · replace H := zneg c39 H
                 replace c39 := eq_false c39
                 (try simp only [c39, decide_true, decide_false, Bool.not_true, Bool.not_false])
                 by_cases c40 : t37 = t20.1
                 · replace H := zpos c40 H
                   have c40a := beq_iff_eq.mpr c40
                   have c40b := bne_eq_false_iff_eq.mpr c40
                   clear c40
                   obtain rfl := zsome H
                   go_wp2
                   go_ret
                   exact ⟨rfl, HS.pick [] (by decide) (by rfl)⟩
                 · replace H := zneg c40 H
                   have c40a := beq_eq_false_iff_ne.mpr c40
                   have c40b := bne_iff_ne.mpr c40
                   clear c40
                   obtain rfl := zsome H
                   go_wp2
                   go_ret
                   exact ⟨rfl, HS.pick [] (by decide) (by rfl)⟩
             · replace H := zneg c36 H
               have c36a := beq_eq_false_iff_ne.mpr c36
               have c36b := bne_iff_ne.mpr c36
               clear c36
               (try simp only [c36a, c36b, decide_true, decide_false, Bool.not_true, Bool.not_false])
               obtain rfl := zsome H
               go_wp2
               go_ret
               exact ⟨rfl, HS.pick [] (by decide) (by rfl)⟩
           · replace H := zneg c35 H
             replace c35 := eq_false_of_ne_true c35
             subst c35
             obtain rfl := zsome H
             go_wp2_with (first | ((with_reducible refine gate_dst (N := 46) rfl ?_); refine ev_call rfl Try.func38 (by kernel_rfl) rfl #[.string a0] rfl (by simp only [List.map_toArray, List.map_cons, List.map_nil]; rfl) ?_; refine (impl_ReadAsk.calls ht26.out).mono ?_; rintro _ wt26 ⟨v27, rfl, HQ⟩; refine ⟨_, rfl, ?_⟩; replace HS := HS.call HQ; clear HQ; (try clear F); obtain ⟨B27, d27, rfl, m27⟩ := HS.form 4 rfl; replace HS : Hp noFP w _ [.own (Zd.slice 9 Zd.string) t2.1.f0 [.slice B3 t2.1.f0.length d3], .box g3 [.slice B3 t2.1.f0.length d3, .int .i64 t2.1.f1, .int .i64 t2.1.f2, .int .i64 t2.1.f3, .int .i64 t2.1.f4, .bool t2.1.f5] 67, .own (Zd.slice 9 Zd.string) t20.2 [.slice B10 t9.1.f0.length d10], .box g5 [.slice B10 t9.1.f0.length d10, .int .i64 t9.1.f1, .int .i64 t9.1.f2, .int .i64 t9.1.f3, .int .i64 t9.1.f4, .bool t9.1.f5] 67, .own (Zd.slice 9 Zd.string) t26.1.f0 [.slice B27 t26.1.f0.length d27]] := HS; have F := HS.boxes; simp only [boxFacts, and_true] at F) | ((with_reducible refine gate_dst (N := 9) rfl ?_); refine ev_box rfl HS (by first | (go_simp; done) | (go_simp; rfl)) rfl ?_; clear HS; (try clear F); intro g9 w9 HS; replace HS : Hp noFP w _ [.own (Zd.slice 9 Zd.string) t2.1.f0 [.slice B3 t2.1.f0.length d3], .box g3 [.slice B3 t2.1.f0.length d3, .int .i64 t2.1.f1, .int .i64 t2.1.f2, .int .i64 t2.1.f3, .int .i64 t2.1.f4, .bool t2.1.f5] 67, .own (Zd.slice 9 Zd.string) t20.2 [.slice B10 t9.1.f0.length d10], .box g5 [.slice B10 t9.1.f0.length d10, .int .i64 t9.1.f1, .int .i64 t9.1.f2, .int .i64 t9.1.f3, .int .i64 t9.1.f4, .bool t9.1.f5] 67, .own (Zd.slice 9 Zd.string) t26.1.f0 [.slice B27 t26.1.f0.length d27], .box g9 [.slice none 0 0, .int .i64 0, .int .i64 0, .int .i64 0, .int .i64 0, .bool false] 67] := HS; have F := HS.boxes; simp only [boxFacts, and_true] at F) | ((with_reducible refine gate_store (p := 9) rfl ?_); refine ev_store rfl 5 0 HS (seg := [.slice B27 t26.1.f0.length d27, .int .i64 t26.1.f1, .int .i64 t26.1.f2, .int .i64 t26.1.f3, .int .i64 t26.1.f4, .bool t26.1.f5]) rfl rfl rfl rfl rfl rfl (by kernel_rfl) (by simp [wrt]) (by simp [Value.oneCell']) ?_; clear HS; (try clear F); intro w31 HS; replace HS : Hp noFP w _ [.own (Zd.slice 9 Zd.string) t2.1.f0 [.slice B3 t2.1.f0.length d3], .box g3 [.slice B3 t2.1.f0.length d3, .int .i64 t2.1.f1, .int .i64 t2.1.f2, .int .i64 t2.1.f3, .int .i64 t2.1.f4, .bool t2.1.f5] 67, .own (Zd.slice 9 Zd.string) t20.2 [.slice B10 t9.1.f0.length d10], .box g5 [.slice B10 t9.1.f0.length d10, .int .i64 t9.1.f1, .int .i64 t9.1.f2, .int .i64 t9.1.f3, .int .i64 t9.1.f4, .bool t9.1.f5] 67, .own (Zd.slice 9 Zd.string) t26.1.f0 [.slice B27 t26.1.f0.length d27], .box g9 [.slice B27 t26.1.f0.length d27, .int .i64 t26.1.f1, .int .i64 t26.1.f2, .int .i64 t26.1.f3, .int .i64 t26.1.f4, .bool t26.1.f5] 67] := HS; have F := HS.boxes; simp only [boxFacts, and_true] at F) | ((with_reducible refine gate_dst (N := 51) rfl ?_); refine ev_call rfl Try.func39 (by kernel_rfl) rfl #[.agg #[.slice B27 t26.1.f0.length d27, .int .i64 t26.1.f1, .int .i64 t26.1.f2, .int .i64 t26.1.f3, .int .i64 t26.1.f4, .bool t26.1.f5], .agg #[.slice B3 t2.1.f0.length d3, .int .i64 t2.1.f1, .int .i64 t2.1.f2, .int .i64 t2.1.f3, .int .i64 t2.1.f4, .bool t2.1.f5]] rfl (by simp only [List.map_toArray, List.map_cons, List.map_nil]; rfl) ?_; refine (laws_eqAsk.calls ht33.out (HS.rd 4 rfl) m27 (HS.rd 0 rfl) m3).mono ?_; rintro _ wt33 ⟨rfl, HQ⟩; refine ⟨_, rfl, ?_⟩; replace HS := HS.call HQ; clear HQ; (try clear F); replace HS : Hp noFP w _ [.own (Zd.slice 9 Zd.string) t2.1.f0 [.slice B3 t2.1.f0.length d3], .box g3 [.slice B3 t2.1.f0.length d3, .int .i64 t2.1.f1, .int .i64 t2.1.f2, .int .i64 t2.1.f3, .int .i64 t2.1.f4, .bool t2.1.f5] 67, .own (Zd.slice 9 Zd.string) t20.2 [.slice B10 t9.1.f0.length d10], .box g5 [.slice B10 t9.1.f0.length d10, .int .i64 t9.1.f1, .int .i64 t9.1.f2, .int .i64 t9.1.f3, .int .i64 t9.1.f4, .bool t9.1.f5] 67, .own (Zd.slice 9 Zd.string) t26.1.f0 [.slice B27 t26.1.f0.length d27], .box g9 [.slice B27 t26.1.f0.length d27, .int .i64 t26.1.f1, .int .i64 t26.1.f2, .int .i64 t26.1.f3, .int .i64 t26.1.f4, .bool t26.1.f5] 67] := HS; have F := HS.boxes; simp only [boxFacts, and_true] at F))
             go_ret
             exact ⟨rfl, HS.pick [] (by decide) (by rfl)⟩
         · replace H := zneg c25 H
           have c25a := beq_eq_false_iff_ne.mpr c25
           have c25b := bne_iff_ne.mpr c25
           clear c25
           obtain rfl := zsome H
           go_wp2
           go_ret
           exact ⟨rfl, HS.pick [] (by decide) (by rfl)⟩
     · replace H := zneg c19 H
       have c19a := beq_eq_false_iff_ne.mpr c19
       have c19b := bne_iff_ne.mpr c19
       clear c19
       (try simp only [c19a, c19b, decide_true, decide_false, Bool.not_true, Bool.not_false])
       obtain rfl := zsome H
       go_wp2
       go_ret
       exact ⟨rfl, HS.pick [] (by decide) (by rfl)⟩
   · replace H := zneg c18 H
     replace c18 := eq_false_of_ne_true c18
     subst c18
     obtain rfl := zsome H
     go_wp2_with (first | ((with_reducible refine gate_dst (N := 16) rfl ?_); refine ev_call rfl Try.func37 (by kernel_rfl) rfl #[.string a0] rfl (by simp only [List.map_toArray, List.map_cons, List.map_nil]; rfl) ?_; refine (spec_ReadAsk.calls ht2.out).mono ?_; rintro _ wt2 ⟨v3, rfl, HQ⟩; refine ⟨_, rfl, ?_⟩; replace HS := HS.call HQ; clear HQ; (try clear F); obtain ⟨B3, d3, rfl, m3⟩ := HS.form 0 rfl; replace HS : Hp noFP w _ [.own (Zd.slice 9 Zd.string) t2.1.f0 [.slice B3 t2.1.f0.length d3]] := HS) | ((with_reducible refine gate_dst (N := 3) rfl ?_); refine ev_box rfl HS (by first | (go_simp; done) | (go_simp; rfl)) rfl ?_; clear HS; (try clear F); intro g3 w3 HS; replace HS : Hp noFP w _ [.own (Zd.slice 9 Zd.string) t2.1.f0 [.slice B3 t2.1.f0.length d3], .box g3 [.slice none 0 0, .int .i64 0, .int .i64 0, .int .i64 0, .int .i64 0, .bool false] 67] := HS; have F := HS.boxes; simp only [boxFacts, and_true] at F) | ((with_reducible refine gate_store (p := 3) rfl ?_); refine ev_store rfl 1 0 HS (seg := [.slice B3 t2.1.f0.length d3, .int .i64 t2.1.f1, .int .i64 t2.1.f2, .int .i64 t2.1.f3, .int .i64 t2.1.f4, .bool t2.1.f5]) rfl rfl rfl rfl rfl rfl (by kernel_rfl) (by simp [wrt]) (by simp [Value.oneCell']) ?_; clear HS; (try clear F); intro w7 HS; replace HS : Hp noFP w _ [.own (Zd.slice 9 Zd.string) t2.1.f0 [.slice B3 t2.1.f0.length d3], .box g3 [.slice B3 t2.1.f0.length d3, .int .i64 t2.1.f1, .int .i64 t2.1.f2, .int .i64 t2.1.f3, .int .i64 t2.1.f4, .bool t2.1.f5] 67] := HS; have F := HS.boxes; simp only [boxFacts, and_true] at F) | ((with_reducible refine gate_dst (N := 21) rfl ?_); refine ev_call rfl Try.func38 (by kernel_rfl) rfl #[.string a0] rfl (by simp only [List.map_toArray, List.map_cons, List.map_nil]; rfl) ?_; refine (impl_ReadAsk.calls ht9.out).mono ?_; rintro _ wt9 ⟨v10, rfl, HQ⟩; refine ⟨_, rfl, ?_⟩; replace HS := HS.call HQ; clear HQ; (try clear F); obtain ⟨B10, d10, rfl, m10⟩ := HS.form 2 rfl; replace HS : Hp noFP w _ [.own (Zd.slice 9 Zd.string) t2.1.f0 [.slice B3 t2.1.f0.length d3], .box g3 [.slice B3 t2.1.f0.length d3, .int .i64 t2.1.f1, .int .i64 t2.1.f2, .int .i64 t2.1.f3, .int .i64 t2.1.f4, .bool t2.1.f5] 67, .own (Zd.slice 9 Zd.string) t9.1.f0 [.slice B10 t9.1.f0.length d10]] := HS; have F := HS.boxes; simp only [boxFacts, and_true] at F) | ((with_reducible refine gate_dst (N := 5) rfl ?_); refine ev_box rfl HS (by first | (go_simp; done) | (go_simp; rfl)) rfl ?_; clear HS; (try clear F); intro g5 w5 HS; replace HS : Hp noFP w _ [.own (Zd.slice 9 Zd.string) t2.1.f0 [.slice B3 t2.1.f0.length d3], .box g3 [.slice B3 t2.1.f0.length d3, .int .i64 t2.1.f1, .int .i64 t2.1.f2, .int .i64 t2.1.f3, .int .i64 t2.1.f4, .bool t2.1.f5] 67, .own (Zd.slice 9 Zd.string) t9.1.f0 [.slice B10 t9.1.f0.length d10], .box g5 [.slice none 0 0, .int .i64 0, .int .i64 0, .int .i64 0, .int .i64 0, .bool false] 67] := HS; have F := HS.boxes; simp only [boxFacts, and_true] at F) | ((with_reducible refine gate_store (p := 5) rfl ?_); refine ev_store rfl 3 0 HS (seg := [.slice B10 t9.1.f0.length d10, .int .i64 t9.1.f1, .int .i64 t9.1.f2, .int .i64 t9.1.f3, .int .i64 t9.1.f4, .bool t9.1.f5]) rfl rfl rfl rfl rfl rfl (by kernel_rfl) (by simp [wrt]) (by simp [Value.oneCell']) ?_; clear HS; (try clear F); intro w14 HS; replace HS : Hp noFP w _ [.own (Zd.slice 9 Zd.string) t2.1.f0 [.slice B3 t2.1.f0.length d3], .box g3 [.slice B3 t2.1.f0.length d3, .int .i64 t2.1.f1, .int .i64 t2.1.f2, .int .i64 t2.1.f3, .int .i64 t2.1.f4, .bool t2.1.f5] 67, .own (Zd.slice 9 Zd.string) t9.1.f0 [.slice B10 t9.1.f0.length d10], .box g5 [.slice B10 t9.1.f0.length d10, .int .i64 t9.1.f1, .int .i64 t9.1.f2, .int .i64 t9.1.f3, .int .i64 t9.1.f4, .bool t9.1.f5] 67] := HS; have F := HS.boxes; simp only [boxFacts, and_true] at F) | ((with_reducible refine gate_dst (N := 26) rfl ?_); refine ev_call rfl Try.func39 (by kernel_rfl) rfl #[.agg #[.slice B10 t9.1.f0.length d10, .int .i64 t9.1.f1, .int .i64 t9.1.f2, .int .i64 t9.1.f3, .int .i64 t9.1.f4, .bool t9.1.f5], .agg #[.slice B3 t2.1.f0.length d3, .int .i64 t2.1.f1, .int .i64 t2.1.f2, .int .i64 t2.1.f3, .int .i64 t2.1.f4, .bool t2.1.f5]] rfl (by simp only [List.map_toArray, List.map_cons, List.map_nil]; rfl) ?_; refine (laws_eqAsk.calls ht16.out (HS.rd 2 rfl) m10 (HS.rd 0 rfl) m3).mono ?_; rintro _ wt16 ⟨rfl, HQ⟩; refine ⟨_, rfl, ?_⟩; replace HS := HS.call HQ; clear HQ; (try clear F); replace HS : Hp noFP w _ [.own (Zd.slice 9 Zd.string) t2.1.f0 [.slice B3 t2.1.f0.length d3], .box g3 [.slice B3 t2.1.f0.length d3, .int .i64 t2.1.f1, .int .i64 t2.1.f2, .int .i64 t2.1.f3, .int .i64 t2.1.f4, .bool t2.1.f5] 67, .own (Zd.slice 9 Zd.string) t9.1.f0 [.slice B10 t9.1.f0.length d10], .box g5 [.slice B10 t9.1.f0.length d10, .int .i64 t9.1.f1, .int .i64 t9.1.f2, .int .i64 t9.1.f3, .int .i64 t9.1.f4, .bool t9.1.f5] 67] := HS; have F := HS.boxes; simp only [boxFacts, and_true] at F))
     go_ret
     exact ⟨rfl, HS.pick [] (by decide) (by rfl)⟩
end Go.Proofs.Ytdcjcanobiohnaa.F

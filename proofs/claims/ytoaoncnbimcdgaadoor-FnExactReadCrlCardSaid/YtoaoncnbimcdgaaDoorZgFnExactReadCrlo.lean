/- Functions of the program and of the law, and that their calls do what is written here. -/
import Derived.Test.YtoaoncnbimcdgaaDoorZgFnExactReadCrlf
import Derived.Test.YtoaoncnbimcdgaaDoorZgFnExactReadCrln
namespace Go.Proofs.YtoaoncnbimcdgaaDoor.F
open Go.RowKit Go.Proofs.YtoaoncnbimcdgaaDoorW.PrintWords Go.Proofs.YtoaoncnbimcdgaaDoorW.PrintLast Go.Proofs.YtoaoncnbimcdgaaDoorW.PrintMore Go.Proofs.YtoaoncnbimcdgaaDoor.Z
attribute [local go_sem] max2_int min2_int max_two min_two max_three min_three max_four min_four
set_option linter.unusedVariables false
set_option linter.unusedSimpArgs false
set_option maxRecDepth 100000
/-! ### laws_eqRev: function 100 -/
def laws_eqRev.f (a0 : S82) (a1 : S82) : Option (Bool) := (if a0.f0 = a1.f0 then (if a0.f1 = a1.f1 then (some true) else (some false)) else (some false))
set_option maxHeartbeats 16000000 in
theorem laws_eqRev.calls {a0 : S82} {a1 : S82} {r : Bool} {w : World} (h : laws_eqRev.f a0 a1 = some r) :
    Calls Tryd.prog 100 #[.agg #[.int .i64 a0.f0, .int .i64 a0.f1], .agg #[.int .i64 a1.f0, .int .i64 a1.f1]] w (fun e w' => e = .returned (.bool r) ∧ Hp noFP w w' []) := by
 have HS := Hp.start w
 have H := Aside0.mk h
 clear h
 unfold laws_eqRev.f at H
 go_enter Tryd.func100, Tryd.ntmps100
 go_upto_if 9 with (first | ((with_reducible refine gate_dst (N := 2) rfl ?_); refine ev_box rfl HS (by first | (go_simp; done) | (go_simp; rfl)) rfl ?_; clear HS; (try clear F); intro g2 w2 HS; (try simp only [hpn, hpm] at HS); have F := HS.boxes; simp only [boxFacts, and_true] at F) | ((with_reducible refine gate_dst (N := 3) rfl ?_); refine ev_box rfl HS (by first | (go_simp; done) | (go_simp; rfl)) rfl ?_; clear HS; (try clear F); intro g3 w3 HS; (try simp only [hpn, hpm] at HS); have F := HS.boxes; simp only [boxFacts, and_true] at F))
 by_cases c5 : a0.f0 = a1.f0
 · replace H := zpos c5 H
   have c5a := beq_iff_eq.mpr c5
   have c5b := bne_eq_false_iff_eq.mpr c5
   clear c5
   (try simp only [c5a, c5b, dcn])
   by_cases c6 : a0.f1 = a1.f1
   · replace H := zpos c6 H
     have c6a := beq_iff_eq.mpr c6
     have c6b := bne_eq_false_iff_eq.mpr c6
     clear c6
     obtain rfl := zsome H
     go_wp2
     go_ret
     exact ⟨rfl, HS.pick [] (by decide) (by rfl)⟩
   · replace H := zneg c6 H
     have c6a := beq_eq_false_iff_ne.mpr c6
     have c6b := bne_iff_ne.mpr c6
     clear c6
     obtain rfl := zsome H
     go_wp2
     go_ret
     exact ⟨rfl, HS.pick [] (by decide) (by rfl)⟩
 · replace H := zneg c5 H
   have c5a := beq_eq_false_iff_ne.mpr c5
   have c5b := bne_iff_ne.mpr c5
   clear c5
   (try simp only [c5a, c5b, dcn])
   obtain rfl := zsome H
   go_wp2
   go_ret
   exact ⟨rfl, HS.pick [] (by decide) (by rfl)⟩
/-! ### laws_eqRevS: function 57 -/
def laws_eqRevS.l0 : Nat → Int → (List S82) → (List S82) → Option (Bool)
  | 0, _, _, _ => none
  | k + 1, x5, a0, a1 => (if x5 < (a0.length : Int) then (if 0 ≤ x5 then (if x5 < (a0.length : Int) then (if x5 < (a1.length : Int) then ((laws_eqRev.f (rd_T82 a0 x5) (rd_T82 a1 x5)).bind fun t108001 => (if t108001 = true then (laws_eqRevS.l0 k (wrap64 (x5 + 1)) a0 a1) else (some false))) else none) else none) else none) else (some true))
def laws_eqRevS.f (k : Nat) (a0 : (List S82)) (a1 : (List S82)) : Option (Bool) := (if (a0.length : Int) = (a1.length : Int) then (laws_eqRevS.l0 k 0 a0 a1) else (some false))
def laws_eqRevS.T6 : Bool × List (List Nat × List Nat) := (true, [([], []), ([], []), ([0, 1], [0, 1]), ([2], [2]), ([], []), ([], []), ([4, 5], [4, 5]), ([6], [6]), ([3, 7], [3, 7]), ([8], [8])])
theorem laws_eqRevS.tT6 : rtab .any (opsOf Tryd.f57 6) = laws_eqRevS.T6 := by kernel_rfl
set_option maxHeartbeats 16000000 in
theorem laws_eqRevS.calls {k : Nat} {a0 : (List S82)} {a1 : (List S82)} {Ap0 : Option Addr} {np0 cp0 : Nat} {Ap1 : Option Addr} {np1 cp1 : Nat} {r : Bool} {w : World} (h : laws_eqRevS.f k a0 a1 = some r) (gp0 : k82.C w Ap0 np0 a0) (lp0 : np0 ≤ cp0) (gp1 : k82.C w Ap1 np1 a1) (lp1 : np1 ≤ cp1) :
    Calls Tryd.prog 57 #[.slice Ap0 np0 cp0, .slice Ap1 np1 cp1] w (fun e w' => e = .returned (.bool r) ∧ Hp noFP w w' []) := by
 obtain rfl := C_len gp0
 obtain rfl := C_len gp1
 have HS := Hp.start w
 have H := Aside0.mk h
 clear h
 unfold laws_eqRevS.f at H
 go_enter Tryd.func57, Tryd.ntmps57
 by_cases c1 : (a0.length : Int) = (a1.length : Int)
 · replace H := zpos c1 H
   have c1a := beq_iff_eq.mpr c1
   have c1b := bne_eq_false_iff_eq.mpr c1
   clear c1
   go_wp2
   go_loopg [5] k (fun kq v_5 w' => ∃ (x5 : Int), v_5 = .int .i64 x5 ∧ Aside0 (laws_eqRevS.l0 kq x5 a0 a1 = some r) ∧ Aside0 (kq ≤ k) ∧ Hp noFP w w' [])
   case atStart => exact ⟨_, rfl, H, ⟨Nat.le_refl _⟩, HS⟩
   case round =>
    clear HS H; (try clear F)
    obtain ⟨x5, rfl, H, HKk4, HS⟩ := hrel
    cases gk with
    | zero => exact absurd H.out (by simp [laws_eqRevS.l0])
    | succ k4 =>
     simp only [laws_eqRevS.l0] at H
     by_cases c7 : x5 < (a0.length : Int)
     · replace H := zpos c7 H
       replace c7 := eq_true c7
       (try go_wp2)
       by_cases c102001 : 0 ≤ x5
       case neg => exact zno c102001 H
       replace H := zpos c102001 H
       replace c102001 := eq_true c102001
       by_cases c102002 : x5 < (a0.length : Int)
       case neg => exact zno c102002 H
       replace H := zpos c102002 H
       replace c102002 := eq_true c102002
       obtain ⟨ad102999, rfl, e102999_0, e102999_1⟩ := at_T82 gp0 x5 (of_eq_true c102001) (of_eq_true c102002)
       by_cases c106001 : x5 < (a1.length : Int)
       case neg => exact zno c106001 H
       replace H := zpos c106001 H
       replace c106001 := eq_true c106001
       obtain ⟨ad106999, rfl, e106999_0, e106999_1⟩ := at_T82 gp1 x5 (of_eq_true c102001) (of_eq_true c106001)
       replace H := zbind H; obtain ⟨t108001, ht108001, H⟩ := H
       refine dr_start [] HS #[false, false, false, false, false, false, false, false, false, false] (by kernel_rfl) rfl rfl laws_eqRevS.tT6 (fun w9 HT HS HH => ?_)
       (try clear F)
       refine drq_of [(0, some 17), (1, some 18), (2, some 19)] ?_
       repeat (first | (refine drq_pure HT (v := ?_) (a' := ?_) rfl rfl (by kernel_rfl) (fun _ _ _ h => h) (.inl ⟨by rfl, ?_⟩) ?_ ?_; rotate_left; (intro w'; go_simp; with_reducible rfl); rotate_left; (simp only [Act.put, List.setIfInBounds_toArray, List.set_cons_zero, List.set_cons_succ, i64_w, i32_w]; rfl)))
       refine drq_end ?_
       refine dr_take 3 (some 20) HT HH (v := ?_) (a' := ?_) rfl rfl (by kernel_rfl) (fun _ _ _ h => h) (.inl ⟨by rfl, ?_⟩) ?_ ?_
       rotate_left
       · rintro w' ⟨rs', HS'⟩; have e102999_0 := (HS'.keepc e102999_0); have e102999_1 := (HS'.keepc e102999_1); go_simp; with_reducible rfl
       rotate_left
       · simp only [Act.put, List.setIfInBounds_toArray, List.set_cons_zero, List.set_cons_succ, i64_w, i32_w]; rfl
       refine drq_of [(4, some 21), (5, some 22), (6, some 23)] ?_
       repeat (first | (refine drq_pure HT (v := ?_) (a' := ?_) rfl rfl (by kernel_rfl) (fun _ _ _ h => h) (.inl ⟨by rfl, ?_⟩) ?_ ?_; rotate_left; (intro w'; go_simp; with_reducible rfl); rotate_left; (simp only [Act.put, List.setIfInBounds_toArray, List.set_cons_zero, List.set_cons_succ, i64_w, i32_w]; rfl)))
       refine drq_end ?_
       refine dr_take 7 (some 24) HT HH (v := ?_) (a' := ?_) rfl rfl (by kernel_rfl) (fun _ _ _ h => h) (.inl ⟨by rfl, ?_⟩) ?_ ?_
       rotate_left
       · rintro w' ⟨rs', HS'⟩; have e106999_0 := (HS'.keepc e106999_0); have e106999_1 := (HS'.keepc e106999_1); go_simp; with_reducible rfl
       rotate_left
       · simp only [Act.put, List.setIfInBounds_toArray, List.set_cons_zero, List.set_cons_succ, i64_w, i32_w]; rfl
       refine dr_one 8 HT rfl (by kernel_rfl) (by decide) (fun K hK => ?_)
       refine goes_ Tryd.func100 (by kernel_rfl) rfl #[.agg #[.int .i64 ((rd_T82 a0 x5).f0), .int .i64 ((rd_T82 a0 x5).f1)], .agg #[.int .i64 ((rd_T82 a1 x5).f0), .int .i64 ((rd_T82 a1 x5).f1)]] (by rfl) rfl rfl (by simp only [List.map_toArray, List.map_cons, List.map_nil]; rfl) ?_; refine (laws_eqRev.calls ht108001.out).mono ?_; rintro _ wt108001 ⟨rfl, HQ⟩; refine ⟨_, rfl, ?_⟩; replace HS := HS.call HQ; clear HQ; (try clear F)
       (try simp only [hpn, hpm] at HS)
       refine hK.out _ _ ⟨_, HS⟩ (fun HH => ?_)
       clear hK K
       refine norm_ (a' := ?_) ?_ ?_
       rotate_left
       · show Act.put _ (some 25) _ = _; simp only [Act.put, List.setIfInBounds_toArray, List.set_cons_zero, List.set_cons_succ, i64_w, i32_w]; rfl
       refine drq_of [(9, some 26)] ?_
       repeat (first | (refine drq_pure HT (v := ?_) (a' := ?_) rfl rfl (by kernel_rfl) (fun _ _ _ h => h) (.inl ⟨by rfl, ?_⟩) ?_ ?_; rotate_left; (intro w'; go_simp; with_reducible rfl); rotate_left; (simp only [Act.put, List.setIfInBounds_toArray, List.set_cons_zero, List.set_cons_succ, i64_w, i32_w]; rfl)))
       refine drq_end ?_
       refine done_ (done_of HT.out (by kernel_rfl)) ?_
       by_cases c11 : t108001 = true
       · replace H := zpos c11 H
         subst c11
         (try simp only [dcn, if_true, Bool.false_eq_true, if_false])
         go_wp2
         go_roundg k4
         case measure => have := HKk4.out; omega
         case rel => exact ⟨_, rfl, H, ⟨by have := HKk4.out; omega⟩, HS.pick [] (by decide) (by rfl)⟩
       · replace H := zneg c11 H
         replace c11 := eq_false_of_ne_true c11
         subst c11
         (try simp only [dcn, if_true, Bool.false_eq_true, if_false])
         obtain rfl := zsome H
         go_wp2
         go_ret
         exact ⟨rfl, HS.pick [] (by decide) (by rfl)⟩
     · replace H := zneg c7 H
       replace c7 := eq_false c7
       obtain rfl := zsome H
       go_wp2
       go_ret
       exact ⟨rfl, HS.pick [] (by decide) (by rfl)⟩
 · replace H := zneg c1 H
   have c1a := beq_eq_false_iff_ne.mpr c1
   have c1b := bne_iff_ne.mpr c1
   clear c1
   obtain rfl := zsome H
   go_wp2
   go_ret
   exact ⟨rfl, HS.pick [] (by decide) (by rfl)⟩
/-! ### laws_eqCrl: function 25 -/
def laws_eqCrl.f (k : Nat) (a0 : S50) (a1 : S50) : Option (Bool) := (if a0.f0.toList = a1.f0.toList then (if a0.f1 = a1.f1 then (if a0.f2 = a1.f2 then (if a0.f3 = a1.f3 then (if a0.f4 = a1.f4 then ((laws_eqRevS.f k a0.f5 a1.f5).bind fun t10 => (if t10 = true then (if a0.f6.toList = a1.f6.toList then (some true) else (some false)) else (some false))) else (some false)) else (some false)) else (some false)) else (some false)) else (some false))
set_option maxHeartbeats 16000000 in
theorem laws_eqCrl.calls {k : Nat} {a0 : S50} {a1 : S50} {Ap0 : Option Addr} {np0 cp0 : Nat} {Ap1 : Option Addr} {np1 cp1 : Nat} {r : Bool} {w : World} (h : laws_eqCrl.f k a0 a1 = some r) (gp0 : k82.C w Ap0 np0 a0.f5) (lp0 : np0 ≤ cp0) (gp1 : k82.C w Ap1 np1 a1.f5) (lp1 : np1 ≤ cp1) :
    Calls Tryd.prog 25 #[.agg #[.string a0.f0, .int .i64 a0.f1, .int .i64 a0.f2, .int .i64 a0.f3, .int .i64 a0.f4, .slice Ap0 np0 cp0, .string a0.f6], .agg #[.string a1.f0, .int .i64 a1.f1, .int .i64 a1.f2, .int .i64 a1.f3, .int .i64 a1.f4, .slice Ap1 np1 cp1, .string a1.f6]] w (fun e w' => e = .returned (.bool r) ∧ Hp noFP w w' []) := by
 obtain rfl := C_len gp0
 obtain rfl := C_len gp1
 have HS := Hp.start w
 have H := Aside0.mk h
 clear h
 unfold laws_eqCrl.f at H
 go_enter Tryd.func25, Tryd.ntmps25
 go_upto_if 9 with (first | ((with_reducible refine gate_dst (N := 2) rfl ?_); refine ev_box rfl HS (by first | (go_simp; done) | (go_simp; rfl)) rfl ?_; clear HS; (try clear F); intro g2 w2 HS; (try simp only [hpn, hpm] at HS); have F := HS.boxes; simp only [boxFacts, and_true] at F) | ((with_reducible refine gate_dst (N := 3) rfl ?_); refine ev_box rfl HS (by first | (go_simp; done) | (go_simp; rfl)) rfl ?_; clear HS; (try clear F); intro g3 w3 HS; (try simp only [hpn, hpm] at HS); have F := HS.boxes; simp only [boxFacts, and_true] at F))
 by_cases c5 : a0.f0.toList = a1.f0.toList
 · replace H := zpos c5 H
   have c5a := beq_iff_eq.mpr c5
   have c5b := bne_eq_false_iff_eq.mpr c5
   clear c5
   (try simp only [c5a, c5b, dcn])
   by_cases c6 : a0.f1 = a1.f1
   · replace H := zpos c6 H
     have c6a := beq_iff_eq.mpr c6
     have c6b := bne_eq_false_iff_eq.mpr c6
     clear c6
     by_cases c7 : a0.f2 = a1.f2
     · replace H := zpos c7 H
       have c7a := beq_iff_eq.mpr c7
       have c7b := bne_eq_false_iff_eq.mpr c7
       clear c7
       by_cases c8 : a0.f3 = a1.f3
       · replace H := zpos c8 H
         have c8a := beq_iff_eq.mpr c8
         have c8b := bne_eq_false_iff_eq.mpr c8
         clear c8
         by_cases c9 : a0.f4 = a1.f4
         · replace H := zpos c9 H
           have c9a := beq_iff_eq.mpr c9
           have c9b := bne_eq_false_iff_eq.mpr c9
           clear c9
           replace H := zbind H; obtain ⟨t10, ht10, H⟩ := H
           go_upto_if 35 with (first | ((with_reducible refine gate_dst (N := 34) rfl ?_); refine ev_call rfl Tryd.func57 (by kernel_rfl) rfl #[.slice Ap0 a0.f5.length cp0, .slice Ap1 a1.f5.length cp1] rfl (by simp only [List.map_toArray, List.map_cons, List.map_nil]; rfl) ?_; refine (laws_eqRevS.calls ht10.out (HS.ro gp0) lp0 (HS.ro gp1) lp1).mono ?_; rintro _ wt10 ⟨rfl, HQ⟩; refine ⟨_, rfl, ?_⟩; replace HS := HS.call HQ; clear HQ; (try clear F); (try simp only [hpn, hpm] at HS); have F := HS.boxes; simp only [boxFacts, and_true] at F))
           by_cases c12 : t10 = true
           · replace H := zpos c12 H
             subst c12
             (try simp only [dcn, if_true, Bool.false_eq_true, if_false])
             by_cases c13 : a0.f6.toList = a1.f6.toList
             · replace H := zpos c13 H
               have c13a := beq_iff_eq.mpr c13
               have c13b := bne_eq_false_iff_eq.mpr c13
               clear c13
               obtain rfl := zsome H
               go_wp2
               go_ret
               exact ⟨rfl, HS.pick [] (by decide) (by rfl)⟩
             · replace H := zneg c13 H
               have c13a := beq_eq_false_iff_ne.mpr c13
               have c13b := bne_iff_ne.mpr c13
               clear c13
               obtain rfl := zsome H
               go_wp2
               go_ret
               exact ⟨rfl, HS.pick [] (by decide) (by rfl)⟩
           · replace H := zneg c12 H
             replace c12 := eq_false_of_ne_true c12
             subst c12
             (try simp only [dcn, if_true, Bool.false_eq_true, if_false])
             obtain rfl := zsome H
             go_wp2
             go_ret
             exact ⟨rfl, HS.pick [] (by decide) (by rfl)⟩
         · replace H := zneg c9 H
           have c9a := beq_eq_false_iff_ne.mpr c9
           have c9b := bne_iff_ne.mpr c9
           clear c9
           obtain rfl := zsome H
           go_wp2
           go_ret
           exact ⟨rfl, HS.pick [] (by decide) (by rfl)⟩
       · replace H := zneg c8 H
         have c8a := beq_eq_false_iff_ne.mpr c8
         have c8b := bne_iff_ne.mpr c8
         clear c8
         obtain rfl := zsome H
         go_wp2
         go_ret
         exact ⟨rfl, HS.pick [] (by decide) (by rfl)⟩
     · replace H := zneg c7 H
       have c7a := beq_eq_false_iff_ne.mpr c7
       have c7b := bne_iff_ne.mpr c7
       clear c7
       obtain rfl := zsome H
       go_wp2
       go_ret
       exact ⟨rfl, HS.pick [] (by decide) (by rfl)⟩
   · replace H := zneg c6 H
     have c6a := beq_eq_false_iff_ne.mpr c6
     have c6b := bne_iff_ne.mpr c6
     clear c6
     obtain rfl := zsome H
     go_wp2
     go_ret
     exact ⟨rfl, HS.pick [] (by decide) (by rfl)⟩
 · replace H := zneg c5 H
   have c5a := beq_eq_false_iff_ne.mpr c5
   have c5b := bne_iff_ne.mpr c5
   clear c5
   (try simp only [c5a, c5b, dcn])
   obtain rfl := zsome H
   go_wp2
   go_ret
   exact ⟨rfl, HS.pick [] (by decide) (by rfl)⟩
/-! ### laws_markRevS: function 58 -/
def laws_markRevS.l0 : Nat → (List S82) → Int → Int → (List S82) → Option (Int × (List S82))
  | 0, _, _, _, _ => none
  | k + 1, l24, x26, x27, a0 => (if x27 < (a0.length : Int) then (if 0 ≤ x27 then (if x27 < (a0.length : Int) then (lets (l24.set (x27).toNat (u82_0_3 (rd_T82 l24 x27) x26)) fun y34 => (lets (y34.set (x27).toNat (u82_1_3 (rd_T82 y34 x27) (wrap64 (x26 + 1)))) fun y38 => (laws_markRevS.l0 k y38 (wrap64 ((wrap64 (x26 + 1)) + 1)) (wrap64 (x27 + 1)) a0))) else none) else none) else (some (x26, l24)))
def laws_markRevS.f (k : Nat) (a0 : (List S82)) (a1 : Int) : Option (Int × (List S82)) := (laws_markRevS.l0 k a0 a1 0 a0)
set_option maxHeartbeats 16000000 in
theorem laws_markRevS.calls {k : Nat} {a0 : (List S82)} {a1 : Int} {A : FP} {vp0 : Value} {r1 : Int} {r2 : (List S82)} {w : World} (h : laws_markRevS.f k a0 a1 = some (r1, r2)) (HS : Hp A w w [.own (Zd.slice 82 q82) a0 [vp0]]) :
    Calls Tryd.prog 58 #[vp0, .int .i64 a1] w (fun e w' => e = .returned (.int .i64 r1) ∧ Hp A w w' [.own (Zd.slice 82 q82) r2 [vp0]]) := by
 obtain ⟨B1, d1, rfl, m1⟩ := HS.form 0 rfl
 have H := Aside0.mk h
 clear h
 unfold laws_markRevS.f at H
 go_enter Tryd.func58, Tryd.ntmps58
 go_wp2
 go_loopg [1, 5] k (fun kq v_1 v_5 w' => ∃ (l24 : List S82) (x26 : Int) (x27 : Int), v_1 = .int .i64 x26 ∧ v_5 = .int .i64 x27 ∧ Aside0 (laws_markRevS.l0 kq l24 x26 x27 a0 = some (r1, r2)) ∧ Aside0 (kq ≤ k) ∧ Hp A w w' [.own (Zd.slice 82 q82) l24 [.slice B1 a0.length d1]])
 case atStart => exact ⟨_, _, _, rfl, rfl, H, ⟨Nat.le_refl _⟩, HS⟩
 case round =>
  clear HS H; (try clear F)
  obtain ⟨l24, x26, x27, rfl, rfl, H, HKk23, HS⟩ := hrel
  cases gk with
  | zero => exact absurd H.out (by simp [laws_markRevS.l0])
  | succ k23 =>
   simp only [laws_markRevS.l0] at H
   by_cases c29 : x27 < (a0.length : Int)
   · replace H := zpos c29 H
     replace c29 := eq_true c29
     by_cases c30 : 0 ≤ x27
     case neg => exact zno c30 H
     replace H := zpos c30 H
     replace c30 := eq_true c30
     by_cases c31 : x27 < (a0.length : Int)
     case neg => exact zno c31 H
     replace H := zpos c31 H
     replace c31 := eq_true c31
     obtain ⟨ad32, rfl, e32_0, e32_1⟩ := at_T82 (HS.rd 0 rfl) x27 (of_eq_true c30) (of_eq_true c31)
     replace H := zlets H; obtain ⟨y34, e_y34, H⟩ := H
     replace H := zlets H; obtain ⟨y38, e_y38, H⟩ := H
     go_wp2_with (first | ((with_reducible refine gate_store (p := 16) rfl ?_); refine ev_setp (ad := ad32) rfl q82 (Zd.int .i64) lens82_0_3 0 [] x27 (rd_T82 l24 x27) x26 HS (seg := [.int .i64 x26]) rfl (by decide) rfl rfl rfl (by rintro g rfl; simp only [add_plain]; refine congrArg (fun n => (⟨g, n, none⟩ : Addr)) ?_; first | rfl | (show 0 + (x27).toNat * 2 + 0 = (x27).toNat * 2 + 0; omega) | (show 0 + (x27).toNat * 2 = (x27).toNat * 2 + 0; omega)) rfl rfl (by kernel_rfl) (by simp [Value.oneCell']) ⟨of_eq_true c30, of_eq_true c31⟩ rfl (fun hl => rd_T82_get hl) (made_flat (fun _ => rfl)) ?_; clear HS; (try clear F); intro w33 HS; rw [← e_y34.out] at HS; (try simp only [hpn, hpm] at HS); obtain ⟨ad36, hq36, e36_0, e36_1⟩ := at_T82 (HS.rd 0 rfl) x27 (of_eq_true c30) (of_eq_true c31); obtain rfl := Option.some.inj hq36) | ((with_reducible refine gate_store (p := 23) rfl ?_); refine ev_setp (ad := ad32) rfl q82 (Zd.int .i64) lens82_1_3 0 [] x27 (rd_T82 y34 x27) (wrap64 (x26 + 1)) HS (seg := [.int .i64 (wrap64 (x26 + 1))]) rfl (by decide) rfl rfl rfl (by rintro g rfl; simp only [add_plain]; refine congrArg (fun n => (⟨g, n, none⟩ : Addr)) ?_; first | rfl | (show 0 + (x27).toNat * 2 + 1 = (x27).toNat * 2 + 1; omega) | (show 0 + (x27).toNat * 2 = (x27).toNat * 2 + 0; omega)) rfl rfl (by kernel_rfl) (by simp [Value.oneCell']) ⟨of_eq_true c30, of_eq_true c31⟩ rfl (fun hl => rd_T82_get hl) (made_flat (fun _ => rfl)) ?_; clear HS; (try clear F); intro w37 HS; rw [← e_y38.out] at HS; (try simp only [hpn, hpm] at HS)))
     go_roundg k23
     case measure => have := HKk23.out; omega
     case rel => exact ⟨_, _, _, rfl, rfl, H, ⟨by have := HKk23.out; omega⟩, HS.pick [0] (by decide) (by rfl)⟩
   · replace H := zneg c29 H
     replace c29 := eq_false c29
     obtain ⟨rfl, rfl⟩ := zsome2 H
     go_wp2
     go_ret
     exact ⟨rfl, HS.pick [0] (by decide) (by rfl)⟩
/-! ### laws_markCrl: function 26 -/
def laws_markCrl.f (k : Nat) (a0 : S50) (a1 : Int) : Option (Int × (List S82)) := ((laws_markRevS.f k a0.f5 a1).bind fun t4 => (some (t4.1, t4.2)))
set_option maxHeartbeats 16000000 in
theorem laws_markCrl.calls {k : Nat} {a0 : S50} {a1 : Int} {A : FP} {vp0 : Value} {r1 : Int} {r2 : (List S82)} {w : World} (h : laws_markCrl.f k a0 a1 = some (r1, r2)) (HS : Hp A w w [.own (Zd.slice 82 q82) a0.f5 [vp0]]) :
    Calls Tryd.prog 26 #[.agg #[.string a0.f0, .int .i64 a0.f1, .int .i64 a0.f2, .int .i64 a0.f3, .int .i64 a0.f4, vp0, .string a0.f6], .int .i64 a1] w (fun e w' => e = .returned (.int .i64 r1) ∧ Hp A w w' [.own (Zd.slice 82 q82) r2 [vp0]]) := by
 obtain ⟨B1, d1, rfl, m1⟩ := HS.form 0 rfl
 have H := Aside0.mk h
 clear h
 unfold laws_markCrl.f at H
 go_enter Tryd.func26, Tryd.ntmps26
 replace H := zbind H; obtain ⟨t4, ht4, H⟩ := H
 obtain ⟨rfl, rfl⟩ := zsome2 H
 go_wp2_with (first | ((with_reducible refine gate_dst (N := 2) rfl ?_); refine ev_box rfl HS (by first | (go_simp; done) | (go_simp; rfl)) rfl ?_; clear HS; (try clear F); intro g2 w2 HS; (try simp only [hpn, hpm] at HS); have F := HS.boxes; simp only [boxFacts, and_true] at F) | ((with_reducible refine gate_dst (N := 8) rfl ?_); refine HS.lend [0] (by decide) [.own (Zd.slice 82 q82) a0.f5 [.slice B1 a0.f5.length d1]] rfl (fun A' HL HD HA HB => ?_); refine ev_call rfl Tryd.func58 (by kernel_rfl) rfl #[.slice B1 a0.f5.length d1, .int .i64 a1] rfl (by simp only [List.map_toArray, List.map_cons, List.map_nil]; rfl) ?_; refine (laws_markRevS.calls ht4.out HA).mono ?_; rintro _ wt4 ⟨rfl, HQ⟩; refine ⟨_, rfl, ?_⟩; replace HS := HB _ _ HQ (Nat.le_of_ble_eq_true rfl); clear HQ HA HB HL HD; (try simp only [hpn, hpm] at HS); (try clear F); (try simp only [hpn, hpm] at HS); have F := HS.boxes; simp only [boxFacts, and_true] at F))
 go_ret
 exact ⟨rfl, HS.pick [0] (by decide) (by rfl)⟩
/-! ### laws_heldRevS: function 59 -/
def laws_heldRevS.l0 : Nat → Int → Int → (List S82) → Option (Int)
  | 0, _, _, _ => none
  | k + 1, x11, x12, a0 => (if x12 < (a0.length : Int) then (if 0 ≤ x12 then (if x12 < (a0.length : Int) then (if (rd_T82 a0 x12).f0 = x11 then (if (rd_T82 a0 x12).f1 = (wrap64 (x11 + 1)) then (laws_heldRevS.l0 k (wrap64 ((wrap64 (x11 + 1)) + 1)) (wrap64 (x12 + 1)) a0) else (some (-1))) else (some (-1))) else none) else none) else (some x11))
def laws_heldRevS.f (k : Nat) (a0 : (List S82)) (a1 : Int) : Option (Int) := (laws_heldRevS.l0 k a1 0 a0)
set_option maxHeartbeats 16000000 in
theorem laws_heldRevS.calls {k : Nat} {a0 : (List S82)} {a1 : Int} {Ap0 : Option Addr} {np0 cp0 : Nat} {r : Int} {w : World} (h : laws_heldRevS.f k a0 a1 = some r) (gp0 : k82.C w Ap0 np0 a0) (lp0 : np0 ≤ cp0) :
    Calls Tryd.prog 59 #[.slice Ap0 np0 cp0, .int .i64 a1] w (fun e w' => e = .returned (.int .i64 r) ∧ Hp noFP w w' []) := by
 obtain rfl := C_len gp0
 have HS := Hp.start w
 have H := Aside0.mk h
 clear h
 unfold laws_heldRevS.f at H
 go_enter Tryd.func59, Tryd.ntmps59
 go_wp2
 go_loopg [1, 5] k (fun kq v_1 v_5 w' => ∃ (x11 : Int) (x12 : Int), v_1 = .int .i64 x11 ∧ v_5 = .int .i64 x12 ∧ Aside0 (laws_heldRevS.l0 kq x11 x12 a0 = some r) ∧ Aside0 (kq ≤ k) ∧ Hp noFP w w' [])
 case atStart => exact ⟨_, _, rfl, rfl, H, ⟨Nat.le_refl _⟩, HS⟩
 case round =>
  clear HS H; (try clear F)
  obtain ⟨x11, x12, rfl, rfl, H, HKk10, HS⟩ := hrel
  cases gk with
  | zero => exact absurd H.out (by simp [laws_heldRevS.l0])
  | succ k10 =>
   simp only [laws_heldRevS.l0] at H
   by_cases c14 : x12 < (a0.length : Int)
   · replace H := zpos c14 H
     replace c14 := eq_true c14
     by_cases c15 : 0 ≤ x12
     case neg => exact zno c15 H
     replace H := zpos c15 H
     replace c15 := eq_true c15
     by_cases c16 : x12 < (a0.length : Int)
     case neg => exact zno c16 H
     replace H := zpos c16 H
     replace c16 := eq_true c16
     obtain ⟨ad17, rfl, e17_0, e17_1⟩ := at_T82 gp0 x12 (of_eq_true c15) (of_eq_true c16)
     have e17_0_17 := (HS.keepc e17_0)
     have e17_1_17 := (HS.keepc e17_1)
     by_cases c18 : (rd_T82 a0 x12).f0 = x11
     · replace H := zpos c18 H
       have c18a := beq_iff_eq.mpr c18
       have c18b := bne_eq_false_iff_eq.mpr c18
       clear c18
       have e17_0_19 := (HS.keepc e17_0)
       have e17_1_19 := (HS.keepc e17_1)
       by_cases c20 : (rd_T82 a0 x12).f1 = (wrap64 (x11 + 1))
       · replace H := zpos c20 H
         have c20a := beq_iff_eq.mpr c20
         have c20b := bne_eq_false_iff_eq.mpr c20
         clear c20
         go_wp2
         go_roundg k10
         case measure => have := HKk10.out; omega
         case rel => exact ⟨_, _, rfl, rfl, H, ⟨by have := HKk10.out; omega⟩, HS.pick [] (by decide) (by rfl)⟩
       · replace H := zneg c20 H
         have c20a := beq_eq_false_iff_ne.mpr c20
         have c20b := bne_iff_ne.mpr c20
         clear c20
         obtain rfl := zsome H
         go_wp2
         go_ret
         exact ⟨rfl, HS.pick [] (by decide) (by rfl)⟩
     · replace H := zneg c18 H
       have c18a := beq_eq_false_iff_ne.mpr c18
       have c18b := bne_iff_ne.mpr c18
       clear c18
       obtain rfl := zsome H
       go_wp2
       go_ret
       exact ⟨rfl, HS.pick [] (by decide) (by rfl)⟩
   · replace H := zneg c14 H
     replace c14 := eq_false c14
     obtain rfl := zsome H
     go_wp2
     go_ret
     exact ⟨rfl, HS.pick [] (by decide) (by rfl)⟩
/-! ### laws_heldCrl: function 27 -/
def laws_heldCrl.f (k : Nat) (a0 : S50) (a1 : Int) : Option (Int) := ((laws_heldRevS.f k a0.f5 a1).bind fun t3 => (if t3 < 0 then (some (-1)) else (some t3)))
set_option maxHeartbeats 16000000 in
theorem laws_heldCrl.calls {k : Nat} {a0 : S50} {a1 : Int} {Ap0 : Option Addr} {np0 cp0 : Nat} {r : Int} {w : World} (h : laws_heldCrl.f k a0 a1 = some r) (gp0 : k82.C w Ap0 np0 a0.f5) (lp0 : np0 ≤ cp0) :
    Calls Tryd.prog 27 #[.agg #[.string a0.f0, .int .i64 a0.f1, .int .i64 a0.f2, .int .i64 a0.f3, .int .i64 a0.f4, .slice Ap0 np0 cp0, .string a0.f6], .int .i64 a1] w (fun e w' => e = .returned (.int .i64 r) ∧ Hp noFP w w' []) := by
 obtain rfl := C_len gp0
 have HS := Hp.start w
 have H := Aside0.mk h
 clear h
 unfold laws_heldCrl.f at H
 go_enter Tryd.func27, Tryd.ntmps27
 replace H := zbind H; obtain ⟨t3, ht3, H⟩ := H
 go_upto_if 10 with (first | ((with_reducible refine gate_dst (N := 2) rfl ?_); refine ev_box rfl HS (by first | (go_simp; done) | (go_simp; rfl)) rfl ?_; clear HS; (try clear F); intro g2 w2 HS; (try simp only [hpn, hpm] at HS); have F := HS.boxes; simp only [boxFacts, and_true] at F) | ((with_reducible refine gate_dst (N := 8) rfl ?_); refine ev_call rfl Tryd.func59 (by kernel_rfl) rfl #[.slice Ap0 a0.f5.length cp0, .int .i64 a1] rfl (by simp only [List.map_toArray, List.map_cons, List.map_nil]; rfl) ?_; refine (laws_heldRevS.calls ht3.out (HS.ro gp0) lp0).mono ?_; rintro _ wt3 ⟨rfl, HQ⟩; refine ⟨_, rfl, ?_⟩; replace HS := HS.call HQ; clear HQ; (try clear F); (try simp only [hpn, hpm] at HS); have F := HS.boxes; simp only [boxFacts, and_true] at F))
 by_cases c5 : t3 < 0
 · replace H := zpos c5 H
   replace c5 := eq_true c5
   (try simp only [c5, dcn])
   obtain rfl := zsome H
   go_wp2
   go_ret
   exact ⟨rfl, HS.pick [] (by decide) (by rfl)⟩
 · replace H := zneg c5 H
   replace c5 := eq_false c5
   (try simp only [c5, dcn])
   obtain rfl := zsome H
   go_wp2
   go_ret
   exact ⟨rfl, HS.pick [] (by decide) (by rfl)⟩
/-! ### laws_FnExactReadCrl: function 6 -/
def laws_FnExactReadCrl.f (k : Nat) (a0 : ByteArray) : Option (Bool) := (if 1048576 < (a0.size : Int) then (some true) else ((spec_ReadCrl.f k a0).bind fun t2 => ((impl_ReadCrl.f k a0).bind fun t9 => ((laws_eqCrl.f k t9.1 t2.1).bind fun t16 => (if t16 = true then (if t9.2 = t2.2 then ((laws_markCrl.f k t9.1 1).bind fun t20 => ((laws_heldCrl.f k (⟨t9.1.f0, t9.1.f1, t9.1.f2, t9.1.f3, t9.1.f4, t20.2, t9.1.f6⟩ : S50) 1).bind fun t22 => (if t22 < 0 then (some false) else (if t22 = t20.1 then ((impl_ReadCrl.f k a0).bind fun t26 => ((laws_eqCrl.f k t26.1 t2.1).bind fun t33 => (if t33 = true then (if t26.2 = t2.2 then ((laws_heldCrl.f k (⟨t9.1.f0, t9.1.f1, t9.1.f2, t9.1.f3, t9.1.f4, t20.2, t9.1.f6⟩ : S50) 1).bind fun t37 => (if t37 < 0 then (some false) else (if t37 = t20.1 then (some true) else (some false)))) else (some false)) else (some false)))) else (some false))))) else (some false)) else (some false))))))
set_option maxHeartbeats 16000000 in
theorem laws_FnExactReadCrl.calls {k : Nat} {a0 : ByteArray} {mG : Int} {r : Bool} {w : World} (h : laws_FnExactReadCrl.f k a0 = some r) (hgM : w.cell? ⟨0, 0, none⟩ = some (.int .i64 mG)) :
    Calls Tryd.prog 6 #[.string a0] w (fun e w' => e = .returned (.bool r) ∧ Hp noFP w w' []) := by
 have HS := Hp.start w
 have H := Aside0.mk h
 clear h
 unfold laws_FnExactReadCrl.f at H
 go_enter Tryd.func6, Tryd.ntmps6
 by_cases c1 : 1048576 < (a0.size : Int)
 · replace H := zpos c1 H
   replace c1 := eq_true c1
   obtain rfl := zsome H
   go_wp2
   go_ret
   exact ⟨rfl, HS.pick [] (by decide) (by rfl)⟩
 · replace H := zneg c1 H
   replace c1 := eq_false c1
   replace H := zbind H; obtain ⟨t2, ht2, H⟩ := H
   replace H := zbind H; obtain ⟨t9, ht9, H⟩ := H
   replace H := zbind H; obtain ⟨t16, ht16, H⟩ := H
   by_cases c18 : t16 = true
   · replace H := zpos c18 H
     subst c18
     go_upto_if 32 with (first | ((with_reducible refine gate_dst (N := 16) rfl ?_); refine ev_call rfl Tryd.func23 (by kernel_rfl) rfl #[.string a0] rfl (by simp only [List.map_toArray, List.map_cons, List.map_nil]; rfl) ?_; refine (spec_ReadCrl.calls ht2.out).mono ?_; rintro _ wt2 ⟨v3, rfl, HQ⟩; refine ⟨_, rfl, ?_⟩; replace HS := HS.call HQ; clear HQ; (try clear F); obtain ⟨B3, d3, rfl, m3⟩ := HS.form 0 rfl; (try simp only [hpn, hpm] at HS)) | ((with_reducible refine gate_dst (N := 3) rfl ?_); refine ev_box rfl HS (by first | (go_simp; done) | (go_simp; rfl)) rfl ?_; clear HS; (try clear F); intro g3 w3 HS; (try simp only [hpn, hpm] at HS); have F := HS.boxes; simp only [boxFacts, and_true] at F) | ((with_reducible refine gate_store (p := 3) rfl ?_); refine ev_store rfl 1 0 HS (seg := [.string t2.1.f0, .int .i64 t2.1.f1, .int .i64 t2.1.f2, .int .i64 t2.1.f3, .int .i64 t2.1.f4, .slice B3 t2.1.f5.length d3, .string t2.1.f6]) rfl rfl rfl rfl rfl rfl (by kernel_rfl) (by simp [wrt]) (by simp [Value.oneCell']) ?_; clear HS; (try clear F); intro w7 HS; (try simp only [hpn, hpm] at HS); have F := HS.boxes; simp only [boxFacts, and_true] at F) | ((with_reducible refine gate_dst (N := 21) rfl ?_); refine ev_call rfl Tryd.func24 (by kernel_rfl) rfl #[.string a0] rfl (by simp only [List.map_toArray, List.map_cons, List.map_nil]; rfl) ?_; refine (impl_ReadCrl.calls ht9.out (HS.keepc hgM)).mono ?_; rintro _ wt9 ⟨v10, rfl, HQ⟩; refine ⟨_, rfl, ?_⟩; replace HS := HS.call HQ; clear HQ; (try clear F); obtain ⟨B10, d10, rfl, m10⟩ := HS.form 2 rfl; (try simp only [hpn, hpm] at HS); have F := HS.boxes; simp only [boxFacts, and_true] at F) | ((with_reducible refine gate_dst (N := 5) rfl ?_); refine ev_box rfl HS (by first | (go_simp; done) | (go_simp; rfl)) rfl ?_; clear HS; (try clear F); intro g5 w5 HS; (try simp only [hpn, hpm] at HS); have F := HS.boxes; simp only [boxFacts, and_true] at F) | ((with_reducible refine gate_store (p := 5) rfl ?_); refine ev_store rfl 3 0 HS (seg := [.string t9.1.f0, .int .i64 t9.1.f1, .int .i64 t9.1.f2, .int .i64 t9.1.f3, .int .i64 t9.1.f4, .slice B10 t9.1.f5.length d10, .string t9.1.f6]) rfl rfl rfl rfl rfl rfl (by kernel_rfl) (by simp [wrt]) (by simp [Value.oneCell']) ?_; clear HS; (try clear F); intro w14 HS; (try simp only [hpn, hpm] at HS); have F := HS.boxes; simp only [boxFacts, and_true] at F) | ((with_reducible refine gate_dst (N := 26) rfl ?_); refine ev_call rfl Tryd.func25 (by kernel_rfl) rfl #[.agg #[.string t9.1.f0, .int .i64 t9.1.f1, .int .i64 t9.1.f2, .int .i64 t9.1.f3, .int .i64 t9.1.f4, .slice B10 t9.1.f5.length d10, .string t9.1.f6], .agg #[.string t2.1.f0, .int .i64 t2.1.f1, .int .i64 t2.1.f2, .int .i64 t2.1.f3, .int .i64 t2.1.f4, .slice B3 t2.1.f5.length d3, .string t2.1.f6]] rfl (by simp only [List.map_toArray, List.map_cons, List.map_nil]; rfl) ?_; refine (laws_eqCrl.calls ht16.out (HS.rd 2 rfl) m10 (HS.rd 0 rfl) m3).mono ?_; rintro _ wt16 ⟨rfl, HQ⟩; refine ⟨_, rfl, ?_⟩; replace HS := HS.call HQ; clear HQ; (try clear F); (try simp only [hpn, hpm] at HS); have F := HS.boxes; simp only [boxFacts, and_true] at F))
     by_cases c19 : t9.2 = t2.2
     · replace H := zpos c19 H
       have c19a := beq_iff_eq.mpr c19
       have c19b := bne_eq_false_iff_eq.mpr c19
       clear c19
       (try simp only [c19a, c19b, dcn])
       replace H := zbind H; obtain ⟨t20, ht20, H⟩ := H
       replace H := zbind H; obtain ⟨t22, ht22, H⟩ := H
       go_upto_if 40 with (first | ((with_reducible refine gate_dst (N := 35) rfl ?_); refine HS.lend [2] (by decide) [.own (Zd.slice 82 q82) t9.1.f5 [.slice B10 t9.1.f5.length d10]] rfl (fun A' HL HD HA HB => ?_); refine ev_call rfl Tryd.func26 (by kernel_rfl) rfl #[.agg #[.string t9.1.f0, .int .i64 t9.1.f1, .int .i64 t9.1.f2, .int .i64 t9.1.f3, .int .i64 t9.1.f4, .slice B10 t9.1.f5.length d10, .string t9.1.f6], .int .i64 1] rfl (by simp only [List.map_toArray, List.map_cons, List.map_nil]; rfl) ?_; refine (laws_markCrl.calls ht20.out HA).mono ?_; rintro _ wt20 ⟨rfl, HQ⟩; refine ⟨_, rfl, ?_⟩; replace HS := HB _ _ HQ (Nat.le_of_ble_eq_true rfl); clear HQ HA HB HL HD; (try simp only [hpn, hpm] at HS); (try clear F); (try simp only [hpn, hpm] at HS); have F := HS.boxes; simp only [boxFacts, and_true] at F) | ((with_reducible refine gate_dst (N := 38) rfl ?_); refine ev_call rfl Tryd.func27 (by kernel_rfl) rfl #[.agg #[.string t9.1.f0, .int .i64 t9.1.f1, .int .i64 t9.1.f2, .int .i64 t9.1.f3, .int .i64 t9.1.f4, .slice B10 t9.1.f5.length d10, .string t9.1.f6], .int .i64 1] rfl (by simp only [List.map_toArray, List.map_cons, List.map_nil]; rfl) ?_; refine (laws_heldCrl.calls ht22.out (HS.rd 2 rfl) m10).mono ?_; rintro _ wt22 ⟨rfl, HQ⟩; refine ⟨_, rfl, ?_⟩; replace HS := HS.call HQ; clear HQ; (try clear F); (try simp only [hpn, hpm] at HS); have F := HS.boxes; simp only [boxFacts, and_true] at F))
       by_cases c24 : t22 < 0
       · replace H := zpos c24 H
         replace c24 := eq_true c24
         (try simp only [c24, dcn])
         obtain rfl := zsome H
         go_wp2
         go_ret
         exact ⟨rfl, HS.pick [] (by decide) (by rfl)⟩
       · replace H := zneg c24 H
         replace c24 := eq_false c24
         (try simp only [c24, dcn])
         by_cases c25 : t22 = t20.1
         · replace H := zpos c25 H
           have c25a := beq_iff_eq.mpr c25
           have c25b := bne_eq_false_iff_eq.mpr c25
           clear c25
           replace H := zbind H; obtain ⟨t26, ht26, H⟩ := H
           replace H := zbind H; obtain ⟨t33, ht33, H⟩ := H
           by_cases c35 : t33 = true
           · replace H := zpos c35 H
             subst c35
             go_upto_if 57 with (first | ((with_reducible refine gate_dst (N := 46) rfl ?_); refine ev_call rfl Tryd.func24 (by kernel_rfl) rfl #[.string a0] rfl (by simp only [List.map_toArray, List.map_cons, List.map_nil]; rfl) ?_; refine (impl_ReadCrl.calls ht26.out (HS.keepc hgM)).mono ?_; rintro _ wt26 ⟨v27, rfl, HQ⟩; refine ⟨_, rfl, ?_⟩; replace HS := HS.call HQ; clear HQ; (try clear F); obtain ⟨B27, d27, rfl, m27⟩ := HS.form 4 rfl; (try simp only [hpn, hpm] at HS); have F := HS.boxes; simp only [boxFacts, and_true] at F) | ((with_reducible refine gate_dst (N := 9) rfl ?_); refine ev_box rfl HS (by first | (go_simp; done) | (go_simp; rfl)) rfl ?_; clear HS; (try clear F); intro g9 w9 HS; (try simp only [hpn, hpm] at HS); have F := HS.boxes; simp only [boxFacts, and_true] at F) | ((with_reducible refine gate_store (p := 9) rfl ?_); refine ev_store rfl 5 0 HS (seg := [.string t26.1.f0, .int .i64 t26.1.f1, .int .i64 t26.1.f2, .int .i64 t26.1.f3, .int .i64 t26.1.f4, .slice B27 t26.1.f5.length d27, .string t26.1.f6]) rfl rfl rfl rfl rfl rfl (by kernel_rfl) (by simp [wrt]) (by simp [Value.oneCell']) ?_; clear HS; (try clear F); intro w31 HS; (try simp only [hpn, hpm] at HS); have F := HS.boxes; simp only [boxFacts, and_true] at F) | ((with_reducible refine gate_dst (N := 51) rfl ?_); refine ev_call rfl Tryd.func25 (by kernel_rfl) rfl #[.agg #[.string t26.1.f0, .int .i64 t26.1.f1, .int .i64 t26.1.f2, .int .i64 t26.1.f3, .int .i64 t26.1.f4, .slice B27 t26.1.f5.length d27, .string t26.1.f6], .agg #[.string t2.1.f0, .int .i64 t2.1.f1, .int .i64 t2.1.f2, .int .i64 t2.1.f3, .int .i64 t2.1.f4, .slice B3 t2.1.f5.length d3, .string t2.1.f6]] rfl (by simp only [List.map_toArray, List.map_cons, List.map_nil]; rfl) ?_; refine (laws_eqCrl.calls ht33.out (HS.rd 4 rfl) m27 (HS.rd 0 rfl) m3).mono ?_; rintro _ wt33 ⟨rfl, HQ⟩; refine ⟨_, rfl, ?_⟩; replace HS := HS.call HQ; clear HQ; (try clear F); (try simp only [hpn, hpm] at HS); have F := HS.boxes; simp only [boxFacts, and_true] at F))
             by_cases c36 : t26.2 = t2.2
             · replace H := zpos c36 H
               have c36a := beq_iff_eq.mpr c36
               have c36b := bne_eq_false_iff_eq.mpr c36
               clear c36
               (try simp only [c36a, c36b, dcn])
               replace H := zbind H; obtain ⟨t37, ht37, H⟩ := H
               go_upto_if 62 with (first | ((with_reducible refine gate_dst (N := 60) rfl ?_); refine ev_call rfl Tryd.func27 (by kernel_rfl) rfl #[.agg #[.string t9.1.f0, .int .i64 t9.1.f1, .int .i64 t9.1.f2, .int .i64 t9.1.f3, .int .i64 t9.1.f4, .slice B10 t9.1.f5.length d10, .string t9.1.f6], .int .i64 1] rfl (by simp only [List.map_toArray, List.map_cons, List.map_nil]; rfl) ?_; refine (laws_heldCrl.calls ht37.out (HS.rd 2 rfl) m10).mono ?_; rintro _ wt37 ⟨rfl, HQ⟩; refine ⟨_, rfl, ?_⟩; replace HS := HS.call HQ; clear HQ; (try clear F); (try simp only [hpn, hpm] at HS); have F := HS.boxes; simp only [boxFacts, and_true] at F))
               by_cases c39 : t37 < 0
               · replace H := zpos c39 H
                 replace c39 := eq_true c39
                 (try simp only [c39, dcn])
                 obtain rfl := zsome H
                 go_wp2
                 go_ret
                 exact ⟨rfl, HS.pick [] (by decide) (by rfl)⟩
               · replace H := zneg c39 H
                 replace c39 := eq_false c39
                 (try simp only [c39, dcn])
                 by_cases c40 : t37 = t20.1
                 · replace H := zpos c40 H
                   have c40a := beq_iff_eq.mpr c40
                   have c40b := bne_eq_false_iff_eq.mpr c40
                   clear c40
                   obtain rfl := zsome H
                   go_wp2
                   go_ret
                   exact ⟨rfl, HS.pick [] (by decide) (by rfl)⟩
                 · replace H := zneg c40 H
                   have c40a := beq_eq_false_iff_ne.mpr c40
                   have c40b := bne_iff_ne.mpr c40
                   clear c40
                   obtain rfl := zsome H
                   go_wp2
                   go_ret
                   exact ⟨rfl, HS.pick [] (by decide) (by rfl)⟩
             · replace H := zneg c36 H
               have c36a := beq_eq_false_iff_ne.mpr c36
               have c36b := bne_iff_ne.mpr c36
               clear c36
               (try simp only [c36a, c36b, dcn])
               obtain rfl := zsome H
               go_wp2
               go_ret
               exact ⟨rfl, HS.pick [] (by decide) (by rfl)⟩
           · replace H := zneg c35 H
             replace c35 := eq_false_of_ne_true c35
             subst c35
             obtain rfl := zsome H
             go_wp2_with (first | ((with_reducible refine gate_dst (N := 46) rfl ?_); refine ev_call rfl Tryd.func24 (by kernel_rfl) rfl #[.string a0] rfl (by simp only [List.map_toArray, List.map_cons, List.map_nil]; rfl) ?_; refine (impl_ReadCrl.calls ht26.out (HS.keepc hgM)).mono ?_; rintro _ wt26 ⟨v27, rfl, HQ⟩; refine ⟨_, rfl, ?_⟩; replace HS := HS.call HQ; clear HQ; (try clear F); obtain ⟨B27, d27, rfl, m27⟩ := HS.form 4 rfl; (try simp only [hpn, hpm] at HS); have F := HS.boxes; simp only [boxFacts, and_true] at F) | ((with_reducible refine gate_dst (N := 9) rfl ?_); refine ev_box rfl HS (by first | (go_simp; done) | (go_simp; rfl)) rfl ?_; clear HS; (try clear F); intro g9 w9 HS; (try simp only [hpn, hpm] at HS); have F := HS.boxes; simp only [boxFacts, and_true] at F) | ((with_reducible refine gate_store (p := 9) rfl ?_); refine ev_store rfl 5 0 HS (seg := [.string t26.1.f0, .int .i64 t26.1.f1, .int .i64 t26.1.f2, .int .i64 t26.1.f3, .int .i64 t26.1.f4, .slice B27 t26.1.f5.length d27, .string t26.1.f6]) rfl rfl rfl rfl rfl rfl (by kernel_rfl) (by simp [wrt]) (by simp [Value.oneCell']) ?_; clear HS; (try clear F); intro w31 HS; (try simp only [hpn, hpm] at HS); have F := HS.boxes; simp only [boxFacts, and_true] at F) | ((with_reducible refine gate_dst (N := 51) rfl ?_); refine ev_call rfl Tryd.func25 (by kernel_rfl) rfl #[.agg #[.string t26.1.f0, .int .i64 t26.1.f1, .int .i64 t26.1.f2, .int .i64 t26.1.f3, .int .i64 t26.1.f4, .slice B27 t26.1.f5.length d27, .string t26.1.f6], .agg #[.string t2.1.f0, .int .i64 t2.1.f1, .int .i64 t2.1.f2, .int .i64 t2.1.f3, .int .i64 t2.1.f4, .slice B3 t2.1.f5.length d3, .string t2.1.f6]] rfl (by simp only [List.map_toArray, List.map_cons, List.map_nil]; rfl) ?_; refine (laws_eqCrl.calls ht33.out (HS.rd 4 rfl) m27 (HS.rd 0 rfl) m3).mono ?_; rintro _ wt33 ⟨rfl, HQ⟩; refine ⟨_, rfl, ?_⟩; replace HS := HS.call HQ; clear HQ; (try clear F); (try simp only [hpn, hpm] at HS); have F := HS.boxes; simp only [boxFacts, and_true] at F))
             go_ret
             exact ⟨rfl, HS.pick [] (by decide) (by rfl)⟩
         · replace H := zneg c25 H
           have c25a := beq_eq_false_iff_ne.mpr c25
           have c25b := bne_iff_ne.mpr c25
           clear c25
           obtain rfl := zsome H
           go_wp2
           go_ret
           exact ⟨rfl, HS.pick [] (by decide) (by rfl)⟩
     · replace H := zneg c19 H
       have c19a := beq_eq_false_iff_ne.mpr c19
       have c19b := bne_iff_ne.mpr c19
       clear c19
       (try simp only [c19a, c19b, dcn])
       obtain rfl := zsome H
       go_wp2
       go_ret
       exact ⟨rfl, HS.pick [] (by decide) (by rfl)⟩
   · replace H := zneg c18 H
     replace c18 := eq_false_of_ne_true c18
     subst c18
     obtain rfl := zsome H
     go_wp2_with (first | ((with_reducible refine gate_dst (N := 16) rfl ?_); refine ev_call rfl Tryd.func23 (by kernel_rfl) rfl #[.string a0] rfl (by simp only [List.map_toArray, List.map_cons, List.map_nil]; rfl) ?_; refine (spec_ReadCrl.calls ht2.out).mono ?_; rintro _ wt2 ⟨v3, rfl, HQ⟩; refine ⟨_, rfl, ?_⟩; replace HS := HS.call HQ; clear HQ; (try clear F); obtain ⟨B3, d3, rfl, m3⟩ := HS.form 0 rfl; (try simp only [hpn, hpm] at HS)) | ((with_reducible refine gate_dst (N := 3) rfl ?_); refine ev_box rfl HS (by first | (go_simp; done) | (go_simp; rfl)) rfl ?_; clear HS; (try clear F); intro g3 w3 HS; (try simp only [hpn, hpm] at HS); have F := HS.boxes; simp only [boxFacts, and_true] at F) | ((with_reducible refine gate_store (p := 3) rfl ?_); refine ev_store rfl 1 0 HS (seg := [.string t2.1.f0, .int .i64 t2.1.f1, .int .i64 t2.1.f2, .int .i64 t2.1.f3, .int .i64 t2.1.f4, .slice B3 t2.1.f5.length d3, .string t2.1.f6]) rfl rfl rfl rfl rfl rfl (by kernel_rfl) (by simp [wrt]) (by simp [Value.oneCell']) ?_; clear HS; (try clear F); intro w7 HS; (try simp only [hpn, hpm] at HS); have F := HS.boxes; simp only [boxFacts, and_true] at F) | ((with_reducible refine gate_dst (N := 21) rfl ?_); refine ev_call rfl Tryd.func24 (by kernel_rfl) rfl #[.string a0] rfl (by simp only [List.map_toArray, List.map_cons, List.map_nil]; rfl) ?_; refine (impl_ReadCrl.calls ht9.out (HS.keepc hgM)).mono ?_; rintro _ wt9 ⟨v10, rfl, HQ⟩; refine ⟨_, rfl, ?_⟩; replace HS := HS.call HQ; clear HQ; (try clear F); obtain ⟨B10, d10, rfl, m10⟩ := HS.form 2 rfl; (try simp only [hpn, hpm] at HS); have F := HS.boxes; simp only [boxFacts, and_true] at F) | ((with_reducible refine gate_dst (N := 5) rfl ?_); refine ev_box rfl HS (by first | (go_simp; done) | (go_simp; rfl)) rfl ?_; clear HS; (try clear F); intro g5 w5 HS; (try simp only [hpn, hpm] at HS); have F := HS.boxes; simp only [boxFacts, and_true] at F) | ((with_reducible refine gate_store (p := 5) rfl ?_); refine ev_store rfl 3 0 HS (seg := [.string t9.1.f0, .int .i64 t9.1.f1, .int .i64 t9.1.f2, .int .i64 t9.1.f3, .int .i64 t9.1.f4, .slice B10 t9.1.f5.length d10, .string t9.1.f6]) rfl rfl rfl rfl rfl rfl (by kernel_rfl) (by simp [wrt]) (by simp [Value.oneCell']) ?_; clear HS; (try clear F); intro w14 HS; (try simp only [hpn, hpm] at HS); have F := HS.boxes; simp only [boxFacts, and_true] at F) | ((with_reducible refine gate_dst (N := 26) rfl ?_); refine ev_call rfl Tryd.func25 (by kernel_rfl) rfl #[.agg #[.string t9.1.f0, .int .i64 t9.1.f1, .int .i64 t9.1.f2, .int .i64 t9.1.f3, .int .i64 t9.1.f4, .slice B10 t9.1.f5.length d10, .string t9.1.f6], .agg #[.string t2.1.f0, .int .i64 t2.1.f1, .int .i64 t2.1.f2, .int .i64 t2.1.f3, .int .i64 t2.1.f4, .slice B3 t2.1.f5.length d3, .string t2.1.f6]] rfl (by simp only [List.map_toArray, List.map_cons, List.map_nil]; rfl) ?_; refine (laws_eqCrl.calls ht16.out (HS.rd 2 rfl) m10 (HS.rd 0 rfl) m3).mono ?_; rintro _ wt16 ⟨rfl, HQ⟩; refine ⟨_, rfl, ?_⟩; replace HS := HS.call HQ; clear HQ; (try clear F); (try simp only [hpn, hpm] at HS); have F := HS.boxes; simp only [boxFacts, and_true] at F))
     go_ret
     exact ⟨rfl, HS.pick [] (by decide) (by rfl)⟩
end Go.Proofs.YtoaoncnbimcdgaaDoor.F

/- Functions of the program and of the law, and that their calls do what is written here. -/
import Derived.Test.YtnpokacipeobdaaDoorZgFnExactCrlOkb
namespace Go.Proofs.YtnpokacipeobdaaDoor.F
open Go.RowKit Go.Proofs.YtnpokacipeobdaaDoorW.PrintWords Go.Proofs.YtnpokacipeobdaaDoorW.PrintLast Go.Proofs.YtnpokacipeobdaaDoorW.PrintMore Go.Proofs.YtnpokacipeobdaaDoor.Z
attribute [local go_sem] max2_int min2_int max_two min_two max_three min_three max_four min_four
set_option linter.unusedVariables false
set_option linter.unusedSimpArgs false
set_option maxRecDepth 100000
/-! ### laws_eqRevS: function 38 -/
def laws_eqRevS.l0 : Nat → Int → (List S74) → (List S74) → Option (Bool)
  | 0, _, _, _ => none
  | k + 1, x5, a0, a1 => (if x5 < (a0.length : Int) then (if 0 ≤ x5 then (if x5 < (a0.length : Int) then (if x5 < (a1.length : Int) then ((laws_eqRev.f (rd_T74 a0 x5) (rd_T74 a1 x5)).bind fun t108001 => (if t108001 = true then (laws_eqRevS.l0 k (wrap64 (x5 + 1)) a0 a1) else (some false))) else none) else none) else none) else (some true))
def laws_eqRevS.f (k : Nat) (a0 : (List S74)) (a1 : (List S74)) : Option (Bool) := (if (a0.length : Int) = (a1.length : Int) then (laws_eqRevS.l0 k 0 a0 a1) else (some false))
def laws_eqRevS.T6 : Bool × List (List Nat × List Nat) := (true, [([], []), ([], []), ([0, 1], [0, 1]), ([2], [2]), ([], []), ([], []), ([4, 5], [4, 5]), ([6], [6]), ([3, 7], [3, 7]), ([8], [8])])
theorem laws_eqRevS.tT6 : rtab .any (opsOf Tryd.f38 6) = laws_eqRevS.T6 := by kernel_rfl
set_option maxHeartbeats 16000000 in
theorem laws_eqRevS.calls {k : Nat} {a0 : (List S74)} {a1 : (List S74)} {Ap0 : Option Addr} {np0 cp0 : Nat} {Ap1 : Option Addr} {np1 cp1 : Nat} {r : Bool} {w : World} (h : laws_eqRevS.f k a0 a1 = some r) (gp0 : k74.C w Ap0 np0 a0) (lp0 : np0 ≤ cp0) (gp1 : k74.C w Ap1 np1 a1) (lp1 : np1 ≤ cp1) :
    Calls Tryd.prog 38 #[.slice Ap0 np0 cp0, .slice Ap1 np1 cp1] w (fun e w' => e = .returned (.bool r) ∧ Hp noFP w w' []) := by
 obtain rfl := C_len gp0
 obtain rfl := C_len gp1
 have HS := Hp.start w
 have H := Aside0.mk h
 clear h
 unfold laws_eqRevS.f at H
 go_enter Tryd.func38, Tryd.ntmps38
 by_cases c1 : (a0.length : Int) = (a1.length : Int)
 case neg =>
  replace H := zneg c1 H
  have c1a := beq_eq_false_iff_ne.mpr c1
  have c1b := bne_iff_ne.mpr c1
  clear c1
  obtain rfl := zsome H
  go_wp2
  go_ret
  exact ⟨rfl, HS.pick [] (by decide) (by rfl)⟩
 replace H := zpos c1 H
 have c1a := beq_iff_eq.mpr c1
 have c1b := bne_eq_false_iff_eq.mpr c1
 clear c1
 go_wp2
 go_loopg [5] k (fun kq v_5 w' => ∃ (x5 : Int), v_5 = .int .i64 x5 ∧ Aside0 (laws_eqRevS.l0 kq x5 a0 a1 = some r) ∧ Aside0 (kq ≤ k) ∧ Hp noFP w w' [])
 case atStart => exact ⟨_, rfl, H, ⟨Nat.le_refl _⟩, HS⟩
 case round =>
  clear HS H; (try clear F)
  obtain ⟨x5, rfl, H, HKk4, HS⟩ := hrel
  cases gk with
  | zero => exact absurd H.out (by simp [laws_eqRevS.l0])
  | succ k4 =>
   simp only [laws_eqRevS.l0] at H
   by_cases c7 : x5 < (a0.length : Int)
   case neg =>
    replace H := zneg c7 H
    replace c7 := eq_false c7
    obtain rfl := zsome H
    go_wp2
    go_ret
    exact ⟨rfl, HS.pick [] (by decide) (by rfl)⟩
   replace H := zpos c7 H
   replace c7 := eq_true c7
   (try go_wp2)
   by_cases c102001 : 0 ≤ x5
   case neg => exact zno c102001 H
   replace H := zpos c102001 H
   replace c102001 := eq_true c102001
   by_cases c102002 : x5 < (a0.length : Int)
   case neg => exact zno c102002 H
   replace H := zpos c102002 H
   replace c102002 := eq_true c102002
   obtain ⟨ad102999, rfl, e102999_0, e102999_1⟩ := at_T74 gp0 x5 (of_eq_true c102001) (of_eq_true c102002)
   by_cases c106001 : x5 < (a1.length : Int)
   case neg => exact zno c106001 H
   replace H := zpos c106001 H
   replace c106001 := eq_true c106001
   obtain ⟨ad106999, rfl, e106999_0, e106999_1⟩ := at_T74 gp1 x5 (of_eq_true c102001) (of_eq_true c106001)
   replace H := zbind H; obtain ⟨t108001, ht108001, H⟩ := H
   refine dr_start [] HS #[false, false, false, false, false, false, false, false, false, false] (by kernel_rfl) rfl rfl laws_eqRevS.tT6 (fun w9 HT HS HH => ?_)
   (try clear F)
   refine drq_of [(0, some 17), (1, some 18), (2, some 19)] ?_
   repeat (first | (refine drq_pure HT (v := ?_) (a' := ?_) rfl rfl (by kernel_rfl) (fun _ _ _ h => h) (.inl ⟨by rfl, ?_⟩) ?_ ?_; rotate_left; (intro w'; go_simp; with_reducible rfl); rotate_left; (simp only [Act.put, ptn]; rfl)))
   refine drq_end ?_
   refine dr_take 3 (some 20) HT HH (v := ?_) (a' := ?_) rfl rfl (by kernel_rfl) (fun _ _ _ h => h) (.inl ⟨by rfl, ?_⟩) ?_ ?_
   rotate_left
   · rintro w' ⟨rs', HS'⟩; have e102999_0 := (HS'.keepc e102999_0); have e102999_1 := (HS'.keepc e102999_1); go_simp; with_reducible rfl
   rotate_left
   · simp only [Act.put, ptn]; rfl
   refine drq_of [(4, some 21), (5, some 22), (6, some 23)] ?_
   repeat (first | (refine drq_pure HT (v := ?_) (a' := ?_) rfl rfl (by kernel_rfl) (fun _ _ _ h => h) (.inl ⟨by rfl, ?_⟩) ?_ ?_; rotate_left; (intro w'; go_simp; with_reducible rfl); rotate_left; (simp only [Act.put, ptn]; rfl)))
   refine drq_end ?_
   refine dr_take 7 (some 24) HT HH (v := ?_) (a' := ?_) rfl rfl (by kernel_rfl) (fun _ _ _ h => h) (.inl ⟨by rfl, ?_⟩) ?_ ?_
   rotate_left
   · rintro w' ⟨rs', HS'⟩; have e106999_0 := (HS'.keepc e106999_0); have e106999_1 := (HS'.keepc e106999_1); go_simp; with_reducible rfl
   rotate_left
   · simp only [Act.put, ptn]; rfl
   refine dr_one 8 HT rfl (by kernel_rfl) (by decide) (fun K hK => ?_)
   refine goes_ Tryd.func72 (by kernel_rfl) rfl #[.agg #[.int .i64 ((rd_T74 a0 x5).f0), .int .i64 ((rd_T74 a0 x5).f1)], .agg #[.int .i64 ((rd_T74 a1 x5).f0), .int .i64 ((rd_T74 a1 x5).f1)]] (by rfl) rfl rfl (by simp only [mpn]; rfl) ?_; refine (laws_eqRev.calls ht108001.out).mono ?_; rintro _ wt108001 ⟨rfl, HQ⟩; refine ⟨_, rfl, ?_⟩; replace HS := HS.call HQ; clear HQ; (try clear F)
   (try simp only [hpn, hpm] at HS)
   refine hK.out _ _ ⟨_, HS⟩ (fun HH => ?_)
   clear hK K
   refine norm_ (a' := ?_) ?_ ?_
   rotate_left
   · show Act.put _ (some 25) _ = _; simp only [Act.put, ptn]; rfl
   refine drq_of [(9, some 26)] ?_
   repeat (first | (refine drq_pure HT (v := ?_) (a' := ?_) rfl rfl (by kernel_rfl) (fun _ _ _ h => h) (.inl ⟨by rfl, ?_⟩) ?_ ?_; rotate_left; (intro w'; go_simp; with_reducible rfl); rotate_left; (simp only [Act.put, ptn]; rfl)))
   refine drq_end ?_
   refine done_ (done_of HT.out (by kernel_rfl)) ?_
   by_cases c11 : t108001 = true
   case neg =>
    replace H := zneg c11 H
    replace c11 := eq_false_of_ne_true c11
    subst c11
    (try simp only [dcn, if_true, Bool.false_eq_true, if_false])
    obtain rfl := zsome H
    go_wp2
    go_ret
    exact ⟨rfl, HS.pick [] (by decide) (by rfl)⟩
   replace H := zpos c11 H
   subst c11
   (try simp only [dcn, if_true, Bool.false_eq_true, if_false])
   go_wp2
   go_roundg k4
   case measure => have := HKk4.out; omega
   case rel => exact ⟨_, rfl, H, ⟨by have := HKk4.out; omega⟩, HS.pick [] (by decide) (by rfl)⟩
/-! ### laws_eqCrl: function 12 -/
def laws_eqCrl.f (k : Nat) (a0 : S29) (a1 : S29) : Option (Bool) := (if a0.f0.toList = a1.f0.toList then (if a0.f1 = a1.f1 then (if a0.f2 = a1.f2 then (if a0.f3 = a1.f3 then (if a0.f4 = a1.f4 then ((laws_eqRevS.f k a0.f5 a1.f5).bind fun t10 => (if t10 = true then (if a0.f6.toList = a1.f6.toList then (some true) else (some false)) else (some false))) else (some false)) else (some false)) else (some false)) else (some false)) else (some false))
set_option maxHeartbeats 16000000 in
theorem laws_eqCrl.calls {k : Nat} {a0 : S29} {a1 : S29} {Ap0 : Option Addr} {np0 cp0 : Nat} {Ap1 : Option Addr} {np1 cp1 : Nat} {r : Bool} {w : World} (h : laws_eqCrl.f k a0 a1 = some r) (gp0 : k74.C w Ap0 np0 a0.f5) (lp0 : np0 ≤ cp0) (gp1 : k74.C w Ap1 np1 a1.f5) (lp1 : np1 ≤ cp1) :
    Calls Tryd.prog 12 #[.agg #[.string a0.f0, .int .i64 a0.f1, .int .i64 a0.f2, .int .i64 a0.f3, .int .i64 a0.f4, .slice Ap0 np0 cp0, .string a0.f6], .agg #[.string a1.f0, .int .i64 a1.f1, .int .i64 a1.f2, .int .i64 a1.f3, .int .i64 a1.f4, .slice Ap1 np1 cp1, .string a1.f6]] w (fun e w' => e = .returned (.bool r) ∧ Hp noFP w w' []) := by
 obtain rfl := C_len gp0
 obtain rfl := C_len gp1
 have HS := Hp.start w
 have H := Aside0.mk h
 clear h
 unfold laws_eqCrl.f at H
 go_enter Tryd.func12, Tryd.ntmps12
 go_upto_if 9 with (first | ((with_reducible refine gate_dst (N := 2) rfl ?_); refine ev_box rfl HS (by first | (go_simp; done) | (go_simp; rfl)) rfl ?_; clear HS; (try clear F); intro g2 w2 HS; (try simp only [hpn, hpm] at HS); have F := HS.boxes; simp only [bxn] at F) | ((with_reducible refine gate_dst (N := 3) rfl ?_); refine ev_box rfl HS (by first | (go_simp; done) | (go_simp; rfl)) rfl ?_; clear HS; (try clear F); intro g3 w3 HS; (try simp only [hpn, hpm] at HS); have F := HS.boxes; simp only [bxn] at F))
 by_cases c5 : a0.f0.toList = a1.f0.toList
 case neg =>
  replace H := zneg c5 H
  have c5a := beq_eq_false_iff_ne.mpr c5
  have c5b := bne_iff_ne.mpr c5
  clear c5
  (try simp only [c5a, c5b, dcn])
  obtain rfl := zsome H
  go_wp2
  go_ret
  exact ⟨rfl, HS.pick [] (by decide) (by rfl)⟩
 replace H := zpos c5 H
 have c5a := beq_iff_eq.mpr c5
 have c5b := bne_eq_false_iff_eq.mpr c5
 clear c5
 (try simp only [c5a, c5b, dcn])
 by_cases c6 : a0.f1 = a1.f1
 case neg =>
  replace H := zneg c6 H
  have c6a := beq_eq_false_iff_ne.mpr c6
  have c6b := bne_iff_ne.mpr c6
  clear c6
  obtain rfl := zsome H
  go_wp2
  go_ret
  exact ⟨rfl, HS.pick [] (by decide) (by rfl)⟩
 replace H := zpos c6 H
 have c6a := beq_iff_eq.mpr c6
 have c6b := bne_eq_false_iff_eq.mpr c6
 clear c6
 by_cases c7 : a0.f2 = a1.f2
 case neg =>
  replace H := zneg c7 H
  have c7a := beq_eq_false_iff_ne.mpr c7
  have c7b := bne_iff_ne.mpr c7
  clear c7
  obtain rfl := zsome H
  go_wp2
  go_ret
  exact ⟨rfl, HS.pick [] (by decide) (by rfl)⟩
 replace H := zpos c7 H
 have c7a := beq_iff_eq.mpr c7
 have c7b := bne_eq_false_iff_eq.mpr c7
 clear c7
 by_cases c8 : a0.f3 = a1.f3
 case neg =>
  replace H := zneg c8 H
  have c8a := beq_eq_false_iff_ne.mpr c8
  have c8b := bne_iff_ne.mpr c8
  clear c8
  obtain rfl := zsome H
  go_wp2
  go_ret
  exact ⟨rfl, HS.pick [] (by decide) (by rfl)⟩
 replace H := zpos c8 H
 have c8a := beq_iff_eq.mpr c8
 have c8b := bne_eq_false_iff_eq.mpr c8
 clear c8
 by_cases c9 : a0.f4 = a1.f4
 case neg =>
  replace H := zneg c9 H
  have c9a := beq_eq_false_iff_ne.mpr c9
  have c9b := bne_iff_ne.mpr c9
  clear c9
  obtain rfl := zsome H
  go_wp2
  go_ret
  exact ⟨rfl, HS.pick [] (by decide) (by rfl)⟩
 replace H := zpos c9 H
 have c9a := beq_iff_eq.mpr c9
 have c9b := bne_eq_false_iff_eq.mpr c9
 clear c9
 replace H := zbind H; obtain ⟨t10, ht10, H⟩ := H
 go_upto_if 35 with (first | ((with_reducible refine gate_dst (N := 34) rfl ?_); refine ev_call rfl Tryd.func38 (by kernel_rfl) rfl #[.slice Ap0 a0.f5.length cp0, .slice Ap1 a1.f5.length cp1] rfl (by simp only [mpn]; rfl) ?_; refine (laws_eqRevS.calls ht10.out (HS.ro gp0) lp0 (HS.ro gp1) lp1).mono ?_; rintro _ wt10 ⟨rfl, HQ⟩; refine ⟨_, rfl, ?_⟩; replace HS := HS.call HQ; clear HQ; (try clear F); (try simp only [hpn, hpm] at HS); have F := HS.boxes; simp only [bxn] at F))
 by_cases c12 : t10 = true
 case neg =>
  replace H := zneg c12 H
  replace c12 := eq_false_of_ne_true c12
  subst c12
  (try simp only [dcn, if_true, Bool.false_eq_true, if_false])
  obtain rfl := zsome H
  go_wp2
  go_ret
  exact ⟨rfl, HS.pick [] (by decide) (by rfl)⟩
 replace H := zpos c12 H
 subst c12
 (try simp only [dcn, if_true, Bool.false_eq_true, if_false])
 by_cases c13 : a0.f6.toList = a1.f6.toList
 case neg =>
  replace H := zneg c13 H
  have c13a := beq_eq_false_iff_ne.mpr c13
  have c13b := bne_iff_ne.mpr c13
  clear c13
  obtain rfl := zsome H
  go_wp2
  go_ret
  exact ⟨rfl, HS.pick [] (by decide) (by rfl)⟩
 replace H := zpos c13 H
 have c13a := beq_iff_eq.mpr c13
 have c13b := bne_eq_false_iff_eq.mpr c13
 clear c13
 obtain rfl := zsome H
 go_wp2
 go_ret
 exact ⟨rfl, HS.pick [] (by decide) (by rfl)⟩
/-! ### laws_szRevS: function 30 -/
def laws_szRevS.f (a0 : (List S107)) (a1 : Int) : Option (Int) := (if (wrap64 (a1 - (a0.length : Int))) < 0 then (some (-1)) else (some (wrap64 (a1 - (a0.length : Int)))))
set_option maxHeartbeats 16000000 in
theorem laws_szRevS.calls {a0 : (List S107)} {a1 : Int} {Ap0 : Option Addr} {np0 cp0 : Nat} {r : Int} {w : World} (h : laws_szRevS.f a0 a1 = some r) (gp0 : k107.C w Ap0 np0 a0) (lp0 : np0 ≤ cp0) :
    Calls Tryd.prog 30 #[.slice Ap0 np0 cp0, .int .i64 a1] w (fun e w' => e = .returned (.int .i64 r) ∧ Hp noFP w w' []) := by
 obtain rfl := C_len gp0
 have HS := Hp.start w
 have H := Aside0.mk h
 clear h
 unfold laws_szRevS.f at H
 go_enter Tryd.func30, Tryd.ntmps30
 by_cases c1 : (wrap64 (a1 - (a0.length : Int))) < 0
 case pos =>
  replace H := zpos c1 H
  replace c1 := eq_true c1
  obtain rfl := zsome H
  go_wp2
  go_ret
  exact ⟨rfl, HS.pick [] (by decide) (by rfl)⟩
 replace H := zneg c1 H
 replace c1 := eq_false c1
 obtain rfl := zsome H
 go_wp2
 go_ret
 exact ⟨rfl, HS.pick [] (by decide) (by rfl)⟩
/-! ### laws_szCrl: function 8 -/
def laws_szCrl.f (a0 : S24) (a1 : Int) : Option (Int) := (if (wrap64 (a1 - (a0.f0.size : Int))) < 0 then (some (-1)) else ((laws_szRevS.f a0.f5 (wrap64 (a1 - (a0.f0.size : Int)))).bind fun t4 => (if t4 < 0 then (some (-1)) else (if (wrap64 (t4 - (a0.f6.size : Int))) < 0 then (some (-1)) else (some (wrap64 (t4 - (a0.f6.size : Int))))))))
set_option maxHeartbeats 16000000 in
theorem laws_szCrl.calls {a0 : S24} {a1 : Int} {Ap0 : Option Addr} {np0 cp0 : Nat} {r : Int} {w : World} (h : laws_szCrl.f a0 a1 = some r) (gp0 : k107.C w Ap0 np0 a0.f5) (lp0 : np0 ≤ cp0) :
    Calls Tryd.prog 8 #[.agg #[.string a0.f0, .int .i64 a0.f1, .int .i64 a0.f2, .int .i64 a0.f3, .int .i64 a0.f4, .slice Ap0 np0 cp0, .string a0.f6], .int .i64 a1] w (fun e w' => e = .returned (.int .i64 r) ∧ Hp noFP w w' []) := by
 obtain rfl := C_len gp0
 have HS := Hp.start w
 have H := Aside0.mk h
 clear h
 unfold laws_szCrl.f at H
 go_enter Tryd.func8, Tryd.ntmps8
 go_upto_if 11 with (first | ((with_reducible refine gate_dst (N := 2) rfl ?_); refine ev_box rfl HS (by first | (go_simp; done) | (go_simp; rfl)) rfl ?_; clear HS; (try clear F); intro g2 w2 HS; (try simp only [hpn, hpm] at HS); have F := HS.boxes; simp only [bxn] at F))
 by_cases c3 : (wrap64 (a1 - (a0.f0.size : Int))) < 0
 case pos =>
  replace H := zpos c3 H
  replace c3 := eq_true c3
  (try simp only [c3, dcn])
  obtain rfl := zsome H
  go_wp2
  go_ret
  exact ⟨rfl, HS.pick [] (by decide) (by rfl)⟩
 replace H := zneg c3 H
 replace c3 := eq_false c3
 (try simp only [c3, dcn])
 replace H := zbind H; obtain ⟨t4, ht4, H⟩ := H
 go_upto_if 17 with (first | ((with_reducible refine gate_dst (N := 15) rfl ?_); refine ev_call rfl Tryd.func30 (by kernel_rfl) rfl #[.slice Ap0 a0.f5.length cp0, .int .i64 (wrap64 (a1 - (a0.f0.size : Int)))] rfl (by simp only [mpn]; rfl) ?_; refine (laws_szRevS.calls ht4.out (HS.ro gp0) lp0).mono ?_; rintro _ wt4 ⟨rfl, HQ⟩; refine ⟨_, rfl, ?_⟩; replace HS := HS.call HQ; clear HQ; (try clear F); (try simp only [hpn, hpm] at HS); have F := HS.boxes; simp only [bxn] at F))
 by_cases c6 : t4 < 0
 case pos =>
  replace H := zpos c6 H
  replace c6 := eq_true c6
  (try simp only [c6, dcn])
  obtain rfl := zsome H
  go_wp2
  go_ret
  exact ⟨rfl, HS.pick [] (by decide) (by rfl)⟩
 replace H := zneg c6 H
 replace c6 := eq_false c6
 (try simp only [c6, dcn])
 by_cases c7 : (wrap64 (t4 - (a0.f6.size : Int))) < 0
 case pos =>
  replace H := zpos c7 H
  replace c7 := eq_true c7
  obtain rfl := zsome H
  go_wp2
  go_ret
  exact ⟨rfl, HS.pick [] (by decide) (by rfl)⟩
 replace H := zneg c7 H
 replace c7 := eq_false c7
 obtain rfl := zsome H
 go_wp2
 go_ret
 exact ⟨rfl, HS.pick [] (by decide) (by rfl)⟩
/-! ### spec_l01In: function 32 -/
def spec_l01In.f (a0 : Int) (a1 : Int) (a2 : Int) : Option (Bool) := (if a1 ≤ a0 then (some (decide (a0 ≤ a2))) else (some false))
set_option maxHeartbeats 16000000 in
theorem spec_l01In.calls {a0 : Int} {a1 : Int} {a2 : Int} {r : Bool} {w : World} (h : spec_l01In.f a0 a1 a2 = some r) :
    Calls Tryd.prog 32 #[.int .i64 a0, .int .i64 a1, .int .i64 a2] w (fun e w' => e = .returned (.bool r) ∧ Hp noFP w w' []) := by
 have HS := Hp.start w
 have H := Aside0.mk h
 clear h
 unfold spec_l01In.f at H
 go_enter Tryd.func32, Tryd.ntmps32
 by_cases c1 : a1 ≤ a0
 case pos =>
  replace H := zpos c1 H
  replace c1 := eq_true c1
  obtain rfl := zsome H
  go_wp2
  go_ret
  exact ⟨rfl, HS.pick [] (by decide) (by rfl)⟩
 replace H := zneg c1 H
 replace c1 := eq_false c1
 obtain rfl := zsome H
 go_wp2
 go_ret
 exact ⟨rfl, HS.pick [] (by decide) (by rfl)⟩
/-! ### spec_NameOk: function 31 -/
def spec_NameOk.l0 : Nat → Int → Int → ByteArray → Option (Bool)
  | 0, _, _, _ => none
  | k + 1, x14, x15, a0 => (if x15 < (a0.size : Int) then (if 0 ≤ x15 then (if x15 < (a0.size : Int) then (if 97 ≤ (bt a0 x15) then (if (bt a0 x15) ≤ 122 then (spec_NameOk.l0 k (wrap64 (x14 + 1)) (wrap64 (x15 + 1)) a0) else (if (bt a0 x15) = 46 then (if 0 < x14 then (spec_NameOk.l0 k 0 (wrap64 (x15 + 1)) a0) else (some false)) else (some false))) else (if (bt a0 x15) = 46 then (if 0 < x14 then (spec_NameOk.l0 k 0 (wrap64 (x15 + 1)) a0) else (some false)) else (some false))) else none) else none) else ((spec_l01In.f (a0.size : Int) 1 20).bind fun t30 => (if t30 = true then (some (decide (0 < x14))) else (some false))))
def spec_NameOk.f (k : Nat) (a0 : ByteArray) : Option (Bool) := (spec_NameOk.l0 k 0 0 a0)
set_option maxHeartbeats 16000000 in
theorem spec_NameOk.calls {k : Nat} {a0 : ByteArray} {r : Bool} {w : World} (h : spec_NameOk.f k a0 = some r) :
    Calls Tryd.prog 31 #[.string a0] w (fun e w' => e = .returned (.bool r) ∧ Hp noFP w w' []) := by
 have HS := Hp.start w
 have H := Aside0.mk h
 clear h
 unfold spec_NameOk.f at H
 go_enter Tryd.func31, Tryd.ntmps31
 go_wp2
 go_loopg [3, 4] k (fun kq v_3 v_4 w' => ∃ (x14 : Int) (x15 : Int), v_3 = .int .i64 x14 ∧ v_4 = .int .i64 x15 ∧ Aside0 (spec_NameOk.l0 kq x14 x15 a0 = some r) ∧ Aside0 (kq ≤ k) ∧ Hp noFP w w' [])
 case atStart => exact ⟨_, _, rfl, rfl, H, ⟨Nat.le_refl _⟩, HS⟩
 case round =>
  clear HS H; (try clear F)
  obtain ⟨x14, x15, rfl, rfl, H, HKk13, HS⟩ := hrel
  cases gk with
  | zero => exact absurd H.out (by simp [spec_NameOk.l0])
  | succ k13 =>
   simp only [spec_NameOk.l0] at H
   by_cases c17 : x15 < (a0.size : Int)
   case neg =>
    replace H := zneg c17 H
    replace c17 := eq_false c17
    replace H := zbind H; obtain ⟨t30, ht30, H⟩ := H
    by_cases c32 : t30 = true
    case pos =>
     replace H := zpos c32 H
     subst c32
     obtain rfl := zsome H
     go_wp2_with (first | ((with_reducible refine gate_dst (N := 35) rfl ?_); refine ev_call rfl Tryd.func32 (by kernel_rfl) rfl #[.int .i64 (a0.size : Int), .int .i64 1, .int .i64 20] rfl (by simp only [mpn]; rfl) ?_; refine (spec_l01In.calls ht30.out).mono ?_; rintro _ wt30 ⟨rfl, HQ⟩; refine ⟨_, rfl, ?_⟩; replace HS := HS.call HQ; clear HQ; (try clear F); (try simp only [hpn, hpm] at HS)))
     go_ret
     exact ⟨rfl, HS.pick [] (by decide) (by rfl)⟩
    replace H := zneg c32 H
    replace c32 := eq_false_of_ne_true c32
    subst c32
    obtain rfl := zsome H
    go_wp2_with (first | ((with_reducible refine gate_dst (N := 35) rfl ?_); refine ev_call rfl Tryd.func32 (by kernel_rfl) rfl #[.int .i64 (a0.size : Int), .int .i64 1, .int .i64 20] rfl (by simp only [mpn]; rfl) ?_; refine (spec_l01In.calls ht30.out).mono ?_; rintro _ wt30 ⟨rfl, HQ⟩; refine ⟨_, rfl, ?_⟩; replace HS := HS.call HQ; clear HQ; (try clear F); (try simp only [hpn, hpm] at HS)))
    go_ret
    exact ⟨rfl, HS.pick [] (by decide) (by rfl)⟩
   replace H := zpos c17 H
   replace c17 := eq_true c17
   by_cases c18 : 0 ≤ x15
   case neg => exact zno c18 H
   replace H := zpos c18 H
   replace c18 := eq_true c18
   by_cases c19 : x15 < (a0.size : Int)
   case neg => exact zno c19 H
   replace H := zpos c19 H
   replace c19 := eq_true c19
   have hx20 := bt_at a0 x15
   by_cases c21 : 97 ≤ (bt a0 x15)
   case neg =>
    replace H := zneg c21 H
    replace c21 := eq_false c21
    have hx27 := bt_at a0 x15
    by_cases c28 : (bt a0 x15) = 46
    case neg =>
     replace H := zneg c28 H
     have c28a := beq_eq_false_iff_ne.mpr c28
     have c28b := bne_iff_ne.mpr c28
     clear c28
     obtain rfl := zsome H
     go_wp2
     go_ret
     exact ⟨rfl, HS.pick [] (by decide) (by rfl)⟩
    replace H := zpos c28 H
    have c28a := beq_iff_eq.mpr c28
    have c28b := bne_eq_false_iff_eq.mpr c28
    clear c28
    by_cases c29 : 0 < x14
    case neg =>
     replace H := zneg c29 H
     replace c29 := eq_false c29
     obtain rfl := zsome H
     go_wp2
     go_ret
     exact ⟨rfl, HS.pick [] (by decide) (by rfl)⟩
    replace H := zpos c29 H
    replace c29 := eq_true c29
    go_wp2
    go_roundg k13
    case measure => have := HKk13.out; omega
    case rel => exact ⟨_, _, rfl, rfl, H, ⟨by have := HKk13.out; omega⟩, HS.pick [] (by decide) (by rfl)⟩
   replace H := zpos c21 H
   replace c21 := eq_true c21
   have hx22 := bt_at a0 x15
   by_cases c23 : (bt a0 x15) ≤ 122
   case pos =>
    replace H := zpos c23 H
    replace c23 := eq_true c23
    go_wp2
    go_roundg k13
    case measure => have := HKk13.out; omega
    case rel => exact ⟨_, _, rfl, rfl, H, ⟨by have := HKk13.out; omega⟩, HS.pick [] (by decide) (by rfl)⟩
   replace H := zneg c23 H
   replace c23 := eq_false c23
   have hx24 := bt_at a0 x15
   by_cases c25 : (bt a0 x15) = 46
   case neg =>
    replace H := zneg c25 H
    have c25a := beq_eq_false_iff_ne.mpr c25
    have c25b := bne_iff_ne.mpr c25
    clear c25
    obtain rfl := zsome H
    go_wp2
    go_ret
    exact ⟨rfl, HS.pick [] (by decide) (by rfl)⟩
   replace H := zpos c25 H
   have c25a := beq_iff_eq.mpr c25
   have c25b := bne_eq_false_iff_eq.mpr c25
   clear c25
   by_cases c26 : 0 < x14
   case neg =>
    replace H := zneg c26 H
    replace c26 := eq_false c26
    obtain rfl := zsome H
    go_wp2
    go_ret
    exact ⟨rfl, HS.pick [] (by decide) (by rfl)⟩
   replace H := zpos c26 H
   replace c26 := eq_true c26
   go_wp2
   go_roundg k13
   case measure => have := HKk13.out; omega
   case rel => exact ⟨_, _, rfl, rfl, H, ⟨by have := HKk13.out; omega⟩, HS.pick [] (by decide) (by rfl)⟩
/-! ### spec_l09Num: function 33 -/
def spec_l09Num.f (a0 : Int) : Option (Bool) := ((spec_l01In.f a0 0 9999).bind fun t1 => (some t1))
set_option maxHeartbeats 16000000 in
theorem spec_l09Num.calls {a0 : Int} {r : Bool} {w : World} (h : spec_l09Num.f a0 = some r) :
    Calls Tryd.prog 33 #[.int .i64 a0] w (fun e w' => e = .returned (.bool r) ∧ Hp noFP w w' []) := by
 have HS := Hp.start w
 have H := Aside0.mk h
 clear h
 unfold spec_l09Num.f at H
 go_enter Tryd.func33, Tryd.ntmps33
 replace H := zbind H; obtain ⟨t1, ht1, H⟩ := H
 obtain rfl := zsome H
 go_wp2_with (first | ((with_reducible refine gate_dst (N := 4) rfl ?_); refine ev_call rfl Tryd.func32 (by kernel_rfl) rfl #[.int .i64 a0, .int .i64 0, .int .i64 9999] rfl (by simp only [mpn]; rfl) ?_; refine (spec_l01In.calls ht1.out).mono ?_; rintro _ wt1 ⟨rfl, HQ⟩; refine ⟨_, rfl, ?_⟩; replace HS := HS.call HQ; clear HQ; (try clear F); (try simp only [hpn, hpm] at HS)))
 go_ret
 exact ⟨rfl, HS.pick [] (by decide) (by rfl)⟩
end Go.Proofs.YtnpokacipeobdaaDoor.F

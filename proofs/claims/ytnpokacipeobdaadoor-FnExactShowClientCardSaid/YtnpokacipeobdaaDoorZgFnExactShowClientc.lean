/- Functions of the program and of the law, and that their calls do what is written here. -/
import Derived.Test.YtnpokacipeobdaaDoorZgFnExactShowClienta
import Derived.Test.YtnpokacipeobdaaDoorZgFnExactShowClientb
namespace Go.Proofs.YtnpokacipeobdaaDoor.F
open Go.RowKit Go.Proofs.YtnpokacipeobdaaDoorW.PrintWords Go.Proofs.YtnpokacipeobdaaDoorW.PrintLast Go.Proofs.YtnpokacipeobdaaDoorW.PrintMore Go.Proofs.YtnpokacipeobdaaDoor.Z
attribute [local go_sem] max2_int min2_int max_two min_two max_three min_three max_four min_four
set_option linter.unusedVariables false
set_option linter.unusedSimpArgs false
set_option maxRecDepth 100000
/-! ### laws_eqAnswerS: function 45 -/
def laws_eqAnswerS.l0 : Nat → Int → (List S80) → (List S80) → Option (Bool)
  | 0, _, _, _ => none
  | k + 1, x5, a0, a1 => (if x5 < (a0.length : Int) then (if 0 ≤ x5 then (if x5 < (a0.length : Int) then (if x5 < (a1.length : Int) then ((laws_eqAnswer.f k (rd_T80 a0 x5) (rd_T80 a1 x5)).bind fun t108001 => (if t108001 = true then (laws_eqAnswerS.l0 k (wrap64 (x5 + 1)) a0 a1) else (some false))) else none) else none) else none) else (some true))
def laws_eqAnswerS.f (k : Nat) (a0 : (List S80)) (a1 : (List S80)) : Option (Bool) := (if (a0.length : Int) = (a1.length : Int) then (laws_eqAnswerS.l0 k 0 a0 a1) else (some false))
def laws_eqAnswerS.T6 : Bool × List (List Nat × List Nat) := (true, [([], []), ([], []), ([0, 1], [0, 1]), ([2], [2]), ([], []), ([], []), ([4, 5], [4, 5]), ([6], [6]), ([3, 7], [3, 7]), ([8], [8])])
theorem laws_eqAnswerS.tT6 : rtab .any (opsOf Tryd.f45 6) = laws_eqAnswerS.T6 := by kernel_rfl
set_option maxHeartbeats 16000000 in
theorem laws_eqAnswerS.calls {k : Nat} {a0 : (List S80)} {a1 : (List S80)} {Ap0 : Option Addr} {np0 cp0 : Nat} {Ap1 : Option Addr} {np1 cp1 : Nat} {r : Bool} {w : World} (h : laws_eqAnswerS.f k a0 a1 = some r) (gp0 : k80.C w Ap0 np0 a0) (lp0 : np0 ≤ cp0) (gp1 : k80.C w Ap1 np1 a1) (lp1 : np1 ≤ cp1) :
    Calls Tryd.prog 45 #[.slice Ap0 np0 cp0, .slice Ap1 np1 cp1] w (fun e w' => e = .returned (.bool r) ∧ Hp noFP w w' []) := by
 obtain rfl := C_len gp0
 obtain rfl := C_len gp1
 have HS := Hp.start w
 have H := Aside0.mk h
 clear h
 unfold laws_eqAnswerS.f at H
 go_enter Tryd.func45, Tryd.ntmps45
 by_cases c1 : (a0.length : Int) = (a1.length : Int)
 case neg =>
  replace H := zneg c1 H
  have c1a := beq_eq_false_iff_ne.mpr c1
  have c1b := bne_iff_ne.mpr c1
  clear c1
  obtain rfl := zsome H
  go_wp2
  go_ret
  exact ⟨rfl, HS.pick [] (by decide) (by rfl)⟩
 replace H := zpos c1 H
 have c1a := beq_iff_eq.mpr c1
 have c1b := bne_eq_false_iff_eq.mpr c1
 clear c1
 go_wp2
 go_loopg [5] k (fun kq v_5 w' => ∃ (x5 : Int), v_5 = .int .i64 x5 ∧ Aside0 (laws_eqAnswerS.l0 kq x5 a0 a1 = some r) ∧ Aside0 (kq ≤ k) ∧ Hp noFP w w' [])
 case atStart => exact ⟨_, rfl, H, ⟨Nat.le_refl _⟩, HS⟩
 case round =>
  clear HS H; (try clear F)
  obtain ⟨x5, rfl, H, HKk4, HS⟩ := hrel
  cases gk with
  | zero => exact absurd H.out (by simp [laws_eqAnswerS.l0])
  | succ k4 =>
   simp only [laws_eqAnswerS.l0] at H
   by_cases c7 : x5 < (a0.length : Int)
   case neg =>
    replace H := zneg c7 H
    replace c7 := eq_false c7
    obtain rfl := zsome H
    go_wp2
    go_ret
    exact ⟨rfl, HS.pick [] (by decide) (by rfl)⟩
   replace H := zpos c7 H
   replace c7 := eq_true c7
   (try go_wp2)
   by_cases c102001 : 0 ≤ x5
   case neg => exact zno c102001 H
   replace H := zpos c102001 H
   replace c102001 := eq_true c102001
   by_cases c102002 : x5 < (a0.length : Int)
   case neg => exact zno c102002 H
   replace H := zpos c102002 H
   replace c102002 := eq_true c102002
   obtain ⟨ad102999, B102999_2, d102999_2, B102999_3, d102999_3, rfl, e102999_0, e102999_1, e102999_2, e102999_3, m102999_2, y102999_2, m102999_3, y102999_3⟩ := at_T80 gp0 x5 (of_eq_true c102001) (of_eq_true c102002)
   by_cases c106001 : x5 < (a1.length : Int)
   case neg => exact zno c106001 H
   replace H := zpos c106001 H
   replace c106001 := eq_true c106001
   obtain ⟨ad106999, B106999_2, d106999_2, B106999_3, d106999_3, rfl, e106999_0, e106999_1, e106999_2, e106999_3, m106999_2, y106999_2, m106999_3, y106999_3⟩ := at_T80 gp1 x5 (of_eq_true c102001) (of_eq_true c106001)
   replace H := zbind H; obtain ⟨t108001, ht108001, H⟩ := H
   refine dr_start [] HS #[false, false, false, false, false, false, false, false, false, false] (by kernel_rfl) rfl rfl laws_eqAnswerS.tT6 (fun w9 HT HS HH => ?_)
   (try clear F)
   refine drq_of [(0, some 17), (1, some 18), (2, some 19)] ?_
   repeat (first | (refine drq_pure HT (v := ?_) (a' := ?_) rfl rfl (by kernel_rfl) (fun _ _ _ h => h) (.inl ⟨by rfl, ?_⟩) ?_ ?_; rotate_left; (intro w'; go_simp; with_reducible rfl); rotate_left; (simp only [Act.put, ptn]; rfl)))
   refine drq_end ?_
   refine dr_take 3 (some 20) HT HH (v := ?_) (a' := ?_) rfl rfl (by kernel_rfl) (fun _ _ _ h => h) (.inl ⟨by rfl, ?_⟩) ?_ ?_
   rotate_left
   · rintro w' ⟨rs', HS'⟩; have e102999_0 := (HS'.keepc e102999_0); have e102999_1 := (HS'.keepc e102999_1); have e102999_2 := (HS'.keepc e102999_2); have e102999_3 := (HS'.keepc e102999_3); go_simp; with_reducible rfl
   rotate_left
   · simp only [Act.put, ptn]; rfl
   refine drq_of [(4, some 21), (5, some 22), (6, some 23)] ?_
   repeat (first | (refine drq_pure HT (v := ?_) (a' := ?_) rfl rfl (by kernel_rfl) (fun _ _ _ h => h) (.inl ⟨by rfl, ?_⟩) ?_ ?_; rotate_left; (intro w'; go_simp; with_reducible rfl); rotate_left; (simp only [Act.put, ptn]; rfl)))
   refine drq_end ?_
   refine dr_take 7 (some 24) HT HH (v := ?_) (a' := ?_) rfl rfl (by kernel_rfl) (fun _ _ _ h => h) (.inl ⟨by rfl, ?_⟩) ?_ ?_
   rotate_left
   · rintro w' ⟨rs', HS'⟩; have e106999_0 := (HS'.keepc e106999_0); have e106999_1 := (HS'.keepc e106999_1); have e106999_2 := (HS'.keepc e106999_2); have e106999_3 := (HS'.keepc e106999_3); go_simp; with_reducible rfl
   rotate_left
   · simp only [Act.put, ptn]; rfl
   refine dr_one 8 HT rfl (by kernel_rfl) (by decide) (fun K hK => ?_)
   refine goes_ Tryd.func77 (by kernel_rfl) rfl #[.agg #[.int .i64 ((rd_T80 a0 x5).f0), .int .i64 ((rd_T80 a0 x5).f1), .slice B102999_2 (rd_T80 a0 x5).f2.length d102999_2, .slice B102999_3 (rd_T80 a0 x5).f3.length d102999_3], .agg #[.int .i64 ((rd_T80 a1 x5).f0), .int .i64 ((rd_T80 a1 x5).f1), .slice B106999_2 (rd_T80 a1 x5).f2.length d106999_2, .slice B106999_3 (rd_T80 a1 x5).f3.length d106999_3]] (by rfl) rfl rfl (by simp only [mpn]; rfl) ?_; refine (laws_eqAnswer.calls ht108001.out (HS.ro y102999_2) m102999_2 (HS.ro y102999_3) m102999_3 (HS.ro y106999_2) m106999_2 (HS.ro y106999_3) m106999_3).mono ?_; rintro _ wt108001 ⟨rfl, HQ⟩; refine ⟨_, rfl, ?_⟩; replace HS := HS.call HQ; clear HQ; (try clear F)
   (try simp only [hpn, hpm] at HS)
   refine hK.out _ _ ⟨_, HS⟩ (fun HH => ?_)
   clear hK K
   refine norm_ (a' := ?_) ?_ ?_
   rotate_left
   · show Act.put _ (some 25) _ = _; simp only [Act.put, ptn]; rfl
   refine drq_of [(9, some 26)] ?_
   repeat (first | (refine drq_pure HT (v := ?_) (a' := ?_) rfl rfl (by kernel_rfl) (fun _ _ _ h => h) (.inl ⟨by rfl, ?_⟩) ?_ ?_; rotate_left; (intro w'; go_simp; with_reducible rfl); rotate_left; (simp only [Act.put, ptn]; rfl)))
   refine drq_end ?_
   refine done_ (done_of HT.out (by kernel_rfl)) ?_
   by_cases c11 : t108001 = true
   case neg =>
    replace H := zneg c11 H
    replace c11 := eq_false_of_ne_true c11
    subst c11
    (try simp only [dcn, if_true, Bool.false_eq_true, if_false])
    obtain rfl := zsome H
    go_wp2
    go_ret
    exact ⟨rfl, HS.pick [] (by decide) (by rfl)⟩
   replace H := zpos c11 H
   subst c11
   (try simp only [dcn, if_true, Bool.false_eq_true, if_false])
   go_wp2
   go_roundg k4
   case measure => have := HKk4.out; omega
   case rel => exact ⟨_, rfl, H, ⟨by have := HKk4.out; omega⟩, HS.pick [] (by decide) (by rfl)⟩
/-! ### laws_eqReply: function 17 -/
def laws_eqReply.f (k : Nat) (a0 : S40) (a1 : S40) : Option (Bool) := (if a0.f0.toList = a1.f0.toList then (if a0.f1 = a1.f1 then (if a0.f2 = a1.f2 then (if a0.f3 = a1.f3 then (if a0.f4 = a1.f4 then (if a0.f5 = a1.f5 then ((laws_eqAnswerS.f k a0.f6 a1.f6).bind fun t11 => (if t11 = true then (if a0.f7.toList = a1.f7.toList then (some true) else (some false)) else (some false))) else (some false)) else (some false)) else (some false)) else (some false)) else (some false)) else (some false))
set_option maxHeartbeats 16000000 in
theorem laws_eqReply.calls {k : Nat} {a0 : S40} {a1 : S40} {Ap0 : Option Addr} {np0 cp0 : Nat} {Ap1 : Option Addr} {np1 cp1 : Nat} {r : Bool} {w : World} (h : laws_eqReply.f k a0 a1 = some r) (gp0 : k80.C w Ap0 np0 a0.f6) (lp0 : np0 ≤ cp0) (gp1 : k80.C w Ap1 np1 a1.f6) (lp1 : np1 ≤ cp1) :
    Calls Tryd.prog 17 #[.agg #[.string a0.f0, .int .i64 a0.f1, .int .i64 a0.f2, .int .i64 a0.f3, .int .i64 a0.f4, .int .i64 a0.f5, .slice Ap0 np0 cp0, .string a0.f7], .agg #[.string a1.f0, .int .i64 a1.f1, .int .i64 a1.f2, .int .i64 a1.f3, .int .i64 a1.f4, .int .i64 a1.f5, .slice Ap1 np1 cp1, .string a1.f7]] w (fun e w' => e = .returned (.bool r) ∧ Hp noFP w w' []) := by
 obtain rfl := C_len gp0
 obtain rfl := C_len gp1
 have HS := Hp.start w
 have H := Aside0.mk h
 clear h
 unfold laws_eqReply.f at H
 go_enter Tryd.func17, Tryd.ntmps17
 go_upto_if 9 with (first | ((with_reducible refine gate_dst (N := 2) rfl ?_); refine ev_box rfl HS (by first | (go_simp; done) | (go_simp; rfl)) rfl ?_; clear HS; (try clear F); intro g2 w2 HS; (try simp only [hpn, hpm] at HS); have F := HS.boxes; simp only [bxn] at F) | ((with_reducible refine gate_dst (N := 3) rfl ?_); refine ev_box rfl HS (by first | (go_simp; done) | (go_simp; rfl)) rfl ?_; clear HS; (try clear F); intro g3 w3 HS; (try simp only [hpn, hpm] at HS); have F := HS.boxes; simp only [bxn] at F))
 by_cases c5 : a0.f0.toList = a1.f0.toList
 case neg =>
  replace H := zneg c5 H
  have c5a := beq_eq_false_iff_ne.mpr c5
  have c5b := bne_iff_ne.mpr c5
  clear c5
  (try simp only [c5a, c5b, dcn])
  obtain rfl := zsome H
  go_wp2
  go_ret
  exact ⟨rfl, HS.pick [] (by decide) (by rfl)⟩
 replace H := zpos c5 H
 have c5a := beq_iff_eq.mpr c5
 have c5b := bne_eq_false_iff_eq.mpr c5
 clear c5
 (try simp only [c5a, c5b, dcn])
 by_cases c6 : a0.f1 = a1.f1
 case neg =>
  replace H := zneg c6 H
  have c6a := beq_eq_false_iff_ne.mpr c6
  have c6b := bne_iff_ne.mpr c6
  clear c6
  obtain rfl := zsome H
  go_wp2
  go_ret
  exact ⟨rfl, HS.pick [] (by decide) (by rfl)⟩
 replace H := zpos c6 H
 have c6a := beq_iff_eq.mpr c6
 have c6b := bne_eq_false_iff_eq.mpr c6
 clear c6
 by_cases c7 : a0.f2 = a1.f2
 case neg =>
  replace H := zneg c7 H
  have c7a := beq_eq_false_iff_ne.mpr c7
  have c7b := bne_iff_ne.mpr c7
  clear c7
  obtain rfl := zsome H
  go_wp2
  go_ret
  exact ⟨rfl, HS.pick [] (by decide) (by rfl)⟩
 replace H := zpos c7 H
 have c7a := beq_iff_eq.mpr c7
 have c7b := bne_eq_false_iff_eq.mpr c7
 clear c7
 by_cases c8 : a0.f3 = a1.f3
 case neg =>
  replace H := zneg c8 H
  have c8a := beq_eq_false_iff_ne.mpr c8
  have c8b := bne_iff_ne.mpr c8
  clear c8
  obtain rfl := zsome H
  go_wp2
  go_ret
  exact ⟨rfl, HS.pick [] (by decide) (by rfl)⟩
 replace H := zpos c8 H
 have c8a := beq_iff_eq.mpr c8
 have c8b := bne_eq_false_iff_eq.mpr c8
 clear c8
 by_cases c9 : a0.f4 = a1.f4
 case neg =>
  replace H := zneg c9 H
  have c9a := beq_eq_false_iff_ne.mpr c9
  have c9b := bne_iff_ne.mpr c9
  clear c9
  obtain rfl := zsome H
  go_wp2
  go_ret
  exact ⟨rfl, HS.pick [] (by decide) (by rfl)⟩
 replace H := zpos c9 H
 have c9a := beq_iff_eq.mpr c9
 have c9b := bne_eq_false_iff_eq.mpr c9
 clear c9
 by_cases c10 : a0.f5 = a1.f5
 case neg =>
  replace H := zneg c10 H
  have c10a := beq_eq_false_iff_ne.mpr c10
  have c10b := bne_iff_ne.mpr c10
  clear c10
  obtain rfl := zsome H
  go_wp2
  go_ret
  exact ⟨rfl, HS.pick [] (by decide) (by rfl)⟩
 replace H := zpos c10 H
 have c10a := beq_iff_eq.mpr c10
 have c10b := bne_eq_false_iff_eq.mpr c10
 clear c10
 replace H := zbind H; obtain ⟨t11, ht11, H⟩ := H
 go_upto_if 40 with (first | ((with_reducible refine gate_dst (N := 39) rfl ?_); refine ev_call rfl Tryd.func45 (by kernel_rfl) rfl #[.slice Ap0 a0.f6.length cp0, .slice Ap1 a1.f6.length cp1] rfl (by simp only [mpn]; rfl) ?_; refine (laws_eqAnswerS.calls ht11.out (HS.ro gp0) lp0 (HS.ro gp1) lp1).mono ?_; rintro _ wt11 ⟨rfl, HQ⟩; refine ⟨_, rfl, ?_⟩; replace HS := HS.call HQ; clear HQ; (try clear F); (try simp only [hpn, hpm] at HS); have F := HS.boxes; simp only [bxn] at F))
 by_cases c13 : t11 = true
 case neg =>
  replace H := zneg c13 H
  replace c13 := eq_false_of_ne_true c13
  subst c13
  (try simp only [dcn, if_true, Bool.false_eq_true, if_false])
  obtain rfl := zsome H
  go_wp2
  go_ret
  exact ⟨rfl, HS.pick [] (by decide) (by rfl)⟩
 replace H := zpos c13 H
 subst c13
 (try simp only [dcn, if_true, Bool.false_eq_true, if_false])
 by_cases c14 : a0.f7.toList = a1.f7.toList
 case neg =>
  replace H := zneg c14 H
  have c14a := beq_eq_false_iff_ne.mpr c14
  have c14b := bne_iff_ne.mpr c14
  clear c14
  obtain rfl := zsome H
  go_wp2
  go_ret
  exact ⟨rfl, HS.pick [] (by decide) (by rfl)⟩
 replace H := zpos c14 H
 have c14a := beq_iff_eq.mpr c14
 have c14b := bne_eq_false_iff_eq.mpr c14
 clear c14
 obtain rfl := zsome H
 go_wp2
 go_ret
 exact ⟨rfl, HS.pick [] (by decide) (by rfl)⟩
/-! ### laws_eqGot: function 95 -/
def laws_eqGot.f (k : Nat) (a0 : S101) (a1 : S101) : Option (Bool) := (if a0.f0 = a1.f0 then ((laws_eqReply.f k a0.f1 a1.f1).bind fun t6 => (if t6 = true then (some true) else (some false))) else (some false))
set_option maxHeartbeats 16000000 in
theorem laws_eqGot.calls {k : Nat} {a0 : S101} {a1 : S101} {Ap0 : Option Addr} {np0 cp0 : Nat} {Ap1 : Option Addr} {np1 cp1 : Nat} {r : Bool} {w : World} (h : laws_eqGot.f k a0 a1 = some r) (gp0 : k80.C w Ap0 np0 a0.f1.f6) (lp0 : np0 ≤ cp0) (gp1 : k80.C w Ap1 np1 a1.f1.f6) (lp1 : np1 ≤ cp1) :
    Calls Tryd.prog 95 #[.agg #[.int .i64 a0.f0, .string a0.f1.f0, .int .i64 a0.f1.f1, .int .i64 a0.f1.f2, .int .i64 a0.f1.f3, .int .i64 a0.f1.f4, .int .i64 a0.f1.f5, .slice Ap0 np0 cp0, .string a0.f1.f7], .agg #[.int .i64 a1.f0, .string a1.f1.f0, .int .i64 a1.f1.f1, .int .i64 a1.f1.f2, .int .i64 a1.f1.f3, .int .i64 a1.f1.f4, .int .i64 a1.f1.f5, .slice Ap1 np1 cp1, .string a1.f1.f7]] w (fun e w' => e = .returned (.bool r) ∧ Hp noFP w w' []) := by
 obtain rfl := C_len gp0
 obtain rfl := C_len gp1
 have HS := Hp.start w
 have H := Aside0.mk h
 clear h
 unfold laws_eqGot.f at H
 go_enter Tryd.func95, Tryd.ntmps95
 go_upto_if 9 with (first | ((with_reducible refine gate_dst (N := 2) rfl ?_); refine ev_box rfl HS (by first | (go_simp; done) | (go_simp; rfl)) rfl ?_; clear HS; (try clear F); intro g2 w2 HS; (try simp only [hpn, hpm] at HS); have F := HS.boxes; simp only [bxn] at F) | ((with_reducible refine gate_dst (N := 3) rfl ?_); refine ev_box rfl HS (by first | (go_simp; done) | (go_simp; rfl)) rfl ?_; clear HS; (try clear F); intro g3 w3 HS; (try simp only [hpn, hpm] at HS); have F := HS.boxes; simp only [bxn] at F))
 by_cases c5 : a0.f0 = a1.f0
 case neg =>
  replace H := zneg c5 H
  have c5a := beq_eq_false_iff_ne.mpr c5
  have c5b := bne_iff_ne.mpr c5
  clear c5
  (try simp only [c5a, c5b, dcn])
  obtain rfl := zsome H
  go_wp2
  go_ret
  exact ⟨rfl, HS.pick [] (by decide) (by rfl)⟩
 replace H := zpos c5 H
 have c5a := beq_iff_eq.mpr c5
 have c5b := bne_eq_false_iff_eq.mpr c5
 clear c5
 (try simp only [c5a, c5b, dcn])
 replace H := zbind H; obtain ⟨t6, ht6, H⟩ := H
 go_upto_if 15 with (first | ((with_reducible refine gate_dst (N := 14) rfl ?_); refine ev_call rfl Tryd.func17 (by kernel_rfl) rfl #[.agg #[.string a0.f1.f0, .int .i64 a0.f1.f1, .int .i64 a0.f1.f2, .int .i64 a0.f1.f3, .int .i64 a0.f1.f4, .int .i64 a0.f1.f5, .slice Ap0 a0.f1.f6.length cp0, .string a0.f1.f7], .agg #[.string a1.f1.f0, .int .i64 a1.f1.f1, .int .i64 a1.f1.f2, .int .i64 a1.f1.f3, .int .i64 a1.f1.f4, .int .i64 a1.f1.f5, .slice Ap1 a1.f1.f6.length cp1, .string a1.f1.f7]] rfl (by simp only [mpn]; rfl) ?_; refine (laws_eqReply.calls ht6.out (HS.ro gp0) lp0 (HS.ro gp1) lp1).mono ?_; rintro _ wt6 ⟨rfl, HQ⟩; refine ⟨_, rfl, ?_⟩; replace HS := HS.call HQ; clear HQ; (try clear F); (try simp only [hpn, hpm] at HS); have F := HS.boxes; simp only [bxn] at F))
 by_cases c8 : t6 = true
 case pos =>
  replace H := zpos c8 H
  subst c8
  (try simp only [dcn, if_true, Bool.false_eq_true, if_false])
  obtain rfl := zsome H
  go_wp2
  go_ret
  exact ⟨rfl, HS.pick [] (by decide) (by rfl)⟩
 replace H := zneg c8 H
 replace c8 := eq_false_of_ne_true c8
 subst c8
 (try simp only [dcn, if_true, Bool.false_eq_true, if_false])
 obtain rfl := zsome H
 go_wp2
 go_ret
 exact ⟨rfl, HS.pick [] (by decide) (by rfl)⟩
/-! ### laws_eqGotS: function 68 -/
def laws_eqGotS.l0 : Nat → Int → (List S101) → (List S101) → Option (Bool)
  | 0, _, _, _ => none
  | k + 1, x5, a0, a1 => (if x5 < (a0.length : Int) then (if 0 ≤ x5 then (if x5 < (a0.length : Int) then (if x5 < (a1.length : Int) then ((laws_eqGot.f k (rd_T101 a0 x5) (rd_T101 a1 x5)).bind fun t108001 => (if t108001 = true then (laws_eqGotS.l0 k (wrap64 (x5 + 1)) a0 a1) else (some false))) else none) else none) else none) else (some true))
def laws_eqGotS.f (k : Nat) (a0 : (List S101)) (a1 : (List S101)) : Option (Bool) := (if (a0.length : Int) = (a1.length : Int) then (laws_eqGotS.l0 k 0 a0 a1) else (some false))
def laws_eqGotS.T6 : Bool × List (List Nat × List Nat) := (true, [([], []), ([], []), ([0, 1], [0, 1]), ([2], [2]), ([], []), ([], []), ([4, 5], [4, 5]), ([6], [6]), ([3, 7], [3, 7]), ([8], [8])])
theorem laws_eqGotS.tT6 : rtab .any (opsOf Tryd.f68 6) = laws_eqGotS.T6 := by kernel_rfl
set_option maxHeartbeats 16000000 in
theorem laws_eqGotS.calls {k : Nat} {a0 : (List S101)} {a1 : (List S101)} {Ap0 : Option Addr} {np0 cp0 : Nat} {Ap1 : Option Addr} {np1 cp1 : Nat} {r : Bool} {w : World} (h : laws_eqGotS.f k a0 a1 = some r) (gp0 : k101.C w Ap0 np0 a0) (lp0 : np0 ≤ cp0) (gp1 : k101.C w Ap1 np1 a1) (lp1 : np1 ≤ cp1) :
    Calls Tryd.prog 68 #[.slice Ap0 np0 cp0, .slice Ap1 np1 cp1] w (fun e w' => e = .returned (.bool r) ∧ Hp noFP w w' []) := by
 obtain rfl := C_len gp0
 obtain rfl := C_len gp1
 have HS := Hp.start w
 have H := Aside0.mk h
 clear h
 unfold laws_eqGotS.f at H
 go_enter Tryd.func68, Tryd.ntmps68
 by_cases c1 : (a0.length : Int) = (a1.length : Int)
 case neg =>
  replace H := zneg c1 H
  have c1a := beq_eq_false_iff_ne.mpr c1
  have c1b := bne_iff_ne.mpr c1
  clear c1
  obtain rfl := zsome H
  go_wp2
  go_ret
  exact ⟨rfl, HS.pick [] (by decide) (by rfl)⟩
 replace H := zpos c1 H
 have c1a := beq_iff_eq.mpr c1
 have c1b := bne_eq_false_iff_eq.mpr c1
 clear c1
 go_wp2
 go_loopg [5] k (fun kq v_5 w' => ∃ (x5 : Int), v_5 = .int .i64 x5 ∧ Aside0 (laws_eqGotS.l0 kq x5 a0 a1 = some r) ∧ Aside0 (kq ≤ k) ∧ Hp noFP w w' [])
 case atStart => exact ⟨_, rfl, H, ⟨Nat.le_refl _⟩, HS⟩
 case round =>
  clear HS H; (try clear F)
  obtain ⟨x5, rfl, H, HKk4, HS⟩ := hrel
  cases gk with
  | zero => exact absurd H.out (by simp [laws_eqGotS.l0])
  | succ k4 =>
   simp only [laws_eqGotS.l0] at H
   by_cases c7 : x5 < (a0.length : Int)
   case neg =>
    replace H := zneg c7 H
    replace c7 := eq_false c7
    obtain rfl := zsome H
    go_wp2
    go_ret
    exact ⟨rfl, HS.pick [] (by decide) (by rfl)⟩
   replace H := zpos c7 H
   replace c7 := eq_true c7
   (try go_wp2)
   by_cases c102001 : 0 ≤ x5
   case neg => exact zno c102001 H
   replace H := zpos c102001 H
   replace c102001 := eq_true c102001
   by_cases c102002 : x5 < (a0.length : Int)
   case neg => exact zno c102002 H
   replace H := zpos c102002 H
   replace c102002 := eq_true c102002
   obtain ⟨ad102999, B102999_7, d102999_7, rfl, e102999_0, e102999_1, e102999_2, e102999_3, e102999_4, e102999_5, e102999_6, e102999_7, e102999_8, m102999_7, y102999_7⟩ := at_T101 gp0 x5 (of_eq_true c102001) (of_eq_true c102002)
   by_cases c106001 : x5 < (a1.length : Int)
   case neg => exact zno c106001 H
   replace H := zpos c106001 H
   replace c106001 := eq_true c106001
   obtain ⟨ad106999, B106999_7, d106999_7, rfl, e106999_0, e106999_1, e106999_2, e106999_3, e106999_4, e106999_5, e106999_6, e106999_7, e106999_8, m106999_7, y106999_7⟩ := at_T101 gp1 x5 (of_eq_true c102001) (of_eq_true c106001)
   replace H := zbind H; obtain ⟨t108001, ht108001, H⟩ := H
   refine dr_start [] HS #[false, false, false, false, false, false, false, false, false, false] (by kernel_rfl) rfl rfl laws_eqGotS.tT6 (fun w9 HT HS HH => ?_)
   (try clear F)
   refine drq_of [(0, some 17), (1, some 18), (2, some 19)] ?_
   repeat (first | (refine drq_pure HT (v := ?_) (a' := ?_) rfl rfl (by kernel_rfl) (fun _ _ _ h => h) (.inl ⟨by rfl, ?_⟩) ?_ ?_; rotate_left; (intro w'; go_simp; with_reducible rfl); rotate_left; (simp only [Act.put, ptn]; rfl)))
   refine drq_end ?_
   refine dr_take 3 (some 20) HT HH (v := ?_) (a' := ?_) rfl rfl (by kernel_rfl) (fun _ _ _ h => h) (.inl ⟨by rfl, ?_⟩) ?_ ?_
   rotate_left
   · rintro w' ⟨rs', HS'⟩; have e102999_0 := (HS'.keepc e102999_0); have e102999_1 := (HS'.keepc e102999_1); have e102999_2 := (HS'.keepc e102999_2); have e102999_3 := (HS'.keepc e102999_3); have e102999_4 := (HS'.keepc e102999_4); have e102999_5 := (HS'.keepc e102999_5); have e102999_6 := (HS'.keepc e102999_6); have e102999_7 := (HS'.keepc e102999_7); have e102999_8 := (HS'.keepc e102999_8); go_simp; with_reducible rfl
   rotate_left
   · simp only [Act.put, ptn]; rfl
   refine drq_of [(4, some 21), (5, some 22), (6, some 23)] ?_
   repeat (first | (refine drq_pure HT (v := ?_) (a' := ?_) rfl rfl (by kernel_rfl) (fun _ _ _ h => h) (.inl ⟨by rfl, ?_⟩) ?_ ?_; rotate_left; (intro w'; go_simp; with_reducible rfl); rotate_left; (simp only [Act.put, ptn]; rfl)))
   refine drq_end ?_
   refine dr_take 7 (some 24) HT HH (v := ?_) (a' := ?_) rfl rfl (by kernel_rfl) (fun _ _ _ h => h) (.inl ⟨by rfl, ?_⟩) ?_ ?_
   rotate_left
   · rintro w' ⟨rs', HS'⟩; have e106999_0 := (HS'.keepc e106999_0); have e106999_1 := (HS'.keepc e106999_1); have e106999_2 := (HS'.keepc e106999_2); have e106999_3 := (HS'.keepc e106999_3); have e106999_4 := (HS'.keepc e106999_4); have e106999_5 := (HS'.keepc e106999_5); have e106999_6 := (HS'.keepc e106999_6); have e106999_7 := (HS'.keepc e106999_7); have e106999_8 := (HS'.keepc e106999_8); go_simp; with_reducible rfl
   rotate_left
   · simp only [Act.put, ptn]; rfl
   refine dr_one 8 HT rfl (by kernel_rfl) (by decide) (fun K hK => ?_)
   refine goes_ Tryd.func95 (by kernel_rfl) rfl #[.agg #[.int .i64 ((rd_T101 a0 x5).f0), .string ((rd_T101 a0 x5).f1.f0), .int .i64 ((rd_T101 a0 x5).f1.f1), .int .i64 ((rd_T101 a0 x5).f1.f2), .int .i64 ((rd_T101 a0 x5).f1.f3), .int .i64 ((rd_T101 a0 x5).f1.f4), .int .i64 ((rd_T101 a0 x5).f1.f5), .slice B102999_7 (rd_T101 a0 x5).f1.f6.length d102999_7, .string ((rd_T101 a0 x5).f1.f7)], .agg #[.int .i64 ((rd_T101 a1 x5).f0), .string ((rd_T101 a1 x5).f1.f0), .int .i64 ((rd_T101 a1 x5).f1.f1), .int .i64 ((rd_T101 a1 x5).f1.f2), .int .i64 ((rd_T101 a1 x5).f1.f3), .int .i64 ((rd_T101 a1 x5).f1.f4), .int .i64 ((rd_T101 a1 x5).f1.f5), .slice B106999_7 (rd_T101 a1 x5).f1.f6.length d106999_7, .string ((rd_T101 a1 x5).f1.f7)]] (by rfl) rfl rfl (by simp only [mpn]; rfl) ?_; refine (laws_eqGot.calls ht108001.out (HS.ro y102999_7) m102999_7 (HS.ro y106999_7) m106999_7).mono ?_; rintro _ wt108001 ⟨rfl, HQ⟩; refine ⟨_, rfl, ?_⟩; replace HS := HS.call HQ; clear HQ; (try clear F)
   (try simp only [hpn, hpm] at HS)
   refine hK.out _ _ ⟨_, HS⟩ (fun HH => ?_)
   clear hK K
   refine norm_ (a' := ?_) ?_ ?_
   rotate_left
   · show Act.put _ (some 25) _ = _; simp only [Act.put, ptn]; rfl
   refine drq_of [(9, some 26)] ?_
   repeat (first | (refine drq_pure HT (v := ?_) (a' := ?_) rfl rfl (by kernel_rfl) (fun _ _ _ h => h) (.inl ⟨by rfl, ?_⟩) ?_ ?_; rotate_left; (intro w'; go_simp; with_reducible rfl); rotate_left; (simp only [Act.put, ptn]; rfl)))
   refine drq_end ?_
   refine done_ (done_of HT.out (by kernel_rfl)) ?_
   by_cases c11 : t108001 = true
   case neg =>
    replace H := zneg c11 H
    replace c11 := eq_false_of_ne_true c11
    subst c11
    (try simp only [dcn, if_true, Bool.false_eq_true, if_false])
    obtain rfl := zsome H
    go_wp2
    go_ret
    exact ⟨rfl, HS.pick [] (by decide) (by rfl)⟩
   replace H := zpos c11 H
   subst c11
   (try simp only [dcn, if_true, Bool.false_eq_true, if_false])
   go_wp2
   go_roundg k4
   case measure => have := HKk4.out; omega
   case rel => exact ⟨_, rfl, H, ⟨by have := HKk4.out; omega⟩, HS.pick [] (by decide) (by rfl)⟩
/-! ### laws_eqClient: function 29 -/
def laws_eqClient.f (k : Nat) (a0 : S65) (a1 : S65) : Option (Bool) := (if a0.f0.toList = a1.f0.toList then (if a0.f1 = a1.f1 then ((laws_eqWaitS.f k a0.f2 a1.f2).bind fun t7 => (if t7 = true then ((laws_eqGotS.f k a0.f3 a1.f3).bind fun t10 => (if t10 = true then ((laws_eqIntS.f k a0.f4 a1.f4).bind fun t13 => (if t13 = true then (some true) else (some false))) else (some false))) else (some false))) else (some false)) else (some false))
set_option maxHeartbeats 16000000 in
theorem laws_eqClient.calls {k : Nat} {a0 : S65} {a1 : S65} {Ap0 : Option Addr} {np0 cp0 : Nat} {Ap1 : Option Addr} {np1 cp1 : Nat} {Ap2 : Option Addr} {np2 cp2 : Nat} {Ap3 : Option Addr} {np3 cp3 : Nat} {Ap4 : Option Addr} {np4 cp4 : Nat} {Ap5 : Option Addr} {np5 cp5 : Nat} {r : Bool} {w : World} (h : laws_eqClient.f k a0 a1 = some r) (gp0 : k130.C w Ap0 np0 a0.f2) (lp0 : np0 ≤ cp0) (gp1 : k101.C w Ap1 np1 a0.f3) (lp1 : np1 ≤ cp1) (gp2 : (Kd.int .i64).C w Ap2 np2 a0.f4) (lp2 : np2 ≤ cp2) (gp3 : k130.C w Ap3 np3 a1.f2) (lp3 : np3 ≤ cp3) (gp4 : k101.C w Ap4 np4 a1.f3) (lp4 : np4 ≤ cp4) (gp5 : (Kd.int .i64).C w Ap5 np5 a1.f4) (lp5 : np5 ≤ cp5) :
    Calls Tryd.prog 29 #[.agg #[.string a0.f0, .int .i64 a0.f1, .slice Ap0 np0 cp0, .slice Ap1 np1 cp1, .slice Ap2 np2 cp2], .agg #[.string a1.f0, .int .i64 a1.f1, .slice Ap3 np3 cp3, .slice Ap4 np4 cp4, .slice Ap5 np5 cp5]] w (fun e w' => e = .returned (.bool r) ∧ Hp noFP w w' []) := by
 obtain rfl := C_len gp0
 obtain rfl := C_len gp1
 obtain rfl := C_len gp2
 obtain rfl := C_len gp3
 obtain rfl := C_len gp4
 obtain rfl := C_len gp5
 have HS := Hp.start w
 have H := Aside0.mk h
 clear h
 unfold laws_eqClient.f at H
 go_enter Tryd.func29, Tryd.ntmps29
 go_upto_if 9 with (first | ((with_reducible refine gate_dst (N := 2) rfl ?_); refine ev_box rfl HS (by first | (go_simp; done) | (go_simp; rfl)) rfl ?_; clear HS; (try clear F); intro g2 w2 HS; (try simp only [hpn, hpm] at HS); have F := HS.boxes; simp only [bxn] at F) | ((with_reducible refine gate_dst (N := 3) rfl ?_); refine ev_box rfl HS (by first | (go_simp; done) | (go_simp; rfl)) rfl ?_; clear HS; (try clear F); intro g3 w3 HS; (try simp only [hpn, hpm] at HS); have F := HS.boxes; simp only [bxn] at F))
 by_cases c5 : a0.f0.toList = a1.f0.toList
 case neg =>
  replace H := zneg c5 H
  have c5a := beq_eq_false_iff_ne.mpr c5
  have c5b := bne_iff_ne.mpr c5
  clear c5
  (try simp only [c5a, c5b, dcn])
  obtain rfl := zsome H
  go_wp2
  go_ret
  exact ⟨rfl, HS.pick [] (by decide) (by rfl)⟩
 replace H := zpos c5 H
 have c5a := beq_iff_eq.mpr c5
 have c5b := bne_eq_false_iff_eq.mpr c5
 clear c5
 (try simp only [c5a, c5b, dcn])
 by_cases c6 : a0.f1 = a1.f1
 case neg =>
  replace H := zneg c6 H
  have c6a := beq_eq_false_iff_ne.mpr c6
  have c6b := bne_iff_ne.mpr c6
  clear c6
  obtain rfl := zsome H
  go_wp2
  go_ret
  exact ⟨rfl, HS.pick [] (by decide) (by rfl)⟩
 replace H := zpos c6 H
 have c6a := beq_iff_eq.mpr c6
 have c6b := bne_eq_false_iff_eq.mpr c6
 clear c6
 replace H := zbind H; obtain ⟨t7, ht7, H⟩ := H
 go_upto_if 20 with (first | ((with_reducible refine gate_dst (N := 19) rfl ?_); refine ev_call rfl Tryd.func67 (by kernel_rfl) rfl #[.slice Ap0 a0.f2.length cp0, .slice Ap3 a1.f2.length cp3] rfl (by simp only [mpn]; rfl) ?_; refine (laws_eqWaitS.calls ht7.out (HS.ro gp0) lp0 (HS.ro gp3) lp3).mono ?_; rintro _ wt7 ⟨rfl, HQ⟩; refine ⟨_, rfl, ?_⟩; replace HS := HS.call HQ; clear HQ; (try clear F); (try simp only [hpn, hpm] at HS); have F := HS.boxes; simp only [bxn] at F))
 by_cases c9 : t7 = true
 case neg =>
  replace H := zneg c9 H
  replace c9 := eq_false_of_ne_true c9
  subst c9
  (try simp only [dcn, if_true, Bool.false_eq_true, if_false])
  obtain rfl := zsome H
  go_wp2
  go_ret
  exact ⟨rfl, HS.pick [] (by decide) (by rfl)⟩
 replace H := zpos c9 H
 subst c9
 (try simp only [dcn, if_true, Bool.false_eq_true, if_false])
 replace H := zbind H; obtain ⟨t10, ht10, H⟩ := H
 go_upto_if 26 with (first | ((with_reducible refine gate_dst (N := 25) rfl ?_); refine ev_call rfl Tryd.func68 (by kernel_rfl) rfl #[.slice Ap1 a0.f3.length cp1, .slice Ap4 a1.f3.length cp4] rfl (by simp only [mpn]; rfl) ?_; refine (laws_eqGotS.calls ht10.out (HS.ro gp1) lp1 (HS.ro gp4) lp4).mono ?_; rintro _ wt10 ⟨rfl, HQ⟩; refine ⟨_, rfl, ?_⟩; replace HS := HS.call HQ; clear HQ; (try clear F); (try simp only [hpn, hpm] at HS); have F := HS.boxes; simp only [bxn] at F))
 by_cases c12 : t10 = true
 case neg =>
  replace H := zneg c12 H
  replace c12 := eq_false_of_ne_true c12
  subst c12
  (try simp only [dcn, if_true, Bool.false_eq_true, if_false])
  obtain rfl := zsome H
  go_wp2
  go_ret
  exact ⟨rfl, HS.pick [] (by decide) (by rfl)⟩
 replace H := zpos c12 H
 subst c12
 (try simp only [dcn, if_true, Bool.false_eq_true, if_false])
 replace H := zbind H; obtain ⟨t13, ht13, H⟩ := H
 go_upto_if 32 with (first | ((with_reducible refine gate_dst (N := 31) rfl ?_); refine ev_call rfl Tryd.func54 (by kernel_rfl) rfl #[.slice Ap2 a0.f4.length cp2, .slice Ap5 a1.f4.length cp5] rfl (by simp only [mpn]; rfl) ?_; refine (laws_eqIntS.calls ht13.out (HS.ro gp2) lp2 (HS.ro gp5) lp5).mono ?_; rintro _ wt13 ⟨rfl, HQ⟩; refine ⟨_, rfl, ?_⟩; replace HS := HS.call HQ; clear HQ; (try clear F); (try simp only [hpn, hpm] at HS); have F := HS.boxes; simp only [bxn] at F))
 by_cases c15 : t13 = true
 case pos =>
  replace H := zpos c15 H
  subst c15
  (try simp only [dcn, if_true, Bool.false_eq_true, if_false])
  obtain rfl := zsome H
  go_wp2
  go_ret
  exact ⟨rfl, HS.pick [] (by decide) (by rfl)⟩
 replace H := zneg c15 H
 replace c15 := eq_false_of_ne_true c15
 subst c15
 (try simp only [dcn, if_true, Bool.false_eq_true, if_false])
 obtain rfl := zsome H
 go_wp2
 go_ret
 exact ⟨rfl, HS.pick [] (by decide) (by rfl)⟩
/-! ### laws_FnExactShowClient: function 7 -/
def laws_FnExactShowClient.f (k : Nat) (a0 : S59) : Option (Bool) := ((laws_szClient.f k a0 1048576).bind fun t3 => (if t3 < 0 then (some true) else ((laws_toClient.f k a0).bind fun t6 => ((spec_ShowClient.f k t6).bind fun t11 => ((laws_toClient.f k a0).bind fun t13 => ((impl_ShowClient.f k t13).bind fun t22 => (if t22.toList = t11.toList then ((laws_toClient.f k a0).bind fun t102001 => ((laws_eqClient.f k t13 t102001).bind fun t103001 => (if t103001 = true then (some true) else (some false)))) else (some false))))))))
def laws_FnExactShowClient.T10 : Bool × List (List Nat × List Nat) := (true, [([], []), ([], []), ([1], [1]), ([0, 2, 2], [0, 2]), ([3], [3])])
theorem laws_FnExactShowClient.tT10 : rtab .any (opsOf Tryd.f7 10) = laws_FnExactShowClient.T10 := by kernel_rfl
set_option maxHeartbeats 16000000 in
theorem laws_FnExactShowClient.calls {k : Nat} {a0 : S59} {Ap0 : Option Addr} {np0 cp0 : Nat} {Ap1 : Option Addr} {np1 cp1 : Nat} {Ap2 : Option Addr} {np2 cp2 : Nat} {r : Bool} {w : World} (h : laws_FnExactShowClient.f k a0 = some r) (gp0 : k126.C w Ap0 np0 a0.f2) (lp0 : np0 ≤ cp0) (gp1 : k129.C w Ap1 np1 a0.f3) (lp1 : np1 ≤ cp1) (gp2 : (Kd.int .i64).C w Ap2 np2 a0.f4) (lp2 : np2 ≤ cp2) (hgT : Go.Lib.TabIs Tryd.prog w "internal/strconv.uint64pow10" .u64 Go.Lib.pow10Tab) :
    Calls Tryd.prog 7 #[.agg #[.string a0.f0, .int .i64 a0.f1, .slice Ap0 np0 cp0, .slice Ap1 np1 cp1, .slice Ap2 np2 cp2]] w (fun e w' => e = .returned (.bool r) ∧ Hp noFP w w' []) := by
 obtain rfl := C_len gp0
 obtain rfl := C_len gp1
 obtain rfl := C_len gp2
 have HS := Hp.start w
 have H := Aside0.mk h
 clear h
 unfold laws_FnExactShowClient.f at H
 go_enter Tryd.func7, Tryd.ntmps7
 replace H := zbind H; obtain ⟨t3, ht3, H⟩ := H
 go_upto_if 11 with (first | ((with_reducible refine gate_dst (N := 1) rfl ?_); refine ev_box rfl HS (by first | (go_simp; done) | (go_simp; rfl)) rfl ?_; clear HS; (try clear F); intro g1 w1 HS; (try simp only [hpn, hpm] at HS); have F := HS.boxes; simp only [bxn] at F) | ((with_reducible refine gate_dst (N := 9) rfl ?_); refine ev_call rfl Tryd.func25 (by kernel_rfl) rfl #[.agg #[.string a0.f0, .int .i64 a0.f1, .slice Ap0 a0.f2.length cp0, .slice Ap1 a0.f3.length cp1, .slice Ap2 a0.f4.length cp2], .int .i64 1048576] rfl (by simp only [mpn]; rfl) ?_; refine (laws_szClient.calls ht3.out (HS.ro gp0) lp0 (HS.ro gp1) lp1 (HS.ro gp2) lp2).mono ?_; rintro _ wt3 ⟨rfl, HQ⟩; refine ⟨_, rfl, ?_⟩; replace HS := HS.call HQ; clear HQ; (try clear F); (try simp only [hpn, hpm] at HS); have F := HS.boxes; simp only [bxn] at F))
 by_cases c5 : t3 < 0
 case pos =>
  replace H := zpos c5 H
  replace c5 := eq_true c5
  (try simp only [c5, dcn])
  obtain rfl := zsome H
  go_wp2
  go_ret
  exact ⟨rfl, HS.pick [] (by decide) (by rfl)⟩
 replace H := zneg c5 H
 replace c5 := eq_false c5
 (try simp only [c5, dcn])
 replace H := zbind H; obtain ⟨t6, ht6, H⟩ := H
 replace H := zbind H; obtain ⟨t11, ht11, H⟩ := H
 replace H := zbind H; obtain ⟨t13, ht13, H⟩ := H
 replace H := zbind H; obtain ⟨t22, ht22, H⟩ := H
 go_upto_if 21 with (first | ((with_reducible refine gate_dst (N := 13) rfl ?_); refine ev_call rfl Tryd.func27 (by kernel_rfl) rfl #[.agg #[.string a0.f0, .int .i64 a0.f1, .slice Ap0 a0.f2.length cp0, .slice Ap1 a0.f3.length cp1, .slice Ap2 a0.f4.length cp2]] rfl (by simp only [mpn]; rfl) ?_; refine (laws_toClient.calls ht6.out (HS.ro gp0) lp0 (HS.ro gp1) lp1 (HS.ro gp2) lp2).mono ?_; rintro _ wt6 ⟨v7, v8, v9, rfl, HQ⟩; refine ⟨_, rfl, ?_⟩; replace HS := HS.call HQ; clear HQ; (try clear F); obtain ⟨B7, d7, rfl, m7⟩ := HS.form 1 rfl; obtain ⟨B8, d8, rfl, m8⟩ := HS.form 2 rfl; obtain ⟨B9, d9, rfl, m9⟩ := HS.form 3 rfl; (try simp only [hpn, hpm] at HS); have F := HS.boxes; simp only [bxn] at F) | ((with_reducible refine gate_dst (N := 14) rfl ?_); refine ev_call rfl Tryd.func26 (by kernel_rfl) rfl #[.agg #[.string t6.f0, .int .i64 t6.f1, .slice B7 t6.f2.length d7, .slice B8 t6.f3.length d8, .slice B9 t6.f4.length d9]] rfl (by simp only [mpn]; rfl) ?_; refine (spec_ShowClient.calls ht11.out (HS.rd 1 rfl) m7 (HS.rd 2 rfl) m8 (HS.rd 3 rfl) m9).mono ?_; rintro _ wt11 ⟨rfl, HQ⟩; refine ⟨_, rfl, ?_⟩; replace HS := HS.call HQ; clear HQ; (try clear F); (try simp only [hpn, hpm] at HS); have F := HS.boxes; simp only [bxn] at F) | ((with_reducible refine gate_dst (N := 16) rfl ?_); refine ev_call rfl Tryd.func27 (by kernel_rfl) rfl #[.agg #[.string a0.f0, .int .i64 a0.f1, .slice Ap0 a0.f2.length cp0, .slice Ap1 a0.f3.length cp1, .slice Ap2 a0.f4.length cp2]] rfl (by simp only [mpn]; rfl) ?_; refine (laws_toClient.calls ht13.out (HS.ro gp0) lp0 (HS.ro gp1) lp1 (HS.ro gp2) lp2).mono ?_; rintro _ wt13 ⟨v14, v15, v16, rfl, HQ⟩; refine ⟨_, rfl, ?_⟩; replace HS := HS.call HQ; clear HQ; (try clear F); obtain ⟨B14, d14, rfl, m14⟩ := HS.form 4 rfl; obtain ⟨B15, d15, rfl, m15⟩ := HS.form 5 rfl; obtain ⟨B16, d16, rfl, m16⟩ := HS.form 6 rfl; (try simp only [hpn, hpm] at HS); have F := HS.boxes; simp only [bxn] at F) | ((with_reducible refine gate_dst (N := 5) rfl ?_); refine ev_box rfl HS (by first | (go_simp; done) | (go_simp; rfl)) rfl ?_; clear HS; (try clear F); intro g5 w5 HS; (try simp only [hpn, hpm] at HS); have F := HS.boxes; simp only [bxn] at F) | ((with_reducible refine gate_store (p := 5) rfl ?_); refine ev_store rfl 7 0 HS (seg := [.string t13.f0, .int .i64 t13.f1, .slice B14 t13.f2.length d14, .slice B15 t13.f3.length d15, .slice B16 t13.f4.length d16]) rfl rfl rfl rfl rfl rfl (by kernel_rfl) (by simp [wrt]) (by simp [Value.oneCell']) ?_; clear HS; (try clear F); intro w20 HS; (try simp only [hpn, hpm] at HS); have F := HS.boxes; simp only [bxn] at F) | ((with_reducible refine gate_dst (N := 18) rfl ?_); refine ev_call rfl Tryd.func28 (by kernel_rfl) rfl #[.agg #[.string t13.f0, .int .i64 t13.f1, .slice B14 t13.f2.length d14, .slice B15 t13.f3.length d15, .slice B16 t13.f4.length d16]] rfl (by simp only [mpn]; rfl) ?_; refine (impl_ShowClient.calls ht22.out (HS.rd 4 rfl) m14 (HS.rd 5 rfl) m15 (HS.rd 6 rfl) m16 (HS.keept hgT)).mono ?_; rintro _ wt22 ⟨rfl, HQ⟩; refine ⟨_, rfl, ?_⟩; replace HS := HS.call HQ; clear HQ; (try clear F); (try simp only [hpn, hpm] at HS); have F := HS.boxes; simp only [bxn] at F))
 by_cases c24 : t22.toList = t11.toList
 case neg =>
  replace H := zneg c24 H
  have c24a := beq_eq_false_iff_ne.mpr c24
  have c24b := bne_iff_ne.mpr c24
  clear c24
  (try simp only [c24a, c24b, dcn])
  obtain rfl := zsome H
  go_wp2
  go_ret
  exact ⟨rfl, HS.pick [] (by decide) (by rfl)⟩
 replace H := zpos c24 H
 have c24a := beq_iff_eq.mpr c24
 have c24b := bne_eq_false_iff_eq.mpr c24
 clear c24
 (try simp only [c24a, c24b, dcn])
 (try go_wp2)
 replace H := zbind H; obtain ⟨t102001, ht102001, H⟩ := H
 replace H := zbind H; obtain ⟨t103001, ht103001, H⟩ := H
 refine dr_start [] HS #[false, false, false, false, false] (by kernel_rfl) rfl rfl laws_FnExactShowClient.tT10 (fun w26 HT HS HH => ?_)
 (try clear F)
 refine drq_of [(0, some 22), (1, some 23)] ?_
 repeat (first | (refine drq_take HT HH (v := ?_) (a' := ?_) rfl rfl (by kernel_rfl) (fun _ _ _ h => h) (.inl ⟨by rfl, ?_⟩) ?_ ?_; rotate_left; (rintro w' ⟨rs', HS'⟩; have F := HS'.boxes; simp only [bxn, List.cons_append, List.nil_append] at F; go_simp; with_reducible rfl); rotate_left; (simp only [Act.put, ptn]; rfl)))
 refine drq_end ?_
 refine dr_one 2 HT rfl (by kernel_rfl) (by decide) (fun K hK => ?_)
 refine goes_ Tryd.func27 (by kernel_rfl) rfl #[.agg #[.string a0.f0, .int .i64 a0.f1, .slice Ap0 a0.f2.length cp0, .slice Ap1 a0.f3.length cp1, .slice Ap2 a0.f4.length cp2]] (by rfl) rfl rfl (by simp only [mpn]; rfl) ?_; refine (laws_toClient.calls ht102001.out (HS.ro gp0) lp0 (HS.ro gp1) lp1 (HS.ro gp2) lp2).mono ?_; rintro _ wt102001 ⟨v102002, v102003, v102004, rfl, HQ⟩; refine ⟨_, rfl, ?_⟩; replace HS := HS.call HQ; clear HQ; (try clear F); obtain ⟨B102002, d102002, rfl, m102002⟩ := HS.form 8 rfl; obtain ⟨B102003, d102003, rfl, m102003⟩ := HS.form 9 rfl; obtain ⟨B102004, d102004, rfl, m102004⟩ := HS.form 10 rfl
 (try simp only [hpn, hpm] at HS)
 have F := HS.boxes; simp only [bxn] at F
 refine hK.out _ _ ⟨_, HS⟩ (fun HH => ?_)
 clear hK K
 refine norm_ (a' := ?_) ?_ ?_
 rotate_left
 · show Act.put _ (some 24) _ = _; simp only [Act.put, ptn]; rfl
 refine dr_one 3 HT rfl (by kernel_rfl) (by decide) (fun K hK => ?_)
 refine goes_ Tryd.func29 (by kernel_rfl) rfl #[.agg #[.string t13.f0, .int .i64 t13.f1, .slice B14 t13.f2.length d14, .slice B15 t13.f3.length d15, .slice B16 t13.f4.length d16], .agg #[.string t102001.f0, .int .i64 t102001.f1, .slice B102002 t102001.f2.length d102002, .slice B102003 t102001.f3.length d102003, .slice B102004 t102001.f4.length d102004]] (by rfl) rfl rfl (by simp only [mpn]; rfl) ?_; refine (laws_eqClient.calls ht103001.out (HS.rd 4 rfl) m14 (HS.rd 5 rfl) m15 (HS.rd 6 rfl) m16 (HS.rd 8 rfl) m102002 (HS.rd 9 rfl) m102003 (HS.rd 10 rfl) m102004).mono ?_; rintro _ wt103001 ⟨rfl, HQ⟩; refine ⟨_, rfl, ?_⟩; replace HS := HS.call HQ; clear HQ; (try clear F)
 (try simp only [hpn, hpm] at HS)
 have F := HS.boxes; simp only [bxn] at F
 refine hK.out _ _ ⟨_, HS⟩ (fun HH => ?_)
 clear hK K
 refine norm_ (a' := ?_) ?_ ?_
 rotate_left
 · show Act.put _ (some 25) _ = _; simp only [Act.put, ptn]; rfl
 refine drq_of [(4, some 26)] ?_
 repeat (first | (refine drq_pure HT (v := ?_) (a' := ?_) rfl rfl (by kernel_rfl) (fun _ _ _ h => h) (.inl ⟨by rfl, ?_⟩) ?_ ?_; rotate_left; (intro w'; go_simp; with_reducible rfl); rotate_left; (simp only [Act.put, ptn]; rfl)))
 refine drq_end ?_
 refine done_ (done_of HT.out (by kernel_rfl)) ?_
 (try clear F)
 have F := HS.boxes; simp only [bxn] at F
 by_cases c28 : t103001 = true
 case pos =>
  replace H := zpos c28 H
  subst c28
  (try simp only [dcn, if_true, Bool.false_eq_true, if_false])
  obtain rfl := zsome H
  go_wp2
  go_ret
  exact ⟨rfl, HS.pick [] (by decide) (by rfl)⟩
 replace H := zneg c28 H
 replace c28 := eq_false_of_ne_true c28
 subst c28
 (try simp only [dcn, if_true, Bool.false_eq_true, if_false])
 obtain rfl := zsome H
 go_wp2
 go_ret
 exact ⟨rfl, HS.pick [] (by decide) (by rfl)⟩
end Go.Proofs.YtnpokacipeobdaaDoor.F

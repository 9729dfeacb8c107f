/- Functions of the program and of the law, and that their calls do what is written here. -/
import Derived.Test.YtacocpknielofaaGreatDoorZgFnExactShowWorldg
import Derived.Test.YtacocpknielofaaGreatDoorZgFnExactShowWorldh
namespace Go.Proofs.YtacocpknielofaaGreatDoor.F
open Go.RowKit Go.Proofs.YtacocpknielofaaGreatDoorW.PrintWords Go.Proofs.YtacocpknielofaaGreatDoorW.PrintLast Go.Proofs.YtacocpknielofaaGreatDoorW.PrintMore Go.Proofs.YtacocpknielofaaGreatDoor.Z
attribute [local go_sem] max2_int min2_int max_two min_two max_three min_three max_four min_four
set_option linter.unusedVariables false
set_option linter.unusedSimpArgs false
set_option maxRecDepth 100000
/-! ### laws_eqKept: function 158 -/
def laws_eqKept.f (a0 : S205) (a1 : S205) : Option (Bool) := (if a0.f0.toList = a1.f0.toList then (if a0.f1.toList = a1.f1.toList then (if a0.f2 = a1.f2 then (some true) else (some false)) else (some false)) else (some false))
set_option maxHeartbeats 16000000 in
theorem laws_eqKept.calls {a0 : S205} {a1 : S205} {r : Bool} {w : World} (h : laws_eqKept.f a0 a1 = some r) :
    Calls Tryz.prog 158 #[.agg #[.string a0.f0, .string a0.f1, .int .i64 a0.f2], .agg #[.string a1.f0, .string a1.f1, .int .i64 a1.f2]] w (fun e w' => e = .returned (.bool r) ∧ Hp noFP w w' []) := by
 have HS := Hp.start w
 have H := Aside0.mk h
 clear h
 unfold laws_eqKept.f at H
 go_enter Tryz.func158, Tryz.ntmps158
 go_upto_if 9 with (first | ((with_reducible refine gate_dst (N := 2) rfl ?_); refine ev_box rfl HS (by first | (go_simp; done) | (go_simp; rfl)) rfl ?_; clear HS; (try clear F); intro g2 w2 HS; (try simp only [hpn, hpm] at HS); have F := HS.boxes; simp only [bxn] at F) | ((with_reducible refine gate_dst (N := 3) rfl ?_); refine ev_box rfl HS (by first | (go_simp; done) | (go_simp; rfl)) rfl ?_; clear HS; (try clear F); intro g3 w3 HS; (try simp only [hpn, hpm] at HS); have F := HS.boxes; simp only [bxn] at F))
 by_cases c5 : a0.f0.toList = a1.f0.toList
 case neg =>
  replace H := zneg c5 H
  have c5a := beq_eq_false_iff_ne.mpr c5
  have c5b := bne_iff_ne.mpr c5
  clear c5
  (try simp only [c5a, c5b, dcn])
  obtain rfl := zsome H
  go_wp2
  go_ret
  exact ⟨rfl, HS.pick [] (by decide) (by rfl)⟩
 replace H := zpos c5 H
 have c5a := beq_iff_eq.mpr c5
 have c5b := bne_eq_false_iff_eq.mpr c5
 clear c5
 (try simp only [c5a, c5b, dcn])
 by_cases c6 : a0.f1.toList = a1.f1.toList
 case neg =>
  replace H := zneg c6 H
  have c6a := beq_eq_false_iff_ne.mpr c6
  have c6b := bne_iff_ne.mpr c6
  clear c6
  obtain rfl := zsome H
  go_wp2
  go_ret
  exact ⟨rfl, HS.pick [] (by decide) (by rfl)⟩
 replace H := zpos c6 H
 have c6a := beq_iff_eq.mpr c6
 have c6b := bne_eq_false_iff_eq.mpr c6
 clear c6
 by_cases c7 : a0.f2 = a1.f2
 case neg =>
  replace H := zneg c7 H
  have c7a := beq_eq_false_iff_ne.mpr c7
  have c7b := bne_iff_ne.mpr c7
  clear c7
  obtain rfl := zsome H
  go_wp2
  go_ret
  exact ⟨rfl, HS.pick [] (by decide) (by rfl)⟩
 replace H := zpos c7 H
 have c7a := beq_iff_eq.mpr c7
 have c7b := bne_eq_false_iff_eq.mpr c7
 clear c7
 obtain rfl := zsome H
 go_wp2
 go_ret
 exact ⟨rfl, HS.pick [] (by decide) (by rfl)⟩
/-! ### laws_eqKeptS: function 82 -/
def laws_eqKeptS.l0 : Nat → Int → (List S205) → (List S205) → Option (Bool)
  | 0, _, _, _ => none
  | k + 1, x5, a0, a1 => (if x5 < (a0.length : Int) then (if 0 ≤ x5 then (if x5 < (a0.length : Int) then (if x5 < (a1.length : Int) then ((laws_eqKept.f (rd_T205 a0 x5) (rd_T205 a1 x5)).bind fun t108001 => (if t108001 = true then (laws_eqKeptS.l0 k (wrap64 (x5 + 1)) a0 a1) else (some false))) else none) else none) else none) else (some true))
def laws_eqKeptS.f (k : Nat) (a0 : (List S205)) (a1 : (List S205)) : Option (Bool) := (if (a0.length : Int) = (a1.length : Int) then (laws_eqKeptS.l0 k 0 a0 a1) else (some false))
def laws_eqKeptS.T6 : Bool × List (List Nat × List Nat) := (true, [([], []), ([], []), ([0, 1], [0, 1]), ([2], [2]), ([], []), ([], []), ([4, 5], [4, 5]), ([6], [6]), ([3, 7], [3, 7]), ([8], [8])])
theorem laws_eqKeptS.tT6 : rtab .any (opsOf Tryz.f82 6) = laws_eqKeptS.T6 := by kernel_rfl
set_option maxHeartbeats 16000000 in
theorem laws_eqKeptS.calls {k : Nat} {a0 : (List S205)} {a1 : (List S205)} {Ap0 : Option Addr} {np0 cp0 : Nat} {Ap1 : Option Addr} {np1 cp1 : Nat} {r : Bool} {w : World} (h : laws_eqKeptS.f k a0 a1 = some r) (gp0 : k205.C w Ap0 np0 a0) (lp0 : np0 ≤ cp0) (gp1 : k205.C w Ap1 np1 a1) (lp1 : np1 ≤ cp1) :
    Calls Tryz.prog 82 #[.slice Ap0 np0 cp0, .slice Ap1 np1 cp1] w (fun e w' => e = .returned (.bool r) ∧ Hp noFP w w' []) := by
 obtain rfl := C_len gp0
 obtain rfl := C_len gp1
 have HS := Hp.start w
 have H := Aside0.mk h
 clear h
 unfold laws_eqKeptS.f at H
 go_enter Tryz.func82, Tryz.ntmps82
 by_cases c1 : (a0.length : Int) = (a1.length : Int)
 case neg =>
  replace H := zneg c1 H
  have c1a := beq_eq_false_iff_ne.mpr c1
  have c1b := bne_iff_ne.mpr c1
  clear c1
  obtain rfl := zsome H
  go_wp2
  go_ret
  exact ⟨rfl, HS.pick [] (by decide) (by rfl)⟩
 replace H := zpos c1 H
 have c1a := beq_iff_eq.mpr c1
 have c1b := bne_eq_false_iff_eq.mpr c1
 clear c1
 go_wp2
 go_loopg [5] k (fun kq v_5 w' => ∃ (x5 : Int), v_5 = .int .i64 x5 ∧ Aside0 (laws_eqKeptS.l0 kq x5 a0 a1 = some r) ∧ Aside0 (kq ≤ k) ∧ Hp noFP w w' [])
 case atStart => exact ⟨_, rfl, H, ⟨Nat.le_refl _⟩, HS⟩
 case round =>
  clear HS H; (try clear F)
  obtain ⟨x5, rfl, H, HKk4, HS⟩ := hrel
  cases gk with
  | zero => exact absurd H.out (by simp [laws_eqKeptS.l0])
  | succ k4 =>
   simp only [laws_eqKeptS.l0] at H
   by_cases c7 : x5 < (a0.length : Int)
   case neg =>
    replace H := zneg c7 H
    replace c7 := eq_false c7
    obtain rfl := zsome H
    go_wp2
    go_ret
    exact ⟨rfl, HS.pick [] (by decide) (by rfl)⟩
   replace H := zpos c7 H
   replace c7 := eq_true c7
   (try go_wp2)
   by_cases c102001 : 0 ≤ x5
   case neg => exact zno c102001 H
   replace H := zpos c102001 H
   replace c102001 := eq_true c102001
   by_cases c102002 : x5 < (a0.length : Int)
   case neg => exact zno c102002 H
   replace H := zpos c102002 H
   replace c102002 := eq_true c102002
   obtain ⟨ad102999, rfl, e102999_0, e102999_1, e102999_2⟩ := at_T205 gp0 x5 (of_eq_true c102001) (of_eq_true c102002)
   by_cases c106001 : x5 < (a1.length : Int)
   case neg => exact zno c106001 H
   replace H := zpos c106001 H
   replace c106001 := eq_true c106001
   obtain ⟨ad106999, rfl, e106999_0, e106999_1, e106999_2⟩ := at_T205 gp1 x5 (of_eq_true c102001) (of_eq_true c106001)
   replace H := zbind H; obtain ⟨t108001, ht108001, H⟩ := H
   refine dr_start [] HS #[false, false, false, false, false, false, false, false, false, false] (by kernel_rfl) rfl rfl laws_eqKeptS.tT6 (fun w9 HT HS HH => ?_)
   (try clear F)
   refine drq_of [(0, some 17), (1, some 18), (2, some 19)] ?_
   repeat (first | (refine drq_pure HT (v := ?_) (a' := ?_) rfl rfl (by kernel_rfl) (fun _ _ _ h => h) (.inl ⟨by rfl, ?_⟩) ?_ ?_; rotate_left; (intro w'; go_simp; with_reducible rfl); rotate_left; (simp only [Act.put, ptn]; rfl)))
   refine drq_end ?_
   refine dr_take 3 (some 20) HT HH (v := ?_) (a' := ?_) rfl rfl (by kernel_rfl) (fun _ _ _ h => h) (.inl ⟨by rfl, ?_⟩) ?_ ?_
   rotate_left
   · rintro w' ⟨rs', HS'⟩; have e102999_0 := (HS'.keepc e102999_0); have e102999_1 := (HS'.keepc e102999_1); have e102999_2 := (HS'.keepc e102999_2); go_simp; with_reducible rfl
   rotate_left
   · simp only [Act.put, ptn]; rfl
   refine drq_of [(4, some 21), (5, some 22), (6, some 23)] ?_
   repeat (first | (refine drq_pure HT (v := ?_) (a' := ?_) rfl rfl (by kernel_rfl) (fun _ _ _ h => h) (.inl ⟨by rfl, ?_⟩) ?_ ?_; rotate_left; (intro w'; go_simp; with_reducible rfl); rotate_left; (simp only [Act.put, ptn]; rfl)))
   refine drq_end ?_
   refine dr_take 7 (some 24) HT HH (v := ?_) (a' := ?_) rfl rfl (by kernel_rfl) (fun _ _ _ h => h) (.inl ⟨by rfl, ?_⟩) ?_ ?_
   rotate_left
   · rintro w' ⟨rs', HS'⟩; have e106999_0 := (HS'.keepc e106999_0); have e106999_1 := (HS'.keepc e106999_1); have e106999_2 := (HS'.keepc e106999_2); go_simp; with_reducible rfl
   rotate_left
   · simp only [Act.put, ptn]; rfl
   refine dr_one 8 HT rfl (by kernel_rfl) (by decide) (fun K hK => ?_)
   refine goes_ Tryz.func158 (by kernel_rfl) rfl #[.agg #[.string ((rd_T205 a0 x5).f0), .string ((rd_T205 a0 x5).f1), .int .i64 ((rd_T205 a0 x5).f2)], .agg #[.string ((rd_T205 a1 x5).f0), .string ((rd_T205 a1 x5).f1), .int .i64 ((rd_T205 a1 x5).f2)]] (by rfl) rfl rfl (by simp only [mpn]; rfl) ?_; refine (laws_eqKept.calls ht108001.out).mono ?_; rintro _ wt108001 ⟨rfl, HQ⟩; refine ⟨_, rfl, ?_⟩; replace HS := HS.call HQ; clear HQ; (try clear F)
   (try simp only [hpn, hpm] at HS)
   refine hK.out _ _ ⟨_, HS⟩ (fun HH => ?_)
   clear hK K
   refine norm_ (a' := ?_) ?_ ?_
   rotate_left
   · show Act.put _ (some 25) _ = _; simp only [Act.put, ptn]; rfl
   refine drq_of [(9, some 26)] ?_
   repeat (first | (refine drq_pure HT (v := ?_) (a' := ?_) rfl rfl (by kernel_rfl) (fun _ _ _ h => h) (.inl ⟨by rfl, ?_⟩) ?_ ?_; rotate_left; (intro w'; go_simp; with_reducible rfl); rotate_left; (simp only [Act.put, ptn]; rfl)))
   refine drq_end ?_
   refine done_ (done_of HT.out (by kernel_rfl)) ?_
   by_cases c11 : t108001 = true
   case neg =>
    replace H := zneg c11 H
    replace c11 := eq_false_of_ne_true c11
    subst c11
    (try simp only [dcn, if_true, Bool.false_eq_true, if_false])
    obtain rfl := zsome H
    go_wp2
    go_ret
    exact ⟨rfl, HS.pick [] (by decide) (by rfl)⟩
   replace H := zpos c11 H
   subst c11
   (try simp only [dcn, if_true, Bool.false_eq_true, if_false])
   go_wp2
   go_roundg k4
   case measure => have := HKk4.out; omega
   case rel => exact ⟨_, rfl, H, ⟨by have := HKk4.out; omega⟩, HS.pick [] (by decide) (by rfl)⟩
/-! ### laws_eqServer: function 20 -/
def laws_eqServer.f (k : Nat) (a0 : S46) (a1 : S46) : Option (Bool) := ((laws_eqStore.f k a0.f0 a1.f0).bind fun t5 => (if t5 = true then ((laws_eqPlanS.f k a0.f1 a1.f1).bind fun t8 => (if t8 = true then (if a0.f2 = a1.f2 then (if a0.f3 = a1.f3 then (if a0.f4 = a1.f4 then ((laws_eqKeptS.f k a0.f5 a1.f5).bind fun t14 => (if t14 = true then (some true) else (some false))) else (some false)) else (some false)) else (some false)) else (some false))) else (some false)))
set_option maxHeartbeats 16000000 in
theorem laws_eqServer.calls {k : Nat} {a0 : S46} {a1 : S46} {Ap0 : Option Addr} {np0 cp0 : Nat} {Ap1 : Option Addr} {np1 cp1 : Nat} {Ap2 : Option Addr} {np2 cp2 : Nat} {Ap3 : Option Addr} {np3 cp3 : Nat} {Ap4 : Option Addr} {np4 cp4 : Nat} {Ap5 : Option Addr} {np5 cp5 : Nat} {Ap6 : Option Addr} {np6 cp6 : Nat} {Ap7 : Option Addr} {np7 cp7 : Nat} {Ap8 : Option Addr} {np8 cp8 : Nat} {Ap9 : Option Addr} {np9 cp9 : Nat} {r : Bool} {w : World} (h : laws_eqServer.f k a0 a1 = some r) (gp0 : k91.C w Ap0 np0 a0.f0.f0) (lp0 : np0 ≤ cp0) (gp1 : k81.C w Ap1 np1 a0.f0.f1) (lp1 : np1 ≤ cp1) (gp2 : k115.C w Ap2 np2 a0.f0.f2) (lp2 : np2 ≤ cp2) (gp3 : k202.C w Ap3 np3 a0.f1) (lp3 : np3 ≤ cp3) (gp4 : k205.C w Ap4 np4 a0.f5) (lp4 : np4 ≤ cp4) (gp5 : k91.C w Ap5 np5 a1.f0.f0) (lp5 : np5 ≤ cp5) (gp6 : k81.C w Ap6 np6 a1.f0.f1) (lp6 : np6 ≤ cp6) (gp7 : k115.C w Ap7 np7 a1.f0.f2) (lp7 : np7 ≤ cp7) (gp8 : k202.C w Ap8 np8 a1.f1) (lp8 : np8 ≤ cp8) (gp9 : k205.C w Ap9 np9 a1.f5) (lp9 : np9 ≤ cp9) :
    Calls Tryz.prog 20 #[.agg #[.slice Ap0 np0 cp0, .slice Ap1 np1 cp1, .slice Ap2 np2 cp2, .slice Ap3 np3 cp3, .int .i64 a0.f2, .int .i64 a0.f3, .int .i64 a0.f4, .slice Ap4 np4 cp4], .agg #[.slice Ap5 np5 cp5, .slice Ap6 np6 cp6, .slice Ap7 np7 cp7, .slice Ap8 np8 cp8, .int .i64 a1.f2, .int .i64 a1.f3, .int .i64 a1.f4, .slice Ap9 np9 cp9]] w (fun e w' => e = .returned (.bool r) ∧ Hp noFP w w' []) := by
 obtain rfl := C_len gp0
 obtain rfl := C_len gp1
 obtain rfl := C_len gp2
 obtain rfl := C_len gp3
 obtain rfl := C_len gp4
 obtain rfl := C_len gp5
 obtain rfl := C_len gp6
 obtain rfl := C_len gp7
 obtain rfl := C_len gp8
 obtain rfl := C_len gp9
 have HS := Hp.start w
 have H := Aside0.mk h
 clear h
 unfold laws_eqServer.f at H
 go_enter Tryz.func20, Tryz.ntmps20
 replace H := zbind H; obtain ⟨t5, ht5, H⟩ := H
 go_upto_if 10 with (first | ((with_reducible refine gate_dst (N := 2) rfl ?_); refine ev_box rfl HS (by first | (go_simp; done) | (go_simp; rfl)) rfl ?_; clear HS; (try clear F); intro g2 w2 HS; (try simp only [hpn, hpm] at HS); have F := HS.boxes; simp only [bxn] at F) | ((with_reducible refine gate_dst (N := 3) rfl ?_); refine ev_box rfl HS (by first | (go_simp; done) | (go_simp; rfl)) rfl ?_; clear HS; (try clear F); intro g3 w3 HS; (try simp only [hpn, hpm] at HS); have F := HS.boxes; simp only [bxn] at F) | ((with_reducible refine gate_dst (N := 9) rfl ?_); refine ev_call rfl Tryz.func15 (by kernel_rfl) rfl #[.agg #[.slice Ap0 a0.f0.f0.length cp0, .slice Ap1 a0.f0.f1.length cp1, .slice Ap2 a0.f0.f2.length cp2], .agg #[.slice Ap5 a1.f0.f0.length cp5, .slice Ap6 a1.f0.f1.length cp6, .slice Ap7 a1.f0.f2.length cp7]] rfl (by simp only [mpn]; rfl) ?_; refine (laws_eqStore.calls ht5.out (HS.ro gp0) lp0 (HS.ro gp1) lp1 (HS.ro gp2) lp2 (HS.ro gp5) lp5 (HS.ro gp6) lp6 (HS.ro gp7) lp7).mono ?_; rintro _ wt5 ⟨rfl, HQ⟩; refine ⟨_, rfl, ?_⟩; replace HS := HS.call HQ; clear HQ; (try clear F); (try simp only [hpn, hpm] at HS); have F := HS.boxes; simp only [bxn] at F))
 by_cases c7 : t5 = true
 case neg =>
  replace H := zneg c7 H
  replace c7 := eq_false_of_ne_true c7
  subst c7
  (try simp only [dcn, if_true, Bool.false_eq_true, if_false])
  obtain rfl := zsome H
  go_wp2
  go_ret
  exact ⟨rfl, HS.pick [] (by decide) (by rfl)⟩
 replace H := zpos c7 H
 subst c7
 (try simp only [dcn, if_true, Bool.false_eq_true, if_false])
 replace H := zbind H; obtain ⟨t8, ht8, H⟩ := H
 go_upto_if 16 with (first | ((with_reducible refine gate_dst (N := 15) rfl ?_); refine ev_call rfl Tryz.func81 (by kernel_rfl) rfl #[.slice Ap3 a0.f1.length cp3, .slice Ap8 a1.f1.length cp8] rfl (by simp only [mpn]; rfl) ?_; refine (laws_eqPlanS.calls ht8.out (HS.ro gp3) lp3 (HS.ro gp8) lp8).mono ?_; rintro _ wt8 ⟨rfl, HQ⟩; refine ⟨_, rfl, ?_⟩; replace HS := HS.call HQ; clear HQ; (try clear F); (try simp only [hpn, hpm] at HS); have F := HS.boxes; simp only [bxn] at F))
 by_cases c10 : t8 = true
 case neg =>
  replace H := zneg c10 H
  replace c10 := eq_false_of_ne_true c10
  subst c10
  (try simp only [dcn, if_true, Bool.false_eq_true, if_false])
  obtain rfl := zsome H
  go_wp2
  go_ret
  exact ⟨rfl, HS.pick [] (by decide) (by rfl)⟩
 replace H := zpos c10 H
 subst c10
 (try simp only [dcn, if_true, Bool.false_eq_true, if_false])
 by_cases c11 : a0.f2 = a1.f2
 case neg =>
  replace H := zneg c11 H
  have c11a := beq_eq_false_iff_ne.mpr c11
  have c11b := bne_iff_ne.mpr c11
  clear c11
  obtain rfl := zsome H
  go_wp2
  go_ret
  exact ⟨rfl, HS.pick [] (by decide) (by rfl)⟩
 replace H := zpos c11 H
 have c11a := beq_iff_eq.mpr c11
 have c11b := bne_eq_false_iff_eq.mpr c11
 clear c11
 by_cases c12 : a0.f3 = a1.f3
 case neg =>
  replace H := zneg c12 H
  have c12a := beq_eq_false_iff_ne.mpr c12
  have c12b := bne_iff_ne.mpr c12
  clear c12
  obtain rfl := zsome H
  go_wp2
  go_ret
  exact ⟨rfl, HS.pick [] (by decide) (by rfl)⟩
 replace H := zpos c12 H
 have c12a := beq_iff_eq.mpr c12
 have c12b := bne_eq_false_iff_eq.mpr c12
 clear c12
 by_cases c13 : a0.f4 = a1.f4
 case neg =>
  replace H := zneg c13 H
  have c13a := beq_eq_false_iff_ne.mpr c13
  have c13b := bne_iff_ne.mpr c13
  clear c13
  obtain rfl := zsome H
  go_wp2
  go_ret
  exact ⟨rfl, HS.pick [] (by decide) (by rfl)⟩
 replace H := zpos c13 H
 have c13a := beq_iff_eq.mpr c13
 have c13b := bne_eq_false_iff_eq.mpr c13
 clear c13
 replace H := zbind H; obtain ⟨t14, ht14, H⟩ := H
 go_upto_if 37 with (first | ((with_reducible refine gate_dst (N := 36) rfl ?_); refine ev_call rfl Tryz.func82 (by kernel_rfl) rfl #[.slice Ap4 a0.f5.length cp4, .slice Ap9 a1.f5.length cp9] rfl (by simp only [mpn]; rfl) ?_; refine (laws_eqKeptS.calls ht14.out (HS.ro gp4) lp4 (HS.ro gp9) lp9).mono ?_; rintro _ wt14 ⟨rfl, HQ⟩; refine ⟨_, rfl, ?_⟩; replace HS := HS.call HQ; clear HQ; (try clear F); (try simp only [hpn, hpm] at HS); have F := HS.boxes; simp only [bxn] at F))
 by_cases c16 : t14 = true
 case pos =>
  replace H := zpos c16 H
  subst c16
  (try simp only [dcn, if_true, Bool.false_eq_true, if_false])
  obtain rfl := zsome H
  go_wp2
  go_ret
  exact ⟨rfl, HS.pick [] (by decide) (by rfl)⟩
 replace H := zneg c16 H
 replace c16 := eq_false_of_ne_true c16
 subst c16
 (try simp only [dcn, if_true, Bool.false_eq_true, if_false])
 obtain rfl := zsome H
 go_wp2
 go_ret
 exact ⟨rfl, HS.pick [] (by decide) (by rfl)⟩
/-! ### laws_eqWait: function 218 -/
def laws_eqWait.f (a0 : S274) (a1 : S274) : Option (Bool) := (if a0.f0 = a1.f0 then (if a0.f1 = a1.f1 then (if a0.f2.toList = a1.f2.toList then (if a0.f3 = a1.f3 then (some true) else (some false)) else (some false)) else (some false)) else (some false))
set_option maxHeartbeats 16000000 in
theorem laws_eqWait.calls {a0 : S274} {a1 : S274} {r : Bool} {w : World} (h : laws_eqWait.f a0 a1 = some r) :
    Calls Tryz.prog 218 #[.agg #[.int .i64 a0.f0, .int .i64 a0.f1, .string a0.f2, .int .i64 a0.f3], .agg #[.int .i64 a1.f0, .int .i64 a1.f1, .string a1.f2, .int .i64 a1.f3]] w (fun e w' => e = .returned (.bool r) ∧ Hp noFP w w' []) := by
 have HS := Hp.start w
 have H := Aside0.mk h
 clear h
 unfold laws_eqWait.f at H
 go_enter Tryz.func218, Tryz.ntmps218
 go_upto_if 9 with (first | ((with_reducible refine gate_dst (N := 2) rfl ?_); refine ev_box rfl HS (by first | (go_simp; done) | (go_simp; rfl)) rfl ?_; clear HS; (try clear F); intro g2 w2 HS; (try simp only [hpn, hpm] at HS); have F := HS.boxes; simp only [bxn] at F) | ((with_reducible refine gate_dst (N := 3) rfl ?_); refine ev_box rfl HS (by first | (go_simp; done) | (go_simp; rfl)) rfl ?_; clear HS; (try clear F); intro g3 w3 HS; (try simp only [hpn, hpm] at HS); have F := HS.boxes; simp only [bxn] at F))
 by_cases c5 : a0.f0 = a1.f0
 case neg =>
  replace H := zneg c5 H
  have c5a := beq_eq_false_iff_ne.mpr c5
  have c5b := bne_iff_ne.mpr c5
  clear c5
  (try simp only [c5a, c5b, dcn])
  obtain rfl := zsome H
  go_wp2
  go_ret
  exact ⟨rfl, HS.pick [] (by decide) (by rfl)⟩
 replace H := zpos c5 H
 have c5a := beq_iff_eq.mpr c5
 have c5b := bne_eq_false_iff_eq.mpr c5
 clear c5
 (try simp only [c5a, c5b, dcn])
 by_cases c6 : a0.f1 = a1.f1
 case neg =>
  replace H := zneg c6 H
  have c6a := beq_eq_false_iff_ne.mpr c6
  have c6b := bne_iff_ne.mpr c6
  clear c6
  obtain rfl := zsome H
  go_wp2
  go_ret
  exact ⟨rfl, HS.pick [] (by decide) (by rfl)⟩
 replace H := zpos c6 H
 have c6a := beq_iff_eq.mpr c6
 have c6b := bne_eq_false_iff_eq.mpr c6
 clear c6
 by_cases c7 : a0.f2.toList = a1.f2.toList
 case neg =>
  replace H := zneg c7 H
  have c7a := beq_eq_false_iff_ne.mpr c7
  have c7b := bne_iff_ne.mpr c7
  clear c7
  obtain rfl := zsome H
  go_wp2
  go_ret
  exact ⟨rfl, HS.pick [] (by decide) (by rfl)⟩
 replace H := zpos c7 H
 have c7a := beq_iff_eq.mpr c7
 have c7b := bne_eq_false_iff_eq.mpr c7
 clear c7
 by_cases c8 : a0.f3 = a1.f3
 case neg =>
  replace H := zneg c8 H
  have c8a := beq_eq_false_iff_ne.mpr c8
  have c8b := bne_iff_ne.mpr c8
  clear c8
  obtain rfl := zsome H
  go_wp2
  go_ret
  exact ⟨rfl, HS.pick [] (by decide) (by rfl)⟩
 replace H := zpos c8 H
 have c8a := beq_iff_eq.mpr c8
 have c8b := bne_eq_false_iff_eq.mpr c8
 clear c8
 obtain rfl := zsome H
 go_wp2
 go_ret
 exact ⟨rfl, HS.pick [] (by decide) (by rfl)⟩
/-! ### laws_eqWaitS: function 171 -/
def laws_eqWaitS.l0 : Nat → Int → (List S274) → (List S274) → Option (Bool)
  | 0, _, _, _ => none
  | k + 1, x5, a0, a1 => (if x5 < (a0.length : Int) then (if 0 ≤ x5 then (if x5 < (a0.length : Int) then (if x5 < (a1.length : Int) then ((laws_eqWait.f (rd_T274 a0 x5) (rd_T274 a1 x5)).bind fun t108001 => (if t108001 = true then (laws_eqWaitS.l0 k (wrap64 (x5 + 1)) a0 a1) else (some false))) else none) else none) else none) else (some true))
def laws_eqWaitS.f (k : Nat) (a0 : (List S274)) (a1 : (List S274)) : Option (Bool) := (if (a0.length : Int) = (a1.length : Int) then (laws_eqWaitS.l0 k 0 a0 a1) else (some false))
def laws_eqWaitS.T6 : Bool × List (List Nat × List Nat) := (true, [([], []), ([], []), ([0, 1], [0, 1]), ([2], [2]), ([], []), ([], []), ([4, 5], [4, 5]), ([6], [6]), ([3, 7], [3, 7]), ([8], [8])])
theorem laws_eqWaitS.tT6 : rtab .any (opsOf Tryz.f171 6) = laws_eqWaitS.T6 := by kernel_rfl
set_option maxHeartbeats 16000000 in
theorem laws_eqWaitS.calls {k : Nat} {a0 : (List S274)} {a1 : (List S274)} {Ap0 : Option Addr} {np0 cp0 : Nat} {Ap1 : Option Addr} {np1 cp1 : Nat} {r : Bool} {w : World} (h : laws_eqWaitS.f k a0 a1 = some r) (gp0 : k274.C w Ap0 np0 a0) (lp0 : np0 ≤ cp0) (gp1 : k274.C w Ap1 np1 a1) (lp1 : np1 ≤ cp1) :
    Calls Tryz.prog 171 #[.slice Ap0 np0 cp0, .slice Ap1 np1 cp1] w (fun e w' => e = .returned (.bool r) ∧ Hp noFP w w' []) := by
 obtain rfl := C_len gp0
 obtain rfl := C_len gp1
 have HS := Hp.start w
 have H := Aside0.mk h
 clear h
 unfold laws_eqWaitS.f at H
 go_enter Tryz.func171, Tryz.ntmps171
 by_cases c1 : (a0.length : Int) = (a1.length : Int)
 case neg =>
  replace H := zneg c1 H
  have c1a := beq_eq_false_iff_ne.mpr c1
  have c1b := bne_iff_ne.mpr c1
  clear c1
  obtain rfl := zsome H
  go_wp2
  go_ret
  exact ⟨rfl, HS.pick [] (by decide) (by rfl)⟩
 replace H := zpos c1 H
 have c1a := beq_iff_eq.mpr c1
 have c1b := bne_eq_false_iff_eq.mpr c1
 clear c1
 go_wp2
 go_loopg [5] k (fun kq v_5 w' => ∃ (x5 : Int), v_5 = .int .i64 x5 ∧ Aside0 (laws_eqWaitS.l0 kq x5 a0 a1 = some r) ∧ Aside0 (kq ≤ k) ∧ Hp noFP w w' [])
 case atStart => exact ⟨_, rfl, H, ⟨Nat.le_refl _⟩, HS⟩
 case round =>
  clear HS H; (try clear F)
  obtain ⟨x5, rfl, H, HKk4, HS⟩ := hrel
  cases gk with
  | zero => exact absurd H.out (by simp [laws_eqWaitS.l0])
  | succ k4 =>
   simp only [laws_eqWaitS.l0] at H
   by_cases c7 : x5 < (a0.length : Int)
   case neg =>
    replace H := zneg c7 H
    replace c7 := eq_false c7
    obtain rfl := zsome H
    go_wp2
    go_ret
    exact ⟨rfl, HS.pick [] (by decide) (by rfl)⟩
   replace H := zpos c7 H
   replace c7 := eq_true c7
   (try go_wp2)
   by_cases c102001 : 0 ≤ x5
   case neg => exact zno c102001 H
   replace H := zpos c102001 H
   replace c102001 := eq_true c102001
   by_cases c102002 : x5 < (a0.length : Int)
   case neg => exact zno c102002 H
   replace H := zpos c102002 H
   replace c102002 := eq_true c102002
   obtain ⟨ad102999, rfl, e102999_0, e102999_1, e102999_2, e102999_3⟩ := at_T274 gp0 x5 (of_eq_true c102001) (of_eq_true c102002)
   by_cases c106001 : x5 < (a1.length : Int)
   case neg => exact zno c106001 H
   replace H := zpos c106001 H
   replace c106001 := eq_true c106001
   obtain ⟨ad106999, rfl, e106999_0, e106999_1, e106999_2, e106999_3⟩ := at_T274 gp1 x5 (of_eq_true c102001) (of_eq_true c106001)
   replace H := zbind H; obtain ⟨t108001, ht108001, H⟩ := H
   refine dr_start [] HS #[false, false, false, false, false, false, false, false, false, false] (by kernel_rfl) rfl rfl laws_eqWaitS.tT6 (fun w9 HT HS HH => ?_)
   (try clear F)
   refine drq_of [(0, some 17), (1, some 18), (2, some 19)] ?_
   repeat (first | (refine drq_pure HT (v := ?_) (a' := ?_) rfl rfl (by kernel_rfl) (fun _ _ _ h => h) (.inl ⟨by rfl, ?_⟩) ?_ ?_; rotate_left; (intro w'; go_simp; with_reducible rfl); rotate_left; (simp only [Act.put, ptn]; rfl)))
   refine drq_end ?_
   refine dr_take 3 (some 20) HT HH (v := ?_) (a' := ?_) rfl rfl (by kernel_rfl) (fun _ _ _ h => h) (.inl ⟨by rfl, ?_⟩) ?_ ?_
   rotate_left
   · rintro w' ⟨rs', HS'⟩; have e102999_0 := (HS'.keepc e102999_0); have e102999_1 := (HS'.keepc e102999_1); have e102999_2 := (HS'.keepc e102999_2); have e102999_3 := (HS'.keepc e102999_3); go_simp; with_reducible rfl
   rotate_left
   · simp only [Act.put, ptn]; rfl
   refine drq_of [(4, some 21), (5, some 22), (6, some 23)] ?_
   repeat (first | (refine drq_pure HT (v := ?_) (a' := ?_) rfl rfl (by kernel_rfl) (fun _ _ _ h => h) (.inl ⟨by rfl, ?_⟩) ?_ ?_; rotate_left; (intro w'; go_simp; with_reducible rfl); rotate_left; (simp only [Act.put, ptn]; rfl)))
   refine drq_end ?_
   refine dr_take 7 (some 24) HT HH (v := ?_) (a' := ?_) rfl rfl (by kernel_rfl) (fun _ _ _ h => h) (.inl ⟨by rfl, ?_⟩) ?_ ?_
   rotate_left
   · rintro w' ⟨rs', HS'⟩; have e106999_0 := (HS'.keepc e106999_0); have e106999_1 := (HS'.keepc e106999_1); have e106999_2 := (HS'.keepc e106999_2); have e106999_3 := (HS'.keepc e106999_3); go_simp; with_reducible rfl
   rotate_left
   · simp only [Act.put, ptn]; rfl
   refine dr_one 8 HT rfl (by kernel_rfl) (by decide) (fun K hK => ?_)
   refine goes_ Tryz.func218 (by kernel_rfl) rfl #[.agg #[.int .i64 ((rd_T274 a0 x5).f0), .int .i64 ((rd_T274 a0 x5).f1), .string ((rd_T274 a0 x5).f2), .int .i64 ((rd_T274 a0 x5).f3)], .agg #[.int .i64 ((rd_T274 a1 x5).f0), .int .i64 ((rd_T274 a1 x5).f1), .string ((rd_T274 a1 x5).f2), .int .i64 ((rd_T274 a1 x5).f3)]] (by rfl) rfl rfl (by simp only [mpn]; rfl) ?_; refine (laws_eqWait.calls ht108001.out).mono ?_; rintro _ wt108001 ⟨rfl, HQ⟩; refine ⟨_, rfl, ?_⟩; replace HS := HS.call HQ; clear HQ; (try clear F)
   (try simp only [hpn, hpm] at HS)
   refine hK.out _ _ ⟨_, HS⟩ (fun HH => ?_)
   clear hK K
   refine norm_ (a' := ?_) ?_ ?_
   rotate_left
   · show Act.put _ (some 25) _ = _; simp only [Act.put, ptn]; rfl
   refine drq_of [(9, some 26)] ?_
   repeat (first | (refine drq_pure HT (v := ?_) (a' := ?_) rfl rfl (by kernel_rfl) (fun _ _ _ h => h) (.inl ⟨by rfl, ?_⟩) ?_ ?_; rotate_left; (intro w'; go_simp; with_reducible rfl); rotate_left; (simp only [Act.put, ptn]; rfl)))
   refine drq_end ?_
   refine done_ (done_of HT.out (by kernel_rfl)) ?_
   by_cases c11 : t108001 = true
   case neg =>
    replace H := zneg c11 H
    replace c11 := eq_false_of_ne_true c11
    subst c11
    (try simp only [dcn, if_true, Bool.false_eq_true, if_false])
    obtain rfl := zsome H
    go_wp2
    go_ret
    exact ⟨rfl, HS.pick [] (by decide) (by rfl)⟩
   replace H := zpos c11 H
   subst c11
   (try simp only [dcn, if_true, Bool.false_eq_true, if_false])
   go_wp2
   go_roundg k4
   case measure => have := HKk4.out; omega
   case rel => exact ⟨_, rfl, H, ⟨by have := HKk4.out; omega⟩, HS.pick [] (by decide) (by rfl)⟩
/-! ### laws_eqAnswer: function 258 -/
def laws_eqAnswer.f (k : Nat) (a0 : S273) (a1 : S273) : Option (Bool) := (if a0.f0 = a1.f0 then (if a0.f1 = a1.f1 then ((laws_eqStringS.f k a0.f2 a1.f2).bind fun t7 => (if t7 = true then ((laws_eqStringS.f k a0.f3 a1.f3).bind fun t10 => (if t10 = true then (some true) else (some false))) else (some false))) else (some false)) else (some false))
set_option maxHeartbeats 16000000 in
theorem laws_eqAnswer.calls {k : Nat} {a0 : S273} {a1 : S273} {Ap0 : Option Addr} {np0 cp0 : Nat} {Ap1 : Option Addr} {np1 cp1 : Nat} {Ap2 : Option Addr} {np2 cp2 : Nat} {Ap3 : Option Addr} {np3 cp3 : Nat} {r : Bool} {w : World} (h : laws_eqAnswer.f k a0 a1 = some r) (gp0 : Kd.string.C w Ap0 np0 a0.f2) (lp0 : np0 ≤ cp0) (gp1 : Kd.string.C w Ap1 np1 a0.f3) (lp1 : np1 ≤ cp1) (gp2 : Kd.string.C w Ap2 np2 a1.f2) (lp2 : np2 ≤ cp2) (gp3 : Kd.string.C w Ap3 np3 a1.f3) (lp3 : np3 ≤ cp3) :
    Calls Tryz.prog 258 #[.agg #[.int .i64 a0.f0, .int .i64 a0.f1, .slice Ap0 np0 cp0, .slice Ap1 np1 cp1], .agg #[.int .i64 a1.f0, .int .i64 a1.f1, .slice Ap2 np2 cp2, .slice Ap3 np3 cp3]] w (fun e w' => e = .returned (.bool r) ∧ Hp noFP w w' []) := by
 obtain rfl := C_len gp0
 obtain rfl := C_len gp1
 obtain rfl := C_len gp2
 obtain rfl := C_len gp3
 have HS := Hp.start w
 have H := Aside0.mk h
 clear h
 unfold laws_eqAnswer.f at H
 go_enter Tryz.func258, Tryz.ntmps258
 go_upto_if 9 with (first | ((with_reducible refine gate_dst (N := 2) rfl ?_); refine ev_box rfl HS (by first | (go_simp; done) | (go_simp; rfl)) rfl ?_; clear HS; (try clear F); intro g2 w2 HS; (try simp only [hpn, hpm] at HS); have F := HS.boxes; simp only [bxn] at F) | ((with_reducible refine gate_dst (N := 3) rfl ?_); refine ev_box rfl HS (by first | (go_simp; done) | (go_simp; rfl)) rfl ?_; clear HS; (try clear F); intro g3 w3 HS; (try simp only [hpn, hpm] at HS); have F := HS.boxes; simp only [bxn] at F))
 by_cases c5 : a0.f0 = a1.f0
 case neg =>
  replace H := zneg c5 H
  have c5a := beq_eq_false_iff_ne.mpr c5
  have c5b := bne_iff_ne.mpr c5
  clear c5
  (try simp only [c5a, c5b, dcn])
  obtain rfl := zsome H
  go_wp2
  go_ret
  exact ⟨rfl, HS.pick [] (by decide) (by rfl)⟩
 replace H := zpos c5 H
 have c5a := beq_iff_eq.mpr c5
 have c5b := bne_eq_false_iff_eq.mpr c5
 clear c5
 (try simp only [c5a, c5b, dcn])
 by_cases c6 : a0.f1 = a1.f1
 case neg =>
  replace H := zneg c6 H
  have c6a := beq_eq_false_iff_ne.mpr c6
  have c6b := bne_iff_ne.mpr c6
  clear c6
  obtain rfl := zsome H
  go_wp2
  go_ret
  exact ⟨rfl, HS.pick [] (by decide) (by rfl)⟩
 replace H := zpos c6 H
 have c6a := beq_iff_eq.mpr c6
 have c6b := bne_eq_false_iff_eq.mpr c6
 clear c6
 replace H := zbind H; obtain ⟨t7, ht7, H⟩ := H
 go_upto_if 20 with (first | ((with_reducible refine gate_dst (N := 19) rfl ?_); refine ev_call rfl Tryz.func103 (by kernel_rfl) rfl #[.slice Ap0 a0.f2.length cp0, .slice Ap2 a1.f2.length cp2] rfl (by simp only [mpn]; rfl) ?_; refine (laws_eqStringS.calls ht7.out (HS.ro gp0) lp0 (HS.ro gp2) lp2).mono ?_; rintro _ wt7 ⟨rfl, HQ⟩; refine ⟨_, rfl, ?_⟩; replace HS := HS.call HQ; clear HQ; (try clear F); (try simp only [hpn, hpm] at HS); have F := HS.boxes; simp only [bxn] at F))
 by_cases c9 : t7 = true
 case neg =>
  replace H := zneg c9 H
  replace c9 := eq_false_of_ne_true c9
  subst c9
  (try simp only [dcn, if_true, Bool.false_eq_true, if_false])
  obtain rfl := zsome H
  go_wp2
  go_ret
  exact ⟨rfl, HS.pick [] (by decide) (by rfl)⟩
 replace H := zpos c9 H
 subst c9
 (try simp only [dcn, if_true, Bool.false_eq_true, if_false])
 replace H := zbind H; obtain ⟨t10, ht10, H⟩ := H
 go_upto_if 26 with (first | ((with_reducible refine gate_dst (N := 25) rfl ?_); refine ev_call rfl Tryz.func103 (by kernel_rfl) rfl #[.slice Ap1 a0.f3.length cp1, .slice Ap3 a1.f3.length cp3] rfl (by simp only [mpn]; rfl) ?_; refine (laws_eqStringS.calls ht10.out (HS.ro gp1) lp1 (HS.ro gp3) lp3).mono ?_; rintro _ wt10 ⟨rfl, HQ⟩; refine ⟨_, rfl, ?_⟩; replace HS := HS.call HQ; clear HQ; (try clear F); (try simp only [hpn, hpm] at HS); have F := HS.boxes; simp only [bxn] at F))
 by_cases c12 : t10 = true
 case pos =>
  replace H := zpos c12 H
  subst c12
  (try simp only [dcn, if_true, Bool.false_eq_true, if_false])
  obtain rfl := zsome H
  go_wp2
  go_ret
  exact ⟨rfl, HS.pick [] (by decide) (by rfl)⟩
 replace H := zneg c12 H
 replace c12 := eq_false_of_ne_true c12
 subst c12
 (try simp only [dcn, if_true, Bool.false_eq_true, if_false])
 obtain rfl := zsome H
 go_wp2
 go_ret
 exact ⟨rfl, HS.pick [] (by decide) (by rfl)⟩
/-! ### laws_eqAnswerS: function 245 -/
def laws_eqAnswerS.l0 : Nat → Int → (List S273) → (List S273) → Option (Bool)
  | 0, _, _, _ => none
  | k + 1, x5, a0, a1 => (if x5 < (a0.length : Int) then (if 0 ≤ x5 then (if x5 < (a0.length : Int) then (if x5 < (a1.length : Int) then ((laws_eqAnswer.f k (rd_T273 a0 x5) (rd_T273 a1 x5)).bind fun t108001 => (if t108001 = true then (laws_eqAnswerS.l0 k (wrap64 (x5 + 1)) a0 a1) else (some false))) else none) else none) else none) else (some true))
def laws_eqAnswerS.f (k : Nat) (a0 : (List S273)) (a1 : (List S273)) : Option (Bool) := (if (a0.length : Int) = (a1.length : Int) then (laws_eqAnswerS.l0 k 0 a0 a1) else (some false))
def laws_eqAnswerS.T6 : Bool × List (List Nat × List Nat) := (true, [([], []), ([], []), ([0, 1], [0, 1]), ([2], [2]), ([], []), ([], []), ([4, 5], [4, 5]), ([6], [6]), ([3, 7], [3, 7]), ([8], [8])])
theorem laws_eqAnswerS.tT6 : rtab .any (opsOf Tryz.f245 6) = laws_eqAnswerS.T6 := by kernel_rfl
set_option maxHeartbeats 16000000 in
theorem laws_eqAnswerS.calls {k : Nat} {a0 : (List S273)} {a1 : (List S273)} {Ap0 : Option Addr} {np0 cp0 : Nat} {Ap1 : Option Addr} {np1 cp1 : Nat} {r : Bool} {w : World} (h : laws_eqAnswerS.f k a0 a1 = some r) (gp0 : k273.C w Ap0 np0 a0) (lp0 : np0 ≤ cp0) (gp1 : k273.C w Ap1 np1 a1) (lp1 : np1 ≤ cp1) :
    Calls Tryz.prog 245 #[.slice Ap0 np0 cp0, .slice Ap1 np1 cp1] w (fun e w' => e = .returned (.bool r) ∧ Hp noFP w w' []) := by
 obtain rfl := C_len gp0
 obtain rfl := C_len gp1
 have HS := Hp.start w
 have H := Aside0.mk h
 clear h
 unfold laws_eqAnswerS.f at H
 go_enter Tryz.func245, Tryz.ntmps245
 by_cases c1 : (a0.length : Int) = (a1.length : Int)
 case neg =>
  replace H := zneg c1 H
  have c1a := beq_eq_false_iff_ne.mpr c1
  have c1b := bne_iff_ne.mpr c1
  clear c1
  obtain rfl := zsome H
  go_wp2
  go_ret
  exact ⟨rfl, HS.pick [] (by decide) (by rfl)⟩
 replace H := zpos c1 H
 have c1a := beq_iff_eq.mpr c1
 have c1b := bne_eq_false_iff_eq.mpr c1
 clear c1
 go_wp2
 go_loopg [5] k (fun kq v_5 w' => ∃ (x5 : Int), v_5 = .int .i64 x5 ∧ Aside0 (laws_eqAnswerS.l0 kq x5 a0 a1 = some r) ∧ Aside0 (kq ≤ k) ∧ Hp noFP w w' [])
 case atStart => exact ⟨_, rfl, H, ⟨Nat.le_refl _⟩, HS⟩
 case round =>
  clear HS H; (try clear F)
  obtain ⟨x5, rfl, H, HKk4, HS⟩ := hrel
  cases gk with
  | zero => exact absurd H.out (by simp [laws_eqAnswerS.l0])
  | succ k4 =>
   simp only [laws_eqAnswerS.l0] at H
   by_cases c7 : x5 < (a0.length : Int)
   case neg =>
    replace H := zneg c7 H
    replace c7 := eq_false c7
    obtain rfl := zsome H
    go_wp2
    go_ret
    exact ⟨rfl, HS.pick [] (by decide) (by rfl)⟩
   replace H := zpos c7 H
   replace c7 := eq_true c7
   (try go_wp2)
   by_cases c102001 : 0 ≤ x5
   case neg => exact zno c102001 H
   replace H := zpos c102001 H
   replace c102001 := eq_true c102001
   by_cases c102002 : x5 < (a0.length : Int)
   case neg => exact zno c102002 H
   replace H := zpos c102002 H
   replace c102002 := eq_true c102002
   obtain ⟨ad102999, B102999_2, d102999_2, B102999_3, d102999_3, rfl, e102999_0, e102999_1, e102999_2, e102999_3, m102999_2, y102999_2, m102999_3, y102999_3⟩ := at_T273 gp0 x5 (of_eq_true c102001) (of_eq_true c102002)
   by_cases c106001 : x5 < (a1.length : Int)
   case neg => exact zno c106001 H
   replace H := zpos c106001 H
   replace c106001 := eq_true c106001
   obtain ⟨ad106999, B106999_2, d106999_2, B106999_3, d106999_3, rfl, e106999_0, e106999_1, e106999_2, e106999_3, m106999_2, y106999_2, m106999_3, y106999_3⟩ := at_T273 gp1 x5 (of_eq_true c102001) (of_eq_true c106001)
   replace H := zbind H; obtain ⟨t108001, ht108001, H⟩ := H
   refine dr_start [] HS #[false, false, false, false, false, false, false, false, false, false] (by kernel_rfl) rfl rfl laws_eqAnswerS.tT6 (fun w9 HT HS HH => ?_)
   (try clear F)
   refine drq_of [(0, some 17), (1, some 18), (2, some 19)] ?_
   repeat (first | (refine drq_pure HT (v := ?_) (a' := ?_) rfl rfl (by kernel_rfl) (fun _ _ _ h => h) (.inl ⟨by rfl, ?_⟩) ?_ ?_; rotate_left; (intro w'; go_simp; with_reducible rfl); rotate_left; (simp only [Act.put, ptn]; rfl)))
   refine drq_end ?_
   refine dr_take 3 (some 20) HT HH (v := ?_) (a' := ?_) rfl rfl (by kernel_rfl) (fun _ _ _ h => h) (.inl ⟨by rfl, ?_⟩) ?_ ?_
   rotate_left
   · rintro w' ⟨rs', HS'⟩; have e102999_0 := (HS'.keepc e102999_0); have e102999_1 := (HS'.keepc e102999_1); have e102999_2 := (HS'.keepc e102999_2); have e102999_3 := (HS'.keepc e102999_3); go_simp; with_reducible rfl
   rotate_left
   · simp only [Act.put, ptn]; rfl
   refine drq_of [(4, some 21), (5, some 22), (6, some 23)] ?_
   repeat (first | (refine drq_pure HT (v := ?_) (a' := ?_) rfl rfl (by kernel_rfl) (fun _ _ _ h => h) (.inl ⟨by rfl, ?_⟩) ?_ ?_; rotate_left; (intro w'; go_simp; with_reducible rfl); rotate_left; (simp only [Act.put, ptn]; rfl)))
   refine drq_end ?_
   refine dr_take 7 (some 24) HT HH (v := ?_) (a' := ?_) rfl rfl (by kernel_rfl) (fun _ _ _ h => h) (.inl ⟨by rfl, ?_⟩) ?_ ?_
   rotate_left
   · rintro w' ⟨rs', HS'⟩; have e106999_0 := (HS'.keepc e106999_0); have e106999_1 := (HS'.keepc e106999_1); have e106999_2 := (HS'.keepc e106999_2); have e106999_3 := (HS'.keepc e106999_3); go_simp; with_reducible rfl
   rotate_left
   · simp only [Act.put, ptn]; rfl
   refine dr_one 8 HT rfl (by kernel_rfl) (by decide) (fun K hK => ?_)
   refine goes_ Tryz.func258 (by kernel_rfl) rfl #[.agg #[.int .i64 ((rd_T273 a0 x5).f0), .int .i64 ((rd_T273 a0 x5).f1), .slice B102999_2 (rd_T273 a0 x5).f2.length d102999_2, .slice B102999_3 (rd_T273 a0 x5).f3.length d102999_3], .agg #[.int .i64 ((rd_T273 a1 x5).f0), .int .i64 ((rd_T273 a1 x5).f1), .slice B106999_2 (rd_T273 a1 x5).f2.length d106999_2, .slice B106999_3 (rd_T273 a1 x5).f3.length d106999_3]] (by rfl) rfl rfl (by simp only [mpn]; rfl) ?_; refine (laws_eqAnswer.calls ht108001.out (HS.ro y102999_2) m102999_2 (HS.ro y102999_3) m102999_3 (HS.ro y106999_2) m106999_2 (HS.ro y106999_3) m106999_3).mono ?_; rintro _ wt108001 ⟨rfl, HQ⟩; refine ⟨_, rfl, ?_⟩; replace HS := HS.call HQ; clear HQ; (try clear F)
   (try simp only [hpn, hpm] at HS)
   refine hK.out _ _ ⟨_, HS⟩ (fun HH => ?_)
   clear hK K
   refine norm_ (a' := ?_) ?_ ?_
   rotate_left
   · show Act.put _ (some 25) _ = _; simp only [Act.put, ptn]; rfl
   refine drq_of [(9, some 26)] ?_
   repeat (first | (refine drq_pure HT (v := ?_) (a' := ?_) rfl rfl (by kernel_rfl) (fun _ _ _ h => h) (.inl ⟨by rfl, ?_⟩) ?_ ?_; rotate_left; (intro w'; go_simp; with_reducible rfl); rotate_left; (simp only [Act.put, ptn]; rfl)))
   refine drq_end ?_
   refine done_ (done_of HT.out (by kernel_rfl)) ?_
   by_cases c11 : t108001 = true
   case neg =>
    replace H := zneg c11 H
    replace c11 := eq_false_of_ne_true c11
    subst c11
    (try simp only [dcn, if_true, Bool.false_eq_true, if_false])
    obtain rfl := zsome H
    go_wp2
    go_ret
    exact ⟨rfl, HS.pick [] (by decide) (by rfl)⟩
   replace H := zpos c11 H
   subst c11
   (try simp only [dcn, if_true, Bool.false_eq_true, if_false])
   go_wp2
   go_roundg k4
   case measure => have := HKk4.out; omega
   case rel => exact ⟨_, rfl, H, ⟨by have := HKk4.out; omega⟩, HS.pick [] (by decide) (by rfl)⟩
/-! ### laws_eqReply: function 232 -/
def laws_eqReply.f (k : Nat) (a0 : S221) (a1 : S221) : Option (Bool) := (if a0.f0.toList = a1.f0.toList then (if a0.f1 = a1.f1 then (if a0.f2 = a1.f2 then (if a0.f3 = a1.f3 then (if a0.f4 = a1.f4 then (if a0.f5 = a1.f5 then ((laws_eqAnswerS.f k a0.f6 a1.f6).bind fun t11 => (if t11 = true then (if a0.f7.toList = a1.f7.toList then (some true) else (some false)) else (some false))) else (some false)) else (some false)) else (some false)) else (some false)) else (some false)) else (some false))
set_option maxHeartbeats 16000000 in
theorem laws_eqReply.calls {k : Nat} {a0 : S221} {a1 : S221} {Ap0 : Option Addr} {np0 cp0 : Nat} {Ap1 : Option Addr} {np1 cp1 : Nat} {r : Bool} {w : World} (h : laws_eqReply.f k a0 a1 = some r) (gp0 : k273.C w Ap0 np0 a0.f6) (lp0 : np0 ≤ cp0) (gp1 : k273.C w Ap1 np1 a1.f6) (lp1 : np1 ≤ cp1) :
    Calls Tryz.prog 232 #[.agg #[.string a0.f0, .int .i64 a0.f1, .int .i64 a0.f2, .int .i64 a0.f3, .int .i64 a0.f4, .int .i64 a0.f5, .slice Ap0 np0 cp0, .string a0.f7], .agg #[.string a1.f0, .int .i64 a1.f1, .int .i64 a1.f2, .int .i64 a1.f3, .int .i64 a1.f4, .int .i64 a1.f5, .slice Ap1 np1 cp1, .string a1.f7]] w (fun e w' => e = .returned (.bool r) ∧ Hp noFP w w' []) := by
 obtain rfl := C_len gp0
 obtain rfl := C_len gp1
 have HS := Hp.start w
 have H := Aside0.mk h
 clear h
 unfold laws_eqReply.f at H
 go_enter Tryz.func232, Tryz.ntmps232
 go_upto_if 9 with (first | ((with_reducible refine gate_dst (N := 2) rfl ?_); refine ev_box rfl HS (by first | (go_simp; done) | (go_simp; rfl)) rfl ?_; clear HS; (try clear F); intro g2 w2 HS; (try simp only [hpn, hpm] at HS); have F := HS.boxes; simp only [bxn] at F) | ((with_reducible refine gate_dst (N := 3) rfl ?_); refine ev_box rfl HS (by first | (go_simp; done) | (go_simp; rfl)) rfl ?_; clear HS; (try clear F); intro g3 w3 HS; (try simp only [hpn, hpm] at HS); have F := HS.boxes; simp only [bxn] at F))
 by_cases c5 : a0.f0.toList = a1.f0.toList
 case neg =>
  replace H := zneg c5 H
  have c5a := beq_eq_false_iff_ne.mpr c5
  have c5b := bne_iff_ne.mpr c5
  clear c5
  (try simp only [c5a, c5b, dcn])
  obtain rfl := zsome H
  go_wp2
  go_ret
  exact ⟨rfl, HS.pick [] (by decide) (by rfl)⟩
 replace H := zpos c5 H
 have c5a := beq_iff_eq.mpr c5
 have c5b := bne_eq_false_iff_eq.mpr c5
 clear c5
 (try simp only [c5a, c5b, dcn])
 by_cases c6 : a0.f1 = a1.f1
 case neg =>
  replace H := zneg c6 H
  have c6a := beq_eq_false_iff_ne.mpr c6
  have c6b := bne_iff_ne.mpr c6
  clear c6
  obtain rfl := zsome H
  go_wp2
  go_ret
  exact ⟨rfl, HS.pick [] (by decide) (by rfl)⟩
 replace H := zpos c6 H
 have c6a := beq_iff_eq.mpr c6
 have c6b := bne_eq_false_iff_eq.mpr c6
 clear c6
 by_cases c7 : a0.f2 = a1.f2
 case neg =>
  replace H := zneg c7 H
  have c7a := beq_eq_false_iff_ne.mpr c7
  have c7b := bne_iff_ne.mpr c7
  clear c7
  obtain rfl := zsome H
  go_wp2
  go_ret
  exact ⟨rfl, HS.pick [] (by decide) (by rfl)⟩
 replace H := zpos c7 H
 have c7a := beq_iff_eq.mpr c7
 have c7b := bne_eq_false_iff_eq.mpr c7
 clear c7
 by_cases c8 : a0.f3 = a1.f3
 case neg =>
  replace H := zneg c8 H
  have c8a := beq_eq_false_iff_ne.mpr c8
  have c8b := bne_iff_ne.mpr c8
  clear c8
  obtain rfl := zsome H
  go_wp2
  go_ret
  exact ⟨rfl, HS.pick [] (by decide) (by rfl)⟩
 replace H := zpos c8 H
 have c8a := beq_iff_eq.mpr c8
 have c8b := bne_eq_false_iff_eq.mpr c8
 clear c8
 by_cases c9 : a0.f4 = a1.f4
 case neg =>
  replace H := zneg c9 H
  have c9a := beq_eq_false_iff_ne.mpr c9
  have c9b := bne_iff_ne.mpr c9
  clear c9
  obtain rfl := zsome H
  go_wp2
  go_ret
  exact ⟨rfl, HS.pick [] (by decide) (by rfl)⟩
 replace H := zpos c9 H
 have c9a := beq_iff_eq.mpr c9
 have c9b := bne_eq_false_iff_eq.mpr c9
 clear c9
 by_cases c10 : a0.f5 = a1.f5
 case neg =>
  replace H := zneg c10 H
  have c10a := beq_eq_false_iff_ne.mpr c10
  have c10b := bne_iff_ne.mpr c10
  clear c10
  obtain rfl := zsome H
  go_wp2
  go_ret
  exact ⟨rfl, HS.pick [] (by decide) (by rfl)⟩
 replace H := zpos c10 H
 have c10a := beq_iff_eq.mpr c10
 have c10b := bne_eq_false_iff_eq.mpr c10
 clear c10
 replace H := zbind H; obtain ⟨t11, ht11, H⟩ := H
 go_upto_if 40 with (first | ((with_reducible refine gate_dst (N := 39) rfl ?_); refine ev_call rfl Tryz.func245 (by kernel_rfl) rfl #[.slice Ap0 a0.f6.length cp0, .slice Ap1 a1.f6.length cp1] rfl (by simp only [mpn]; rfl) ?_; refine (laws_eqAnswerS.calls ht11.out (HS.ro gp0) lp0 (HS.ro gp1) lp1).mono ?_; rintro _ wt11 ⟨rfl, HQ⟩; refine ⟨_, rfl, ?_⟩; replace HS := HS.call HQ; clear HQ; (try clear F); (try simp only [hpn, hpm] at HS); have F := HS.boxes; simp only [bxn] at F))
 by_cases c13 : t11 = true
 case neg =>
  replace H := zneg c13 H
  replace c13 := eq_false_of_ne_true c13
  subst c13
  (try simp only [dcn, if_true, Bool.false_eq_true, if_false])
  obtain rfl := zsome H
  go_wp2
  go_ret
  exact ⟨rfl, HS.pick [] (by decide) (by rfl)⟩
 replace H := zpos c13 H
 subst c13
 (try simp only [dcn, if_true, Bool.false_eq_true, if_false])
 by_cases c14 : a0.f7.toList = a1.f7.toList
 case neg =>
  replace H := zneg c14 H
  have c14a := beq_eq_false_iff_ne.mpr c14
  have c14b := bne_iff_ne.mpr c14
  clear c14
  obtain rfl := zsome H
  go_wp2
  go_ret
  exact ⟨rfl, HS.pick [] (by decide) (by rfl)⟩
 replace H := zpos c14 H
 have c14a := beq_iff_eq.mpr c14
 have c14b := bne_eq_false_iff_eq.mpr c14
 clear c14
 obtain rfl := zsome H
 go_wp2
 go_ret
 exact ⟨rfl, HS.pick [] (by decide) (by rfl)⟩
/-! ### laws_eqGot: function 219 -/
def laws_eqGot.f (k : Nat) (a0 : S223) (a1 : S223) : Option (Bool) := (if a0.f0 = a1.f0 then ((laws_eqReply.f k a0.f1 a1.f1).bind fun t6 => (if t6 = true then (some true) else (some false))) else (some false))
set_option maxHeartbeats 16000000 in
theorem laws_eqGot.calls {k : Nat} {a0 : S223} {a1 : S223} {Ap0 : Option Addr} {np0 cp0 : Nat} {Ap1 : Option Addr} {np1 cp1 : Nat} {r : Bool} {w : World} (h : laws_eqGot.f k a0 a1 = some r) (gp0 : k273.C w Ap0 np0 a0.f1.f6) (lp0 : np0 ≤ cp0) (gp1 : k273.C w Ap1 np1 a1.f1.f6) (lp1 : np1 ≤ cp1) :
    Calls Tryz.prog 219 #[.agg #[.int .i64 a0.f0, .string a0.f1.f0, .int .i64 a0.f1.f1, .int .i64 a0.f1.f2, .int .i64 a0.f1.f3, .int .i64 a0.f1.f4, .int .i64 a0.f1.f5, .slice Ap0 np0 cp0, .string a0.f1.f7], .agg #[.int .i64 a1.f0, .string a1.f1.f0, .int .i64 a1.f1.f1, .int .i64 a1.f1.f2, .int .i64 a1.f1.f3, .int .i64 a1.f1.f4, .int .i64 a1.f1.f5, .slice Ap1 np1 cp1, .string a1.f1.f7]] w (fun e w' => e = .returned (.bool r) ∧ Hp noFP w w' []) := by
 obtain rfl := C_len gp0
 obtain rfl := C_len gp1
 have HS := Hp.start w
 have H := Aside0.mk h
 clear h
 unfold laws_eqGot.f at H
 go_enter Tryz.func219, Tryz.ntmps219
 go_upto_if 9 with (first | ((with_reducible refine gate_dst (N := 2) rfl ?_); refine ev_box rfl HS (by first | (go_simp; done) | (go_simp; rfl)) rfl ?_; clear HS; (try clear F); intro g2 w2 HS; (try simp only [hpn, hpm] at HS); have F := HS.boxes; simp only [bxn] at F) | ((with_reducible refine gate_dst (N := 3) rfl ?_); refine ev_box rfl HS (by first | (go_simp; done) | (go_simp; rfl)) rfl ?_; clear HS; (try clear F); intro g3 w3 HS; (try simp only [hpn, hpm] at HS); have F := HS.boxes; simp only [bxn] at F))
 by_cases c5 : a0.f0 = a1.f0
 case neg =>
  replace H := zneg c5 H
  have c5a := beq_eq_false_iff_ne.mpr c5
  have c5b := bne_iff_ne.mpr c5
  clear c5
  (try simp only [c5a, c5b, dcn])
  obtain rfl := zsome H
  go_wp2
  go_ret
  exact ⟨rfl, HS.pick [] (by decide) (by rfl)⟩
 replace H := zpos c5 H
 have c5a := beq_iff_eq.mpr c5
 have c5b := bne_eq_false_iff_eq.mpr c5
 clear c5
 (try simp only [c5a, c5b, dcn])
 replace H := zbind H; obtain ⟨t6, ht6, H⟩ := H
 go_upto_if 15 with (first | ((with_reducible refine gate_dst (N := 14) rfl ?_); refine ev_call rfl Tryz.func232 (by kernel_rfl) rfl #[.agg #[.string a0.f1.f0, .int .i64 a0.f1.f1, .int .i64 a0.f1.f2, .int .i64 a0.f1.f3, .int .i64 a0.f1.f4, .int .i64 a0.f1.f5, .slice Ap0 a0.f1.f6.length cp0, .string a0.f1.f7], .agg #[.string a1.f1.f0, .int .i64 a1.f1.f1, .int .i64 a1.f1.f2, .int .i64 a1.f1.f3, .int .i64 a1.f1.f4, .int .i64 a1.f1.f5, .slice Ap1 a1.f1.f6.length cp1, .string a1.f1.f7]] rfl (by simp only [mpn]; rfl) ?_; refine (laws_eqReply.calls ht6.out (HS.ro gp0) lp0 (HS.ro gp1) lp1).mono ?_; rintro _ wt6 ⟨rfl, HQ⟩; refine ⟨_, rfl, ?_⟩; replace HS := HS.call HQ; clear HQ; (try clear F); (try simp only [hpn, hpm] at HS); have F := HS.boxes; simp only [bxn] at F))
 by_cases c8 : t6 = true
 case pos =>
  replace H := zpos c8 H
  subst c8
  (try simp only [dcn, if_true, Bool.false_eq_true, if_false])
  obtain rfl := zsome H
  go_wp2
  go_ret
  exact ⟨rfl, HS.pick [] (by decide) (by rfl)⟩
 replace H := zneg c8 H
 replace c8 := eq_false_of_ne_true c8
 subst c8
 (try simp only [dcn, if_true, Bool.false_eq_true, if_false])
 obtain rfl := zsome H
 go_wp2
 go_ret
 exact ⟨rfl, HS.pick [] (by decide) (by rfl)⟩
/-! ### laws_eqGotS: function 172 -/
def laws_eqGotS.l0 : Nat → Int → (List S223) → (List S223) → Option (Bool)
  | 0, _, _, _ => none
  | k + 1, x5, a0, a1 => (if x5 < (a0.length : Int) then (if 0 ≤ x5 then (if x5 < (a0.length : Int) then (if x5 < (a1.length : Int) then ((laws_eqGot.f k (rd_T223 a0 x5) (rd_T223 a1 x5)).bind fun t108001 => (if t108001 = true then (laws_eqGotS.l0 k (wrap64 (x5 + 1)) a0 a1) else (some false))) else none) else none) else none) else (some true))
def laws_eqGotS.f (k : Nat) (a0 : (List S223)) (a1 : (List S223)) : Option (Bool) := (if (a0.length : Int) = (a1.length : Int) then (laws_eqGotS.l0 k 0 a0 a1) else (some false))
def laws_eqGotS.T6 : Bool × List (List Nat × List Nat) := (true, [([], []), ([], []), ([0, 1], [0, 1]), ([2], [2]), ([], []), ([], []), ([4, 5], [4, 5]), ([6], [6]), ([3, 7], [3, 7]), ([8], [8])])
theorem laws_eqGotS.tT6 : rtab .any (opsOf Tryz.f172 6) = laws_eqGotS.T6 := by kernel_rfl
set_option maxHeartbeats 16000000 in
theorem laws_eqGotS.calls {k : Nat} {a0 : (List S223)} {a1 : (List S223)} {Ap0 : Option Addr} {np0 cp0 : Nat} {Ap1 : Option Addr} {np1 cp1 : Nat} {r : Bool} {w : World} (h : laws_eqGotS.f k a0 a1 = some r) (gp0 : k223.C w Ap0 np0 a0) (lp0 : np0 ≤ cp0) (gp1 : k223.C w Ap1 np1 a1) (lp1 : np1 ≤ cp1) :
    Calls Tryz.prog 172 #[.slice Ap0 np0 cp0, .slice Ap1 np1 cp1] w (fun e w' => e = .returned (.bool r) ∧ Hp noFP w w' []) := by
 obtain rfl := C_len gp0
 obtain rfl := C_len gp1
 have HS := Hp.start w
 have H := Aside0.mk h
 clear h
 unfold laws_eqGotS.f at H
 go_enter Tryz.func172, Tryz.ntmps172
 by_cases c1 : (a0.length : Int) = (a1.length : Int)
 case neg =>
  replace H := zneg c1 H
  have c1a := beq_eq_false_iff_ne.mpr c1
  have c1b := bne_iff_ne.mpr c1
  clear c1
  obtain rfl := zsome H
  go_wp2
  go_ret
  exact ⟨rfl, HS.pick [] (by decide) (by rfl)⟩
 replace H := zpos c1 H
 have c1a := beq_iff_eq.mpr c1
 have c1b := bne_eq_false_iff_eq.mpr c1
 clear c1
 go_wp2
 go_loopg [5] k (fun kq v_5 w' => ∃ (x5 : Int), v_5 = .int .i64 x5 ∧ Aside0 (laws_eqGotS.l0 kq x5 a0 a1 = some r) ∧ Aside0 (kq ≤ k) ∧ Hp noFP w w' [])
 case atStart => exact ⟨_, rfl, H, ⟨Nat.le_refl _⟩, HS⟩
 case round =>
  clear HS H; (try clear F)
  obtain ⟨x5, rfl, H, HKk4, HS⟩ := hrel
  cases gk with
  | zero => exact absurd H.out (by simp [laws_eqGotS.l0])
  | succ k4 =>
   simp only [laws_eqGotS.l0] at H
   by_cases c7 : x5 < (a0.length : Int)
   case neg =>
    replace H := zneg c7 H
    replace c7 := eq_false c7
    obtain rfl := zsome H
    go_wp2
    go_ret
    exact ⟨rfl, HS.pick [] (by decide) (by rfl)⟩
   replace H := zpos c7 H
   replace c7 := eq_true c7
   (try go_wp2)
   by_cases c102001 : 0 ≤ x5
   case neg => exact zno c102001 H
   replace H := zpos c102001 H
   replace c102001 := eq_true c102001
   by_cases c102002 : x5 < (a0.length : Int)
   case neg => exact zno c102002 H
   replace H := zpos c102002 H
   replace c102002 := eq_true c102002
   obtain ⟨ad102999, B102999_7, d102999_7, rfl, e102999_0, e102999_1, e102999_2, e102999_3, e102999_4, e102999_5, e102999_6, e102999_7, e102999_8, m102999_7, y102999_7⟩ := at_T223 gp0 x5 (of_eq_true c102001) (of_eq_true c102002)
   by_cases c106001 : x5 < (a1.length : Int)
   case neg => exact zno c106001 H
   replace H := zpos c106001 H
   replace c106001 := eq_true c106001
   obtain ⟨ad106999, B106999_7, d106999_7, rfl, e106999_0, e106999_1, e106999_2, e106999_3, e106999_4, e106999_5, e106999_6, e106999_7, e106999_8, m106999_7, y106999_7⟩ := at_T223 gp1 x5 (of_eq_true c102001) (of_eq_true c106001)
   replace H := zbind H; obtain ⟨t108001, ht108001, H⟩ := H
   refine dr_start [] HS #[false, false, false, false, false, false, false, false, false, false] (by kernel_rfl) rfl rfl laws_eqGotS.tT6 (fun w9 HT HS HH => ?_)
   (try clear F)
   refine drq_of [(0, some 17), (1, some 18), (2, some 19)] ?_
   repeat (first | (refine drq_pure HT (v := ?_) (a' := ?_) rfl rfl (by kernel_rfl) (fun _ _ _ h => h) (.inl ⟨by rfl, ?_⟩) ?_ ?_; rotate_left; (intro w'; go_simp; with_reducible rfl); rotate_left; (simp only [Act.put, ptn]; rfl)))
   refine drq_end ?_
   refine dr_take 3 (some 20) HT HH (v := ?_) (a' := ?_) rfl rfl (by kernel_rfl) (fun _ _ _ h => h) (.inl ⟨by rfl, ?_⟩) ?_ ?_
   rotate_left
   · rintro w' ⟨rs', HS'⟩; have e102999_0 := (HS'.keepc e102999_0); have e102999_1 := (HS'.keepc e102999_1); have e102999_2 := (HS'.keepc e102999_2); have e102999_3 := (HS'.keepc e102999_3); have e102999_4 := (HS'.keepc e102999_4); have e102999_5 := (HS'.keepc e102999_5); have e102999_6 := (HS'.keepc e102999_6); have e102999_7 := (HS'.keepc e102999_7); have e102999_8 := (HS'.keepc e102999_8); go_simp; with_reducible rfl
   rotate_left
   · simp only [Act.put, ptn]; rfl
   refine drq_of [(4, some 21), (5, some 22), (6, some 23)] ?_
   repeat (first | (refine drq_pure HT (v := ?_) (a' := ?_) rfl rfl (by kernel_rfl) (fun _ _ _ h => h) (.inl ⟨by rfl, ?_⟩) ?_ ?_; rotate_left; (intro w'; go_simp; with_reducible rfl); rotate_left; (simp only [Act.put, ptn]; rfl)))
   refine drq_end ?_
   refine dr_take 7 (some 24) HT HH (v := ?_) (a' := ?_) rfl rfl (by kernel_rfl) (fun _ _ _ h => h) (.inl ⟨by rfl, ?_⟩) ?_ ?_
   rotate_left
   · rintro w' ⟨rs', HS'⟩; have e106999_0 := (HS'.keepc e106999_0); have e106999_1 := (HS'.keepc e106999_1); have e106999_2 := (HS'.keepc e106999_2); have e106999_3 := (HS'.keepc e106999_3); have e106999_4 := (HS'.keepc e106999_4); have e106999_5 := (HS'.keepc e106999_5); have e106999_6 := (HS'.keepc e106999_6); have e106999_7 := (HS'.keepc e106999_7); have e106999_8 := (HS'.keepc e106999_8); go_simp; with_reducible rfl
   rotate_left
   · simp only [Act.put, ptn]; rfl
   refine dr_one 8 HT rfl (by kernel_rfl) (by decide) (fun K hK => ?_)
   refine goes_ Tryz.func219 (by kernel_rfl) rfl #[.agg #[.int .i64 ((rd_T223 a0 x5).f0), .string ((rd_T223 a0 x5).f1.f0), .int .i64 ((rd_T223 a0 x5).f1.f1), .int .i64 ((rd_T223 a0 x5).f1.f2), .int .i64 ((rd_T223 a0 x5).f1.f3), .int .i64 ((rd_T223 a0 x5).f1.f4), .int .i64 ((rd_T223 a0 x5).f1.f5), .slice B102999_7 (rd_T223 a0 x5).f1.f6.length d102999_7, .string ((rd_T223 a0 x5).f1.f7)], .agg #[.int .i64 ((rd_T223 a1 x5).f0), .string ((rd_T223 a1 x5).f1.f0), .int .i64 ((rd_T223 a1 x5).f1.f1), .int .i64 ((rd_T223 a1 x5).f1.f2), .int .i64 ((rd_T223 a1 x5).f1.f3), .int .i64 ((rd_T223 a1 x5).f1.f4), .int .i64 ((rd_T223 a1 x5).f1.f5), .slice B106999_7 (rd_T223 a1 x5).f1.f6.length d106999_7, .string ((rd_T223 a1 x5).f1.f7)]] (by rfl) rfl rfl (by simp only [mpn]; rfl) ?_; refine (laws_eqGot.calls ht108001.out (HS.ro y102999_7) m102999_7 (HS.ro y106999_7) m106999_7).mono ?_; rintro _ wt108001 ⟨rfl, HQ⟩; refine ⟨_, rfl, ?_⟩; replace HS := HS.call HQ; clear HQ; (try clear F)
   (try simp only [hpn, hpm] at HS)
   refine hK.out _ _ ⟨_, HS⟩ (fun HH => ?_)
   clear hK K
   refine norm_ (a' := ?_) ?_ ?_
   rotate_left
   · show Act.put _ (some 25) _ = _; simp only [Act.put, ptn]; rfl
   refine drq_of [(9, some 26)] ?_
   repeat (first | (refine drq_pure HT (v := ?_) (a' := ?_) rfl rfl (by kernel_rfl) (fun _ _ _ h => h) (.inl ⟨by rfl, ?_⟩) ?_ ?_; rotate_left; (intro w'; go_simp; with_reducible rfl); rotate_left; (simp only [Act.put, ptn]; rfl)))
   refine drq_end ?_
   refine done_ (done_of HT.out (by kernel_rfl)) ?_
   by_cases c11 : t108001 = true
   case neg =>
    replace H := zneg c11 H
    replace c11 := eq_false_of_ne_true c11
    subst c11
    (try simp only [dcn, if_true, Bool.false_eq_true, if_false])
    obtain rfl := zsome H
    go_wp2
    go_ret
    exact ⟨rfl, HS.pick [] (by decide) (by rfl)⟩
   replace H := zpos c11 H
   subst c11
   (try simp only [dcn, if_true, Bool.false_eq_true, if_false])
   go_wp2
   go_roundg k4
   case measure => have := HKk4.out; omega
   case rel => exact ⟨_, rfl, H, ⟨by have := HKk4.out; omega⟩, HS.pick [] (by decide) (by rfl)⟩
end Go.Proofs.YtacocpknielofaaGreatDoor.F

/- Functions of the program and of the law, and that their calls do what is written here. -/
import Derived.Test.YtnpokacipeobdaaDoorZgFnExactCertOka
import Derived.Test.YtnpokacipeobdaaDoorZgFnExactCertOkb
import Derived.Test.YtnpokacipeobdaaDoorZgFnExactCertOkc
namespace Go.Proofs.YtnpokacipeobdaaDoor.F
open Go.RowKit Go.Proofs.YtnpokacipeobdaaDoorW.PrintWords Go.Proofs.YtnpokacipeobdaaDoorW.PrintLast Go.Proofs.YtnpokacipeobdaaDoorW.PrintMore Go.Proofs.YtnpokacipeobdaaDoor.Z
attribute [local go_sem] max2_int min2_int max_two min_two max_three min_three max_four min_four
set_option linter.unusedVariables false
set_option linter.unusedSimpArgs false
set_option maxRecDepth 100000
/-! ### laws_eqStringS: function 55 -/
def laws_eqStringS.l0 : Nat → Int → (List ByteArray) → (List ByteArray) → Option (Bool)
  | 0, _, _, _ => none
  | k + 1, x5, a0, a1 => (if x5 < (a0.length : Int) then (if 0 ≤ x5 then (if x5 < (a0.length : Int) then (if x5 < (a1.length : Int) then (if (rdOf ByteArray.empty a0 x5).toList = (rdOf ByteArray.empty a1 x5).toList then (laws_eqStringS.l0 k (wrap64 (x5 + 1)) a0 a1) else (some false)) else none) else none) else none) else (some true))
def laws_eqStringS.f (k : Nat) (a0 : (List ByteArray)) (a1 : (List ByteArray)) : Option (Bool) := (if (a0.length : Int) = (a1.length : Int) then (laws_eqStringS.l0 k 0 a0 a1) else (some false))
def laws_eqStringS.T6 : Bool × List (List Nat × List Nat) := (true, [([], []), ([], []), ([0, 1], [0, 1]), ([2], [2]), ([], []), ([], []), ([4, 5], [4, 5]), ([6], [6]), ([3, 7], [3, 7])])
theorem laws_eqStringS.tT6 : rtab .any (opsOf Tryd.f55 6) = laws_eqStringS.T6 := by kernel_rfl
set_option maxHeartbeats 16000000 in
theorem laws_eqStringS.calls {k : Nat} {a0 : (List ByteArray)} {a1 : (List ByteArray)} {Ap0 : Option Addr} {np0 cp0 : Nat} {Ap1 : Option Addr} {np1 cp1 : Nat} {r : Bool} {w : World} (h : laws_eqStringS.f k a0 a1 = some r) (gp0 : Kd.string.C w Ap0 np0 a0) (lp0 : np0 ≤ cp0) (gp1 : Kd.string.C w Ap1 np1 a1) (lp1 : np1 ≤ cp1) :
    Calls Tryd.prog 55 #[.slice Ap0 np0 cp0, .slice Ap1 np1 cp1] w (fun e w' => e = .returned (.bool r) ∧ Hp noFP w w' []) := by
 obtain rfl := C_len gp0
 obtain rfl := C_len gp1
 have HS := Hp.start w
 have H := Aside0.mk h
 clear h
 unfold laws_eqStringS.f at H
 go_enter Tryd.func55, Tryd.ntmps55
 by_cases c1 : (a0.length : Int) = (a1.length : Int)
 case neg =>
  replace H := zneg c1 H
  have c1a := beq_eq_false_iff_ne.mpr c1
  have c1b := bne_iff_ne.mpr c1
  clear c1
  obtain rfl := zsome H
  go_wp2
  go_ret
  exact ⟨rfl, HS.pick [] (by decide) (by rfl)⟩
 replace H := zpos c1 H
 have c1a := beq_iff_eq.mpr c1
 have c1b := bne_eq_false_iff_eq.mpr c1
 clear c1
 go_wp2
 go_loopg [5] k (fun kq v_5 w' => ∃ (x5 : Int), v_5 = .int .i64 x5 ∧ Aside0 (laws_eqStringS.l0 kq x5 a0 a1 = some r) ∧ Aside0 (kq ≤ k) ∧ Hp noFP w w' [])
 case atStart => exact ⟨_, rfl, H, ⟨Nat.le_refl _⟩, HS⟩
 case round =>
  clear HS H; (try clear F)
  obtain ⟨x5, rfl, H, HKk4, HS⟩ := hrel
  cases gk with
  | zero => exact absurd H.out (by simp [laws_eqStringS.l0])
  | succ k4 =>
   simp only [laws_eqStringS.l0] at H
   by_cases c7 : x5 < (a0.length : Int)
   case neg =>
    replace H := zneg c7 H
    replace c7 := eq_false c7
    obtain rfl := zsome H
    go_wp2
    go_ret
    exact ⟨rfl, HS.pick [] (by decide) (by rfl)⟩
   replace H := zpos c7 H
   replace c7 := eq_true c7
   (try go_wp2)
   by_cases c102001 : 0 ≤ x5
   case neg => exact zno c102001 H
   replace H := zpos c102001 H
   replace c102001 := eq_true c102001
   by_cases c102002 : x5 < (a0.length : Int)
   case neg => exact zno c102002 H
   replace H := zpos c102002 H
   replace c102002 := eq_true c102002
   obtain ⟨ad102999, rfl, e102999_0⟩ := Kd.at_string gp0 x5 (of_eq_true c102001) (of_eq_true c102002)
   by_cases c106001 : x5 < (a1.length : Int)
   case neg => exact zno c106001 H
   replace H := zpos c106001 H
   replace c106001 := eq_true c106001
   obtain ⟨ad106999, rfl, e106999_0⟩ := Kd.at_string gp1 x5 (of_eq_true c102001) (of_eq_true c106001)
   refine dr_start [] HS #[false, false, false, false, false, false, false, false, false] (by kernel_rfl) rfl rfl laws_eqStringS.tT6 (fun w9 HT HS HH => ?_)
   (try clear F)
   refine drq_of [(0, some 17), (1, some 18), (2, some 19)] ?_
   repeat (first | (refine drq_pure HT (v := ?_) (a' := ?_) rfl rfl (by kernel_rfl) (fun _ _ _ h => h) (.inl ⟨by rfl, ?_⟩) ?_ ?_; rotate_left; (intro w'; go_simp; with_reducible rfl); rotate_left; (simp only [Act.put, ptn]; rfl)))
   refine drq_end ?_
   refine dr_take 3 (some 20) HT HH (v := ?_) (a' := ?_) rfl rfl (by kernel_rfl) (fun _ _ _ h => h) (.inl ⟨by rfl, ?_⟩) ?_ ?_
   rotate_left
   · rintro w' ⟨rs', HS'⟩; have e102999_0 := (HS'.keepc e102999_0); go_simp; with_reducible rfl
   rotate_left
   · simp only [Act.put, ptn]; rfl
   refine drq_of [(4, some 21), (5, some 22), (6, some 23)] ?_
   repeat (first | (refine drq_pure HT (v := ?_) (a' := ?_) rfl rfl (by kernel_rfl) (fun _ _ _ h => h) (.inl ⟨by rfl, ?_⟩) ?_ ?_; rotate_left; (intro w'; go_simp; with_reducible rfl); rotate_left; (simp only [Act.put, ptn]; rfl)))
   refine drq_end ?_
   refine dr_take 7 (some 24) HT HH (v := ?_) (a' := ?_) rfl rfl (by kernel_rfl) (fun _ _ _ h => h) (.inl ⟨by rfl, ?_⟩) ?_ ?_
   rotate_left
   · rintro w' ⟨rs', HS'⟩; have e106999_0 := (HS'.keepc e106999_0); go_simp; with_reducible rfl
   rotate_left
   · simp only [Act.put, ptn]; rfl
   refine drq_of [(8, some 25)] ?_
   repeat (first | (refine drq_pure HT (v := ?_) (a' := ?_) rfl rfl (by kernel_rfl) (fun _ _ _ h => h) (.inl ⟨by rfl, ?_⟩) ?_ ?_; rotate_left; (intro w'; go_simp; with_reducible rfl); rotate_left; (simp only [Act.put, ptn]; rfl)))
   refine drq_end ?_
   refine done_ (done_of HT.out (by kernel_rfl)) ?_
   by_cases c11 : (rdOf ByteArray.empty a0 x5).toList = (rdOf ByteArray.empty a1 x5).toList
   case neg =>
    replace H := zneg c11 H
    have c11a := beq_eq_false_iff_ne.mpr c11
    have c11b := bne_iff_ne.mpr c11
    clear c11
    (try simp only [c11a, c11b, dcn])
    obtain rfl := zsome H
    go_wp2
    go_ret
    exact ⟨rfl, HS.pick [] (by decide) (by rfl)⟩
   replace H := zpos c11 H
   have c11a := beq_iff_eq.mpr c11
   have c11b := bne_eq_false_iff_eq.mpr c11
   clear c11
   (try simp only [c11a, c11b, dcn])
   go_wp2
   go_roundg k4
   case measure => have := HKk4.out; omega
   case rel => exact ⟨_, rfl, H, ⟨by have := HKk4.out; omega⟩, HS.pick [] (by decide) (by rfl)⟩
/-! ### laws_eqCert: function 22 -/
def laws_eqCert.f (k : Nat) (a0 : S50) (a1 : S50) : Option (Bool) := (if a0.f0 = a1.f0 then (if a0.f1.toList = a1.f1.toList then (if a0.f2.toList = a1.f2.toList then (if a0.f3 = a1.f3 then (if a0.f4 = a1.f4 then (if a0.f5.toList = a1.f5.toList then (if a0.f6 = a1.f6 then (if a0.f7 = a1.f7 then (if a0.f8 = a1.f8 then ((laws_eqIntS.f k a0.f9 a1.f9).bind fun t14 => (if t14 = true then ((laws_eqStringS.f k a0.f10 a1.f10).bind fun t17 => (if t17 = true then ((laws_eqStringS.f k a0.f11 a1.f11).bind fun t20 => (if t20 = true then (if a0.f12.toList = a1.f12.toList then (some true) else (some false)) else (some false))) else (some false))) else (some false))) else (some false)) else (some false)) else (some false)) else (some false)) else (some false)) else (some false)) else (some false)) else (some false)) else (some false))
set_option maxHeartbeats 16000000 in
theorem laws_eqCert.calls {k : Nat} {a0 : S50} {a1 : S50} {Ap0 : Option Addr} {np0 cp0 : Nat} {Ap1 : Option Addr} {np1 cp1 : Nat} {Ap2 : Option Addr} {np2 cp2 : Nat} {Ap3 : Option Addr} {np3 cp3 : Nat} {Ap4 : Option Addr} {np4 cp4 : Nat} {Ap5 : Option Addr} {np5 cp5 : Nat} {r : Bool} {w : World} (h : laws_eqCert.f k a0 a1 = some r) (gp0 : (Kd.int .i64).C w Ap0 np0 a0.f9) (lp0 : np0 ≤ cp0) (gp1 : Kd.string.C w Ap1 np1 a0.f10) (lp1 : np1 ≤ cp1) (gp2 : Kd.string.C w Ap2 np2 a0.f11) (lp2 : np2 ≤ cp2) (gp3 : (Kd.int .i64).C w Ap3 np3 a1.f9) (lp3 : np3 ≤ cp3) (gp4 : Kd.string.C w Ap4 np4 a1.f10) (lp4 : np4 ≤ cp4) (gp5 : Kd.string.C w Ap5 np5 a1.f11) (lp5 : np5 ≤ cp5) :
    Calls Tryd.prog 22 #[.agg #[.int .i64 a0.f0, .string a0.f1, .string a0.f2, .int .i64 a0.f3, .int .i64 a0.f4, .string a0.f5, .bool a0.f6, .int .i64 a0.f7, .int .i64 a0.f8, .slice Ap0 np0 cp0, .slice Ap1 np1 cp1, .slice Ap2 np2 cp2, .string a0.f12], .agg #[.int .i64 a1.f0, .string a1.f1, .string a1.f2, .int .i64 a1.f3, .int .i64 a1.f4, .string a1.f5, .bool a1.f6, .int .i64 a1.f7, .int .i64 a1.f8, .slice Ap3 np3 cp3, .slice Ap4 np4 cp4, .slice Ap5 np5 cp5, .string a1.f12]] w (fun e w' => e = .returned (.bool r) ∧ Hp noFP w w' []) := by
 obtain rfl := C_len gp0
 obtain rfl := C_len gp1
 obtain rfl := C_len gp2
 obtain rfl := C_len gp3
 obtain rfl := C_len gp4
 obtain rfl := C_len gp5
 have HS := Hp.start w
 have H := Aside0.mk h
 clear h
 unfold laws_eqCert.f at H
 go_enter Tryd.func22, Tryd.ntmps22
 go_upto_if 9 with (first | ((with_reducible refine gate_dst (N := 2) rfl ?_); refine ev_box rfl HS (by first | (go_simp; done) | (go_simp; rfl)) rfl ?_; clear HS; (try clear F); intro g2 w2 HS; (try simp only [hpn, hpm] at HS); have F := HS.boxes; simp only [bxn] at F) | ((with_reducible refine gate_dst (N := 3) rfl ?_); refine ev_box rfl HS (by first | (go_simp; done) | (go_simp; rfl)) rfl ?_; clear HS; (try clear F); intro g3 w3 HS; (try simp only [hpn, hpm] at HS); have F := HS.boxes; simp only [bxn] at F))
 by_cases c5 : a0.f0 = a1.f0
 case neg =>
  replace H := zneg c5 H
  have c5a := beq_eq_false_iff_ne.mpr c5
  have c5b := bne_iff_ne.mpr c5
  clear c5
  (try simp only [c5a, c5b, dcn])
  obtain rfl := zsome H
  go_wp2
  go_ret
  exact ⟨rfl, HS.pick [] (by decide) (by rfl)⟩
 replace H := zpos c5 H
 have c5a := beq_iff_eq.mpr c5
 have c5b := bne_eq_false_iff_eq.mpr c5
 clear c5
 (try simp only [c5a, c5b, dcn])
 by_cases c6 : a0.f1.toList = a1.f1.toList
 case neg =>
  replace H := zneg c6 H
  have c6a := beq_eq_false_iff_ne.mpr c6
  have c6b := bne_iff_ne.mpr c6
  clear c6
  obtain rfl := zsome H
  go_wp2
  go_ret
  exact ⟨rfl, HS.pick [] (by decide) (by rfl)⟩
 replace H := zpos c6 H
 have c6a := beq_iff_eq.mpr c6
 have c6b := bne_eq_false_iff_eq.mpr c6
 clear c6
 by_cases c7 : a0.f2.toList = a1.f2.toList
 case neg =>
  replace H := zneg c7 H
  have c7a := beq_eq_false_iff_ne.mpr c7
  have c7b := bne_iff_ne.mpr c7
  clear c7
  obtain rfl := zsome H
  go_wp2
  go_ret
  exact ⟨rfl, HS.pick [] (by decide) (by rfl)⟩
 replace H := zpos c7 H
 have c7a := beq_iff_eq.mpr c7
 have c7b := bne_eq_false_iff_eq.mpr c7
 clear c7
 by_cases c8 : a0.f3 = a1.f3
 case neg =>
  replace H := zneg c8 H
  have c8a := beq_eq_false_iff_ne.mpr c8
  have c8b := bne_iff_ne.mpr c8
  clear c8
  obtain rfl := zsome H
  go_wp2
  go_ret
  exact ⟨rfl, HS.pick [] (by decide) (by rfl)⟩
 replace H := zpos c8 H
 have c8a := beq_iff_eq.mpr c8
 have c8b := bne_eq_false_iff_eq.mpr c8
 clear c8
 by_cases c9 : a0.f4 = a1.f4
 case neg =>
  replace H := zneg c9 H
  have c9a := beq_eq_false_iff_ne.mpr c9
  have c9b := bne_iff_ne.mpr c9
  clear c9
  obtain rfl := zsome H
  go_wp2
  go_ret
  exact ⟨rfl, HS.pick [] (by decide) (by rfl)⟩
 replace H := zpos c9 H
 have c9a := beq_iff_eq.mpr c9
 have c9b := bne_eq_false_iff_eq.mpr c9
 clear c9
 by_cases c10 : a0.f5.toList = a1.f5.toList
 case neg =>
  replace H := zneg c10 H
  have c10a := beq_eq_false_iff_ne.mpr c10
  have c10b := bne_iff_ne.mpr c10
  clear c10
  obtain rfl := zsome H
  go_wp2
  go_ret
  exact ⟨rfl, HS.pick [] (by decide) (by rfl)⟩
 replace H := zpos c10 H
 have c10a := beq_iff_eq.mpr c10
 have c10b := bne_eq_false_iff_eq.mpr c10
 clear c10
 by_cases c11 : a0.f6 = a1.f6
 case neg =>
  replace H := zneg c11 H
  have c11a := beq_eq_false_iff_ne.mpr c11
  have c11b := bne_iff_ne.mpr c11
  clear c11
  obtain rfl := zsome H
  go_wp2
  go_ret
  exact ⟨rfl, HS.pick [] (by decide) (by rfl)⟩
 replace H := zpos c11 H
 have c11a := beq_iff_eq.mpr c11
 have c11b := bne_eq_false_iff_eq.mpr c11
 clear c11
 by_cases c12 : a0.f7 = a1.f7
 case neg =>
  replace H := zneg c12 H
  have c12a := beq_eq_false_iff_ne.mpr c12
  have c12b := bne_iff_ne.mpr c12
  clear c12
  obtain rfl := zsome H
  go_wp2
  go_ret
  exact ⟨rfl, HS.pick [] (by decide) (by rfl)⟩
 replace H := zpos c12 H
 have c12a := beq_iff_eq.mpr c12
 have c12b := bne_eq_false_iff_eq.mpr c12
 clear c12
 by_cases c13 : a0.f8 = a1.f8
 case neg =>
  replace H := zneg c13 H
  have c13a := beq_eq_false_iff_ne.mpr c13
  have c13b := bne_iff_ne.mpr c13
  clear c13
  obtain rfl := zsome H
  go_wp2
  go_ret
  exact ⟨rfl, HS.pick [] (by decide) (by rfl)⟩
 replace H := zpos c13 H
 have c13a := beq_iff_eq.mpr c13
 have c13b := bne_eq_false_iff_eq.mpr c13
 clear c13
 replace H := zbind H; obtain ⟨t14, ht14, H⟩ := H
 go_upto_if 55 with (first | ((with_reducible refine gate_dst (N := 54) rfl ?_); refine ev_call rfl Tryd.func54 (by kernel_rfl) rfl #[.slice Ap0 a0.f9.length cp0, .slice Ap3 a1.f9.length cp3] rfl (by simp only [mpn]; rfl) ?_; refine (laws_eqIntS.calls ht14.out (HS.ro gp0) lp0 (HS.ro gp3) lp3).mono ?_; rintro _ wt14 ⟨rfl, HQ⟩; refine ⟨_, rfl, ?_⟩; replace HS := HS.call HQ; clear HQ; (try clear F); (try simp only [hpn, hpm] at HS); have F := HS.boxes; simp only [bxn] at F))
 by_cases c16 : t14 = true
 case neg =>
  replace H := zneg c16 H
  replace c16 := eq_false_of_ne_true c16
  subst c16
  (try simp only [dcn, if_true, Bool.false_eq_true, if_false])
  obtain rfl := zsome H
  go_wp2
  go_ret
  exact ⟨rfl, HS.pick [] (by decide) (by rfl)⟩
 replace H := zpos c16 H
 subst c16
 (try simp only [dcn, if_true, Bool.false_eq_true, if_false])
 replace H := zbind H; obtain ⟨t17, ht17, H⟩ := H
 go_upto_if 61 with (first | ((with_reducible refine gate_dst (N := 60) rfl ?_); refine ev_call rfl Tryd.func55 (by kernel_rfl) rfl #[.slice Ap1 a0.f10.length cp1, .slice Ap4 a1.f10.length cp4] rfl (by simp only [mpn]; rfl) ?_; refine (laws_eqStringS.calls ht17.out (HS.ro gp1) lp1 (HS.ro gp4) lp4).mono ?_; rintro _ wt17 ⟨rfl, HQ⟩; refine ⟨_, rfl, ?_⟩; replace HS := HS.call HQ; clear HQ; (try clear F); (try simp only [hpn, hpm] at HS); have F := HS.boxes; simp only [bxn] at F))
 by_cases c19 : t17 = true
 case neg =>
  replace H := zneg c19 H
  replace c19 := eq_false_of_ne_true c19
  subst c19
  (try simp only [dcn, if_true, Bool.false_eq_true, if_false])
  obtain rfl := zsome H
  go_wp2
  go_ret
  exact ⟨rfl, HS.pick [] (by decide) (by rfl)⟩
 replace H := zpos c19 H
 subst c19
 (try simp only [dcn, if_true, Bool.false_eq_true, if_false])
 replace H := zbind H; obtain ⟨t20, ht20, H⟩ := H
 go_upto_if 67 with (first | ((with_reducible refine gate_dst (N := 66) rfl ?_); refine ev_call rfl Tryd.func55 (by kernel_rfl) rfl #[.slice Ap2 a0.f11.length cp2, .slice Ap5 a1.f11.length cp5] rfl (by simp only [mpn]; rfl) ?_; refine (laws_eqStringS.calls ht20.out (HS.ro gp2) lp2 (HS.ro gp5) lp5).mono ?_; rintro _ wt20 ⟨rfl, HQ⟩; refine ⟨_, rfl, ?_⟩; replace HS := HS.call HQ; clear HQ; (try clear F); (try simp only [hpn, hpm] at HS); have F := HS.boxes; simp only [bxn] at F))
 by_cases c22 : t20 = true
 case neg =>
  replace H := zneg c22 H
  replace c22 := eq_false_of_ne_true c22
  subst c22
  (try simp only [dcn, if_true, Bool.false_eq_true, if_false])
  obtain rfl := zsome H
  go_wp2
  go_ret
  exact ⟨rfl, HS.pick [] (by decide) (by rfl)⟩
 replace H := zpos c22 H
 subst c22
 (try simp only [dcn, if_true, Bool.false_eq_true, if_false])
 by_cases c23 : a0.f12.toList = a1.f12.toList
 case neg =>
  replace H := zneg c23 H
  have c23a := beq_eq_false_iff_ne.mpr c23
  have c23b := bne_iff_ne.mpr c23
  clear c23
  obtain rfl := zsome H
  go_wp2
  go_ret
  exact ⟨rfl, HS.pick [] (by decide) (by rfl)⟩
 replace H := zpos c23 H
 have c23a := beq_iff_eq.mpr c23
 have c23b := bne_eq_false_iff_eq.mpr c23
 clear c23
 obtain rfl := zsome H
 go_wp2
 go_ret
 exact ⟨rfl, HS.pick [] (by decide) (by rfl)⟩
/-! ### laws_FnExactCertOk: function 5 -/
def laws_FnExactCertOk.f (k : Nat) (a0 : S47) : Option (Bool) := ((laws_szCert.f k a0 1048576).bind fun t3 => (if t3 < 0 then (some true) else ((laws_toCert.f k a0).bind fun t6 => ((spec_CertOk.f k t6).bind fun t11 => ((laws_toCert.f k a0).bind fun t13 => ((impl_CertOk.f k t13).bind fun t22 => (if t22 = t11 then ((laws_toCert.f k a0).bind fun t102001 => ((laws_eqCert.f k t13 t102001).bind fun t103001 => (if t103001 = true then (some true) else (some false)))) else (some false))))))))
def laws_FnExactCertOk.T10 : Bool × List (List Nat × List Nat) := (true, [([], []), ([], []), ([1], [1]), ([0, 2, 2], [0, 2]), ([3], [3])])
theorem laws_FnExactCertOk.tT10 : rtab .any (opsOf Tryd.f5 10) = laws_FnExactCertOk.T10 := by kernel_rfl
set_option maxHeartbeats 16000000 in
theorem laws_FnExactCertOk.calls {k : Nat} {a0 : S47} {Ap0 : Option Addr} {np0 cp0 : Nat} {Ap1 : Option Addr} {np1 cp1 : Nat} {Ap2 : Option Addr} {np2 cp2 : Nat} {mG : Int} {r : Bool} {w : World} (h : laws_FnExactCertOk.f k a0 = some r) (gp0 : (Kd.int .i64).C w Ap0 np0 a0.f9) (lp0 : np0 ≤ cp0) (gp1 : Kd.string.C w Ap1 np1 a0.f10) (lp1 : np1 ≤ cp1) (gp2 : Kd.string.C w Ap2 np2 a0.f11) (lp2 : np2 ≤ cp2) (hgM : w.cell? ⟨0, 0, none⟩ = some (.int .i64 mG)) :
    Calls Tryd.prog 5 #[.agg #[.int .i64 a0.f0, .string a0.f1, .string a0.f2, .int .i64 a0.f3, .int .i64 a0.f4, .string a0.f5, .bool a0.f6, .int .i64 a0.f7, .int .i64 a0.f8, .slice Ap0 np0 cp0, .slice Ap1 np1 cp1, .slice Ap2 np2 cp2, .string a0.f12]] w (fun e w' => e = .returned (.bool r) ∧ Hp noFP w w' []) := by
 obtain rfl := C_len gp0
 obtain rfl := C_len gp1
 obtain rfl := C_len gp2
 have HS := Hp.start w
 have H := Aside0.mk h
 clear h
 unfold laws_FnExactCertOk.f at H
 go_enter Tryd.func5, Tryd.ntmps5
 replace H := zbind H; obtain ⟨t3, ht3, H⟩ := H
 go_upto_if 11 with (first | ((with_reducible refine gate_dst (N := 1) rfl ?_); refine ev_box rfl HS (by first | (go_simp; done) | (go_simp; rfl)) rfl ?_; clear HS; (try clear F); intro g1 w1 HS; (try simp only [hpn, hpm] at HS); have F := HS.boxes; simp only [bxn] at F) | ((with_reducible refine gate_dst (N := 9) rfl ?_); refine ev_call rfl Tryd.func18 (by kernel_rfl) rfl #[.agg #[.int .i64 a0.f0, .string a0.f1, .string a0.f2, .int .i64 a0.f3, .int .i64 a0.f4, .string a0.f5, .bool a0.f6, .int .i64 a0.f7, .int .i64 a0.f8, .slice Ap0 a0.f9.length cp0, .slice Ap1 a0.f10.length cp1, .slice Ap2 a0.f11.length cp2, .string a0.f12], .int .i64 1048576] rfl (by simp only [mpn]; rfl) ?_; refine (laws_szCert.calls ht3.out (HS.ro gp0) lp0 (HS.ro gp1) lp1 (HS.ro gp2) lp2).mono ?_; rintro _ wt3 ⟨rfl, HQ⟩; refine ⟨_, rfl, ?_⟩; replace HS := HS.call HQ; clear HQ; (try clear F); (try simp only [hpn, hpm] at HS); have F := HS.boxes; simp only [bxn] at F))
 by_cases c5 : t3 < 0
 case pos =>
  replace H := zpos c5 H
  replace c5 := eq_true c5
  (try simp only [c5, dcn])
  obtain rfl := zsome H
  go_wp2
  go_ret
  exact ⟨rfl, HS.pick [] (by decide) (by rfl)⟩
 replace H := zneg c5 H
 replace c5 := eq_false c5
 (try simp only [c5, dcn])
 replace H := zbind H; obtain ⟨t6, ht6, H⟩ := H
 replace H := zbind H; obtain ⟨t11, ht11, H⟩ := H
 replace H := zbind H; obtain ⟨t13, ht13, H⟩ := H
 replace H := zbind H; obtain ⟨t22, ht22, H⟩ := H
 go_upto_if 21 with (first | ((with_reducible refine gate_dst (N := 13) rfl ?_); refine ev_call rfl Tryd.func20 (by kernel_rfl) rfl #[.agg #[.int .i64 a0.f0, .string a0.f1, .string a0.f2, .int .i64 a0.f3, .int .i64 a0.f4, .string a0.f5, .bool a0.f6, .int .i64 a0.f7, .int .i64 a0.f8, .slice Ap0 a0.f9.length cp0, .slice Ap1 a0.f10.length cp1, .slice Ap2 a0.f11.length cp2, .string a0.f12]] rfl (by simp only [mpn]; rfl) ?_; refine (laws_toCert.calls ht6.out (HS.ro gp0) lp0 (HS.ro gp1) lp1 (HS.ro gp2) lp2).mono ?_; rintro _ wt6 ⟨v7, v8, v9, rfl, HQ⟩; refine ⟨_, rfl, ?_⟩; replace HS := HS.call HQ; clear HQ; (try clear F); obtain ⟨B7, d7, rfl, m7⟩ := HS.form 1 rfl; obtain ⟨B8, d8, rfl, m8⟩ := HS.form 2 rfl; obtain ⟨B9, d9, rfl, m9⟩ := HS.form 3 rfl; (try simp only [hpn, hpm] at HS); have F := HS.boxes; simp only [bxn] at F) | ((with_reducible refine gate_dst (N := 14) rfl ?_); refine ev_call rfl Tryd.func19 (by kernel_rfl) rfl #[.agg #[.int .i64 t6.f0, .string t6.f1, .string t6.f2, .int .i64 t6.f3, .int .i64 t6.f4, .string t6.f5, .bool t6.f6, .int .i64 t6.f7, .int .i64 t6.f8, .slice B7 t6.f9.length d7, .slice B8 t6.f10.length d8, .slice B9 t6.f11.length d9, .string t6.f12]] rfl (by simp only [mpn]; rfl) ?_; refine (spec_CertOk.calls ht11.out (HS.rd 1 rfl) m7 (HS.rd 2 rfl) m8 (HS.rd 3 rfl) m9).mono ?_; rintro _ wt11 ⟨rfl, HQ⟩; refine ⟨_, rfl, ?_⟩; replace HS := HS.call HQ; clear HQ; (try clear F); (try simp only [hpn, hpm] at HS); have F := HS.boxes; simp only [bxn] at F) | ((with_reducible refine gate_dst (N := 16) rfl ?_); refine ev_call rfl Tryd.func20 (by kernel_rfl) rfl #[.agg #[.int .i64 a0.f0, .string a0.f1, .string a0.f2, .int .i64 a0.f3, .int .i64 a0.f4, .string a0.f5, .bool a0.f6, .int .i64 a0.f7, .int .i64 a0.f8, .slice Ap0 a0.f9.length cp0, .slice Ap1 a0.f10.length cp1, .slice Ap2 a0.f11.length cp2, .string a0.f12]] rfl (by simp only [mpn]; rfl) ?_; refine (laws_toCert.calls ht13.out (HS.ro gp0) lp0 (HS.ro gp1) lp1 (HS.ro gp2) lp2).mono ?_; rintro _ wt13 ⟨v14, v15, v16, rfl, HQ⟩; refine ⟨_, rfl, ?_⟩; replace HS := HS.call HQ; clear HQ; (try clear F); obtain ⟨B14, d14, rfl, m14⟩ := HS.form 4 rfl; obtain ⟨B15, d15, rfl, m15⟩ := HS.form 5 rfl; obtain ⟨B16, d16, rfl, m16⟩ := HS.form 6 rfl; (try simp only [hpn, hpm] at HS); have F := HS.boxes; simp only [bxn] at F) | ((with_reducible refine gate_dst (N := 5) rfl ?_); refine ev_box rfl HS (by first | (go_simp; done) | (go_simp; rfl)) rfl ?_; clear HS; (try clear F); intro g5 w5 HS; (try simp only [hpn, hpm] at HS); have F := HS.boxes; simp only [bxn] at F) | ((with_reducible refine gate_store (p := 5) rfl ?_); refine ev_store rfl 7 0 HS (seg := [.int .i64 t13.f0, .string t13.f1, .string t13.f2, .int .i64 t13.f3, .int .i64 t13.f4, .string t13.f5, .bool t13.f6, .int .i64 t13.f7, .int .i64 t13.f8, .slice B14 t13.f9.length d14, .slice B15 t13.f10.length d15, .slice B16 t13.f11.length d16, .string t13.f12]) rfl rfl rfl rfl rfl rfl (by kernel_rfl) (by simp [wrt]) (by simp [Value.oneCell']) ?_; clear HS; (try clear F); intro w20 HS; (try simp only [hpn, hpm] at HS); have F := HS.boxes; simp only [bxn] at F) | ((with_reducible refine gate_dst (N := 18) rfl ?_); refine ev_call rfl Tryd.func21 (by kernel_rfl) rfl #[.agg #[.int .i64 t13.f0, .string t13.f1, .string t13.f2, .int .i64 t13.f3, .int .i64 t13.f4, .string t13.f5, .bool t13.f6, .int .i64 t13.f7, .int .i64 t13.f8, .slice B14 t13.f9.length d14, .slice B15 t13.f10.length d15, .slice B16 t13.f11.length d16, .string t13.f12]] rfl (by simp only [mpn]; rfl) ?_; refine (impl_CertOk.calls ht22.out (HS.rd 4 rfl) m14 (HS.rd 5 rfl) m15 (HS.rd 6 rfl) m16 (HS.keepc hgM)).mono ?_; rintro _ wt22 ⟨rfl, HQ⟩; refine ⟨_, rfl, ?_⟩; replace HS := HS.call HQ; clear HQ; (try clear F); (try simp only [hpn, hpm] at HS); have F := HS.boxes; simp only [bxn] at F))
 by_cases c24 : t22 = t11
 case neg =>
  replace H := zneg c24 H
  have c24a := beq_eq_false_iff_ne.mpr c24
  have c24b := bne_iff_ne.mpr c24
  clear c24
  (try simp only [c24a, c24b, dcn])
  obtain rfl := zsome H
  go_wp2
  go_ret
  exact ⟨rfl, HS.pick [] (by decide) (by rfl)⟩
 replace H := zpos c24 H
 have c24a := beq_iff_eq.mpr c24
 have c24b := bne_eq_false_iff_eq.mpr c24
 clear c24
 (try simp only [c24a, c24b, dcn])
 (try go_wp2)
 replace H := zbind H; obtain ⟨t102001, ht102001, H⟩ := H
 replace H := zbind H; obtain ⟨t103001, ht103001, H⟩ := H
 refine dr_start [] HS #[false, false, false, false, false] (by kernel_rfl) rfl rfl laws_FnExactCertOk.tT10 (fun w26 HT HS HH => ?_)
 (try clear F)
 refine drq_of [(0, some 22), (1, some 23)] ?_
 repeat (first | (refine drq_take HT HH (v := ?_) (a' := ?_) rfl rfl (by kernel_rfl) (fun _ _ _ h => h) (.inl ⟨by rfl, ?_⟩) ?_ ?_; rotate_left; (rintro w' ⟨rs', HS'⟩; have F := HS'.boxes; simp only [bxn, List.cons_append, List.nil_append] at F; go_simp; with_reducible rfl); rotate_left; (simp only [Act.put, ptn]; rfl)))
 refine drq_end ?_
 refine dr_one 2 HT rfl (by kernel_rfl) (by decide) (fun K hK => ?_)
 refine goes_ Tryd.func20 (by kernel_rfl) rfl #[.agg #[.int .i64 a0.f0, .string a0.f1, .string a0.f2, .int .i64 a0.f3, .int .i64 a0.f4, .string a0.f5, .bool a0.f6, .int .i64 a0.f7, .int .i64 a0.f8, .slice Ap0 a0.f9.length cp0, .slice Ap1 a0.f10.length cp1, .slice Ap2 a0.f11.length cp2, .string a0.f12]] (by rfl) rfl rfl (by simp only [mpn]; rfl) ?_; refine (laws_toCert.calls ht102001.out (HS.ro gp0) lp0 (HS.ro gp1) lp1 (HS.ro gp2) lp2).mono ?_; rintro _ wt102001 ⟨v102002, v102003, v102004, rfl, HQ⟩; refine ⟨_, rfl, ?_⟩; replace HS := HS.call HQ; clear HQ; (try clear F); obtain ⟨B102002, d102002, rfl, m102002⟩ := HS.form 8 rfl; obtain ⟨B102003, d102003, rfl, m102003⟩ := HS.form 9 rfl; obtain ⟨B102004, d102004, rfl, m102004⟩ := HS.form 10 rfl
 (try simp only [hpn, hpm] at HS)
 have F := HS.boxes; simp only [bxn] at F
 refine hK.out _ _ ⟨_, HS⟩ (fun HH => ?_)
 clear hK K
 refine norm_ (a' := ?_) ?_ ?_
 rotate_left
 · show Act.put _ (some 24) _ = _; simp only [Act.put, ptn]; rfl
 refine dr_one 3 HT rfl (by kernel_rfl) (by decide) (fun K hK => ?_)
 refine goes_ Tryd.func22 (by kernel_rfl) rfl #[.agg #[.int .i64 t13.f0, .string t13.f1, .string t13.f2, .int .i64 t13.f3, .int .i64 t13.f4, .string t13.f5, .bool t13.f6, .int .i64 t13.f7, .int .i64 t13.f8, .slice B14 t13.f9.length d14, .slice B15 t13.f10.length d15, .slice B16 t13.f11.length d16, .string t13.f12], .agg #[.int .i64 t102001.f0, .string t102001.f1, .string t102001.f2, .int .i64 t102001.f3, .int .i64 t102001.f4, .string t102001.f5, .bool t102001.f6, .int .i64 t102001.f7, .int .i64 t102001.f8, .slice B102002 t102001.f9.length d102002, .slice B102003 t102001.f10.length d102003, .slice B102004 t102001.f11.length d102004, .string t102001.f12]] (by rfl) rfl rfl (by simp only [mpn]; rfl) ?_; refine (laws_eqCert.calls ht103001.out (HS.rd 4 rfl) m14 (HS.rd 5 rfl) m15 (HS.rd 6 rfl) m16 (HS.rd 8 rfl) m102002 (HS.rd 9 rfl) m102003 (HS.rd 10 rfl) m102004).mono ?_; rintro _ wt103001 ⟨rfl, HQ⟩; refine ⟨_, rfl, ?_⟩; replace HS := HS.call HQ; clear HQ; (try clear F)
 (try simp only [hpn, hpm] at HS)
 have F := HS.boxes; simp only [bxn] at F
 refine hK.out _ _ ⟨_, HS⟩ (fun HH => ?_)
 clear hK K
 refine norm_ (a' := ?_) ?_ ?_
 rotate_left
 · show Act.put _ (some 25) _ = _; simp only [Act.put, ptn]; rfl
 refine drq_of [(4, some 26)] ?_
 repeat (first | (refine drq_pure HT (v := ?_) (a' := ?_) rfl rfl (by kernel_rfl) (fun _ _ _ h => h) (.inl ⟨by rfl, ?_⟩) ?_ ?_; rotate_left; (intro w'; go_simp; with_reducible rfl); rotate_left; (simp only [Act.put, ptn]; rfl)))
 refine drq_end ?_
 refine done_ (done_of HT.out (by kernel_rfl)) ?_
 (try clear F)
 have F := HS.boxes; simp only [bxn] at F
 by_cases c28 : t103001 = true
 case pos =>
  replace H := zpos c28 H
  subst c28
  (try simp only [dcn, if_true, Bool.false_eq_true, if_false])
  obtain rfl := zsome H
  go_wp2
  go_ret
  exact ⟨rfl, HS.pick [] (by decide) (by rfl)⟩
 replace H := zneg c28 H
 replace c28 := eq_false_of_ne_true c28
 subst c28
 (try simp only [dcn, if_true, Bool.false_eq_true, if_false])
 obtain rfl := zsome H
 go_wp2
 go_ret
 exact ⟨rfl, HS.pick [] (by decide) (by rfl)⟩
end Go.Proofs.YtnpokacipeobdaaDoor.F

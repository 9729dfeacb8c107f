/- Functions of the program and of the law, and that their calls do what is written here. -/
import Derived.Test.YtoaoncnbimcdgaaZgFnExactTrustingg
namespace Go.Proofs.Ytoaoncnbimcdgaa.F
open Go.RowKit Go.Proofs.YtoaoncnbimcdgaaW.PrintWords Go.Proofs.YtoaoncnbimcdgaaW.PrintLast Go.Proofs.YtoaoncnbimcdgaaW.PrintMore Go.Proofs.Ytoaoncnbimcdgaa.Z
attribute [local go_sem] max2_int min2_int max_two min_two max_three min_three max_four min_four
set_option linter.unusedVariables false
set_option linter.unusedSimpArgs false
set_option maxRecDepth 100000
/-! ### laws_eqCert: function 136 -/
def laws_eqCert.f (k : Nat) (a0 : S192) (a1 : S192) : Option (Bool) := (if a0.f0 = a1.f0 then (if a0.f1.toList = a1.f1.toList then (if a0.f2.toList = a1.f2.toList then (if a0.f3 = a1.f3 then (if a0.f4 = a1.f4 then (if a0.f5.toList = a1.f5.toList then (if a0.f6 = a1.f6 then (if a0.f7 = a1.f7 then (if a0.f8 = a1.f8 then ((laws_eqIntS.f k a0.f9 a1.f9).bind fun t14 => (if t14 = true then ((laws_eqStringS.f k a0.f10 a1.f10).bind fun t17 => (if t17 = true then ((laws_eqStringS.f k a0.f11 a1.f11).bind fun t20 => (if t20 = true then (if a0.f12.toList = a1.f12.toList then (some true) else (some false)) else (some false))) else (some false))) else (some false))) else (some false)) else (some false)) else (some false)) else (some false)) else (some false)) else (some false)) else (some false)) else (some false)) else (some false))
set_option maxHeartbeats 16000000 in
theorem laws_eqCert.calls {k : Nat} {a0 : S192} {a1 : S192} {Ap0 : Option Addr} {np0 cp0 : Nat} {Ap1 : Option Addr} {np1 cp1 : Nat} {Ap2 : Option Addr} {np2 cp2 : Nat} {Ap3 : Option Addr} {np3 cp3 : Nat} {Ap4 : Option Addr} {np4 cp4 : Nat} {Ap5 : Option Addr} {np5 cp5 : Nat} {r : Bool} {w : World} (h : laws_eqCert.f k a0 a1 = some r) (gp0 : (Kd.int .i64).C w Ap0 np0 a0.f9) (lp0 : np0 ≤ cp0) (gp1 : Kd.string.C w Ap1 np1 a0.f10) (lp1 : np1 ≤ cp1) (gp2 : Kd.string.C w Ap2 np2 a0.f11) (lp2 : np2 ≤ cp2) (gp3 : (Kd.int .i64).C w Ap3 np3 a1.f9) (lp3 : np3 ≤ cp3) (gp4 : Kd.string.C w Ap4 np4 a1.f10) (lp4 : np4 ≤ cp4) (gp5 : Kd.string.C w Ap5 np5 a1.f11) (lp5 : np5 ≤ cp5) :
    Calls Try.prog 136 #[.agg #[.int .i64 a0.f0, .string a0.f1, .string a0.f2, .int .i64 a0.f3, .int .i64 a0.f4, .string a0.f5, .bool a0.f6, .int .i64 a0.f7, .int .i64 a0.f8, .slice Ap0 np0 cp0, .slice Ap1 np1 cp1, .slice Ap2 np2 cp2, .string a0.f12], .agg #[.int .i64 a1.f0, .string a1.f1, .string a1.f2, .int .i64 a1.f3, .int .i64 a1.f4, .string a1.f5, .bool a1.f6, .int .i64 a1.f7, .int .i64 a1.f8, .slice Ap3 np3 cp3, .slice Ap4 np4 cp4, .slice Ap5 np5 cp5, .string a1.f12]] w (fun e w' => e = .returned (.bool r) ∧ Hp noFP w w' []) := by
 obtain rfl := C_len gp0
 obtain rfl := C_len gp1
 obtain rfl := C_len gp2
 obtain rfl := C_len gp3
 obtain rfl := C_len gp4
 obtain rfl := C_len gp5
 have HS := Hp.start w
 have H := Aside0.mk h
 clear h
 unfold laws_eqCert.f at H
 go_enter Try.func136, Try.ntmps136
 go_upto_if 9 with (first | ((with_reducible refine gate_dst (N := 2) rfl ?_); refine ev_box rfl HS (by first | (go_simp; done) | (go_simp; rfl)) rfl ?_; clear HS; (try clear F); intro g2 w2 HS; replace HS : Hp noFP w _ [.box g2 [.int .i64 a0.f0, .string a0.f1, .string a0.f2, .int .i64 a0.f3, .int .i64 a0.f4, .string a0.f5, .bool a0.f6, .int .i64 a0.f7, .int .i64 a0.f8, .slice Ap0 a0.f9.length cp0, .slice Ap1 a0.f10.length cp1, .slice Ap2 a0.f11.length cp2, .string a0.f12] 192] := HS; have F := HS.boxes; simp only [boxFacts, and_true] at F) | ((with_reducible refine gate_dst (N := 3) rfl ?_); refine ev_box rfl HS (by first | (go_simp; done) | (go_simp; rfl)) rfl ?_; clear HS; (try clear F); intro g3 w3 HS; replace HS : Hp noFP w _ [.box g2 [.int .i64 a0.f0, .string a0.f1, .string a0.f2, .int .i64 a0.f3, .int .i64 a0.f4, .string a0.f5, .bool a0.f6, .int .i64 a0.f7, .int .i64 a0.f8, .slice Ap0 a0.f9.length cp0, .slice Ap1 a0.f10.length cp1, .slice Ap2 a0.f11.length cp2, .string a0.f12] 192, .box g3 [.int .i64 a1.f0, .string a1.f1, .string a1.f2, .int .i64 a1.f3, .int .i64 a1.f4, .string a1.f5, .bool a1.f6, .int .i64 a1.f7, .int .i64 a1.f8, .slice Ap3 a1.f9.length cp3, .slice Ap4 a1.f10.length cp4, .slice Ap5 a1.f11.length cp5, .string a1.f12] 192] := HS; have F := HS.boxes; simp only [boxFacts, and_true] at F))
 by_cases c5 : a0.f0 = a1.f0
 · replace H := zpos c5 H
   have c5a := beq_iff_eq.mpr c5
   have c5b := bne_eq_false_iff_eq.mpr c5
   clear c5
   (try simp only [c5a, c5b, decide_true, decide_false, Bool.not_true, Bool.not_false])
   by_cases c6 : a0.f1.toList = a1.f1.toList
   · replace H := zpos c6 H
     have c6a := beq_iff_eq.mpr c6
     have c6b := bne_eq_false_iff_eq.mpr c6
     clear c6
     by_cases c7 : a0.f2.toList = a1.f2.toList
     · replace H := zpos c7 H
       have c7a := beq_iff_eq.mpr c7
       have c7b := bne_eq_false_iff_eq.mpr c7
       clear c7
       by_cases c8 : a0.f3 = a1.f3
       · replace H := zpos c8 H
         have c8a := beq_iff_eq.mpr c8
         have c8b := bne_eq_false_iff_eq.mpr c8
         clear c8
         by_cases c9 : a0.f4 = a1.f4
         · replace H := zpos c9 H
           have c9a := beq_iff_eq.mpr c9
           have c9b := bne_eq_false_iff_eq.mpr c9
           clear c9
           by_cases c10 : a0.f5.toList = a1.f5.toList
           · replace H := zpos c10 H
             have c10a := beq_iff_eq.mpr c10
             have c10b := bne_eq_false_iff_eq.mpr c10
             clear c10
             by_cases c11 : a0.f6 = a1.f6
             · replace H := zpos c11 H
               have c11a := beq_iff_eq.mpr c11
               have c11b := bne_eq_false_iff_eq.mpr c11
               clear c11
               by_cases c12 : a0.f7 = a1.f7
               · replace H := zpos c12 H
                 have c12a := beq_iff_eq.mpr c12
                 have c12b := bne_eq_false_iff_eq.mpr c12
                 clear c12
                 by_cases c13 : a0.f8 = a1.f8
                 · replace H := zpos c13 H
                   have c13a := beq_iff_eq.mpr c13
                   have c13b := bne_eq_false_iff_eq.mpr c13
                   clear c13
                   replace H := zbind H; obtain ⟨t14, ht14, H⟩ := H
                   go_upto_if 55 with (first | ((with_reducible refine gate_dst (N := 54) rfl ?_); refine ev_call rfl Try.func46 (by kernel_rfl) rfl #[.slice Ap0 a0.f9.length cp0, .slice Ap3 a1.f9.length cp3] rfl (by simp only [List.map_toArray, List.map_cons, List.map_nil]; rfl) ?_; refine (laws_eqIntS.calls ht14.out (HS.ro gp0) lp0 (HS.ro gp3) lp3).mono ?_; rintro _ wt14 ⟨rfl, HQ⟩; refine ⟨_, rfl, ?_⟩; replace HS := HS.call HQ; clear HQ; (try clear F); replace HS : Hp noFP w _ [.box g2 [.int .i64 a0.f0, .string a0.f1, .string a0.f2, .int .i64 a0.f3, .int .i64 a0.f4, .string a0.f5, .bool a0.f6, .int .i64 a0.f7, .int .i64 a0.f8, .slice Ap0 a0.f9.length cp0, .slice Ap1 a0.f10.length cp1, .slice Ap2 a0.f11.length cp2, .string a0.f12] 192, .box g3 [.int .i64 a1.f0, .string a1.f1, .string a1.f2, .int .i64 a1.f3, .int .i64 a1.f4, .string a1.f5, .bool a1.f6, .int .i64 a1.f7, .int .i64 a1.f8, .slice Ap3 a1.f9.length cp3, .slice Ap4 a1.f10.length cp4, .slice Ap5 a1.f11.length cp5, .string a1.f12] 192] := HS; have F := HS.boxes; simp only [boxFacts, and_true] at F))
                   by_cases c16 : t14 = true
                   · replace H := zpos c16 H
                     subst c16
                     (try simp only [decide_true, decide_false, Bool.not_true, Bool.not_false, if_true, Bool.false_eq_true, if_false])
                     replace H := zbind H; obtain ⟨t17, ht17, H⟩ := H
                     go_upto_if 61 with (first | ((with_reducible refine gate_dst (N := 60) rfl ?_); refine ev_call rfl Try.func100 (by kernel_rfl) rfl #[.slice Ap1 a0.f10.length cp1, .slice Ap4 a1.f10.length cp4] rfl (by simp only [List.map_toArray, List.map_cons, List.map_nil]; rfl) ?_; refine (laws_eqStringS.calls ht17.out (HS.ro gp1) lp1 (HS.ro gp4) lp4).mono ?_; rintro _ wt17 ⟨rfl, HQ⟩; refine ⟨_, rfl, ?_⟩; replace HS := HS.call HQ; clear HQ; (try clear F); replace HS : Hp noFP w _ [.box g2 [.int .i64 a0.f0, .string a0.f1, .string a0.f2, .int .i64 a0.f3, .int .i64 a0.f4, .string a0.f5, .bool a0.f6, .int .i64 a0.f7, .int .i64 a0.f8, .slice Ap0 a0.f9.length cp0, .slice Ap1 a0.f10.length cp1, .slice Ap2 a0.f11.length cp2, .string a0.f12] 192, .box g3 [.int .i64 a1.f0, .string a1.f1, .string a1.f2, .int .i64 a1.f3, .int .i64 a1.f4, .string a1.f5, .bool a1.f6, .int .i64 a1.f7, .int .i64 a1.f8, .slice Ap3 a1.f9.length cp3, .slice Ap4 a1.f10.length cp4, .slice Ap5 a1.f11.length cp5, .string a1.f12] 192] := HS; have F := HS.boxes; simp only [boxFacts, and_true] at F))
                     by_cases c19 : t17 = true
                     · replace H := zpos c19 H
                       subst c19
                       (try simp only [decide_true, decide_false, Bool.not_true, Bool.not_false, if_true, Bool.false_eq_true, if_false])
                       replace H := zbind H; obtain ⟨t20, ht20, H⟩ := H
                       go_upto_if 67 with (first | ((with_reducible refine gate_dst (N := 66) rfl ?_); refine ev_call rfl Try.func100 (by kernel_rfl) rfl #[.slice Ap2 a0.f11.length cp2, .slice Ap5 a1.f11.length cp5] rfl (by simp only [List.map_toArray, List.map_cons, List.map_nil]; rfl) ?_; refine (laws_eqStringS.calls ht20.out (HS.ro gp2) lp2 (HS.ro gp5) lp5).mono ?_; rintro _ wt20 ⟨rfl, HQ⟩; refine ⟨_, rfl, ?_⟩; replace HS := HS.call HQ; clear HQ; (try clear F); replace HS : Hp noFP w _ [.box g2 [.int .i64 a0.f0, .string a0.f1, .string a0.f2, .int .i64 a0.f3, .int .i64 a0.f4, .string a0.f5, .bool a0.f6, .int .i64 a0.f7, .int .i64 a0.f8, .slice Ap0 a0.f9.length cp0, .slice Ap1 a0.f10.length cp1, .slice Ap2 a0.f11.length cp2, .string a0.f12] 192, .box g3 [.int .i64 a1.f0, .string a1.f1, .string a1.f2, .int .i64 a1.f3, .int .i64 a1.f4, .string a1.f5, .bool a1.f6, .int .i64 a1.f7, .int .i64 a1.f8, .slice Ap3 a1.f9.length cp3, .slice Ap4 a1.f10.length cp4, .slice Ap5 a1.f11.length cp5, .string a1.f12] 192] := HS; have F := HS.boxes; simp only [boxFacts, and_true] at F))
                       by_cases c22 : t20 = true
                       · replace H := zpos c22 H
                         subst c22
                         (try simp only [decide_true, decide_false, Bool.not_true, Bool.not_false, if_true, Bool.false_eq_true, if_false])
                         by_cases c23 : a0.f12.toList = a1.f12.toList
                         · replace H := zpos c23 H
                           have c23a := beq_iff_eq.mpr c23
                           have c23b := bne_eq_false_iff_eq.mpr c23
                           clear c23
                           obtain rfl := zsome H
                           go_wp2
                           go_ret
                           exact ⟨rfl, HS.pick [] (by decide) (by rfl)⟩
                         · replace H := zneg c23 H
                           have c23a := beq_eq_false_iff_ne.mpr c23
                           have c23b := bne_iff_ne.mpr c23
                           clear c23
                           obtain rfl := zsome H
                           go_wp2
                           go_ret
                           exact ⟨rfl, HS.pick [] (by decide) (by rfl)⟩
                       · replace H := zneg c22 H
                         replace c22 := eq_false_of_ne_true c22
                         subst c22
                         (try simp only [decide_true, decide_false, Bool.not_true, Bool.not_false, if_true, Bool.false_eq_true, if_false])
                         obtain rfl := zsome H
                         go_wp2
                         go_ret
                         exact ⟨rfl, HS.pick [] (by decide) (by rfl)⟩
                     · replace H := zneg c19 H
                       replace c19 := eq_false_of_ne_true c19
                       subst c19
                       (try simp only [decide_true, decide_false, Bool.not_true, Bool.not_false, if_true, Bool.false_eq_true, if_false])
                       obtain rfl := zsome H
                       go_wp2
                       go_ret
                       exact ⟨rfl, HS.pick [] (by decide) (by rfl)⟩
                   · replace H := zneg c16 H
                     replace c16 := eq_false_of_ne_true c16
                     subst c16
                     (try simp only [decide_true, decide_false, Bool.not_true, Bool.not_false, if_true, Bool.false_eq_true, if_false])
                     obtain rfl := zsome H
                     go_wp2
                     go_ret
                     exact ⟨rfl, HS.pick [] (by decide) (by rfl)⟩
                 · replace H := zneg c13 H
                   have c13a := beq_eq_false_iff_ne.mpr c13
                   have c13b := bne_iff_ne.mpr c13
                   clear c13
                   obtain rfl := zsome H
                   go_wp2
                   go_ret
                   exact ⟨rfl, HS.pick [] (by decide) (by rfl)⟩
               · replace H := zneg c12 H
                 have c12a := beq_eq_false_iff_ne.mpr c12
                 have c12b := bne_iff_ne.mpr c12
                 clear c12
                 obtain rfl := zsome H
                 go_wp2
                 go_ret
                 exact ⟨rfl, HS.pick [] (by decide) (by rfl)⟩
             · replace H := zneg c11 H
               have c11a := beq_eq_false_iff_ne.mpr c11
               have c11b := bne_iff_ne.mpr c11
               clear c11
               obtain rfl := zsome H
               go_wp2
               go_ret
               exact ⟨rfl, HS.pick [] (by decide) (by rfl)⟩
           · replace H := zneg c10 H
             have c10a := beq_eq_false_iff_ne.mpr c10
             have c10b := bne_iff_ne.mpr c10
             clear c10
             obtain rfl := zsome H
             go_wp2
             go_ret
             exact ⟨rfl, HS.pick [] (by decide) (by rfl)⟩
         · replace H := zneg c9 H
           have c9a := beq_eq_false_iff_ne.mpr c9
           have c9b := bne_iff_ne.mpr c9
           clear c9
           obtain rfl := zsome H
           go_wp2
           go_ret
           exact ⟨rfl, HS.pick [] (by decide) (by rfl)⟩
       · replace H := zneg c8 H
         have c8a := beq_eq_false_iff_ne.mpr c8
         have c8b := bne_iff_ne.mpr c8
         clear c8
         obtain rfl := zsome H
         go_wp2
         go_ret
         exact ⟨rfl, HS.pick [] (by decide) (by rfl)⟩
     · replace H := zneg c7 H
       have c7a := beq_eq_false_iff_ne.mpr c7
       have c7b := bne_iff_ne.mpr c7
       clear c7
       obtain rfl := zsome H
       go_wp2
       go_ret
       exact ⟨rfl, HS.pick [] (by decide) (by rfl)⟩
   · replace H := zneg c6 H
     have c6a := beq_eq_false_iff_ne.mpr c6
     have c6b := bne_iff_ne.mpr c6
     clear c6
     obtain rfl := zsome H
     go_wp2
     go_ret
     exact ⟨rfl, HS.pick [] (by decide) (by rfl)⟩
 · replace H := zneg c5 H
   have c5a := beq_eq_false_iff_ne.mpr c5
   have c5b := bne_iff_ne.mpr c5
   clear c5
   (try simp only [c5a, c5b, decide_true, decide_false, Bool.not_true, Bool.not_false])
   obtain rfl := zsome H
   go_wp2
   go_ret
   exact ⟨rfl, HS.pick [] (by decide) (by rfl)⟩
/-! ### laws_eqCertS: function 79 -/
def laws_eqCertS.l0 : Nat → Int → (List S192) → (List S192) → Option (Bool)
  | 0, _, _, _ => none
  | k + 1, x5, a0, a1 => (if x5 < (a0.length : Int) then (if 0 ≤ x5 then (if x5 < (a0.length : Int) then (if x5 < (a1.length : Int) then ((laws_eqCert.f k (rd_T192 a0 x5) (rd_T192 a1 x5)).bind fun t108001 => (if t108001 = true then (laws_eqCertS.l0 k (wrap64 (x5 + 1)) a0 a1) else (some false))) else none) else none) else none) else (some true))
def laws_eqCertS.f (k : Nat) (a0 : (List S192)) (a1 : (List S192)) : Option (Bool) := (if (a0.length : Int) = (a1.length : Int) then (laws_eqCertS.l0 k 0 a0 a1) else (some false))
def laws_eqCertS.T6 : Bool × List (List Nat × List Nat) := (true, [([], []), ([], []), ([0, 1], [0, 1]), ([2], [2]), ([], []), ([], []), ([4, 5], [4, 5]), ([6], [6]), ([3, 7], [3, 7]), ([8], [8])])
theorem laws_eqCertS.tT6 : rtab .any (opsOf Try.f79 6) = laws_eqCertS.T6 := by kernel_rfl
set_option maxHeartbeats 16000000 in
theorem laws_eqCertS.calls {k : Nat} {a0 : (List S192)} {a1 : (List S192)} {Ap0 : Option Addr} {np0 cp0 : Nat} {Ap1 : Option Addr} {np1 cp1 : Nat} {r : Bool} {w : World} (h : laws_eqCertS.f k a0 a1 = some r) (gp0 : k192.C w Ap0 np0 a0) (lp0 : np0 ≤ cp0) (gp1 : k192.C w Ap1 np1 a1) (lp1 : np1 ≤ cp1) :
    Calls Try.prog 79 #[.slice Ap0 np0 cp0, .slice Ap1 np1 cp1] w (fun e w' => e = .returned (.bool r) ∧ Hp noFP w w' []) := by
 obtain rfl := C_len gp0
 obtain rfl := C_len gp1
 have HS := Hp.start w
 have H := Aside0.mk h
 clear h
 unfold laws_eqCertS.f at H
 go_enter Try.func79, Try.ntmps79
 by_cases c1 : (a0.length : Int) = (a1.length : Int)
 · replace H := zpos c1 H
   have c1a := beq_iff_eq.mpr c1
   have c1b := bne_eq_false_iff_eq.mpr c1
   clear c1
   go_wp2
   go_loopg [5] k (fun kq v_5 w' => ∃ (x5 : Int), v_5 = .int .i64 x5 ∧ Aside0 (laws_eqCertS.l0 kq x5 a0 a1 = some r) ∧ Aside0 (kq ≤ k) ∧ Hp noFP w w' [])
   case atStart => exact ⟨_, rfl, H, ⟨Nat.le_refl _⟩, HS⟩
   case round =>
    clear HS H; (try clear F)
    obtain ⟨x5, rfl, H, HKk4, HS⟩ := hrel
    cases gk with
    | zero => exact absurd H.out (by simp [laws_eqCertS.l0])
    | succ k4 =>
     simp only [laws_eqCertS.l0] at H
     by_cases c7 : x5 < (a0.length : Int)
     · replace H := zpos c7 H
       replace c7 := eq_true c7
       (try go_wp2)
       by_cases c102001 : 0 ≤ x5
       case neg => exact zno c102001 H
       replace H := zpos c102001 H
       replace c102001 := eq_true c102001
       by_cases c102002 : x5 < (a0.length : Int)
       case neg => exact zno c102002 H
       replace H := zpos c102002 H
       replace c102002 := eq_true c102002
       obtain ⟨ad102999, B102999_9, d102999_9, B102999_10, d102999_10, B102999_11, d102999_11, rfl, e102999_0, e102999_1, e102999_2, e102999_3, e102999_4, e102999_5, e102999_6, e102999_7, e102999_8, e102999_9, e102999_10, e102999_11, e102999_12, m102999_9, y102999_9, m102999_10, y102999_10, m102999_11, y102999_11⟩ := at_T192 gp0 x5 (of_eq_true c102001) (of_eq_true c102002)
       by_cases c106001 : x5 < (a1.length : Int)
       case neg => exact zno c106001 H
       replace H := zpos c106001 H
       replace c106001 := eq_true c106001
       obtain ⟨ad106999, B106999_9, d106999_9, B106999_10, d106999_10, B106999_11, d106999_11, rfl, e106999_0, e106999_1, e106999_2, e106999_3, e106999_4, e106999_5, e106999_6, e106999_7, e106999_8, e106999_9, e106999_10, e106999_11, e106999_12, m106999_9, y106999_9, m106999_10, y106999_10, m106999_11, y106999_11⟩ := at_T192 gp1 x5 (of_eq_true c102001) (of_eq_true c106001)
       replace H := zbind H; obtain ⟨t108001, ht108001, H⟩ := H
       refine dr_start [] HS #[false, false, false, false, false, false, false, false, false, false] (by kernel_rfl) rfl rfl laws_eqCertS.tT6 (fun w9 HT HS HH => ?_)
       (try clear F)
       refine drq_of [(0, some 17), (1, some 18), (2, some 19)] ?_
       repeat (first | (refine drq_pure HT (v := ?_) (a' := ?_) rfl rfl (by kernel_rfl) (fun _ _ _ h => h) (.inl ⟨by rfl, ?_⟩) ?_ ?_; rotate_left; (intro w'; go_simp; with_reducible rfl); rotate_left; (simp only [Act.put, List.setIfInBounds_toArray, List.set_cons_zero, List.set_cons_succ, i64_w, i32_w]; rfl)))
       refine drq_end ?_
       refine dr_take 3 (some 20) HT HH (v := ?_) (a' := ?_) rfl rfl (by kernel_rfl) (fun _ _ _ h => h) (.inl ⟨by rfl, ?_⟩) ?_ ?_
       rotate_left
       · rintro w' ⟨rs', HS'⟩; have e102999_0 := (HS'.keepc e102999_0); have e102999_1 := (HS'.keepc e102999_1); have e102999_2 := (HS'.keepc e102999_2); have e102999_3 := (HS'.keepc e102999_3); have e102999_4 := (HS'.keepc e102999_4); have e102999_5 := (HS'.keepc e102999_5); have e102999_6 := (HS'.keepc e102999_6); have e102999_7 := (HS'.keepc e102999_7); have e102999_8 := (HS'.keepc e102999_8); have e102999_9 := (HS'.keepc e102999_9); have e102999_10 := (HS'.keepc e102999_10); have e102999_11 := (HS'.keepc e102999_11); have e102999_12 := (HS'.keepc e102999_12); go_simp; with_reducible rfl
       rotate_left
       · simp only [Act.put, List.setIfInBounds_toArray, List.set_cons_zero, List.set_cons_succ, i64_w, i32_w]; rfl
       refine drq_of [(4, some 21), (5, some 22), (6, some 23)] ?_
       repeat (first | (refine drq_pure HT (v := ?_) (a' := ?_) rfl rfl (by kernel_rfl) (fun _ _ _ h => h) (.inl ⟨by rfl, ?_⟩) ?_ ?_; rotate_left; (intro w'; go_simp; with_reducible rfl); rotate_left; (simp only [Act.put, List.setIfInBounds_toArray, List.set_cons_zero, List.set_cons_succ, i64_w, i32_w]; rfl)))
       refine drq_end ?_
       refine dr_take 7 (some 24) HT HH (v := ?_) (a' := ?_) rfl rfl (by kernel_rfl) (fun _ _ _ h => h) (.inl ⟨by rfl, ?_⟩) ?_ ?_
       rotate_left
       · rintro w' ⟨rs', HS'⟩; have e106999_0 := (HS'.keepc e106999_0); have e106999_1 := (HS'.keepc e106999_1); have e106999_2 := (HS'.keepc e106999_2); have e106999_3 := (HS'.keepc e106999_3); have e106999_4 := (HS'.keepc e106999_4); have e106999_5 := (HS'.keepc e106999_5); have e106999_6 := (HS'.keepc e106999_6); have e106999_7 := (HS'.keepc e106999_7); have e106999_8 := (HS'.keepc e106999_8); have e106999_9 := (HS'.keepc e106999_9); have e106999_10 := (HS'.keepc e106999_10); have e106999_11 := (HS'.keepc e106999_11); have e106999_12 := (HS'.keepc e106999_12); go_simp; with_reducible rfl
       rotate_left
       · simp only [Act.put, List.setIfInBounds_toArray, List.set_cons_zero, List.set_cons_succ, i64_w, i32_w]; rfl
       refine dr_one 8 HT rfl (by kernel_rfl) (by decide) (fun K hK => ?_)
       refine goes_ Try.func136 (by kernel_rfl) rfl #[.agg #[.int .i64 ((rd_T192 a0 x5).f0), .string ((rd_T192 a0 x5).f1), .string ((rd_T192 a0 x5).f2), .int .i64 ((rd_T192 a0 x5).f3), .int .i64 ((rd_T192 a0 x5).f4), .string ((rd_T192 a0 x5).f5), .bool ((rd_T192 a0 x5).f6), .int .i64 ((rd_T192 a0 x5).f7), .int .i64 ((rd_T192 a0 x5).f8), .slice B102999_9 (rd_T192 a0 x5).f9.length d102999_9, .slice B102999_10 (rd_T192 a0 x5).f10.length d102999_10, .slice B102999_11 (rd_T192 a0 x5).f11.length d102999_11, .string ((rd_T192 a0 x5).f12)], .agg #[.int .i64 ((rd_T192 a1 x5).f0), .string ((rd_T192 a1 x5).f1), .string ((rd_T192 a1 x5).f2), .int .i64 ((rd_T192 a1 x5).f3), .int .i64 ((rd_T192 a1 x5).f4), .string ((rd_T192 a1 x5).f5), .bool ((rd_T192 a1 x5).f6), .int .i64 ((rd_T192 a1 x5).f7), .int .i64 ((rd_T192 a1 x5).f8), .slice B106999_9 (rd_T192 a1 x5).f9.length d106999_9, .slice B106999_10 (rd_T192 a1 x5).f10.length d106999_10, .slice B106999_11 (rd_T192 a1 x5).f11.length d106999_11, .string ((rd_T192 a1 x5).f12)]] (by rfl) rfl rfl (by simp only [List.map_toArray, List.map_cons, List.map_nil]; rfl) ?_; refine (laws_eqCert.calls ht108001.out (HS.ro y102999_9) m102999_9 (HS.ro y102999_10) m102999_10 (HS.ro y102999_11) m102999_11 (HS.ro y106999_9) m106999_9 (HS.ro y106999_10) m106999_10 (HS.ro y106999_11) m106999_11).mono ?_; rintro _ wt108001 ⟨rfl, HQ⟩; refine ⟨_, rfl, ?_⟩; replace HS := HS.call HQ; clear HQ; (try clear F)
       replace HS : Hp noFP w _ [] := HS
       refine hK.out _ _ ⟨_, HS⟩ (fun HH => ?_)
       clear hK K
       refine norm_ (a' := ?_) ?_ ?_
       rotate_left
       · show Act.put _ (some 25) _ = _; simp only [Act.put, List.setIfInBounds_toArray, List.set_cons_zero, List.set_cons_succ, i64_w, i32_w]; rfl
       refine drq_of [(9, some 26)] ?_
       repeat (first | (refine drq_pure HT (v := ?_) (a' := ?_) rfl rfl (by kernel_rfl) (fun _ _ _ h => h) (.inl ⟨by rfl, ?_⟩) ?_ ?_; rotate_left; (intro w'; go_simp; with_reducible rfl); rotate_left; (simp only [Act.put, List.setIfInBounds_toArray, List.set_cons_zero, List.set_cons_succ, i64_w, i32_w]; rfl)))
       refine drq_end ?_
       refine done_ (done_of HT.out (by kernel_rfl)) ?_
       by_cases c11 : t108001 = true
       · replace H := zpos c11 H
         subst c11
         (try simp only [decide_true, decide_false, Bool.not_true, Bool.not_false, if_true, Bool.false_eq_true, if_false])
         go_wp2
         go_roundg k4
         case measure => have := HKk4.out; omega
         case rel => exact ⟨_, rfl, H, ⟨by have := HKk4.out; omega⟩, HS.pick [] (by decide) (by rfl)⟩
       · replace H := zneg c11 H
         replace c11 := eq_false_of_ne_true c11
         subst c11
         (try simp only [decide_true, decide_false, Bool.not_true, Bool.not_false, if_true, Bool.false_eq_true, if_false])
         obtain rfl := zsome H
         go_wp2
         go_ret
         exact ⟨rfl, HS.pick [] (by decide) (by rfl)⟩
     · replace H := zneg c7 H
       replace c7 := eq_false c7
       obtain rfl := zsome H
       go_wp2
       go_ret
       exact ⟨rfl, HS.pick [] (by decide) (by rfl)⟩
 · replace H := zneg c1 H
   have c1a := beq_eq_false_iff_ne.mpr c1
   have c1b := bne_iff_ne.mpr c1
   clear c1
   obtain rfl := zsome H
   go_wp2
   go_ret
   exact ⟨rfl, HS.pick [] (by decide) (by rfl)⟩
/-! ### laws_eqRev: function 185 -/
def laws_eqRev.f (a0 : S230) (a1 : S230) : Option (Bool) := (if a0.f0 = a1.f0 then (if a0.f1 = a1.f1 then (some true) else (some false)) else (some false))
set_option maxHeartbeats 16000000 in
theorem laws_eqRev.calls {a0 : S230} {a1 : S230} {r : Bool} {w : World} (h : laws_eqRev.f a0 a1 = some r) :
    Calls Try.prog 185 #[.agg #[.int .i64 a0.f0, .int .i64 a0.f1], .agg #[.int .i64 a1.f0, .int .i64 a1.f1]] w (fun e w' => e = .returned (.bool r) ∧ Hp noFP w w' []) := by
 have HS := Hp.start w
 have H := Aside0.mk h
 clear h
 unfold laws_eqRev.f at H
 go_enter Try.func185, Try.ntmps185
 go_upto_if 9 with (first | ((with_reducible refine gate_dst (N := 2) rfl ?_); refine ev_box rfl HS (by first | (go_simp; done) | (go_simp; rfl)) rfl ?_; clear HS; (try clear F); intro g2 w2 HS; replace HS : Hp noFP w _ [.box g2 [.int .i64 a0.f0, .int .i64 a0.f1] 230] := HS; have F := HS.boxes; simp only [boxFacts, and_true] at F) | ((with_reducible refine gate_dst (N := 3) rfl ?_); refine ev_box rfl HS (by first | (go_simp; done) | (go_simp; rfl)) rfl ?_; clear HS; (try clear F); intro g3 w3 HS; replace HS : Hp noFP w _ [.box g2 [.int .i64 a0.f0, .int .i64 a0.f1] 230, .box g3 [.int .i64 a1.f0, .int .i64 a1.f1] 230] := HS; have F := HS.boxes; simp only [boxFacts, and_true] at F))
 by_cases c5 : a0.f0 = a1.f0
 · replace H := zpos c5 H
   have c5a := beq_iff_eq.mpr c5
   have c5b := bne_eq_false_iff_eq.mpr c5
   clear c5
   (try simp only [c5a, c5b, decide_true, decide_false, Bool.not_true, Bool.not_false])
   by_cases c6 : a0.f1 = a1.f1
   · replace H := zpos c6 H
     have c6a := beq_iff_eq.mpr c6
     have c6b := bne_eq_false_iff_eq.mpr c6
     clear c6
     obtain rfl := zsome H
     go_wp2
     go_ret
     exact ⟨rfl, HS.pick [] (by decide) (by rfl)⟩
   · replace H := zneg c6 H
     have c6a := beq_eq_false_iff_ne.mpr c6
     have c6b := bne_iff_ne.mpr c6
     clear c6
     obtain rfl := zsome H
     go_wp2
     go_ret
     exact ⟨rfl, HS.pick [] (by decide) (by rfl)⟩
 · replace H := zneg c5 H
   have c5a := beq_eq_false_iff_ne.mpr c5
   have c5b := bne_iff_ne.mpr c5
   clear c5
   (try simp only [c5a, c5b, decide_true, decide_false, Bool.not_true, Bool.not_false])
   obtain rfl := zsome H
   go_wp2
   go_ret
   exact ⟨rfl, HS.pick [] (by decide) (by rfl)⟩
/-! ### laws_eqRevS: function 172 -/
def laws_eqRevS.l0 : Nat → Int → (List S230) → (List S230) → Option (Bool)
  | 0, _, _, _ => none
  | k + 1, x5, a0, a1 => (if x5 < (a0.length : Int) then (if 0 ≤ x5 then (if x5 < (a0.length : Int) then (if x5 < (a1.length : Int) then ((laws_eqRev.f (rd_T230 a0 x5) (rd_T230 a1 x5)).bind fun t108001 => (if t108001 = true then (laws_eqRevS.l0 k (wrap64 (x5 + 1)) a0 a1) else (some false))) else none) else none) else none) else (some true))
def laws_eqRevS.f (k : Nat) (a0 : (List S230)) (a1 : (List S230)) : Option (Bool) := (if (a0.length : Int) = (a1.length : Int) then (laws_eqRevS.l0 k 0 a0 a1) else (some false))
def laws_eqRevS.T6 : Bool × List (List Nat × List Nat) := (true, [([], []), ([], []), ([0, 1], [0, 1]), ([2], [2]), ([], []), ([], []), ([4, 5], [4, 5]), ([6], [6]), ([3, 7], [3, 7]), ([8], [8])])
theorem laws_eqRevS.tT6 : rtab .any (opsOf Try.f172 6) = laws_eqRevS.T6 := by kernel_rfl
set_option maxHeartbeats 16000000 in
theorem laws_eqRevS.calls {k : Nat} {a0 : (List S230)} {a1 : (List S230)} {Ap0 : Option Addr} {np0 cp0 : Nat} {Ap1 : Option Addr} {np1 cp1 : Nat} {r : Bool} {w : World} (h : laws_eqRevS.f k a0 a1 = some r) (gp0 : k230.C w Ap0 np0 a0) (lp0 : np0 ≤ cp0) (gp1 : k230.C w Ap1 np1 a1) (lp1 : np1 ≤ cp1) :
    Calls Try.prog 172 #[.slice Ap0 np0 cp0, .slice Ap1 np1 cp1] w (fun e w' => e = .returned (.bool r) ∧ Hp noFP w w' []) := by
 obtain rfl := C_len gp0
 obtain rfl := C_len gp1
 have HS := Hp.start w
 have H := Aside0.mk h
 clear h
 unfold laws_eqRevS.f at H
 go_enter Try.func172, Try.ntmps172
 by_cases c1 : (a0.length : Int) = (a1.length : Int)
 · replace H := zpos c1 H
   have c1a := beq_iff_eq.mpr c1
   have c1b := bne_eq_false_iff_eq.mpr c1
   clear c1
   go_wp2
   go_loopg [5] k (fun kq v_5 w' => ∃ (x5 : Int), v_5 = .int .i64 x5 ∧ Aside0 (laws_eqRevS.l0 kq x5 a0 a1 = some r) ∧ Aside0 (kq ≤ k) ∧ Hp noFP w w' [])
   case atStart => exact ⟨_, rfl, H, ⟨Nat.le_refl _⟩, HS⟩
   case round =>
    clear HS H; (try clear F)
    obtain ⟨x5, rfl, H, HKk4, HS⟩ := hrel
    cases gk with
    | zero => exact absurd H.out (by simp [laws_eqRevS.l0])
    | succ k4 =>
     simp only [laws_eqRevS.l0] at H
     by_cases c7 : x5 < (a0.length : Int)
     · replace H := zpos c7 H
       replace c7 := eq_true c7
       (try go_wp2)
       by_cases c102001 : 0 ≤ x5
       case neg => exact zno c102001 H
       replace H := zpos c102001 H
       replace c102001 := eq_true c102001
       by_cases c102002 : x5 < (a0.length : Int)
       case neg => exact zno c102002 H
       replace H := zpos c102002 H
       replace c102002 := eq_true c102002
       obtain ⟨ad102999, rfl, e102999_0, e102999_1⟩ := at_T230 gp0 x5 (of_eq_true c102001) (of_eq_true c102002)
       by_cases c106001 : x5 < (a1.length : Int)
       case neg => exact zno c106001 H
       replace H := zpos c106001 H
       replace c106001 := eq_true c106001
       obtain ⟨ad106999, rfl, e106999_0, e106999_1⟩ := at_T230 gp1 x5 (of_eq_true c102001) (of_eq_true c106001)
       replace H := zbind H; obtain ⟨t108001, ht108001, H⟩ := H
       refine dr_start [] HS #[false, false, false, false, false, false, false, false, false, false] (by kernel_rfl) rfl rfl laws_eqRevS.tT6 (fun w9 HT HS HH => ?_)
       (try clear F)
       refine drq_of [(0, some 17), (1, some 18), (2, some 19)] ?_
       repeat (first | (refine drq_pure HT (v := ?_) (a' := ?_) rfl rfl (by kernel_rfl) (fun _ _ _ h => h) (.inl ⟨by rfl, ?_⟩) ?_ ?_; rotate_left; (intro w'; go_simp; with_reducible rfl); rotate_left; (simp only [Act.put, List.setIfInBounds_toArray, List.set_cons_zero, List.set_cons_succ, i64_w, i32_w]; rfl)))
       refine drq_end ?_
       refine dr_take 3 (some 20) HT HH (v := ?_) (a' := ?_) rfl rfl (by kernel_rfl) (fun _ _ _ h => h) (.inl ⟨by rfl, ?_⟩) ?_ ?_
       rotate_left
       · rintro w' ⟨rs', HS'⟩; have e102999_0 := (HS'.keepc e102999_0); have e102999_1 := (HS'.keepc e102999_1); go_simp; with_reducible rfl
       rotate_left
       · simp only [Act.put, List.setIfInBounds_toArray, List.set_cons_zero, List.set_cons_succ, i64_w, i32_w]; rfl
       refine drq_of [(4, some 21), (5, some 22), (6, some 23)] ?_
       repeat (first | (refine drq_pure HT (v := ?_) (a' := ?_) rfl rfl (by kernel_rfl) (fun _ _ _ h => h) (.inl ⟨by rfl, ?_⟩) ?_ ?_; rotate_left; (intro w'; go_simp; with_reducible rfl); rotate_left; (simp only [Act.put, List.setIfInBounds_toArray, List.set_cons_zero, List.set_cons_succ, i64_w, i32_w]; rfl)))
       refine drq_end ?_
       refine dr_take 7 (some 24) HT HH (v := ?_) (a' := ?_) rfl rfl (by kernel_rfl) (fun _ _ _ h => h) (.inl ⟨by rfl, ?_⟩) ?_ ?_
       rotate_left
       · rintro w' ⟨rs', HS'⟩; have e106999_0 := (HS'.keepc e106999_0); have e106999_1 := (HS'.keepc e106999_1); go_simp; with_reducible rfl
       rotate_left
       · simp only [Act.put, List.setIfInBounds_toArray, List.set_cons_zero, List.set_cons_succ, i64_w, i32_w]; rfl
       refine dr_one 8 HT rfl (by kernel_rfl) (by decide) (fun K hK => ?_)
       refine goes_ Try.func185 (by kernel_rfl) rfl #[.agg #[.int .i64 ((rd_T230 a0 x5).f0), .int .i64 ((rd_T230 a0 x5).f1)], .agg #[.int .i64 ((rd_T230 a1 x5).f0), .int .i64 ((rd_T230 a1 x5).f1)]] (by rfl) rfl rfl (by simp only [List.map_toArray, List.map_cons, List.map_nil]; rfl) ?_; refine (laws_eqRev.calls ht108001.out).mono ?_; rintro _ wt108001 ⟨rfl, HQ⟩; refine ⟨_, rfl, ?_⟩; replace HS := HS.call HQ; clear HQ; (try clear F)
       replace HS : Hp noFP w _ [] := HS
       refine hK.out _ _ ⟨_, HS⟩ (fun HH => ?_)
       clear hK K
       refine norm_ (a' := ?_) ?_ ?_
       rotate_left
       · show Act.put _ (some 25) _ = _; simp only [Act.put, List.setIfInBounds_toArray, List.set_cons_zero, List.set_cons_succ, i64_w, i32_w]; rfl
       refine drq_of [(9, some 26)] ?_
       repeat (first | (refine drq_pure HT (v := ?_) (a' := ?_) rfl rfl (by kernel_rfl) (fun _ _ _ h => h) (.inl ⟨by rfl, ?_⟩) ?_ ?_; rotate_left; (intro w'; go_simp; with_reducible rfl); rotate_left; (simp only [Act.put, List.setIfInBounds_toArray, List.set_cons_zero, List.set_cons_succ, i64_w, i32_w]; rfl)))
       refine drq_end ?_
       refine done_ (done_of HT.out (by kernel_rfl)) ?_
       by_cases c11 : t108001 = true
       · replace H := zpos c11 H
         subst c11
         (try simp only [decide_true, decide_false, Bool.not_true, Bool.not_false, if_true, Bool.false_eq_true, if_false])
         go_wp2
         go_roundg k4
         case measure => have := HKk4.out; omega
         case rel => exact ⟨_, rfl, H, ⟨by have := HKk4.out; omega⟩, HS.pick [] (by decide) (by rfl)⟩
       · replace H := zneg c11 H
         replace c11 := eq_false_of_ne_true c11
         subst c11
         (try simp only [decide_true, decide_false, Bool.not_true, Bool.not_false, if_true, Bool.false_eq_true, if_false])
         obtain rfl := zsome H
         go_wp2
         go_ret
         exact ⟨rfl, HS.pick [] (by decide) (by rfl)⟩
     · replace H := zneg c7 H
       replace c7 := eq_false c7
       obtain rfl := zsome H
       go_wp2
       go_ret
       exact ⟨rfl, HS.pick [] (by decide) (by rfl)⟩
 · replace H := zneg c1 H
   have c1a := beq_eq_false_iff_ne.mpr c1
   have c1b := bne_iff_ne.mpr c1
   clear c1
   obtain rfl := zsome H
   go_wp2
   go_ret
   exact ⟨rfl, HS.pick [] (by decide) (by rfl)⟩
/-! ### laws_eqCrl: function 137 -/
def laws_eqCrl.f (k : Nat) (a0 : S190) (a1 : S190) : Option (Bool) := (if a0.f0.toList = a1.f0.toList then (if a0.f1 = a1.f1 then (if a0.f2 = a1.f2 then (if a0.f3 = a1.f3 then (if a0.f4 = a1.f4 then ((laws_eqRevS.f k a0.f5 a1.f5).bind fun t10 => (if t10 = true then (if a0.f6.toList = a1.f6.toList then (some true) else (some false)) else (some false))) else (some false)) else (some false)) else (some false)) else (some false)) else (some false))
set_option maxHeartbeats 16000000 in
theorem laws_eqCrl.calls {k : Nat} {a0 : S190} {a1 : S190} {Ap0 : Option Addr} {np0 cp0 : Nat} {Ap1 : Option Addr} {np1 cp1 : Nat} {r : Bool} {w : World} (h : laws_eqCrl.f k a0 a1 = some r) (gp0 : k230.C w Ap0 np0 a0.f5) (lp0 : np0 ≤ cp0) (gp1 : k230.C w Ap1 np1 a1.f5) (lp1 : np1 ≤ cp1) :
    Calls Try.prog 137 #[.agg #[.string a0.f0, .int .i64 a0.f1, .int .i64 a0.f2, .int .i64 a0.f3, .int .i64 a0.f4, .slice Ap0 np0 cp0, .string a0.f6], .agg #[.string a1.f0, .int .i64 a1.f1, .int .i64 a1.f2, .int .i64 a1.f3, .int .i64 a1.f4, .slice Ap1 np1 cp1, .string a1.f6]] w (fun e w' => e = .returned (.bool r) ∧ Hp noFP w w' []) := by
 obtain rfl := C_len gp0
 obtain rfl := C_len gp1
 have HS := Hp.start w
 have H := Aside0.mk h
 clear h
 unfold laws_eqCrl.f at H
 go_enter Try.func137, Try.ntmps137
 go_upto_if 9 with (first | ((with_reducible refine gate_dst (N := 2) rfl ?_); refine ev_box rfl HS (by first | (go_simp; done) | (go_simp; rfl)) rfl ?_; clear HS; (try clear F); intro g2 w2 HS; replace HS : Hp noFP w _ [.box g2 [.string a0.f0, .int .i64 a0.f1, .int .i64 a0.f2, .int .i64 a0.f3, .int .i64 a0.f4, .slice Ap0 a0.f5.length cp0, .string a0.f6] 190] := HS; have F := HS.boxes; simp only [boxFacts, and_true] at F) | ((with_reducible refine gate_dst (N := 3) rfl ?_); refine ev_box rfl HS (by first | (go_simp; done) | (go_simp; rfl)) rfl ?_; clear HS; (try clear F); intro g3 w3 HS; replace HS : Hp noFP w _ [.box g2 [.string a0.f0, .int .i64 a0.f1, .int .i64 a0.f2, .int .i64 a0.f3, .int .i64 a0.f4, .slice Ap0 a0.f5.length cp0, .string a0.f6] 190, .box g3 [.string a1.f0, .int .i64 a1.f1, .int .i64 a1.f2, .int .i64 a1.f3, .int .i64 a1.f4, .slice Ap1 a1.f5.length cp1, .string a1.f6] 190] := HS; have F := HS.boxes; simp only [boxFacts, and_true] at F))
 by_cases c5 : a0.f0.toList = a1.f0.toList
 · replace H := zpos c5 H
   have c5a := beq_iff_eq.mpr c5
   have c5b := bne_eq_false_iff_eq.mpr c5
   clear c5
   (try simp only [c5a, c5b, decide_true, decide_false, Bool.not_true, Bool.not_false])
   by_cases c6 : a0.f1 = a1.f1
   · replace H := zpos c6 H
     have c6a := beq_iff_eq.mpr c6
     have c6b := bne_eq_false_iff_eq.mpr c6
     clear c6
     by_cases c7 : a0.f2 = a1.f2
     · replace H := zpos c7 H
       have c7a := beq_iff_eq.mpr c7
       have c7b := bne_eq_false_iff_eq.mpr c7
       clear c7
       by_cases c8 : a0.f3 = a1.f3
       · replace H := zpos c8 H
         have c8a := beq_iff_eq.mpr c8
         have c8b := bne_eq_false_iff_eq.mpr c8
         clear c8
         by_cases c9 : a0.f4 = a1.f4
         · replace H := zpos c9 H
           have c9a := beq_iff_eq.mpr c9
           have c9b := bne_eq_false_iff_eq.mpr c9
           clear c9
           replace H := zbind H; obtain ⟨t10, ht10, H⟩ := H
           go_upto_if 35 with (first | ((with_reducible refine gate_dst (N := 34) rfl ?_); refine ev_call rfl Try.func172 (by kernel_rfl) rfl #[.slice Ap0 a0.f5.length cp0, .slice Ap1 a1.f5.length cp1] rfl (by simp only [List.map_toArray, List.map_cons, List.map_nil]; rfl) ?_; refine (laws_eqRevS.calls ht10.out (HS.ro gp0) lp0 (HS.ro gp1) lp1).mono ?_; rintro _ wt10 ⟨rfl, HQ⟩; refine ⟨_, rfl, ?_⟩; replace HS := HS.call HQ; clear HQ; (try clear F); replace HS : Hp noFP w _ [.box g2 [.string a0.f0, .int .i64 a0.f1, .int .i64 a0.f2, .int .i64 a0.f3, .int .i64 a0.f4, .slice Ap0 a0.f5.length cp0, .string a0.f6] 190, .box g3 [.string a1.f0, .int .i64 a1.f1, .int .i64 a1.f2, .int .i64 a1.f3, .int .i64 a1.f4, .slice Ap1 a1.f5.length cp1, .string a1.f6] 190] := HS; have F := HS.boxes; simp only [boxFacts, and_true] at F))
           by_cases c12 : t10 = true
           · replace H := zpos c12 H
             subst c12
             (try simp only [decide_true, decide_false, Bool.not_true, Bool.not_false, if_true, Bool.false_eq_true, if_false])
             by_cases c13 : a0.f6.toList = a1.f6.toList
             · replace H := zpos c13 H
               have c13a := beq_iff_eq.mpr c13
               have c13b := bne_eq_false_iff_eq.mpr c13
               clear c13
               obtain rfl := zsome H
               go_wp2
               go_ret
               exact ⟨rfl, HS.pick [] (by decide) (by rfl)⟩
             · replace H := zneg c13 H
               have c13a := beq_eq_false_iff_ne.mpr c13
               have c13b := bne_iff_ne.mpr c13
               clear c13
               obtain rfl := zsome H
               go_wp2
               go_ret
               exact ⟨rfl, HS.pick [] (by decide) (by rfl)⟩
           · replace H := zneg c12 H
             replace c12 := eq_false_of_ne_true c12
             subst c12
             (try simp only [decide_true, decide_false, Bool.not_true, Bool.not_false, if_true, Bool.false_eq_true, if_false])
             obtain rfl := zsome H
             go_wp2
             go_ret
             exact ⟨rfl, HS.pick [] (by decide) (by rfl)⟩
         · replace H := zneg c9 H
           have c9a := beq_eq_false_iff_ne.mpr c9
           have c9b := bne_iff_ne.mpr c9
           clear c9
           obtain rfl := zsome H
           go_wp2
           go_ret
           exact ⟨rfl, HS.pick [] (by decide) (by rfl)⟩
       · replace H := zneg c8 H
         have c8a := beq_eq_false_iff_ne.mpr c8
         have c8b := bne_iff_ne.mpr c8
         clear c8
         obtain rfl := zsome H
         go_wp2
         go_ret
         exact ⟨rfl, HS.pick [] (by decide) (by rfl)⟩
     · replace H := zneg c7 H
       have c7a := beq_eq_false_iff_ne.mpr c7
       have c7b := bne_iff_ne.mpr c7
       clear c7
       obtain rfl := zsome H
       go_wp2
       go_ret
       exact ⟨rfl, HS.pick [] (by decide) (by rfl)⟩
   · replace H := zneg c6 H
     have c6a := beq_eq_false_iff_ne.mpr c6
     have c6b := bne_iff_ne.mpr c6
     clear c6
     obtain rfl := zsome H
     go_wp2
     go_ret
     exact ⟨rfl, HS.pick [] (by decide) (by rfl)⟩
 · replace H := zneg c5 H
   have c5a := beq_eq_false_iff_ne.mpr c5
   have c5b := bne_iff_ne.mpr c5
   clear c5
   (try simp only [c5a, c5b, decide_true, decide_false, Bool.not_true, Bool.not_false])
   obtain rfl := zsome H
   go_wp2
   go_ret
   exact ⟨rfl, HS.pick [] (by decide) (by rfl)⟩
/-! ### laws_eqCrlS: function 80 -/
def laws_eqCrlS.l0 : Nat → Int → (List S190) → (List S190) → Option (Bool)
  | 0, _, _, _ => none
  | k + 1, x5, a0, a1 => (if x5 < (a0.length : Int) then (if 0 ≤ x5 then (if x5 < (a0.length : Int) then (if x5 < (a1.length : Int) then ((laws_eqCrl.f k (rd_T190 a0 x5) (rd_T190 a1 x5)).bind fun t108001 => (if t108001 = true then (laws_eqCrlS.l0 k (wrap64 (x5 + 1)) a0 a1) else (some false))) else none) else none) else none) else (some true))
def laws_eqCrlS.f (k : Nat) (a0 : (List S190)) (a1 : (List S190)) : Option (Bool) := (if (a0.length : Int) = (a1.length : Int) then (laws_eqCrlS.l0 k 0 a0 a1) else (some false))
def laws_eqCrlS.T6 : Bool × List (List Nat × List Nat) := (true, [([], []), ([], []), ([0, 1], [0, 1]), ([2], [2]), ([], []), ([], []), ([4, 5], [4, 5]), ([6], [6]), ([3, 7], [3, 7]), ([8], [8])])
theorem laws_eqCrlS.tT6 : rtab .any (opsOf Try.f80 6) = laws_eqCrlS.T6 := by kernel_rfl
set_option maxHeartbeats 16000000 in
theorem laws_eqCrlS.calls {k : Nat} {a0 : (List S190)} {a1 : (List S190)} {Ap0 : Option Addr} {np0 cp0 : Nat} {Ap1 : Option Addr} {np1 cp1 : Nat} {r : Bool} {w : World} (h : laws_eqCrlS.f k a0 a1 = some r) (gp0 : k190.C w Ap0 np0 a0) (lp0 : np0 ≤ cp0) (gp1 : k190.C w Ap1 np1 a1) (lp1 : np1 ≤ cp1) :
    Calls Try.prog 80 #[.slice Ap0 np0 cp0, .slice Ap1 np1 cp1] w (fun e w' => e = .returned (.bool r) ∧ Hp noFP w w' []) := by
 obtain rfl := C_len gp0
 obtain rfl := C_len gp1
 have HS := Hp.start w
 have H := Aside0.mk h
 clear h
 unfold laws_eqCrlS.f at H
 go_enter Try.func80, Try.ntmps80
 by_cases c1 : (a0.length : Int) = (a1.length : Int)
 · replace H := zpos c1 H
   have c1a := beq_iff_eq.mpr c1
   have c1b := bne_eq_false_iff_eq.mpr c1
   clear c1
   go_wp2
   go_loopg [5] k (fun kq v_5 w' => ∃ (x5 : Int), v_5 = .int .i64 x5 ∧ Aside0 (laws_eqCrlS.l0 kq x5 a0 a1 = some r) ∧ Aside0 (kq ≤ k) ∧ Hp noFP w w' [])
   case atStart => exact ⟨_, rfl, H, ⟨Nat.le_refl _⟩, HS⟩
   case round =>
    clear HS H; (try clear F)
    obtain ⟨x5, rfl, H, HKk4, HS⟩ := hrel
    cases gk with
    | zero => exact absurd H.out (by simp [laws_eqCrlS.l0])
    | succ k4 =>
     simp only [laws_eqCrlS.l0] at H
     by_cases c7 : x5 < (a0.length : Int)
     · replace H := zpos c7 H
       replace c7 := eq_true c7
       (try go_wp2)
       by_cases c102001 : 0 ≤ x5
       case neg => exact zno c102001 H
       replace H := zpos c102001 H
       replace c102001 := eq_true c102001
       by_cases c102002 : x5 < (a0.length : Int)
       case neg => exact zno c102002 H
       replace H := zpos c102002 H
       replace c102002 := eq_true c102002
       obtain ⟨ad102999, B102999_5, d102999_5, rfl, e102999_0, e102999_1, e102999_2, e102999_3, e102999_4, e102999_5, e102999_6, m102999_5, y102999_5⟩ := at_T190 gp0 x5 (of_eq_true c102001) (of_eq_true c102002)
       by_cases c106001 : x5 < (a1.length : Int)
       case neg => exact zno c106001 H
       replace H := zpos c106001 H
       replace c106001 := eq_true c106001
       obtain ⟨ad106999, B106999_5, d106999_5, rfl, e106999_0, e106999_1, e106999_2, e106999_3, e106999_4, e106999_5, e106999_6, m106999_5, y106999_5⟩ := at_T190 gp1 x5 (of_eq_true c102001) (of_eq_true c106001)
       replace H := zbind H; obtain ⟨t108001, ht108001, H⟩ := H
       refine dr_start [] HS #[false, false, false, false, false, false, false, false, false, false] (by kernel_rfl) rfl rfl laws_eqCrlS.tT6 (fun w9 HT HS HH => ?_)
       (try clear F)
       refine drq_of [(0, some 17), (1, some 18), (2, some 19)] ?_
       repeat (first | (refine drq_pure HT (v := ?_) (a' := ?_) rfl rfl (by kernel_rfl) (fun _ _ _ h => h) (.inl ⟨by rfl, ?_⟩) ?_ ?_; rotate_left; (intro w'; go_simp; with_reducible rfl); rotate_left; (simp only [Act.put, List.setIfInBounds_toArray, List.set_cons_zero, List.set_cons_succ, i64_w, i32_w]; rfl)))
       refine drq_end ?_
       refine dr_take 3 (some 20) HT HH (v := ?_) (a' := ?_) rfl rfl (by kernel_rfl) (fun _ _ _ h => h) (.inl ⟨by rfl, ?_⟩) ?_ ?_
       rotate_left
       · rintro w' ⟨rs', HS'⟩; have e102999_0 := (HS'.keepc e102999_0); have e102999_1 := (HS'.keepc e102999_1); have e102999_2 := (HS'.keepc e102999_2); have e102999_3 := (HS'.keepc e102999_3); have e102999_4 := (HS'.keepc e102999_4); have e102999_5 := (HS'.keepc e102999_5); have e102999_6 := (HS'.keepc e102999_6); go_simp; with_reducible rfl
       rotate_left
       · simp only [Act.put, List.setIfInBounds_toArray, List.set_cons_zero, List.set_cons_succ, i64_w, i32_w]; rfl
       refine drq_of [(4, some 21), (5, some 22), (6, some 23)] ?_
       repeat (first | (refine drq_pure HT (v := ?_) (a' := ?_) rfl rfl (by kernel_rfl) (fun _ _ _ h => h) (.inl ⟨by rfl, ?_⟩) ?_ ?_; rotate_left; (intro w'; go_simp; with_reducible rfl); rotate_left; (simp only [Act.put, List.setIfInBounds_toArray, List.set_cons_zero, List.set_cons_succ, i64_w, i32_w]; rfl)))
       refine drq_end ?_
       refine dr_take 7 (some 24) HT HH (v := ?_) (a' := ?_) rfl rfl (by kernel_rfl) (fun _ _ _ h => h) (.inl ⟨by rfl, ?_⟩) ?_ ?_
       rotate_left
       · rintro w' ⟨rs', HS'⟩; have e106999_0 := (HS'.keepc e106999_0); have e106999_1 := (HS'.keepc e106999_1); have e106999_2 := (HS'.keepc e106999_2); have e106999_3 := (HS'.keepc e106999_3); have e106999_4 := (HS'.keepc e106999_4); have e106999_5 := (HS'.keepc e106999_5); have e106999_6 := (HS'.keepc e106999_6); go_simp; with_reducible rfl
       rotate_left
       · simp only [Act.put, List.setIfInBounds_toArray, List.set_cons_zero, List.set_cons_succ, i64_w, i32_w]; rfl
       refine dr_one 8 HT rfl (by kernel_rfl) (by decide) (fun K hK => ?_)
       refine goes_ Try.func137 (by kernel_rfl) rfl #[.agg #[.string ((rd_T190 a0 x5).f0), .int .i64 ((rd_T190 a0 x5).f1), .int .i64 ((rd_T190 a0 x5).f2), .int .i64 ((rd_T190 a0 x5).f3), .int .i64 ((rd_T190 a0 x5).f4), .slice B102999_5 (rd_T190 a0 x5).f5.length d102999_5, .string ((rd_T190 a0 x5).f6)], .agg #[.string ((rd_T190 a1 x5).f0), .int .i64 ((rd_T190 a1 x5).f1), .int .i64 ((rd_T190 a1 x5).f2), .int .i64 ((rd_T190 a1 x5).f3), .int .i64 ((rd_T190 a1 x5).f4), .slice B106999_5 (rd_T190 a1 x5).f5.length d106999_5, .string ((rd_T190 a1 x5).f6)]] (by rfl) rfl rfl (by simp only [List.map_toArray, List.map_cons, List.map_nil]; rfl) ?_; refine (laws_eqCrl.calls ht108001.out (HS.ro y102999_5) m102999_5 (HS.ro y106999_5) m106999_5).mono ?_; rintro _ wt108001 ⟨rfl, HQ⟩; refine ⟨_, rfl, ?_⟩; replace HS := HS.call HQ; clear HQ; (try clear F)
       replace HS : Hp noFP w _ [] := HS
       refine hK.out _ _ ⟨_, HS⟩ (fun HH => ?_)
       clear hK K
       refine norm_ (a' := ?_) ?_ ?_
       rotate_left
       · show Act.put _ (some 25) _ = _; simp only [Act.put, List.setIfInBounds_toArray, List.set_cons_zero, List.set_cons_succ, i64_w, i32_w]; rfl
       refine drq_of [(9, some 26)] ?_
       repeat (first | (refine drq_pure HT (v := ?_) (a' := ?_) rfl rfl (by kernel_rfl) (fun _ _ _ h => h) (.inl ⟨by rfl, ?_⟩) ?_ ?_; rotate_left; (intro w'; go_simp; with_reducible rfl); rotate_left; (simp only [Act.put, List.setIfInBounds_toArray, List.set_cons_zero, List.set_cons_succ, i64_w, i32_w]; rfl)))
       refine drq_end ?_
       refine done_ (done_of HT.out (by kernel_rfl)) ?_
       by_cases c11 : t108001 = true
       · replace H := zpos c11 H
         subst c11
         (try simp only [decide_true, decide_false, Bool.not_true, Bool.not_false, if_true, Bool.false_eq_true, if_false])
         go_wp2
         go_roundg k4
         case measure => have := HKk4.out; omega
         case rel => exact ⟨_, rfl, H, ⟨by have := HKk4.out; omega⟩, HS.pick [] (by decide) (by rfl)⟩
       · replace H := zneg c11 H
         replace c11 := eq_false_of_ne_true c11
         subst c11
         (try simp only [decide_true, decide_false, Bool.not_true, Bool.not_false, if_true, Bool.false_eq_true, if_false])
         obtain rfl := zsome H
         go_wp2
         go_ret
         exact ⟨rfl, HS.pick [] (by decide) (by rfl)⟩
     · replace H := zneg c7 H
       replace c7 := eq_false c7
       obtain rfl := zsome H
       go_wp2
       go_ret
       exact ⟨rfl, HS.pick [] (by decide) (by rfl)⟩
 · replace H := zneg c1 H
   have c1a := beq_eq_false_iff_ne.mpr c1
   have c1b := bne_iff_ne.mpr c1
   clear c1
   obtain rfl := zsome H
   go_wp2
   go_ret
   exact ⟨rfl, HS.pick [] (by decide) (by rfl)⟩
/-! ### laws_eqAnchor: function 138 -/
def laws_eqAnchor.f (a0 : S128) (a1 : S128) : Option (Bool) := (if a0.f0.toList = a1.f0.toList then (if a0.f1.toList = a1.f1.toList then (some true) else (some false)) else (some false))
set_option maxHeartbeats 16000000 in
theorem laws_eqAnchor.calls {a0 : S128} {a1 : S128} {r : Bool} {w : World} (h : laws_eqAnchor.f a0 a1 = some r) :
    Calls Try.prog 138 #[.agg #[.string a0.f0, .string a0.f1], .agg #[.string a1.f0, .string a1.f1]] w (fun e w' => e = .returned (.bool r) ∧ Hp noFP w w' []) := by
 have HS := Hp.start w
 have H := Aside0.mk h
 clear h
 unfold laws_eqAnchor.f at H
 go_enter Try.func138, Try.ntmps138
 go_upto_if 9 with (first | ((with_reducible refine gate_dst (N := 2) rfl ?_); refine ev_box rfl HS (by first | (go_simp; done) | (go_simp; rfl)) rfl ?_; clear HS; (try clear F); intro g2 w2 HS; replace HS : Hp noFP w _ [.box g2 [.string a0.f0, .string a0.f1] 128] := HS; have F := HS.boxes; simp only [boxFacts, and_true] at F) | ((with_reducible refine gate_dst (N := 3) rfl ?_); refine ev_box rfl HS (by first | (go_simp; done) | (go_simp; rfl)) rfl ?_; clear HS; (try clear F); intro g3 w3 HS; replace HS : Hp noFP w _ [.box g2 [.string a0.f0, .string a0.f1] 128, .box g3 [.string a1.f0, .string a1.f1] 128] := HS; have F := HS.boxes; simp only [boxFacts, and_true] at F))
 by_cases c5 : a0.f0.toList = a1.f0.toList
 · replace H := zpos c5 H
   have c5a := beq_iff_eq.mpr c5
   have c5b := bne_eq_false_iff_eq.mpr c5
   clear c5
   (try simp only [c5a, c5b, decide_true, decide_false, Bool.not_true, Bool.not_false])
   by_cases c6 : a0.f1.toList = a1.f1.toList
   · replace H := zpos c6 H
     have c6a := beq_iff_eq.mpr c6
     have c6b := bne_eq_false_iff_eq.mpr c6
     clear c6
     obtain rfl := zsome H
     go_wp2
     go_ret
     exact ⟨rfl, HS.pick [] (by decide) (by rfl)⟩
   · replace H := zneg c6 H
     have c6a := beq_eq_false_iff_ne.mpr c6
     have c6b := bne_iff_ne.mpr c6
     clear c6
     obtain rfl := zsome H
     go_wp2
     go_ret
     exact ⟨rfl, HS.pick [] (by decide) (by rfl)⟩
 · replace H := zneg c5 H
   have c5a := beq_eq_false_iff_ne.mpr c5
   have c5b := bne_iff_ne.mpr c5
   clear c5
   (try simp only [c5a, c5b, decide_true, decide_false, Bool.not_true, Bool.not_false])
   obtain rfl := zsome H
   go_wp2
   go_ret
   exact ⟨rfl, HS.pick [] (by decide) (by rfl)⟩
/-! ### laws_eqAnchorS: function 81 -/
def laws_eqAnchorS.l0 : Nat → Int → (List S128) → (List S128) → Option (Bool)
  | 0, _, _, _ => none
  | k + 1, x5, a0, a1 => (if x5 < (a0.length : Int) then (if 0 ≤ x5 then (if x5 < (a0.length : Int) then (if x5 < (a1.length : Int) then ((laws_eqAnchor.f (rd_T128 a0 x5) (rd_T128 a1 x5)).bind fun t108001 => (if t108001 = true then (laws_eqAnchorS.l0 k (wrap64 (x5 + 1)) a0 a1) else (some false))) else none) else none) else none) else (some true))
def laws_eqAnchorS.f (k : Nat) (a0 : (List S128)) (a1 : (List S128)) : Option (Bool) := (if (a0.length : Int) = (a1.length : Int) then (laws_eqAnchorS.l0 k 0 a0 a1) else (some false))
def laws_eqAnchorS.T6 : Bool × List (List Nat × List Nat) := (true, [([], []), ([], []), ([0, 1], [0, 1]), ([2], [2]), ([], []), ([], []), ([4, 5], [4, 5]), ([6], [6]), ([3, 7], [3, 7]), ([8], [8])])
theorem laws_eqAnchorS.tT6 : rtab .any (opsOf Try.f81 6) = laws_eqAnchorS.T6 := by kernel_rfl
set_option maxHeartbeats 16000000 in
theorem laws_eqAnchorS.calls {k : Nat} {a0 : (List S128)} {a1 : (List S128)} {Ap0 : Option Addr} {np0 cp0 : Nat} {Ap1 : Option Addr} {np1 cp1 : Nat} {r : Bool} {w : World} (h : laws_eqAnchorS.f k a0 a1 = some r) (gp0 : k128.C w Ap0 np0 a0) (lp0 : np0 ≤ cp0) (gp1 : k128.C w Ap1 np1 a1) (lp1 : np1 ≤ cp1) :
    Calls Try.prog 81 #[.slice Ap0 np0 cp0, .slice Ap1 np1 cp1] w (fun e w' => e = .returned (.bool r) ∧ Hp noFP w w' []) := by
 obtain rfl := C_len gp0
 obtain rfl := C_len gp1
 have HS := Hp.start w
 have H := Aside0.mk h
 clear h
 unfold laws_eqAnchorS.f at H
 go_enter Try.func81, Try.ntmps81
 by_cases c1 : (a0.length : Int) = (a1.length : Int)
 · replace H := zpos c1 H
   have c1a := beq_iff_eq.mpr c1
   have c1b := bne_eq_false_iff_eq.mpr c1
   clear c1
   go_wp2
   go_loopg [5] k (fun kq v_5 w' => ∃ (x5 : Int), v_5 = .int .i64 x5 ∧ Aside0 (laws_eqAnchorS.l0 kq x5 a0 a1 = some r) ∧ Aside0 (kq ≤ k) ∧ Hp noFP w w' [])
   case atStart => exact ⟨_, rfl, H, ⟨Nat.le_refl _⟩, HS⟩
   case round =>
    clear HS H; (try clear F)
    obtain ⟨x5, rfl, H, HKk4, HS⟩ := hrel
    cases gk with
    | zero => exact absurd H.out (by simp [laws_eqAnchorS.l0])
    | succ k4 =>
     simp only [laws_eqAnchorS.l0] at H
     by_cases c7 : x5 < (a0.length : Int)
     · replace H := zpos c7 H
       replace c7 := eq_true c7
       (try go_wp2)
       by_cases c102001 : 0 ≤ x5
       case neg => exact zno c102001 H
       replace H := zpos c102001 H
       replace c102001 := eq_true c102001
       by_cases c102002 : x5 < (a0.length : Int)
       case neg => exact zno c102002 H
       replace H := zpos c102002 H
       replace c102002 := eq_true c102002
       obtain ⟨ad102999, rfl, e102999_0, e102999_1⟩ := at_T128 gp0 x5 (of_eq_true c102001) (of_eq_true c102002)
       by_cases c106001 : x5 < (a1.length : Int)
       case neg => exact zno c106001 H
       replace H := zpos c106001 H
       replace c106001 := eq_true c106001
       obtain ⟨ad106999, rfl, e106999_0, e106999_1⟩ := at_T128 gp1 x5 (of_eq_true c102001) (of_eq_true c106001)
       replace H := zbind H; obtain ⟨t108001, ht108001, H⟩ := H
       refine dr_start [] HS #[false, false, false, false, false, false, false, false, false, false] (by kernel_rfl) rfl rfl laws_eqAnchorS.tT6 (fun w9 HT HS HH => ?_)
       (try clear F)
       refine drq_of [(0, some 17), (1, some 18), (2, some 19)] ?_
       repeat (first | (refine drq_pure HT (v := ?_) (a' := ?_) rfl rfl (by kernel_rfl) (fun _ _ _ h => h) (.inl ⟨by rfl, ?_⟩) ?_ ?_; rotate_left; (intro w'; go_simp; with_reducible rfl); rotate_left; (simp only [Act.put, List.setIfInBounds_toArray, List.set_cons_zero, List.set_cons_succ, i64_w, i32_w]; rfl)))
       refine drq_end ?_
       refine dr_take 3 (some 20) HT HH (v := ?_) (a' := ?_) rfl rfl (by kernel_rfl) (fun _ _ _ h => h) (.inl ⟨by rfl, ?_⟩) ?_ ?_
       rotate_left
       · rintro w' ⟨rs', HS'⟩; have e102999_0 := (HS'.keepc e102999_0); have e102999_1 := (HS'.keepc e102999_1); go_simp; with_reducible rfl
       rotate_left
       · simp only [Act.put, List.setIfInBounds_toArray, List.set_cons_zero, List.set_cons_succ, i64_w, i32_w]; rfl
       refine drq_of [(4, some 21), (5, some 22), (6, some 23)] ?_
       repeat (first | (refine drq_pure HT (v := ?_) (a' := ?_) rfl rfl (by kernel_rfl) (fun _ _ _ h => h) (.inl ⟨by rfl, ?_⟩) ?_ ?_; rotate_left; (intro w'; go_simp; with_reducible rfl); rotate_left; (simp only [Act.put, List.setIfInBounds_toArray, List.set_cons_zero, List.set_cons_succ, i64_w, i32_w]; rfl)))
       refine drq_end ?_
       refine dr_take 7 (some 24) HT HH (v := ?_) (a' := ?_) rfl rfl (by kernel_rfl) (fun _ _ _ h => h) (.inl ⟨by rfl, ?_⟩) ?_ ?_
       rotate_left
       · rintro w' ⟨rs', HS'⟩; have e106999_0 := (HS'.keepc e106999_0); have e106999_1 := (HS'.keepc e106999_1); go_simp; with_reducible rfl
       rotate_left
       · simp only [Act.put, List.setIfInBounds_toArray, List.set_cons_zero, List.set_cons_succ, i64_w, i32_w]; rfl
       refine dr_one 8 HT rfl (by kernel_rfl) (by decide) (fun K hK => ?_)
       refine goes_ Try.func138 (by kernel_rfl) rfl #[.agg #[.string ((rd_T128 a0 x5).f0), .string ((rd_T128 a0 x5).f1)], .agg #[.string ((rd_T128 a1 x5).f0), .string ((rd_T128 a1 x5).f1)]] (by rfl) rfl rfl (by simp only [List.map_toArray, List.map_cons, List.map_nil]; rfl) ?_; refine (laws_eqAnchor.calls ht108001.out).mono ?_; rintro _ wt108001 ⟨rfl, HQ⟩; refine ⟨_, rfl, ?_⟩; replace HS := HS.call HQ; clear HQ; (try clear F)
       replace HS : Hp noFP w _ [] := HS
       refine hK.out _ _ ⟨_, HS⟩ (fun HH => ?_)
       clear hK K
       refine norm_ (a' := ?_) ?_ ?_
       rotate_left
       · show Act.put _ (some 25) _ = _; simp only [Act.put, List.setIfInBounds_toArray, List.set_cons_zero, List.set_cons_succ, i64_w, i32_w]; rfl
       refine drq_of [(9, some 26)] ?_
       repeat (first | (refine drq_pure HT (v := ?_) (a' := ?_) rfl rfl (by kernel_rfl) (fun _ _ _ h => h) (.inl ⟨by rfl, ?_⟩) ?_ ?_; rotate_left; (intro w'; go_simp; with_reducible rfl); rotate_left; (simp only [Act.put, List.setIfInBounds_toArray, List.set_cons_zero, List.set_cons_succ, i64_w, i32_w]; rfl)))
       refine drq_end ?_
       refine done_ (done_of HT.out (by kernel_rfl)) ?_
       by_cases c11 : t108001 = true
       · replace H := zpos c11 H
         subst c11
         (try simp only [decide_true, decide_false, Bool.not_true, Bool.not_false, if_true, Bool.false_eq_true, if_false])
         go_wp2
         go_roundg k4
         case measure => have := HKk4.out; omega
         case rel => exact ⟨_, rfl, H, ⟨by have := HKk4.out; omega⟩, HS.pick [] (by decide) (by rfl)⟩
       · replace H := zneg c11 H
         replace c11 := eq_false_of_ne_true c11
         subst c11
         (try simp only [decide_true, decide_false, Bool.not_true, Bool.not_false, if_true, Bool.false_eq_true, if_false])
         obtain rfl := zsome H
         go_wp2
         go_ret
         exact ⟨rfl, HS.pick [] (by decide) (by rfl)⟩
     · replace H := zneg c7 H
       replace c7 := eq_false c7
       obtain rfl := zsome H
       go_wp2
       go_ret
       exact ⟨rfl, HS.pick [] (by decide) (by rfl)⟩
 · replace H := zneg c1 H
   have c1a := beq_eq_false_iff_ne.mpr c1
   have c1b := bne_iff_ne.mpr c1
   clear c1
   obtain rfl := zsome H
   go_wp2
   go_ret
   exact ⟨rfl, HS.pick [] (by decide) (by rfl)⟩
end Go.Proofs.Ytoaoncnbimcdgaa.F

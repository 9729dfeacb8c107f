/- Functions of the program and of the law, and that their calls do what is written here. -/
import Derived.Test.YtoaoncnbimcdgaaZgFnExactTrustingg
import Derived.Test.YtoaoncnbimcdgaaZgFnExactTrustingh
namespace Go.Proofs.Ytoaoncnbimcdgaa.F
open Go.RowKit Go.Proofs.YtoaoncnbimcdgaaW.PrintWords Go.Proofs.YtoaoncnbimcdgaaW.PrintLast Go.Proofs.YtoaoncnbimcdgaaW.PrintMore Go.Proofs.Ytoaoncnbimcdgaa.Z
attribute [local go_sem] max2_int min2_int max_two min_two max_three min_three max_four min_four
set_option linter.unusedVariables false
set_option linter.unusedSimpArgs false
set_option maxRecDepth 100000
/-! ### laws_eqStore: function 25 -/
def laws_eqStore.f (k : Nat) (a0 : S61) (a1 : S61) : Option (Bool) := ((laws_eqCertS.f k a0.f0 a1.f0).bind fun t5 => (if t5 = true then ((laws_eqCrlS.f k a0.f1 a1.f1).bind fun t8 => (if t8 = true then ((laws_eqAnchorS.f k a0.f2 a1.f2).bind fun t11 => (if t11 = true then (some true) else (some false))) else (some false))) else (some false)))
set_option maxHeartbeats 16000000 in
theorem laws_eqStore.calls {k : Nat} {a0 : S61} {a1 : S61} {Ap0 : Option Addr} {np0 cp0 : Nat} {Ap1 : Option Addr} {np1 cp1 : Nat} {Ap2 : Option Addr} {np2 cp2 : Nat} {Ap3 : Option Addr} {np3 cp3 : Nat} {Ap4 : Option Addr} {np4 cp4 : Nat} {Ap5 : Option Addr} {np5 cp5 : Nat} {r : Bool} {w : World} (h : laws_eqStore.f k a0 a1 = some r) (gp0 : k192.C w Ap0 np0 a0.f0) (lp0 : np0 ≤ cp0) (gp1 : k190.C w Ap1 np1 a0.f1) (lp1 : np1 ≤ cp1) (gp2 : k128.C w Ap2 np2 a0.f2) (lp2 : np2 ≤ cp2) (gp3 : k192.C w Ap3 np3 a1.f0) (lp3 : np3 ≤ cp3) (gp4 : k190.C w Ap4 np4 a1.f1) (lp4 : np4 ≤ cp4) (gp5 : k128.C w Ap5 np5 a1.f2) (lp5 : np5 ≤ cp5) :
    Calls Try.prog 25 #[.agg #[.slice Ap0 np0 cp0, .slice Ap1 np1 cp1, .slice Ap2 np2 cp2], .agg #[.slice Ap3 np3 cp3, .slice Ap4 np4 cp4, .slice Ap5 np5 cp5]] w (fun e w' => e = .returned (.bool r) ∧ Hp noFP w w' []) := by
 obtain rfl := C_len gp0
 obtain rfl := C_len gp1
 obtain rfl := C_len gp2
 obtain rfl := C_len gp3
 obtain rfl := C_len gp4
 obtain rfl := C_len gp5
 have HS := Hp.start w
 have H := Aside0.mk h
 clear h
 unfold laws_eqStore.f at H
 go_enter Try.func25, Try.ntmps25
 replace H := zbind H; obtain ⟨t5, ht5, H⟩ := H
 go_upto_if 10 with (first | ((with_reducible refine gate_dst (N := 2) rfl ?_); refine ev_box rfl HS (by first | (go_simp; done) | (go_simp; rfl)) rfl ?_; clear HS; (try clear F); intro g2 w2 HS; replace HS : Hp noFP w _ [.box g2 [.slice Ap0 a0.f0.length cp0, .slice Ap1 a0.f1.length cp1, .slice Ap2 a0.f2.length cp2] 61] := HS; have F := HS.boxes; simp only [boxFacts, and_true] at F) | ((with_reducible refine gate_dst (N := 3) rfl ?_); refine ev_box rfl HS (by first | (go_simp; done) | (go_simp; rfl)) rfl ?_; clear HS; (try clear F); intro g3 w3 HS; replace HS : Hp noFP w _ [.box g2 [.slice Ap0 a0.f0.length cp0, .slice Ap1 a0.f1.length cp1, .slice Ap2 a0.f2.length cp2] 61, .box g3 [.slice Ap3 a1.f0.length cp3, .slice Ap4 a1.f1.length cp4, .slice Ap5 a1.f2.length cp5] 61] := HS; have F := HS.boxes; simp only [boxFacts, and_true] at F) | ((with_reducible refine gate_dst (N := 9) rfl ?_); refine ev_call rfl Try.func79 (by kernel_rfl) rfl #[.slice Ap0 a0.f0.length cp0, .slice Ap3 a1.f0.length cp3] rfl (by simp only [List.map_toArray, List.map_cons, List.map_nil]; rfl) ?_; refine (laws_eqCertS.calls ht5.out (HS.ro gp0) lp0 (HS.ro gp3) lp3).mono ?_; rintro _ wt5 ⟨rfl, HQ⟩; refine ⟨_, rfl, ?_⟩; replace HS := HS.call HQ; clear HQ; (try clear F); replace HS : Hp noFP w _ [.box g2 [.slice Ap0 a0.f0.length cp0, .slice Ap1 a0.f1.length cp1, .slice Ap2 a0.f2.length cp2] 61, .box g3 [.slice Ap3 a1.f0.length cp3, .slice Ap4 a1.f1.length cp4, .slice Ap5 a1.f2.length cp5] 61] := HS; have F := HS.boxes; simp only [boxFacts, and_true] at F))
 by_cases c7 : t5 = true
 · replace H := zpos c7 H
   subst c7
   (try simp only [decide_true, decide_false, Bool.not_true, Bool.not_false, if_true, Bool.false_eq_true, if_false])
   replace H := zbind H; obtain ⟨t8, ht8, H⟩ := H
   go_upto_if 16 with (first | ((with_reducible refine gate_dst (N := 15) rfl ?_); refine ev_call rfl Try.func80 (by kernel_rfl) rfl #[.slice Ap1 a0.f1.length cp1, .slice Ap4 a1.f1.length cp4] rfl (by simp only [List.map_toArray, List.map_cons, List.map_nil]; rfl) ?_; refine (laws_eqCrlS.calls ht8.out (HS.ro gp1) lp1 (HS.ro gp4) lp4).mono ?_; rintro _ wt8 ⟨rfl, HQ⟩; refine ⟨_, rfl, ?_⟩; replace HS := HS.call HQ; clear HQ; (try clear F); replace HS : Hp noFP w _ [.box g2 [.slice Ap0 a0.f0.length cp0, .slice Ap1 a0.f1.length cp1, .slice Ap2 a0.f2.length cp2] 61, .box g3 [.slice Ap3 a1.f0.length cp3, .slice Ap4 a1.f1.length cp4, .slice Ap5 a1.f2.length cp5] 61] := HS; have F := HS.boxes; simp only [boxFacts, and_true] at F))
   by_cases c10 : t8 = true
   · replace H := zpos c10 H
     subst c10
     (try simp only [decide_true, decide_false, Bool.not_true, Bool.not_false, if_true, Bool.false_eq_true, if_false])
     replace H := zbind H; obtain ⟨t11, ht11, H⟩ := H
     go_upto_if 22 with (first | ((with_reducible refine gate_dst (N := 21) rfl ?_); refine ev_call rfl Try.func81 (by kernel_rfl) rfl #[.slice Ap2 a0.f2.length cp2, .slice Ap5 a1.f2.length cp5] rfl (by simp only [List.map_toArray, List.map_cons, List.map_nil]; rfl) ?_; refine (laws_eqAnchorS.calls ht11.out (HS.ro gp2) lp2 (HS.ro gp5) lp5).mono ?_; rintro _ wt11 ⟨rfl, HQ⟩; refine ⟨_, rfl, ?_⟩; replace HS := HS.call HQ; clear HQ; (try clear F); replace HS : Hp noFP w _ [.box g2 [.slice Ap0 a0.f0.length cp0, .slice Ap1 a0.f1.length cp1, .slice Ap2 a0.f2.length cp2] 61, .box g3 [.slice Ap3 a1.f0.length cp3, .slice Ap4 a1.f1.length cp4, .slice Ap5 a1.f2.length cp5] 61] := HS; have F := HS.boxes; simp only [boxFacts, and_true] at F))
     by_cases c13 : t11 = true
     · replace H := zpos c13 H
       subst c13
       (try simp only [decide_true, decide_false, Bool.not_true, Bool.not_false, if_true, Bool.false_eq_true, if_false])
       obtain rfl := zsome H
       go_wp2
       go_ret
       exact ⟨rfl, HS.pick [] (by decide) (by rfl)⟩
     · replace H := zneg c13 H
       replace c13 := eq_false_of_ne_true c13
       subst c13
       (try simp only [decide_true, decide_false, Bool.not_true, Bool.not_false, if_true, Bool.false_eq_true, if_false])
       obtain rfl := zsome H
       go_wp2
       go_ret
       exact ⟨rfl, HS.pick [] (by decide) (by rfl)⟩
   · replace H := zneg c10 H
     replace c10 := eq_false_of_ne_true c10
     subst c10
     (try simp only [decide_true, decide_false, Bool.not_true, Bool.not_false, if_true, Bool.false_eq_true, if_false])
     obtain rfl := zsome H
     go_wp2
     go_ret
     exact ⟨rfl, HS.pick [] (by decide) (by rfl)⟩
 · replace H := zneg c7 H
   replace c7 := eq_false_of_ne_true c7
   subst c7
   (try simp only [decide_true, decide_false, Bool.not_true, Bool.not_false, if_true, Bool.false_eq_true, if_false])
   obtain rfl := zsome H
   go_wp2
   go_ret
   exact ⟨rfl, HS.pick [] (by decide) (by rfl)⟩
/-! ### laws_eqRules: function 82 -/
def laws_eqRules.f (k : Nat) (a0 : S64) (a1 : S64) : Option (Bool) := (if a0.f0 = a1.f0 then ((laws_eqIntS.f k a0.f1 a1.f1).bind fun t6 => (if t6 = true then (if a0.f2 = a1.f2 then (if a0.f3 = a1.f3 then (if a0.f4 = a1.f4 then (some true) else (some false)) else (some false)) else (some false)) else (some false))) else (some false))
set_option maxHeartbeats 16000000 in
theorem laws_eqRules.calls {k : Nat} {a0 : S64} {a1 : S64} {Ap0 : Option Addr} {np0 cp0 : Nat} {Ap1 : Option Addr} {np1 cp1 : Nat} {r : Bool} {w : World} (h : laws_eqRules.f k a0 a1 = some r) (gp0 : (Kd.int .i64).C w Ap0 np0 a0.f1) (lp0 : np0 ≤ cp0) (gp1 : (Kd.int .i64).C w Ap1 np1 a1.f1) (lp1 : np1 ≤ cp1) :
    Calls Try.prog 82 #[.agg #[.int .i64 a0.f0, .slice Ap0 np0 cp0, .bool a0.f2, .bool a0.f3, .int .i64 a0.f4], .agg #[.int .i64 a1.f0, .slice Ap1 np1 cp1, .bool a1.f2, .bool a1.f3, .int .i64 a1.f4]] w (fun e w' => e = .returned (.bool r) ∧ Hp noFP w w' []) := by
 obtain rfl := C_len gp0
 obtain rfl := C_len gp1
 have HS := Hp.start w
 have H := Aside0.mk h
 clear h
 unfold laws_eqRules.f at H
 go_enter Try.func82, Try.ntmps82
 go_upto_if 9 with (first | ((with_reducible refine gate_dst (N := 2) rfl ?_); refine ev_box rfl HS (by first | (go_simp; done) | (go_simp; rfl)) rfl ?_; clear HS; (try clear F); intro g2 w2 HS; replace HS : Hp noFP w _ [.box g2 [.int .i64 a0.f0, .slice Ap0 a0.f1.length cp0, .bool a0.f2, .bool a0.f3, .int .i64 a0.f4] 64] := HS; have F := HS.boxes; simp only [boxFacts, and_true] at F) | ((with_reducible refine gate_dst (N := 3) rfl ?_); refine ev_box rfl HS (by first | (go_simp; done) | (go_simp; rfl)) rfl ?_; clear HS; (try clear F); intro g3 w3 HS; replace HS : Hp noFP w _ [.box g2 [.int .i64 a0.f0, .slice Ap0 a0.f1.length cp0, .bool a0.f2, .bool a0.f3, .int .i64 a0.f4] 64, .box g3 [.int .i64 a1.f0, .slice Ap1 a1.f1.length cp1, .bool a1.f2, .bool a1.f3, .int .i64 a1.f4] 64] := HS; have F := HS.boxes; simp only [boxFacts, and_true] at F))
 by_cases c5 : a0.f0 = a1.f0
 · replace H := zpos c5 H
   have c5a := beq_iff_eq.mpr c5
   have c5b := bne_eq_false_iff_eq.mpr c5
   clear c5
   (try simp only [c5a, c5b, decide_true, decide_false, Bool.not_true, Bool.not_false])
   replace H := zbind H; obtain ⟨t6, ht6, H⟩ := H
   go_upto_if 15 with (first | ((with_reducible refine gate_dst (N := 14) rfl ?_); refine ev_call rfl Try.func46 (by kernel_rfl) rfl #[.slice Ap0 a0.f1.length cp0, .slice Ap1 a1.f1.length cp1] rfl (by simp only [List.map_toArray, List.map_cons, List.map_nil]; rfl) ?_; refine (laws_eqIntS.calls ht6.out (HS.ro gp0) lp0 (HS.ro gp1) lp1).mono ?_; rintro _ wt6 ⟨rfl, HQ⟩; refine ⟨_, rfl, ?_⟩; replace HS := HS.call HQ; clear HQ; (try clear F); replace HS : Hp noFP w _ [.box g2 [.int .i64 a0.f0, .slice Ap0 a0.f1.length cp0, .bool a0.f2, .bool a0.f3, .int .i64 a0.f4] 64, .box g3 [.int .i64 a1.f0, .slice Ap1 a1.f1.length cp1, .bool a1.f2, .bool a1.f3, .int .i64 a1.f4] 64] := HS; have F := HS.boxes; simp only [boxFacts, and_true] at F))
   by_cases c8 : t6 = true
   · replace H := zpos c8 H
     subst c8
     (try simp only [decide_true, decide_false, Bool.not_true, Bool.not_false, if_true, Bool.false_eq_true, if_false])
     by_cases c9 : a0.f2 = a1.f2
     · replace H := zpos c9 H
       have c9a := beq_iff_eq.mpr c9
       have c9b := bne_eq_false_iff_eq.mpr c9
       clear c9
       by_cases c10 : a0.f3 = a1.f3
       · replace H := zpos c10 H
         have c10a := beq_iff_eq.mpr c10
         have c10b := bne_eq_false_iff_eq.mpr c10
         clear c10
         by_cases c11 : a0.f4 = a1.f4
         · replace H := zpos c11 H
           have c11a := beq_iff_eq.mpr c11
           have c11b := bne_eq_false_iff_eq.mpr c11
           clear c11
           obtain rfl := zsome H
           go_wp2
           go_ret
           exact ⟨rfl, HS.pick [] (by decide) (by rfl)⟩
         · replace H := zneg c11 H
           have c11a := beq_eq_false_iff_ne.mpr c11
           have c11b := bne_iff_ne.mpr c11
           clear c11
           obtain rfl := zsome H
           go_wp2
           go_ret
           exact ⟨rfl, HS.pick [] (by decide) (by rfl)⟩
       · replace H := zneg c10 H
         have c10a := beq_eq_false_iff_ne.mpr c10
         have c10b := bne_iff_ne.mpr c10
         clear c10
         obtain rfl := zsome H
         go_wp2
         go_ret
         exact ⟨rfl, HS.pick [] (by decide) (by rfl)⟩
     · replace H := zneg c9 H
       have c9a := beq_eq_false_iff_ne.mpr c9
       have c9b := bne_iff_ne.mpr c9
       clear c9
       obtain rfl := zsome H
       go_wp2
       go_ret
       exact ⟨rfl, HS.pick [] (by decide) (by rfl)⟩
   · replace H := zneg c8 H
     replace c8 := eq_false_of_ne_true c8
     subst c8
     (try simp only [decide_true, decide_false, Bool.not_true, Bool.not_false, if_true, Bool.false_eq_true, if_false])
     obtain rfl := zsome H
     go_wp2
     go_ret
     exact ⟨rfl, HS.pick [] (by decide) (by rfl)⟩
 · replace H := zneg c5 H
   have c5a := beq_eq_false_iff_ne.mpr c5
   have c5b := bne_iff_ne.mpr c5
   clear c5
   (try simp only [c5a, c5b, decide_true, decide_false, Bool.not_true, Bool.not_false])
   obtain rfl := zsome H
   go_wp2
   go_ret
   exact ⟨rfl, HS.pick [] (by decide) (by rfl)⟩
/-! ### laws_eqPlan: function 26 -/
def laws_eqPlan.f (k : Nat) (a0 : S66) (a1 : S66) : Option (Bool) := (if a0.f0 = a1.f0 then ((laws_eqIntS.f k a0.f1 a1.f1).bind fun t6 => (if t6 = true then ((laws_eqRules.f k a0.f2 a1.f2).bind fun t9 => (if t9 = true then (some true) else (some false))) else (some false))) else (some false))
set_option maxHeartbeats 16000000 in
theorem laws_eqPlan.calls {k : Nat} {a0 : S66} {a1 : S66} {Ap0 : Option Addr} {np0 cp0 : Nat} {Ap1 : Option Addr} {np1 cp1 : Nat} {Ap2 : Option Addr} {np2 cp2 : Nat} {Ap3 : Option Addr} {np3 cp3 : Nat} {r : Bool} {w : World} (h : laws_eqPlan.f k a0 a1 = some r) (gp0 : (Kd.int .i64).C w Ap0 np0 a0.f1) (lp0 : np0 ≤ cp0) (gp1 : (Kd.int .i64).C w Ap1 np1 a0.f2.f1) (lp1 : np1 ≤ cp1) (gp2 : (Kd.int .i64).C w Ap2 np2 a1.f1) (lp2 : np2 ≤ cp2) (gp3 : (Kd.int .i64).C w Ap3 np3 a1.f2.f1) (lp3 : np3 ≤ cp3) :
    Calls Try.prog 26 #[.agg #[.int .i64 a0.f0, .slice Ap0 np0 cp0, .int .i64 a0.f2.f0, .slice Ap1 np1 cp1, .bool a0.f2.f2, .bool a0.f2.f3, .int .i64 a0.f2.f4], .agg #[.int .i64 a1.f0, .slice Ap2 np2 cp2, .int .i64 a1.f2.f0, .slice Ap3 np3 cp3, .bool a1.f2.f2, .bool a1.f2.f3, .int .i64 a1.f2.f4]] w (fun e w' => e = .returned (.bool r) ∧ Hp noFP w w' []) := by
 obtain rfl := C_len gp0
 obtain rfl := C_len gp1
 obtain rfl := C_len gp2
 obtain rfl := C_len gp3
 have HS := Hp.start w
 have H := Aside0.mk h
 clear h
 unfold laws_eqPlan.f at H
 go_enter Try.func26, Try.ntmps26
 go_upto_if 9 with (first | ((with_reducible refine gate_dst (N := 2) rfl ?_); refine ev_box rfl HS (by first | (go_simp; done) | (go_simp; rfl)) rfl ?_; clear HS; (try clear F); intro g2 w2 HS; replace HS : Hp noFP w _ [.box g2 [.int .i64 a0.f0, .slice Ap0 a0.f1.length cp0, .int .i64 a0.f2.f0, .slice Ap1 a0.f2.f1.length cp1, .bool a0.f2.f2, .bool a0.f2.f3, .int .i64 a0.f2.f4] 66] := HS; have F := HS.boxes; simp only [boxFacts, and_true] at F) | ((with_reducible refine gate_dst (N := 3) rfl ?_); refine ev_box rfl HS (by first | (go_simp; done) | (go_simp; rfl)) rfl ?_; clear HS; (try clear F); intro g3 w3 HS; replace HS : Hp noFP w _ [.box g2 [.int .i64 a0.f0, .slice Ap0 a0.f1.length cp0, .int .i64 a0.f2.f0, .slice Ap1 a0.f2.f1.length cp1, .bool a0.f2.f2, .bool a0.f2.f3, .int .i64 a0.f2.f4] 66, .box g3 [.int .i64 a1.f0, .slice Ap2 a1.f1.length cp2, .int .i64 a1.f2.f0, .slice Ap3 a1.f2.f1.length cp3, .bool a1.f2.f2, .bool a1.f2.f3, .int .i64 a1.f2.f4] 66] := HS; have F := HS.boxes; simp only [boxFacts, and_true] at F))
 by_cases c5 : a0.f0 = a1.f0
 · replace H := zpos c5 H
   have c5a := beq_iff_eq.mpr c5
   have c5b := bne_eq_false_iff_eq.mpr c5
   clear c5
   (try simp only [c5a, c5b, decide_true, decide_false, Bool.not_true, Bool.not_false])
   replace H := zbind H; obtain ⟨t6, ht6, H⟩ := H
   go_upto_if 15 with (first | ((with_reducible refine gate_dst (N := 14) rfl ?_); refine ev_call rfl Try.func46 (by kernel_rfl) rfl #[.slice Ap0 a0.f1.length cp0, .slice Ap2 a1.f1.length cp2] rfl (by simp only [List.map_toArray, List.map_cons, List.map_nil]; rfl) ?_; refine (laws_eqIntS.calls ht6.out (HS.ro gp0) lp0 (HS.ro gp2) lp2).mono ?_; rintro _ wt6 ⟨rfl, HQ⟩; refine ⟨_, rfl, ?_⟩; replace HS := HS.call HQ; clear HQ; (try clear F); replace HS : Hp noFP w _ [.box g2 [.int .i64 a0.f0, .slice Ap0 a0.f1.length cp0, .int .i64 a0.f2.f0, .slice Ap1 a0.f2.f1.length cp1, .bool a0.f2.f2, .bool a0.f2.f3, .int .i64 a0.f2.f4] 66, .box g3 [.int .i64 a1.f0, .slice Ap2 a1.f1.length cp2, .int .i64 a1.f2.f0, .slice Ap3 a1.f2.f1.length cp3, .bool a1.f2.f2, .bool a1.f2.f3, .int .i64 a1.f2.f4] 66] := HS; have F := HS.boxes; simp only [boxFacts, and_true] at F))
   by_cases c8 : t6 = true
   · replace H := zpos c8 H
     subst c8
     (try simp only [decide_true, decide_false, Bool.not_true, Bool.not_false, if_true, Bool.false_eq_true, if_false])
     replace H := zbind H; obtain ⟨t9, ht9, H⟩ := H
     go_upto_if 21 with (first | ((with_reducible refine gate_dst (N := 20) rfl ?_); refine ev_call rfl Try.func82 (by kernel_rfl) rfl #[.agg #[.int .i64 a0.f2.f0, .slice Ap1 a0.f2.f1.length cp1, .bool a0.f2.f2, .bool a0.f2.f3, .int .i64 a0.f2.f4], .agg #[.int .i64 a1.f2.f0, .slice Ap3 a1.f2.f1.length cp3, .bool a1.f2.f2, .bool a1.f2.f3, .int .i64 a1.f2.f4]] rfl (by simp only [List.map_toArray, List.map_cons, List.map_nil]; rfl) ?_; refine (laws_eqRules.calls ht9.out (HS.ro gp1) lp1 (HS.ro gp3) lp3).mono ?_; rintro _ wt9 ⟨rfl, HQ⟩; refine ⟨_, rfl, ?_⟩; replace HS := HS.call HQ; clear HQ; (try clear F); replace HS : Hp noFP w _ [.box g2 [.int .i64 a0.f0, .slice Ap0 a0.f1.length cp0, .int .i64 a0.f2.f0, .slice Ap1 a0.f2.f1.length cp1, .bool a0.f2.f2, .bool a0.f2.f3, .int .i64 a0.f2.f4] 66, .box g3 [.int .i64 a1.f0, .slice Ap2 a1.f1.length cp2, .int .i64 a1.f2.f0, .slice Ap3 a1.f2.f1.length cp3, .bool a1.f2.f2, .bool a1.f2.f3, .int .i64 a1.f2.f4] 66] := HS; have F := HS.boxes; simp only [boxFacts, and_true] at F))
     by_cases c11 : t9 = true
     · replace H := zpos c11 H
       subst c11
       (try simp only [decide_true, decide_false, Bool.not_true, Bool.not_false, if_true, Bool.false_eq_true, if_false])
       obtain rfl := zsome H
       go_wp2
       go_ret
       exact ⟨rfl, HS.pick [] (by decide) (by rfl)⟩
     · replace H := zneg c11 H
       replace c11 := eq_false_of_ne_true c11
       subst c11
       (try simp only [decide_true, decide_false, Bool.not_true, Bool.not_false, if_true, Bool.false_eq_true, if_false])
       obtain rfl := zsome H
       go_wp2
       go_ret
       exact ⟨rfl, HS.pick [] (by decide) (by rfl)⟩
   · replace H := zneg c8 H
     replace c8 := eq_false_of_ne_true c8
     subst c8
     (try simp only [decide_true, decide_false, Bool.not_true, Bool.not_false, if_true, Bool.false_eq_true, if_false])
     obtain rfl := zsome H
     go_wp2
     go_ret
     exact ⟨rfl, HS.pick [] (by decide) (by rfl)⟩
 · replace H := zneg c5 H
   have c5a := beq_eq_false_iff_ne.mpr c5
   have c5b := bne_iff_ne.mpr c5
   clear c5
   (try simp only [c5a, c5b, decide_true, decide_false, Bool.not_true, Bool.not_false])
   obtain rfl := zsome H
   go_wp2
   go_ret
   exact ⟨rfl, HS.pick [] (by decide) (by rfl)⟩
/-! ### laws_markText: function 110 -/
def laws_markText.l0 : Nat → Int → ByteArray → Option (ByteArray)
  | 0, _, _ => none
  | k + 1, x11, x12 => (if 0 < x11 then (if (strOfNums ([((wrap64 (48 + (Int.tmod x11 10))) % 256)] : List Int)).size + x12.size ≤ 9223372036854775807 then (laws_markText.l0 k (wrap64 (Int.tdiv x11 10)) ((strOfNums ([((wrap64 (48 + (Int.tmod x11 10))) % 256)] : List Int)) ++ x12)) else none) else (if (⟨#[109]⟩ : ByteArray).size + x12.size ≤ 9223372036854775807 then (some ((⟨#[109]⟩ : ByteArray) ++ x12)) else none))
def laws_markText.f (k : Nat) (a0 : Int) : Option (ByteArray) := (if a0 ≤ 0 then (some (⟨#[109, 48]⟩ : ByteArray)) else (laws_markText.l0 k a0 (⟨#[]⟩ : ByteArray)))
set_option maxHeartbeats 16000000 in
theorem laws_markText.calls {k : Nat} {a0 : Int} {r : ByteArray} {w : World} (h : laws_markText.f k a0 = some r) :
    Calls Try.prog 110 #[.int .i64 a0] w (fun e w' => e = .returned (.string r) ∧ Hp noFP w w' []) := by
 have HS := Hp.start w
 have H := Aside0.mk h
 clear h
 unfold laws_markText.f at H
 go_enter Try.func110, Try.ntmps110
 by_cases c1 : a0 ≤ 0
 · replace H := zpos c1 H
   replace c1 := eq_true c1
   obtain rfl := zsome H
   go_wp2
   go_ret
   exact ⟨rfl, HS.pick [] (by decide) (by rfl)⟩
 · replace H := zneg c1 H
   replace c1 := eq_false c1
   go_wp2
   go_loopg [0, 3] k (fun kq v_0 v_3 w' => ∃ (x11 : Int) (x12 : ByteArray), v_0 = .int .i64 x11 ∧ v_3 = .string x12 ∧ Aside0 (laws_markText.l0 kq x11 x12 = some r) ∧ Aside0 (kq ≤ k) ∧ Hp noFP w w' [])
   case atStart => exact ⟨_, _, rfl, rfl, H, ⟨Nat.le_refl _⟩, HS⟩
   case round =>
    clear HS H; (try clear F)
    obtain ⟨x11, x12, rfl, rfl, H, HKk10, HS⟩ := hrel
    cases gk with
    | zero => exact absurd H.out (by simp [laws_markText.l0])
    | succ k10 =>
     simp only [laws_markText.l0] at H
     by_cases c14 : 0 < x11
     · replace H := zpos c14 H
       replace c14 := eq_true c14
       by_cases c17 : (strOfNums ([((wrap64 (48 + (Int.tmod x11 10))) % 256)] : List Int)).size + x12.size ≤ 9223372036854775807
       case neg => exact zno c17 H
       replace H := zpos c17 H
       replace c17 := eq_true c17
       go_wp2_with (first | ((with_reducible refine gate_dst (N := 12) rfl ?_); refine ev_lit rfl (Zd.int .u8) [] ([((wrap64 (48 + (Int.tmod x11 10))) % 256)] : List Int) ([.int .u8 ((wrap64 (48 + (Int.tmod x11 10))) % 256)] ++ []) HS (by first | (go_simp; done) | (go_simp; rfl)) rfl rfl (Nat.le_of_ble_eq_true rfl) (MadeL.cons (js1 := []) (c := [.int .u8 ((wrap64 (48 + (Int.tmod x11 10))) % 256)]) rfl (made_flat (fun _ => rfl)) MadeL.nil (by decide)) ?_; clear HS; (try clear F); intro v15 w15 HS; obtain ⟨B15, d15, rfl, m15⟩ := HS.formn 1 0 rfl rfl; replace HS : Hp noFP w _ [.own (Zd.slice 5 (Zd.int .u8)) ([((wrap64 (48 + (Int.tmod x11 10))) % 256)] : List Int) [.slice B15 1 d15]] := HS) | ((with_reducible refine gate_dst (N := 13) rfl ?_); refine ev_val rfl (run_str rfl rfl Try.underlying210 Try.underlying5 Try.underlying9 (HS.rd 0 rfl)) ?_) | ((with_reducible refine gate_dst (N := 15) rfl ?_); refine ev_val rfl (run_cat rfl rfl rfl (of_eq_true c17)) ?_))
       go_roundg k10
       case measure => have := HKk10.out; omega
       case rel => exact ⟨_, _, rfl, rfl, H, ⟨by have := HKk10.out; omega⟩, HS.pick [] (by decide) (by rfl)⟩
     · replace H := zneg c14 H
       replace c14 := eq_false c14
       by_cases c18 : (⟨#[109]⟩ : ByteArray).size + x12.size ≤ 9223372036854775807
       case neg => exact zno c18 H
       replace H := zpos c18 H
       replace c18 := eq_true c18
       obtain rfl := zsome H
       go_wp2_with (first | ((with_reducible refine gate_dst (N := 19) rfl ?_); refine ev_val rfl (run_cat rfl rfl rfl (of_eq_true c18)) ?_))
       go_ret
       exact ⟨rfl, HS.pick [] (by decide) (by rfl)⟩
/-! ### laws_markStringS: function 101 -/
def laws_markStringS.l0 : Nat → (List ByteArray) → Int → Int → (List ByteArray) → Option (Int × (List ByteArray))
  | 0, _, _, _, _ => none
  | k + 1, l21, x23, x24, a0 => (if x24 < (a0.length : Int) then ((laws_markText.f k x23).bind fun t27 => (if 0 ≤ x24 then (if x24 < (a0.length : Int) then (laws_markStringS.l0 k (l21.set (x24).toNat t27) (wrap64 (x23 + 1)) (wrap64 (x24 + 1)) a0) else none) else none)) else (some (x23, l21)))
def laws_markStringS.f (k : Nat) (a0 : (List ByteArray)) (a1 : Int) : Option (Int × (List ByteArray)) := (laws_markStringS.l0 k a0 a1 0 a0)
set_option maxHeartbeats 16000000 in
theorem laws_markStringS.calls {k : Nat} {a0 : (List ByteArray)} {a1 : Int} {A : FP} {vp0 : Value} {r1 : Int} {r2 : (List ByteArray)} {w : World} (h : laws_markStringS.f k a0 a1 = some (r1, r2)) (HS : Hp A w w [.own (Zd.slice 9 Zd.string) a0 [vp0]]) :
    Calls Try.prog 101 #[vp0, .int .i64 a1] w (fun e w' => e = .returned (.int .i64 r1) ∧ Hp A w w' [.own (Zd.slice 9 Zd.string) r2 [vp0]]) := by
 obtain ⟨B1, d1, rfl, m1⟩ := HS.form 0 rfl
 have H := Aside0.mk h
 clear h
 unfold laws_markStringS.f at H
 go_enter Try.func101, Try.ntmps101
 go_wp2
 go_loopg [1, 5] k (fun kq v_1 v_5 w' => ∃ (l21 : List ByteArray) (x23 : Int) (x24 : Int), v_1 = .int .i64 x23 ∧ v_5 = .int .i64 x24 ∧ Aside0 (laws_markStringS.l0 kq l21 x23 x24 a0 = some (r1, r2)) ∧ Aside0 (kq ≤ k) ∧ Hp A w w' [.own (Zd.slice 9 Zd.string) l21 [.slice B1 a0.length d1]])
 case atStart => exact ⟨_, _, _, rfl, rfl, H, ⟨Nat.le_refl _⟩, HS⟩
 case round =>
  clear HS H; (try clear F)
  obtain ⟨l21, x23, x24, rfl, rfl, H, HKk20, HS⟩ := hrel
  cases gk with
  | zero => exact absurd H.out (by simp [laws_markStringS.l0])
  | succ k20 =>
   simp only [laws_markStringS.l0] at H
   by_cases c26 : x24 < (a0.length : Int)
   · replace H := zpos c26 H
     replace c26 := eq_true c26
     replace H := zbind H; obtain ⟨t27, ht27, H⟩ := H
     by_cases c29 : 0 ≤ x24
     case neg => exact zno c29 H
     replace H := zpos c29 H
     replace c29 := eq_true c29
     by_cases c30 : x24 < (a0.length : Int)
     case neg => exact zno c30 H
     replace H := zpos c30 H
     replace c30 := eq_true c30
     go_wp2_with (first | ((with_reducible refine gate_dst (N := 15) rfl ?_); refine ev_call rfl Try.func110 (by kernel_rfl) rfl #[.int .i64 x23] rfl (by simp only [List.map_toArray, List.map_cons, List.map_nil]; rfl) ?_; refine (laws_markText.calls ht27.out).mono ?_; rintro _ wt27 ⟨rfl, HQ⟩; refine ⟨_, rfl, ?_⟩; replace HS := HS.call HQ; clear HQ; (try clear F); replace HS : Hp A w _ [.own (Zd.slice 9 Zd.string) l21 [.slice B1 a0.length d1]] := HS; obtain ⟨ad31, rfl, e31_0⟩ := Kd.at_string (HS.rd 0 rfl) x24 (of_eq_true c29) (of_eq_true c30)) | ((with_reducible refine gate_store (p := 16) rfl ?_); refine ev_set rfl Zd.string 0 [] x24 t27 HS (seg := [.string t27]) rfl (by decide) rfl rfl rfl (by first | rfl | exact (Nat.mul_one _).symm) rfl rfl (by kernel_rfl) (by simp [Value.oneCell']) ⟨of_eq_true c29, of_eq_true c30⟩ rfl (made_flat (fun _ => rfl)) ?_; clear HS; (try clear F); intro w32 HS; replace HS : Hp A w _ [.own (Zd.slice 9 Zd.string) (l21.set (x24).toNat t27) [.slice (some ad31) a0.length d1]] := HS))
     go_roundg k20
     case measure => have := HKk20.out; omega
     case rel => exact ⟨_, _, _, rfl, rfl, H, ⟨by have := HKk20.out; omega⟩, HS.pick [0] (by decide) (by rfl)⟩
   · replace H := zneg c26 H
     replace c26 := eq_false c26
     obtain ⟨rfl, rfl⟩ := zsome2 H
     go_wp2
     go_ret
     exact ⟨rfl, HS.pick [0] (by decide) (by rfl)⟩
/-! ### laws_markIntS: function 49 -/
def laws_markIntS.l0 : Nat → (List Int) → Int → Int → (List Int) → Option (Int × (List Int))
  | 0, _, _, _, _ => none
  | k + 1, l19, x21, x22, a0 => (if x22 < (a0.length : Int) then (if 0 ≤ x22 then (if x22 < (a0.length : Int) then (laws_markIntS.l0 k (l19.set (x22).toNat x21) (wrap64 (x21 + 1)) (wrap64 (x22 + 1)) a0) else none) else none) else (some (x21, l19)))
def laws_markIntS.f (k : Nat) (a0 : (List Int)) (a1 : Int) : Option (Int × (List Int)) := (laws_markIntS.l0 k a0 a1 0 a0)
set_option maxHeartbeats 16000000 in
theorem laws_markIntS.calls {k : Nat} {a0 : (List Int)} {a1 : Int} {A : FP} {vp0 : Value} {r1 : Int} {r2 : (List Int)} {w : World} (h : laws_markIntS.f k a0 a1 = some (r1, r2)) (HS : Hp A w w [.own (Zd.slice 3 (Zd.int .i64)) a0 [vp0]]) :
    Calls Try.prog 49 #[vp0, .int .i64 a1] w (fun e w' => e = .returned (.int .i64 r1) ∧ Hp A w w' [.own (Zd.slice 3 (Zd.int .i64)) r2 [vp0]]) := by
 obtain ⟨B1, d1, rfl, m1⟩ := HS.form 0 rfl
 have H := Aside0.mk h
 clear h
 unfold laws_markIntS.f at H
 go_enter Try.func49, Try.ntmps49
 go_wp2
 go_loopg [1, 5] k (fun kq v_1 v_5 w' => ∃ (l19 : List Int) (x21 : Int) (x22 : Int), v_1 = .int .i64 x21 ∧ v_5 = .int .i64 x22 ∧ Aside0 (laws_markIntS.l0 kq l19 x21 x22 a0 = some (r1, r2)) ∧ Aside0 (kq ≤ k) ∧ Hp A w w' [.own (Zd.slice 3 (Zd.int .i64)) l19 [.slice B1 a0.length d1]])
 case atStart => exact ⟨_, _, _, rfl, rfl, H, ⟨Nat.le_refl _⟩, HS⟩
 case round =>
  clear HS H; (try clear F)
  obtain ⟨l19, x21, x22, rfl, rfl, H, HKk18, HS⟩ := hrel
  cases gk with
  | zero => exact absurd H.out (by simp [laws_markIntS.l0])
  | succ k18 =>
   simp only [laws_markIntS.l0] at H
   by_cases c24 : x22 < (a0.length : Int)
   · replace H := zpos c24 H
     replace c24 := eq_true c24
     by_cases c25 : 0 ≤ x22
     case neg => exact zno c25 H
     replace H := zpos c25 H
     replace c25 := eq_true c25
     by_cases c26 : x22 < (a0.length : Int)
     case neg => exact zno c26 H
     replace H := zpos c26 H
     replace c26 := eq_true c26
     obtain ⟨ad27, rfl, e27_0⟩ := Kd.at_int (HS.rd 0 rfl) x22 (of_eq_true c25) (of_eq_true c26)
     go_wp2_with (first | ((with_reducible refine gate_store (p := 15) rfl ?_); refine ev_set rfl (Zd.int .i64) 0 [] x22 x21 HS (seg := [.int .i64 x21]) rfl (by decide) rfl rfl rfl (by first | rfl | exact (Nat.mul_one _).symm) rfl rfl (by kernel_rfl) (by simp [Value.oneCell']) ⟨of_eq_true c25, of_eq_true c26⟩ rfl (made_flat (fun _ => rfl)) ?_; clear HS; (try clear F); intro w28 HS; replace HS : Hp A w _ [.own (Zd.slice 3 (Zd.int .i64)) (l19.set (x22).toNat x21) [.slice (some ad27) a0.length d1]] := HS))
     go_roundg k18
     case measure => have := HKk18.out; omega
     case rel => exact ⟨_, _, _, rfl, rfl, H, ⟨by have := HKk18.out; omega⟩, HS.pick [0] (by decide) (by rfl)⟩
   · replace H := zneg c24 H
     replace c24 := eq_false c24
     obtain ⟨rfl, rfl⟩ := zsome2 H
     go_wp2
     go_ret
     exact ⟨rfl, HS.pick [0] (by decide) (by rfl)⟩
/-! ### laws_markCertS: function 83 -/
def laws_markCertS.l0 : Nat → (List S192) → Int → Int → (List S192) → Option (Int × (List S192))
  | 0, _, _, _, _ => none
  | k + 1, l76, x78, x79, a0 => (if x79 < (a0.length : Int) then (if 0 ≤ x79 then (if x79 < (a0.length : Int) then (lets (l76.set (x79).toNat (u192_0_3 (rd_T192 l76 x79) x78)) fun y86 => ((laws_markText.f k (wrap64 (x78 + 1))).bind fun t88 => (lets (y86.set (x79).toNat (u192_1_9 (rd_T192 y86 x79) t88)) fun y92 => ((laws_markText.f k (wrap64 ((wrap64 (x78 + 1)) + 1))).bind fun t94 => (lets (y92.set (x79).toNat (u192_2_9 (rd_T192 y92 x79) t94)) fun y98 => (lets (y98.set (x79).toNat (u192_3_3 (rd_T192 y98 x79) (wrap64 ((wrap64 ((wrap64 (x78 + 1)) + 1)) + 1)))) fun y102 => (lets (y102.set (x79).toNat (u192_4_3 (rd_T192 y102 x79) (wrap64 ((wrap64 ((wrap64 ((wrap64 (x78 + 1)) + 1)) + 1)) + 1)))) fun y106 => ((laws_markText.f k (wrap64 ((wrap64 ((wrap64 ((wrap64 ((wrap64 (x78 + 1)) + 1)) + 1)) + 1)) + 1))).bind fun t108 => (lets (y106.set (x79).toNat (u192_5_9 (rd_T192 y106 x79) t108)) fun y112 => (lets (y112.set (x79).toNat (u192_6_4 (rd_T192 y112 x79) ((Int.tmod (wrap64 ((wrap64 ((wrap64 ((wrap64 ((wrap64 ((wrap64 (x78 + 1)) + 1)) + 1)) + 1)) + 1)) + 1)) 3) == 0))) fun y116 => (lets (y116.set (x79).toNat (u192_7_3 (rd_T192 y116 x79) (wrap64 ((wrap64 ((wrap64 ((wrap64 ((wrap64 ((wrap64 ((wrap64 (x78 + 1)) + 1)) + 1)) + 1)) + 1)) + 1)) + 1)))) fun y120 => (lets (y120.set (x79).toNat (u192_8_3 (rd_T192 y120 x79) (wrap64 ((wrap64 ((wrap64 ((wrap64 ((wrap64 ((wrap64 ((wrap64 ((wrap64 (x78 + 1)) + 1)) + 1)) + 1)) + 1)) + 1)) + 1)) + 1)))) fun y124 => ((laws_markIntS.f k ((rd_T192 y124 x79).f9) (wrap64 ((wrap64 ((wrap64 ((wrap64 ((wrap64 ((wrap64 ((wrap64 ((wrap64 ((wrap64 (x78 + 1)) + 1)) + 1)) + 1)) + 1)) + 1)) + 1)) + 1)) + 1))).bind fun t127 => (lets (y124.set (x79).toNat (u192_9_24 (rd_T192 y124 x79) t127.2)) fun y128 => ((laws_markStringS.f k ((rd_T192 y128 x79).f10) t127.1).bind fun t131 => (lets (y128.set (x79).toNat (u192_10_73 (rd_T192 y128 x79) t131.2)) fun y132 => ((laws_markStringS.f k ((rd_T192 y132 x79).f11) t131.1).bind fun t135 => (lets (y132.set (x79).toNat (u192_11_73 (rd_T192 y132 x79) t135.2)) fun y136 => ((laws_markText.f k t135.1).bind fun t138 => (lets (y136.set (x79).toNat (u192_12_9 (rd_T192 y136 x79) t138)) fun y142 => (laws_markCertS.l0 k y142 (wrap64 (t135.1 + 1)) (wrap64 (x79 + 1)) a0))))))))))))))))))))) else none) else none) else (some (x78, l76)))
def laws_markCertS.f (k : Nat) (a0 : (List S192)) (a1 : Int) : Option (Int × (List S192)) := (laws_markCertS.l0 k a0 a1 0 a0)
set_option maxHeartbeats 16000000 in
theorem laws_markCertS.calls {k : Nat} {a0 : (List S192)} {a1 : Int} {A : FP} {vp0 : Value} {r1 : Int} {r2 : (List S192)} {w : World} (h : laws_markCertS.f k a0 a1 = some (r1, r2)) (HS : Hp A w w [.own (Zd.slice 192 q192) a0 [vp0]]) :
    Calls Try.prog 83 #[vp0, .int .i64 a1] w (fun e w' => e = .returned (.int .i64 r1) ∧ Hp A w w' [.own (Zd.slice 192 q192) r2 [vp0]]) := by
 obtain ⟨B1, d1, rfl, m1⟩ := HS.form 0 rfl
 have H := Aside0.mk h
 clear h
 unfold laws_markCertS.f at H
 go_enter Try.func83, Try.ntmps83
 go_wp2
 go_loopg [1, 5] k (fun kq v_1 v_5 w' => ∃ (l76 : List S192) (x78 : Int) (x79 : Int), v_1 = .int .i64 x78 ∧ v_5 = .int .i64 x79 ∧ Aside0 (laws_markCertS.l0 kq l76 x78 x79 a0 = some (r1, r2)) ∧ Aside0 (kq ≤ k) ∧ Hp A w w' [.own (Zd.slice 192 q192) l76 [.slice B1 a0.length d1]])
 case atStart => exact ⟨_, _, _, rfl, rfl, H, ⟨Nat.le_refl _⟩, HS⟩
 case round =>
  clear HS H; (try clear F)
  obtain ⟨l76, x78, x79, rfl, rfl, H, HKk75, HS⟩ := hrel
  cases gk with
  | zero => exact absurd H.out (by simp [laws_markCertS.l0])
  | succ k75 =>
   simp only [laws_markCertS.l0] at H
   by_cases c81 : x79 < (a0.length : Int)
   · replace H := zpos c81 H
     replace c81 := eq_true c81
     by_cases c82 : 0 ≤ x79
     case neg => exact zno c82 H
     replace H := zpos c82 H
     replace c82 := eq_true c82
     by_cases c83 : x79 < (a0.length : Int)
     case neg => exact zno c83 H
     replace H := zpos c83 H
     replace c83 := eq_true c83
     obtain ⟨ad84, B84_9, d84_9, B84_10, d84_10, B84_11, d84_11, rfl, e84_0, e84_1, e84_2, e84_3, e84_4, e84_5, e84_6, e84_7, e84_8, e84_9, e84_10, e84_11, e84_12, m84_9, y84_9, m84_10, y84_10, m84_11, y84_11⟩ := at_T192 (HS.rd 0 rfl) x79 (of_eq_true c82) (of_eq_true c83)
     replace H := zlets H; obtain ⟨y86, e_y86, H⟩ := H
     replace H := zbind H; obtain ⟨t88, ht88, H⟩ := H
     replace H := zlets H; obtain ⟨y92, e_y92, H⟩ := H
     replace H := zbind H; obtain ⟨t94, ht94, H⟩ := H
     replace H := zlets H; obtain ⟨y98, e_y98, H⟩ := H
     replace H := zlets H; obtain ⟨y102, e_y102, H⟩ := H
     replace H := zlets H; obtain ⟨y106, e_y106, H⟩ := H
     replace H := zbind H; obtain ⟨t108, ht108, H⟩ := H
     replace H := zlets H; obtain ⟨y112, e_y112, H⟩ := H
     replace H := zlets H; obtain ⟨y116, e_y116, H⟩ := H
     replace H := zlets H; obtain ⟨y120, e_y120, H⟩ := H
     replace H := zlets H; obtain ⟨y124, e_y124, H⟩ := H
     replace H := zbind H; obtain ⟨t127, ht127, H⟩ := H
     replace H := zlets H; obtain ⟨y128, e_y128, H⟩ := H
     replace H := zbind H; obtain ⟨t131, ht131, H⟩ := H
     replace H := zlets H; obtain ⟨y132, e_y132, H⟩ := H
     replace H := zbind H; obtain ⟨t135, ht135, H⟩ := H
     replace H := zlets H; obtain ⟨y136, e_y136, H⟩ := H
     replace H := zbind H; obtain ⟨t138, ht138, H⟩ := H
     replace H := zlets H; obtain ⟨y142, e_y142, H⟩ := H
     go_wp2_with (first | ((with_reducible refine gate_store (p := 16) rfl ?_); refine ev_setp (ad := ad84) rfl q192 (Zd.int .i64) lens192_0_3 0 [] x79 (rd_T192 l76 x79) x78 HS (seg := [.int .i64 x78]) rfl (by decide) rfl rfl rfl (by rintro g rfl; simp only [add_plain]; refine congrArg (fun n => (⟨g, n, none⟩ : Addr)) ?_; first | rfl | (show 0 + (x79).toNat * 13 + 0 = (x79).toNat * 13 + 0; omega) | (show 0 + (x79).toNat * 13 = (x79).toNat * 13 + 0; omega)) rfl rfl (by kernel_rfl) (by simp [Value.oneCell']) ⟨of_eq_true c82, of_eq_true c83⟩ rfl (fun hl => rd_T192_get hl) (made_flat (fun _ => rfl)) ?_; clear HS; (try clear F); intro w85 HS; rw [← e_y86.out] at HS; replace HS : Hp A w _ [.own (Zd.slice 192 q192) y86 [.slice (some ad84) a0.length d1]] := HS) | ((with_reducible refine gate_dst (N := 22) rfl ?_); refine ev_call rfl Try.func110 (by kernel_rfl) rfl #[.int .i64 (wrap64 (x78 + 1))] rfl (by simp only [List.map_toArray, List.map_cons, List.map_nil]; rfl) ?_; refine (laws_markText.calls ht88.out).mono ?_; rintro _ wt88 ⟨rfl, HQ⟩; refine ⟨_, rfl, ?_⟩; replace HS := HS.call HQ; clear HQ; (try clear F); replace HS : Hp A w _ [.own (Zd.slice 192 q192) y86 [.slice (some ad84) a0.length d1]] := HS; obtain ⟨ad90, B90_9, d90_9, B90_10, d90_10, B90_11, d90_11, hq90, e90_0, e90_1, e90_2, e90_3, e90_4, e90_5, e90_6, e90_7, e90_8, e90_9, e90_10, e90_11, e90_12, m90_9, y90_9, m90_10, y90_10, m90_11, y90_11⟩ := at_T192 (HS.rd 0 rfl) x79 (of_eq_true c82) (of_eq_true c83); obtain rfl := Option.some.inj hq90) | ((with_reducible refine gate_store (p := 24) rfl ?_); refine ev_setp (ad := ad84) rfl q192 Zd.string lens192_1_9 0 [] x79 (rd_T192 y86 x79) t88 HS (seg := [.string t88]) rfl (by decide) rfl rfl rfl (by rintro g rfl; simp only [add_plain]; refine congrArg (fun n => (⟨g, n, none⟩ : Addr)) ?_; first | rfl | (show 0 + (x79).toNat * 13 + 1 = (x79).toNat * 13 + 1; omega) | (show 0 + (x79).toNat * 13 = (x79).toNat * 13 + 0; omega)) rfl rfl (by kernel_rfl) (by simp [Value.oneCell']) ⟨of_eq_true c82, of_eq_true c83⟩ rfl (fun hl => rd_T192_get hl) (made_flat (fun _ => rfl)) ?_; clear HS; (try clear F); intro w91 HS; rw [← e_y92.out] at HS; replace HS : Hp A w _ [.own (Zd.slice 192 q192) y92 [.slice (some ad84) a0.length d1]] := HS) | ((with_reducible refine gate_dst (N := 30) rfl ?_); refine ev_call rfl Try.func110 (by kernel_rfl) rfl #[.int .i64 (wrap64 ((wrap64 (x78 + 1)) + 1))] rfl (by simp only [List.map_toArray, List.map_cons, List.map_nil]; rfl) ?_; refine (laws_markText.calls ht94.out).mono ?_; rintro _ wt94 ⟨rfl, HQ⟩; refine ⟨_, rfl, ?_⟩; replace HS := HS.call HQ; clear HQ; (try clear F); replace HS : Hp A w _ [.own (Zd.slice 192 q192) y92 [.slice (some ad84) a0.length d1]] := HS; obtain ⟨ad96, B96_9, d96_9, B96_10, d96_10, B96_11, d96_11, hq96, e96_0, e96_1, e96_2, e96_3, e96_4, e96_5, e96_6, e96_7, e96_8, e96_9, e96_10, e96_11, e96_12, m96_9, y96_9, m96_10, y96_10, m96_11, y96_11⟩ := at_T192 (HS.rd 0 rfl) x79 (of_eq_true c82) (of_eq_true c83); obtain rfl := Option.some.inj hq96) | ((with_reducible refine gate_store (p := 32) rfl ?_); refine ev_setp (ad := ad84) rfl q192 Zd.string lens192_2_9 0 [] x79 (rd_T192 y92 x79) t94 HS (seg := [.string t94]) rfl (by decide) rfl rfl rfl (by rintro g rfl; simp only [add_plain]; refine congrArg (fun n => (⟨g, n, none⟩ : Addr)) ?_; first | rfl | (show 0 + (x79).toNat * 13 + 2 = (x79).toNat * 13 + 2; omega) | (show 0 + (x79).toNat * 13 = (x79).toNat * 13 + 0; omega)) rfl rfl (by kernel_rfl) (by simp [Value.oneCell']) ⟨of_eq_true c82, of_eq_true c83⟩ rfl (fun hl => rd_T192_get hl) (made_flat (fun _ => rfl)) ?_; clear HS; (try clear F); intro w97 HS; rw [← e_y98.out] at HS; replace HS : Hp A w _ [.own (Zd.slice 192 q192) y98 [.slice (some ad84) a0.length d1]] := HS; obtain ⟨ad100, B100_9, d100_9, B100_10, d100_10, B100_11, d100_11, hq100, e100_0, e100_1, e100_2, e100_3, e100_4, e100_5, e100_6, e100_7, e100_8, e100_9, e100_10, e100_11, e100_12, m100_9, y100_9, m100_10, y100_10, m100_11, y100_11⟩ := at_T192 (HS.rd 0 rfl) x79 (of_eq_true c82) (of_eq_true c83); obtain rfl := Option.some.inj hq100) | ((with_reducible refine gate_store (p := 39) rfl ?_); refine ev_setp (ad := ad84) rfl q192 (Zd.int .i64) lens192_3_3 0 [] x79 (rd_T192 y98 x79) (wrap64 ((wrap64 ((wrap64 (x78 + 1)) + 1)) + 1)) HS (seg := [.int .i64 (wrap64 ((wrap64 ((wrap64 (x78 + 1)) + 1)) + 1))]) rfl (by decide) rfl rfl rfl (by rintro g rfl; simp only [add_plain]; refine congrArg (fun n => (⟨g, n, none⟩ : Addr)) ?_; first | rfl | (show 0 + (x79).toNat * 13 + 3 = (x79).toNat * 13 + 3; omega) | (show 0 + (x79).toNat * 13 = (x79).toNat * 13 + 0; omega)) rfl rfl (by kernel_rfl) (by simp [Value.oneCell']) ⟨of_eq_true c82, of_eq_true c83⟩ rfl (fun hl => rd_T192_get hl) (made_flat (fun _ => rfl)) ?_; clear HS; (try clear F); intro w101 HS; rw [← e_y102.out] at HS; replace HS : Hp A w _ [.own (Zd.slice 192 q192) y102 [.slice (some ad84) a0.length d1]] := HS; obtain ⟨ad104, B104_9, d104_9, B104_10, d104_10, B104_11, d104_11, hq104, e104_0, e104_1, e104_2, e104_3, e104_4, e104_5, e104_6, e104_7, e104_8, e104_9, e104_10, e104_11, e104_12, m104_9, y104_9, m104_10, y104_10, m104_11, y104_11⟩ := at_T192 (HS.rd 0 rfl) x79 (of_eq_true c82) (of_eq_true c83); obtain rfl := Option.some.inj hq104) | ((with_reducible refine gate_store (p := 46) rfl ?_); refine ev_setp (ad := ad84) rfl q192 (Zd.int .i64) lens192_4_3 0 [] x79 (rd_T192 y102 x79) (wrap64 ((wrap64 ((wrap64 ((wrap64 (x78 + 1)) + 1)) + 1)) + 1)) HS (seg := [.int .i64 (wrap64 ((wrap64 ((wrap64 ((wrap64 (x78 + 1)) + 1)) + 1)) + 1))]) rfl (by decide) rfl rfl rfl (by rintro g rfl; simp only [add_plain]; refine congrArg (fun n => (⟨g, n, none⟩ : Addr)) ?_; first | rfl | (show 0 + (x79).toNat * 13 + 4 = (x79).toNat * 13 + 4; omega) | (show 0 + (x79).toNat * 13 = (x79).toNat * 13 + 0; omega)) rfl rfl (by kernel_rfl) (by simp [Value.oneCell']) ⟨of_eq_true c82, of_eq_true c83⟩ rfl (fun hl => rd_T192_get hl) (made_flat (fun _ => rfl)) ?_; clear HS; (try clear F); intro w105 HS; rw [← e_y106.out] at HS; replace HS : Hp A w _ [.own (Zd.slice 192 q192) y106 [.slice (some ad84) a0.length d1]] := HS) | ((with_reducible refine gate_dst (N := 52) rfl ?_); refine ev_call rfl Try.func110 (by kernel_rfl) rfl #[.int .i64 (wrap64 ((wrap64 ((wrap64 ((wrap64 ((wrap64 (x78 + 1)) + 1)) + 1)) + 1)) + 1))] rfl (by simp only [List.map_toArray, List.map_cons, List.map_nil]; rfl) ?_; refine (laws_markText.calls ht108.out).mono ?_; rintro _ wt108 ⟨rfl, HQ⟩; refine ⟨_, rfl, ?_⟩; replace HS := HS.call HQ; clear HQ; (try clear F); replace HS : Hp A w _ [.own (Zd.slice 192 q192) y106 [.slice (some ad84) a0.length d1]] := HS; obtain ⟨ad110, B110_9, d110_9, B110_10, d110_10, B110_11, d110_11, hq110, e110_0, e110_1, e110_2, e110_3, e110_4, e110_5, e110_6, e110_7, e110_8, e110_9, e110_10, e110_11, e110_12, m110_9, y110_9, m110_10, y110_10, m110_11, y110_11⟩ := at_T192 (HS.rd 0 rfl) x79 (of_eq_true c82) (of_eq_true c83); obtain rfl := Option.some.inj hq110) | ((with_reducible refine gate_store (p := 54) rfl ?_); refine ev_setp (ad := ad84) rfl q192 Zd.string lens192_5_9 0 [] x79 (rd_T192 y106 x79) t108 HS (seg := [.string t108]) rfl (by decide) rfl rfl rfl (by rintro g rfl; simp only [add_plain]; refine congrArg (fun n => (⟨g, n, none⟩ : Addr)) ?_; first | rfl | (show 0 + (x79).toNat * 13 + 5 = (x79).toNat * 13 + 5; omega) | (show 0 + (x79).toNat * 13 = (x79).toNat * 13 + 0; omega)) rfl rfl (by kernel_rfl) (by simp [Value.oneCell']) ⟨of_eq_true c82, of_eq_true c83⟩ rfl (fun hl => rd_T192_get hl) (made_flat (fun _ => rfl)) ?_; clear HS; (try clear F); intro w111 HS; rw [← e_y112.out] at HS; replace HS : Hp A w _ [.own (Zd.slice 192 q192) y112 [.slice (some ad84) a0.length d1]] := HS; obtain ⟨ad114, B114_9, d114_9, B114_10, d114_10, B114_11, d114_11, hq114, e114_0, e114_1, e114_2, e114_3, e114_4, e114_5, e114_6, e114_7, e114_8, e114_9, e114_10, e114_11, e114_12, m114_9, y114_9, m114_10, y114_10, m114_11, y114_11⟩ := at_T192 (HS.rd 0 rfl) x79 (of_eq_true c82) (of_eq_true c83); obtain rfl := Option.some.inj hq114) | ((with_reducible refine gate_store (p := 63) rfl ?_); refine ev_setp (ad := ad84) rfl q192 Zd.bool lens192_6_4 0 [] x79 (rd_T192 y112 x79) ((Int.tmod (wrap64 ((wrap64 ((wrap64 ((wrap64 ((wrap64 ((wrap64 (x78 + 1)) + 1)) + 1)) + 1)) + 1)) + 1)) 3) == 0) HS (seg := [.bool ((Int.tmod (wrap64 ((wrap64 ((wrap64 ((wrap64 ((wrap64 ((wrap64 (x78 + 1)) + 1)) + 1)) + 1)) + 1)) + 1)) 3) == 0)]) rfl (by decide) rfl rfl rfl (by rintro g rfl; simp only [add_plain]; refine congrArg (fun n => (⟨g, n, none⟩ : Addr)) ?_; first | rfl | (show 0 + (x79).toNat * 13 + 6 = (x79).toNat * 13 + 6; omega) | (show 0 + (x79).toNat * 13 = (x79).toNat * 13 + 0; omega)) rfl rfl (by kernel_rfl) (by simp [Value.oneCell']) ⟨of_eq_true c82, of_eq_true c83⟩ rfl (fun hl => rd_T192_get hl) (made_flat (fun _ => rfl)) ?_; clear HS; (try clear F); intro w115 HS; rw [← e_y116.out] at HS; replace HS : Hp A w _ [.own (Zd.slice 192 q192) y116 [.slice (some ad84) a0.length d1]] := HS; obtain ⟨ad118, B118_9, d118_9, B118_10, d118_10, B118_11, d118_11, hq118, e118_0, e118_1, e118_2, e118_3, e118_4, e118_5, e118_6, e118_7, e118_8, e118_9, e118_10, e118_11, e118_12, m118_9, y118_9, m118_10, y118_10, m118_11, y118_11⟩ := at_T192 (HS.rd 0 rfl) x79 (of_eq_true c82) (of_eq_true c83); obtain rfl := Option.some.inj hq118) | ((with_reducible refine gate_store (p := 70) rfl ?_); refine ev_setp (ad := ad84) rfl q192 (Zd.int .i64) lens192_7_3 0 [] x79 (rd_T192 y116 x79) (wrap64 ((wrap64 ((wrap64 ((wrap64 ((wrap64 ((wrap64 ((wrap64 (x78 + 1)) + 1)) + 1)) + 1)) + 1)) + 1)) + 1)) HS (seg := [.int .i64 (wrap64 ((wrap64 ((wrap64 ((wrap64 ((wrap64 ((wrap64 ((wrap64 (x78 + 1)) + 1)) + 1)) + 1)) + 1)) + 1)) + 1))]) rfl (by decide) rfl rfl rfl (by rintro g rfl; simp only [add_plain]; refine congrArg (fun n => (⟨g, n, none⟩ : Addr)) ?_; first | rfl | (show 0 + (x79).toNat * 13 + 7 = (x79).toNat * 13 + 7; omega) | (show 0 + (x79).toNat * 13 = (x79).toNat * 13 + 0; omega)) rfl rfl (by kernel_rfl) (by simp [Value.oneCell']) ⟨of_eq_true c82, of_eq_true c83⟩ rfl (fun hl => rd_T192_get hl) (made_flat (fun _ => rfl)) ?_; clear HS; (try clear F); intro w119 HS; rw [← e_y120.out] at HS; replace HS : Hp A w _ [.own (Zd.slice 192 q192) y120 [.slice (some ad84) a0.length d1]] := HS; obtain ⟨ad122, B122_9, d122_9, B122_10, d122_10, B122_11, d122_11, hq122, e122_0, e122_1, e122_2, e122_3, e122_4, e122_5, e122_6, e122_7, e122_8, e122_9, e122_10, e122_11, e122_12, m122_9, y122_9, m122_10, y122_10, m122_11, y122_11⟩ := at_T192 (HS.rd 0 rfl) x79 (of_eq_true c82) (of_eq_true c83); obtain rfl := Option.some.inj hq122) | ((with_reducible refine gate_store (p := 77) rfl ?_); refine ev_setp (ad := ad84) rfl q192 (Zd.int .i64) lens192_8_3 0 [] x79 (rd_T192 y120 x79) (wrap64 ((wrap64 ((wrap64 ((wrap64 ((wrap64 ((wrap64 ((wrap64 ((wrap64 (x78 + 1)) + 1)) + 1)) + 1)) + 1)) + 1)) + 1)) + 1)) HS (seg := [.int .i64 (wrap64 ((wrap64 ((wrap64 ((wrap64 ((wrap64 ((wrap64 ((wrap64 ((wrap64 (x78 + 1)) + 1)) + 1)) + 1)) + 1)) + 1)) + 1)) + 1))]) rfl (by decide) rfl rfl rfl (by rintro g rfl; simp only [add_plain]; refine congrArg (fun n => (⟨g, n, none⟩ : Addr)) ?_; first | rfl | (show 0 + (x79).toNat * 13 + 8 = (x79).toNat * 13 + 8; omega) | (show 0 + (x79).toNat * 13 = (x79).toNat * 13 + 0; omega)) rfl rfl (by kernel_rfl) (by simp [Value.oneCell']) ⟨of_eq_true c82, of_eq_true c83⟩ rfl (fun hl => rd_T192_get hl) (made_flat (fun _ => rfl)) ?_; clear HS; (try clear F); intro w123 HS; rw [← e_y124.out] at HS; replace HS : Hp A w _ [.own (Zd.slice 192 q192) y124 [.slice (some ad84) a0.length d1]] := HS; obtain ⟨ad126, B126_9, d126_9, B126_10, d126_10, B126_11, d126_11, hq126, e126_0, e126_1, e126_2, e126_3, e126_4, e126_5, e126_6, e126_7, e126_8, e126_9, e126_10, e126_11, e126_12, m126_9, y126_9, m126_10, y126_10, m126_11, y126_11⟩ := at_T192 (HS.rd 0 rfl) x79 (of_eq_true c82) (of_eq_true c83); obtain rfl := Option.some.inj hq126) | ((with_reducible refine gate_dst (N := 86) rfl ?_); refine HS.lend_el 0 x79 rfl lens192_9_24 (of_eq_true c82) (of_eq_true c83) e126_9 (by rintro g rfl; simp only [add_plain]; refine congrArg (fun n => (⟨g, n, none⟩ : Addr)) ?_; first | rfl | omega) (fun hl => rd_T192_get hl) (fun A' HL HA HB => ?_); refine ev_call rfl Try.func49 (by kernel_rfl) rfl #[.slice B126_9 (rd_T192 y124 x79).f9.length d126_9, .int .i64 (wrap64 ((wrap64 ((wrap64 ((wrap64 ((wrap64 ((wrap64 ((wrap64 ((wrap64 ((wrap64 (x78 + 1)) + 1)) + 1)) + 1)) + 1)) + 1)) + 1)) + 1)) + 1))] rfl (by simp only [List.map_toArray, List.map_cons, List.map_nil]; rfl) ?_; refine (laws_markIntS.calls ht127.out HA).mono ?_; rintro _ wt127 ⟨rfl, HQ⟩; refine ⟨_, rfl, ?_⟩; replace HS := HB _ _ _ HQ; clear HQ HA HB HL; rw [← e_y128.out] at HS; replace HS : Hp A w _ [.own (Zd.slice 192 q192) y128 [.slice (some ad84) a0.length d1]] := HS; (try clear F); replace HS : Hp A w _ [.own (Zd.slice 192 q192) y128 [.slice (some ad84) a0.length d1]] := HS; obtain ⟨ad130, B130_9, d130_9, B130_10, d130_10, B130_11, d130_11, hq130, e130_0, e130_1, e130_2, e130_3, e130_4, e130_5, e130_6, e130_7, e130_8, e130_9, e130_10, e130_11, e130_12, m130_9, y130_9, m130_10, y130_10, m130_11, y130_11⟩ := at_T192 (HS.rd 0 rfl) x79 (of_eq_true c82) (of_eq_true c83); obtain rfl := Option.some.inj hq130) | ((with_reducible refine gate_dst (N := 93) rfl ?_); refine HS.lend_el 0 x79 rfl lens192_10_73 (of_eq_true c82) (of_eq_true c83) e130_10 (by rintro g rfl; simp only [add_plain]; refine congrArg (fun n => (⟨g, n, none⟩ : Addr)) ?_; first | rfl | omega) (fun hl => rd_T192_get hl) (fun A' HL HA HB => ?_); refine ev_call rfl Try.func101 (by kernel_rfl) rfl #[.slice B130_10 (rd_T192 y128 x79).f10.length d130_10, .int .i64 t127.1] rfl (by simp only [List.map_toArray, List.map_cons, List.map_nil]; rfl) ?_; refine (laws_markStringS.calls ht131.out HA).mono ?_; rintro _ wt131 ⟨rfl, HQ⟩; refine ⟨_, rfl, ?_⟩; replace HS := HB _ _ _ HQ; clear HQ HA HB HL; rw [← e_y132.out] at HS; replace HS : Hp A w _ [.own (Zd.slice 192 q192) y132 [.slice (some ad84) a0.length d1]] := HS; (try clear F); replace HS : Hp A w _ [.own (Zd.slice 192 q192) y132 [.slice (some ad84) a0.length d1]] := HS; obtain ⟨ad134, B134_9, d134_9, B134_10, d134_10, B134_11, d134_11, hq134, e134_0, e134_1, e134_2, e134_3, e134_4, e134_5, e134_6, e134_7, e134_8, e134_9, e134_10, e134_11, e134_12, m134_9, y134_9, m134_10, y134_10, m134_11, y134_11⟩ := at_T192 (HS.rd 0 rfl) x79 (of_eq_true c82) (of_eq_true c83); obtain rfl := Option.some.inj hq134) | ((with_reducible refine gate_dst (N := 100) rfl ?_); refine HS.lend_el 0 x79 rfl lens192_11_73 (of_eq_true c82) (of_eq_true c83) e134_11 (by rintro g rfl; simp only [add_plain]; refine congrArg (fun n => (⟨g, n, none⟩ : Addr)) ?_; first | rfl | omega) (fun hl => rd_T192_get hl) (fun A' HL HA HB => ?_); refine ev_call rfl Try.func101 (by kernel_rfl) rfl #[.slice B134_11 (rd_T192 y132 x79).f11.length d134_11, .int .i64 t131.1] rfl (by simp only [List.map_toArray, List.map_cons, List.map_nil]; rfl) ?_; refine (laws_markStringS.calls ht135.out HA).mono ?_; rintro _ wt135 ⟨rfl, HQ⟩; refine ⟨_, rfl, ?_⟩; replace HS := HB _ _ _ HQ; clear HQ HA HB HL; rw [← e_y136.out] at HS; replace HS : Hp A w _ [.own (Zd.slice 192 q192) y136 [.slice (some ad84) a0.length d1]] := HS; (try clear F); replace HS : Hp A w _ [.own (Zd.slice 192 q192) y136 [.slice (some ad84) a0.length d1]] := HS) | ((with_reducible refine gate_dst (N := 104) rfl ?_); refine ev_call rfl Try.func110 (by kernel_rfl) rfl #[.int .i64 t135.1] rfl (by simp only [List.map_toArray, List.map_cons, List.map_nil]; rfl) ?_; refine (laws_markText.calls ht138.out).mono ?_; rintro _ wt138 ⟨rfl, HQ⟩; refine ⟨_, rfl, ?_⟩; replace HS := HS.call HQ; clear HQ; (try clear F); replace HS : Hp A w _ [.own (Zd.slice 192 q192) y136 [.slice (some ad84) a0.length d1]] := HS; obtain ⟨ad140, B140_9, d140_9, B140_10, d140_10, B140_11, d140_11, hq140, e140_0, e140_1, e140_2, e140_3, e140_4, e140_5, e140_6, e140_7, e140_8, e140_9, e140_10, e140_11, e140_12, m140_9, y140_9, m140_10, y140_10, m140_11, y140_11⟩ := at_T192 (HS.rd 0 rfl) x79 (of_eq_true c82) (of_eq_true c83); obtain rfl := Option.some.inj hq140) | ((with_reducible refine gate_store (p := 106) rfl ?_); refine ev_setp (ad := ad84) rfl q192 Zd.string lens192_12_9 0 [] x79 (rd_T192 y136 x79) t138 HS (seg := [.string t138]) rfl (by decide) rfl rfl rfl (by rintro g rfl; simp only [add_plain]; refine congrArg (fun n => (⟨g, n, none⟩ : Addr)) ?_; first | rfl | (show 0 + (x79).toNat * 13 + 12 = (x79).toNat * 13 + 12; omega) | (show 0 + (x79).toNat * 13 = (x79).toNat * 13 + 0; omega)) rfl rfl (by kernel_rfl) (by simp [Value.oneCell']) ⟨of_eq_true c82, of_eq_true c83⟩ rfl (fun hl => rd_T192_get hl) (made_flat (fun _ => rfl)) ?_; clear HS; (try clear F); intro w141 HS; rw [← e_y142.out] at HS; replace HS : Hp A w _ [.own (Zd.slice 192 q192) y142 [.slice (some ad84) a0.length d1]] := HS))
     go_roundg k75
     case measure => have := HKk75.out; omega
     case rel => exact ⟨_, _, _, rfl, rfl, H, ⟨by have := HKk75.out; omega⟩, HS.pick [0] (by decide) (by rfl)⟩
   · replace H := zneg c81 H
     replace c81 := eq_false c81
     obtain ⟨rfl, rfl⟩ := zsome2 H
     go_wp2
     go_ret
     exact ⟨rfl, HS.pick [0] (by decide) (by rfl)⟩
/-! ### laws_markRevS: function 139 -/
def laws_markRevS.l0 : Nat → (List S230) → Int → Int → (List S230) → Option (Int × (List S230))
  | 0, _, _, _, _ => none
  | k + 1, l24, x26, x27, a0 => (if x27 < (a0.length : Int) then (if 0 ≤ x27 then (if x27 < (a0.length : Int) then (lets (l24.set (x27).toNat (u230_0_3 (rd_T230 l24 x27) x26)) fun y34 => (lets (y34.set (x27).toNat (u230_1_3 (rd_T230 y34 x27) (wrap64 (x26 + 1)))) fun y38 => (laws_markRevS.l0 k y38 (wrap64 ((wrap64 (x26 + 1)) + 1)) (wrap64 (x27 + 1)) a0))) else none) else none) else (some (x26, l24)))
def laws_markRevS.f (k : Nat) (a0 : (List S230)) (a1 : Int) : Option (Int × (List S230)) := (laws_markRevS.l0 k a0 a1 0 a0)
set_option maxHeartbeats 16000000 in
theorem laws_markRevS.calls {k : Nat} {a0 : (List S230)} {a1 : Int} {A : FP} {vp0 : Value} {r1 : Int} {r2 : (List S230)} {w : World} (h : laws_markRevS.f k a0 a1 = some (r1, r2)) (HS : Hp A w w [.own (Zd.slice 230 q230) a0 [vp0]]) :
    Calls Try.prog 139 #[vp0, .int .i64 a1] w (fun e w' => e = .returned (.int .i64 r1) ∧ Hp A w w' [.own (Zd.slice 230 q230) r2 [vp0]]) := by
 obtain ⟨B1, d1, rfl, m1⟩ := HS.form 0 rfl
 have H := Aside0.mk h
 clear h
 unfold laws_markRevS.f at H
 go_enter Try.func139, Try.ntmps139
 go_wp2
 go_loopg [1, 5] k (fun kq v_1 v_5 w' => ∃ (l24 : List S230) (x26 : Int) (x27 : Int), v_1 = .int .i64 x26 ∧ v_5 = .int .i64 x27 ∧ Aside0 (laws_markRevS.l0 kq l24 x26 x27 a0 = some (r1, r2)) ∧ Aside0 (kq ≤ k) ∧ Hp A w w' [.own (Zd.slice 230 q230) l24 [.slice B1 a0.length d1]])
 case atStart => exact ⟨_, _, _, rfl, rfl, H, ⟨Nat.le_refl _⟩, HS⟩
 case round =>
  clear HS H; (try clear F)
  obtain ⟨l24, x26, x27, rfl, rfl, H, HKk23, HS⟩ := hrel
  cases gk with
  | zero => exact absurd H.out (by simp [laws_markRevS.l0])
  | succ k23 =>
   simp only [laws_markRevS.l0] at H
   by_cases c29 : x27 < (a0.length : Int)
   · replace H := zpos c29 H
     replace c29 := eq_true c29
     by_cases c30 : 0 ≤ x27
     case neg => exact zno c30 H
     replace H := zpos c30 H
     replace c30 := eq_true c30
     by_cases c31 : x27 < (a0.length : Int)
     case neg => exact zno c31 H
     replace H := zpos c31 H
     replace c31 := eq_true c31
     obtain ⟨ad32, rfl, e32_0, e32_1⟩ := at_T230 (HS.rd 0 rfl) x27 (of_eq_true c30) (of_eq_true c31)
     replace H := zlets H; obtain ⟨y34, e_y34, H⟩ := H
     replace H := zlets H; obtain ⟨y38, e_y38, H⟩ := H
     go_wp2_with (first | ((with_reducible refine gate_store (p := 16) rfl ?_); refine ev_setp (ad := ad32) rfl q230 (Zd.int .i64) lens230_0_3 0 [] x27 (rd_T230 l24 x27) x26 HS (seg := [.int .i64 x26]) rfl (by decide) rfl rfl rfl (by rintro g rfl; simp only [add_plain]; refine congrArg (fun n => (⟨g, n, none⟩ : Addr)) ?_; first | rfl | (show 0 + (x27).toNat * 2 + 0 = (x27).toNat * 2 + 0; omega) | (show 0 + (x27).toNat * 2 = (x27).toNat * 2 + 0; omega)) rfl rfl (by kernel_rfl) (by simp [Value.oneCell']) ⟨of_eq_true c30, of_eq_true c31⟩ rfl (fun hl => rd_T230_get hl) (made_flat (fun _ => rfl)) ?_; clear HS; (try clear F); intro w33 HS; rw [← e_y34.out] at HS; replace HS : Hp A w _ [.own (Zd.slice 230 q230) y34 [.slice (some ad32) a0.length d1]] := HS; obtain ⟨ad36, hq36, e36_0, e36_1⟩ := at_T230 (HS.rd 0 rfl) x27 (of_eq_true c30) (of_eq_true c31); obtain rfl := Option.some.inj hq36) | ((with_reducible refine gate_store (p := 23) rfl ?_); refine ev_setp (ad := ad32) rfl q230 (Zd.int .i64) lens230_1_3 0 [] x27 (rd_T230 y34 x27) (wrap64 (x26 + 1)) HS (seg := [.int .i64 (wrap64 (x26 + 1))]) rfl (by decide) rfl rfl rfl (by rintro g rfl; simp only [add_plain]; refine congrArg (fun n => (⟨g, n, none⟩ : Addr)) ?_; first | rfl | (show 0 + (x27).toNat * 2 + 1 = (x27).toNat * 2 + 1; omega) | (show 0 + (x27).toNat * 2 = (x27).toNat * 2 + 0; omega)) rfl rfl (by kernel_rfl) (by simp [Value.oneCell']) ⟨of_eq_true c30, of_eq_true c31⟩ rfl (fun hl => rd_T230_get hl) (made_flat (fun _ => rfl)) ?_; clear HS; (try clear F); intro w37 HS; rw [← e_y38.out] at HS; replace HS : Hp A w _ [.own (Zd.slice 230 q230) y38 [.slice (some ad32) a0.length d1]] := HS))
     go_roundg k23
     case measure => have := HKk23.out; omega
     case rel => exact ⟨_, _, _, rfl, rfl, H, ⟨by have := HKk23.out; omega⟩, HS.pick [0] (by decide) (by rfl)⟩
   · replace H := zneg c29 H
     replace c29 := eq_false c29
     obtain ⟨rfl, rfl⟩ := zsome2 H
     go_wp2
     go_ret
     exact ⟨rfl, HS.pick [0] (by decide) (by rfl)⟩
end Go.Proofs.Ytoaoncnbimcdgaa.F

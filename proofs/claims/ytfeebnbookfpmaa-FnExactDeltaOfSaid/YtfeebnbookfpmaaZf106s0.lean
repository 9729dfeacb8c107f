import Derived.Test.YtfeebnbookfpmaaZT
namespace Go.Proofs.Ytfeebnbookfpmaa.F
open Go.RowKit Go.Proofs.YtfeebnbookfpmaaW.PrintWords Go.Proofs.YtfeebnbookfpmaaW.PrintLast Go.Proofs.YtfeebnbookfpmaaW.PrintMore Go.Proofs.Ytfeebnbookfpmaa.Z
attribute [local go_sem] max2_int min2_int max_two min_two max_three min_three max_four min_four
set_option linter.unusedVariables false
set_option linter.unusedSimpArgs false
set_option maxRecDepth 100000
/-! ### impl_DeltaOf_1_0: function 106 -/
def impl_DeltaOf_1_0.f (a0 : S54) (a1 : S54) : Option (Bool) := (if a0.f4 = 0 then (some false) else (if a0.f4 ≤ a1.f1 then (some (decide (a1.f1 < a0.f1))) else (some false)))
set_option maxHeartbeats 16000000 in
theorem impl_DeltaOf_1_0.calls {a0 : S54} {a1 : S54} {Ap0 : Option Addr} {np0 cp0 : Nat} {p1 : Nat} {Ap2 : Option Addr} {np2 cp2 : Nat} {r : Bool} {w : World} (h : impl_DeltaOf_1_0.f a0 a1 = some r) (gp0 : k119.C w Ap0 np0 a0.f5) (lp0 : np0 ≤ cp0) (gp2 : k119.C w Ap2 np2 a1.f5) (lp2 : np2 ≤ cp2) (zp1_0 : w.cell? ⟨p1, 0, none⟩ = some (.string a1.f0)) (zp1_1 : w.cell? ⟨p1, 1, none⟩ = some (.int .i64 a1.f1)) (zp1_2 : w.cell? ⟨p1, 2, none⟩ = some (.int .i64 a1.f2)) (zp1_3 : w.cell? ⟨p1, 3, none⟩ = some (.int .i64 a1.f3)) (zp1_4 : w.cell? ⟨p1, 4, none⟩ = some (.int .i64 a1.f4)) (zp1_5 : w.cell? ⟨p1, 5, none⟩ = some (.slice Ap2 np2 cp2)) (zp1_6 : w.cell? ⟨p1, 6, none⟩ = some (.string a1.f6)) :
    Calls Try.prog 106 #[.agg #[.string a0.f0, .int .i64 a0.f1, .int .i64 a0.f2, .int .i64 a0.f3, .int .i64 a0.f4, .slice Ap0 np0 cp0, .string a0.f6], .pointer (some ⟨p1, 0, none⟩)] w (fun e w' => e = .returned (.bool r) ∧ Hp noFP w w' []) := by
 obtain rfl := C_len gp0
 obtain rfl := C_len gp2
 have HS := Hp.start w
 have H := Aside0.mk h
 clear h
 unfold impl_DeltaOf_1_0.f at H
 go_enter Try.func106, Try.ntmps106
 by_cases c3 : a0.f4 = 0
 · replace H := zpos c3 H
   have c3a := beq_iff_eq.mpr c3
   have c3b := bne_eq_false_iff_eq.mpr c3
   clear c3
   obtain rfl := zsome H
   go_wp2_with (first | ((with_reducible refine gate_dst (N := 2) rfl ?_); refine ev_box rfl HS (by first | (go_simp; done) | (go_simp; rfl)) rfl ?_; clear HS; (try clear F); intro g2 w2 HS; have F := HS.boxes; simp only [boxFacts, wrt, clr0, clr1, List.cons_append, List.nil_append, List.append_nil, List.set_cons_zero, List.set_cons_succ, and_true] at F))
   go_ret
   exact ⟨rfl, HS.pick [] (by decide) (by rfl)⟩
 · replace H := zneg c3 H
   have c3a := beq_eq_false_iff_ne.mpr c3
   have c3b := bne_iff_ne.mpr c3
   clear c3
   by_cases c4 : a0.f4 ≤ a1.f1
   · replace H := zpos c4 H
     replace c4 := eq_true c4
     obtain rfl := zsome H
     go_wp2_with (first | ((with_reducible refine gate_dst (N := 2) rfl ?_); refine ev_box rfl HS (by first | (go_simp; done) | (go_simp; rfl)) rfl ?_; clear HS; (try clear F); intro g2 w2 HS; have F := HS.boxes; simp only [boxFacts, wrt, clr0, clr1, List.cons_append, List.nil_append, List.append_nil, List.set_cons_zero, List.set_cons_succ, and_true] at F; have zp1_1_ := HS.keepc zp1_1; have zp1_1_ := HS.keepc zp1_1))
     go_ret
     exact ⟨rfl, HS.pick [] (by decide) (by rfl)⟩
   · replace H := zneg c4 H
     replace c4 := eq_false c4
     obtain rfl := zsome H
     go_wp2_with (first | ((with_reducible refine gate_dst (N := 2) rfl ?_); refine ev_box rfl HS (by first | (go_simp; done) | (go_simp; rfl)) rfl ?_; clear HS; (try clear F); intro g2 w2 HS; have F := HS.boxes; simp only [boxFacts, wrt, clr0, clr1, List.cons_append, List.nil_append, List.append_nil, List.set_cons_zero, List.set_cons_succ, and_true] at F; have zp1_1_ := HS.keepc zp1_1))
     go_ret
     exact ⟨rfl, HS.pick [] (by decide) (by rfl)⟩
end Go.Proofs.Ytfeebnbookfpmaa.F

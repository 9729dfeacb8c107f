import Derived.Test.YtfeebnbookfpmaaZT
namespace Go.Proofs.Ytfeebnbookfpmaa.F
open Go.RowKit Go.Proofs.YtfeebnbookfpmaaW.PrintWords Go.Proofs.YtfeebnbookfpmaaW.PrintLast Go.Proofs.YtfeebnbookfpmaaW.PrintMore Go.Proofs.Ytfeebnbookfpmaa.Z
attribute [local go_sem] max2_int min2_int max_two min_two max_three min_three max_four min_four
set_option linter.unusedVariables false
set_option linter.unusedSimpArgs false
set_option maxRecDepth 100000
/-! ### laws_eqRev: function 125 -/
def laws_eqRev.f (a0 : S119) (a1 : S119) : Option (Bool) := (if a0.f0 = a1.f0 then (if a0.f1 = a1.f1 then (some true) else (some false)) else (some false))
set_option maxHeartbeats 16000000 in
theorem laws_eqRev.calls {a0 : S119} {a1 : S119} {r : Bool} {w : World} (h : laws_eqRev.f a0 a1 = some r) :
    Calls Try.prog 125 #[.agg #[.int .i64 a0.f0, .int .i64 a0.f1], .agg #[.int .i64 a1.f0, .int .i64 a1.f1]] w (fun e w' => e = .returned (.bool r) ∧ Hp noFP w w' []) := by
 have HS := Hp.start w
 have H := Aside0.mk h
 clear h
 unfold laws_eqRev.f at H
 go_enter Try.func125, Try.ntmps125
 go_upto_if 9 with (first | ((with_reducible refine gate_dst (N := 2) rfl ?_); refine ev_box rfl HS (by first | (go_simp; done) | (go_simp; rfl)) rfl ?_; clear HS; (try clear F); intro g2 w2 HS; have F := HS.boxes; simp only [boxFacts, wrt, clr0, clr1, List.cons_append, List.nil_append, List.append_nil, List.set_cons_zero, List.set_cons_succ, and_true] at F) | ((with_reducible refine gate_dst (N := 3) rfl ?_); refine ev_box rfl HS (by first | (go_simp; done) | (go_simp; rfl)) rfl ?_; clear HS; (try clear F); intro g3 w3 HS; have F := HS.boxes; simp only [boxFacts, wrt, clr0, clr1, List.cons_append, List.nil_append, List.append_nil, List.set_cons_zero, List.set_cons_succ, and_true] at F))
 by_cases c5 : a0.f0 = a1.f0
 · replace H := zpos c5 H
   have c5a := beq_iff_eq.mpr c5
   have c5b := bne_eq_false_iff_eq.mpr c5
   clear c5
   (try simp only [c5a, c5b, decide_true, decide_false, Bool.not_true, Bool.not_false])
   by_cases c6 : a0.f1 = a1.f1
   · replace H := zpos c6 H
     have c6a := beq_iff_eq.mpr c6
     have c6b := bne_eq_false_iff_eq.mpr c6
     clear c6
     obtain rfl := zsome H
     go_wp2
     go_ret
     exact ⟨rfl, HS.pick [] (by decide) (by rfl)⟩
   · replace H := zneg c6 H
     have c6a := beq_eq_false_iff_ne.mpr c6
     have c6b := bne_iff_ne.mpr c6
     clear c6
     obtain rfl := zsome H
     go_wp2
     go_ret
     exact ⟨rfl, HS.pick [] (by decide) (by rfl)⟩
 · replace H := zneg c5 H
   have c5a := beq_eq_false_iff_ne.mpr c5
   have c5b := bne_iff_ne.mpr c5
   clear c5
   (try simp only [c5a, c5b, decide_true, decide_false, Bool.not_true, Bool.not_false])
   obtain rfl := zsome H
   go_wp2
   go_ret
   exact ⟨rfl, HS.pick [] (by decide) (by rfl)⟩
end Go.Proofs.Ytfeebnbookfpmaa.F

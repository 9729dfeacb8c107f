import Derived.Test.YtfeebnbookfpmaaZT
namespace Go.Proofs.Ytfeebnbookfpmaa.F
open Go.RowKit Go.Proofs.YtfeebnbookfpmaaW.PrintWords Go.Proofs.YtfeebnbookfpmaaW.PrintLast Go.Proofs.YtfeebnbookfpmaaW.PrintMore Go.Proofs.Ytfeebnbookfpmaa.Z
attribute [local go_sem] max2_int min2_int max_two min_two max_three min_three max_four min_four
set_option linter.unusedVariables false
set_option linter.unusedSimpArgs false
set_option maxRecDepth 100000
/-! ### impl_PlanAt_1_0: function 89 -/
def impl_PlanAt_1_0.f (a0 : S96) (a1 : Int) : Option (Bool) := (some (a0.f0 == a1))
set_option maxHeartbeats 2000000 in
theorem impl_PlanAt_1_0.calls {a0 : S96} {a1 : Int} {Ap0 : Option Addr} {np0 cp0 : Nat} {Ap1 : Option Addr} {np1 cp1 : Nat} {p2 : Nat} {r : Bool} {w : World} (h : impl_PlanAt_1_0.f a0 a1 = some r) (gp0 : (Kd.int .i64).C w Ap0 np0 a0.f1) (lp0 : np0 ≤ cp0) (gp1 : (Kd.int .i64).C w Ap1 np1 a0.f2.f1) (lp1 : np1 ≤ cp1) (zp2_0 : w.cell? ⟨p2, 0, none⟩ = some (.int .i64 a1)) :
    Calls Try.prog 89 #[.agg #[.int .i64 a0.f0, .slice Ap0 np0 cp0, .int .i64 a0.f2.f0, .slice Ap1 np1 cp1, .bool a0.f2.f2, .bool a0.f2.f3, .int .i64 a0.f2.f4], .pointer (some ⟨p2, 0, none⟩)] w (fun e w' => e = .returned (.bool r) ∧ Hp noFP w w' []) := by
 obtain rfl := C_len gp0
 obtain rfl := C_len gp1
 have HS := Hp.start w
 have H := Aside0.mk h
 clear h
 unfold impl_PlanAt_1_0.f at H
 go_enter Try.func89, Try.ntmps89
 obtain rfl := zsome H
 go_wp2_with (first | ((with_reducible refine gate_dst (N := 2) rfl ?_); refine ev_box rfl HS (by first | (go_simp; done) | (go_simp; rfl)) rfl ?_; clear HS; (try clear F); intro g2 w2 HS; have F := HS.boxes; simp only [boxFacts, wrt, List.cons_append, List.nil_append, List.append_nil, List.set_cons_zero, List.set_cons_succ, and_true] at F; have zp2_0_ := HS.keepc zp2_0))
 go_ret
 exact ⟨rfl, HS.pick [] (by decide) (by rfl)⟩
end Go.Proofs.Ytfeebnbookfpmaa.F

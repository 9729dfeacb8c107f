import Derived.Test.YtfeebnbookfpmaaZT
import Derived.Test.YtfeebnbookfpmaaZf101s0
namespace Go.Proofs.Ytfeebnbookfpmaa.F
open Go.RowKit Go.Proofs.YtfeebnbookfpmaaW.PrintWords Go.Proofs.YtfeebnbookfpmaaW.PrintLast Go.Proofs.YtfeebnbookfpmaaW.PrintMore Go.Proofs.Ytfeebnbookfpmaa.Z
attribute [local go_sem] max2_int min2_int max_two min_two max_three min_three max_four min_four
set_option linter.unusedVariables false
set_option linter.unusedSimpArgs false
set_option maxRecDepth 100000
/-! ### impl_WholeOf: function 52 -/
def impl_WholeOf.f (k : Nat) (a0 : (List S54)) : Option (S54 × Bool) := ((impl_greatest_0.f k a0).bind fun t3 => (some ((⟨t3.1.f0, t3.1.f1, t3.1.f2, t3.1.f3, t3.1.f4, t3.1.f5, t3.1.f6⟩ : S54), t3.2)))
set_option maxHeartbeats 16000000 in
theorem impl_WholeOf.calls {k : Nat} {a0 : (List S54)} {Ap0 : Option Addr} {np0 cp0 : Nat} {r1 : S54} {r2 : Bool} {w : World} (h : impl_WholeOf.f k a0 = some (r1, r2)) (gp0 : k54.C w Ap0 np0 a0) (lp0 : np0 ≤ cp0) :
    Calls Try.prog 52 #[.slice Ap0 np0 cp0] w (fun e w' => ∃ v0_ : Value, e = .returned (.tuple #[.agg #[.string r1.f0, .int .i64 r1.f1, .int .i64 r1.f2, .int .i64 r1.f3, .int .i64 r1.f4, v0_, .string r1.f6], .bool r2]) ∧ Hp noFP w w' [.own (Zd.slice 119 q119) r1.f5 [v0_]]) := by
 obtain rfl := C_len gp0
 have HS := Hp.start w
 have H := Aside0.mk h
 clear h
 unfold impl_WholeOf.f at H
 go_enter Try.func52, Try.ntmps52
 obtain ⟨t3, ht3, H⟩ := zbind H
 obtain ⟨rfl, rfl⟩ := zsome2 H
 go_wp2_with (first | ((with_reducible refine gate_dst (N := 2) rfl ?_); refine ev_box rfl HS (by first | (go_simp; done) | (go_simp; rfl)) rfl ?_; clear HS; (try clear F); intro g2 w2 HS; have F := HS.boxes; simp only [boxFacts, wrt, clr0, clr1, List.cons_append, List.nil_append, List.append_nil, List.set_cons_zero, List.set_cons_succ, and_true] at F) | ((with_reducible refine gate_dst (N := 5) rfl ?_); refine ev_call rfl Try.func101 (by kernel_rfl) rfl #[.slice Ap0 a0.length cp0, .func (.func 102) #[] #[]] rfl (by simp only [List.map_toArray, List.map_cons, List.map_nil]; rfl) ?_; refine (impl_greatest_0.calls ht3.out (HS.ro gp0) lp0).mono ?_; rintro _ wt3 ⟨v4, rfl, HQ⟩; refine ⟨_, rfl, ?_⟩; replace HS := HS.call HQ; clear HQ; (try clear F); obtain ⟨B4, d4, rfl, m4⟩ := HS.form 1 rfl; have F := HS.boxes; simp only [boxFacts, wrt, clr0, clr1, List.cons_append, List.nil_append, List.append_nil, List.set_cons_zero, List.set_cons_succ, and_true] at F) | ((with_reducible refine gate_store (p := 2) rfl ?_); refine ev_store rfl 0 0 HS (seg := [.string t3.1.f0, .int .i64 t3.1.f1, .int .i64 t3.1.f2, .int .i64 t3.1.f3, .int .i64 t3.1.f4, .slice B4 t3.1.f5.length d4, .string t3.1.f6]) rfl rfl rfl rfl rfl rfl (by kernel_rfl) (by simp [wrt]) (by simp [Value.oneCell']) ?_; clear HS; (try clear F); intro w6 HS; have F := HS.boxes; simp only [boxFacts, wrt, clr0, clr1, List.cons_append, List.nil_append, List.append_nil, List.set_cons_zero, List.set_cons_succ, and_true] at F))
 exact bodyPost_ret (results_list (rs := [.cell 2 54, .tmp 3]) rfl (by simp) (.cell _ _ _ _ _ rfl (HS.boxAt (i := 0) rfl) Try.underlying54 rfl (by kernel_rfl) (.tmp .nil))) rfl ⟨_, rfl, HS.pick [1] (by decide) (by rfl)⟩
end Go.Proofs.Ytfeebnbookfpmaa.F

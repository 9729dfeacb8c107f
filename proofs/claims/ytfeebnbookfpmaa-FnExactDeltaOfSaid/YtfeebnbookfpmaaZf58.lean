import Derived.Test.YtfeebnbookfpmaaZT
import Derived.Test.YtfeebnbookfpmaaZf101s1
namespace Go.Proofs.Ytfeebnbookfpmaa.F
open Go.RowKit Go.Proofs.YtfeebnbookfpmaaW.PrintWords Go.Proofs.YtfeebnbookfpmaaW.PrintLast Go.Proofs.YtfeebnbookfpmaaW.PrintMore Go.Proofs.Ytfeebnbookfpmaa.Z
attribute [local go_sem] max2_int min2_int max_two min_two max_three min_three max_four min_four
set_option linter.unusedVariables false
set_option linter.unusedSimpArgs false
set_option maxRecDepth 100000
/-! ### impl_DeltaOf: function 58 -/
def impl_DeltaOf.f (k : Nat) (a0 : (List S54)) (a1 : S54) : Option (S54 × Bool) := ((impl_greatest_1.f k a0 a1).bind fun t5 => (some ((⟨t5.1.f0, t5.1.f1, t5.1.f2, t5.1.f3, t5.1.f4, t5.1.f5, t5.1.f6⟩ : S54), t5.2)))
set_option maxHeartbeats 16000000 in
theorem impl_DeltaOf.calls {k : Nat} {a0 : (List S54)} {a1 : S54} {Ap0 : Option Addr} {np0 cp0 : Nat} {Ap1 : Option Addr} {np1 cp1 : Nat} {r1 : S54} {r2 : Bool} {w : World} (h : impl_DeltaOf.f k a0 a1 = some (r1, r2)) (gp0 : k54.C w Ap0 np0 a0) (lp0 : np0 ≤ cp0) (gp1 : k119.C w Ap1 np1 a1.f5) (lp1 : np1 ≤ cp1) :
    Calls Try.prog 58 #[.slice Ap0 np0 cp0, .agg #[.string a1.f0, .int .i64 a1.f1, .int .i64 a1.f2, .int .i64 a1.f3, .int .i64 a1.f4, .slice Ap1 np1 cp1, .string a1.f6]] w (fun e w' => ∃ v0_ : Value, e = .returned (.tuple #[.agg #[.string r1.f0, .int .i64 r1.f1, .int .i64 r1.f2, .int .i64 r1.f3, .int .i64 r1.f4, v0_, .string r1.f6], .bool r2]) ∧ Hp noFP w w' [.own (Zd.slice 119 q119) r1.f5 [v0_]]) := by
 obtain rfl := C_len gp0
 obtain rfl := C_len gp1
 have HS := Hp.start w
 have H := Aside0.mk h
 clear h
 unfold impl_DeltaOf.f at H
 go_enter Try.func58, Try.ntmps58
 obtain ⟨t5, ht5, H⟩ := zbind H
 obtain ⟨rfl, rfl⟩ := zsome2 H
 go_wp2_with (first | ((with_reducible refine gate_dst (N := 3) rfl ?_); refine ev_box rfl HS (by first | (go_simp; done) | (go_simp; rfl)) rfl ?_; clear HS; (try clear F); intro g3 w3 HS; have F := HS.boxes; simp only [boxFacts, wrt, clr0, clr1, List.cons_append, List.nil_append, List.append_nil, List.set_cons_zero, List.set_cons_succ, and_true] at F) | ((with_reducible refine gate_dst (N := 4) rfl ?_); refine ev_box rfl HS (by first | (go_simp; done) | (go_simp; rfl)) rfl ?_; clear HS; (try clear F); intro g4 w4 HS; have F := HS.boxes; simp only [boxFacts, wrt, clr0, clr1, List.cons_append, List.nil_append, List.append_nil, List.set_cons_zero, List.set_cons_succ, and_true] at F) | ((with_reducible refine gate_dst (N := 8) rfl ?_); refine ev_call rfl Try.func101 (by kernel_rfl) rfl #[.slice Ap0 a0.length cp0, .func (.func 106) #[] #[.pointer (some ⟨g3, 0, none⟩)]] rfl (by simp only [List.map_toArray, List.map_cons, List.map_nil]; rfl) ?_; refine (impl_greatest_1.calls ht5.out (HS.ro gp0) lp0 (HS.ro gp1) lp1 (HS.cellAt 0 rfl (j := 0) rfl) (HS.cellAt 0 rfl (j := 1) rfl) (HS.cellAt 0 rfl (j := 2) rfl) (HS.cellAt 0 rfl (j := 3) rfl) (HS.cellAt 0 rfl (j := 4) rfl) (HS.cellAt 0 rfl (j := 5) rfl) (HS.cellAt 0 rfl (j := 6) rfl)).mono ?_; rintro _ wt5 ⟨v6, rfl, HQ⟩; refine ⟨_, rfl, ?_⟩; replace HS := HS.call HQ; clear HQ; (try clear F); obtain ⟨B6, d6, rfl, m6⟩ := HS.form 2 rfl; have F := HS.boxes; simp only [boxFacts, wrt, clr0, clr1, List.cons_append, List.nil_append, List.append_nil, List.set_cons_zero, List.set_cons_succ, and_true] at F) | ((with_reducible refine gate_store (p := 4) rfl ?_); refine ev_store rfl 1 0 HS (seg := [.string t5.1.f0, .int .i64 t5.1.f1, .int .i64 t5.1.f2, .int .i64 t5.1.f3, .int .i64 t5.1.f4, .slice B6 t5.1.f5.length d6, .string t5.1.f6]) rfl rfl rfl rfl rfl rfl (by kernel_rfl) (by simp [wrt]) (by simp [Value.oneCell']) ?_; clear HS; (try clear F); intro w8 HS; have F := HS.boxes; simp only [boxFacts, wrt, clr0, clr1, List.cons_append, List.nil_append, List.append_nil, List.set_cons_zero, List.set_cons_succ, and_true] at F))
 exact bodyPost_ret (results_list (rs := [.cell 4 54, .tmp 5]) rfl (by simp) (.cell _ _ _ _ _ rfl (HS.boxAt (i := 1) rfl) Try.underlying54 rfl (by kernel_rfl) (.tmp .nil))) rfl ⟨_, rfl, HS.pick [2] (by decide) (by rfl)⟩
end Go.Proofs.Ytfeebnbookfpmaa.F

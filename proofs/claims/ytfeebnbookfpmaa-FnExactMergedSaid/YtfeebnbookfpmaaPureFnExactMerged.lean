/- The statement FnExactMerged, as numbers and lists: the program's Merged and the reference's agree. -/
import Derived.Test.YtfeebnbookfpmaaFamFnExactMerged
namespace Go.Proofs.Ytfeebnbookfpmaa.PureFnExactMerged
open Go.RowKit Go.Proofs.YtfeebnbookfpmaaW.PrintWords Go.Proofs.YtfeebnbookfpmaaW.PrintLast Go.Proofs.Ytfeebnbookfpmaa.ZOpen Go.Proofs.Ytfeebnbookfpmaa.Z Go.Proofs.Ytfeebnbookfpmaa.F
open Go.Proofs.Ytfeebnbookfpmaa.SaidFnExactMerged Go.Proofs.Ytfeebnbookfpmaa.ZP Go.Proofs.Ytfeebnbookfpmaa.FamFnExactMerged

theorem merged (p : S96) (a : S43) (n : Int) (h : sm96 p) : ∃ r, spec_Merged.f p a n = some r ∧ impl_Merged.f p a n = some r ∧ sm34 r := by
  have h1 := h.2.2.1.2.1
  have h2 := h1.1
  have c : (0 + p.f2.f1.length ≤ 17592186044416) = True := eq_true (by omega)
  unfold spec_Merged.f impl_Merged.f
  simp only [c, if_true, lets, List.nil_append]
  by_cases c2 : a.f4 = 0
  · simp only [c2, if_true]
    exact ⟨_, rfl, rfl, trivial, h1, trivial, trivial, trivial, trivial⟩
  · simp only [c2, if_false]
    exact ⟨_, rfl, rfl, trivial, h1, trivial, trivial, trivial, trivial⟩

theorem pure : Pure := by
  intro p a n hp ha hn
  obtain ⟨k, hk⟩ : ∃ k, k = 4194304 := ⟨_, rfl⟩
  refine ⟨k, ?_⟩
  unfold laws_FnExactMerged.f
  obtain ⟨n1, e1, b1, g1⟩ := sz_59 p hp 1048576 (by omega) (by omega) k (by omega)
  rw [e1, Option.bind_some]
  by_cases c : n1 < 0
  · rw [if_pos c]
  rw [if_neg c]
  obtain ⟨n2, e2, b2, g2⟩ := sz_24 a ha n1 (by omega) (by omega) k (by omega)
  rw [e2, Option.bind_some]
  by_cases c2 : n2 < 0
  · rw [if_pos c2]
  rw [if_neg c2]
  have hs := g1 (by omega)
  have hs2 := g2 (by omega)
  have hc := smcv92 p hs
  have hc2 := smcv40 a hs2
  obtain ⟨r, w1, w2, hr⟩ := merged (cv92 p) (cv40 a) n hc
  obtain ⟨m1, r1, r1', q1, q2, q3, _⟩ := mk_64 _ hc 1 (by omega) (by omega) k (by omega)
  obtain ⟨m3, r3, o1, o2, _, _⟩ := mk_65 _ hc2 m1 (by omega) (by omega) k (by omega)
  obtain ⟨m2, r2, p1, p2, _, p3⟩ := mk_66 r hr 1 (by omega) (by omega) k (by omega)
  simp only [to_61 p hs k (by omega), to_26 a hs2 k (by omega), Option.bind_some, w1, w2, eq_23 r hr k (by omega), eq_63 _ hc k (by omega), eq_28 _ hc2 k (by omega), q1, o1, p1, p3 k (by omega), if_true, show ¬ m3 < 0 by omega, show ¬ m2 < 0 by omega, if_false]
end Go.Proofs.Ytfeebnbookfpmaa.PureFnExactMerged

/- FnExactCertText, as numbers and lists: both letters' texts are the same. -/
import Derived.Test.YtoaoncnbimcdgaaDoorCertTextFnExactCertText
namespace Go.Proofs.YtoaoncnbimcdgaaDoor.PureFnExactCertText
open Go.RowKit Go.Proofs.YtoaoncnbimcdgaaDoorW.PrintWords Go.Proofs.YtoaoncnbimcdgaaDoorW.PrintLast Go.Proofs.YtoaoncnbimcdgaaDoor.ZOpen Go.Proofs.YtoaoncnbimcdgaaDoor.Z Go.Proofs.YtoaoncnbimcdgaaDoor.F
open Go.Proofs.YtoaoncnbimcdgaaDoor.SaidFnExactCertText Go.Proofs.YtoaoncnbimcdgaaDoor.ZP Go.Proofs.YtoaoncnbimcdgaaDoor.FamFnExactCertText Go.Proofs.YtoaoncnbimcdgaaDoor.ItemFnExactCertText Go.Proofs.YtoaoncnbimcdgaaDoor.NameFnExactCertText Go.Proofs.YtoaoncnbimcdgaaDoor.CertOkFnExactCertText Go.Proofs.YtoaoncnbimcdgaaDoor.CertTextFnExactCertText
set_option linter.unusedVariables false
set_option linter.unusedSimpArgs false

theorem pure : Pure := by
  intro a ha
  by_cases hs : sm25 a
  · have hc := smcv25 a hs
    obtain ⟨q, ⟨K1, f⟩, ⟨K2, g⟩, _⟩ := cert_text (cv25 a) hc
    obtain ⟨k, hk⟩ : ∃ k, k = 4194304 + K1 + K2 := ⟨_, rfl⟩
    refine ⟨k, ?_⟩
    have f := f k (by omega)
    have g := g k (by omega)
    simp only at f g
    obtain ⟨n, z1, z2, z3⟩ := sz_8 a ha 1048576 (by omega) (by omega) k (by omega)
    unfold laws_FnExactCertText.f
    rw [z1, Option.bind_some]
    by_cases c : n < 0
    · rw [if_pos c]
    rw [if_neg c]
    simp only [to_10 a hs k (by omega), Option.bind_some, f, g, if_true, eq_12 _ hc k (by omega)]
  · obtain ⟨n, z1, z2, z3⟩ := sz_8 a ha 1048576 (by omega) (by omega) 4194304 (by omega)
    refine ⟨4194304, ?_⟩
    unfold laws_FnExactCertText.f
    rw [z1, Option.bind_some, if_pos (by
      by_cases c : 0 ≤ n
      · exact absurd (z3 c) hs
      · omega)]
end Go.Proofs.YtoaoncnbimcdgaaDoor.PureFnExactCertText

/- FnExactCrlOk, as numbers and lists: both say the same. -/
import Derived.Test.YtnpokacipeobdaaDoorCrlOkFnExactCrlOk
namespace Go.Proofs.YtnpokacipeobdaaDoor.PureFnExactCrlOk
open Go.RowKit Go.Proofs.YtnpokacipeobdaaDoorW.PrintWords Go.Proofs.YtnpokacipeobdaaDoorW.PrintLast Go.Proofs.YtnpokacipeobdaaDoor.ZOpen Go.Proofs.YtnpokacipeobdaaDoor.Z Go.Proofs.YtnpokacipeobdaaDoor.F
open Go.Proofs.YtnpokacipeobdaaDoor.SaidFnExactCrlOk Go.Proofs.YtnpokacipeobdaaDoor.ZP Go.Proofs.YtnpokacipeobdaaDoor.FamFnExactCrlOk Go.Proofs.YtnpokacipeobdaaDoor.ItemFnExactCrlOk Go.Proofs.YtnpokacipeobdaaDoor.NameFnExactCrlOk Go.Proofs.YtnpokacipeobdaaDoor.CrlOkFnExactCrlOk
set_option linter.unusedVariables false
set_option linter.unusedSimpArgs false

theorem pure : Pure := by
  intro a ha
  by_cases hs : sm24 a
  · have hc := smcv24 a hs
    obtain ⟨q, ⟨K1, f⟩, ⟨K2, g⟩⟩ := crl_ok (cv24 a) hc
    obtain ⟨k, hk⟩ : ∃ k, k = 8388608 + K1 + K2 := ⟨_, rfl⟩
    refine ⟨k, ?_⟩
    have f := f k (by omega)
    have g := g k (by omega)
    simp only at f g
    obtain ⟨n, z1, z2, z3⟩ := sz_8 a ha 1048576 (by omega) (by omega) k (by omega)
    unfold laws_FnExactCrlOk.f
    rw [z1, Option.bind_some]
    by_cases c : n < 0
    · rw [if_pos c]
    rw [if_neg c]
    simp only [to_10 a hs k (by omega), Option.bind_some, f, g, if_true, eq_12 _ hc k (by omega)]
  · obtain ⟨n, z1, z2, z3⟩ := sz_8 a ha 1048576 (by omega) (by omega) 8388608 (by omega)
    refine ⟨8388608, ?_⟩
    unfold laws_FnExactCrlOk.f
    rw [z1, Option.bind_some, if_pos (by
      by_cases c : 0 ≤ n
      · exact absurd (z3 c) hs
      · omega)]
end Go.Proofs.YtnpokacipeobdaaDoor.PureFnExactCrlOk

/- FnExactShowReply, as numbers and lists: both say the same. -/
import Derived.Test.YtnpokacipeobdaaDoorShowFnExactShowReply
namespace Go.Proofs.YtnpokacipeobdaaDoor.PureFnExactShowReply
open Go.RowKit Go.Proofs.YtnpokacipeobdaaDoorW.PrintWords Go.Proofs.YtnpokacipeobdaaDoorW.PrintLast Go.Proofs.YtnpokacipeobdaaDoor.ZOpen Go.Proofs.YtnpokacipeobdaaDoor.Z Go.Proofs.YtnpokacipeobdaaDoor.F
open Go.Proofs.YtnpokacipeobdaaDoor.SaidFnExactShowReply Go.Proofs.YtnpokacipeobdaaDoor.ZP Go.Proofs.YtnpokacipeobdaaDoor.FamFnExactShowReply Go.Proofs.YtnpokacipeobdaaDoor.ItemFnExactShowReply Go.Proofs.YtnpokacipeobdaaDoor.DecFnExactShowReply Go.Proofs.YtnpokacipeobdaaDoor.ShowFnExactShowReply
set_option linter.unusedVariables false
set_option linter.unusedSimpArgs false

theorem rng (a : S35) (ha : ok35 a) (hs : sm35 a) : Rng (cv35 a) := by
  refine ⟨ok_range ha.2.1, ok_range ha.2.2.2.2.2.1, (smcv35 a hs).2.2.2.2.2.2.1.1, fun e he => ?_⟩
  obtain ⟨x, hx, rfl⟩ := List.mem_map.1 he
  have hx' : ok112 x := ha.2.2.2.2.2.2.1.2 x hx
  exact ⟨ok_range hx'.1, ok_range hx'.2.1, (hs.2.2.2.2.2.2.1.2 x hx).2.2.1.1⟩
theorem pure : Pure := by
  intro a ha
  by_cases hs : sm35 a
  · have hc := smcv35 a hs
    have hr := rng a ha hs
    refine ⟨8388608, ?_⟩
    have f := show_f (cv35 a) hr 8388608 (by omega)
    have g := show_g (cv35 a) hr 8388608 (by omega)
    obtain ⟨n, z1, z2, z3⟩ := sz_13 a ha 1048576 (by omega) (by omega) 8388608 (by omega)
    unfold laws_FnExactShowReply.f
    rw [z1, Option.bind_some]
    by_cases c : n < 0
    · rw [if_pos c]
    rw [if_neg c]
    simp only [to_15 a hs 8388608 (by omega), Option.bind_some, f, g, if_true, eq_17 _ hc 8388608 (by omega)]
  · obtain ⟨n, z1, z2, z3⟩ := sz_13 a ha 1048576 (by omega) (by omega) 8388608 (by omega)
    refine ⟨8388608, ?_⟩
    unfold laws_FnExactShowReply.f
    rw [z1, Option.bind_some, if_pos (by
      by_cases c : 0 ≤ n
      · exact absurd (z3 c) hs
      · omega)]
end Go.Proofs.YtnpokacipeobdaaDoor.PureFnExactShowReply

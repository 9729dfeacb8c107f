/- FnExactShowClient, as numbers and lists: both say the same. -/
import Derived.Test.YtnpokacipeobdaaDoorClientShowFnExactShowClient
namespace Go.Proofs.YtnpokacipeobdaaDoor.PureFnExactShowClient
open Go.RowKit Go.Proofs.YtnpokacipeobdaaDoorW.PrintWords Go.Proofs.YtnpokacipeobdaaDoorW.PrintLast Go.Proofs.YtnpokacipeobdaaDoor.ZOpen Go.Proofs.YtnpokacipeobdaaDoor.Z Go.Proofs.YtnpokacipeobdaaDoor.F
open Go.Proofs.YtnpokacipeobdaaDoor.SaidFnExactShowClient Go.Proofs.YtnpokacipeobdaaDoor.ZP Go.Proofs.YtnpokacipeobdaaDoor.FamFnExactShowClient Go.Proofs.YtnpokacipeobdaaDoor.ItemFnExactShowClient Go.Proofs.YtnpokacipeobdaaDoor.DecFnExactShowClient Go.Proofs.YtnpokacipeobdaaDoor.ShowFnExactShowClient Go.Proofs.YtnpokacipeobdaaDoor.ClientShowFnExactShowClient
set_option linter.unusedVariables false
set_option linter.unusedSimpArgs false

theorem rng (a : S35) (ha : ok35 a) (hs : sm35 a) : Rng (cv35 a) := by
  refine ⟨ok_range ha.2.1, ok_range ha.2.2.2.2.2.1, (smcv35 a hs).2.2.2.2.2.2.1.1, fun e he => ?_⟩
  obtain ⟨x, hx, rfl⟩ := List.mem_map.1 he
  have hx' : ok112 x := ha.2.2.2.2.2.2.1.2 x hx
  exact ⟨ok_range hx'.1, ok_range hx'.2.1, (hs.2.2.2.2.2.2.1.2 x hx).2.2.1.1⟩
theorem rngc (a : S59) (ha : ok59 a) (hs : sm59 a) : RngC (cv59 a) := by
  refine ⟨(smcv59 a hs).2.2.1.1, (smcv59 a hs).2.2.2.2.1.1, (smcv59 a hs).2.2.2.1.1, fun e he => ?_⟩
  obtain ⟨x, hx, rfl⟩ := List.mem_map.1 he
  have hx' : ok129 x := ha.2.2.2.1.2 x hx
  exact rng x.f1 hx'.2 (hs.2.2.2.1.2 x hx).2.1
theorem pure : Pure := by
  intro a ha
  by_cases hs : sm59 a
  · have hc := smcv59 a hs
    have hr := rngc a ha hs
    refine ⟨8388608, ?_⟩
    have f := client_f (cv59 a) hr 8388608 (by omega)
    have g := client_g (cv59 a) hr 8388608 (by omega)
    obtain ⟨n, z1, z2, z3⟩ := sz_25 a ha 1048576 (by omega) (by omega) 8388608 (by omega)
    unfold laws_FnExactShowClient.f
    rw [z1, Option.bind_some]
    by_cases c : n < 0
    · rw [if_pos c]
    rw [if_neg c]
    simp only [to_27 a hs 8388608 (by omega), Option.bind_some, f, g, if_true, eq_29 _ hc 8388608 (by omega)]
  · obtain ⟨n, z1, z2, z3⟩ := sz_25 a ha 1048576 (by omega) (by omega) 8388608 (by omega)
    refine ⟨8388608, ?_⟩
    unfold laws_FnExactShowClient.f
    rw [z1, Option.bind_some, if_pos (by
      by_cases c : 0 ≤ n
      · exact absurd (z3 c) hs
      · omega)]
end Go.Proofs.YtnpokacipeobdaaDoor.PureFnExactShowClient

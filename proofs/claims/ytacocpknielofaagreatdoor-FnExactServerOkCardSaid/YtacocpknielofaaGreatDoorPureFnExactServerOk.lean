/- FnExactServerOk, as numbers and lists: both say the same. -/
import Derived.Test.YtacocpknielofaaGreatDoorServerFnExactServerOk
namespace Go.Proofs.YtacocpknielofaaGreatDoor.PureFnExactServerOk
open Go.RowKit Go.Proofs.YtacocpknielofaaGreatDoorW.PrintWords Go.Proofs.YtacocpknielofaaGreatDoorW.PrintLast Go.Proofs.YtacocpknielofaaGreatDoor.ZOpen Go.Proofs.YtacocpknielofaaGreatDoor.Z Go.Proofs.YtacocpknielofaaGreatDoor.F
open Go.Proofs.YtacocpknielofaaGreatDoor.SaidFnExactServerOk Go.Proofs.YtacocpknielofaaGreatDoor.ZP Go.Proofs.YtacocpknielofaaGreatDoor.FamFnExactServerOk Go.Proofs.YtacocpknielofaaGreatDoor.ItemFnExactServerOk Go.Proofs.YtacocpknielofaaGreatDoor.ServerFnExactServerOk
set_option linter.unusedVariables false
set_option linter.unusedSimpArgs false

theorem pure : Pure := by
  intro a ha
  by_cases hs : sm40 a
  · have hc := smcv40 a hs
    obtain ⟨q, ⟨K1, f⟩, ⟨K2, g⟩⟩ := server_ok (cv40 a) hc
    obtain ⟨k, hk⟩ : ∃ k, k = 8388608 + K1 + K2 := ⟨_, rfl⟩
    refine ⟨k, ?_⟩
    have f := f k (by omega)
    have g := g k (by omega)
    simp only at f g
    obtain ⟨n, z1, z2, z3⟩ := sz_16 a ha 1048576 (by omega) (by omega) k (by omega)
    unfold laws_FnExactServerOk.f
    rw [z1, Option.bind_some]
    by_cases c : n < 0
    · rw [if_pos c]
    rw [if_neg c]
    simp only [to_18 a hs k (by omega), Option.bind_some, f, g, if_true, eq_20 _ hc k (by omega)]
  · obtain ⟨n, z1, z2, z3⟩ := sz_16 a ha 1048576 (by omega) (by omega) 8388608 (by omega)
    refine ⟨8388608, ?_⟩
    unfold laws_FnExactServerOk.f
    rw [z1, Option.bind_some, if_pos (by
      by_cases c : 0 ≤ n
      · exact absurd (z3 c) hs
      · omega)]
end Go.Proofs.YtacocpknielofaaGreatDoor.PureFnExactServerOk

/- The statement FnExactClientNew, as numbers and lists: the program's ClientNew and the reference's agree. -/
import Derived.Test.YtdcjcanobiohnaaFamFnExactClientNew
namespace Go.Proofs.Ytdcjcanobiohnaa.PureFnExactClientNew
open Go.RowKit Go.Proofs.YtdcjcanobiohnaaW.PrintWords Go.Proofs.YtdcjcanobiohnaaW.PrintLast Go.Proofs.Ytdcjcanobiohnaa.ZOpen Go.Proofs.Ytdcjcanobiohnaa.Z Go.Proofs.Ytdcjcanobiohnaa.F
open Go.Proofs.Ytdcjcanobiohnaa.SaidFnExactClientNew Go.Proofs.Ytdcjcanobiohnaa.ZP Go.Proofs.Ytdcjcanobiohnaa.FamFnExactClientNew

theorem pure : Pure := by
  intro a ha
  obtain ⟨k, hk⟩ : ∃ k, k = 4194304 := ⟨_, rfl⟩
  refine ⟨k, ?_⟩
  unfold laws_FnExactClientNew.f
  by_cases c : 1048576 < (a.size : Int)
  · rw [if_pos c]
  rw [if_neg c]
  obtain ⟨r, w1, w2, hr⟩ : ∃ r, spec_ClientNew.f a = some r ∧ impl_ClientNew.f a = some r ∧ sm37 r := by
    refine ⟨_, rfl, rfl, ?_⟩
    have h0 : a.size ≤ 1048576 := by omega
    exact ⟨h0, trivial, ⟨Nat.zero_le _, fun e he => by cases he⟩, ⟨Nat.zero_le _, fun e he => by cases he⟩, ⟨Nat.zero_le _, fun e he => by cases he⟩, trivial⟩
  obtain ⟨m2, r0, r1, r2, p1, p2, _, p3⟩ := mk_22 r hr 1 (by omega) (by omega) k (by omega)
  simp only [w1, w2, Option.bind_some, eq_21 r hr k (by omega), p1, p3 k (by omega), if_true, show ¬ m2 < 0 by omega, if_false]
end Go.Proofs.Ytdcjcanobiohnaa.PureFnExactClientNew

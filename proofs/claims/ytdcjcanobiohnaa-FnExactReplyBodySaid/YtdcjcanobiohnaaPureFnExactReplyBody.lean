/- The statement FnExactReplyBody, as numbers and lists: the program's ReplyBody and the reference's agree. -/
import Derived.Test.YtdcjcanobiohnaaReplyFnExactReplyBody
namespace Go.Proofs.Ytdcjcanobiohnaa.PureFnExactReplyBody
open Go.RowKit Go.Proofs.YtdcjcanobiohnaaW.PrintWords Go.Proofs.YtdcjcanobiohnaaW.PrintLast Go.Proofs.Ytdcjcanobiohnaa.ZOpen Go.Proofs.Ytdcjcanobiohnaa.Z Go.Proofs.Ytdcjcanobiohnaa.F
open Go.Proofs.Ytdcjcanobiohnaa.SaidFnExactReplyBody Go.Proofs.Ytdcjcanobiohnaa.ZP Go.Proofs.Ytdcjcanobiohnaa.FamFnExactReplyBody Go.Proofs.Ytdcjcanobiohnaa.ItemFnExactReplyBody Go.Proofs.Ytdcjcanobiohnaa.ReplyFnExactReplyBody

theorem weigh (a : S44) (h : wt44 a ≤ 1048576) : ((cv44 a).f6.map wa).sum ≤ 1048576 := by
  have e : (cv44 a).f6.map wa = a.f6.map wt169 := by
    show (a.f6.map cv169).map wa = _
    rw [List.map_map]
    rfl
  rw [e]
  unfold wt44 at h
  omega
theorem pure : Pure := by
  intro a ha
  by_cases hs : sm44 a ∧ wt44 a ≤ 1048576
  · have hc := smcv44 a hs.1
    obtain ⟨it, ⟨K1, c1⟩, ⟨K2, c2⟩, hz⟩ := reply (cv44 a) hc (weigh a hs.2)
    obtain ⟨r, ⟨K3, r1⟩, ⟨K4, r2⟩⟩ := item_text it (by omega)
    obtain ⟨k, hk⟩ : ∃ k, k = 8388608 + K1 + K2 + K3 + K4 := ⟨_, rfl⟩
    refine ⟨k, ?_⟩
    obtain ⟨n, z1, z2, z3⟩ := sz_24 a ha 1048576 (by omega) (by omega) k (by omega)
    unfold laws_FnExactReplyBody.f
    rw [z1, Option.bind_some]
    by_cases c : n < 0
    · rw [if_pos c]
    rw [if_neg c]
    have q1 : spec_ReplyBody.f k (cv44 a) = some r.1 := by
      have c1 := c1 k (by omega)
      have r1 := r1 k (by omega)
      unfold spec_ReplyBody.f
      simp only [c1, r1, Option.bind_some]
    have q2 : impl_ReplyBody.f k (cv44 a) = some r.1 := by
      have c2 := c2 k (by omega)
      have r2 := r2 k (by omega)
      unfold impl_ReplyBody.f
      simp only [c2, r2, Option.bind_some]
    simp only [to_26 a hs.1 k (by omega), Option.bind_some, q1, q2, if_true, eq_28 _ hc k (by omega)]
  · obtain ⟨n, z1, z2, z3⟩ := szw_24 a ha 1048576 (by omega) (by omega) 8388608 (by omega)
    refine ⟨8388608, ?_⟩
    unfold laws_FnExactReplyBody.f
    rw [z1, Option.bind_some, if_pos (by
      by_cases c : 0 ≤ n
      · have h := z3 c
        exact absurd ⟨h.1, by omega⟩ hs
      · omega)]
end Go.Proofs.Ytdcjcanobiohnaa.PureFnExactReplyBody

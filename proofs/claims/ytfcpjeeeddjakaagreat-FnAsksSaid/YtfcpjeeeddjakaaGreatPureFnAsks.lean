/- FnAsks, as numbers and lists: a question that is drawn, and a text that is drawn. -/
import Derived.Test.YtfcpjeeeddjakaaGreatAskDrawFnAsks
namespace Go.Proofs.YtfcpjeeeddjakaaGreat.PureFnAsks
open Go.RowKit YtfcpjeeeddjakaaGreatW.PrintWords YtfcpjeeeddjakaaGreatW.PrintLast ZOpen Z F
open SaidFnAsks ZP ItemFnAsks CertSpecFnAsks DrawFnAsks AskFnAsks RoundFnAsks AskDrawFnAsks
set_option linter.unusedVariables false
set_option linter.unusedSimpArgs false
set_option maxHeartbeats 1000000
theorem same_texts (l : List ByteArray) (hl : l.length ≤ 1048576) : ∀ (m i : Nat), l.length - i = m → i ≤ l.length → Evt (fun k => laws_sameTexts.l0 k (i : Int) l l) true
  | 0, i, hm, hi => Evt.succ (.of fun k => by rw [laws_sameTexts.l0, if_neg (by omega)])
  | m + 1, i, hm, hi => by
    refine Evt.succ ((same_texts l hl m (i + 1) (by omega) (by omega)).eq fun k => ?_)
    rw [laws_sameTexts.l0, if_pos (by omega), if_pos (by omega), if_pos (by omega), if_pos (by omega), if_pos rfl, ws (by omega)]
theorem same_ask (a : S26) (hl : a.f0.length ≤ 1048576) : Evt (fun k => laws_sameAsk.f k a a) true := by
  have h : Evt (fun k => laws_sameTexts.f k a.f0 a.f0) true := (same_texts a.f0 hl _ 0 rfl (Nat.zero_le _)).eq fun k => by rw [laws_sameTexts.f, if_pos rfl]; rfl
  unfold laws_sameAsk.f
  refine Evt.bind h ?_
  simp only [if_true]
  exact .of fun k => by simp
theorem pure : Pure := by
  intro code _
  have key : ∃ r : Bool, Evt (fun k => laws_FnAsks.f k code) r ∧ r = true := by
    by_cases hb : 1048576 < (code.length : Int)
    · refine ⟨true, .of fun k => ?_, rfl⟩
      rw [laws_FnAsks.f, laws_big.f, Option.bind_some, if_pos (decide_eq_true hb)]
    · obtain ⟨a, a1, a2⟩ := draw_ask code (by omega)
      obtain ⟨q, q1, q2, q3⟩ := ask_text a a2.1
      obtain ⟨x, x1, x2, x3⟩ := main q.1
      obtain ⟨u, u1, u2⟩ := draw_read code (by omega)
      obtain ⟨y, y1, y2, y3⟩ := main u
      obtain ⟨z, z1, z2, z3⟩ := ask_text y.1 y3.1
      obtain ⟨v, v1, v2⟩ := agrees a a2.1.1
      have hround : q.2 = true → x = (a, true) := fun h => Evt.uniq x1 (round a2 q1 h)
      have hback : y.2 = true → z = (u, true) := fun h => by
        refine Evt.uniq z1 (back ?_)
        rw [← h]
        exact y1
      have hend : ∀ k : Nat, (if y.2 = y.2 then (if y.2 = true then (some (z.1.toList == u.toList)) else (some true)) else (some false)) = some true := by
        intro k
        rw [if_pos rfl]
        by_cases h : y.2 = true
        · rw [if_pos h, hback h]
          simp
        · rw [if_neg h]
      have hs := same_ask a a2.1.1
      refine ⟨true, ?_, rfl⟩
      have hlb : laws_big.f code = some false := by rw [laws_big.f, decide_eq_false hb]
      unfold laws_FnAsks.f
      simp only [hlb, Option.bind_some, Bool.false_eq_true, if_false]
      refine Evt.bind a1 ?_
      refine Evt.bind q2 ?_
      refine Evt.bind q1 ?_
      refine Evt.bind x2 ?_
      refine Evt.bind u1 ?_
      refine Evt.bind y2 ?_
      refine Evt.bind y1 ?_
      refine Evt.bind z2 ?_
      simp only [if_true]
      refine Evt.bind v2 ?_
      refine Evt.bind v1 ?_
      simp only [if_true]
      by_cases h : q.2 = true
      · simp only [h, if_true, hround h]
        refine Evt.bind hs ?_
        simp only [if_true]
        exact .of fun k => by have := hend k; rwa [if_pos rfl] at this
      · simp only [h, if_false, Bool.false_eq_true]
        exact .of fun k => by have := hend k; rwa [if_pos rfl] at this
  obtain ⟨r, ⟨K, h⟩, rfl⟩ := key
  exact ⟨K, h K (Nat.le_refl _)⟩
end Go.Proofs.YtfcpjeeeddjakaaGreat.PureFnAsks

/- FnExactSaidBy, as numbers and lists: both say alike whether each reply was told. -/
import Derived.Test.YtfiifjlapaefaaaGreatReplyFnExactSaidBy
import Derived.Test.YtfiifjlapaefaaaGreatHasFnExactSaidBy
namespace Go.Proofs.YtfiifjlapaefaaaGreat.PureFnExactSaidBy
open Go.RowKit Go.Proofs.YtfiifjlapaefaaaGreatW.PrintWords Go.Proofs.YtfiifjlapaefaaaGreatW.PrintLast Go.Proofs.YtfiifjlapaefaaaGreat.ZOpen Go.Proofs.YtfiifjlapaefaaaGreat.Z Go.Proofs.YtfiifjlapaefaaaGreat.F
open Go.Proofs.YtfiifjlapaefaaaGreat.SaidFnExactSaidBy Go.Proofs.YtfiifjlapaefaaaGreat.ZP Go.Proofs.YtfiifjlapaefaaaGreat.FamFnExactSaidBy
open Go.Proofs.YtfiifjlapaefaaaGreat.ItemFnExactSaidBy (sum_mem)
open Go.Proofs.YtfiifjlapaefaaaGreat.ReplyFnExactSaidBy (wa reply_text uni)
open Go.Proofs.YtfiifjlapaefaaaGreat.HasFnExactSaidBy (has_f has_g wn)
set_option linter.unusedVariables false
set_option linter.unusedSimpArgs false

theorem rdg (x : List S76) (i : Nat) (h : i < x.length) : rd_T76 x (i : Int) = x[i] := by simp [rd_T76, h]
theorem eta_ (r : S74) : (⟨r.f0, r.f1, r.f2, r.f3, r.f4, r.f5, r.f6, r.f7⟩ : S74) = r := rfl
theorem weigh (a : S150) (h : wt150 a ≤ 1048576) : ((cv150 a).f6.map wa).sum ≤ 1048576 := by
  have e : (cv150 a).f6.map wa = a.f6.map wt220 := by
    show (a.f6.map cv220).map wa = _
    rw [List.map_map]
    rfl
  rw [e]
  unfold wt150 at h
  omega
theorem loops (w : S59) (hl : w.f1.f3.length ≤ 1048576) (ht : w.f7.length ≤ 1048576) (K : Nat) (hK : ∀ k, K ≤ k → ∀ e ∈ w.f1.f3, ∃ q, spec_ReplyText.f k e.f1 = some q ∧ impl_ReplyText.f k e.f1 = some q) :
    ∀ (m i k : Nat), w.f1.f3.length - i = m → i ≤ w.f1.f3.length → K + 2000000 + m < k → ∃ b, spec_SaidBy.l0 k (i : Int) w = some b ∧ impl_SaidBy.l0 k (i : Int) w = some b := by
  intro m
  induction m with
  | zero =>
    intro i k hm hi hk
    obtain ⟨k, rfl⟩ : ∃ q, k = q + 1 := ⟨k - 1, by omega⟩
    obtain rfl : i = w.f1.f3.length := by omega
    exact ⟨true, by rw [spec_SaidBy.l0, if_neg (by omega)], by rw [impl_SaidBy.l0, if_neg (by omega)]⟩
  | succ m ih =>
    intro i k hm hi hk
    obtain ⟨k, rfl⟩ : ∃ q, k = q + 1 := ⟨k - 1, by omega⟩
    have hil : i < w.f1.f3.length := by omega
    obtain ⟨q, q1, q2⟩ := hK k (by omega) _ (List.getElem_mem hil)
    obtain ⟨b, b1, b2⟩ := ih (i + 1) k (by omega) (by omega) (by omega)
    rw [spec_SaidBy.l0, if_pos (by omega), if_pos (by omega), if_pos (by omega), impl_SaidBy.l0, if_pos (by omega), if_pos (by omega), if_pos (by omega), rdg _ i hil, eta_, q1, q2, Option.bind_some, Option.bind_some, has_f w.f7 q.1 (by omega) k (by omega), has_g w.f7 q.1 (by omega) k (by omega), wn i (by omega), b1, b2]
    refine ⟨if q.2 = true then (if q.1 ∈ w.f7 then b else false) else false, ?_, ?_⟩ <;> (by_cases c : q.2 = true <;> by_cases d : q.1 ∈ w.f7 <;> simp [c, d])
theorem pure : Pure := by
  intro a ha
  by_cases hs : sm40 a ∧ wt40 a ≤ 1048576
  · have hc := smcv40 a hs.1
    obtain ⟨K, hK⟩ := uni (fun (e : S76) k => ∃ q, spec_ReplyText.f k e.f1 = some q ∧ impl_ReplyText.f k e.f1 = some q) (cv40 a).f1.f3 (fun e he => by
      refine reply_text e.f1 ((hc.2.1.2.2.2.1.2 e he).2.1) ?_
      obtain ⟨x, hx, rfl⟩ := List.mem_map.1 he
      have h1 : wt152 x ≤ (a.f1.f3.map wt152).sum := sum_mem (List.mem_map_of_mem (f := wt152) hx)
      refine weigh x.f1 ?_
      have h2 := hs.2
      have e1 : wt152 x = wt150 x.f1 := rfl
      unfold wt40 wt35 at h2
      omega)
    obtain ⟨k, hk⟩ : ∃ k, k = 8388608 + K := ⟨_, rfl⟩
    refine ⟨k, ?_⟩
    obtain ⟨b, b1, b2⟩ := loops (cv40 a) hc.2.1.2.2.2.1.1 hc.2.2.2.2.2.2.2.1.1 K hK _ 0 k rfl (Nat.zero_le _) (by have := hc.2.1.2.2.2.1.1; omega)
    have b1 : spec_SaidBy.f k (cv40 a) = some b := b1
    have b2 : impl_SaidBy.f k (cv40 a) = some b := b2
    obtain ⟨n, z1, z2, z3⟩ := sz_4 a ha 1048576 (by omega) (by omega) k (by omega)
    unfold laws_FnExactSaidBy.f
    rw [z1, Option.bind_some]
    by_cases c : n < 0
    · rw [if_pos c]
    rw [if_neg c]
    simp only [to_6 a hs.1 k (by omega), Option.bind_some, b1, b2, if_true, eq_8 _ hc k (by omega)]
  · obtain ⟨n, z1, z2, z3⟩ := szw_4 a ha 1048576 (by omega) (by omega) 8388608 (by omega)
    refine ⟨8388608, ?_⟩
    unfold laws_FnExactSaidBy.f
    rw [z1, Option.bind_some, if_pos (by
      by_cases c : 0 ≤ n
      · have h := z3 c
        exact absurd ⟨h.1, by omega⟩ hs
      · omega)]
end Go.Proofs.YtfiifjlapaefaaaGreat.PureFnExactSaidBy

/- The statement FnExactListed, as numbers and lists: the program's Listed and the reference's run the same loop. -/
import Derived.Test.YtfeebnbookfpmaaSaidFnExactListed
namespace Go.Proofs.Ytfeebnbookfpmaa.PureFnExactListed
open Go.RowKit Go.Proofs.YtfeebnbookfpmaaW.PrintWords Go.Proofs.YtfeebnbookfpmaaW.PrintLast Go.Proofs.Ytfeebnbookfpmaa.ZOpen Go.Proofs.Ytfeebnbookfpmaa.PFnExactListed
open Go.Proofs.Ytfeebnbookfpmaa.SaidFnExactListed

theorem w64 {n : Int} (h0 : -4611686018427387904 ≤ n) (h1 : n ≤ 4611686018427387904) : wrap64 n = n := by unfold wrap64; omega

theorem rep_len {α : Type} (n : Nat) (x : α) : (List.replicate n x).length = n := List.length_replicate

theorem same_l (a b c d e g f : _) (x : List S119) : ∀ k (i : Int), spec_Listed.l0 k a i b c d e f x g = impl_Listed.l0 k a x (x.length : Int) i
  | 0, _ => rfl
  | k + 1, i => by
    unfold spec_Listed.l0 impl_Listed.l0
    simp only [same_l a b c d e g f x k]
    by_cases c1 : i < (x.length : Int)
    · simp only [if_pos c1]
    · simp only [if_neg c1]

theorem ends (a : Int) (x : List S119) (hn : x.length ≤ 1048576) : ∀ k (i : Int), 0 ≤ i → ((x.length : Int) - i).toNat < k → ∃ b, impl_Listed.l0 k a x (x.length : Int) i = some b
  | 0, _, _, h => absurd h (Nat.not_lt_zero _)
  | k + 1, i, h0, h => by
    unfold impl_Listed.l0
    by_cases c1 : i < (x.length : Int)
    · have e1 : wrap64 (i + 1) = i + 1 := w64 (by omega) (by omega)
      have ih := ends a x hn k (i + 1) (by omega) (by omega)
      simp only [if_pos c1, if_pos h0, e1]
      split
      · exact ⟨_, rfl⟩
      · exact ih
    · simp only [if_neg c1]
      exact ⟨_, rfl⟩

def cv (x : S152) : S119 := ⟨x.f0, x.f1⟩

theorem set_map (x : List S152) (i : Nat) (h : i < x.length) (y : List S119) (hy : y.length = x.length) (e : y.take i = (x.map cv).take i) : (y.set i (cv (x.getD i z152))).take (i + 1) = (x.map cv).take (i + 1) := by
  rw [List.take_add_one, List.take_add_one, List.take_set_of_le (Nat.le_refl _), e]
  simp [h, hy]

theorem copies (x : List S152) (hn : x.length ≤ 1048576) : ∀ k (y : List S119) (i : Int), 0 ≤ i → i ≤ x.length → y.length = x.length → y.take i.toNat = (x.map cv).take i.toNat → ((x.length : Int) - i).toNat < k → laws_toRevS.l0 k x y i = some (x.map cv)
  | 0, _, _, _, _, _, _, h => absurd h (Nat.not_lt_zero _)
  | k + 1, y, i, h0, h1, hy, e, h => by
    unfold laws_toRevS.l0 laws_toRev.f
    by_cases c1 : i < (x.length : Int)
    · have e1 : wrap64 (i + 1) = i + 1 := w64 (by omega) (by omega)
      rw [if_pos c1, if_pos h0, e1]
      simp only [Option.bind_some]
      rw [if_pos (by omega)]
      refine copies x hn k _ (i + 1) (by omega) (by omega) (by rw [List.length_set]; exact hy) ?_ (by omega)
      have : (i + 1).toNat = i.toNat + 1 := by omega
      rw [this]
      exact set_map x i.toNat (by omega) y hy e
    · rw [if_neg c1]
      have : i.toNat = x.length := by omega
      rw [this, ← List.length_map (f := cv), List.take_length, List.length_map, ← hy, List.take_length] at e
      rw [e]

theorem copy (x : List S152) (hn : x.length ≤ 1048576) (k : Nat) (hk : x.length < k) : laws_toRevS.f k x = some (x.map cv) := by
  unfold laws_toRevS.f
  rw [if_pos (by omega), if_pos (by omega)]
  exact copies x hn k _ 0 (by omega) (by omega) (by rw [rep_len]; omega) rfl (by omega)

theorem eqs (x : List S119) (hn : x.length ≤ 1048576) : ∀ k (i : Int), 0 ≤ i → ((x.length : Int) - i).toNat < k → laws_eqRevS.l0 k x x i = some true
  | 0, _, _, h => absurd h (Nat.not_lt_zero _)
  | k + 1, i, h0, h => by
    unfold laws_eqRevS.l0 laws_eqRev.f
    by_cases c1 : i < (x.length : Int)
    · have e1 : wrap64 (i + 1) = i + 1 := w64 (by omega) (by omega)
      rw [if_pos c1, if_pos h0, if_pos c1, if_pos rfl, if_pos rfl, e1]
      simp only [Option.bind_some]
      rw [if_pos trivial]
      exact eqs x hn k (i + 1) (by omega) (by omega)
    · rw [if_neg c1]

theorem eq (x : List S119) (hn : x.length ≤ 1048576) (k : Nat) (hk : x.length < k) : laws_eqRevS.f k x x = some true := by
  unfold laws_eqRevS.f
  rw [if_pos rfl]
  exact eqs x hn k 0 (by omega) (by omega)

theorem pure : Pure := by
  intro a b c d e l f g ha hb hc hd he hl hf hg
  have hl1 : l.length ≤ maxLen := hl.1
  have hm : maxLen = 9223372036854775807 := rfl
  have hz1 : a.size ≤ maxLen := ha
  have hz2 : f.size ≤ maxLen := hf
  refine ⟨l.length + 1, ?_⟩
  have hs : laws_szCrl.f a b c d e l f 1048576 = some (-1) ∨ (l.length ≤ 1048576 ∧ ∃ n, ¬ n < 0 ∧ laws_szCrl.f a b c d e l f 1048576 = some n) := by
    unfold laws_szCrl.f laws_szRevS.f
    have e1 : wrap64 (1048576 - (a.size : Int)) = 1048576 - (a.size : Int) := by unfold wrap64; omega
    rw [e1]
    split
    · exact .inl rfl
    · have e2 : wrap64 (1048576 - (a.size : Int) - (l.length : Int)) = 1048576 - (a.size : Int) - (l.length : Int) := by unfold wrap64; omega
      rw [e2]
      split
      · exact .inl rfl
      · simp only [Option.bind_some]
        rw [if_neg (by omega)]
        split
        · exact .inl rfl
        · exact .inr ⟨by omega, _, by assumption, rfl⟩
  unfold laws_FnExactListed.f
  rcases hs with hs | ⟨hn, n, h0, hs⟩
  · simp only [hs, Option.bind_some]
    rfl
  · simp only [hs, Option.bind_some, if_neg h0]
    have hlm : (l.map cv).length = l.length := List.length_map _
    obtain ⟨v, hv⟩ := ends g (l.map cv) (by omega) (l.length + 1) 0 (by omega) (by omega)
    rw [hlm] at hv
    unfold laws_toCrl.f spec_Listed.f impl_Listed.f laws_eqCrl.f
    simp [copy l hn _ (Nat.lt_succ_self _), same_l, hv, eq (l.map cv) (by omega) (l.length + 1) (by omega)]
end Go.Proofs.Ytfeebnbookfpmaa.PureFnExactListed

/- The statement FnExactRulesOk, as numbers and lists: the program's RulesOk and the reference's run the same loop. -/
import Derived.Test.YtfeebnbookfpmaaSaidFnExactRulesOk
namespace Go.Proofs.Ytfeebnbookfpmaa.PureFnExactRulesOk
open Go.RowKit Go.Proofs.YtfeebnbookfpmaaW.PrintWords Go.Proofs.YtfeebnbookfpmaaW.PrintLast Go.Proofs.Ytfeebnbookfpmaa.ZOpen Go.Proofs.Ytfeebnbookfpmaa.PFnExactRulesOk
open Go.Proofs.Ytfeebnbookfpmaa.SaidFnExactRulesOk

theorem w64 {n : Int} (h0 : -4611686018427387904 ≤ n) (h1 : n ≤ 4611686018427387904) : wrap64 n = n := by unfold wrap64; omega

theorem rep_len {α : Type} (n : Nat) (x : α) : (List.replicate n x).length = n := List.length_replicate

/-- The two loops are one. -/
theorem same_l (x : List Int) : ∀ k (i : Int), spec_PoliciesOk.l0 k x i = impl_PoliciesOk.l0 k x x (x.length : Int) i
  | 0, _ => rfl
  | k + 1, i => by
    unfold spec_PoliciesOk.l0 impl_PoliciesOk.l0
    simp only [same_l x k]
    by_cases c1 : i < (x.length : Int)
    · simp only [if_pos c1]
      rfl
    · simp only [if_neg c1]

theorem in_f (a b c : Int) : spec_l01In.f a b c = some (decide (b ≤ a ∧ a ≤ c)) := by
  unfold spec_l01In.f
  by_cases h : a ≥ b
  · rw [if_pos h]
    exact congrArg some (decide_eq_decide.2 ⟨fun q => ⟨h, q⟩, fun q => q.2⟩)
  · rw [if_neg h]
    exact congrArg some (decide_eq_false (fun q => h q.1)).symm

theorem in_g (a b c : Int) : impl_within.f a b c = some (decide (b ≤ a ∧ a ≤ c)) := in_f a b c

/-- The loop ends. -/
theorem ends (x : List Int) (hn : x.length ≤ 1048576) : ∀ k (i : Int), 0 ≤ i → ((x.length : Int) - i).toNat < k → ∃ b, spec_PoliciesOk.l0 k x i = some b
  | 0, _, _, h => absurd h (Nat.not_lt_zero _)
  | k + 1, i, h0, h => by
    unfold spec_PoliciesOk.l0
    simp only [in_f, Option.bind_some]
    by_cases c1 : i < (x.length : Int)
    · have e1 : wrap64 (i + 1) = i + 1 := w64 (by omega) (by omega)
      have e2 : wrap64 (i - 1) = i - 1 := w64 (by omega) (by omega)
      have ih := ends x hn k (i + 1) (by omega) (by omega)
      simp only [if_pos c1, if_pos h0, e1, e2]
      split
      · split
        · rename_i h3
          rw [if_pos (by omega), if_pos (by omega)]
          split
          · exact ⟨_, rfl⟩
          · exact ih
        · exact ih
      · exact ⟨_, rfl⟩
    · simp only [if_neg c1]
      exact ⟨_, rfl⟩

theorem set_drop (x : List Int) (i : Nat) (h : i < x.length) (y : List Int) (hy : y.length = x.length) (e : y.take i = x.take i) : (y.set i (x.getD i 0)).take (i + 1) = x.take (i + 1) := by
  rw [List.take_add_one, List.take_add_one, List.take_set_of_le (Nat.le_refl _), e]
  simp [h, hy]

/-- The copy. -/
theorem copies (x : List Int) (hn : x.length ≤ 1048576) : ∀ k (y : List Int) (i : Int), 0 ≤ i → i ≤ x.length → y.length = x.length → y.take i.toNat = x.take i.toNat → ((x.length : Int) - i).toNat < k → laws_toIntS.l0 k x y i = some x
  | 0, _, _, _, _, _, _, h => absurd h (Nat.not_lt_zero _)
  | k + 1, y, i, h0, h1, hy, e, h => by
    unfold laws_toIntS.l0
    by_cases c1 : i < (x.length : Int)
    · have e1 : wrap64 (i + 1) = i + 1 := w64 (by omega) (by omega)
      rw [if_pos c1, if_pos h0, if_pos (by omega), e1]
      refine copies x hn k _ (i + 1) (by omega) (by omega) (by rw [List.length_set]; exact hy) ?_ (by omega)
      have : (i + 1).toNat = i.toNat + 1 := by omega
      rw [this]
      exact set_drop x i.toNat (by omega) y hy e
    · rw [if_neg c1]
      have : i.toNat = x.length := by omega
      rw [this, List.take_length, ← hy, List.take_length] at e
      rw [e]

theorem copy (x : List Int) (hn : x.length ≤ 1048576) (k : Nat) (hk : x.length < k) : laws_toIntS.f k x = some x := by
  unfold laws_toIntS.f
  rw [if_pos (by omega), if_pos (by omega)]
  exact copies x hn k _ 0 (by omega) (by omega) (by rw [rep_len]; omega) rfl (by omega)

theorem eqs (x : List Int) (hn : x.length ≤ 1048576) : ∀ k (i : Int), 0 ≤ i → ((x.length : Int) - i).toNat < k → laws_eqIntS.l0 k x x i = some true
  | 0, _, _, h => absurd h (Nat.not_lt_zero _)
  | k + 1, i, h0, h => by
    unfold laws_eqIntS.l0
    by_cases c1 : i < (x.length : Int)
    · have e1 : wrap64 (i + 1) = i + 1 := w64 (by omega) (by omega)
      rw [if_pos c1, if_pos h0, if_pos c1, if_pos rfl, e1]
      exact eqs x hn k (i + 1) (by omega) (by omega)
    · rw [if_neg c1]

theorem eq (x : List Int) (hn : x.length ≤ 1048576) (k : Nat) (hk : x.length < k) : laws_eqIntS.f k x x = some true := by
  unfold laws_eqIntS.f
  rw [if_pos rfl]
  exact eqs x hn k 0 (by omega) (by omega)

theorem pure : Pure := by
  intro a l b c d ha hl hd
  have hl1 : l.length ≤ maxLen := hl.1
  refine ⟨l.length + 1, ?_⟩
  by_cases hn : l.length ≤ 1048576
  · have hw : wrap64 (1048576 - (l.length : Int)) = 1048576 - (l.length : Int) := w64 (by omega) (by omega)
    unfold laws_FnExactRulesOk.f laws_szRules.f laws_szIntS.f laws_toRules.f
    rw [hw, if_neg (by omega)]
    simp only [copy l hn _ (Nat.lt_succ_self _), Option.bind_some]
    rw [if_neg (by omega)]
    simp only [Option.bind_some]
    rw [if_neg (by omega)]
    have e : ∃ v, spec_RulesOk.f (l.length + 1) a l b c d = some v ∧ impl_RulesOk.f (l.length + 1) a l b c d = some v := by
      obtain ⟨v, hv⟩ := ends l hn (l.length + 1) 0 (by omega) (by omega)
      have hv' := hv
      rw [same_l] at hv'
      unfold spec_RulesOk.f impl_RulesOk.f spec_l09Num.f impl_timeOk.f spec_PoliciesOk.f impl_PoliciesOk.f
      simp only [in_f, in_g, Option.bind_some, hv, hv']
      split
      · split
        · exact ⟨_, rfl, rfl⟩
        · exact ⟨_, rfl, rfl⟩
      · exact ⟨_, rfl, rfl⟩
    obtain ⟨v, e1, e2⟩ := e
    simp only [e1, e2, Option.bind_some, bne_self_eq_false]
    unfold laws_eqRules.f
    simp [eq l hn _ (Nat.lt_succ_self _)]
  · unfold laws_FnExactRulesOk.f laws_szRules.f laws_szIntS.f
    have hw : wrap64 (1048576 - (l.length : Int)) = 1048576 - (l.length : Int) := by have : maxLen = 9223372036854775807 := rfl; unfold wrap64; omega
    rw [hw, if_pos (by omega)]
    simp
end Go.Proofs.Ytfeebnbookfpmaa.PureFnExactRulesOk

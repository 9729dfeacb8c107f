/- The statement FnExactAskOk, as numbers and lists: the program's AskOk and the reference's agree. -/
import Derived.Test.YtfeebnbookfpmaaSaidFnExactAskOk
namespace Go.Proofs.Ytfeebnbookfpmaa.PureFnExactAskOk
open Go.RowKit Go.Proofs.YtfeebnbookfpmaaW.PrintWords Go.Proofs.YtfeebnbookfpmaaW.PrintLast Go.Proofs.Ytfeebnbookfpmaa.ZOpen Go.Proofs.Ytfeebnbookfpmaa.Z Go.Proofs.Ytfeebnbookfpmaa.F
open Go.Proofs.Ytfeebnbookfpmaa.SaidFnExactAskOk

theorem w64 {n : Int} (h0 : -4611686018427387904 ≤ n) (h1 : n ≤ 4611686018427387904) : wrap64 n = n := by unfold wrap64; omega
theorem in_f (a b c : Int) : spec_l01In.f a b c = some (decide (b ≤ a ∧ a ≤ c)) := by
  unfold spec_l01In.f
  by_cases h : b ≤ a
  · rw [if_pos h]
    exact congrArg some (decide_eq_decide.2 ⟨fun q => ⟨h, q⟩, fun q => q.2⟩)
  · rw [if_neg h]
    exact congrArg some (decide_eq_false (fun q => h q.1)).symm
theorem in_g (a b c : Int) : impl_within.f a b c = some (decide (b ≤ a ∧ a ≤ c)) := in_f a b c

theorem loop (a : S43) (hn : a.f0.length ≤ 1048576) : ∀ k (i : Int), 0 ≤ i → ((a.f0.length : Int) - i).toNat < k →
    (∃ j, 0 ≤ j ∧ slices_IndexFunc_string_string_0.l0 k i a.f0 = some j ∧ spec_AskOk.l0 k i a = some false) ∨ (slices_IndexFunc_string_string_0.l0 k i a.f0 = some (-1) ∧ spec_AskOk.l0 k i a = spec_AskOk.l0 1 (a.f0.length : Int) a)
  | 0, _, _, h => absurd h (Nat.not_lt_zero _)
  | k + 1, i, h0, h => by
    by_cases c1 : i < (a.f0.length : Int)
    · have e1 : wrap64 (i + 1) = i + 1 := w64 (by omega) (by omega)
      have ih := loop a hn k (i + 1) (by omega) (by omega)
      rw [slices_IndexFunc_string_string_0.l0, spec_AskOk.l0, if_pos c1, if_pos h0, if_pos c1, if_pos c1, if_pos h0, if_pos c1, e1, impl_textsOk_1.f, Option.bind_some]
      by_cases c2 : 400 < ((rdOf ByteArray.empty a.f0 i).size : Int)
      · rw [if_pos (decide_eq_true c2), if_pos c2]
        exact .inl ⟨i, h0, rfl, rfl⟩
      · rw [if_neg (by simpa using c2), if_neg c2]
        exact ih
    · refine .inr ⟨?_, ?_⟩
      · rw [slices_IndexFunc_string_string_0.l0, if_neg c1]
      · rw [spec_AskOk.l0, if_neg c1, spec_AskOk.l0, if_neg (Int.lt_irrefl _)]

theorem agree (a : S43) (hn : a.f0.length ≤ 1048576) (k : Nat) (hk : a.f0.length < k) : ∃ v, spec_AskOk.f k a = some v ∧ impl_AskOk.f k a = some v := by
  unfold spec_AskOk.f impl_AskOk.f impl_textsOk.f slices_ContainsFunc_string_string_0.f slices_IndexFunc_string_string_0.f impl_timeOk.f
  rcases loop a hn k 0 (by omega) (by omega) with ⟨j, hj, e1, e2⟩ | ⟨e1, e2⟩
  · refine ⟨false, e2, ?_⟩
    simp only [e1, Option.bind_some, decide_eq_true hj]
    by_cases c1 : 1 ≤ (a.f0.length : Int)
    · rw [if_pos c1]
      by_cases c2 : (a.f0.length : Int) ≤ 3
      · rw [if_pos c2]; rfl
      · rw [if_neg c2]; rfl
    · rw [if_neg c1]
  · rw [e2, spec_AskOk.l0, if_neg (Int.lt_irrefl _)]
    unfold spec_l09Num.f
    simp only [e1, in_f, in_g, Option.bind_some]
    by_cases c1 : 1 ≤ (a.f0.length : Int)
    · by_cases c2 : (a.f0.length : Int) ≤ 3
      · have e0 : (!decide ((0 : Int) ≤ -1)) = true := by decide
        rw [if_pos (decide_eq_true ⟨c1, c2⟩), if_pos c1, if_pos c2, Option.bind_some, e0, if_pos rfl]
        refine Exists.imp (fun v (hv : _ = some v) => ⟨hv, hv⟩) ?_
        split
        · split
          · split
            · exact ⟨_, rfl⟩
            · exact ⟨_, rfl⟩
          · exact ⟨_, rfl⟩
        · exact ⟨_, rfl⟩
      · rw [if_neg (by simpa using fun _ => by omega), if_pos c1, if_neg c2]
        exact ⟨_, rfl, rfl⟩
    · rw [if_neg (by simpa using fun h => absurd h c1), if_neg c1]
      exact ⟨_, rfl, rfl⟩

theorem sz_l (l : List ByteArray) (hl : okList okStr l) (hn : l.length ≤ 1048576) : ∀ k (x i : Int), 0 ≤ x → x ≤ 1048576 → 0 ≤ i → ((l.length : Int) - i).toNat < k → ∃ n, laws_szStringS.l0 k x i l = some n
  | 0, _, _, _, _, _, h => absurd h (Nat.not_lt_zero _)
  | k + 1, x, i, x0, x1, h0, h => by
    rw [laws_szStringS.l0]
    by_cases c1 : i < (l.length : Int)
    · have e1 : wrap64 (i + 1) = i + 1 := w64 (by omega) (by omega)
      have hs : (rdOf ByteArray.empty l i).size ≤ maxLen := by
        have : rdOf ByteArray.empty l i ∈ l := by
          unfold rdOf
          rw [List.getD_eq_getElem?_getD, List.getElem?_eq_getElem (show i.toNat < l.length by omega)]
          exact List.getElem_mem _
        exact hl.2 _ this
      have hm : maxLen = 9223372036854775807 := rfl
      have e2 : wrap64 (x - ((rdOf ByteArray.empty l i).size : Int)) = x - ((rdOf ByteArray.empty l i).size : Int) := by unfold wrap64; omega
      rw [if_pos c1, if_pos h0, if_pos c1, e1, e2]
      by_cases c2 : x - ((rdOf ByteArray.empty l i).size : Int) < 0
      · rw [if_pos c2]; exact ⟨_, rfl⟩
      · rw [if_neg c2]
        exact sz_l l hl hn k _ (i + 1) (by omega) (by omega) (by omega) (by omega)
    · rw [if_neg c1]; exact ⟨_, rfl⟩

theorem sz (l : List ByteArray) (hl : okList okStr l) (k : Nat) (hk : l.length < k) : ∃ n, laws_szStringS.f k l 1048576 = some n ∧ (0 ≤ n → l.length ≤ 1048576) := by
  have h1 : l.length ≤ maxLen := hl.1
  have hm : maxLen = 9223372036854775807 := rfl
  have e2 : wrap64 (1048576 - (l.length : Int)) = 1048576 - (l.length : Int) := by unfold wrap64; omega
  unfold laws_szStringS.f
  rw [e2]
  by_cases c : 1048576 - (l.length : Int) < 0
  · rw [if_pos c]; exact ⟨_, rfl, fun h => by omega⟩
  · rw [if_neg c]
    obtain ⟨n, hn⟩ := sz_l l hl (by omega) k (1048576 - (l.length : Int)) 0 (by omega) (by omega) (by omega) (by omega)
    exact ⟨n, hn, fun _ => by omega⟩

theorem copies (x : List ByteArray) (hn : x.length ≤ 1048576) : ∀ k (y : List ByteArray) (i : Int), 0 ≤ i → i ≤ x.length → y.length = x.length → y.take i.toNat = x.take i.toNat → ((x.length : Int) - i).toNat < k → laws_toStringS.l0 k y i x = some x
  | 0, _, _, _, _, _, _, h => absurd h (Nat.not_lt_zero _)
  | k + 1, y, i, h0, h1, hy, e, h => by
    rw [laws_toStringS.l0]
    by_cases c1 : i < (x.length : Int)
    · have e1 : wrap64 (i + 1) = i + 1 := w64 (by omega) (by omega)
      rw [if_pos c1, if_pos h0, if_pos c1, e1]
      refine copies x hn k _ (i + 1) (by omega) (by omega) (by rw [List.length_set]; exact hy) ?_ (by omega)
      have e3 : (i + 1).toNat = i.toNat + 1 := by omega
      have hi : i.toNat < x.length := by omega
      rw [e3, List.take_add_one, List.take_add_one, List.take_set_of_le (Nat.le_refl _), e]
      simp [rdOf, hi, hy]
    · rw [if_neg c1]
      have : i.toNat = x.length := by omega
      rw [this, List.take_length, ← hy, List.take_length] at e
      rw [e]

theorem copy (x : List ByteArray) (hn : x.length ≤ 1048576) (k : Nat) (hk : x.length < k) : laws_toStringS.f k x = some x := by
  unfold laws_toStringS.f
  rw [if_pos (by omega), if_pos (by omega)]
  exact copies x hn k _ 0 (by omega) (by omega) (by rw [List.length_replicate]) rfl (by omega)

theorem eqs (x : List ByteArray) (hn : x.length ≤ 1048576) : ∀ k (i : Int), 0 ≤ i → ((x.length : Int) - i).toNat < k → laws_eqStringS.l0 k i x x = some true
  | 0, _, _, h => absurd h (Nat.not_lt_zero _)
  | k + 1, i, h0, h => by
    rw [laws_eqStringS.l0]
    by_cases c1 : i < (x.length : Int)
    · have e1 : wrap64 (i + 1) = i + 1 := w64 (by omega) (by omega)
      rw [if_pos c1, if_pos h0, if_pos c1, if_pos c1, if_pos rfl, e1]
      exact eqs x hn k (i + 1) (by omega) (by omega)
    · rw [if_neg c1]

theorem eq (x : List ByteArray) (hn : x.length ≤ 1048576) (k : Nat) (hk : x.length < k) : laws_eqStringS.f k x x = some true := by
  unfold laws_eqStringS.f
  rw [if_pos rfl]
  exact eqs x hn k 0 (by omega) (by omega)

theorem pure : Pure := by
  intro a ha
  obtain ⟨hl, _⟩ := ha
  refine ⟨a.f0.length + 1, ?_⟩
  obtain ⟨n, e1, e2⟩ := sz a.f0 hl (a.f0.length + 1) (Nat.lt_succ_self _)
  unfold laws_FnExactAskOk.f laws_szAsk.f laws_toAsk.f
  rw [e1, Option.bind_some]
  by_cases c : n < 0
  · rw [if_pos c]
    rfl
  · rw [if_neg c, Option.bind_some, if_neg c]
    have hn := e2 (by omega)
    have hc := copy a.f0 hn (a.f0.length + 1) (Nat.lt_succ_self _)
    obtain ⟨v, v1, v2⟩ := agree (⟨a.f0, a.f1, a.f2, a.f3, a.f4, a.f5⟩ : S43) hn (a.f0.length + 1) (Nat.lt_succ_self _)
    unfold laws_eqAsk.f
    simp [hc, v1, v2, eq a.f0 hn (a.f0.length + 1) (Nat.lt_succ_self _)]
end Go.Proofs.Ytfeebnbookfpmaa.PureFnExactAskOk

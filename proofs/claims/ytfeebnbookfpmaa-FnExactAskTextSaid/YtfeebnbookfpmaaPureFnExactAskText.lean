/- The statement FnExactAskText, as numbers and lists: the program's AskText and the reference's agree. -/
import Derived.Test.YtfeebnbookfpmaaItemFnExactAskText
namespace Go.Proofs.Ytfeebnbookfpmaa.PureFnExactAskText
open Go.RowKit Go.Proofs.YtfeebnbookfpmaaW.PrintWords Go.Proofs.YtfeebnbookfpmaaW.PrintLast Go.Proofs.Ytfeebnbookfpmaa.ZOpen Go.Proofs.Ytfeebnbookfpmaa.Z Go.Proofs.Ytfeebnbookfpmaa.F
open Go.Proofs.Ytfeebnbookfpmaa.SaidFnExactAskText Go.Proofs.Ytfeebnbookfpmaa.ZP Go.Proofs.Ytfeebnbookfpmaa.FamFnExactAskText Go.Proofs.Ytfeebnbookfpmaa.ItemFnExactAskText

theorem loop (a : S43) (hn : a.f0.length ≤ 1048576) : ∀ k (i : Int), 0 ≤ i → ((a.f0.length : Int) - i).toNat < k →
    (∃ j, 0 ≤ j ∧ slices_IndexFunc_string_string_0.l0 k i a.f0 = some j ∧ spec_AskOk.l0 k i a = some false) ∨ (slices_IndexFunc_string_string_0.l0 k i a.f0 = some (-1) ∧ spec_AskOk.l0 k i a = spec_AskOk.l0 1 (a.f0.length : Int) a)
  | 0, _, _, h => absurd h (Nat.not_lt_zero _)
  | k + 1, i, h0, h => by
    by_cases c1 : i < (a.f0.length : Int)
    · have e1 : wrap64 (i + 1) = i + 1 := w64 (by omega) (by omega)
      have ih := loop a hn k (i + 1) (by omega) (by omega)
      rw [slices_IndexFunc_string_string_0.l0, spec_AskOk.l0, if_pos c1, if_pos h0, if_pos c1, if_pos c1, if_pos h0, if_pos c1, e1, impl_textsOk_1.f, Option.bind_some]
      by_cases c2 : 400 < ((rdOf ByteArray.empty a.f0 i).size : Int)
      · rw [if_pos (decide_eq_true c2), if_pos c2]
        exact .inl ⟨i, h0, rfl, rfl⟩
      · rw [if_neg (by simpa using c2), if_neg c2]
        exact ih
    · refine .inr ⟨?_, ?_⟩
      · rw [slices_IndexFunc_string_string_0.l0, if_neg c1]
      · rw [spec_AskOk.l0, if_neg c1, spec_AskOk.l0, if_neg (Int.lt_irrefl _)]

theorem agree (a : S43) (hn : a.f0.length ≤ 1048576) (k : Nat) (hk : a.f0.length < k) : ∃ v, spec_AskOk.f k a = some v ∧ impl_AskOk.f k a = some v := by
  unfold spec_AskOk.f impl_AskOk.f impl_textsOk.f slices_ContainsFunc_string_string_0.f slices_IndexFunc_string_string_0.f impl_timeOk.f
  rcases loop a hn k 0 (by omega) (by omega) with ⟨j, hj, e1, e2⟩ | ⟨e1, e2⟩
  · refine ⟨false, e2, ?_⟩
    simp only [e1, Option.bind_some, decide_eq_true hj]
    by_cases c1 : 1 ≤ (a.f0.length : Int)
    · rw [if_pos c1]
      by_cases c2 : (a.f0.length : Int) ≤ 3
      · rw [if_pos c2]; rfl
      · rw [if_neg c2]; rfl
    · rw [if_neg c1]
  · rw [e2, spec_AskOk.l0, if_neg (Int.lt_irrefl _)]
    unfold spec_l09Num.f
    simp only [e1, in_f, in_g, Option.bind_some]
    by_cases c1 : 1 ≤ (a.f0.length : Int)
    · by_cases c2 : (a.f0.length : Int) ≤ 3
      · have e0 : (!decide ((0 : Int) ≤ -1)) = true := by decide
        rw [if_pos (decide_eq_true ⟨c1, c2⟩), if_pos c1, if_pos c2, Option.bind_some, e0, if_pos rfl]
        refine Exists.imp (fun v (hv : _ = some v) => ⟨hv, hv⟩) ?_
        split
        · split
          · split
            · exact ⟨_, rfl⟩
            · exact ⟨_, rfl⟩
          · exact ⟨_, rfl⟩
        · exact ⟨_, rfl⟩
      · rw [if_neg (by simpa using fun _ => by omega), if_pos c1, if_neg c2]
        exact ⟨_, rfl, rfl⟩
    · rw [if_neg (by simpa using fun h => absurd h c1), if_neg c1]
      exact ⟨_, rfl, rfl⟩


def item4 (s : ByteArray) : S141 := ⟨4, s, []⟩
theorem texts (l : List ByteArray) (h : l.length ≤ 1048576) : Evt (fun k => spec_l14Texts.f k l) ⟨48, (⟨#[]⟩ : ByteArray), l.map item4⟩ ∧ Evt (fun k => impl_each_string_0.f k l) ⟨48, (⟨#[]⟩ : ByteArray), l.map item4⟩ := by
  have hl : (l.map item4).length = l.length := List.length_map _
  have e1 : ∀ i : Nat, i < l.length → wrap64 ((i : Int) + 1) = ((i + 1 : Nat) : Int) := fun i hi => by rw [w64 (by omega) (by omega)]; rfl
  have hg : ∀ i (hi : i < (l.map item4).length), Evt (fun _ => some (item4 (rdOf ByteArray.empty l (i : Int)))) (l.map item4)[i] := by
    intro i hi
    have : rdOf ByteArray.empty l (i : Int) = l[i]'(by omega) := by simp [rdOf, show i < l.length by omega]
    rw [this, List.getElem_map]
    exact Evt.now
  refine ⟨(map_loop (l.map item4) (fun k r i => spec_l14Texts.l0 k r i l) _ _ (fun k i r hi hr => ?_) (Evt.of fun k => ?_) hg _ 0 rfl (Nat.zero_le _)).eq (fun k => rfl), (map_loop (l.map item4) (fun k r i => impl_each_string_0.l0 k r i l) _ _ (fun k i r hi hr => ?_) (Evt.of fun k => ?_) hg _ 0 rfl (Nat.zero_le _)).eq (fun k => rfl)⟩
  · have hc : (r.length + 1 ≤ 2932031007402) = True := eq_true (by omega)
    show spec_l14Texts.l0 (k + 1) r (i : Int) l = _
    rw [spec_l14Texts.l0, if_pos (by omega), if_pos (by omega), if_pos (by omega), e1 i (by omega)]
    simp only [hc, if_true, lets]
    rfl
  · show spec_l14Texts.l0 (k + 1) _ _ l = _
    rw [spec_l14Texts.l0, if_neg (by omega)]
  · have hc : (r.length + 1 ≤ 2932031007402) = True := eq_true (by omega)
    show impl_each_string_0.l0 (k + 1) r (i : Int) l = _
    rw [impl_each_string_0.l0, if_pos (by omega), if_pos (by omega), if_pos (by omega), e1 i (by omega)]
    simp only [hc, if_true, lets]
    rfl
  · show impl_each_string_0.l0 (k + 1) _ _ l = _
    rw [impl_each_string_0.l0, if_neg (by omega)]
def itemB (b : Bool) : S141 := if b = true then ⟨1, (⟨#[255]⟩ : ByteArray), []⟩ else ⟨1, (⟨#[0]⟩ : ByteArray), []⟩
theorem bool_f (b : Bool) : spec_l09Bool.f b = some (itemB b) := by cases b <;> rfl
theorem bool_g (b : Bool) : impl_boolItem.f b = some (itemB b) := bool_f b

theorem pure : Pure := by
  intro a ha
  by_cases hs : sm40 a
  · have hc := smcv40 a hs
    obtain ⟨n, z1, z2, z3⟩ := sz_24 a ha 1048576 (by omega) (by omega) 4194304 (by omega)
    obtain ⟨⟨K1, t1⟩, ⟨K2, t2⟩⟩ := texts (cv40 a).f0 hc.1.1
    obtain ⟨i1, ⟨K3, a1⟩, ⟨K4, b1⟩, _, i1k, i1s⟩ := int_item (cv40 a).f1
    obtain ⟨i2, ⟨K5, a2⟩, ⟨K6, b2⟩, _, i2k, i2s⟩ := int_item (cv40 a).f2
    obtain ⟨i3, ⟨K7, a3⟩, ⟨K8, b3⟩, _, i3k, i3s⟩ := int_item (cv40 a).f3
    obtain ⟨i4, ⟨K9, a4⟩, ⟨K10, b4⟩, _, i4k, i4s⟩ := int_item (cv40 a).f4
    have hz : ∀ it : S141, it.f2 = [] → it.f1.size ≤ 16 → sz it ≤ 32 := fun it h1 h2 => by rw [sz_eq, h1]; simp; omega
    have hb : sz (itemB (cv40 a).f5) ≤ 32 := by
      unfold itemB
      split
      · exact hz _ rfl (by decide)
      · exact hz _ rfl (by decide)
    have ht : sz (⟨48, (⟨#[]⟩ : ByteArray), (cv40 a).f0.map item4⟩ : S141) ≤ 16 + 1048576 * 1048592 := by
      rw [sz_list]
      have h1 := sum_le sz 1048592 ((cv40 a).f0.map item4) (fun e he => by
        obtain ⟨s, hs', rfl⟩ := List.mem_map.1 he
        have := hc.1.2 s hs'
        rw [sz_eq]
        show 16 + s.size + _ ≤ _
        simp [item4]
        omega)
      rw [List.length_map] at h1
      have h2 : (cv40 a).f0.length * 1048592 ≤ 1048576 * 1048592 := Nat.mul_le_mul_right _ hc.1.1
      omega
    have hl : ([⟨48, (⟨#[]⟩ : ByteArray), (cv40 a).f0.map item4⟩, i1, i2, i3, i4, itemB (cv40 a).f5].map sz).sum ≤ 35184372088000 := by
      have := hz i1 i1k i1s
      have := hz i2 i2k i2s
      have := hz i3 i3k i3s
      have := hz i4 i4k i4s
      simp only [List.map_cons, List.map_nil, List.sum_cons, List.sum_nil]
      omega
    obtain ⟨K11, l1⟩ := list_item [⟨48, (⟨#[]⟩ : ByteArray), (cv40 a).f0.map item4⟩, i1, i2, i3, i4, itemB (cv40 a).f5] (by omega)
    obtain ⟨r, ⟨K12, r1⟩, ⟨K13, r2⟩⟩ := item_text ⟨48, (⟨#[]⟩ : ByteArray), [⟨48, (⟨#[]⟩ : ByteArray), (cv40 a).f0.map item4⟩, i1, i2, i3, i4, itemB (cv40 a).f5]⟩ (by rw [sz_list]; omega)
    obtain ⟨k, hk⟩ : ∃ k, k = 4194304 + K1 + K2 + K3 + K4 + K5 + K6 + K7 + K8 + K9 + K10 + K11 + K12 + K13 := ⟨_, rfl⟩
    refine ⟨k, ?_⟩
    obtain ⟨v, v1, v2⟩ := agree (cv40 a) hc.1.1 k (by have := hc.1.1; omega)
    obtain ⟨n, z1, z2, z3⟩ := sz_24 a ha 1048576 (by omega) (by omega) k (by omega)
    unfold laws_FnExactAskText.f
    rw [z1, Option.bind_some]
    by_cases c : n < 0
    · rw [if_pos c]
    rw [if_neg c]
    have both : ∃ q, spec_AskText.f k (cv40 a) = some q ∧ impl_AskText.f k (cv40 a) = some q := by
      unfold spec_AskText.f impl_AskText.f
      rw [v1, v2]
      cases v with
      | false => exact ⟨_, rfl, rfl⟩
      | true =>
        have x1 := t1 k (by omega)
        have x2 := t2 k (by omega)
        simp only [x1, x2, a1 k (by omega), a2 k (by omega), a3 k (by omega), a4 k (by omega), b1 k (by omega), b2 k (by omega), b3 k (by omega), b4 k (by omega), bool_f, bool_g, l1 k (by omega), r1 k (by omega), r2 k (by omega), Option.bind_some, if_true]
        exact ⟨_, rfl, rfl⟩
    obtain ⟨q, q1, q2⟩ := both
    simp only [to_26 a hs k (by omega), Option.bind_some, q1, q2, if_true, eq_28 _ hc k (by omega)]
  · obtain ⟨n, z1, z2, z3⟩ := sz_24 a ha 1048576 (by omega) (by omega) 4194304 (by omega)
    refine ⟨4194304, ?_⟩
    unfold laws_FnExactAskText.f
    rw [z1, Option.bind_some, if_pos (by
      by_cases c : 0 ≤ n
      · exact absurd (z3 c) hs
      · omega)]
end Go.Proofs.Ytfeebnbookfpmaa.PureFnExactAskText

/- The item of a reply: both ways of making it give the same; how large it is. Plain lemmas, no condition. -/
import Derived.Test.YtfiifjlapaefaaaGreatItemFnExactSaidBy
namespace Go.Proofs.YtfiifjlapaefaaaGreat.ReplyFnExactSaidBy
open Go.RowKit Go.Proofs.YtfiifjlapaefaaaGreatW.PrintWords Go.Proofs.YtfiifjlapaefaaaGreatW.PrintLast Go.Proofs.YtfiifjlapaefaaaGreat.ZOpen Go.Proofs.YtfiifjlapaefaaaGreat.Z Go.Proofs.YtfiifjlapaefaaaGreat.F
open Go.Proofs.YtfiifjlapaefaaaGreat.ZP Go.Proofs.YtfiifjlapaefaaaGreat.FamFnExactSaidBy Go.Proofs.YtfiifjlapaefaaaGreat.ItemFnExactSaidBy

theorem szi (it : S110) (h1 : it.f2 = []) (h2 : it.f1.size ≤ 16) : sz it ≤ 32 := by rw [sz_eq, h1]; simp; omega
def item4 (s : ByteArray) : S110 := ⟨4, s, []⟩
theorem sz4 (s : ByteArray) : sz (item4 s) = 16 + s.size := by rw [sz_eq]; simp [item4]
theorem sz4s : ∀ l : List ByteArray, ((l.map item4).map sz).sum ≤ 16 * (l.length + (l.map ByteArray.size).sum)
  | [] => by simp
  | s :: l => by
    have := sz4s l
    have := sz4 s
    simp only [List.map_cons, List.sum_cons, List.length_cons]
    omega
theorem texts (l : List ByteArray) (h : l.length ≤ 1048576) : Evt (fun k => spec_l14Texts.f k l) ⟨48, (⟨#[]⟩ : ByteArray), l.map item4⟩ ∧ Evt (fun k => impl_each_string_0.f k l) ⟨48, (⟨#[]⟩ : ByteArray), l.map item4⟩ := by
  have hl : (l.map item4).length = l.length := List.length_map _
  have e1 : ∀ i : Nat, i < l.length → wrap64 ((i : Int) + 1) = ((i + 1 : Nat) : Int) := fun i hi => by rw [w64 (by omega) (by omega)]; rfl
  have hg : ∀ i (hi : i < (l.map item4).length), Evt (fun _ => some (item4 (rdOf ByteArray.empty l (i : Int)))) (l.map item4)[i] := by
    intro i hi
    have : rdOf ByteArray.empty l (i : Int) = l[i]'(by omega) := by simp [rdOf, show i < l.length by omega]
    rw [this, List.getElem_map]
    exact Evt.now
  refine ⟨(map_loop (l.map item4) (fun k r i => spec_l14Texts.l0 k r i l) (fun i _ => some (item4 (rdOf ByteArray.empty l (i : Int)))) (⟨48, (⟨#[]⟩ : ByteArray), l.map item4⟩ : S110) (fun k i r hi hr => ?_) (Evt.of fun k => ?_) hg _ 0 rfl (Nat.zero_le _)).eq (fun k => rfl), (map_loop (l.map item4) (fun k r i => impl_each_string_0.l0 k r i l) (fun i _ => some (item4 (rdOf ByteArray.empty l (i : Int)))) (⟨48, (⟨#[]⟩ : ByteArray), l.map item4⟩ : S110) (fun k i r hi hr => ?_) (Evt.of fun k => ?_) hg _ 0 rfl (Nat.zero_le _)).eq (fun k => rfl)⟩
  · have hc : (r.length + 1 ≤ 2932031007402) = True := eq_true (by omega)
    show spec_l14Texts.l0 (k + 1) r (i : Int) l = _
    rw [spec_l14Texts.l0, if_pos (by omega), if_pos (by omega), if_pos (by omega), e1 i (by omega)]
    simp only [hc, if_true, lets]
    rfl
  · show spec_l14Texts.l0 (k + 1) _ _ l = _
    rw [spec_l14Texts.l0, if_neg (by omega)]
  · have hc : (r.length + 1 ≤ 2932031007402) = True := eq_true (by omega)
    show impl_each_string_0.l0 (k + 1) r (i : Int) l = _
    rw [impl_each_string_0.l0, if_pos (by omega), if_pos (by omega), if_pos (by omega), e1 i (by omega)]
    simp only [hc, if_true, lets]
    rfl
  · show impl_each_string_0.l0 (k + 1) _ _ l = _
    rw [impl_each_string_0.l0, if_neg (by omega)]

/-- What an answer weighs. -/
def wa (x : S154) : Nat := (x.f2.length + (x.f2.map ByteArray.size).sum) + (x.f3.length + (x.f3.map ByteArray.size).sum)
/-- An answer's item. -/
theorem answer (x : S154) (h : sm154 x) (hw : wa x ≤ 1048576) : ∃ it i1 i2 t1 t2 : S110, (Evt (fun k => spec_IntItem.f k x.f0) i1 ∧ Evt (fun k => spec_IntItem.f k x.f1) i2 ∧ Evt (fun k => spec_l14Texts.f k x.f2) t1 ∧ Evt (fun k => spec_l14Texts.f k x.f3) t2 ∧ it = ⟨48, (⟨#[]⟩ : ByteArray), [i1, i2, t1, t2]⟩) ∧ Evt (fun k => impl_replyItem_1.f k x) it ∧ sz it ≤ 112 + 16 * wa x := by
  obtain ⟨i1, a1, ⟨L1, b1⟩, _, i1k, i1s⟩ := int_item x.f0
  obtain ⟨i2, a2, ⟨L2, b2⟩, _, i2k, i2s⟩ := int_item x.f1
  obtain ⟨a3, ⟨L3, b3⟩⟩ := texts x.f2 h.2.2.1.1
  obtain ⟨a4, ⟨L4, b4⟩⟩ := texts x.f3 h.2.2.2.1.1
  have hsum : ([i1, i2, ⟨48, (⟨#[]⟩ : ByteArray), x.f2.map item4⟩, ⟨48, (⟨#[]⟩ : ByteArray), x.f3.map item4⟩].map sz).sum ≤ 96 + 16 * wa x := by
    have z1 := szi i1 i1k i1s
    have z2 := szi i2 i2k i2s
    have z3 := sz4s x.f2
    have z4 := sz4s x.f3
    simp only [List.map_cons, List.map_nil, List.sum_cons, List.sum_nil, sz_list]
    unfold wa
    omega
  have hl : sz (⟨48, (⟨#[]⟩ : ByteArray), [i1, i2, ⟨48, (⟨#[]⟩ : ByteArray), x.f2.map item4⟩, ⟨48, (⟨#[]⟩ : ByteArray), x.f3.map item4⟩]⟩ : S110) ≤ 112 + 16 * wa x := by rw [sz_list]; omega
  refine ⟨_, i1, i2, _, _, ⟨a1, a2, a3, a4, rfl⟩, ?_, hl⟩
  obtain ⟨K5, l1⟩ := list_item [i1, i2, ⟨48, (⟨#[]⟩ : ByteArray), x.f2.map item4⟩, ⟨48, (⟨#[]⟩ : ByteArray), x.f3.map item4⟩] (by omega)
  clear hsum hl hw
  refine Evt.at_ (L1 + L2 + L3 + L4 + K5) fun k hk => ?_
  have b1 := b1 k (by omega)
  have b2 := b2 k (by omega)
  have b3 := b3 k (by omega)
  have b4 := b4 k (by omega)
  have l1 := l1 k (by omega)
  unfold impl_replyItem_1.f
  simp only [b1, b2, b3, b4, l1, Option.bind_some]

/-- A reply's item. -/
theorem reply (a : S74) (h : sm74 a) (hw : (a.f6.map wa).sum ≤ 1048576) : ∃ it : S110, Evt (fun k => spec_l15Item.f k a) it ∧ Evt (fun k => impl_replyItem.f k a) it ∧ sz it ≤ 1000000000 := by
  have h6 := h.2.2.2.2.2.2.1
  have hwi : ∀ i (hi : i < a.f6.length), wa a.f6[i] ≤ 1048576 := fun i hi => Nat.le_trans (sum_mem (List.mem_map_of_mem (f := wa) (List.getElem_mem hi))) hw
  obtain ⟨rs, rl, hr⟩ := listed (fun i it => ∀ (hi : i < a.f6.length), (∃ i1 i2 t1 t2 : S110, Evt (fun k => spec_IntItem.f k (rd_T154 a.f6 (i : Int)).f0) i1 ∧ Evt (fun k => spec_IntItem.f k (rd_T154 a.f6 (i : Int)).f1) i2 ∧ Evt (fun k => spec_l14Texts.f k (rd_T154 a.f6 (i : Int)).f2) t1 ∧ Evt (fun k => spec_l14Texts.f k (rd_T154 a.f6 (i : Int)).f3) t2 ∧ it = ⟨48, (⟨#[]⟩ : ByteArray), [i1, i2, t1, t2]⟩) ∧ Evt (fun k => impl_replyItem_1.f k (rd_T154 a.f6 (i : Int))) it ∧ sz it ≤ 112 + 16 * wa a.f6[i]) a.f6.length (fun i hi => by
    obtain ⟨it, i1, i2, t1, t2, h1, h2, h3⟩ := answer a.f6[i] (h6.2 _ (List.getElem_mem hi)) (hwi i hi)
    refine ⟨it, fun _ => ?_⟩
    rw [rd154 a.f6 i hi]
    exact ⟨⟨i1, i2, t1, t2, h1⟩, h2, h3⟩)
  have hr' := fun (i : Nat) (hi : i < rs.length) => hr i rs[i] (List.getElem?_eq_getElem hi) (by omega)
  have hsum : ∀ (m i : Nat), rs.length - i = m → i ≤ rs.length → ((rs.drop i).map sz).sum ≤ 112 * (rs.length - i) + 16 * ((a.f6.drop i).map wa).sum := by
    intro m
    induction m with
    | zero =>
      intro i hm hi
      rw [List.drop_of_length_le (by omega)]
      simp
    | succ m ih =>
      intro i hm hi
      have h1 := ih (i + 1) (by omega) (by omega)
      have h2 := (hr' i (by omega)).2.2
      rw [drop_sum (show i < rs.length by omega), List.drop_eq_getElem_cons (show i < a.f6.length by omega), List.map_cons, List.sum_cons]
      omega
  have hs0 := hsum _ 0 rfl (Nat.zero_le _)
  rw [List.drop_zero, List.drop_zero] at hs0
  obtain ⟨i1, ⟨K1, a1⟩, ⟨L1, b1⟩, _, i1k, i1s⟩ := int_item a.f1
  obtain ⟨i2, ⟨K2, a2⟩, ⟨L2, b2⟩, _, i2k, i2s⟩ := int_item a.f2
  obtain ⟨i3, ⟨K3, a3⟩, ⟨L3, b3⟩, _, i3k, i3s⟩ := int_item a.f3
  obtain ⟨i4, ⟨K4, a4⟩, ⟨L4, b4⟩, _, i4k, i4s⟩ := int_item a.f4
  obtain ⟨i5, ⟨K5, a5⟩, ⟨L5, b5⟩, _, i5k, i5s⟩ := int_item a.f5
  have hl : ([item4 a.f0, i1, i2, i3, i4, i5, ⟨48, (⟨#[]⟩ : ByteArray), rs⟩].map sz).sum ≤ 900000000 := by
    have z1 := szi i1 i1k i1s
    have z2 := szi i2 i2k i2s
    have z3 := szi i3 i3k i3s
    have z4 := szi i4 i4k i4s
    have z5 := szi i5 i5k i5s
    have z0 := sz4 a.f0
    have hz := h.1
    have h61 := h6.1
    simp only [List.map_cons, List.map_nil, List.sum_cons, List.sum_nil, sz_list]
    omega
  have hsz : sz (⟨48, (⟨#[]⟩ : ByteArray), [item4 a.f0, i1, i2, i3, i4, i5, ⟨48, (⟨#[]⟩ : ByteArray), rs⟩]⟩ : S110) ≤ 1000000000 := by rw [sz_list]; omega
  clear hs0 hsum
  have e1 : ∀ i : Nat, i < a.f6.length → wrap64 ((i : Int) + 1) = ((i + 1 : Nat) : Int) := fun i hi => by have := h6.1; rw [w64 (by omega) (by omega)]; rfl
  obtain ⟨K6, l1⟩ := list_item [item4 a.f0, i1, i2, i3, i4, i5, ⟨48, (⟨#[]⟩ : ByteArray), rs⟩] (by omega)
  refine ⟨_, ?_, ?_, hsz⟩
  · clear hsz hl l1
    have hlen := h6.1
    refine (map_loop rs (fun k l i => spec_l15Item.l0 k l i a) (fun i k => (spec_IntItem.f k ((rd_T154 a.f6 (i : Int)).f0)).bind fun t1 => (spec_IntItem.f k ((rd_T154 a.f6 (i : Int)).f1)).bind fun t2 => (spec_l14Texts.f k ((rd_T154 a.f6 (i : Int)).f2)).bind fun t3 => (spec_l14Texts.f k ((rd_T154 a.f6 (i : Int)).f3)).bind fun t4 => some (⟨48, (⟨#[]⟩ : ByteArray), [t1, t2, t3, t4]⟩ : S110)) (⟨48, (⟨#[]⟩ : ByteArray), [item4 a.f0, i1, i2, i3, i4, i5, ⟨48, (⟨#[]⟩ : ByteArray), rs⟩]⟩ : S110) (fun k i l hi hll => ?_) (Evt.at_ (K1 + K2 + K3 + K4 + K5) fun k hk => ?_) (fun i hi => ?_) _ 0 rfl (Nat.zero_le _)).eq (fun k => rfl)
    · have hc : (l.length + 1 ≤ 2932031007402) = True := eq_true (by omega)
      show spec_l15Item.l0 (k + 1) l (i : Int) a = _
      rw [spec_l15Item.l0, if_pos (by omega), if_pos (by omega), if_pos (by omega), e1 i (by omega)]
      simp only [hc, if_true, lets, Option.bind_assoc, Option.bind_some]
    · have a1 := a1 k (by omega)
      have a2 := a2 k (by omega)
      have a3 := a3 k (by omega)
      have a4 := a4 k (by omega)
      have a5 := a5 k (by omega)
      show spec_l15Item.l0 (k + 1) rs _ a = _
      rw [spec_l15Item.l0, if_neg (by omega)]
      simp only [a1, a2, a3, a4, a5, spec_l09Bytes.f, Option.bind_some]
      rfl
    · obtain ⟨⟨j1, j2, t1, t2, g1, g2, g3, g4, g5⟩, _, _⟩ := hr' i hi
      rw [g5]
      exact Evt.bind g1 (Evt.bind g2 (Evt.bind g3 (Evt.bind g4 Evt.now)))
  · clear hsz hl
    have hlen := h6.1
    have each : Evt (fun k => impl_Answer_96_0.f k a.f6) ⟨48, (⟨#[]⟩ : ByteArray), rs⟩ := by
      clear l1 b1 b2 b3 b4 b5 a1 a2 a3 a4 a5
      refine (map_loop rs (fun k l i => impl_Answer_96_0.l0 k l i a.f6) (fun i k => impl_replyItem_1.f k (rd_T154 a.f6 (i : Int))) (⟨48, (⟨#[]⟩ : ByteArray), rs⟩ : S110) (fun k i l hi hl => ?_) (Evt.of fun k => ?_) (fun i hi => (hr' i hi).2.1) _ 0 rfl (Nat.zero_le _)).eq (fun k => rfl)
      · have hc : (l.length + 1 ≤ 2932031007402) = True := eq_true (by omega)
        show impl_Answer_96_0.l0 (k + 1) l (i : Int) a.f6 = _
        rw [impl_Answer_96_0.l0, if_pos (by omega), if_pos (by omega), if_pos (by omega), e1 i (by omega)]
        simp only [hc, if_true, lets]
      · show impl_Answer_96_0.l0 (k + 1) rs _ a.f6 = _
        rw [impl_Answer_96_0.l0, if_neg (by omega)]
    obtain ⟨K7, each⟩ := each
    refine Evt.at_ (L1 + L2 + L3 + L4 + L5 + K6 + K7) fun k hk => ?_
    have b1 := b1 k (by omega)
    have b2 := b2 k (by omega)
    have b3 := b3 k (by omega)
    have b4 := b4 k (by omega)
    have b5 := b5 k (by omega)
    have each := each k (by omega)
    have l1 := l1 k (by omega)
    have e4 : impl_bytesItem.f a.f0 = some (item4 a.f0) := rfl
    unfold impl_replyItem.f
    simp only [e4, b1, b2, b3, b4, b5, each, l1, Option.bind_some]
/-- The texts of an answer: the two ways of looking. -/
theorem textsOk_l (l : List ByteArray) (m : Int) (hn : l.length ≤ 1048576) : ∀ k (i : Int), 0 ≤ i → ((l.length : Int) - i).toNat < k →
    (∃ j, 0 ≤ j ∧ slices_IndexFunc_string_string_0.l0 k i l = some j ∧ spec_l15Texts.l0 k i l m = some false) ∨ (slices_IndexFunc_string_string_0.l0 k i l = some (-1) ∧ spec_l15Texts.l0 k i l m = some (decide ((l.length : Int) ≤ m)))
  | 0, _, _, h => absurd h (Nat.not_lt_zero _)
  | k + 1, i, h0, h => by
    by_cases c1 : i < (l.length : Int)
    · have e1 : wrap64 (i + 1) = i + 1 := w64 (by omega) (by omega)
      have ih := textsOk_l l m hn k (i + 1) (by omega) (by omega)
      rw [slices_IndexFunc_string_string_0.l0, spec_l15Texts.l0, if_pos c1, if_pos h0, if_pos c1, if_pos c1, if_pos h0, if_pos c1, e1, impl_textsOk_1.f, Option.bind_some]
      by_cases c2 : 400 < ((rdOf ByteArray.empty l i).size : Int)
      · rw [if_pos (decide_eq_true c2), if_pos c2]
        exact .inl ⟨i, h0, rfl, rfl⟩
      · rw [if_neg (by simpa using c2), if_neg c2]
        exact ih
    · refine .inr ⟨?_, ?_⟩
      · rw [slices_IndexFunc_string_string_0.l0, if_neg c1]
      · rw [spec_l15Texts.l0, if_neg c1]
theorem textsOk (l : List ByteArray) (m : Int) (hn : l.length ≤ 1048576) (k : Nat) (hk : 1048577 ≤ k) : ∃ v, spec_l15Texts.f k l m = some v ∧ impl_textsOk.f k l m = some v := by
  unfold spec_l15Texts.f impl_textsOk.f slices_ContainsFunc_string_string_0.f slices_IndexFunc_string_string_0.f
  rcases textsOk_l l m hn k 0 (by omega) (by omega) with ⟨j, hj, e1, e2⟩ | ⟨e1, e2⟩
  · refine ⟨false, e2, ?_⟩
    rw [e1]
    simp only [Option.bind_some, decide_eq_true hj]
    split <;> rfl
  · refine ⟨_, e2, ?_⟩
    rw [e1]
    by_cases c : (l.length : Int) ≤ m
    · rw [if_pos c, decide_eq_true c]; rfl
    · rw [if_neg c, decide_eq_false c]
theorem answerOk (a : S154) (h : sm154 a) (k : Nat) (hk : 1048577 ≤ k) : ∃ v, impl_answerOk.f k a = some v ∧ ∀ X : Option Bool,
    ((spec_l01In.f a.f0 0 2).bind fun t16 => (if t16 = true then ((spec_l01In.f a.f1 0 12).bind fun t19 => (if t19 = true then ((spec_l15Texts.f k a.f2 5).bind fun t22 => (if t22 = true then ((spec_l15Texts.f k a.f3 8).bind fun t25 => (if t25 = true then X else (some false))) else (some false))) else (some false))) else (some false))) = if v = true then X else some false := by
  obtain ⟨u, u1, u2⟩ := textsOk a.f2 5 h.2.2.1.1 k hk
  obtain ⟨w, w1, w2⟩ := textsOk a.f3 8 h.2.2.2.1.1 k hk
  unfold impl_answerOk.f
  simp only [in_f, in_g, u1, u2, w1, w2, Option.bind_some]
  refine ⟨decide (0 ≤ a.f0 ∧ a.f0 ≤ 2) && (decide (0 ≤ a.f1 ∧ a.f1 ≤ 12) && (u && w)), ?_, fun X => ?_⟩
  · cases decide (0 ≤ a.f0 ∧ a.f0 ≤ 2) <;> cases decide (0 ≤ a.f1 ∧ a.f1 ≤ 12) <;> cases u <;> cases w <;> rfl
  · cases decide (0 ≤ a.f0 ∧ a.f0 ≤ 2) <;> cases decide (0 ≤ a.f1 ∧ a.f1 ≤ 12) <;> cases u <;> cases w <;> rfl

theorem loop (r : S74) (h : sm74 r) : ∀ k (i : Nat), 1048577 + (r.f6.length - i) < k →
    (∃ j, 0 ≤ j ∧ impl_Answer_113_0.l0 k (i : Int) r.f6 = some j ∧ spec_ReplyOk.l0 k (i : Int) r = some false) ∨ (impl_Answer_113_0.l0 k (i : Int) r.f6 = some (-1) ∧ spec_ReplyOk.l0 k (i : Int) r = spec_ReplyOk.l0 1 (r.f6.length : Int) r)
  | 0, _, h => absurd h (Nat.not_lt_zero _)
  | k + 1, i, hk => by
    have h6 := h.2.2.2.2.2.2.1
    have hx := h6.1
    by_cases c1 : (i : Int) < (r.f6.length : Int)
    · have hi : i < r.f6.length := by omega
      have e1 : wrap64 ((i : Int) + 1) = ((i + 1 : Nat) : Int) := by rw [w64 (by omega) (by omega)]; rfl
      have ih := loop r h k (i + 1) (by omega)
      have hrd := rd154 r.f6 i hi
      obtain ⟨v, v1, v2⟩ := answerOk r.f6[i] (h6.2 _ (List.getElem_mem hi)) k (by omega)
      rw [impl_Answer_113_0.l0, spec_ReplyOk.l0, if_pos c1, if_pos (by omega), if_pos c1, if_pos c1, if_pos (by omega), if_pos c1, e1, hrd, v2, impl_ReplyOk_1.f, v1, Option.bind_some, Option.bind_some]
      cases v
      · exact .inl ⟨i, by omega, rfl, rfl⟩
      · exact ih
    · refine .inr ⟨?_, ?_⟩
      · rw [impl_Answer_113_0.l0, if_neg c1]
      · rw [spec_ReplyOk.l0, if_neg c1, spec_ReplyOk.l0, if_neg (Int.lt_irrefl _)]

theorem agree (r : S74) (h : sm74 r) (k : Nat) (hk : 2097154 < k) : ∃ v, spec_ReplyOk.f k r = some v ∧ impl_ReplyOk.f k r = some v := by
  unfold spec_ReplyOk.f impl_ReplyOk.f impl_Answer_87_0.f impl_Answer_113_0.f
  rcases loop r h k 0 (by have := h.2.2.2.2.2.2.1.1; omega) with ⟨j, hj, e1, e2⟩ | ⟨e1, e2⟩
  · refine ⟨false, e2, ?_⟩
    have e3 : impl_Answer_113_0.l0 k 0 r.f6 = some j := e1
    simp only [e3, in_g, Option.bind_some, decide_eq_true hj]
    repeat' split
    all_goals rfl
  · have e3 : impl_Answer_113_0.l0 k 0 r.f6 = some (-1) := e1
    have e4 : spec_ReplyOk.l0 k 0 r = _ := e2
    rw [e4, spec_ReplyOk.l0, if_neg (Int.lt_irrefl _), e3]
    simp only [in_f, in_g, Option.bind_some]
    by_cases c0 : (r.f0.size : Int) = 32
    · rw [if_pos c0, if_pos c0]
      cases decide (0 ≤ r.f1 ∧ r.f1 ≤ 1000000000) <;> cases decide (0 ≤ r.f2 ∧ r.f2 ≤ 19999) <;> cases decide (0 ≤ r.f3 ∧ r.f3 ≤ 19999) <;> cases decide (0 ≤ r.f4 ∧ r.f4 ≤ 99) <;> cases decide (0 ≤ r.f5 ∧ r.f5 ≤ 2) <;> first | exact ⟨_, rfl, rfl⟩ | skip
      by_cases c1 : (r.f6.length : Int) ≤ 3
      · by_cases c2 : (r.f7.size : Int) = 15
        · exact ⟨true, by simp [c1, c2], by simp [c2]; omega⟩
        · exact ⟨false, by simp [c1]; omega, by simp [c2]⟩
      · exact ⟨false, by simp; omega, by simp; omega⟩
    · rw [if_neg c0, if_neg c0]
      exact ⟨_, rfl, rfl⟩

theorem reply_text (a : S74) (hc : sm74 a) (hw : (a.f6.map wa).sum ≤ 1048576) : ∃ K, ∀ k, K ≤ k → ∃ q, spec_ReplyText.f k a = some q ∧ impl_ReplyText.f k a = some q := by
  obtain ⟨it, ⟨K1, c1⟩, ⟨K2, c2⟩, hz⟩ := reply a hc hw
  have hz4 : sz (item4 a.f7) ≤ 1048592 := by
    have h7 := hc.2.2.2.2.2.2.2.1
    rw [sz4]
    omega
  have hl : ([it, item4 a.f7].map sz).sum ≤ 2000000000 := by
    simp only [List.map_cons, List.map_nil, List.sum_cons, List.sum_nil]
    omega
  have hl2 : sz (⟨48, (⟨#[]⟩ : ByteArray), [it, item4 a.f7]⟩ : S110) ≤ 3000000000 := by rw [sz_list]; omega
  obtain ⟨K5, l1⟩ := list_item [it, item4 a.f7] (by omega)
  obtain ⟨r, ⟨K3, r1⟩, ⟨K4, r2⟩⟩ := item_text ⟨48, (⟨#[]⟩ : ByteArray), [it, item4 a.f7]⟩ (by omega)
  clear hl hl2 hz4 hz
  refine ⟨8388608 + K1 + K2 + K3 + K4 + K5, fun k hk => ?_⟩
  obtain ⟨v, v1, v2⟩ := agree a hc k (by omega)
  unfold spec_ReplyText.f impl_ReplyText.f
  rw [v1, v2]
  cases v with
  | false => exact ⟨_, rfl, rfl⟩
  | true =>
    have c1 := c1 k (by omega)
    have c2 := c2 k (by omega)
    have l1 := l1 k (by omega)
    have r1 := r1 k (by omega)
    have r2 := r2 k (by omega)
    have e1 : spec_l09Bytes.f a.f7 = some (item4 a.f7) := rfl
    have e2 : impl_bytesItem.f a.f7 = some (item4 a.f7) := rfl
    simp only [c1, c2, e1, e2, l1, r1, r2, Option.bind_some, if_true]
    exact ⟨_, rfl, rfl⟩
theorem uni {α : Type} (P : α → Nat → Prop) : ∀ l : List α, (∀ e ∈ l, ∃ K, ∀ k, K ≤ k → P e k) → ∃ K, ∀ k, K ≤ k → ∀ e ∈ l, P e k
  | [], _ => ⟨0, fun _ _ e he => by cases he⟩
  | x :: l, h => by
    obtain ⟨K, hK⟩ := uni P l fun e he => h e (List.mem_cons_of_mem _ he)
    obtain ⟨J, hJ⟩ := h x (List.mem_cons_self ..)
    refine ⟨K + J, fun k hk e he => ?_⟩
    rcases List.mem_cons.1 he with rfl | he
    · exact hJ k (by omega)
    · exact hK k (by omega) e he
end Go.Proofs.YtfiifjlapaefaaaGreat.ReplyFnExactSaidBy

/- FnExactAskNow, as numbers and lists: both ask alike. -/
import Derived.Test.YtoaoncnbimcdgaaItemFnExactAskNow
namespace Go.Proofs.Ytoaoncnbimcdgaa.PureFnExactAskNow
open Go.RowKit Go.Proofs.YtoaoncnbimcdgaaW.PrintWords Go.Proofs.YtoaoncnbimcdgaaW.PrintLast Go.Proofs.Ytoaoncnbimcdgaa.ZOpen Go.Proofs.Ytoaoncnbimcdgaa.Z Go.Proofs.Ytoaoncnbimcdgaa.F
open Go.Proofs.Ytoaoncnbimcdgaa.SaidFnExactAskNow Go.Proofs.Ytoaoncnbimcdgaa.ZP Go.Proofs.Ytoaoncnbimcdgaa.FamFnExactAskNow Go.Proofs.Ytoaoncnbimcdgaa.ItemFnExactAskNow
set_option linter.unusedVariables false
set_option linter.unusedSimpArgs false

theorem copy_loop {α β : Type} (K : Nat) (xs : List α) (L : Nat → List α → Int → Option β) (res : Option β)
    (h1 : ∀ k i l (hi : i < xs.length), K ≤ k → l.length = i → L (k + 1) l (i : Int) = L k (l ++ [xs[i]]) ((i + 1 : Nat) : Int)) (h2 : ∀ k, L (k + 1) xs (xs.length : Int) = res) :
    ∀ (m i k : Nat), xs.length - i = m → i ≤ xs.length → m + K < k → L k (xs.take i) (i : Int) = res := by
  intro m
  induction m with
  | zero =>
    intro i k hm hi hk
    obtain ⟨k, rfl⟩ : ∃ q, k = q + 1 := ⟨k - 1, by omega⟩
    obtain rfl : i = xs.length := by omega
    rw [List.take_length]
    exact h2 k
  | succ m ih =>
    intro i k hm hi hk
    obtain ⟨k, rfl⟩ : ∃ q, k = q + 1 := ⟨k - 1, by omega⟩
    have hil : i < xs.length := by omega
    rw [h1 k i _ hil (by omega) (by rw [List.length_take]; omega), ← List.take_succ_eq_append_getElem hil]
    exact ih (i + 1) k (by omega) (by omega) (by omega)
theorem w1 (i : Nat) (hi : i ≤ 1048576) : wrap64 ((i : Int) + 1) = ((i + 1 : Nat) : Int) := by rw [w64 (by omega) (by omega)]; rfl
theorem reply_f (r : S40) (h : sm40 r) (k : Nat) (hk : 1048577 ≤ k) : spec_l15Copy.f k r = some r := by
  have h6 := h.2.2.2.2.2.2.1
  have hl := h6.1
  unfold spec_l15Copy.f
  refine copy_loop 0 r.f6 (fun k l i => spec_l15Copy.l0 k l i r) (some r) (fun k i l hi _ hr => ?_) (fun k => ?_) r.f6.length 0 k rfl (by omega) (by omega)
  · have hs := h6.2 r.f6[i] (List.getElem_mem hi)
    have g1 : (0 + r.f6[i].f2.length ≤ 8796093022208) = True := eq_true (by have := hs.2.2.1.1; omega)
    have g2 : (0 + r.f6[i].f3.length ≤ 8796093022208) = True := eq_true (by have := hs.2.2.2.1.1; omega)
    have g3 : (l.length + 1 ≤ 2199023255552) = True := eq_true (by omega)
    show spec_l15Copy.l0 (k + 1) l (i : Int) r = _
    rw [spec_l15Copy.l0, if_pos (by omega), if_pos (by omega), if_pos (by omega), rd109 _ i hi, w1 i (by omega)]
    simp only [g1, g2, g3, if_true, lets, List.nil_append]
  · show spec_l15Copy.l0 (k + 1) r.f6 _ r = _
    rw [spec_l15Copy.l0, if_neg (by omega)]
theorem reply_same : ∀ (k : Nat) (l : List S109) (x : Int) (a : S40), impl_copyReply.l0 k l x a = spec_l15Copy.l0 k l x a
  | 0, _, _, _ => by rw [impl_copyReply.l0, spec_l15Copy.l0]
  | k + 1, l, x, a => by rw [impl_copyReply.l0, spec_l15Copy.l0]; simp only [reply_same k]
theorem reply_g (r : S40) (h : sm40 r) (k : Nat) (hk : 1048577 ≤ k) : impl_copyReply.f k r = some r := by
  unfold impl_copyReply.f
  rw [reply_same]
  exact reply_f r h k hk
theorem client_f (a : S31) (h : sm31 a) (k : Nat) (hk : 2097155 ≤ k) : spec_l18Copy.f k a = some a := by
  have h2 := h.2.2.1.1
  have h3 := h.2.2.2.1
  have h4 := h.2.2.2.2.1.1
  have hl := h3.1
  unfold spec_l18Copy.f
  rw [if_pos (by omega)]
  simp only [lets, List.nil_append]
  refine copy_loop 1048577 a.f3 (fun k l i => spec_l18Copy.l0 k l i a a.f2) (some a) (fun k i l hi hk hr => ?_) (fun k => ?_) a.f3.length 0 k rfl (by omega) (by omega)
  · have hs : sm40 a.f3[i].f1 := (h3.2 a.f3[i] (List.getElem_mem hi)).2.1
    have hc : (l.length + 1 ≤ 1353245080339) = True := eq_true (by omega)
    show spec_l18Copy.l0 (k + 1) l (i : Int) a a.f2 = _
    rw [spec_l18Copy.l0, if_pos (by omega), if_pos (by omega), if_pos (by omega), rd150 _ i hi, w1 i (by omega), show (⟨a.f3[i].f1.f0, a.f3[i].f1.f1, a.f3[i].f1.f2, a.f3[i].f1.f3, a.f3[i].f1.f4, a.f3[i].f1.f5, a.f3[i].f1.f6, a.f3[i].f1.f7⟩ : S40) = a.f3[i].f1 from rfl, reply_f _ hs k hk]
    simp only [Option.bind_some, hc, if_true, lets]
  · show spec_l18Copy.l0 (k + 1) a.f3 _ a a.f2 = _
    rw [spec_l18Copy.l0, if_neg (by omega), if_pos (by omega)]
    simp only [lets, List.nil_append]
theorem client_g (a : S31) (h : sm31 a) (k : Nat) (hk : 2097155 ≤ k) : impl_copyClient.f k a = some a := by
  have h2 := h.2.2.1.1
  have h3 := h.2.2.2.1
  have h4 := h.2.2.2.2.1.1
  have hl := h3.1
  unfold impl_copyClient.f
  rw [if_pos (by omega)]
  simp only [lets, List.nil_append]
  rw [if_pos (by omega)]
  refine copy_loop 1048577 a.f3 (fun k l i => impl_copyClient.l0 k l i a a.f2 a.f4) (some a) (fun k i l hi hk hr => ?_) (fun k => ?_) a.f3.length 0 k rfl (by omega) (by omega)
  · have hs : sm40 a.f3[i].f1 := (h3.2 a.f3[i] (List.getElem_mem hi)).2.1
    have hc : (l.length + 1 ≤ 1353245080339) = True := eq_true (by omega)
    show impl_copyClient.l0 (k + 1) l (i : Int) a a.f2 a.f4 = _
    rw [impl_copyClient.l0, if_pos (by omega), if_pos (by omega), if_pos (by omega), rd150 _ i hi, w1 i (by omega), show (⟨a.f3[i].f1.f0, a.f3[i].f1.f1, a.f3[i].f1.f2, a.f3[i].f1.f3, a.f3[i].f1.f4, a.f3[i].f1.f5, a.f3[i].f1.f6, a.f3[i].f1.f7⟩ : S40) = a.f3[i].f1 from rfl, reply_g _ hs k hk]
    simp only [Option.bind_some, hc, if_true, lets]
  · show impl_copyClient.l0 (k + 1) a.f3 _ a a.f2 a.f4 = _
    rw [impl_copyClient.l0, if_neg (by omega)]

theorem loop (a : S79) (hn : a.f0.length ≤ 1048576) : ∀ k (i : Int), 0 ≤ i → ((a.f0.length : Int) - i).toNat < k →
    (∃ j, 0 ≤ j ∧ slices_IndexFunc_string_string_0.l0 k i a.f0 = some j ∧ spec_AskOk.l0 k i a = some false) ∨ (slices_IndexFunc_string_string_0.l0 k i a.f0 = some (-1) ∧ spec_AskOk.l0 k i a = spec_AskOk.l0 1 (a.f0.length : Int) a)
  | 0, _, _, h => absurd h (Nat.not_lt_zero _)
  | k + 1, i, h0, h => by
    by_cases c1 : i < (a.f0.length : Int)
    · have e1 : wrap64 (i + 1) = i + 1 := w64 (by omega) (by omega)
      have ih := loop a hn k (i + 1) (by omega) (by omega)
      rw [slices_IndexFunc_string_string_0.l0, spec_AskOk.l0, if_pos c1, if_pos h0, if_pos c1, if_pos c1, if_pos h0, if_pos c1, e1, impl_textsOk_1.f, Option.bind_some]
      by_cases c2 : 400 < ((rdOf ByteArray.empty a.f0 i).size : Int)
      · rw [if_pos (decide_eq_true c2), if_pos c2]
        exact .inl ⟨i, h0, rfl, rfl⟩
      · rw [if_neg (by simpa using c2), if_neg c2]
        exact ih
    · refine .inr ⟨?_, ?_⟩
      · rw [slices_IndexFunc_string_string_0.l0, if_neg c1]
      · rw [spec_AskOk.l0, if_neg c1, spec_AskOk.l0, if_neg (Int.lt_irrefl _)]

theorem agree (a : S79) (hn : a.f0.length ≤ 1048576) (k : Nat) (hk : a.f0.length < k) : ∃ v, spec_AskOk.f k a = some v ∧ impl_AskOk.f k a = some v := by
  unfold spec_AskOk.f impl_AskOk.f impl_textsOk.f slices_ContainsFunc_string_string_0.f slices_IndexFunc_string_string_0.f impl_timeOk.f
  rcases loop a hn k 0 (by omega) (by omega) with ⟨j, hj, e1, e2⟩ | ⟨e1, e2⟩
  · refine ⟨false, e2, ?_⟩
    simp only [e1, Option.bind_some, decide_eq_true hj]
    by_cases c1 : 1 ≤ (a.f0.length : Int)
    · rw [if_pos c1]
      by_cases c2 : (a.f0.length : Int) ≤ 3
      · rw [if_pos c2]; rfl
      · rw [if_neg c2]; rfl
    · rw [if_neg c1]
  · rw [e2, spec_AskOk.l0, if_neg (Int.lt_irrefl _)]
    unfold spec_l09Num.f
    simp only [e1, in_f, in_g, Option.bind_some]
    by_cases c1 : 1 ≤ (a.f0.length : Int)
    · by_cases c2 : (a.f0.length : Int) ≤ 3
      · have e0 : (!decide ((0 : Int) ≤ -1)) = true := by decide
        rw [if_pos (decide_eq_true ⟨c1, c2⟩), if_pos c1, if_pos c2, Option.bind_some, e0, if_pos rfl]
        refine Exists.imp (fun v (hv : _ = some v) => ⟨hv, hv⟩) ?_
        split
        · split
          · split
            · exact ⟨_, rfl⟩
            · exact ⟨_, rfl⟩
          · exact ⟨_, rfl⟩
        · exact ⟨_, rfl⟩
      · rw [if_neg (by simpa using fun _ => by omega), if_pos c1, if_neg c2]
        exact ⟨_, rfl, rfl⟩
    · rw [if_neg (by simpa using fun h => absurd h c1), if_neg c1]
      exact ⟨_, rfl, rfl⟩


theorem same (a : S79) (hn : a.f0.length ≤ 1048576) : ∀ (k q : Nat) (i : Int), 0 ≤ i → ((a.f0.length : Int) - i).toNat < k → ((a.f0.length : Int) - i).toNat < q → spec_AskOk.l0 k i a = spec_AskOk.l0 q i a
  | 0, _, _, _, h, _ => absurd h (Nat.not_lt_zero _)
  | _ + 1, 0, _, _, _, h => absurd h (Nat.not_lt_zero _)
  | k + 1, q + 1, i, h0, h, h' => by
    by_cases c1 : i < (a.f0.length : Int)
    · have e1 : wrap64 (i + 1) = i + 1 := w64 (by omega) (by omega)
      have ih := same a hn k q (i + 1) (by omega) (by omega) (by omega)
      rw [spec_AskOk.l0, spec_AskOk.l0, e1, ih]
    · rw [spec_AskOk.l0, spec_AskOk.l0, if_neg c1, if_neg c1]
theorem agrees (a : S79) (hn : a.f0.length ≤ 1048576) : ∃ v, Evt (fun k => spec_AskOk.f k a) v ∧ Evt (fun k => impl_AskOk.f k a) v := by
  obtain ⟨v, v1, v2⟩ := agree a hn (a.f0.length + 1) (by omega)
  have key : ∀ k, a.f0.length + 1 ≤ k → spec_AskOk.f k a = some v ∧ impl_AskOk.f k a = some v := fun k hk => by
    obtain ⟨u, u1, u2⟩ := agree a hn k (by omega)
    have : spec_AskOk.f k a = spec_AskOk.f (a.f0.length + 1) a := same a hn k _ 0 (by omega) (by omega) (by omega)
    rw [u1, v1] at this
    obtain rfl := Option.some.inj this
    exact ⟨u1, u2⟩
  exact ⟨v, ⟨_, fun k hk => (key k hk).1⟩, ⟨_, fun k hk => (key k hk).2⟩⟩
def item4 (s : ByteArray) : S100 := ⟨4, s, []⟩
theorem texts (l : List ByteArray) (h : l.length ≤ 1048576) : Evt (fun k => spec_l14Texts.f k l) ⟨48, (⟨#[]⟩ : ByteArray), l.map item4⟩ ∧ Evt (fun k => impl_each_string_0.f k l) ⟨48, (⟨#[]⟩ : ByteArray), l.map item4⟩ := by
  have hl : (l.map item4).length = l.length := List.length_map _
  have e1 : ∀ i : Nat, i < l.length → wrap64 ((i : Int) + 1) = ((i + 1 : Nat) : Int) := fun i hi => by rw [w64 (by omega) (by omega)]; rfl
  have hg : ∀ i (hi : i < (l.map item4).length), Evt (fun _ => some (item4 (rdOf ByteArray.empty l (i : Int)))) (l.map item4)[i] := by
    intro i hi
    have : rdOf ByteArray.empty l (i : Int) = l[i]'(by omega) := by simp [rdOf, show i < l.length by omega]
    rw [this, List.getElem_map]
    exact Evt.now
  refine ⟨(map_loop (l.map item4) (fun k r i => spec_l14Texts.l0 k r i l) _ _ (fun k i r hi hr => ?_) (Evt.of fun k => ?_) hg _ 0 rfl (Nat.zero_le _)).eq (fun k => rfl), (map_loop (l.map item4) (fun k r i => impl_each_string_0.l0 k r i l) _ _ (fun k i r hi hr => ?_) (Evt.of fun k => ?_) hg _ 0 rfl (Nat.zero_le _)).eq (fun k => rfl)⟩
  · have hc : (r.length + 1 ≤ 2932031007402) = True := eq_true (by omega)
    show spec_l14Texts.l0 (k + 1) r (i : Int) l = _
    rw [spec_l14Texts.l0, if_pos (by omega), if_pos (by omega), if_pos (by omega), e1 i (by omega)]
    simp only [hc, if_true, lets]
    rfl
  · show spec_l14Texts.l0 (k + 1) _ _ l = _
    rw [spec_l14Texts.l0, if_neg (by omega)]
  · have hc : (r.length + 1 ≤ 2932031007402) = True := eq_true (by omega)
    show impl_each_string_0.l0 (k + 1) r (i : Int) l = _
    rw [impl_each_string_0.l0, if_pos (by omega), if_pos (by omega), if_pos (by omega), e1 i (by omega)]
    simp only [hc, if_true, lets]
    rfl
  · show impl_each_string_0.l0 (k + 1) _ _ l = _
    rw [impl_each_string_0.l0, if_neg (by omega)]
def itemB (b : Bool) : S100 := if b = true then ⟨1, (⟨#[255]⟩ : ByteArray), []⟩ else ⟨1, (⟨#[0]⟩ : ByteArray), []⟩
theorem bool_f (b : Bool) : spec_l09Bool.f b = some (itemB b) := by cases b <;> rfl
theorem bool_g (b : Bool) : impl_boolItem.f b = some (itemB b) := bool_f b


theorem it_size (x : S100) (r : ByteArray × Bool) (h : Evt (fun k => spec_ItemText.f k x) r) : r.1.size ≤ 4000 := by
  obtain ⟨K, hK⟩ := h
  have h := hK K (Nat.le_refl _)
  simp only [spec_ItemText.f] at h
  cases e : spec_ItemOk.f K x with
  | none => rw [e] at h; cases h
  | some b =>
    rw [e, Option.bind_some] at h
    cases b with
    | false => obtain rfl := Option.some.inj h; exact Nat.zero_le _
    | true =>
      rw [if_pos rfl] at h
      cases e2 : spec_l07Text.f K x with
      | none => rw [e2] at h; cases h
      | some t =>
        rw [e2, Option.bind_some] at h
        by_cases c : 4000 < (t.size : Int)
        · rw [if_pos c] at h; obtain rfl := Option.some.inj h; exact Nat.zero_le _
        · rw [if_neg c] at h; obtain rfl := Option.some.inj h; show t.size ≤ 4000; omega
theorem ask_text (a : S79) (h : a.f0.length ≤ 1048576 ∧ ∀ e ∈ a.f0, e.size ≤ 1048576) : ∃ q, Evt (fun k => spec_AskText.f k a) q ∧ Evt (fun k => impl_AskText.f k a) q ∧ q.1.size ≤ 4000 := by
  obtain ⟨t1, t2⟩ := texts a.f0 h.1
  obtain ⟨i1, a1, b1, _, i1k, i1s⟩ := int_item a.f1
  obtain ⟨i2, a2, b2, _, i2k, i2s⟩ := int_item a.f2
  obtain ⟨i3, a3, b3, _, i3k, i3s⟩ := int_item a.f3
  obtain ⟨i4, a4, b4, _, i4k, i4s⟩ := int_item a.f4
  have hz : ∀ it : S100, it.f2 = [] → it.f1.size ≤ 16 → sz it ≤ 32 := fun it h1 h2 => by rw [sz_eq, h1]; simp; omega
  have hb : sz (itemB a.f5) ≤ 32 := by
    unfold itemB
    split
    · exact hz _ rfl (by decide)
    · exact hz _ rfl (by decide)
  have ht : sz (⟨48, (⟨#[]⟩ : ByteArray), a.f0.map item4⟩ : S100) ≤ 16 + 1048576 * 1048592 := by
    rw [sz_list]
    have h1 := sum_le sz 1048592 (a.f0.map item4) (fun e he => by
      obtain ⟨s, hs', rfl⟩ := List.mem_map.1 he
      have := h.2 s hs'
      rw [sz_eq]
      show 16 + s.size + _ ≤ _
      simp [item4]
      omega)
    rw [List.length_map] at h1
    have h2 : a.f0.length * 1048592 ≤ 1048576 * 1048592 := Nat.mul_le_mul_right _ h.1
    omega
  have hl : ([⟨48, (⟨#[]⟩ : ByteArray), a.f0.map item4⟩, i1, i2, i3, i4, itemB a.f5].map sz).sum ≤ 35184372088000 := by
    have := hz i1 i1k i1s
    have := hz i2 i2k i2s
    have := hz i3 i3k i3s
    have := hz i4 i4k i4s
    simp only [List.map_cons, List.map_nil, List.sum_cons, List.sum_nil]
    omega
  have l1 := list_item [⟨48, (⟨#[]⟩ : ByteArray), a.f0.map item4⟩, i1, i2, i3, i4, itemB a.f5] (by omega)
  obtain ⟨r, r1, r2⟩ := item_text ⟨48, (⟨#[]⟩ : ByteArray), [⟨48, (⟨#[]⟩ : ByteArray), a.f0.map item4⟩, i1, i2, i3, i4, itemB a.f5]⟩ (by rw [sz_list]; omega)
  obtain ⟨v, v1, v2⟩ := agrees a h.1
  cases v with
  | false =>
    refine ⟨((⟨#[]⟩ : ByteArray), false), ?_, ?_, Nat.zero_le _⟩
    · unfold spec_AskText.f
      exact Evt.bind v1 (.of fun k => rfl)
    · unfold impl_AskText.f
      exact Evt.bind v2 (.of fun k => rfl)
  | true =>
    refine ⟨r, ?_, ?_, it_size _ _ r1⟩
    · unfold spec_AskText.f
      refine Evt.bind v1 ?_
      simp only [if_true]
      refine Evt.bind t1 (Evt.bind a1 (Evt.bind a2 (Evt.bind a3 (Evt.bind a4 ?_))))
      simp only [bool_f, Option.bind_some]
      exact Evt.bind r1 Evt.now
    · unfold impl_AskText.f
      refine Evt.bind v2 ?_
      simp only [if_true]
      refine Evt.bind t2 (Evt.bind b1 (Evt.bind b2 (Evt.bind b3 (Evt.bind b4 ?_))))
      simp only [bool_g, Option.bind_some]
      exact Evt.bind l1 (Evt.bind r2 Evt.now)
/-! ### who waits -/
theorem waits (a : S31) (n : Int) (h : a.f2.length ≤ 1048576) : ∀ (m i : Nat), a.f2.length - i = m → i ≤ a.f2.length →
    (∃ j, 0 ≤ j ∧ Evt (fun k => impl_Wait_145_0.l0 k (i : Int) a.f2 n) j ∧ Evt (fun k => spec_l18Knows.l0 k (i : Int) a n) true) ∨
    (Evt (fun k => impl_Wait_145_0.l0 k (i : Int) a.f2 n) (-1) ∧ ∀ b, Evt (fun k => spec_l18Knows.l1 k 0 a n) b → Evt (fun k => spec_l18Knows.l0 k (i : Int) a n) b) := by
  intro m
  induction m with
  | zero =>
    intro i hm hi
    obtain rfl : i = a.f2.length := by omega
    refine .inr ⟨Evt.succ (.of fun k => ?_), fun b hb => Evt.succ (hb.eq fun k => ?_)⟩
    · rw [impl_Wait_145_0.l0, if_neg (by omega)]
    · rw [spec_l18Knows.l0, if_neg (by omega)]
  | succ m ih =>
    intro i hm hi
    have hil : i < a.f2.length := by omega
    have ef : ∀ k, spec_l18Knows.l0 (k + 1) (i : Int) a n = if a.f2[i].f0 = n then some true else spec_l18Knows.l0 k ((i + 1 : Nat) : Int) a n := fun k => by
      rw [spec_l18Knows.l0, if_pos (by omega), if_pos (by omega), if_pos (by omega), rd89 _ i hil, w1 i (by omega)]
    have eg : ∀ k, impl_Wait_145_0.l0 (k + 1) (i : Int) a.f2 n = if (a.f2[i].f0 == n) = true then some (i : Int) else impl_Wait_145_0.l0 k ((i + 1 : Nat) : Int) a.f2 n := fun k => by
      rw [impl_Wait_145_0.l0, if_pos (by omega), if_pos (by omega), if_pos (by omega), rd89 _ i hil, w1 i (by omega)]
      rfl
    by_cases c : a.f2[i].f0 = n
    · exact .inl ⟨i, by omega, Evt.succ (.of fun k => by rw [eg, if_pos (beq_iff_eq.2 c)]), Evt.succ (.of fun k => by rw [ef, if_pos c])⟩
    · have c' : ¬ (a.f2[i].f0 == n) = true := fun h => c (beq_iff_eq.1 h)
      rcases ih (i + 1) (by omega) (by omega) with ⟨j, h0, h1, h2⟩ | ⟨h1, h2⟩
      · exact .inl ⟨j, h0, Evt.succ (h1.eq fun k => by rw [eg, if_neg c']), Evt.succ (h2.eq fun k => by rw [ef, if_neg c])⟩
      · exact .inr ⟨Evt.succ (h1.eq fun k => by rw [eg, if_neg c']), fun b hb => Evt.succ ((h2 b hb).eq fun k => by rw [ef, if_neg c])⟩
theorem gots (a : S31) (n : Int) (h : a.f3.length ≤ 1048576) : ∀ (m i : Nat), a.f3.length - i = m → i ≤ a.f3.length →
    (∃ j, 0 ≤ j ∧ Evt (fun k => impl_Got_146_0.l0 k (i : Int) a.f3 n) j ∧ Evt (fun k => spec_l18Knows.l1 k (i : Int) a n) true) ∨
    (Evt (fun k => impl_Got_146_0.l0 k (i : Int) a.f3 n) (-1) ∧ Evt (fun k => spec_l18Knows.l1 k (i : Int) a n) false) := by
  intro m
  induction m with
  | zero =>
    intro i hm hi
    obtain rfl : i = a.f3.length := by omega
    refine .inr ⟨Evt.succ (.of fun k => ?_), Evt.succ (.of fun k => ?_)⟩
    · rw [impl_Got_146_0.l0, if_neg (by omega)]
    · rw [spec_l18Knows.l1, if_neg (by omega)]
  | succ m ih =>
    intro i hm hi
    have hil : i < a.f3.length := by omega
    have ef : ∀ k, spec_l18Knows.l1 (k + 1) (i : Int) a n = if a.f3[i].f0 = n then some true else spec_l18Knows.l1 k ((i + 1 : Nat) : Int) a n := fun k => by
      rw [spec_l18Knows.l1, if_pos (by omega), if_pos (by omega), if_pos (by omega), rd150 _ i hil, w1 i (by omega)]
    have eg : ∀ k, impl_Got_146_0.l0 (k + 1) (i : Int) a.f3 n = if (a.f3[i].f0 == n) = true then some (i : Int) else impl_Got_146_0.l0 k ((i + 1 : Nat) : Int) a.f3 n := fun k => by
      rw [impl_Got_146_0.l0, if_pos (by omega), if_pos (by omega), if_pos (by omega), rd150 _ i hil, w1 i (by omega)]
      rfl
    by_cases c : a.f3[i].f0 = n
    · exact .inl ⟨i, by omega, Evt.succ (.of fun k => by rw [eg, if_pos (beq_iff_eq.2 c)]), Evt.succ (.of fun k => by rw [ef, if_pos c])⟩
    · have c' : ¬ (a.f3[i].f0 == n) = true := fun h => c (beq_iff_eq.1 h)
      rcases ih (i + 1) (by omega) (by omega) with ⟨j, h0, h1, h2⟩ | ⟨h1, h2⟩
      · exact .inl ⟨j, h0, Evt.succ (h1.eq fun k => by rw [eg, if_neg c']), Evt.succ (h2.eq fun k => by rw [ef, if_neg c])⟩
      · exact .inr ⟨Evt.succ (h1.eq fun k => by rw [eg, if_neg c']), Evt.succ (h2.eq fun k => by rw [ef, if_neg c])⟩
theorem knows (a : S31) (n : Int) (ha : sm31 a) : ∃ w g : Bool, Evt (fun k => impl_Wait_95_0.f k a.f2 n) w ∧ Evt (fun k => impl_Got_97_0.f k a.f3 n) g ∧ Evt (fun k => spec_l18Knows.f k a n) (w || g) := by
  have g3 : ∃ g : Bool, Evt (fun k => impl_Got_97_0.f k a.f3 n) g ∧ Evt (fun k => spec_l18Knows.l1 k 0 a n) g := by
    rcases gots a n ha.2.2.2.1.1 _ 0 rfl (Nat.zero_le _) with ⟨j, h0, h1, h2⟩ | ⟨h1, h2⟩
    · exact ⟨true, Evt.bind (g := fun _ t => some (decide (0 ≤ t))) h1 (.of fun k => by rw [decide_eq_true h0]), h2⟩
    · exact ⟨false, Evt.bind (g := fun _ t => some (decide (0 ≤ t))) h1 (.of fun k => rfl), h2⟩
  obtain ⟨g, e1, e2⟩ := g3
  rcases waits a n ha.2.2.1.1 _ 0 rfl (Nat.zero_le _) with ⟨j, h0, h1, h2⟩ | ⟨h1, h2⟩
  · exact ⟨true, g, Evt.bind (g := fun _ t => some (decide (0 ≤ t))) h1 (.of fun k => by rw [decide_eq_true h0]), e1, by rw [Bool.true_or]; exact h2⟩
  · exact ⟨false, g, Evt.bind (g := fun _ t => some (decide (0 ≤ t))) h1 (.of fun k => rfl), e1, by rw [Bool.false_or]; exact h2 g e2⟩
theorem main (a : S31) (b : S79) (id span : Int) (ha : sm31 a) (hb : b.f0.length ≤ 1048576 ∧ ∀ e ∈ b.f0, e.size ≤ 1048576) :
    ∃ r, Evt (fun k => spec_AskNow.f k a b id span) r ∧ Evt (fun k => impl_AskNow.f k a b id span) r ∧ sm31 r.1 := by
  obtain ⟨w, g, ⟨K1, kw⟩, ⟨K2, kg⟩, ⟨K3, kn⟩⟩ := knows a id ha
  obtain ⟨q, ⟨K4, qf⟩, ⟨K5, qg⟩, qs⟩ := ask_text ⟨b.f0, b.f1, b.f2, (if b.f5 = true then 0 else id), b.f4, b.f5⟩ hb
  have ea : (⟨a.f0, a.f1, a.f2, a.f3, a.f4⟩ : S31) = a := rfl
  have eb : spec_l14Copy.f b = some b := by
    unfold spec_l14Copy.f
    rw [if_pos (by have := hb.1; omega)]
    rfl
  by_cases P : q.2 = true ∧ (1 ≤ id ∧ id ≤ 1000000000) ∧ w = false ∧ g = false ∧ ¬ 4 ≤ (a.f2.length : Int) ∧ (1 ≤ span ∧ span ≤ 999) ∧ (0 ≤ a.f1 ∧ a.f1 ≤ 99999)
  · obtain ⟨p1, p2, rfl, rfl, p3, p4, p5⟩ := P
    have hl : (a.f2.length + 1 ≤ 3518437208883) = True := eq_true (by omega)
    refine ⟨(⟨a.f0, a.f1, a.f2 ++ [⟨id, (if b.f5 = true then 0 else id), q.1, wrap64 (a.f1 + span)⟩], a.f3, a.f4⟩, q.1, true), ⟨2097155 + K1 + K2 + K3 + K4 + K5, fun k hk => ?_⟩, ⟨2097155 + K1 + K2 + K3 + K4 + K5, fun k hk => ?_⟩, ?_⟩
    · have qf := qf k (by omega)
      have kn := kn k (by omega)
      simp only at qf kn
      show spec_AskNow.f k a b id span = _
      unfold spec_AskNow.f
      simp only [client_f a ha k (by omega), eb, Option.bind_some]
      by_cases f5 : b.f5 = true
      · simp only [f5, if_true] at qf ⊢
        simp only [qf, kn, in_f, p1, p3, decide_eq_true p2, decide_eq_true p4, decide_eq_true p5, Option.bind_some, if_true, if_false, Bool.or_false, Bool.false_eq_true, hl, lets, f5]
      · replace f5 : b.f5 = false := by simpa using f5
        simp only [f5, Bool.false_eq_true, if_false] at qf ⊢
        simp only [qf, kn, in_f, p1, p3, decide_eq_true p2, decide_eq_true p4, decide_eq_true p5, Option.bind_some, if_true, if_false, Bool.or_false, Bool.false_eq_true, hl, lets, f5]
    · have qg := qg k (by omega)
      have kw := kw k (by omega)
      have kg := kg k (by omega)
      simp only at qg kw kg
      show impl_AskNow.f k a b id span = _
      unfold impl_AskNow.f
      by_cases f5 : b.f5 = true
      · simp only [f5, if_true] at qg ⊢
        simp only [client_g a ha k (by omega), kw, kg, in_g, p3, decide_eq_true p2, decide_eq_true p4, decide_eq_true p5, Option.bind_some, if_true, if_false, Bool.false_eq_true]
        simp only [qg, p1, Option.bind_some, if_true, hl, lets, f5]
      · replace f5 : b.f5 = false := by simpa using f5
        simp only [f5, Bool.false_eq_true, if_false] at qg ⊢
        simp only [client_g a ha k (by omega), kw, kg, in_g, p3, decide_eq_true p2, decide_eq_true p4, decide_eq_true p5, Option.bind_some, if_true, if_false, Bool.false_eq_true]
        simp only [qg, p1, Option.bind_some, if_true, if_false, hl, lets, f5]
    · refine ⟨ha.1, trivial, ⟨?_, fun e he => ?_⟩, ha.2.2.2⟩
      · show (a.f2 ++ [_]).length ≤ _
        rw [List.length_append, List.length_singleton]; omega
      · rcases List.mem_append.1 he with h | h
        · exact ha.2.2.1.2 e h
        · rw [List.mem_singleton.1 h]; exact ⟨trivial, trivial, by show q.1.size ≤ _; omega, trivial, trivial⟩
  · refine ⟨(a, (⟨#[]⟩ : ByteArray), false), ⟨2097155 + K1 + K2 + K3 + K4 + K5, fun k hk => ?_⟩, ⟨2097155 + K1 + K2 + K3 + K4 + K5, fun k hk => ?_⟩, ha⟩
    · have qf := qf k (by omega)
      have kn := kn k (by omega)
      simp only at qf kn
      show spec_AskNow.f k a b id span = _
      unfold spec_AskNow.f
      simp only [client_f a ha k (by omega), eb, Option.bind_some]
      by_cases f5 : b.f5 = true
      · simp only [f5, if_true] at qf ⊢
        simp only [qf, kn, in_f, Option.bind_some, ea]
        clear qf kn ha hb eb qg kw kg
        (repeat' split) <;> first | rfl | (exfalso; apply P; simp_all)
      · replace f5 : b.f5 = false := by simpa using f5
        simp only [f5, Bool.false_eq_true, if_false] at qf ⊢
        simp only [qf, kn, in_f, Option.bind_some, ea]
        clear qf kn ha hb eb qg kw kg
        (repeat' split) <;> first | rfl | (exfalso; apply P; simp_all)
    · have qg := qg k (by omega)
      have kw := kw k (by omega)
      have kg := kg k (by omega)
      simp only at qg kw kg
      show impl_AskNow.f k a b id span = _
      unfold impl_AskNow.f
      by_cases f5 : b.f5 = true
      · simp only [f5, if_true] at qg ⊢
        simp only [client_g a ha k (by omega), kw, kg, in_g, Option.bind_some, qg, ea]
        clear qf kn ha hb eb qg kw kg
        (repeat' split) <;> first | rfl | (exfalso; apply P; simp_all)
      · replace f5 : b.f5 = false := by simpa using f5
        simp only [f5, Bool.false_eq_true, if_false] at qg ⊢
        simp only [client_g a ha k (by omega), kw, kg, in_g, Option.bind_some, qg, ea]
        clear qf kn ha hb eb qg kw kg
        (repeat' split) <;> first | rfl | (exfalso; apply P; simp_all)
theorem pure : Pure := by
  intro s p id span hs hp hid hspan
  by_cases hsm : sm26 s ∧ sm75 p
  · obtain ⟨h1, h2⟩ := hsm
    have hc := smcv26 s h1
    have hc2 := smcv75 p h2
    obtain ⟨r, ⟨K1, f⟩, ⟨K2, g⟩, hr⟩ := main (cv26 s) (cv75 p) id span hc hc2.1
    obtain ⟨k, hk⟩ : ∃ k, k = 8388608 + K1 + K2 := ⟨_, rfl⟩
    refine ⟨k, ?_⟩
    have f := f k (by omega)
    have g := g k (by omega)
    simp only at f g
    unfold laws_FnExactAskNow.f
    obtain ⟨n1, e1, b1, g1⟩ := sz_7 s hs 1048576 (by omega) (by omega) k (by omega)
    rw [e1, Option.bind_some]
    by_cases c : n1 < 0
    · rw [if_pos c]
    rw [if_neg c]
    obtain ⟨n2, e2, b2, g2⟩ := sz_30 p hp n1 (by omega) (by omega) k (by omega)
    rw [e2, Option.bind_some]
    by_cases c2 : n2 < 0
    · rw [if_pos c2]
    rw [if_neg c2]
    obtain ⟨m1, r1, r2, r3, q1, q2, q3, _⟩ := mk_12 _ hc 1 (by omega) (by omega) k (by omega)
    obtain ⟨m3, r4, o1, o2, o3, _⟩ := mk_35 _ hc2 m1 (by omega) (by omega) k (by omega)
    obtain ⟨m2, s1, s2, s3, p1, p2, _, p3⟩ := mk_12 r.1 hr 1 (by omega) (by omega) k (by omega)
    simp only [to_9 s h1 k (by omega), to_32 p h2 k (by omega), Option.bind_some, f, g, eq_11 r.1 hr k (by omega), eq_11 _ hc k (by omega), eq_34 _ hc2 k (by omega), q1, o1, p1, p3 k (by omega), if_true, show ¬ m3 < 0 by omega, show ¬ m2 < 0 by omega, if_false]
  · refine ⟨8388608, ?_⟩
    unfold laws_FnExactAskNow.f
    obtain ⟨n1, e1, b1, g1⟩ := sz_7 s hs 1048576 (by omega) (by omega) 8388608 (by omega)
    rw [e1, Option.bind_some]
    by_cases c : n1 < 0
    · rw [if_pos c]
    rw [if_neg c]
    obtain ⟨n2, e2, b2, g2⟩ := sz_30 p hp n1 (by omega) (by omega) 8388608 (by omega)
    rw [e2, Option.bind_some]
    by_cases c2 : n2 < 0
    · rw [if_pos c2]
    exact absurd ⟨g1 (by omega), g2 (by omega)⟩ hsm
end Go.Proofs.Ytoaoncnbimcdgaa.PureFnExactAskNow

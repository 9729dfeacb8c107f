/- Questions: the two ways of writing one, and of reading one, agree; one that is written is read. Plain lemmas, no condition. -/
import Derived.Test.YtfcpjeeeddjakaaGreatIntFnAsks
namespace Go.Proofs.YtfcpjeeeddjakaaGreat.AskFnAsks
open Go.RowKit YtfcpjeeeddjakaaGreatW.PrintWords YtfcpjeeeddjakaaGreatW.PrintLast ZOpen Z F
open ZP ItemFnAsks ReadFnAsks IntFnAsks
set_option linter.unusedVariables false
set_option linter.unusedSimpArgs false
set_option maxHeartbeats 4000000
def SmA (x : S26) : Prop := (x.f0.length ≤ 1048576 ∧ ∀ e ∈ x.f0, e.size ≤ 1048576) ∧ True ∧ True ∧ True ∧ True ∧ True ∧ True
theorem texts_in (x : S66) (h : x.f2.length ≤ 1048576) : Evt (fun k => spec_l09TextsIn.f k x) (x.f2.map S66.f1) := by
  have key : ∀ (m i : Nat), x.f2.length - i = m → i ≤ x.f2.length → Evt (fun k => spec_l09TextsIn.l0 k ((x.f2.take i).map S66.f1) (i : Int) x) (x.f2.map S66.f1) := by
    intro m
    induction m with
    | zero =>
      intro i hm hi
      obtain rfl : i = x.f2.length := by omega
      refine Evt.succ (.of fun k => ?_)
      rw [spec_l09TextsIn.l0, if_neg (by omega), List.take_length]
    | succ m ih =>
      intro i hm hi
      have hil : i < x.f2.length := by omega
      have hc : (((x.f2.take i).map S66.f1).length + 1 ≤ 8796093022208) = True := eq_true (by rw [List.length_map, List.length_take]; omega)
      have := ih (i + 1) (by omega) (by omega)
      rw [List.take_succ_eq_append_getElem hil, List.map_append] at this
      refine Evt.succ (this.eq (fun k => ?_))
      rw [spec_l09TextsIn.l0, if_pos (by omega), if_pos (by omega), if_pos (by omega), rdit _ i hil, show wrap64 ((i : Int) + 1) = ((i + 1 : Nat) : Int) by rw [w64 (by omega) (by omega)]; rfl]
      simp only [hc, if_true, lets]
      rfl
  exact (key _ 0 rfl (by omega)).eq (fun k => by unfold spec_l09TextsIn.f; rfl)
theorem text_g (b : Bool) (x : S66) (n : Int) : impl_opener_text_0.f (⟨b⟩ : S77) x n = some (x.f1, (⟨b || (x.f0 != n)⟩ : S77)) := by
  cases b <;> simp [impl_opener_text_0.f]
theorem flag_g (b : Bool) (x : S66) : impl_opener_flag_0.f (⟨b⟩ : S77) x = some ((x.f1.toList == ([255] : List UInt8)), (⟨b || (x.f0 != 1)⟩ : S77)) := by
  unfold impl_opener_flag_0.f
  rw [text_g, Option.bind_some]
theorem list_m (b : Bool) (x : S66) : impl_opener_list_0.f (⟨b⟩ : S77) x (-1) = if x.f0 = 48 then some ((true, 0), (⟨b⟩ : S77)) else some ((false, 0), (⟨true⟩ : S77)) := by
  unfold impl_opener_list_0.f
  by_cases c : x.f0 = 48
  · rw [if_pos c, if_pos c, if_neg (by omega)]
  · rw [if_neg c, if_neg c, if_pos (by omega)]
theorem list_6 (x : S66) : impl_opener_list_0.f (⟨false⟩ : S77) x 6 = if x.f0 = 48 ∧ (x.f2.length : Int) = 6 then some ((true, 0), (⟨false⟩ : S77)) else some ((false, 6), (⟨true⟩ : S77)) := by
  unfold impl_opener_list_0.f
  by_cases c : x.f0 = 48
  · by_cases d : (x.f2.length : Int) = 6
    · rw [if_pos c, if_pos (by omega), if_pos d, if_pos ⟨c, d⟩]
    · rw [if_pos c, if_pos (by omega), if_neg d, if_neg (by omega), if_pos (by omega), if_pos (by decide), if_neg (fun h => d h.2)]
      rfl
  · rw [if_neg c, if_neg (by omega), if_pos (by omega), if_pos (by decide), if_neg (fun h => c h.1)]
    rfl
theorem kids_6 (x : S66) : spec_l09Kids.f x 6 = some ((), decide (x.f0 = 48 ∧ (x.f2.length : Int) = 6)) := by
  unfold spec_l09Kids.f
  by_cases c : x.f0 = 48
  · rw [if_pos c]
    by_cases d : (x.f2.length : Int) = 6
    · rw [decide_eq_true ⟨c, d⟩, d]; rfl
    · rw [decide_eq_false (fun h => d h.2), beq_false_of_ne d]
  · rw [if_neg c, decide_eq_false (fun h => c h.1)]
theorem texts_g (b : Bool) (x : S66) (h : x.f2.length ≤ 1048576) (hk : x.f0 ≠ 48 → x.f2 = []) :
    ∃ b' : Bool, Evt (fun k => impl_opener_texts_0.f k (⟨b⟩ : S77) x 4) (x.f2.map S66.f1, (⟨b'⟩ : S77)) ∧ (b = true → b' = true) ∧ (b = false → x.f0 = 48 → (∀ y ∈ x.f2, y.f0 = 4) → b' = false) := by
  by_cases c : x.f0 = 48
  · have key : ∀ (m i : Nat) (b : Bool), x.f2.length - i = m → i ≤ x.f2.length → ∃ b' : Bool, Evt (fun k => impl_opener_texts_0.l0 k ((x.f2.take i).map S66.f1) (i : Int) b x 4) (x.f2.map S66.f1, (⟨b'⟩ : S77)) ∧ (b = true → b' = true) ∧ (b = false → (∀ y ∈ x.f2, y.f0 = 4) → b' = false) := by
      intro m
      induction m with
      | zero =>
        intro i b hm hi
        obtain rfl : i = x.f2.length := by omega
        refine ⟨b, Evt.succ (.of fun k => ?_), id, fun h _ => h⟩
        rw [impl_opener_texts_0.l0, if_neg (by omega), List.take_length]
      | succ m ih =>
        intro i b hm hi
        have hil : i < x.f2.length := by omega
        have hc : (((x.f2.take i).map S66.f1).length + 1 ≤ 8796093022208) = True := eq_true (by rw [List.length_map, List.length_take]; omega)
        obtain ⟨b', e, h1, h2⟩ := ih (i + 1) (b || (x.f2[i].f0 != 4)) (by omega) (by omega)
        rw [List.take_succ_eq_append_getElem hil, List.map_append] at e
        refine ⟨b', Evt.succ (e.eq (fun k => ?_)), fun hb => h1 (by rw [hb]; rfl), fun hb hy => h2 (by rw [hb, hy _ (List.getElem_mem hil)]; rfl) hy⟩
        rw [impl_opener_texts_0.l0, if_pos (by omega), if_pos (by omega), if_pos (by omega), rdit _ i hil, text_g, show wrap64 ((i : Int) + 1) = ((i + 1 : Nat) : Int) by rw [w64 (by omega) (by omega)]; rfl]
        simp only [Option.bind_some, hc, if_true, lets]
        rfl
    obtain ⟨b', e, h1, h2⟩ := key _ 0 b rfl (by omega)
    refine ⟨b', e.eq (fun k => ?_), h1, fun hb _ hy => h2 hb hy⟩
    unfold impl_opener_texts_0.f
    rw [list_m, if_pos c]
    rfl
  · refine ⟨true, Evt.succ (.of fun k => ?_), fun _ => rfl, fun _ h => absurd h c⟩
    unfold impl_opener_texts_0.f
    rw [list_m, if_neg c, hk c, Option.bind_some, if_neg (by simp), impl_opener_texts_0.l1, if_neg (by simp)]
    rfl
theorem num_g (b : Bool) (x : S66) (r : Int × Bool) (h : Evt (fun k => impl_IntIn.f k x) r) : Evt (fun k => impl_opener_num_0.f k (⟨b⟩ : S77) x) (r.1, (⟨b || !r.2⟩ : S77)) := by
  unfold impl_opener_num_0.f
  refine Evt.bind h (.of fun k => ?_)
  cases b <;> rfl
theorem loop (a : S26) (hn : a.f0.length ≤ 1048576) : ∀ k (i : Int), 0 ≤ i → ((a.f0.length : Int) - i).toNat < k →
    (∃ j, 0 ≤ j ∧ slices_IndexFunc_string_string_0.l0 k i a.f0 = some j ∧ spec_AskOk.l0 k i a = some false) ∨ (slices_IndexFunc_string_string_0.l0 k i a.f0 = some (-1) ∧ spec_AskOk.l0 k i a = spec_AskOk.l0 1 (a.f0.length : Int) a)
  | 0, _, _, h => absurd h (Nat.not_lt_zero _)
  | k + 1, i, h0, h => by
    by_cases c1 : i < (a.f0.length : Int)
    · have e1 : wrap64 (i + 1) = i + 1 := w64 (by omega) (by omega)
      have ih := loop a hn k (i + 1) (by omega) (by omega)
      rw [slices_IndexFunc_string_string_0.l0, spec_AskOk.l0, if_pos c1, if_pos h0, if_pos c1, if_pos c1, if_pos h0, if_pos c1, e1, impl_textsOk_1.f, Option.bind_some]
      by_cases c2 : 400 < ((rdOf ByteArray.empty a.f0 i).size : Int)
      · rw [if_pos (decide_eq_true c2), if_pos c2]
        exact .inl ⟨i, h0, rfl, rfl⟩
      · rw [if_neg (by simpa using c2), if_neg c2]
        exact ih
    · refine .inr ⟨?_, ?_⟩
      · rw [slices_IndexFunc_string_string_0.l0, if_neg c1]
      · rw [spec_AskOk.l0, if_neg c1, spec_AskOk.l0, if_neg (Int.lt_irrefl _)]
theorem agree (a : S26) (hn : a.f0.length ≤ 1048576) (k : Nat) (hk : a.f0.length < k) : ∃ v, spec_AskOk.f k a = some v ∧ impl_AskOk.f k a = some v := by
  unfold spec_AskOk.f impl_AskOk.f impl_textsOk.f slices_ContainsFunc_string_string_0.f slices_IndexFunc_string_string_0.f impl_timeOk.f
  rcases loop a hn k 0 (by omega) (by omega) with ⟨j, hj, e1, e2⟩ | ⟨e1, e2⟩
  · refine ⟨false, e2, ?_⟩
    simp only [e1, Option.bind_some, decide_eq_true hj]
    by_cases c1 : 1 ≤ (a.f0.length : Int)
    · rw [if_pos c1]
      by_cases c2 : (a.f0.length : Int) ≤ 3
      · rw [if_pos c2]; rfl
      · rw [if_neg c2]; rfl
    · rw [if_neg c1]
  · rw [e2, spec_AskOk.l0, if_neg (Int.lt_irrefl _)]
    unfold spec_l09Num.f
    simp only [e1, in_f, in_g, Option.bind_some]
    by_cases c1 : 1 ≤ (a.f0.length : Int)
    · by_cases c2 : (a.f0.length : Int) ≤ 3
      · have e0 : (!decide ((0 : Int) ≤ -1)) = true := by decide
        rw [if_pos (decide_eq_true ⟨c1, c2⟩), if_pos c1, if_pos c2, Option.bind_some, e0, if_pos rfl]
        refine Exists.imp (fun v (hv : _ = some v) => ⟨hv, hv⟩) ?_
        split
        · split
          · split
            · exact ⟨_, rfl⟩
            · exact ⟨_, rfl⟩
          · exact ⟨_, rfl⟩
        · exact ⟨_, rfl⟩
      · rw [if_neg (by simpa using fun _ => by omega), if_pos c1, if_neg c2]
        exact ⟨_, rfl, rfl⟩
    · rw [if_neg (by simpa using fun h => absurd h c1), if_neg c1]
      exact ⟨_, rfl, rfl⟩
theorem same (a : S26) (hn : a.f0.length ≤ 1048576) : ∀ (k q : Nat) (i : Int), 0 ≤ i → ((a.f0.length : Int) - i).toNat < k → ((a.f0.length : Int) - i).toNat < q → spec_AskOk.l0 k i a = spec_AskOk.l0 q i a
  | 0, _, _, _, h, _ => absurd h (Nat.not_lt_zero _)
  | _ + 1, 0, _, _, _, h => absurd h (Nat.not_lt_zero _)
  | k + 1, q + 1, i, h0, h, h' => by
    by_cases c1 : i < (a.f0.length : Int)
    · have e1 : wrap64 (i + 1) = i + 1 := w64 (by omega) (by omega)
      have ih := same a hn k q (i + 1) (by omega) (by omega) (by omega)
      rw [spec_AskOk.l0, spec_AskOk.l0, e1, ih]
    · rw [spec_AskOk.l0, spec_AskOk.l0, if_neg c1, if_neg c1]
theorem agrees (a : S26) (hn : a.f0.length ≤ 1048576) : ∃ v, Evt (fun k => spec_AskOk.f k a) v ∧ Evt (fun k => impl_AskOk.f k a) v := by
  obtain ⟨v, v1, v2⟩ := agree a hn (a.f0.length + 1) (by omega)
  have key : ∀ k, a.f0.length + 1 ≤ k → spec_AskOk.f k a = some v ∧ impl_AskOk.f k a = some v := fun k hk => by
    obtain ⟨u, u1, u2⟩ := agree a hn k (by omega)
    have : spec_AskOk.f k a = spec_AskOk.f (a.f0.length + 1) a := same a hn k _ 0 (by omega) (by omega) (by omega)
    rw [u1, v1] at this
    obtain rfl := Option.some.inj this
    exact ⟨u1, u2⟩
  exact ⟨v, ⟨_, fun k hk => (key k hk).1⟩, ⟨_, fun k hk => (key k hk).2⟩⟩
def item4 (s : ByteArray) : S66 := ⟨4, s, []⟩
theorem texts (l : List ByteArray) (h : l.length ≤ 1048576) : Evt (fun k => spec_l14Texts.f k l) ⟨48, (⟨#[]⟩ : ByteArray), l.map item4⟩ ∧ Evt (fun k => impl_each_string_0.f k l) ⟨48, (⟨#[]⟩ : ByteArray), l.map item4⟩ := by
  have hl : (l.map item4).length = l.length := List.length_map _
  have e1 : ∀ i : Nat, i < l.length → wrap64 ((i : Int) + 1) = ((i + 1 : Nat) : Int) := fun i hi => by rw [w64 (by omega) (by omega)]; rfl
  have hg : ∀ i (hi : i < (l.map item4).length), Evt (fun _ => some (item4 (rdOf ByteArray.empty l (i : Int)))) (l.map item4)[i] := by
    intro i hi
    have : rdOf ByteArray.empty l (i : Int) = l[i]'(by omega) := by simp [rdOf, show i < l.length by omega]
    rw [this, List.getElem_map]
    exact Evt.now
  refine ⟨(map_loop (l.map item4) (fun k r i => spec_l14Texts.l0 k r i l) _ _ (fun k i r hi hr => ?_) (Evt.of fun k => ?_) hg _ 0 rfl (Nat.zero_le _)).eq (fun k => rfl), (map_loop (l.map item4) (fun k r i => impl_each_string_0.l0 k r i l) _ _ (fun k i r hi hr => ?_) (Evt.of fun k => ?_) hg _ 0 rfl (Nat.zero_le _)).eq (fun k => rfl)⟩
  · have hc : (r.length + 1 ≤ 2932031007402) = True := eq_true (by omega)
    show spec_l14Texts.l0 (k + 1) r (i : Int) l = _
    rw [spec_l14Texts.l0, if_pos (by omega), if_pos (by omega), if_pos (by omega), e1 i (by omega)]
    simp only [hc, if_true, lets]
    rfl
  · show spec_l14Texts.l0 (k + 1) _ _ l = _
    rw [spec_l14Texts.l0, if_neg (by omega)]
  · have hc : (r.length + 1 ≤ 2932031007402) = True := eq_true (by omega)
    show impl_each_string_0.l0 (k + 1) r (i : Int) l = _
    rw [impl_each_string_0.l0, if_pos (by omega), if_pos (by omega), if_pos (by omega), e1 i (by omega)]
    simp only [hc, if_true, lets]
    rfl
  · show impl_each_string_0.l0 (k + 1) _ _ l = _
    rw [impl_each_string_0.l0, if_neg (by omega)]
def itemB (b : Bool) : S66 := if b = true then ⟨1, (⟨#[255]⟩ : ByteArray), []⟩ else ⟨1, (⟨#[0]⟩ : ByteArray), []⟩
theorem bool_f (b : Bool) : spec_l09Bool.f b = some (itemB b) := by cases b <;> rfl
theorem bool_g (b : Bool) : impl_boolItem.f b = some (itemB b) := bool_f b
theorem itemB_tag (b : Bool) : (itemB b).f0 = 1 := by cases b <;> rfl
theorem itemB_sz (b : Bool) : sz (itemB b) ≤ 32 := by cases b <;> (unfold itemB; simp only [if_true, if_false, Bool.false_eq_true]; rw [sz_plain]; decide)
noncomputable def kidsA (a : S26) : List S66 := [⟨48, (⟨#[]⟩ : ByteArray), a.f0.map item4⟩, intI (nOf a.f1), intI (nOf a.f2), intI (nOf a.f3), intI (nOf a.f4), itemB a.f5]
noncomputable def itemA (a : S26) : S66 := ⟨48, (⟨#[]⟩ : ByteArray), kidsA a⟩
theorem itemA_small (a : S26) (h : a.f0.length ≤ 1048576 ∧ ∀ e ∈ a.f0, e.size ≤ 1048576) : sz (itemA a) ≤ 35184372088000 := by
  have hb := itemB_sz a.f5
  have ht : sz (⟨48, (⟨#[]⟩ : ByteArray), a.f0.map item4⟩ : S66) ≤ 16 + 1048576 * 1048592 := by
    rw [sz_list]
    have h1 := sum_le sz 1048592 (a.f0.map item4) (fun e he => by
      obtain ⟨s, hs', rfl⟩ := List.mem_map.1 he
      have := h.2 s hs'
      unfold item4
      rw [sz_plain]
      omega)
    rw [List.length_map] at h1
    have h2 : a.f0.length * 1048592 ≤ 1048576 * 1048592 := Nat.mul_le_mul_right _ h.1
    omega
  have n1 := sz_intI _ (nOf_in a.f1).1 (nOf_in a.f1).2
  have n2 := sz_intI _ (nOf_in a.f2).1 (nOf_in a.f2).2
  have n3 := sz_intI _ (nOf_in a.f3).1 (nOf_in a.f3).2
  have n4 := sz_intI _ (nOf_in a.f4).1 (nOf_in a.f4).2
  unfold itemA kidsA
  rw [sz_list]
  simp only [List.map_cons, List.map_nil, List.sum_cons, List.sum_nil]
  omega
theorem ask_text (a : S26) (h : a.f0.length ≤ 1048576 ∧ ∀ e ∈ a.f0, e.size ≤ 1048576) : ∃ q, Evt (fun k => spec_AskText.f k a) q ∧ Evt (fun k => impl_AskText.f k a) q ∧
    (q.2 = true → Small (itemA a) ∧ Ok (itemA a) 0 ∧ q.1 = strOfNums (tl (itemA a)) ∧ (tl (itemA a)).length ≤ 4000) := by
  have hsm := itemA_small a h
  have hS : Small (itemA a) := by show sz _ ≤ _; omega
  obtain ⟨r, r1, r2⟩ := item_text (itemA a) hS
  obtain ⟨t1, t2⟩ := texts a.f0 h.1
  obtain ⟨a1, b1⟩ := int_vals a.f1
  obtain ⟨a2, b2⟩ := int_vals a.f2
  obtain ⟨a3, b3⟩ := int_vals a.f3
  obtain ⟨a4, b4⟩ := int_vals a.f4
  have hz := sz_list (kidsA a)
  have hl := list_item (kidsA a) (by have : sz (itemA a) = 16 + ((kidsA a).map sz).sum := hz; omega)
  obtain ⟨v, v1, v2⟩ := agrees a h.1
  cases v with
  | false =>
    refine ⟨((⟨#[]⟩ : ByteArray), false), ?_, ?_, fun h => by cases h⟩
    · unfold spec_AskText.f
      exact Evt.bind v1 (.of fun k => rfl)
    · unfold impl_AskText.f
      exact Evt.bind v2 (.of fun k => rfl)
  | true =>
    refine ⟨r, ?_, ?_, fun h2 => ⟨hS, ok_text hS r1 h2⟩⟩
    · unfold spec_AskText.f
      refine Evt.bind v1 ?_
      simp only [if_true]
      refine Evt.bind t1 (Evt.bind a1 (Evt.bind a2 (Evt.bind a3 (Evt.bind a4 ?_))))
      simp only [bool_f, Option.bind_some]
      exact Evt.bind r1 Evt.now
    · unfold impl_AskText.f
      refine Evt.bind v2 ?_
      simp only [if_true]
      refine Evt.bind t2 (Evt.bind b1 (Evt.bind b2 (Evt.bind b3 (Evt.bind b4 ?_))))
      simp only [bool_g, Option.bind_some]
      exact Evt.bind hl (Evt.bind r2 Evt.now)
theorem sz_text {x : S66} : x.f1.size ≤ sz x := by have := sz_eq x; omega
theorem zer_ask : SmA (⟨([] : List ByteArray), 0, 0, 0, 0, false⟩ : S26) := ⟨⟨by simp, fun e he => by cases he⟩, trivial, trivial, trivial, trivial, trivial, trivial⟩
theorem main (t : ByteArray) : ∃ r : S26 × Bool, Evt (fun k => spec_ReadAsk.f k t) r ∧ Evt (fun k => impl_ReadAsk.f k t) r ∧ SmA r.1 := by
  obtain ⟨⟨x, b⟩, r1, r2, r3⟩ := read_item t
  rcases r3 with ⟨hb, hok, ht, hl, hz⟩ | hr
  · obtain rfl : b = true := hb
    have hS : Small x := by show sz x ≤ _; have : sz x ≤ 1048576 := hz; omega
    have hz' : sz x ≤ 1048576 := hz
    by_cases c : x.f0 = 48 ∧ (x.f2.length : Int) = 6
    · obtain ⟨y0, y1, y2, y3, y4, y5, hy⟩ : ∃ y0 y1 y2 y3 y4 y5, x.f2 = [y0, y1, y2, y3, y4, y5] := by
        have h6 := c.2
        revert h6
        generalize x.f2 = l
        intro h6
        match l, h6 with
        | [y0, y1, y2, y3, y4, y5], _ => exact ⟨y0, y1, y2, y3, y4, y5, rfl⟩
        | [], h => simp at h
        | [_], h => simp at h
        | [_, _], h => simp at h
        | [_, _, _], h => simp at h
        | [_, _, _, _], h => simp at h
        | [_, _, _, _, _], h => simp at h
        | _ :: _ :: _ :: _ :: _ :: _ :: _ :: _, h => simp at h; omega
      have hkid : ∀ y ∈ x.f2, sz y ≤ 1048576 ∧ Small y := fun y hy => by
        have := sz_kid hy
        exact ⟨by omega, by show sz y ≤ _; omega⟩
      have hoks := ok_list hS (by omega) hok c.1
      have k0 := hkid y0 (by rw [hy]; simp)
      have k1 := hkid y1 (by rw [hy]; simp)
      have k2 := hkid y2 (by rw [hy]; simp)
      have k3 := hkid y3 (by rw [hy]; simp)
      have k4 := hkid y4 (by rw [hy]; simp)
      have l0 : y0.f2.length ≤ 1048576 := by have := sz_len y0; omega
      have hk0 : y0.f0 ≠ 48 → y0.f2 = [] := fun h => by
        have h0 := hoks.2.2.2 0 (by rw [hy]; simp)
        have e : x.f2[0]'(by rw [hy]; simp) = y0 := by simp [hy]
        rw [e] at h0
        exact (ok_plain h0 h).1
      have q0 : rd_T66 x.f2 0 = y0 := by rw [hy]; rfl
      have q1 : rd_T66 x.f2 1 = y1 := by rw [hy]; rfl
      have q2 : rd_T66 x.f2 2 = y2 := by rw [hy]; rfl
      have q3 : rd_T66 x.f2 3 = y3 := by rw [hy]; rfl
      have q4 : rd_T66 x.f2 4 = y4 := by rw [hy]; rfl
      have q5 : rd_T66 x.f2 5 = y5 := by rw [hy]; rfl
      have c0 : ((0 : Int) < (x.f2.length : Int)) = True := eq_true (by omega)
      have c1 : ((1 : Int) < (x.f2.length : Int)) = True := eq_true (by omega)
      have c2 : ((2 : Int) < (x.f2.length : Int)) = True := eq_true (by omega)
      have c3 : ((3 : Int) < (x.f2.length : Int)) = True := eq_true (by omega)
      have c4 : ((4 : Int) < (x.f2.length : Int)) = True := eq_true (by omega)
      have c5 : ((5 : Int) < (x.f2.length : Int)) = True := eq_true (by omega)
      have s0 := texts_in y0 l0
      obtain ⟨b0, g0, _, hb0⟩ := texts_g false y0 l0 hk0
      obtain ⟨n1, f1, h1, i1⟩ := int_in y1 k1.2
      obtain ⟨n2, f2, h2, i2⟩ := int_in y2 k2.2
      obtain ⟨n3, f3, h3, i3⟩ := int_in y3 k3.2
      obtain ⟨n4, f4, h4, i4⟩ := int_in y4 k4.2
      have sma : (y0.f2.map S66.f1).length ≤ 1048576 ∧ ∀ e ∈ y0.f2.map S66.f1, e.size ≤ 1048576 := ⟨by rw [List.length_map]; exact l0, fun e he => by
        obtain ⟨z, hz1, rfl⟩ := List.mem_map.1 he
        have := sz_kid hz1
        have := sz_text (x := z)
        omega⟩
      obtain ⟨q, qf, qg, qh⟩ := ask_text (⟨y0.f2.map S66.f1, n1.1, n2.1, n3.1, n4.1, (y5.f1.toList == ([255] : List UInt8))⟩ : S26) sma
      have hbad : q.2 = true → q.1.toList = t.toList → (((((b0 || !n1.2) || !n2.2) || !n3.2) || !n4.2) || (y5.f0 != 1)) = false := fun e1 e2 => by
        obtain ⟨u1, u2, u3, u4⟩ := qh e1
        have e3 : strOfNums (tl x) = strOfNums (tl (itemA (⟨y0.f2.map S66.f1, n1.1, n2.1, n3.1, n4.1, (y5.f1.toList == ([255] : List UInt8))⟩ : S26))) := by
          rw [← u3, ← ht]; exact (toList_inj.1 e2).symm
        have e4 := congrArg S66.f2 (text_inj hS u1 hok u2 hl e3)
        rw [hy] at e4
        simp only [itemA, kidsA, List.cons.injEq] at e4
        obtain ⟨z0, z1, z2, z3, z4, z5, _⟩ := e4
        have d0 : b0 = false := hb0 rfl (by rw [z0]) (fun y hy => by
          rw [z0] at hy
          obtain ⟨s, _, rfl⟩ := List.mem_map.1 hy
          rfl)
        have dn : ∀ (y : S66) (n : Int × Bool) (m : Int), IsInt y n → y = intI (nOf m) → n.2 = true := fun y n m hi e => by
          rcases hi with ⟨_, _, _, _, rfl⟩ | ⟨hn, _⟩
          · rfl
          · exact absurd e (hn _ (nOf_in m).1 (nOf_in m).2)
        rw [d0, dn _ _ _ i1 z1, dn _ _ _ i2 z2, dn _ _ _ i3 z3, dn _ _ _ i4 z4, z5, itemB_tag]
        rfl
      refine ⟨(if q.2 = true then (if q.1.toList = t.toList then ((⟨y0.f2.map S66.f1, n1.1, n2.1, n3.1, n4.1, (y5.f1.toList == ([255] : List UInt8))⟩ : S26), true) else ((⟨([] : List ByteArray), 0, 0, 0, 0, false⟩ : S26), false)) else ((⟨([] : List ByteArray), 0, 0, 0, 0, false⟩ : S26), false)), ?_, ?_, ?_⟩
      · unfold spec_ReadAsk.f
        refine Evt.bind r1 ?_
        simp only [kids_6, decide_eq_true c, Option.bind_some, if_true, c0, c1, c2, c3, c4, c5, q0, q1, q2, q3, q4, q5]
        refine Evt.bind s0 (Evt.bind f1 (Evt.bind f2 (Evt.bind f3 (Evt.bind f4 (Evt.bind qf (Evt.of fun k => ?_))))))
        simp only [some_if]
      · unfold impl_ReadAsk.f
        refine Evt.bind r2 ?_
        simp only [list_6, if_pos c, Option.bind_some, if_true, lets, cond_true, c0, c1, c2, c3, c4, c5, q0, q1, q2, q3, q4, q5]
        refine Evt.bind g0 (Evt.bind (num_g _ _ _ h1) (Evt.bind (num_g _ _ _ h2) (Evt.bind (num_g _ _ _ h3) (Evt.bind (num_g _ _ _ h4) ?_))))
        simp only [flag_g, Option.bind_some]
        refine Evt.bind qg (Evt.of fun k => ?_)
        by_cases e1 : q.2 = true
        · by_cases e2 : q.1.toList = t.toList
          · simp only [hbad e1 e2, e1, e2, if_true, if_false, Bool.false_eq_true]
          · simp only [e1, e2, if_true, if_false, ite_self]
        · simp only [e1, if_false, ite_self, Bool.false_eq_true]
      · split
        · split
          · exact ⟨sma, trivial, trivial, trivial, trivial, trivial, trivial⟩
          · exact zer_ask
        · exact zer_ask
    · have hzs : Small zer := by show sz zer ≤ _; rw [sz_zer]; omega
      obtain ⟨b0, g0, hb0, _⟩ := texts_g true zer (by show 0 ≤ _; omega) (fun _ => rfl)
      obtain ⟨n1, _, h1, _⟩ := int_in zer hzs
      obtain ⟨q, _, qg, _⟩ := ask_text (⟨zer.f2.map S66.f1, n1.1, n1.1, n1.1, n1.1, (zer.f1.toList == ([255] : List UInt8))⟩ : S26) ⟨by show 0 ≤ _; omega, fun e he => by cases he⟩
      obtain rfl := hb0 rfl
      refine ⟨((⟨([] : List ByteArray), 0, 0, 0, 0, false⟩ : S26), false), ?_, ?_, zer_ask⟩
      · unfold spec_ReadAsk.f
        refine Evt.bind r1 ?_
        simp only [kids_6, decide_eq_false c, Option.bind_some, if_true, if_false, Bool.false_eq_true]
        exact Evt.now
      · unfold impl_ReadAsk.f
        refine Evt.bind r2 ?_
        simp only [list_6, if_neg c, Option.bind_some, if_true, if_false, Bool.false_eq_true, lets, cond_false, List.length_replicate, rdrep_T66]
        simp only [show z66 = zer from rfl]
        have p0 : ((0 : Int) < ((6 : Nat) : Int)) = True := eq_true (by omega)
        have p1 : ((1 : Int) < ((6 : Nat) : Int)) = True := eq_true (by omega)
        have p2 : ((2 : Int) < ((6 : Nat) : Int)) = True := eq_true (by omega)
        have p3 : ((3 : Int) < ((6 : Nat) : Int)) = True := eq_true (by omega)
        have p4 : ((4 : Int) < ((6 : Nat) : Int)) = True := eq_true (by omega)
        have p5 : ((5 : Int) < ((6 : Nat) : Int)) = True := eq_true (by omega)
        simp only [p0, p1, p2, p3, p4, p5, if_true]
        refine Evt.bind g0 (Evt.bind (num_g _ _ _ h1) (Evt.bind (num_g _ _ _ h1) (Evt.bind (num_g _ _ _ h1) (Evt.bind (num_g _ _ _ h1) ?_))))
        simp only [flag_g, Option.bind_some, Bool.true_or]
        exact Evt.bind qg (Evt.of fun k => rfl)
  · obtain ⟨rfl, rfl⟩ := Prod.mk.inj hr
    refine ⟨((⟨([] : List ByteArray), 0, 0, 0, 0, false⟩ : S26), false), ?_, ?_, zer_ask⟩
    · unfold spec_ReadAsk.f
      refine Evt.bind r1 ?_
      simp only [kids_6, Option.bind_some, if_false, Bool.false_eq_true]
      exact Evt.now
    · unfold impl_ReadAsk.f
      refine Evt.bind r2 ?_
      simp only [if_false, Bool.false_eq_true]
      exact Evt.now
end Go.Proofs.YtfcpjeeeddjakaaGreat.AskFnAsks

/- FnExactReadReply, as numbers and lists: what both make of a text is the same. -/
import Derived.Test.YtoaoncnbimcdgaaOpenFnExactReadReply
namespace Go.Proofs.Ytoaoncnbimcdgaa.PureFnExactReadReply
open Go.RowKit Go.Proofs.YtoaoncnbimcdgaaW.PrintWords Go.Proofs.YtoaoncnbimcdgaaW.PrintLast Go.Proofs.Ytoaoncnbimcdgaa.ZOpen Go.Proofs.Ytoaoncnbimcdgaa.Z Go.Proofs.Ytoaoncnbimcdgaa.F
open Go.Proofs.Ytoaoncnbimcdgaa.SaidFnExactReadReply Go.Proofs.Ytoaoncnbimcdgaa.ZP Go.Proofs.Ytoaoncnbimcdgaa.FamFnExactReadReply Go.Proofs.Ytoaoncnbimcdgaa.ItemFnExactReadReply Go.Proofs.Ytoaoncnbimcdgaa.ReadFnExactReadReply Go.Proofs.Ytoaoncnbimcdgaa.IntFnExactReadReply Go.Proofs.Ytoaoncnbimcdgaa.OpenFnExactReadReply
set_option linter.unusedVariables false
set_option linter.unusedSimpArgs false
set_option maxHeartbeats 8000000

/-! ### whether a reply is right -/
/-- The texts of an answer: the two ways of looking. -/
theorem textsOk_l (l : List ByteArray) (m : Int) (hn : l.length ≤ 1048576) : ∀ k (i : Int), 0 ≤ i → ((l.length : Int) - i).toNat < k →
    (∃ j, 0 ≤ j ∧ slices_IndexFunc_string_string_0.l0 k i l = some j ∧ spec_l15Texts.l0 k i l m = some false) ∨ (slices_IndexFunc_string_string_0.l0 k i l = some (-1) ∧ spec_l15Texts.l0 k i l m = some (decide ((l.length : Int) ≤ m)))
  | 0, _, _, h => absurd h (Nat.not_lt_zero _)
  | k + 1, i, h0, h => by
    by_cases c1 : i < (l.length : Int)
    · have e1 : wrap64 (i + 1) = i + 1 := w64 (by omega) (by omega)
      have ih := textsOk_l l m hn k (i + 1) (by omega) (by omega)
      rw [slices_IndexFunc_string_string_0.l0, spec_l15Texts.l0, if_pos c1, if_pos h0, if_pos c1, if_pos c1, if_pos h0, if_pos c1, e1, impl_textsOk_1.f, Option.bind_some]
      by_cases c2 : 400 < ((rdOf ByteArray.empty l i).size : Int)
      · rw [if_pos (decide_eq_true c2), if_pos c2]
        exact .inl ⟨i, h0, rfl, rfl⟩
      · rw [if_neg (by simpa using c2), if_neg c2]
        exact ih
    · refine .inr ⟨?_, ?_⟩
      · rw [slices_IndexFunc_string_string_0.l0, if_neg c1]
      · rw [spec_l15Texts.l0, if_neg c1]
theorem textsOk (l : List ByteArray) (m : Int) (hn : l.length ≤ 1048576) (k : Nat) (hk : 1048577 ≤ k) : ∃ v, spec_l15Texts.f k l m = some v ∧ impl_textsOk.f k l m = some v := by
  unfold spec_l15Texts.f impl_textsOk.f slices_ContainsFunc_string_string_0.f slices_IndexFunc_string_string_0.f
  rcases textsOk_l l m hn k 0 (by omega) (by omega) with ⟨j, hj, e1, e2⟩ | ⟨e1, e2⟩
  · refine ⟨false, e2, ?_⟩
    rw [e1]
    simp only [Option.bind_some, decide_eq_true hj]
    split <;> rfl
  · refine ⟨_, e2, ?_⟩
    rw [e1]
    by_cases c : (l.length : Int) ≤ m
    · rw [if_pos c, decide_eq_true c]; rfl
    · rw [if_neg c, decide_eq_false c]
theorem answerOk (a : S109) (h : sm109 a) (k : Nat) (hk : 1048577 ≤ k) : ∃ v, impl_answerOk.f k a = some v ∧ ∀ X : Option Bool,
    ((spec_l01In.f a.f0 0 2).bind fun t16 => (if t16 = true then ((spec_l01In.f a.f1 0 12).bind fun t19 => (if t19 = true then ((spec_l15Texts.f k a.f2 5).bind fun t22 => (if t22 = true then ((spec_l15Texts.f k a.f3 8).bind fun t25 => (if t25 = true then X else (some false))) else (some false))) else (some false))) else (some false))) = if v = true then X else some false := by
  obtain ⟨u, u1, u2⟩ := textsOk a.f2 5 h.2.2.1.1 k hk
  obtain ⟨w, w1, w2⟩ := textsOk a.f3 8 h.2.2.2.1.1 k hk
  unfold impl_answerOk.f
  simp only [in_f, in_g, u1, u2, w1, w2, Option.bind_some]
  refine ⟨decide (0 ≤ a.f0 ∧ a.f0 ≤ 2) && (decide (0 ≤ a.f1 ∧ a.f1 ≤ 12) && (u && w)), ?_, fun X => ?_⟩
  · cases decide (0 ≤ a.f0 ∧ a.f0 ≤ 2) <;> cases decide (0 ≤ a.f1 ∧ a.f1 ≤ 12) <;> cases u <;> cases w <;> rfl
  · cases decide (0 ≤ a.f0 ∧ a.f0 ≤ 2) <;> cases decide (0 ≤ a.f1 ∧ a.f1 ≤ 12) <;> cases u <;> cases w <;> rfl

theorem loop (r : S40) (h : sm40 r) : ∀ k (i : Nat), 1048577 + (r.f6.length - i) < k →
    (∃ j, 0 ≤ j ∧ impl_Answer_183_0.l0 k (i : Int) r.f6 = some j ∧ spec_ReplyOk.l0 k (i : Int) r = some false) ∨ (impl_Answer_183_0.l0 k (i : Int) r.f6 = some (-1) ∧ spec_ReplyOk.l0 k (i : Int) r = spec_ReplyOk.l0 1 (r.f6.length : Int) r)
  | 0, _, h => absurd h (Nat.not_lt_zero _)
  | k + 1, i, hk => by
    have h6 := h.2.2.2.2.2.2.1
    have hx := h6.1
    by_cases c1 : (i : Int) < (r.f6.length : Int)
    · have hi : i < r.f6.length := by omega
      have e1 : wrap64 ((i : Int) + 1) = ((i + 1 : Nat) : Int) := by rw [w64 (by omega) (by omega)]; rfl
      have ih := loop r h k (i + 1) (by omega)
      have hrd := rd109 r.f6 i hi
      obtain ⟨v, v1, v2⟩ := answerOk r.f6[i] (h6.2 _ (List.getElem_mem hi)) k (by omega)
      rw [impl_Answer_183_0.l0, spec_ReplyOk.l0, if_pos c1, if_pos (by omega), if_pos c1, if_pos c1, if_pos (by omega), if_pos c1, e1, hrd, v2, impl_ReplyOk_1.f, v1, Option.bind_some, Option.bind_some]
      cases v
      · exact .inl ⟨i, by omega, rfl, rfl⟩
      · exact ih
    · refine .inr ⟨?_, ?_⟩
      · rw [impl_Answer_183_0.l0, if_neg c1]
      · rw [spec_ReplyOk.l0, if_neg c1, spec_ReplyOk.l0, if_neg (Int.lt_irrefl _)]

theorem agree (r : S40) (h : sm40 r) (k : Nat) (hk : 2097154 < k) : ∃ v, spec_ReplyOk.f k r = some v ∧ impl_ReplyOk.f k r = some v := by
  unfold spec_ReplyOk.f impl_ReplyOk.f impl_Answer_161_0.f impl_Answer_183_0.f
  rcases loop r h k 0 (by have := h.2.2.2.2.2.2.1.1; omega) with ⟨j, hj, e1, e2⟩ | ⟨e1, e2⟩
  · refine ⟨false, e2, ?_⟩
    have e3 : impl_Answer_183_0.l0 k 0 r.f6 = some j := e1
    simp only [e3, in_g, Option.bind_some, decide_eq_true hj]
    repeat' split
    all_goals rfl
  · have e3 : impl_Answer_183_0.l0 k 0 r.f6 = some (-1) := e1
    have e4 : spec_ReplyOk.l0 k 0 r = _ := e2
    rw [e4, spec_ReplyOk.l0, if_neg (Int.lt_irrefl _), e3]
    simp only [in_f, in_g, Option.bind_some]
    by_cases c0 : (r.f0.size : Int) = 32
    · rw [if_pos c0, if_pos c0]
      cases decide (0 ≤ r.f1 ∧ r.f1 ≤ 1000000000) <;> cases decide (0 ≤ r.f2 ∧ r.f2 ≤ 19999) <;> cases decide (0 ≤ r.f3 ∧ r.f3 ≤ 19999) <;> cases decide (0 ≤ r.f4 ∧ r.f4 ≤ 99) <;> cases decide (0 ≤ r.f5 ∧ r.f5 ≤ 2) <;> first | exact ⟨_, rfl, rfl⟩ | skip
      by_cases c1 : (r.f6.length : Int) ≤ 3
      · by_cases c2 : (r.f7.size : Int) = 15
        · exact ⟨true, by simp [c1, c2], by simp [c2]; omega⟩
        · exact ⟨false, by simp [c1]; omega, by simp [c2]⟩
      · exact ⟨false, by simp; omega, by simp; omega⟩
    · rw [if_neg c0, if_neg c0]
      exact ⟨_, rfl, rfl⟩


def okT (l : List ByteArray) (m : Int) : Bool := l.all (fun s => decide (s.size ≤ 400)) && decide ((l.length : Int) ≤ m)
theorem txt_f (l : List ByteArray) (m : Int) (hn : l.length ≤ 1048576) : ∀ (n i k : Nat), l.length - i = n → i ≤ l.length → n < k → spec_l15Texts.l0 k (i : Int) l m = some ((l.drop i).all (fun s => decide (s.size ≤ 400)) && decide ((l.length : Int) ≤ m)) := by
  intro n
  induction n with
  | zero =>
    intro i k hm hi hk
    obtain ⟨k, rfl⟩ : ∃ z, k = z + 1 := ⟨k - 1, by omega⟩
    obtain rfl : i = l.length := by omega
    rw [spec_l15Texts.l0, if_neg (Int.lt_irrefl _), List.drop_length, List.all_nil, Bool.true_and]
  | succ n ih =>
    intro i k hm hi hk
    obtain ⟨k, rfl⟩ : ∃ z, k = z + 1 := ⟨k - 1, by omega⟩
    have hil : i < l.length := by omega
    have e1 : wrap64 ((i : Int) + 1) = ((i + 1 : Nat) : Int) := by rw [w64 (by omega) (by omega)]; rfl
    have hr : rdOf ByteArray.empty l (i : Int) = l[i] := by simp [rdOf, hil]
    rw [spec_l15Texts.l0, if_pos (by omega), if_pos (by omega), if_pos (by omega), hr, e1, ih (i + 1) k (by omega) (by omega) (by omega), List.drop_eq_getElem_cons hil, List.all_cons]
    by_cases c : 400 < (l[i].size : Int)
    · rw [if_pos c, decide_eq_false (show ¬ l[i].size ≤ 400 by omega)]; rfl
    · rw [if_neg c, decide_eq_true (show l[i].size ≤ 400 by omega), Bool.true_and]
theorem txt (l : List ByteArray) (m : Int) (hn : l.length ≤ 1048576) (k : Nat) (hk : 1048577 ≤ k) : spec_l15Texts.f k l m = some (okT l m) := txt_f l m hn _ 0 k rfl (Nat.zero_le _) (by omega)
def okAns (a : S109) : Bool := decide (0 ≤ a.f0 ∧ a.f0 ≤ 2) && (decide (0 ≤ a.f1 ∧ a.f1 ≤ 12) && (okT a.f2 5 && okT a.f3 8))
theorem piece (a : S109) (h : sm109 a) (k : Nat) (hk : 1048577 ≤ k) (X : Option Bool) :
    ((spec_l01In.f a.f0 0 2).bind fun t16 => (if t16 = true then ((spec_l01In.f a.f1 0 12).bind fun t19 => (if t19 = true then ((spec_l15Texts.f k a.f2 5).bind fun t22 => (if t22 = true then ((spec_l15Texts.f k a.f3 8).bind fun t25 => (if t25 = true then X else (some false))) else (some false))) else (some false))) else (some false))) = if okAns a = true then X else some false := by
  unfold okAns
  simp only [in_f, txt _ _ h.2.2.1.1 k hk, txt _ _ h.2.2.2.1.1 k hk, Option.bind_some]
  cases decide (0 ≤ a.f0 ∧ a.f0 ≤ 2) <;> cases decide (0 ≤ a.f1 ∧ a.f1 ≤ 12) <;> cases okT a.f2 5 <;> cases okT a.f3 8 <;> rfl
theorem rp_f (r : S40) (h : sm40 r) : ∀ (n i k : Nat), r.f6.length - i = n → i ≤ r.f6.length → n + 1048577 < k → spec_ReplyOk.l0 k (i : Int) r = if (r.f6.drop i).all okAns = true then spec_ReplyOk.l0 1 (r.f6.length : Int) r else some false := by
  have h6 := h.2.2.2.2.2.2.1
  have hx := h6.1
  intro n
  induction n with
  | zero =>
    intro i k hm hi hk
    obtain ⟨k, rfl⟩ : ∃ z, k = z + 1 := ⟨k - 1, by omega⟩
    obtain rfl : i = r.f6.length := by omega
    rw [List.drop_length, List.all_nil, if_pos rfl, spec_ReplyOk.l0, if_neg (Int.lt_irrefl _), spec_ReplyOk.l0, if_neg (Int.lt_irrefl _)]
  | succ n ih =>
    intro i k hm hi hk
    obtain ⟨k, rfl⟩ : ∃ z, k = z + 1 := ⟨k - 1, by omega⟩
    have hil : i < r.f6.length := by omega
    have c1 : (i : Int) < (r.f6.length : Int) := by omega
    have e1 : wrap64 ((i : Int) + 1) = ((i + 1 : Nat) : Int) := by rw [w64 (by omega) (by omega)]; rfl
    have hs := h6.2 _ (List.getElem_mem hil)
    rw [List.drop_eq_getElem_cons hil, List.all_cons, spec_ReplyOk.l0, if_pos c1, if_pos (by omega), if_pos c1, e1, rd109 _ i hil, piece _ hs k (by omega), ih (i + 1) k (by omega) (by omega) (by omega)]
    cases okAns r.f6[i]
    · rfl
    · rfl
theorem sameOk (r : S40) (h : sm40 r) : ∃ v, Evt (fun k => spec_ReplyOk.f k r) v ∧ Evt (fun k => impl_ReplyOk.f k r) v := by
  have hl := h.2.2.2.2.2.2.1.1
  obtain ⟨v, v1, v2⟩ := agree r h 2097155 (by omega)
  have hm : ∀ k, 2097155 ≤ k → spec_ReplyOk.f k r = some v := fun k hk => by
    rw [← v1]
    exact (rp_f r h _ 0 k rfl (Nat.zero_le _) (by omega)).trans (rp_f r h _ 0 2097155 rfl (Nat.zero_le _) (by omega)).symm
  refine ⟨v, ⟨2097155, hm⟩, ⟨2097155, fun k hk => ?_⟩⟩
  obtain ⟨u, u1, u2⟩ := agree r h k (by omega)
  rw [hm k hk] at u1
  obtain rfl := Option.some.inj u1
  exact u2

/-! ### the text of a reply -/
theorem texts (l : List ByteArray) (h : l.length ≤ 1048576) : Evt (fun k => spec_l14Texts.f k l) ⟨48, (⟨#[]⟩ : ByteArray), l.map item4⟩ ∧ Evt (fun k => impl_each_string_0.f k l) ⟨48, (⟨#[]⟩ : ByteArray), l.map item4⟩ := by
  have hl : (l.map item4).length = l.length := List.length_map _
  have e1 : ∀ i : Nat, i < l.length → wrap64 ((i : Int) + 1) = ((i + 1 : Nat) : Int) := fun i hi => by rw [w64 (by omega) (by omega)]; rfl
  have hg : ∀ i (hi : i < (l.map item4).length), Evt (fun _ => some (item4 (rdOf ByteArray.empty l (i : Int)))) (l.map item4)[i] := by
    intro i hi
    have : rdOf ByteArray.empty l (i : Int) = l[i]'(by omega) := by simp [rdOf, show i < l.length by omega]
    rw [this, List.getElem_map]
    exact Evt.now
  refine ⟨(map_loop (l.map item4) (fun k r i => spec_l14Texts.l0 k r i l) (fun i _ => some (item4 (rdOf ByteArray.empty l (i : Int)))) (⟨48, (⟨#[]⟩ : ByteArray), l.map item4⟩ : S100) (fun k i r hi hr => ?_) (Evt.of fun k => ?_) hg _ 0 rfl (Nat.zero_le _)).eq (fun k => rfl), (map_loop (l.map item4) (fun k r i => impl_each_string_0.l0 k r i l) (fun i _ => some (item4 (rdOf ByteArray.empty l (i : Int)))) (⟨48, (⟨#[]⟩ : ByteArray), l.map item4⟩ : S100) (fun k i r hi hr => ?_) (Evt.of fun k => ?_) hg _ 0 rfl (Nat.zero_le _)).eq (fun k => rfl)⟩
  · have hc : (r.length + 1 ≤ 2932031007402) = True := eq_true (by omega)
    show spec_l14Texts.l0 (k + 1) r (i : Int) l = _
    rw [spec_l14Texts.l0, if_pos (by omega), if_pos (by omega), if_pos (by omega), e1 i (by omega)]
    simp only [hc, if_true, lets]
    rfl
  · show spec_l14Texts.l0 (k + 1) _ _ l = _
    rw [spec_l14Texts.l0, if_neg (by omega)]
  · have hc : (r.length + 1 ≤ 2932031007402) = True := eq_true (by omega)
    show impl_each_string_0.l0 (k + 1) r (i : Int) l = _
    rw [impl_each_string_0.l0, if_pos (by omega), if_pos (by omega), if_pos (by omega), e1 i (by omega)]
    simp only [hc, if_true, lets]
    rfl
  · show impl_each_string_0.l0 (k + 1) _ _ l = _
    rw [impl_each_string_0.l0, if_neg (by omega)]


/-- What an answer weighs. -/
def wa (x : S109) : Nat := (x.f2.length + (x.f2.map ByteArray.size).sum) + (x.f3.length + (x.f3.map ByteArray.size).sum)
noncomputable def ansI (a : S109) : S100 := ⟨48, (⟨#[]⟩ : ByteArray), [intI (nOf a.f0), intI (nOf a.f1), ⟨48, (⟨#[]⟩ : ByteArray), a.f2.map item4⟩, ⟨48, (⟨#[]⟩ : ByteArray), a.f3.map item4⟩]⟩
noncomputable def bodyI (r : S40) : S100 := ⟨48, (⟨#[]⟩ : ByteArray), [item4 r.f0, intI (nOf r.f1), intI (nOf r.f2), intI (nOf r.f3), intI (nOf r.f4), intI (nOf r.f5), ⟨48, (⟨#[]⟩ : ByteArray), r.f6.map ansI⟩]⟩
noncomputable def repI (r : S40) : S100 := ⟨48, (⟨#[]⟩ : ByteArray), [bodyI r, item4 r.f7]⟩
theorem sz_ans (x : S109) : sz (ansI x) ≤ 112 + 16 * wa x := by
  have z1 := sz_intI _ (nOf_in x.f0).1 (nOf_in x.f0).2
  have z2 := sz_intI _ (nOf_in x.f1).1 (nOf_in x.f1).2
  have z3 := sz4s x.f2
  have z4 := sz4s x.f3
  unfold ansI wa
  rw [sz_list]
  simp only [List.map_cons, List.map_nil, List.sum_cons, List.sum_nil, sz_list]
  omega
theorem answer (x : S109) (h : sm109 x) (hw : wa x ≤ 1048576) : Evt (fun k => impl_replyItem_1.f k x) (ansI x) := by
  obtain ⟨_, b1⟩ := int_vals x.f0
  obtain ⟨_, b2⟩ := int_vals x.f1
  obtain ⟨_, b3⟩ := texts x.f2 h.2.2.1.1
  obtain ⟨_, b4⟩ := texts x.f3 h.2.2.2.1.1
  have hz := sz_ans x
  have e := sz_list [intI (nOf x.f0), intI (nOf x.f1), ⟨48, (⟨#[]⟩ : ByteArray), x.f2.map item4⟩, ⟨48, (⟨#[]⟩ : ByteArray), x.f3.map item4⟩]
  have l1 := list_item [intI (nOf x.f0), intI (nOf x.f1), ⟨48, (⟨#[]⟩ : ByteArray), x.f2.map item4⟩, ⟨48, (⟨#[]⟩ : ByteArray), x.f3.map item4⟩] (by unfold ansI at hz; omega)
  unfold impl_replyItem_1.f
  exact Evt.bind b1 (Evt.bind b2 (Evt.bind b3 (Evt.bind b4 (Evt.bind l1 Evt.now))))
theorem sz_answers : ∀ l : List S109, ((l.map ansI).map sz).sum ≤ 112 * l.length + 16 * (l.map wa).sum
  | [] => by simp
  | a :: l => by
    have := sz_answers l
    have := sz_ans a
    simp only [List.map_cons, List.sum_cons, List.length_cons]
    omega
theorem sz_body (a : S40) (h : sm40 a) (hw : (a.f6.map wa).sum ≤ 1048576) : sz (bodyI a) ≤ 1000000000 := by
  have z1 := sz_intI _ (nOf_in a.f1).1 (nOf_in a.f1).2
  have z2 := sz_intI _ (nOf_in a.f2).1 (nOf_in a.f2).2
  have z3 := sz_intI _ (nOf_in a.f3).1 (nOf_in a.f3).2
  have z4 := sz_intI _ (nOf_in a.f4).1 (nOf_in a.f4).2
  have z5 := sz_intI _ (nOf_in a.f5).1 (nOf_in a.f5).2
  have z0 := sz4 a.f0
  have hz := h.1
  have h6 := h.2.2.2.2.2.2.1.1
  have hs := sz_answers a.f6
  unfold bodyI
  rw [sz_list]
  simp only [List.map_cons, List.map_nil, List.sum_cons, List.sum_nil, sz_list]
  omega
theorem sz_rep (a : S40) (h : sm40 a) (hw : (a.f6.map wa).sum ≤ 1048576) : sz (repI a) ≤ 1002000000 := by
  have h1 := sz_body a h hw
  have h2 := sz4 a.f7
  have h3 := h.2.2.2.2.2.2.2.1
  unfold repI
  rw [sz_list]
  simp only [List.map_cons, List.map_nil, List.sum_cons, List.sum_nil]
  omega
theorem body_items (a : S40) (h : sm40 a) (hw : (a.f6.map wa).sum ≤ 1048576) : Evt (fun k => spec_l15Item.f k a) (bodyI a) ∧ Evt (fun k => impl_replyItem.f k a) (bodyI a) := by
  have h6 := h.2.2.2.2.2.2.1
  have hlen := h6.1
  have hml : (a.f6.map ansI).length = a.f6.length := List.length_map _
  have hwi : ∀ i (hi : i < a.f6.length), wa a.f6[i] ≤ 1048576 := fun i hi => Nat.le_trans (sum_mem (List.mem_map_of_mem (f := wa) (List.getElem_mem hi))) hw
  obtain ⟨a1, b1⟩ := int_vals a.f1
  obtain ⟨a2, b2⟩ := int_vals a.f2
  obtain ⟨a3, b3⟩ := int_vals a.f3
  obtain ⟨a4, b4⟩ := int_vals a.f4
  obtain ⟨a5, b5⟩ := int_vals a.f5
  have e1 : ∀ i : Nat, i < a.f6.length → wrap64 ((i : Int) + 1) = ((i + 1 : Nat) : Int) := fun i hi => by rw [w64 (by omega) (by omega)]; rfl
  refine ⟨?_, ?_⟩
  · have e5 : ∀ s, spec_l09Bytes.f s = some (item4 s) := fun s => rfl
    have st : Evt (fun k => (spec_l09Bytes.f a.f0).bind fun t302001 => ((spec_IntItem.f k a.f1).bind fun t305001 => ((spec_IntItem.f k a.f2).bind fun t308001 => ((spec_IntItem.f k a.f3).bind fun t311001 => ((spec_IntItem.f k a.f4).bind fun t314001 => ((spec_IntItem.f k a.f5).bind fun t317001 => (some (⟨48, (⟨#[]⟩ : ByteArray), ([t302001, t305001, t308001, t311001, t314001, t317001, (⟨48, (⟨#[]⟩ : ByteArray), a.f6.map ansI⟩ : S100)] : List S100)⟩ : S100))))))))  (bodyI a) := by
      simp only [e5, Option.bind_some]
      exact Evt.bind a1 (Evt.bind a2 (Evt.bind a3 (Evt.bind a4 (Evt.bind a5 Evt.now))))
    refine (map_loop (a.f6.map ansI) (fun k l i => spec_l15Item.l0 k l i a) (fun i k => (spec_IntItem.f k ((rd_T109 a.f6 (i : Int)).f0)).bind fun t1 => (spec_IntItem.f k ((rd_T109 a.f6 (i : Int)).f1)).bind fun t2 => (spec_l14Texts.f k ((rd_T109 a.f6 (i : Int)).f2)).bind fun t3 => (spec_l14Texts.f k ((rd_T109 a.f6 (i : Int)).f3)).bind fun t4 => some (⟨48, (⟨#[]⟩ : ByteArray), [t1, t2, t3, t4]⟩ : S100)) (bodyI a) (fun k i l hi hll => ?_) (st.eq fun k => ?_) (fun i hi => ?_) _ 0 rfl (Nat.zero_le _)).eq (fun k => rfl)
    · have hc : (l.length + 1 ≤ 2932031007402) = True := eq_true (by omega)
      show spec_l15Item.l0 (k + 1) l (i : Int) a = _
      rw [spec_l15Item.l0, if_pos (by omega), if_pos (by omega), if_pos (by omega), e1 i (by omega)]
      simp only [hc, if_true, lets, Option.bind_assoc, Option.bind_some]
    · show spec_l15Item.l0 (k + 1) (a.f6.map ansI) _ a = _
      rw [spec_l15Item.l0, if_neg (by omega)]
    · have hi' : i < a.f6.length := by omega
      have hs := h6.2 _ (List.getElem_mem hi')
      rw [rd109 _ i hi', List.getElem_map]
      exact Evt.bind (int_vals _).1 (Evt.bind (int_vals _).1 (Evt.bind (texts _ hs.2.2.1.1).1 (Evt.bind (texts _ hs.2.2.2.1.1).1 Evt.now)))
  · have each : Evt (fun k => impl_Answer_166_0.f k a.f6) ⟨48, (⟨#[]⟩ : ByteArray), a.f6.map ansI⟩ := by
      refine (map_loop (a.f6.map ansI) (fun k l i => impl_Answer_166_0.l0 k l i a.f6) (fun i k => impl_replyItem_1.f k (rd_T109 a.f6 (i : Int))) (⟨48, (⟨#[]⟩ : ByteArray), a.f6.map ansI⟩ : S100) (fun k i l hi hl => ?_) (Evt.of fun k => ?_) (fun i hi => ?_) _ 0 rfl (Nat.zero_le _)).eq (fun k => rfl)
      · have hc : (l.length + 1 ≤ 2932031007402) = True := eq_true (by omega)
        show impl_Answer_166_0.l0 (k + 1) l (i : Int) a.f6 = _
        rw [impl_Answer_166_0.l0, if_pos (by omega), if_pos (by omega), if_pos (by omega), e1 i (by omega)]
        simp only [hc, if_true, lets]
      · show impl_Answer_166_0.l0 (k + 1) (a.f6.map ansI) _ a.f6 = _
        rw [impl_Answer_166_0.l0, if_neg (by omega)]
      · have hi' : i < a.f6.length := by omega
        rw [rd109 _ i hi', List.getElem_map]
        exact answer _ (h6.2 _ (List.getElem_mem hi')) (hwi i hi')
    have hz := sz_body a h hw
    have hz2 := sz_list [item4 a.f0, intI (nOf a.f1), intI (nOf a.f2), intI (nOf a.f3), intI (nOf a.f4), intI (nOf a.f5), ⟨48, (⟨#[]⟩ : ByteArray), a.f6.map ansI⟩]
    have l1 := list_item [item4 a.f0, intI (nOf a.f1), intI (nOf a.f2), intI (nOf a.f3), intI (nOf a.f4), intI (nOf a.f5), ⟨48, (⟨#[]⟩ : ByteArray), a.f6.map ansI⟩] (by unfold bodyI at hz; omega)
    clear hz hz2
    have e4 : impl_bytesItem.f a.f0 = some (item4 a.f0) := rfl
    unfold impl_replyItem.f
    simp only [e4, Option.bind_some]
    exact Evt.bind b1 (Evt.bind b2 (Evt.bind b3 (Evt.bind b4 (Evt.bind b5 (Evt.bind each (Evt.bind l1 Evt.now))))))
/-- Both texts of a reply are the same; if there is one, it is its item's. -/
theorem reply_text (a : S40) (h : sm40 a) (hw : (a.f6.map wa).sum ≤ 1048576) : ∃ q, Evt (fun k => spec_ReplyText.f k a) q ∧ Evt (fun k => impl_ReplyText.f k a) q ∧
    (q.2 = true → Small (repI a) ∧ Ok (repI a) 0 ∧ q.1 = strOfNums (tl (repI a)) ∧ (tl (repI a)).length ≤ 4000) := by
  have hz := sz_rep a h hw
  have hS : Small (repI a) := by show sz _ ≤ _; omega
  obtain ⟨r, r1, r2⟩ := item_text (repI a) hS
  obtain ⟨b1, b2⟩ := body_items a h hw
  have hz2 : sz (repI a) = 16 + ([bodyI a, item4 a.f7].map sz).sum := sz_list _
  have hl := list_item [bodyI a, item4 a.f7] (by omega)
  obtain ⟨v, v1, v2⟩ := sameOk a h
  have e1 : spec_l09Bytes.f a.f7 = some (item4 a.f7) := rfl
  have e2 : impl_bytesItem.f a.f7 = some (item4 a.f7) := rfl
  cases v with
  | false =>
    refine ⟨((⟨#[]⟩ : ByteArray), false), ?_, ?_, fun h => by cases h⟩
    · unfold spec_ReplyText.f
      exact Evt.bind v1 (.of fun k => rfl)
    · unfold impl_ReplyText.f
      exact Evt.bind v2 (.of fun k => rfl)
  | true =>
    refine ⟨r, ?_, ?_, fun h2 => ⟨hS, ok_text hS r1 h2⟩⟩
    · unfold spec_ReplyText.f
      refine Evt.bind v1 ?_
      simp only [if_true, e1, Option.bind_some]
      exact Evt.bind b1 (Evt.bind r1 Evt.now)
    · unfold impl_ReplyText.f
      refine Evt.bind v2 ?_
      simp only [if_true, e2, Option.bind_some]
      exact Evt.bind b2 (Evt.bind hl (Evt.bind r2 Evt.now))

/-! ### an answer out of its item -/
noncomputable def ansR (y : S100) : S109 := ⟨(iv (rd_T100 (lst y 4) 0)).1, (iv (rd_T100 (lst y 4) 1)).1, txs (rd_T100 (lst y 4) 2), txs (rd_T100 (lst y 4) 3)⟩
noncomputable def badA (y : S100) : Bool := (((!shp y 4 || !(iv (rd_T100 (lst y 4) 0)).2) || !(iv (rd_T100 (lst y 4) 1)).2) || badT (rd_T100 (lst y 4) 2) 4) || badT (rd_T100 (lst y 4) 3) 4
theorem ansR_sm {y : S100} (h : Gd y) : sm109 (ansR y) := ⟨trivial, trivial, txs_sm (good_rd h 4 2 2 rfl (by omega)), txs_sm (good_rd h 4 3 3 rfl (by omega)), trivial⟩
theorem ansR_w {y : S100} (h : Gd y) : wa (ansR y) ≤ sz y := by
  have h2 := txs_w (rd_T100 (lst y 4) 2)
  have h3 := txs_w (rd_T100 (lst y 4) 3)
  show (txs _).length + ((txs _).map ByteArray.size).sum + ((txs _).length + ((txs _).map ByteArray.size).sum) ≤ _
  by_cases c : shp y 4 = true
  · rw [lst_pos c] at h2 h3 ⊢
    have hl : y.f2.length = 4 := (of_decide_eq_true c).2
    have e := sz_eq y
    generalize y.f2 = l at *
    match l, hl with
    | [y0, y1, y2, y3], _ =>
      have e2 : rd_T100 [y0, y1, y2, y3] 2 = y2 := rfl
      have e3 : rd_T100 [y0, y1, y2, y3] 3 = y3 := rfl
      rw [e2] at h2 ⊢
      rw [e3] at h3 ⊢
      simp only [List.map_cons, List.map_nil, List.sum_cons, List.sum_nil] at e
      omega
  · unfold lst
    rw [if_neg c]
    show 0 ≤ _
    omega
theorem ans_mk (a : S109) : badA (ansI a) = false := by
  have e0 : lst (ansI a) 4 = [intI (nOf a.f0), intI (nOf a.f1), ⟨48, (⟨#[]⟩ : ByteArray), a.f2.map item4⟩, ⟨48, (⟨#[]⟩ : ByteArray), a.f3.map item4⟩] := lst_mk _ _ rfl
  have e1 : shp (ansI a) 4 = true := shp_mk _ _ rfl
  have ht : ∀ l : List ByteArray, badT ⟨48, (⟨#[]⟩ : ByteArray), l.map item4⟩ 4 = false := fun l => badT_mk _ _ (fun y hy => by obtain ⟨s, _, rfl⟩ := List.mem_map.1 hy; rfl) _
  unfold badA
  rw [e0, e1]
  show ((((!true || !(iv (intI (nOf a.f0))).2) || !(iv (intI (nOf a.f1))).2) || badT ⟨48, (⟨#[]⟩ : ByteArray), a.f2.map item4⟩ 4) || badT ⟨48, (⟨#[]⟩ : ByteArray), a.f3.map item4⟩ 4) = false
  rw [iv_int, iv_int, ht, ht]
  rfl

/-! ### the loops -/
def fail : S40 × Bool := ((⟨(⟨#[]⟩ : ByteArray), 0, 0, 0, 0, 0, ([] : List S109), (⟨#[]⟩ : ByteArray)⟩ : S40), false)
def fin (t : ByteArray) (q : ByteArray × Bool) (r : S40) : S40 × Bool := if q.2 = true then (if q.1.toList = t.toList then (r, true) else fail) else fail
theorem w1 (i : Nat) (hi : i ≤ 1048576) : wrap64 ((i : Int) + 1) = ((i + 1 : Nat) : Int) := by rw [w64 (by omega) (by omega)]; rfl
theorem loop_g (t : ByteArray) (W ys : List S100) (e0 : ByteArray × S114) (e1 e2 e3 e4 e5 : Int × S114) (hW : W.length = 2) (hg : ∀ y ∈ ys, Gd y) (hl : ys.length ≤ 1048576) (q : ByteArray × Bool)
    (hq : Evt (fun k => impl_ReplyText.f k (⟨e0.1, e1.1, e2.1, e3.1, e4.1, e5.1, ys.map ansR, (rd_T100 W 1).f1⟩ : S40)) q) :
    ∀ (m i : Nat) (b : Bool), ys.length - i = m → i ≤ ys.length → Evt (fun k => impl_ReadReply.l0 k ((ys.take i).map ansR) (i : Int) b t W e0 e1 e2 e3 e4 e5 ys)
      (if ((b || (ys.drop i).any badA) || ((rd_T100 W 1).f0 != 4)) = true then fail else fin t q (⟨e0.1, e1.1, e2.1, e3.1, e4.1, e5.1, ys.map ansR, (rd_T100 W 1).f1⟩ : S40)) := by
  intro m
  induction m with
  | zero =>
    intro i b hm hi
    obtain rfl : i = ys.length := by omega
    have c0 : ((ys.length : Int) < (ys.length : Int)) = False := eq_false (by omega)
    have c1 : ((1 : Int) < (W.length : Int)) = True := eq_true (by omega)
    rw [List.drop_length, List.any_nil, Bool.or_false, List.take_length]
    refine Evt.succ ?_
    simp only [impl_ReadReply.l0, c0, c1, if_false, if_true, text_g, Option.bind_some]
    refine Evt.bind hq (Evt.of fun k => ?_)
    unfold fin fail
    simp only [some_if]
  | succ m ih =>
    intro i b hm hi
    have hil : i < ys.length := by omega
    have hy := hg _ (List.getElem_mem hil)
    have c0 : ((i : Int) < (ys.length : Int)) = True := eq_true (by omega)
    have c1 : ((0 : Int) ≤ (i : Int)) = True := eq_true (by omega)
    have hc : (((ys.take i).map ansR).length + 1 ≤ 2199023255552) = True := eq_true (by rw [List.length_map, List.length_take]; omega)
    have p0 : ((0 : Int) < ((4 : Nat) : Int)) = True := eq_true (by omega)
    have p1 : ((1 : Int) < ((4 : Nat) : Int)) = True := eq_true (by omega)
    have p2 : ((2 : Int) < ((4 : Nat) : Int)) = True := eq_true (by omega)
    have p3 : ((3 : Int) < ((4 : Nat) : Int)) = True := eq_true (by omega)
    have g0 := good_rd hy 4 0 0 rfl (by omega)
    have g1 := good_rd hy 4 1 1 rfl (by omega)
    have g2 := good_rd hy 4 2 2 rfl (by omega)
    have g3 := good_rd hy 4 3 3 rfl (by omega)
    have e := ih (i + 1) (b || badA ys[i]) (by omega) (by omega)
    rw [List.take_succ_eq_append_getElem hil, List.map_append] at e
    rw [List.drop_eq_getElem_cons hil, List.any_cons, ← Bool.or_assoc]
    refine Evt.succ ?_
    simp only [impl_ReadReply.l0, c0, c1, if_true, rdit ys i hil, list_g b ys[i] 4 4 rfl (by omega), Option.bind_some, lst_cond, lets, lst_len, p0, p1, p2, p3, w1 i (by omega)]
    refine Evt.bind (num_g _ g0) (Evt.bind (num_g _ g1) (Evt.bind (texts_g _ g2 4) (Evt.bind (texts_g _ g3 4) ?_)))
    simp only [hc, if_true]
    have eb : (((((b || !shp ys[i] 4) || !(iv (rd_T100 (lst ys[i] 4) 0)).2) || !(iv (rd_T100 (lst ys[i] 4) 1)).2) || badT (rd_T100 (lst ys[i] 4) 2) 4) || badT (rd_T100 (lst ys[i] 4) 3) 4) = (b || badA ys[i]) := by
      unfold badA
      simp only [Bool.or_assoc]
    rw [eb]
    exact e
theorem loop_f (t : ByteArray) (x : S100) (v : Bool) (e1 e2 e3 e4 e5 : Int × Bool) (h7 : (rd_T100 x.f2 0).f2.length = 7) (hg : ∀ y ∈ (rd_T100 (rd_T100 x.f2 0).f2 6).f2, Gd y) (hl : (rd_T100 (rd_T100 x.f2 0).f2 6).f2.length ≤ 1048576) (q : ByteArray × Bool)
    (hq : Evt (fun k => spec_ReplyText.f k (⟨(rd_T100 (rd_T100 x.f2 0).f2 0).f1, e1.1, e2.1, e3.1, e4.1, e5.1, (rd_T100 (rd_T100 x.f2 0).f2 6).f2.map ansR, (rd_T100 x.f2 1).f1⟩ : S40)) q) :
    ∀ (m i : Nat), (rd_T100 (rd_T100 x.f2 0).f2 6).f2.length - i = m → i ≤ (rd_T100 (rd_T100 x.f2 0).f2 6).f2.length → Evt (fun k => spec_ReadReply.l0 k (((rd_T100 (rd_T100 x.f2 0).f2 6).f2.take i).map ansR) (i : Int) t (x, v) e1 e2 e3 e4 e5)
      (if ((rd_T100 (rd_T100 x.f2 0).f2 6).f2.drop i).all (fun y => shp y 4) = true then fin t q (⟨(rd_T100 (rd_T100 x.f2 0).f2 0).f1, e1.1, e2.1, e3.1, e4.1, e5.1, (rd_T100 (rd_T100 x.f2 0).f2 6).f2.map ansR, (rd_T100 x.f2 1).f1⟩ : S40) else fail) := by
  generalize hys : (rd_T100 (rd_T100 x.f2 0).f2 6).f2 = ys at *
  have c6 : ((6 : Int) < ((rd_T100 x.f2 0).f2.length : Int)) = True := eq_true (by omega)
  intro m
  induction m with
  | zero =>
    intro i hm hi
    obtain rfl : i = ys.length := by omega
    have c0 : ((ys.length : Int) < (ys.length : Int)) = False := eq_false (by omega)
    rw [List.drop_length, List.all_nil, if_pos rfl, List.take_length]
    refine Evt.succ ?_
    simp only [spec_ReadReply.l0, c6, hys, c0, if_false, if_true]
    refine Evt.bind hq (Evt.of fun k => ?_)
    unfold fin fail
    simp only [some_if]
  | succ m ih =>
    intro i hm hi
    have hil : i < ys.length := by omega
    have hy := hg _ (List.getElem_mem hil)
    have c0 : ((i : Int) < (ys.length : Int)) = True := eq_true (by omega)
    have c1 : ((0 : Int) ≤ (i : Int)) = True := eq_true (by omega)
    have hc : (((ys.take i).map ansR).length + 1 ≤ 2199023255552) = True := eq_true (by rw [List.length_map, List.length_take]; omega)
    rw [List.drop_eq_getElem_cons hil, List.all_cons]
    by_cases c : shp ys[i] 4 = true
    · have hk : ys[i].f2.length = 4 := (of_decide_eq_true c).2
      have p0 : ((0 : Int) < (ys[i].f2.length : Int)) = True := eq_true (by omega)
      have p1 : ((1 : Int) < (ys[i].f2.length : Int)) = True := eq_true (by omega)
      have p2 : ((2 : Int) < (ys[i].f2.length : Int)) = True := eq_true (by omega)
      have p3 : ((3 : Int) < (ys[i].f2.length : Int)) = True := eq_true (by omega)
      have g0 := good_rd hy 4 0 0 rfl (by omega)
      have g1 := good_rd hy 4 1 1 rfl (by omega)
      have g2 := good_rd hy 4 2 2 rfl (by omega)
      have g3 := good_rd hy 4 3 3 rfl (by omega)
      have e := ih (i + 1) (by omega) (by omega)
      rw [List.take_succ_eq_append_getElem hil, List.map_append] at e
      have ea : ansR ys[i] = ⟨(iv (rd_T100 ys[i].f2 0)).1, (iv (rd_T100 ys[i].f2 1)).1, txs (rd_T100 ys[i].f2 2), txs (rd_T100 ys[i].f2 3)⟩ := by unfold ansR; rw [lst_pos c]
      rw [lst_pos c] at g0 g1 g2 g3
      rw [c, Bool.true_and]
      refine Evt.succ ?_
      simp only [spec_ReadReply.l0, c6, hys, c0, c1, if_true, rdit ys i hil, kids_f ys[i] 4 4 rfl, c, Option.bind_some, p0, p1, p2, p3, w1 i (by omega)]
      refine Evt.bind (texts_in g2) (Evt.bind (texts_in g3) (Evt.bind (iv_f g0) (Evt.bind (iv_f g1) ?_)))
      simp only [hc, if_true, lets]
      rw [← ea]
      exact e
    · have c' : shp ys[i] 4 = false := by simpa using c
      rw [c', Bool.false_and, if_neg (by simp)]
      refine Evt.succ (.of fun k => ?_)
      simp only [spec_ReadReply.l0, c6, hys, c0, c1, if_true, rdit ys i hil, kids_f ys[i] 4 4 rfl, c', Option.bind_some, if_false, Bool.false_eq_true]
      rfl

/-! ### the statement -/
noncomputable def W0 (x : S100) : S100 := rd_T100 (lst x 2) 0
noncomputable def W1 (x : S100) : S100 := rd_T100 (lst x 2) 1
noncomputable def B (x : S100) (i : Int) : S100 := rd_T100 (lst (W0 x) 7) i
noncomputable def repR (x : S100) : S40 := ⟨(B x 0).f1, (iv (B x 1)).1, (iv (B x 2)).1, (iv (B x 3)).1, (iv (B x 4)).1, (iv (B x 5)).1, (B x 6).f2.map ansR, (W1 x).f1⟩
noncomputable def bad (x : S100) : Bool := ((((((((((!shp x 2 || !shp (W0 x) 7) || ((B x 0).f0 != 4)) || !(iv (B x 1)).2) || !(iv (B x 2)).2) || !(iv (B x 3)).2) || !(iv (B x 4)).2) || !(iv (B x 5)).2) || !decide ((B x 6).f0 = 48)) || (B x 6).f2.any badA) || ((W1 x).f0 != 4))
theorem bad_mk (r : S40) : bad (repI r) = false := by
  have e0 : lst (repI r) 2 = [bodyI r, item4 r.f7] := lst_mk _ _ rfl
  have e1 : W0 (repI r) = bodyI r := by unfold W0; rw [e0]; rfl
  have e2 : W1 (repI r) = item4 r.f7 := by unfold W1; rw [e0]; rfl
  have e3 : lst (bodyI r) 7 = [item4 r.f0, intI (nOf r.f1), intI (nOf r.f2), intI (nOf r.f3), intI (nOf r.f4), intI (nOf r.f5), ⟨48, (⟨#[]⟩ : ByteArray), r.f6.map ansI⟩] := lst_mk _ _ rfl
  have b0 : B (repI r) 0 = item4 r.f0 := by unfold B; rw [e1, e3]; rfl
  have b1 : B (repI r) 1 = intI (nOf r.f1) := by unfold B; rw [e1, e3]; rfl
  have b2 : B (repI r) 2 = intI (nOf r.f2) := by unfold B; rw [e1, e3]; rfl
  have b3 : B (repI r) 3 = intI (nOf r.f3) := by unfold B; rw [e1, e3]; rfl
  have b4 : B (repI r) 4 = intI (nOf r.f4) := by unfold B; rw [e1, e3]; rfl
  have b5 : B (repI r) 5 = intI (nOf r.f5) := by unfold B; rw [e1, e3]; rfl
  have b6 : B (repI r) 6 = ⟨48, (⟨#[]⟩ : ByteArray), r.f6.map ansI⟩ := by unfold B; rw [e1, e3]; rfl
  have s1 : shp (repI r) 2 = true := shp_mk _ _ rfl
  have s2 : shp (bodyI r) 7 = true := shp_mk _ _ rfl
  have ha : (r.f6.map ansI).any badA = false := by
    rw [List.any_eq_false]
    intro y hy
    obtain ⟨a, _, rfl⟩ := List.mem_map.1 hy
    rw [ans_mk]
    simp
  unfold bad
  rw [e1, e2, b0, b1, b2, b3, b4, b5, b6, s1, s2, iv_int, iv_int, iv_int, iv_int, iv_int]
  show ((((((((((!true || !true) || ((4 : Int) != 4)) || !true) || !true) || !true) || !true) || !true) || !decide ((48 : Int) = 48)) || (r.f6.map ansI).any badA) || ((4 : Int) != 4)) = false
  rw [ha]
  rfl
theorem fail_sm : sm40 fail.1 := ⟨Nat.zero_le _, trivial, trivial, trivial, trivial, trivial, ⟨Nat.zero_le _, fun e he => by cases he⟩, Nat.zero_le _, trivial⟩
theorem main (t : ByteArray) : ∃ r : S40 × Bool, Evt (fun k => spec_ReadReply.f k t) r ∧ Evt (fun k => impl_ReadReply.f k t) r ∧ sm40 r.1 := by
  obtain ⟨⟨x, b⟩, r1, r2, r3⟩ := read_item t
  rcases r3 with ⟨hb, hok, ht, hl, hz⟩ | hr
  · obtain rfl : b = true := hb
    have hS : Small x := by show sz x ≤ _; have : sz x ≤ 1048576 := hz; omega
    have gx : Gd x := .inl ⟨0, by omega, hok, hz⟩
    have gW0 : Gd (W0 x) := good_rd gx 2 0 0 rfl (by omega)
    have gW1 : Gd (W1 x) := good_rd gx 2 1 1 rfl (by omega)
    have gB : ∀ (i : Int) (k : Nat), i = (k : Int) → k < 7 → Gd (B x i) := fun i k h hk => good_rd gW0 7 k i h hk
    have g0 := gB 0 0 rfl (by omega)
    have g1 := gB 1 1 rfl (by omega)
    have g2 := gB 2 2 rfl (by omega)
    have g3 := gB 3 3 rfl (by omega)
    have g4 := gB 4 4 rfl (by omega)
    have g5 := gB 5 5 rfl (by omega)
    have g6 := gB 6 6 rfl (by omega)
    have gys : ∀ y ∈ (B x 6).f2, Gd y := fun y hy => good_kid g6 hy
    have lys := good_len g6
    have hsm : sm40 (repR x) := by
      refine ⟨?_, trivial, trivial, trivial, trivial, trivial, ⟨?_, fun e he => ?_⟩, ?_, trivial⟩
      · have := good_sz g0; have := sz_text (x := B x 0); show (B x 0).f1.size ≤ _; omega
      · show ((B x 6).f2.map ansR).length ≤ _; rw [List.length_map]; exact lys
      · obtain ⟨y, hy, rfl⟩ := List.mem_map.1 he
        exact ansR_sm (gys y hy)
      · have := good_sz gW1; have := sz_text (x := W1 x); show (W1 x).f1.size ≤ _; omega
    have hw : ((repR x).f6.map wa).sum ≤ 1048576 := by
      have key : ∀ l : List S100, (∀ y ∈ l, Gd y) → ((l.map ansR).map wa).sum ≤ (l.map sz).sum := by
        intro l
        induction l with
        | nil => intro _; simp
        | cons a l ih =>
          intro h
          have h1 := ih (fun y hy => h y (List.mem_cons_of_mem _ hy))
          have h2 := ansR_w (h a (List.mem_cons_self ..))
          simp only [List.map_cons, List.sum_cons]
          omega
      have h1 := key _ gys
      have h2 := good_sz g6
      have h3 := sz_eq (B x 6)
      show (((B x 6).f2.map ansR).map wa).sum ≤ _
      omega
    obtain ⟨q, qf, qg, qh⟩ := reply_text (repR x) hsm hw
    have hbad : bad x = true → fin t q (repR x) = fail := fun hb => by
      unfold fin
      by_cases e1 : q.2 = true
      · rw [if_pos e1]
        by_cases e2 : q.1.toList = t.toList
        · exfalso
          obtain ⟨u1, u2, u3, u4⟩ := qh e1
          have e3 : strOfNums (tl x) = strOfNums (tl (repI (repR x))) := by rw [← u3, ← ht]; exact (toList_inj.1 e2).symm
          have e4 := text_inj hS u1 hok u2 hl e3
          rw [e4, bad_mk] at hb
          cases hb
        · rw [if_neg e2]
      · rw [if_neg e1]
    refine ⟨if bad x = true then fail else fin t q (repR x), ?_, ?_, ?_⟩
    · unfold spec_ReadReply.f
      refine Evt.bind r1 ?_
      simp only [kids_f x 2 2 rfl, Option.bind_some, if_true]
      by_cases s2 : shp x 2 = true
      · have h2 : x.f2.length = 2 := (of_decide_eq_true s2).2
        have eW0 : rd_T100 x.f2 0 = W0 x := by unfold W0; rw [lst_pos s2]
        have eW1 : rd_T100 x.f2 1 = W1 x := by unfold W1; rw [lst_pos s2]
        have c0 : ((0 : Int) < (x.f2.length : Int)) = True := eq_true (by omega)
        have c1 : ((1 : Int) < (x.f2.length : Int)) = True := eq_true (by omega)
        simp only [s2, if_true, c0, c1, eW0, eW1, kids_f (W0 x) 7 7 rfl, Option.bind_some]
        by_cases s7 : shp (W0 x) 7 = true
        · have h7 : (W0 x).f2.length = 7 := (of_decide_eq_true s7).2
          have eB : ∀ i, rd_T100 (W0 x).f2 i = B x i := fun i => by unfold B; rw [lst_pos s7]
          have d0 : ((0 : Int) < ((W0 x).f2.length : Int)) = True := eq_true (by omega)
          have d1 : ((1 : Int) < ((W0 x).f2.length : Int)) = True := eq_true (by omega)
          have d2 : ((2 : Int) < ((W0 x).f2.length : Int)) = True := eq_true (by omega)
          have d3 : ((3 : Int) < ((W0 x).f2.length : Int)) = True := eq_true (by omega)
          have d4 : ((4 : Int) < ((W0 x).f2.length : Int)) = True := eq_true (by omega)
          have d5 : ((5 : Int) < ((W0 x).f2.length : Int)) = True := eq_true (by omega)
          simp only [s7, if_true, d0, d1, d2, d3, d4, d5, eB]
          have lf := loop_f t x true (iv (B x 1)) (iv (B x 2)) (iv (B x 3)) (iv (B x 4)) (iv (B x 5)) (by rw [eW0]; exact h7) (by rw [eW0, eB]; exact gys) (by rw [eW0, eB]; exact lys) q (by rw [eW0, eW1, eB, eB]; exact qf) _ 0 rfl (Nat.zero_le _)
          rw [eW0, eW1, eB, eB, List.drop_zero] at lf
          refine Evt.bind (iv_f g1) (Evt.bind (iv_f g2) (Evt.bind (iv_f g3) (Evt.bind (iv_f g4) (Evt.bind (iv_f g5) ?_))))
          have e : (if ((B x 6).f2.all fun y => shp y 4) = true then fin t q (repR x) else fail) = if bad x = true then fail else fin t q (repR x) := by
            by_cases hb : bad x = true
            · rw [if_pos hb, hbad hb, ite_self]
            · rw [if_neg hb, if_pos]
              rw [List.all_eq_true]
              intro y hy
              by_cases c : shp y 4 = true
              · exact c
              · exfalso
                apply hb
                have ha : (B x 6).f2.any badA = true := by
                  rw [List.any_eq_true]
                  refine ⟨y, hy, ?_⟩
                  unfold badA
                  rw [show shp y 4 = false by simpa using c]
                  simp
                unfold bad
                rw [ha]
                simp
          rw [← e]
          exact lf
        · have s7' : shp (W0 x) 7 = false := by simpa using s7
          have hb : bad x = true := by unfold bad; rw [s7']; simp
          rw [if_pos hb]
          simp only [s7', if_false, Bool.false_eq_true]
          exact Evt.now
      · have s2' : shp x 2 = false := by simpa using s2
        have hb : bad x = true := by unfold bad; rw [s2']; simp
        rw [if_pos hb]
        simp only [s2', if_false, Bool.false_eq_true]
        exact Evt.now
    · unfold impl_ReadReply.f
      refine Evt.bind r2 ?_
      have p0 : ((0 : Int) < ((2 : Nat) : Int)) = True := eq_true (by omega)
      have c0 : ((0 : Int) < ((7 : Nat) : Int)) = True := eq_true (by omega)
      have c1 : ((1 : Int) < ((7 : Nat) : Int)) = True := eq_true (by omega)
      have c2 : ((2 : Int) < ((7 : Nat) : Int)) = True := eq_true (by omega)
      have c3 : ((3 : Int) < ((7 : Nat) : Int)) = True := eq_true (by omega)
      have c4 : ((4 : Int) < ((7 : Nat) : Int)) = True := eq_true (by omega)
      have c5 : ((5 : Int) < ((7 : Nat) : Int)) = True := eq_true (by omega)
      have c6 : ((6 : Int) < ((7 : Nat) : Int)) = True := eq_true (by omega)
      have eW0 : rd_T100 (lst x 2) 0 = W0 x := rfl
      have eB : ∀ i, rd_T100 (lst (W0 x) 7) i = B x i := fun i => rfl
      have eL : cond (decide ((B x 6).f0 = 48)) (B x 6).f2 (List.replicate 0 z100) = (B x 6).f2 := by
        by_cases c : (B x 6).f0 = 48
        · rw [decide_eq_true c]; rfl
        · rw [decide_eq_false c, good_plain g6 c]; rfl
      simp only [if_true, list_g _ x 2 2 rfl (by omega), Option.bind_some, lst_cond, lets, lst_len, p0, eW0, list_g _ (W0 x) 7 7 rfl (by omega), c0, c1, c2, c3, c4, c5, c6, eB, text_g]
      refine Evt.bind (num_g _ g1) (Evt.bind (num_g _ g2) (Evt.bind (num_g _ g3) (Evt.bind (num_g _ g4) (Evt.bind (num_g _ g5) ?_))))
      simp only [list_m, Option.bind_some, eL]
      exact loop_g t (lst x 2) (B x 6).f2 ((B x 0).f1, _) ((iv (B x 1)).1, _) ((iv (B x 2)).1, _) ((iv (B x 3)).1, _) ((iv (B x 4)).1, _) ((iv (B x 5)).1, _) (lst_len x 2) gys lys q qg _ 0 _ rfl (Nat.zero_le _)
    · split
      · exact fail_sm
      · unfold fin
        split
        · split
          · exact hsm
          · exact fail_sm
        · exact fail_sm
  · obtain ⟨rfl, rfl⟩ := Prod.mk.inj hr
    refine ⟨fail, ?_, ?_, fail_sm⟩
    · unfold spec_ReadReply.f
      refine Evt.bind r1 ?_
      simp only [kids_f _ 2 2 rfl, Option.bind_some, if_false, Bool.false_eq_true]
      exact Evt.now
    · unfold impl_ReadReply.f
      refine Evt.bind r2 ?_
      simp only [if_false, Bool.false_eq_true]
      exact Evt.now
theorem pure : Pure := by
  intro t _
  obtain ⟨r, ⟨K1, f⟩, ⟨K2, g⟩, hs⟩ := main t
  obtain ⟨k, hk⟩ : ∃ k, k = 8388608 + K1 + K2 := ⟨_, rfl⟩
  refine ⟨k, ?_⟩
  have f := f k (by omega)
  have g := g k (by omega)
  simp only at f g
  unfold laws_FnExactReadReply.f
  by_cases c : 1048576 < (t.size : Int)
  · rw [if_pos c]
  · rw [if_neg c]
    obtain ⟨m2, r0, e1, e2, e3, e4⟩ := mk_17 r.1 hs 1 (by omega) (by omega) k (by omega)
    have e5 := e4 k (by omega)
    simp only [f, g, Option.bind_some, eq_16 r.1 hs k (by omega), if_true, e1, e5, show ¬ m2 < 0 by omega, if_false]
end Go.Proofs.Ytoaoncnbimcdgaa.PureFnExactReadReply

/- The statement FnExactReplyText, as numbers and lists: the program's ReplyText and the reference's agree. -/
import Derived.Test.YtdcjcanobiohnaaReplyFnExactReplyText
namespace Go.Proofs.Ytdcjcanobiohnaa.PureFnExactReplyText
open Go.RowKit Go.Proofs.YtdcjcanobiohnaaW.PrintWords Go.Proofs.YtdcjcanobiohnaaW.PrintLast Go.Proofs.Ytdcjcanobiohnaa.ZOpen Go.Proofs.Ytdcjcanobiohnaa.Z Go.Proofs.Ytdcjcanobiohnaa.F
open Go.Proofs.Ytdcjcanobiohnaa.SaidFnExactReplyText Go.Proofs.Ytdcjcanobiohnaa.ZP Go.Proofs.Ytdcjcanobiohnaa.FamFnExactReplyText Go.Proofs.Ytdcjcanobiohnaa.ItemFnExactReplyText Go.Proofs.Ytdcjcanobiohnaa.ReplyFnExactReplyText

/-- The texts of an answer: the two ways of looking. -/
theorem textsOk_l (l : List ByteArray) (m : Int) (hn : l.length ≤ 1048576) : ∀ k (i : Int), 0 ≤ i → ((l.length : Int) - i).toNat < k →
    (∃ j, 0 ≤ j ∧ slices_IndexFunc_string_string_0.l0 k i l = some j ∧ spec_l15Texts.l0 k i l m = some false) ∨ (slices_IndexFunc_string_string_0.l0 k i l = some (-1) ∧ spec_l15Texts.l0 k i l m = some (decide ((l.length : Int) ≤ m)))
  | 0, _, _, h => absurd h (Nat.not_lt_zero _)
  | k + 1, i, h0, h => by
    by_cases c1 : i < (l.length : Int)
    · have e1 : wrap64 (i + 1) = i + 1 := w64 (by omega) (by omega)
      have ih := textsOk_l l m hn k (i + 1) (by omega) (by omega)
      rw [slices_IndexFunc_string_string_0.l0, spec_l15Texts.l0, if_pos c1, if_pos h0, if_pos c1, if_pos c1, if_pos h0, if_pos c1, e1, impl_textsOk_1.f, Option.bind_some]
      by_cases c2 : 400 < ((rdOf ByteArray.empty l i).size : Int)
      · rw [if_pos (decide_eq_true c2), if_pos c2]
        exact .inl ⟨i, h0, rfl, rfl⟩
      · rw [if_neg (by simpa using c2), if_neg c2]
        exact ih
    · refine .inr ⟨?_, ?_⟩
      · rw [slices_IndexFunc_string_string_0.l0, if_neg c1]
      · rw [spec_l15Texts.l0, if_neg c1]
theorem textsOk (l : List ByteArray) (m : Int) (hn : l.length ≤ 1048576) (k : Nat) (hk : 1048577 ≤ k) : ∃ v, spec_l15Texts.f k l m = some v ∧ impl_textsOk.f k l m = some v := by
  unfold spec_l15Texts.f impl_textsOk.f slices_ContainsFunc_string_string_0.f slices_IndexFunc_string_string_0.f
  rcases textsOk_l l m hn k 0 (by omega) (by omega) with ⟨j, hj, e1, e2⟩ | ⟨e1, e2⟩
  · refine ⟨false, e2, ?_⟩
    rw [e1]
    simp only [Option.bind_some, decide_eq_true hj]
    split <;> rfl
  · refine ⟨_, e2, ?_⟩
    rw [e1]
    by_cases c : (l.length : Int) ≤ m
    · rw [if_pos c, decide_eq_true c]; rfl
    · rw [if_neg c, decide_eq_false c]
theorem answerOk (a : S171) (h : sm171 a) (k : Nat) (hk : 1048577 ≤ k) : ∃ v, impl_answerOk.f k a = some v ∧ ∀ X : Option Bool,
    ((spec_l01In.f a.f0 0 2).bind fun t16 => (if t16 = true then ((spec_l01In.f a.f1 0 12).bind fun t19 => (if t19 = true then ((spec_l15Texts.f k a.f2 5).bind fun t22 => (if t22 = true then ((spec_l15Texts.f k a.f3 8).bind fun t25 => (if t25 = true then X else (some false))) else (some false))) else (some false))) else (some false))) = if v = true then X else some false := by
  obtain ⟨u, u1, u2⟩ := textsOk a.f2 5 h.2.2.1.1 k hk
  obtain ⟨w, w1, w2⟩ := textsOk a.f3 8 h.2.2.2.1.1 k hk
  unfold impl_answerOk.f
  simp only [in_f, in_g, u1, u2, w1, w2, Option.bind_some]
  refine ⟨decide (0 ≤ a.f0 ∧ a.f0 ≤ 2) && (decide (0 ≤ a.f1 ∧ a.f1 ≤ 12) && (u && w)), ?_, fun X => ?_⟩
  · cases decide (0 ≤ a.f0 ∧ a.f0 ≤ 2) <;> cases decide (0 ≤ a.f1 ∧ a.f1 ≤ 12) <;> cases u <;> cases w <;> rfl
  · cases decide (0 ≤ a.f0 ∧ a.f0 ≤ 2) <;> cases decide (0 ≤ a.f1 ∧ a.f1 ≤ 12) <;> cases u <;> cases w <;> rfl

theorem loop (r : S49) (h : sm49 r) : ∀ k (i : Nat), 1048577 + (r.f6.length - i) < k →
    (∃ j, 0 ≤ j ∧ impl_Answer_167_0.l0 k (i : Int) r.f6 = some j ∧ spec_ReplyOk.l0 k (i : Int) r = some false) ∨ (impl_Answer_167_0.l0 k (i : Int) r.f6 = some (-1) ∧ spec_ReplyOk.l0 k (i : Int) r = spec_ReplyOk.l0 1 (r.f6.length : Int) r)
  | 0, _, h => absurd h (Nat.not_lt_zero _)
  | k + 1, i, hk => by
    have h6 := h.2.2.2.2.2.2.1
    have hx := h6.1
    by_cases c1 : (i : Int) < (r.f6.length : Int)
    · have hi : i < r.f6.length := by omega
      have e1 : wrap64 ((i : Int) + 1) = ((i + 1 : Nat) : Int) := by rw [w64 (by omega) (by omega)]; rfl
      have ih := loop r h k (i + 1) (by omega)
      have hrd := rd171 r.f6 i hi
      obtain ⟨v, v1, v2⟩ := answerOk r.f6[i] (h6.2 _ (List.getElem_mem hi)) k (by omega)
      rw [impl_Answer_167_0.l0, spec_ReplyOk.l0, if_pos c1, if_pos (by omega), if_pos c1, if_pos c1, if_pos (by omega), if_pos c1, e1, hrd, v2, impl_ReplyOk_1.f, v1, Option.bind_some, Option.bind_some]
      cases v
      · exact .inl ⟨i, by omega, rfl, rfl⟩
      · exact ih
    · refine .inr ⟨?_, ?_⟩
      · rw [impl_Answer_167_0.l0, if_neg c1]
      · rw [spec_ReplyOk.l0, if_neg c1, spec_ReplyOk.l0, if_neg (Int.lt_irrefl _)]

theorem agree (r : S49) (h : sm49 r) (k : Nat) (hk : 2097154 < k) : ∃ v, spec_ReplyOk.f k r = some v ∧ impl_ReplyOk.f k r = some v := by
  unfold spec_ReplyOk.f impl_ReplyOk.f impl_Answer_133_0.f impl_Answer_167_0.f
  rcases loop r h k 0 (by have := h.2.2.2.2.2.2.1.1; omega) with ⟨j, hj, e1, e2⟩ | ⟨e1, e2⟩
  · refine ⟨false, e2, ?_⟩
    have e3 : impl_Answer_167_0.l0 k 0 r.f6 = some j := e1
    simp only [e3, in_g, Option.bind_some, decide_eq_true hj]
    repeat' split
    all_goals rfl
  · have e3 : impl_Answer_167_0.l0 k 0 r.f6 = some (-1) := e1
    have e4 : spec_ReplyOk.l0 k 0 r = _ := e2
    rw [e4, spec_ReplyOk.l0, if_neg (Int.lt_irrefl _), e3]
    simp only [in_f, in_g, Option.bind_some]
    by_cases c0 : (r.f0.size : Int) = 32
    · rw [if_pos c0, if_pos c0]
      cases decide (0 ≤ r.f1 ∧ r.f1 ≤ 1000000000) <;> cases decide (0 ≤ r.f2 ∧ r.f2 ≤ 19999) <;> cases decide (0 ≤ r.f3 ∧ r.f3 ≤ 19999) <;> cases decide (0 ≤ r.f4 ∧ r.f4 ≤ 99) <;> cases decide (0 ≤ r.f5 ∧ r.f5 ≤ 2) <;> first | exact ⟨_, rfl, rfl⟩ | skip
      by_cases c1 : (r.f6.length : Int) ≤ 3
      · by_cases c2 : (r.f7.size : Int) = 15
        · exact ⟨true, by simp [c1, c2], by simp [c2]; omega⟩
        · exact ⟨false, by simp [c1]; omega, by simp [c2]⟩
      · exact ⟨false, by simp; omega, by simp; omega⟩
    · rw [if_neg c0, if_neg c0]
      exact ⟨_, rfl, rfl⟩

theorem weigh (a : S44) (h : wt44 a ≤ 1048576) : ((cv44 a).f6.map wa).sum ≤ 1048576 := by
  have e : (cv44 a).f6.map wa = a.f6.map wt169 := by
    show (a.f6.map cv169).map wa = _
    rw [List.map_map]
    rfl
  rw [e]
  unfold wt44 at h
  omega
theorem pure : Pure := by
  intro a ha
  by_cases hs : sm44 a ∧ wt44 a ≤ 1048576
  · have hc := smcv44 a hs.1
    obtain ⟨it, ⟨K1, c1⟩, ⟨K2, c2⟩, hz⟩ := reply (cv44 a) hc (weigh a hs.2)
    have hz4 : sz (item4 (cv44 a).f7) ≤ 1048592 := by
      have h7 := hc.2.2.2.2.2.2.2.1
      rw [sz4]
      omega
    have hl : ([it, item4 (cv44 a).f7].map sz).sum ≤ 2000000000 := by
      simp only [List.map_cons, List.map_nil, List.sum_cons, List.sum_nil]
      omega
    have hl2 : sz (⟨48, (⟨#[]⟩ : ByteArray), [it, item4 (cv44 a).f7]⟩ : S107) ≤ 3000000000 := by rw [sz_list]; omega
    obtain ⟨K5, l1⟩ := list_item [it, item4 (cv44 a).f7] (by omega)
    obtain ⟨r, ⟨K3, r1⟩, ⟨K4, r2⟩⟩ := item_text ⟨48, (⟨#[]⟩ : ByteArray), [it, item4 (cv44 a).f7]⟩ (by omega)
    clear hl hl2 hz4 hz
    obtain ⟨k, hk⟩ : ∃ k, k = 8388608 + K1 + K2 + K3 + K4 + K5 := ⟨_, rfl⟩
    refine ⟨k, ?_⟩
    obtain ⟨n, z1, z2, z3⟩ := sz_24 a ha 1048576 (by omega) (by omega) k (by omega)
    unfold laws_FnExactReplyText.f
    rw [z1, Option.bind_some]
    by_cases c : n < 0
    · rw [if_pos c]
    rw [if_neg c]
    obtain ⟨v, v1, v2⟩ := agree (cv44 a) hc k (by omega)
    have both : ∃ q, spec_ReplyText.f k (cv44 a) = some q ∧ impl_ReplyText.f k (cv44 a) = some q := by
      unfold spec_ReplyText.f impl_ReplyText.f
      rw [v1, v2]
      cases v with
      | false => exact ⟨_, rfl, rfl⟩
      | true =>
        have c1 := c1 k (by omega)
        have c2 := c2 k (by omega)
        have l1 := l1 k (by omega)
        have r1 := r1 k (by omega)
        have r2 := r2 k (by omega)
        have e1 : spec_l09Bytes.f (cv44 a).f7 = some (item4 (cv44 a).f7) := rfl
        have e2 : impl_bytesItem.f (cv44 a).f7 = some (item4 (cv44 a).f7) := rfl
        simp only [c1, c2, e1, e2, l1, r1, r2, Option.bind_some, if_true]
        exact ⟨_, rfl, rfl⟩
    obtain ⟨q, q1, q2⟩ := both
    simp only [to_26 a hs.1 k (by omega), Option.bind_some, q1, q2, if_true, eq_28 _ hc k (by omega)]
  · obtain ⟨n, z1, z2, z3⟩ := szw_24 a ha 1048576 (by omega) (by omega) 8388608 (by omega)
    refine ⟨8388608, ?_⟩
    unfold laws_FnExactReplyText.f
    rw [z1, Option.bind_some, if_pos (by
      by_cases c : 0 ≤ n
      · have h := z3 c
        exact absurd ⟨h.1, by omega⟩ hs
      · omega)]
end Go.Proofs.Ytdcjcanobiohnaa.PureFnExactReplyText

/- The statement FnExactReplyOk, as numbers and lists: the program's ReplyOk and the reference's agree. -/
import Derived.Test.YtfeebnbookfpmaaSaidFnExactReplyOk
import Derived.Test.YtfeebnbookfpmaaZPure
namespace Go.Proofs.Ytfeebnbookfpmaa.PureFnExactReplyOk
open Go.RowKit Go.Proofs.YtfeebnbookfpmaaW.PrintWords Go.Proofs.YtfeebnbookfpmaaW.PrintLast Go.Proofs.Ytfeebnbookfpmaa.ZOpen Go.Proofs.Ytfeebnbookfpmaa.Z Go.Proofs.Ytfeebnbookfpmaa.F
open Go.Proofs.Ytfeebnbookfpmaa.SaidFnExactReplyOk Go.Proofs.Ytfeebnbookfpmaa.ZP

theorem rds (x : List ByteArray) (i : Nat) (h : i < x.length) : rdOf ByteArray.empty x (i : Int) = x[i] := by simp [rdOf, h]
theorem rd126 (x : List S126) (i : Nat) (h : i < x.length) : rd_T126 x (i : Int) = x[i] := by simp [rd_T126, h]
theorem rd127 (x : List S127) (i : Nat) (h : i < x.length) : rd_T127 x (i : Int) = x[i] := by simp [rd_T127, h]

theorem toStrs (x : List ByteArray) (hx : x.length ≤ 1048576) (k : Nat) (hk : 1048576 < k) : laws_toStringS.f k x = some x := by
  unfold laws_toStringS.f
  rw [if_pos (by omega), if_pos (by omega)]
  have := to_loop laws_toStringS.l0 (rdOf ByteArray.empty) (fun _ e => some e) id x 0 hx (rds x) (fun k y i => by rw [laws_toStringS.l0]; rfl) (fun _ _ _ _ => rfl) k (List.replicate x.length (⟨#[]⟩ : ByteArray)) 0 (by omega) (by simp) rfl (by omega)
  simpa using this
theorem eqStrs (x : List ByteArray) (hx : x.length ≤ 1048576) (k : Nat) (hk : 1048576 < k) : laws_eqStringS.f k x x = some true := by
  unfold laws_eqStringS.f
  rw [if_pos rfl]
  exact eq_loop laws_eqStringS.l0 (rdOf ByteArray.empty) (fun _ _ => some true) x 0 hx (rds x) (fun k i => by rw [laws_eqStringS.l0]; simp) (fun _ _ _ _ => rfl) k 0 (by omega) (by omega)
theorem szStrs (l : List ByteArray) (hl : okList okStr l) (b : Int) (h0 : 0 ≤ b) (h1 : b ≤ 1048576) (k : Nat) (hk : 1048577 ≤ k) : ∃ n, laws_szStringS.f k l b = some n ∧ n ≤ b ∧ (0 ≤ n → l.length ≤ 1048576) := by
  have hll : l.length ≤ maxLen := hl.1
  have hm : maxLen = 9223372036854775807 := rfl
  have e : wrap64 (b - (l.length : Int)) = b - (l.length : Int) := by unfold wrap64; omega
  unfold laws_szStringS.f
  rw [e]
  by_cases c : b - (l.length : Int) < 0
  · rw [if_pos c]; exact ⟨-1, rfl, by omega, fun h => by omega⟩
  · rw [if_neg c]
    obtain ⟨n, n1, n2, _⟩ := sz_loop laws_szStringS.l0 (rdOf ByteArray.empty) (fun _ e b => some (wrap64 (b - (e.size : Int)))) (fun _ => True) l 0 (by omega) (rds l) (fun k b i => by rw [laws_szStringS.l0]; rfl) (fun k e b _ he g0 g1 => by
      have h2 : e.size ≤ maxLen := hl.2 e he
      exact ⟨_, rfl, by unfold wrap64; omega, fun _ => trivial⟩) k (b - (l.length : Int)) 0 (by omega) (by omega) (by omega) (by omega)
    exact ⟨n, n1, by omega, fun h => by omega⟩

def cvA (a : S126) : S127 := ⟨a.f0, a.f1, a.f2, a.f3⟩
def small (a : S126) : Prop := a.f2.length ≤ 1048576 ∧ a.f3.length ≤ 1048576
theorem toAns (a : S126) (h : small a) (k : Nat) (hk : 1048577 ≤ k) : laws_toAnswer.f k a = some (cvA a) := by
  unfold laws_toAnswer.f
  simp only [toStrs a.f2 h.1 k hk, toStrs a.f3 h.2 k hk, Option.bind_some]
  rfl
theorem toAnss (x : List S126) (hx : x.length ≤ 1048576) (hs : ∀ a ∈ x, small a) (k : Nat) (hk : 2097153 < k) : laws_toAnswerS.f k x = some (x.map cvA) := by
  unfold laws_toAnswerS.f
  rw [if_pos (by omega), if_pos (by omega)]
  exact to_loop laws_toAnswerS.l0 rd_T126 laws_toAnswer.f cvA x 1048577 hx (rd126 x) (fun k y i => by rw [laws_toAnswerS.l0]) (fun k e hk he => toAns e (hs e he) k hk) k (List.replicate x.length z127) 0 (by omega) (by simp) rfl (by omega)
theorem eqAns (a : S126) (h : small a) (k : Nat) (hk : 1048577 ≤ k) : laws_eqAnswer.f k (cvA a) (cvA a) = some true := by
  unfold laws_eqAnswer.f
  have h1 := eqStrs a.f2 h.1 k hk
  have h2 := eqStrs a.f3 h.2 k hk
  simp [cvA, h1, h2]
theorem eqAnss (x : List S126) (hx : x.length ≤ 1048576) (hs : ∀ a ∈ x, small a) (k : Nat) (hk : 2097153 < k) : laws_eqAnswerS.f k (x.map cvA) (x.map cvA) = some true := by
  unfold laws_eqAnswerS.f
  rw [if_pos rfl]
  have hl : (x.map cvA).length = x.length := List.length_map _
  exact eq_loop laws_eqAnswerS.l0 rd_T127 (fun k e => laws_eqAnswer.f k e e) (x.map cvA) 1048577 (by omega) (rd127 _) (fun k i => by rw [laws_eqAnswerS.l0]) (fun k e hk he => by
    obtain ⟨a, ha, rfl⟩ := List.mem_map.1 he
    exact eqAns a (hs a ha) k hk) k 0 (by omega) (by omega)
theorem szAns (a : S126) (ha : ok126 a) (b : Int) (h0 : 0 ≤ b) (h1 : b ≤ 1048576) (k : Nat) (hk : 1048577 ≤ k) : ∃ n, laws_szAnswer.f k a b = some n ∧ n ≤ b ∧ (0 ≤ n → small a) := by
  obtain ⟨n, e1, n1, n2⟩ := szStrs a.f2 ha.2.2.1 b h0 h1 k hk
  unfold laws_szAnswer.f
  rw [e1, Option.bind_some]
  by_cases c : n < 0
  · rw [if_pos c]; exact ⟨-1, rfl, by omega, fun h => by omega⟩
  · rw [if_neg c]
    obtain ⟨m, e2, m1, m2⟩ := szStrs a.f3 ha.2.2.2 n (by omega) (by omega) k hk
    rw [e2, Option.bind_some]
    by_cases c2 : m < 0
    · rw [if_pos c2]; exact ⟨-1, rfl, by omega, fun h => by omega⟩
    · rw [if_neg c2]; exact ⟨m, rfl, by omega, fun h => ⟨n2 (by omega), m2 h⟩⟩
theorem szAnss (l : List S126) (hl : okList ok126 l) (b : Int) (h0 : 0 ≤ b) (h1 : b ≤ 1048576) (k : Nat) (hk : 2097153 < k) : ∃ n, laws_szAnswerS.f k l b = some n ∧ n ≤ b ∧ (0 ≤ n → l.length ≤ 1048576 ∧ ∀ a ∈ l, small a) := by
  have hll : l.length ≤ maxLen := hl.1
  have hm : maxLen = 9223372036854775807 := rfl
  have e : wrap64 (b - (l.length : Int)) = b - (l.length : Int) := by unfold wrap64; omega
  unfold laws_szAnswerS.f
  rw [e]
  by_cases c : b - (l.length : Int) < 0
  · rw [if_pos c]; exact ⟨-1, rfl, by omega, fun h => by omega⟩
  · rw [if_neg c]
    obtain ⟨n, n1, n2, n3⟩ := sz_loop laws_szAnswerS.l0 rd_T126 laws_szAnswer.f small l 1048577 (by omega) (rd126 l) (fun k b i => by rw [laws_szAnswerS.l0]) (fun k e b hk he g0 g1 => szAns e (hl.2 e he) b g0 g1 k hk) k (b - (l.length : Int)) 0 (by omega) (by omega) (by omega) (by omega)
    refine ⟨n, n1, by omega, fun h => ⟨by omega, fun a ha => ?_⟩⟩
    obtain ⟨j, hj, rfl⟩ := List.getElem_of_mem ha
    exact n3 h j hj (by omega)


theorem in_f (a b c : Int) : spec_l01In.f a b c = some (decide (b ≤ a ∧ a ≤ c)) := by
  unfold spec_l01In.f
  by_cases h : b ≤ a
  · rw [if_pos h]
    exact congrArg some (decide_eq_decide.2 ⟨fun q => ⟨h, q⟩, fun q => q.2⟩)
  · rw [if_neg h]
    exact congrArg some (decide_eq_false (fun q => h q.1)).symm
theorem in_g (a b c : Int) : impl_within.f a b c = some (decide (b ≤ a ∧ a ≤ c)) := in_f a b c

/-- The texts of an answer: the two ways of looking. -/
theorem texts_l (l : List ByteArray) (m : Int) (hn : l.length ≤ 1048576) : ∀ k (i : Int), 0 ≤ i → ((l.length : Int) - i).toNat < k →
    (∃ j, 0 ≤ j ∧ slices_IndexFunc_string_string_0.l0 k i l = some j ∧ spec_l15Texts.l0 k i l m = some false) ∨ (slices_IndexFunc_string_string_0.l0 k i l = some (-1) ∧ spec_l15Texts.l0 k i l m = some (decide ((l.length : Int) ≤ m)))
  | 0, _, _, h => absurd h (Nat.not_lt_zero _)
  | k + 1, i, h0, h => by
    by_cases c1 : i < (l.length : Int)
    · have e1 : wrap64 (i + 1) = i + 1 := w64 (by omega) (by omega)
      have ih := texts_l l m hn k (i + 1) (by omega) (by omega)
      rw [slices_IndexFunc_string_string_0.l0, spec_l15Texts.l0, if_pos c1, if_pos h0, if_pos c1, if_pos c1, if_pos h0, if_pos c1, e1, impl_textsOk_1.f, Option.bind_some]
      by_cases c2 : 400 < ((rdOf ByteArray.empty l i).size : Int)
      · rw [if_pos (decide_eq_true c2), if_pos c2]
        exact .inl ⟨i, h0, rfl, rfl⟩
      · rw [if_neg (by simpa using c2), if_neg c2]
        exact ih
    · refine .inr ⟨?_, ?_⟩
      · rw [slices_IndexFunc_string_string_0.l0, if_neg c1]
      · rw [spec_l15Texts.l0, if_neg c1]
theorem texts (l : List ByteArray) (m : Int) (hn : l.length ≤ 1048576) (k : Nat) (hk : 1048577 ≤ k) : ∃ v, spec_l15Texts.f k l m = some v ∧ impl_textsOk.f k l m = some v := by
  unfold spec_l15Texts.f impl_textsOk.f slices_ContainsFunc_string_string_0.f slices_IndexFunc_string_string_0.f
  rcases texts_l l m hn k 0 (by omega) (by omega) with ⟨j, hj, e1, e2⟩ | ⟨e1, e2⟩
  · refine ⟨false, e2, ?_⟩
    rw [e1]
    simp only [Option.bind_some, decide_eq_true hj]
    split <;> rfl
  · refine ⟨_, e2, ?_⟩
    rw [e1]
    by_cases c : (l.length : Int) ≤ m
    · rw [if_pos c, decide_eq_true c]; rfl
    · rw [if_neg c, decide_eq_false c]
theorem answer (a : S126) (h : small a) (k : Nat) (hk : 1048577 ≤ k) : ∃ v, impl_answerOk.f k (cvA a) = some v ∧ ∀ X : Option Bool,
    ((spec_l01In.f (cvA a).f0 0 2).bind fun t16 => (if t16 = true then ((spec_l01In.f (cvA a).f1 0 12).bind fun t19 => (if t19 = true then ((spec_l15Texts.f k (cvA a).f2 5).bind fun t22 => (if t22 = true then ((spec_l15Texts.f k (cvA a).f3 8).bind fun t25 => (if t25 = true then X else (some false))) else (some false))) else (some false))) else (some false))) = if v = true then X else some false := by
  obtain ⟨u, u1, u2⟩ := texts (cvA a).f2 5 h.1 k hk
  obtain ⟨w, w1, w2⟩ := texts (cvA a).f3 8 h.2 k hk
  unfold impl_answerOk.f
  simp only [in_f, in_g, u1, u2, w1, w2, Option.bind_some]
  refine ⟨decide (0 ≤ (cvA a).f0 ∧ (cvA a).f0 ≤ 2) && (decide (0 ≤ (cvA a).f1 ∧ (cvA a).f1 ≤ 12) && (u && w)), ?_, fun X => ?_⟩
  · cases decide (0 ≤ (cvA a).f0 ∧ (cvA a).f0 ≤ 2) <;> cases decide (0 ≤ (cvA a).f1 ∧ (cvA a).f1 ≤ 12) <;> cases u <;> cases w <;> rfl
  · cases decide (0 ≤ (cvA a).f0 ∧ (cvA a).f0 ≤ 2) <;> cases decide (0 ≤ (cvA a).f1 ∧ (cvA a).f1 ≤ 12) <;> cases u <;> cases w <;> rfl

theorem loop (x : List S126) (r : S76) (hr : r.f6 = x.map cvA) (hx : x.length ≤ 1048576) (hs : ∀ a ∈ x, small a) : ∀ k (i : Nat), 1048577 + (x.length - i) < k →
    (∃ j, 0 ≤ j ∧ impl_Answer_127_0.l0 k (i : Int) r.f6 = some j ∧ spec_ReplyOk.l0 k (i : Int) r = some false) ∨ (impl_Answer_127_0.l0 k (i : Int) r.f6 = some (-1) ∧ spec_ReplyOk.l0 k (i : Int) r = spec_ReplyOk.l0 1 (r.f6.length : Int) r)
  | 0, _, h => absurd h (Nat.not_lt_zero _)
  | k + 1, i, h => by
    have hl : r.f6.length = x.length := by rw [hr, List.length_map]
    by_cases c1 : (i : Int) < (r.f6.length : Int)
    · have hi : i < x.length := by omega
      have e1 : wrap64 ((i : Int) + 1) = ((i + 1 : Nat) : Int) := by rw [w64 (by omega) (by omega)]; rfl
      have ih := loop x r hr hx hs k (i + 1) (by omega)
      have hrd : rd_T127 r.f6 (i : Int) = cvA x[i] := by rw [hr, rd127 _ i (by simpa using hi)]; simp
      obtain ⟨v, v1, v2⟩ := answer x[i] (hs x[i] (List.getElem_mem hi)) k (by omega)
      rw [impl_Answer_127_0.l0, spec_ReplyOk.l0, if_pos c1, if_pos (by omega), if_pos c1, if_pos c1, if_pos (by omega), if_pos c1, e1, hrd, v2, impl_ReplyOk_1.f, v1, Option.bind_some, Option.bind_some]
      cases v
      · exact .inl ⟨i, by omega, rfl, rfl⟩
      · exact ih
    · refine .inr ⟨?_, ?_⟩
      · rw [impl_Answer_127_0.l0, if_neg c1]
      · rw [spec_ReplyOk.l0, if_neg c1, spec_ReplyOk.l0, if_neg (Int.lt_irrefl _)]

theorem agree (x : List S126) (r : S76) (hr : r.f6 = x.map cvA) (hx : x.length ≤ 1048576) (hs : ∀ a ∈ x, small a) (k : Nat) (hk : 2097153 < k) : ∃ v, spec_ReplyOk.f k r = some v ∧ impl_ReplyOk.f k r = some v := by
  unfold spec_ReplyOk.f impl_ReplyOk.f impl_Answer_97_0.f impl_Answer_127_0.f
  rcases loop x r hr hx hs k 0 (by omega) with ⟨j, hj, e1, e2⟩ | ⟨e1, e2⟩
  · refine ⟨false, e2, ?_⟩
    have e3 : impl_Answer_127_0.l0 k 0 r.f6 = some j := e1
    simp only [e3, in_g, Option.bind_some, decide_eq_true hj]
    repeat' split
    all_goals rfl
  · have e3 : impl_Answer_127_0.l0 k 0 r.f6 = some (-1) := e1
    have e4 : spec_ReplyOk.l0 k 0 r = _ := e2
    rw [e4, spec_ReplyOk.l0, if_neg (Int.lt_irrefl _), e3]
    simp only [in_f, in_g, Option.bind_some]
    by_cases c0 : (r.f0.size : Int) = 32
    · rw [if_pos c0, if_pos c0]
      cases decide (0 ≤ r.f1 ∧ r.f1 ≤ 1000000000) <;> cases decide (0 ≤ r.f2 ∧ r.f2 ≤ 19999) <;> cases decide (0 ≤ r.f3 ∧ r.f3 ≤ 19999) <;> cases decide (0 ≤ r.f4 ∧ r.f4 ≤ 99) <;> cases decide (0 ≤ r.f5 ∧ r.f5 ≤ 2) <;> first | exact ⟨_, rfl, rfl⟩ | skip
      by_cases c1 : (r.f6.length : Int) ≤ 3
      · by_cases c2 : (r.f7.size : Int) = 15
        · exact ⟨true, by simp [c1, c2], by simp [c2]; omega⟩
        · exact ⟨false, by simp [c1]; omega, by simp [c2]⟩
      · exact ⟨false, by simp; omega, by simp; omega⟩
    · rw [if_neg c0, if_neg c0]
      exact ⟨_, rfl, rfl⟩

theorem szReply (a : S72) (ha : ok72 a) (k : Nat) (hk : 2097153 < k) : ∃ n, laws_szReply.f k a 1048576 = some n ∧ (0 ≤ n → a.f6.length ≤ 1048576 ∧ ∀ x ∈ a.f6, small x) := by
  obtain ⟨h0, _, _, _, _, _, h6, h7⟩ := ha
  have g0 : a.f0.size ≤ maxLen := h0
  have g7 : a.f7.size ≤ maxLen := h7
  have hm : maxLen = 9223372036854775807 := rfl
  have e : wrap64 (1048576 - (a.f0.size : Int)) = 1048576 - (a.f0.size : Int) := by unfold wrap64; omega
  unfold laws_szReply.f
  rw [e]
  by_cases c : 1048576 - (a.f0.size : Int) < 0
  · rw [if_pos c]; exact ⟨-1, rfl, fun h => by omega⟩
  · rw [if_neg c]
    obtain ⟨n, n1, n2, n3⟩ := szAnss a.f6 h6 (1048576 - (a.f0.size : Int)) (by omega) (by omega) k hk
    rw [n1, Option.bind_some]
    by_cases c2 : n < 0
    · rw [if_pos c2]; exact ⟨-1, rfl, fun h => by omega⟩
    · rw [if_neg c2]
      split
      · exact ⟨-1, rfl, fun h => by omega⟩
      · exact ⟨_, rfl, fun _ => n3 (by omega)⟩

theorem pure : Pure := by
  intro a ha
  obtain ⟨k, hk⟩ : ∃ k, k = 4194304 := ⟨_, rfl⟩
  refine ⟨k, ?_⟩
  obtain ⟨n, e1, e2⟩ := szReply a ha k (by omega)
  unfold laws_FnExactReplyOk.f laws_toReply.f
  rw [e1, Option.bind_some]
  by_cases c : n < 0
  · rw [if_pos c]
  · rw [if_neg c]
    obtain ⟨hn, hs⟩ := e2 (by omega)
    obtain ⟨v, v1, v2⟩ := agree a.f6 ⟨a.f0, a.f1, a.f2, a.f3, a.f4, a.f5, a.f6.map cvA, a.f7⟩ rfl hn hs k (by omega)
    unfold laws_eqReply.f
    simp [toAnss a.f6 hn hs k (by omega), v1, v2, eqAnss a.f6 hn hs k (by omega)]
end Go.Proofs.Ytfeebnbookfpmaa.PureFnExactReplyOk

/- The statement FnExactSameAnswers, as numbers and lists: the program's comparison of answers and the reference's are one loop. -/
import Derived.Test.YtfeebnbookfpmaaSaidFnExactSameAnswers
import Derived.Test.YtfeebnbookfpmaaZPure
namespace Go.Proofs.Ytfeebnbookfpmaa.PureFnExactSameAnswers
open Go.RowKit Go.Proofs.YtfeebnbookfpmaaW.PrintWords Go.Proofs.YtfeebnbookfpmaaW.PrintLast Go.Proofs.Ytfeebnbookfpmaa.ZOpen Go.Proofs.Ytfeebnbookfpmaa.Z Go.Proofs.Ytfeebnbookfpmaa.F
open Go.Proofs.Ytfeebnbookfpmaa.SaidFnExactSameAnswers Go.Proofs.Ytfeebnbookfpmaa.ZP

theorem rds (x : List ByteArray) (i : Nat) (h : i < x.length) : rdOf ByteArray.empty x (i : Int) = x[i] := by simp [rdOf, h]
theorem rd126 (x : List S126) (i : Nat) (h : i < x.length) : rd_T126 x (i : Int) = x[i] := by simp [rd_T126, h]
theorem rd127 (x : List S127) (i : Nat) (h : i < x.length) : rd_T127 x (i : Int) = x[i] := by simp [rd_T127, h]

theorem toStrs (x : List ByteArray) (hx : x.length ≤ 1048576) (k : Nat) (hk : 1048576 < k) : laws_toStringS.f k x = some x := by
  unfold laws_toStringS.f
  rw [if_pos (by omega), if_pos (by omega)]
  have := to_loop laws_toStringS.l0 (rdOf ByteArray.empty) (fun _ e => some e) id x 0 hx (rds x) (fun k y i => by rw [laws_toStringS.l0]; rfl) (fun _ _ _ _ => rfl) k (List.replicate x.length (⟨#[]⟩ : ByteArray)) 0 (by omega) (by simp) rfl (by omega)
  simpa using this
theorem eqStrs (x : List ByteArray) (hx : x.length ≤ 1048576) (k : Nat) (hk : 1048576 < k) : laws_eqStringS.f k x x = some true := by
  unfold laws_eqStringS.f
  rw [if_pos rfl]
  exact eq_loop laws_eqStringS.l0 (rdOf ByteArray.empty) (fun _ _ => some true) x 0 hx (rds x) (fun k i => by rw [laws_eqStringS.l0]; simp) (fun _ _ _ _ => rfl) k 0 (by omega) (by omega)
theorem szStrs (l : List ByteArray) (hl : okList okStr l) (b : Int) (h0 : 0 ≤ b) (h1 : b ≤ 1048576) (k : Nat) (hk : 1048577 ≤ k) : ∃ n, laws_szStringS.f k l b = some n ∧ n ≤ b ∧ (0 ≤ n → l.length ≤ 1048576) := by
  have hll : l.length ≤ maxLen := hl.1
  have hm : maxLen = 9223372036854775807 := rfl
  have e : wrap64 (b - (l.length : Int)) = b - (l.length : Int) := by unfold wrap64; omega
  unfold laws_szStringS.f
  rw [e]
  by_cases c : b - (l.length : Int) < 0
  · rw [if_pos c]; exact ⟨-1, rfl, by omega, fun h => by omega⟩
  · rw [if_neg c]
    obtain ⟨n, n1, n2, _⟩ := sz_loop laws_szStringS.l0 (rdOf ByteArray.empty) (fun _ e b => some (wrap64 (b - (e.size : Int)))) (fun _ => True) l 0 (by omega) (rds l) (fun k b i => by rw [laws_szStringS.l0]; rfl) (fun k e b _ he g0 g1 => by
      have h2 : e.size ≤ maxLen := hl.2 e he
      exact ⟨_, rfl, by unfold wrap64; omega, fun _ => trivial⟩) k (b - (l.length : Int)) 0 (by omega) (by omega) (by omega) (by omega)
    exact ⟨n, n1, by omega, fun h => by omega⟩

def cvA (a : S126) : S127 := ⟨a.f0, a.f1, a.f2, a.f3⟩
def small (a : S126) : Prop := a.f2.length ≤ 1048576 ∧ a.f3.length ≤ 1048576
theorem toAns (a : S126) (h : small a) (k : Nat) (hk : 1048577 ≤ k) : laws_toAnswer.f k a = some (cvA a) := by
  unfold laws_toAnswer.f
  simp only [toStrs a.f2 h.1 k hk, toStrs a.f3 h.2 k hk, Option.bind_some]
  rfl
theorem toAnss (x : List S126) (hx : x.length ≤ 1048576) (hs : ∀ a ∈ x, small a) (k : Nat) (hk : 2097153 < k) : laws_toAnswerS.f k x = some (x.map cvA) := by
  unfold laws_toAnswerS.f
  rw [if_pos (by omega), if_pos (by omega)]
  exact to_loop laws_toAnswerS.l0 rd_T126 laws_toAnswer.f cvA x 1048577 hx (rd126 x) (fun k y i => by rw [laws_toAnswerS.l0]) (fun k e hk he => toAns e (hs e he) k hk) k (List.replicate x.length z127) 0 (by omega) (by simp) rfl (by omega)
theorem eqAns (a : S126) (h : small a) (k : Nat) (hk : 1048577 ≤ k) : laws_eqAnswer.f k (cvA a) (cvA a) = some true := by
  unfold laws_eqAnswer.f
  have h1 := eqStrs a.f2 h.1 k hk
  have h2 := eqStrs a.f3 h.2 k hk
  simp [cvA, h1, h2]
theorem eqAnss (x : List S126) (hx : x.length ≤ 1048576) (hs : ∀ a ∈ x, small a) (k : Nat) (hk : 2097153 < k) : laws_eqAnswerS.f k (x.map cvA) (x.map cvA) = some true := by
  unfold laws_eqAnswerS.f
  rw [if_pos rfl]
  have hl : (x.map cvA).length = x.length := List.length_map _
  exact eq_loop laws_eqAnswerS.l0 rd_T127 (fun k e => laws_eqAnswer.f k e e) (x.map cvA) 1048577 (by omega) (rd127 _) (fun k i => by rw [laws_eqAnswerS.l0]) (fun k e hk he => by
    obtain ⟨a, ha, rfl⟩ := List.mem_map.1 he
    exact eqAns a (hs a ha) k hk) k 0 (by omega) (by omega)
theorem szAns (a : S126) (ha : ok126 a) (b : Int) (h0 : 0 ≤ b) (h1 : b ≤ 1048576) (k : Nat) (hk : 1048577 ≤ k) : ∃ n, laws_szAnswer.f k a b = some n ∧ n ≤ b ∧ (0 ≤ n → small a) := by
  obtain ⟨n, e1, n1, n2⟩ := szStrs a.f2 ha.2.2.1 b h0 h1 k hk
  unfold laws_szAnswer.f
  rw [e1, Option.bind_some]
  by_cases c : n < 0
  · rw [if_pos c]; exact ⟨-1, rfl, by omega, fun h => by omega⟩
  · rw [if_neg c]
    obtain ⟨m, e2, m1, m2⟩ := szStrs a.f3 ha.2.2.2 n (by omega) (by omega) k hk
    rw [e2, Option.bind_some]
    by_cases c2 : m < 0
    · rw [if_pos c2]; exact ⟨-1, rfl, by omega, fun h => by omega⟩
    · rw [if_neg c2]; exact ⟨m, rfl, by omega, fun h => ⟨n2 (by omega), m2 h⟩⟩
theorem szAnss (l : List S126) (hl : okList ok126 l) (b : Int) (h0 : 0 ≤ b) (h1 : b ≤ 1048576) (k : Nat) (hk : 2097153 < k) : ∃ n, laws_szAnswerS.f k l b = some n ∧ n ≤ b ∧ (0 ≤ n → l.length ≤ 1048576 ∧ ∀ a ∈ l, small a) := by
  have hll : l.length ≤ maxLen := hl.1
  have hm : maxLen = 9223372036854775807 := rfl
  have e : wrap64 (b - (l.length : Int)) = b - (l.length : Int) := by unfold wrap64; omega
  unfold laws_szAnswerS.f
  rw [e]
  by_cases c : b - (l.length : Int) < 0
  · rw [if_pos c]; exact ⟨-1, rfl, by omega, fun h => by omega⟩
  · rw [if_neg c]
    obtain ⟨n, n1, n2, n3⟩ := sz_loop laws_szAnswerS.l0 rd_T126 laws_szAnswer.f small l 1048577 (by omega) (rd126 l) (fun k b i => by rw [laws_szAnswerS.l0]) (fun k e b hk he g0 g1 => szAns e (hl.2 e he) b g0 g1 k hk) k (b - (l.length : Int)) 0 (by omega) (by omega) (by omega) (by omega)
    refine ⟨n, n1, by omega, fun h => ⟨by omega, fun a ha => ?_⟩⟩
    obtain ⟨j, hj, rfl⟩ := List.getElem_of_mem ha
    exact n3 h j hj (by omega)

theorem same1 (x y : List ByteArray) : ∀ k i, spec_l15Same.l0 k i x y = slices_Equal_string_string.l0 k i x y
  | 0, _ => rfl
  | k + 1, i => by rw [spec_l15Same.l0, slices_Equal_string_string.l0]; simp only [same1 x y k]
theorem same2 (x y : List ByteArray) (k : Nat) : spec_l15Same.f k x y = slices_Equal_string_string.f k x y := by
  unfold spec_l15Same.f slices_Equal_string_string.f
  rw [same1]
theorem same3 (x y : List S127) : ∀ k i, spec_SameAnswers.l0 k i x y = impl_Answer_93_0.l0 k i x y
  | 0, _ => rfl
  | k + 1, i => by
    rw [spec_SameAnswers.l0, impl_Answer_93_0.l0, impl_sameAnswer.f]
    simp only [same3 x y k, same2]
    by_cases c1 : (rd_T127 x i).f0 = (rd_T127 y i).f0
    · simp only [if_pos c1]
      by_cases c2 : (rd_T127 x i).f1 = (rd_T127 y i).f1
      · simp only [if_pos c2]
        cases slices_Equal_string_string.f k (rd_T127 x i).f2 (rd_T127 y i).f2 with
        | none => rfl
        | some t =>
          simp only [Option.bind_some]
          cases t
          · simp
          · simp only [if_true]
            cases slices_Equal_string_string.f k (rd_T127 x i).f3 (rd_T127 y i).f3 <;> rfl
      · simp [if_neg c2]
    · simp [if_neg c1]

theorem end1 (x y : List ByteArray) (hx : x.length ≤ 1048576) (hy : y.length = x.length) : ∀ k (i : Int), 0 ≤ i → ((x.length : Int) - i).toNat < k → ∃ v, spec_l15Same.l0 k i x y = some v
  | 0, _, _, h => absurd h (Nat.not_lt_zero _)
  | k + 1, i, h0, h => by
    rw [spec_l15Same.l0]
    by_cases c1 : i < (x.length : Int)
    · have e1 : wrap64 (i + 1) = i + 1 := w64 (by omega) (by omega)
      rw [if_pos c1, if_pos h0, if_pos c1, if_pos (by omega), e1]
      split
      · exact end1 x y hx hy k (i + 1) (by omega) (by omega)
      · exact ⟨_, rfl⟩
    · rw [if_neg c1]; exact ⟨_, rfl⟩
theorem end2 (x y : List ByteArray) (hx : x.length ≤ 1048576) (k : Nat) (hk : 1048577 ≤ k) : ∃ v, spec_l15Same.f k x y = some v := by
  unfold spec_l15Same.f
  split
  · exact end1 x y hx (by omega) k 0 (by omega) (by omega)
  · exact ⟨_, rfl⟩
theorem end3 (x y : List S126) (hx : x.length ≤ 1048576) (hy : y.length = x.length) (hs : ∀ a ∈ x, small a) : ∀ k (i : Nat), 1048577 + (x.length - i) < k → ∃ v, spec_SameAnswers.l0 k (i : Int) (x.map cvA) (y.map cvA) = some v
  | 0, _, h => absurd h (Nat.not_lt_zero _)
  | k + 1, i, h => by
    rw [spec_SameAnswers.l0, List.length_map, List.length_map]
    by_cases c1 : (i : Int) < (x.length : Int)
    · have hi : i < x.length := by omega
      have e1 : wrap64 ((i : Int) + 1) = ((i + 1 : Nat) : Int) := by rw [w64 (by omega) (by omega)]; rfl
      have ih := end3 x y hx hy hs k (i + 1) (by omega)
      have hr : rd_T127 (x.map cvA) (i : Int) = cvA x[i] := by rw [rd127 _ i (by simpa using hi)]; simp
      have hsm := hs x[i] (List.getElem_mem hi)
      obtain ⟨u, hu⟩ := end2 (cvA x[i]).f2 (rd_T127 (y.map cvA) (i : Int)).f2 hsm.1 k (by omega)
      obtain ⟨u', hu'⟩ := end2 (cvA x[i]).f3 (rd_T127 (y.map cvA) (i : Int)).f3 hsm.2 k (by omega)
      rw [if_pos c1, if_pos (by omega), if_pos c1, if_pos (by omega), hr, hu, hu', e1]
      split
      · split
        · simp only [Option.bind_some]
          split
          · split
            · exact ih
            · exact ⟨_, rfl⟩
          · exact ⟨_, rfl⟩
        · exact ⟨_, rfl⟩
      · exact ⟨_, rfl⟩
    · rw [if_neg c1]; exact ⟨_, rfl⟩

theorem pure : Pure := by
  intro l m hl hm
  obtain ⟨k, hk⟩ : ∃ k, k = 4194304 := ⟨_, rfl⟩
  refine ⟨k, ?_⟩
  obtain ⟨n, e1, b1, e2⟩ := szAnss l hl 1048576 (by omega) (by omega) k (by omega)
  unfold laws_FnExactSameAnswers.f
  rw [e1, Option.bind_some]
  by_cases c : n < 0
  · rw [if_pos c]
  · rw [if_neg c]
    obtain ⟨n2, e3, b2, e4⟩ := szAnss m hm n (by omega) (by omega) k (by omega)
    rw [e3, Option.bind_some]
    by_cases c2 : n2 < 0
    · rw [if_pos c2]
    · rw [if_neg c2]
      obtain ⟨hn, hs⟩ := e2 (by omega)
      obtain ⟨hn2, hs2⟩ := e4 (by omega)
      have ag : ∃ v, spec_SameAnswers.f k (l.map cvA) (m.map cvA) = some v ∧ impl_SameAnswers.f k (l.map cvA) (m.map cvA) = some v := by
        unfold spec_SameAnswers.f impl_SameAnswers.f impl_Answer_93_0.f
        by_cases q : ((l.map cvA).length : Int) = ((m.map cvA).length : Int)
        · rw [if_pos q, if_pos q]
          have q2 : m.length = l.length := by simpa using (Int.ofNat.inj q).symm
          obtain ⟨v, hv⟩ := end3 l m hn q2 hs k 0 (by omega)
          refine ⟨v, hv, ?_⟩
          rw [← same3]
          show (spec_SameAnswers.l0 k ((0 : Nat) : Int) _ _).bind _ = _
          rw [hv, Option.bind_some]
        · rw [if_neg q, if_neg q]
          exact ⟨false, rfl, rfl⟩
      obtain ⟨v, v1, v2⟩ := ag
      simp [toAnss l hn hs k (by omega), toAnss m hn2 hs2 k (by omega), v1, v2, eqAnss l hn hs k (by omega), eqAnss m hn2 hs2 k (by omega)]
end Go.Proofs.Ytfeebnbookfpmaa.PureFnExactSameAnswers

/- What the law's own helpers do: they measure, copy, compare, mark. Plain lemmas, no condition. -/
import Derived.Test.YtfeebnbookfpmaaSaidFnExactWholeOf
import Derived.Test.YtfeebnbookfpmaaZMark
namespace Go.Proofs.Ytfeebnbookfpmaa.FamFnExactWholeOf
open Go.RowKit Go.Proofs.YtfeebnbookfpmaaW.PrintWords Go.Proofs.YtfeebnbookfpmaaW.PrintLast Go.Proofs.Ytfeebnbookfpmaa.ZOpen Go.Proofs.Ytfeebnbookfpmaa.Z Go.Proofs.Ytfeebnbookfpmaa.F
open Go.Proofs.Ytfeebnbookfpmaa.SaidFnExactWholeOf Go.Proofs.Ytfeebnbookfpmaa.ZP
set_option linter.unusedVariables false
set_option linter.unusedSimpArgs false
set_option maxRecDepth 100000

def sm119 (x : S119) : Prop := True ∧ True ∧ True
theorem eq_125 (x : S119) (h : sm119 x) (k : Nat) (hk : 0 ≤ k) : laws_eqRev.f x x = some true := by
  unfold laws_eqRev.f
  simp []
theorem rd119 (x : List S119) (i : Nat) (h : i < x.length) : rd_T119 x (i : Int) = x[i] := by simp [rd_T119, h]
theorem eq_87 (x : (List S119)) (h : (x.length ≤ 1048576 ∧ ∀ e ∈ x, sm119 e)) (k : Nat) (hk : 1048577 ≤ k) : laws_eqRevS.f k x x = some true := by
  have hx := h.1
  unfold laws_eqRevS.f
  rw [if_pos rfl]
  exact eq_loop laws_eqRevS.l0 rd_T119 (fun k e => laws_eqRev.f e e) x 0 hx (rd119 x) (fun k i => by rw [laws_eqRevS.l0]) (fun k e hk he => eq_125 e (h.2 e he) k (by omega)) k 0 (by omega) (by omega)
def sm54 (x : S54) : Prop := x.f0.size ≤ 1048576 ∧ True ∧ True ∧ True ∧ True ∧ (x.f5.length ≤ 1048576 ∧ ∀ e ∈ x.f5, sm119 e) ∧ x.f6.size ≤ 1048576 ∧ True
theorem eq_33 (x : S54) (h : sm54 x) (k : Nat) (hk : 1048577 ≤ k) : laws_eqCrl.f k x x = some true := by
  unfold laws_eqCrl.f
  simp [eq_87 x.f5 h.2.2.2.2.2.1 k (by omega)]
def sm152 (x : S152) : Prop := True ∧ True ∧ True
theorem rd152 (x : List S152) (i : Nat) (h : i < x.length) : rd_T152 x (i : Int) = x[i] := by simp [rd_T152, h]
theorem sz_85 (l : (List S152)) (hl : okList ok152 l) (b : Int) (h0 : 0 ≤ b) (h1 : b ≤ 1048576) (k : Nat) (hk : 0 ≤ k) : ∃ n, laws_szRevS.f l b = some n ∧ n ≤ b ∧ (0 ≤ n → (l.length ≤ 1048576 ∧ ∀ e ∈ l, sm152 e)) := by
  have hll : l.length ≤ maxLen := hl.1
  have hm : maxLen = 9223372036854775807 := rfl
  have e : wrap64 (b - (l.length : Int)) = b - (l.length : Int) := by unfold wrap64; omega
  unfold laws_szRevS.f
  rw [e]
  by_cases c : b - (l.length : Int) < 0
  · rw [if_pos c]; exact ⟨-1, rfl, by omega, fun h => by omega⟩
  rw [if_neg c]
  exact ⟨_, rfl, by omega, fun h => ⟨by omega, fun e he => by simp [sm119, sm54, sm152]⟩⟩
def sm49 (x : S49) : Prop := x.f0.size ≤ 1048576 ∧ True ∧ True ∧ True ∧ True ∧ (x.f5.length ≤ 1048576 ∧ ∀ e ∈ x.f5, sm152 e) ∧ x.f6.size ≤ 1048576 ∧ True
theorem sz_29 (x : S49) (hx : ok49 x) (b : Int) (h0 : 0 ≤ b) (h1 : b ≤ 1048576) (k : Nat) (hk : 0 ≤ k) : ∃ n, laws_szCrl.f x b = some n ∧ n ≤ b ∧ (0 ≤ n → sm49 x) := by
  have hm : maxLen = 9223372036854775807 := rfl
  unfold laws_szCrl.f
  have s0 : x.f0.size ≤ maxLen := hx.1
  have e0 : wrap64 (b - (x.f0.size : Int)) = b - (x.f0.size : Int) := by unfold wrap64; omega
  rw [e0]
  by_cases c0 : b - (x.f0.size : Int) < 0
  · rw [if_pos c0]; exact ⟨-1, rfl, by omega, fun h => by omega⟩
  rw [if_neg c0]
  obtain ⟨n5, e5, b5, p5⟩ := sz_85 x.f5 (hx.2.2.2.2.2.1) (b - (x.f0.size : Int)) (by omega) (by omega) k (by omega)
  rw [e5, Option.bind_some]
  by_cases c5 : n5 < 0
  · rw [if_pos c5]; exact ⟨-1, rfl, by omega, fun h => by omega⟩
  rw [if_neg c5]
  have s6 : x.f6.size ≤ maxLen := hx.2.2.2.2.2.2
  have e6 : wrap64 (n5 - (x.f6.size : Int)) = n5 - (x.f6.size : Int) := by unfold wrap64; omega
  rw [e6]
  by_cases c6 : n5 - (x.f6.size : Int) < 0
  · rw [if_pos c6]; exact ⟨-1, rfl, by omega, fun h => by omega⟩
  rw [if_neg c6]
  exact ⟨(n5 - (x.f6.size : Int)), rfl, by omega, fun h => ⟨(by omega), trivial, trivial, trivial, trivial, (p5 (by omega)), (by omega), trivial⟩⟩
theorem rd49 (x : List S49) (i : Nat) (h : i < x.length) : rd_T49 x (i : Int) = x[i] := by simp [rd_T49, h]
theorem sz_49 (l : (List S49)) (hl : okList ok49 l) (b : Int) (h0 : 0 ≤ b) (h1 : b ≤ 1048576) (k : Nat) (hk : 1048577 ≤ k) : ∃ n, laws_szCrlS.f k l b = some n ∧ n ≤ b ∧ (0 ≤ n → (l.length ≤ 1048576 ∧ ∀ e ∈ l, sm49 e)) := by
  have hll : l.length ≤ maxLen := hl.1
  have hm : maxLen = 9223372036854775807 := rfl
  have e : wrap64 (b - (l.length : Int)) = b - (l.length : Int) := by unfold wrap64; omega
  unfold laws_szCrlS.f
  rw [e]
  by_cases c : b - (l.length : Int) < 0
  · rw [if_pos c]; exact ⟨-1, rfl, by omega, fun h => by omega⟩
  rw [if_neg c]
  obtain ⟨n, n1, n2, n3⟩ := sz_loop laws_szCrlS.l0 rd_T49 (fun k e b => laws_szCrl.f e b) sm49 l 0 (by omega) (rd49 l) (fun k b i => by rw [laws_szCrlS.l0]) (fun k e b hk he g0 g1 => sz_29 e (hl.2 e he) b g0 g1 k (by omega)) k (b - (l.length : Int)) 0 (by omega) (by omega) (by omega) (by omega)
  refine ⟨n, n1, by omega, fun h => ⟨by omega, fun a ha => ?_⟩⟩
  obtain ⟨j, hj, rfl⟩ := List.getElem_of_mem ha
  exact n3 h j hj (by omega)
def cv152 (x : S152) : S119 := ⟨x.f0, x.f1⟩
theorem to_124 (x : S152) (h : sm152 x) (k : Nat) (hk : 0 ≤ k) : laws_toRev.f x = some (cv152 x) := by
  unfold laws_toRev.f
  rfl
theorem smcv152 (x : S152) (h : sm152 x) : sm119 (cv152 x) := ⟨h.1, h.2.1, trivial⟩
theorem to_86 (x : (List S152)) (h : (x.length ≤ 1048576 ∧ ∀ e ∈ x, sm152 e)) (k : Nat) (hk : 1048577 ≤ k) : laws_toRevS.f k x = some (x.map cv152) := by
  have hx := h.1
  unfold laws_toRevS.f
  rw [if_pos (by omega), if_pos (by omega)]
  have := to_loop laws_toRevS.l0 rd_T152 (fun k e => laws_toRev.f e) cv152 x 0 hx (rd152 x) (fun k y i => by rw [laws_toRevS.l0]) (fun k e hk he => to_124 e (h.2 e he) k (by omega)) k (List.replicate x.length z119) 0 (by omega) (by simp) rfl (by omega)
  simpa using this
def cv49 (x : S49) : S54 := ⟨x.f0, x.f1, x.f2, x.f3, x.f4, (x.f5.map cv152), x.f6⟩
theorem to_31 (x : S49) (h : sm49 x) (k : Nat) (hk : 1048577 ≤ k) : laws_toCrl.f k x = some (cv49 x) := by
  unfold laws_toCrl.f
  simp only [to_86 x.f5 h.2.2.2.2.2.1 k (by omega), Option.bind_some]
  rfl
theorem smcv49 (x : S49) (h : sm49 x) : sm54 (cv49 x) := ⟨h.1, h.2.1, h.2.2.1, h.2.2.2.1, h.2.2.2.2.1, ⟨by show (List.map cv152 _).length ≤ _; rw [List.length_map]; exact h.2.2.2.2.2.1.1, fun e he => by
  obtain ⟨a, ha, rfl⟩ := List.mem_map.1 he
  exact smcv152 a (h.2.2.2.2.2.1.2 a ha)⟩, h.2.2.2.2.2.2.1, trivial⟩
theorem to_51 (x : (List S49)) (h : (x.length ≤ 1048576 ∧ ∀ e ∈ x, sm49 e)) (k : Nat) (hk : 2097154 ≤ k) : laws_toCrlS.f k x = some (x.map cv49) := by
  have hx := h.1
  unfold laws_toCrlS.f
  rw [if_pos (by omega), if_pos (by omega)]
  have := to_loop laws_toCrlS.l0 rd_T49 (fun k e => laws_toCrl.f k e) cv49 x 1048577 hx (rd49 x) (fun k y i => by rw [laws_toCrlS.l0]) (fun k e hk he => to_31 e (h.2 e he) k (by omega)) k (List.replicate x.length z54) 0 (by omega) (by simp) rfl (by omega)
  simpa using this
theorem rd54 (x : List S54) (i : Nat) (h : i < x.length) : rd_T54 x (i : Int) = x[i] := by simp [rd_T54, h]
theorem eq_53 (x : (List S54)) (h : (x.length ≤ 1048576 ∧ ∀ e ∈ x, sm54 e)) (k : Nat) (hk : 2097154 ≤ k) : laws_eqCrlS.f k x x = some true := by
  have hx := h.1
  unfold laws_eqCrlS.f
  rw [if_pos rfl]
  exact eq_loop laws_eqCrlS.l0 rd_T54 (fun k e => laws_eqCrl.f k e e) x 1048577 hx (rd54 x) (fun k i => by rw [laws_eqCrlS.l0]) (fun k e hk he => eq_33 e (h.2 e he) k (by omega)) k 0 (by omega) (by omega)
def txt (m : Int) : ByteArray := (laws_markText.f 64 m).getD ByteArray.empty
theorem text_loop : ∀ (n : Nat) (m : Int) (s : ByteArray), 0 ≤ m → m ≤ 4611686018427387904 → m < 10 ^ n → s.size + n ≤ 4611686018427387904 → ∃ t, ∀ k, n < k → laws_markText.l0 k m s = some t
  | 0, m, s, h0, hB, h1, hs => by
    obtain rfl : m = 0 := by omega
    have e1 : (⟨#[109]⟩ : ByteArray).size = 1 := rfl
    refine ⟨(⟨#[109]⟩ : ByteArray) ++ s, fun k hk => ?_⟩
    obtain ⟨k, rfl⟩ : ∃ q, k = q + 1 := ⟨k - 1, by omega⟩
    rw [laws_markText.l0, if_neg (by omega), if_pos (by omega)]
  | n + 1, m, s, h0, hB, h1, hs => by
    by_cases c : 0 < m
    · have e2 : (strOfNums ([((wrap64 (48 + (Int.tmod m 10))) % 256)] : List Int)).size = 1 := strOfNums_size _
      have e3 : Int.tdiv m 10 = m / 10 := Int.tdiv_eq_ediv_of_nonneg h0
      have e5 : m / 10 < 10 ^ n := by
        have : (10 : Int) ^ (n + 1) = 10 ^ n * 10 := Int.pow_succ 10 n
        omega
      have hw : wrap64 (Int.tdiv m 10) = m / 10 := by rw [e3]; unfold wrap64; omega
      · obtain ⟨t, ht⟩ := text_loop n (m / 10) ((strOfNums ([((wrap64 (48 + (Int.tmod m 10))) % 256)] : List Int)) ++ s) (by omega) (by omega) e5 (by rw [ByteArray.size_append, e2]; omega)
        refine ⟨t, fun k hk => ?_⟩
        obtain ⟨k, rfl⟩ : ∃ q, k = q + 1 := ⟨k - 1, by omega⟩
        rw [laws_markText.l0, if_pos c, if_pos (by omega), hw]
        exact ht k (by omega)
    · obtain rfl : m = 0 := by omega
      have e1 : (⟨#[109]⟩ : ByteArray).size = 1 := rfl
      refine ⟨(⟨#[109]⟩ : ByteArray) ++ s, fun k hk => ?_⟩
      obtain ⟨k, rfl⟩ : ∃ q, k = q + 1 := ⟨k - 1, by omega⟩
      rw [laws_markText.l0, if_neg (by omega), if_pos (by omega)]
theorem text (m : Int) (h0 : 0 < m) (h1 : m ≤ 4611686018427387904) (k : Nat) (hk : 64 ≤ k) : laws_markText.f k m = some (txt m) := by
  obtain ⟨t, ht⟩ := text_loop 19 m (⟨#[]⟩ : ByteArray) (by omega) h1 (by omega) (by show 0 + 19 ≤ _; omega)
  have e : ∀ k, 64 ≤ k → laws_markText.f k m = some t := fun k hk => by
    unfold laws_markText.f
    rw [if_neg (by omega)]
    exact ht k (by omega)
  rw [e k hk]
  unfold txt
  rw [e 64 (by omega)]
  rfl
theorem mk_104 (x : (List S119)) (h : (x.length ≤ 1048576 ∧ ∀ e ∈ x, sm119 e)) (m : Int) (h0 : 0 < m) (h1 : m + 2097154 ≤ 4611686018427387904) (k : Nat) (hk : 1048577 ≤ k) : ∃ m2 r, laws_markRevS.f k x m = some (m2, r) ∧ m ≤ m2 ∧ m2 ≤ m + 2097154 ∧ (∀ k, 1048577 ≤ k → laws_heldRevS.f k r m = some m2) := by
  have hx := h.1
  have hw : (2 : Int) * ((x.length - 0 : Nat) : Int) ≤ 2097152 := by omega
  refine Exists.elim (mark_loop True laws_markRevS.l0 laws_heldRevS.l0 x sm119 0 2 4611686018427387902 hx (fun k l m i e hK hi hl hle hp hm0 hm1 => ?_) (fun k l m => ?_) ?_ x.length k x m 0 rfl (Nat.zero_le _) rfl (fun j e _ he => h.2 e (List.mem_of_getElem? he)) h0 (by omega) (by omega)) (fun m2 HM => ?_)
  · have c1 : (i : Int) < (x.length : Int) := by omega
    have c0 : 0 ≤ (i : Int) := by omega
    have e1 : wrap64 ((i : Int) + 1) = ((i + 1 : Nat) : Int) := by rw [w64 (by omega) (by omega)]; rfl
    have re : rd_T119 l (i : Int) = e := by rw [rd119 l i (by omega)]; exact Option.some.inj ((List.getElem?_eq_getElem (by omega)).symm.trans hle)
    have rs : ∀ y, rd_T119 (l.set i y) (i : Int) = y := fun y => by rw [rd119 _ i (by rw [List.length_set]; omega), List.getElem_set_self]
    refine ⟨(⟨m, m + 1⟩ : S119), m + 1 + 1, ?_, by omega, by omega, fun _ k' l2 hK' hl2 he2 => ?_⟩
    · rw [laws_markRevS.l0]
      simp only [lets, c1, c0, e1, re, rs, Int.toNat_natCast, List.set_set, if_true, Option.bind_some, u119_0_3, u119_1_3, show wrap64 (m + 1) = m + 1 from w64 (by omega) (by omega), show wrap64 (m + 1 + 1) = m + 1 + 1 from w64 (by omega) (by omega)]
    · have c2 : (i : Int) < (l2.length : Int) := by omega
      have re2 : rd_T119 l2 (i : Int) = (⟨m, m + 1⟩ : S119) := by rw [rd119 l2 i (by omega)]; exact Option.some.inj ((List.getElem?_eq_getElem (by omega)).symm.trans he2)
      rw [laws_heldRevS.l0]
      simp only [c2, c0, e1, re2, if_true, if_false, Option.bind_some, show wrap64 (m + 1) = m + 1 from w64 (by omega) (by omega), show wrap64 (m + 1 + 1) = m + 1 + 1 from w64 (by omega) (by omega)]
  · rw [laws_markRevS.l0, if_neg (by omega)]
  · intro _ k l2 m hl2
    rw [laws_heldRevS.l0, if_neg (by omega)]
  · obtain ⟨r, g1, g2, g3, g4, _, g6⟩ := HM
    refine ⟨m2, r, by unfold laws_markRevS.f; exact g1, g2, by omega, fun k' hk' => by unfold laws_heldRevS.f; exact g6 trivial k' (by omega)⟩
theorem mk_54 (x : (List S54)) (h : (x.length ≤ 1048576 ∧ ∀ e ∈ x, sm54 e)) (m : Int) (h0 : 0 < m) (h1 : m + 2199033741320 ≤ 4611686018427387904) (k : Nat) (hk : 2097154 ≤ k) : ∃ m2 r, laws_markCrlS.f k x m = some (m2, r) ∧ m ≤ m2 ∧ m2 ≤ m + 2199033741320 ∧ True := by
  have hx := h.1
  have hw : (2097160 : Int) * ((x.length - 0 : Nat) : Int) ≤ 2199031644160 := by omega
  refine Exists.elim (mark_loop False laws_markCrlS.l0 (fun _ _ _ _ => none) x sm54 1048577 2097160 4611686018425290744 hx (fun k l m i e hK hi hl hle hp hm0 hm1 => ?_) (fun k l m => ?_) ?_ x.length k x m 0 rfl (Nat.zero_le _) rfl (fun j e _ he => h.2 e (List.mem_of_getElem? he)) h0 (by omega) (by omega)) (fun m2 HM => ?_)
  · have c1 : (i : Int) < (x.length : Int) := by omega
    have c0 : 0 ≤ (i : Int) := by omega
    have e1 : wrap64 ((i : Int) + 1) = ((i + 1 : Nat) : Int) := by rw [w64 (by omega) (by omega)]; rfl
    have re : rd_T54 l (i : Int) = e := by rw [rd54 l i (by omega)]; exact Option.some.inj ((List.getElem?_eq_getElem (by omega)).symm.trans hle)
    obtain ⟨m0, r0, e0, a0, b0, d0⟩ := mk_104 e.f5 hp.2.2.2.2.2.1 (m + 1 + 1 + 1 + 1 + 1) (by omega) (by omega) k (by omega)
    have rs : ∀ y, rd_T54 (l.set i y) (i : Int) = y := fun y => by rw [rd54 _ i (by rw [List.length_set]; omega), List.getElem_set_self]
    refine ⟨(⟨(txt (m)), m + 1, m + 1 + 1, m + 1 + 1 + 1, m + 1 + 1 + 1 + 1, r0, (txt (m0))⟩ : S54), m0 + 1, ?_, by omega, by omega, fun hc => hc.elim⟩
    · rw [laws_markCrlS.l0]
      simp only [lets, c1, c0, e1, re, rs, Int.toNat_natCast, List.set_set, if_true, Option.bind_some, u54_0_9, u54_1_3, u54_2_3, u54_3_3, u54_4_3, u54_5_52, u54_6_9, text (m) (by omega) (by omega) k (by omega), show wrap64 (m + 1) = m + 1 from w64 (by omega) (by omega), show wrap64 (m + 1 + 1) = m + 1 + 1 from w64 (by omega) (by omega), show wrap64 (m + 1 + 1 + 1) = m + 1 + 1 + 1 from w64 (by omega) (by omega), show wrap64 (m + 1 + 1 + 1 + 1) = m + 1 + 1 + 1 + 1 from w64 (by omega) (by omega), show wrap64 (m + 1 + 1 + 1 + 1 + 1) = m + 1 + 1 + 1 + 1 + 1 from w64 (by omega) (by omega), e0, text (m0) (by omega) (by omega) k (by omega), show wrap64 (m0 + 1) = m0 + 1 from w64 (by omega) (by omega)]
  · rw [laws_markCrlS.l0, if_neg (by omega)]
  · exact fun hc => hc.elim
  · obtain ⟨r, g1, g2, g3, g4, _, g6⟩ := HM
    refine ⟨m2, r, by unfold laws_markCrlS.f; exact g1, g2, by omega, trivial⟩
theorem mk_55 (x : S54) (h : sm54 x) (m : Int) (h0 : 0 < m) (h1 : m + 2097154 ≤ 4611686018427387904) (k : Nat) (hk : 1048577 ≤ k) : ∃ m2 r0, laws_markCrl.f k x m = some (m2, r0) ∧ m ≤ m2 ∧ m2 ≤ m + 2097154 ∧ (∀ k, 1048577 ≤ k → laws_heldCrl.f k (⟨x.f0, x.f1, x.f2, x.f3, x.f4, r0, x.f6⟩ : S54) m = some m2) := by
  obtain ⟨m0, r0_0, e0, a0, b0, c0⟩ := mk_104 x.f5 h.2.2.2.2.2.1 m (by omega) (by omega) k (by omega)
  refine ⟨m0, r0_0, ?_, by omega, by omega, fun k hk => ?_⟩
  · unfold laws_markCrl.f
    simp only [e0, Option.bind_some]
  · unfold laws_heldCrl.f
    simp only [c0 k (by omega), show ¬ m0 < 0 by omega, if_false, Option.bind_some]
end Go.Proofs.Ytfeebnbookfpmaa.FamFnExactWholeOf

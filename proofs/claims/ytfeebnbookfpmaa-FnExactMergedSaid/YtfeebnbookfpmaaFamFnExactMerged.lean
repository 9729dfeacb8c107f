/- What the law's own helpers do: they measure, copy, compare, mark. Plain lemmas, no condition. -/
import Derived.Test.YtfeebnbookfpmaaSaidFnExactMerged
import Derived.Test.YtfeebnbookfpmaaZMark
namespace Go.Proofs.Ytfeebnbookfpmaa.FamFnExactMerged
open Go.RowKit Go.Proofs.YtfeebnbookfpmaaW.PrintWords Go.Proofs.YtfeebnbookfpmaaW.PrintLast Go.Proofs.Ytfeebnbookfpmaa.ZOpen Go.Proofs.Ytfeebnbookfpmaa.Z Go.Proofs.Ytfeebnbookfpmaa.F
open Go.Proofs.Ytfeebnbookfpmaa.SaidFnExactMerged Go.Proofs.Ytfeebnbookfpmaa.ZP
set_option linter.unusedVariables false
set_option linter.unusedSimpArgs false
set_option maxRecDepth 100000

theorem rdI (x : List Int) (i : Nat) (h : i < x.length) : rd x (i : Int) = x[i] := by simp [rd, h]
theorem eq_80 (x : (List Int)) (h : (x.length ≤ 1048576 ∧ ∀ e ∈ x, True)) (k : Nat) (hk : 1048577 ≤ k) : laws_eqIntS.f k x x = some true := by
  have hx := h.1
  unfold laws_eqIntS.f
  rw [if_pos rfl]
  exact eq_loop laws_eqIntS.l0 rd (fun _ _ => some true) x 0 hx (rdI x) (fun k i => by rw [laws_eqIntS.l0]; simp) (fun _ _ _ _ => rfl) k 0 (by omega) (by omega)
def sm34 (x : S34) : Prop := True ∧ (x.f1.length ≤ 1048576 ∧ ∀ e ∈ x.f1, True) ∧ True ∧ True ∧ True ∧ True
theorem eq_23 (x : S34) (h : sm34 x) (k : Nat) (hk : 1048577 ≤ k) : laws_eqRules.f k x x = some true := by
  unfold laws_eqRules.f
  simp [eq_80 x.f1 h.2.1 k (by omega)]
theorem rdS (x : List ByteArray) (i : Nat) (h : i < x.length) : rdOf ByteArray.empty x (i : Int) = x[i] := by simp [rdOf, h]
theorem sz_81 (l : (List ByteArray)) (hl : okList okStr l) (b : Int) (h0 : 0 ≤ b) (h1 : b ≤ 1048576) (k : Nat) (hk : 1048577 ≤ k) : ∃ n, laws_szStringS.f k l b = some n ∧ n ≤ b ∧ (0 ≤ n → (l.length ≤ 1048576 ∧ ∀ e ∈ l, e.size ≤ 1048576)) := by
  have hll : l.length ≤ maxLen := hl.1
  have hm : maxLen = 9223372036854775807 := rfl
  have e : wrap64 (b - (l.length : Int)) = b - (l.length : Int) := by unfold wrap64; omega
  unfold laws_szStringS.f
  rw [e]
  by_cases c : b - (l.length : Int) < 0
  · rw [if_pos c]; exact ⟨-1, rfl, by omega, fun h => by omega⟩
  rw [if_neg c]
  obtain ⟨n, n1, n2, n3⟩ := sz_loop laws_szStringS.l0 (rdOf ByteArray.empty) (fun _ e b => some (wrap64 (b - (e.size : Int)))) (fun e => e.size ≤ 1048576) l 0 (by omega) (rdS l) (fun k b i => by rw [laws_szStringS.l0]; rfl) (fun k e b _ he g0 g1 => by
      have h2 : e.size ≤ maxLen := hl.2 e he
      exact ⟨_, rfl, by unfold wrap64; omega, fun h => by unfold wrap64 at h; omega⟩) k (b - (l.length : Int)) 0 (by omega) (by omega) (by omega) (by omega)
  refine ⟨n, n1, by omega, fun h => ⟨by omega, fun a ha => ?_⟩⟩
  obtain ⟨j, hj, rfl⟩ := List.getElem_of_mem ha
  exact n3 h j hj (by omega)
def sm40 (x : S40) : Prop := (x.f0.length ≤ 1048576 ∧ ∀ e ∈ x.f0, e.size ≤ 1048576) ∧ True ∧ True ∧ True ∧ True ∧ True ∧ True
theorem sz_24 (x : S40) (hx : ok40 x) (b : Int) (h0 : 0 ≤ b) (h1 : b ≤ 1048576) (k : Nat) (hk : 1048577 ≤ k) : ∃ n, laws_szAsk.f k x b = some n ∧ n ≤ b ∧ (0 ≤ n → sm40 x) := by
  have hm : maxLen = 9223372036854775807 := rfl
  unfold laws_szAsk.f
  obtain ⟨n0, e0, b0, p0⟩ := sz_81 x.f0 (hx.1) b (by omega) (by omega) k (by omega)
  rw [e0, Option.bind_some]
  by_cases c0 : n0 < 0
  · rw [if_pos c0]; exact ⟨-1, rfl, by omega, fun h => by omega⟩
  rw [if_neg c0]
  exact ⟨n0, rfl, by omega, fun h => ⟨(p0 (by omega)), trivial, trivial, trivial, trivial, trivial, trivial⟩⟩
theorem to_82 (x : (List ByteArray)) (h : (x.length ≤ 1048576 ∧ ∀ e ∈ x, e.size ≤ 1048576)) (k : Nat) (hk : 1048577 ≤ k) : laws_toStringS.f k x = some x := by
  have hx := h.1
  unfold laws_toStringS.f
  rw [if_pos (by omega), if_pos (by omega)]
  have := to_loop laws_toStringS.l0 (rdOf ByteArray.empty) (fun _ e => some e) id x 0 hx (rdS x) (fun k y i => by rw [laws_toStringS.l0]; rfl) (fun _ _ _ _ => rfl) k (List.replicate x.length (⟨#[]⟩ : ByteArray)) 0 (by omega) (by simp) rfl (by omega)
  simpa using this
def cv40 (x : S40) : S43 := ⟨x.f0, x.f1, x.f2, x.f3, x.f4, x.f5⟩
def sm43 (x : S43) : Prop := (x.f0.length ≤ 1048576 ∧ ∀ e ∈ x.f0, e.size ≤ 1048576) ∧ True ∧ True ∧ True ∧ True ∧ True ∧ True
theorem to_26 (x : S40) (h : sm40 x) (k : Nat) (hk : 1048577 ≤ k) : laws_toAsk.f k x = some (cv40 x) := by
  unfold laws_toAsk.f
  simp only [to_82 x.f0 h.1 k (by omega), Option.bind_some]
  rfl
theorem smcv40 (x : S40) (h : sm40 x) : sm43 (cv40 x) := ⟨h.1, h.2.1, h.2.2.1, h.2.2.2.1, h.2.2.2.2.1, h.2.2.2.2.2.1, trivial⟩
theorem eq_84 (x : (List ByteArray)) (h : (x.length ≤ 1048576 ∧ ∀ e ∈ x, e.size ≤ 1048576)) (k : Nat) (hk : 1048577 ≤ k) : laws_eqStringS.f k x x = some true := by
  have hx := h.1
  unfold laws_eqStringS.f
  rw [if_pos rfl]
  exact eq_loop laws_eqStringS.l0 (rdOf ByteArray.empty) (fun _ _ => some true) x 0 hx (rdS x) (fun k i => by rw [laws_eqStringS.l0]; simp) (fun _ _ _ _ => rfl) k 0 (by omega) (by omega)
theorem eq_28 (x : S43) (h : sm43 x) (k : Nat) (hk : 1048577 ≤ k) : laws_eqAsk.f k x x = some true := by
  unfold laws_eqAsk.f
  simp [eq_84 x.f0 h.1 k (by omega)]
theorem sz_74 (l : (List Int)) (hl : okList (okInt .i64) l) (b : Int) (h0 : 0 ≤ b) (h1 : b ≤ 1048576) (k : Nat) (hk : 0 ≤ k) : ∃ n, laws_szIntS.f l b = some n ∧ n ≤ b ∧ (0 ≤ n → (l.length ≤ 1048576 ∧ ∀ e ∈ l, True)) := by
  have hll : l.length ≤ maxLen := hl.1
  have hm : maxLen = 9223372036854775807 := rfl
  have e : wrap64 (b - (l.length : Int)) = b - (l.length : Int) := by unfold wrap64; omega
  unfold laws_szIntS.f
  rw [e]
  by_cases c : b - (l.length : Int) < 0
  · rw [if_pos c]; exact ⟨-1, rfl, by omega, fun h => by omega⟩
  rw [if_neg c]
  exact ⟨_, rfl, by omega, fun h => ⟨by omega, fun e he => trivial⟩⟩
def sm31 (x : S31) : Prop := True ∧ (x.f1.length ≤ 1048576 ∧ ∀ e ∈ x.f1, True) ∧ True ∧ True ∧ True ∧ True
theorem sz_19 (x : S31) (hx : ok31 x) (b : Int) (h0 : 0 ≤ b) (h1 : b ≤ 1048576) (k : Nat) (hk : 0 ≤ k) : ∃ n, laws_szRules.f x b = some n ∧ n ≤ b ∧ (0 ≤ n → sm31 x) := by
  have hm : maxLen = 9223372036854775807 := rfl
  unfold laws_szRules.f
  obtain ⟨n1, e1, b1, p1⟩ := sz_74 x.f1 (hx.2.1) b (by omega) (by omega) k (by omega)
  rw [e1, Option.bind_some]
  by_cases c1 : n1 < 0
  · rw [if_pos c1]; exact ⟨-1, rfl, by omega, fun h => by omega⟩
  rw [if_neg c1]
  exact ⟨n1, rfl, by omega, fun h => ⟨trivial, (p1 (by omega)), trivial, trivial, trivial, trivial⟩⟩
def sm92 (x : S92) : Prop := True ∧ (x.f1.length ≤ 1048576 ∧ ∀ e ∈ x.f1, True) ∧ sm31 x.f2 ∧ True
theorem sz_59 (x : S92) (hx : ok92 x) (b : Int) (h0 : 0 ≤ b) (h1 : b ≤ 1048576) (k : Nat) (hk : 0 ≤ k) : ∃ n, laws_szPlan.f x b = some n ∧ n ≤ b ∧ (0 ≤ n → sm92 x) := by
  have hm : maxLen = 9223372036854775807 := rfl
  unfold laws_szPlan.f
  obtain ⟨n1, e1, b1, p1⟩ := sz_74 x.f1 (hx.2.1) b (by omega) (by omega) k (by omega)
  rw [e1, Option.bind_some]
  by_cases c1 : n1 < 0
  · rw [if_pos c1]; exact ⟨-1, rfl, by omega, fun h => by omega⟩
  rw [if_neg c1]
  obtain ⟨n2, e2, b2, p2⟩ := sz_19 x.f2 (hx.2.2) n1 (by omega) (by omega) k (by omega)
  rw [e2, Option.bind_some]
  by_cases c2 : n2 < 0
  · rw [if_pos c2]; exact ⟨-1, rfl, by omega, fun h => by omega⟩
  rw [if_neg c2]
  exact ⟨n2, rfl, by omega, fun h => ⟨trivial, (p1 (by omega)), (p2 (by omega)), trivial⟩⟩
theorem to_77 (x : (List Int)) (h : (x.length ≤ 1048576 ∧ ∀ e ∈ x, True)) (k : Nat) (hk : 1048577 ≤ k) : laws_toIntS.f k x = some x := by
  have hx := h.1
  unfold laws_toIntS.f
  rw [if_pos (by omega), if_pos (by omega)]
  have := to_loop laws_toIntS.l0 rd (fun _ e => some e) id x 0 hx (rdI x) (fun k y i => by rw [laws_toIntS.l0]; rfl) (fun _ _ _ _ => rfl) k (List.replicate x.length (0 : Int)) 0 (by omega) (by simp) rfl (by omega)
  simpa using this
def cv31 (x : S31) : S34 := ⟨x.f0, x.f1, x.f2, x.f3, x.f4⟩
theorem to_21 (x : S31) (h : sm31 x) (k : Nat) (hk : 1048577 ≤ k) : laws_toRules.f k x = some (cv31 x) := by
  unfold laws_toRules.f
  simp only [to_77 x.f1 h.2.1 k (by omega), Option.bind_some]
  rfl
theorem smcv31 (x : S31) (h : sm31 x) : sm34 (cv31 x) := ⟨h.1, h.2.1, h.2.2.1, h.2.2.2.1, h.2.2.2.2.1, trivial⟩
def cv92 (x : S92) : S96 := ⟨x.f0, x.f1, (cv31 x.f2)⟩
def sm96 (x : S96) : Prop := True ∧ (x.f1.length ≤ 1048576 ∧ ∀ e ∈ x.f1, True) ∧ sm34 x.f2 ∧ True
theorem to_61 (x : S92) (h : sm92 x) (k : Nat) (hk : 1048577 ≤ k) : laws_toPlan.f k x = some (cv92 x) := by
  unfold laws_toPlan.f
  simp only [to_77 x.f1 h.2.1 k (by omega), to_21 x.f2 h.2.2.1 k (by omega), Option.bind_some]
  rfl
theorem smcv92 (x : S92) (h : sm92 x) : sm96 (cv92 x) := ⟨h.1, h.2.1, smcv31 _ h.2.2.1, trivial⟩
theorem eq_63 (x : S96) (h : sm96 x) (k : Nat) (hk : 1048577 ≤ k) : laws_eqPlan.f k x x = some true := by
  unfold laws_eqPlan.f
  simp [eq_80 x.f1 h.2.1 k (by omega), eq_23 x.f2 h.2.2.1 k (by omega)]
theorem mk_107 (x : (List Int)) (h : (x.length ≤ 1048576 ∧ ∀ e ∈ x, True)) (m : Int) (h0 : 0 < m) (h1 : m + 1048577 ≤ 4611686018427387904) (k : Nat) (hk : 1048577 ≤ k) : ∃ m2 r, laws_markIntS.f k x m = some (m2, r) ∧ m ≤ m2 ∧ m2 ≤ m + 1048577 ∧ (∀ k, 1048577 ≤ k → laws_heldIntS.f k r m = some m2) := by
  have hx := h.1
  have hw : (1 : Int) * ((x.length - 0 : Nat) : Int) ≤ 1048576 := by omega
  refine Exists.elim (mark_loop True laws_markIntS.l0 laws_heldIntS.l0 x (fun e => True) 0 1 4611686018427387903 hx (fun k l m i e hK hi hl hle hp hm0 hm1 => ?_) (fun k l m => ?_) ?_ x.length k x m 0 rfl (Nat.zero_le _) rfl (fun j e _ he => h.2 e (List.mem_of_getElem? he)) h0 (by omega) (by omega)) (fun m2 HM => ?_)
  · have c1 : (i : Int) < (x.length : Int) := by omega
    have c0 : 0 ≤ (i : Int) := by omega
    have e1 : wrap64 ((i : Int) + 1) = ((i + 1 : Nat) : Int) := by rw [w64 (by omega) (by omega)]; rfl
    have re : rd l (i : Int) = e := by rw [rdI l i (by omega)]; exact Option.some.inj ((List.getElem?_eq_getElem (by omega)).symm.trans hle)
    have rs : ∀ y, rd (l.set i y) (i : Int) = y := fun y => by rw [rdI _ i (by rw [List.length_set]; omega), List.getElem_set_self]
    refine ⟨m, m + 1, ?_, by omega, by omega, fun _ k' l2 hK' hl2 he2 => ?_⟩
    · rw [laws_markIntS.l0]
      simp only [lets, c1, c0, e1, re, rs, Int.toNat_natCast, List.set_set, if_true, Option.bind_some, show wrap64 (m + 1) = m + 1 from w64 (by omega) (by omega)]
    · have c2 : (i : Int) < (l2.length : Int) := by omega
      have re2 : rd l2 (i : Int) = m := by rw [rdI l2 i (by omega)]; exact Option.some.inj ((List.getElem?_eq_getElem (by omega)).symm.trans he2)
      rw [laws_heldIntS.l0]
      simp only [c2, c0, e1, re2, if_true, if_false, Option.bind_some, show wrap64 (m + 1) = m + 1 from w64 (by omega) (by omega)]
  · rw [laws_markIntS.l0, if_neg (by omega)]
  · intro _ k l2 m hl2
    rw [laws_heldIntS.l0, if_neg (by omega)]
  · obtain ⟨r, g1, g2, g3, g4, _, g6⟩ := HM
    refine ⟨m2, r, by unfold laws_markIntS.f; exact g1, g2, by omega, fun k' hk' => by unfold laws_heldIntS.f; exact g6 trivial k' (by omega)⟩
theorem mk_66 (x : S34) (h : sm34 x) (m : Int) (h0 : 0 < m) (h1 : m + 1048577 ≤ 4611686018427387904) (k : Nat) (hk : 1048577 ≤ k) : ∃ m2 r0, laws_markRules.f k x m = some (m2, r0) ∧ m ≤ m2 ∧ m2 ≤ m + 1048577 ∧ (∀ k, 1048577 ≤ k → laws_heldRules.f k (⟨x.f0, r0, x.f2, x.f3, x.f4⟩ : S34) m = some m2) := by
  obtain ⟨m0, r0_0, e0, a0, b0, c0⟩ := mk_107 x.f1 h.2.1 m (by omega) (by omega) k (by omega)
  refine ⟨m0, r0_0, ?_, by omega, by omega, fun k hk => ?_⟩
  · unfold laws_markRules.f
    simp only [e0, Option.bind_some]
  · unfold laws_heldRules.f
    simp only [c0 k (by omega), show ¬ m0 < 0 by omega, if_false, Option.bind_some]
theorem mk_64 (x : S96) (h : sm96 x) (m : Int) (h0 : 0 < m) (h1 : m + 2097154 ≤ 4611686018427387904) (k : Nat) (hk : 1048577 ≤ k) : ∃ m2 r0 r1, laws_markPlan.f k x m = some (m2, r0, r1) ∧ m ≤ m2 ∧ m2 ≤ m + 2097154 ∧ True := by
  obtain ⟨m0, r0_0, e0, a0, b0, c0⟩ := mk_107 x.f1 h.2.1 m (by omega) (by omega) k (by omega)
  obtain ⟨m1, r1_0, e1, a1, b1, c1⟩ := mk_66 x.f2 h.2.2.1 m0 (by omega) (by omega) k (by omega)
  refine ⟨m1, r0_0, r1_0, ?_, by omega, by omega, trivial⟩
  · unfold laws_markPlan.f
    simp only [e0, e1, Option.bind_some]
def txt (m : Int) : ByteArray := (laws_markText.f 64 m).getD ByteArray.empty
theorem text_loop : ∀ (n : Nat) (m : Int) (s : ByteArray), 0 ≤ m → m ≤ 4611686018427387904 → m < 10 ^ n → s.size + n ≤ 4611686018427387904 → ∃ t, ∀ k, n < k → laws_markText.l0 k m s = some t
  | 0, m, s, h0, hB, h1, hs => by
    obtain rfl : m = 0 := by omega
    have e1 : (⟨#[109]⟩ : ByteArray).size = 1 := rfl
    refine ⟨(⟨#[109]⟩ : ByteArray) ++ s, fun k hk => ?_⟩
    obtain ⟨k, rfl⟩ : ∃ q, k = q + 1 := ⟨k - 1, by omega⟩
    rw [laws_markText.l0, if_neg (by omega), if_pos (by omega)]
  | n + 1, m, s, h0, hB, h1, hs => by
    by_cases c : 0 < m
    · have e2 : (strOfNums ([((wrap64 (48 + (Int.tmod m 10))) % 256)] : List Int)).size = 1 := strOfNums_size _
      have e3 : Int.tdiv m 10 = m / 10 := Int.tdiv_eq_ediv_of_nonneg h0
      have e5 : m / 10 < 10 ^ n := by
        have : (10 : Int) ^ (n + 1) = 10 ^ n * 10 := Int.pow_succ 10 n
        omega
      have hw : wrap64 (Int.tdiv m 10) = m / 10 := by rw [e3]; unfold wrap64; omega
      · obtain ⟨t, ht⟩ := text_loop n (m / 10) ((strOfNums ([((wrap64 (48 + (Int.tmod m 10))) % 256)] : List Int)) ++ s) (by omega) (by omega) e5 (by rw [ByteArray.size_append, e2]; omega)
        refine ⟨t, fun k hk => ?_⟩
        obtain ⟨k, rfl⟩ : ∃ q, k = q + 1 := ⟨k - 1, by omega⟩
        rw [laws_markText.l0, if_pos c, if_pos (by omega), hw]
        exact ht k (by omega)
    · obtain rfl : m = 0 := by omega
      have e1 : (⟨#[109]⟩ : ByteArray).size = 1 := rfl
      refine ⟨(⟨#[109]⟩ : ByteArray) ++ s, fun k hk => ?_⟩
      obtain ⟨k, rfl⟩ : ∃ q, k = q + 1 := ⟨k - 1, by omega⟩
      rw [laws_markText.l0, if_neg (by omega), if_pos (by omega)]
theorem text (m : Int) (h0 : 0 < m) (h1 : m ≤ 4611686018427387904) (k : Nat) (hk : 64 ≤ k) : laws_markText.f k m = some (txt m) := by
  obtain ⟨t, ht⟩ := text_loop 19 m (⟨#[]⟩ : ByteArray) (by omega) h1 (by omega) (by show 0 + 19 ≤ _; omega)
  have e : ∀ k, 64 ≤ k → laws_markText.f k m = some t := fun k hk => by
    unfold laws_markText.f
    rw [if_neg (by omega)]
    exact ht k (by omega)
  rw [e k hk]
  unfold txt
  rw [e 64 (by omega)]
  rfl
theorem mk_108 (x : (List ByteArray)) (h : (x.length ≤ 1048576 ∧ ∀ e ∈ x, e.size ≤ 1048576)) (m : Int) (h0 : 0 < m) (h1 : m + 1048577 ≤ 4611686018427387904) (k : Nat) (hk : 1048641 ≤ k) : ∃ m2 r, laws_markStringS.f k x m = some (m2, r) ∧ m ≤ m2 ∧ m2 ≤ m + 1048577 ∧ True := by
  have hx := h.1
  have hw : (1 : Int) * ((x.length - 0 : Nat) : Int) ≤ 1048576 := by omega
  refine Exists.elim (mark_loop False laws_markStringS.l0 (fun _ _ _ _ => none) x (fun e => e.size ≤ 1048576) 64 1 4611686018427387903 hx (fun k l m i e hK hi hl hle hp hm0 hm1 => ?_) (fun k l m => ?_) ?_ x.length k x m 0 rfl (Nat.zero_le _) rfl (fun j e _ he => h.2 e (List.mem_of_getElem? he)) h0 (by omega) (by omega)) (fun m2 HM => ?_)
  · have c1 : (i : Int) < (x.length : Int) := by omega
    have c0 : 0 ≤ (i : Int) := by omega
    have e1 : wrap64 ((i : Int) + 1) = ((i + 1 : Nat) : Int) := by rw [w64 (by omega) (by omega)]; rfl
    have re : (rdOf ByteArray.empty) l (i : Int) = e := by rw [rdS l i (by omega)]; exact Option.some.inj ((List.getElem?_eq_getElem (by omega)).symm.trans hle)
    have rs : ∀ y, (rdOf ByteArray.empty) (l.set i y) (i : Int) = y := fun y => by rw [rdS _ i (by rw [List.length_set]; omega), List.getElem_set_self]
    refine ⟨(txt (m)), m + 1, ?_, by omega, by omega, fun hc => hc.elim⟩
    · rw [laws_markStringS.l0]
      simp only [lets, c1, c0, e1, re, rs, Int.toNat_natCast, List.set_set, if_true, Option.bind_some, text (m) (by omega) (by omega) k (by omega), show wrap64 (m + 1) = m + 1 from w64 (by omega) (by omega)]
  · rw [laws_markStringS.l0, if_neg (by omega)]
  · exact fun hc => hc.elim
  · obtain ⟨r, g1, g2, g3, g4, _, g6⟩ := HM
    refine ⟨m2, r, by unfold laws_markStringS.f; exact g1, g2, by omega, trivial⟩
theorem mk_65 (x : S43) (h : sm43 x) (m : Int) (h0 : 0 < m) (h1 : m + 1048577 ≤ 4611686018427387904) (k : Nat) (hk : 1048641 ≤ k) : ∃ m2 r0, laws_markAsk.f k x m = some (m2, r0) ∧ m ≤ m2 ∧ m2 ≤ m + 1048577 ∧ True := by
  obtain ⟨m0, r0_0, e0, a0, b0, c0⟩ := mk_108 x.f0 h.1 m (by omega) (by omega) k (by omega)
  refine ⟨m0, r0_0, ?_, by omega, by omega, trivial⟩
  · unfold laws_markAsk.f
    simp only [e0, Option.bind_some]
end Go.Proofs.Ytfeebnbookfpmaa.FamFnExactMerged

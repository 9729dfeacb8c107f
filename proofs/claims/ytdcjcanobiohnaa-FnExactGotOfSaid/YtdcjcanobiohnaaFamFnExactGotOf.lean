/- What the law's own helpers do: they measure, copy, compare, mark. Plain lemmas, no condition. -/
import Derived.Test.YtdcjcanobiohnaaSaidFnExactGotOf
import Derived.Test.YtdcjcanobiohnaaZMark
namespace Go.Proofs.Ytdcjcanobiohnaa.FamFnExactGotOf
open Go.RowKit Go.Proofs.YtdcjcanobiohnaaW.PrintWords Go.Proofs.YtdcjcanobiohnaaW.PrintLast Go.Proofs.Ytdcjcanobiohnaa.ZOpen Go.Proofs.Ytdcjcanobiohnaa.Z Go.Proofs.Ytdcjcanobiohnaa.F
open Go.Proofs.Ytdcjcanobiohnaa.SaidFnExactGotOf Go.Proofs.Ytdcjcanobiohnaa.ZP
set_option linter.unusedVariables false
set_option linter.unusedSimpArgs false
set_option maxRecDepth 100000

theorem rdI (x : List Int) (i : Nat) (h : i < x.length) : rd x (i : Int) = x[i] := by simp [rd, h]
theorem eq_14 (x : (List Int)) (h : (x.length ≤ 1048576 ∧ ∀ e ∈ x, True)) (k : Nat) (hk : 1048577 ≤ k) : laws_eqIntS.f k x x = some true := by
  have hx := h.1
  unfold laws_eqIntS.f
  rw [if_pos rfl]
  exact eq_loop laws_eqIntS.l0 rd (fun _ _ => some true) x 0 hx (rdI x) (fun k i => by rw [laws_eqIntS.l0]; simp) (fun _ _ _ _ => rfl) k 0 (by omega) (by omega)
def sm165 (x : S165) : Prop := True ∧ True ∧ x.f2.size ≤ 1048576 ∧ True ∧ True
theorem eq_116 (x : S165) (h : sm165 x) (k : Nat) (hk : 0 ≤ k) : laws_eqWait.f x x = some true := by
  unfold laws_eqWait.f
  simp []
theorem rd165 (x : List S165) (i : Nat) (h : i < x.length) : rd_T165 x (i : Int) = x[i] := by simp [rd_T165, h]
theorem eq_57 (x : (List S165)) (h : (x.length ≤ 1048576 ∧ ∀ e ∈ x, sm165 e)) (k : Nat) (hk : 1048577 ≤ k) : laws_eqWaitS.f k x x = some true := by
  have hx := h.1
  unfold laws_eqWaitS.f
  rw [if_pos rfl]
  exact eq_loop laws_eqWaitS.l0 rd_T165 (fun k e => laws_eqWait.f e e) x 0 hx (rd165 x) (fun k i => by rw [laws_eqWaitS.l0]) (fun k e hk he => eq_116 e (h.2 e he) k (by omega)) k 0 (by omega) (by omega)
theorem rdS (x : List ByteArray) (i : Nat) (h : i < x.length) : rdOf ByteArray.empty x (i : Int) = x[i] := by simp [rdOf, h]
theorem eq_96 (x : (List ByteArray)) (h : (x.length ≤ 1048576 ∧ ∀ e ∈ x, e.size ≤ 1048576)) (k : Nat) (hk : 1048577 ≤ k) : laws_eqStringS.f k x x = some true := by
  have hx := h.1
  unfold laws_eqStringS.f
  rw [if_pos rfl]
  exact eq_loop laws_eqStringS.l0 (rdOf ByteArray.empty) (fun _ _ => some true) x 0 hx (rdS x) (fun k i => by rw [laws_eqStringS.l0]; simp) (fun _ _ _ _ => rfl) k 0 (by omega) (by omega)
def sm171 (x : S171) : Prop := True ∧ True ∧ (x.f2.length ≤ 1048576 ∧ ∀ e ∈ x.f2, e.size ≤ 1048576) ∧ (x.f3.length ≤ 1048576 ∧ ∀ e ∈ x.f3, e.size ≤ 1048576) ∧ True
theorem eq_130 (x : S171) (h : sm171 x) (k : Nat) (hk : 1048577 ≤ k) : laws_eqAnswer.f k x x = some true := by
  unfold laws_eqAnswer.f
  simp [eq_96 x.f2 h.2.2.1 k (by omega), eq_96 x.f3 h.2.2.2.1 k (by omega)]
theorem rd171 (x : List S171) (i : Nat) (h : i < x.length) : rd_T171 x (i : Int) = x[i] := by simp [rd_T171, h]
theorem eq_69 (x : (List S171)) (h : (x.length ≤ 1048576 ∧ ∀ e ∈ x, sm171 e)) (k : Nat) (hk : 2097154 ≤ k) : laws_eqAnswerS.f k x x = some true := by
  have hx := h.1
  unfold laws_eqAnswerS.f
  rw [if_pos rfl]
  exact eq_loop laws_eqAnswerS.l0 rd_T171 (fun k e => laws_eqAnswer.f k e e) x 1048577 hx (rd171 x) (fun k i => by rw [laws_eqAnswerS.l0]) (fun k e hk he => eq_130 e (h.2 e he) k (by omega)) k 0 (by omega) (by omega)
def sm49 (x : S49) : Prop := x.f0.size ≤ 1048576 ∧ True ∧ True ∧ True ∧ True ∧ True ∧ (x.f6.length ≤ 1048576 ∧ ∀ e ∈ x.f6, sm171 e) ∧ x.f7.size ≤ 1048576 ∧ True
theorem eq_28 (x : S49) (h : sm49 x) (k : Nat) (hk : 2097154 ≤ k) : laws_eqReply.f k x x = some true := by
  unfold laws_eqReply.f
  simp [eq_69 x.f6 h.2.2.2.2.2.2.1 k (by omega)]
def sm117 (x : S117) : Prop := True ∧ sm49 x.f1 ∧ True
theorem eq_117 (x : S117) (h : sm117 x) (k : Nat) (hk : 2097154 ≤ k) : laws_eqGot.f k x x = some true := by
  unfold laws_eqGot.f
  simp [eq_28 x.f1 h.2.1 k (by omega)]
theorem rd117 (x : List S117) (i : Nat) (h : i < x.length) : rd_T117 x (i : Int) = x[i] := by simp [rd_T117, h]
theorem eq_58 (x : (List S117)) (h : (x.length ≤ 1048576 ∧ ∀ e ∈ x, sm117 e)) (k : Nat) (hk : 3145731 ≤ k) : laws_eqGotS.f k x x = some true := by
  have hx := h.1
  unfold laws_eqGotS.f
  rw [if_pos rfl]
  exact eq_loop laws_eqGotS.l0 rd_T117 (fun k e => laws_eqGot.f k e e) x 2097154 hx (rd117 x) (fun k i => by rw [laws_eqGotS.l0]) (fun k e hk he => eq_117 e (h.2 e he) k (by omega)) k 0 (by omega) (by omega)
def sm37 (x : S37) : Prop := x.f0.size ≤ 1048576 ∧ True ∧ (x.f2.length ≤ 1048576 ∧ ∀ e ∈ x.f2, sm165 e) ∧ (x.f3.length ≤ 1048576 ∧ ∀ e ∈ x.f3, sm117 e) ∧ (x.f4.length ≤ 1048576 ∧ ∀ e ∈ x.f4, True) ∧ True
theorem eq_21 (x : S37) (h : sm37 x) (k : Nat) (hk : 3145731 ≤ k) : laws_eqClient.f k x x = some true := by
  unfold laws_eqClient.f
  simp [eq_57 x.f2 h.2.2.1 k (by omega), eq_58 x.f3 h.2.2.2.1 k (by omega), eq_14 x.f4 h.2.2.2.2.1 k (by omega)]
theorem mk_17 (x : (List Int)) (h : (x.length ≤ 1048576 ∧ ∀ e ∈ x, True)) (m : Int) (h0 : 0 < m) (h1 : m + 1048577 ≤ 4611686018427387904) (k : Nat) (hk : 1048577 ≤ k) : ∃ m2 r, laws_markIntS.f k x m = some (m2, r) ∧ m ≤ m2 ∧ m2 ≤ m + 1048577 ∧ True := by
  have hx := h.1
  have hw : (1 : Int) * ((x.length - 0 : Nat) : Int) ≤ 1048576 := by omega
  refine Exists.elim (mark_loop False laws_markIntS.l0 (fun _ _ _ _ => none) x (fun e => True) 0 1 4611686018427387903 hx (fun k l m i e hK hi hl hle hp hm0 hm1 => ?_) (fun k l m => ?_) ?_ x.length k x m 0 rfl (Nat.zero_le _) rfl (fun j e _ he => h.2 e (List.mem_of_getElem? he)) h0 (by omega) (by omega)) (fun m2 HM => ?_)
  · have c1 : (i : Int) < (x.length : Int) := by omega
    have c0 : 0 ≤ (i : Int) := by omega
    have ew : wrap64 ((i : Int) + 1) = ((i + 1 : Nat) : Int) := by rw [w64 (by omega) (by omega)]; rfl
    have re : rd l (i : Int) = e := by rw [rdI l i (by omega)]; exact Option.some.inj ((List.getElem?_eq_getElem (by omega)).symm.trans hle)
    have rs : ∀ y, rd (l.set i y) (i : Int) = y := fun y => by rw [rdI _ i (by rw [List.length_set]; omega), List.getElem_set_self]
    refine ⟨m, m + 1, ?_, by omega, by omega, fun hc => hc.elim⟩
    · rw [laws_markIntS.l0]
      simp only [lets, c1, c0, ew, re, rs, Int.toNat_natCast, List.set_set, if_true, Option.bind_some, show wrap64 (m + 1) = m + 1 from w64 (by omega) (by omega)]
  · rw [laws_markIntS.l0, if_neg (by omega)]
  · exact fun hc => hc.elim
  · obtain ⟨r, g1, g2, g3, g4, _, g6⟩ := HM
    refine ⟨m2, r, by unfold laws_markIntS.f; exact g1, g2, by omega, trivial⟩
def txt (m : Int) : ByteArray := (laws_markText.f 64 m).getD ByteArray.empty
theorem text_loop : ∀ (n : Nat) (m : Int) (s : ByteArray), 0 ≤ m → m ≤ 4611686018427387904 → m < 10 ^ n → s.size + n ≤ 4611686018427387904 → ∃ t, ∀ k, n < k → laws_markText.l0 k m s = some t
  | 0, m, s, h0, hB, h1, hs => by
    obtain rfl : m = 0 := by omega
    have e1 : (⟨#[109]⟩ : ByteArray).size = 1 := rfl
    refine ⟨(⟨#[109]⟩ : ByteArray) ++ s, fun k hk => ?_⟩
    obtain ⟨k, rfl⟩ : ∃ q, k = q + 1 := ⟨k - 1, by omega⟩
    rw [laws_markText.l0, if_neg (by omega), if_pos (by omega)]
  | n + 1, m, s, h0, hB, h1, hs => by
    by_cases c : 0 < m
    · have e2 : (strOfNums ([((wrap64 (48 + (Int.tmod m 10))) % 256)] : List Int)).size = 1 := strOfNums_size _
      have e3 : Int.tdiv m 10 = m / 10 := Int.tdiv_eq_ediv_of_nonneg h0
      have e5 : m / 10 < 10 ^ n := by
        have : (10 : Int) ^ (n + 1) = 10 ^ n * 10 := Int.pow_succ 10 n
        omega
      have hw : wrap64 (Int.tdiv m 10) = m / 10 := by rw [e3]; unfold wrap64; omega
      · obtain ⟨t, ht⟩ := text_loop n (m / 10) ((strOfNums ([((wrap64 (48 + (Int.tmod m 10))) % 256)] : List Int)) ++ s) (by omega) (by omega) e5 (by rw [ByteArray.size_append, e2]; omega)
        refine ⟨t, fun k hk => ?_⟩
        obtain ⟨k, rfl⟩ : ∃ q, k = q + 1 := ⟨k - 1, by omega⟩
        rw [laws_markText.l0, if_pos c, if_pos (by omega), hw]
        exact ht k (by omega)
    · obtain rfl : m = 0 := by omega
      have e1 : (⟨#[109]⟩ : ByteArray).size = 1 := rfl
      refine ⟨(⟨#[109]⟩ : ByteArray) ++ s, fun k hk => ?_⟩
      obtain ⟨k, rfl⟩ : ∃ q, k = q + 1 := ⟨k - 1, by omega⟩
      rw [laws_markText.l0, if_neg (by omega), if_pos (by omega)]
theorem text (m : Int) (h0 : 0 < m) (h1 : m ≤ 4611686018427387904) (k : Nat) (hk : 64 ≤ k) : laws_markText.f k m = some (txt m) := by
  obtain ⟨t, ht⟩ := text_loop 19 m (⟨#[]⟩ : ByteArray) (by omega) h1 (by omega) (by show 0 + 19 ≤ _; omega)
  have e : ∀ k, 64 ≤ k → laws_markText.f k m = some t := fun k hk => by
    unfold laws_markText.f
    rw [if_neg (by omega)]
    exact ht k (by omega)
  rw [e k hk]
  unfold txt
  rw [e 64 (by omega)]
  rfl
theorem mk_59 (x : (List S165)) (h : (x.length ≤ 1048576 ∧ ∀ e ∈ x, sm165 e)) (m : Int) (h0 : 0 < m) (h1 : m + 4194308 ≤ 4611686018427387904) (k : Nat) (hk : 1048641 ≤ k) : ∃ m2 r, laws_markWaitS.f k x m = some (m2, r) ∧ m ≤ m2 ∧ m2 ≤ m + 4194308 ∧ True := by
  have hx := h.1
  have hw : (4 : Int) * ((x.length - 0 : Nat) : Int) ≤ 4194304 := by omega
  refine Exists.elim (mark_loop False laws_markWaitS.l0 (fun _ _ _ _ => none) x sm165 64 4 4611686018427387900 hx (fun k l m i e hK hi hl hle hp hm0 hm1 => ?_) (fun k l m => ?_) ?_ x.length k x m 0 rfl (Nat.zero_le _) rfl (fun j e _ he => h.2 e (List.mem_of_getElem? he)) h0 (by omega) (by omega)) (fun m2 HM => ?_)
  · have c1 : (i : Int) < (x.length : Int) := by omega
    have c0 : 0 ≤ (i : Int) := by omega
    have ew : wrap64 ((i : Int) + 1) = ((i + 1 : Nat) : Int) := by rw [w64 (by omega) (by omega)]; rfl
    have re : rd_T165 l (i : Int) = e := by rw [rd165 l i (by omega)]; exact Option.some.inj ((List.getElem?_eq_getElem (by omega)).symm.trans hle)
    have rs : ∀ y, rd_T165 (l.set i y) (i : Int) = y := fun y => by rw [rd165 _ i (by rw [List.length_set]; omega), List.getElem_set_self]
    refine ⟨(⟨m, m + 1, (txt (m + 1 + 1)), m + 1 + 1 + 1⟩ : S165), m + 1 + 1 + 1 + 1, ?_, by omega, by omega, fun hc => hc.elim⟩
    · rw [laws_markWaitS.l0]
      simp only [lets, c1, c0, ew, re, rs, Int.toNat_natCast, List.set_set, if_true, Option.bind_some, u165_0_3, u165_1_3, u165_2_9, u165_3_3, show wrap64 (m + 1) = m + 1 from w64 (by omega) (by omega), show wrap64 (m + 1 + 1) = m + 1 + 1 from w64 (by omega) (by omega), text (m + 1 + 1) (by omega) (by omega) k (by omega), show wrap64 (m + 1 + 1 + 1) = m + 1 + 1 + 1 from w64 (by omega) (by omega), show wrap64 (m + 1 + 1 + 1 + 1) = m + 1 + 1 + 1 + 1 from w64 (by omega) (by omega)]
  · rw [laws_markWaitS.l0, if_neg (by omega)]
  · exact fun hc => hc.elim
  · obtain ⟨r, g1, g2, g3, g4, _, g6⟩ := HM
    refine ⟨m2, r, by unfold laws_markWaitS.f; exact g1, g2, by omega, trivial⟩
theorem mk_56 (x : (List ByteArray)) (h : (x.length ≤ 1048576 ∧ ∀ e ∈ x, e.size ≤ 1048576)) (m : Int) (h0 : 0 < m) (h1 : m + 1048577 ≤ 4611686018427387904) (k : Nat) (hk : 1048641 ≤ k) : ∃ m2 r, laws_markStringS.f k x m = some (m2, r) ∧ m ≤ m2 ∧ m2 ≤ m + 1048577 ∧ (∀ k, 1048641 ≤ k → laws_heldStringS.f k r m = some m2) := by
  have hx := h.1
  have hw : (1 : Int) * ((x.length - 0 : Nat) : Int) ≤ 1048576 := by omega
  refine Exists.elim (mark_loop True laws_markStringS.l0 laws_heldStringS.l0 x (fun e => e.size ≤ 1048576) 64 1 4611686018427387903 hx (fun k l m i e hK hi hl hle hp hm0 hm1 => ?_) (fun k l m => ?_) ?_ x.length k x m 0 rfl (Nat.zero_le _) rfl (fun j e _ he => h.2 e (List.mem_of_getElem? he)) h0 (by omega) (by omega)) (fun m2 HM => ?_)
  · have c1 : (i : Int) < (x.length : Int) := by omega
    have c0 : 0 ≤ (i : Int) := by omega
    have ew : wrap64 ((i : Int) + 1) = ((i + 1 : Nat) : Int) := by rw [w64 (by omega) (by omega)]; rfl
    have re : (rdOf ByteArray.empty) l (i : Int) = e := by rw [rdS l i (by omega)]; exact Option.some.inj ((List.getElem?_eq_getElem (by omega)).symm.trans hle)
    have rs : ∀ y, (rdOf ByteArray.empty) (l.set i y) (i : Int) = y := fun y => by rw [rdS _ i (by rw [List.length_set]; omega), List.getElem_set_self]
    refine ⟨(txt (m)), m + 1, ?_, by omega, by omega, fun _ k' l2 hK' hl2 he2 => ?_⟩
    · rw [laws_markStringS.l0]
      simp only [lets, c1, c0, ew, re, rs, Int.toNat_natCast, List.set_set, if_true, Option.bind_some, text (m) (by omega) (by omega) k (by omega), show wrap64 (m + 1) = m + 1 from w64 (by omega) (by omega)]
    · have c2 : (i : Int) < (l2.length : Int) := by omega
      have re2 : (rdOf ByteArray.empty) l2 (i : Int) = (txt (m)) := by rw [rdS l2 i (by omega)]; exact Option.some.inj ((List.getElem?_eq_getElem (by omega)).symm.trans he2)
      rw [laws_heldStringS.l0]
      simp only [c2, c0, ew, re2, if_true, if_false, Option.bind_some, text (m) (by omega) (by omega) k' (by omega), show wrap64 (m + 1) = m + 1 from w64 (by omega) (by omega)]
  · rw [laws_markStringS.l0, if_neg (by omega)]
  · intro _ k l2 m hl2
    rw [laws_heldStringS.l0, if_neg (by omega)]
  · obtain ⟨r, g1, g2, g3, g4, _, g6⟩ := HM
    refine ⟨m2, r, by unfold laws_markStringS.f; exact g1, g2, by omega, fun k' hk' => by unfold laws_heldStringS.f; exact g6 trivial k' (by omega)⟩
theorem mk_83 (x : (List S171)) (h : (x.length ≤ 1048576 ∧ ∀ e ∈ x, sm171 e)) (m : Int) (h0 : 0 < m) (h1 : m + 2199029547012 ≤ 4611686018427387904) (k : Nat) (hk : 2097218 ≤ k) : ∃ m2 r, laws_markAnswerS.f k x m = some (m2, r) ∧ m ≤ m2 ∧ m2 ≤ m + 2199029547012 ∧ (∀ k, 2097218 ≤ k → laws_heldAnswerS.f k r m = some m2) := by
  have hx := h.1
  have hw : (2097156 : Int) * ((x.length - 0 : Nat) : Int) ≤ 2199027449856 := by omega
  refine Exists.elim (mark_loop True laws_markAnswerS.l0 laws_heldAnswerS.l0 x sm171 1048641 2097156 4611686018425290748 hx (fun k l m i e hK hi hl hle hp hm0 hm1 => ?_) (fun k l m => ?_) ?_ x.length k x m 0 rfl (Nat.zero_le _) rfl (fun j e _ he => h.2 e (List.mem_of_getElem? he)) h0 (by omega) (by omega)) (fun m2 HM => ?_)
  · have c1 : (i : Int) < (x.length : Int) := by omega
    have c0 : 0 ≤ (i : Int) := by omega
    have ew : wrap64 ((i : Int) + 1) = ((i + 1 : Nat) : Int) := by rw [w64 (by omega) (by omega)]; rfl
    have re : rd_T171 l (i : Int) = e := by rw [rd171 l i (by omega)]; exact Option.some.inj ((List.getElem?_eq_getElem (by omega)).symm.trans hle)
    obtain ⟨m0, r0, e0, a0, b0, d0⟩ := mk_56 e.f2 hp.2.2.1 (m + 1 + 1) (by omega) (by omega) k (by omega)
    obtain ⟨m1, r1, e1, a1, b1, d1⟩ := mk_56 e.f3 hp.2.2.2.1 (m0) (by omega) (by omega) k (by omega)
    have rs : ∀ y, rd_T171 (l.set i y) (i : Int) = y := fun y => by rw [rd171 _ i (by rw [List.length_set]; omega), List.getElem_set_self]
    refine ⟨(⟨m, m + 1, r0, r1⟩ : S171), m1, ?_, by omega, by omega, fun _ k' l2 hK' hl2 he2 => ?_⟩
    · rw [laws_markAnswerS.l0]
      simp only [lets, c1, c0, ew, re, rs, Int.toNat_natCast, List.set_set, if_true, Option.bind_some, u171_0_3, u171_1_3, u171_2_65, u171_3_65, show wrap64 (m + 1) = m + 1 from w64 (by omega) (by omega), show wrap64 (m + 1 + 1) = m + 1 + 1 from w64 (by omega) (by omega), e0, e1]
    · have c2 : (i : Int) < (l2.length : Int) := by omega
      have re2 : rd_T171 l2 (i : Int) = (⟨m, m + 1, r0, r1⟩ : S171) := by rw [rd171 l2 i (by omega)]; exact Option.some.inj ((List.getElem?_eq_getElem (by omega)).symm.trans he2)
      rw [laws_heldAnswerS.l0]
      simp only [c2, c0, ew, re2, if_true, if_false, Option.bind_some, show wrap64 (m + 1) = m + 1 from w64 (by omega) (by omega), show wrap64 (m + 1 + 1) = m + 1 + 1 from w64 (by omega) (by omega), d0 k' (by omega), show ¬ m0 < 0 by omega, d1 k' (by omega), show ¬ m1 < 0 by omega]
  · rw [laws_markAnswerS.l0, if_neg (by omega)]
  · intro _ k l2 m hl2
    rw [laws_heldAnswerS.l0, if_neg (by omega)]
  · obtain ⟨r, g1, g2, g3, g4, _, g6⟩ := HM
    refine ⟨m2, r, by unfold laws_markAnswerS.f; exact g1, g2, by omega, fun k' hk' => by unfold laws_heldAnswerS.f; exact g6 trivial k' (by omega)⟩
theorem mk_60 (x : (List S117)) (h : (x.length ≤ 1048576 ∧ ∀ e ∈ x, sm117 e)) (m : Int) (h0 : 0 < m) (h1 : m + 2305851805325590540 ≤ 4611686018427387904) (k : Nat) (hk : 3145795 ≤ k) : ∃ m2 r, laws_markGotS.f k x m = some (m2, r) ∧ m ≤ m2 ∧ m2 ≤ m + 2305851805325590540 ∧ True := by
  have hx := h.1
  have hw : (2199029547020 : Int) * ((x.length - 0 : Nat) : Int) ≤ 2305849606296043520 := by omega
  refine Exists.elim (mark_loop False laws_markGotS.l0 (fun _ _ _ _ => none) x sm117 2097218 2199029547020 4611683819397840884 hx (fun k l m i e hK hi hl hle hp hm0 hm1 => ?_) (fun k l m => ?_) ?_ x.length k x m 0 rfl (Nat.zero_le _) rfl (fun j e _ he => h.2 e (List.mem_of_getElem? he)) h0 (by omega) (by omega)) (fun m2 HM => ?_)
  · have c1 : (i : Int) < (x.length : Int) := by omega
    have c0 : 0 ≤ (i : Int) := by omega
    have ew : wrap64 ((i : Int) + 1) = ((i + 1 : Nat) : Int) := by rw [w64 (by omega) (by omega)]; rfl
    have re : rd_T117 l (i : Int) = e := by rw [rd117 l i (by omega)]; exact Option.some.inj ((List.getElem?_eq_getElem (by omega)).symm.trans hle)
    obtain ⟨m0, r0, e0, a0, b0, d0⟩ := mk_83 e.f1.f6 hp.2.1.2.2.2.2.2.2.1 (m + 1 + 1 + 1 + 1 + 1 + 1 + 1) (by omega) (by omega) k (by omega)
    have rs : ∀ y, rd_T117 (l.set i y) (i : Int) = y := fun y => by rw [rd117 _ i (by rw [List.length_set]; omega), List.getElem_set_self]
    refine ⟨(⟨m, (⟨(txt (m + 1)), m + 1 + 1, m + 1 + 1 + 1, m + 1 + 1 + 1 + 1, m + 1 + 1 + 1 + 1 + 1, m + 1 + 1 + 1 + 1 + 1 + 1, r0, (txt (m0))⟩ : S49)⟩ : S117), m0 + 1, ?_, by omega, by omega, fun hc => hc.elim⟩
    · rw [laws_markGotS.l0]
      simp only [lets, c1, c0, ew, re, rs, Int.toNat_natCast, List.set_set, if_true, Option.bind_some, u117_0_3, u117_1_9, u117_2_3, u117_3_3, u117_4_3, u117_5_3, u117_6_3, u117_7_47, u117_8_9, show wrap64 (m + 1) = m + 1 from w64 (by omega) (by omega), text (m + 1) (by omega) (by omega) k (by omega), show wrap64 (m + 1 + 1) = m + 1 + 1 from w64 (by omega) (by omega), show wrap64 (m + 1 + 1 + 1) = m + 1 + 1 + 1 from w64 (by omega) (by omega), show wrap64 (m + 1 + 1 + 1 + 1) = m + 1 + 1 + 1 + 1 from w64 (by omega) (by omega), show wrap64 (m + 1 + 1 + 1 + 1 + 1) = m + 1 + 1 + 1 + 1 + 1 from w64 (by omega) (by omega), show wrap64 (m + 1 + 1 + 1 + 1 + 1 + 1) = m + 1 + 1 + 1 + 1 + 1 + 1 from w64 (by omega) (by omega), show wrap64 (m + 1 + 1 + 1 + 1 + 1 + 1 + 1) = m + 1 + 1 + 1 + 1 + 1 + 1 + 1 from w64 (by omega) (by omega), e0, text (m0) (by omega) (by omega) k (by omega), show wrap64 (m0 + 1) = m0 + 1 from w64 (by omega) (by omega)]
  · rw [laws_markGotS.l0, if_neg (by omega)]
  · exact fun hc => hc.elim
  · obtain ⟨r, g1, g2, g3, g4, _, g6⟩ := HM
    refine ⟨m2, r, by unfold laws_markGotS.f; exact g1, g2, by omega, trivial⟩
theorem mk_22 (x : S37) (h : sm37 x) (m : Int) (h0 : 0 < m) (h1 : m + 2305851805330833425 ≤ 4611686018427387904) (k : Nat) (hk : 3145795 ≤ k) : ∃ m2 r0 r1 r2, laws_markClient.f k x m = some (m2, r0, r1, r2) ∧ m ≤ m2 ∧ m2 ≤ m + 2305851805330833425 ∧ True := by
  obtain ⟨m0, r0_0, e0, a0, b0, c0⟩ := mk_59 x.f2 h.2.2.1 m (by omega) (by omega) k (by omega)
  obtain ⟨m1, r1_0, e1, a1, b1, c1⟩ := mk_60 x.f3 h.2.2.2.1 m0 (by omega) (by omega) k (by omega)
  obtain ⟨m2, r2_0, e2, a2, b2, c2⟩ := mk_17 x.f4 h.2.2.2.2.1 m1 (by omega) (by omega) k (by omega)
  refine ⟨m2, r0_0, r1_0, r2_0, ?_, by omega, by omega, trivial⟩
  · unfold laws_markClient.f
    simp only [e0, e1, e2, Option.bind_some]
def sm184 (x : S184) : Prop := True ∧ True ∧ x.f2.size ≤ 1048576 ∧ True ∧ True
def wt184 (x : S184) : Nat := x.f2.size
theorem szw_137 (x : S184) (hx : ok184 x) (b : Int) (h0 : 0 ≤ b) (h1 : b ≤ 1048576) (k : Nat) (hk : 0 ≤ k) : ∃ n, laws_szWait.f x b = some n ∧ n ≤ b ∧ (0 ≤ n → sm184 x ∧ n + (wt184 x : Int) = b) := by
  have hm : maxLen = 9223372036854775807 := rfl
  unfold laws_szWait.f
  have s2 : x.f2.size ≤ maxLen := hx.2.2.1
  have e2 : wrap64 (b - (x.f2.size : Int)) = b - (x.f2.size : Int) := by unfold wrap64; omega
  rw [e2]
  by_cases c2 : b - (x.f2.size : Int) < 0
  · rw [if_pos c2]; exact ⟨-1, rfl, by omega, fun h => by omega⟩
  rw [if_neg c2]
  exact ⟨(b - (x.f2.size : Int)), rfl, by omega, fun h => ⟨⟨trivial, trivial, (by omega), trivial, trivial⟩, by unfold wt184; omega⟩⟩
theorem sz_137 (x : S184) (hx : ok184 x) (b : Int) (h0 : 0 ≤ b) (h1 : b ≤ 1048576) (k : Nat) (hk : 0 ≤ k) : ∃ n, laws_szWait.f x b = some n ∧ n ≤ b ∧ (0 ≤ n → sm184 x) := by
  obtain ⟨n, g1, g2, g3⟩ := szw_137 x hx b h0 h1 k hk
  exact ⟨n, g1, g2, fun h => (g3 h).1⟩
theorem rd184 (x : List S184) (i : Nat) (h : i < x.length) : rd_T184 x (i : Int) = x[i] := by simp [rd_T184, h]
theorem szw_75 (l : (List S184)) (hl : okList ok184 l) (b : Int) (h0 : 0 ≤ b) (h1 : b ≤ 1048576) (k : Nat) (hk : 1048577 ≤ k) : ∃ n, laws_szWaitS.f k l b = some n ∧ n ≤ b ∧ (0 ≤ n → (l.length ≤ 1048576 ∧ ∀ e ∈ l, sm184 e) ∧ n + ((((l.length + (l.map wt184).sum) : Nat) : Int) : Int) = b) := by
  have hll : l.length ≤ maxLen := hl.1
  have hm : maxLen = 9223372036854775807 := rfl
  have e : wrap64 (b - (l.length : Int)) = b - (l.length : Int) := by unfold wrap64; omega
  unfold laws_szWaitS.f
  rw [e]
  by_cases c : b - (l.length : Int) < 0
  · rw [if_pos c]; exact ⟨-1, rfl, by omega, fun h => by omega⟩
  rw [if_neg c]
  obtain ⟨n, n1, n2, n3⟩ := sz_loop_w laws_szWaitS.l0 rd_T184 (fun k e b => laws_szWait.f e b) sm184 wt184 l 0 (by omega) (rd184 l) (fun k b i => by rw [laws_szWaitS.l0]) (fun k e b hk he g0 g1 => szw_137 e (hl.2 e he) b g0 g1 k (by omega)) k (b - (l.length : Int)) 0 (by omega) (by omega) (by omega) (by omega)
  refine ⟨n, n1, by omega, fun h => ⟨⟨by omega, fun a ha => ?_⟩, ?_⟩⟩
  · obtain ⟨j, hj, rfl⟩ := List.getElem_of_mem ha
    exact (n3 h).1 j hj (by omega)
  · have w := (n3 h).2
    rw [List.drop_zero] at w
    omega
theorem sz_75 (l : (List S184)) (hl : okList ok184 l) (b : Int) (h0 : 0 ≤ b) (h1 : b ≤ 1048576) (k : Nat) (hk : 1048577 ≤ k) : ∃ n, laws_szWaitS.f k l b = some n ∧ n ≤ b ∧ (0 ≤ n → (l.length ≤ 1048576 ∧ ∀ e ∈ l, sm184 e)) := by
  obtain ⟨n, g1, g2, g3⟩ := szw_75 l hl b h0 h1 k hk
  exact ⟨n, g1, g2, fun h => (g3 h).1⟩
theorem szw_110 (l : (List ByteArray)) (hl : okList okStr l) (b : Int) (h0 : 0 ≤ b) (h1 : b ≤ 1048576) (k : Nat) (hk : 1048577 ≤ k) : ∃ n, laws_szStringS.f k l b = some n ∧ n ≤ b ∧ (0 ≤ n → (l.length ≤ 1048576 ∧ ∀ e ∈ l, e.size ≤ 1048576) ∧ n + ((((l.length + (l.map ByteArray.size).sum) : Nat) : Int) : Int) = b) := by
  have hll : l.length ≤ maxLen := hl.1
  have hm : maxLen = 9223372036854775807 := rfl
  have e : wrap64 (b - (l.length : Int)) = b - (l.length : Int) := by unfold wrap64; omega
  unfold laws_szStringS.f
  rw [e]
  by_cases c : b - (l.length : Int) < 0
  · rw [if_pos c]; exact ⟨-1, rfl, by omega, fun h => by omega⟩
  rw [if_neg c]
  obtain ⟨n, n1, n2, n3⟩ := sz_loop_w laws_szStringS.l0 (rdOf ByteArray.empty) (fun _ e b => some (wrap64 (b - (e.size : Int)))) (fun e => e.size ≤ 1048576) ByteArray.size l 0 (by omega) (rdS l) (fun k b i => by rw [laws_szStringS.l0]; rfl) (fun k e b _ he g0 g1 => by
      have h2 : e.size ≤ maxLen := hl.2 e he
      exact ⟨_, rfl, by unfold wrap64; omega, fun h => ⟨by unfold wrap64 at h; omega, by unfold wrap64; omega⟩⟩) k (b - (l.length : Int)) 0 (by omega) (by omega) (by omega) (by omega)
  refine ⟨n, n1, by omega, fun h => ⟨⟨by omega, fun a ha => ?_⟩, ?_⟩⟩
  · obtain ⟨j, hj, rfl⟩ := List.getElem_of_mem ha
    exact (n3 h).1 j hj (by omega)
  · have w := (n3 h).2
    rw [List.drop_zero] at w
    omega
theorem sz_110 (l : (List ByteArray)) (hl : okList okStr l) (b : Int) (h0 : 0 ≤ b) (h1 : b ≤ 1048576) (k : Nat) (hk : 1048577 ≤ k) : ∃ n, laws_szStringS.f k l b = some n ∧ n ≤ b ∧ (0 ≤ n → (l.length ≤ 1048576 ∧ ∀ e ∈ l, e.size ≤ 1048576)) := by
  obtain ⟨n, g1, g2, g3⟩ := szw_110 l hl b h0 h1 k hk
  exact ⟨n, g1, g2, fun h => (g3 h).1⟩
def sm169 (x : S169) : Prop := True ∧ True ∧ (x.f2.length ≤ 1048576 ∧ ∀ e ∈ x.f2, e.size ≤ 1048576) ∧ (x.f3.length ≤ 1048576 ∧ ∀ e ∈ x.f3, e.size ≤ 1048576) ∧ True
def wt169 (x : S169) : Nat := (x.f2.length + (x.f2.map ByteArray.size).sum) + (x.f3.length + (x.f3.map ByteArray.size).sum)
theorem szw_118 (x : S169) (hx : ok169 x) (b : Int) (h0 : 0 ≤ b) (h1 : b ≤ 1048576) (k : Nat) (hk : 1048577 ≤ k) : ∃ n, laws_szAnswer.f k x b = some n ∧ n ≤ b ∧ (0 ≤ n → sm169 x ∧ n + (wt169 x : Int) = b) := by
  have hm : maxLen = 9223372036854775807 := rfl
  unfold laws_szAnswer.f
  obtain ⟨n2, e2, b2, p2⟩ := szw_110 x.f2 (hx.2.2.1) b (by omega) (by omega) k (by omega)
  rw [e2, Option.bind_some]
  by_cases c2 : n2 < 0
  · rw [if_pos c2]; exact ⟨-1, rfl, by omega, fun h => by omega⟩
  rw [if_neg c2]
  obtain ⟨n3, e3, b3, p3⟩ := szw_110 x.f3 (hx.2.2.2) n2 (by omega) (by omega) k (by omega)
  rw [e3, Option.bind_some]
  by_cases c3 : n3 < 0
  · rw [if_pos c3]; exact ⟨-1, rfl, by omega, fun h => by omega⟩
  rw [if_neg c3]
  exact ⟨n3, rfl, by omega, fun h => ⟨⟨trivial, trivial, (p2 (by omega)).1, (p3 (by omega)).1, trivial⟩, by have w2 := (p2 (by omega)).2; have w3 := (p3 (by omega)).2; unfold wt169; omega⟩⟩
theorem sz_118 (x : S169) (hx : ok169 x) (b : Int) (h0 : 0 ≤ b) (h1 : b ≤ 1048576) (k : Nat) (hk : 1048577 ≤ k) : ∃ n, laws_szAnswer.f k x b = some n ∧ n ≤ b ∧ (0 ≤ n → sm169 x) := by
  obtain ⟨n, g1, g2, g3⟩ := szw_118 x hx b h0 h1 k hk
  exact ⟨n, g1, g2, fun h => (g3 h).1⟩
theorem rd169 (x : List S169) (i : Nat) (h : i < x.length) : rd_T169 x (i : Int) = x[i] := by simp [rd_T169, h]
theorem szw_63 (l : (List S169)) (hl : okList ok169 l) (b : Int) (h0 : 0 ≤ b) (h1 : b ≤ 1048576) (k : Nat) (hk : 2097154 ≤ k) : ∃ n, laws_szAnswerS.f k l b = some n ∧ n ≤ b ∧ (0 ≤ n → (l.length ≤ 1048576 ∧ ∀ e ∈ l, sm169 e) ∧ n + ((((l.length + (l.map wt169).sum) : Nat) : Int) : Int) = b) := by
  have hll : l.length ≤ maxLen := hl.1
  have hm : maxLen = 9223372036854775807 := rfl
  have e : wrap64 (b - (l.length : Int)) = b - (l.length : Int) := by unfold wrap64; omega
  unfold laws_szAnswerS.f
  rw [e]
  by_cases c : b - (l.length : Int) < 0
  · rw [if_pos c]; exact ⟨-1, rfl, by omega, fun h => by omega⟩
  rw [if_neg c]
  obtain ⟨n, n1, n2, n3⟩ := sz_loop_w laws_szAnswerS.l0 rd_T169 (fun k e b => laws_szAnswer.f k e b) sm169 wt169 l 1048577 (by omega) (rd169 l) (fun k b i => by rw [laws_szAnswerS.l0]) (fun k e b hk he g0 g1 => szw_118 e (hl.2 e he) b g0 g1 k (by omega)) k (b - (l.length : Int)) 0 (by omega) (by omega) (by omega) (by omega)
  refine ⟨n, n1, by omega, fun h => ⟨⟨by omega, fun a ha => ?_⟩, ?_⟩⟩
  · obtain ⟨j, hj, rfl⟩ := List.getElem_of_mem ha
    exact (n3 h).1 j hj (by omega)
  · have w := (n3 h).2
    rw [List.drop_zero] at w
    omega
theorem sz_63 (l : (List S169)) (hl : okList ok169 l) (b : Int) (h0 : 0 ≤ b) (h1 : b ≤ 1048576) (k : Nat) (hk : 2097154 ≤ k) : ∃ n, laws_szAnswerS.f k l b = some n ∧ n ≤ b ∧ (0 ≤ n → (l.length ≤ 1048576 ∧ ∀ e ∈ l, sm169 e)) := by
  obtain ⟨n, g1, g2, g3⟩ := szw_63 l hl b h0 h1 k hk
  exact ⟨n, g1, g2, fun h => (g3 h).1⟩
def sm44 (x : S44) : Prop := x.f0.size ≤ 1048576 ∧ True ∧ True ∧ True ∧ True ∧ True ∧ (x.f6.length ≤ 1048576 ∧ ∀ e ∈ x.f6, sm169 e) ∧ x.f7.size ≤ 1048576 ∧ True
def wt44 (x : S44) : Nat := x.f0.size + (x.f6.length + (x.f6.map wt169).sum) + x.f7.size
theorem szw_24 (x : S44) (hx : ok44 x) (b : Int) (h0 : 0 ≤ b) (h1 : b ≤ 1048576) (k : Nat) (hk : 2097154 ≤ k) : ∃ n, laws_szReply.f k x b = some n ∧ n ≤ b ∧ (0 ≤ n → sm44 x ∧ n + (wt44 x : Int) = b) := by
  have hm : maxLen = 9223372036854775807 := rfl
  unfold laws_szReply.f
  have s0 : x.f0.size ≤ maxLen := hx.1
  have e0 : wrap64 (b - (x.f0.size : Int)) = b - (x.f0.size : Int) := by unfold wrap64; omega
  rw [e0]
  by_cases c0 : b - (x.f0.size : Int) < 0
  · rw [if_pos c0]; exact ⟨-1, rfl, by omega, fun h => by omega⟩
  rw [if_neg c0]
  obtain ⟨n6, e6, b6, p6⟩ := szw_63 x.f6 (hx.2.2.2.2.2.2.1) (b - (x.f0.size : Int)) (by omega) (by omega) k (by omega)
  rw [e6, Option.bind_some]
  by_cases c6 : n6 < 0
  · rw [if_pos c6]; exact ⟨-1, rfl, by omega, fun h => by omega⟩
  rw [if_neg c6]
  have s7 : x.f7.size ≤ maxLen := hx.2.2.2.2.2.2.2
  have e7 : wrap64 (n6 - (x.f7.size : Int)) = n6 - (x.f7.size : Int) := by unfold wrap64; omega
  rw [e7]
  by_cases c7 : n6 - (x.f7.size : Int) < 0
  · rw [if_pos c7]; exact ⟨-1, rfl, by omega, fun h => by omega⟩
  rw [if_neg c7]
  exact ⟨(n6 - (x.f7.size : Int)), rfl, by omega, fun h => ⟨⟨(by omega), trivial, trivial, trivial, trivial, trivial, (p6 (by omega)).1, (by omega), trivial⟩, by have w6 := (p6 (by omega)).2; unfold wt44; omega⟩⟩
theorem sz_24 (x : S44) (hx : ok44 x) (b : Int) (h0 : 0 ≤ b) (h1 : b ≤ 1048576) (k : Nat) (hk : 2097154 ≤ k) : ∃ n, laws_szReply.f k x b = some n ∧ n ≤ b ∧ (0 ≤ n → sm44 x) := by
  obtain ⟨n, g1, g2, g3⟩ := szw_24 x hx b h0 h1 k hk
  exact ⟨n, g1, g2, fun h => (g3 h).1⟩
def sm187 (x : S187) : Prop := True ∧ sm44 x.f1 ∧ True
def wt187 (x : S187) : Nat := wt44 x.f1
theorem szw_138 (x : S187) (hx : ok187 x) (b : Int) (h0 : 0 ≤ b) (h1 : b ≤ 1048576) (k : Nat) (hk : 2097154 ≤ k) : ∃ n, laws_szGot.f k x b = some n ∧ n ≤ b ∧ (0 ≤ n → sm187 x ∧ n + (wt187 x : Int) = b) := by
  have hm : maxLen = 9223372036854775807 := rfl
  unfold laws_szGot.f
  obtain ⟨n1, e1, b1, p1⟩ := szw_24 x.f1 (hx.2) b (by omega) (by omega) k (by omega)
  rw [e1, Option.bind_some]
  by_cases c1 : n1 < 0
  · rw [if_pos c1]; exact ⟨-1, rfl, by omega, fun h => by omega⟩
  rw [if_neg c1]
  exact ⟨n1, rfl, by omega, fun h => ⟨⟨trivial, (p1 (by omega)).1, trivial⟩, by have w1 := (p1 (by omega)).2; unfold wt187; omega⟩⟩
theorem sz_138 (x : S187) (hx : ok187 x) (b : Int) (h0 : 0 ≤ b) (h1 : b ≤ 1048576) (k : Nat) (hk : 2097154 ≤ k) : ∃ n, laws_szGot.f k x b = some n ∧ n ≤ b ∧ (0 ≤ n → sm187 x) := by
  obtain ⟨n, g1, g2, g3⟩ := szw_138 x hx b h0 h1 k hk
  exact ⟨n, g1, g2, fun h => (g3 h).1⟩
theorem rd187 (x : List S187) (i : Nat) (h : i < x.length) : rd_T187 x (i : Int) = x[i] := by simp [rd_T187, h]
theorem szw_76 (l : (List S187)) (hl : okList ok187 l) (b : Int) (h0 : 0 ≤ b) (h1 : b ≤ 1048576) (k : Nat) (hk : 3145731 ≤ k) : ∃ n, laws_szGotS.f k l b = some n ∧ n ≤ b ∧ (0 ≤ n → (l.length ≤ 1048576 ∧ ∀ e ∈ l, sm187 e) ∧ n + ((((l.length + (l.map wt187).sum) : Nat) : Int) : Int) = b) := by
  have hll : l.length ≤ maxLen := hl.1
  have hm : maxLen = 9223372036854775807 := rfl
  have e : wrap64 (b - (l.length : Int)) = b - (l.length : Int) := by unfold wrap64; omega
  unfold laws_szGotS.f
  rw [e]
  by_cases c : b - (l.length : Int) < 0
  · rw [if_pos c]; exact ⟨-1, rfl, by omega, fun h => by omega⟩
  rw [if_neg c]
  obtain ⟨n, n1, n2, n3⟩ := sz_loop_w laws_szGotS.l0 rd_T187 (fun k e b => laws_szGot.f k e b) sm187 wt187 l 2097154 (by omega) (rd187 l) (fun k b i => by rw [laws_szGotS.l0]) (fun k e b hk he g0 g1 => szw_138 e (hl.2 e he) b g0 g1 k (by omega)) k (b - (l.length : Int)) 0 (by omega) (by omega) (by omega) (by omega)
  refine ⟨n, n1, by omega, fun h => ⟨⟨by omega, fun a ha => ?_⟩, ?_⟩⟩
  · obtain ⟨j, hj, rfl⟩ := List.getElem_of_mem ha
    exact (n3 h).1 j hj (by omega)
  · have w := (n3 h).2
    rw [List.drop_zero] at w
    omega
theorem sz_76 (l : (List S187)) (hl : okList ok187 l) (b : Int) (h0 : 0 ≤ b) (h1 : b ≤ 1048576) (k : Nat) (hk : 3145731 ≤ k) : ∃ n, laws_szGotS.f k l b = some n ∧ n ≤ b ∧ (0 ≤ n → (l.length ≤ 1048576 ∧ ∀ e ∈ l, sm187 e)) := by
  obtain ⟨n, g1, g2, g3⟩ := szw_76 l hl b h0 h1 k hk
  exact ⟨n, g1, g2, fun h => (g3 h).1⟩
theorem szw_77 (l : (List Int)) (hl : okList (okInt .i64) l) (b : Int) (h0 : 0 ≤ b) (h1 : b ≤ 1048576) (k : Nat) (hk : 0 ≤ k) : ∃ n, laws_szIntS.f l b = some n ∧ n ≤ b ∧ (0 ≤ n → (l.length ≤ 1048576 ∧ ∀ e ∈ l, True) ∧ n + (((l.length : Nat) : Int) : Int) = b) := by
  have hll : l.length ≤ maxLen := hl.1
  have hm : maxLen = 9223372036854775807 := rfl
  have e : wrap64 (b - (l.length : Int)) = b - (l.length : Int) := by unfold wrap64; omega
  unfold laws_szIntS.f
  rw [e]
  by_cases c : b - (l.length : Int) < 0
  · rw [if_pos c]; exact ⟨-1, rfl, by omega, fun h => by omega⟩
  rw [if_neg c]
  exact ⟨_, rfl, by omega, fun h => ⟨⟨by omega, fun e he => trivial⟩, by omega⟩⟩
theorem sz_77 (l : (List Int)) (hl : okList (okInt .i64) l) (b : Int) (h0 : 0 ≤ b) (h1 : b ≤ 1048576) (k : Nat) (hk : 0 ≤ k) : ∃ n, laws_szIntS.f l b = some n ∧ n ≤ b ∧ (0 ≤ n → (l.length ≤ 1048576 ∧ ∀ e ∈ l, True)) := by
  obtain ⟨n, g1, g2, g3⟩ := szw_77 l hl b h0 h1 k hk
  exact ⟨n, g1, g2, fun h => (g3 h).1⟩
def sm58 (x : S58) : Prop := x.f0.size ≤ 1048576 ∧ True ∧ (x.f2.length ≤ 1048576 ∧ ∀ e ∈ x.f2, sm184 e) ∧ (x.f3.length ≤ 1048576 ∧ ∀ e ∈ x.f3, sm187 e) ∧ (x.f4.length ≤ 1048576 ∧ ∀ e ∈ x.f4, True) ∧ True
def wt58 (x : S58) : Nat := x.f0.size + (x.f2.length + (x.f2.map wt184).sum) + (x.f3.length + (x.f3.map wt187).sum) + x.f4.length
theorem szw_31 (x : S58) (hx : ok58 x) (b : Int) (h0 : 0 ≤ b) (h1 : b ≤ 1048576) (k : Nat) (hk : 3145731 ≤ k) : ∃ n, laws_szClient.f k x b = some n ∧ n ≤ b ∧ (0 ≤ n → sm58 x ∧ n + (wt58 x : Int) = b) := by
  have hm : maxLen = 9223372036854775807 := rfl
  unfold laws_szClient.f
  have s0 : x.f0.size ≤ maxLen := hx.1
  have e0 : wrap64 (b - (x.f0.size : Int)) = b - (x.f0.size : Int) := by unfold wrap64; omega
  rw [e0]
  by_cases c0 : b - (x.f0.size : Int) < 0
  · rw [if_pos c0]; exact ⟨-1, rfl, by omega, fun h => by omega⟩
  rw [if_neg c0]
  obtain ⟨n2, e2, b2, p2⟩ := szw_75 x.f2 (hx.2.2.1) (b - (x.f0.size : Int)) (by omega) (by omega) k (by omega)
  rw [e2, Option.bind_some]
  by_cases c2 : n2 < 0
  · rw [if_pos c2]; exact ⟨-1, rfl, by omega, fun h => by omega⟩
  rw [if_neg c2]
  obtain ⟨n3, e3, b3, p3⟩ := szw_76 x.f3 (hx.2.2.2.1) n2 (by omega) (by omega) k (by omega)
  rw [e3, Option.bind_some]
  by_cases c3 : n3 < 0
  · rw [if_pos c3]; exact ⟨-1, rfl, by omega, fun h => by omega⟩
  rw [if_neg c3]
  obtain ⟨n4, e4, b4, p4⟩ := szw_77 x.f4 (hx.2.2.2.2) n3 (by omega) (by omega) k (by omega)
  rw [e4, Option.bind_some]
  by_cases c4 : n4 < 0
  · rw [if_pos c4]; exact ⟨-1, rfl, by omega, fun h => by omega⟩
  rw [if_neg c4]
  exact ⟨n4, rfl, by omega, fun h => ⟨⟨(by omega), trivial, (p2 (by omega)).1, (p3 (by omega)).1, (p4 (by omega)).1, trivial⟩, by have w2 := (p2 (by omega)).2; have w3 := (p3 (by omega)).2; have w4 := (p4 (by omega)).2; unfold wt58; omega⟩⟩
theorem sz_31 (x : S58) (hx : ok58 x) (b : Int) (h0 : 0 ≤ b) (h1 : b ≤ 1048576) (k : Nat) (hk : 3145731 ≤ k) : ∃ n, laws_szClient.f k x b = some n ∧ n ≤ b ∧ (0 ≤ n → sm58 x) := by
  obtain ⟨n, g1, g2, g3⟩ := szw_31 x hx b h0 h1 k hk
  exact ⟨n, g1, g2, fun h => (g3 h).1⟩
def cv184 (x : S184) : S165 := ⟨x.f0, x.f1, x.f2, x.f3⟩
theorem to_139 (x : S184) (h : sm184 x) (k : Nat) (hk : 0 ≤ k) : laws_toWait.f x = some (cv184 x) := by
  unfold laws_toWait.f
  rfl
theorem smcv184 (x : S184) (h : sm184 x) : sm165 (cv184 x) := ⟨h.1, h.2.1, h.2.2.1, h.2.2.2.1, trivial⟩
theorem to_79 (x : (List S184)) (h : (x.length ≤ 1048576 ∧ ∀ e ∈ x, sm184 e)) (k : Nat) (hk : 1048577 ≤ k) : laws_toWaitS.f k x = some (x.map cv184) := by
  have hx := h.1
  unfold laws_toWaitS.f
  rw [if_pos (by omega), if_pos (by omega)]
  have := to_loop laws_toWaitS.l0 rd_T184 (fun k e => laws_toWait.f e) cv184 x 0 hx (rd184 x) (fun k y i => by rw [laws_toWaitS.l0]) (fun k e hk he => to_139 e (h.2 e he) k (by omega)) k (List.replicate x.length z165) 0 (by omega) (by simp) rfl (by omega)
  simpa using this
theorem to_112 (x : (List ByteArray)) (h : (x.length ≤ 1048576 ∧ ∀ e ∈ x, e.size ≤ 1048576)) (k : Nat) (hk : 1048577 ≤ k) : laws_toStringS.f k x = some x := by
  have hx := h.1
  unfold laws_toStringS.f
  rw [if_pos (by omega), if_pos (by omega)]
  have := to_loop laws_toStringS.l0 (rdOf ByteArray.empty) (fun _ e => some e) id x 0 hx (rdS x) (fun k y i => by rw [laws_toStringS.l0]; rfl) (fun _ _ _ _ => rfl) k (List.replicate x.length (⟨#[]⟩ : ByteArray)) 0 (by omega) (by simp) rfl (by omega)
  simpa using this
def cv169 (x : S169) : S171 := ⟨x.f0, x.f1, x.f2, x.f3⟩
theorem to_123 (x : S169) (h : sm169 x) (k : Nat) (hk : 1048577 ≤ k) : laws_toAnswer.f k x = some (cv169 x) := by
  unfold laws_toAnswer.f
  simp only [to_112 x.f2 h.2.2.1 k (by omega), to_112 x.f3 h.2.2.2.1 k (by omega), Option.bind_some]
  rfl
theorem smcv169 (x : S169) (h : sm169 x) : sm171 (cv169 x) := ⟨h.1, h.2.1, h.2.2.1, h.2.2.2.1, trivial⟩
theorem to_66 (x : (List S169)) (h : (x.length ≤ 1048576 ∧ ∀ e ∈ x, sm169 e)) (k : Nat) (hk : 2097154 ≤ k) : laws_toAnswerS.f k x = some (x.map cv169) := by
  have hx := h.1
  unfold laws_toAnswerS.f
  rw [if_pos (by omega), if_pos (by omega)]
  have := to_loop laws_toAnswerS.l0 rd_T169 (fun k e => laws_toAnswer.f k e) cv169 x 1048577 hx (rd169 x) (fun k y i => by rw [laws_toAnswerS.l0]) (fun k e hk he => to_123 e (h.2 e he) k (by omega)) k (List.replicate x.length z171) 0 (by omega) (by simp) rfl (by omega)
  simpa using this
def cv44 (x : S44) : S49 := ⟨x.f0, x.f1, x.f2, x.f3, x.f4, x.f5, (x.f6.map cv169), x.f7⟩
theorem to_26 (x : S44) (h : sm44 x) (k : Nat) (hk : 2097154 ≤ k) : laws_toReply.f k x = some (cv44 x) := by
  unfold laws_toReply.f
  simp only [to_66 x.f6 h.2.2.2.2.2.2.1 k (by omega), Option.bind_some]
  rfl
theorem smcv44 (x : S44) (h : sm44 x) : sm49 (cv44 x) := ⟨h.1, h.2.1, h.2.2.1, h.2.2.2.1, h.2.2.2.2.1, h.2.2.2.2.2.1, ⟨by show (List.map cv169 _).length ≤ _; rw [List.length_map]; exact h.2.2.2.2.2.2.1.1, fun e he => by
  obtain ⟨a, ha, rfl⟩ := List.mem_map.1 he
  exact smcv169 a (h.2.2.2.2.2.2.1.2 a ha)⟩, h.2.2.2.2.2.2.2.1, trivial⟩
def cv187 (x : S187) : S117 := ⟨x.f0, (cv44 x.f1)⟩
theorem to_140 (x : S187) (h : sm187 x) (k : Nat) (hk : 2097154 ≤ k) : laws_toGot.f k x = some (cv187 x) := by
  unfold laws_toGot.f
  simp only [to_26 x.f1 h.2.1 k (by omega), Option.bind_some]
  rfl
theorem smcv187 (x : S187) (h : sm187 x) : sm117 (cv187 x) := ⟨h.1, smcv44 _ h.2.1, trivial⟩
theorem to_80 (x : (List S187)) (h : (x.length ≤ 1048576 ∧ ∀ e ∈ x, sm187 e)) (k : Nat) (hk : 3145731 ≤ k) : laws_toGotS.f k x = some (x.map cv187) := by
  have hx := h.1
  unfold laws_toGotS.f
  rw [if_pos (by omega), if_pos (by omega)]
  have := to_loop laws_toGotS.l0 rd_T187 (fun k e => laws_toGot.f k e) cv187 x 2097154 hx (rd187 x) (fun k y i => by rw [laws_toGotS.l0]) (fun k e hk he => to_140 e (h.2 e he) k (by omega)) k (List.replicate x.length z117) 0 (by omega) (by simp) rfl (by omega)
  simpa using this
theorem to_81 (x : (List Int)) (h : (x.length ≤ 1048576 ∧ ∀ e ∈ x, True)) (k : Nat) (hk : 1048577 ≤ k) : laws_toIntS.f k x = some x := by
  have hx := h.1
  unfold laws_toIntS.f
  rw [if_pos (by omega), if_pos (by omega)]
  have := to_loop laws_toIntS.l0 rd (fun _ e => some e) id x 0 hx (rdI x) (fun k y i => by rw [laws_toIntS.l0]; rfl) (fun _ _ _ _ => rfl) k (List.replicate x.length (0 : Int)) 0 (by omega) (by simp) rfl (by omega)
  simpa using this
def cv58 (x : S58) : S37 := ⟨x.f0, x.f1, (x.f2.map cv184), (x.f3.map cv187), x.f4⟩
theorem to_33 (x : S58) (h : sm58 x) (k : Nat) (hk : 3145731 ≤ k) : laws_toClient.f k x = some (cv58 x) := by
  unfold laws_toClient.f
  simp only [to_79 x.f2 h.2.2.1 k (by omega), to_80 x.f3 h.2.2.2.1 k (by omega), to_81 x.f4 h.2.2.2.2.1 k (by omega), Option.bind_some]
  rfl
theorem smcv58 (x : S58) (h : sm58 x) : sm37 (cv58 x) := ⟨h.1, h.2.1, ⟨by show (List.map cv184 _).length ≤ _; rw [List.length_map]; exact h.2.2.1.1, fun e he => by
  obtain ⟨a, ha, rfl⟩ := List.mem_map.1 he
  exact smcv184 a (h.2.2.1.2 a ha)⟩, ⟨by show (List.map cv187 _).length ≤ _; rw [List.length_map]; exact h.2.2.2.1.1, fun e he => by
  obtain ⟨a, ha, rfl⟩ := List.mem_map.1 he
  exact smcv187 a (h.2.2.2.1.2 a ha)⟩, h.2.2.2.2.1, trivial⟩
theorem mk_35 (x : S49) (h : sm49 x) (m : Int) (h0 : 0 < m) (h1 : m + 2199029547012 ≤ 4611686018427387904) (k : Nat) (hk : 2097218 ≤ k) : ∃ m2 r0, laws_markReply.f k x m = some (m2, r0) ∧ m ≤ m2 ∧ m2 ≤ m + 2199029547012 ∧ (∀ k, 2097218 ≤ k → laws_heldReply.f k (⟨x.f0, x.f1, x.f2, x.f3, x.f4, x.f5, r0, x.f7⟩ : S49) m = some m2) := by
  obtain ⟨m0, r0_0, e0, a0, b0, c0⟩ := mk_83 x.f6 h.2.2.2.2.2.2.1 m (by omega) (by omega) k (by omega)
  refine ⟨m0, r0_0, ?_, by omega, by omega, fun k hk => ?_⟩
  · unfold laws_markReply.f
    simp only [e0, Option.bind_some]
  · unfold laws_heldReply.f
    simp only [c0 k (by omega), show ¬ m0 < 0 by omega, if_false, Option.bind_some]
end Go.Proofs.Ytdcjcanobiohnaa.FamFnExactGotOf

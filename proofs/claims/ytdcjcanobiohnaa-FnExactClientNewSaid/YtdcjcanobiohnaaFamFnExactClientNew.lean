/- What the law's own helpers do: they measure, copy, compare, mark. Plain lemmas, no condition. -/
import Derived.Test.YtdcjcanobiohnaaSaidFnExactClientNew
import Derived.Test.YtdcjcanobiohnaaZMark
namespace Go.Proofs.Ytdcjcanobiohnaa.FamFnExactClientNew
open Go.RowKit Go.Proofs.YtdcjcanobiohnaaW.PrintWords Go.Proofs.YtdcjcanobiohnaaW.PrintLast Go.Proofs.Ytdcjcanobiohnaa.ZOpen Go.Proofs.Ytdcjcanobiohnaa.Z Go.Proofs.Ytdcjcanobiohnaa.F
open Go.Proofs.Ytdcjcanobiohnaa.SaidFnExactClientNew Go.Proofs.Ytdcjcanobiohnaa.ZP
set_option linter.unusedVariables false
set_option linter.unusedSimpArgs false
set_option maxRecDepth 100000

theorem rdI (x : List Int) (i : Nat) (h : i < x.length) : rd x (i : Int) = x[i] := by simp [rd, h]
theorem eq_14 (x : (List Int)) (h : (x.length ≤ 1048576 ∧ ∀ e ∈ x, True)) (k : Nat) (hk : 1048577 ≤ k) : laws_eqIntS.f k x x = some true := by
  have hx := h.1
  unfold laws_eqIntS.f
  rw [if_pos rfl]
  exact eq_loop laws_eqIntS.l0 rd (fun _ _ => some true) x 0 hx (rdI x) (fun k i => by rw [laws_eqIntS.l0]; simp) (fun _ _ _ _ => rfl) k 0 (by omega) (by omega)
def sm165 (x : S165) : Prop := True ∧ True ∧ x.f2.size ≤ 1048576 ∧ True ∧ True
theorem eq_116 (x : S165) (h : sm165 x) (k : Nat) (hk : 0 ≤ k) : laws_eqWait.f x x = some true := by
  unfold laws_eqWait.f
  simp []
theorem rd165 (x : List S165) (i : Nat) (h : i < x.length) : rd_T165 x (i : Int) = x[i] := by simp [rd_T165, h]
theorem eq_57 (x : (List S165)) (h : (x.length ≤ 1048576 ∧ ∀ e ∈ x, sm165 e)) (k : Nat) (hk : 1048577 ≤ k) : laws_eqWaitS.f k x x = some true := by
  have hx := h.1
  unfold laws_eqWaitS.f
  rw [if_pos rfl]
  exact eq_loop laws_eqWaitS.l0 rd_T165 (fun k e => laws_eqWait.f e e) x 0 hx (rd165 x) (fun k i => by rw [laws_eqWaitS.l0]) (fun k e hk he => eq_116 e (h.2 e he) k (by omega)) k 0 (by omega) (by omega)
theorem rdS (x : List ByteArray) (i : Nat) (h : i < x.length) : rdOf ByteArray.empty x (i : Int) = x[i] := by simp [rdOf, h]
theorem eq_96 (x : (List ByteArray)) (h : (x.length ≤ 1048576 ∧ ∀ e ∈ x, e.size ≤ 1048576)) (k : Nat) (hk : 1048577 ≤ k) : laws_eqStringS.f k x x = some true := by
  have hx := h.1
  unfold laws_eqStringS.f
  rw [if_pos rfl]
  exact eq_loop laws_eqStringS.l0 (rdOf ByteArray.empty) (fun _ _ => some true) x 0 hx (rdS x) (fun k i => by rw [laws_eqStringS.l0]; simp) (fun _ _ _ _ => rfl) k 0 (by omega) (by omega)
def sm171 (x : S171) : Prop := True ∧ True ∧ (x.f2.length ≤ 1048576 ∧ ∀ e ∈ x.f2, e.size ≤ 1048576) ∧ (x.f3.length ≤ 1048576 ∧ ∀ e ∈ x.f3, e.size ≤ 1048576) ∧ True
theorem eq_130 (x : S171) (h : sm171 x) (k : Nat) (hk : 1048577 ≤ k) : laws_eqAnswer.f k x x = some true := by
  unfold laws_eqAnswer.f
  simp [eq_96 x.f2 h.2.2.1 k (by omega), eq_96 x.f3 h.2.2.2.1 k (by omega)]
theorem rd171 (x : List S171) (i : Nat) (h : i < x.length) : rd_T171 x (i : Int) = x[i] := by simp [rd_T171, h]
theorem eq_69 (x : (List S171)) (h : (x.length ≤ 1048576 ∧ ∀ e ∈ x, sm171 e)) (k : Nat) (hk : 2097154 ≤ k) : laws_eqAnswerS.f k x x = some true := by
  have hx := h.1
  unfold laws_eqAnswerS.f
  rw [if_pos rfl]
  exact eq_loop laws_eqAnswerS.l0 rd_T171 (fun k e => laws_eqAnswer.f k e e) x 1048577 hx (rd171 x) (fun k i => by rw [laws_eqAnswerS.l0]) (fun k e hk he => eq_130 e (h.2 e he) k (by omega)) k 0 (by omega) (by omega)
def sm49 (x : S49) : Prop := x.f0.size ≤ 1048576 ∧ True ∧ True ∧ True ∧ True ∧ True ∧ (x.f6.length ≤ 1048576 ∧ ∀ e ∈ x.f6, sm171 e) ∧ x.f7.size ≤ 1048576 ∧ True
theorem eq_28 (x : S49) (h : sm49 x) (k : Nat) (hk : 2097154 ≤ k) : laws_eqReply.f k x x = some true := by
  unfold laws_eqReply.f
  simp [eq_69 x.f6 h.2.2.2.2.2.2.1 k (by omega)]
def sm117 (x : S117) : Prop := True ∧ sm49 x.f1 ∧ True
theorem eq_117 (x : S117) (h : sm117 x) (k : Nat) (hk : 2097154 ≤ k) : laws_eqGot.f k x x = some true := by
  unfold laws_eqGot.f
  simp [eq_28 x.f1 h.2.1 k (by omega)]
theorem rd117 (x : List S117) (i : Nat) (h : i < x.length) : rd_T117 x (i : Int) = x[i] := by simp [rd_T117, h]
theorem eq_58 (x : (List S117)) (h : (x.length ≤ 1048576 ∧ ∀ e ∈ x, sm117 e)) (k : Nat) (hk : 3145731 ≤ k) : laws_eqGotS.f k x x = some true := by
  have hx := h.1
  unfold laws_eqGotS.f
  rw [if_pos rfl]
  exact eq_loop laws_eqGotS.l0 rd_T117 (fun k e => laws_eqGot.f k e e) x 2097154 hx (rd117 x) (fun k i => by rw [laws_eqGotS.l0]) (fun k e hk he => eq_117 e (h.2 e he) k (by omega)) k 0 (by omega) (by omega)
def sm37 (x : S37) : Prop := x.f0.size ≤ 1048576 ∧ True ∧ (x.f2.length ≤ 1048576 ∧ ∀ e ∈ x.f2, sm165 e) ∧ (x.f3.length ≤ 1048576 ∧ ∀ e ∈ x.f3, sm117 e) ∧ (x.f4.length ≤ 1048576 ∧ ∀ e ∈ x.f4, True) ∧ True
theorem eq_21 (x : S37) (h : sm37 x) (k : Nat) (hk : 3145731 ≤ k) : laws_eqClient.f k x x = some true := by
  unfold laws_eqClient.f
  simp [eq_57 x.f2 h.2.2.1 k (by omega), eq_58 x.f3 h.2.2.2.1 k (by omega), eq_14 x.f4 h.2.2.2.2.1 k (by omega)]
theorem mk_17 (x : (List Int)) (h : (x.length ≤ 1048576 ∧ ∀ e ∈ x, True)) (m : Int) (h0 : 0 < m) (h1 : m + 1048577 ≤ 4611686018427387904) (k : Nat) (hk : 1048577 ≤ k) : ∃ m2 r, laws_markIntS.f k x m = some (m2, r) ∧ m ≤ m2 ∧ m2 ≤ m + 1048577 ∧ (∀ k, 1048577 ≤ k → laws_heldIntS.f k r m = some m2) := by
  have hx := h.1
  have hw : (1 : Int) * ((x.length - 0 : Nat) : Int) ≤ 1048576 := by omega
  refine Exists.elim (mark_loop True laws_markIntS.l0 laws_heldIntS.l0 x (fun e => True) 0 1 4611686018427387903 hx (fun k l m i e hK hi hl hle hp hm0 hm1 => ?_) (fun k l m => ?_) ?_ x.length k x m 0 rfl (Nat.zero_le _) rfl (fun j e _ he => h.2 e (List.mem_of_getElem? he)) h0 (by omega) (by omega)) (fun m2 HM => ?_)
  · have c1 : (i : Int) < (x.length : Int) := by omega
    have c0 : 0 ≤ (i : Int) := by omega
    have ew : wrap64 ((i : Int) + 1) = ((i + 1 : Nat) : Int) := by rw [w64 (by omega) (by omega)]; rfl
    have re : rd l (i : Int) = e := by rw [rdI l i (by omega)]; exact Option.some.inj ((List.getElem?_eq_getElem (by omega)).symm.trans hle)
    have rs : ∀ y, rd (l.set i y) (i : Int) = y := fun y => by rw [rdI _ i (by rw [List.length_set]; omega), List.getElem_set_self]
    refine ⟨m, m + 1, ?_, by omega, by omega, fun _ k' l2 hK' hl2 he2 => ?_⟩
    · rw [laws_markIntS.l0]
      simp only [lets, c1, c0, ew, re, rs, Int.toNat_natCast, List.set_set, if_true, Option.bind_some, show wrap64 (m + 1) = m + 1 from w64 (by omega) (by omega)]
    · have c2 : (i : Int) < (l2.length : Int) := by omega
      have re2 : rd l2 (i : Int) = m := by rw [rdI l2 i (by omega)]; exact Option.some.inj ((List.getElem?_eq_getElem (by omega)).symm.trans he2)
      rw [laws_heldIntS.l0]
      simp only [c2, c0, ew, re2, if_true, if_false, Option.bind_some, show wrap64 (m + 1) = m + 1 from w64 (by omega) (by omega)]
  · rw [laws_markIntS.l0, if_neg (by omega)]
  · intro _ k l2 m hl2
    rw [laws_heldIntS.l0, if_neg (by omega)]
  · obtain ⟨r, g1, g2, g3, g4, _, g6⟩ := HM
    refine ⟨m2, r, by unfold laws_markIntS.f; exact g1, g2, by omega, fun k' hk' => by unfold laws_heldIntS.f; exact g6 trivial k' (by omega)⟩
def txt (m : Int) : ByteArray := (laws_markText.f 64 m).getD ByteArray.empty
theorem text_loop : ∀ (n : Nat) (m : Int) (s : ByteArray), 0 ≤ m → m ≤ 4611686018427387904 → m < 10 ^ n → s.size + n ≤ 4611686018427387904 → ∃ t, ∀ k, n < k → laws_markText.l0 k m s = some t
  | 0, m, s, h0, hB, h1, hs => by
    obtain rfl : m = 0 := by omega
    have e1 : (⟨#[109]⟩ : ByteArray).size = 1 := rfl
    refine ⟨(⟨#[109]⟩ : ByteArray) ++ s, fun k hk => ?_⟩
    obtain ⟨k, rfl⟩ : ∃ q, k = q + 1 := ⟨k - 1, by omega⟩
    rw [laws_markText.l0, if_neg (by omega), if_pos (by omega)]
  | n + 1, m, s, h0, hB, h1, hs => by
    by_cases c : 0 < m
    · have e2 : (strOfNums ([((wrap64 (48 + (Int.tmod m 10))) % 256)] : List Int)).size = 1 := strOfNums_size _
      have e3 : Int.tdiv m 10 = m / 10 := Int.tdiv_eq_ediv_of_nonneg h0
      have e5 : m / 10 < 10 ^ n := by
        have : (10 : Int) ^ (n + 1) = 10 ^ n * 10 := Int.pow_succ 10 n
        omega
      have hw : wrap64 (Int.tdiv m 10) = m / 10 := by rw [e3]; unfold wrap64; omega
      · obtain ⟨t, ht⟩ := text_loop n (m / 10) ((strOfNums ([((wrap64 (48 + (Int.tmod m 10))) % 256)] : List Int)) ++ s) (by omega) (by omega) e5 (by rw [ByteArray.size_append, e2]; omega)
        refine ⟨t, fun k hk => ?_⟩
        obtain ⟨k, rfl⟩ : ∃ q, k = q + 1 := ⟨k - 1, by omega⟩
        rw [laws_markText.l0, if_pos c, if_pos (by omega), hw]
        exact ht k (by omega)
    · obtain rfl : m = 0 := by omega
      have e1 : (⟨#[109]⟩ : ByteArray).size = 1 := rfl
      refine ⟨(⟨#[109]⟩ : ByteArray) ++ s, fun k hk => ?_⟩
      obtain ⟨k, rfl⟩ : ∃ q, k = q + 1 := ⟨k - 1, by omega⟩
      rw [laws_markText.l0, if_neg (by omega), if_pos (by omega)]
theorem text (m : Int) (h0 : 0 < m) (h1 : m ≤ 4611686018427387904) (k : Nat) (hk : 64 ≤ k) : laws_markText.f k m = some (txt m) := by
  obtain ⟨t, ht⟩ := text_loop 19 m (⟨#[]⟩ : ByteArray) (by omega) h1 (by omega) (by show 0 + 19 ≤ _; omega)
  have e : ∀ k, 64 ≤ k → laws_markText.f k m = some t := fun k hk => by
    unfold laws_markText.f
    rw [if_neg (by omega)]
    exact ht k (by omega)
  rw [e k hk]
  unfold txt
  rw [e 64 (by omega)]
  rfl
theorem mk_59 (x : (List S165)) (h : (x.length ≤ 1048576 ∧ ∀ e ∈ x, sm165 e)) (m : Int) (h0 : 0 < m) (h1 : m + 4194308 ≤ 4611686018427387904) (k : Nat) (hk : 1048641 ≤ k) : ∃ m2 r, laws_markWaitS.f k x m = some (m2, r) ∧ m ≤ m2 ∧ m2 ≤ m + 4194308 ∧ (∀ k, 1048641 ≤ k → laws_heldWaitS.f k r m = some m2) := by
  have hx := h.1
  have hw : (4 : Int) * ((x.length - 0 : Nat) : Int) ≤ 4194304 := by omega
  refine Exists.elim (mark_loop True laws_markWaitS.l0 laws_heldWaitS.l0 x sm165 64 4 4611686018427387900 hx (fun k l m i e hK hi hl hle hp hm0 hm1 => ?_) (fun k l m => ?_) ?_ x.length k x m 0 rfl (Nat.zero_le _) rfl (fun j e _ he => h.2 e (List.mem_of_getElem? he)) h0 (by omega) (by omega)) (fun m2 HM => ?_)
  · have c1 : (i : Int) < (x.length : Int) := by omega
    have c0 : 0 ≤ (i : Int) := by omega
    have ew : wrap64 ((i : Int) + 1) = ((i + 1 : Nat) : Int) := by rw [w64 (by omega) (by omega)]; rfl
    have re : rd_T165 l (i : Int) = e := by rw [rd165 l i (by omega)]; exact Option.some.inj ((List.getElem?_eq_getElem (by omega)).symm.trans hle)
    have rs : ∀ y, rd_T165 (l.set i y) (i : Int) = y := fun y => by rw [rd165 _ i (by rw [List.length_set]; omega), List.getElem_set_self]
    refine ⟨(⟨m, m + 1, (txt (m + 1 + 1)), m + 1 + 1 + 1⟩ : S165), m + 1 + 1 + 1 + 1, ?_, by omega, by omega, fun _ k' l2 hK' hl2 he2 => ?_⟩
    · rw [laws_markWaitS.l0]
      simp only [lets, c1, c0, ew, re, rs, Int.toNat_natCast, List.set_set, if_true, Option.bind_some, u165_0_3, u165_1_3, u165_2_9, u165_3_3, show wrap64 (m + 1) = m + 1 from w64 (by omega) (by omega), show wrap64 (m + 1 + 1) = m + 1 + 1 from w64 (by omega) (by omega), text (m + 1 + 1) (by omega) (by omega) k (by omega), show wrap64 (m + 1 + 1 + 1) = m + 1 + 1 + 1 from w64 (by omega) (by omega), show wrap64 (m + 1 + 1 + 1 + 1) = m + 1 + 1 + 1 + 1 from w64 (by omega) (by omega)]
    · have c2 : (i : Int) < (l2.length : Int) := by omega
      have re2 : rd_T165 l2 (i : Int) = (⟨m, m + 1, (txt (m + 1 + 1)), m + 1 + 1 + 1⟩ : S165) := by rw [rd165 l2 i (by omega)]; exact Option.some.inj ((List.getElem?_eq_getElem (by omega)).symm.trans he2)
      rw [laws_heldWaitS.l0]
      simp only [c2, c0, ew, re2, if_true, if_false, Option.bind_some, show wrap64 (m + 1) = m + 1 from w64 (by omega) (by omega), show wrap64 (m + 1 + 1) = m + 1 + 1 from w64 (by omega) (by omega), text (m + 1 + 1) (by omega) (by omega) k' (by omega), show wrap64 (m + 1 + 1 + 1) = m + 1 + 1 + 1 from w64 (by omega) (by omega), show wrap64 (m + 1 + 1 + 1 + 1) = m + 1 + 1 + 1 + 1 from w64 (by omega) (by omega)]
  · rw [laws_markWaitS.l0, if_neg (by omega)]
  · intro _ k l2 m hl2
    rw [laws_heldWaitS.l0, if_neg (by omega)]
  · obtain ⟨r, g1, g2, g3, g4, _, g6⟩ := HM
    refine ⟨m2, r, by unfold laws_markWaitS.f; exact g1, g2, by omega, fun k' hk' => by unfold laws_heldWaitS.f; exact g6 trivial k' (by omega)⟩
theorem mk_56 (x : (List ByteArray)) (h : (x.length ≤ 1048576 ∧ ∀ e ∈ x, e.size ≤ 1048576)) (m : Int) (h0 : 0 < m) (h1 : m + 1048577 ≤ 4611686018427387904) (k : Nat) (hk : 1048641 ≤ k) : ∃ m2 r, laws_markStringS.f k x m = some (m2, r) ∧ m ≤ m2 ∧ m2 ≤ m + 1048577 ∧ (∀ k, 1048641 ≤ k → laws_heldStringS.f k r m = some m2) := by
  have hx := h.1
  have hw : (1 : Int) * ((x.length - 0 : Nat) : Int) ≤ 1048576 := by omega
  refine Exists.elim (mark_loop True laws_markStringS.l0 laws_heldStringS.l0 x (fun e => e.size ≤ 1048576) 64 1 4611686018427387903 hx (fun k l m i e hK hi hl hle hp hm0 hm1 => ?_) (fun k l m => ?_) ?_ x.length k x m 0 rfl (Nat.zero_le _) rfl (fun j e _ he => h.2 e (List.mem_of_getElem? he)) h0 (by omega) (by omega)) (fun m2 HM => ?_)
  · have c1 : (i : Int) < (x.length : Int) := by omega
    have c0 : 0 ≤ (i : Int) := by omega
    have ew : wrap64 ((i : Int) + 1) = ((i + 1 : Nat) : Int) := by rw [w64 (by omega) (by omega)]; rfl
    have re : (rdOf ByteArray.empty) l (i : Int) = e := by rw [rdS l i (by omega)]; exact Option.some.inj ((List.getElem?_eq_getElem (by omega)).symm.trans hle)
    have rs : ∀ y, (rdOf ByteArray.empty) (l.set i y) (i : Int) = y := fun y => by rw [rdS _ i (by rw [List.length_set]; omega), List.getElem_set_self]
    refine ⟨(txt (m)), m + 1, ?_, by omega, by omega, fun _ k' l2 hK' hl2 he2 => ?_⟩
    · rw [laws_markStringS.l0]
      simp only [lets, c1, c0, ew, re, rs, Int.toNat_natCast, List.set_set, if_true, Option.bind_some, text (m) (by omega) (by omega) k (by omega), show wrap64 (m + 1) = m + 1 from w64 (by omega) (by omega)]
    · have c2 : (i : Int) < (l2.length : Int) := by omega
      have re2 : (rdOf ByteArray.empty) l2 (i : Int) = (txt (m)) := by rw [rdS l2 i (by omega)]; exact Option.some.inj ((List.getElem?_eq_getElem (by omega)).symm.trans he2)
      rw [laws_heldStringS.l0]
      simp only [c2, c0, ew, re2, if_true, if_false, Option.bind_some, text (m) (by omega) (by omega) k' (by omega), show wrap64 (m + 1) = m + 1 from w64 (by omega) (by omega)]
  · rw [laws_markStringS.l0, if_neg (by omega)]
  · intro _ k l2 m hl2
    rw [laws_heldStringS.l0, if_neg (by omega)]
  · obtain ⟨r, g1, g2, g3, g4, _, g6⟩ := HM
    refine ⟨m2, r, by unfold laws_markStringS.f; exact g1, g2, by omega, fun k' hk' => by unfold laws_heldStringS.f; exact g6 trivial k' (by omega)⟩
theorem mk_83 (x : (List S171)) (h : (x.length ≤ 1048576 ∧ ∀ e ∈ x, sm171 e)) (m : Int) (h0 : 0 < m) (h1 : m + 2199029547012 ≤ 4611686018427387904) (k : Nat) (hk : 2097218 ≤ k) : ∃ m2 r, laws_markAnswerS.f k x m = some (m2, r) ∧ m ≤ m2 ∧ m2 ≤ m + 2199029547012 ∧ (∀ k, 2097218 ≤ k → laws_heldAnswerS.f k r m = some m2) := by
  have hx := h.1
  have hw : (2097156 : Int) * ((x.length - 0 : Nat) : Int) ≤ 2199027449856 := by omega
  refine Exists.elim (mark_loop True laws_markAnswerS.l0 laws_heldAnswerS.l0 x sm171 1048641 2097156 4611686018425290748 hx (fun k l m i e hK hi hl hle hp hm0 hm1 => ?_) (fun k l m => ?_) ?_ x.length k x m 0 rfl (Nat.zero_le _) rfl (fun j e _ he => h.2 e (List.mem_of_getElem? he)) h0 (by omega) (by omega)) (fun m2 HM => ?_)
  · have c1 : (i : Int) < (x.length : Int) := by omega
    have c0 : 0 ≤ (i : Int) := by omega
    have ew : wrap64 ((i : Int) + 1) = ((i + 1 : Nat) : Int) := by rw [w64 (by omega) (by omega)]; rfl
    have re : rd_T171 l (i : Int) = e := by rw [rd171 l i (by omega)]; exact Option.some.inj ((List.getElem?_eq_getElem (by omega)).symm.trans hle)
    obtain ⟨m0, r0, e0, a0, b0, d0⟩ := mk_56 e.f2 hp.2.2.1 (m + 1 + 1) (by omega) (by omega) k (by omega)
    obtain ⟨m1, r1, e1, a1, b1, d1⟩ := mk_56 e.f3 hp.2.2.2.1 (m0) (by omega) (by omega) k (by omega)
    have rs : ∀ y, rd_T171 (l.set i y) (i : Int) = y := fun y => by rw [rd171 _ i (by rw [List.length_set]; omega), List.getElem_set_self]
    refine ⟨(⟨m, m + 1, r0, r1⟩ : S171), m1, ?_, by omega, by omega, fun _ k' l2 hK' hl2 he2 => ?_⟩
    · rw [laws_markAnswerS.l0]
      simp only [lets, c1, c0, ew, re, rs, Int.toNat_natCast, List.set_set, if_true, Option.bind_some, u171_0_3, u171_1_3, u171_2_65, u171_3_65, show wrap64 (m + 1) = m + 1 from w64 (by omega) (by omega), show wrap64 (m + 1 + 1) = m + 1 + 1 from w64 (by omega) (by omega), e0, e1]
    · have c2 : (i : Int) < (l2.length : Int) := by omega
      have re2 : rd_T171 l2 (i : Int) = (⟨m, m + 1, r0, r1⟩ : S171) := by rw [rd171 l2 i (by omega)]; exact Option.some.inj ((List.getElem?_eq_getElem (by omega)).symm.trans he2)
      rw [laws_heldAnswerS.l0]
      simp only [c2, c0, ew, re2, if_true, if_false, Option.bind_some, show wrap64 (m + 1) = m + 1 from w64 (by omega) (by omega), show wrap64 (m + 1 + 1) = m + 1 + 1 from w64 (by omega) (by omega), d0 k' (by omega), show ¬ m0 < 0 by omega, d1 k' (by omega), show ¬ m1 < 0 by omega]
  · rw [laws_markAnswerS.l0, if_neg (by omega)]
  · intro _ k l2 m hl2
    rw [laws_heldAnswerS.l0, if_neg (by omega)]
  · obtain ⟨r, g1, g2, g3, g4, _, g6⟩ := HM
    refine ⟨m2, r, by unfold laws_markAnswerS.f; exact g1, g2, by omega, fun k' hk' => by unfold laws_heldAnswerS.f; exact g6 trivial k' (by omega)⟩
theorem mk_60 (x : (List S117)) (h : (x.length ≤ 1048576 ∧ ∀ e ∈ x, sm117 e)) (m : Int) (h0 : 0 < m) (h1 : m + 2305851805325590540 ≤ 4611686018427387904) (k : Nat) (hk : 3145795 ≤ k) : ∃ m2 r, laws_markGotS.f k x m = some (m2, r) ∧ m ≤ m2 ∧ m2 ≤ m + 2305851805325590540 ∧ (∀ k, 3145795 ≤ k → laws_heldGotS.f k r m = some m2) := by
  have hx := h.1
  have hw : (2199029547020 : Int) * ((x.length - 0 : Nat) : Int) ≤ 2305849606296043520 := by omega
  refine Exists.elim (mark_loop True laws_markGotS.l0 laws_heldGotS.l0 x sm117 2097218 2199029547020 4611683819397840884 hx (fun k l m i e hK hi hl hle hp hm0 hm1 => ?_) (fun k l m => ?_) ?_ x.length k x m 0 rfl (Nat.zero_le _) rfl (fun j e _ he => h.2 e (List.mem_of_getElem? he)) h0 (by omega) (by omega)) (fun m2 HM => ?_)
  · have c1 : (i : Int) < (x.length : Int) := by omega
    have c0 : 0 ≤ (i : Int) := by omega
    have ew : wrap64 ((i : Int) + 1) = ((i + 1 : Nat) : Int) := by rw [w64 (by omega) (by omega)]; rfl
    have re : rd_T117 l (i : Int) = e := by rw [rd117 l i (by omega)]; exact Option.some.inj ((List.getElem?_eq_getElem (by omega)).symm.trans hle)
    obtain ⟨m0, r0, e0, a0, b0, d0⟩ := mk_83 e.f1.f6 hp.2.1.2.2.2.2.2.2.1 (m + 1 + 1 + 1 + 1 + 1 + 1 + 1) (by omega) (by omega) k (by omega)
    have rs : ∀ y, rd_T117 (l.set i y) (i : Int) = y := fun y => by rw [rd117 _ i (by rw [List.length_set]; omega), List.getElem_set_self]
    refine ⟨(⟨m, (⟨(txt (m + 1)), m + 1 + 1, m + 1 + 1 + 1, m + 1 + 1 + 1 + 1, m + 1 + 1 + 1 + 1 + 1, m + 1 + 1 + 1 + 1 + 1 + 1, r0, (txt (m0))⟩ : S49)⟩ : S117), m0 + 1, ?_, by omega, by omega, fun _ k' l2 hK' hl2 he2 => ?_⟩
    · rw [laws_markGotS.l0]
      simp only [lets, c1, c0, ew, re, rs, Int.toNat_natCast, List.set_set, if_true, Option.bind_some, u117_0_3, u117_1_9, u117_2_3, u117_3_3, u117_4_3, u117_5_3, u117_6_3, u117_7_47, u117_8_9, show wrap64 (m + 1) = m + 1 from w64 (by omega) (by omega), text (m + 1) (by omega) (by omega) k (by omega), show wrap64 (m + 1 + 1) = m + 1 + 1 from w64 (by omega) (by omega), show wrap64 (m + 1 + 1 + 1) = m + 1 + 1 + 1 from w64 (by omega) (by omega), show wrap64 (m + 1 + 1 + 1 + 1) = m + 1 + 1 + 1 + 1 from w64 (by omega) (by omega), show wrap64 (m + 1 + 1 + 1 + 1 + 1) = m + 1 + 1 + 1 + 1 + 1 from w64 (by omega) (by omega), show wrap64 (m + 1 + 1 + 1 + 1 + 1 + 1) = m + 1 + 1 + 1 + 1 + 1 + 1 from w64 (by omega) (by omega), show wrap64 (m + 1 + 1 + 1 + 1 + 1 + 1 + 1) = m + 1 + 1 + 1 + 1 + 1 + 1 + 1 from w64 (by omega) (by omega), e0, text (m0) (by omega) (by omega) k (by omega), show wrap64 (m0 + 1) = m0 + 1 from w64 (by omega) (by omega)]
    · have c2 : (i : Int) < (l2.length : Int) := by omega
      have re2 : rd_T117 l2 (i : Int) = (⟨m, (⟨(txt (m + 1)), m + 1 + 1, m + 1 + 1 + 1, m + 1 + 1 + 1 + 1, m + 1 + 1 + 1 + 1 + 1, m + 1 + 1 + 1 + 1 + 1 + 1, r0, (txt (m0))⟩ : S49)⟩ : S117) := by rw [rd117 l2 i (by omega)]; exact Option.some.inj ((List.getElem?_eq_getElem (by omega)).symm.trans he2)
      rw [laws_heldGotS.l0]
      simp only [c2, c0, ew, re2, if_true, if_false, Option.bind_some, show wrap64 (m + 1) = m + 1 from w64 (by omega) (by omega), text (m + 1) (by omega) (by omega) k' (by omega), show wrap64 (m + 1 + 1) = m + 1 + 1 from w64 (by omega) (by omega), show wrap64 (m + 1 + 1 + 1) = m + 1 + 1 + 1 from w64 (by omega) (by omega), show wrap64 (m + 1 + 1 + 1 + 1) = m + 1 + 1 + 1 + 1 from w64 (by omega) (by omega), show wrap64 (m + 1 + 1 + 1 + 1 + 1) = m + 1 + 1 + 1 + 1 + 1 from w64 (by omega) (by omega), show wrap64 (m + 1 + 1 + 1 + 1 + 1 + 1) = m + 1 + 1 + 1 + 1 + 1 + 1 from w64 (by omega) (by omega), show wrap64 (m + 1 + 1 + 1 + 1 + 1 + 1 + 1) = m + 1 + 1 + 1 + 1 + 1 + 1 + 1 from w64 (by omega) (by omega), d0 k' (by omega), show ¬ m0 < 0 by omega, text (m0) (by omega) (by omega) k' (by omega), show wrap64 (m0 + 1) = m0 + 1 from w64 (by omega) (by omega)]
  · rw [laws_markGotS.l0, if_neg (by omega)]
  · intro _ k l2 m hl2
    rw [laws_heldGotS.l0, if_neg (by omega)]
  · obtain ⟨r, g1, g2, g3, g4, _, g6⟩ := HM
    refine ⟨m2, r, by unfold laws_markGotS.f; exact g1, g2, by omega, fun k' hk' => by unfold laws_heldGotS.f; exact g6 trivial k' (by omega)⟩
theorem mk_22 (x : S37) (h : sm37 x) (m : Int) (h0 : 0 < m) (h1 : m + 2305851805330833425 ≤ 4611686018427387904) (k : Nat) (hk : 3145795 ≤ k) : ∃ m2 r0 r1 r2, laws_markClient.f k x m = some (m2, r0, r1, r2) ∧ m ≤ m2 ∧ m2 ≤ m + 2305851805330833425 ∧ (∀ k, 3145795 ≤ k → laws_heldClient.f k (⟨x.f0, x.f1, r0, r1, r2⟩ : S37) m = some m2) := by
  obtain ⟨m0, r0_0, e0, a0, b0, c0⟩ := mk_59 x.f2 h.2.2.1 m (by omega) (by omega) k (by omega)
  obtain ⟨m1, r1_0, e1, a1, b1, c1⟩ := mk_60 x.f3 h.2.2.2.1 m0 (by omega) (by omega) k (by omega)
  obtain ⟨m2, r2_0, e2, a2, b2, c2⟩ := mk_17 x.f4 h.2.2.2.2.1 m1 (by omega) (by omega) k (by omega)
  refine ⟨m2, r0_0, r1_0, r2_0, ?_, by omega, by omega, fun k hk => ?_⟩
  · unfold laws_markClient.f
    simp only [e0, e1, e2, Option.bind_some]
  · unfold laws_heldClient.f
    simp only [c0 k (by omega), c1 k (by omega), c2 k (by omega), show ¬ m0 < 0 by omega, show ¬ m1 < 0 by omega, show ¬ m2 < 0 by omega, if_false, Option.bind_some]
end Go.Proofs.Ytdcjcanobiohnaa.FamFnExactClientNew

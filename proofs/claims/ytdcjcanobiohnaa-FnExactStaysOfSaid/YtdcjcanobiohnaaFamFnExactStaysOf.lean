/- What the law's own helpers do: they measure, copy, compare, mark. Plain lemmas, no condition. -/
import Derived.Test.YtdcjcanobiohnaaSaidFnExactStaysOf
import Derived.Test.YtdcjcanobiohnaaZMark
namespace Go.Proofs.Ytdcjcanobiohnaa.FamFnExactStaysOf
open Go.RowKit Go.Proofs.YtdcjcanobiohnaaW.PrintWords Go.Proofs.YtdcjcanobiohnaaW.PrintLast Go.Proofs.Ytdcjcanobiohnaa.ZOpen Go.Proofs.Ytdcjcanobiohnaa.Z Go.Proofs.Ytdcjcanobiohnaa.F
open Go.Proofs.Ytdcjcanobiohnaa.SaidFnExactStaysOf Go.Proofs.Ytdcjcanobiohnaa.ZP
set_option linter.unusedVariables false
set_option linter.unusedSimpArgs false
set_option maxRecDepth 100000

theorem rdI (x : List Int) (i : Nat) (h : i < x.length) : rd x (i : Int) = x[i] := by simp [rd, h]
theorem szw_77 (l : (List Int)) (hl : okList (okInt .i64) l) (b : Int) (h0 : 0 ≤ b) (h1 : b ≤ 1048576) (k : Nat) (hk : 0 ≤ k) : ∃ n, laws_szIntS.f l b = some n ∧ n ≤ b ∧ (0 ≤ n → (l.length ≤ 1048576 ∧ ∀ e ∈ l, True) ∧ n + (((l.length : Nat) : Int) : Int) = b) := by
  have hll : l.length ≤ maxLen := hl.1
  have hm : maxLen = 9223372036854775807 := rfl
  have e : wrap64 (b - (l.length : Int)) = b - (l.length : Int) := by unfold wrap64; omega
  unfold laws_szIntS.f
  rw [e]
  by_cases c : b - (l.length : Int) < 0
  · rw [if_pos c]; exact ⟨-1, rfl, by omega, fun h => by omega⟩
  rw [if_neg c]
  exact ⟨_, rfl, by omega, fun h => ⟨⟨by omega, fun e he => trivial⟩, by omega⟩⟩
theorem sz_77 (l : (List Int)) (hl : okList (okInt .i64) l) (b : Int) (h0 : 0 ≤ b) (h1 : b ≤ 1048576) (k : Nat) (hk : 0 ≤ k) : ∃ n, laws_szIntS.f l b = some n ∧ n ≤ b ∧ (0 ≤ n → (l.length ≤ 1048576 ∧ ∀ e ∈ l, True)) := by
  obtain ⟨n, g1, g2, g3⟩ := szw_77 l hl b h0 h1 k hk
  exact ⟨n, g1, g2, fun h => (g3 h).1⟩
theorem rdS (x : List ByteArray) (i : Nat) (h : i < x.length) : rdOf ByteArray.empty x (i : Int) = x[i] := by simp [rdOf, h]
theorem szw_110 (l : (List ByteArray)) (hl : okList okStr l) (b : Int) (h0 : 0 ≤ b) (h1 : b ≤ 1048576) (k : Nat) (hk : 1048577 ≤ k) : ∃ n, laws_szStringS.f k l b = some n ∧ n ≤ b ∧ (0 ≤ n → (l.length ≤ 1048576 ∧ ∀ e ∈ l, e.size ≤ 1048576) ∧ n + ((((l.length + (l.map ByteArray.size).sum) : Nat) : Int) : Int) = b) := by
  have hll : l.length ≤ maxLen := hl.1
  have hm : maxLen = 9223372036854775807 := rfl
  have e : wrap64 (b - (l.length : Int)) = b - (l.length : Int) := by unfold wrap64; omega
  unfold laws_szStringS.f
  rw [e]
  by_cases c : b - (l.length : Int) < 0
  · rw [if_pos c]; exact ⟨-1, rfl, by omega, fun h => by omega⟩
  rw [if_neg c]
  obtain ⟨n, n1, n2, n3⟩ := sz_loop_w laws_szStringS.l0 (rdOf ByteArray.empty) (fun _ e b => some (wrap64 (b - (e.size : Int)))) (fun e => e.size ≤ 1048576) ByteArray.size l 0 (by omega) (rdS l) (fun k b i => by rw [laws_szStringS.l0]; rfl) (fun k e b _ he g0 g1 => by
      have h2 : e.size ≤ maxLen := hl.2 e he
      exact ⟨_, rfl, by unfold wrap64; omega, fun h => ⟨by unfold wrap64 at h; omega, by unfold wrap64; omega⟩⟩) k (b - (l.length : Int)) 0 (by omega) (by omega) (by omega) (by omega)
  refine ⟨n, n1, by omega, fun h => ⟨⟨by omega, fun a ha => ?_⟩, ?_⟩⟩
  · obtain ⟨j, hj, rfl⟩ := List.getElem_of_mem ha
    exact (n3 h).1 j hj (by omega)
  · have w := (n3 h).2
    rw [List.drop_zero] at w
    omega
theorem sz_110 (l : (List ByteArray)) (hl : okList okStr l) (b : Int) (h0 : 0 ≤ b) (h1 : b ≤ 1048576) (k : Nat) (hk : 1048577 ≤ k) : ∃ n, laws_szStringS.f k l b = some n ∧ n ≤ b ∧ (0 ≤ n → (l.length ≤ 1048576 ∧ ∀ e ∈ l, e.size ≤ 1048576)) := by
  obtain ⟨n, g1, g2, g3⟩ := szw_110 l hl b h0 h1 k hk
  exact ⟨n, g1, g2, fun h => (g3 h).1⟩
def sm92 (x : S92) : Prop := True ∧ x.f1.size ≤ 1048576 ∧ x.f2.size ≤ 1048576 ∧ True ∧ True ∧ x.f5.size ≤ 1048576 ∧ True ∧ True ∧ True ∧ (x.f9.length ≤ 1048576 ∧ ∀ e ∈ x.f9, True) ∧ (x.f10.length ≤ 1048576 ∧ ∀ e ∈ x.f10, e.size ≤ 1048576) ∧ (x.f11.length ≤ 1048576 ∧ ∀ e ∈ x.f11, e.size ≤ 1048576) ∧ x.f12.size ≤ 1048576 ∧ True
def wt92 (x : S92) : Nat := x.f1.size + x.f2.size + x.f5.size + x.f9.length + (x.f10.length + (x.f10.map ByteArray.size).sum) + (x.f11.length + (x.f11.map ByteArray.size).sum) + x.f12.size
theorem szw_50 (x : S92) (hx : ok92 x) (b : Int) (h0 : 0 ≤ b) (h1 : b ≤ 1048576) (k : Nat) (hk : 1048577 ≤ k) : ∃ n, laws_szCert.f k x b = some n ∧ n ≤ b ∧ (0 ≤ n → sm92 x ∧ n + (wt92 x : Int) = b) := by
  have hm : maxLen = 9223372036854775807 := rfl
  unfold laws_szCert.f
  have s1 : x.f1.size ≤ maxLen := hx.2.1
  have e1 : wrap64 (b - (x.f1.size : Int)) = b - (x.f1.size : Int) := by unfold wrap64; omega
  rw [e1]
  by_cases c1 : b - (x.f1.size : Int) < 0
  · rw [if_pos c1]; exact ⟨-1, rfl, by omega, fun h => by omega⟩
  rw [if_neg c1]
  have s2 : x.f2.size ≤ maxLen := hx.2.2.1
  have e2 : wrap64 ((b - (x.f1.size : Int)) - (x.f2.size : Int)) = (b - (x.f1.size : Int)) - (x.f2.size : Int) := by unfold wrap64; omega
  rw [e2]
  by_cases c2 : (b - (x.f1.size : Int)) - (x.f2.size : Int) < 0
  · rw [if_pos c2]; exact ⟨-1, rfl, by omega, fun h => by omega⟩
  rw [if_neg c2]
  have s5 : x.f5.size ≤ maxLen := hx.2.2.2.2.2.1
  have e5 : wrap64 (((b - (x.f1.size : Int)) - (x.f2.size : Int)) - (x.f5.size : Int)) = ((b - (x.f1.size : Int)) - (x.f2.size : Int)) - (x.f5.size : Int) := by unfold wrap64; omega
  rw [e5]
  by_cases c5 : ((b - (x.f1.size : Int)) - (x.f2.size : Int)) - (x.f5.size : Int) < 0
  · rw [if_pos c5]; exact ⟨-1, rfl, by omega, fun h => by omega⟩
  rw [if_neg c5]
  obtain ⟨n9, e9, b9, p9⟩ := szw_77 x.f9 (hx.2.2.2.2.2.2.2.2.2.1) (((b - (x.f1.size : Int)) - (x.f2.size : Int)) - (x.f5.size : Int)) (by omega) (by omega) k (by omega)
  rw [e9, Option.bind_some]
  by_cases c9 : n9 < 0
  · rw [if_pos c9]; exact ⟨-1, rfl, by omega, fun h => by omega⟩
  rw [if_neg c9]
  obtain ⟨n10, e10, b10, p10⟩ := szw_110 x.f10 (hx.2.2.2.2.2.2.2.2.2.2.1) n9 (by omega) (by omega) k (by omega)
  rw [e10, Option.bind_some]
  by_cases c10 : n10 < 0
  · rw [if_pos c10]; exact ⟨-1, rfl, by omega, fun h => by omega⟩
  rw [if_neg c10]
  obtain ⟨n11, e11, b11, p11⟩ := szw_110 x.f11 (hx.2.2.2.2.2.2.2.2.2.2.2.1) n10 (by omega) (by omega) k (by omega)
  rw [e11, Option.bind_some]
  by_cases c11 : n11 < 0
  · rw [if_pos c11]; exact ⟨-1, rfl, by omega, fun h => by omega⟩
  rw [if_neg c11]
  have s12 : x.f12.size ≤ maxLen := hx.2.2.2.2.2.2.2.2.2.2.2.2
  have e12 : wrap64 (n11 - (x.f12.size : Int)) = n11 - (x.f12.size : Int) := by unfold wrap64; omega
  rw [e12]
  by_cases c12 : n11 - (x.f12.size : Int) < 0
  · rw [if_pos c12]; exact ⟨-1, rfl, by omega, fun h => by omega⟩
  rw [if_neg c12]
  exact ⟨(n11 - (x.f12.size : Int)), rfl, by omega, fun h => ⟨⟨trivial, (by omega), (by omega), trivial, trivial, (by omega), trivial, trivial, trivial, (p9 (by omega)).1, (p10 (by omega)).1, (p11 (by omega)).1, (by omega), trivial⟩, by have w9 := (p9 (by omega)).2; have w10 := (p10 (by omega)).2; have w11 := (p11 (by omega)).2; unfold wt92; omega⟩⟩
theorem sz_50 (x : S92) (hx : ok92 x) (b : Int) (h0 : 0 ≤ b) (h1 : b ≤ 1048576) (k : Nat) (hk : 1048577 ≤ k) : ∃ n, laws_szCert.f k x b = some n ∧ n ≤ b ∧ (0 ≤ n → sm92 x) := by
  obtain ⟨n, g1, g2, g3⟩ := szw_50 x hx b h0 h1 k hk
  exact ⟨n, g1, g2, fun h => (g3 h).1⟩
theorem rd92 (x : List S92) (i : Nat) (h : i < x.length) : rd_T92 x (i : Int) = x[i] := by simp [rd_T92, h]
theorem szw_10 (l : (List S92)) (hl : okList ok92 l) (b : Int) (h0 : 0 ≤ b) (h1 : b ≤ 1048576) (k : Nat) (hk : 2097154 ≤ k) : ∃ n, laws_szCertS.f k l b = some n ∧ n ≤ b ∧ (0 ≤ n → (l.length ≤ 1048576 ∧ ∀ e ∈ l, sm92 e) ∧ n + ((((l.length + (l.map wt92).sum) : Nat) : Int) : Int) = b) := by
  have hll : l.length ≤ maxLen := hl.1
  have hm : maxLen = 9223372036854775807 := rfl
  have e : wrap64 (b - (l.length : Int)) = b - (l.length : Int) := by unfold wrap64; omega
  unfold laws_szCertS.f
  rw [e]
  by_cases c : b - (l.length : Int) < 0
  · rw [if_pos c]; exact ⟨-1, rfl, by omega, fun h => by omega⟩
  rw [if_neg c]
  obtain ⟨n, n1, n2, n3⟩ := sz_loop_w laws_szCertS.l0 rd_T92 (fun k e b => laws_szCert.f k e b) sm92 wt92 l 1048577 (by omega) (rd92 l) (fun k b i => by rw [laws_szCertS.l0]) (fun k e b hk he g0 g1 => szw_50 e (hl.2 e he) b g0 g1 k (by omega)) k (b - (l.length : Int)) 0 (by omega) (by omega) (by omega) (by omega)
  refine ⟨n, n1, by omega, fun h => ⟨⟨by omega, fun a ha => ?_⟩, ?_⟩⟩
  · obtain ⟨j, hj, rfl⟩ := List.getElem_of_mem ha
    exact (n3 h).1 j hj (by omega)
  · have w := (n3 h).2
    rw [List.drop_zero] at w
    omega
theorem sz_10 (l : (List S92)) (hl : okList ok92 l) (b : Int) (h0 : 0 ≤ b) (h1 : b ≤ 1048576) (k : Nat) (hk : 2097154 ≤ k) : ∃ n, laws_szCertS.f k l b = some n ∧ n ≤ b ∧ (0 ≤ n → (l.length ≤ 1048576 ∧ ∀ e ∈ l, sm92 e)) := by
  obtain ⟨n, g1, g2, g3⟩ := szw_10 l hl b h0 h1 k hk
  exact ⟨n, g1, g2, fun h => (g3 h).1⟩
theorem to_81 (x : (List Int)) (h : (x.length ≤ 1048576 ∧ ∀ e ∈ x, True)) (k : Nat) (hk : 1048577 ≤ k) : laws_toIntS.f k x = some x := by
  have hx := h.1
  unfold laws_toIntS.f
  rw [if_pos (by omega), if_pos (by omega)]
  have := to_loop laws_toIntS.l0 rd (fun _ e => some e) id x 0 hx (rdI x) (fun k y i => by rw [laws_toIntS.l0]; rfl) (fun _ _ _ _ => rfl) k (List.replicate x.length (0 : Int)) 0 (by omega) (by simp) rfl (by omega)
  simpa using this
theorem to_112 (x : (List ByteArray)) (h : (x.length ≤ 1048576 ∧ ∀ e ∈ x, e.size ≤ 1048576)) (k : Nat) (hk : 1048577 ≤ k) : laws_toStringS.f k x = some x := by
  have hx := h.1
  unfold laws_toStringS.f
  rw [if_pos (by omega), if_pos (by omega)]
  have := to_loop laws_toStringS.l0 (rdOf ByteArray.empty) (fun _ e => some e) id x 0 hx (rdS x) (fun k y i => by rw [laws_toStringS.l0]; rfl) (fun _ _ _ _ => rfl) k (List.replicate x.length (⟨#[]⟩ : ByteArray)) 0 (by omega) (by simp) rfl (by omega)
  simpa using this
def cv92 (x : S92) : S94 := ⟨x.f0, x.f1, x.f2, x.f3, x.f4, x.f5, x.f6, x.f7, x.f8, x.f9, x.f10, x.f11, x.f12⟩
def sm94 (x : S94) : Prop := True ∧ x.f1.size ≤ 1048576 ∧ x.f2.size ≤ 1048576 ∧ True ∧ True ∧ x.f5.size ≤ 1048576 ∧ True ∧ True ∧ True ∧ (x.f9.length ≤ 1048576 ∧ ∀ e ∈ x.f9, True) ∧ (x.f10.length ≤ 1048576 ∧ ∀ e ∈ x.f10, e.size ≤ 1048576) ∧ (x.f11.length ≤ 1048576 ∧ ∀ e ∈ x.f11, e.size ≤ 1048576) ∧ x.f12.size ≤ 1048576 ∧ True
theorem to_52 (x : S92) (h : sm92 x) (k : Nat) (hk : 1048577 ≤ k) : laws_toCert.f k x = some (cv92 x) := by
  unfold laws_toCert.f
  simp only [to_81 x.f9 h.2.2.2.2.2.2.2.2.2.1 k (by omega), to_112 x.f10 h.2.2.2.2.2.2.2.2.2.2.1 k (by omega), to_112 x.f11 h.2.2.2.2.2.2.2.2.2.2.2.1 k (by omega), Option.bind_some]
  rfl
theorem smcv92 (x : S92) (h : sm92 x) : sm94 (cv92 x) := ⟨h.1, h.2.1, h.2.2.1, h.2.2.2.1, h.2.2.2.2.1, h.2.2.2.2.2.1, h.2.2.2.2.2.2.1, h.2.2.2.2.2.2.2.1, h.2.2.2.2.2.2.2.2.1, h.2.2.2.2.2.2.2.2.2.1, h.2.2.2.2.2.2.2.2.2.2.1, h.2.2.2.2.2.2.2.2.2.2.2.1, h.2.2.2.2.2.2.2.2.2.2.2.2.1, trivial⟩
theorem to_12 (x : (List S92)) (h : (x.length ≤ 1048576 ∧ ∀ e ∈ x, sm92 e)) (k : Nat) (hk : 2097154 ≤ k) : laws_toCertS.f k x = some (x.map cv92) := by
  have hx := h.1
  unfold laws_toCertS.f
  rw [if_pos (by omega), if_pos (by omega)]
  have := to_loop laws_toCertS.l0 rd_T92 (fun k e => laws_toCert.f k e) cv92 x 1048577 hx (rd92 x) (fun k y i => by rw [laws_toCertS.l0]) (fun k e hk he => to_52 e (h.2 e he) k (by omega)) k (List.replicate x.length z94) 0 (by omega) (by simp) rfl (by omega)
  simpa using this
theorem eq_14 (x : (List Int)) (h : (x.length ≤ 1048576 ∧ ∀ e ∈ x, True)) (k : Nat) (hk : 1048577 ≤ k) : laws_eqIntS.f k x x = some true := by
  have hx := h.1
  unfold laws_eqIntS.f
  rw [if_pos rfl]
  exact eq_loop laws_eqIntS.l0 rd (fun _ _ => some true) x 0 hx (rdI x) (fun k i => by rw [laws_eqIntS.l0]; simp) (fun _ _ _ _ => rfl) k 0 (by omega) (by omega)
theorem eq_96 (x : (List ByteArray)) (h : (x.length ≤ 1048576 ∧ ∀ e ∈ x, e.size ≤ 1048576)) (k : Nat) (hk : 1048577 ≤ k) : laws_eqStringS.f k x x = some true := by
  have hx := h.1
  unfold laws_eqStringS.f
  rw [if_pos rfl]
  exact eq_loop laws_eqStringS.l0 (rdOf ByteArray.empty) (fun _ _ => some true) x 0 hx (rdS x) (fun k i => by rw [laws_eqStringS.l0]; simp) (fun _ _ _ _ => rfl) k 0 (by omega) (by omega)
theorem eq_54 (x : S94) (h : sm94 x) (k : Nat) (hk : 1048577 ≤ k) : laws_eqCert.f k x x = some true := by
  unfold laws_eqCert.f
  simp [eq_14 x.f9 h.2.2.2.2.2.2.2.2.2.1 k (by omega), eq_96 x.f10 h.2.2.2.2.2.2.2.2.2.2.1 k (by omega), eq_96 x.f11 h.2.2.2.2.2.2.2.2.2.2.2.1 k (by omega)]
theorem rd94 (x : List S94) (i : Nat) (h : i < x.length) : rd_T94 x (i : Int) = x[i] := by simp [rd_T94, h]
theorem eq_15 (x : (List S94)) (h : (x.length ≤ 1048576 ∧ ∀ e ∈ x, sm94 e)) (k : Nat) (hk : 2097154 ≤ k) : laws_eqCertS.f k x x = some true := by
  have hx := h.1
  unfold laws_eqCertS.f
  rw [if_pos rfl]
  exact eq_loop laws_eqCertS.l0 rd_T94 (fun k e => laws_eqCert.f k e e) x 1048577 hx (rd94 x) (fun k i => by rw [laws_eqCertS.l0]) (fun k e hk he => eq_54 e (h.2 e he) k (by omega)) k 0 (by omega) (by omega)
theorem mk_17 (x : (List Int)) (h : (x.length ≤ 1048576 ∧ ∀ e ∈ x, True)) (m : Int) (h0 : 0 < m) (h1 : m + 1048577 ≤ 4611686018427387904) (k : Nat) (hk : 1048577 ≤ k) : ∃ m2 r, laws_markIntS.f k x m = some (m2, r) ∧ m ≤ m2 ∧ m2 ≤ m + 1048577 ∧ (∀ k, 1048577 ≤ k → laws_heldIntS.f k r m = some m2) := by
  have hx := h.1
  have hw : (1 : Int) * ((x.length - 0 : Nat) : Int) ≤ 1048576 := by omega
  refine Exists.elim (mark_loop True laws_markIntS.l0 laws_heldIntS.l0 x (fun e => True) 0 1 4611686018427387903 hx (fun k l m i e hK hi hl hle hp hm0 hm1 => ?_) (fun k l m => ?_) ?_ x.length k x m 0 rfl (Nat.zero_le _) rfl (fun j e _ he => h.2 e (List.mem_of_getElem? he)) h0 (by omega) (by omega)) (fun m2 HM => ?_)
  · have c1 : (i : Int) < (x.length : Int) := by omega
    have c0 : 0 ≤ (i : Int) := by omega
    have ew : wrap64 ((i : Int) + 1) = ((i + 1 : Nat) : Int) := by rw [w64 (by omega) (by omega)]; rfl
    have re : rd l (i : Int) = e := by rw [rdI l i (by omega)]; exact Option.some.inj ((List.getElem?_eq_getElem (by omega)).symm.trans hle)
    have rs : ∀ y, rd (l.set i y) (i : Int) = y := fun y => by rw [rdI _ i (by rw [List.length_set]; omega), List.getElem_set_self]
    refine ⟨m, m + 1, ?_, by omega, by omega, fun _ k' l2 hK' hl2 he2 => ?_⟩
    · rw [laws_markIntS.l0]
      simp only [lets, c1, c0, ew, re, rs, Int.toNat_natCast, List.set_set, if_true, Option.bind_some, show wrap64 (m + 1) = m + 1 from w64 (by omega) (by omega)]
    · have c2 : (i : Int) < (l2.length : Int) := by omega
      have re2 : rd l2 (i : Int) = m := by rw [rdI l2 i (by omega)]; exact Option.some.inj ((List.getElem?_eq_getElem (by omega)).symm.trans he2)
      rw [laws_heldIntS.l0]
      simp only [c2, c0, ew, re2, if_true, if_false, Option.bind_some, show wrap64 (m + 1) = m + 1 from w64 (by omega) (by omega)]
  · rw [laws_markIntS.l0, if_neg (by omega)]
  · intro _ k l2 m hl2
    rw [laws_heldIntS.l0, if_neg (by omega)]
  · obtain ⟨r, g1, g2, g3, g4, _, g6⟩ := HM
    refine ⟨m2, r, by unfold laws_markIntS.f; exact g1, g2, by omega, fun k' hk' => by unfold laws_heldIntS.f; exact g6 trivial k' (by omega)⟩
def txt (m : Int) : ByteArray := (laws_markText.f 64 m).getD ByteArray.empty
theorem text_loop : ∀ (n : Nat) (m : Int) (s : ByteArray), 0 ≤ m → m ≤ 4611686018427387904 → m < 10 ^ n → s.size + n ≤ 4611686018427387904 → ∃ t, ∀ k, n < k → laws_markText.l0 k m s = some t
  | 0, m, s, h0, hB, h1, hs => by
    obtain rfl : m = 0 := by omega
    have e1 : (⟨#[109]⟩ : ByteArray).size = 1 := rfl
    refine ⟨(⟨#[109]⟩ : ByteArray) ++ s, fun k hk => ?_⟩
    obtain ⟨k, rfl⟩ : ∃ q, k = q + 1 := ⟨k - 1, by omega⟩
    rw [laws_markText.l0, if_neg (by omega), if_pos (by omega)]
  | n + 1, m, s, h0, hB, h1, hs => by
    by_cases c : 0 < m
    · have e2 : (strOfNums ([((wrap64 (48 + (Int.tmod m 10))) % 256)] : List Int)).size = 1 := strOfNums_size _
      have e3 : Int.tdiv m 10 = m / 10 := Int.tdiv_eq_ediv_of_nonneg h0
      have e5 : m / 10 < 10 ^ n := by
        have : (10 : Int) ^ (n + 1) = 10 ^ n * 10 := Int.pow_succ 10 n
        omega
      have hw : wrap64 (Int.tdiv m 10) = m / 10 := by rw [e3]; unfold wrap64; omega
      · obtain ⟨t, ht⟩ := text_loop n (m / 10) ((strOfNums ([((wrap64 (48 + (Int.tmod m 10))) % 256)] : List Int)) ++ s) (by omega) (by omega) e5 (by rw [ByteArray.size_append, e2]; omega)
        refine ⟨t, fun k hk => ?_⟩
        obtain ⟨k, rfl⟩ : ∃ q, k = q + 1 := ⟨k - 1, by omega⟩
        rw [laws_markText.l0, if_pos c, if_pos (by omega), hw]
        exact ht k (by omega)
    · obtain rfl : m = 0 := by omega
      have e1 : (⟨#[109]⟩ : ByteArray).size = 1 := rfl
      refine ⟨(⟨#[109]⟩ : ByteArray) ++ s, fun k hk => ?_⟩
      obtain ⟨k, rfl⟩ : ∃ q, k = q + 1 := ⟨k - 1, by omega⟩
      rw [laws_markText.l0, if_neg (by omega), if_pos (by omega)]
theorem text (m : Int) (h0 : 0 < m) (h1 : m ≤ 4611686018427387904) (k : Nat) (hk : 64 ≤ k) : laws_markText.f k m = some (txt m) := by
  obtain ⟨t, ht⟩ := text_loop 19 m (⟨#[]⟩ : ByteArray) (by omega) h1 (by omega) (by show 0 + 19 ≤ _; omega)
  have e : ∀ k, 64 ≤ k → laws_markText.f k m = some t := fun k hk => by
    unfold laws_markText.f
    rw [if_neg (by omega)]
    exact ht k (by omega)
  rw [e k hk]
  unfold txt
  rw [e 64 (by omega)]
  rfl
theorem mk_56 (x : (List ByteArray)) (h : (x.length ≤ 1048576 ∧ ∀ e ∈ x, e.size ≤ 1048576)) (m : Int) (h0 : 0 < m) (h1 : m + 1048577 ≤ 4611686018427387904) (k : Nat) (hk : 1048641 ≤ k) : ∃ m2 r, laws_markStringS.f k x m = some (m2, r) ∧ m ≤ m2 ∧ m2 ≤ m + 1048577 ∧ True := by
  have hx := h.1
  have hw : (1 : Int) * ((x.length - 0 : Nat) : Int) ≤ 1048576 := by omega
  refine Exists.elim (mark_loop False laws_markStringS.l0 (fun _ _ _ _ => none) x (fun e => e.size ≤ 1048576) 64 1 4611686018427387903 hx (fun k l m i e hK hi hl hle hp hm0 hm1 => ?_) (fun k l m => ?_) ?_ x.length k x m 0 rfl (Nat.zero_le _) rfl (fun j e _ he => h.2 e (List.mem_of_getElem? he)) h0 (by omega) (by omega)) (fun m2 HM => ?_)
  · have c1 : (i : Int) < (x.length : Int) := by omega
    have c0 : 0 ≤ (i : Int) := by omega
    have ew : wrap64 ((i : Int) + 1) = ((i + 1 : Nat) : Int) := by rw [w64 (by omega) (by omega)]; rfl
    have re : (rdOf ByteArray.empty) l (i : Int) = e := by rw [rdS l i (by omega)]; exact Option.some.inj ((List.getElem?_eq_getElem (by omega)).symm.trans hle)
    have rs : ∀ y, (rdOf ByteArray.empty) (l.set i y) (i : Int) = y := fun y => by rw [rdS _ i (by rw [List.length_set]; omega), List.getElem_set_self]
    refine ⟨(txt (m)), m + 1, ?_, by omega, by omega, fun hc => hc.elim⟩
    · rw [laws_markStringS.l0]
      simp only [lets, c1, c0, ew, re, rs, Int.toNat_natCast, List.set_set, if_true, Option.bind_some, text (m) (by omega) (by omega) k (by omega), show wrap64 (m + 1) = m + 1 from w64 (by omega) (by omega)]
  · rw [laws_markStringS.l0, if_neg (by omega)]
  · exact fun hc => hc.elim
  · obtain ⟨r, g1, g2, g3, g4, _, g6⟩ := HM
    refine ⟨m2, r, by unfold laws_markStringS.f; exact g1, g2, by omega, trivial⟩
theorem mk_16 (x : (List S94)) (h : (x.length ≤ 1048576 ∧ ∀ e ∈ x, sm94 e)) (m : Int) (h0 : 0 < m) (h1 : m + 3298551660557 ≤ 4611686018427387904) (k : Nat) (hk : 2097218 ≤ k) : ∃ m2 r, laws_markCertS.f k x m = some (m2, r) ∧ m ≤ m2 ∧ m2 ≤ m + 3298551660557 ∧ True := by
  have hx := h.1
  have hw : (3145741 : Int) * ((x.length - 0 : Nat) : Int) ≤ 3298548514816 := by omega
  refine Exists.elim (mark_loop False laws_markCertS.l0 (fun _ _ _ _ => none) x sm94 1048641 3145741 4611686018424242163 hx (fun k l m i e hK hi hl hle hp hm0 hm1 => ?_) (fun k l m => ?_) ?_ x.length k x m 0 rfl (Nat.zero_le _) rfl (fun j e _ he => h.2 e (List.mem_of_getElem? he)) h0 (by omega) (by omega)) (fun m2 HM => ?_)
  · have c1 : (i : Int) < (x.length : Int) := by omega
    have c0 : 0 ≤ (i : Int) := by omega
    have ew : wrap64 ((i : Int) + 1) = ((i + 1 : Nat) : Int) := by rw [w64 (by omega) (by omega)]; rfl
    have re : rd_T94 l (i : Int) = e := by rw [rd94 l i (by omega)]; exact Option.some.inj ((List.getElem?_eq_getElem (by omega)).symm.trans hle)
    obtain ⟨m0, r0, e0, a0, b0, d0⟩ := mk_17 e.f9 hp.2.2.2.2.2.2.2.2.2.1 (m + 1 + 1 + 1 + 1 + 1 + 1 + 1 + 1 + 1) (by omega) (by omega) k (by omega)
    obtain ⟨m1, r1, e1, a1, b1, d1⟩ := mk_56 e.f10 hp.2.2.2.2.2.2.2.2.2.2.1 (m0) (by omega) (by omega) k (by omega)
    obtain ⟨m2, r2, e2, a2, b2, d2⟩ := mk_56 e.f11 hp.2.2.2.2.2.2.2.2.2.2.2.1 (m1) (by omega) (by omega) k (by omega)
    have rs : ∀ y, rd_T94 (l.set i y) (i : Int) = y := fun y => by rw [rd94 _ i (by rw [List.length_set]; omega), List.getElem_set_self]
    refine ⟨(⟨m, (txt (m + 1)), (txt (m + 1 + 1)), m + 1 + 1 + 1, m + 1 + 1 + 1 + 1, (txt (m + 1 + 1 + 1 + 1 + 1)), (Int.tmod (m + 1 + 1 + 1 + 1 + 1 + 1) 3 == 0), m + 1 + 1 + 1 + 1 + 1 + 1 + 1, m + 1 + 1 + 1 + 1 + 1 + 1 + 1 + 1, r0, r1, r2, (txt (m2))⟩ : S94), m2 + 1, ?_, by omega, by omega, fun hc => hc.elim⟩
    · rw [laws_markCertS.l0]
      simp only [lets, c1, c0, ew, re, rs, Int.toNat_natCast, List.set_set, if_true, Option.bind_some, u94_0_3, u94_10_65, u94_11_65, u94_12_9, u94_1_9, u94_2_9, u94_3_3, u94_4_3, u94_5_9, u94_6_4, u94_7_3, u94_8_3, u94_9_24, show wrap64 (m + 1) = m + 1 from w64 (by omega) (by omega), text (m + 1) (by omega) (by omega) k (by omega), show wrap64 (m + 1 + 1) = m + 1 + 1 from w64 (by omega) (by omega), text (m + 1 + 1) (by omega) (by omega) k (by omega), show wrap64 (m + 1 + 1 + 1) = m + 1 + 1 + 1 from w64 (by omega) (by omega), show wrap64 (m + 1 + 1 + 1 + 1) = m + 1 + 1 + 1 + 1 from w64 (by omega) (by omega), show wrap64 (m + 1 + 1 + 1 + 1 + 1) = m + 1 + 1 + 1 + 1 + 1 from w64 (by omega) (by omega), text (m + 1 + 1 + 1 + 1 + 1) (by omega) (by omega) k (by omega), show wrap64 (m + 1 + 1 + 1 + 1 + 1 + 1) = m + 1 + 1 + 1 + 1 + 1 + 1 from w64 (by omega) (by omega), show wrap64 (m + 1 + 1 + 1 + 1 + 1 + 1 + 1) = m + 1 + 1 + 1 + 1 + 1 + 1 + 1 from w64 (by omega) (by omega), show wrap64 (m + 1 + 1 + 1 + 1 + 1 + 1 + 1 + 1) = m + 1 + 1 + 1 + 1 + 1 + 1 + 1 + 1 from w64 (by omega) (by omega), show wrap64 (m + 1 + 1 + 1 + 1 + 1 + 1 + 1 + 1 + 1) = m + 1 + 1 + 1 + 1 + 1 + 1 + 1 + 1 + 1 from w64 (by omega) (by omega), e0, e1, e2, text (m2) (by omega) (by omega) k (by omega), show wrap64 (m2 + 1) = m2 + 1 from w64 (by omega) (by omega)]
  · rw [laws_markCertS.l0, if_neg (by omega)]
  · exact fun hc => hc.elim
  · obtain ⟨r, g1, g2, g3, g4, _, g6⟩ := HM
    refine ⟨m2, r, by unfold laws_markCertS.f; exact g1, g2, by omega, trivial⟩
end Go.Proofs.Ytdcjcanobiohnaa.FamFnExactStaysOf

/- What the law's own helpers do: they measure, copy, compare, mark. Plain lemmas, no condition. -/
import Derived.Test.YtfiifjlapaefaaaGreatSaidFnExactSaidBy
import Derived.Test.YtfiifjlapaefaaaGreatZMark
namespace Go.Proofs.YtfiifjlapaefaaaGreat.FamFnExactSaidBy
open Go.RowKit Go.Proofs.YtfiifjlapaefaaaGreatW.PrintWords Go.Proofs.YtfiifjlapaefaaaGreatW.PrintLast Go.Proofs.YtfiifjlapaefaaaGreat.ZOpen Go.Proofs.YtfiifjlapaefaaaGreat.Z Go.Proofs.YtfiifjlapaefaaaGreat.F
open Go.Proofs.YtfiifjlapaefaaaGreat.SaidFnExactSaidBy Go.Proofs.YtfiifjlapaefaaaGreat.ZP
set_option linter.unusedVariables false
set_option linter.unusedSimpArgs false
set_option maxRecDepth 100000

theorem rdI (x : List Int) (i : Nat) (h : i < x.length) : rd x (i : Int) = x[i] := by simp [rd, h]
theorem szw_13 (l : (List Int)) (hl : okList (okInt .i64) l) (b : Int) (h0 : 0 ≤ b) (h1 : b ≤ 1048576) (k : Nat) (hk : 0 ≤ k) : ∃ n, laws_szIntS.f l b = some n ∧ n ≤ b ∧ (0 ≤ n → (l.length ≤ 1048576 ∧ ∀ e ∈ l, True) ∧ n + (((l.length : Nat) : Int) : Int) = b) := by
  have hll : l.length ≤ maxLen := hl.1
  have hm : maxLen = 9223372036854775807 := rfl
  have e : wrap64 (b - (l.length : Int)) = b - (l.length : Int) := by unfold wrap64; omega
  unfold laws_szIntS.f
  rw [e]
  by_cases c : b - (l.length : Int) < 0
  · rw [if_pos c]; exact ⟨-1, rfl, by omega, fun h => by omega⟩
  rw [if_neg c]
  exact ⟨_, rfl, by omega, fun h => ⟨⟨by omega, fun e he => trivial⟩, by omega⟩⟩
theorem sz_13 (l : (List Int)) (hl : okList (okInt .i64) l) (b : Int) (h0 : 0 ≤ b) (h1 : b ≤ 1048576) (k : Nat) (hk : 0 ≤ k) : ∃ n, laws_szIntS.f l b = some n ∧ n ≤ b ∧ (0 ≤ n → (l.length ≤ 1048576 ∧ ∀ e ∈ l, True)) := by
  obtain ⟨n, g1, g2, g3⟩ := szw_13 l hl b h0 h1 k hk
  exact ⟨n, g1, g2, fun h => (g3 h).1⟩
theorem rdS (x : List ByteArray) (i : Nat) (h : i < x.length) : rdOf ByteArray.empty x (i : Int) = x[i] := by simp [rdOf, h]
theorem szw_15 (l : (List ByteArray)) (hl : okList okStr l) (b : Int) (h0 : 0 ≤ b) (h1 : b ≤ 1048576) (k : Nat) (hk : 1048577 ≤ k) : ∃ n, laws_szStringS.f k l b = some n ∧ n ≤ b ∧ (0 ≤ n → (l.length ≤ 1048576 ∧ ∀ e ∈ l, e.size ≤ 1048576) ∧ n + ((((l.length + (l.map ByteArray.size).sum) : Nat) : Int) : Int) = b) := by
  have hll : l.length ≤ maxLen := hl.1
  have hm : maxLen = 9223372036854775807 := rfl
  have e : wrap64 (b - (l.length : Int)) = b - (l.length : Int) := by unfold wrap64; omega
  unfold laws_szStringS.f
  rw [e]
  by_cases c : b - (l.length : Int) < 0
  · rw [if_pos c]; exact ⟨-1, rfl, by omega, fun h => by omega⟩
  rw [if_neg c]
  obtain ⟨n, n1, n2, n3⟩ := sz_loop_w laws_szStringS.l0 (rdOf ByteArray.empty) (fun _ e b => some (wrap64 (b - (e.size : Int)))) (fun e => e.size ≤ 1048576) ByteArray.size l 0 (by omega) (rdS l) (fun k b i => by rw [laws_szStringS.l0]; rfl) (fun k e b _ he g0 g1 => by
      have h2 : e.size ≤ maxLen := hl.2 e he
      exact ⟨_, rfl, by unfold wrap64; omega, fun h => ⟨by unfold wrap64 at h; omega, by unfold wrap64; omega⟩⟩) k (b - (l.length : Int)) 0 (by omega) (by omega) (by omega) (by omega)
  refine ⟨n, n1, by omega, fun h => ⟨⟨by omega, fun a ha => ?_⟩, ?_⟩⟩
  · obtain ⟨j, hj, rfl⟩ := List.getElem_of_mem ha
    exact (n3 h).1 j hj (by omega)
  · have w := (n3 h).2
    rw [List.drop_zero] at w
    omega
theorem sz_15 (l : (List ByteArray)) (hl : okList okStr l) (b : Int) (h0 : 0 ≤ b) (h1 : b ≤ 1048576) (k : Nat) (hk : 1048577 ≤ k) : ∃ n, laws_szStringS.f k l b = some n ∧ n ≤ b ∧ (0 ≤ n → (l.length ≤ 1048576 ∧ ∀ e ∈ l, e.size ≤ 1048576)) := by
  obtain ⟨n, g1, g2, g3⟩ := szw_15 l hl b h0 h1 k hk
  exact ⟨n, g1, g2, fun h => (g3 h).1⟩
def sm99 (x : S99) : Prop := True ∧ x.f1.size ≤ 1048576 ∧ x.f2.size ≤ 1048576 ∧ True ∧ True ∧ x.f5.size ≤ 1048576 ∧ True ∧ True ∧ True ∧ (x.f9.length ≤ 1048576 ∧ ∀ e ∈ x.f9, True) ∧ (x.f10.length ≤ 1048576 ∧ ∀ e ∈ x.f10, e.size ≤ 1048576) ∧ (x.f11.length ≤ 1048576 ∧ ∀ e ∈ x.f11, e.size ≤ 1048576) ∧ x.f12.size ≤ 1048576 ∧ True
def wt99 (x : S99) : Nat := x.f1.size + x.f2.size + x.f5.size + x.f9.length + (x.f10.length + (x.f10.map ByteArray.size).sum) + (x.f11.length + (x.f11.map ByteArray.size).sum) + x.f12.size
theorem szw_39 (x : S99) (hx : ok99 x) (b : Int) (h0 : 0 ≤ b) (h1 : b ≤ 1048576) (k : Nat) (hk : 1048577 ≤ k) : ∃ n, laws_szCert.f k x b = some n ∧ n ≤ b ∧ (0 ≤ n → sm99 x ∧ n + (wt99 x : Int) = b) := by
  have hm : maxLen = 9223372036854775807 := rfl
  unfold laws_szCert.f
  have s1 : x.f1.size ≤ maxLen := hx.2.1
  have e1 : wrap64 (b - (x.f1.size : Int)) = b - (x.f1.size : Int) := by unfold wrap64; omega
  rw [e1]
  by_cases c1 : b - (x.f1.size : Int) < 0
  · rw [if_pos c1]; exact ⟨-1, rfl, by omega, fun h => by omega⟩
  rw [if_neg c1]
  have s2 : x.f2.size ≤ maxLen := hx.2.2.1
  have e2 : wrap64 ((b - (x.f1.size : Int)) - (x.f2.size : Int)) = (b - (x.f1.size : Int)) - (x.f2.size : Int) := by unfold wrap64; omega
  rw [e2]
  by_cases c2 : (b - (x.f1.size : Int)) - (x.f2.size : Int) < 0
  · rw [if_pos c2]; exact ⟨-1, rfl, by omega, fun h => by omega⟩
  rw [if_neg c2]
  have s5 : x.f5.size ≤ maxLen := hx.2.2.2.2.2.1
  have e5 : wrap64 (((b - (x.f1.size : Int)) - (x.f2.size : Int)) - (x.f5.size : Int)) = ((b - (x.f1.size : Int)) - (x.f2.size : Int)) - (x.f5.size : Int) := by unfold wrap64; omega
  rw [e5]
  by_cases c5 : ((b - (x.f1.size : Int)) - (x.f2.size : Int)) - (x.f5.size : Int) < 0
  · rw [if_pos c5]; exact ⟨-1, rfl, by omega, fun h => by omega⟩
  rw [if_neg c5]
  obtain ⟨n9, e9, b9, p9⟩ := szw_13 x.f9 (hx.2.2.2.2.2.2.2.2.2.1) (((b - (x.f1.size : Int)) - (x.f2.size : Int)) - (x.f5.size : Int)) (by omega) (by omega) k (by omega)
  rw [e9, Option.bind_some]
  by_cases c9 : n9 < 0
  · rw [if_pos c9]; exact ⟨-1, rfl, by omega, fun h => by omega⟩
  rw [if_neg c9]
  obtain ⟨n10, e10, b10, p10⟩ := szw_15 x.f10 (hx.2.2.2.2.2.2.2.2.2.2.1) n9 (by omega) (by omega) k (by omega)
  rw [e10, Option.bind_some]
  by_cases c10 : n10 < 0
  · rw [if_pos c10]; exact ⟨-1, rfl, by omega, fun h => by omega⟩
  rw [if_neg c10]
  obtain ⟨n11, e11, b11, p11⟩ := szw_15 x.f11 (hx.2.2.2.2.2.2.2.2.2.2.2.1) n10 (by omega) (by omega) k (by omega)
  rw [e11, Option.bind_some]
  by_cases c11 : n11 < 0
  · rw [if_pos c11]; exact ⟨-1, rfl, by omega, fun h => by omega⟩
  rw [if_neg c11]
  have s12 : x.f12.size ≤ maxLen := hx.2.2.2.2.2.2.2.2.2.2.2.2
  have e12 : wrap64 (n11 - (x.f12.size : Int)) = n11 - (x.f12.size : Int) := by unfold wrap64; omega
  rw [e12]
  by_cases c12 : n11 - (x.f12.size : Int) < 0
  · rw [if_pos c12]; exact ⟨-1, rfl, by omega, fun h => by omega⟩
  rw [if_neg c12]
  exact ⟨(n11 - (x.f12.size : Int)), rfl, by omega, fun h => ⟨⟨trivial, (by omega), (by omega), trivial, trivial, (by omega), trivial, trivial, trivial, (p9 (by omega)).1, (p10 (by omega)).1, (p11 (by omega)).1, (by omega), trivial⟩, by have w9 := (p9 (by omega)).2; have w10 := (p10 (by omega)).2; have w11 := (p11 (by omega)).2; unfold wt99; omega⟩⟩
theorem sz_39 (x : S99) (hx : ok99 x) (b : Int) (h0 : 0 ≤ b) (h1 : b ≤ 1048576) (k : Nat) (hk : 1048577 ≤ k) : ∃ n, laws_szCert.f k x b = some n ∧ n ≤ b ∧ (0 ≤ n → sm99 x) := by
  obtain ⟨n, g1, g2, g3⟩ := szw_39 x hx b h0 h1 k hk
  exact ⟨n, g1, g2, fun h => (g3 h).1⟩
theorem rd99 (x : List S99) (i : Nat) (h : i < x.length) : rd_T99 x (i : Int) = x[i] := by simp [rd_T99, h]
theorem szw_11 (l : (List S99)) (hl : okList ok99 l) (b : Int) (h0 : 0 ≤ b) (h1 : b ≤ 1048576) (k : Nat) (hk : 2097154 ≤ k) : ∃ n, laws_szCertS.f k l b = some n ∧ n ≤ b ∧ (0 ≤ n → (l.length ≤ 1048576 ∧ ∀ e ∈ l, sm99 e) ∧ n + ((((l.length + (l.map wt99).sum) : Nat) : Int) : Int) = b) := by
  have hll : l.length ≤ maxLen := hl.1
  have hm : maxLen = 9223372036854775807 := rfl
  have e : wrap64 (b - (l.length : Int)) = b - (l.length : Int) := by unfold wrap64; omega
  unfold laws_szCertS.f
  rw [e]
  by_cases c : b - (l.length : Int) < 0
  · rw [if_pos c]; exact ⟨-1, rfl, by omega, fun h => by omega⟩
  rw [if_neg c]
  obtain ⟨n, n1, n2, n3⟩ := sz_loop_w laws_szCertS.l0 rd_T99 (fun k e b => laws_szCert.f k e b) sm99 wt99 l 1048577 (by omega) (rd99 l) (fun k b i => by rw [laws_szCertS.l0]) (fun k e b hk he g0 g1 => szw_39 e (hl.2 e he) b g0 g1 k (by omega)) k (b - (l.length : Int)) 0 (by omega) (by omega) (by omega) (by omega)
  refine ⟨n, n1, by omega, fun h => ⟨⟨by omega, fun a ha => ?_⟩, ?_⟩⟩
  · obtain ⟨j, hj, rfl⟩ := List.getElem_of_mem ha
    exact (n3 h).1 j hj (by omega)
  · have w := (n3 h).2
    rw [List.drop_zero] at w
    omega
theorem sz_11 (l : (List S99)) (hl : okList ok99 l) (b : Int) (h0 : 0 ≤ b) (h1 : b ≤ 1048576) (k : Nat) (hk : 2097154 ≤ k) : ∃ n, laws_szCertS.f k l b = some n ∧ n ≤ b ∧ (0 ≤ n → (l.length ≤ 1048576 ∧ ∀ e ∈ l, sm99 e)) := by
  obtain ⟨n, g1, g2, g3⟩ := szw_11 l hl b h0 h1 k hk
  exact ⟨n, g1, g2, fun h => (g3 h).1⟩
def sm224 (x : S224) : Prop := True ∧ True ∧ True
theorem rd224 (x : List S224) (i : Nat) (h : i < x.length) : rd_T224 x (i : Int) = x[i] := by simp [rd_T224, h]
theorem szw_121 (l : (List S224)) (hl : okList ok224 l) (b : Int) (h0 : 0 ≤ b) (h1 : b ≤ 1048576) (k : Nat) (hk : 0 ≤ k) : ∃ n, laws_szRevS.f l b = some n ∧ n ≤ b ∧ (0 ≤ n → (l.length ≤ 1048576 ∧ ∀ e ∈ l, sm224 e) ∧ n + (((l.length : Nat) : Int) : Int) = b) := by
  have hll : l.length ≤ maxLen := hl.1
  have hm : maxLen = 9223372036854775807 := rfl
  have e : wrap64 (b - (l.length : Int)) = b - (l.length : Int) := by unfold wrap64; omega
  unfold laws_szRevS.f
  rw [e]
  by_cases c : b - (l.length : Int) < 0
  · rw [if_pos c]; exact ⟨-1, rfl, by omega, fun h => by omega⟩
  rw [if_neg c]
  exact ⟨_, rfl, by omega, fun h => ⟨⟨by omega, fun e he => by simp [sm99, sm224]⟩, by omega⟩⟩
theorem sz_121 (l : (List S224)) (hl : okList ok224 l) (b : Int) (h0 : 0 ≤ b) (h1 : b ≤ 1048576) (k : Nat) (hk : 0 ≤ k) : ∃ n, laws_szRevS.f l b = some n ∧ n ≤ b ∧ (0 ≤ n → (l.length ≤ 1048576 ∧ ∀ e ∈ l, sm224 e)) := by
  obtain ⟨n, g1, g2, g3⟩ := szw_121 l hl b h0 h1 k hk
  exact ⟨n, g1, g2, fun h => (g3 h).1⟩
def sm187 (x : S187) : Prop := x.f0.size ≤ 1048576 ∧ True ∧ True ∧ True ∧ True ∧ (x.f5.length ≤ 1048576 ∧ ∀ e ∈ x.f5, sm224 e) ∧ x.f6.size ≤ 1048576 ∧ True
def wt187 (x : S187) : Nat := x.f0.size + x.f5.length + x.f6.size
theorem szw_103 (x : S187) (hx : ok187 x) (b : Int) (h0 : 0 ≤ b) (h1 : b ≤ 1048576) (k : Nat) (hk : 0 ≤ k) : ∃ n, laws_szCrl.f x b = some n ∧ n ≤ b ∧ (0 ≤ n → sm187 x ∧ n + (wt187 x : Int) = b) := by
  have hm : maxLen = 9223372036854775807 := rfl
  unfold laws_szCrl.f
  have s0 : x.f0.size ≤ maxLen := hx.1
  have e0 : wrap64 (b - (x.f0.size : Int)) = b - (x.f0.size : Int) := by unfold wrap64; omega
  rw [e0]
  by_cases c0 : b - (x.f0.size : Int) < 0
  · rw [if_pos c0]; exact ⟨-1, rfl, by omega, fun h => by omega⟩
  rw [if_neg c0]
  obtain ⟨n5, e5, b5, p5⟩ := szw_121 x.f5 (hx.2.2.2.2.2.1) (b - (x.f0.size : Int)) (by omega) (by omega) k (by omega)
  rw [e5, Option.bind_some]
  by_cases c5 : n5 < 0
  · rw [if_pos c5]; exact ⟨-1, rfl, by omega, fun h => by omega⟩
  rw [if_neg c5]
  have s6 : x.f6.size ≤ maxLen := hx.2.2.2.2.2.2
  have e6 : wrap64 (n5 - (x.f6.size : Int)) = n5 - (x.f6.size : Int) := by unfold wrap64; omega
  rw [e6]
  by_cases c6 : n5 - (x.f6.size : Int) < 0
  · rw [if_pos c6]; exact ⟨-1, rfl, by omega, fun h => by omega⟩
  rw [if_neg c6]
  exact ⟨(n5 - (x.f6.size : Int)), rfl, by omega, fun h => ⟨⟨(by omega), trivial, trivial, trivial, trivial, (p5 (by omega)).1, (by omega), trivial⟩, by have w5 := (p5 (by omega)).2; unfold wt187; omega⟩⟩
theorem sz_103 (x : S187) (hx : ok187 x) (b : Int) (h0 : 0 ≤ b) (h1 : b ≤ 1048576) (k : Nat) (hk : 0 ≤ k) : ∃ n, laws_szCrl.f x b = some n ∧ n ≤ b ∧ (0 ≤ n → sm187 x) := by
  obtain ⟨n, g1, g2, g3⟩ := szw_103 x hx b h0 h1 k hk
  exact ⟨n, g1, g2, fun h => (g3 h).1⟩
theorem rd187 (x : List S187) (i : Nat) (h : i < x.length) : rd_T187 x (i : Int) = x[i] := by simp [rd_T187, h]
theorem szw_68 (l : (List S187)) (hl : okList ok187 l) (b : Int) (h0 : 0 ≤ b) (h1 : b ≤ 1048576) (k : Nat) (hk : 1048577 ≤ k) : ∃ n, laws_szCrlS.f k l b = some n ∧ n ≤ b ∧ (0 ≤ n → (l.length ≤ 1048576 ∧ ∀ e ∈ l, sm187 e) ∧ n + ((((l.length + (l.map wt187).sum) : Nat) : Int) : Int) = b) := by
  have hll : l.length ≤ maxLen := hl.1
  have hm : maxLen = 9223372036854775807 := rfl
  have e : wrap64 (b - (l.length : Int)) = b - (l.length : Int) := by unfold wrap64; omega
  unfold laws_szCrlS.f
  rw [e]
  by_cases c : b - (l.length : Int) < 0
  · rw [if_pos c]; exact ⟨-1, rfl, by omega, fun h => by omega⟩
  rw [if_neg c]
  obtain ⟨n, n1, n2, n3⟩ := sz_loop_w laws_szCrlS.l0 rd_T187 (fun k e b => laws_szCrl.f e b) sm187 wt187 l 0 (by omega) (rd187 l) (fun k b i => by rw [laws_szCrlS.l0]) (fun k e b hk he g0 g1 => szw_103 e (hl.2 e he) b g0 g1 k (by omega)) k (b - (l.length : Int)) 0 (by omega) (by omega) (by omega) (by omega)
  refine ⟨n, n1, by omega, fun h => ⟨⟨by omega, fun a ha => ?_⟩, ?_⟩⟩
  · obtain ⟨j, hj, rfl⟩ := List.getElem_of_mem ha
    exact (n3 h).1 j hj (by omega)
  · have w := (n3 h).2
    rw [List.drop_zero] at w
    omega
theorem sz_68 (l : (List S187)) (hl : okList ok187 l) (b : Int) (h0 : 0 ≤ b) (h1 : b ≤ 1048576) (k : Nat) (hk : 1048577 ≤ k) : ∃ n, laws_szCrlS.f k l b = some n ∧ n ≤ b ∧ (0 ≤ n → (l.length ≤ 1048576 ∧ ∀ e ∈ l, sm187 e)) := by
  obtain ⟨n, g1, g2, g3⟩ := szw_68 l hl b h0 h1 k hk
  exact ⟨n, g1, g2, fun h => (g3 h).1⟩
def sm190 (x : S190) : Prop := x.f0.size ≤ 1048576 ∧ x.f1.size ≤ 1048576 ∧ True
def wt190 (x : S190) : Nat := x.f0.size + x.f1.size
theorem szw_104 (x : S190) (hx : ok190 x) (b : Int) (h0 : 0 ≤ b) (h1 : b ≤ 1048576) (k : Nat) (hk : 0 ≤ k) : ∃ n, laws_szAnchor.f x b = some n ∧ n ≤ b ∧ (0 ≤ n → sm190 x ∧ n + (wt190 x : Int) = b) := by
  have hm : maxLen = 9223372036854775807 := rfl
  unfold laws_szAnchor.f
  have s0 : x.f0.size ≤ maxLen := hx.1
  have e0 : wrap64 (b - (x.f0.size : Int)) = b - (x.f0.size : Int) := by unfold wrap64; omega
  rw [e0]
  by_cases c0 : b - (x.f0.size : Int) < 0
  · rw [if_pos c0]; exact ⟨-1, rfl, by omega, fun h => by omega⟩
  rw [if_neg c0]
  have s1 : x.f1.size ≤ maxLen := hx.2
  have e1 : wrap64 ((b - (x.f0.size : Int)) - (x.f1.size : Int)) = (b - (x.f0.size : Int)) - (x.f1.size : Int) := by unfold wrap64; omega
  rw [e1]
  by_cases c1 : (b - (x.f0.size : Int)) - (x.f1.size : Int) < 0
  · rw [if_pos c1]; exact ⟨-1, rfl, by omega, fun h => by omega⟩
  rw [if_neg c1]
  exact ⟨((b - (x.f0.size : Int)) - (x.f1.size : Int)), rfl, by omega, fun h => ⟨⟨(by omega), (by omega), trivial⟩, by unfold wt190; omega⟩⟩
theorem sz_104 (x : S190) (hx : ok190 x) (b : Int) (h0 : 0 ≤ b) (h1 : b ≤ 1048576) (k : Nat) (hk : 0 ≤ k) : ∃ n, laws_szAnchor.f x b = some n ∧ n ≤ b ∧ (0 ≤ n → sm190 x) := by
  obtain ⟨n, g1, g2, g3⟩ := szw_104 x hx b h0 h1 k hk
  exact ⟨n, g1, g2, fun h => (g3 h).1⟩
theorem rd190 (x : List S190) (i : Nat) (h : i < x.length) : rd_T190 x (i : Int) = x[i] := by simp [rd_T190, h]
theorem szw_69 (l : (List S190)) (hl : okList ok190 l) (b : Int) (h0 : 0 ≤ b) (h1 : b ≤ 1048576) (k : Nat) (hk : 1048577 ≤ k) : ∃ n, laws_szAnchorS.f k l b = some n ∧ n ≤ b ∧ (0 ≤ n → (l.length ≤ 1048576 ∧ ∀ e ∈ l, sm190 e) ∧ n + ((((l.length + (l.map wt190).sum) : Nat) : Int) : Int) = b) := by
  have hll : l.length ≤ maxLen := hl.1
  have hm : maxLen = 9223372036854775807 := rfl
  have e : wrap64 (b - (l.length : Int)) = b - (l.length : Int) := by unfold wrap64; omega
  unfold laws_szAnchorS.f
  rw [e]
  by_cases c : b - (l.length : Int) < 0
  · rw [if_pos c]; exact ⟨-1, rfl, by omega, fun h => by omega⟩
  rw [if_neg c]
  obtain ⟨n, n1, n2, n3⟩ := sz_loop_w laws_szAnchorS.l0 rd_T190 (fun k e b => laws_szAnchor.f e b) sm190 wt190 l 0 (by omega) (rd190 l) (fun k b i => by rw [laws_szAnchorS.l0]) (fun k e b hk he g0 g1 => szw_104 e (hl.2 e he) b g0 g1 k (by omega)) k (b - (l.length : Int)) 0 (by omega) (by omega) (by omega) (by omega)
  refine ⟨n, n1, by omega, fun h => ⟨⟨by omega, fun a ha => ?_⟩, ?_⟩⟩
  · obtain ⟨j, hj, rfl⟩ := List.getElem_of_mem ha
    exact (n3 h).1 j hj (by omega)
  · have w := (n3 h).2
    rw [List.drop_zero] at w
    omega
theorem sz_69 (l : (List S190)) (hl : okList ok190 l) (b : Int) (h0 : 0 ≤ b) (h1 : b ≤ 1048576) (k : Nat) (hk : 1048577 ≤ k) : ∃ n, laws_szAnchorS.f k l b = some n ∧ n ≤ b ∧ (0 ≤ n → (l.length ≤ 1048576 ∧ ∀ e ∈ l, sm190 e)) := by
  obtain ⟨n, g1, g2, g3⟩ := szw_69 l hl b h0 h1 k hk
  exact ⟨n, g1, g2, fun h => (g3 h).1⟩
def sm26 (x : S26) : Prop := (x.f0.length ≤ 1048576 ∧ ∀ e ∈ x.f0, sm99 e) ∧ (x.f1.length ≤ 1048576 ∧ ∀ e ∈ x.f1, sm187 e) ∧ (x.f2.length ≤ 1048576 ∧ ∀ e ∈ x.f2, sm190 e) ∧ True
def wt26 (x : S26) : Nat := (x.f0.length + (x.f0.map wt99).sum) + (x.f1.length + (x.f1.map wt187).sum) + (x.f2.length + (x.f2.map wt190).sum)
theorem szw_34 (x : S26) (hx : ok26 x) (b : Int) (h0 : 0 ≤ b) (h1 : b ≤ 1048576) (k : Nat) (hk : 2097154 ≤ k) : ∃ n, laws_szStore.f k x b = some n ∧ n ≤ b ∧ (0 ≤ n → sm26 x ∧ n + (wt26 x : Int) = b) := by
  have hm : maxLen = 9223372036854775807 := rfl
  unfold laws_szStore.f
  obtain ⟨n0, e0, b0, p0⟩ := szw_11 x.f0 (hx.1) b (by omega) (by omega) k (by omega)
  rw [e0, Option.bind_some]
  by_cases c0 : n0 < 0
  · rw [if_pos c0]; exact ⟨-1, rfl, by omega, fun h => by omega⟩
  rw [if_neg c0]
  obtain ⟨n1, e1, b1, p1⟩ := szw_68 x.f1 (hx.2.1) n0 (by omega) (by omega) k (by omega)
  rw [e1, Option.bind_some]
  by_cases c1 : n1 < 0
  · rw [if_pos c1]; exact ⟨-1, rfl, by omega, fun h => by omega⟩
  rw [if_neg c1]
  obtain ⟨n2, e2, b2, p2⟩ := szw_69 x.f2 (hx.2.2) n1 (by omega) (by omega) k (by omega)
  rw [e2, Option.bind_some]
  by_cases c2 : n2 < 0
  · rw [if_pos c2]; exact ⟨-1, rfl, by omega, fun h => by omega⟩
  rw [if_neg c2]
  exact ⟨n2, rfl, by omega, fun h => ⟨⟨(p0 (by omega)).1, (p1 (by omega)).1, (p2 (by omega)).1, trivial⟩, by have w0 := (p0 (by omega)).2; have w1 := (p1 (by omega)).2; have w2 := (p2 (by omega)).2; unfold wt26; omega⟩⟩
theorem sz_34 (x : S26) (hx : ok26 x) (b : Int) (h0 : 0 ≤ b) (h1 : b ≤ 1048576) (k : Nat) (hk : 2097154 ≤ k) : ∃ n, laws_szStore.f k x b = some n ∧ n ≤ b ∧ (0 ≤ n → sm26 x) := by
  obtain ⟨n, g1, g2, g3⟩ := szw_34 x hx b h0 h1 k hk
  exact ⟨n, g1, g2, fun h => (g3 h).1⟩
def sm138 (x : S138) : Prop := True ∧ (x.f1.length ≤ 1048576 ∧ ∀ e ∈ x.f1, True) ∧ True ∧ True ∧ True ∧ True
def wt138 (x : S138) : Nat := x.f1.length
theorem szw_105 (x : S138) (hx : ok138 x) (b : Int) (h0 : 0 ≤ b) (h1 : b ≤ 1048576) (k : Nat) (hk : 0 ≤ k) : ∃ n, laws_szRules.f x b = some n ∧ n ≤ b ∧ (0 ≤ n → sm138 x ∧ n + (wt138 x : Int) = b) := by
  have hm : maxLen = 9223372036854775807 := rfl
  unfold laws_szRules.f
  obtain ⟨n1, e1, b1, p1⟩ := szw_13 x.f1 (hx.2.1) b (by omega) (by omega) k (by omega)
  rw [e1, Option.bind_some]
  by_cases c1 : n1 < 0
  · rw [if_pos c1]; exact ⟨-1, rfl, by omega, fun h => by omega⟩
  rw [if_neg c1]
  exact ⟨n1, rfl, by omega, fun h => ⟨⟨trivial, (p1 (by omega)).1, trivial, trivial, trivial, trivial⟩, by have w1 := (p1 (by omega)).2; unfold wt138; omega⟩⟩
theorem sz_105 (x : S138) (hx : ok138 x) (b : Int) (h0 : 0 ≤ b) (h1 : b ≤ 1048576) (k : Nat) (hk : 0 ≤ k) : ∃ n, laws_szRules.f x b = some n ∧ n ≤ b ∧ (0 ≤ n → sm138 x) := by
  obtain ⟨n, g1, g2, g3⟩ := szw_105 x hx b h0 h1 k hk
  exact ⟨n, g1, g2, fun h => (g3 h).1⟩
def sm140 (x : S140) : Prop := True ∧ (x.f1.length ≤ 1048576 ∧ ∀ e ∈ x.f1, True) ∧ sm138 x.f2 ∧ True
def wt140 (x : S140) : Nat := x.f1.length + wt138 x.f2
theorem szw_70 (x : S140) (hx : ok140 x) (b : Int) (h0 : 0 ≤ b) (h1 : b ≤ 1048576) (k : Nat) (hk : 0 ≤ k) : ∃ n, laws_szPlan.f x b = some n ∧ n ≤ b ∧ (0 ≤ n → sm140 x ∧ n + (wt140 x : Int) = b) := by
  have hm : maxLen = 9223372036854775807 := rfl
  unfold laws_szPlan.f
  obtain ⟨n1, e1, b1, p1⟩ := szw_13 x.f1 (hx.2.1) b (by omega) (by omega) k (by omega)
  rw [e1, Option.bind_some]
  by_cases c1 : n1 < 0
  · rw [if_pos c1]; exact ⟨-1, rfl, by omega, fun h => by omega⟩
  rw [if_neg c1]
  obtain ⟨n2, e2, b2, p2⟩ := szw_105 x.f2 (hx.2.2) n1 (by omega) (by omega) k (by omega)
  rw [e2, Option.bind_some]
  by_cases c2 : n2 < 0
  · rw [if_pos c2]; exact ⟨-1, rfl, by omega, fun h => by omega⟩
  rw [if_neg c2]
  exact ⟨n2, rfl, by omega, fun h => ⟨⟨trivial, (p1 (by omega)).1, (p2 (by omega)).1, trivial⟩, by have w1 := (p1 (by omega)).2; have w2 := (p2 (by omega)).2; unfold wt140; omega⟩⟩
theorem sz_70 (x : S140) (hx : ok140 x) (b : Int) (h0 : 0 ≤ b) (h1 : b ≤ 1048576) (k : Nat) (hk : 0 ≤ k) : ∃ n, laws_szPlan.f x b = some n ∧ n ≤ b ∧ (0 ≤ n → sm140 x) := by
  obtain ⟨n, g1, g2, g3⟩ := szw_70 x hx b h0 h1 k hk
  exact ⟨n, g1, g2, fun h => (g3 h).1⟩
theorem rd140 (x : List S140) (i : Nat) (h : i < x.length) : rd_T140 x (i : Int) = x[i] := by simp [rd_T140, h]
theorem szw_35 (l : (List S140)) (hl : okList ok140 l) (b : Int) (h0 : 0 ≤ b) (h1 : b ≤ 1048576) (k : Nat) (hk : 1048577 ≤ k) : ∃ n, laws_szPlanS.f k l b = some n ∧ n ≤ b ∧ (0 ≤ n → (l.length ≤ 1048576 ∧ ∀ e ∈ l, sm140 e) ∧ n + ((((l.length + (l.map wt140).sum) : Nat) : Int) : Int) = b) := by
  have hll : l.length ≤ maxLen := hl.1
  have hm : maxLen = 9223372036854775807 := rfl
  have e : wrap64 (b - (l.length : Int)) = b - (l.length : Int) := by unfold wrap64; omega
  unfold laws_szPlanS.f
  rw [e]
  by_cases c : b - (l.length : Int) < 0
  · rw [if_pos c]; exact ⟨-1, rfl, by omega, fun h => by omega⟩
  rw [if_neg c]
  obtain ⟨n, n1, n2, n3⟩ := sz_loop_w laws_szPlanS.l0 rd_T140 (fun k e b => laws_szPlan.f e b) sm140 wt140 l 0 (by omega) (rd140 l) (fun k b i => by rw [laws_szPlanS.l0]) (fun k e b hk he g0 g1 => szw_70 e (hl.2 e he) b g0 g1 k (by omega)) k (b - (l.length : Int)) 0 (by omega) (by omega) (by omega) (by omega)
  refine ⟨n, n1, by omega, fun h => ⟨⟨by omega, fun a ha => ?_⟩, ?_⟩⟩
  · obtain ⟨j, hj, rfl⟩ := List.getElem_of_mem ha
    exact (n3 h).1 j hj (by omega)
  · have w := (n3 h).2
    rw [List.drop_zero] at w
    omega
theorem sz_35 (l : (List S140)) (hl : okList ok140 l) (b : Int) (h0 : 0 ≤ b) (h1 : b ≤ 1048576) (k : Nat) (hk : 1048577 ≤ k) : ∃ n, laws_szPlanS.f k l b = some n ∧ n ≤ b ∧ (0 ≤ n → (l.length ≤ 1048576 ∧ ∀ e ∈ l, sm140 e)) := by
  obtain ⟨n, g1, g2, g3⟩ := szw_35 l hl b h0 h1 k hk
  exact ⟨n, g1, g2, fun h => (g3 h).1⟩
def sm143 (x : S143) : Prop := x.f0.size ≤ 1048576 ∧ x.f1.size ≤ 1048576 ∧ True ∧ True
def wt143 (x : S143) : Nat := x.f0.size + x.f1.size
theorem szw_71 (x : S143) (hx : ok143 x) (b : Int) (h0 : 0 ≤ b) (h1 : b ≤ 1048576) (k : Nat) (hk : 0 ≤ k) : ∃ n, laws_szKept.f x b = some n ∧ n ≤ b ∧ (0 ≤ n → sm143 x ∧ n + (wt143 x : Int) = b) := by
  have hm : maxLen = 9223372036854775807 := rfl
  unfold laws_szKept.f
  have s0 : x.f0.size ≤ maxLen := hx.1
  have e0 : wrap64 (b - (x.f0.size : Int)) = b - (x.f0.size : Int) := by unfold wrap64; omega
  rw [e0]
  by_cases c0 : b - (x.f0.size : Int) < 0
  · rw [if_pos c0]; exact ⟨-1, rfl, by omega, fun h => by omega⟩
  rw [if_neg c0]
  have s1 : x.f1.size ≤ maxLen := hx.2.1
  have e1 : wrap64 ((b - (x.f0.size : Int)) - (x.f1.size : Int)) = (b - (x.f0.size : Int)) - (x.f1.size : Int) := by unfold wrap64; omega
  rw [e1]
  by_cases c1 : (b - (x.f0.size : Int)) - (x.f1.size : Int) < 0
  · rw [if_pos c1]; exact ⟨-1, rfl, by omega, fun h => by omega⟩
  rw [if_neg c1]
  exact ⟨((b - (x.f0.size : Int)) - (x.f1.size : Int)), rfl, by omega, fun h => ⟨⟨(by omega), (by omega), trivial, trivial⟩, by unfold wt143; omega⟩⟩
theorem sz_71 (x : S143) (hx : ok143 x) (b : Int) (h0 : 0 ≤ b) (h1 : b ≤ 1048576) (k : Nat) (hk : 0 ≤ k) : ∃ n, laws_szKept.f x b = some n ∧ n ≤ b ∧ (0 ≤ n → sm143 x) := by
  obtain ⟨n, g1, g2, g3⟩ := szw_71 x hx b h0 h1 k hk
  exact ⟨n, g1, g2, fun h => (g3 h).1⟩
theorem rd143 (x : List S143) (i : Nat) (h : i < x.length) : rd_T143 x (i : Int) = x[i] := by simp [rd_T143, h]
theorem szw_36 (l : (List S143)) (hl : okList ok143 l) (b : Int) (h0 : 0 ≤ b) (h1 : b ≤ 1048576) (k : Nat) (hk : 1048577 ≤ k) : ∃ n, laws_szKeptS.f k l b = some n ∧ n ≤ b ∧ (0 ≤ n → (l.length ≤ 1048576 ∧ ∀ e ∈ l, sm143 e) ∧ n + ((((l.length + (l.map wt143).sum) : Nat) : Int) : Int) = b) := by
  have hll : l.length ≤ maxLen := hl.1
  have hm : maxLen = 9223372036854775807 := rfl
  have e : wrap64 (b - (l.length : Int)) = b - (l.length : Int) := by unfold wrap64; omega
  unfold laws_szKeptS.f
  rw [e]
  by_cases c : b - (l.length : Int) < 0
  · rw [if_pos c]; exact ⟨-1, rfl, by omega, fun h => by omega⟩
  rw [if_neg c]
  obtain ⟨n, n1, n2, n3⟩ := sz_loop_w laws_szKeptS.l0 rd_T143 (fun k e b => laws_szKept.f e b) sm143 wt143 l 0 (by omega) (rd143 l) (fun k b i => by rw [laws_szKeptS.l0]) (fun k e b hk he g0 g1 => szw_71 e (hl.2 e he) b g0 g1 k (by omega)) k (b - (l.length : Int)) 0 (by omega) (by omega) (by omega) (by omega)
  refine ⟨n, n1, by omega, fun h => ⟨⟨by omega, fun a ha => ?_⟩, ?_⟩⟩
  · obtain ⟨j, hj, rfl⟩ := List.getElem_of_mem ha
    exact (n3 h).1 j hj (by omega)
  · have w := (n3 h).2
    rw [List.drop_zero] at w
    omega
theorem sz_36 (l : (List S143)) (hl : okList ok143 l) (b : Int) (h0 : 0 ≤ b) (h1 : b ≤ 1048576) (k : Nat) (hk : 1048577 ≤ k) : ∃ n, laws_szKeptS.f k l b = some n ∧ n ≤ b ∧ (0 ≤ n → (l.length ≤ 1048576 ∧ ∀ e ∈ l, sm143 e)) := by
  obtain ⟨n, g1, g2, g3⟩ := szw_36 l hl b h0 h1 k hk
  exact ⟨n, g1, g2, fun h => (g3 h).1⟩
def sm30 (x : S30) : Prop := sm26 x.f0 ∧ (x.f1.length ≤ 1048576 ∧ ∀ e ∈ x.f1, sm140 e) ∧ True ∧ True ∧ True ∧ (x.f5.length ≤ 1048576 ∧ ∀ e ∈ x.f5, sm143 e) ∧ True
def wt30 (x : S30) : Nat := wt26 x.f0 + (x.f1.length + (x.f1.map wt140).sum) + (x.f5.length + (x.f5.map wt143).sum)
theorem szw_9 (x : S30) (hx : ok30 x) (b : Int) (h0 : 0 ≤ b) (h1 : b ≤ 1048576) (k : Nat) (hk : 2097154 ≤ k) : ∃ n, laws_szServer.f k x b = some n ∧ n ≤ b ∧ (0 ≤ n → sm30 x ∧ n + (wt30 x : Int) = b) := by
  have hm : maxLen = 9223372036854775807 := rfl
  unfold laws_szServer.f
  obtain ⟨n0, e0, b0, p0⟩ := szw_34 x.f0 (hx.1) b (by omega) (by omega) k (by omega)
  rw [e0, Option.bind_some]
  by_cases c0 : n0 < 0
  · rw [if_pos c0]; exact ⟨-1, rfl, by omega, fun h => by omega⟩
  rw [if_neg c0]
  obtain ⟨n1, e1, b1, p1⟩ := szw_35 x.f1 (hx.2.1) n0 (by omega) (by omega) k (by omega)
  rw [e1, Option.bind_some]
  by_cases c1 : n1 < 0
  · rw [if_pos c1]; exact ⟨-1, rfl, by omega, fun h => by omega⟩
  rw [if_neg c1]
  obtain ⟨n5, e5, b5, p5⟩ := szw_36 x.f5 (hx.2.2.2.2.2) n1 (by omega) (by omega) k (by omega)
  rw [e5, Option.bind_some]
  by_cases c5 : n5 < 0
  · rw [if_pos c5]; exact ⟨-1, rfl, by omega, fun h => by omega⟩
  rw [if_neg c5]
  exact ⟨n5, rfl, by omega, fun h => ⟨⟨(p0 (by omega)).1, (p1 (by omega)).1, trivial, trivial, trivial, (p5 (by omega)).1, trivial⟩, by have w0 := (p0 (by omega)).2; have w1 := (p1 (by omega)).2; have w5 := (p5 (by omega)).2; unfold wt30; omega⟩⟩
theorem sz_9 (x : S30) (hx : ok30 x) (b : Int) (h0 : 0 ≤ b) (h1 : b ≤ 1048576) (k : Nat) (hk : 2097154 ≤ k) : ∃ n, laws_szServer.f k x b = some n ∧ n ≤ b ∧ (0 ≤ n → sm30 x) := by
  obtain ⟨n, g1, g2, g3⟩ := szw_9 x hx b h0 h1 k hk
  exact ⟨n, g1, g2, fun h => (g3 h).1⟩
def sm146 (x : S146) : Prop := True ∧ True ∧ x.f2.size ≤ 1048576 ∧ True ∧ True
def wt146 (x : S146) : Nat := x.f2.size
theorem szw_72 (x : S146) (hx : ok146 x) (b : Int) (h0 : 0 ≤ b) (h1 : b ≤ 1048576) (k : Nat) (hk : 0 ≤ k) : ∃ n, laws_szWait.f x b = some n ∧ n ≤ b ∧ (0 ≤ n → sm146 x ∧ n + (wt146 x : Int) = b) := by
  have hm : maxLen = 9223372036854775807 := rfl
  unfold laws_szWait.f
  have s2 : x.f2.size ≤ maxLen := hx.2.2.1
  have e2 : wrap64 (b - (x.f2.size : Int)) = b - (x.f2.size : Int) := by unfold wrap64; omega
  rw [e2]
  by_cases c2 : b - (x.f2.size : Int) < 0
  · rw [if_pos c2]; exact ⟨-1, rfl, by omega, fun h => by omega⟩
  rw [if_neg c2]
  exact ⟨(b - (x.f2.size : Int)), rfl, by omega, fun h => ⟨⟨trivial, trivial, (by omega), trivial, trivial⟩, by unfold wt146; omega⟩⟩
theorem sz_72 (x : S146) (hx : ok146 x) (b : Int) (h0 : 0 ≤ b) (h1 : b ≤ 1048576) (k : Nat) (hk : 0 ≤ k) : ∃ n, laws_szWait.f x b = some n ∧ n ≤ b ∧ (0 ≤ n → sm146 x) := by
  obtain ⟨n, g1, g2, g3⟩ := szw_72 x hx b h0 h1 k hk
  exact ⟨n, g1, g2, fun h => (g3 h).1⟩
theorem rd146 (x : List S146) (i : Nat) (h : i < x.length) : rd_T146 x (i : Int) = x[i] := by simp [rd_T146, h]
theorem szw_37 (l : (List S146)) (hl : okList ok146 l) (b : Int) (h0 : 0 ≤ b) (h1 : b ≤ 1048576) (k : Nat) (hk : 1048577 ≤ k) : ∃ n, laws_szWaitS.f k l b = some n ∧ n ≤ b ∧ (0 ≤ n → (l.length ≤ 1048576 ∧ ∀ e ∈ l, sm146 e) ∧ n + ((((l.length + (l.map wt146).sum) : Nat) : Int) : Int) = b) := by
  have hll : l.length ≤ maxLen := hl.1
  have hm : maxLen = 9223372036854775807 := rfl
  have e : wrap64 (b - (l.length : Int)) = b - (l.length : Int) := by unfold wrap64; omega
  unfold laws_szWaitS.f
  rw [e]
  by_cases c : b - (l.length : Int) < 0
  · rw [if_pos c]; exact ⟨-1, rfl, by omega, fun h => by omega⟩
  rw [if_neg c]
  obtain ⟨n, n1, n2, n3⟩ := sz_loop_w laws_szWaitS.l0 rd_T146 (fun k e b => laws_szWait.f e b) sm146 wt146 l 0 (by omega) (rd146 l) (fun k b i => by rw [laws_szWaitS.l0]) (fun k e b hk he g0 g1 => szw_72 e (hl.2 e he) b g0 g1 k (by omega)) k (b - (l.length : Int)) 0 (by omega) (by omega) (by omega) (by omega)
  refine ⟨n, n1, by omega, fun h => ⟨⟨by omega, fun a ha => ?_⟩, ?_⟩⟩
  · obtain ⟨j, hj, rfl⟩ := List.getElem_of_mem ha
    exact (n3 h).1 j hj (by omega)
  · have w := (n3 h).2
    rw [List.drop_zero] at w
    omega
theorem sz_37 (l : (List S146)) (hl : okList ok146 l) (b : Int) (h0 : 0 ≤ b) (h1 : b ≤ 1048576) (k : Nat) (hk : 1048577 ≤ k) : ∃ n, laws_szWaitS.f k l b = some n ∧ n ≤ b ∧ (0 ≤ n → (l.length ≤ 1048576 ∧ ∀ e ∈ l, sm146 e)) := by
  obtain ⟨n, g1, g2, g3⟩ := szw_37 l hl b h0 h1 k hk
  exact ⟨n, g1, g2, fun h => (g3 h).1⟩
def sm220 (x : S220) : Prop := True ∧ True ∧ (x.f2.length ≤ 1048576 ∧ ∀ e ∈ x.f2, e.size ≤ 1048576) ∧ (x.f3.length ≤ 1048576 ∧ ∀ e ∈ x.f3, e.size ≤ 1048576) ∧ True
def wt220 (x : S220) : Nat := (x.f2.length + (x.f2.map ByteArray.size).sum) + (x.f3.length + (x.f3.map ByteArray.size).sum)
theorem szw_131 (x : S220) (hx : ok220 x) (b : Int) (h0 : 0 ≤ b) (h1 : b ≤ 1048576) (k : Nat) (hk : 1048577 ≤ k) : ∃ n, laws_szAnswer.f k x b = some n ∧ n ≤ b ∧ (0 ≤ n → sm220 x ∧ n + (wt220 x : Int) = b) := by
  have hm : maxLen = 9223372036854775807 := rfl
  unfold laws_szAnswer.f
  obtain ⟨n2, e2, b2, p2⟩ := szw_15 x.f2 (hx.2.2.1) b (by omega) (by omega) k (by omega)
  rw [e2, Option.bind_some]
  by_cases c2 : n2 < 0
  · rw [if_pos c2]; exact ⟨-1, rfl, by omega, fun h => by omega⟩
  rw [if_neg c2]
  obtain ⟨n3, e3, b3, p3⟩ := szw_15 x.f3 (hx.2.2.2) n2 (by omega) (by omega) k (by omega)
  rw [e3, Option.bind_some]
  by_cases c3 : n3 < 0
  · rw [if_pos c3]; exact ⟨-1, rfl, by omega, fun h => by omega⟩
  rw [if_neg c3]
  exact ⟨n3, rfl, by omega, fun h => ⟨⟨trivial, trivial, (p2 (by omega)).1, (p3 (by omega)).1, trivial⟩, by have w2 := (p2 (by omega)).2; have w3 := (p3 (by omega)).2; unfold wt220; omega⟩⟩
theorem sz_131 (x : S220) (hx : ok220 x) (b : Int) (h0 : 0 ≤ b) (h1 : b ≤ 1048576) (k : Nat) (hk : 1048577 ≤ k) : ∃ n, laws_szAnswer.f k x b = some n ∧ n ≤ b ∧ (0 ≤ n → sm220 x) := by
  obtain ⟨n, g1, g2, g3⟩ := szw_131 x hx b h0 h1 k hk
  exact ⟨n, g1, g2, fun h => (g3 h).1⟩
theorem rd220 (x : List S220) (i : Nat) (h : i < x.length) : rd_T220 x (i : Int) = x[i] := by simp [rd_T220, h]
theorem szw_122 (l : (List S220)) (hl : okList ok220 l) (b : Int) (h0 : 0 ≤ b) (h1 : b ≤ 1048576) (k : Nat) (hk : 2097154 ≤ k) : ∃ n, laws_szAnswerS.f k l b = some n ∧ n ≤ b ∧ (0 ≤ n → (l.length ≤ 1048576 ∧ ∀ e ∈ l, sm220 e) ∧ n + ((((l.length + (l.map wt220).sum) : Nat) : Int) : Int) = b) := by
  have hll : l.length ≤ maxLen := hl.1
  have hm : maxLen = 9223372036854775807 := rfl
  have e : wrap64 (b - (l.length : Int)) = b - (l.length : Int) := by unfold wrap64; omega
  unfold laws_szAnswerS.f
  rw [e]
  by_cases c : b - (l.length : Int) < 0
  · rw [if_pos c]; exact ⟨-1, rfl, by omega, fun h => by omega⟩
  rw [if_neg c]
  obtain ⟨n, n1, n2, n3⟩ := sz_loop_w laws_szAnswerS.l0 rd_T220 (fun k e b => laws_szAnswer.f k e b) sm220 wt220 l 1048577 (by omega) (rd220 l) (fun k b i => by rw [laws_szAnswerS.l0]) (fun k e b hk he g0 g1 => szw_131 e (hl.2 e he) b g0 g1 k (by omega)) k (b - (l.length : Int)) 0 (by omega) (by omega) (by omega) (by omega)
  refine ⟨n, n1, by omega, fun h => ⟨⟨by omega, fun a ha => ?_⟩, ?_⟩⟩
  · obtain ⟨j, hj, rfl⟩ := List.getElem_of_mem ha
    exact (n3 h).1 j hj (by omega)
  · have w := (n3 h).2
    rw [List.drop_zero] at w
    omega
theorem sz_122 (l : (List S220)) (hl : okList ok220 l) (b : Int) (h0 : 0 ≤ b) (h1 : b ≤ 1048576) (k : Nat) (hk : 2097154 ≤ k) : ∃ n, laws_szAnswerS.f k l b = some n ∧ n ≤ b ∧ (0 ≤ n → (l.length ≤ 1048576 ∧ ∀ e ∈ l, sm220 e)) := by
  obtain ⟨n, g1, g2, g3⟩ := szw_122 l hl b h0 h1 k hk
  exact ⟨n, g1, g2, fun h => (g3 h).1⟩
def sm150 (x : S150) : Prop := x.f0.size ≤ 1048576 ∧ True ∧ True ∧ True ∧ True ∧ True ∧ (x.f6.length ≤ 1048576 ∧ ∀ e ∈ x.f6, sm220 e) ∧ x.f7.size ≤ 1048576 ∧ True
def wt150 (x : S150) : Nat := x.f0.size + (x.f6.length + (x.f6.map wt220).sum) + x.f7.size
theorem szw_106 (x : S150) (hx : ok150 x) (b : Int) (h0 : 0 ≤ b) (h1 : b ≤ 1048576) (k : Nat) (hk : 2097154 ≤ k) : ∃ n, laws_szReply.f k x b = some n ∧ n ≤ b ∧ (0 ≤ n → sm150 x ∧ n + (wt150 x : Int) = b) := by
  have hm : maxLen = 9223372036854775807 := rfl
  unfold laws_szReply.f
  have s0 : x.f0.size ≤ maxLen := hx.1
  have e0 : wrap64 (b - (x.f0.size : Int)) = b - (x.f0.size : Int) := by unfold wrap64; omega
  rw [e0]
  by_cases c0 : b - (x.f0.size : Int) < 0
  · rw [if_pos c0]; exact ⟨-1, rfl, by omega, fun h => by omega⟩
  rw [if_neg c0]
  obtain ⟨n6, e6, b6, p6⟩ := szw_122 x.f6 (hx.2.2.2.2.2.2.1) (b - (x.f0.size : Int)) (by omega) (by omega) k (by omega)
  rw [e6, Option.bind_some]
  by_cases c6 : n6 < 0
  · rw [if_pos c6]; exact ⟨-1, rfl, by omega, fun h => by omega⟩
  rw [if_neg c6]
  have s7 : x.f7.size ≤ maxLen := hx.2.2.2.2.2.2.2
  have e7 : wrap64 (n6 - (x.f7.size : Int)) = n6 - (x.f7.size : Int) := by unfold wrap64; omega
  rw [e7]
  by_cases c7 : n6 - (x.f7.size : Int) < 0
  · rw [if_pos c7]; exact ⟨-1, rfl, by omega, fun h => by omega⟩
  rw [if_neg c7]
  exact ⟨(n6 - (x.f7.size : Int)), rfl, by omega, fun h => ⟨⟨(by omega), trivial, trivial, trivial, trivial, trivial, (p6 (by omega)).1, (by omega), trivial⟩, by have w6 := (p6 (by omega)).2; unfold wt150; omega⟩⟩
theorem sz_106 (x : S150) (hx : ok150 x) (b : Int) (h0 : 0 ≤ b) (h1 : b ≤ 1048576) (k : Nat) (hk : 2097154 ≤ k) : ∃ n, laws_szReply.f k x b = some n ∧ n ≤ b ∧ (0 ≤ n → sm150 x) := by
  obtain ⟨n, g1, g2, g3⟩ := szw_106 x hx b h0 h1 k hk
  exact ⟨n, g1, g2, fun h => (g3 h).1⟩
def sm152 (x : S152) : Prop := True ∧ sm150 x.f1 ∧ True
def wt152 (x : S152) : Nat := wt150 x.f1
theorem szw_73 (x : S152) (hx : ok152 x) (b : Int) (h0 : 0 ≤ b) (h1 : b ≤ 1048576) (k : Nat) (hk : 2097154 ≤ k) : ∃ n, laws_szGot.f k x b = some n ∧ n ≤ b ∧ (0 ≤ n → sm152 x ∧ n + (wt152 x : Int) = b) := by
  have hm : maxLen = 9223372036854775807 := rfl
  unfold laws_szGot.f
  obtain ⟨n1, e1, b1, p1⟩ := szw_106 x.f1 (hx.2) b (by omega) (by omega) k (by omega)
  rw [e1, Option.bind_some]
  by_cases c1 : n1 < 0
  · rw [if_pos c1]; exact ⟨-1, rfl, by omega, fun h => by omega⟩
  rw [if_neg c1]
  exact ⟨n1, rfl, by omega, fun h => ⟨⟨trivial, (p1 (by omega)).1, trivial⟩, by have w1 := (p1 (by omega)).2; unfold wt152; omega⟩⟩
theorem sz_73 (x : S152) (hx : ok152 x) (b : Int) (h0 : 0 ≤ b) (h1 : b ≤ 1048576) (k : Nat) (hk : 2097154 ≤ k) : ∃ n, laws_szGot.f k x b = some n ∧ n ≤ b ∧ (0 ≤ n → sm152 x) := by
  obtain ⟨n, g1, g2, g3⟩ := szw_73 x hx b h0 h1 k hk
  exact ⟨n, g1, g2, fun h => (g3 h).1⟩
theorem rd152 (x : List S152) (i : Nat) (h : i < x.length) : rd_T152 x (i : Int) = x[i] := by simp [rd_T152, h]
theorem szw_38 (l : (List S152)) (hl : okList ok152 l) (b : Int) (h0 : 0 ≤ b) (h1 : b ≤ 1048576) (k : Nat) (hk : 3145731 ≤ k) : ∃ n, laws_szGotS.f k l b = some n ∧ n ≤ b ∧ (0 ≤ n → (l.length ≤ 1048576 ∧ ∀ e ∈ l, sm152 e) ∧ n + ((((l.length + (l.map wt152).sum) : Nat) : Int) : Int) = b) := by
  have hll : l.length ≤ maxLen := hl.1
  have hm : maxLen = 9223372036854775807 := rfl
  have e : wrap64 (b - (l.length : Int)) = b - (l.length : Int) := by unfold wrap64; omega
  unfold laws_szGotS.f
  rw [e]
  by_cases c : b - (l.length : Int) < 0
  · rw [if_pos c]; exact ⟨-1, rfl, by omega, fun h => by omega⟩
  rw [if_neg c]
  obtain ⟨n, n1, n2, n3⟩ := sz_loop_w laws_szGotS.l0 rd_T152 (fun k e b => laws_szGot.f k e b) sm152 wt152 l 2097154 (by omega) (rd152 l) (fun k b i => by rw [laws_szGotS.l0]) (fun k e b hk he g0 g1 => szw_73 e (hl.2 e he) b g0 g1 k (by omega)) k (b - (l.length : Int)) 0 (by omega) (by omega) (by omega) (by omega)
  refine ⟨n, n1, by omega, fun h => ⟨⟨by omega, fun a ha => ?_⟩, ?_⟩⟩
  · obtain ⟨j, hj, rfl⟩ := List.getElem_of_mem ha
    exact (n3 h).1 j hj (by omega)
  · have w := (n3 h).2
    rw [List.drop_zero] at w
    omega
theorem sz_38 (l : (List S152)) (hl : okList ok152 l) (b : Int) (h0 : 0 ≤ b) (h1 : b ≤ 1048576) (k : Nat) (hk : 3145731 ≤ k) : ∃ n, laws_szGotS.f k l b = some n ∧ n ≤ b ∧ (0 ≤ n → (l.length ≤ 1048576 ∧ ∀ e ∈ l, sm152 e)) := by
  obtain ⟨n, g1, g2, g3⟩ := szw_38 l hl b h0 h1 k hk
  exact ⟨n, g1, g2, fun h => (g3 h).1⟩
def sm35 (x : S35) : Prop := x.f0.size ≤ 1048576 ∧ True ∧ (x.f2.length ≤ 1048576 ∧ ∀ e ∈ x.f2, sm146 e) ∧ (x.f3.length ≤ 1048576 ∧ ∀ e ∈ x.f3, sm152 e) ∧ (x.f4.length ≤ 1048576 ∧ ∀ e ∈ x.f4, True) ∧ True
def wt35 (x : S35) : Nat := x.f0.size + (x.f2.length + (x.f2.map wt146).sum) + (x.f3.length + (x.f3.map wt152).sum) + x.f4.length
theorem szw_10 (x : S35) (hx : ok35 x) (b : Int) (h0 : 0 ≤ b) (h1 : b ≤ 1048576) (k : Nat) (hk : 3145731 ≤ k) : ∃ n, laws_szClient.f k x b = some n ∧ n ≤ b ∧ (0 ≤ n → sm35 x ∧ n + (wt35 x : Int) = b) := by
  have hm : maxLen = 9223372036854775807 := rfl
  unfold laws_szClient.f
  have s0 : x.f0.size ≤ maxLen := hx.1
  have e0 : wrap64 (b - (x.f0.size : Int)) = b - (x.f0.size : Int) := by unfold wrap64; omega
  rw [e0]
  by_cases c0 : b - (x.f0.size : Int) < 0
  · rw [if_pos c0]; exact ⟨-1, rfl, by omega, fun h => by omega⟩
  rw [if_neg c0]
  obtain ⟨n2, e2, b2, p2⟩ := szw_37 x.f2 (hx.2.2.1) (b - (x.f0.size : Int)) (by omega) (by omega) k (by omega)
  rw [e2, Option.bind_some]
  by_cases c2 : n2 < 0
  · rw [if_pos c2]; exact ⟨-1, rfl, by omega, fun h => by omega⟩
  rw [if_neg c2]
  obtain ⟨n3, e3, b3, p3⟩ := szw_38 x.f3 (hx.2.2.2.1) n2 (by omega) (by omega) k (by omega)
  rw [e3, Option.bind_some]
  by_cases c3 : n3 < 0
  · rw [if_pos c3]; exact ⟨-1, rfl, by omega, fun h => by omega⟩
  rw [if_neg c3]
  obtain ⟨n4, e4, b4, p4⟩ := szw_13 x.f4 (hx.2.2.2.2) n3 (by omega) (by omega) k (by omega)
  rw [e4, Option.bind_some]
  by_cases c4 : n4 < 0
  · rw [if_pos c4]; exact ⟨-1, rfl, by omega, fun h => by omega⟩
  rw [if_neg c4]
  exact ⟨n4, rfl, by omega, fun h => ⟨⟨(by omega), trivial, (p2 (by omega)).1, (p3 (by omega)).1, (p4 (by omega)).1, trivial⟩, by have w2 := (p2 (by omega)).2; have w3 := (p3 (by omega)).2; have w4 := (p4 (by omega)).2; unfold wt35; omega⟩⟩
theorem sz_10 (x : S35) (hx : ok35 x) (b : Int) (h0 : 0 ≤ b) (h1 : b ≤ 1048576) (k : Nat) (hk : 3145731 ≤ k) : ∃ n, laws_szClient.f k x b = some n ∧ n ≤ b ∧ (0 ≤ n → sm35 x) := by
  obtain ⟨n, g1, g2, g3⟩ := szw_10 x hx b h0 h1 k hk
  exact ⟨n, g1, g2, fun h => (g3 h).1⟩
def sm102 (x : S102) : Prop := True ∧ x.f1.size ≤ 1048576 ∧ True
def wt102 (x : S102) : Nat := x.f1.size
theorem szw_40 (x : S102) (hx : ok102 x) (b : Int) (h0 : 0 ≤ b) (h1 : b ≤ 1048576) (k : Nat) (hk : 0 ≤ k) : ∃ n, laws_szLetter.f x b = some n ∧ n ≤ b ∧ (0 ≤ n → sm102 x ∧ n + (wt102 x : Int) = b) := by
  have hm : maxLen = 9223372036854775807 := rfl
  unfold laws_szLetter.f
  have s1 : x.f1.size ≤ maxLen := hx.2
  have e1 : wrap64 (b - (x.f1.size : Int)) = b - (x.f1.size : Int) := by unfold wrap64; omega
  rw [e1]
  by_cases c1 : b - (x.f1.size : Int) < 0
  · rw [if_pos c1]; exact ⟨-1, rfl, by omega, fun h => by omega⟩
  rw [if_neg c1]
  exact ⟨(b - (x.f1.size : Int)), rfl, by omega, fun h => ⟨⟨trivial, (by omega), trivial⟩, by unfold wt102; omega⟩⟩
theorem sz_40 (x : S102) (hx : ok102 x) (b : Int) (h0 : 0 ≤ b) (h1 : b ≤ 1048576) (k : Nat) (hk : 0 ≤ k) : ∃ n, laws_szLetter.f x b = some n ∧ n ≤ b ∧ (0 ≤ n → sm102 x) := by
  obtain ⟨n, g1, g2, g3⟩ := szw_40 x hx b h0 h1 k hk
  exact ⟨n, g1, g2, fun h => (g3 h).1⟩
theorem rd102 (x : List S102) (i : Nat) (h : i < x.length) : rd_T102 x (i : Int) = x[i] := by simp [rd_T102, h]
theorem szw_12 (l : (List S102)) (hl : okList ok102 l) (b : Int) (h0 : 0 ≤ b) (h1 : b ≤ 1048576) (k : Nat) (hk : 1048577 ≤ k) : ∃ n, laws_szLetterS.f k l b = some n ∧ n ≤ b ∧ (0 ≤ n → (l.length ≤ 1048576 ∧ ∀ e ∈ l, sm102 e) ∧ n + ((((l.length + (l.map wt102).sum) : Nat) : Int) : Int) = b) := by
  have hll : l.length ≤ maxLen := hl.1
  have hm : maxLen = 9223372036854775807 := rfl
  have e : wrap64 (b - (l.length : Int)) = b - (l.length : Int) := by unfold wrap64; omega
  unfold laws_szLetterS.f
  rw [e]
  by_cases c : b - (l.length : Int) < 0
  · rw [if_pos c]; exact ⟨-1, rfl, by omega, fun h => by omega⟩
  rw [if_neg c]
  obtain ⟨n, n1, n2, n3⟩ := sz_loop_w laws_szLetterS.l0 rd_T102 (fun k e b => laws_szLetter.f e b) sm102 wt102 l 0 (by omega) (rd102 l) (fun k b i => by rw [laws_szLetterS.l0]) (fun k e b hk he g0 g1 => szw_40 e (hl.2 e he) b g0 g1 k (by omega)) k (b - (l.length : Int)) 0 (by omega) (by omega) (by omega) (by omega)
  refine ⟨n, n1, by omega, fun h => ⟨⟨by omega, fun a ha => ?_⟩, ?_⟩⟩
  · obtain ⟨j, hj, rfl⟩ := List.getElem_of_mem ha
    exact (n3 h).1 j hj (by omega)
  · have w := (n3 h).2
    rw [List.drop_zero] at w
    omega
theorem sz_12 (l : (List S102)) (hl : okList ok102 l) (b : Int) (h0 : 0 ≤ b) (h1 : b ≤ 1048576) (k : Nat) (hk : 1048577 ≤ k) : ∃ n, laws_szLetterS.f k l b = some n ∧ n ≤ b ∧ (0 ≤ n → (l.length ≤ 1048576 ∧ ∀ e ∈ l, sm102 e)) := by
  obtain ⟨n, g1, g2, g3⟩ := szw_12 l hl b h0 h1 k hk
  exact ⟨n, g1, g2, fun h => (g3 h).1⟩
def sm105 (x : S105) : Prop := True ∧ x.f1.size ≤ 1048576 ∧ True
def wt105 (x : S105) : Nat := x.f1.size
theorem szw_41 (x : S105) (hx : ok105 x) (b : Int) (h0 : 0 ≤ b) (h1 : b ≤ 1048576) (k : Nat) (hk : 0 ≤ k) : ∃ n, laws_szPose.f x b = some n ∧ n ≤ b ∧ (0 ≤ n → sm105 x ∧ n + (wt105 x : Int) = b) := by
  have hm : maxLen = 9223372036854775807 := rfl
  unfold laws_szPose.f
  have s1 : x.f1.size ≤ maxLen := hx.2
  have e1 : wrap64 (b - (x.f1.size : Int)) = b - (x.f1.size : Int) := by unfold wrap64; omega
  rw [e1]
  by_cases c1 : b - (x.f1.size : Int) < 0
  · rw [if_pos c1]; exact ⟨-1, rfl, by omega, fun h => by omega⟩
  rw [if_neg c1]
  exact ⟨(b - (x.f1.size : Int)), rfl, by omega, fun h => ⟨⟨trivial, (by omega), trivial⟩, by unfold wt105; omega⟩⟩
theorem sz_41 (x : S105) (hx : ok105 x) (b : Int) (h0 : 0 ≤ b) (h1 : b ≤ 1048576) (k : Nat) (hk : 0 ≤ k) : ∃ n, laws_szPose.f x b = some n ∧ n ≤ b ∧ (0 ≤ n → sm105 x) := by
  obtain ⟨n, g1, g2, g3⟩ := szw_41 x hx b h0 h1 k hk
  exact ⟨n, g1, g2, fun h => (g3 h).1⟩
theorem rd105 (x : List S105) (i : Nat) (h : i < x.length) : rd_T105 x (i : Int) = x[i] := by simp [rd_T105, h]
theorem szw_14 (l : (List S105)) (hl : okList ok105 l) (b : Int) (h0 : 0 ≤ b) (h1 : b ≤ 1048576) (k : Nat) (hk : 1048577 ≤ k) : ∃ n, laws_szPoseS.f k l b = some n ∧ n ≤ b ∧ (0 ≤ n → (l.length ≤ 1048576 ∧ ∀ e ∈ l, sm105 e) ∧ n + ((((l.length + (l.map wt105).sum) : Nat) : Int) : Int) = b) := by
  have hll : l.length ≤ maxLen := hl.1
  have hm : maxLen = 9223372036854775807 := rfl
  have e : wrap64 (b - (l.length : Int)) = b - (l.length : Int) := by unfold wrap64; omega
  unfold laws_szPoseS.f
  rw [e]
  by_cases c : b - (l.length : Int) < 0
  · rw [if_pos c]; exact ⟨-1, rfl, by omega, fun h => by omega⟩
  rw [if_neg c]
  obtain ⟨n, n1, n2, n3⟩ := sz_loop_w laws_szPoseS.l0 rd_T105 (fun k e b => laws_szPose.f e b) sm105 wt105 l 0 (by omega) (rd105 l) (fun k b i => by rw [laws_szPoseS.l0]) (fun k e b hk he g0 g1 => szw_41 e (hl.2 e he) b g0 g1 k (by omega)) k (b - (l.length : Int)) 0 (by omega) (by omega) (by omega) (by omega)
  refine ⟨n, n1, by omega, fun h => ⟨⟨by omega, fun a ha => ?_⟩, ?_⟩⟩
  · obtain ⟨j, hj, rfl⟩ := List.getElem_of_mem ha
    exact (n3 h).1 j hj (by omega)
  · have w := (n3 h).2
    rw [List.drop_zero] at w
    omega
theorem sz_14 (l : (List S105)) (hl : okList ok105 l) (b : Int) (h0 : 0 ≤ b) (h1 : b ≤ 1048576) (k : Nat) (hk : 1048577 ≤ k) : ∃ n, laws_szPoseS.f k l b = some n ∧ n ≤ b ∧ (0 ≤ n → (l.length ≤ 1048576 ∧ ∀ e ∈ l, sm105 e)) := by
  obtain ⟨n, g1, g2, g3⟩ := szw_14 l hl b h0 h1 k hk
  exact ⟨n, g1, g2, fun h => (g3 h).1⟩
def sm40 (x : S40) : Prop := sm30 x.f0 ∧ sm35 x.f1 ∧ (x.f2.length ≤ 1048576 ∧ ∀ e ∈ x.f2, sm99 e) ∧ (x.f3.length ≤ 1048576 ∧ ∀ e ∈ x.f3, sm102 e) ∧ (x.f4.length ≤ 1048576 ∧ ∀ e ∈ x.f4, True) ∧ (x.f5.length ≤ 1048576 ∧ ∀ e ∈ x.f5, sm105 e) ∧ (x.f6.length ≤ 1048576 ∧ ∀ e ∈ x.f6, e.size ≤ 1048576) ∧ (x.f7.length ≤ 1048576 ∧ ∀ e ∈ x.f7, e.size ≤ 1048576) ∧ True
def wt40 (x : S40) : Nat := wt30 x.f0 + wt35 x.f1 + (x.f2.length + (x.f2.map wt99).sum) + (x.f3.length + (x.f3.map wt102).sum) + x.f4.length + (x.f5.length + (x.f5.map wt105).sum) + (x.f6.length + (x.f6.map ByteArray.size).sum) + (x.f7.length + (x.f7.map ByteArray.size).sum)
theorem szw_4 (x : S40) (hx : ok40 x) (b : Int) (h0 : 0 ≤ b) (h1 : b ≤ 1048576) (k : Nat) (hk : 3145731 ≤ k) : ∃ n, laws_szWorld.f k x b = some n ∧ n ≤ b ∧ (0 ≤ n → sm40 x ∧ n + (wt40 x : Int) = b) := by
  have hm : maxLen = 9223372036854775807 := rfl
  unfold laws_szWorld.f
  obtain ⟨n0, e0, b0, p0⟩ := szw_9 x.f0 (hx.1) b (by omega) (by omega) k (by omega)
  rw [e0, Option.bind_some]
  by_cases c0 : n0 < 0
  · rw [if_pos c0]; exact ⟨-1, rfl, by omega, fun h => by omega⟩
  rw [if_neg c0]
  obtain ⟨n1, e1, b1, p1⟩ := szw_10 x.f1 (hx.2.1) n0 (by omega) (by omega) k (by omega)
  rw [e1, Option.bind_some]
  by_cases c1 : n1 < 0
  · rw [if_pos c1]; exact ⟨-1, rfl, by omega, fun h => by omega⟩
  rw [if_neg c1]
  obtain ⟨n2, e2, b2, p2⟩ := szw_11 x.f2 (hx.2.2.1) n1 (by omega) (by omega) k (by omega)
  rw [e2, Option.bind_some]
  by_cases c2 : n2 < 0
  · rw [if_pos c2]; exact ⟨-1, rfl, by omega, fun h => by omega⟩
  rw [if_neg c2]
  obtain ⟨n3, e3, b3, p3⟩ := szw_12 x.f3 (hx.2.2.2.1) n2 (by omega) (by omega) k (by omega)
  rw [e3, Option.bind_some]
  by_cases c3 : n3 < 0
  · rw [if_pos c3]; exact ⟨-1, rfl, by omega, fun h => by omega⟩
  rw [if_neg c3]
  obtain ⟨n4, e4, b4, p4⟩ := szw_13 x.f4 (hx.2.2.2.2.1) n3 (by omega) (by omega) k (by omega)
  rw [e4, Option.bind_some]
  by_cases c4 : n4 < 0
  · rw [if_pos c4]; exact ⟨-1, rfl, by omega, fun h => by omega⟩
  rw [if_neg c4]
  obtain ⟨n5, e5, b5, p5⟩ := szw_14 x.f5 (hx.2.2.2.2.2.1) n4 (by omega) (by omega) k (by omega)
  rw [e5, Option.bind_some]
  by_cases c5 : n5 < 0
  · rw [if_pos c5]; exact ⟨-1, rfl, by omega, fun h => by omega⟩
  rw [if_neg c5]
  obtain ⟨n6, e6, b6, p6⟩ := szw_15 x.f6 (hx.2.2.2.2.2.2.1) n5 (by omega) (by omega) k (by omega)
  rw [e6, Option.bind_some]
  by_cases c6 : n6 < 0
  · rw [if_pos c6]; exact ⟨-1, rfl, by omega, fun h => by omega⟩
  rw [if_neg c6]
  obtain ⟨n7, e7, b7, p7⟩ := szw_15 x.f7 (hx.2.2.2.2.2.2.2) n6 (by omega) (by omega) k (by omega)
  rw [e7, Option.bind_some]
  by_cases c7 : n7 < 0
  · rw [if_pos c7]; exact ⟨-1, rfl, by omega, fun h => by omega⟩
  rw [if_neg c7]
  exact ⟨n7, rfl, by omega, fun h => ⟨⟨(p0 (by omega)).1, (p1 (by omega)).1, (p2 (by omega)).1, (p3 (by omega)).1, (p4 (by omega)).1, (p5 (by omega)).1, (p6 (by omega)).1, (p7 (by omega)).1, trivial⟩, by have w0 := (p0 (by omega)).2; have w1 := (p1 (by omega)).2; have w2 := (p2 (by omega)).2; have w3 := (p3 (by omega)).2; have w4 := (p4 (by omega)).2; have w5 := (p5 (by omega)).2; have w6 := (p6 (by omega)).2; have w7 := (p7 (by omega)).2; unfold wt40; omega⟩⟩
theorem sz_4 (x : S40) (hx : ok40 x) (b : Int) (h0 : 0 ≤ b) (h1 : b ≤ 1048576) (k : Nat) (hk : 3145731 ≤ k) : ∃ n, laws_szWorld.f k x b = some n ∧ n ≤ b ∧ (0 ≤ n → sm40 x) := by
  obtain ⟨n, g1, g2, g3⟩ := szw_4 x hx b h0 h1 k hk
  exact ⟨n, g1, g2, fun h => (g3 h).1⟩
theorem to_22 (x : (List Int)) (h : (x.length ≤ 1048576 ∧ ∀ e ∈ x, True)) (k : Nat) (hk : 1048577 ≤ k) : laws_toIntS.f k x = some x := by
  have hx := h.1
  unfold laws_toIntS.f
  rw [if_pos (by omega), if_pos (by omega)]
  have := to_loop laws_toIntS.l0 rd (fun _ e => some e) id x 0 hx (rdI x) (fun k y i => by rw [laws_toIntS.l0]; rfl) (fun _ _ _ _ => rfl) k (List.replicate x.length (0 : Int)) 0 (by omega) (by simp) rfl (by omega)
  simpa using this
theorem to_24 (x : (List ByteArray)) (h : (x.length ≤ 1048576 ∧ ∀ e ∈ x, e.size ≤ 1048576)) (k : Nat) (hk : 1048577 ≤ k) : laws_toStringS.f k x = some x := by
  have hx := h.1
  unfold laws_toStringS.f
  rw [if_pos (by omega), if_pos (by omega)]
  have := to_loop laws_toStringS.l0 (rdOf ByteArray.empty) (fun _ e => some e) id x 0 hx (rdS x) (fun k y i => by rw [laws_toStringS.l0]; rfl) (fun _ _ _ _ => rfl) k (List.replicate x.length (⟨#[]⟩ : ByteArray)) 0 (by omega) (by simp) rfl (by omega)
  simpa using this
def cv99 (x : S99) : S118 := ⟨x.f0, x.f1, x.f2, x.f3, x.f4, x.f5, x.f6, x.f7, x.f8, x.f9, x.f10, x.f11, x.f12⟩
def sm118 (x : S118) : Prop := True ∧ x.f1.size ≤ 1048576 ∧ x.f2.size ≤ 1048576 ∧ True ∧ True ∧ x.f5.size ≤ 1048576 ∧ True ∧ True ∧ True ∧ (x.f9.length ≤ 1048576 ∧ ∀ e ∈ x.f9, True) ∧ (x.f10.length ≤ 1048576 ∧ ∀ e ∈ x.f10, e.size ≤ 1048576) ∧ (x.f11.length ≤ 1048576 ∧ ∀ e ∈ x.f11, e.size ≤ 1048576) ∧ x.f12.size ≤ 1048576 ∧ True
theorem to_51 (x : S99) (h : sm99 x) (k : Nat) (hk : 1048577 ≤ k) : laws_toCert.f k x = some (cv99 x) := by
  unfold laws_toCert.f
  simp only [to_22 x.f9 h.2.2.2.2.2.2.2.2.2.1 k (by omega), to_24 x.f10 h.2.2.2.2.2.2.2.2.2.2.1 k (by omega), to_24 x.f11 h.2.2.2.2.2.2.2.2.2.2.2.1 k (by omega), Option.bind_some]
  rfl
theorem smcv99 (x : S99) (h : sm99 x) : sm118 (cv99 x) := ⟨h.1, h.2.1, h.2.2.1, h.2.2.2.1, h.2.2.2.2.1, h.2.2.2.2.2.1, h.2.2.2.2.2.2.1, h.2.2.2.2.2.2.2.1, h.2.2.2.2.2.2.2.2.1, h.2.2.2.2.2.2.2.2.2.1, h.2.2.2.2.2.2.2.2.2.2.1, h.2.2.2.2.2.2.2.2.2.2.2.1, h.2.2.2.2.2.2.2.2.2.2.2.2.1, trivial⟩
theorem to_20 (x : (List S99)) (h : (x.length ≤ 1048576 ∧ ∀ e ∈ x, sm99 e)) (k : Nat) (hk : 2097154 ≤ k) : laws_toCertS.f k x = some (x.map cv99) := by
  have hx := h.1
  unfold laws_toCertS.f
  rw [if_pos (by omega), if_pos (by omega)]
  have := to_loop laws_toCertS.l0 rd_T99 (fun k e => laws_toCert.f k e) cv99 x 1048577 hx (rd99 x) (fun k y i => by rw [laws_toCertS.l0]) (fun k e hk he => to_51 e (h.2 e he) k (by omega)) k (List.replicate x.length z118) 0 (by omega) (by simp) rfl (by omega)
  simpa using this
def cv224 (x : S224) : S222 := ⟨x.f0, x.f1⟩
def sm222 (x : S222) : Prop := True ∧ True ∧ True
theorem to_132 (x : S224) (h : sm224 x) (k : Nat) (hk : 0 ≤ k) : laws_toRev.f x = some (cv224 x) := by
  unfold laws_toRev.f
  rfl
theorem smcv224 (x : S224) (h : sm224 x) : sm222 (cv224 x) := ⟨h.1, h.2.1, trivial⟩
theorem to_124 (x : (List S224)) (h : (x.length ≤ 1048576 ∧ ∀ e ∈ x, sm224 e)) (k : Nat) (hk : 1048577 ≤ k) : laws_toRevS.f k x = some (x.map cv224) := by
  have hx := h.1
  unfold laws_toRevS.f
  rw [if_pos (by omega), if_pos (by omega)]
  have := to_loop laws_toRevS.l0 rd_T224 (fun k e => laws_toRev.f e) cv224 x 0 hx (rd224 x) (fun k y i => by rw [laws_toRevS.l0]) (fun k e hk he => to_132 e (h.2 e he) k (by omega)) k (List.replicate x.length z222) 0 (by omega) (by simp) rfl (by omega)
  simpa using this
def cv187 (x : S187) : S198 := ⟨x.f0, x.f1, x.f2, x.f3, x.f4, (x.f5.map cv224), x.f6⟩
def sm198 (x : S198) : Prop := x.f0.size ≤ 1048576 ∧ True ∧ True ∧ True ∧ True ∧ (x.f5.length ≤ 1048576 ∧ ∀ e ∈ x.f5, sm222 e) ∧ x.f6.size ≤ 1048576 ∧ True
theorem to_109 (x : S187) (h : sm187 x) (k : Nat) (hk : 1048577 ≤ k) : laws_toCrl.f k x = some (cv187 x) := by
  unfold laws_toCrl.f
  simp only [to_124 x.f5 h.2.2.2.2.2.1 k (by omega), Option.bind_some]
  rfl
theorem smcv187 (x : S187) (h : sm187 x) : sm198 (cv187 x) := ⟨h.1, h.2.1, h.2.2.1, h.2.2.2.1, h.2.2.2.2.1, ⟨by show (List.map cv224 _).length ≤ _; rw [List.length_map]; exact h.2.2.2.2.2.1.1, fun e he => by
  obtain ⟨a, ha, rfl⟩ := List.mem_map.1 he
  exact smcv224 a (h.2.2.2.2.2.1.2 a ha)⟩, h.2.2.2.2.2.2.1, trivial⟩
theorem to_80 (x : (List S187)) (h : (x.length ≤ 1048576 ∧ ∀ e ∈ x, sm187 e)) (k : Nat) (hk : 2097154 ≤ k) : laws_toCrlS.f k x = some (x.map cv187) := by
  have hx := h.1
  unfold laws_toCrlS.f
  rw [if_pos (by omega), if_pos (by omega)]
  have := to_loop laws_toCrlS.l0 rd_T187 (fun k e => laws_toCrl.f k e) cv187 x 1048577 hx (rd187 x) (fun k y i => by rw [laws_toCrlS.l0]) (fun k e hk he => to_109 e (h.2 e he) k (by omega)) k (List.replicate x.length z198) 0 (by omega) (by simp) rfl (by omega)
  simpa using this
def cv190 (x : S190) : S200 := ⟨x.f0, x.f1⟩
def sm200 (x : S200) : Prop := x.f0.size ≤ 1048576 ∧ x.f1.size ≤ 1048576 ∧ True
theorem to_110 (x : S190) (h : sm190 x) (k : Nat) (hk : 0 ≤ k) : laws_toAnchor.f x = some (cv190 x) := by
  unfold laws_toAnchor.f
  rfl
theorem smcv190 (x : S190) (h : sm190 x) : sm200 (cv190 x) := ⟨h.1, h.2.1, trivial⟩
theorem to_81 (x : (List S190)) (h : (x.length ≤ 1048576 ∧ ∀ e ∈ x, sm190 e)) (k : Nat) (hk : 1048577 ≤ k) : laws_toAnchorS.f k x = some (x.map cv190) := by
  have hx := h.1
  unfold laws_toAnchorS.f
  rw [if_pos (by omega), if_pos (by omega)]
  have := to_loop laws_toAnchorS.l0 rd_T190 (fun k e => laws_toAnchor.f e) cv190 x 0 hx (rd190 x) (fun k y i => by rw [laws_toAnchorS.l0]) (fun k e hk he => to_110 e (h.2 e he) k (by omega)) k (List.replicate x.length z200) 0 (by omega) (by simp) rfl (by omega)
  simpa using this
def cv26 (x : S26) : S47 := ⟨(x.f0.map cv99), (x.f1.map cv187), (x.f2.map cv190)⟩
def sm47 (x : S47) : Prop := (x.f0.length ≤ 1048576 ∧ ∀ e ∈ x.f0, sm118 e) ∧ (x.f1.length ≤ 1048576 ∧ ∀ e ∈ x.f1, sm198 e) ∧ (x.f2.length ≤ 1048576 ∧ ∀ e ∈ x.f2, sm200 e) ∧ True
theorem to_46 (x : S26) (h : sm26 x) (k : Nat) (hk : 2097154 ≤ k) : laws_toStore.f k x = some (cv26 x) := by
  unfold laws_toStore.f
  simp only [to_20 x.f0 h.1 k (by omega), to_80 x.f1 h.2.1 k (by omega), to_81 x.f2 h.2.2.1 k (by omega), Option.bind_some]
  rfl
theorem smcv26 (x : S26) (h : sm26 x) : sm47 (cv26 x) := ⟨⟨by show (List.map cv99 _).length ≤ _; rw [List.length_map]; exact h.1.1, fun e he => by
  obtain ⟨a, ha, rfl⟩ := List.mem_map.1 he
  exact smcv99 a (h.1.2 a ha)⟩, ⟨by show (List.map cv187 _).length ≤ _; rw [List.length_map]; exact h.2.1.1, fun e he => by
  obtain ⟨a, ha, rfl⟩ := List.mem_map.1 he
  exact smcv187 a (h.2.1.2 a ha)⟩, ⟨by show (List.map cv190 _).length ≤ _; rw [List.length_map]; exact h.2.2.1.1, fun e he => by
  obtain ⟨a, ha, rfl⟩ := List.mem_map.1 he
  exact smcv190 a (h.2.2.1.2 a ha)⟩, trivial⟩
def cv138 (x : S138) : S163 := ⟨x.f0, x.f1, x.f2, x.f3, x.f4⟩
def sm163 (x : S163) : Prop := True ∧ (x.f1.length ≤ 1048576 ∧ ∀ e ∈ x.f1, True) ∧ True ∧ True ∧ True ∧ True
theorem to_111 (x : S138) (h : sm138 x) (k : Nat) (hk : 1048577 ≤ k) : laws_toRules.f k x = some (cv138 x) := by
  unfold laws_toRules.f
  simp only [to_22 x.f1 h.2.1 k (by omega), Option.bind_some]
  rfl
theorem smcv138 (x : S138) (h : sm138 x) : sm163 (cv138 x) := ⟨h.1, h.2.1, h.2.2.1, h.2.2.2.1, h.2.2.2.2.1, trivial⟩
def cv140 (x : S140) : S165 := ⟨x.f0, x.f1, (cv138 x.f2)⟩
def sm165 (x : S165) : Prop := True ∧ (x.f1.length ≤ 1048576 ∧ ∀ e ∈ x.f1, True) ∧ sm163 x.f2 ∧ True
theorem to_82 (x : S140) (h : sm140 x) (k : Nat) (hk : 1048577 ≤ k) : laws_toPlan.f k x = some (cv140 x) := by
  unfold laws_toPlan.f
  simp only [to_22 x.f1 h.2.1 k (by omega), to_111 x.f2 h.2.2.1 k (by omega), Option.bind_some]
  rfl
theorem smcv140 (x : S140) (h : sm140 x) : sm165 (cv140 x) := ⟨h.1, h.2.1, smcv138 _ h.2.2.1, trivial⟩
theorem to_47 (x : (List S140)) (h : (x.length ≤ 1048576 ∧ ∀ e ∈ x, sm140 e)) (k : Nat) (hk : 2097154 ≤ k) : laws_toPlanS.f k x = some (x.map cv140) := by
  have hx := h.1
  unfold laws_toPlanS.f
  rw [if_pos (by omega), if_pos (by omega)]
  have := to_loop laws_toPlanS.l0 rd_T140 (fun k e => laws_toPlan.f k e) cv140 x 1048577 hx (rd140 x) (fun k y i => by rw [laws_toPlanS.l0]) (fun k e hk he => to_82 e (h.2 e he) k (by omega)) k (List.replicate x.length z165) 0 (by omega) (by simp) rfl (by omega)
  simpa using this
def cv143 (x : S143) : S167 := ⟨x.f0, x.f1, x.f2⟩
def sm167 (x : S167) : Prop := x.f0.size ≤ 1048576 ∧ x.f1.size ≤ 1048576 ∧ True ∧ True
theorem to_83 (x : S143) (h : sm143 x) (k : Nat) (hk : 0 ≤ k) : laws_toKept.f x = some (cv143 x) := by
  unfold laws_toKept.f
  rfl
theorem smcv143 (x : S143) (h : sm143 x) : sm167 (cv143 x) := ⟨h.1, h.2.1, h.2.2.1, trivial⟩
theorem to_48 (x : (List S143)) (h : (x.length ≤ 1048576 ∧ ∀ e ∈ x, sm143 e)) (k : Nat) (hk : 1048577 ≤ k) : laws_toKeptS.f k x = some (x.map cv143) := by
  have hx := h.1
  unfold laws_toKeptS.f
  rw [if_pos (by omega), if_pos (by omega)]
  have := to_loop laws_toKeptS.l0 rd_T143 (fun k e => laws_toKept.f e) cv143 x 0 hx (rd143 x) (fun k y i => by rw [laws_toKeptS.l0]) (fun k e hk he => to_83 e (h.2 e he) k (by omega)) k (List.replicate x.length z167) 0 (by omega) (by simp) rfl (by omega)
  simpa using this
def cv30 (x : S30) : S51 := ⟨(cv26 x.f0), (x.f1.map cv140), x.f2, x.f3, x.f4, (x.f5.map cv143)⟩
def sm51 (x : S51) : Prop := sm47 x.f0 ∧ (x.f1.length ≤ 1048576 ∧ ∀ e ∈ x.f1, sm165 e) ∧ True ∧ True ∧ True ∧ (x.f5.length ≤ 1048576 ∧ ∀ e ∈ x.f5, sm167 e) ∧ True
theorem to_18 (x : S30) (h : sm30 x) (k : Nat) (hk : 2097154 ≤ k) : laws_toServer.f k x = some (cv30 x) := by
  unfold laws_toServer.f
  simp only [to_46 x.f0 h.1 k (by omega), to_47 x.f1 h.2.1 k (by omega), to_48 x.f5 h.2.2.2.2.2.1 k (by omega), Option.bind_some]
  rfl
theorem smcv30 (x : S30) (h : sm30 x) : sm51 (cv30 x) := ⟨smcv26 _ h.1, ⟨by show (List.map cv140 _).length ≤ _; rw [List.length_map]; exact h.2.1.1, fun e he => by
  obtain ⟨a, ha, rfl⟩ := List.mem_map.1 he
  exact smcv140 a (h.2.1.2 a ha)⟩, h.2.2.1, h.2.2.2.1, h.2.2.2.2.1, ⟨by show (List.map cv143 _).length ≤ _; rw [List.length_map]; exact h.2.2.2.2.2.1.1, fun e he => by
  obtain ⟨a, ha, rfl⟩ := List.mem_map.1 he
  exact smcv143 a (h.2.2.2.2.2.1.2 a ha)⟩, trivial⟩
def cv146 (x : S146) : S169 := ⟨x.f0, x.f1, x.f2, x.f3⟩
def sm169 (x : S169) : Prop := True ∧ True ∧ x.f2.size ≤ 1048576 ∧ True ∧ True
theorem to_84 (x : S146) (h : sm146 x) (k : Nat) (hk : 0 ≤ k) : laws_toWait.f x = some (cv146 x) := by
  unfold laws_toWait.f
  rfl
theorem smcv146 (x : S146) (h : sm146 x) : sm169 (cv146 x) := ⟨h.1, h.2.1, h.2.2.1, h.2.2.2.1, trivial⟩
theorem to_49 (x : (List S146)) (h : (x.length ≤ 1048576 ∧ ∀ e ∈ x, sm146 e)) (k : Nat) (hk : 1048577 ≤ k) : laws_toWaitS.f k x = some (x.map cv146) := by
  have hx := h.1
  unfold laws_toWaitS.f
  rw [if_pos (by omega), if_pos (by omega)]
  have := to_loop laws_toWaitS.l0 rd_T146 (fun k e => laws_toWait.f e) cv146 x 0 hx (rd146 x) (fun k y i => by rw [laws_toWaitS.l0]) (fun k e hk he => to_84 e (h.2 e he) k (by omega)) k (List.replicate x.length z169) 0 (by omega) (by simp) rfl (by omega)
  simpa using this
def cv220 (x : S220) : S154 := ⟨x.f0, x.f1, x.f2, x.f3⟩
def sm154 (x : S154) : Prop := True ∧ True ∧ (x.f2.length ≤ 1048576 ∧ ∀ e ∈ x.f2, e.size ≤ 1048576) ∧ (x.f3.length ≤ 1048576 ∧ ∀ e ∈ x.f3, e.size ≤ 1048576) ∧ True
theorem to_133 (x : S220) (h : sm220 x) (k : Nat) (hk : 1048577 ≤ k) : laws_toAnswer.f k x = some (cv220 x) := by
  unfold laws_toAnswer.f
  simp only [to_24 x.f2 h.2.2.1 k (by omega), to_24 x.f3 h.2.2.2.1 k (by omega), Option.bind_some]
  rfl
theorem smcv220 (x : S220) (h : sm220 x) : sm154 (cv220 x) := ⟨h.1, h.2.1, h.2.2.1, h.2.2.2.1, trivial⟩
theorem to_125 (x : (List S220)) (h : (x.length ≤ 1048576 ∧ ∀ e ∈ x, sm220 e)) (k : Nat) (hk : 2097154 ≤ k) : laws_toAnswerS.f k x = some (x.map cv220) := by
  have hx := h.1
  unfold laws_toAnswerS.f
  rw [if_pos (by omega), if_pos (by omega)]
  have := to_loop laws_toAnswerS.l0 rd_T220 (fun k e => laws_toAnswer.f k e) cv220 x 1048577 hx (rd220 x) (fun k y i => by rw [laws_toAnswerS.l0]) (fun k e hk he => to_133 e (h.2 e he) k (by omega)) k (List.replicate x.length z154) 0 (by omega) (by simp) rfl (by omega)
  simpa using this
def cv150 (x : S150) : S74 := ⟨x.f0, x.f1, x.f2, x.f3, x.f4, x.f5, (x.f6.map cv220), x.f7⟩
def sm74 (x : S74) : Prop := x.f0.size ≤ 1048576 ∧ True ∧ True ∧ True ∧ True ∧ True ∧ (x.f6.length ≤ 1048576 ∧ ∀ e ∈ x.f6, sm154 e) ∧ x.f7.size ≤ 1048576 ∧ True
theorem to_112 (x : S150) (h : sm150 x) (k : Nat) (hk : 2097154 ≤ k) : laws_toReply.f k x = some (cv150 x) := by
  unfold laws_toReply.f
  simp only [to_125 x.f6 h.2.2.2.2.2.2.1 k (by omega), Option.bind_some]
  rfl
theorem smcv150 (x : S150) (h : sm150 x) : sm74 (cv150 x) := ⟨h.1, h.2.1, h.2.2.1, h.2.2.2.1, h.2.2.2.2.1, h.2.2.2.2.2.1, ⟨by show (List.map cv220 _).length ≤ _; rw [List.length_map]; exact h.2.2.2.2.2.2.1.1, fun e he => by
  obtain ⟨a, ha, rfl⟩ := List.mem_map.1 he
  exact smcv220 a (h.2.2.2.2.2.2.1.2 a ha)⟩, h.2.2.2.2.2.2.2.1, trivial⟩
def cv152 (x : S152) : S76 := ⟨x.f0, (cv150 x.f1)⟩
def sm76 (x : S76) : Prop := True ∧ sm74 x.f1 ∧ True
theorem to_85 (x : S152) (h : sm152 x) (k : Nat) (hk : 2097154 ≤ k) : laws_toGot.f k x = some (cv152 x) := by
  unfold laws_toGot.f
  simp only [to_112 x.f1 h.2.1 k (by omega), Option.bind_some]
  rfl
theorem smcv152 (x : S152) (h : sm152 x) : sm76 (cv152 x) := ⟨h.1, smcv150 _ h.2.1, trivial⟩
theorem to_50 (x : (List S152)) (h : (x.length ≤ 1048576 ∧ ∀ e ∈ x, sm152 e)) (k : Nat) (hk : 3145731 ≤ k) : laws_toGotS.f k x = some (x.map cv152) := by
  have hx := h.1
  unfold laws_toGotS.f
  rw [if_pos (by omega), if_pos (by omega)]
  have := to_loop laws_toGotS.l0 rd_T152 (fun k e => laws_toGot.f k e) cv152 x 2097154 hx (rd152 x) (fun k y i => by rw [laws_toGotS.l0]) (fun k e hk he => to_85 e (h.2 e he) k (by omega)) k (List.replicate x.length z76) 0 (by omega) (by simp) rfl (by omega)
  simpa using this
def cv35 (x : S35) : S55 := ⟨x.f0, x.f1, (x.f2.map cv146), (x.f3.map cv152), x.f4⟩
def sm55 (x : S55) : Prop := x.f0.size ≤ 1048576 ∧ True ∧ (x.f2.length ≤ 1048576 ∧ ∀ e ∈ x.f2, sm169 e) ∧ (x.f3.length ≤ 1048576 ∧ ∀ e ∈ x.f3, sm76 e) ∧ (x.f4.length ≤ 1048576 ∧ ∀ e ∈ x.f4, True) ∧ True
theorem to_19 (x : S35) (h : sm35 x) (k : Nat) (hk : 3145731 ≤ k) : laws_toClient.f k x = some (cv35 x) := by
  unfold laws_toClient.f
  simp only [to_49 x.f2 h.2.2.1 k (by omega), to_50 x.f3 h.2.2.2.1 k (by omega), to_22 x.f4 h.2.2.2.2.1 k (by omega), Option.bind_some]
  rfl
theorem smcv35 (x : S35) (h : sm35 x) : sm55 (cv35 x) := ⟨h.1, h.2.1, ⟨by show (List.map cv146 _).length ≤ _; rw [List.length_map]; exact h.2.2.1.1, fun e he => by
  obtain ⟨a, ha, rfl⟩ := List.mem_map.1 he
  exact smcv146 a (h.2.2.1.2 a ha)⟩, ⟨by show (List.map cv152 _).length ≤ _; rw [List.length_map]; exact h.2.2.2.1.1, fun e he => by
  obtain ⟨a, ha, rfl⟩ := List.mem_map.1 he
  exact smcv152 a (h.2.2.2.1.2 a ha)⟩, h.2.2.2.2.1, trivial⟩
def cv102 (x : S102) : S120 := ⟨x.f0, x.f1⟩
def sm120 (x : S120) : Prop := True ∧ x.f1.size ≤ 1048576 ∧ True
theorem to_52 (x : S102) (h : sm102 x) (k : Nat) (hk : 0 ≤ k) : laws_toLetter.f x = some (cv102 x) := by
  unfold laws_toLetter.f
  rfl
theorem smcv102 (x : S102) (h : sm102 x) : sm120 (cv102 x) := ⟨h.1, h.2.1, trivial⟩
theorem to_21 (x : (List S102)) (h : (x.length ≤ 1048576 ∧ ∀ e ∈ x, sm102 e)) (k : Nat) (hk : 1048577 ≤ k) : laws_toLetterS.f k x = some (x.map cv102) := by
  have hx := h.1
  unfold laws_toLetterS.f
  rw [if_pos (by omega), if_pos (by omega)]
  have := to_loop laws_toLetterS.l0 rd_T102 (fun k e => laws_toLetter.f e) cv102 x 0 hx (rd102 x) (fun k y i => by rw [laws_toLetterS.l0]) (fun k e hk he => to_52 e (h.2 e he) k (by omega)) k (List.replicate x.length z120) 0 (by omega) (by simp) rfl (by omega)
  simpa using this
def cv105 (x : S105) : S122 := ⟨x.f0, x.f1⟩
def sm122 (x : S122) : Prop := True ∧ x.f1.size ≤ 1048576 ∧ True
theorem to_53 (x : S105) (h : sm105 x) (k : Nat) (hk : 0 ≤ k) : laws_toPose.f x = some (cv105 x) := by
  unfold laws_toPose.f
  rfl
theorem smcv105 (x : S105) (h : sm105 x) : sm122 (cv105 x) := ⟨h.1, h.2.1, trivial⟩
theorem to_23 (x : (List S105)) (h : (x.length ≤ 1048576 ∧ ∀ e ∈ x, sm105 e)) (k : Nat) (hk : 1048577 ≤ k) : laws_toPoseS.f k x = some (x.map cv105) := by
  have hx := h.1
  unfold laws_toPoseS.f
  rw [if_pos (by omega), if_pos (by omega)]
  have := to_loop laws_toPoseS.l0 rd_T105 (fun k e => laws_toPose.f e) cv105 x 0 hx (rd105 x) (fun k y i => by rw [laws_toPoseS.l0]) (fun k e hk he => to_53 e (h.2 e he) k (by omega)) k (List.replicate x.length z122) 0 (by omega) (by simp) rfl (by omega)
  simpa using this
def cv40 (x : S40) : S59 := ⟨(cv30 x.f0), (cv35 x.f1), (x.f2.map cv99), (x.f3.map cv102), x.f4, (x.f5.map cv105), x.f6, x.f7⟩
def sm59 (x : S59) : Prop := sm51 x.f0 ∧ sm55 x.f1 ∧ (x.f2.length ≤ 1048576 ∧ ∀ e ∈ x.f2, sm118 e) ∧ (x.f3.length ≤ 1048576 ∧ ∀ e ∈ x.f3, sm120 e) ∧ (x.f4.length ≤ 1048576 ∧ ∀ e ∈ x.f4, True) ∧ (x.f5.length ≤ 1048576 ∧ ∀ e ∈ x.f5, sm122 e) ∧ (x.f6.length ≤ 1048576 ∧ ∀ e ∈ x.f6, e.size ≤ 1048576) ∧ (x.f7.length ≤ 1048576 ∧ ∀ e ∈ x.f7, e.size ≤ 1048576) ∧ True
theorem to_6 (x : S40) (h : sm40 x) (k : Nat) (hk : 3145731 ≤ k) : laws_toWorld.f k x = some (cv40 x) := by
  unfold laws_toWorld.f
  simp only [to_18 x.f0 h.1 k (by omega), to_19 x.f1 h.2.1 k (by omega), to_20 x.f2 h.2.2.1 k (by omega), to_21 x.f3 h.2.2.2.1 k (by omega), to_22 x.f4 h.2.2.2.2.1 k (by omega), to_23 x.f5 h.2.2.2.2.2.1 k (by omega), to_24 x.f6 h.2.2.2.2.2.2.1 k (by omega), to_24 x.f7 h.2.2.2.2.2.2.2.1 k (by omega), Option.bind_some]
  rfl
theorem smcv40 (x : S40) (h : sm40 x) : sm59 (cv40 x) := ⟨smcv30 _ h.1, smcv35 _ h.2.1, ⟨by show (List.map cv99 _).length ≤ _; rw [List.length_map]; exact h.2.2.1.1, fun e he => by
  obtain ⟨a, ha, rfl⟩ := List.mem_map.1 he
  exact smcv99 a (h.2.2.1.2 a ha)⟩, ⟨by show (List.map cv102 _).length ≤ _; rw [List.length_map]; exact h.2.2.2.1.1, fun e he => by
  obtain ⟨a, ha, rfl⟩ := List.mem_map.1 he
  exact smcv102 a (h.2.2.2.1.2 a ha)⟩, h.2.2.2.2.1, ⟨by show (List.map cv105 _).length ≤ _; rw [List.length_map]; exact h.2.2.2.2.2.1.1, fun e he => by
  obtain ⟨a, ha, rfl⟩ := List.mem_map.1 he
  exact smcv105 a (h.2.2.2.2.2.1.2 a ha)⟩, h.2.2.2.2.2.2.1, h.2.2.2.2.2.2.2.1, trivial⟩
theorem eq_31 (x : (List Int)) (h : (x.length ≤ 1048576 ∧ ∀ e ∈ x, True)) (k : Nat) (hk : 1048577 ≤ k) : laws_eqIntS.f k x x = some true := by
  have hx := h.1
  unfold laws_eqIntS.f
  rw [if_pos rfl]
  exact eq_loop laws_eqIntS.l0 rd (fun _ _ => some true) x 0 hx (rdI x) (fun k i => by rw [laws_eqIntS.l0]; simp) (fun _ _ _ _ => rfl) k 0 (by omega) (by omega)
theorem eq_33 (x : (List ByteArray)) (h : (x.length ≤ 1048576 ∧ ∀ e ∈ x, e.size ≤ 1048576)) (k : Nat) (hk : 1048577 ≤ k) : laws_eqStringS.f k x x = some true := by
  have hx := h.1
  unfold laws_eqStringS.f
  rw [if_pos rfl]
  exact eq_loop laws_eqStringS.l0 (rdOf ByteArray.empty) (fun _ _ => some true) x 0 hx (rdS x) (fun k i => by rw [laws_eqStringS.l0]; simp) (fun _ _ _ _ => rfl) k 0 (by omega) (by omega)
theorem eq_65 (x : S118) (h : sm118 x) (k : Nat) (hk : 1048577 ≤ k) : laws_eqCert.f k x x = some true := by
  unfold laws_eqCert.f
  simp [eq_31 x.f9 h.2.2.2.2.2.2.2.2.2.1 k (by omega), eq_33 x.f10 h.2.2.2.2.2.2.2.2.2.2.1 k (by omega), eq_33 x.f11 h.2.2.2.2.2.2.2.2.2.2.2.1 k (by omega)]
theorem rd118 (x : List S118) (i : Nat) (h : i < x.length) : rd_T118 x (i : Int) = x[i] := by simp [rd_T118, h]
theorem eq_29 (x : (List S118)) (h : (x.length ≤ 1048576 ∧ ∀ e ∈ x, sm118 e)) (k : Nat) (hk : 2097154 ≤ k) : laws_eqCertS.f k x x = some true := by
  have hx := h.1
  unfold laws_eqCertS.f
  rw [if_pos rfl]
  exact eq_loop laws_eqCertS.l0 rd_T118 (fun k e => laws_eqCert.f k e e) x 1048577 hx (rd118 x) (fun k i => by rw [laws_eqCertS.l0]) (fun k e hk he => eq_65 e (h.2 e he) k (by omega)) k 0 (by omega) (by omega)
theorem eq_135 (x : S222) (h : sm222 x) (k : Nat) (hk : 0 ≤ k) : laws_eqRev.f x x = some true := by
  unfold laws_eqRev.f
  simp []
theorem rd222 (x : List S222) (i : Nat) (h : i < x.length) : rd_T222 x (i : Int) = x[i] := by simp [rd_T222, h]
theorem eq_129 (x : (List S222)) (h : (x.length ≤ 1048576 ∧ ∀ e ∈ x, sm222 e)) (k : Nat) (hk : 1048577 ≤ k) : laws_eqRevS.f k x x = some true := by
  have hx := h.1
  unfold laws_eqRevS.f
  rw [if_pos rfl]
  exact eq_loop laws_eqRevS.l0 rd_T222 (fun k e => laws_eqRev.f e e) x 0 hx (rd222 x) (fun k i => by rw [laws_eqRevS.l0]) (fun k e hk he => eq_135 e (h.2 e he) k (by omega)) k 0 (by omega) (by omega)
theorem eq_117 (x : S198) (h : sm198 x) (k : Nat) (hk : 1048577 ≤ k) : laws_eqCrl.f k x x = some true := by
  unfold laws_eqCrl.f
  simp [eq_129 x.f5 h.2.2.2.2.2.1 k (by omega)]
theorem rd198 (x : List S198) (i : Nat) (h : i < x.length) : rd_T198 x (i : Int) = x[i] := by simp [rd_T198, h]
theorem eq_97 (x : (List S198)) (h : (x.length ≤ 1048576 ∧ ∀ e ∈ x, sm198 e)) (k : Nat) (hk : 2097154 ≤ k) : laws_eqCrlS.f k x x = some true := by
  have hx := h.1
  unfold laws_eqCrlS.f
  rw [if_pos rfl]
  exact eq_loop laws_eqCrlS.l0 rd_T198 (fun k e => laws_eqCrl.f k e e) x 1048577 hx (rd198 x) (fun k i => by rw [laws_eqCrlS.l0]) (fun k e hk he => eq_117 e (h.2 e he) k (by omega)) k 0 (by omega) (by omega)
theorem eq_118 (x : S200) (h : sm200 x) (k : Nat) (hk : 0 ≤ k) : laws_eqAnchor.f x x = some true := by
  unfold laws_eqAnchor.f
  simp []
theorem rd200 (x : List S200) (i : Nat) (h : i < x.length) : rd_T200 x (i : Int) = x[i] := by simp [rd_T200, h]
theorem eq_98 (x : (List S200)) (h : (x.length ≤ 1048576 ∧ ∀ e ∈ x, sm200 e)) (k : Nat) (hk : 1048577 ≤ k) : laws_eqAnchorS.f k x x = some true := by
  have hx := h.1
  unfold laws_eqAnchorS.f
  rw [if_pos rfl]
  exact eq_loop laws_eqAnchorS.l0 rd_T200 (fun k e => laws_eqAnchor.f e e) x 0 hx (rd200 x) (fun k i => by rw [laws_eqAnchorS.l0]) (fun k e hk he => eq_118 e (h.2 e he) k (by omega)) k 0 (by omega) (by omega)
theorem eq_60 (x : S47) (h : sm47 x) (k : Nat) (hk : 2097154 ≤ k) : laws_eqStore.f k x x = some true := by
  unfold laws_eqStore.f
  simp [eq_29 x.f0 h.1 k (by omega), eq_97 x.f1 h.2.1 k (by omega), eq_98 x.f2 h.2.2.1 k (by omega)]
theorem eq_119 (x : S163) (h : sm163 x) (k : Nat) (hk : 1048577 ≤ k) : laws_eqRules.f k x x = some true := by
  unfold laws_eqRules.f
  simp [eq_31 x.f1 h.2.1 k (by omega)]
theorem eq_99 (x : S165) (h : sm165 x) (k : Nat) (hk : 1048577 ≤ k) : laws_eqPlan.f k x x = some true := by
  unfold laws_eqPlan.f
  simp [eq_31 x.f1 h.2.1 k (by omega), eq_119 x.f2 h.2.2.1 k (by omega)]
theorem rd165 (x : List S165) (i : Nat) (h : i < x.length) : rd_T165 x (i : Int) = x[i] := by simp [rd_T165, h]
theorem eq_61 (x : (List S165)) (h : (x.length ≤ 1048576 ∧ ∀ e ∈ x, sm165 e)) (k : Nat) (hk : 2097154 ≤ k) : laws_eqPlanS.f k x x = some true := by
  have hx := h.1
  unfold laws_eqPlanS.f
  rw [if_pos rfl]
  exact eq_loop laws_eqPlanS.l0 rd_T165 (fun k e => laws_eqPlan.f k e e) x 1048577 hx (rd165 x) (fun k i => by rw [laws_eqPlanS.l0]) (fun k e hk he => eq_99 e (h.2 e he) k (by omega)) k 0 (by omega) (by omega)
theorem eq_100 (x : S167) (h : sm167 x) (k : Nat) (hk : 0 ≤ k) : laws_eqKept.f x x = some true := by
  unfold laws_eqKept.f
  simp []
theorem rd167 (x : List S167) (i : Nat) (h : i < x.length) : rd_T167 x (i : Int) = x[i] := by simp [rd_T167, h]
theorem eq_62 (x : (List S167)) (h : (x.length ≤ 1048576 ∧ ∀ e ∈ x, sm167 e)) (k : Nat) (hk : 1048577 ≤ k) : laws_eqKeptS.f k x x = some true := by
  have hx := h.1
  unfold laws_eqKeptS.f
  rw [if_pos rfl]
  exact eq_loop laws_eqKeptS.l0 rd_T167 (fun k e => laws_eqKept.f e e) x 0 hx (rd167 x) (fun k i => by rw [laws_eqKeptS.l0]) (fun k e hk he => eq_100 e (h.2 e he) k (by omega)) k 0 (by omega) (by omega)
theorem eq_27 (x : S51) (h : sm51 x) (k : Nat) (hk : 2097154 ≤ k) : laws_eqServer.f k x x = some true := by
  unfold laws_eqServer.f
  simp [eq_60 x.f0 h.1 k (by omega), eq_61 x.f1 h.2.1 k (by omega), eq_62 x.f5 h.2.2.2.2.2.1 k (by omega)]
theorem eq_101 (x : S169) (h : sm169 x) (k : Nat) (hk : 0 ≤ k) : laws_eqWait.f x x = some true := by
  unfold laws_eqWait.f
  simp []
theorem rd169 (x : List S169) (i : Nat) (h : i < x.length) : rd_T169 x (i : Int) = x[i] := by simp [rd_T169, h]
theorem eq_63 (x : (List S169)) (h : (x.length ≤ 1048576 ∧ ∀ e ∈ x, sm169 e)) (k : Nat) (hk : 1048577 ≤ k) : laws_eqWaitS.f k x x = some true := by
  have hx := h.1
  unfold laws_eqWaitS.f
  rw [if_pos rfl]
  exact eq_loop laws_eqWaitS.l0 rd_T169 (fun k e => laws_eqWait.f e e) x 0 hx (rd169 x) (fun k i => by rw [laws_eqWaitS.l0]) (fun k e hk he => eq_101 e (h.2 e he) k (by omega)) k 0 (by omega) (by omega)
theorem eq_136 (x : S154) (h : sm154 x) (k : Nat) (hk : 1048577 ≤ k) : laws_eqAnswer.f k x x = some true := by
  unfold laws_eqAnswer.f
  simp [eq_33 x.f2 h.2.2.1 k (by omega), eq_33 x.f3 h.2.2.2.1 k (by omega)]
theorem rd154 (x : List S154) (i : Nat) (h : i < x.length) : rd_T154 x (i : Int) = x[i] := by simp [rd_T154, h]
theorem eq_130 (x : (List S154)) (h : (x.length ≤ 1048576 ∧ ∀ e ∈ x, sm154 e)) (k : Nat) (hk : 2097154 ≤ k) : laws_eqAnswerS.f k x x = some true := by
  have hx := h.1
  unfold laws_eqAnswerS.f
  rw [if_pos rfl]
  exact eq_loop laws_eqAnswerS.l0 rd_T154 (fun k e => laws_eqAnswer.f k e e) x 1048577 hx (rd154 x) (fun k i => by rw [laws_eqAnswerS.l0]) (fun k e hk he => eq_136 e (h.2 e he) k (by omega)) k 0 (by omega) (by omega)
theorem eq_120 (x : S74) (h : sm74 x) (k : Nat) (hk : 2097154 ≤ k) : laws_eqReply.f k x x = some true := by
  unfold laws_eqReply.f
  simp [eq_130 x.f6 h.2.2.2.2.2.2.1 k (by omega)]
theorem eq_102 (x : S76) (h : sm76 x) (k : Nat) (hk : 2097154 ≤ k) : laws_eqGot.f k x x = some true := by
  unfold laws_eqGot.f
  simp [eq_120 x.f1 h.2.1 k (by omega)]
theorem rd76 (x : List S76) (i : Nat) (h : i < x.length) : rd_T76 x (i : Int) = x[i] := by simp [rd_T76, h]
theorem eq_64 (x : (List S76)) (h : (x.length ≤ 1048576 ∧ ∀ e ∈ x, sm76 e)) (k : Nat) (hk : 3145731 ≤ k) : laws_eqGotS.f k x x = some true := by
  have hx := h.1
  unfold laws_eqGotS.f
  rw [if_pos rfl]
  exact eq_loop laws_eqGotS.l0 rd_T76 (fun k e => laws_eqGot.f k e e) x 2097154 hx (rd76 x) (fun k i => by rw [laws_eqGotS.l0]) (fun k e hk he => eq_102 e (h.2 e he) k (by omega)) k 0 (by omega) (by omega)
theorem eq_28 (x : S55) (h : sm55 x) (k : Nat) (hk : 3145731 ≤ k) : laws_eqClient.f k x x = some true := by
  unfold laws_eqClient.f
  simp [eq_63 x.f2 h.2.2.1 k (by omega), eq_64 x.f3 h.2.2.2.1 k (by omega), eq_31 x.f4 h.2.2.2.2.1 k (by omega)]
theorem eq_66 (x : S120) (h : sm120 x) (k : Nat) (hk : 0 ≤ k) : laws_eqLetter.f x x = some true := by
  unfold laws_eqLetter.f
  simp []
theorem rd120 (x : List S120) (i : Nat) (h : i < x.length) : rd_T120 x (i : Int) = x[i] := by simp [rd_T120, h]
theorem eq_30 (x : (List S120)) (h : (x.length ≤ 1048576 ∧ ∀ e ∈ x, sm120 e)) (k : Nat) (hk : 1048577 ≤ k) : laws_eqLetterS.f k x x = some true := by
  have hx := h.1
  unfold laws_eqLetterS.f
  rw [if_pos rfl]
  exact eq_loop laws_eqLetterS.l0 rd_T120 (fun k e => laws_eqLetter.f e e) x 0 hx (rd120 x) (fun k i => by rw [laws_eqLetterS.l0]) (fun k e hk he => eq_66 e (h.2 e he) k (by omega)) k 0 (by omega) (by omega)
theorem eq_67 (x : S122) (h : sm122 x) (k : Nat) (hk : 0 ≤ k) : laws_eqPose.f x x = some true := by
  unfold laws_eqPose.f
  simp []
theorem rd122 (x : List S122) (i : Nat) (h : i < x.length) : rd_T122 x (i : Int) = x[i] := by simp [rd_T122, h]
theorem eq_32 (x : (List S122)) (h : (x.length ≤ 1048576 ∧ ∀ e ∈ x, sm122 e)) (k : Nat) (hk : 1048577 ≤ k) : laws_eqPoseS.f k x x = some true := by
  have hx := h.1
  unfold laws_eqPoseS.f
  rw [if_pos rfl]
  exact eq_loop laws_eqPoseS.l0 rd_T122 (fun k e => laws_eqPose.f e e) x 0 hx (rd122 x) (fun k i => by rw [laws_eqPoseS.l0]) (fun k e hk he => eq_67 e (h.2 e he) k (by omega)) k 0 (by omega) (by omega)
theorem eq_8 (x : S59) (h : sm59 x) (k : Nat) (hk : 3145731 ≤ k) : laws_eqWorld.f k x x = some true := by
  unfold laws_eqWorld.f
  simp [eq_27 x.f0 h.1 k (by omega), eq_28 x.f1 h.2.1 k (by omega), eq_29 x.f2 h.2.2.1 k (by omega), eq_30 x.f3 h.2.2.2.1 k (by omega), eq_31 x.f4 h.2.2.2.2.1 k (by omega), eq_32 x.f5 h.2.2.2.2.2.1 k (by omega), eq_33 x.f6 h.2.2.2.2.2.2.1 k (by omega), eq_33 x.f7 h.2.2.2.2.2.2.2.1 k (by omega)]
end Go.Proofs.YtfiifjlapaefaaaGreat.FamFnExactSaidBy

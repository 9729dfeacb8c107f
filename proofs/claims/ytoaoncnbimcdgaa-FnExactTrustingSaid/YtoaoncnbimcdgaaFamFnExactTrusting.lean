/- What the law's own helpers do: they measure, copy, compare, mark. Plain lemmas, no condition. -/
import Derived.Test.YtoaoncnbimcdgaaSaidFnExactTrusting
import Derived.Test.YtoaoncnbimcdgaaZMark
namespace Go.Proofs.Ytoaoncnbimcdgaa.FamFnExactTrusting
open Go.RowKit Go.Proofs.YtoaoncnbimcdgaaW.PrintWords Go.Proofs.YtoaoncnbimcdgaaW.PrintLast Go.Proofs.Ytoaoncnbimcdgaa.ZOpen Go.Proofs.Ytoaoncnbimcdgaa.Z Go.Proofs.Ytoaoncnbimcdgaa.F
open Go.Proofs.Ytoaoncnbimcdgaa.SaidFnExactTrusting Go.Proofs.Ytoaoncnbimcdgaa.ZP
set_option linter.unusedVariables false
set_option linter.unusedSimpArgs false
set_option maxRecDepth 100000

theorem rdI (x : List Int) (i : Nat) (h : i < x.length) : rd x (i : Int) = x[i] := by simp [rd, h]
theorem szw_38 (l : (List Int)) (hl : okList (okInt .i64) l) (b : Int) (h0 : 0 ≤ b) (h1 : b ≤ 1048576) (k : Nat) (hk : 0 ≤ k) : ∃ n, laws_szIntS.f l b = some n ∧ n ≤ b ∧ (0 ≤ n → (l.length ≤ 1048576 ∧ ∀ e ∈ l, True) ∧ n + (((l.length : Nat) : Int) : Int) = b) := by
  have hll : l.length ≤ maxLen := hl.1
  have hm : maxLen = 9223372036854775807 := rfl
  have e : wrap64 (b - (l.length : Int)) = b - (l.length : Int) := by unfold wrap64; omega
  unfold laws_szIntS.f
  rw [e]
  by_cases c : b - (l.length : Int) < 0
  · rw [if_pos c]; exact ⟨-1, rfl, by omega, fun h => by omega⟩
  rw [if_neg c]
  exact ⟨_, rfl, by omega, fun h => ⟨⟨by omega, fun e he => trivial⟩, by omega⟩⟩
theorem sz_38 (l : (List Int)) (hl : okList (okInt .i64) l) (b : Int) (h0 : 0 ≤ b) (h1 : b ≤ 1048576) (k : Nat) (hk : 0 ≤ k) : ∃ n, laws_szIntS.f l b = some n ∧ n ≤ b ∧ (0 ≤ n → (l.length ≤ 1048576 ∧ ∀ e ∈ l, True)) := by
  obtain ⟨n, g1, g2, g3⟩ := szw_38 l hl b h0 h1 k hk
  exact ⟨n, g1, g2, fun h => (g3 h).1⟩
theorem rdS (x : List ByteArray) (i : Nat) (h : i < x.length) : rdOf ByteArray.empty x (i : Int) = x[i] := by simp [rdOf, h]
theorem szw_90 (l : (List ByteArray)) (hl : okList okStr l) (b : Int) (h0 : 0 ≤ b) (h1 : b ≤ 1048576) (k : Nat) (hk : 1048577 ≤ k) : ∃ n, laws_szStringS.f k l b = some n ∧ n ≤ b ∧ (0 ≤ n → (l.length ≤ 1048576 ∧ ∀ e ∈ l, e.size ≤ 1048576) ∧ n + ((((l.length + (l.map ByteArray.size).sum) : Nat) : Int) : Int) = b) := by
  have hll : l.length ≤ maxLen := hl.1
  have hm : maxLen = 9223372036854775807 := rfl
  have e : wrap64 (b - (l.length : Int)) = b - (l.length : Int) := by unfold wrap64; omega
  unfold laws_szStringS.f
  rw [e]
  by_cases c : b - (l.length : Int) < 0
  · rw [if_pos c]; exact ⟨-1, rfl, by omega, fun h => by omega⟩
  rw [if_neg c]
  obtain ⟨n, n1, n2, n3⟩ := sz_loop_w laws_szStringS.l0 (rdOf ByteArray.empty) (fun _ e b => some (wrap64 (b - (e.size : Int)))) (fun e => e.size ≤ 1048576) ByteArray.size l 0 (by omega) (rdS l) (fun k b i => by rw [laws_szStringS.l0]; rfl) (fun k e b _ he g0 g1 => by
      have h2 : e.size ≤ maxLen := hl.2 e he
      exact ⟨_, rfl, by unfold wrap64; omega, fun h => ⟨by unfold wrap64 at h; omega, by unfold wrap64; omega⟩⟩) k (b - (l.length : Int)) 0 (by omega) (by omega) (by omega) (by omega)
  refine ⟨n, n1, by omega, fun h => ⟨⟨by omega, fun a ha => ?_⟩, ?_⟩⟩
  · obtain ⟨j, hj, rfl⟩ := List.getElem_of_mem ha
    exact (n3 h).1 j hj (by omega)
  · have w := (n3 h).2
    rw [List.drop_zero] at w
    omega
theorem sz_90 (l : (List ByteArray)) (hl : okList okStr l) (b : Int) (h0 : 0 ≤ b) (h1 : b ≤ 1048576) (k : Nat) (hk : 1048577 ≤ k) : ∃ n, laws_szStringS.f k l b = some n ∧ n ≤ b ∧ (0 ≤ n → (l.length ≤ 1048576 ∧ ∀ e ∈ l, e.size ≤ 1048576)) := by
  obtain ⟨n, g1, g2, g3⟩ := szw_90 l hl b h0 h1 k hk
  exact ⟨n, g1, g2, fun h => (g3 h).1⟩
def sm180 (x : S180) : Prop := True ∧ x.f1.size ≤ 1048576 ∧ x.f2.size ≤ 1048576 ∧ True ∧ True ∧ x.f5.size ≤ 1048576 ∧ True ∧ True ∧ True ∧ (x.f9.length ≤ 1048576 ∧ ∀ e ∈ x.f9, True) ∧ (x.f10.length ≤ 1048576 ∧ ∀ e ∈ x.f10, e.size ≤ 1048576) ∧ (x.f11.length ≤ 1048576 ∧ ∀ e ∈ x.f11, e.size ≤ 1048576) ∧ x.f12.size ≤ 1048576 ∧ True
def wt180 (x : S180) : Nat := x.f1.size + x.f2.size + x.f5.size + x.f9.length + (x.f10.length + (x.f10.map ByteArray.size).sum) + (x.f11.length + (x.f11.map ByteArray.size).sum) + x.f12.size
theorem szw_126 (x : S180) (hx : ok180 x) (b : Int) (h0 : 0 ≤ b) (h1 : b ≤ 1048576) (k : Nat) (hk : 1048577 ≤ k) : ∃ n, laws_szCert.f k x b = some n ∧ n ≤ b ∧ (0 ≤ n → sm180 x ∧ n + (wt180 x : Int) = b) := by
  have hm : maxLen = 9223372036854775807 := rfl
  unfold laws_szCert.f
  have s1 : x.f1.size ≤ maxLen := hx.2.1
  have e1 : wrap64 (b - (x.f1.size : Int)) = b - (x.f1.size : Int) := by unfold wrap64; omega
  rw [e1]
  by_cases c1 : b - (x.f1.size : Int) < 0
  · rw [if_pos c1]; exact ⟨-1, rfl, by omega, fun h => by omega⟩
  rw [if_neg c1]
  have s2 : x.f2.size ≤ maxLen := hx.2.2.1
  have e2 : wrap64 ((b - (x.f1.size : Int)) - (x.f2.size : Int)) = (b - (x.f1.size : Int)) - (x.f2.size : Int) := by unfold wrap64; omega
  rw [e2]
  by_cases c2 : (b - (x.f1.size : Int)) - (x.f2.size : Int) < 0
  · rw [if_pos c2]; exact ⟨-1, rfl, by omega, fun h => by omega⟩
  rw [if_neg c2]
  have s5 : x.f5.size ≤ maxLen := hx.2.2.2.2.2.1
  have e5 : wrap64 (((b - (x.f1.size : Int)) - (x.f2.size : Int)) - (x.f5.size : Int)) = ((b - (x.f1.size : Int)) - (x.f2.size : Int)) - (x.f5.size : Int) := by unfold wrap64; omega
  rw [e5]
  by_cases c5 : ((b - (x.f1.size : Int)) - (x.f2.size : Int)) - (x.f5.size : Int) < 0
  · rw [if_pos c5]; exact ⟨-1, rfl, by omega, fun h => by omega⟩
  rw [if_neg c5]
  obtain ⟨n9, e9, b9, p9⟩ := szw_38 x.f9 (hx.2.2.2.2.2.2.2.2.2.1) (((b - (x.f1.size : Int)) - (x.f2.size : Int)) - (x.f5.size : Int)) (by omega) (by omega) k (by omega)
  rw [e9, Option.bind_some]
  by_cases c9 : n9 < 0
  · rw [if_pos c9]; exact ⟨-1, rfl, by omega, fun h => by omega⟩
  rw [if_neg c9]
  obtain ⟨n10, e10, b10, p10⟩ := szw_90 x.f10 (hx.2.2.2.2.2.2.2.2.2.2.1) n9 (by omega) (by omega) k (by omega)
  rw [e10, Option.bind_some]
  by_cases c10 : n10 < 0
  · rw [if_pos c10]; exact ⟨-1, rfl, by omega, fun h => by omega⟩
  rw [if_neg c10]
  obtain ⟨n11, e11, b11, p11⟩ := szw_90 x.f11 (hx.2.2.2.2.2.2.2.2.2.2.2.1) n10 (by omega) (by omega) k (by omega)
  rw [e11, Option.bind_some]
  by_cases c11 : n11 < 0
  · rw [if_pos c11]; exact ⟨-1, rfl, by omega, fun h => by omega⟩
  rw [if_neg c11]
  have s12 : x.f12.size ≤ maxLen := hx.2.2.2.2.2.2.2.2.2.2.2.2
  have e12 : wrap64 (n11 - (x.f12.size : Int)) = n11 - (x.f12.size : Int) := by unfold wrap64; omega
  rw [e12]
  by_cases c12 : n11 - (x.f12.size : Int) < 0
  · rw [if_pos c12]; exact ⟨-1, rfl, by omega, fun h => by omega⟩
  rw [if_neg c12]
  exact ⟨(n11 - (x.f12.size : Int)), rfl, by omega, fun h => ⟨⟨trivial, (by omega), (by omega), trivial, trivial, (by omega), trivial, trivial, trivial, (p9 (by omega)).1, (p10 (by omega)).1, (p11 (by omega)).1, (by omega), trivial⟩, by have w9 := (p9 (by omega)).2; have w10 := (p10 (by omega)).2; have w11 := (p11 (by omega)).2; unfold wt180; omega⟩⟩
theorem sz_126 (x : S180) (hx : ok180 x) (b : Int) (h0 : 0 ≤ b) (h1 : b ≤ 1048576) (k : Nat) (hk : 1048577 ≤ k) : ∃ n, laws_szCert.f k x b = some n ∧ n ≤ b ∧ (0 ≤ n → sm180 x) := by
  obtain ⟨n, g1, g2, g3⟩ := szw_126 x hx b h0 h1 k hk
  exact ⟨n, g1, g2, fun h => (g3 h).1⟩
theorem rd180 (x : List S180) (i : Nat) (h : i < x.length) : rd_T180 x (i : Int) = x[i] := by simp [rd_T180, h]
theorem szw_67 (l : (List S180)) (hl : okList ok180 l) (b : Int) (h0 : 0 ≤ b) (h1 : b ≤ 1048576) (k : Nat) (hk : 2097154 ≤ k) : ∃ n, laws_szCertS.f k l b = some n ∧ n ≤ b ∧ (0 ≤ n → (l.length ≤ 1048576 ∧ ∀ e ∈ l, sm180 e) ∧ n + ((((l.length + (l.map wt180).sum) : Nat) : Int) : Int) = b) := by
  have hll : l.length ≤ maxLen := hl.1
  have hm : maxLen = 9223372036854775807 := rfl
  have e : wrap64 (b - (l.length : Int)) = b - (l.length : Int) := by unfold wrap64; omega
  unfold laws_szCertS.f
  rw [e]
  by_cases c : b - (l.length : Int) < 0
  · rw [if_pos c]; exact ⟨-1, rfl, by omega, fun h => by omega⟩
  rw [if_neg c]
  obtain ⟨n, n1, n2, n3⟩ := sz_loop_w laws_szCertS.l0 rd_T180 (fun k e b => laws_szCert.f k e b) sm180 wt180 l 1048577 (by omega) (rd180 l) (fun k b i => by rw [laws_szCertS.l0]) (fun k e b hk he g0 g1 => szw_126 e (hl.2 e he) b g0 g1 k (by omega)) k (b - (l.length : Int)) 0 (by omega) (by omega) (by omega) (by omega)
  refine ⟨n, n1, by omega, fun h => ⟨⟨by omega, fun a ha => ?_⟩, ?_⟩⟩
  · obtain ⟨j, hj, rfl⟩ := List.getElem_of_mem ha
    exact (n3 h).1 j hj (by omega)
  · have w := (n3 h).2
    rw [List.drop_zero] at w
    omega
theorem sz_67 (l : (List S180)) (hl : okList ok180 l) (b : Int) (h0 : 0 ≤ b) (h1 : b ≤ 1048576) (k : Nat) (hk : 2097154 ≤ k) : ∃ n, laws_szCertS.f k l b = some n ∧ n ≤ b ∧ (0 ≤ n → (l.length ≤ 1048576 ∧ ∀ e ∈ l, sm180 e)) := by
  obtain ⟨n, g1, g2, g3⟩ := szw_67 l hl b h0 h1 k hk
  exact ⟨n, g1, g2, fun h => (g3 h).1⟩
def sm237 (x : S237) : Prop := True ∧ True ∧ True
theorem rd237 (x : List S237) (i : Nat) (h : i < x.length) : rd_T237 x (i : Int) = x[i] := by simp [rd_T237, h]
theorem szw_167 (l : (List S237)) (hl : okList ok237 l) (b : Int) (h0 : 0 ≤ b) (h1 : b ≤ 1048576) (k : Nat) (hk : 0 ≤ k) : ∃ n, laws_szRevS.f l b = some n ∧ n ≤ b ∧ (0 ≤ n → (l.length ≤ 1048576 ∧ ∀ e ∈ l, sm237 e) ∧ n + (((l.length : Nat) : Int) : Int) = b) := by
  have hll : l.length ≤ maxLen := hl.1
  have hm : maxLen = 9223372036854775807 := rfl
  have e : wrap64 (b - (l.length : Int)) = b - (l.length : Int) := by unfold wrap64; omega
  unfold laws_szRevS.f
  rw [e]
  by_cases c : b - (l.length : Int) < 0
  · rw [if_pos c]; exact ⟨-1, rfl, by omega, fun h => by omega⟩
  rw [if_neg c]
  exact ⟨_, rfl, by omega, fun h => ⟨⟨by omega, fun e he => by simp [sm180, sm237]⟩, by omega⟩⟩
theorem sz_167 (l : (List S237)) (hl : okList ok237 l) (b : Int) (h0 : 0 ≤ b) (h1 : b ≤ 1048576) (k : Nat) (hk : 0 ≤ k) : ∃ n, laws_szRevS.f l b = some n ∧ n ≤ b ∧ (0 ≤ n → (l.length ≤ 1048576 ∧ ∀ e ∈ l, sm237 e)) := by
  obtain ⟨n, g1, g2, g3⟩ := szw_167 l hl b h0 h1 k hk
  exact ⟨n, g1, g2, fun h => (g3 h).1⟩
def sm184 (x : S184) : Prop := x.f0.size ≤ 1048576 ∧ True ∧ True ∧ True ∧ True ∧ (x.f5.length ≤ 1048576 ∧ ∀ e ∈ x.f5, sm237 e) ∧ x.f6.size ≤ 1048576 ∧ True
def wt184 (x : S184) : Nat := x.f0.size + x.f5.length + x.f6.size
theorem szw_127 (x : S184) (hx : ok184 x) (b : Int) (h0 : 0 ≤ b) (h1 : b ≤ 1048576) (k : Nat) (hk : 0 ≤ k) : ∃ n, laws_szCrl.f x b = some n ∧ n ≤ b ∧ (0 ≤ n → sm184 x ∧ n + (wt184 x : Int) = b) := by
  have hm : maxLen = 9223372036854775807 := rfl
  unfold laws_szCrl.f
  have s0 : x.f0.size ≤ maxLen := hx.1
  have e0 : wrap64 (b - (x.f0.size : Int)) = b - (x.f0.size : Int) := by unfold wrap64; omega
  rw [e0]
  by_cases c0 : b - (x.f0.size : Int) < 0
  · rw [if_pos c0]; exact ⟨-1, rfl, by omega, fun h => by omega⟩
  rw [if_neg c0]
  obtain ⟨n5, e5, b5, p5⟩ := szw_167 x.f5 (hx.2.2.2.2.2.1) (b - (x.f0.size : Int)) (by omega) (by omega) k (by omega)
  rw [e5, Option.bind_some]
  by_cases c5 : n5 < 0
  · rw [if_pos c5]; exact ⟨-1, rfl, by omega, fun h => by omega⟩
  rw [if_neg c5]
  have s6 : x.f6.size ≤ maxLen := hx.2.2.2.2.2.2
  have e6 : wrap64 (n5 - (x.f6.size : Int)) = n5 - (x.f6.size : Int) := by unfold wrap64; omega
  rw [e6]
  by_cases c6 : n5 - (x.f6.size : Int) < 0
  · rw [if_pos c6]; exact ⟨-1, rfl, by omega, fun h => by omega⟩
  rw [if_neg c6]
  exact ⟨(n5 - (x.f6.size : Int)), rfl, by omega, fun h => ⟨⟨(by omega), trivial, trivial, trivial, trivial, (p5 (by omega)).1, (by omega), trivial⟩, by have w5 := (p5 (by omega)).2; unfold wt184; omega⟩⟩
theorem sz_127 (x : S184) (hx : ok184 x) (b : Int) (h0 : 0 ≤ b) (h1 : b ≤ 1048576) (k : Nat) (hk : 0 ≤ k) : ∃ n, laws_szCrl.f x b = some n ∧ n ≤ b ∧ (0 ≤ n → sm184 x) := by
  obtain ⟨n, g1, g2, g3⟩ := szw_127 x hx b h0 h1 k hk
  exact ⟨n, g1, g2, fun h => (g3 h).1⟩
theorem rd184 (x : List S184) (i : Nat) (h : i < x.length) : rd_T184 x (i : Int) = x[i] := by simp [rd_T184, h]
theorem szw_68 (l : (List S184)) (hl : okList ok184 l) (b : Int) (h0 : 0 ≤ b) (h1 : b ≤ 1048576) (k : Nat) (hk : 1048577 ≤ k) : ∃ n, laws_szCrlS.f k l b = some n ∧ n ≤ b ∧ (0 ≤ n → (l.length ≤ 1048576 ∧ ∀ e ∈ l, sm184 e) ∧ n + ((((l.length + (l.map wt184).sum) : Nat) : Int) : Int) = b) := by
  have hll : l.length ≤ maxLen := hl.1
  have hm : maxLen = 9223372036854775807 := rfl
  have e : wrap64 (b - (l.length : Int)) = b - (l.length : Int) := by unfold wrap64; omega
  unfold laws_szCrlS.f
  rw [e]
  by_cases c : b - (l.length : Int) < 0
  · rw [if_pos c]; exact ⟨-1, rfl, by omega, fun h => by omega⟩
  rw [if_neg c]
  obtain ⟨n, n1, n2, n3⟩ := sz_loop_w laws_szCrlS.l0 rd_T184 (fun k e b => laws_szCrl.f e b) sm184 wt184 l 0 (by omega) (rd184 l) (fun k b i => by rw [laws_szCrlS.l0]) (fun k e b hk he g0 g1 => szw_127 e (hl.2 e he) b g0 g1 k (by omega)) k (b - (l.length : Int)) 0 (by omega) (by omega) (by omega) (by omega)
  refine ⟨n, n1, by omega, fun h => ⟨⟨by omega, fun a ha => ?_⟩, ?_⟩⟩
  · obtain ⟨j, hj, rfl⟩ := List.getElem_of_mem ha
    exact (n3 h).1 j hj (by omega)
  · have w := (n3 h).2
    rw [List.drop_zero] at w
    omega
theorem sz_68 (l : (List S184)) (hl : okList ok184 l) (b : Int) (h0 : 0 ≤ b) (h1 : b ≤ 1048576) (k : Nat) (hk : 1048577 ≤ k) : ∃ n, laws_szCrlS.f k l b = some n ∧ n ≤ b ∧ (0 ≤ n → (l.length ≤ 1048576 ∧ ∀ e ∈ l, sm184 e)) := by
  obtain ⟨n, g1, g2, g3⟩ := szw_68 l hl b h0 h1 k hk
  exact ⟨n, g1, g2, fun h => (g3 h).1⟩
def sm186 (x : S186) : Prop := x.f0.size ≤ 1048576 ∧ x.f1.size ≤ 1048576 ∧ True
def wt186 (x : S186) : Nat := x.f0.size + x.f1.size
theorem szw_128 (x : S186) (hx : ok186 x) (b : Int) (h0 : 0 ≤ b) (h1 : b ≤ 1048576) (k : Nat) (hk : 0 ≤ k) : ∃ n, laws_szAnchor.f x b = some n ∧ n ≤ b ∧ (0 ≤ n → sm186 x ∧ n + (wt186 x : Int) = b) := by
  have hm : maxLen = 9223372036854775807 := rfl
  unfold laws_szAnchor.f
  have s0 : x.f0.size ≤ maxLen := hx.1
  have e0 : wrap64 (b - (x.f0.size : Int)) = b - (x.f0.size : Int) := by unfold wrap64; omega
  rw [e0]
  by_cases c0 : b - (x.f0.size : Int) < 0
  · rw [if_pos c0]; exact ⟨-1, rfl, by omega, fun h => by omega⟩
  rw [if_neg c0]
  have s1 : x.f1.size ≤ maxLen := hx.2
  have e1 : wrap64 ((b - (x.f0.size : Int)) - (x.f1.size : Int)) = (b - (x.f0.size : Int)) - (x.f1.size : Int) := by unfold wrap64; omega
  rw [e1]
  by_cases c1 : (b - (x.f0.size : Int)) - (x.f1.size : Int) < 0
  · rw [if_pos c1]; exact ⟨-1, rfl, by omega, fun h => by omega⟩
  rw [if_neg c1]
  exact ⟨((b - (x.f0.size : Int)) - (x.f1.size : Int)), rfl, by omega, fun h => ⟨⟨(by omega), (by omega), trivial⟩, by unfold wt186; omega⟩⟩
theorem sz_128 (x : S186) (hx : ok186 x) (b : Int) (h0 : 0 ≤ b) (h1 : b ≤ 1048576) (k : Nat) (hk : 0 ≤ k) : ∃ n, laws_szAnchor.f x b = some n ∧ n ≤ b ∧ (0 ≤ n → sm186 x) := by
  obtain ⟨n, g1, g2, g3⟩ := szw_128 x hx b h0 h1 k hk
  exact ⟨n, g1, g2, fun h => (g3 h).1⟩
theorem rd186 (x : List S186) (i : Nat) (h : i < x.length) : rd_T186 x (i : Int) = x[i] := by simp [rd_T186, h]
theorem szw_69 (l : (List S186)) (hl : okList ok186 l) (b : Int) (h0 : 0 ≤ b) (h1 : b ≤ 1048576) (k : Nat) (hk : 1048577 ≤ k) : ∃ n, laws_szAnchorS.f k l b = some n ∧ n ≤ b ∧ (0 ≤ n → (l.length ≤ 1048576 ∧ ∀ e ∈ l, sm186 e) ∧ n + ((((l.length + (l.map wt186).sum) : Nat) : Int) : Int) = b) := by
  have hll : l.length ≤ maxLen := hl.1
  have hm : maxLen = 9223372036854775807 := rfl
  have e : wrap64 (b - (l.length : Int)) = b - (l.length : Int) := by unfold wrap64; omega
  unfold laws_szAnchorS.f
  rw [e]
  by_cases c : b - (l.length : Int) < 0
  · rw [if_pos c]; exact ⟨-1, rfl, by omega, fun h => by omega⟩
  rw [if_neg c]
  obtain ⟨n, n1, n2, n3⟩ := sz_loop_w laws_szAnchorS.l0 rd_T186 (fun k e b => laws_szAnchor.f e b) sm186 wt186 l 0 (by omega) (rd186 l) (fun k b i => by rw [laws_szAnchorS.l0]) (fun k e b hk he g0 g1 => szw_128 e (hl.2 e he) b g0 g1 k (by omega)) k (b - (l.length : Int)) 0 (by omega) (by omega) (by omega) (by omega)
  refine ⟨n, n1, by omega, fun h => ⟨⟨by omega, fun a ha => ?_⟩, ?_⟩⟩
  · obtain ⟨j, hj, rfl⟩ := List.getElem_of_mem ha
    exact (n3 h).1 j hj (by omega)
  · have w := (n3 h).2
    rw [List.drop_zero] at w
    omega
theorem sz_69 (l : (List S186)) (hl : okList ok186 l) (b : Int) (h0 : 0 ≤ b) (h1 : b ≤ 1048576) (k : Nat) (hk : 1048577 ≤ k) : ∃ n, laws_szAnchorS.f k l b = some n ∧ n ≤ b ∧ (0 ≤ n → (l.length ≤ 1048576 ∧ ∀ e ∈ l, sm186 e)) := by
  obtain ⟨n, g1, g2, g3⟩ := szw_69 l hl b h0 h1 k hk
  exact ⟨n, g1, g2, fun h => (g3 h).1⟩
def sm50 (x : S50) : Prop := (x.f0.length ≤ 1048576 ∧ ∀ e ∈ x.f0, sm180 e) ∧ (x.f1.length ≤ 1048576 ∧ ∀ e ∈ x.f1, sm184 e) ∧ (x.f2.length ≤ 1048576 ∧ ∀ e ∈ x.f2, sm186 e) ∧ True
def wt50 (x : S50) : Nat := (x.f0.length + (x.f0.map wt180).sum) + (x.f1.length + (x.f1.map wt184).sum) + (x.f2.length + (x.f2.map wt186).sum)
theorem szw_19 (x : S50) (hx : ok50 x) (b : Int) (h0 : 0 ≤ b) (h1 : b ≤ 1048576) (k : Nat) (hk : 2097154 ≤ k) : ∃ n, laws_szStore.f k x b = some n ∧ n ≤ b ∧ (0 ≤ n → sm50 x ∧ n + (wt50 x : Int) = b) := by
  have hm : maxLen = 9223372036854775807 := rfl
  unfold laws_szStore.f
  obtain ⟨n0, e0, b0, p0⟩ := szw_67 x.f0 (hx.1) b (by omega) (by omega) k (by omega)
  rw [e0, Option.bind_some]
  by_cases c0 : n0 < 0
  · rw [if_pos c0]; exact ⟨-1, rfl, by omega, fun h => by omega⟩
  rw [if_neg c0]
  obtain ⟨n1, e1, b1, p1⟩ := szw_68 x.f1 (hx.2.1) n0 (by omega) (by omega) k (by omega)
  rw [e1, Option.bind_some]
  by_cases c1 : n1 < 0
  · rw [if_pos c1]; exact ⟨-1, rfl, by omega, fun h => by omega⟩
  rw [if_neg c1]
  obtain ⟨n2, e2, b2, p2⟩ := szw_69 x.f2 (hx.2.2) n1 (by omega) (by omega) k (by omega)
  rw [e2, Option.bind_some]
  by_cases c2 : n2 < 0
  · rw [if_pos c2]; exact ⟨-1, rfl, by omega, fun h => by omega⟩
  rw [if_neg c2]
  exact ⟨n2, rfl, by omega, fun h => ⟨⟨(p0 (by omega)).1, (p1 (by omega)).1, (p2 (by omega)).1, trivial⟩, by have w0 := (p0 (by omega)).2; have w1 := (p1 (by omega)).2; have w2 := (p2 (by omega)).2; unfold wt50; omega⟩⟩
theorem sz_19 (x : S50) (hx : ok50 x) (b : Int) (h0 : 0 ≤ b) (h1 : b ≤ 1048576) (k : Nat) (hk : 2097154 ≤ k) : ∃ n, laws_szStore.f k x b = some n ∧ n ≤ b ∧ (0 ≤ n → sm50 x) := by
  obtain ⟨n, g1, g2, g3⟩ := szw_19 x hx b h0 h1 k hk
  exact ⟨n, g1, g2, fun h => (g3 h).1⟩
def sm52 (x : S52) : Prop := True ∧ (x.f1.length ≤ 1048576 ∧ ∀ e ∈ x.f1, True) ∧ True ∧ True ∧ True ∧ True
def wt52 (x : S52) : Nat := x.f1.length
theorem szw_70 (x : S52) (hx : ok52 x) (b : Int) (h0 : 0 ≤ b) (h1 : b ≤ 1048576) (k : Nat) (hk : 0 ≤ k) : ∃ n, laws_szRules.f x b = some n ∧ n ≤ b ∧ (0 ≤ n → sm52 x ∧ n + (wt52 x : Int) = b) := by
  have hm : maxLen = 9223372036854775807 := rfl
  unfold laws_szRules.f
  obtain ⟨n1, e1, b1, p1⟩ := szw_38 x.f1 (hx.2.1) b (by omega) (by omega) k (by omega)
  rw [e1, Option.bind_some]
  by_cases c1 : n1 < 0
  · rw [if_pos c1]; exact ⟨-1, rfl, by omega, fun h => by omega⟩
  rw [if_neg c1]
  exact ⟨n1, rfl, by omega, fun h => ⟨⟨trivial, (p1 (by omega)).1, trivial, trivial, trivial, trivial⟩, by have w1 := (p1 (by omega)).2; unfold wt52; omega⟩⟩
theorem sz_70 (x : S52) (hx : ok52 x) (b : Int) (h0 : 0 ≤ b) (h1 : b ≤ 1048576) (k : Nat) (hk : 0 ≤ k) : ∃ n, laws_szRules.f x b = some n ∧ n ≤ b ∧ (0 ≤ n → sm52 x) := by
  obtain ⟨n, g1, g2, g3⟩ := szw_70 x hx b h0 h1 k hk
  exact ⟨n, g1, g2, fun h => (g3 h).1⟩
def sm54 (x : S54) : Prop := True ∧ (x.f1.length ≤ 1048576 ∧ ∀ e ∈ x.f1, True) ∧ sm52 x.f2 ∧ True
def wt54 (x : S54) : Nat := x.f1.length + wt52 x.f2
theorem szw_20 (x : S54) (hx : ok54 x) (b : Int) (h0 : 0 ≤ b) (h1 : b ≤ 1048576) (k : Nat) (hk : 0 ≤ k) : ∃ n, laws_szPlan.f x b = some n ∧ n ≤ b ∧ (0 ≤ n → sm54 x ∧ n + (wt54 x : Int) = b) := by
  have hm : maxLen = 9223372036854775807 := rfl
  unfold laws_szPlan.f
  obtain ⟨n1, e1, b1, p1⟩ := szw_38 x.f1 (hx.2.1) b (by omega) (by omega) k (by omega)
  rw [e1, Option.bind_some]
  by_cases c1 : n1 < 0
  · rw [if_pos c1]; exact ⟨-1, rfl, by omega, fun h => by omega⟩
  rw [if_neg c1]
  obtain ⟨n2, e2, b2, p2⟩ := szw_70 x.f2 (hx.2.2) n1 (by omega) (by omega) k (by omega)
  rw [e2, Option.bind_some]
  by_cases c2 : n2 < 0
  · rw [if_pos c2]; exact ⟨-1, rfl, by omega, fun h => by omega⟩
  rw [if_neg c2]
  exact ⟨n2, rfl, by omega, fun h => ⟨⟨trivial, (p1 (by omega)).1, (p2 (by omega)).1, trivial⟩, by have w1 := (p1 (by omega)).2; have w2 := (p2 (by omega)).2; unfold wt54; omega⟩⟩
theorem sz_20 (x : S54) (hx : ok54 x) (b : Int) (h0 : 0 ≤ b) (h1 : b ≤ 1048576) (k : Nat) (hk : 0 ≤ k) : ∃ n, laws_szPlan.f x b = some n ∧ n ≤ b ∧ (0 ≤ n → sm54 x) := by
  obtain ⟨n, g1, g2, g3⟩ := szw_20 x hx b h0 h1 k hk
  exact ⟨n, g1, g2, fun h => (g3 h).1⟩
theorem to_42 (x : (List Int)) (h : (x.length ≤ 1048576 ∧ ∀ e ∈ x, True)) (k : Nat) (hk : 1048577 ≤ k) : laws_toIntS.f k x = some x := by
  have hx := h.1
  unfold laws_toIntS.f
  rw [if_pos (by omega), if_pos (by omega)]
  have := to_loop laws_toIntS.l0 rd (fun _ e => some e) id x 0 hx (rdI x) (fun k y i => by rw [laws_toIntS.l0]; rfl) (fun _ _ _ _ => rfl) k (List.replicate x.length (0 : Int)) 0 (by omega) (by simp) rfl (by omega)
  simpa using this
theorem to_94 (x : (List ByteArray)) (h : (x.length ≤ 1048576 ∧ ∀ e ∈ x, e.size ≤ 1048576)) (k : Nat) (hk : 1048577 ≤ k) : laws_toStringS.f k x = some x := by
  have hx := h.1
  unfold laws_toStringS.f
  rw [if_pos (by omega), if_pos (by omega)]
  have := to_loop laws_toStringS.l0 (rdOf ByteArray.empty) (fun _ e => some e) id x 0 hx (rdS x) (fun k y i => by rw [laws_toStringS.l0]; rfl) (fun _ _ _ _ => rfl) k (List.replicate x.length (⟨#[]⟩ : ByteArray)) 0 (by omega) (by simp) rfl (by omega)
  simpa using this
def cv180 (x : S180) : S192 := ⟨x.f0, x.f1, x.f2, x.f3, x.f4, x.f5, x.f6, x.f7, x.f8, x.f9, x.f10, x.f11, x.f12⟩
def sm192 (x : S192) : Prop := True ∧ x.f1.size ≤ 1048576 ∧ x.f2.size ≤ 1048576 ∧ True ∧ True ∧ x.f5.size ≤ 1048576 ∧ True ∧ True ∧ True ∧ (x.f9.length ≤ 1048576 ∧ ∀ e ∈ x.f9, True) ∧ (x.f10.length ≤ 1048576 ∧ ∀ e ∈ x.f10, e.size ≤ 1048576) ∧ (x.f11.length ≤ 1048576 ∧ ∀ e ∈ x.f11, e.size ≤ 1048576) ∧ x.f12.size ≤ 1048576 ∧ True
theorem to_131 (x : S180) (h : sm180 x) (k : Nat) (hk : 1048577 ≤ k) : laws_toCert.f k x = some (cv180 x) := by
  unfold laws_toCert.f
  simp only [to_42 x.f9 h.2.2.2.2.2.2.2.2.2.1 k (by omega), to_94 x.f10 h.2.2.2.2.2.2.2.2.2.2.1 k (by omega), to_94 x.f11 h.2.2.2.2.2.2.2.2.2.2.2.1 k (by omega), Option.bind_some]
  rfl
theorem smcv180 (x : S180) (h : sm180 x) : sm192 (cv180 x) := ⟨h.1, h.2.1, h.2.2.1, h.2.2.2.1, h.2.2.2.2.1, h.2.2.2.2.2.1, h.2.2.2.2.2.2.1, h.2.2.2.2.2.2.2.1, h.2.2.2.2.2.2.2.2.1, h.2.2.2.2.2.2.2.2.2.1, h.2.2.2.2.2.2.2.2.2.2.1, h.2.2.2.2.2.2.2.2.2.2.2.1, h.2.2.2.2.2.2.2.2.2.2.2.2.1, trivial⟩
theorem to_73 (x : (List S180)) (h : (x.length ≤ 1048576 ∧ ∀ e ∈ x, sm180 e)) (k : Nat) (hk : 2097154 ≤ k) : laws_toCertS.f k x = some (x.map cv180) := by
  have hx := h.1
  unfold laws_toCertS.f
  rw [if_pos (by omega), if_pos (by omega)]
  have := to_loop laws_toCertS.l0 rd_T180 (fun k e => laws_toCert.f k e) cv180 x 1048577 hx (rd180 x) (fun k y i => by rw [laws_toCertS.l0]) (fun k e hk he => to_131 e (h.2 e he) k (by omega)) k (List.replicate x.length z192) 0 (by omega) (by simp) rfl (by omega)
  simpa using this
def cv237 (x : S237) : S230 := ⟨x.f0, x.f1⟩
def sm230 (x : S230) : Prop := True ∧ True ∧ True
theorem to_184 (x : S237) (h : sm237 x) (k : Nat) (hk : 0 ≤ k) : laws_toRev.f x = some (cv237 x) := by
  unfold laws_toRev.f
  rfl
theorem smcv237 (x : S237) (h : sm237 x) : sm230 (cv237 x) := ⟨h.1, h.2.1, trivial⟩
theorem to_169 (x : (List S237)) (h : (x.length ≤ 1048576 ∧ ∀ e ∈ x, sm237 e)) (k : Nat) (hk : 1048577 ≤ k) : laws_toRevS.f k x = some (x.map cv237) := by
  have hx := h.1
  unfold laws_toRevS.f
  rw [if_pos (by omega), if_pos (by omega)]
  have := to_loop laws_toRevS.l0 rd_T237 (fun k e => laws_toRev.f e) cv237 x 0 hx (rd237 x) (fun k y i => by rw [laws_toRevS.l0]) (fun k e hk he => to_184 e (h.2 e he) k (by omega)) k (List.replicate x.length z230) 0 (by omega) (by simp) rfl (by omega)
  simpa using this
def cv184 (x : S184) : S190 := ⟨x.f0, x.f1, x.f2, x.f3, x.f4, (x.f5.map cv237), x.f6⟩
def sm190 (x : S190) : Prop := x.f0.size ≤ 1048576 ∧ True ∧ True ∧ True ∧ True ∧ (x.f5.length ≤ 1048576 ∧ ∀ e ∈ x.f5, sm230 e) ∧ x.f6.size ≤ 1048576 ∧ True
theorem to_132 (x : S184) (h : sm184 x) (k : Nat) (hk : 1048577 ≤ k) : laws_toCrl.f k x = some (cv184 x) := by
  unfold laws_toCrl.f
  simp only [to_169 x.f5 h.2.2.2.2.2.1 k (by omega), Option.bind_some]
  rfl
theorem smcv184 (x : S184) (h : sm184 x) : sm190 (cv184 x) := ⟨h.1, h.2.1, h.2.2.1, h.2.2.2.1, h.2.2.2.2.1, ⟨by show (List.map cv237 _).length ≤ _; rw [List.length_map]; exact h.2.2.2.2.2.1.1, fun e he => by
  obtain ⟨a, ha, rfl⟩ := List.mem_map.1 he
  exact smcv237 a (h.2.2.2.2.2.1.2 a ha)⟩, h.2.2.2.2.2.2.1, trivial⟩
theorem to_74 (x : (List S184)) (h : (x.length ≤ 1048576 ∧ ∀ e ∈ x, sm184 e)) (k : Nat) (hk : 2097154 ≤ k) : laws_toCrlS.f k x = some (x.map cv184) := by
  have hx := h.1
  unfold laws_toCrlS.f
  rw [if_pos (by omega), if_pos (by omega)]
  have := to_loop laws_toCrlS.l0 rd_T184 (fun k e => laws_toCrl.f k e) cv184 x 1048577 hx (rd184 x) (fun k y i => by rw [laws_toCrlS.l0]) (fun k e hk he => to_132 e (h.2 e he) k (by omega)) k (List.replicate x.length z190) 0 (by omega) (by simp) rfl (by omega)
  simpa using this
def cv186 (x : S186) : S128 := ⟨x.f0, x.f1⟩
def sm128 (x : S128) : Prop := x.f0.size ≤ 1048576 ∧ x.f1.size ≤ 1048576 ∧ True
theorem to_133 (x : S186) (h : sm186 x) (k : Nat) (hk : 0 ≤ k) : laws_toAnchor.f x = some (cv186 x) := by
  unfold laws_toAnchor.f
  rfl
theorem smcv186 (x : S186) (h : sm186 x) : sm128 (cv186 x) := ⟨h.1, h.2.1, trivial⟩
theorem to_75 (x : (List S186)) (h : (x.length ≤ 1048576 ∧ ∀ e ∈ x, sm186 e)) (k : Nat) (hk : 1048577 ≤ k) : laws_toAnchorS.f k x = some (x.map cv186) := by
  have hx := h.1
  unfold laws_toAnchorS.f
  rw [if_pos (by omega), if_pos (by omega)]
  have := to_loop laws_toAnchorS.l0 rd_T186 (fun k e => laws_toAnchor.f e) cv186 x 0 hx (rd186 x) (fun k y i => by rw [laws_toAnchorS.l0]) (fun k e hk he => to_133 e (h.2 e he) k (by omega)) k (List.replicate x.length z128) 0 (by omega) (by simp) rfl (by omega)
  simpa using this
def cv50 (x : S50) : S61 := ⟨(x.f0.map cv180), (x.f1.map cv184), (x.f2.map cv186)⟩
def sm61 (x : S61) : Prop := (x.f0.length ≤ 1048576 ∧ ∀ e ∈ x.f0, sm192 e) ∧ (x.f1.length ≤ 1048576 ∧ ∀ e ∈ x.f1, sm190 e) ∧ (x.f2.length ≤ 1048576 ∧ ∀ e ∈ x.f2, sm128 e) ∧ True
theorem to_22 (x : S50) (h : sm50 x) (k : Nat) (hk : 2097154 ≤ k) : laws_toStore.f k x = some (cv50 x) := by
  unfold laws_toStore.f
  simp only [to_73 x.f0 h.1 k (by omega), to_74 x.f1 h.2.1 k (by omega), to_75 x.f2 h.2.2.1 k (by omega), Option.bind_some]
  rfl
theorem smcv50 (x : S50) (h : sm50 x) : sm61 (cv50 x) := ⟨⟨by show (List.map cv180 _).length ≤ _; rw [List.length_map]; exact h.1.1, fun e he => by
  obtain ⟨a, ha, rfl⟩ := List.mem_map.1 he
  exact smcv180 a (h.1.2 a ha)⟩, ⟨by show (List.map cv184 _).length ≤ _; rw [List.length_map]; exact h.2.1.1, fun e he => by
  obtain ⟨a, ha, rfl⟩ := List.mem_map.1 he
  exact smcv184 a (h.2.1.2 a ha)⟩, ⟨by show (List.map cv186 _).length ≤ _; rw [List.length_map]; exact h.2.2.1.1, fun e he => by
  obtain ⟨a, ha, rfl⟩ := List.mem_map.1 he
  exact smcv186 a (h.2.2.1.2 a ha)⟩, trivial⟩
def cv52 (x : S52) : S64 := ⟨x.f0, x.f1, x.f2, x.f3, x.f4⟩
def sm64 (x : S64) : Prop := True ∧ (x.f1.length ≤ 1048576 ∧ ∀ e ∈ x.f1, True) ∧ True ∧ True ∧ True ∧ True
theorem to_76 (x : S52) (h : sm52 x) (k : Nat) (hk : 1048577 ≤ k) : laws_toRules.f k x = some (cv52 x) := by
  unfold laws_toRules.f
  simp only [to_42 x.f1 h.2.1 k (by omega), Option.bind_some]
  rfl
theorem smcv52 (x : S52) (h : sm52 x) : sm64 (cv52 x) := ⟨h.1, h.2.1, h.2.2.1, h.2.2.2.1, h.2.2.2.2.1, trivial⟩
def cv54 (x : S54) : S66 := ⟨x.f0, x.f1, (cv52 x.f2)⟩
def sm66 (x : S66) : Prop := True ∧ (x.f1.length ≤ 1048576 ∧ ∀ e ∈ x.f1, True) ∧ sm64 x.f2 ∧ True
theorem to_23 (x : S54) (h : sm54 x) (k : Nat) (hk : 1048577 ≤ k) : laws_toPlan.f k x = some (cv54 x) := by
  unfold laws_toPlan.f
  simp only [to_42 x.f1 h.2.1 k (by omega), to_76 x.f2 h.2.2.1 k (by omega), Option.bind_some]
  rfl
theorem smcv54 (x : S54) (h : sm54 x) : sm66 (cv54 x) := ⟨h.1, h.2.1, smcv52 _ h.2.2.1, trivial⟩
theorem eq_46 (x : (List Int)) (h : (x.length ≤ 1048576 ∧ ∀ e ∈ x, True)) (k : Nat) (hk : 1048577 ≤ k) : laws_eqIntS.f k x x = some true := by
  have hx := h.1
  unfold laws_eqIntS.f
  rw [if_pos rfl]
  exact eq_loop laws_eqIntS.l0 rd (fun _ _ => some true) x 0 hx (rdI x) (fun k i => by rw [laws_eqIntS.l0]; simp) (fun _ _ _ _ => rfl) k 0 (by omega) (by omega)
theorem eq_100 (x : (List ByteArray)) (h : (x.length ≤ 1048576 ∧ ∀ e ∈ x, e.size ≤ 1048576)) (k : Nat) (hk : 1048577 ≤ k) : laws_eqStringS.f k x x = some true := by
  have hx := h.1
  unfold laws_eqStringS.f
  rw [if_pos rfl]
  exact eq_loop laws_eqStringS.l0 (rdOf ByteArray.empty) (fun _ _ => some true) x 0 hx (rdS x) (fun k i => by rw [laws_eqStringS.l0]; simp) (fun _ _ _ _ => rfl) k 0 (by omega) (by omega)
theorem eq_136 (x : S192) (h : sm192 x) (k : Nat) (hk : 1048577 ≤ k) : laws_eqCert.f k x x = some true := by
  unfold laws_eqCert.f
  simp [eq_46 x.f9 h.2.2.2.2.2.2.2.2.2.1 k (by omega), eq_100 x.f10 h.2.2.2.2.2.2.2.2.2.2.1 k (by omega), eq_100 x.f11 h.2.2.2.2.2.2.2.2.2.2.2.1 k (by omega)]
theorem rd192 (x : List S192) (i : Nat) (h : i < x.length) : rd_T192 x (i : Int) = x[i] := by simp [rd_T192, h]
theorem eq_79 (x : (List S192)) (h : (x.length ≤ 1048576 ∧ ∀ e ∈ x, sm192 e)) (k : Nat) (hk : 2097154 ≤ k) : laws_eqCertS.f k x x = some true := by
  have hx := h.1
  unfold laws_eqCertS.f
  rw [if_pos rfl]
  exact eq_loop laws_eqCertS.l0 rd_T192 (fun k e => laws_eqCert.f k e e) x 1048577 hx (rd192 x) (fun k i => by rw [laws_eqCertS.l0]) (fun k e hk he => eq_136 e (h.2 e he) k (by omega)) k 0 (by omega) (by omega)
theorem eq_185 (x : S230) (h : sm230 x) (k : Nat) (hk : 0 ≤ k) : laws_eqRev.f x x = some true := by
  unfold laws_eqRev.f
  simp []
theorem rd230 (x : List S230) (i : Nat) (h : i < x.length) : rd_T230 x (i : Int) = x[i] := by simp [rd_T230, h]
theorem eq_172 (x : (List S230)) (h : (x.length ≤ 1048576 ∧ ∀ e ∈ x, sm230 e)) (k : Nat) (hk : 1048577 ≤ k) : laws_eqRevS.f k x x = some true := by
  have hx := h.1
  unfold laws_eqRevS.f
  rw [if_pos rfl]
  exact eq_loop laws_eqRevS.l0 rd_T230 (fun k e => laws_eqRev.f e e) x 0 hx (rd230 x) (fun k i => by rw [laws_eqRevS.l0]) (fun k e hk he => eq_185 e (h.2 e he) k (by omega)) k 0 (by omega) (by omega)
theorem eq_137 (x : S190) (h : sm190 x) (k : Nat) (hk : 1048577 ≤ k) : laws_eqCrl.f k x x = some true := by
  unfold laws_eqCrl.f
  simp [eq_172 x.f5 h.2.2.2.2.2.1 k (by omega)]
theorem rd190 (x : List S190) (i : Nat) (h : i < x.length) : rd_T190 x (i : Int) = x[i] := by simp [rd_T190, h]
theorem eq_80 (x : (List S190)) (h : (x.length ≤ 1048576 ∧ ∀ e ∈ x, sm190 e)) (k : Nat) (hk : 2097154 ≤ k) : laws_eqCrlS.f k x x = some true := by
  have hx := h.1
  unfold laws_eqCrlS.f
  rw [if_pos rfl]
  exact eq_loop laws_eqCrlS.l0 rd_T190 (fun k e => laws_eqCrl.f k e e) x 1048577 hx (rd190 x) (fun k i => by rw [laws_eqCrlS.l0]) (fun k e hk he => eq_137 e (h.2 e he) k (by omega)) k 0 (by omega) (by omega)
theorem eq_138 (x : S128) (h : sm128 x) (k : Nat) (hk : 0 ≤ k) : laws_eqAnchor.f x x = some true := by
  unfold laws_eqAnchor.f
  simp []
theorem rd128 (x : List S128) (i : Nat) (h : i < x.length) : rd_T128 x (i : Int) = x[i] := by simp [rd_T128, h]
theorem eq_81 (x : (List S128)) (h : (x.length ≤ 1048576 ∧ ∀ e ∈ x, sm128 e)) (k : Nat) (hk : 1048577 ≤ k) : laws_eqAnchorS.f k x x = some true := by
  have hx := h.1
  unfold laws_eqAnchorS.f
  rw [if_pos rfl]
  exact eq_loop laws_eqAnchorS.l0 rd_T128 (fun k e => laws_eqAnchor.f e e) x 0 hx (rd128 x) (fun k i => by rw [laws_eqAnchorS.l0]) (fun k e hk he => eq_138 e (h.2 e he) k (by omega)) k 0 (by omega) (by omega)
theorem eq_25 (x : S61) (h : sm61 x) (k : Nat) (hk : 2097154 ≤ k) : laws_eqStore.f k x x = some true := by
  unfold laws_eqStore.f
  simp [eq_79 x.f0 h.1 k (by omega), eq_80 x.f1 h.2.1 k (by omega), eq_81 x.f2 h.2.2.1 k (by omega)]
theorem eq_82 (x : S64) (h : sm64 x) (k : Nat) (hk : 1048577 ≤ k) : laws_eqRules.f k x x = some true := by
  unfold laws_eqRules.f
  simp [eq_46 x.f1 h.2.1 k (by omega)]
theorem eq_26 (x : S66) (h : sm66 x) (k : Nat) (hk : 1048577 ≤ k) : laws_eqPlan.f k x x = some true := by
  unfold laws_eqPlan.f
  simp [eq_46 x.f1 h.2.1 k (by omega), eq_82 x.f2 h.2.2.1 k (by omega)]
theorem mk_49 (x : (List Int)) (h : (x.length ≤ 1048576 ∧ ∀ e ∈ x, True)) (m : Int) (h0 : 0 < m) (h1 : m + 1048577 ≤ 4611686018427387904) (k : Nat) (hk : 1048577 ≤ k) : ∃ m2 r, laws_markIntS.f k x m = some (m2, r) ∧ m ≤ m2 ∧ m2 ≤ m + 1048577 ∧ (∀ k, 1048577 ≤ k → laws_heldIntS.f k r m = some m2) := by
  have hx := h.1
  have hw : (1 : Int) * ((x.length - 0 : Nat) : Int) ≤ 1048576 := by omega
  refine Exists.elim (mark_loop True laws_markIntS.l0 laws_heldIntS.l0 x (fun e => True) 0 1 4611686018427387903 hx (fun k l m i e hK hi hl hle hp hm0 hm1 => ?_) (fun k l m => ?_) ?_ x.length k x m 0 rfl (Nat.zero_le _) rfl (fun j e _ he => h.2 e (List.mem_of_getElem? he)) h0 (by omega) (by omega)) (fun m2 HM => ?_)
  · have c1 : (i : Int) < (x.length : Int) := by omega
    have c0 : 0 ≤ (i : Int) := by omega
    have ew : wrap64 ((i : Int) + 1) = ((i + 1 : Nat) : Int) := by rw [w64 (by omega) (by omega)]; rfl
    have re : rd l (i : Int) = e := by rw [rdI l i (by omega)]; exact Option.some.inj ((List.getElem?_eq_getElem (by omega)).symm.trans hle)
    have rs : ∀ y, rd (l.set i y) (i : Int) = y := fun y => by rw [rdI _ i (by rw [List.length_set]; omega), List.getElem_set_self]
    refine ⟨m, m + 1, ?_, by omega, by omega, fun _ k' l2 hK' hl2 he2 => ?_⟩
    · rw [laws_markIntS.l0]
      simp only [lets, c1, c0, ew, re, rs, Int.toNat_natCast, List.set_set, if_true, Option.bind_some, show wrap64 (m + 1) = m + 1 from w64 (by omega) (by omega)]
    · have c2 : (i : Int) < (l2.length : Int) := by omega
      have re2 : rd l2 (i : Int) = m := by rw [rdI l2 i (by omega)]; exact Option.some.inj ((List.getElem?_eq_getElem (by omega)).symm.trans he2)
      rw [laws_heldIntS.l0]
      simp only [c2, c0, ew, re2, if_true, if_false, Option.bind_some, show wrap64 (m + 1) = m + 1 from w64 (by omega) (by omega)]
  · rw [laws_markIntS.l0, if_neg (by omega)]
  · intro _ k l2 m hl2
    rw [laws_heldIntS.l0, if_neg (by omega)]
  · obtain ⟨r, g1, g2, g3, g4, _, g6⟩ := HM
    refine ⟨m2, r, by unfold laws_markIntS.f; exact g1, g2, by omega, fun k' hk' => by unfold laws_heldIntS.f; exact g6 trivial k' (by omega)⟩
def txt (m : Int) : ByteArray := (laws_markText.f 64 m).getD ByteArray.empty
theorem text_loop : ∀ (n : Nat) (m : Int) (s : ByteArray), 0 ≤ m → m ≤ 4611686018427387904 → m < 10 ^ n → s.size + n ≤ 4611686018427387904 → ∃ t, ∀ k, n < k → laws_markText.l0 k m s = some t
  | 0, m, s, h0, hB, h1, hs => by
    obtain rfl : m = 0 := by omega
    have e1 : (⟨#[109]⟩ : ByteArray).size = 1 := rfl
    refine ⟨(⟨#[109]⟩ : ByteArray) ++ s, fun k hk => ?_⟩
    obtain ⟨k, rfl⟩ : ∃ q, k = q + 1 := ⟨k - 1, by omega⟩
    rw [laws_markText.l0, if_neg (by omega), if_pos (by omega)]
  | n + 1, m, s, h0, hB, h1, hs => by
    by_cases c : 0 < m
    · have e2 : (strOfNums ([((wrap64 (48 + (Int.tmod m 10))) % 256)] : List Int)).size = 1 := strOfNums_size _
      have e3 : Int.tdiv m 10 = m / 10 := Int.tdiv_eq_ediv_of_nonneg h0
      have e5 : m / 10 < 10 ^ n := by
        have : (10 : Int) ^ (n + 1) = 10 ^ n * 10 := Int.pow_succ 10 n
        omega
      have hw : wrap64 (Int.tdiv m 10) = m / 10 := by rw [e3]; unfold wrap64; omega
      · obtain ⟨t, ht⟩ := text_loop n (m / 10) ((strOfNums ([((wrap64 (48 + (Int.tmod m 10))) % 256)] : List Int)) ++ s) (by omega) (by omega) e5 (by rw [ByteArray.size_append, e2]; omega)
        refine ⟨t, fun k hk => ?_⟩
        obtain ⟨k, rfl⟩ : ∃ q, k = q + 1 := ⟨k - 1, by omega⟩
        rw [laws_markText.l0, if_pos c, if_pos (by omega), hw]
        exact ht k (by omega)
    · obtain rfl : m = 0 := by omega
      have e1 : (⟨#[109]⟩ : ByteArray).size = 1 := rfl
      refine ⟨(⟨#[109]⟩ : ByteArray) ++ s, fun k hk => ?_⟩
      obtain ⟨k, rfl⟩ : ∃ q, k = q + 1 := ⟨k - 1, by omega⟩
      rw [laws_markText.l0, if_neg (by omega), if_pos (by omega)]
theorem text (m : Int) (h0 : 0 < m) (h1 : m ≤ 4611686018427387904) (k : Nat) (hk : 64 ≤ k) : laws_markText.f k m = some (txt m) := by
  obtain ⟨t, ht⟩ := text_loop 19 m (⟨#[]⟩ : ByteArray) (by omega) h1 (by omega) (by show 0 + 19 ≤ _; omega)
  have e : ∀ k, 64 ≤ k → laws_markText.f k m = some t := fun k hk => by
    unfold laws_markText.f
    rw [if_neg (by omega)]
    exact ht k (by omega)
  rw [e k hk]
  unfold txt
  rw [e 64 (by omega)]
  rfl
theorem mk_101 (x : (List ByteArray)) (h : (x.length ≤ 1048576 ∧ ∀ e ∈ x, e.size ≤ 1048576)) (m : Int) (h0 : 0 < m) (h1 : m + 1048577 ≤ 4611686018427387904) (k : Nat) (hk : 1048641 ≤ k) : ∃ m2 r, laws_markStringS.f k x m = some (m2, r) ∧ m ≤ m2 ∧ m2 ≤ m + 1048577 ∧ (∀ k, 1048641 ≤ k → laws_heldStringS.f k r m = some m2) := by
  have hx := h.1
  have hw : (1 : Int) * ((x.length - 0 : Nat) : Int) ≤ 1048576 := by omega
  refine Exists.elim (mark_loop True laws_markStringS.l0 laws_heldStringS.l0 x (fun e => e.size ≤ 1048576) 64 1 4611686018427387903 hx (fun k l m i e hK hi hl hle hp hm0 hm1 => ?_) (fun k l m => ?_) ?_ x.length k x m 0 rfl (Nat.zero_le _) rfl (fun j e _ he => h.2 e (List.mem_of_getElem? he)) h0 (by omega) (by omega)) (fun m2 HM => ?_)
  · have c1 : (i : Int) < (x.length : Int) := by omega
    have c0 : 0 ≤ (i : Int) := by omega
    have ew : wrap64 ((i : Int) + 1) = ((i + 1 : Nat) : Int) := by rw [w64 (by omega) (by omega)]; rfl
    have re : (rdOf ByteArray.empty) l (i : Int) = e := by rw [rdS l i (by omega)]; exact Option.some.inj ((List.getElem?_eq_getElem (by omega)).symm.trans hle)
    have rs : ∀ y, (rdOf ByteArray.empty) (l.set i y) (i : Int) = y := fun y => by rw [rdS _ i (by rw [List.length_set]; omega), List.getElem_set_self]
    refine ⟨(txt (m)), m + 1, ?_, by omega, by omega, fun _ k' l2 hK' hl2 he2 => ?_⟩
    · rw [laws_markStringS.l0]
      simp only [lets, c1, c0, ew, re, rs, Int.toNat_natCast, List.set_set, if_true, Option.bind_some, text (m) (by omega) (by omega) k (by omega), show wrap64 (m + 1) = m + 1 from w64 (by omega) (by omega)]
    · have c2 : (i : Int) < (l2.length : Int) := by omega
      have re2 : (rdOf ByteArray.empty) l2 (i : Int) = (txt (m)) := by rw [rdS l2 i (by omega)]; exact Option.some.inj ((List.getElem?_eq_getElem (by omega)).symm.trans he2)
      rw [laws_heldStringS.l0]
      simp only [c2, c0, ew, re2, if_true, if_false, Option.bind_some, text (m) (by omega) (by omega) k' (by omega), show wrap64 (m + 1) = m + 1 from w64 (by omega) (by omega)]
  · rw [laws_markStringS.l0, if_neg (by omega)]
  · intro _ k l2 m hl2
    rw [laws_heldStringS.l0, if_neg (by omega)]
  · obtain ⟨r, g1, g2, g3, g4, _, g6⟩ := HM
    refine ⟨m2, r, by unfold laws_markStringS.f; exact g1, g2, by omega, fun k' hk' => by unfold laws_heldStringS.f; exact g6 trivial k' (by omega)⟩
theorem mk_83 (x : (List S192)) (h : (x.length ≤ 1048576 ∧ ∀ e ∈ x, sm192 e)) (m : Int) (h0 : 0 < m) (h1 : m + 3298551660557 ≤ 4611686018427387904) (k : Nat) (hk : 2097218 ≤ k) : ∃ m2 r, laws_markCertS.f k x m = some (m2, r) ∧ m ≤ m2 ∧ m2 ≤ m + 3298551660557 ∧ (∀ k, 2097218 ≤ k → laws_heldCertS.f k r m = some m2) := by
  have hx := h.1
  have hw : (3145741 : Int) * ((x.length - 0 : Nat) : Int) ≤ 3298548514816 := by omega
  refine Exists.elim (mark_loop True laws_markCertS.l0 laws_heldCertS.l0 x sm192 1048641 3145741 4611686018424242163 hx (fun k l m i e hK hi hl hle hp hm0 hm1 => ?_) (fun k l m => ?_) ?_ x.length k x m 0 rfl (Nat.zero_le _) rfl (fun j e _ he => h.2 e (List.mem_of_getElem? he)) h0 (by omega) (by omega)) (fun m2 HM => ?_)
  · have c1 : (i : Int) < (x.length : Int) := by omega
    have c0 : 0 ≤ (i : Int) := by omega
    have ew : wrap64 ((i : Int) + 1) = ((i + 1 : Nat) : Int) := by rw [w64 (by omega) (by omega)]; rfl
    have re : rd_T192 l (i : Int) = e := by rw [rd192 l i (by omega)]; exact Option.some.inj ((List.getElem?_eq_getElem (by omega)).symm.trans hle)
    obtain ⟨m0, r0, e0, a0, b0, d0⟩ := mk_49 e.f9 hp.2.2.2.2.2.2.2.2.2.1 (m + 1 + 1 + 1 + 1 + 1 + 1 + 1 + 1 + 1) (by omega) (by omega) k (by omega)
    obtain ⟨m1, r1, e1, a1, b1, d1⟩ := mk_101 e.f10 hp.2.2.2.2.2.2.2.2.2.2.1 (m0) (by omega) (by omega) k (by omega)
    obtain ⟨m2, r2, e2, a2, b2, d2⟩ := mk_101 e.f11 hp.2.2.2.2.2.2.2.2.2.2.2.1 (m1) (by omega) (by omega) k (by omega)
    have rs : ∀ y, rd_T192 (l.set i y) (i : Int) = y := fun y => by rw [rd192 _ i (by rw [List.length_set]; omega), List.getElem_set_self]
    refine ⟨(⟨m, (txt (m + 1)), (txt (m + 1 + 1)), m + 1 + 1 + 1, m + 1 + 1 + 1 + 1, (txt (m + 1 + 1 + 1 + 1 + 1)), (Int.tmod (m + 1 + 1 + 1 + 1 + 1 + 1) 3 == 0), m + 1 + 1 + 1 + 1 + 1 + 1 + 1, m + 1 + 1 + 1 + 1 + 1 + 1 + 1 + 1, r0, r1, r2, (txt (m2))⟩ : S192), m2 + 1, ?_, by omega, by omega, fun _ k' l2 hK' hl2 he2 => ?_⟩
    · rw [laws_markCertS.l0]
      simp only [lets, c1, c0, ew, re, rs, Int.toNat_natCast, List.set_set, if_true, Option.bind_some, u192_0_3, u192_10_73, u192_11_73, u192_12_9, u192_1_9, u192_2_9, u192_3_3, u192_4_3, u192_5_9, u192_6_4, u192_7_3, u192_8_3, u192_9_24, show wrap64 (m + 1) = m + 1 from w64 (by omega) (by omega), text (m + 1) (by omega) (by omega) k (by omega), show wrap64 (m + 1 + 1) = m + 1 + 1 from w64 (by omega) (by omega), text (m + 1 + 1) (by omega) (by omega) k (by omega), show wrap64 (m + 1 + 1 + 1) = m + 1 + 1 + 1 from w64 (by omega) (by omega), show wrap64 (m + 1 + 1 + 1 + 1) = m + 1 + 1 + 1 + 1 from w64 (by omega) (by omega), show wrap64 (m + 1 + 1 + 1 + 1 + 1) = m + 1 + 1 + 1 + 1 + 1 from w64 (by omega) (by omega), text (m + 1 + 1 + 1 + 1 + 1) (by omega) (by omega) k (by omega), show wrap64 (m + 1 + 1 + 1 + 1 + 1 + 1) = m + 1 + 1 + 1 + 1 + 1 + 1 from w64 (by omega) (by omega), show wrap64 (m + 1 + 1 + 1 + 1 + 1 + 1 + 1) = m + 1 + 1 + 1 + 1 + 1 + 1 + 1 from w64 (by omega) (by omega), show wrap64 (m + 1 + 1 + 1 + 1 + 1 + 1 + 1 + 1) = m + 1 + 1 + 1 + 1 + 1 + 1 + 1 + 1 from w64 (by omega) (by omega), show wrap64 (m + 1 + 1 + 1 + 1 + 1 + 1 + 1 + 1 + 1) = m + 1 + 1 + 1 + 1 + 1 + 1 + 1 + 1 + 1 from w64 (by omega) (by omega), e0, e1, e2, text (m2) (by omega) (by omega) k (by omega), show wrap64 (m2 + 1) = m2 + 1 from w64 (by omega) (by omega)]
    · have c2 : (i : Int) < (l2.length : Int) := by omega
      have re2 : rd_T192 l2 (i : Int) = (⟨m, (txt (m + 1)), (txt (m + 1 + 1)), m + 1 + 1 + 1, m + 1 + 1 + 1 + 1, (txt (m + 1 + 1 + 1 + 1 + 1)), (Int.tmod (m + 1 + 1 + 1 + 1 + 1 + 1) 3 == 0), m + 1 + 1 + 1 + 1 + 1 + 1 + 1, m + 1 + 1 + 1 + 1 + 1 + 1 + 1 + 1, r0, r1, r2, (txt (m2))⟩ : S192) := by rw [rd192 l2 i (by omega)]; exact Option.some.inj ((List.getElem?_eq_getElem (by omega)).symm.trans he2)
      rw [laws_heldCertS.l0]
      simp only [c2, c0, ew, re2, if_true, if_false, Option.bind_some, show wrap64 (m + 1) = m + 1 from w64 (by omega) (by omega), text (m + 1) (by omega) (by omega) k' (by omega), show wrap64 (m + 1 + 1) = m + 1 + 1 from w64 (by omega) (by omega), text (m + 1 + 1) (by omega) (by omega) k' (by omega), show wrap64 (m + 1 + 1 + 1) = m + 1 + 1 + 1 from w64 (by omega) (by omega), show wrap64 (m + 1 + 1 + 1 + 1) = m + 1 + 1 + 1 + 1 from w64 (by omega) (by omega), show wrap64 (m + 1 + 1 + 1 + 1 + 1) = m + 1 + 1 + 1 + 1 + 1 from w64 (by omega) (by omega), text (m + 1 + 1 + 1 + 1 + 1) (by omega) (by omega) k' (by omega), show wrap64 (m + 1 + 1 + 1 + 1 + 1 + 1) = m + 1 + 1 + 1 + 1 + 1 + 1 from w64 (by omega) (by omega), show wrap64 (m + 1 + 1 + 1 + 1 + 1 + 1 + 1) = m + 1 + 1 + 1 + 1 + 1 + 1 + 1 from w64 (by omega) (by omega), show wrap64 (m + 1 + 1 + 1 + 1 + 1 + 1 + 1 + 1) = m + 1 + 1 + 1 + 1 + 1 + 1 + 1 + 1 from w64 (by omega) (by omega), show wrap64 (m + 1 + 1 + 1 + 1 + 1 + 1 + 1 + 1 + 1) = m + 1 + 1 + 1 + 1 + 1 + 1 + 1 + 1 + 1 from w64 (by omega) (by omega), d0 k' (by omega), show ¬ m0 < 0 by omega, d1 k' (by omega), show ¬ m1 < 0 by omega, d2 k' (by omega), show ¬ m2 < 0 by omega, text (m2) (by omega) (by omega) k' (by omega), show wrap64 (m2 + 1) = m2 + 1 from w64 (by omega) (by omega)]
  · rw [laws_markCertS.l0, if_neg (by omega)]
  · intro _ k l2 m hl2
    rw [laws_heldCertS.l0, if_neg (by omega)]
  · obtain ⟨r, g1, g2, g3, g4, _, g6⟩ := HM
    refine ⟨m2, r, by unfold laws_markCertS.f; exact g1, g2, by omega, fun k' hk' => by unfold laws_heldCertS.f; exact g6 trivial k' (by omega)⟩
theorem mk_139 (x : (List S230)) (h : (x.length ≤ 1048576 ∧ ∀ e ∈ x, sm230 e)) (m : Int) (h0 : 0 < m) (h1 : m + 2097154 ≤ 4611686018427387904) (k : Nat) (hk : 1048577 ≤ k) : ∃ m2 r, laws_markRevS.f k x m = some (m2, r) ∧ m ≤ m2 ∧ m2 ≤ m + 2097154 ∧ (∀ k, 1048577 ≤ k → laws_heldRevS.f k r m = some m2) := by
  have hx := h.1
  have hw : (2 : Int) * ((x.length - 0 : Nat) : Int) ≤ 2097152 := by omega
  refine Exists.elim (mark_loop True laws_markRevS.l0 laws_heldRevS.l0 x sm230 0 2 4611686018427387902 hx (fun k l m i e hK hi hl hle hp hm0 hm1 => ?_) (fun k l m => ?_) ?_ x.length k x m 0 rfl (Nat.zero_le _) rfl (fun j e _ he => h.2 e (List.mem_of_getElem? he)) h0 (by omega) (by omega)) (fun m2 HM => ?_)
  · have c1 : (i : Int) < (x.length : Int) := by omega
    have c0 : 0 ≤ (i : Int) := by omega
    have ew : wrap64 ((i : Int) + 1) = ((i + 1 : Nat) : Int) := by rw [w64 (by omega) (by omega)]; rfl
    have re : rd_T230 l (i : Int) = e := by rw [rd230 l i (by omega)]; exact Option.some.inj ((List.getElem?_eq_getElem (by omega)).symm.trans hle)
    have rs : ∀ y, rd_T230 (l.set i y) (i : Int) = y := fun y => by rw [rd230 _ i (by rw [List.length_set]; omega), List.getElem_set_self]
    refine ⟨(⟨m, m + 1⟩ : S230), m + 1 + 1, ?_, by omega, by omega, fun _ k' l2 hK' hl2 he2 => ?_⟩
    · rw [laws_markRevS.l0]
      simp only [lets, c1, c0, ew, re, rs, Int.toNat_natCast, List.set_set, if_true, Option.bind_some, u230_0_3, u230_1_3, show wrap64 (m + 1) = m + 1 from w64 (by omega) (by omega), show wrap64 (m + 1 + 1) = m + 1 + 1 from w64 (by omega) (by omega)]
    · have c2 : (i : Int) < (l2.length : Int) := by omega
      have re2 : rd_T230 l2 (i : Int) = (⟨m, m + 1⟩ : S230) := by rw [rd230 l2 i (by omega)]; exact Option.some.inj ((List.getElem?_eq_getElem (by omega)).symm.trans he2)
      rw [laws_heldRevS.l0]
      simp only [c2, c0, ew, re2, if_true, if_false, Option.bind_some, show wrap64 (m + 1) = m + 1 from w64 (by omega) (by omega), show wrap64 (m + 1 + 1) = m + 1 + 1 from w64 (by omega) (by omega)]
  · rw [laws_markRevS.l0, if_neg (by omega)]
  · intro _ k l2 m hl2
    rw [laws_heldRevS.l0, if_neg (by omega)]
  · obtain ⟨r, g1, g2, g3, g4, _, g6⟩ := HM
    refine ⟨m2, r, by unfold laws_markRevS.f; exact g1, g2, by omega, fun k' hk' => by unfold laws_heldRevS.f; exact g6 trivial k' (by omega)⟩
theorem mk_84 (x : (List S190)) (h : (x.length ≤ 1048576 ∧ ∀ e ∈ x, sm190 e)) (m : Int) (h0 : 0 < m) (h1 : m + 2199033741320 ≤ 4611686018427387904) (k : Nat) (hk : 2097154 ≤ k) : ∃ m2 r, laws_markCrlS.f k x m = some (m2, r) ∧ m ≤ m2 ∧ m2 ≤ m + 2199033741320 ∧ (∀ k, 2097154 ≤ k → laws_heldCrlS.f k r m = some m2) := by
  have hx := h.1
  have hw : (2097160 : Int) * ((x.length - 0 : Nat) : Int) ≤ 2199031644160 := by omega
  refine Exists.elim (mark_loop True laws_markCrlS.l0 laws_heldCrlS.l0 x sm190 1048577 2097160 4611686018425290744 hx (fun k l m i e hK hi hl hle hp hm0 hm1 => ?_) (fun k l m => ?_) ?_ x.length k x m 0 rfl (Nat.zero_le _) rfl (fun j e _ he => h.2 e (List.mem_of_getElem? he)) h0 (by omega) (by omega)) (fun m2 HM => ?_)
  · have c1 : (i : Int) < (x.length : Int) := by omega
    have c0 : 0 ≤ (i : Int) := by omega
    have ew : wrap64 ((i : Int) + 1) = ((i + 1 : Nat) : Int) := by rw [w64 (by omega) (by omega)]; rfl
    have re : rd_T190 l (i : Int) = e := by rw [rd190 l i (by omega)]; exact Option.some.inj ((List.getElem?_eq_getElem (by omega)).symm.trans hle)
    obtain ⟨m0, r0, e0, a0, b0, d0⟩ := mk_139 e.f5 hp.2.2.2.2.2.1 (m + 1 + 1 + 1 + 1 + 1) (by omega) (by omega) k (by omega)
    have rs : ∀ y, rd_T190 (l.set i y) (i : Int) = y := fun y => by rw [rd190 _ i (by rw [List.length_set]; omega), List.getElem_set_self]
    refine ⟨(⟨(txt (m)), m + 1, m + 1 + 1, m + 1 + 1 + 1, m + 1 + 1 + 1 + 1, r0, (txt (m0))⟩ : S190), m0 + 1, ?_, by omega, by omega, fun _ k' l2 hK' hl2 he2 => ?_⟩
    · rw [laws_markCrlS.l0]
      simp only [lets, c1, c0, ew, re, rs, Int.toNat_natCast, List.set_set, if_true, Option.bind_some, u190_0_9, u190_1_3, u190_2_3, u190_3_3, u190_4_3, u190_5_188, u190_6_9, text (m) (by omega) (by omega) k (by omega), show wrap64 (m + 1) = m + 1 from w64 (by omega) (by omega), show wrap64 (m + 1 + 1) = m + 1 + 1 from w64 (by omega) (by omega), show wrap64 (m + 1 + 1 + 1) = m + 1 + 1 + 1 from w64 (by omega) (by omega), show wrap64 (m + 1 + 1 + 1 + 1) = m + 1 + 1 + 1 + 1 from w64 (by omega) (by omega), show wrap64 (m + 1 + 1 + 1 + 1 + 1) = m + 1 + 1 + 1 + 1 + 1 from w64 (by omega) (by omega), e0, text (m0) (by omega) (by omega) k (by omega), show wrap64 (m0 + 1) = m0 + 1 from w64 (by omega) (by omega)]
    · have c2 : (i : Int) < (l2.length : Int) := by omega
      have re2 : rd_T190 l2 (i : Int) = (⟨(txt (m)), m + 1, m + 1 + 1, m + 1 + 1 + 1, m + 1 + 1 + 1 + 1, r0, (txt (m0))⟩ : S190) := by rw [rd190 l2 i (by omega)]; exact Option.some.inj ((List.getElem?_eq_getElem (by omega)).symm.trans he2)
      rw [laws_heldCrlS.l0]
      simp only [c2, c0, ew, re2, if_true, if_false, Option.bind_some, text (m) (by omega) (by omega) k' (by omega), show wrap64 (m + 1) = m + 1 from w64 (by omega) (by omega), show wrap64 (m + 1 + 1) = m + 1 + 1 from w64 (by omega) (by omega), show wrap64 (m + 1 + 1 + 1) = m + 1 + 1 + 1 from w64 (by omega) (by omega), show wrap64 (m + 1 + 1 + 1 + 1) = m + 1 + 1 + 1 + 1 from w64 (by omega) (by omega), show wrap64 (m + 1 + 1 + 1 + 1 + 1) = m + 1 + 1 + 1 + 1 + 1 from w64 (by omega) (by omega), d0 k' (by omega), show ¬ m0 < 0 by omega, text (m0) (by omega) (by omega) k' (by omega), show wrap64 (m0 + 1) = m0 + 1 from w64 (by omega) (by omega)]
  · rw [laws_markCrlS.l0, if_neg (by omega)]
  · intro _ k l2 m hl2
    rw [laws_heldCrlS.l0, if_neg (by omega)]
  · obtain ⟨r, g1, g2, g3, g4, _, g6⟩ := HM
    refine ⟨m2, r, by unfold laws_markCrlS.f; exact g1, g2, by omega, fun k' hk' => by unfold laws_heldCrlS.f; exact g6 trivial k' (by omega)⟩
theorem mk_85 (x : (List S128)) (h : (x.length ≤ 1048576 ∧ ∀ e ∈ x, sm128 e)) (m : Int) (h0 : 0 < m) (h1 : m + 2097154 ≤ 4611686018427387904) (k : Nat) (hk : 1048641 ≤ k) : ∃ m2 r, laws_markAnchorS.f k x m = some (m2, r) ∧ m ≤ m2 ∧ m2 ≤ m + 2097154 ∧ (∀ k, 1048641 ≤ k → laws_heldAnchorS.f k r m = some m2) := by
  have hx := h.1
  have hw : (2 : Int) * ((x.length - 0 : Nat) : Int) ≤ 2097152 := by omega
  refine Exists.elim (mark_loop True laws_markAnchorS.l0 laws_heldAnchorS.l0 x sm128 64 2 4611686018427387902 hx (fun k l m i e hK hi hl hle hp hm0 hm1 => ?_) (fun k l m => ?_) ?_ x.length k x m 0 rfl (Nat.zero_le _) rfl (fun j e _ he => h.2 e (List.mem_of_getElem? he)) h0 (by omega) (by omega)) (fun m2 HM => ?_)
  · have c1 : (i : Int) < (x.length : Int) := by omega
    have c0 : 0 ≤ (i : Int) := by omega
    have ew : wrap64 ((i : Int) + 1) = ((i + 1 : Nat) : Int) := by rw [w64 (by omega) (by omega)]; rfl
    have re : rd_T128 l (i : Int) = e := by rw [rd128 l i (by omega)]; exact Option.some.inj ((List.getElem?_eq_getElem (by omega)).symm.trans hle)
    have rs : ∀ y, rd_T128 (l.set i y) (i : Int) = y := fun y => by rw [rd128 _ i (by rw [List.length_set]; omega), List.getElem_set_self]
    refine ⟨(⟨(txt (m)), (txt (m + 1))⟩ : S128), m + 1 + 1, ?_, by omega, by omega, fun _ k' l2 hK' hl2 he2 => ?_⟩
    · rw [laws_markAnchorS.l0]
      simp only [lets, c1, c0, ew, re, rs, Int.toNat_natCast, List.set_set, if_true, Option.bind_some, u128_0_9, u128_1_9, text (m) (by omega) (by omega) k (by omega), show wrap64 (m + 1) = m + 1 from w64 (by omega) (by omega), text (m + 1) (by omega) (by omega) k (by omega), show wrap64 (m + 1 + 1) = m + 1 + 1 from w64 (by omega) (by omega)]
    · have c2 : (i : Int) < (l2.length : Int) := by omega
      have re2 : rd_T128 l2 (i : Int) = (⟨(txt (m)), (txt (m + 1))⟩ : S128) := by rw [rd128 l2 i (by omega)]; exact Option.some.inj ((List.getElem?_eq_getElem (by omega)).symm.trans he2)
      rw [laws_heldAnchorS.l0]
      simp only [c2, c0, ew, re2, if_true, if_false, Option.bind_some, text (m) (by omega) (by omega) k' (by omega), show wrap64 (m + 1) = m + 1 from w64 (by omega) (by omega), text (m + 1) (by omega) (by omega) k' (by omega), show wrap64 (m + 1 + 1) = m + 1 + 1 from w64 (by omega) (by omega)]
  · rw [laws_markAnchorS.l0, if_neg (by omega)]
  · intro _ k l2 m hl2
    rw [laws_heldAnchorS.l0, if_neg (by omega)]
  · obtain ⟨r, g1, g2, g3, g4, _, g6⟩ := HM
    refine ⟨m2, r, by unfold laws_markAnchorS.f; exact g1, g2, by omega, fun k' hk' => by unfold laws_heldAnchorS.f; exact g6 trivial k' (by omega)⟩
theorem mk_27 (x : S61) (h : sm61 x) (m : Int) (h0 : 0 < m) (h1 : m + 5497587499031 ≤ 4611686018427387904) (k : Nat) (hk : 2097218 ≤ k) : ∃ m2 r0 r1 r2, laws_markStore.f k x m = some (m2, r0, r1, r2) ∧ m ≤ m2 ∧ m2 ≤ m + 5497587499031 ∧ (∀ k, 2097218 ≤ k → laws_heldStore.f k (⟨r0, r1, r2⟩ : S61) m = some m2) := by
  obtain ⟨m0, r0_0, e0, a0, b0, c0⟩ := mk_83 x.f0 h.1 m (by omega) (by omega) k (by omega)
  obtain ⟨m1, r1_0, e1, a1, b1, c1⟩ := mk_84 x.f1 h.2.1 m0 (by omega) (by omega) k (by omega)
  obtain ⟨m2, r2_0, e2, a2, b2, c2⟩ := mk_85 x.f2 h.2.2.1 m1 (by omega) (by omega) k (by omega)
  refine ⟨m2, r0_0, r1_0, r2_0, ?_, by omega, by omega, fun k hk => ?_⟩
  · unfold laws_markStore.f
    simp only [e0, e1, e2, Option.bind_some]
  · unfold laws_heldStore.f
    simp only [c0 k (by omega), c1 k (by omega), c2 k (by omega), show ¬ m0 < 0 by omega, show ¬ m1 < 0 by omega, show ¬ m2 < 0 by omega, if_false, Option.bind_some]
theorem mk_86 (x : S64) (h : sm64 x) (m : Int) (h0 : 0 < m) (h1 : m + 1048577 ≤ 4611686018427387904) (k : Nat) (hk : 1048577 ≤ k) : ∃ m2 r0, laws_markRules.f k x m = some (m2, r0) ∧ m ≤ m2 ∧ m2 ≤ m + 1048577 ∧ True := by
  obtain ⟨m0, r0_0, e0, a0, b0, c0⟩ := mk_49 x.f1 h.2.1 m (by omega) (by omega) k (by omega)
  refine ⟨m0, r0_0, ?_, by omega, by omega, trivial⟩
  · unfold laws_markRules.f
    simp only [e0, Option.bind_some]
theorem mk_28 (x : S66) (h : sm66 x) (m : Int) (h0 : 0 < m) (h1 : m + 2097154 ≤ 4611686018427387904) (k : Nat) (hk : 1048577 ≤ k) : ∃ m2 r0 r1, laws_markPlan.f k x m = some (m2, r0, r1) ∧ m ≤ m2 ∧ m2 ≤ m + 2097154 ∧ True := by
  obtain ⟨m0, r0_0, e0, a0, b0, c0⟩ := mk_49 x.f1 h.2.1 m (by omega) (by omega) k (by omega)
  obtain ⟨m1, r1_0, e1, a1, b1, c1⟩ := mk_86 x.f2 h.2.2.1 m0 (by omega) (by omega) k (by omega)
  refine ⟨m1, r0_0, r1_0, ?_, by omega, by omega, trivial⟩
  · unfold laws_markPlan.f
    simp only [e0, e1, Option.bind_some]
end Go.Proofs.Ytoaoncnbimcdgaa.FamFnExactTrusting

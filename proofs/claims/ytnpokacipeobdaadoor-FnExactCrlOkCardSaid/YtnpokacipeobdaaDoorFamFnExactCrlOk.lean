/- What the law's own helpers do: they measure, copy, compare, mark. Plain lemmas, no condition. -/
import Derived.Test.YtnpokacipeobdaaDoorSaidFnExactCrlOk
import Derived.Test.YtnpokacipeobdaaDoorZMark
namespace Go.Proofs.YtnpokacipeobdaaDoor.FamFnExactCrlOk
open Go.RowKit Go.Proofs.YtnpokacipeobdaaDoorW.PrintWords Go.Proofs.YtnpokacipeobdaaDoorW.PrintLast Go.Proofs.YtnpokacipeobdaaDoor.ZOpen Go.Proofs.YtnpokacipeobdaaDoor.Z Go.Proofs.YtnpokacipeobdaaDoor.F
open Go.Proofs.YtnpokacipeobdaaDoor.SaidFnExactCrlOk Go.Proofs.YtnpokacipeobdaaDoor.ZP
set_option linter.unusedVariables false
set_option linter.unusedSimpArgs false
set_option maxRecDepth 100000

def sm107 (x : S107) : Prop := True ∧ True ∧ True
theorem rd107 (x : List S107) (i : Nat) (h : i < x.length) : rd_T107 x (i : Int) = x[i] := by simp [rd_T107, h]
theorem szw_30 (l : (List S107)) (hl : okList ok107 l) (b : Int) (h0 : 0 ≤ b) (h1 : b ≤ 1048576) (k : Nat) (hk : 0 ≤ k) : ∃ n, laws_szRevS.f l b = some n ∧ n ≤ b ∧ (0 ≤ n → (l.length ≤ 1048576 ∧ ∀ e ∈ l, sm107 e) ∧ n + (((l.length : Nat) : Int) : Int) = b) := by
  have hll : l.length ≤ maxLen := hl.1
  have hm : maxLen = 9223372036854775807 := rfl
  have e : wrap64 (b - (l.length : Int)) = b - (l.length : Int) := by unfold wrap64; omega
  unfold laws_szRevS.f
  rw [e]
  by_cases c : b - (l.length : Int) < 0
  · rw [if_pos c]; exact ⟨-1, rfl, by omega, fun h => by omega⟩
  rw [if_neg c]
  exact ⟨_, rfl, by omega, fun h => ⟨⟨by omega, fun e he => by simp [sm107]⟩, by omega⟩⟩
theorem sz_30 (l : (List S107)) (hl : okList ok107 l) (b : Int) (h0 : 0 ≤ b) (h1 : b ≤ 1048576) (k : Nat) (hk : 0 ≤ k) : ∃ n, laws_szRevS.f l b = some n ∧ n ≤ b ∧ (0 ≤ n → (l.length ≤ 1048576 ∧ ∀ e ∈ l, sm107 e)) := by
  obtain ⟨n, g1, g2, g3⟩ := szw_30 l hl b h0 h1 k hk
  exact ⟨n, g1, g2, fun h => (g3 h).1⟩
def sm24 (x : S24) : Prop := x.f0.size ≤ 1048576 ∧ True ∧ True ∧ True ∧ True ∧ (x.f5.length ≤ 1048576 ∧ ∀ e ∈ x.f5, sm107 e) ∧ x.f6.size ≤ 1048576 ∧ True
def wt24 (x : S24) : Nat := x.f0.size + x.f5.length + x.f6.size
theorem szw_8 (x : S24) (hx : ok24 x) (b : Int) (h0 : 0 ≤ b) (h1 : b ≤ 1048576) (k : Nat) (hk : 0 ≤ k) : ∃ n, laws_szCrl.f x b = some n ∧ n ≤ b ∧ (0 ≤ n → sm24 x ∧ n + (wt24 x : Int) = b) := by
  have hm : maxLen = 9223372036854775807 := rfl
  unfold laws_szCrl.f
  have s0 : x.f0.size ≤ maxLen := hx.1
  have e0 : wrap64 (b - (x.f0.size : Int)) = b - (x.f0.size : Int) := by unfold wrap64; omega
  rw [e0]
  by_cases c0 : b - (x.f0.size : Int) < 0
  · rw [if_pos c0]; exact ⟨-1, rfl, by omega, fun h => by omega⟩
  rw [if_neg c0]
  obtain ⟨n5, e5, b5, p5⟩ := szw_30 x.f5 (hx.2.2.2.2.2.1) (b - (x.f0.size : Int)) (by omega) (by omega) k (by omega)
  rw [e5, Option.bind_some]
  by_cases c5 : n5 < 0
  · rw [if_pos c5]; exact ⟨-1, rfl, by omega, fun h => by omega⟩
  rw [if_neg c5]
  have s6 : x.f6.size ≤ maxLen := hx.2.2.2.2.2.2
  have e6 : wrap64 (n5 - (x.f6.size : Int)) = n5 - (x.f6.size : Int) := by unfold wrap64; omega
  rw [e6]
  by_cases c6 : n5 - (x.f6.size : Int) < 0
  · rw [if_pos c6]; exact ⟨-1, rfl, by omega, fun h => by omega⟩
  rw [if_neg c6]
  exact ⟨(n5 - (x.f6.size : Int)), rfl, by omega, fun h => ⟨⟨(by omega), trivial, trivial, trivial, trivial, (p5 (by omega)).1, (by omega), trivial⟩, by have w5 := (p5 (by omega)).2; unfold wt24; omega⟩⟩
theorem sz_8 (x : S24) (hx : ok24 x) (b : Int) (h0 : 0 ≤ b) (h1 : b ≤ 1048576) (k : Nat) (hk : 0 ≤ k) : ∃ n, laws_szCrl.f x b = some n ∧ n ≤ b ∧ (0 ≤ n → sm24 x) := by
  obtain ⟨n, g1, g2, g3⟩ := szw_8 x hx b h0 h1 k hk
  exact ⟨n, g1, g2, fun h => (g3 h).1⟩
def cv107 (x : S107) : S74 := ⟨x.f0, x.f1⟩
def sm74 (x : S74) : Prop := True ∧ True ∧ True
theorem to_69 (x : S107) (h : sm107 x) (k : Nat) (hk : 0 ≤ k) : laws_toRev.f x = some (cv107 x) := by
  unfold laws_toRev.f
  rfl
theorem smcv107 (x : S107) (h : sm107 x) : sm74 (cv107 x) := ⟨h.1, h.2.1, trivial⟩
theorem to_34 (x : (List S107)) (h : (x.length ≤ 1048576 ∧ ∀ e ∈ x, sm107 e)) (k : Nat) (hk : 1048577 ≤ k) : laws_toRevS.f k x = some (x.map cv107) := by
  have hx := h.1
  unfold laws_toRevS.f
  rw [if_pos (by omega), if_pos (by omega)]
  have := to_loop laws_toRevS.l0 rd_T107 (fun k e => laws_toRev.f e) cv107 x 0 hx (rd107 x) (fun k y i => by rw [laws_toRevS.l0]) (fun k e hk he => to_69 e (h.2 e he) k (by omega)) k (List.replicate x.length z74) 0 (by omega) (by simp) rfl (by omega)
  simpa using this
def cv24 (x : S24) : S29 := ⟨x.f0, x.f1, x.f2, x.f3, x.f4, (x.f5.map cv107), x.f6⟩
def sm29 (x : S29) : Prop := x.f0.size ≤ 1048576 ∧ True ∧ True ∧ True ∧ True ∧ (x.f5.length ≤ 1048576 ∧ ∀ e ∈ x.f5, sm74 e) ∧ x.f6.size ≤ 1048576 ∧ True
theorem to_10 (x : S24) (h : sm24 x) (k : Nat) (hk : 1048577 ≤ k) : laws_toCrl.f k x = some (cv24 x) := by
  unfold laws_toCrl.f
  simp only [to_34 x.f5 h.2.2.2.2.2.1 k (by omega), Option.bind_some]
  rfl
theorem smcv24 (x : S24) (h : sm24 x) : sm29 (cv24 x) := ⟨h.1, h.2.1, h.2.2.1, h.2.2.2.1, h.2.2.2.2.1, ⟨by show (List.map cv107 _).length ≤ _; rw [List.length_map]; exact h.2.2.2.2.2.1.1, fun e he => by
  obtain ⟨a, ha, rfl⟩ := List.mem_map.1 he
  exact smcv107 a (h.2.2.2.2.2.1.2 a ha)⟩, h.2.2.2.2.2.2.1, trivial⟩
theorem eq_72 (x : S74) (h : sm74 x) (k : Nat) (hk : 0 ≤ k) : laws_eqRev.f x x = some true := by
  unfold laws_eqRev.f
  simp []
theorem rd74 (x : List S74) (i : Nat) (h : i < x.length) : rd_T74 x (i : Int) = x[i] := by simp [rd_T74, h]
theorem eq_38 (x : (List S74)) (h : (x.length ≤ 1048576 ∧ ∀ e ∈ x, sm74 e)) (k : Nat) (hk : 1048577 ≤ k) : laws_eqRevS.f k x x = some true := by
  have hx := h.1
  unfold laws_eqRevS.f
  rw [if_pos rfl]
  exact eq_loop laws_eqRevS.l0 rd_T74 (fun k e => laws_eqRev.f e e) x 0 hx (rd74 x) (fun k i => by rw [laws_eqRevS.l0]) (fun k e hk he => eq_72 e (h.2 e he) k (by omega)) k 0 (by omega) (by omega)
theorem eq_12 (x : S29) (h : sm29 x) (k : Nat) (hk : 1048577 ≤ k) : laws_eqCrl.f k x x = some true := by
  unfold laws_eqCrl.f
  simp [eq_38 x.f5 h.2.2.2.2.2.1 k (by omega)]
end Go.Proofs.YtnpokacipeobdaaDoor.FamFnExactCrlOk

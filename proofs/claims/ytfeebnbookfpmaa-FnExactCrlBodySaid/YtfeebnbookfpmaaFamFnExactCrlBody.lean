/- What the law's own helpers do: they measure, copy, compare, mark. Plain lemmas, no condition. -/
import Derived.Test.YtfeebnbookfpmaaSaidFnExactCrlBody
import Derived.Test.YtfeebnbookfpmaaZMark
namespace Go.Proofs.Ytfeebnbookfpmaa.FamFnExactCrlBody
open Go.RowKit Go.Proofs.YtfeebnbookfpmaaW.PrintWords Go.Proofs.YtfeebnbookfpmaaW.PrintLast Go.Proofs.Ytfeebnbookfpmaa.ZOpen Go.Proofs.Ytfeebnbookfpmaa.Z Go.Proofs.Ytfeebnbookfpmaa.F
open Go.Proofs.Ytfeebnbookfpmaa.SaidFnExactCrlBody Go.Proofs.Ytfeebnbookfpmaa.ZP
set_option linter.unusedVariables false
set_option linter.unusedSimpArgs false
set_option maxRecDepth 100000

def sm152 (x : S152) : Prop := True ∧ True ∧ True
theorem rd152 (x : List S152) (i : Nat) (h : i < x.length) : rd_T152 x (i : Int) = x[i] := by simp [rd_T152, h]
theorem sz_85 (l : (List S152)) (hl : okList ok152 l) (b : Int) (h0 : 0 ≤ b) (h1 : b ≤ 1048576) (k : Nat) (hk : 0 ≤ k) : ∃ n, laws_szRevS.f l b = some n ∧ n ≤ b ∧ (0 ≤ n → (l.length ≤ 1048576 ∧ ∀ e ∈ l, sm152 e)) := by
  have hll : l.length ≤ maxLen := hl.1
  have hm : maxLen = 9223372036854775807 := rfl
  have e : wrap64 (b - (l.length : Int)) = b - (l.length : Int) := by unfold wrap64; omega
  unfold laws_szRevS.f
  rw [e]
  by_cases c : b - (l.length : Int) < 0
  · rw [if_pos c]; exact ⟨-1, rfl, by omega, fun h => by omega⟩
  rw [if_neg c]
  exact ⟨_, rfl, by omega, fun h => ⟨by omega, fun e he => by simp [sm152]⟩⟩
def sm49 (x : S49) : Prop := x.f0.size ≤ 1048576 ∧ True ∧ True ∧ True ∧ True ∧ (x.f5.length ≤ 1048576 ∧ ∀ e ∈ x.f5, sm152 e) ∧ x.f6.size ≤ 1048576 ∧ True
theorem sz_29 (x : S49) (hx : ok49 x) (b : Int) (h0 : 0 ≤ b) (h1 : b ≤ 1048576) (k : Nat) (hk : 0 ≤ k) : ∃ n, laws_szCrl.f x b = some n ∧ n ≤ b ∧ (0 ≤ n → sm49 x) := by
  have hm : maxLen = 9223372036854775807 := rfl
  unfold laws_szCrl.f
  have s0 : x.f0.size ≤ maxLen := hx.1
  have e0 : wrap64 (b - (x.f0.size : Int)) = b - (x.f0.size : Int) := by unfold wrap64; omega
  rw [e0]
  by_cases c0 : b - (x.f0.size : Int) < 0
  · rw [if_pos c0]; exact ⟨-1, rfl, by omega, fun h => by omega⟩
  rw [if_neg c0]
  obtain ⟨n5, e5, b5, p5⟩ := sz_85 x.f5 (hx.2.2.2.2.2.1) (b - (x.f0.size : Int)) (by omega) (by omega) k (by omega)
  rw [e5, Option.bind_some]
  by_cases c5 : n5 < 0
  · rw [if_pos c5]; exact ⟨-1, rfl, by omega, fun h => by omega⟩
  rw [if_neg c5]
  have s6 : x.f6.size ≤ maxLen := hx.2.2.2.2.2.2
  have e6 : wrap64 (n5 - (x.f6.size : Int)) = n5 - (x.f6.size : Int) := by unfold wrap64; omega
  rw [e6]
  by_cases c6 : n5 - (x.f6.size : Int) < 0
  · rw [if_pos c6]; exact ⟨-1, rfl, by omega, fun h => by omega⟩
  rw [if_neg c6]
  exact ⟨(n5 - (x.f6.size : Int)), rfl, by omega, fun h => ⟨(by omega), trivial, trivial, trivial, trivial, (p5 (by omega)), (by omega), trivial⟩⟩
def cv152 (x : S152) : S119 := ⟨x.f0, x.f1⟩
def sm119 (x : S119) : Prop := True ∧ True ∧ True
theorem to_124 (x : S152) (h : sm152 x) (k : Nat) (hk : 0 ≤ k) : laws_toRev.f x = some (cv152 x) := by
  unfold laws_toRev.f
  rfl
theorem smcv152 (x : S152) (h : sm152 x) : sm119 (cv152 x) := ⟨h.1, h.2.1, trivial⟩
theorem to_86 (x : (List S152)) (h : (x.length ≤ 1048576 ∧ ∀ e ∈ x, sm152 e)) (k : Nat) (hk : 1048577 ≤ k) : laws_toRevS.f k x = some (x.map cv152) := by
  have hx := h.1
  unfold laws_toRevS.f
  rw [if_pos (by omega), if_pos (by omega)]
  have := to_loop laws_toRevS.l0 rd_T152 (fun k e => laws_toRev.f e) cv152 x 0 hx (rd152 x) (fun k y i => by rw [laws_toRevS.l0]) (fun k e hk he => to_124 e (h.2 e he) k (by omega)) k (List.replicate x.length z119) 0 (by omega) (by simp) rfl (by omega)
  simpa using this
def cv49 (x : S49) : S54 := ⟨x.f0, x.f1, x.f2, x.f3, x.f4, (x.f5.map cv152), x.f6⟩
def sm54 (x : S54) : Prop := x.f0.size ≤ 1048576 ∧ True ∧ True ∧ True ∧ True ∧ (x.f5.length ≤ 1048576 ∧ ∀ e ∈ x.f5, sm119 e) ∧ x.f6.size ≤ 1048576 ∧ True
theorem to_31 (x : S49) (h : sm49 x) (k : Nat) (hk : 1048577 ≤ k) : laws_toCrl.f k x = some (cv49 x) := by
  unfold laws_toCrl.f
  simp only [to_86 x.f5 h.2.2.2.2.2.1 k (by omega), Option.bind_some]
  rfl
theorem smcv49 (x : S49) (h : sm49 x) : sm54 (cv49 x) := ⟨h.1, h.2.1, h.2.2.1, h.2.2.2.1, h.2.2.2.2.1, ⟨by show (List.map cv152 _).length ≤ _; rw [List.length_map]; exact h.2.2.2.2.2.1.1, fun e he => by
  obtain ⟨a, ha, rfl⟩ := List.mem_map.1 he
  exact smcv152 a (h.2.2.2.2.2.1.2 a ha)⟩, h.2.2.2.2.2.2.1, trivial⟩
theorem eq_125 (x : S119) (h : sm119 x) (k : Nat) (hk : 0 ≤ k) : laws_eqRev.f x x = some true := by
  unfold laws_eqRev.f
  simp []
theorem rd119 (x : List S119) (i : Nat) (h : i < x.length) : rd_T119 x (i : Int) = x[i] := by simp [rd_T119, h]
theorem eq_87 (x : (List S119)) (h : (x.length ≤ 1048576 ∧ ∀ e ∈ x, sm119 e)) (k : Nat) (hk : 1048577 ≤ k) : laws_eqRevS.f k x x = some true := by
  have hx := h.1
  unfold laws_eqRevS.f
  rw [if_pos rfl]
  exact eq_loop laws_eqRevS.l0 rd_T119 (fun k e => laws_eqRev.f e e) x 0 hx (rd119 x) (fun k i => by rw [laws_eqRevS.l0]) (fun k e hk he => eq_125 e (h.2 e he) k (by omega)) k 0 (by omega) (by omega)
theorem eq_33 (x : S54) (h : sm54 x) (k : Nat) (hk : 1048577 ≤ k) : laws_eqCrl.f k x x = some true := by
  unfold laws_eqCrl.f
  simp [eq_87 x.f5 h.2.2.2.2.2.1 k (by omega)]
end Go.Proofs.Ytfeebnbookfpmaa.FamFnExactCrlBody

/- What the law's own helpers do: they measure, copy, compare, mark. Plain lemmas, no condition. -/
import Derived.Test.YtfeebnbookfpmaaSaidFnExactAskText
import Derived.Test.YtfeebnbookfpmaaZMark
namespace Go.Proofs.Ytfeebnbookfpmaa.FamFnExactAskText
open Go.RowKit Go.Proofs.YtfeebnbookfpmaaW.PrintWords Go.Proofs.YtfeebnbookfpmaaW.PrintLast Go.Proofs.Ytfeebnbookfpmaa.ZOpen Go.Proofs.Ytfeebnbookfpmaa.Z Go.Proofs.Ytfeebnbookfpmaa.F
open Go.Proofs.Ytfeebnbookfpmaa.SaidFnExactAskText Go.Proofs.Ytfeebnbookfpmaa.ZP
set_option linter.unusedVariables false
set_option linter.unusedSimpArgs false
set_option maxRecDepth 100000

theorem rdS (x : List ByteArray) (i : Nat) (h : i < x.length) : rdOf ByteArray.empty x (i : Int) = x[i] := by simp [rdOf, h]
theorem sz_81 (l : (List ByteArray)) (hl : okList okStr l) (b : Int) (h0 : 0 ≤ b) (h1 : b ≤ 1048576) (k : Nat) (hk : 1048577 ≤ k) : ∃ n, laws_szStringS.f k l b = some n ∧ n ≤ b ∧ (0 ≤ n → (l.length ≤ 1048576 ∧ ∀ e ∈ l, e.size ≤ 1048576)) := by
  have hll : l.length ≤ maxLen := hl.1
  have hm : maxLen = 9223372036854775807 := rfl
  have e : wrap64 (b - (l.length : Int)) = b - (l.length : Int) := by unfold wrap64; omega
  unfold laws_szStringS.f
  rw [e]
  by_cases c : b - (l.length : Int) < 0
  · rw [if_pos c]; exact ⟨-1, rfl, by omega, fun h => by omega⟩
  rw [if_neg c]
  obtain ⟨n, n1, n2, n3⟩ := sz_loop laws_szStringS.l0 (rdOf ByteArray.empty) (fun _ e b => some (wrap64 (b - (e.size : Int)))) (fun e => e.size ≤ 1048576) l 0 (by omega) (rdS l) (fun k b i => by rw [laws_szStringS.l0]; rfl) (fun k e b _ he g0 g1 => by
      have h2 : e.size ≤ maxLen := hl.2 e he
      exact ⟨_, rfl, by unfold wrap64; omega, fun h => by unfold wrap64 at h; omega⟩) k (b - (l.length : Int)) 0 (by omega) (by omega) (by omega) (by omega)
  refine ⟨n, n1, by omega, fun h => ⟨by omega, fun a ha => ?_⟩⟩
  obtain ⟨j, hj, rfl⟩ := List.getElem_of_mem ha
  exact n3 h j hj (by omega)
def sm40 (x : S40) : Prop := (x.f0.length ≤ 1048576 ∧ ∀ e ∈ x.f0, e.size ≤ 1048576) ∧ True ∧ True ∧ True ∧ True ∧ True ∧ True
theorem sz_24 (x : S40) (hx : ok40 x) (b : Int) (h0 : 0 ≤ b) (h1 : b ≤ 1048576) (k : Nat) (hk : 1048577 ≤ k) : ∃ n, laws_szAsk.f k x b = some n ∧ n ≤ b ∧ (0 ≤ n → sm40 x) := by
  have hm : maxLen = 9223372036854775807 := rfl
  unfold laws_szAsk.f
  obtain ⟨n0, e0, b0, p0⟩ := sz_81 x.f0 (hx.1) b (by omega) (by omega) k (by omega)
  rw [e0, Option.bind_some]
  by_cases c0 : n0 < 0
  · rw [if_pos c0]; exact ⟨-1, rfl, by omega, fun h => by omega⟩
  rw [if_neg c0]
  exact ⟨n0, rfl, by omega, fun h => ⟨(p0 (by omega)), trivial, trivial, trivial, trivial, trivial, trivial⟩⟩
theorem to_82 (x : (List ByteArray)) (h : (x.length ≤ 1048576 ∧ ∀ e ∈ x, e.size ≤ 1048576)) (k : Nat) (hk : 1048577 ≤ k) : laws_toStringS.f k x = some x := by
  have hx := h.1
  unfold laws_toStringS.f
  rw [if_pos (by omega), if_pos (by omega)]
  have := to_loop laws_toStringS.l0 (rdOf ByteArray.empty) (fun _ e => some e) id x 0 hx (rdS x) (fun k y i => by rw [laws_toStringS.l0]; rfl) (fun _ _ _ _ => rfl) k (List.replicate x.length (⟨#[]⟩ : ByteArray)) 0 (by omega) (by simp) rfl (by omega)
  simpa using this
def cv40 (x : S40) : S43 := ⟨x.f0, x.f1, x.f2, x.f3, x.f4, x.f5⟩
def sm43 (x : S43) : Prop := (x.f0.length ≤ 1048576 ∧ ∀ e ∈ x.f0, e.size ≤ 1048576) ∧ True ∧ True ∧ True ∧ True ∧ True ∧ True
theorem to_26 (x : S40) (h : sm40 x) (k : Nat) (hk : 1048577 ≤ k) : laws_toAsk.f k x = some (cv40 x) := by
  unfold laws_toAsk.f
  simp only [to_82 x.f0 h.1 k (by omega), Option.bind_some]
  rfl
theorem smcv40 (x : S40) (h : sm40 x) : sm43 (cv40 x) := ⟨h.1, h.2.1, h.2.2.1, h.2.2.2.1, h.2.2.2.2.1, h.2.2.2.2.2.1, trivial⟩
theorem eq_84 (x : (List ByteArray)) (h : (x.length ≤ 1048576 ∧ ∀ e ∈ x, e.size ≤ 1048576)) (k : Nat) (hk : 1048577 ≤ k) : laws_eqStringS.f k x x = some true := by
  have hx := h.1
  unfold laws_eqStringS.f
  rw [if_pos rfl]
  exact eq_loop laws_eqStringS.l0 (rdOf ByteArray.empty) (fun _ _ => some true) x 0 hx (rdS x) (fun k i => by rw [laws_eqStringS.l0]; simp) (fun _ _ _ _ => rfl) k 0 (by omega) (by omega)
theorem eq_28 (x : S43) (h : sm43 x) (k : Nat) (hk : 1048577 ≤ k) : laws_eqAsk.f k x x = some true := by
  unfold laws_eqAsk.f
  simp [eq_84 x.f0 h.1 k (by omega)]
end Go.Proofs.Ytfeebnbookfpmaa.FamFnExactAskText

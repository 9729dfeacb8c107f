/- What an argument that can be read as data is made of, by the words of a value's kind: numbers, flags, texts, lists and structs of these. No condition. -/
import Derived.Test.YtoaoncnbimcdgaaDoorW
import Derived.ProofKit
import GoSem.ClaimChange
namespace Go.Proofs.YtoaoncnbimcdgaaDoor.ZOpen
open Go.RowKit Go.Proofs.YtoaoncnbimcdgaaDoorW.PrintWords Go.Proofs.YtoaoncnbimcdgaaDoorW.PrintLast

def okStr (s : ByteArray) : Prop := s.size ≤ maxLen
variable {P : Program} {t : TypeId}

/-- A list that answers at every place below n, made of what each place is. -/
theorem listed {α : Type} (R : Nat → α → Prop) : ∀ (n : Nat), (∀ i, i < n → ∃ x, R i x) → ∃ l : List α, l.length = n ∧ ∀ (i : Nat) (x : α), l[i]? = some x → R i x
  | 0, _ => ⟨[], rfl, fun i x h => by simp at h⟩
  | n + 1, h => by
    obtain ⟨l, hl, hr⟩ := listed R n (fun i hi => h i (by omega))
    obtain ⟨x, hx⟩ := h n (by omega)
    refine ⟨l ++ [x], by simp [hl], fun i y hy => ?_⟩
    by_cases hi : i < l.length
    · rw [List.getElem?_append_left hi] at hy
      exact hr i y hy
    · rw [List.getElem?_append_right (by omega)] at hy
      have h0 : i - l.length = 0 := by
        have := (List.getElem?_eq_some_iff.1 hy).1
        simp at this
        omega
      rw [h0] at hy
      simp only [List.getElem?_cons_zero, Option.some.injEq] at hy
      subst hy
      have : i = n := by omega
      subst this
      exact hx

end Go.Proofs.YtoaoncnbimcdgaaDoor.ZOpen

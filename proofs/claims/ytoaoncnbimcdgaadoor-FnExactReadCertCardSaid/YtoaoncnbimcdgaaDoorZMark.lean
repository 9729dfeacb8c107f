/- Loops that mark what was handed over or given back, and ask whether the marks stand, told once. Plain lemmas over lists; no program in sight. -/
import Derived.Test.YtoaoncnbimcdgaaDoorZPure
namespace Go.Proofs.YtoaoncnbimcdgaaDoor.ZP
open Go.RowKit

/-- A loop that marks each element (L), and one that asks for the marks (H): what the one wrote the other finds. c: is H told of at all? -/
theorem mark_loop {α : Type} (c : Prop) (L : Nat → List α → Int → Int → List α → Option (Int × List α)) (H : Nat → Int → Int → List α → Option Int) (x : List α) (p : α → Prop) (K W : Nat) (M : Int) (hx : x.length ≤ 1048576)
    (hL : ∀ k (l : List α) (m : Int) (i : Nat) (e : α), K ≤ k → i < x.length → l.length = x.length → l[i]? = some e → p e → 0 < m → m ≤ M → ∃ e' m', L (k + 1) l m (i : Int) x = L k (l.set i e') m' ((i + 1 : Nat) : Int) x ∧ m ≤ m' ∧ m' ≤ m + W ∧
      (c → ∀ k' (l2 : List α), K ≤ k' → l2.length = x.length → l2[i]? = some e' → H (k' + 1) m (i : Int) l2 = H k' m' ((i + 1 : Nat) : Int) l2))
    (hE : ∀ k (l : List α) (m : Int), L (k + 1) l m (x.length : Int) x = some (m, l)) (hH : c → ∀ k (l2 : List α) (m : Int), l2.length = x.length → H (k + 1) m (x.length : Int) l2 = some m) :
    ∀ (n k : Nat) (l : List α) (m : Int) (i : Nat), x.length - i = n → i ≤ x.length → l.length = x.length → (∀ j e, i ≤ j → l[j]? = some e → p e) → 0 < m → m + W * (x.length - i : Nat) ≤ M → K + (x.length - i) < k →
      ∃ m2 l2, L k l m (i : Int) x = some (m2, l2) ∧ m ≤ m2 ∧ m2 ≤ m + W * (x.length - i : Nat) ∧ l2.length = x.length ∧ (∀ j, j < i → l2[j]? = l[j]?) ∧ (c → ∀ k', K + (x.length - i) < k' → H k' m (i : Int) l2 = some m2)
  | 0, k, l, m, i, hn, hi, hl, hp, hm, hM, hk => by
    obtain rfl : i = x.length := by omega
    obtain ⟨k, rfl⟩ : ∃ k', k = k' + 1 := ⟨k - 1, by omega⟩
    refine ⟨m, l, hE k l m, Int.le_refl _, by simp, hl, fun _ _ => rfl, fun hc k' hk' => ?_⟩
    obtain ⟨k', rfl⟩ : ∃ q, k' = q + 1 := ⟨k' - 1, by omega⟩
    exact hH hc k' l m hl
  | n + 1, k, l, m, i, hn, hi, hl, hp, hm, hM, hk => by
    have hil : i < x.length := by omega
    obtain ⟨k, rfl⟩ : ∃ k', k = k' + 1 := ⟨k - 1, by omega⟩
    have hle : l[i]? = some l[i] := List.getElem?_eq_getElem (by omega)
    have e1 : (W : Int) * ((x.length - i : Nat) : Int) = W * ((x.length - (i + 1) : Nat) : Int) + W := by
      have : x.length - i = (x.length - (i + 1)) + 1 := by omega
      rw [this, Int.natCast_add, Int.mul_add]
      simp
    have e0 : (0 : Int) ≤ W * ((x.length - (i + 1) : Nat) : Int) := Int.mul_nonneg (by omega) (by omega)
    obtain ⟨e', m', h1, h2, h3, h4⟩ := hL k l m i l[i] (by omega) hil hl hle (hp i _ (Nat.le_refl _) hle) hm (by omega)
    obtain ⟨m2, l2, g1, g2, g3, g4, g5, g6⟩ := mark_loop c L H x p K W M hx hL hE hH n k (l.set i e') m' (i + 1) (by omega) (by omega) (by rw [List.length_set]; exact hl) (fun j e hj he => by
      rw [List.getElem?_set_ne (by omega)] at he
      exact hp j e (by omega) he) (by omega) (by omega) (by omega)
    refine ⟨m2, l2, by rw [h1, g1], by omega, by omega, g4, fun j hj => ?_, fun hc k' hk' => ?_⟩
    · rw [g5 j (by omega), List.getElem?_set_ne (by omega)]
    · obtain ⟨k', rfl⟩ : ∃ q, k' = q + 1 := ⟨k' - 1, by omega⟩
      have h5 : l2[i]? = some e' := by rw [g5 i (by omega), List.getElem?_set_self (by omega)]
      rw [h4 hc k' l2 (by omega) g4 h5]
      exact g6 hc k' (by omega)

end Go.Proofs.YtoaoncnbimcdgaaDoor.ZP

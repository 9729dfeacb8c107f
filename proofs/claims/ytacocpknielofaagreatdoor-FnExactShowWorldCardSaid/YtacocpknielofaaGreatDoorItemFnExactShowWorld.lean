/- Items: the two ways of writing one, of asking whether it is right, and of copying it, agree. Plain lemmas, no condition. -/
import Derived.Test.YtacocpknielofaaGreatDoorFamFnExactShowWorld
namespace Go.Proofs.YtacocpknielofaaGreatDoor.ItemFnExactShowWorld
open Go.RowKit Go.Proofs.YtacocpknielofaaGreatDoorW.PrintWords Go.Proofs.YtacocpknielofaaGreatDoorW.PrintLast Go.Proofs.YtacocpknielofaaGreatDoor.ZOpen Go.Proofs.YtacocpknielofaaGreatDoor.Z Go.Proofs.YtacocpknielofaaGreatDoor.F
open Go.Proofs.YtacocpknielofaaGreatDoor.ZP

/-- From some fuel on, the answer is r. -/
def Evt {α : Type} (f : Nat → Option α) (r : α) : Prop := ∃ K, ∀ k, K ≤ k → f k = some r
theorem Evt.now {α : Type} {r : α} : Evt (fun _ => some r) r := ⟨0, fun _ _ => rfl⟩
theorem Evt.of {α : Type} {f : Nat → Option α} {r : α} (h : ∀ k, f k = some r) : Evt f r := ⟨0, fun k _ => h k⟩
theorem Evt.at_ {α : Type} {f : Nat → Option α} {r : α} (K : Nat) (h : ∀ k, K ≤ k → f k = some r) : Evt f r := ⟨K, h⟩
theorem Evt.succ {α : Type} {f : Nat → Option α} {r : α} (h : Evt (fun k => f (k + 1)) r) : Evt f r := by
  obtain ⟨K, h⟩ := h
  refine ⟨K + 1, fun k hk => ?_⟩
  obtain ⟨k, rfl⟩ : ∃ q, k = q + 1 := ⟨k - 1, by omega⟩
  exact h k (by omega)
theorem Evt.bind {α β : Type} {f : Nat → Option α} {g : Nat → α → Option β} {a : α} {r : β} (h : Evt f a) (h' : Evt (fun k => g k a) r) : Evt (fun k => (f k).bind (g k)) r := by
  obtain ⟨K, h⟩ := h
  obtain ⟨K', h'⟩ := h'
  refine ⟨max K K', fun k hk => ?_⟩
  show (f k).bind (g k) = some r
  rw [h k (by omega), Option.bind_some]
  exact h' k (by omega)
theorem Evt.eq {α : Type} {f g : Nat → Option α} {r : α} (h : Evt g r) (e : ∀ k, f k = g k) : Evt f r := by
  obtain ⟨K, h⟩ := h
  exact ⟨K, fun k hk => (e k).trans (h k hk)⟩
theorem Evt.both {α β : Type} {f : Nat → Option α} {g : Nat → Option β} {a : α} {b : β} (h : Evt f a) (h' : Evt g b) : ∃ K, ∀ k, K ≤ k → f k = some a ∧ g k = some b := by
  obtain ⟨K, h⟩ := h
  obtain ⟨K', h'⟩ := h'
  exact ⟨max K K', fun k hk => ⟨h k (by omega), h' k (by omega)⟩⟩

/-! ### texts made of numbers -/
theorem ext_ba {a b : ByteArray} (h : a.data.toList = b.data.toList) : a = b := by
  cases a; cases b
  simp only at h
  congr 1
  exact Array.ext' h
theorem ba_nil {s : ByteArray} : s.toList = ([] : List UInt8) ↔ s.size = 0 := by
  rw [ByteArray.toList_eq]
  constructor
  · intro h
    have := congrArg List.length h
    simpa using this
  · intro h
    exact List.eq_nil_of_length_eq_zero (by simpa using h)
/-! ### lengths -/
/-! ### numbers -/
/-! ### how large an item is -/
/-! ### copies -/
/-! ### right items, and their texts -/
/-! ### lists of items, made one by one -/
end Go.Proofs.YtacocpknielofaaGreatDoor.ItemFnExactShowWorld

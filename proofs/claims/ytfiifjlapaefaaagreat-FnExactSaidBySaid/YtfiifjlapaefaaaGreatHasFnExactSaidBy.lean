/- Is a text among texts: both ways agree. Plain lemmas, no condition. -/
import Derived.Test.YtfiifjlapaefaaaGreatItemFnExactSaidBy
namespace Go.Proofs.YtfiifjlapaefaaaGreat.HasFnExactSaidBy
open Go.RowKit Go.Proofs.YtfiifjlapaefaaaGreatW.PrintWords Go.Proofs.YtfiifjlapaefaaaGreatW.PrintLast Go.Proofs.YtfiifjlapaefaaaGreat.ZOpen Go.Proofs.YtfiifjlapaefaaaGreat.Z Go.Proofs.YtfiifjlapaefaaaGreat.F
open Go.Proofs.YtfiifjlapaefaaaGreat.ZP Go.Proofs.YtfiifjlapaefaaaGreat.FamFnExactSaidBy Go.Proofs.YtfiifjlapaefaaaGreat.ItemFnExactSaidBy
set_option linter.unusedVariables false
set_option linter.unusedSimpArgs false
theorem wn (i : Nat) (hi : i ≤ 4294967296) : wrap64 ((i : Int) + 1) = ((i + 1 : Nat) : Int) := by rw [w64 (by omega) (by omega)]; rfl
theorem tl_inj {a b : ByteArray} (h : a.toList = b.toList) : a = b := by
  rw [ByteArray.toList_eq, ByteArray.toList_eq] at h
  exact ext_ba h
noncomputable instance decM (t : ByteArray) (l : List ByteArray) : Decidable (t ∈ l) := Classical.propDecidable _
theorem mem_drop (l : List ByteArray) (t : ByteArray) (i : Nat) (h : i < l.length) : t ∈ l.drop i ↔ l[i] = t ∨ t ∈ l.drop (i + 1) := by
  rw [List.drop_eq_getElem_cons h, List.mem_cons]
  exact ⟨fun q => q.elim (fun q => .inl q.symm) .inr, fun q => q.elim (fun q => .inl q.symm) .inr⟩
theorem idx_g (l : List ByteArray) (t : ByteArray) (hl : l.length ≤ 1048577) : ∀ (m i k : Nat), l.length - i = m → i ≤ l.length → m < k → ∃ r, slices_Index_string_string.l0 k (i : Int) l t = some r ∧ (0 ≤ r ↔ t ∈ l.drop i) := by
  intro m
  induction m with
  | zero =>
    intro i k hm hi hk
    obtain ⟨k, rfl⟩ : ∃ q, k = q + 1 := ⟨k - 1, by omega⟩
    obtain rfl : i = l.length := by omega
    exact ⟨-1, by rw [slices_Index_string_string.l0, if_neg (by omega)], by simp⟩
  | succ m ih =>
    intro i k hm hi hk
    obtain ⟨k, rfl⟩ : ∃ q, k = q + 1 := ⟨k - 1, by omega⟩
    have hil : i < l.length := by omega
    by_cases c : t = l[i]
    · refine ⟨(i : Int), ?_, ?_⟩
      · rw [slices_Index_string_string.l0, if_pos (by omega), if_pos (by omega), if_pos (by omega), rdS l i hil, if_pos (by rw [c])]
      · rw [mem_drop l t i hil]
        exact ⟨fun _ => .inl c.symm, fun _ => by omega⟩
    · obtain ⟨r, r1, r2⟩ := ih (i + 1) k (by omega) (by omega) (by omega)
      refine ⟨r, ?_, ?_⟩
      · rw [slices_Index_string_string.l0, if_pos (by omega), if_pos (by omega), if_pos (by omega), rdS l i hil, if_neg (fun q => c (tl_inj q)), wn i (by omega)]
        exact r1
      · rw [mem_drop l t i hil, r2]
        exact ⟨.inr, fun q => q.elim (fun q => absurd q.symm c) id⟩
theorem has_g (l : List ByteArray) (t : ByteArray) (hl : l.length ≤ 1048577) (k : Nat) (hk : 1048578 ≤ k) : slices_Contains_string_string.f k l t = some (decide (t ∈ l)) := by
  obtain ⟨r, r1, r2⟩ := idx_g l t hl l.length 0 k rfl (Nat.zero_le _) (by omega)
  have r1 : slices_Index_string_string.f k l t = some r := r1
  unfold slices_Contains_string_string.f
  rw [r1, Option.bind_some]
  exact congrArg some (decide_eq_decide.2 (by rw [r2, List.drop_zero]))
theorem in_f (l : List ByteArray) (t : ByteArray) (hl : l.length ≤ 1048577) : ∀ (m i k : Nat), l.length - i = m → i ≤ l.length → m < k → spec_l13In.l0 k (i : Int) l t = some (decide (t ∈ l.drop i)) := by
  intro m
  induction m with
  | zero =>
    intro i k hm hi hk
    obtain ⟨k, rfl⟩ : ∃ q, k = q + 1 := ⟨k - 1, by omega⟩
    obtain rfl : i = l.length := by omega
    rw [spec_l13In.l0, if_neg (by omega), List.drop_length]
    exact congrArg some (decide_eq_false (by simp)).symm
  | succ m ih =>
    intro i k hm hi hk
    obtain ⟨k, rfl⟩ : ∃ q, k = q + 1 := ⟨k - 1, by omega⟩
    have hil : i < l.length := by omega
    by_cases c : l[i] = t
    · rw [spec_l13In.l0, if_pos (by omega), if_pos (by omega), if_pos (by omega), rdS l i hil, if_pos (by rw [c])]
      exact congrArg some (decide_eq_true ((mem_drop l t i hil).2 (.inl c))).symm
    · rw [spec_l13In.l0, if_pos (by omega), if_pos (by omega), if_pos (by omega), rdS l i hil, if_neg (fun q => c (tl_inj q)), wn i (by omega), ih (i + 1) k (by omega) (by omega) (by omega)]
      exact congrArg some (decide_eq_decide.2 (by rw [mem_drop l t i hil]; exact ⟨.inr, fun q => q.elim (fun q => absurd q c) id⟩))
theorem has_f (l : List ByteArray) (t : ByteArray) (hl : l.length ≤ 1048577) (k : Nat) (hk : 1048578 ≤ k) : spec_l13In.f k l t = some (decide (t ∈ l)) := by
  have h := in_f l t hl l.length 0 k rfl (Nat.zero_le _) (by omega)
  rw [List.drop_zero] at h
  exact h
end Go.Proofs.YtfiifjlapaefaaaGreat.HasFnExactSaidBy

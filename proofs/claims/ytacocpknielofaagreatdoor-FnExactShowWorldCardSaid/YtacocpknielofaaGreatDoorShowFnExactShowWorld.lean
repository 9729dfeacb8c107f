/- What is shown of a reply: both ways. Plain lemmas, no condition. -/
import Derived.Test.YtacocpknielofaaGreatDoorDecFnExactShowWorld
namespace Go.Proofs.YtacocpknielofaaGreatDoor.ShowFnExactShowWorld
open Go.RowKit Go.Proofs.YtacocpknielofaaGreatDoorW.PrintWords Go.Proofs.YtacocpknielofaaGreatDoorW.PrintLast Go.Proofs.YtacocpknielofaaGreatDoor.ZOpen Go.Proofs.YtacocpknielofaaGreatDoor.Z Go.Proofs.YtacocpknielofaaGreatDoor.F
open Go.Proofs.YtacocpknielofaaGreatDoor.ZP Go.Proofs.YtacocpknielofaaGreatDoor.FamFnExactShowWorld Go.Proofs.YtacocpknielofaaGreatDoor.ItemFnExactShowWorld Go.Proofs.YtacocpknielofaaGreatDoor.DecFnExactShowWorld
set_option linter.unusedVariables false
set_option linter.unusedSimpArgs false
set_option maxHeartbeats 4000000
def Rng (r : S221) : Prop := in64 r.f1 ∧ in64 r.f5 ∧ r.f6.length ≤ 1048576 ∧ ∀ e ∈ r.f6, in64 e.f0 ∧ in64 e.f1 ∧ e.f2.length ≤ 1048576
noncomputable def piece (x : S273) : ByteArray := (((((⟨#[32]⟩ : ByteArray) ++ numS x.f0) ++ (⟨#[47]⟩ : ByteArray)) ++ numS x.f1) ++ (⟨#[47]⟩ : ByteArray)) ++ decS x.f2.length
noncomputable def tailS : List S273 → ByteArray
  | [] => (⟨#[10]⟩ : ByteArray)
  | x :: l => piece x ++ tailS l
theorem z32 : (⟨#[32]⟩ : ByteArray).size = 1 := rfl
theorem z47 : (⟨#[47]⟩ : ByteArray).size = 1 := rfl
theorem z10 : (⟨#[10]⟩ : ByteArray).size = 1 := rfl
theorem piece_size (x : S273) (h : in64 x.f0 ∧ in64 x.f1 ∧ x.f2.length ≤ 1048576) : (piece x).size ≤ 60 := by
  have h0 := numS_size _ h.1
  have h1 := numS_size _ h.2.1
  have h2 := decS_size x.f2.length (by have := h.2.2; omega)
  unfold piece
  simp only [ByteArray.size_append, z32, z47]
  omega
theorem tail_size : ∀ l : List S273, (∀ e ∈ l, in64 e.f0 ∧ in64 e.f1 ∧ e.f2.length ≤ 1048576) → (tailS l).size ≤ 60 * l.length + 1
  | [], _ => by simp [tailS, z10]
  | x :: l, h => by
    have h1 := piece_size x (h x (List.mem_cons_self ..))
    have h2 := tail_size l (fun e he => h e (List.mem_cons_of_mem _ he))
    simp only [tailS, ByteArray.size_append, List.length_cons]
    omega
theorem rda (x : List S273) (i : Nat) (h : i < x.length) : rd_T273 x (i : Int) = x[i] := by simp [rd_T273, h]
theorem w1 (i : Nat) (hi : i ≤ 1048576) : wrap64 ((i : Int) + 1) = ((i + 1 : Nat) : Int) := by rw [w64 (by omega) (by omega)]; rfl
theorem loop_f (r : S221) (h : Rng r) : ∀ (m i k : Nat) (s : ByteArray), r.f6.length - i = m → i ≤ r.f6.length → s.size ≤ 100 * (i + 1) → m + 20 < k → spec_ShowReply.l0 k s (i : Int) r = some (s ++ tailS (r.f6.drop i)) := by
  have hl := h.2.2.1
  intro m
  induction m with
  | zero =>
    intro i k s hm hi hs hk
    obtain ⟨k, rfl⟩ : ∃ q, k = q + 1 := ⟨k - 1, by omega⟩
    obtain rfl : i = r.f6.length := by omega
    rw [spec_ShowReply.l0, if_neg (by omega), if_pos (by rw [z10]; omega), List.drop_length]
    rfl
  | succ m ih =>
    intro i k s hm hi hs hk
    obtain ⟨k, rfl⟩ : ∃ q, k = q + 1 := ⟨k - 1, by omega⟩
    have hil : i < r.f6.length := by omega
    have he := h.2.2.2 _ (List.getElem_mem hil)
    have h0 := numS_size _ he.1
    have h1 := numS_size _ he.2.1
    have h2 := decS_size r.f6[i].f2.length (by have := he.2.2; omega)
    rw [spec_ShowReply.l0, if_pos (by omega), if_pos (by omega), if_pos (by omega), rda _ i hil, if_pos (by rw [z32]; omega), num_f _ he.1 k (by omega), Option.bind_some, if_pos (by simp only [ByteArray.size_append, z32]; omega), if_pos (by simp only [ByteArray.size_append, z32, z47]; omega), num_f _ he.2.1 k (by omega), Option.bind_some, if_pos (by simp only [ByteArray.size_append, z32, z47]; omega), if_pos (by simp only [ByteArray.size_append, z32, z47]; omega), dec_f _ (by have := he.2.2; omega) k (by omega), Option.bind_some, if_pos (by simp only [ByteArray.size_append, z32, z47]; omega), w1 i (by omega), ih (i + 1) k _ (by omega) (by omega) (by simp only [ByteArray.size_append, z32, z47]; omega) (by omega), List.drop_eq_getElem_cons hil, tailS]
    unfold piece
    simp only [ByteArray.append_assoc]
theorem loop_g (r : S221) (h : Rng r) : ∀ (m i k : Nat) (s : ByteArray), r.f6.length - i = m → i ≤ r.f6.length → s.size ≤ 100 * (i + 1) → m + 20 < k → impl_ShowReply.l0 k s (i : Int) r = some (s ++ tailS (r.f6.drop i)) := by
  have hl := h.2.2.1
  intro m
  induction m with
  | zero =>
    intro i k s hm hi hs hk
    obtain ⟨k, rfl⟩ : ∃ q, k = q + 1 := ⟨k - 1, by omega⟩
    obtain rfl : i = r.f6.length := by omega
    rw [impl_ShowReply.l0, if_neg (by omega), if_pos (by rw [z10]; omega), List.drop_length]
    rfl
  | succ m ih =>
    intro i k s hm hi hs hk
    obtain ⟨k, rfl⟩ : ∃ q, k = q + 1 := ⟨k - 1, by omega⟩
    have hil : i < r.f6.length := by omega
    have he := h.2.2.2 _ (List.getElem_mem hil)
    have h0 := numS_size _ he.1
    have h1 := numS_size _ he.2.1
    have h2 := decS_size r.f6[i].f2.length (by have := he.2.2; omega)
    rw [impl_ShowReply.l0, if_pos (by omega), if_pos (by omega), if_pos (by omega), rda _ i hil, num_g _ he.1, Option.bind_some, if_pos (by rw [z32]; omega), if_pos (by simp only [ByteArray.size_append, z32, z47]; omega), num_g _ he.2.1, Option.bind_some, if_pos (by simp only [ByteArray.size_append, z32, z47]; omega), if_pos (by simp only [ByteArray.size_append, z32, z47]; omega), dec_g _ (by have := he.2.2; omega), Option.bind_some, if_pos (by simp only [ByteArray.size_append, z32, z47]; omega), if_pos (by simp only [ByteArray.size_append, z32, z47]; omega), w1 i (by omega), ih (i + 1) k _ (by omega) (by omega) (by simp only [ByteArray.size_append, z32, z47]; omega) (by omega), List.drop_eq_getElem_cons hil, tailS]
    unfold piece
    simp only [ByteArray.append_assoc]
noncomputable def showS (r : S221) : ByteArray := ((((⟨#[114, 101, 112, 108, 121, 32]⟩ : ByteArray) ++ numS r.f1) ++ (⟨#[32, 101, 114, 114, 111, 114, 32]⟩ : ByteArray)) ++ numS r.f5) ++ tailS r.f6
theorem za : (⟨#[114, 101, 112, 108, 121, 32]⟩ : ByteArray).size = 6 := rfl
theorem zb : (⟨#[32, 101, 114, 114, 111, 114, 32]⟩ : ByteArray).size = 7 := rfl
theorem show_size (r : S221) (h : Rng r) : (showS r).size ≤ 60 * r.f6.length + 60 := by
  have h0 := numS_size _ h.1
  have h1 := numS_size _ h.2.1
  have h2 := tail_size _ h.2.2.2
  unfold showS
  simp only [ByteArray.size_append, za, zb]
  omega
theorem show_f (r : S221) (h : Rng r) (k : Nat) (hk : 1048600 ≤ k) : spec_ShowReply.f k r = some (showS r) := by
  have hl := h.2.2.1
  have h0 := numS_size _ h.1
  have h1 := numS_size _ h.2.1
  unfold spec_ShowReply.f
  rw [num_f _ h.1 k (by omega), Option.bind_some, if_pos (by rw [za]; omega), if_pos (by simp only [ByteArray.size_append, za, zb]; omega), num_f _ h.2.1 k (by omega), Option.bind_some, if_pos (by simp only [ByteArray.size_append, za, zb]; omega)]
  exact loop_f r h _ 0 k _ rfl (Nat.zero_le _) (by simp only [ByteArray.size_append, za, zb]; omega) (by omega)
theorem show_g (r : S221) (h : Rng r) (k : Nat) (hk : 1048600 ≤ k) : impl_ShowReply.f k r = some (showS r) := by
  have hl := h.2.2.1
  have h0 := numS_size _ h.1
  have h1 := numS_size _ h.2.1
  unfold impl_ShowReply.f
  rw [num_g _ h.1, Option.bind_some, if_pos (by rw [za]; omega), if_pos (by simp only [ByteArray.size_append, za, zb]; omega), num_g _ h.2.1, Option.bind_some, if_pos (by simp only [ByteArray.size_append, za, zb]; omega)]
  exact loop_g r h _ 0 k _ rfl (Nat.zero_le _) (by simp only [ByteArray.size_append, za, zb]; omega) (by omega)
end Go.Proofs.YtacocpknielofaaGreatDoor.ShowFnExactShowWorld

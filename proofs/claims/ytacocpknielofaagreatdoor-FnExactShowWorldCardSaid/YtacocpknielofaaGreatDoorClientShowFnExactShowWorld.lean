/- What is shown of a client: both ways. Plain lemmas, no condition. -/
import Derived.Test.YtacocpknielofaaGreatDoorShowFnExactShowWorld
namespace Go.Proofs.YtacocpknielofaaGreatDoor.ClientShowFnExactShowWorld
open Go.RowKit Go.Proofs.YtacocpknielofaaGreatDoorW.PrintWords Go.Proofs.YtacocpknielofaaGreatDoorW.PrintLast Go.Proofs.YtacocpknielofaaGreatDoor.ZOpen Go.Proofs.YtacocpknielofaaGreatDoor.Z Go.Proofs.YtacocpknielofaaGreatDoor.F
open Go.Proofs.YtacocpknielofaaGreatDoor.ZP Go.Proofs.YtacocpknielofaaGreatDoor.FamFnExactShowWorld Go.Proofs.YtacocpknielofaaGreatDoor.ItemFnExactShowWorld Go.Proofs.YtacocpknielofaaGreatDoor.DecFnExactShowWorld Go.Proofs.YtacocpknielofaaGreatDoor.ShowFnExactShowWorld
set_option linter.unusedVariables false
set_option linter.unusedSimpArgs false
set_option maxHeartbeats 4000000
def RngC (c : S65) : Prop := c.f2.length ≤ 1048576 ∧ c.f4.length ≤ 1048576 ∧ c.f3.length ≤ 1048576 ∧ ∀ e ∈ c.f3, Rng e.f1
noncomputable def gotsS : List S223 → ByteArray
  | [] => (⟨#[]⟩ : ByteArray)
  | x :: l => showS x.f1 ++ gotsS l
theorem eta_ (r : S221) : (⟨r.f0, r.f1, r.f2, r.f3, r.f4, r.f5, r.f6, r.f7⟩ : S221) = r := rfl
theorem rdg (x : List S223) (i : Nat) (h : i < x.length) : rd_T223 x (i : Int) = x[i] := by simp [rd_T223, h]
theorem cloop_f (c : S65) (h : RngC c) : ∀ (m i k : Nat) (s : ByteArray), c.f3.length - i = m → i ≤ c.f3.length → s.size ≤ 100000000 * (i + 1) → m + 2000000 < k → spec_ShowClient.l0 k s (i : Int) c = some (s ++ gotsS (c.f3.drop i)) := by
  have hl := h.2.2.1
  intro m
  induction m with
  | zero =>
    intro i k s hm hi hs hk
    obtain ⟨k, rfl⟩ : ∃ q, k = q + 1 := ⟨k - 1, by omega⟩
    obtain rfl : i = c.f3.length := by omega
    rw [spec_ShowClient.l0, if_neg (by omega), List.drop_length, gotsS, app_nil]
  | succ m ih =>
    intro i k s hm hi hs hk
    obtain ⟨k, rfl⟩ : ∃ q, k = q + 1 := ⟨k - 1, by omega⟩
    have hil : i < c.f3.length := by omega
    have he := h.2.2.2 _ (List.getElem_mem hil)
    have hz := show_size _ he
    have hq := he.2.2.1
    rw [spec_ShowClient.l0, if_pos (by omega), if_pos (by omega), if_pos (by omega), rdg _ i hil, eta_, show_f _ he k (by omega), Option.bind_some, if_pos (by omega), w1 i (by omega), ih (i + 1) k _ (by omega) (by omega) (by simp only [ByteArray.size_append]; omega) (by omega), List.drop_eq_getElem_cons hil, gotsS, ByteArray.append_assoc]
theorem cloop_g (c : S65) (h : RngC c) : ∀ (m i k : Nat) (s : ByteArray), c.f3.length - i = m → i ≤ c.f3.length → s.size ≤ 100000000 * (i + 1) → m + 2000000 < k → impl_ShowClient.l0 k s (i : Int) c = some (s ++ gotsS (c.f3.drop i)) := by
  have hl := h.2.2.1
  intro m
  induction m with
  | zero =>
    intro i k s hm hi hs hk
    obtain ⟨k, rfl⟩ : ∃ q, k = q + 1 := ⟨k - 1, by omega⟩
    obtain rfl : i = c.f3.length := by omega
    rw [impl_ShowClient.l0, if_neg (by omega), List.drop_length, gotsS, app_nil]
  | succ m ih =>
    intro i k s hm hi hs hk
    obtain ⟨k, rfl⟩ : ∃ q, k = q + 1 := ⟨k - 1, by omega⟩
    have hil : i < c.f3.length := by omega
    have he := h.2.2.2 _ (List.getElem_mem hil)
    have hz := show_size _ he
    have hq := he.2.2.1
    rw [impl_ShowClient.l0, if_pos (by omega), if_pos (by omega), if_pos (by omega), rdg _ i hil, eta_, show_g _ he k (by omega), Option.bind_some, if_pos (by omega), w1 i (by omega), ih (i + 1) k _ (by omega) (by omega) (by simp only [ByteArray.size_append]; omega) (by omega), List.drop_eq_getElem_cons hil, gotsS, ByteArray.append_assoc]
noncomputable def clientS (c : S65) : ByteArray := (((((⟨#[119, 97, 105, 116, 115, 32]⟩ : ByteArray) ++ decS c.f2.length) ++ (⟨#[32, 108, 97, 116, 101, 32]⟩ : ByteArray)) ++ decS c.f4.length) ++ (⟨#[10]⟩ : ByteArray)) ++ gotsS c.f3
theorem zc : (⟨#[119, 97, 105, 116, 115, 32]⟩ : ByteArray).size = 6 := rfl
theorem zd : (⟨#[32, 108, 97, 116, 101, 32]⟩ : ByteArray).size = 6 := rfl
theorem client_f (c : S65) (h : RngC c) (k : Nat) (hk : 8388608 ≤ k) : spec_ShowClient.f k c = some (clientS c) := by
  have h0 := h.1
  have h1 := h.2.1
  have h2 := h.2.2.1
  have d0 := decS_size c.f2.length (by omega)
  have d1 := decS_size c.f4.length (by omega)
  unfold spec_ShowClient.f
  rw [dec_f _ (by omega) k (by omega), Option.bind_some, if_pos (by rw [zc]; omega), if_pos (by simp only [ByteArray.size_append, zc, zd]; omega), dec_f _ (by omega) k (by omega), Option.bind_some, if_pos (by simp only [ByteArray.size_append, zc, zd]; omega), if_pos (by simp only [ByteArray.size_append, zc, zd, z10]; omega)]
  exact cloop_f c h _ 0 k _ rfl (Nat.zero_le _) (by simp only [ByteArray.size_append, zc, zd, z10]; omega) (by omega)
theorem client_g (c : S65) (h : RngC c) (k : Nat) (hk : 8388608 ≤ k) : impl_ShowClient.f k c = some (clientS c) := by
  have h0 := h.1
  have h1 := h.2.1
  have h2 := h.2.2.1
  have d0 := decS_size c.f2.length (by omega)
  have d1 := decS_size c.f4.length (by omega)
  unfold impl_ShowClient.f
  rw [dec_g _ (by omega), Option.bind_some, if_pos (by rw [zc]; omega), if_pos (by simp only [ByteArray.size_append, zc, zd]; omega), dec_g _ (by omega), Option.bind_some, if_pos (by simp only [ByteArray.size_append, zc, zd]; omega), if_pos (by simp only [ByteArray.size_append, zc, zd, z10]; omega)]
  exact cloop_g c h _ 0 k _ rfl (Nat.zero_le _) (by simp only [ByteArray.size_append, zc, zd, z10]; omega) (by omega)
end Go.Proofs.YtacocpknielofaaGreatDoor.ClientShowFnExactShowWorld

/- FnExactShowWorld, as numbers and lists: both say the same. -/
import Derived.Test.YtacocpknielofaaGreatDoorClientShowFnExactShowWorld
namespace Go.Proofs.YtacocpknielofaaGreatDoor.PureFnExactShowWorld
open Go.RowKit Go.Proofs.YtacocpknielofaaGreatDoorW.PrintWords Go.Proofs.YtacocpknielofaaGreatDoorW.PrintLast Go.Proofs.YtacocpknielofaaGreatDoor.ZOpen Go.Proofs.YtacocpknielofaaGreatDoor.Z Go.Proofs.YtacocpknielofaaGreatDoor.F
open Go.Proofs.YtacocpknielofaaGreatDoor.SaidFnExactShowWorld Go.Proofs.YtacocpknielofaaGreatDoor.ZP Go.Proofs.YtacocpknielofaaGreatDoor.FamFnExactShowWorld Go.Proofs.YtacocpknielofaaGreatDoor.ItemFnExactShowWorld Go.Proofs.YtacocpknielofaaGreatDoor.DecFnExactShowWorld Go.Proofs.YtacocpknielofaaGreatDoor.ShowFnExactShowWorld Go.Proofs.YtacocpknielofaaGreatDoor.ClientShowFnExactShowWorld
set_option linter.unusedVariables false
set_option linter.unusedSimpArgs false

theorem gots_size (l : List S223) (h : ∀ e ∈ l, Rng e.f1) : (gotsS l).size ≤ 100000000 * l.length := by
  induction l with
  | nil => exact Nat.zero_le _
  | cons x l ih =>
    have h1 := show_size x.f1 (h x (List.mem_cons_self ..))
    have h2 := (h x (List.mem_cons_self ..)).2.2.1
    have h3 := ih fun e he => h e (List.mem_cons_of_mem _ he)
    rw [gotsS, ByteArray.size_append, List.length_cons]
    omega
theorem client_size (c : S65) (h : RngC c) : (clientS c).size ≤ 1000000000000000 := by
  have h1 := gots_size c.f3 h.2.2.2
  have h2 := h.2.2.1
  have h0 := h.1
  have h3 := h.2.1
  have d0 := decS_size c.f2.length (by omega)
  have d1 := decS_size c.f4.length (by omega)
  unfold clientS
  simp only [ByteArray.size_append, zc, zd, z10]
  omega
theorem rng (a : S269) (ha : ok269 a) (hs : sm269 a) : Rng (cv269 a) := by
  refine ⟨ok_range ha.2.1, ok_range ha.2.2.2.2.2.1, (smcv269 a hs).2.2.2.2.2.2.1.1, fun e he => ?_⟩
  obtain ⟨x, hx, rfl⟩ := List.mem_map.1 he
  have hx' : ok304 x := ha.2.2.2.2.2.2.1.2 x hx
  exact ⟨ok_range hx'.1, ok_range hx'.2.1, (hs.2.2.2.2.2.2.1.2 x hx).2.2.1.1⟩
theorem rngc (a : S54) (ha : ok54 a) (hs : sm54 a) : RngC (cv54 a) := by
  refine ⟨(smcv54 a hs).2.2.1.1, (smcv54 a hs).2.2.2.2.1.1, (smcv54 a hs).2.2.2.1.1, fun e he => ?_⟩
  obtain ⟨x, hx, rfl⟩ := List.mem_map.1 he
  have hx' : ok271 x := ha.2.2.2.1.2 x hx
  exact rng x.f1 hx'.2 (hs.2.2.2.1.2 x hx).2.1
theorem z7a : (⟨#[115, 101, 114, 118, 101, 114, 32]⟩ : ByteArray).size = 7 := rfl
theorem z7b : (⟨#[32, 107, 110, 111, 119, 115, 32]⟩ : ByteArray).size = 7 := rfl
theorem z7c : (⟨#[32, 107, 101, 101, 112, 115, 32]⟩ : ByteArray).size = 7 := rfl
theorem world (w : S69) (h : RngC w.f1) (h1 : in64 w.f0.f3) (h2 : w.f0.f0.f0.length ≤ 1048576) (h3 : w.f0.f5.length ≤ 1048576) (k : Nat) (hk : 8388608 ≤ k) : ∃ t, spec_ShowWorld.f k w = some t ∧ impl_ShowWorld.f k w = some t := by
  have d0 := client_size w.f1 h
  have d1 := numS_size _ h1
  have d2 := decS_size w.f0.f0.f0.length (by omega)
  have d3 := decS_size w.f0.f5.length (by omega)
  refine ⟨((((((clientS w.f1 ++ (⟨#[115, 101, 114, 118, 101, 114, 32]⟩ : ByteArray)) ++ numS w.f0.f3) ++ (⟨#[32, 107, 110, 111, 119, 115, 32]⟩ : ByteArray)) ++ decS w.f0.f0.f0.length) ++ (⟨#[32, 107, 101, 101, 112, 115, 32]⟩ : ByteArray)) ++ decS w.f0.f5.length) ++ (⟨#[10]⟩ : ByteArray), ?_, ?_⟩
  rotate_left
  · unfold impl_ShowWorld.f
    rw [client_g _ h k hk, Option.bind_some, if_pos (by rw [z7a]; omega), num_g _ h1, Option.bind_some, if_pos (by simp only [ByteArray.size_append, z7a, z7b, z7c, z10]; omega), if_pos (by simp only [ByteArray.size_append, z7a, z7b, z7c, z10]; omega), dec_g _ (by omega), Option.bind_some, if_pos (by simp only [ByteArray.size_append, z7a, z7b, z7c, z10]; omega), if_pos (by simp only [ByteArray.size_append, z7a, z7b, z7c, z10]; omega), dec_g _ (by omega), Option.bind_some, if_pos (by simp only [ByteArray.size_append, z7a, z7b, z7c, z10]; omega), if_pos (by simp only [ByteArray.size_append, z7a, z7b, z7c, z10]; omega)]
  · unfold spec_ShowWorld.f
    rw [client_f _ h k hk, Option.bind_some, if_pos (by rw [z7a]; omega), num_f _ h1 k (by omega), Option.bind_some, if_pos (by simp only [ByteArray.size_append, z7a, z7b, z7c, z10]; omega), if_pos (by simp only [ByteArray.size_append, z7a, z7b, z7c, z10]; omega), dec_f _ (by omega) k (by omega), Option.bind_some, if_pos (by simp only [ByteArray.size_append, z7a, z7b, z7c, z10]; omega), if_pos (by simp only [ByteArray.size_append, z7a, z7b, z7c, z10]; omega), dec_f _ (by omega) k (by omega), Option.bind_some, if_pos (by simp only [ByteArray.size_append, z7a, z7b, z7c, z10]; omega), if_pos (by simp only [ByteArray.size_append, z7a, z7b, z7c, z10]; omega)]
theorem pure : Pure := by
  intro a ha
  by_cases hs : sm59 a
  · have hc := smcv59 a hs
    have hr := rngc a.f1 ha.2.1 hs.2.1
    obtain ⟨t, f, g⟩ := world (cv59 a) hr (ok_range ha.1.2.2.2.1) hc.1.1.1.1 hc.1.2.2.2.2.2.1.1 8388608 (by omega)
    refine ⟨8388608, ?_⟩
    obtain ⟨n, z1, z2, z3⟩ := sz_21 a ha 1048576 (by omega) (by omega) 8388608 (by omega)
    unfold laws_FnExactShowWorld.f
    rw [z1, Option.bind_some]
    by_cases c : n < 0
    · rw [if_pos c]
    rw [if_neg c]
    simp only [to_23 a hs 8388608 (by omega), Option.bind_some, f, g, if_true, eq_25 _ hc 8388608 (by omega)]
  · obtain ⟨n, z1, z2, z3⟩ := sz_21 a ha 1048576 (by omega) (by omega) 8388608 (by omega)
    refine ⟨8388608, ?_⟩
    unfold laws_FnExactShowWorld.f
    rw [z1, Option.bind_some, if_pos (by
      by_cases c : 0 ≤ n
      · exact absurd (z3 c) hs
      · omega)]
end Go.Proofs.YtacocpknielofaaGreatDoor.PureFnExactShowWorld

/- Decimal numbers: the library's text and the reference's. Plain lemmas, no condition. -/
import Derived.Test.YtacocpknielofaaGreatDoorItemFnExactShowWorld
import Derived.Lib.ItoaNum
namespace Go.Proofs.YtacocpknielofaaGreatDoor.DecFnExactShowWorld
open Go.RowKit Go.Proofs.YtacocpknielofaaGreatDoorW.PrintWords Go.Proofs.YtacocpknielofaaGreatDoorW.PrintLast Go.Proofs.YtacocpknielofaaGreatDoor.ZOpen Go.Proofs.YtacocpknielofaaGreatDoor.Z Go.Proofs.YtacocpknielofaaGreatDoor.F
open Go.Proofs.YtacocpknielofaaGreatDoor.ZP Go.Proofs.YtacocpknielofaaGreatDoor.ItemFnExactShowWorld
set_option linter.unusedVariables false
set_option linter.unusedSimpArgs false
set_option maxHeartbeats 4000000
/-- The decimal numeral of a number that is not negative. -/
noncomputable def decS (u : Nat) : ByteArray := ⟨(Lib.decDigits u).toArray⟩
theorem nd_le : ∀ (d u : Nat), u < 10 ^ (d + 1) → Lib.nDigits u ≤ d + 1
  | 0, u, h => by rw [Lib.nDigits_small (by simpa using h)]; exact Nat.le_refl _
  | d + 1, u, h => by
    by_cases c : u < 10
    · rw [Lib.nDigits_small c]; omega
    · have h' : u < 10 ^ (d + 1) * 10 := by rw [← Nat.pow_succ]; exact h
      rw [Lib.nDigits_big c]
      have := nd_le d (u / 10) (by omega)
      omega
theorem decS_size (u : Nat) (h : u ≤ 9223372036854775807) : (decS u).size ≤ 19 := by
  have h1 := nd_le 18 u (by omega)
  have h2 : (decS u).size = (Lib.decDigits u).length := by show (Lib.decDigits u).toArray.size = _; simp
  rw [h2, Lib.decDigits_length]
  exact h1
theorem decS_step (u : Nat) (h : ¬ u < 10) : decS u = decS (u / 10) ++ (⟨#[UInt8.ofNat (48 + u % 10)]⟩ : ByteArray) := by
  apply ext_ba
  show (Lib.decDigits u).toArray.toList = _
  rw [Lib.decDigits, dif_neg h]
  simp [decS]
theorem decS_one (u : Nat) (h : u < 10) : decS u = (⟨#[UInt8.ofNat (48 + u)]⟩ : ByteArray) := by
  unfold decS
  rw [Lib.decDigits, dif_pos h]
def in64 (n : Int) : Prop := -9223372036854775808 ≤ n ∧ n ≤ 9223372036854775807
theorem ok_range {n : Int} (h : (okInt .i64) n) : in64 n := by
  have h' : (Lit.int .i64 n).wf = true := h
  simp [Lit.wf, IntKind.min, IntKind.max, IntKind.bits, IntKind.signed] at h'
  unfold in64
  omega
theorem one_sn (x : Nat) : strOfNums [(((48 + x : Nat)) : Int)] = (⟨#[UInt8.ofNat (48 + x)]⟩ : ByteArray) := by
  apply ext_ba
  rfl
theorem fig (x : Nat) (h : x < 10) : spec_l01Figure.f (x : Int) = some (((48 + x : Nat)) : Int) := by
  unfold spec_l01Figure.f
  rw [if_pos (by omega), w64 (by omega) (by omega)]
  exact congrArg some (by omega)
theorem tm10 (v : Nat) : Int.tmod (v : Int) 10 = ((v % 10 : Nat) : Int) := by
  rw [Int.tmod_eq_emod_of_nonneg (by omega)]
  omega
theorem td10 (v : Nat) : Int.tdiv (v : Int) 10 = ((v / 10 : Nat) : Int) := by
  rw [Int.tdiv_eq_ediv_of_nonneg (by omega)]
  omega
theorem z1b (b : UInt8) : (⟨#[b]⟩ : ByteArray).size = 1 := rfl
theorem dec_loop : ∀ (d u k : Nat) (s : ByteArray) (a : Int), 0 ≤ a → u < 10 ^ d → u ≤ 9223372036854775807 → s.size + d ≤ 1000 → d < k → spec_Decimal.l0 k (u : Int) s a = some (if u = 0 then s else decS u ++ s) := by
  intro d
  induction d with
  | zero =>
    intro u k s a ha h hu hs hk
    obtain ⟨k, rfl⟩ : ∃ q, k = q + 1 := ⟨k - 1, by omega⟩
    have c0 : u = 0 := by simpa using h
    rw [spec_Decimal.l0, if_pos (by omega), if_neg (by omega), if_pos c0]
  | succ d ih =>
    intro u k s a ha h hu hs hk
    obtain ⟨k, rfl⟩ : ∃ q, k = q + 1 := ⟨k - 1, by omega⟩
    by_cases c0 : u = 0
    · rw [spec_Decimal.l0, if_pos (by omega), if_neg (by omega), if_pos c0]
    have h' : u < 10 ^ d * 10 := by rw [← Nat.pow_succ]; exact h
    have e3 : wrap64 (((u / 10 : Nat)) : Int) = ((u / 10 : Nat) : Int) := w64 (by omega) (by omega)
    have ih := ih (u / 10) k ((⟨#[UInt8.ofNat (48 + u % 10)]⟩ : ByteArray) ++ s) a ha (by omega) (by omega) (by rw [ByteArray.size_append, z1b]; omega) (by omega)
    rw [spec_Decimal.l0, if_neg (by omega), tm10, td10, e3, if_neg (by omega), fig _ (by omega), Option.bind_some, one_sn, if_pos (by rw [z1b]; omega), ih, if_neg c0]
    by_cases c : u < 10
    · rw [if_pos (by omega), decS_one u c, show u % 10 = u by omega]
    · rw [if_neg (by omega), decS_step u c, ByteArray.append_assoc]
theorem app_nil (s : ByteArray) : s ++ (⟨#[]⟩ : ByteArray) = s := by
  apply ext_ba
  simp
theorem dec_f (u : Nat) (hu : u ≤ 9223372036854775807) (k : Nat) (hk : 20 ≤ k) : spec_Decimal.f k (u : Int) = some (decS u) := by
  unfold spec_Decimal.f
  by_cases c : u = 0
  · subst c
    rw [if_pos (by omega), decS_one 0 (by omega)]
    rfl
  · rw [if_neg (by omega), dec_loop 19 u k _ _ (by omega) (by omega) hu (by decide) (by omega), if_neg c, app_nil]
theorem dec_g (u : Nat) (hu : u ≤ 9223372036854775807) : impl_Decimal.f (u : Int) = some (decS u) := by
  unfold impl_Decimal.f strconv_Itoa.f
  rw [if_pos (by omega), if_pos (by omega), Option.bind_some]
  unfold decS Lib.itoa
  rw [if_neg (by omega), Int.toNat_natCast]
noncomputable def numS (n : Int) : ByteArray := decS n.toNat
theorem numS_size (n : Int) (h : in64 n) : (numS n).size ≤ 19 := decS_size _ (by have := h.2; omega)
theorem num_f (n : Int) (h : in64 n) (k : Nat) (hk : 20 ≤ k) : spec_l21Num.f k n = some (numS n) := by
  unfold spec_l21Num.f
  by_cases c : n < 0
  · rw [if_pos c]
    unfold numS
    rw [show n.toNat = 0 by omega, decS_one 0 (by omega)]
    rfl
  · obtain ⟨u, rfl⟩ : ∃ u : Nat, n = u := ⟨n.toNat, by omega⟩
    rw [if_neg c, dec_f u (by have := h.2; omega) k hk]
    rfl
theorem num_g (n : Int) (h : in64 n) : impl_shown.f n = some (numS n) := by
  unfold impl_shown.f
  by_cases c : n < 0
  · rw [if_pos c, show impl_Decimal.f 0 = some (decS 0) from dec_g 0 (by omega)]
    unfold numS
    rw [show n.toNat = 0 by omega]
    rfl
  · obtain ⟨u, rfl⟩ : ∃ u : Nat, n = u := ⟨n.toNat, by omega⟩
    rw [if_neg c, dec_g u (by have := h.2; omega)]
    rfl
end Go.Proofs.YtacocpknielofaaGreatDoor.DecFnExactShowWorld

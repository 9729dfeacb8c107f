/- The statement FnExactWholeOf, as numbers and lists: the program's WholeOf and the reference's agree. -/
import Derived.Test.YtfeebnbookfpmaaFamFnExactWholeOf
namespace Go.Proofs.Ytfeebnbookfpmaa.PureFnExactWholeOf
open Go.RowKit Go.Proofs.YtfeebnbookfpmaaW.PrintWords Go.Proofs.YtfeebnbookfpmaaW.PrintLast Go.Proofs.Ytfeebnbookfpmaa.ZOpen Go.Proofs.Ytfeebnbookfpmaa.Z Go.Proofs.Ytfeebnbookfpmaa.F
open Go.Proofs.Ytfeebnbookfpmaa.SaidFnExactWholeOf Go.Proofs.Ytfeebnbookfpmaa.ZP Go.Proofs.Ytfeebnbookfpmaa.FamFnExactWholeOf

theorem copy_f (a : S54) (h : sm54 a) : spec_l10Copy.f a = some a := by
  have := h.2.2.2.2.2.1.1
  unfold spec_l10Copy.f
  rw [if_pos (by omega)]
  rfl
theorem copy_g (a : S54) (h : sm54 a) : impl_copyCrl.f a = some a := copy_f a h

/-- The two ways of looking for the greatest: the same, and an answer. -/
theorem loop (x : List S54) (hx : x.length ≤ 1048576 ∧ ∀ e ∈ x, sm54 e) : ∀ (k : Nat) (b : Int) (i : Nat), -1 ≤ b → b < (x.length : Int) → x.length - i < k →
    ∃ r v, spec_WholeOf.l0 k b (i : Int) x = some (r, v) ∧ impl_greatest_0.l0 k b (i : Int) x = some (r, v) ∧ sm54 r
  | 0, _, _, _, _, h => absurd h (Nat.not_lt_zero _)
  | k + 1, b, i, h0, h1, h => by
    rw [spec_WholeOf.l0, impl_greatest_0.l0]
    by_cases c1 : (i : Int) < (x.length : Int)
    · have hi : i < x.length := by omega
      have e1 : wrap64 ((i : Int) + 1) = ((i + 1 : Nat) : Int) := by have := hx.1; rw [w64 (by omega) (by omega)]; rfl
      have ih := fun b h0 h1 => loop x hx k b (i + 1) h0 h1 (by omega)
      have i0 : (0 : Int) ≤ (i : Int) := by omega
      simp only [c1, i0, if_true, e1, impl_WholeOf_1.f, Option.bind_some, beq_iff_eq]
      by_cases c2 : (rd_T54 x (i : Int)).f4 = 0
      · simp only [c2, if_true]
        by_cases c3 : b < 0
        · simp only [c3, if_true]
          exact ih _ (by omega) (by omega)
        · have c4 : 0 ≤ b := by omega
          simp only [c3, c4, h1, if_true, if_false]
          split
          · exact ih _ (by omega) (by omega)
          · exact ih _ (by omega) (by omega)
      · simp only [c2, if_false]
        exact ih _ h0 h1
    · simp only [c1, if_false]
      by_cases c3 : b < 0
      · simp only [c3, if_true]
        exact ⟨_, _, rfl, rfl, by simp [sm54]; exact Nat.zero_le _⟩
      · have c4 : 0 ≤ b := by omega
        have hb : b.toNat < x.length := by omega
        have e2 : rd_T54 x b = x[b.toNat] := by
          have := rd54 x b.toNat hb
          rwa [Int.toNat_of_nonneg c4] at this
        have hs : sm54 (rd_T54 x b) := by rw [e2]; exact hx.2 _ (List.getElem_mem hb)
        simp only [c3, c4, h1, if_true, if_false, copy_f _ hs, copy_g _ hs, Option.bind_some]
        exact ⟨_, _, rfl, rfl, hs⟩
theorem whole (x : List S54) (hx : x.length ≤ 1048576 ∧ ∀ e ∈ x, sm54 e) (k : Nat) (hk : 1048577 ≤ k) : ∃ r v, spec_WholeOf.f k x = some (r, v) ∧ impl_WholeOf.f k x = some (r, v) ∧ sm54 r := by
  obtain ⟨r, v, e1, e2, h⟩ := loop x hx k (-1) 0 (by omega) (by omega) (by have := hx.1; omega)
  refine ⟨r, v, e1, ?_, h⟩
  unfold impl_WholeOf.f impl_greatest_0.f
  rw [show (0 : Int) = ((0 : Nat) : Int) from rfl, e2]
  rfl

theorem pure : Pure := by
  intro a ha
  obtain ⟨k, hk⟩ : ∃ k, k = 4194304 := ⟨_, rfl⟩
  refine ⟨k, ?_⟩
  unfold laws_FnExactWholeOf.f
  obtain ⟨n, e1, n1, n2⟩ := sz_49 a ha 1048576 (by omega) (by omega) k (by omega)
  rw [e1, Option.bind_some]
  by_cases c : n < 0
  · rw [if_pos c]
  rw [if_neg c]
  have hs := n2 (by omega)
  have hc : (a.map cv49).length ≤ 1048576 ∧ ∀ e ∈ a.map cv49, sm54 e := ⟨by rw [List.length_map]; exact hs.1, fun e he => by
    obtain ⟨y, hy, rfl⟩ := List.mem_map.1 he
    exact smcv49 y (hs.2 y hy)⟩
  obtain ⟨r, v, w1, w2, hr⟩ := whole _ hc k (by omega)
  obtain ⟨m1, r1, q1, q2, _, _⟩ := mk_54 _ hc 1 (by omega) (by omega) k (by omega)
  obtain ⟨m2, r2, p1, p2, _, p3⟩ := mk_55 r hr 1 (by omega) (by omega) k (by omega)
  simp only [to_51 a hs k (by omega), Option.bind_some, w1, w2, eq_33 r hr k (by omega), eq_53 _ hc k (by omega), q1, p1, p3 k (by omega), if_true, show ¬ m1 < 0 by omega, show ¬ m2 < 0 by omega, if_false]
end Go.Proofs.Ytfeebnbookfpmaa.PureFnExactWholeOf

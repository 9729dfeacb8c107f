/- The statement FnExactGotOf, as numbers and lists: the program's GotOf and the reference's agree. -/
import Derived.Test.YtdcjcanobiohnaaFamFnExactGotOf
namespace Go.Proofs.Ytdcjcanobiohnaa.PureFnExactGotOf
open Go.RowKit Go.Proofs.YtdcjcanobiohnaaW.PrintWords Go.Proofs.YtdcjcanobiohnaaW.PrintLast Go.Proofs.Ytdcjcanobiohnaa.ZOpen Go.Proofs.Ytdcjcanobiohnaa.Z Go.Proofs.Ytdcjcanobiohnaa.F
open Go.Proofs.Ytdcjcanobiohnaa.SaidFnExactGotOf Go.Proofs.Ytdcjcanobiohnaa.ZP Go.Proofs.Ytdcjcanobiohnaa.FamFnExactGotOf

theorem same : ∀ (k : Nat) (l : List S171) (x : Int) (a : S49), impl_copyReply.l0 k l x a = spec_l15Copy.l0 k l x a
  | 0, _, _, _ => by rw [impl_copyReply.l0, spec_l15Copy.l0]
  | k + 1, l, x, a => by rw [impl_copyReply.l0, spec_l15Copy.l0]; simp only [same k]
theorem copy_loop (r : S49) (h : sm49 r) : ∀ (m k i : Nat), r.f6.length - i = m → i ≤ r.f6.length → m < k → spec_l15Copy.l0 k (r.f6.take i) (i : Int) r = some r
  | m, 0, _, _, _, h => absurd h (Nat.not_lt_zero _)
  | m, k + 1, i, hm, hi, hk => by
    have h6 := h.2.2.2.2.2.2.1
    by_cases c : i < r.f6.length
    · have e1 : wrap64 ((i : Int) + 1) = ((i + 1 : Nat) : Int) := by have := h6.1; rw [w64 (by omega) (by omega)]; rfl
      have hs := h6.2 r.f6[i] (List.getElem_mem c)
      have e2 := rd171 r.f6 i c
      have g1 : (0 + r.f6[i].f2.length ≤ 8796093022208) = True := eq_true (by have := hs.2.2.1.1; omega)
      have g2 : (0 + r.f6[i].f3.length ≤ 8796093022208) = True := eq_true (by have := hs.2.2.2.1.1; omega)
      have g3 : ((r.f6.take i).length + 1 ≤ 2199023255552) = True := eq_true (by rw [List.length_take]; have := h6.1; omega)
      have ih := copy_loop r h (m - 1) k (i + 1) (by omega) (by omega) (by omega)
      rw [List.take_succ_eq_append_getElem c] at ih
      rw [spec_l15Copy.l0, if_pos (by omega), if_pos (by omega), if_pos (by omega), e1, e2]
      simp only [g1, g2, g3, if_true, lets, List.nil_append]
      exact ih
    · obtain rfl : i = r.f6.length := by omega
      rw [spec_l15Copy.l0, if_neg (by omega), List.take_length]
theorem copy_f (r : S49) (h : sm49 r) (k : Nat) (hk : 1048577 ≤ k) : spec_l15Copy.f k r = some r := by
  have h6 := h.2.2.2.2.2.2.1.1
  exact copy_loop r h r.f6.length k 0 rfl (Nat.zero_le _) (by omega)
theorem copy_g (r : S49) (h : sm49 r) (k : Nat) (hk : 1048577 ≤ k) : impl_copyReply.f k r = some r := by
  unfold impl_copyReply.f
  rw [same]
  exact copy_f r h k hk
theorem loop (c : S37) (n : Int) (hc : sm37 c) : ∀ (k i : Nat), 1048577 + (c.f3.length - i) < k → ∃ r v, spec_GotOf.l0 k (i : Int) c n = some (r, v) ∧ impl_GotOf.l0 k (i : Int) c n = some (r, v) ∧ sm49 r
  | 0, _, h => absurd h (Nat.not_lt_zero _)
  | k + 1, i, h => by
    have h3 := hc.2.2.2.1
    by_cases c1 : i < c.f3.length
    · have e1 : wrap64 ((i : Int) + 1) = ((i + 1 : Nat) : Int) := by have := h3.1; rw [w64 (by omega) (by omega)]; rfl
      have e2 := rd117 c.f3 i c1
      have hs : sm49 c.f3[i].f1 := (h3.2 c.f3[i] (List.getElem_mem c1)).2.1
      have c1' : ((i : Int) < (c.f3.length : Int)) = True := eq_true (by omega)
      have c0' : (0 ≤ (i : Int)) = True := eq_true (by omega)
      rw [spec_GotOf.l0, impl_GotOf.l0]
      simp only [c1', c0', if_true, e1, e2]
      by_cases c2 : c.f3[i].f0 = n
      · rw [if_pos c2, if_pos c2, show (⟨c.f3[i].f1.f0, c.f3[i].f1.f1, c.f3[i].f1.f2, c.f3[i].f1.f3, c.f3[i].f1.f4, c.f3[i].f1.f5, c.f3[i].f1.f6, c.f3[i].f1.f7⟩ : S49) = c.f3[i].f1 from rfl, copy_f _ hs k (by omega), copy_g _ hs k (by omega)]
        exact ⟨_, _, rfl, rfl, hs⟩
      · rw [if_neg c2, if_neg c2]
        exact loop c n hc k (i + 1) (by omega)
    · rw [spec_GotOf.l0, impl_GotOf.l0, if_neg (by omega), if_neg (by omega)]
      exact ⟨_, _, rfl, rfl, Nat.zero_le _, trivial, trivial, trivial, trivial, trivial, ⟨Nat.zero_le _, fun e he => by cases he⟩, Nat.zero_le _, trivial⟩

theorem pure : Pure := by
  intro a n ha hn
  obtain ⟨k, hk⟩ : ∃ k, k = 8388608 := ⟨_, rfl⟩
  refine ⟨k, ?_⟩
  unfold laws_FnExactGotOf.f
  obtain ⟨m, e1, b1, g1⟩ := sz_31 a ha 1048576 (by omega) (by omega) k (by omega)
  rw [e1, Option.bind_some]
  by_cases c : m < 0
  · rw [if_pos c]
  rw [if_neg c]
  have hs := g1 (by omega)
  have hc := smcv58 a hs
  obtain ⟨r, v, w1, w2, hr⟩ := loop (cv58 a) n hc k 0 (by have := hc.2.2.2.1.1; omega)
  have w1' : spec_GotOf.f k (cv58 a) n = some (r, v) := w1
  have w2' : impl_GotOf.f k (cv58 a) n = some (r, v) := w2
  obtain ⟨m1, r1, r2, r3, q1, q2, _, _⟩ := mk_22 _ hc 1 (by omega) (by omega) k (by omega)
  obtain ⟨m2, r4, p1, p2, _, p3⟩ := mk_35 r hr 1 (by omega) (by omega) k (by omega)
  simp only [to_33 a hs k (by omega), Option.bind_some, w1', w2', eq_28 r hr k (by omega), eq_21 _ hc k (by omega), q1, p1, p3 k (by omega), if_true, show ¬ m1 < 0 by omega, show ¬ m2 < 0 by omega, if_false]
end Go.Proofs.Ytdcjcanobiohnaa.PureFnExactGotOf

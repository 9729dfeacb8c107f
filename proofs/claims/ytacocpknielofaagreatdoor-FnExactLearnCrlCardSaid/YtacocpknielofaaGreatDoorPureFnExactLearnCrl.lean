/- FnExactLearnCrl, as numbers and lists: both put in alike. -/
import Derived.Test.YtacocpknielofaaGreatDoorLearnFnExactLearnCrl
namespace Go.Proofs.YtacocpknielofaaGreatDoor.PureFnExactLearnCrl
open Go.RowKit YtacocpknielofaaGreatDoorW.PrintWords YtacocpknielofaaGreatDoorW.PrintLast ZOpen Z F
open SaidFnExactLearnCrl ZP FamFnExactLearnCrl
open LearnFnExactLearnCrl (learn)
set_option linter.unusedVariables false
set_option linter.unusedSimpArgs false
theorem pure : Pure := by
  intro s p hs hp
  by_cases hb : sm40 s ∧ sm75 p
  · obtain ⟨h1, h2⟩ := hb
    have hc := smcv40 s h1
    have hc2 := smcv75 p h2
    obtain ⟨r, ⟨K1, w1⟩, ⟨K2, w2⟩, hr⟩ := learn (cv40 s) (cv75 p) hc hc2
    obtain ⟨k, hk⟩ : ∃ k, k = 8388608 + K1 + K2 := ⟨_, rfl⟩
    refine ⟨k, ?_⟩
    have w1 := w1 k (by omega)
    have w2 := w2 k (by omega)
    simp only at w1 w2
    unfold laws_FnExactLearnCrl.f
    obtain ⟨n1, e1, b1, g1⟩ := sz_16 s hs 1048576 (by omega) (by omega) k (by omega)
    rw [e1, Option.bind_some]
    by_cases c : n1 < 0
    · rw [if_pos c]
    rw [if_neg c]
    obtain ⟨n2, e2, b2, g2⟩ := sz_26 p hp n1 (by omega) (by omega) k (by omega)
    rw [e2, Option.bind_some]
    by_cases c2 : n2 < 0
    · rw [if_pos c2]
    rw [if_neg c2]
    obtain ⟨m1, ra0, ra1, ra2, ra3, ra4, q1, q2, q3, _⟩ := mk_47 _ hc 1 (by omega) (by omega) k (by omega)
    obtain ⟨m3, rb0, o1, o2, _, _⟩ := mk_32 _ hc2 m1 (by omega) (by omega) k (by omega)
    obtain ⟨m2, rr0, rr1, rr2, rr3, rr4, p1, p2, _, p3⟩ := mk_47 r.1 hr 1 (by omega) (by omega) k (by omega)
    simp only [to_18 s h1 k (by omega), to_28 p h2 k (by omega), Option.bind_some, w1, w2, eq_20 r.1 hr k (by omega), eq_20 _ hc k (by omega), eq_30 _ hc2 k (by omega), q1, o1, p1, p3 k (by omega), if_true, show ¬ m3 < 0 by omega, show ¬ m2 < 0 by omega, if_false]
  · refine ⟨8388608, ?_⟩
    obtain ⟨n, z1, z2, z3⟩ := sz_16 s hs 1048576 (by omega) (by omega) 8388608 (by omega)
    unfold laws_FnExactLearnCrl.f
    rw [z1, Option.bind_some]
    by_cases c : n < 0
    · rw [if_pos c]
    rw [if_neg c]
    obtain ⟨m, y1, y2, y3⟩ := sz_26 p hp n (by omega) (by omega) 8388608 (by omega)
    rw [y1, Option.bind_some]
    by_cases c2 : m < 0
    · rw [if_pos c2]
    exact absurd ⟨z3 (by omega), y3 (by omega)⟩ hb
end Go.Proofs.YtacocpknielofaaGreatDoor.PureFnExactLearnCrl

/- What the law's own helpers do: they measure, copy, compare, mark. Plain lemmas, no condition. -/
import Derived.Test.YtoaoncnbimcdgaaDoorSaidFnExactReadCrl
import Derived.Test.YtoaoncnbimcdgaaDoorZMark
namespace Go.Proofs.YtoaoncnbimcdgaaDoor.FamFnExactReadCrl
open Go.RowKit Go.Proofs.YtoaoncnbimcdgaaDoorW.PrintWords Go.Proofs.YtoaoncnbimcdgaaDoorW.PrintLast Go.Proofs.YtoaoncnbimcdgaaDoor.ZOpen Go.Proofs.YtoaoncnbimcdgaaDoor.Z Go.Proofs.YtoaoncnbimcdgaaDoor.F
open Go.Proofs.YtoaoncnbimcdgaaDoor.SaidFnExactReadCrl Go.Proofs.YtoaoncnbimcdgaaDoor.ZP
set_option linter.unusedVariables false
set_option linter.unusedSimpArgs false
set_option maxRecDepth 100000

def sm82 (x : S82) : Prop := True ∧ True ∧ True
theorem eq_100 (x : S82) (h : sm82 x) (k : Nat) (hk : 0 ≤ k) : laws_eqRev.f x x = some true := by
  unfold laws_eqRev.f
  simp []
theorem rd82 (x : List S82) (i : Nat) (h : i < x.length) : rd_T82 x (i : Int) = x[i] := by simp [rd_T82, h]
theorem eq_57 (x : (List S82)) (h : (x.length ≤ 1048576 ∧ ∀ e ∈ x, sm82 e)) (k : Nat) (hk : 1048577 ≤ k) : laws_eqRevS.f k x x = some true := by
  have hx := h.1
  unfold laws_eqRevS.f
  rw [if_pos rfl]
  exact eq_loop laws_eqRevS.l0 rd_T82 (fun k e => laws_eqRev.f e e) x 0 hx (rd82 x) (fun k i => by rw [laws_eqRevS.l0]) (fun k e hk he => eq_100 e (h.2 e he) k (by omega)) k 0 (by omega) (by omega)
def sm50 (x : S50) : Prop := x.f0.size ≤ 1048576 ∧ True ∧ True ∧ True ∧ True ∧ (x.f5.length ≤ 1048576 ∧ ∀ e ∈ x.f5, sm82 e) ∧ x.f6.size ≤ 1048576 ∧ True
theorem eq_25 (x : S50) (h : sm50 x) (k : Nat) (hk : 1048577 ≤ k) : laws_eqCrl.f k x x = some true := by
  unfold laws_eqCrl.f
  simp [eq_57 x.f5 h.2.2.2.2.2.1 k (by omega)]
theorem mk_58 (x : (List S82)) (h : (x.length ≤ 1048576 ∧ ∀ e ∈ x, sm82 e)) (m : Int) (h0 : 0 < m) (h1 : m + 2097154 ≤ 4611686018427387904) (k : Nat) (hk : 1048577 ≤ k) : ∃ m2 r, laws_markRevS.f k x m = some (m2, r) ∧ m ≤ m2 ∧ m2 ≤ m + 2097154 ∧ (∀ k, 1048577 ≤ k → laws_heldRevS.f k r m = some m2) := by
  have hx := h.1
  have hw : (2 : Int) * ((x.length - 0 : Nat) : Int) ≤ 2097152 := by omega
  refine Exists.elim (mark_loop True laws_markRevS.l0 laws_heldRevS.l0 x sm82 0 2 4611686018427387902 hx (fun k l m i e hK hi hl hle hp hm0 hm1 => ?_) (fun k l m => ?_) ?_ x.length k x m 0 rfl (Nat.zero_le _) rfl (fun j e _ he => h.2 e (List.mem_of_getElem? he)) h0 (by omega) (by omega)) (fun m2 HM => ?_)
  · have c1 : (i : Int) < (x.length : Int) := by omega
    have c0 : 0 ≤ (i : Int) := by omega
    have ew : wrap64 ((i : Int) + 1) = ((i + 1 : Nat) : Int) := by rw [w64 (by omega) (by omega)]; rfl
    have re : rd_T82 l (i : Int) = e := by rw [rd82 l i (by omega)]; exact Option.some.inj ((List.getElem?_eq_getElem (by omega)).symm.trans hle)
    have rs : ∀ y, rd_T82 (l.set i y) (i : Int) = y := fun y => by rw [rd82 _ i (by rw [List.length_set]; omega), List.getElem_set_self]
    refine ⟨(⟨m, m + 1⟩ : S82), m + 1 + 1, ?_, by omega, by omega, fun _ k' l2 hK' hl2 he2 => ?_⟩
    · rw [laws_markRevS.l0]
      simp only [lets, c1, c0, ew, re, rs, Int.toNat_natCast, List.set_set, if_true, Option.bind_some, u82_0_3, u82_1_3, show wrap64 (m + 1) = m + 1 from w64 (by omega) (by omega), show wrap64 (m + 1 + 1) = m + 1 + 1 from w64 (by omega) (by omega)]
    · have c2 : (i : Int) < (l2.length : Int) := by omega
      have re2 : rd_T82 l2 (i : Int) = (⟨m, m + 1⟩ : S82) := by rw [rd82 l2 i (by omega)]; exact Option.some.inj ((List.getElem?_eq_getElem (by omega)).symm.trans he2)
      rw [laws_heldRevS.l0]
      simp only [c2, c0, ew, re2, if_true, if_false, Option.bind_some, show wrap64 (m + 1) = m + 1 from w64 (by omega) (by omega), show wrap64 (m + 1 + 1) = m + 1 + 1 from w64 (by omega) (by omega)]
  · rw [laws_markRevS.l0, if_neg (by omega)]
  · intro _ k l2 m hl2
    rw [laws_heldRevS.l0, if_neg (by omega)]
  · obtain ⟨r, g1, g2, g3, g4, _, g6⟩ := HM
    refine ⟨m2, r, by unfold laws_markRevS.f; exact g1, g2, by omega, fun k' hk' => by unfold laws_heldRevS.f; exact g6 trivial k' (by omega)⟩
theorem mk_26 (x : S50) (h : sm50 x) (m : Int) (h0 : 0 < m) (h1 : m + 2097154 ≤ 4611686018427387904) (k : Nat) (hk : 1048577 ≤ k) : ∃ m2 r0, laws_markCrl.f k x m = some (m2, r0) ∧ m ≤ m2 ∧ m2 ≤ m + 2097154 ∧ (∀ k, 1048577 ≤ k → laws_heldCrl.f k (⟨x.f0, x.f1, x.f2, x.f3, x.f4, r0, x.f6⟩ : S50) m = some m2) := by
  obtain ⟨m0, r0_0, e0, a0, b0, c0⟩ := mk_58 x.f5 h.2.2.2.2.2.1 m (by omega) (by omega) k (by omega)
  refine ⟨m0, r0_0, ?_, by omega, by omega, fun k hk => ?_⟩
  · unfold laws_markCrl.f
    simp only [e0, Option.bind_some]
  · unfold laws_heldCrl.f
    simp only [c0 k (by omega), show ¬ m0 < 0 by omega, if_false, Option.bind_some]
end Go.Proofs.YtoaoncnbimcdgaaDoor.FamFnExactReadCrl

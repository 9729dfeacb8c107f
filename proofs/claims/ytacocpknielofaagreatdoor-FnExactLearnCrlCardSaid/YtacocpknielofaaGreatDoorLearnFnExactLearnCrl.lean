/- A server's copies, and what it learns: both ways agree. Plain lemmas, no condition. -/
import Derived.Test.YtacocpknielofaaGreatDoorCopyFnExactLearnCrl
namespace Go.Proofs.YtacocpknielofaaGreatDoor.LearnFnExactLearnCrl
open Go.RowKit YtacocpknielofaaGreatDoorW.PrintWords YtacocpknielofaaGreatDoorW.PrintLast ZOpen Z F
open ZP FamFnExactLearnCrl ItemFnExactLearnCrl
open CopyFnExactLearnCrl (copy_loop w1 store_fE store_gE add_crl)
set_option linter.unusedVariables false
set_option linter.unusedSimpArgs false
theorem rdp (x : List S202) (i : Nat) (h : i < x.length) : rd_T202 x (i : Int) = x[i] := by simp [rd_T202, h]
theorem server_f (a : S46) (h : sm46 a) : Evt (fun k => spec_l17Copy.f k a) a := by
  have hl := h.2.1.1
  have hk := h.2.2.2.2.2.1.1
  unfold spec_l17Copy.f
  refine Evt.bind (store_fE a.f0 h.1) (Evt.at_ 1048577 fun k hk => ?_)
  refine copy_loop a.f1 (fun k r i => spec_l17Copy.l0 k r i a a.f0) (some a) (fun k i r hi hr => ?_) (fun k => ?_) a.f1.length 0 k rfl (by omega) (by omega)
  · have hp := h.2.1.2 _ (List.getElem_mem hi)
    have p1 := hp.2.1.1
    have p2 := hp.2.2.1.2.1.1
    have c0 : (r.length + 1 ≤ 1759218604441) = True := eq_true (by omega)
    have c1 : (0 + a.f1[i].f1.length ≤ 17592186044416) = True := eq_true (by omega)
    have c2 : (0 + a.f1[i].f2.f1.length ≤ 17592186044416) = True := eq_true (by omega)
    show spec_l17Copy.l0 (k + 1) r (i : Int) a a.f0 = _
    rw [spec_l17Copy.l0, if_pos (by omega), if_pos (by omega), if_pos (by omega)]
    simp only [rdp a.f1 i hi, c0, c1, c2, if_true, lets, List.nil_append, w1 i (by omega)]
  · show spec_l17Copy.l0 (k + 1) a.f1 _ a a.f0 = _
    have c : (0 + a.f5.length ≤ 3518437208883) = True := eq_true (by omega)
    rw [spec_l17Copy.l0, if_neg (by omega)]
    simp only [c, if_true, lets, List.nil_append]
theorem server_g (a : S46) (h : sm46 a) : Evt (fun k => impl_copyServer.f k a) a := by
  have hl := h.2.1.1
  have hk := h.2.2.2.2.2.1.1
  have c : (0 + a.f5.length ≤ 3518437208883) = True := eq_true (by omega)
  unfold impl_copyServer.f
  refine Evt.bind (store_gE a.f0 h.1) (Evt.at_ 1048577 fun k hk => ?_)
  simp only [c, if_true, lets, List.nil_append]
  refine copy_loop a.f1 (fun k r i => impl_copyServer.l0 k r i a a.f0 a.f5) (some a) (fun k i r hi hr => ?_) (fun k => ?_) a.f1.length 0 k rfl (by omega) (by omega)
  · have hp := h.2.1.2 _ (List.getElem_mem hi)
    have p1 := hp.2.1.1
    have p2 := hp.2.2.1.2.1.1
    have c0 : (r.length + 1 ≤ 1759218604441) = True := eq_true (by omega)
    have c1 : (0 + a.f1[i].f1.length ≤ 17592186044416) = True := eq_true (by omega)
    have c2 : (0 + a.f1[i].f2.f1.length ≤ 17592186044416) = True := eq_true (by omega)
    show impl_copyServer.l0 (k + 1) r (i : Int) a a.f0 a.f5 = _
    rw [impl_copyServer.l0, if_pos (by omega), if_pos (by omega), if_pos (by omega)]
    simp only [rdp a.f1 i hi, c0, c1, c2, if_true, lets, List.nil_append, w1 i (by omega)]
  · show impl_copyServer.l0 (k + 1) a.f1 _ a a.f0 a.f5 = _
    rw [impl_copyServer.l0, if_neg (by omega)]
theorem learn (a : S46) (x : S81) (ha : sm46 a) (hx : sm81 x) : ∃ r : S46 × Bool, Evt (fun k => spec_LearnCrl.f k a x) r ∧ Evt (fun k => impl_LearnCrl.f k a x) r ∧ sm46 r.1 := by
  obtain ⟨⟨s, b⟩, s1, s2, hs⟩ := add_crl a.f0 x ha.1 hx
  cases b with
  | true =>
    refine ⟨(⟨s, a.f1, a.f2, a.f3, a.f4, []⟩, true), ?_, ?_, hs, ha.2.1, ha.2.2.1, ha.2.2.2.1, ha.2.2.2.2.1, ⟨Nat.zero_le _, fun e he => by cases he⟩, trivial⟩
    · unfold spec_LearnCrl.f
      exact Evt.bind (server_f a ha) (Evt.bind s1 Evt.now)
    · unfold impl_LearnCrl.f
      exact Evt.bind (server_g a ha) (Evt.bind s2 Evt.now)
  | false =>
    refine ⟨(a, false), ?_, ?_, ha⟩
    · unfold spec_LearnCrl.f
      exact Evt.bind (server_f a ha) (Evt.bind s1 Evt.now)
    · unfold impl_LearnCrl.f
      exact Evt.bind (server_g a ha) (Evt.bind s2 Evt.now)
end Go.Proofs.YtacocpknielofaaGreatDoor.LearnFnExactLearnCrl

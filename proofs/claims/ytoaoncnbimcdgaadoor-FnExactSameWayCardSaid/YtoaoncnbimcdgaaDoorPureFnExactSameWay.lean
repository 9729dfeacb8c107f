/- FnExactSameWay, as numbers and lists: both say alike whether two ways are one. -/
import Derived.Test.YtoaoncnbimcdgaaDoorCertTextFnExactSameWay
namespace Go.Proofs.YtoaoncnbimcdgaaDoor.PureFnExactSameWay
open Go.RowKit Go.Proofs.YtoaoncnbimcdgaaDoorW.PrintWords Go.Proofs.YtoaoncnbimcdgaaDoorW.PrintLast Go.Proofs.YtoaoncnbimcdgaaDoor.ZOpen Go.Proofs.YtoaoncnbimcdgaaDoor.Z Go.Proofs.YtoaoncnbimcdgaaDoor.F
open Go.Proofs.YtoaoncnbimcdgaaDoor.SaidFnExactSameWay Go.Proofs.YtoaoncnbimcdgaaDoor.ZP Go.Proofs.YtoaoncnbimcdgaaDoor.FamFnExactSameWay Go.Proofs.YtoaoncnbimcdgaaDoor.ItemFnExactSameWay Go.Proofs.YtoaoncnbimcdgaaDoor.NameFnExactSameWay Go.Proofs.YtoaoncnbimcdgaaDoor.CertOkFnExactSameWay Go.Proofs.YtoaoncnbimcdgaaDoor.CertTextFnExactSameWay
set_option linter.unusedVariables false
set_option linter.unusedSimpArgs false

theorem path_text (l : List S29) (hl : l.length ≤ 1048576 ∧ ∀ e ∈ l, sm29 e) : ∃ t, Evt (fun k => spec_PathText.f k l) t ∧ Evt (fun k => impl_PathText.f k l) t := by
  have hn := hl.1
  have key : ∀ (m i : Nat) (y : List Int), l.length - i = m → i ≤ l.length → y.length ≤ 4000 * i → ∃ t, Evt (fun k => spec_PathText.l0 k (strOfNums y) (i : Int) l) t ∧ Evt (fun k => impl_PathText.l0 k y (i : Int) l) t := by
    intro m
    induction m with
    | zero =>
      intro i y hm hi hy
      obtain rfl : i = l.length := by omega
      exact ⟨_, Evt.succ (.of fun k => by rw [spec_PathText.l0, if_neg (by omega)]), Evt.succ (.of fun k => by rw [impl_PathText.l0, if_neg (by omega)])⟩
    | succ m ih =>
      intro i y hm hi hy
      have hil : i < l.length := by omega
      obtain ⟨q, qf, qg, qs⟩ := cert_text l[i] (hl.2 _ (List.getElem_mem hil))
      have hb := bytesOf_length q.1
      obtain ⟨t, t1, t2⟩ := ih (i + 1) (y ++ bytesOf q.1) (by omega) (by omega) (by rw [List.length_append, hb]; omega)
      have e : strOfNums (y ++ bytesOf q.1) = strOfNums y ++ q.1 := by rw [sn_app, sn_bytes]
      rw [e] at t1
      have hsz : (strOfNums y).size = y.length := strOfNums_size y
      have c0 : ((i : Int) < (l.length : Int)) = True := eq_true (by omega)
      have c1 : ((0 : Int) ≤ (i : Int)) = True := eq_true (by omega)
      have d1 : ((strOfNums y).size + q.1.size ≤ 9223372036854775807) = True := eq_true (by omega)
      have d2 : (y.length + q.1.size ≤ 140737488355328) = True := eq_true (by omega)
      refine ⟨t, Evt.succ ?_, Evt.succ ?_⟩
      · simp only [spec_PathText.l0, c0, c1, if_true, rd29 l i hil, wn i (by omega)]
        refine Evt.bind qf ?_
        simp only [d1, if_true]
        exact t1
      · simp only [impl_PathText.l0, c0, c1, if_true, rd29 l i hil, wn i (by omega)]
        refine Evt.bind qg ?_
        simp only [d2, if_true, lets]
        exact t2
  exact key _ 0 [] rfl (Nat.zero_le _) (Nat.zero_le _)
theorem pure : Pure := by
  intro a b ha hb
  by_cases hs : sm41 a ∧ sm41 b
  · obtain ⟨ha', hb'⟩ := hs
    have ca := smcv41 a ha'
    have cb := smcv41 b hb'
    obtain ⟨t, ⟨K1, f⟩, ⟨K2, g⟩⟩ := path_text (cv41 a).f1 ca.2.1
    obtain ⟨u, ⟨K3, f2⟩, ⟨K4, g2⟩⟩ := path_text (cv41 b).f1 cb.2.1
    obtain ⟨k, hk⟩ : ∃ k, k = 4194304 + K1 + K2 + K3 + K4 := ⟨_, rfl⟩
    refine ⟨k, ?_⟩
    have f := f k (by omega)
    have g := g k (by omega)
    have f2 := f2 k (by omega)
    have g2 := g2 k (by omega)
    simp only at f g f2 g2
    have e : ∃ v, spec_SameWay.f k (cv41 a) (cv41 b) = some v ∧ impl_SameWay.f k (cv41 a) (cv41 b) = some v := by
      unfold spec_SameWay.f impl_SameWay.f
      by_cases c : (cv41 a).f0 = (cv41 b).f0
      · rw [if_pos c, if_pos c, f, g, Option.bind_some, Option.bind_some, f2, g2]
        exact ⟨_, rfl, rfl⟩
      · rw [if_neg c, if_neg c]
        exact ⟨_, rfl, rfl⟩
    obtain ⟨v, v1, v2⟩ := e
    obtain ⟨n, z1, z2, z3⟩ := sz_18 a ha 1048576 (by omega) (by omega) k (by omega)
    unfold laws_FnExactSameWay.f
    rw [z1, Option.bind_some]
    by_cases c : n < 0
    · rw [if_pos c]
    rw [if_neg c]
    obtain ⟨m, y1, y2, y3⟩ := sz_18 b hb n (by omega) (by omega) k (by omega)
    rw [y1, Option.bind_some]
    by_cases c2 : m < 0
    · rw [if_pos c2]
    rw [if_neg c2]
    simp only [to_20 a ha' k (by omega), to_20 b hb' k (by omega), Option.bind_some, v1, v2, if_true, eq_22 _ ca k (by omega), eq_22 _ cb k (by omega)]
  · refine ⟨4194304, ?_⟩
    obtain ⟨n, z1, z2, z3⟩ := sz_18 a ha 1048576 (by omega) (by omega) 4194304 (by omega)
    unfold laws_FnExactSameWay.f
    rw [z1, Option.bind_some]
    by_cases c : n < 0
    · rw [if_pos c]
    rw [if_neg c]
    obtain ⟨m, y1, y2, y3⟩ := sz_18 b hb n (by omega) (by omega) 4194304 (by omega)
    rw [y1, Option.bind_some]
    by_cases c2 : m < 0
    · rw [if_pos c2]
    exact absurd ⟨z3 (by omega), y3 (by omega)⟩ hs
end Go.Proofs.YtoaoncnbimcdgaaDoor.PureFnExactSameWay

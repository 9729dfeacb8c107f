/- FnExactPathText, as numbers and lists: both ways' texts are the same. -/
import Derived.Test.YtoaoncnbimcdgaaDoorCertTextFnExactPathText
namespace Go.Proofs.YtoaoncnbimcdgaaDoor.PureFnExactPathText
open Go.RowKit Go.Proofs.YtoaoncnbimcdgaaDoorW.PrintWords Go.Proofs.YtoaoncnbimcdgaaDoorW.PrintLast Go.Proofs.YtoaoncnbimcdgaaDoor.ZOpen Go.Proofs.YtoaoncnbimcdgaaDoor.Z Go.Proofs.YtoaoncnbimcdgaaDoor.F
open Go.Proofs.YtoaoncnbimcdgaaDoor.SaidFnExactPathText Go.Proofs.YtoaoncnbimcdgaaDoor.ZP Go.Proofs.YtoaoncnbimcdgaaDoor.FamFnExactPathText Go.Proofs.YtoaoncnbimcdgaaDoor.ItemFnExactPathText Go.Proofs.YtoaoncnbimcdgaaDoor.NameFnExactPathText Go.Proofs.YtoaoncnbimcdgaaDoor.CertOkFnExactPathText Go.Proofs.YtoaoncnbimcdgaaDoor.CertTextFnExactPathText
set_option linter.unusedVariables false
set_option linter.unusedSimpArgs false

theorem path_text (l : List S29) (hl : l.length ≤ 1048576 ∧ ∀ e ∈ l, sm29 e) : ∃ t, Evt (fun k => spec_PathText.f k l) t ∧ Evt (fun k => impl_PathText.f k l) t := by
  have hn := hl.1
  have key : ∀ (m i : Nat) (y : List Int), l.length - i = m → i ≤ l.length → y.length ≤ 4000 * i → ∃ t, Evt (fun k => spec_PathText.l0 k (strOfNums y) (i : Int) l) t ∧ Evt (fun k => impl_PathText.l0 k y (i : Int) l) t := by
    intro m
    induction m with
    | zero =>
      intro i y hm hi hy
      obtain rfl : i = l.length := by omega
      exact ⟨_, Evt.succ (.of fun k => by rw [spec_PathText.l0, if_neg (by omega)]), Evt.succ (.of fun k => by rw [impl_PathText.l0, if_neg (by omega)])⟩
    | succ m ih =>
      intro i y hm hi hy
      have hil : i < l.length := by omega
      obtain ⟨q, qf, qg, qs⟩ := cert_text l[i] (hl.2 _ (List.getElem_mem hil))
      have hb := bytesOf_length q.1
      obtain ⟨t, t1, t2⟩ := ih (i + 1) (y ++ bytesOf q.1) (by omega) (by omega) (by rw [List.length_append, hb]; omega)
      have e : strOfNums (y ++ bytesOf q.1) = strOfNums y ++ q.1 := by rw [sn_app, sn_bytes]
      rw [e] at t1
      have hsz : (strOfNums y).size = y.length := strOfNums_size y
      have c0 : ((i : Int) < (l.length : Int)) = True := eq_true (by omega)
      have c1 : ((0 : Int) ≤ (i : Int)) = True := eq_true (by omega)
      have d1 : ((strOfNums y).size + q.1.size ≤ 9223372036854775807) = True := eq_true (by omega)
      have d2 : (y.length + q.1.size ≤ 140737488355328) = True := eq_true (by omega)
      refine ⟨t, Evt.succ ?_, Evt.succ ?_⟩
      · simp only [spec_PathText.l0, c0, c1, if_true, rd29 l i hil, wn i (by omega)]
        refine Evt.bind qf ?_
        simp only [d1, if_true]
        exact t1
      · simp only [impl_PathText.l0, c0, c1, if_true, rd29 l i hil, wn i (by omega)]
        refine Evt.bind qg ?_
        simp only [d2, if_true, lets]
        exact t2
  exact key _ 0 [] rfl (Nat.zero_le _) (Nat.zero_le _)
theorem pure : Pure := by
  intro a ha
  by_cases hs : a.length ≤ 1048576 ∧ ∀ e ∈ a, sm25 e
  · have hc : (a.map cv25).length ≤ 1048576 ∧ ∀ e ∈ a.map cv25, sm29 e := ⟨by rw [List.length_map]; exact hs.1, fun e he => by
      obtain ⟨z, hz, rfl⟩ := List.mem_map.1 he
      exact smcv25 z (hs.2 z hz)⟩
    obtain ⟨t, ⟨K1, f⟩, ⟨K2, g⟩⟩ := path_text (a.map cv25) hc
    obtain ⟨k, hk⟩ : ∃ k, k = 4194304 + K1 + K2 := ⟨_, rfl⟩
    refine ⟨k, ?_⟩
    have f := f k (by omega)
    have g := g k (by omega)
    simp only at f g
    obtain ⟨n, z1, z2, z3⟩ := sz_13 a ha 1048576 (by omega) (by omega) k (by omega)
    unfold laws_FnExactPathText.f
    rw [z1, Option.bind_some]
    by_cases c : n < 0
    · rw [if_pos c]
    rw [if_neg c]
    simp only [to_15 a hs k (by omega), Option.bind_some, f, g, if_true, eq_17 _ hc k (by omega)]
  · obtain ⟨n, z1, z2, z3⟩ := sz_13 a ha 1048576 (by omega) (by omega) 4194304 (by omega)
    refine ⟨4194304, ?_⟩
    unfold laws_FnExactPathText.f
    rw [z1, Option.bind_some, if_pos (by
      by_cases c : 0 ≤ n
      · exact absurd (z3 c) hs
      · omega)]
end Go.Proofs.YtoaoncnbimcdgaaDoor.PureFnExactPathText

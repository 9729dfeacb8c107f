/- The statement FnExactCrlBody, as numbers and lists: the program's CrlBody and the reference's agree. -/
import Derived.Test.YtfeebnbookfpmaaItemFnExactCrlBody
namespace Go.Proofs.Ytfeebnbookfpmaa.PureFnExactCrlBody
open Go.RowKit Go.Proofs.YtfeebnbookfpmaaW.PrintWords Go.Proofs.YtfeebnbookfpmaaW.PrintLast Go.Proofs.Ytfeebnbookfpmaa.ZOpen Go.Proofs.Ytfeebnbookfpmaa.Z Go.Proofs.Ytfeebnbookfpmaa.F
open Go.Proofs.Ytfeebnbookfpmaa.SaidFnExactCrlBody Go.Proofs.Ytfeebnbookfpmaa.ZP Go.Proofs.Ytfeebnbookfpmaa.FamFnExactCrlBody Go.Proofs.Ytfeebnbookfpmaa.ItemFnExactCrlBody

theorem szi (it : S141) (h1 : it.f2 = []) (h2 : it.f1.size ≤ 16) : sz it ≤ 32 := by rw [sz_eq, h1]; simp; omega
set_option maxHeartbeats 4000000 in
theorem rev (r : S119) : ∃ it : S141, Evt (fun k => spec_l09Ints.f k ([r.f0, r.f1] : List Int)) it ∧ Evt (fun k => impl_crlItem_1.f k r) it ∧ sz it ≤ 100 := by
  obtain ⟨i1, a1, b1, _, i1k, i1s⟩ := int_item r.f0
  obtain ⟨i2, a2, b2, _, i2k, i2s⟩ := int_item r.f1
  have z1 := szi i1 i1k i1s
  have z2 := szi i2 i2k i2s
  have hs : sz (⟨48, (⟨#[]⟩ : ByteArray), [i1, i2]⟩ : S141) ≤ 100 := by
    rw [sz_list]
    simp only [List.map_cons, List.map_nil, List.sum_cons, List.sum_nil]
    omega
  refine ⟨⟨48, (⟨#[]⟩ : ByteArray), [i1, i2]⟩, ?_, ?_, hs⟩
  · refine (map_loop [i1, i2] (fun k l i => spec_l09Ints.l0 k l i [r.f0, r.f1]) (fun i k => spec_IntItem.f k (rd [r.f0, r.f1] (i : Int))) (⟨48, (⟨#[]⟩ : ByteArray), [i1, i2]⟩ : S141) (fun k i l hi hr => ?_) (Evt.of fun k => ?_) (fun i hi => ?_) _ 0 rfl (Nat.zero_le _)).eq (fun k => rfl)
    · clear hs z1 z2 i1s i2s i1k i2k a1 a2 b1 b2
      have hi' : i < 2 := hi
      clear hi
      have hc : (l.length + 1 ≤ 2932031007402) = True := eq_true (by omega)
      have e1 : wrap64 ((i : Int) + 1) = ((i + 1 : Nat) : Int) := by rw [w64 (by omega) (by omega)]; rfl
      have el : (([r.f0, r.f1] : List Int).length : Int) = 2 := rfl
      show spec_l09Ints.l0 (k + 1) l (i : Int) [r.f0, r.f1] = _
      rw [spec_l09Ints.l0, el, if_pos (by omega), if_pos (by omega), if_pos (by omega), e1]
      simp only [hc, if_true, lets]
    · clear hs z1 z2 i1s i2s i1k i2k a1 a2 b1 b2
      show spec_l09Ints.l0 (k + 1) _ _ [r.f0, r.f1] = _
      have el : (([r.f0, r.f1] : List Int).length : Int) = 2 := rfl
      have el2 : (([i1, i2] : List S141).length : Int) = 2 := rfl
      rw [spec_l09Ints.l0, el, el2, if_neg (by omega)]
    · clear hs z1 z2 i1s i2s i1k i2k b1 b2
      have h01 : i = 0 ∨ i = 1 := by
        have hi' : i < 2 := hi
        clear hi
        omega
      have r0 : rd [r.f0, r.f1] ((0 : Nat) : Int) = r.f0 := rfl
      have r1 : rd [r.f0, r.f1] ((1 : Nat) : Int) = r.f1 := rfl
      rcases h01 with rfl | rfl
      · show Evt (fun k => spec_IntItem.f k (rd [r.f0, r.f1] ((0 : Nat) : Int))) i1
        rw [r0]
        exact a1
      · show Evt (fun k => spec_IntItem.f k (rd [r.f0, r.f1] ((1 : Nat) : Int))) i2
        rw [r1]
        exact a2
  · obtain ⟨K1, b1⟩ := b1
    obtain ⟨K2, b2⟩ := b2
    obtain ⟨K3, l1⟩ := list_item [i1, i2] (by simp only [List.map_cons, List.map_nil, List.sum_cons, List.sum_nil]; omega)
    refine Evt.at_ (K1 + K2 + K3) fun k hk => ?_
    have l1 := l1 k (by omega)
    unfold impl_crlItem_1.f
    simp only [b1 k (by omega), b2 k (by omega), l1, Option.bind_some]
set_option maxHeartbeats 4000000 in
theorem crl (a : S54) (h : sm54 a) : ∃ it : S141, Evt (fun k => spec_l10Item.f k a) it ∧ Evt (fun k => impl_crlItem.f k a) it ∧ sz it ≤ 200000000 := by
  have h5 := h.2.2.2.2.2.1.1
  obtain ⟨rs, rl, hr⟩ := listed (fun i it => ∀ (hi : i < a.f5.length), Evt (fun k => spec_l09Ints.f k ([(rd_T119 a.f5 (i : Int)).f0, (rd_T119 a.f5 (i : Int)).f1] : List Int)) it ∧ Evt (fun k => impl_crlItem_1.f k (rd_T119 a.f5 (i : Int))) it ∧ sz it ≤ 100) a.f5.length (fun i hi => by
    obtain ⟨it, h1, h2, h3⟩ := rev (rd_T119 a.f5 (i : Int))
    exact ⟨it, fun _ => ⟨h1, h2, h3⟩⟩)
  have hr' : ∀ (i : Nat) (hi : i < rs.length), Evt (fun k => spec_l09Ints.f k ([(rd_T119 a.f5 (i : Int)).f0, (rd_T119 a.f5 (i : Int)).f1] : List Int)) rs[i] ∧ Evt (fun k => impl_crlItem_1.f k (rd_T119 a.f5 (i : Int))) rs[i] ∧ sz rs[i] ≤ 100 := fun i hi => hr i rs[i] (List.getElem?_eq_getElem hi) (by omega)
  have hsum : (rs.map sz).sum ≤ rs.length * 100 := sum_le sz 100 rs (fun e he => by
    obtain ⟨i, hi, rfl⟩ := List.getElem_of_mem he
    exact (hr' i hi).2.2)
  obtain ⟨i1, ⟨K1, a1⟩, ⟨L1, b1⟩, _, i1k, i1s⟩ := int_item a.f1
  obtain ⟨i2, ⟨K2, a2⟩, ⟨L2, b2⟩, _, i2k, i2s⟩ := int_item a.f2
  obtain ⟨i3, ⟨K3, a3⟩, ⟨L3, b3⟩, _, i3k, i3s⟩ := int_item a.f3
  obtain ⟨i4, ⟨K4, a4⟩, ⟨L4, b4⟩, _, i4k, i4s⟩ := int_item a.f4
  have z1 := szi i1 i1k i1s
  have z2 := szi i2 i2k i2s
  have z3 := szi i3 i3k i3s
  have z4 := szi i4 i4k i4s
  have zt : sz (⟨12, a.f0, []⟩ : S141) ≤ 1048592 := by
    have := h.1
    rw [sz_eq]
    show 16 + a.f0.size + _ ≤ _
    simp
    omega
  have zl : sz (⟨48, (⟨#[]⟩ : ByteArray), rs⟩ : S141) ≤ 16 + 104857600 := by rw [sz_list]; omega
  have hsz : sz (⟨48, (⟨#[]⟩ : ByteArray), [⟨12, a.f0, []⟩, i1, i2, i3, i4, ⟨48, (⟨#[]⟩ : ByteArray), rs⟩]⟩ : S141) ≤ 200000000 := by
    rw [sz_list]
    simp only [List.map_cons, List.map_nil, List.sum_cons, List.sum_nil]
    omega
  have e1 : ∀ i : Nat, i < a.f5.length → wrap64 ((i : Int) + 1) = ((i + 1 : Nat) : Int) := fun i hi => by rw [w64 (by omega) (by omega)]; rfl
  refine ⟨⟨48, (⟨#[]⟩ : ByteArray), [⟨12, a.f0, []⟩, i1, i2, i3, i4, ⟨48, (⟨#[]⟩ : ByteArray), rs⟩]⟩, ?_, ?_, hsz⟩
  · refine (map_loop rs (fun k l i => spec_l10Item.l0 k l i a) (fun i k => spec_l09Ints.f k ([(rd_T119 a.f5 (i : Int)).f0, (rd_T119 a.f5 (i : Int)).f1] : List Int)) (⟨48, (⟨#[]⟩ : ByteArray), [⟨12, a.f0, []⟩, i1, i2, i3, i4, ⟨48, (⟨#[]⟩ : ByteArray), rs⟩]⟩ : S141) (fun k i l hi hl => ?_) (Evt.at_ (K1 + K2 + K3 + K4) fun k hk => ?_) (fun i hi => (hr' i hi).1) _ 0 rfl (Nat.zero_le _)).eq (fun k => rfl)
    · clear hsz zl zt z1 z2 z3 z4 i1s i2s i3s i4s hsum
      have hc : (l.length + 1 ≤ 2932031007402) = True := eq_true (by omega)
      show spec_l10Item.l0 (k + 1) l (i : Int) a = _
      rw [spec_l10Item.l0, if_pos (by omega), if_pos (by omega), if_pos (by omega), e1 i (by omega)]
      simp only [hc, if_true, lets]
    · clear hsz zl zt z1 z2 z3 z4 i1s i2s i3s i4s hsum
      show spec_l10Item.l0 (k + 1) rs _ a = _
      rw [spec_l10Item.l0, if_neg (by omega)]
      simp only [a1 k (by omega), a2 k (by omega), a3 k (by omega), a4 k (by omega), spec_TextItem.f, Option.bind_some]
  · have each : Evt (fun k => impl_Rev_0.f k a.f5) ⟨48, (⟨#[]⟩ : ByteArray), rs⟩ := by
      refine (map_loop rs (fun k l i => impl_Rev_0.l0 k l i a.f5) (fun i k => impl_crlItem_1.f k (rd_T119 a.f5 (i : Int))) (⟨48, (⟨#[]⟩ : ByteArray), rs⟩ : S141) (fun k i l hi hl => ?_) (Evt.of fun k => ?_) (fun i hi => (hr' i hi).2.1) _ 0 rfl (Nat.zero_le _)).eq (fun k => rfl)
      · clear hsz zl zt z1 z2 z3 z4 i1s i2s i3s i4s hsum
        have hc : (l.length + 1 ≤ 2932031007402) = True := eq_true (by omega)
        show impl_Rev_0.l0 (k + 1) l (i : Int) a.f5 = _
        rw [impl_Rev_0.l0, if_pos (by omega), if_pos (by omega), if_pos (by omega), e1 i (by omega)]
        simp only [hc, if_true, lets]
      · clear hsz zl zt z1 z2 z3 z4 i1s i2s i3s i4s hsum
        show impl_Rev_0.l0 (k + 1) rs _ a.f5 = _
        rw [impl_Rev_0.l0, if_neg (by omega)]
    obtain ⟨K5, each⟩ := each
    rw [sz_list] at hsz
    obtain ⟨K6, l1⟩ := list_item [⟨12, a.f0, []⟩, i1, i2, i3, i4, ⟨48, (⟨#[]⟩ : ByteArray), rs⟩] (by omega)
    refine Evt.at_ (L1 + L2 + L3 + L4 + K5 + K6) fun k hk => ?_
    have l1 := l1 k (by omega)
    have each := each k (by omega)
    unfold impl_crlItem.f
    simp only [b1 k (by omega), b2 k (by omega), b3 k (by omega), b4 k (by omega), each, l1, impl_TextItem.f, Option.bind_some]

theorem pure : Pure := by
  intro a ha
  by_cases hs : sm49 a
  · have hc := smcv49 a hs
    obtain ⟨it, ⟨K1, c1⟩, ⟨K2, c2⟩, hz⟩ := crl (cv49 a) hc
    obtain ⟨r, ⟨K3, r1⟩, ⟨K4, r2⟩⟩ := item_text it (by omega)
    obtain ⟨k, hk⟩ : ∃ k, k = 4194304 + K1 + K2 + K3 + K4 := ⟨_, rfl⟩
    refine ⟨k, ?_⟩
    obtain ⟨n, z1, z2, z3⟩ := sz_29 a ha 1048576 (by omega) (by omega) k (by omega)
    unfold laws_FnExactCrlBody.f
    rw [z1, Option.bind_some]
    by_cases c : n < 0
    · rw [if_pos c]
    rw [if_neg c]
    have q1 : spec_CrlBody.f k (cv49 a) = some r.1 := by
      have c1 := c1 k (by omega)
      have r1 := r1 k (by omega)
      unfold spec_CrlBody.f
      simp only [c1, r1, Option.bind_some]
    have q2 : impl_CrlBody.f k (cv49 a) = some r.1 := by
      have c2 := c2 k (by omega)
      have r2 := r2 k (by omega)
      unfold impl_CrlBody.f
      simp only [c2, r2, Option.bind_some]
    simp only [to_31 a hs k (by omega), Option.bind_some, q1, q2, if_true, eq_33 _ hc k (by omega)]
  · obtain ⟨n, z1, z2, z3⟩ := sz_29 a ha 1048576 (by omega) (by omega) 4194304 (by omega)
    refine ⟨4194304, ?_⟩
    unfold laws_FnExactCrlBody.f
    rw [z1, Option.bind_some, if_pos (by
      by_cases c : 0 ≤ n
      · exact absurd (z3 c) hs
      · omega)]
end Go.Proofs.Ytfeebnbookfpmaa.PureFnExactCrlBody

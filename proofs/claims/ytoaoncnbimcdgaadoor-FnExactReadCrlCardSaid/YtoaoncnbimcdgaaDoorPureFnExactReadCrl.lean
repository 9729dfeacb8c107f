/- FnExactReadCrl, as numbers and lists: what both make of a text is the same. -/
import Derived.Test.YtoaoncnbimcdgaaDoorCertBitsFnExactReadCrl
namespace Go.Proofs.YtoaoncnbimcdgaaDoor.PureFnExactReadCrl
open Go.RowKit Go.Proofs.YtoaoncnbimcdgaaDoorW.PrintWords Go.Proofs.YtoaoncnbimcdgaaDoorW.PrintLast Go.Proofs.YtoaoncnbimcdgaaDoor.ZOpen Go.Proofs.YtoaoncnbimcdgaaDoor.Z Go.Proofs.YtoaoncnbimcdgaaDoor.F
open Go.Proofs.YtoaoncnbimcdgaaDoor.SaidFnExactReadCrl Go.Proofs.YtoaoncnbimcdgaaDoor.ZP Go.Proofs.YtoaoncnbimcdgaaDoor.FamFnExactReadCrl Go.Proofs.YtoaoncnbimcdgaaDoor.ItemFnExactReadCrl Go.Proofs.YtoaoncnbimcdgaaDoor.ReadFnExactReadCrl Go.Proofs.YtoaoncnbimcdgaaDoor.IntFnExactReadCrl Go.Proofs.YtoaoncnbimcdgaaDoor.OpenFnExactReadCrl Go.Proofs.YtoaoncnbimcdgaaDoor.NameFnExactReadCrl Go.Proofs.YtoaoncnbimcdgaaDoor.CertBitsFnExactReadCrl
set_option linter.unusedVariables false
set_option linter.unusedSimpArgs false
set_option maxHeartbeats 8000000

/-! ### whether a list is right -/
theorem same_ok (a : S50) : ∀ (k : Nat) (i : Int), impl_CrlOk.l0 k i a = spec_CrlOk.l0 k i a
  | 0, _ => by rw [impl_CrlOk.l0, spec_CrlOk.l0]
  | k + 1, i => by
    rw [impl_CrlOk.l0, spec_CrlOk.l0]
    simp only [same_ok a k, impl_timeOk.f, spec_l09Num.f, in_f, in_g]
theorem revs_ok (a : S50) (hn : a.f5.length ≤ 1048576) : ∃ b, Evt (fun k => spec_CrlOk.l0 k 0 a) b := by
  have key : ∀ (m i : Nat), a.f5.length - i = m → i ≤ a.f5.length → ∃ b, Evt (fun k => spec_CrlOk.l0 k (i : Int) a) b := by
    intro m
    induction m with
    | zero =>
      intro i hm hi
      obtain rfl : i = a.f5.length := by omega
      exact ⟨_, Evt.succ (.of fun k => by rw [spec_CrlOk.l0, if_neg (by omega)])⟩
    | succ m ih =>
      intro i hm hi
      have hil : i < a.f5.length := by omega
      obtain ⟨b, ⟨K1, h1⟩⟩ := ih (i + 1) (by omega) (by omega)
      have c0 : ((i : Int) < (a.f5.length : Int)) = True := eq_true (by omega)
      have c1 : ((0 : Int) ≤ (i : Int)) = True := eq_true (by omega)
      by_cases c : 0 < (i : Int)
      · have e1 : wrap64 ((i : Int) - 1) = (i : Int) - 1 := w64 (by omega) (by omega)
        have q0 : (0 < (i : Int)) = True := eq_true c
        have q1 : (0 ≤ wrap64 ((i : Int) - 1)) = True := eq_true (by omega)
        have q2 : (wrap64 ((i : Int) - 1) < (a.f5.length : Int)) = True := eq_true (by omega)
        have es : ∀ k, K1 ≤ k → spec_CrlOk.l0 (k + 1) (i : Int) a = spec_CrlOk.l0 (K1 + 1) (i : Int) a := fun k hk => by
          have g1 := h1 k hk
          have g2 := h1 K1 (Nat.le_refl _)
          simp only at g1 g2
          simp only [spec_CrlOk.l0, c0, c1, if_true, wn i (by omega), g1, g2, q0, q1, q2]
        obtain ⟨v, hv⟩ : ∃ v, spec_CrlOk.l0 (K1 + 1) (i : Int) a = some v := by
          have g2 := h1 K1 (Nat.le_refl _)
          simp only at g2
          simp only [spec_CrlOk.l0, c0, c1, if_true, wn i (by omega), g2, spec_l09Num.f, in_f, Option.bind_some, q0, q1, q2, some_ite]
          exact ⟨_, rfl⟩
        exact ⟨v, Evt.succ ⟨K1, fun k hk => (es k hk).trans hv⟩⟩
      · have q0 : (0 < (i : Int)) = False := eq_false c
        have es : ∀ k, K1 ≤ k → spec_CrlOk.l0 (k + 1) (i : Int) a = spec_CrlOk.l0 (K1 + 1) (i : Int) a := fun k hk => by
          have g1 := h1 k hk
          have g2 := h1 K1 (Nat.le_refl _)
          simp only at g1 g2
          simp only [spec_CrlOk.l0, c0, c1, if_true, wn i (by omega), g1, g2, q0, if_false]
        obtain ⟨v, hv⟩ : ∃ v, spec_CrlOk.l0 (K1 + 1) (i : Int) a = some v := by
          have g2 := h1 K1 (Nat.le_refl _)
          simp only at g2
          simp only [spec_CrlOk.l0, c0, c1, if_true, wn i (by omega), g2, spec_l09Num.f, in_f, Option.bind_some, q0, if_false, some_ite]
          exact ⟨_, rfl⟩
        exact ⟨v, Evt.succ ⟨K1, fun k hk => (es k hk).trans hv⟩⟩
  exact key _ 0 rfl (Nat.zero_le _)
theorem crl_ok (a : S50) (h : sm50 a) : ∃ v, Evt (fun k => spec_CrlOk.f k a) v ∧ Evt (fun k => impl_CrlOk.f k a) v := by
  have h1 := h.1
  obtain ⟨b, ⟨K1, b1⟩⟩ := revs_ok a h.2.2.2.2.2.1.1
  obtain ⟨K, hK⟩ : ∃ K, K = 2097156 + K1 := ⟨_, rfl⟩
  have fs : ∀ k, K ≤ k → spec_CrlOk.l0 k 0 a = some b ∧ spec_NameOk.f k a.f0 = some (nameB a.f0) ∧ impl_NameOk.f k a.f0 = some (nameB a.f0) := fun k hk =>
    ⟨b1 k (by omega), name_f _ h1 k (by omega), name_g _ h1 k (by omega)⟩
  have es : ∀ k, K ≤ k → spec_CrlOk.f k a = spec_CrlOk.f K a := fun k hk => by
    obtain ⟨a1, a2, _⟩ := fs k hk
    obtain ⟨b1, b2, _⟩ := fs K (Nat.le_refl _)
    unfold spec_CrlOk.f
    simp only [a1, a2, b1, b2]
  have eg : ∀ k, K ≤ k → impl_CrlOk.f k a = spec_CrlOk.f K a := fun k hk => by
    obtain ⟨a1, _, a3⟩ := fs k hk
    obtain ⟨b1, b2, _⟩ := fs K (Nat.le_refl _)
    unfold spec_CrlOk.f impl_CrlOk.f impl_timeOk.f spec_l09Num.f
    simp only [same_ok, a1, a3, b1, b2, in_f, in_g]
  obtain ⟨v, hv⟩ : ∃ v, spec_CrlOk.f K a = some v := by
    obtain ⟨b1, b2, _⟩ := fs K (Nat.le_refl _)
    unfold spec_CrlOk.f spec_l09Num.f
    simp only [b1, b2, in_f, Option.bind_some, some_ite]
    exact ⟨_, rfl⟩
  exact ⟨v, ⟨K, fun k hk => (es k hk).trans hv⟩, ⟨K, fun k hk => (eg k hk).trans hv⟩⟩

/-! ### the text of a list -/
noncomputable def revI (x : S82) : S65 := ⟨48, (⟨#[]⟩ : ByteArray), [intN x.f0, intN x.f1]⟩
noncomputable def bodyI (r : S50) : S65 := ⟨48, (⟨#[]⟩ : ByteArray), [item12 r.f0, intN r.f1, intN r.f2, intN r.f3, intN r.f4, ⟨48, (⟨#[]⟩ : ByteArray), r.f5.map revI⟩]⟩
noncomputable def crlI (r : S50) : S65 := ⟨48, (⟨#[]⟩ : ByteArray), [bodyI r, item4 r.f6]⟩
theorem sz_rev (x : S82) : sz (revI x) ≤ 80 := by
  have z1 := intN_sz x.f0
  have z2 := intN_sz x.f1
  unfold revI
  rw [sz_list]
  simp only [List.map_cons, List.map_nil, List.sum_cons, List.sum_nil]
  omega
theorem sz_body (a : S50) (h : sm50 a) : sz (bodyI a) ≤ 100000000 := by
  have z1 := intN_sz a.f1
  have z2 := intN_sz a.f2
  have z3 := intN_sz a.f3
  have z4 := intN_sz a.f4
  have z0 := sz12 a.f0
  have h0 := h.1
  have h5 := h.2.2.2.2.2.1.1
  have hs := sum_le sz 80 (a.f5.map revI) (fun e he => by
    obtain ⟨s, _, rfl⟩ := List.mem_map.1 he
    exact sz_rev s)
  rw [List.length_map] at hs
  unfold bodyI
  rw [sz_list]
  simp only [List.map_cons, List.map_nil, List.sum_cons, List.sum_nil, sz_list]
  omega
theorem sz_crl (a : S50) (h : sm50 a) : sz (crlI a) ≤ 102000000 := by
  have h1 := sz_body a h
  have h2 := sz4 a.f6
  have h3 := h.2.2.2.2.2.2.1
  unfold crlI
  rw [sz_list]
  simp only [List.map_cons, List.map_nil, List.sum_cons, List.sum_nil]
  omega
theorem rd82_ (x : List S82) (i : Nat) (h : i < x.length) : rd_T82 x (i : Int) = x[i] := by simp [rd_T82, h]
theorem rev_g (x : S82) : Evt (fun k => impl_crlItem_1.f k x) (revI x) := by
  have z1 := intN_sz x.f0
  have z2 := intN_sz x.f1
  have l1 := list_item [intN x.f0, intN x.f1] (by simp only [List.map_cons, List.map_nil, List.sum_cons, List.sum_nil]; omega)
  unfold impl_crlItem_1.f
  exact Evt.bind (intN_g _) (Evt.bind (intN_g _) (Evt.bind l1 Evt.now))
theorem body_items (a : S50) (h : sm50 a) : Evt (fun k => spec_l10Item.f k a) (bodyI a) ∧ Evt (fun k => impl_crlItem.f k a) (bodyI a) := by
  have hlen := h.2.2.2.2.2.1.1
  have hml : (a.f5.map revI).length = a.f5.length := List.length_map _
  refine ⟨?_, ?_⟩
  · have st : Evt (fun k => (spec_TextItem.f a.f0).bind fun t302001 => ((spec_IntItem.f k a.f1).bind fun t305001 => ((spec_IntItem.f k a.f2).bind fun t308001 => ((spec_IntItem.f k a.f3).bind fun t311001 => ((spec_IntItem.f k a.f4).bind fun t314001 => (some (⟨48, (⟨#[]⟩ : ByteArray), ([t302001, t305001, t308001, t311001, t314001, (⟨48, (⟨#[]⟩ : ByteArray), a.f5.map revI⟩ : S65)] : List S65)⟩ : S65))))))) (bodyI a) := by
      simp only [text12_f, Option.bind_some]
      exact Evt.bind (intN_f _) (Evt.bind (intN_f _) (Evt.bind (intN_f _) (Evt.bind (intN_f _) Evt.now)))
    refine (map_loop (a.f5.map revI) (fun k l i => spec_l10Item.l0 k l i a) (fun i k => spec_l09Ints.f k [(rd_T82 a.f5 (i : Int)).f0, (rd_T82 a.f5 (i : Int)).f1]) (bodyI a) (fun k i l hi hll => ?_) (st.eq fun k => ?_) (fun i hi => ?_) _ 0 rfl (Nat.zero_le _)).eq (fun k => rfl)
    · have hc : (l.length + 1 ≤ 2932031007402) = True := eq_true (by omega)
      show spec_l10Item.l0 (k + 1) l (i : Int) a = _
      rw [spec_l10Item.l0, if_pos (by omega), if_pos (by omega), if_pos (by omega), wn i (by omega)]
      simp only [hc, if_true, lets]
    · show spec_l10Item.l0 (k + 1) (a.f5.map revI) _ a = _
      rw [spec_l10Item.l0, if_neg (by omega)]
    · have hi' : i < a.f5.length := by omega
      rw [rd82_ _ i hi', List.getElem_map]
      exact ints_f [a.f5[i].f0, a.f5[i].f1] (by simp)
  · have each : Evt (fun k => impl_Rev_0.f k a.f5) ⟨48, (⟨#[]⟩ : ByteArray), a.f5.map revI⟩ := by
      refine (map_loop (a.f5.map revI) (fun k l i => impl_Rev_0.l0 k l i a.f5) (fun i k => impl_crlItem_1.f k (rd_T82 a.f5 (i : Int))) (⟨48, (⟨#[]⟩ : ByteArray), a.f5.map revI⟩ : S65) (fun k i l hi hl => ?_) (Evt.of fun k => ?_) (fun i hi => ?_) _ 0 rfl (Nat.zero_le _)).eq (fun k => rfl)
      · have hc : (l.length + 1 ≤ 2932031007402) = True := eq_true (by omega)
        show impl_Rev_0.l0 (k + 1) l (i : Int) a.f5 = _
        rw [impl_Rev_0.l0, if_pos (by omega), if_pos (by omega), if_pos (by omega), wn i (by omega)]
        simp only [hc, if_true, lets]
      · show impl_Rev_0.l0 (k + 1) (a.f5.map revI) _ a.f5 = _
        rw [impl_Rev_0.l0, if_neg (by omega)]
      · have hi' : i < a.f5.length := by omega
        rw [rd82_ _ i hi', List.getElem_map]
        exact rev_g _
    have hz := sz_body a h
    have hz2 := sz_list [item12 a.f0, intN a.f1, intN a.f2, intN a.f3, intN a.f4, ⟨48, (⟨#[]⟩ : ByteArray), a.f5.map revI⟩]
    have l1 := list_item [item12 a.f0, intN a.f1, intN a.f2, intN a.f3, intN a.f4, ⟨48, (⟨#[]⟩ : ByteArray), a.f5.map revI⟩] (by unfold bodyI at hz; omega)
    clear hz hz2
    unfold impl_crlItem.f
    simp only [text12_g, Option.bind_some]
    exact Evt.bind (intN_g _) (Evt.bind (intN_g _) (Evt.bind (intN_g _) (Evt.bind (intN_g _) (Evt.bind each (Evt.bind l1 Evt.now)))))
/-- Both texts of a list are the same; if there is one, it is its item's. -/
theorem crl_text (a : S50) (h : sm50 a) : ∃ q, Evt (fun k => spec_CrlText.f k a) q ∧ Evt (fun k => impl_CrlText.f k a) q ∧
    (q.2 = true → Small (crlI a) ∧ Ok (crlI a) 0 ∧ q.1 = strOfNums (tl (crlI a)) ∧ (tl (crlI a)).length ≤ 4000) := by
  have hz := sz_crl a h
  have hS : Small (crlI a) := by show sz _ ≤ _; omega
  obtain ⟨r, r1, r2⟩ := item_text (crlI a) hS
  obtain ⟨b1, b2⟩ := body_items a h
  have hz2 : sz (crlI a) = 16 + ([bodyI a, item4 a.f6].map sz).sum := sz_list _
  have hl := list_item [bodyI a, item4 a.f6] (by omega)
  obtain ⟨v, v1, v2⟩ := crl_ok a h
  cases v with
  | false =>
    refine ⟨((⟨#[]⟩ : ByteArray), false), ?_, ?_, fun h => by cases h⟩
    · unfold spec_CrlText.f
      exact Evt.bind v1 (.of fun k => rfl)
    · unfold impl_CrlText.f
      exact Evt.bind v2 (.of fun k => rfl)
  | true =>
    refine ⟨r, ?_, ?_, fun h2 => ⟨hS, ok_text hS r1 h2⟩⟩
    · unfold spec_CrlText.f
      refine Evt.bind v1 ?_
      simp only [if_true, bytes_f, Option.bind_some]
      exact Evt.bind b1 (Evt.bind r1 Evt.now)
    · unfold impl_CrlText.f
      refine Evt.bind v2 ?_
      simp only [if_true, bytes_g, Option.bind_some]
      exact Evt.bind b2 (Evt.bind hl (Evt.bind r2 Evt.now))

/-! ### an entry out of its item -/
noncomputable def revR (y : S65) : S82 := ⟨(iv (rd_T65 (lst y 2) 0)).1, (iv (rd_T65 (lst y 2) 1)).1⟩
noncomputable def badR (y : S65) : Bool := (!shp y 2 || !(iv (rd_T65 (lst y 2) 0)).2) || !(iv (rd_T65 (lst y 2) 1)).2
theorem rev_mk (a : S82) : badR (revI a) = false := by
  have e0 : lst (revI a) 2 = [intN a.f0, intN a.f1] := lst_mk _ _ rfl
  have e1 : shp (revI a) 2 = true := shp_mk _ _ rfl
  unfold badR
  rw [e0, e1]
  show ((!true || !(iv (intN a.f0)).2) || !(iv (intN a.f1)).2) = false
  rw [iv_intN, iv_intN]
  rfl
theorem nums_len (y : S65) : (nums y).length = y.f2.length := by unfold nums; rw [List.length_map]
theorem nums_2 {y : S65} (h : shp y 2 = true) : (⟨rd (nums y) 0, rd (nums y) 1⟩ : S82) = revR y := by
  unfold revR nums
  rw [lst_pos h]
  have hl : y.f2.length = 2 := (of_decide_eq_true h).2
  generalize y.f2 = l at *
  match l, hl with
  | [y0, y1], _ => rfl
theorem shp_len {y : S65} (hy : Gd y) (n : Nat) (hn : 0 < n) : y.f2.length = n ↔ shp y n = true := by
  constructor
  · intro h
    refine decide_eq_true ⟨?_, h⟩
    by_cases c : y.f0 = 48
    · exact c
    · rw [good_plain hy c] at h
      simp at h
      omega
  · intro h
    exact (of_decide_eq_true h).2

/-! ### the loops -/
def fail : S50 × Bool := ((⟨(⟨#[]⟩ : ByteArray), 0, 0, 0, 0, ([] : List S82), (⟨#[]⟩ : ByteArray)⟩ : S50), false)
def fin (t : ByteArray) (q : ByteArray × Bool) (r : S50) : S50 × Bool := if q.2 = true then (if q.1.toList = t.toList then (r, true) else fail) else fail
theorem loop_g (t : ByteArray) (W ys : List S65) (e0 : ByteArray × S86) (e1 e2 e3 e4 : Int × S86) (hW : W.length = 2) (hg : ∀ y ∈ ys, Gd y) (hl : ys.length ≤ 1048576) (q : ByteArray × Bool)
    (hq : Evt (fun k => impl_CrlText.f k (⟨e0.1, e1.1, e2.1, e3.1, e4.1, ys.map revR, (rd_T65 W 1).f1⟩ : S50)) q) :
    ∀ (m i : Nat) (b : Bool), ys.length - i = m → i ≤ ys.length → Evt (fun k => impl_ReadCrl.l0 k ((ys.take i).map revR) (i : Int) b t W e0 e1 e2 e3 e4 ys)
      (if ((b || (ys.drop i).any badR) || ((rd_T65 W 1).f0 != 4)) = true then fail else fin t q (⟨e0.1, e1.1, e2.1, e3.1, e4.1, ys.map revR, (rd_T65 W 1).f1⟩ : S50)) := by
  intro m
  induction m with
  | zero =>
    intro i b hm hi
    obtain rfl : i = ys.length := by omega
    have c0 : ((ys.length : Int) < (ys.length : Int)) = False := eq_false (by omega)
    have c1 : ((1 : Int) < (W.length : Int)) = True := eq_true (by omega)
    rw [List.drop_length, List.any_nil, Bool.or_false, List.take_length]
    refine Evt.succ ?_
    simp only [impl_ReadCrl.l0, c0, c1, if_false, if_true, text_g, Option.bind_some]
    refine Evt.bind hq (Evt.of fun k => ?_)
    unfold fin fail
    simp only [some_if]
  | succ m ih =>
    intro i b hm hi
    have hil : i < ys.length := by omega
    have hy := hg _ (List.getElem_mem hil)
    have c0 : ((i : Int) < (ys.length : Int)) = True := eq_true (by omega)
    have c1 : ((0 : Int) ≤ (i : Int)) = True := eq_true (by omega)
    have hc : (((ys.take i).map revR).length + 1 ≤ 8796093022208) = True := eq_true (by rw [List.length_map, List.length_take]; omega)
    have p0 : ((0 : Int) < ((2 : Nat) : Int)) = True := eq_true (by omega)
    have p1 : ((1 : Int) < ((2 : Nat) : Int)) = True := eq_true (by omega)
    have g0 := good_rd hy 2 0 0 rfl (by omega)
    have g1 := good_rd hy 2 1 1 rfl (by omega)
    have e := ih (i + 1) (b || badR ys[i]) (by omega) (by omega)
    rw [List.take_succ_eq_append_getElem hil, List.map_append] at e
    rw [List.drop_eq_getElem_cons hil, List.any_cons, ← Bool.or_assoc]
    refine Evt.succ ?_
    simp only [impl_ReadCrl.l0, c0, c1, if_true, rdit ys i hil, list_g b ys[i] 2 2 rfl (by omega), Option.bind_some, lst_cond, lets, lst_len, p0, p1, wn i (by omega)]
    refine Evt.bind (num_g _ g0) (Evt.bind (num_g _ g1) ?_)
    simp only [hc, if_true]
    have eb : (((b || !shp ys[i] 2) || !(iv (rd_T65 (lst ys[i] 2) 0)).2) || !(iv (rd_T65 (lst ys[i] 2) 1)).2) = (b || badR ys[i]) := by
      unfold badR
      simp only [Bool.or_assoc]
    rw [eb]
    exact e
theorem loop_f (t : ByteArray) (x : S65) (v : Bool) (e1 e2 e3 e4 : Int × Bool) (h6 : (rd_T65 x.f2 0).f2.length = 6) (hg : ∀ y ∈ (rd_T65 (rd_T65 x.f2 0).f2 5).f2, Gd y) (hl : (rd_T65 (rd_T65 x.f2 0).f2 5).f2.length ≤ 1048576) (q : ByteArray × Bool)
    (hq : Evt (fun k => spec_CrlText.f k (⟨(rd_T65 (rd_T65 x.f2 0).f2 0).f1, e1.1, e2.1, e3.1, e4.1, (rd_T65 (rd_T65 x.f2 0).f2 5).f2.map revR, (rd_T65 x.f2 1).f1⟩ : S50)) q) :
    ∀ (m i : Nat), (rd_T65 (rd_T65 x.f2 0).f2 5).f2.length - i = m → i ≤ (rd_T65 (rd_T65 x.f2 0).f2 5).f2.length → Evt (fun k => spec_ReadCrl.l0 k (((rd_T65 (rd_T65 x.f2 0).f2 5).f2.take i).map revR) (i : Int) t (x, v) e1 e2 e3 e4)
      (if ((rd_T65 (rd_T65 x.f2 0).f2 5).f2.drop i).all (fun y => shp y 2) = true then fin t q (⟨(rd_T65 (rd_T65 x.f2 0).f2 0).f1, e1.1, e2.1, e3.1, e4.1, (rd_T65 (rd_T65 x.f2 0).f2 5).f2.map revR, (rd_T65 x.f2 1).f1⟩ : S50) else fail) := by
  generalize hys : (rd_T65 (rd_T65 x.f2 0).f2 5).f2 = ys at *
  have c6 : ((5 : Int) < ((rd_T65 x.f2 0).f2.length : Int)) = True := eq_true (by omega)
  intro m
  induction m with
  | zero =>
    intro i hm hi
    obtain rfl : i = ys.length := by omega
    have c0 : ((ys.length : Int) < (ys.length : Int)) = False := eq_false (by omega)
    rw [List.drop_length, List.all_nil, if_pos rfl, List.take_length]
    refine Evt.succ ?_
    simp only [spec_ReadCrl.l0, c6, hys, c0, if_false, if_true]
    refine Evt.bind hq (Evt.of fun k => ?_)
    unfold fin fail
    simp only [some_if]
  | succ m ih =>
    intro i hm hi
    have hil : i < ys.length := by omega
    have hy := hg _ (List.getElem_mem hil)
    have c0 : ((i : Int) < (ys.length : Int)) = True := eq_true (by omega)
    have c1 : ((0 : Int) ≤ (i : Int)) = True := eq_true (by omega)
    have hc : (((ys.take i).map revR).length + 1 ≤ 8796093022208) = True := eq_true (by rw [List.length_map, List.length_take]; omega)
    have hnl := nums_len ys[i]
    rw [List.drop_eq_getElem_cons hil, List.all_cons]
    by_cases c : shp ys[i] 2 = true
    · have hk : ys[i].f2.length = 2 := (shp_len hy 2 (by omega)).2 c
      have p2 : (((nums ys[i]).length : Int) = 2) = True := eq_true (by omega)
      have p0 : ((0 : Int) < ((nums ys[i]).length : Int)) = True := eq_true (by omega)
      have p1 : ((1 : Int) < ((nums ys[i]).length : Int)) = True := eq_true (by omega)
      have e := ih (i + 1) (by omega) (by omega)
      rw [List.take_succ_eq_append_getElem hil, List.map_append] at e
      rw [c, Bool.true_and]
      refine Evt.succ ?_
      simp only [spec_ReadCrl.l0, c6, hys, c0, c1, if_true, rdit ys i hil, wn i (by omega)]
      refine Evt.bind (ints_in hy) ?_
      simp only [p2, p0, p1, hc, if_true, lets, nums_2 c]
      exact e
    · have c' : shp ys[i] 2 = false := by simpa using c
      have p2 : (((nums ys[i]).length : Int) = 2) = False := eq_false (fun h => c ((shp_len hy 2 (by omega)).1 (by omega)))
      rw [c', Bool.false_and, if_neg (by simp)]
      refine Evt.succ ?_
      simp only [spec_ReadCrl.l0, c6, hys, c0, c1, if_true, rdit ys i hil, wn i (by omega)]
      refine Evt.bind (ints_in hy) ?_
      simp only [p2, if_false]
      exact Evt.now

/-! ### the statement -/
noncomputable def W0 (x : S65) : S65 := rd_T65 (lst x 2) 0
noncomputable def W1 (x : S65) : S65 := rd_T65 (lst x 2) 1
noncomputable def B (x : S65) (i : Int) : S65 := rd_T65 (lst (W0 x) 6) i
noncomputable def crlR (x : S65) : S50 := ⟨(B x 0).f1, (iv (B x 1)).1, (iv (B x 2)).1, (iv (B x 3)).1, (iv (B x 4)).1, (B x 5).f2.map revR, (W1 x).f1⟩
noncomputable def bad (x : S65) : Bool := (((((((((!shp x 2 || !shp (W0 x) 6) || ((B x 0).f0 != 12)) || !(iv (B x 1)).2) || !(iv (B x 2)).2) || !(iv (B x 3)).2) || !(iv (B x 4)).2) || !decide ((B x 5).f0 = 48)) || (B x 5).f2.any badR) || ((W1 x).f0 != 4))
theorem bad_mk (r : S50) : bad (crlI r) = false := by
  have e0 : lst (crlI r) 2 = [bodyI r, item4 r.f6] := lst_mk _ _ rfl
  have e1 : W0 (crlI r) = bodyI r := by unfold W0; rw [e0]; rfl
  have e2 : W1 (crlI r) = item4 r.f6 := by unfold W1; rw [e0]; rfl
  have e3 : lst (bodyI r) 6 = [item12 r.f0, intN r.f1, intN r.f2, intN r.f3, intN r.f4, ⟨48, (⟨#[]⟩ : ByteArray), r.f5.map revI⟩] := lst_mk _ _ rfl
  have b0 : B (crlI r) 0 = item12 r.f0 := by unfold B; rw [e1, e3]; rfl
  have b1 : B (crlI r) 1 = intN r.f1 := by unfold B; rw [e1, e3]; rfl
  have b2 : B (crlI r) 2 = intN r.f2 := by unfold B; rw [e1, e3]; rfl
  have b3 : B (crlI r) 3 = intN r.f3 := by unfold B; rw [e1, e3]; rfl
  have b4 : B (crlI r) 4 = intN r.f4 := by unfold B; rw [e1, e3]; rfl
  have b5 : B (crlI r) 5 = ⟨48, (⟨#[]⟩ : ByteArray), r.f5.map revI⟩ := by unfold B; rw [e1, e3]; rfl
  have s1 : shp (crlI r) 2 = true := shp_mk _ _ rfl
  have s2 : shp (bodyI r) 6 = true := shp_mk _ _ rfl
  have ha : (r.f5.map revI).any badR = false := by
    rw [List.any_eq_false]
    intro y hy
    obtain ⟨a, _, rfl⟩ := List.mem_map.1 hy
    rw [rev_mk]
    simp
  unfold bad
  rw [e1, e2, b0, b1, b2, b3, b4, b5, s1, s2, iv_intN, iv_intN, iv_intN, iv_intN]
  show (((((((((!true || !true) || ((12 : Int) != 12)) || !true) || !true) || !true) || !true) || !decide ((48 : Int) = 48)) || (r.f5.map revI).any badR) || ((4 : Int) != 4)) = false
  rw [ha]
  rfl
theorem fail_sm : sm50 fail.1 := ⟨Nat.zero_le _, trivial, trivial, trivial, trivial, ⟨Nat.zero_le _, fun e he => by cases he⟩, Nat.zero_le _, trivial⟩
theorem main (t : ByteArray) : ∃ r : S50 × Bool, Evt (fun k => spec_ReadCrl.f k t) r ∧ Evt (fun k => impl_ReadCrl.f k t) r ∧ sm50 r.1 := by
  obtain ⟨⟨x, b⟩, r1, r2, r3⟩ := read_item t
  rcases r3 with ⟨hb, hok, ht, hl, hz⟩ | hr
  · obtain rfl : b = true := hb
    have hS : Small x := by show sz x ≤ _; have : sz x ≤ 1048576 := hz; omega
    have gx : Gd x := .inl ⟨0, by omega, hok, hz⟩
    have gW0 : Gd (W0 x) := good_rd gx 2 0 0 rfl (by omega)
    have gW1 : Gd (W1 x) := good_rd gx 2 1 1 rfl (by omega)
    have gB : ∀ (i : Int) (k : Nat), i = (k : Int) → k < 6 → Gd (B x i) := fun i k h hk => good_rd gW0 6 k i h hk
    have g0 := gB 0 0 rfl (by omega)
    have g1 := gB 1 1 rfl (by omega)
    have g2 := gB 2 2 rfl (by omega)
    have g3 := gB 3 3 rfl (by omega)
    have g4 := gB 4 4 rfl (by omega)
    have g5 := gB 5 5 rfl (by omega)
    have gys : ∀ y ∈ (B x 5).f2, Gd y := fun y hy => good_kid g5 hy
    have lys := good_len g5
    have hsm : sm50 (crlR x) := by
      refine ⟨?_, trivial, trivial, trivial, trivial, ⟨?_, fun e he => ⟨trivial, trivial, trivial⟩⟩, ?_, trivial⟩
      · have := good_sz g0; have := sz_text (x := B x 0); show (B x 0).f1.size ≤ _; omega
      · show ((B x 5).f2.map revR).length ≤ _; rw [List.length_map]; exact lys
      · have := good_sz gW1; have := sz_text (x := W1 x); show (W1 x).f1.size ≤ _; omega
    obtain ⟨q, qf, qg, qh⟩ := crl_text (crlR x) hsm
    have hbad : bad x = true → fin t q (crlR x) = fail := fun hb => by
      unfold fin
      by_cases e1 : q.2 = true
      · rw [if_pos e1]
        by_cases e2 : q.1.toList = t.toList
        · exfalso
          obtain ⟨u1, u2, u3, u4⟩ := qh e1
          have e3 : strOfNums (tl x) = strOfNums (tl (crlI (crlR x))) := by rw [← u3, ← ht]; exact (toList_inj.1 e2).symm
          have e4 := text_inj hS u1 hok u2 hl e3
          rw [e4, bad_mk] at hb
          cases hb
        · rw [if_neg e2]
      · rw [if_neg e1]
    refine ⟨if bad x = true then fail else fin t q (crlR x), ?_, ?_, ?_⟩
    · unfold spec_ReadCrl.f
      refine Evt.bind r1 ?_
      simp only [kids_f x 2 2 rfl, Option.bind_some, if_true]
      by_cases s2 : shp x 2 = true
      · have h2 : x.f2.length = 2 := (of_decide_eq_true s2).2
        have eW0 : rd_T65 x.f2 0 = W0 x := by unfold W0; rw [lst_pos s2]
        have eW1 : rd_T65 x.f2 1 = W1 x := by unfold W1; rw [lst_pos s2]
        have c0 : ((0 : Int) < (x.f2.length : Int)) = True := eq_true (by omega)
        have c1 : ((1 : Int) < (x.f2.length : Int)) = True := eq_true (by omega)
        simp only [s2, if_true, c0, c1, eW0, eW1, kids_f (W0 x) 6 6 rfl, Option.bind_some]
        by_cases s7 : shp (W0 x) 6 = true
        · have h7 : (W0 x).f2.length = 6 := (of_decide_eq_true s7).2
          have eB : ∀ i, rd_T65 (W0 x).f2 i = B x i := fun i => by unfold B; rw [lst_pos s7]
          have d0 : ((0 : Int) < ((W0 x).f2.length : Int)) = True := eq_true (by omega)
          have d1 : ((1 : Int) < ((W0 x).f2.length : Int)) = True := eq_true (by omega)
          have d2 : ((2 : Int) < ((W0 x).f2.length : Int)) = True := eq_true (by omega)
          have d3 : ((3 : Int) < ((W0 x).f2.length : Int)) = True := eq_true (by omega)
          have d4 : ((4 : Int) < ((W0 x).f2.length : Int)) = True := eq_true (by omega)
          simp only [s7, if_true, d0, d1, d2, d3, d4, eB]
          have lf := loop_f t x true (iv (B x 1)) (iv (B x 2)) (iv (B x 3)) (iv (B x 4)) (by rw [eW0]; exact h7) (by rw [eW0, eB]; exact gys) (by rw [eW0, eB]; exact lys) q (by rw [eW0, eW1, eB, eB]; exact qf) _ 0 rfl (Nat.zero_le _)
          rw [eW0, eW1, eB, eB, List.drop_zero] at lf
          refine Evt.bind (iv_f g1) (Evt.bind (iv_f g2) (Evt.bind (iv_f g3) (Evt.bind (iv_f g4) ?_)))
          have e : (if ((B x 5).f2.all fun y => shp y 2) = true then fin t q (crlR x) else fail) = if bad x = true then fail else fin t q (crlR x) := by
            by_cases hb : bad x = true
            · rw [if_pos hb, hbad hb, ite_self]
            · rw [if_neg hb, if_pos]
              rw [List.all_eq_true]
              intro y hy
              by_cases c : shp y 2 = true
              · exact c
              · exfalso
                apply hb
                have ha : (B x 5).f2.any badR = true := by
                  rw [List.any_eq_true]
                  refine ⟨y, hy, ?_⟩
                  unfold badR
                  rw [show shp y 2 = false by simpa using c]
                  simp
                unfold bad
                rw [ha]
                simp
          rw [← e]
          exact lf
        · have s7' : shp (W0 x) 6 = false := by simpa using s7
          have hb : bad x = true := by unfold bad; rw [s7']; simp
          rw [if_pos hb]
          simp only [s7', if_false, Bool.false_eq_true]
          exact Evt.now
      · have s2' : shp x 2 = false := by simpa using s2
        have hb : bad x = true := by unfold bad; rw [s2']; simp
        rw [if_pos hb]
        simp only [s2', if_false, Bool.false_eq_true]
        exact Evt.now
    · unfold impl_ReadCrl.f
      refine Evt.bind r2 ?_
      have p0 : ((0 : Int) < ((2 : Nat) : Int)) = True := eq_true (by omega)
      have c0 : ((0 : Int) < ((6 : Nat) : Int)) = True := eq_true (by omega)
      have c1 : ((1 : Int) < ((6 : Nat) : Int)) = True := eq_true (by omega)
      have c2 : ((2 : Int) < ((6 : Nat) : Int)) = True := eq_true (by omega)
      have c3 : ((3 : Int) < ((6 : Nat) : Int)) = True := eq_true (by omega)
      have c4 : ((4 : Int) < ((6 : Nat) : Int)) = True := eq_true (by omega)
      have c5 : ((5 : Int) < ((6 : Nat) : Int)) = True := eq_true (by omega)
      have eW0 : rd_T65 (lst x 2) 0 = W0 x := rfl
      have eB : ∀ i, rd_T65 (lst (W0 x) 6) i = B x i := fun i => rfl
      have eL : cond (decide ((B x 5).f0 = 48)) (B x 5).f2 (List.replicate 0 z65) = (B x 5).f2 := by
        by_cases c : (B x 5).f0 = 48
        · rw [decide_eq_true c]; rfl
        · rw [decide_eq_false c, good_plain g5 c]; rfl
      simp only [if_true, list_g _ x 2 2 rfl (by omega), Option.bind_some, lst_cond, lets, lst_len, p0, eW0, list_g _ (W0 x) 6 6 rfl (by omega), c0, c1, c2, c3, c4, c5, eB, text_g]
      refine Evt.bind (num_g _ g1) (Evt.bind (num_g _ g2) (Evt.bind (num_g _ g3) (Evt.bind (num_g _ g4) ?_)))
      simp only [list_m, Option.bind_some, eL]
      exact loop_g t (lst x 2) (B x 5).f2 ((B x 0).f1, _) ((iv (B x 1)).1, _) ((iv (B x 2)).1, _) ((iv (B x 3)).1, _) ((iv (B x 4)).1, _) (lst_len x 2) gys lys q qg _ 0 _ rfl (Nat.zero_le _)
    · split
      · exact fail_sm
      · unfold fin
        split
        · split
          · exact hsm
          · exact fail_sm
        · exact fail_sm
  · obtain ⟨rfl, rfl⟩ := Prod.mk.inj hr
    refine ⟨fail, ?_, ?_, fail_sm⟩
    · unfold spec_ReadCrl.f
      refine Evt.bind r1 ?_
      simp only [kids_f _ 2 2 rfl, Option.bind_some, if_false, Bool.false_eq_true]
      exact Evt.now
    · unfold impl_ReadCrl.f
      refine Evt.bind r2 ?_
      simp only [if_false, Bool.false_eq_true]
      exact Evt.now
theorem pure : Pure := by
  intro t _
  obtain ⟨r, ⟨K1, f⟩, ⟨K2, g⟩, hs⟩ := main t
  obtain ⟨k, hk⟩ : ∃ k, k = 8388608 + K1 + K2 := ⟨_, rfl⟩
  refine ⟨k, ?_⟩
  have f := f k (by omega)
  have g := g k (by omega)
  simp only at f g
  unfold laws_FnExactReadCrl.f
  by_cases c : 1048576 < (t.size : Int)
  · rw [if_pos c]
  · rw [if_neg c]
    obtain ⟨m2, r0, e1, e2, e3, e4⟩ := mk_26 r.1 hs 1 (by omega) (by omega) k (by omega)
    have e5 := e4 k (by omega)
    simp only [f, g, Option.bind_some, eq_25 r.1 hs k (by omega), if_true, e1, e5, show ¬ m2 < 0 by omega, if_false]
end Go.Proofs.YtoaoncnbimcdgaaDoor.PureFnExactReadCrl

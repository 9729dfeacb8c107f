/- FnExactReadCert, as numbers and lists: what both make of a text is the same. -/
import Derived.Test.YtoaoncnbimcdgaaDoorCertBitsFnExactReadCert
import Derived.Test.YtoaoncnbimcdgaaDoorCertOkFnExactReadCert
namespace Go.Proofs.YtoaoncnbimcdgaaDoor.PureFnExactReadCert
open Go.RowKit Go.Proofs.YtoaoncnbimcdgaaDoorW.PrintWords Go.Proofs.YtoaoncnbimcdgaaDoorW.PrintLast Go.Proofs.YtoaoncnbimcdgaaDoor.ZOpen Go.Proofs.YtoaoncnbimcdgaaDoor.Z Go.Proofs.YtoaoncnbimcdgaaDoor.F
open Go.Proofs.YtoaoncnbimcdgaaDoor.SaidFnExactReadCert Go.Proofs.YtoaoncnbimcdgaaDoor.ZP Go.Proofs.YtoaoncnbimcdgaaDoor.FamFnExactReadCert Go.Proofs.YtoaoncnbimcdgaaDoor.ItemFnExactReadCert Go.Proofs.YtoaoncnbimcdgaaDoor.ReadFnExactReadCert Go.Proofs.YtoaoncnbimcdgaaDoor.IntFnExactReadCert Go.Proofs.YtoaoncnbimcdgaaDoor.OpenFnExactReadCert Go.Proofs.YtoaoncnbimcdgaaDoor.NameFnExactReadCert Go.Proofs.YtoaoncnbimcdgaaDoor.CertBitsFnExactReadCert Go.Proofs.YtoaoncnbimcdgaaDoor.CertOkFnExactReadCert
set_option linter.unusedVariables false
set_option linter.unusedSimpArgs false
set_option maxHeartbeats 8000000

/-! ### the text of a letter -/
noncomputable def bodyI (a : S29) : S65 := ⟨48, (⟨#[]⟩ : ByteArray), [intN a.f0, item12 a.f1, ⟨48, (⟨#[]⟩ : ByteArray), [intN a.f3, intN a.f4]⟩, item12 a.f2, item4 a.f5, itemB a.f6, intN a.f7, intN a.f8, ⟨48, (⟨#[]⟩ : ByteArray), a.f9.map intN⟩, ⟨48, (⟨#[]⟩ : ByteArray), a.f10.map item12⟩, ⟨48, (⟨#[]⟩ : ByteArray), a.f11.map item12⟩]⟩
noncomputable def certI (a : S29) : S65 := ⟨48, (⟨#[]⟩ : ByteArray), [bodyI a, item4 a.f12]⟩
theorem sz_times (a b : Int) : sz (⟨48, (⟨#[]⟩ : ByteArray), [intN a, intN b]⟩ : S65) ≤ 80 := by
  have z1 := intN_sz a
  have z2 := intN_sz b
  rw [sz_list]
  simp only [List.map_cons, List.map_nil, List.sum_cons, List.sum_nil]
  omega
theorem sz_body (a : S29) (h : sm29 a) : sz (bodyI a) ≤ 3300000000000 := by
  have z1 := intN_sz a.f0
  have z2 := sz_times a.f3 a.f4
  have z3 := intN_sz a.f7
  have z4 := intN_sz a.f8
  have z5 := sz_ints a.f9
  have z6 := sz12s a.f10 h.2.2.2.2.2.2.2.2.2.2.1
  have z7 := sz12s a.f11 h.2.2.2.2.2.2.2.2.2.2.2.1
  have z8 := itemB_sz a.f6
  have y1 := sz12 a.f1
  have y2 := sz12 a.f2
  have y3 := sz4 a.f5
  have s1 := h.2.1
  have s2 := h.2.2.1
  have s3 := h.2.2.2.2.2.1
  have s4 := h.2.2.2.2.2.2.2.2.2.1.1
  have z9 : sz (⟨48, (⟨#[]⟩ : ByteArray), a.f9.map intN⟩ : S65) = 16 + ((a.f9.map intN).map sz).sum := sz_list _
  unfold bodyI
  rw [sz_list]
  simp only [List.map_cons, List.map_nil, List.sum_cons, List.sum_nil]
  omega
theorem sz_cert (a : S29) (h : sm29 a) : sz (certI a) ≤ 3400000000000 := by
  have h1 := sz_body a h
  have h2 := sz4 a.f12
  have h3 := h.2.2.2.2.2.2.2.2.2.2.2.2.1
  unfold certI
  rw [sz_list]
  simp only [List.map_cons, List.map_nil, List.sum_cons, List.sum_nil]
  omega
theorem body_items (a : S29) (h : sm29 a) : Evt (fun k => spec_BodyItem.f k a) (bodyI a) ∧ Evt (fun k => impl_BodyItem.f k a) (bodyI a) := by
  have l9 := h.2.2.2.2.2.2.2.2.2.1.1
  have l10 := h.2.2.2.2.2.2.2.2.2.2.1.1
  have l11 := h.2.2.2.2.2.2.2.2.2.2.2.1.1
  have i0 := ints_f a.f9 l9
  have i1 := ints_g a.f9 l9
  have t0 := texts12_f a.f10 l10
  have t1 := texts12_g a.f10 l10
  have u0 := texts12_f a.f11 l11
  have u1 := texts12_g a.f11 l11
  refine ⟨?_, ?_⟩
  · unfold spec_BodyItem.f
    simp only [text12_f, bytes_f, bool_f, Option.bind_some]
    exact Evt.bind (intN_f _) (Evt.bind (intN_f _) (Evt.bind (intN_f _) (Evt.bind (intN_f _) (Evt.bind (intN_f _) (Evt.bind i0 (Evt.bind t0 (Evt.bind u0 Evt.now)))))))
  · have z1 := intN_sz a.f3
    have z2 := intN_sz a.f4
    have l0 := list_item [intN a.f3, intN a.f4] (by simp only [List.map_cons, List.map_nil, List.sum_cons, List.sum_nil]; omega)
    have hz := sz_body a h
    have hz2 := sz_list [intN a.f0, item12 a.f1, ⟨48, (⟨#[]⟩ : ByteArray), [intN a.f3, intN a.f4]⟩, item12 a.f2, item4 a.f5, itemB a.f6, intN a.f7, intN a.f8, ⟨48, (⟨#[]⟩ : ByteArray), a.f9.map intN⟩, ⟨48, (⟨#[]⟩ : ByteArray), a.f10.map item12⟩, ⟨48, (⟨#[]⟩ : ByteArray), a.f11.map item12⟩]
    have l1 := list_item [intN a.f0, item12 a.f1, ⟨48, (⟨#[]⟩ : ByteArray), [intN a.f3, intN a.f4]⟩, item12 a.f2, item4 a.f5, itemB a.f6, intN a.f7, intN a.f8, ⟨48, (⟨#[]⟩ : ByteArray), a.f9.map intN⟩, ⟨48, (⟨#[]⟩ : ByteArray), a.f10.map item12⟩, ⟨48, (⟨#[]⟩ : ByteArray), a.f11.map item12⟩] (by unfold bodyI at hz; omega)
    clear hz hz2 z1 z2
    unfold impl_BodyItem.f
    simp only [text12_g, bytes_g, bool_g, Option.bind_some]
    exact Evt.bind (intN_g _) (Evt.bind (intN_g _) (Evt.bind l0 (Evt.bind (intN_g _) (Evt.bind (intN_g _) (Evt.bind (intN_g _) (Evt.bind i1 (Evt.bind t1 (Evt.bind u1 (Evt.bind l1 Evt.now)))))))))
/-- Both texts of a letter are the same; if there is one, it is its item's. -/
theorem cert_text (a : S29) (h : sm29 a) : ∃ q, Evt (fun k => spec_CertText.f k a) q ∧ Evt (fun k => impl_CertText.f k a) q ∧
    (q.2 = true → Small (certI a) ∧ Ok (certI a) 0 ∧ q.1 = strOfNums (tl (certI a)) ∧ (tl (certI a)).length ≤ 4000) := by
  have hz := sz_cert a h
  have hS : Small (certI a) := by show sz _ ≤ _; omega
  obtain ⟨r, r1, r2⟩ := item_text (certI a) hS
  obtain ⟨b1, b2⟩ := body_items a h
  have hz2 : sz (certI a) = 16 + ([bodyI a, item4 a.f12].map sz).sum := sz_list _
  have hl := list_item [bodyI a, item4 a.f12] (by omega)
  obtain ⟨v, v1, v2⟩ := cert_ok a h
  cases v with
  | false =>
    refine ⟨((⟨#[]⟩ : ByteArray), false), ?_, ?_, fun h => by cases h⟩
    · unfold spec_CertText.f
      exact Evt.bind v1 (.of fun k => rfl)
    · unfold impl_CertText.f
      exact Evt.bind v2 (.of fun k => rfl)
  | true =>
    refine ⟨r, ?_, ?_, fun h2 => ⟨hS, ok_text hS r1 h2⟩⟩
    · unfold spec_CertText.f
      refine Evt.bind v1 ?_
      simp only [if_true, bytes_f, Option.bind_some]
      exact Evt.bind b1 (Evt.bind r1 Evt.now)
    · unfold impl_CertText.f
      refine Evt.bind v2 ?_
      simp only [if_true, bytes_g, Option.bind_some]
      exact Evt.bind b2 (Evt.bind hl (Evt.bind r2 Evt.now))
theorem shp_len {y : S65} (hy : Gd y) (n : Nat) (hn : 0 < n) : y.f2.length = n ↔ shp y n = true := by
  constructor
  · intro h
    refine decide_eq_true ⟨?_, h⟩
    by_cases c : y.f0 = 48
    · exact c
    · rw [good_plain hy c] at h
      simp at h
      omega
  · intro h
    exact (of_decide_eq_true h).2

/-! ### the statement -/
def fail : S29 × Bool := ((⟨0, (⟨#[]⟩ : ByteArray), (⟨#[]⟩ : ByteArray), 0, 0, (⟨#[]⟩ : ByteArray), false, 0, 0, ([] : List Int), ([] : List ByteArray), ([] : List ByteArray), (⟨#[]⟩ : ByteArray)⟩ : S29), false)
def fin (t : ByteArray) (q : ByteArray × Bool) (r : S29) : S29 × Bool := if q.2 = true then (if q.1.toList = t.toList then (r, true) else fail) else fail
noncomputable def W0 (x : S65) : S65 := rd_T65 (lst x 2) 0
noncomputable def W1 (x : S65) : S65 := rd_T65 (lst x 2) 1
noncomputable def B (x : S65) (i : Int) : S65 := rd_T65 (lst (W0 x) 11) i
noncomputable def T0 (x : S65) : S65 := rd_T65 (lst (B x 2) 2) 0
noncomputable def T1 (x : S65) : S65 := rd_T65 (lst (B x 2) 2) 1
noncomputable def certR (x : S65) : S29 := ⟨(iv (B x 0)).1, (B x 1).f1, (B x 3).f1, (iv (T0 x)).1, (iv (T1 x)).1, (B x 4).f1, ((B x 5).f1.toList == ([255] : List UInt8)), (iv (B x 6)).1, (iv (B x 7)).1, nums (B x 8), txs (B x 9), txs (B x 10), (W1 x).f1⟩
noncomputable def bad (x : S65) : Bool := (((((((((((((((!shp x 2 || !shp (W0 x) 11) || !shp (B x 2) 2) || !(iv (B x 0)).2) || ((B x 1).f0 != 12)) || !(iv (T0 x)).2) || !(iv (T1 x)).2) || ((B x 3).f0 != 12)) || ((B x 4).f0 != 4)) || ((B x 5).f0 != 1)) || !(iv (B x 6)).2) || !(iv (B x 7)).2) || badN (B x 8)) || badT (B x 9) 12) || badT (B x 10) 12) || ((W1 x).f0 != 4))
theorem bad_mk (r : S29) : bad (certI r) = false := by
  have e0 : lst (certI r) 2 = [bodyI r, item4 r.f12] := lst_mk _ _ rfl
  have e1 : W0 (certI r) = bodyI r := by unfold W0; rw [e0]; rfl
  have e2 : W1 (certI r) = item4 r.f12 := by unfold W1; rw [e0]; rfl
  have e3 : lst (bodyI r) 11 = [intN r.f0, item12 r.f1, ⟨48, (⟨#[]⟩ : ByteArray), [intN r.f3, intN r.f4]⟩, item12 r.f2, item4 r.f5, itemB r.f6, intN r.f7, intN r.f8, ⟨48, (⟨#[]⟩ : ByteArray), r.f9.map intN⟩, ⟨48, (⟨#[]⟩ : ByteArray), r.f10.map item12⟩, ⟨48, (⟨#[]⟩ : ByteArray), r.f11.map item12⟩] := lst_mk _ _ rfl
  have b0 : B (certI r) 0 = intN r.f0 := by unfold B; rw [e1, e3]; rfl
  have b1 : B (certI r) 1 = item12 r.f1 := by unfold B; rw [e1, e3]; rfl
  have b2 : B (certI r) 2 = ⟨48, (⟨#[]⟩ : ByteArray), [intN r.f3, intN r.f4]⟩ := by unfold B; rw [e1, e3]; rfl
  have b3 : B (certI r) 3 = item12 r.f2 := by unfold B; rw [e1, e3]; rfl
  have b4 : B (certI r) 4 = item4 r.f5 := by unfold B; rw [e1, e3]; rfl
  have b5 : B (certI r) 5 = itemB r.f6 := by unfold B; rw [e1, e3]; rfl
  have b6 : B (certI r) 6 = intN r.f7 := by unfold B; rw [e1, e3]; rfl
  have b7 : B (certI r) 7 = intN r.f8 := by unfold B; rw [e1, e3]; rfl
  have b8 : B (certI r) 8 = ⟨48, (⟨#[]⟩ : ByteArray), r.f9.map intN⟩ := by unfold B; rw [e1, e3]; rfl
  have b9 : B (certI r) 9 = ⟨48, (⟨#[]⟩ : ByteArray), r.f10.map item12⟩ := by unfold B; rw [e1, e3]; rfl
  have b10 : B (certI r) 10 = ⟨48, (⟨#[]⟩ : ByteArray), r.f11.map item12⟩ := by unfold B; rw [e1, e3]; rfl
  have e4 : lst (⟨48, (⟨#[]⟩ : ByteArray), [intN r.f3, intN r.f4]⟩ : S65) 2 = [intN r.f3, intN r.f4] := lst_mk _ _ rfl
  have t0 : T0 (certI r) = intN r.f3 := by unfold T0; rw [b2, e4]; rfl
  have t1 : T1 (certI r) = intN r.f4 := by unfold T1; rw [b2, e4]; rfl
  have s1 : shp (certI r) 2 = true := shp_mk _ _ rfl
  have s2 : shp (bodyI r) 11 = true := shp_mk _ _ rfl
  have s3 : shp (⟨48, (⟨#[]⟩ : ByteArray), [intN r.f3, intN r.f4]⟩ : S65) 2 = true := shp_mk _ _ rfl
  have ht : ∀ l : List ByteArray, badT ⟨48, (⟨#[]⟩ : ByteArray), l.map item12⟩ 12 = false := fun l => badT_mk _ _ (fun y hy => by obtain ⟨s, _, rfl⟩ := List.mem_map.1 hy; rfl) _
  unfold bad
  rw [e1, e2, b0, b1, b2, b3, b4, b5, b6, b7, b8, b9, b10, t0, t1, s1, s2, s3, badN_mk, ht, ht, iv_intN, iv_intN, iv_intN, iv_intN, iv_intN]
  show (((((((((((((((!true || !true) || !true) || !true) || ((12 : Int) != 12)) || !true) || !true) || ((12 : Int) != 12)) || ((4 : Int) != 4)) || ((itemB r.f6).f0 != 1)) || !true) || !true) || false) || false) || false) || ((4 : Int) != 4)) = false
  rw [itemB_tag]
  rfl
theorem fail_sm : sm29 fail.1 := ⟨trivial, Nat.zero_le _, Nat.zero_le _, trivial, trivial, Nat.zero_le _, trivial, trivial, trivial, ⟨Nat.zero_le _, fun e he => by cases he⟩, ⟨Nat.zero_le _, fun e he => by cases he⟩, ⟨Nat.zero_le _, fun e he => by cases he⟩, Nat.zero_le _, trivial⟩
theorem main (t : ByteArray) : ∃ r : S29 × Bool, Evt (fun k => spec_ReadCert.f k t) r ∧ Evt (fun k => impl_ReadCert.f k t) r ∧ sm29 r.1 := by
  obtain ⟨⟨x, b⟩, r1, r2, r3⟩ := read_item t
  rcases r3 with ⟨hb, hok, ht, hl, hz⟩ | hr
  · obtain rfl : b = true := hb
    have hS : Small x := by show sz x ≤ _; have : sz x ≤ 1048576 := hz; omega
    have gx : Gd x := .inl ⟨0, by omega, hok, hz⟩
    have gW0 : Gd (W0 x) := good_rd gx 2 0 0 rfl (by omega)
    have gW1 : Gd (W1 x) := good_rd gx 2 1 1 rfl (by omega)
    have gB : ∀ (i : Int) (k : Nat), i = (k : Int) → k < 11 → Gd (B x i) := fun i k h hk => good_rd gW0 11 k i h hk
    have g0 := gB 0 0 rfl (by omega)
    have g1 := gB 1 1 rfl (by omega)
    have g2 := gB 2 2 rfl (by omega)
    have g3 := gB 3 3 rfl (by omega)
    have g4 := gB 4 4 rfl (by omega)
    have g5 := gB 5 5 rfl (by omega)
    have g6 := gB 6 6 rfl (by omega)
    have g7 := gB 7 7 rfl (by omega)
    have g8 := gB 8 8 rfl (by omega)
    have g9 := gB 9 9 rfl (by omega)
    have g10 := gB 10 10 rfl (by omega)
    have gT0 : Gd (T0 x) := good_rd g2 2 0 0 rfl (by omega)
    have gT1 : Gd (T1 x) := good_rd g2 2 1 1 rfl (by omega)
    have sze : ∀ {y : S65}, Gd y → y.f1.size ≤ 1048576 := fun {y} hy => by have := good_sz hy; have := sz_text (x := y); omega
    have hsm : sm29 (certR x) := by
      refine ⟨trivial, sze g1, sze g3, trivial, trivial, sze g4, trivial, trivial, trivial, ⟨?_, fun _ _ => trivial⟩, txs_sm g9, txs_sm g10, sze gW1, trivial⟩
      show ((B x 8).f2.map _).length ≤ _
      rw [List.length_map]
      exact good_len g8
    obtain ⟨q, qf, qg, qh⟩ := cert_text (certR x) hsm
    have hbad : bad x = true → fin t q (certR x) = fail := fun hb => by
      unfold fin
      by_cases e1 : q.2 = true
      · rw [if_pos e1]
        by_cases e2 : q.1.toList = t.toList
        · exfalso
          obtain ⟨u1, u2, u3, u4⟩ := qh e1
          have e3 : strOfNums (tl x) = strOfNums (tl (certI (certR x))) := by rw [← u3, ← ht]; exact (toList_inj.1 e2).symm
          have e4 := text_inj hS u1 hok u2 hl e3
          rw [e4, bad_mk] at hb
          cases hb
        · rw [if_neg e2]
      · rw [if_neg e1]
    refine ⟨if bad x = true then fail else fin t q (certR x), ?_, ?_, ?_⟩
    · unfold spec_ReadCert.f
      refine Evt.bind r1 ?_
      simp only [kids_f x 2 2 rfl, Option.bind_some, if_true]
      by_cases s2 : shp x 2 = true
      · have h2 : x.f2.length = 2 := (of_decide_eq_true s2).2
        have eW0 : rd_T65 x.f2 0 = W0 x := by unfold W0; rw [lst_pos s2]
        have eW1 : rd_T65 x.f2 1 = W1 x := by unfold W1; rw [lst_pos s2]
        have c0 : ((0 : Int) < (x.f2.length : Int)) = True := eq_true (by omega)
        have c1 : ((1 : Int) < (x.f2.length : Int)) = True := eq_true (by omega)
        simp only [s2, if_true, c0, c1, eW0, eW1, kids_f (W0 x) 11 11 rfl, Option.bind_some]
        by_cases s7 : shp (W0 x) 11 = true
        · have h7 : (W0 x).f2.length = 11 := (of_decide_eq_true s7).2
          have eB : ∀ i, rd_T65 (W0 x).f2 i = B x i := fun i => by unfold B; rw [lst_pos s7]
          have d0 : ((0 : Int) < ((W0 x).f2.length : Int)) = True := eq_true (by omega)
          have d1 : ((1 : Int) < ((W0 x).f2.length : Int)) = True := eq_true (by omega)
          have d2 : ((2 : Int) < ((W0 x).f2.length : Int)) = True := eq_true (by omega)
          have d3 : ((3 : Int) < ((W0 x).f2.length : Int)) = True := eq_true (by omega)
          have d4 : ((4 : Int) < ((W0 x).f2.length : Int)) = True := eq_true (by omega)
          have d5 : ((5 : Int) < ((W0 x).f2.length : Int)) = True := eq_true (by omega)
          have d6 : ((6 : Int) < ((W0 x).f2.length : Int)) = True := eq_true (by omega)
          have d7 : ((7 : Int) < ((W0 x).f2.length : Int)) = True := eq_true (by omega)
          have d8 : ((8 : Int) < ((W0 x).f2.length : Int)) = True := eq_true (by omega)
          have d9 : ((9 : Int) < ((W0 x).f2.length : Int)) = True := eq_true (by omega)
          have d10 : ((10 : Int) < ((W0 x).f2.length : Int)) = True := eq_true (by omega)
          by_cases s3 : shp (B x 2) 2 = true
          · have h3 : (B x 2).f2.length = 2 := (of_decide_eq_true s3).2
            have eT0 : rd_T65 (B x 2).f2 0 = T0 x := by unfold T0; rw [lst_pos s3]
            have eT1 : rd_T65 (B x 2).f2 1 = T1 x := by unfold T1; rw [lst_pos s3]
            have f2 : (((B x 2).f2.length : Int) = 2) = True := eq_true (by omega)
            have f0 : ((0 : Int) < ((B x 2).f2.length : Int)) = True := eq_true (by omega)
            have f1 : ((1 : Int) < ((B x 2).f2.length : Int)) = True := eq_true (by omega)
            simp only [s7, if_true, d0, d1, d2, d3, d4, d5, d6, d7, d8, d9, d10, eB, eT0, eT1, f2, f0, f1]
            refine Evt.bind (ints_in g8) (Evt.bind (texts_in g9) (Evt.bind (texts_in g10) (Evt.bind (iv_f g0) (Evt.bind (iv_f gT0) (Evt.bind (iv_f gT1) (Evt.bind (iv_f g6) (Evt.bind (iv_f g7) ?_)))))))
            have e : fin t q (certR x) = if bad x = true then fail else fin t q (certR x) := by
              by_cases hb : bad x = true
              · rw [if_pos hb, hbad hb]
              · rw [if_neg hb]
            rw [← e]
            refine Evt.bind qf (Evt.of fun k => ?_)
            unfold fin fail
            simp only [some_if]
            rfl
          · have s3' : shp (B x 2) 2 = false := by simpa using s3
            have hb : bad x = true := by unfold bad; rw [s3']; simp
            have f2 : (((B x 2).f2.length : Int) = 2) = False := eq_false (fun h => s3 ((shp_len g2 2 (by omega)).1 (by omega)))
            rw [if_pos hb]
            simp only [s7, if_true, if_false, d0, d1, d2, d3, d4, d5, d6, d7, d8, d9, d10, eB, f2]
            exact Evt.now
        · have s7' : shp (W0 x) 11 = false := by simpa using s7
          have hb : bad x = true := by unfold bad; rw [s7']; simp
          rw [if_pos hb]
          simp only [s7', if_false, Bool.false_eq_true]
          exact Evt.now
      · have s2' : shp x 2 = false := by simpa using s2
        have hb : bad x = true := by unfold bad; rw [s2']; simp
        rw [if_pos hb]
        simp only [s2', if_false, Bool.false_eq_true]
        exact Evt.now
    · unfold impl_ReadCert.f
      refine Evt.bind r2 ?_
      have p0 : ((0 : Int) < ((2 : Nat) : Int)) = True := eq_true (by omega)
      have p1 : ((1 : Int) < ((2 : Nat) : Int)) = True := eq_true (by omega)
      have c0 : ((0 : Int) < ((11 : Nat) : Int)) = True := eq_true (by omega)
      have c1 : ((1 : Int) < ((11 : Nat) : Int)) = True := eq_true (by omega)
      have c2 : ((2 : Int) < ((11 : Nat) : Int)) = True := eq_true (by omega)
      have c3 : ((3 : Int) < ((11 : Nat) : Int)) = True := eq_true (by omega)
      have c4 : ((4 : Int) < ((11 : Nat) : Int)) = True := eq_true (by omega)
      have c5 : ((5 : Int) < ((11 : Nat) : Int)) = True := eq_true (by omega)
      have c6 : ((6 : Int) < ((11 : Nat) : Int)) = True := eq_true (by omega)
      have c7 : ((7 : Int) < ((11 : Nat) : Int)) = True := eq_true (by omega)
      have c8 : ((8 : Int) < ((11 : Nat) : Int)) = True := eq_true (by omega)
      have c9 : ((9 : Int) < ((11 : Nat) : Int)) = True := eq_true (by omega)
      have c10 : ((10 : Int) < ((11 : Nat) : Int)) = True := eq_true (by omega)
      have eW0 : rd_T65 (lst x 2) 0 = W0 x := rfl
      have eW1 : rd_T65 (lst x 2) 1 = W1 x := rfl
      have eB : ∀ i, rd_T65 (lst (W0 x) 11) i = B x i := fun i => rfl
      have eT0 : rd_T65 (lst (B x 2) 2) 0 = T0 x := rfl
      have eT1 : rd_T65 (lst (B x 2) 2) 1 = T1 x := rfl
      simp only [if_true, list_g _ x 2 2 rfl (by omega), Option.bind_some, lst_cond, lets, lst_len, p0, p1, eW0, eW1, list_g _ (W0 x) 11 11 rfl (by omega), c0, c1, c2, c3, c4, c5, c6, c7, c8, c9, c10, eB, list_g _ (B x 2) 2 2 rfl (by omega), eT0, eT1, text_g, flag_g]
      refine Evt.bind (num_g _ g0) ?_
      simp only [text_g, Option.bind_some]
      refine Evt.bind (num_g _ gT0) (Evt.bind (num_g _ gT1) ?_)
      simp only [text_g, flag_g, Option.bind_some]
      refine Evt.bind (num_g _ g6) (Evt.bind (num_g _ g7) (Evt.bind (nums_g _ g8) (Evt.bind (texts_g _ g9 12) (Evt.bind (texts_g _ g10 12) ?_))))
      simp only [text_g, Option.bind_some]
      refine Evt.bind qg (Evt.of fun k => ?_)
      unfold fin fail
      simp only [some_if]
      rfl
    · split
      · exact fail_sm
      · unfold fin
        split
        · split
          · exact hsm
          · exact fail_sm
        · exact fail_sm
  · obtain ⟨rfl, rfl⟩ := Prod.mk.inj hr
    refine ⟨fail, ?_, ?_, fail_sm⟩
    · unfold spec_ReadCert.f
      refine Evt.bind r1 ?_
      simp only [kids_f _ 2 2 rfl, Option.bind_some, if_false, Bool.false_eq_true]
      exact Evt.now
    · unfold impl_ReadCert.f
      refine Evt.bind r2 ?_
      simp only [if_false, Bool.false_eq_true]
      exact Evt.now
theorem pure : Pure := by
  intro t _
  obtain ⟨r, ⟨K1, f⟩, ⟨K2, g⟩, hs⟩ := main t
  obtain ⟨k, hk⟩ : ∃ k, k = 8388608 + K1 + K2 := ⟨_, rfl⟩
  refine ⟨k, ?_⟩
  have f := f k (by omega)
  have g := g k (by omega)
  simp only at f g
  unfold laws_FnExactReadCert.f
  by_cases c : 1048576 < (t.size : Int)
  · rw [if_pos c]
  · rw [if_neg c]
    obtain ⟨m2, a1, a2, a3, e1, e2, e3, e4⟩ := mk_30 r.1 hs 1 (by omega) (by omega) k (by omega)
    have e5 := e4 k (by omega)
    simp only [f, g, Option.bind_some, eq_12 r.1 hs k (by omega), if_true, e1, e5, show ¬ m2 < 0 by omega, if_false]
end Go.Proofs.YtoaoncnbimcdgaaDoor.PureFnExactReadCert

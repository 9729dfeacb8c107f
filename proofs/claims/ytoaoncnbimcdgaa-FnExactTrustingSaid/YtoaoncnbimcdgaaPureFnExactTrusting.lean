/- FnExactTrusting, as numbers and lists: both pick the same anchors. -/
import Derived.Test.YtoaoncnbimcdgaaFamFnExactTrusting
namespace Go.Proofs.Ytoaoncnbimcdgaa.PureFnExactTrusting
open Go.RowKit Go.Proofs.YtoaoncnbimcdgaaW.PrintWords Go.Proofs.YtoaoncnbimcdgaaW.PrintLast Go.Proofs.Ytoaoncnbimcdgaa.ZOpen Go.Proofs.Ytoaoncnbimcdgaa.Z Go.Proofs.Ytoaoncnbimcdgaa.F
open Go.Proofs.Ytoaoncnbimcdgaa.SaidFnExactTrusting Go.Proofs.Ytoaoncnbimcdgaa.ZP Go.Proofs.Ytoaoncnbimcdgaa.FamFnExactTrusting
set_option linter.unusedVariables false
set_option linter.unusedSimpArgs false

theorem copy_loop {α β : Type} (xs : List α) (L : Nat → List α → Int → Option β) (res : Option β)
    (h1 : ∀ k i l (hi : i < xs.length), l.length = i → L (k + 1) l (i : Int) = L k (l ++ [xs[i]]) ((i + 1 : Nat) : Int)) (h2 : ∀ k, L (k + 1) xs (xs.length : Int) = res) :
    ∀ (m i k : Nat), xs.length - i = m → i ≤ xs.length → m < k → L k (xs.take i) (i : Int) = res := by
  intro m
  induction m with
  | zero =>
    intro i k hm hi hk
    obtain ⟨k, rfl⟩ : ∃ q, k = q + 1 := ⟨k - 1, by omega⟩
    obtain rfl : i = xs.length := by omega
    rw [List.take_length]
    exact h2 k
  | succ m ih =>
    intro i k hm hi hk
    obtain ⟨k, rfl⟩ : ∃ q, k = q + 1 := ⟨k - 1, by omega⟩
    have hil : i < xs.length := by omega
    rw [h1 k i _ hil (by rw [List.length_take]; omega), ← List.take_succ_eq_append_getElem hil]
    exact ih (i + 1) k (by omega) (by omega) (by omega)
theorem w1 (i : Nat) (hi : i ≤ 1048576) : wrap64 ((i : Int) + 1) = ((i + 1 : Nat) : Int) := by rw [w64 (by omega) (by omega)]; rfl
theorem cert_f (x : S192) (h : sm192 x) : spec_l09Copy.f x = some x := by
  have h1 := h.2.2.2.2.2.2.2.2.2.1.1
  have h2 := h.2.2.2.2.2.2.2.2.2.2.1.1
  have h3 := h.2.2.2.2.2.2.2.2.2.2.2.1.1
  unfold spec_l09Copy.f
  simp only [lets]
  rw [if_pos (by omega), if_pos (by omega), if_pos (by omega)]
  rfl
theorem cert_g (x : S192) (h : sm192 x) : impl_copyCert.f x = some x := cert_f x h
theorem crl_f (x : S190) (h : sm190 x) : spec_l10Copy.f x = some x := by
  have h1 := h.2.2.2.2.2.1.1
  unfold spec_l10Copy.f
  simp only [lets]
  rw [if_pos (by omega)]
  rfl
theorem crl_g (x : S190) (h : sm190 x) : impl_copyCrl.f x = some x := crl_f x h
theorem certs_f (l : List S192) (h : l.length ≤ 1048576 ∧ ∀ e ∈ l, sm192 e) (k : Nat) (hk : 1048577 ≤ k) : spec_l13Certs.f k l = some l := by
  have hl := h.1
  unfold spec_l13Certs.f
  refine copy_loop l (fun k r i => spec_l13Certs.l0 k r i l) (some l) (fun k i r hi hr => ?_) (fun k => ?_) l.length 0 k rfl (by omega) (by omega)
  · have hc : (r.length + 1 ≤ 764877654105) = True := eq_true (by omega)
    show spec_l13Certs.l0 (k + 1) r (i : Int) l = _
    rw [spec_l13Certs.l0, if_pos (by omega), if_pos (by omega), if_pos (by omega), rd192 l i hi, cert_f _ (h.2 _ (List.getElem_mem hi)), w1 i (by omega)]
    simp only [Option.bind_some, hc, if_true, lets]
  · show spec_l13Certs.l0 (k + 1) l _ l = _
    rw [spec_l13Certs.l0, if_neg (by omega)]
theorem certs_g (l : List S192) (h : l.length ≤ 1048576 ∧ ∀ e ∈ l, sm192 e) (k : Nat) (hk : 1048577 ≤ k) : impl_copyCerts.f k l = some l := by
  have hl := h.1
  unfold impl_copyCerts.f
  refine copy_loop l (fun k r i => impl_copyCerts.l0 k r i l) (some l) (fun k i r hi hr => ?_) (fun k => ?_) l.length 0 k rfl (by omega) (by omega)
  · have hc : (r.length + 1 ≤ 764877654105) = True := eq_true (by omega)
    show impl_copyCerts.l0 (k + 1) r (i : Int) l = _
    rw [impl_copyCerts.l0, if_pos (by omega), if_pos (by omega), if_pos (by omega), rd192 l i hi, cert_g _ (h.2 _ (List.getElem_mem hi)), w1 i (by omega)]
    simp only [Option.bind_some, hc, if_true, lets]
  · show impl_copyCerts.l0 (k + 1) l _ l = _
    rw [impl_copyCerts.l0, if_neg (by omega)]
theorem crls_g (l : List S190) (h : l.length ≤ 1048576 ∧ ∀ e ∈ l, sm190 e) (k : Nat) (hk : 1048577 ≤ k) : impl_copyCrls.f k l = some l := by
  have hl := h.1
  unfold impl_copyCrls.f
  refine copy_loop l (fun k r i => impl_copyCrls.l0 k r i l) (some l) (fun k i r hi hr => ?_) (fun k => ?_) l.length 0 k rfl (by omega) (by omega)
  · have hc : (r.length + 1 ≤ 1599289640401) = True := eq_true (by omega)
    show impl_copyCrls.l0 (k + 1) r (i : Int) l = _
    rw [impl_copyCrls.l0, if_pos (by omega), if_pos (by omega), if_pos (by omega), rd190 l i hi, crl_g _ (h.2 _ (List.getElem_mem hi)), w1 i (by omega)]
    simp only [Option.bind_some, hc, if_true, lets]
  · show impl_copyCrls.l0 (k + 1) l _ l = _
    rw [impl_copyCrls.l0, if_neg (by omega)]
theorem store_f (a : S61) (h : sm61 a) (k : Nat) (hk : 1048577 ≤ k) : spec_l13Copy.f k a = some a := by
  obtain ⟨hc, hr, hn, _⟩ := h
  have hl := hr.1
  have hl2 := hn.1
  unfold spec_l13Copy.f
  rw [certs_f _ hc k hk, Option.bind_some, if_pos (by omega)]
  simp only [lets, List.nil_append]
  refine copy_loop a.f1 (fun k r i => spec_l13Copy.l0 k r i a a.f0 a.f2) (some a) (fun k i r hi hr' => ?_) (fun k => ?_) a.f1.length 0 k rfl (by omega) (by omega)
  · have hc : (r.length + 1 ≤ 1599289640401) = True := eq_true (by omega)
    show spec_l13Copy.l0 (k + 1) r (i : Int) a a.f0 a.f2 = _
    rw [spec_l13Copy.l0, if_pos (by omega), if_pos (by omega), if_pos (by omega), rd190 _ i hi, crl_f _ (hr.2 _ (List.getElem_mem hi)), w1 i (by omega)]
    simp only [Option.bind_some, hc, if_true, lets]
  · show spec_l13Copy.l0 (k + 1) a.f1 _ a a.f0 a.f2 = _
    rw [spec_l13Copy.l0, if_neg (by omega)]
theorem store_g (a : S61) (h : sm61 a) (k : Nat) (hk : 1048577 ≤ k) : impl_copyStore.f k a = some a := by
  obtain ⟨hc, hr, hn, _⟩ := h
  have hl2 := hn.1
  unfold impl_copyStore.f
  rw [certs_g _ hc k hk, Option.bind_some, crls_g _ hr k hk, Option.bind_some, if_pos (by omega)]
  rfl
theorem in_eq (x y z : Int) : spec_l01In.f x y z = some (decide (y ≤ x ∧ x ≤ z)) := by
  unfold spec_l01In.f
  by_cases h : y ≤ x
  · rw [if_pos h]
    exact congrArg some (decide_eq_decide.2 ⟨fun q => ⟨h, q⟩, fun q => q.2⟩)
  · rw [if_neg h]
    exact congrArg some (decide_eq_false (fun q => h q.1)).symm
theorem in_eq' (x y z : Int) : impl_within.f x y z = some (decide (y ≤ x ∧ x ≤ z)) := in_eq x y z
theorem picks (a : S61) (p : S66) (ha : sm61 a) (hp : sm66 p) : ∀ (m i k : Nat) (l : List S128), p.f1.length - i = m → i ≤ p.f1.length → m < k → l.length ≤ i → (∀ e ∈ l, sm128 e) →
    ∃ q : List S128, spec_Trusting.l0 k l (i : Int) a p a = some ⟨a.f0, a.f1, q⟩ ∧ impl_Trusting.l0 k l (i : Int) a p a = some ⟨a.f0, a.f1, q⟩ ∧ q.length ≤ p.f1.length ∧ ∀ e ∈ q, sm128 e := by
  have hl := hp.2.1.1
  have hn := ha.2.2.1.1
  intro m
  induction m with
  | zero =>
    intro i k l hm hi hk h1 h2
    obtain ⟨k, rfl⟩ : ∃ q, k = q + 1 := ⟨k - 1, by omega⟩
    exact ⟨l, by rw [spec_Trusting.l0, if_neg (by omega)], by rw [impl_Trusting.l0, if_neg (by omega)], by omega, h2⟩
  | succ m ih =>
    intro i k l hm hi hk h1 h2
    obtain ⟨k, rfl⟩ : ∃ q, k = q + 1 := ⟨k - 1, by omega⟩
    have hil : i < p.f1.length := by omega
    have ew : wrap64 ((a.f2.length : Int) - 1) = (a.f2.length : Int) - 1 := w64 (by omega) (by omega)
    have hc : (l.length + 1 ≤ 4398046511104) = True := eq_true (by omega)
    by_cases c : (0 : Int) ≤ p.f1[i] ∧ p.f1[i] ≤ (a.f2.length : Int) - 1
    · obtain ⟨j, hj⟩ : ∃ j : Nat, p.f1[i] = (j : Int) := ⟨p.f1[i].toNat, by omega⟩
      have hjl : j < a.f2.length := by omega
      obtain ⟨q, q1, q2, q3, q4⟩ := ih (i + 1) k (l ++ [a.f2[j]]) (by omega) (by omega) (by omega) (by rw [List.length_append, List.length_singleton]; omega) (fun e he => by
        rcases List.mem_append.1 he with h | h
        · exact h2 e h
        · rw [List.mem_singleton.1 h]; exact ha.2.2.1.2 _ (List.getElem_mem hjl))
      refine ⟨q, ?_, ?_, q3, q4⟩
      · rw [spec_Trusting.l0, if_pos (by omega), if_pos (by omega), if_pos (by omega), in_eq, ew, rdI _ i hil, decide_eq_true c, Option.bind_some, if_pos rfl, if_pos (by omega), if_pos (by omega), hj, rd128 _ j hjl, w1 i (by omega)]
        simp only [hc, if_true, lets]
        exact q1
      · rw [impl_Trusting.l0, if_pos (by omega), if_pos (by omega), if_pos (by omega), in_eq', ew, rdI _ i hil, decide_eq_true c, Option.bind_some, if_pos rfl, if_pos (by omega), if_pos (by omega), hj, rd128 _ j hjl, w1 i (by omega)]
        simp only [hc, if_true, lets]
        exact q2
    · obtain ⟨q, q1, q2, q3, q4⟩ := ih (i + 1) k l (by omega) (by omega) (by omega) (by omega) h2
      refine ⟨q, ?_, ?_, q3, q4⟩
      · rw [spec_Trusting.l0, if_pos (by omega), if_pos (by omega), if_pos (by omega), in_eq, ew, rdI _ i hil, decide_eq_false c, Option.bind_some, if_neg (by simp), w1 i (by omega)]
        exact q1
      · rw [impl_Trusting.l0, if_pos (by omega), if_pos (by omega), if_pos (by omega), in_eq', ew, rdI _ i hil, decide_eq_false c, Option.bind_some, if_neg (by simp), w1 i (by omega)]
        exact q2
theorem trusting (a : S61) (p : S66) (ha : sm61 a) (hp : sm66 p) (k : Nat) (hk : 1048577 ≤ k) : ∃ r, spec_Trusting.f k a p = some r ∧ impl_Trusting.f k a p = some r ∧ sm61 r := by
  have hl := hp.2.1.1
  obtain ⟨q, q1, q2, q3, q4⟩ := picks a p ha hp p.f1.length 0 k [] rfl (by omega) (by omega) (by simp) (fun e he => by cases he)
  refine ⟨⟨a.f0, a.f1, q⟩, ?_, ?_, ha.1, ha.2.1, ⟨(by show q.length ≤ _; omega), q4⟩, trivial⟩
  · unfold spec_Trusting.f
    rw [store_f a ha k hk, Option.bind_some]
    exact q1
  · unfold impl_Trusting.f
    rw [store_g a ha k hk, Option.bind_some]
    exact q2
theorem pure : Pure := by
  intro s p hs hp
  obtain ⟨k, hk⟩ : ∃ k, k = 4194304 := ⟨_, rfl⟩
  refine ⟨k, ?_⟩
  unfold laws_FnExactTrusting.f
  obtain ⟨n1, e1, b1, g1⟩ := sz_19 s hs 1048576 (by omega) (by omega) k (by omega)
  rw [e1, Option.bind_some]
  by_cases c : n1 < 0
  · rw [if_pos c]
  rw [if_neg c]
  obtain ⟨n2, e2, b2, g2⟩ := sz_20 p hp n1 (by omega) (by omega) k (by omega)
  rw [e2, Option.bind_some]
  by_cases c2 : n2 < 0
  · rw [if_pos c2]
  rw [if_neg c2]
  have h1 := g1 (by omega)
  have h2 := g2 (by omega)
  have hc := smcv50 s h1
  have hc2 := smcv54 p h2
  obtain ⟨r, w1, w2, hr⟩ := trusting (cv50 s) (cv54 p) hc hc2 k (by omega)
  obtain ⟨m1, r1, r2, r3, q1, q2, q3, _⟩ := mk_27 _ hc 1 (by omega) (by omega) k (by omega)
  obtain ⟨m3, r4, r5, o1, o2, _, _⟩ := mk_28 _ hc2 m1 (by omega) (by omega) k (by omega)
  obtain ⟨m2, s1, s2, s3, p1, p2, _, p3⟩ := mk_27 r hr 1 (by omega) (by omega) k (by omega)
  simp only [to_22 s h1 k (by omega), to_23 p h2 k (by omega), Option.bind_some, w1, w2, eq_25 r hr k (by omega), eq_25 _ hc k (by omega), eq_26 _ hc2 k (by omega), q1, o1, p1, p3 k (by omega), if_true, show ¬ m3 < 0 by omega, show ¬ m2 < 0 by omega, if_false]
end Go.Proofs.Ytoaoncnbimcdgaa.PureFnExactTrusting

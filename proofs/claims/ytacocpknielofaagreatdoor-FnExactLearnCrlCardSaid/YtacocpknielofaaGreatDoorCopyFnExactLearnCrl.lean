/- A store's copies, and what is put into it: both ways agree. Plain lemmas, no condition. -/
import Derived.Test.YtacocpknielofaaGreatDoorStoreFnExactLearnCrl
namespace Go.Proofs.YtacocpknielofaaGreatDoor.CopyFnExactLearnCrl
open Go.RowKit YtacocpknielofaaGreatDoorW.PrintWords YtacocpknielofaaGreatDoorW.PrintLast ZOpen Z F
open ZP FamFnExactLearnCrl ItemFnExactLearnCrl
open StoreFnExactLearnCrl (store_ok)
set_option linter.unusedVariables false
set_option linter.unusedSimpArgs false
theorem copy_loop {α β : Type} (xs : List α) (L : Nat → List α → Int → Option β) (res : Option β)
    (h1 : ∀ k i l (hi : i < xs.length), l.length = i → L (k + 1) l (i : Int) = L k (l ++ [xs[i]]) ((i + 1 : Nat) : Int)) (h2 : ∀ k, L (k + 1) xs (xs.length : Int) = res) :
    ∀ (m i k : Nat), xs.length - i = m → i ≤ xs.length → m < k → L k (xs.take i) (i : Int) = res := by
  intro m
  induction m with
  | zero =>
    intro i k hm hi hk
    obtain ⟨k, rfl⟩ : ∃ q, k = q + 1 := ⟨k - 1, by omega⟩
    obtain rfl : i = xs.length := by omega
    rw [List.take_length]
    exact h2 k
  | succ m ih =>
    intro i k hm hi hk
    obtain ⟨k, rfl⟩ : ∃ q, k = q + 1 := ⟨k - 1, by omega⟩
    have hil : i < xs.length := by omega
    rw [h1 k i _ hil (by rw [List.length_take]; omega), ← List.take_succ_eq_append_getElem hil]
    exact ih (i + 1) k (by omega) (by omega) (by omega)
theorem w1 (i : Nat) (hi : i ≤ 1048576) : wrap64 ((i : Int) + 1) = ((i + 1 : Nat) : Int) := by rw [w64 (by omega) (by omega)]; rfl
theorem cert_f (x : S91) (h : sm91 x) : spec_l09Copy.f x = some x := by
  have h1 := h.2.2.2.2.2.2.2.2.2.1.1
  have h2 := h.2.2.2.2.2.2.2.2.2.2.1.1
  have h3 := h.2.2.2.2.2.2.2.2.2.2.2.1.1
  unfold spec_l09Copy.f
  simp only [lets]
  rw [if_pos (by omega), if_pos (by omega), if_pos (by omega)]
  rfl
theorem cert_g (x : S91) (h : sm91 x) : impl_copyCert.f x = some x := cert_f x h
theorem crl_f (x : S81) (h : sm81 x) : spec_l10Copy.f x = some x := by
  have h1 := h.2.2.2.2.2.1.1
  unfold spec_l10Copy.f
  simp only [lets]
  rw [if_pos (by omega)]
  rfl
theorem crl_g (x : S81) (h : sm81 x) : impl_copyCrl.f x = some x := crl_f x h
theorem certs_f (l : List S91) (h : l.length ≤ 1048576 ∧ ∀ e ∈ l, sm91 e) (k : Nat) (hk : 1048577 ≤ k) : spec_l13Certs.f k l = some l := by
  have hl := h.1
  unfold spec_l13Certs.f
  refine copy_loop l (fun k r i => spec_l13Certs.l0 k r i l) (some l) (fun k i r hi hr => ?_) (fun k => ?_) l.length 0 k rfl (by omega) (by omega)
  · have hc : (r.length + 1 ≤ 764877654105) = True := eq_true (by omega)
    show spec_l13Certs.l0 (k + 1) r (i : Int) l = _
    rw [spec_l13Certs.l0, if_pos (by omega), if_pos (by omega), if_pos (by omega), rd91 l i hi, cert_f _ (h.2 _ (List.getElem_mem hi)), w1 i (by omega)]
    simp only [Option.bind_some, hc, if_true, lets]
  · show spec_l13Certs.l0 (k + 1) l _ l = _
    rw [spec_l13Certs.l0, if_neg (by omega)]
theorem certs_g (l : List S91) (h : l.length ≤ 1048576 ∧ ∀ e ∈ l, sm91 e) (k : Nat) (hk : 1048577 ≤ k) : impl_copyCerts.f k l = some l := by
  have hl := h.1
  unfold impl_copyCerts.f
  refine copy_loop l (fun k r i => impl_copyCerts.l0 k r i l) (some l) (fun k i r hi hr => ?_) (fun k => ?_) l.length 0 k rfl (by omega) (by omega)
  · have hc : (r.length + 1 ≤ 764877654105) = True := eq_true (by omega)
    show impl_copyCerts.l0 (k + 1) r (i : Int) l = _
    rw [impl_copyCerts.l0, if_pos (by omega), if_pos (by omega), if_pos (by omega), rd91 l i hi, cert_g _ (h.2 _ (List.getElem_mem hi)), w1 i (by omega)]
    simp only [Option.bind_some, hc, if_true, lets]
  · show impl_copyCerts.l0 (k + 1) l _ l = _
    rw [impl_copyCerts.l0, if_neg (by omega)]
theorem crls_g (l : List S81) (h : l.length ≤ 1048576 ∧ ∀ e ∈ l, sm81 e) (k : Nat) (hk : 1048577 ≤ k) : impl_copyCrls.f k l = some l := by
  have hl := h.1
  unfold impl_copyCrls.f
  refine copy_loop l (fun k r i => impl_copyCrls.l0 k r i l) (some l) (fun k i r hi hr => ?_) (fun k => ?_) l.length 0 k rfl (by omega) (by omega)
  · have hc : (r.length + 1 ≤ 1599289640401) = True := eq_true (by omega)
    show impl_copyCrls.l0 (k + 1) r (i : Int) l = _
    rw [impl_copyCrls.l0, if_pos (by omega), if_pos (by omega), if_pos (by omega), rd81 l i hi, crl_g _ (h.2 _ (List.getElem_mem hi)), w1 i (by omega)]
    simp only [Option.bind_some, hc, if_true, lets]
  · show impl_copyCrls.l0 (k + 1) l _ l = _
    rw [impl_copyCrls.l0, if_neg (by omega)]
theorem store_f (a : S33) (h : sm33 a) (k : Nat) (hk : 1048577 ≤ k) : spec_l13Copy.f k a = some a := by
  obtain ⟨hc, hr, hn, _⟩ := h
  have hl := hr.1
  have hl2 := hn.1
  unfold spec_l13Copy.f
  rw [certs_f _ hc k hk, Option.bind_some, if_pos (by omega)]
  simp only [lets, List.nil_append]
  refine copy_loop a.f1 (fun k r i => spec_l13Copy.l0 k r i a a.f0 a.f2) (some a) (fun k i r hi hr' => ?_) (fun k => ?_) a.f1.length 0 k rfl (by omega) (by omega)
  · have hc : (r.length + 1 ≤ 1599289640401) = True := eq_true (by omega)
    show spec_l13Copy.l0 (k + 1) r (i : Int) a a.f0 a.f2 = _
    rw [spec_l13Copy.l0, if_pos (by omega), if_pos (by omega), if_pos (by omega), rd81 _ i hi, crl_f _ (hr.2 _ (List.getElem_mem hi)), w1 i (by omega)]
    simp only [Option.bind_some, hc, if_true, lets]
  · show spec_l13Copy.l0 (k + 1) a.f1 _ a a.f0 a.f2 = _
    rw [spec_l13Copy.l0, if_neg (by omega)]
theorem store_g (a : S33) (h : sm33 a) (k : Nat) (hk : 1048577 ≤ k) : impl_copyStore.f k a = some a := by
  obtain ⟨hc, hr, hn, _⟩ := h
  have hl2 := hn.1
  unfold impl_copyStore.f
  rw [certs_g _ hc k hk, Option.bind_some, crls_g _ hr k hk, Option.bind_some, if_pos (by omega)]
  rfl
theorem store_big (a : S33) (h : 12 < a.f0.length ∨ 8 < a.f1.length) (k : Nat) : spec_StoreOk.f k a = some false ∧ impl_StoreOk.f k a = some false := by
  unfold spec_StoreOk.f impl_StoreOk.f
  by_cases c : 12 < a.f0.length
  · exact ⟨by rw [if_pos (by omega)], by rw [if_neg (by omega)]⟩
  · have d : 8 < a.f1.length := h.elim (fun q => absurd q c) id
    exact ⟨by rw [if_neg (by omega), if_pos (by omega)], by rw [if_pos (by omega), if_neg (by omega)]⟩
theorem store_fE (a : S33) (h : sm33 a) : Evt (fun k => spec_l13Copy.f k a) a := Evt.at_ 1048577 fun k hk => store_f a h k hk
theorem store_gE (a : S33) (h : sm33 a) : Evt (fun k => impl_copyStore.f k a) a := Evt.at_ 1048577 fun k hk => store_g a h k hk
theorem add_crl (a : S33) (x : S81) (ha : sm33 a) (hx : sm81 x) : ∃ r : S33 × Bool, Evt (fun k => spec_AddCrl.f k a x) r ∧ Evt (fun k => impl_AddCrl.f k a x) r ∧ sm33 r.1 := by
  have hl := ha.2.1.1
  have c0 : (a.f1.length + 1 ≤ 1599289640401) = True := eq_true (by omega)
  obtain ⟨v, v1, v2, v3⟩ : ∃ v : Bool, Evt (fun k => spec_StoreOk.f k (⟨a.f0, a.f1 ++ [x], a.f2⟩ : S33)) v ∧ Evt (fun k => impl_StoreOk.f k (⟨a.f0, a.f1 ++ [x], a.f2⟩ : S33)) v ∧ (v = true → sm33 (⟨a.f0, a.f1 ++ [x], a.f2⟩ : S33)) := by
    by_cases c : a.f1.length ≤ 100
    · have hs : sm33 (⟨a.f0, a.f1 ++ [x], a.f2⟩ : S33) := ⟨ha.1, ⟨by rw [List.length_append, List.length_singleton]; omega, fun e he => (List.mem_append.1 he).elim (ha.2.1.2 e) fun q => by rw [List.mem_singleton.1 q]; exact hx⟩, ha.2.2.1, trivial⟩
      obtain ⟨v, v1, v2⟩ := store_ok _ hs
      exact ⟨v, v1, v2, fun _ => hs⟩
    · have hb := store_big (⟨a.f0, a.f1 ++ [x], a.f2⟩ : S33) (.inr (by show 8 < (a.f1 ++ [x]).length; rw [List.length_append, List.length_singleton]; omega))
      exact ⟨false, .of fun k => (hb k).1, .of fun k => (hb k).2, fun q => by cases q⟩
  cases v with
  | true =>
    refine ⟨(⟨a.f0, a.f1 ++ [x], a.f2⟩, true), ?_, ?_, v3 rfl⟩
    · unfold spec_AddCrl.f
      refine Evt.bind (store_fE a ha) ?_
      simp only [crl_f x hx, Option.bind_some, c0, if_true, lets]
      exact Evt.bind v1 Evt.now
    · unfold impl_AddCrl.f
      refine Evt.bind (store_gE a ha) ?_
      simp only [crl_g x hx, Option.bind_some, c0, if_true, lets]
      exact Evt.bind v2 Evt.now
  | false =>
    refine ⟨(a, false), ?_, ?_, ha⟩
    · unfold spec_AddCrl.f
      refine Evt.bind (store_fE a ha) ?_
      simp only [crl_f x hx, Option.bind_some, c0, if_true, lets]
      refine Evt.bind v1 ?_
      simp only [Bool.false_eq_true, if_false]
      exact Evt.bind (store_fE a ha) Evt.now
    · unfold impl_AddCrl.f
      refine Evt.bind (store_gE a ha) ?_
      simp only [crl_g x hx, Option.bind_some, c0, if_true, lets]
      refine Evt.bind v2 ?_
      simp only [Bool.false_eq_true, if_false]
      exact Evt.bind (store_gE a ha) Evt.now
end Go.Proofs.YtacocpknielofaaGreatDoor.CopyFnExactLearnCrl

/- FnExactTick, as numbers and lists: both let the time pass alike. -/
import Derived.Test.YtoaoncnbimcdgaaFamFnExactTick
namespace Go.Proofs.Ytoaoncnbimcdgaa.PureFnExactTick
open Go.RowKit Go.Proofs.YtoaoncnbimcdgaaW.PrintWords Go.Proofs.YtoaoncnbimcdgaaW.PrintLast Go.Proofs.Ytoaoncnbimcdgaa.ZOpen Go.Proofs.Ytoaoncnbimcdgaa.Z Go.Proofs.Ytoaoncnbimcdgaa.F
open Go.Proofs.Ytoaoncnbimcdgaa.SaidFnExactTick Go.Proofs.Ytoaoncnbimcdgaa.ZP Go.Proofs.Ytoaoncnbimcdgaa.FamFnExactTick
set_option linter.unusedVariables false
set_option linter.unusedSimpArgs false

theorem ok_range {n : Int} (h : (okInt .i64) n) : -9223372036854775808 ≤ n ∧ n ≤ 9223372036854775807 := by
  have h' : (Lit.int .i64 n).wf = true := h
  simp [Lit.wf, IntKind.min, IntKind.max, IntKind.bits, IntKind.signed] at h'
  omega
theorem copy_loop {α β : Type} (K : Nat) (xs : List α) (L : Nat → List α → Int → Option β) (res : Option β)
    (h1 : ∀ k i l (hi : i < xs.length), K ≤ k → l.length = i → L (k + 1) l (i : Int) = L k (l ++ [xs[i]]) ((i + 1 : Nat) : Int)) (h2 : ∀ k, L (k + 1) xs (xs.length : Int) = res) :
    ∀ (m i k : Nat), xs.length - i = m → i ≤ xs.length → m + K < k → L k (xs.take i) (i : Int) = res := by
  intro m
  induction m with
  | zero =>
    intro i k hm hi hk
    obtain ⟨k, rfl⟩ : ∃ q, k = q + 1 := ⟨k - 1, by omega⟩
    obtain rfl : i = xs.length := by omega
    rw [List.take_length]
    exact h2 k
  | succ m ih =>
    intro i k hm hi hk
    obtain ⟨k, rfl⟩ : ∃ q, k = q + 1 := ⟨k - 1, by omega⟩
    have hil : i < xs.length := by omega
    rw [h1 k i _ hil (by omega) (by rw [List.length_take]; omega), ← List.take_succ_eq_append_getElem hil]
    exact ih (i + 1) k (by omega) (by omega) (by omega)
theorem w1 (i : Nat) (hi : i ≤ 1048576) : wrap64 ((i : Int) + 1) = ((i + 1 : Nat) : Int) := by rw [w64 (by omega) (by omega)]; rfl
theorem reply_f (r : S40) (h : sm40 r) (k : Nat) (hk : 1048577 ≤ k) : spec_l15Copy.f k r = some r := by
  have h6 := h.2.2.2.2.2.2.1
  have hl := h6.1
  unfold spec_l15Copy.f
  refine copy_loop 0 r.f6 (fun k l i => spec_l15Copy.l0 k l i r) (some r) (fun k i l hi _ hr => ?_) (fun k => ?_) r.f6.length 0 k rfl (by omega) (by omega)
  · have hs := h6.2 r.f6[i] (List.getElem_mem hi)
    have g1 : (0 + r.f6[i].f2.length ≤ 8796093022208) = True := eq_true (by have := hs.2.2.1.1; omega)
    have g2 : (0 + r.f6[i].f3.length ≤ 8796093022208) = True := eq_true (by have := hs.2.2.2.1.1; omega)
    have g3 : (l.length + 1 ≤ 2199023255552) = True := eq_true (by omega)
    show spec_l15Copy.l0 (k + 1) l (i : Int) r = _
    rw [spec_l15Copy.l0, if_pos (by omega), if_pos (by omega), if_pos (by omega), rd109 _ i hi, w1 i (by omega)]
    simp only [g1, g2, g3, if_true, lets, List.nil_append]
  · show spec_l15Copy.l0 (k + 1) r.f6 _ r = _
    rw [spec_l15Copy.l0, if_neg (by omega)]
theorem reply_same : ∀ (k : Nat) (l : List S109) (x : Int) (a : S40), impl_copyReply.l0 k l x a = spec_l15Copy.l0 k l x a
  | 0, _, _, _ => by rw [impl_copyReply.l0, spec_l15Copy.l0]
  | k + 1, l, x, a => by rw [impl_copyReply.l0, spec_l15Copy.l0]; simp only [reply_same k]
theorem reply_g (r : S40) (h : sm40 r) (k : Nat) (hk : 1048577 ≤ k) : impl_copyReply.f k r = some r := by
  unfold impl_copyReply.f
  rw [reply_same]
  exact reply_f r h k hk
theorem client_f (a : S31) (h : sm31 a) (k : Nat) (hk : 2097155 ≤ k) : spec_l18Copy.f k a = some a := by
  have h2 := h.2.2.1.1
  have h3 := h.2.2.2.1
  have h4 := h.2.2.2.2.1.1
  have hl := h3.1
  unfold spec_l18Copy.f
  rw [if_pos (by omega)]
  simp only [lets, List.nil_append]
  refine copy_loop 1048577 a.f3 (fun k l i => spec_l18Copy.l0 k l i a a.f2) (some a) (fun k i l hi hk hr => ?_) (fun k => ?_) a.f3.length 0 k rfl (by omega) (by omega)
  · have hs : sm40 a.f3[i].f1 := (h3.2 a.f3[i] (List.getElem_mem hi)).2.1
    have hc : (l.length + 1 ≤ 1353245080339) = True := eq_true (by omega)
    show spec_l18Copy.l0 (k + 1) l (i : Int) a a.f2 = _
    rw [spec_l18Copy.l0, if_pos (by omega), if_pos (by omega), if_pos (by omega), rd150 _ i hi, w1 i (by omega), show (⟨a.f3[i].f1.f0, a.f3[i].f1.f1, a.f3[i].f1.f2, a.f3[i].f1.f3, a.f3[i].f1.f4, a.f3[i].f1.f5, a.f3[i].f1.f6, a.f3[i].f1.f7⟩ : S40) = a.f3[i].f1 from rfl, reply_f _ hs k hk]
    simp only [Option.bind_some, hc, if_true, lets]
  · show spec_l18Copy.l0 (k + 1) a.f3 _ a a.f2 = _
    rw [spec_l18Copy.l0, if_neg (by omega), if_pos (by omega)]
    simp only [lets, List.nil_append]
theorem client_g (a : S31) (h : sm31 a) (k : Nat) (hk : 2097155 ≤ k) : impl_copyClient.f k a = some a := by
  have h2 := h.2.2.1.1
  have h3 := h.2.2.2.1
  have h4 := h.2.2.2.2.1.1
  have hl := h3.1
  unfold impl_copyClient.f
  rw [if_pos (by omega)]
  simp only [lets, List.nil_append]
  rw [if_pos (by omega)]
  refine copy_loop 1048577 a.f3 (fun k l i => impl_copyClient.l0 k l i a a.f2 a.f4) (some a) (fun k i l hi hk hr => ?_) (fun k => ?_) a.f3.length 0 k rfl (by omega) (by omega)
  · have hs : sm40 a.f3[i].f1 := (h3.2 a.f3[i] (List.getElem_mem hi)).2.1
    have hc : (l.length + 1 ≤ 1353245080339) = True := eq_true (by omega)
    show impl_copyClient.l0 (k + 1) l (i : Int) a a.f2 a.f4 = _
    rw [impl_copyClient.l0, if_pos (by omega), if_pos (by omega), if_pos (by omega), rd150 _ i hi, w1 i (by omega), show (⟨a.f3[i].f1.f0, a.f3[i].f1.f1, a.f3[i].f1.f2, a.f3[i].f1.f3, a.f3[i].f1.f4, a.f3[i].f1.f5, a.f3[i].f1.f6, a.f3[i].f1.f7⟩ : S40) = a.f3[i].f1 from rfl, reply_g _ hs k hk]
    simp only [Option.bind_some, hc, if_true, lets]
  · show impl_copyClient.l0 (k + 1) a.f3 _ a a.f2 a.f4 = _
    rw [impl_copyClient.l0, if_neg (by omega)]
theorem same (a : S31) (n : Int) : ∀ (k : Nat) (l : List Int) (w : List S89) (i : Int), impl_Tick.l0 k l w i a n a = spec_Tick.l0 k l w i a n a
  | 0, _, _, _ => by rw [impl_Tick.l0, spec_Tick.l0]
  | k + 1, l, w, i => by rw [impl_Tick.l0, spec_Tick.l0]; simp only [same a n k]
theorem ticks (a : S31) (n : Int) (ha : sm31 a) (hw : a.f2.length + a.f4.length ≤ 1048576) : ∀ (m i k : Nat) (l : List Int) (w : List S89), a.f2.length - i = m → i ≤ a.f2.length → m < k → l.length + w.length ≤ a.f4.length + i → (∀ e ∈ w, sm89 e) →
    ∃ r, spec_Tick.l0 k l w (i : Int) a n a = some (r, true) ∧ sm31 r := by
  intro m
  induction m with
  | zero =>
    intro i k l w hm hi hk h1 h2
    obtain ⟨k, rfl⟩ : ∃ q, k = q + 1 := ⟨k - 1, by omega⟩
    refine ⟨⟨a.f0, wrap64 (a.f1 + n), w, a.f3, l⟩, by rw [spec_Tick.l0, if_neg (by omega)], ha.1, trivial, ⟨?_, h2⟩, ha.2.2.2.1, ⟨?_, fun _ _ => trivial⟩, trivial⟩
    · show w.length ≤ _; omega
    · show l.length ≤ _; omega
  | succ m ih =>
    intro i k l w hm hi hk h1 h2
    obtain ⟨k, rfl⟩ : ∃ q, k = q + 1 := ⟨k - 1, by omega⟩
    have hil : i < a.f2.length := by omega
    have hc : (l.length + 1 ≤ 17592186044416) = True := eq_true (by omega)
    have hd : (w.length + 1 ≤ 3518437208883) = True := eq_true (by omega)
    rw [spec_Tick.l0, if_pos (by omega), if_pos (by omega), if_pos (by omega), rd89 _ i hil, w1 i (by omega)]
    by_cases c : a.f2[i].f3 < wrap64 (a.f1 + n)
    · simp only [c, hc, if_true, lets]
      exact ih (i + 1) k _ w (by omega) (by omega) (by omega) (by rw [List.length_append, List.length_singleton]; omega) h2
    · simp only [c, hd, if_true, if_false, lets]
      refine ih (i + 1) k l _ (by omega) (by omega) (by omega) (by rw [List.length_append, List.length_singleton]; omega) (fun e he => ?_)
      rcases List.mem_append.1 he with h | h
      · exact h2 e h
      · rw [List.mem_singleton.1 h]; exact ha.2.2.1.2 _ (List.getElem_mem hil)
theorem tick (a : S31) (n : Int) (ha : sm31 a) (hw : a.f2.length + a.f4.length ≤ 1048576) (hr : -9223372036854775808 ≤ a.f1 ∧ a.f1 ≤ 9223372036854775807) (hn : -9223372036854775808 ≤ n ∧ n ≤ 9223372036854775807) (k : Nat) (hk : 2097155 ≤ k) :
    ∃ r v, spec_Tick.f k a n = some (r, v) ∧ impl_Tick.f k a n = some (r, v) ∧ sm31 r := by
  have h2 := ha.2.2.1.1
  have ea : (⟨a.f0, a.f1, a.f2, a.f3, a.f4⟩ : S31) = a := rfl
  unfold spec_Tick.f impl_Tick.f
  simp only [client_f a ha k hk, client_g a ha k hk, Option.bind_some, ea]
  by_cases c1 : n < 0
  · rw [if_pos c1, if_pos c1]
    exact ⟨_, _, rfl, rfl, ha⟩
  · rw [if_neg c1, if_neg c1]
    have e1 : wrap64 (99999 - n) = 99999 - n := by unfold wrap64; omega
    rw [e1]
    by_cases c2 : 99999 - n < a.f1
    · rw [if_pos c2]
      refine ⟨_, _, rfl, ?_, ha⟩
      by_cases c3 : wrap64 (a.f1 + n) < a.f1
      · rw [if_pos c3]
      · rw [if_neg c3, if_pos (by unfold wrap64 at c3 ⊢; omega)]
    · rw [if_neg c2, if_neg (by unfold wrap64; omega), if_neg (by unfold wrap64; omega), same]
      obtain ⟨r, e, h⟩ := ticks a n ha hw a.f2.length 0 k a.f4 [] rfl (by omega) (by omega) (by simp) (fun e he => by cases he)
      exact ⟨r, true, e, e, h⟩
theorem pure : Pure := by
  intro s n hs hn
  obtain ⟨k, hk⟩ : ∃ k, k = 8388608 := ⟨_, rfl⟩
  refine ⟨k, ?_⟩
  unfold laws_FnExactTick.f
  obtain ⟨n1, e1, b1, g1⟩ := szw_7 s hs 1048576 (by omega) (by omega) k (by omega)
  rw [e1, Option.bind_some]
  by_cases c : n1 < 0
  · rw [if_pos c]
  rw [if_neg c]
  obtain ⟨h1, h2⟩ := g1 (by omega)
  have hc := smcv26 s h1
  have hw : (cv26 s).f2.length + (cv26 s).f4.length ≤ 1048576 := by
    show (s.f2.map cv154).length + s.f4.length ≤ _
    rw [List.length_map]
    unfold wt26 at h2
    omega
  obtain ⟨r, v, w1, w2, hr⟩ := tick (cv26 s) n hc hw (ok_range hs.2.1) (ok_range hn) k (by omega)
  obtain ⟨m1, r1, r2, r3, q1, q2, q3, _⟩ := mk_12 _ hc 1 (by omega) (by omega) k (by omega)
  obtain ⟨m2, s1, s2, s3, p1, p2, _, p3⟩ := mk_12 r hr 1 (by omega) (by omega) k (by omega)
  simp only [to_9 s h1 k (by omega), Option.bind_some, w1, w2, eq_11 r hr k (by omega), eq_11 _ hc k (by omega), q1, p1, p3 k (by omega), if_true, show ¬ m1 < 0 by omega, show ¬ m2 < 0 by omega, if_false]
end Go.Proofs.Ytoaoncnbimcdgaa.PureFnExactTick

/- The statement FnExactStaysOf, as numbers and lists: the program's StaysOf and the reference's agree. -/
import Derived.Test.YtdcjcanobiohnaaFamFnExactStaysOf
namespace Go.Proofs.Ytdcjcanobiohnaa.PureFnExactStaysOf
open Go.RowKit Go.Proofs.YtdcjcanobiohnaaW.PrintWords Go.Proofs.YtdcjcanobiohnaaW.PrintLast Go.Proofs.Ytdcjcanobiohnaa.ZOpen Go.Proofs.Ytdcjcanobiohnaa.Z Go.Proofs.Ytdcjcanobiohnaa.F
open Go.Proofs.Ytdcjcanobiohnaa.SaidFnExactStaysOf Go.Proofs.Ytdcjcanobiohnaa.ZP Go.Proofs.Ytdcjcanobiohnaa.FamFnExactStaysOf

theorem drop_mem (a : List Int) (i : Nat) (h : i < a.length) (v : Int) : (v ∈ a.drop i) ↔ (a[i] = v ∨ v ∈ a.drop (i + 1)) := by
  rw [List.drop_eq_getElem_cons h, List.mem_cons]
  exact ⟨fun h => h.imp Eq.symm id, fun h => h.imp Eq.symm id⟩
theorem in_l (a : List Int) (v : Int) (hn : a.length ≤ 1048576) : ∀ k (i : Nat), a.length - i < k → spec_l08In.l0 k (i : Int) a v = some (decide (v ∈ a.drop i))
  | 0, _, h => absurd h (Nat.not_lt_zero _)
  | k + 1, i, h => by
    rw [spec_l08In.l0]
    by_cases c : (i : Int) < (a.length : Int)
    · have hi : i < a.length := by omega
      have e1 : wrap64 ((i : Int) + 1) = ((i + 1 : Nat) : Int) := by rw [w64 (by omega) (by omega)]; rfl
      rw [if_pos c, if_pos (by omega), if_pos c, rdI a i hi, e1, in_l a v hn k (i + 1) (by omega)]
      have hm := drop_mem a i hi v
      by_cases c2 : a[i] = v
      · rw [if_pos c2, decide_eq_true (hm.2 (.inl c2))]
      · rw [if_neg c2]
        exact congrArg some (decide_eq_decide.2 ⟨fun h => hm.2 (.inr h), fun h => (hm.1 h).resolve_left c2⟩)
    · rw [if_neg c, List.drop_eq_nil_of_le (by omega)]
      rfl
theorem in_f (a : List Int) (v : Int) (hn : a.length ≤ 1048576) (k : Nat) (hk : 1048577 ≤ k) : spec_l08In.f k a v = some (decide (v ∈ a)) := by
  unfold spec_l08In.f
  exact in_l a v hn k 0 (by omega)
theorem index_l (a : List Int) (v : Int) (hn : a.length ≤ 1048576) : ∀ k (i : Nat), a.length - i < k → ∃ j, slices_Index_int_int.l0 k (i : Int) a v = some j ∧ decide (0 ≤ j) = decide (v ∈ a.drop i)
  | 0, _, h => absurd h (Nat.not_lt_zero _)
  | k + 1, i, h => by
    rw [slices_Index_int_int.l0]
    by_cases c : (i : Int) < (a.length : Int)
    · have hi : i < a.length := by omega
      have e1 : wrap64 ((i : Int) + 1) = ((i + 1 : Nat) : Int) := by rw [w64 (by omega) (by omega)]; rfl
      have hm := drop_mem a i hi v
      rw [if_pos c, if_pos (by omega), if_pos c, rdI a i hi, e1]
      by_cases c2 : v = a[i]
      · rw [if_pos c2]
        exact ⟨_, rfl, by rw [decide_eq_true (hm.2 (.inl c2.symm)), decide_eq_true (by omega)]⟩
      · rw [if_neg c2]
        obtain ⟨j, e, g⟩ := index_l a v hn k (i + 1) (by omega)
        exact ⟨j, e, g.trans (decide_eq_decide.2 ⟨fun h => hm.2 (.inr h), fun h => (hm.1 h).resolve_left (Ne.symm c2)⟩)⟩
    · rw [if_neg c, List.drop_eq_nil_of_le (by omega)]
      exact ⟨-1, rfl, rfl⟩
theorem contains (a : List Int) (v : Int) (hn : a.length ≤ 1048576) (k : Nat) (hk : 1048577 ≤ k) : slices_Contains_int_int.f k a v = some (decide (v ∈ a)) := by
  unfold slices_Contains_int_int.f slices_Index_int_int.f
  obtain ⟨j, e, g⟩ := index_l a v hn k 0 (by omega)
  have e : slices_Index_int_int.l0 k 0 a v = some j := e
  rw [e, Option.bind_some, g]
  rfl
/-- Is it kept? -/
def keep (now : List Int) (x : Int) : Bool := decide (x ∈ now)
theorem del (now : List Int) (x : Int) (hn : now.length ≤ 1048576) (k : Nat) (hk : 1048577 ≤ k) : impl_JoinPolicies_1_0.f k x now = some (!keep now x) := by
  unfold impl_JoinPolicies_1_0.f
  rw [contains now x hn k hk]
  rfl
theorem index_f (xs now : List Int) (hx : xs.length ≤ 1048576) (hn : now.length ≤ 1048576) : ∀ k (i : Nat), 1048577 + (xs.length - i) < k →
    (∃ j, i ≤ j ∧ ∃ hj : j < xs.length, keep now xs[j] = false ∧ (∀ m, i ≤ m → ∀ hm : m < j, keep now (xs[m]'(by omega)) = true) ∧ slices_IndexFunc_int_int_0.l0 k (i : Int) xs now = some (j : Int)) ∨
    ((∀ m, i ≤ m → ∀ hm : m < xs.length, keep now xs[m] = true) ∧ slices_IndexFunc_int_int_0.l0 k (i : Int) xs now = some (-1))
  | 0, _, h => absurd h (Nat.not_lt_zero _)
  | k + 1, i, h => by
    rw [slices_IndexFunc_int_int_0.l0]
    by_cases c : (i : Int) < (xs.length : Int)
    · have hi : i < xs.length := by omega
      have e1 : wrap64 ((i : Int) + 1) = ((i + 1 : Nat) : Int) := by rw [w64 (by omega) (by omega)]; rfl
      rw [if_pos c, if_pos (by omega), if_pos c, rdI xs i hi, e1, del now _ hn k (by omega), Option.bind_some]
      cases c2 : keep now xs[i] with
      | false =>
        rw [Bool.not_false, if_pos rfl]
        exact .inl ⟨i, Nat.le_refl _, hi, c2, fun m h1 h2 => by omega, rfl⟩
      | true =>
        rw [if_neg (by simp)]
        have up : ∀ m, i ≤ m → m = i ∨ i + 1 ≤ m := fun m h => by omega
        rcases index_f xs now hx hn k (i + 1) (by omega) with ⟨j, h1, h2, h3, h4, h5⟩ | ⟨h4, h5⟩
        · refine .inl ⟨j, by omega, h2, h3, fun m g1 g2 => ?_, h5⟩
          rcases up m g1 with rfl | g
          · exact c2
          · exact h4 m g g2
        · refine .inr ⟨fun m g1 g2 => ?_, h5⟩
          rcases up m g1 with rfl | g
          · exact c2
          · exact h4 m g g2
    · rw [if_neg c]
      exact .inr ⟨fun m h1 h2 => by omega, rfl⟩
theorem filter_all (xs : List Int) (p : Int → Bool) (n : Nat) (hn : n ≤ xs.length) (h : ∀ m, ∀ hm : m < n, p (xs[m]'(by omega)) = true) : (xs.take n).filter p = xs.take n := by
  rw [List.filter_eq_self]
  intro a ha
  obtain ⟨m, hm, rfl⟩ := List.getElem_of_mem ha
  rw [List.length_take] at hm
  rw [List.getElem_take]
  exact h m (by omega)
theorem take_filter (xs : List Int) (p : Int → Bool) (j : Nat) (hj : j < xs.length) : (xs.take (j + 1)).filter p = (xs.take j).filter p ++ (if p xs[j] = true then [xs[j]] else []) := by
  rw [List.take_add_one, List.getElem?_eq_getElem hj, List.filter_append]
  congr 1
  show List.filter p [xs[j]] = _
  rw [List.filter_cons]
  rfl
theorem delete_l (xs now : List Int) (hx : xs.length ≤ 1048576) (hn : now.length ≤ 1048576) : ∀ k (l : List Int) (i j : Nat), 1048577 + (xs.length - j) < k → l.length = xs.length → i < j → j ≤ xs.length → l.take i = (xs.take j).filter (keep now) → l.drop j = xs.drop j →
    slices_DeleteFunc_int_int_0.l0 k l (i : Int) (j : Int) xs now = some (xs.filter (keep now))
  | 0, _, _, _, h, _, _, _, _, _ => absurd h (Nat.not_lt_zero _)
  | k + 1, l, i, j, h, hl, hij, hj, ht, hd => by
    rw [slices_DeleteFunc_int_int_0.l0]
    by_cases c : (j : Int) < (xs.length : Int)
    · have hjx : j < xs.length := by omega
      have hjl : j < l.length := by omega
      have e1 : wrap64 ((j : Int) + 1) = ((j + 1 : Nat) : Int) := by rw [w64 (by omega) (by omega)]; rfl
      have e2 : wrap64 ((i : Int) + 1) = ((i + 1 : Nat) : Int) := by rw [w64 (by omega) (by omega)]; rfl
      have el : l[j] = xs[j] := by
        rw [List.drop_eq_getElem_cons hjl, List.drop_eq_getElem_cons hjx] at hd
        injection hd
      have hd1 : l.drop (j + 1) = xs.drop (j + 1) := by
        rw [List.drop_eq_getElem_cons hjl, List.drop_eq_getElem_cons hjx] at hd
        injection hd
      have hf := take_filter xs (keep now) j hjx
      rw [if_pos c, if_pos (by omega), if_pos c, rdI l j hjl, el, e1, e2, del now _ hn k (by omega), Option.bind_some]
      cases c2 : keep now xs[j] with
      | false =>
        rw [Bool.not_false, if_pos rfl]
        rw [c2, if_neg (by simp), List.append_nil] at hf
        exact delete_l xs now hx hn k l i (j + 1) (by omega) hl (by omega) hjx (by rw [ht, hf]) hd1
      | true =>
        rw [c2, if_pos rfl] at hf
        rw [if_neg (by simp), if_pos (by omega), if_pos (by omega), Int.toNat_natCast]
        refine delete_l xs now hx hn k (l.set i xs[j]) (i + 1) (j + 1) (by omega) (by rw [List.length_set, hl]) (by omega) hjx ?_ ?_
        · rw [hf, ← ht, List.take_add_one, List.getElem?_set_self (by omega), List.take_set_of_le (Nat.le_refl i)]
          rfl
        · rw [List.drop_set_of_lt (by omega), hd1]
    · obtain rfl : j = xs.length := by omega
      rw [if_neg c, if_pos (by omega), if_pos (by omega), if_pos (by omega), if_pos (by rw [List.length_append, List.length_take, List.length_replicate, Int.toNat_natCast]; omega), Int.toNat_natCast]
      have h7 : (l.take i).length = i := by rw [List.length_take]; omega
      rw [List.take_left' h7, ht, List.take_length]
theorem delete (xs now : List Int) (hx : xs.length ≤ 1048576) (hn : now.length ≤ 1048576) (k : Nat) (hk : 2097156 ≤ k) : slices_DeleteFunc_int_int_0.f k xs now = some (xs.filter (keep now)) := by
  unfold slices_DeleteFunc_int_int_0.f slices_IndexFunc_int_int_0.f
  rcases index_f xs now hx hn k 0 (by omega) with ⟨j, _, h2, h3, h4, h5⟩ | ⟨h4, h5⟩
  · have h5 : slices_IndexFunc_int_int_0.l0 k 0 xs now = some (j : Int) := h5
    have e1 : wrap64 ((j : Int) + 1) = ((j + 1 : Nat) : Int) := by rw [w64 (by omega) (by omega)]; rfl
    rw [h5, Option.bind_some, if_neg (by omega), e1]
    refine delete_l xs now hx hn k xs j (j + 1) (by omega) rfl (by omega) h2 ?_ rfl
    rw [take_filter xs _ j h2, h3, if_neg (by simp), List.append_nil, filter_all xs _ j (by omega) (fun m hm => h4 m (Nat.zero_le _) hm)]
  · have h5 : slices_IndexFunc_int_int_0.l0 k 0 xs now = some (-1) := h5
    rw [h5, Option.bind_some, if_pos rfl]
    have := filter_all xs (keep now) xs.length (Nat.le_refl _) (fun m hm => h4 m (Nat.zero_le _) hm)
    rw [List.take_length] at this
    rw [this]
theorem spec_l (now cert : List Int) (any : Bool) (hc : cert.length ≤ 1048576) (hn : now.length ≤ 1048576) : ∀ k (acc : List Int) (i : Nat), 1048577 + (cert.length - i) < k → acc.length + (cert.length - i) ≤ 4194304 →
    spec_JoinPolicies.l0 k acc (i : Int) now any cert = some (acc ++ (cert.drop i).filter (fun x => any || keep now x), false)
  | 0, _, _, h, _ => absurd h (Nat.not_lt_zero _)
  | k + 1, acc, i, h, ha => by
    rw [spec_JoinPolicies.l0]
    by_cases c : (i : Int) < (cert.length : Int)
    · have hi : i < cert.length := by omega
      have e1 : wrap64 ((i : Int) + 1) = ((i + 1 : Nat) : Int) := by rw [w64 (by omega) (by omega)]; rfl
      have ih := fun acc h => spec_l now cert any hc hn k acc (i + 1) (by omega) h
      rw [if_pos c, rdI cert i hi, e1, List.drop_eq_getElem_cons hi]
      have i0 : (0 : Int) ≤ (i : Int) := by omega
      have il : acc.length + 1 ≤ 17592186044416 := by omega
      have hf : ∀ b : Bool, (any || keep now cert[i]) = b → (List.filter (fun x => any || keep now x) (cert[i] :: cert.drop (i + 1))) = (if b = true then [cert[i]] else []) ++ (cert.drop (i + 1)).filter (fun x => any || keep now x) := by
        intro b hb
        rw [List.filter_cons, hb]
        cases b <;> rfl
      cases any with
      | true =>
        rw [hf true rfl]
        simp only [if_true, i0, c, il, lets]
        rw [ih _ (by rw [List.length_append, List.length_singleton]; omega), List.append_assoc]
      | false =>
        have e2 := in_f now cert[i] hn k (by omega)
        cases c2 : keep now cert[i] with
        | true =>
          have c3 : decide (cert[i] ∈ now) = true := c2
          rw [hf true (by rw [c2]; rfl)]
          simp only [if_true, if_false, i0, c, il, lets, e2, Option.bind_some, c3, Bool.false_eq_true]
          rw [ih _ (by rw [List.length_append, List.length_singleton]; omega), List.append_assoc]
        | false =>
          have c3 : decide (cert[i] ∈ now) = false := c2
          rw [hf false (by rw [c2]; rfl)]
          simp only [if_true, if_false, i0, c, e2, Option.bind_some, c3, Bool.false_eq_true]
          rw [ih _ (by omega)]
          rfl
    · rw [if_neg c, List.drop_eq_nil_of_le (by omega)]
      simp
theorem join (now cert : List Int) (any : Bool) (hc : cert.length ≤ 1048576) (hn : now.length ≤ 1048576) (k : Nat) (hk : 2097156 ≤ k) : ∃ r v, spec_JoinPolicies.f k now any cert = some (r, v) ∧ impl_JoinPolicies.f k now any cert = some (r, v) ∧ r.length ≤ 1048576 := by
  have e1 := in_f cert 0 hc k (by omega)
  have e2 := contains cert 0 hc k (by omega)
  have l1 : 0 + now.length ≤ 17592186044416 := by omega
  have l2 : 0 + cert.length ≤ 17592186044416 := by omega
  unfold spec_JoinPolicies.f impl_JoinPolicies.f
  simp only [e1, e2, l1, l2, Option.bind_some, if_true, lets, List.nil_append]
  by_cases c : (0 : Int) ∈ cert
  · simp only [c, decide_true, if_true]
    exact ⟨_, _, rfl, rfl, hn⟩
  · have e3 := spec_l now cert any hc hn k [] 0 (by omega) (by simp; omega)
    have e3 : spec_JoinPolicies.l0 k ([] : List Int) 0 now any cert = some (cert.filter (fun x => any || keep now x), false) := by simpa using e3
    have hl : (cert.filter (fun x => any || keep now x)).length ≤ 1048576 := Nat.le_trans (List.length_filter_le _ _) hc
    simp only [c, decide_false, Bool.false_eq_true, if_false, e3]
    refine ⟨_, _, rfl, ?_, hl⟩
    cases any with
    | true =>
      have : cert.filter (fun x => true || keep now x) = cert := by rw [List.filter_eq_self]; intro a _; rfl
      rw [this, if_pos rfl]
    | false =>
      rw [if_neg (by simp), delete cert now hc hn k hk, Option.bind_some]
      rfl
theorem stays_l (x : List S94) (hx : x.length ≤ 1048576 ∧ ∀ e ∈ x, sm94 e) : ∀ (k : Nat) (now : List Int) (any : Bool) (i : Nat), now.length ≤ 1048576 → 2097156 + (x.length - i) < k →
    ∃ r v, spec_StaysOf.l0 k now any (i : Int) x = some (r, v) ∧ impl_StaysOf.l0 k now any (i : Int) x = some (r, v) ∧ r.length ≤ 1048576
  | 0, _, _, _, _, h => absurd h (Nat.not_lt_zero _)
  | k + 1, now, any, i, hn, h => by
    rw [spec_StaysOf.l0, impl_StaysOf.l0]
    by_cases c : (i : Int) < (x.length : Int)
    · have hi : i < x.length := by omega
      have hxl := hx.1
      have e1 : wrap64 ((i : Int) + 1) = ((i + 1 : Nat) : Int) := by rw [w64 (by omega) (by omega)]; rfl
      have hs := (hx.2 x[i] (List.getElem_mem hi)).2.2.2.2.2.2.2.2.2.1.1
      obtain ⟨r, v, q1, q2, q3⟩ := join now (x[i].f9) any hs hn k (by omega)
      have i0 : (0 : Int) ≤ (i : Int) := by omega
      simp only [c, i0, if_true, rd94 x i hi, q1, q2, Option.bind_some, e1]
      exact stays_l x hx k r v (i + 1) q3 (by omega)
    · rw [if_neg c, if_neg c]
      exact ⟨_, _, rfl, rfl, hn⟩

theorem pure : Pure := by
  intro a ha
  obtain ⟨k, hk⟩ : ∃ k, k = 4194304 := ⟨_, rfl⟩
  refine ⟨k, ?_⟩
  unfold laws_FnExactStaysOf.f
  obtain ⟨n, e1, n1, n2⟩ := sz_10 a ha 1048576 (by omega) (by omega) k (by omega)
  rw [e1, Option.bind_some]
  by_cases c : n < 0
  · rw [if_pos c]
  rw [if_neg c]
  have hs := n2 (by omega)
  have hc : (a.map cv92).length ≤ 1048576 ∧ ∀ e ∈ a.map cv92, sm94 e := ⟨by rw [List.length_map]; exact hs.1, fun e he => by
    obtain ⟨y, hy, rfl⟩ := List.mem_map.1 he
    exact smcv92 y (hs.2 y hy)⟩
  obtain ⟨r, v, w1, w2, hr⟩ := stays_l _ hc k [] true 0 (Nat.zero_le _) (by have := hc.1; omega)
  have w1 : spec_StaysOf.f k (a.map cv92) = some (r, v) := w1
  have w2 : impl_StaysOf.f k (a.map cv92) = some (r, v) := w2
  have hr2 : r.length ≤ 1048576 ∧ ∀ e ∈ r, True := ⟨hr, fun _ _ => trivial⟩
  obtain ⟨m1, r1, q1, q2, _, _⟩ := mk_16 _ hc 1 (by omega) (by omega) k (by omega)
  obtain ⟨m2, r2, p1, p2, _, p3⟩ := mk_17 r hr2 1 (by omega) (by omega) k (by omega)
  simp only [to_12 a hs k (by omega), Option.bind_some, w1, w2, eq_14 r hr2 k (by omega), eq_15 _ hc k (by omega), q1, p1, p3 k (by omega), if_true, show ¬ m1 < 0 by omega, show ¬ m2 < 0 by omega, if_false]
end Go.Proofs.Ytdcjcanobiohnaa.PureFnExactStaysOf

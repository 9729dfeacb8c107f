/- A question that is written is read again; what is read is what is written. Plain lemmas, no condition. -/
import Derived.Test.YtfcpjeeeddjakaaGreatAskFnAsks
namespace Go.Proofs.YtfcpjeeeddjakaaGreat.RoundFnAsks
open Go.RowKit YtfcpjeeeddjakaaGreatW.PrintWords YtfcpjeeeddjakaaGreatW.PrintLast ZOpen Z F
open ZP ItemFnAsks ReadFnAsks IntFnAsks AskFnAsks
set_option linter.unusedVariables false
set_option linter.unusedSimpArgs false
set_option maxHeartbeats 1000000
theorem Evt.uniq {α : Type} {f : Nat → Option α} {a b : α} (h : Evt f a) (h' : Evt f b) : a = b := by
  obtain ⟨K, hK⟩ := Evt.both h h'
  obtain ⟨h1, h2⟩ := hK K (Nat.le_refl _)
  exact Option.some.inj (h1.symm.trans h2)
theorem text_right {x : S66} (hS : Small x) (hok : Ok x 0) (hl : (tl x).length ≤ 4000) : Evt (fun k => spec_ItemText.f k x) (strOfNums (tl x), true) := by
  have hn : (4000 < ((strOfNums (tl x)).size : Int)) = False := eq_false (by rw [strOfNums_size]; omega)
  have h1 : Evt (fun k => spec_ItemOk.f k x) true := Evt.bind hok (g := fun k t3 => some t3) Evt.now
  have h2 := text_v (sz x) x rfl hS
  refine Evt.bind h1 ?_
  simp only [if_true]
  refine Evt.bind h2 ?_
  simp only [hn, if_false]
  exact Evt.now
theorem read_right {x : S66} (hS : Small x) (hok : Ok x 0) (hl : (tl x).length ≤ 4000) : Evt (fun k => spec_ReadItem.f k (strOfNums (tl x))) (x, true) := by
  have hn : (4000 < ((strOfNums (tl x)).size : Int)) = False := eq_false (by rw [strOfNums_size]; omega)
  have h1 := read_f (sz x) x rfl hS 0 [] [] (by decide) (by decide) hok (fun y hy => by cases hy) (fun y hy => by cases hy) (by simp only [List.length_nil]; omega)
  simp only [List.nil_append, List.append_nil, List.length_nil] at h1
  have h2 := text_right hS hok hl
  have hz : (((0 + (tl x).length : Nat) : Int) = ((strOfNums (tl x)).size : Int)) = True := eq_true (by rw [strOfNums_size]; omega)
  refine Evt.eq (g := fun k => (spec_l07Read.f k (strOfNums (tl x)) 0 0).bind fun t6 => ((spec_ItemText.f k t6.1).bind fun t13 => (if t6.2.2 = true then (if t6.2.1 = ((strOfNums (tl x)).size : Int) then (if t13.2 = true then (if t13.1.toList = (strOfNums (tl x)).toList then (some ((⟨t6.1.f0, t6.1.f1, t6.1.f2⟩ : S66), true)) else (some ((⟨0, (⟨#[]⟩ : ByteArray), ([] : List S66)⟩ : S66), false))) else (some ((⟨0, (⟨#[]⟩ : ByteArray), ([] : List S66)⟩ : S66), false))) else (some ((⟨0, (⟨#[]⟩ : ByteArray), ([] : List S66)⟩ : S66), false))) else (some ((⟨0, (⟨#[]⟩ : ByteArray), ([] : List S66)⟩ : S66), false))))) ?_ fun k => ?_
  · refine Evt.bind h1 ?_
    refine Evt.bind h2 (.of fun k => ?_)
    simp only [if_true, hz]
    cases x
    rfl
  · rw [spec_ReadItem.f]
    simp only [hn, if_false]
theorem ask_ranges {a : S26} (hn : a.f0.length ≤ 1048576) : ∀ (k : Nat) (i : Nat), i ≤ a.f0.length → spec_AskOk.l0 k (i : Int) a = some true → (0 ≤ a.f1 ∧ a.f1 ≤ 99) ∧ (0 ≤ a.f2 ∧ a.f2 ≤ 3) ∧ (0 ≤ a.f3 ∧ a.f3 ≤ 1000000000) ∧ (0 ≤ a.f4 ∧ a.f4 ≤ 9999)
  | 0, i, hi, h => by simp [spec_AskOk.l0] at h
  | k + 1, i, hi, h => by
    by_cases c : i < a.f0.length
    · rw [spec_AskOk.l0, if_pos (by omega), if_pos (by omega), if_pos (by omega)] at h
      split at h
      · cases h
      · rw [show wrap64 ((i : Int) + 1) = ((i + 1 : Nat) : Int) from by rw [w64 (by omega) (by omega)]; omega] at h
        exact ask_ranges hn k (i + 1) (by omega) h
    · rw [spec_AskOk.l0, if_neg (by omega)] at h
      unfold spec_l09Num.f at h
      simp only [in_f, Option.bind_some] at h
      split at h
      · split at h
        · rename_i h1
          split at h
          · rename_i h2
            split at h
            · rename_i h3
              have h4 := Option.some.inj h
              exact ⟨of_decide_eq_true h1, of_decide_eq_true h2, of_decide_eq_true h3, of_decide_eq_true h4⟩
            · cases h
          · cases h
        · cases h
      · cases h
theorem ok_of_text {a : S26} (h : SmA a) {q : ByteArray × Bool} (hq : Evt (fun k => spec_AskText.f k a) q) (h2 : q.2 = true) : (0 ≤ a.f1 ∧ a.f1 ≤ 99) ∧ (0 ≤ a.f2 ∧ a.f2 ≤ 3) ∧ (0 ≤ a.f3 ∧ a.f3 ≤ 1000000000) ∧ (0 ≤ a.f4 ∧ a.f4 ≤ 9999) := by
  obtain ⟨v, v1, _⟩ := agrees a h.1.1
  cases v with
  | false =>
    have h3 : Evt (fun k => spec_AskText.f k a) ((⟨#[]⟩ : ByteArray), false) := by
      unfold spec_AskText.f
      exact Evt.bind v1 (.of fun k => rfl)
    rw [Evt.uniq hq h3] at h2
    cases h2
  | true =>
    obtain ⟨K, hK⟩ := v1
    exact ask_ranges h.1.1 K 0 (Nat.zero_le _) (hK K (Nat.le_refl _))
theorem nOf_id {n : Int} (h0 : 0 ≤ n) (h1 : n ≤ 1000000000) : nOf n = n := by unfold nOf; rw [if_pos ⟨h0, h1⟩]
theorem in_right {n : Int} (h0 : 0 ≤ n) (h1 : n ≤ 1000000000) : Evt (fun k => spec_IntIn.f k (intI n)) (n, true) := by
  obtain ⟨r, r1, _, r2⟩ := int_in (intI n) (by have := sz_intI n h0 h1; show sz _ ≤ _; omega)
  rcases r2 with ⟨m, m0, m1, e, rfl⟩ | ⟨hno, _⟩
  · rw [intI_inj h0 m0 e]
    rwa [intI_inj h0 m0 e] at r1
  · exact absurd rfl (hno n h0 h1)
theorem map_item4 (l : List ByteArray) : (l.map item4).map S66.f1 = l := by
  rw [List.map_map]
  exact List.map_id' l
theorem round {a : S26} (h : SmA a) {q : ByteArray × Bool} (hq : Evt (fun k => spec_AskText.f k a) q) (h2 : q.2 = true) : Evt (fun k => spec_ReadAsk.f k q.1) (a, true) := by
  obtain ⟨q', e1, _, e2⟩ := ask_text a h.1
  obtain rfl := Evt.uniq hq e1
  obtain ⟨hS, hok, ht, hl⟩ := e2 h2
  obtain ⟨⟨r1, r1'⟩, ⟨r2, r2'⟩, ⟨r3, r3'⟩, ⟨r4, r4'⟩⟩ := ok_of_text h hq h2
  have n1 := nOf_id r1 (by omega)
  have n2 := nOf_id r2 (by omega)
  have n3 := nOf_id r3 r3'
  have n4 := nOf_id r4 (by omega)
  have hk : (itemA a).f2 = [⟨48, (⟨#[]⟩ : ByteArray), a.f0.map item4⟩, intI a.f1, intI a.f2, intI a.f3, intI a.f4, itemB a.f5] := by
    unfold itemA kidsA
    rw [n1, n2, n3, n4]
  have hlen : ((itemA a).f2.length : Int) = 6 := by rw [hk]; rfl
  have q0 : rd_T66 (itemA a).f2 0 = ⟨48, (⟨#[]⟩ : ByteArray), a.f0.map item4⟩ := by rw [hk]; rfl
  have q1 : rd_T66 (itemA a).f2 1 = intI a.f1 := by rw [hk]; rfl
  have q2 : rd_T66 (itemA a).f2 2 = intI a.f2 := by rw [hk]; rfl
  have q3 : rd_T66 (itemA a).f2 3 = intI a.f3 := by rw [hk]; rfl
  have q4 : rd_T66 (itemA a).f2 4 = intI a.f4 := by rw [hk]; rfl
  have q5 : rd_T66 (itemA a).f2 5 = itemB a.f5 := by rw [hk]; rfl
  have c : (itemA a).f0 = 48 ∧ ((itemA a).f2.length : Int) = 6 := ⟨rfl, hlen⟩
  have hb : ((itemB a.f5).f1.toList == ([255] : List UInt8)) = a.f5 := by cases a.f5 <;> (unfold itemB; simp only [if_true, if_false, Bool.false_eq_true]; rw [ByteArray.toList_eq]; rfl)
  have c0 : ((0 : Int) < ((itemA a).f2.length : Int)) = True := eq_true (by omega)
  have c1 : ((1 : Int) < ((itemA a).f2.length : Int)) = True := eq_true (by omega)
  have c2 : ((2 : Int) < ((itemA a).f2.length : Int)) = True := eq_true (by omega)
  have c3 : ((3 : Int) < ((itemA a).f2.length : Int)) = True := eq_true (by omega)
  have c4 : ((4 : Int) < ((itemA a).f2.length : Int)) = True := eq_true (by omega)
  have c5 : ((5 : Int) < ((itemA a).f2.length : Int)) = True := eq_true (by omega)
  have s0 := texts_in (⟨48, (⟨#[]⟩ : ByteArray), a.f0.map item4⟩ : S66) (by show (a.f0.map item4).length ≤ _; rw [List.length_map]; exact h.1.1)
  simp only [map_item4] at s0
  rw [ht]
  unfold spec_ReadAsk.f
  refine Evt.bind (read_right hS hok hl) ?_
  simp only [kids_6, decide_eq_true c, Option.bind_some, if_true, c0, c1, c2, c3, c4, c5, q0, q1, q2, q3, q4, q5, hb]
  refine Evt.bind s0 (Evt.bind (in_right r1 (by omega)) (Evt.bind (in_right r2 (by omega)) (Evt.bind (in_right r3 r3') (Evt.bind (in_right r4 (by omega)) (Evt.bind hq (Evt.of fun k => ?_))))))
  simp only [h2, if_true, ht]
theorem back {t : ByteArray} {a : S26} (h : Evt (fun k => spec_ReadAsk.f k t) (a, true)) : Evt (fun k => spec_AskText.f k a) (t, true) := by
  obtain ⟨K, hK⟩ := h
  refine ⟨K, fun k hk => ?_⟩
  have h := hK k hk
  unfold spec_ReadAsk.f at h
  obtain ⟨t3, _, h⟩ := Option.bind_eq_some_iff.1 h
  obtain ⟨t12, _, h⟩ := Option.bind_eq_some_iff.1 h
  split at h
  · split at h
    · split at h
      · obtain ⟨x0, _, h⟩ := Option.bind_eq_some_iff.1 h
        split at h
        · split at h
          · obtain ⟨x1, _, h⟩ := Option.bind_eq_some_iff.1 h
            split at h
            · obtain ⟨x2, _, h⟩ := Option.bind_eq_some_iff.1 h
              split at h
              · obtain ⟨x3, _, h⟩ := Option.bind_eq_some_iff.1 h
                split at h
                · obtain ⟨x4, _, h⟩ := Option.bind_eq_some_iff.1 h
                  obtain ⟨q, hq, h⟩ := Option.bind_eq_some_iff.1 h
                  split at h
                  · split at h
                    · rename_i e1 e2
                      obtain ⟨rfl, _⟩ := Prod.mk.inj (Option.some.inj h)
                      show spec_AskText.f k _ = _
                      rw [hq]
                      obtain ⟨q1, q2⟩ := q
                      simp only at e1 e2
                      rw [e1, toList_inj.1 e2]
                    · cases h
                  · cases h
                · cases h
              · cases h
            · cases h
          · cases h
        · cases h
      · cases h
    · cases h
  · cases h
theorem text_small_k {k : Nat} {x : S66} {r : ByteArray × Bool} (h : spec_ItemText.f k x = some r) : r.1.size ≤ 4000 := by
  simp only [spec_ItemText.f] at h
  cases e : spec_ItemOk.f k x with
  | none => rw [e] at h; cases h
  | some b =>
    rw [e, Option.bind_some] at h
    cases b with
    | false => obtain rfl := Option.some.inj h; exact Nat.zero_le _
    | true =>
      rw [if_pos rfl] at h
      cases e2 : spec_l07Text.f k x with
      | none => rw [e2] at h; cases h
      | some t =>
        rw [e2, Option.bind_some] at h
        by_cases c : 4000 < (t.size : Int)
        · rw [if_pos c] at h; obtain rfl := Option.some.inj h; exact Nat.zero_le _
        · rw [if_neg c] at h; obtain rfl := Option.some.inj h; show t.size ≤ 4000; omega
theorem ask_small {a : S26} {q : ByteArray × Bool} (hq : Evt (fun k => spec_AskText.f k a) q) : q.1.size ≤ 4000 := by
  obtain ⟨k, hK⟩ := hq
  have h := hK k (Nat.le_refl _)
  unfold spec_AskText.f at h
  obtain ⟨v, _, h⟩ := Option.bind_eq_some_iff.1 h
  split at h
  · obtain ⟨_, _, h⟩ := Option.bind_eq_some_iff.1 h
    obtain ⟨_, _, h⟩ := Option.bind_eq_some_iff.1 h
    obtain ⟨_, _, h⟩ := Option.bind_eq_some_iff.1 h
    obtain ⟨_, _, h⟩ := Option.bind_eq_some_iff.1 h
    obtain ⟨_, _, h⟩ := Option.bind_eq_some_iff.1 h
    obtain ⟨_, _, h⟩ := Option.bind_eq_some_iff.1 h
    obtain ⟨t, ht, h⟩ := Option.bind_eq_some_iff.1 h
    obtain rfl := Option.some.inj h
    exact text_small_k ht
  · obtain rfl := Option.some.inj h
    exact Nat.zero_le _
end Go.Proofs.YtfcpjeeeddjakaaGreat.RoundFnAsks

/- What is drawn out of a list's items, with flags told exactly: an opener's methods against the reference's ways. Plain lemmas, no condition. -/
import Derived.Test.YtoaoncnbimcdgaaDoorIntFnExactReadCert
namespace Go.Proofs.YtoaoncnbimcdgaaDoor.OpenFnExactReadCert
open Go.RowKit Go.Proofs.YtoaoncnbimcdgaaDoorW.PrintWords Go.Proofs.YtoaoncnbimcdgaaDoorW.PrintLast Go.Proofs.YtoaoncnbimcdgaaDoor.ZOpen Go.Proofs.YtoaoncnbimcdgaaDoor.Z Go.Proofs.YtoaoncnbimcdgaaDoor.F
open Go.Proofs.YtoaoncnbimcdgaaDoor.ZP Go.Proofs.YtoaoncnbimcdgaaDoor.ItemFnExactReadCert Go.Proofs.YtoaoncnbimcdgaaDoor.ReadFnExactReadCert Go.Proofs.YtoaoncnbimcdgaaDoor.IntFnExactReadCert
set_option linter.unusedVariables false
set_option linter.unusedSimpArgs false
set_option maxHeartbeats 8000000

/-- A list of so many. -/
def shp (x : S65) (n : Nat) : Bool := decide (x.f0 = 48 ∧ x.f2.length = n)
/-- Its items, or as many empty ones. -/
def lst (x : S65) (n : Nat) : List S65 := if shp x n = true then x.f2 else List.replicate n z65
theorem shp_mk (s : ByteArray) (l : List S65) {n : Nat} (h : l.length = n) : shp ⟨48, s, l⟩ n = true := decide_eq_true ⟨rfl, h⟩
theorem lst_mk (s : ByteArray) (l : List S65) {n : Nat} (h : l.length = n) : lst ⟨48, s, l⟩ n = l := by unfold lst; rw [if_pos (shp_mk s l h)]
theorem lst_pos {x : S65} {n : Nat} (h : shp x n = true) : lst x n = x.f2 := by unfold lst; rw [if_pos h]
theorem lst_len (x : S65) (n : Nat) : (lst x n).length = n := by
  unfold lst
  split
  · rename_i h; exact (of_decide_eq_true h).2
  · exact List.length_replicate
theorem lst_cond (x : S65) (n : Nat) : cond (shp x n) x.f2 (List.replicate (if shp x n = true then 0 else n) z65) = lst x n := by
  unfold lst
  cases shp x n <;> rfl
theorem list_g (b : Bool) (x : S65) (n : Nat) (m : Int) (hm : m = (n : Int)) (hn : n ≤ 100) : impl_opener_list_0.f (⟨b⟩ : S86) x m = some ((shp x n, if shp x n = true then 0 else n), (⟨b || !shp x n⟩ : S86)) := by
  subst hm
  have e : ((n : Int)).toNat = n := Int.toNat_natCast n
  unfold impl_opener_list_0.f
  by_cases c : x.f0 = 48
  · by_cases d : x.f2.length = n
    · have h : shp x n = true := decide_eq_true ⟨c, d⟩
      rw [if_pos c, if_pos (by omega), if_pos (by omega), h, if_pos rfl, Bool.not_true, Bool.or_false]
    · have h : shp x n = false := decide_eq_false fun h => d h.2
      rw [if_pos c, if_pos (by omega), if_neg (by omega), if_neg (by omega), if_pos (by omega), e, if_pos (by omega), h, if_neg (by simp), Bool.not_false, Bool.or_true]
  · have h : shp x n = false := decide_eq_false fun h => c h.1
    rw [if_neg c, if_neg (by omega), if_pos (by omega), e, if_pos (by omega), h, if_neg (by simp), Bool.not_false, Bool.or_true]
theorem list_m (b : Bool) (x : S65) : impl_opener_list_0.f (⟨b⟩ : S86) x (-1) = some ((decide (x.f0 = 48), 0), (⟨b || !decide (x.f0 = 48)⟩ : S86)) := by
  unfold impl_opener_list_0.f
  by_cases c : x.f0 = 48
  · rw [if_pos c, if_neg (by omega), decide_eq_true c, Bool.not_true, Bool.or_false]
  · rw [if_neg c, if_pos (by omega), decide_eq_false c, Bool.not_false, Bool.or_true]
theorem kids_f (x : S65) (n : Nat) (m : Int) (hm : m = (n : Int)) : spec_l09Kids.f x m = some ((), shp x n) := by
  subst hm
  unfold spec_l09Kids.f
  by_cases c : x.f0 = 48
  · rw [if_pos c]
    by_cases d : x.f2.length = n
    · rw [show shp x n = true from decide_eq_true ⟨c, d⟩, d]; simp
    · rw [show shp x n = false from decide_eq_false fun h => d h.2, beq_false_of_ne (fun h => d (by omega))]
  · rw [if_neg c, show shp x n = false from decide_eq_false fun h => c h.1]

/-- An item out of a right text, or the empty one. -/
def Gd (y : S65) : Prop := (∃ d, 0 ≤ d ∧ Ok y d ∧ sz y ≤ 1048576) ∨ y = z65
theorem good_zer : Gd z65 := .inr rfl
theorem good_sz {y : S65} (h : Gd y) : sz y ≤ 1048576 := by
  rcases h with ⟨d, _, _, h⟩ | rfl
  · exact h
  · have : sz zer = 16 := sz_zer
    show sz zer ≤ _
    omega
theorem good_small {y : S65} (h : Gd y) : Small y := by have := good_sz h; show sz y ≤ _; omega
theorem good_len {y : S65} (h : Gd y) : y.f2.length ≤ 1048576 := by have := good_sz h; have := sz_len y; omega
theorem good_plain {y : S65} (h : Gd y) (c : y.f0 ≠ 48) : y.f2 = [] := by
  rcases h with ⟨d, _, h, _⟩ | rfl
  · exact (ok_plain h c).1
  · rfl
theorem good_kid {y z : S65} (h : Gd y) (hz : z ∈ y.f2) : Gd z := by
  by_cases c : y.f0 = 48
  · have hs := good_small h
    rcases h with ⟨d, d0, ho, hl⟩ | rfl
    · obtain ⟨_, _, d1, hk⟩ := ok_list hs d0 ho c
      obtain ⟨j, hj, rfl⟩ := List.getElem_of_mem hz
      have := sz_kid hz
      exact .inl ⟨d + 1, by omega, hk j hj, by omega⟩
    · cases hz
  · rw [good_plain h c] at hz
    cases hz
theorem good_lst {y : S65} (h : Gd y) (n : Nat) : ∀ z ∈ lst y n, Gd z := by
  intro z hz
  unfold lst at hz
  split at hz
  · exact good_kid h hz
  · rw [List.eq_of_mem_replicate hz]; exact good_zer
theorem good_rd {y : S65} (h : Gd y) (n k : Nat) (i : Int) (hi : i = (k : Int)) (hk : k < n) : Gd (rd_T65 (lst y n) i) := by
  subst hi
  rw [rdit _ k (by rw [lst_len]; exact hk)]
  exact good_lst h n _ (List.getElem_mem _)

/-! ### numbers -/
open Classical in
/-- The number of an item, and whether it is one. -/
noncomputable def iv (x : S65) : Int × Bool := if h : Small x then Classical.choose (int_in x h) else (0, false)
theorem iv_spec {x : S65} (h : Small x) : Evt (fun k => spec_IntIn.f k x) (iv x) ∧ Evt (fun k => impl_IntIn.f k x) (iv x) ∧ IsInt x (iv x) := by
  unfold iv
  rw [dif_pos h]
  exact Classical.choose_spec (int_in x h)
theorem iv_f {x : S65} (h : Gd x) : Evt (fun k => spec_IntIn.f k x) (iv x) := (iv_spec (good_small h)).1
theorem iv_int (n : Int) : iv (intI (nOf n)) = (nOf n, true) := by
  obtain ⟨h0, h1⟩ := nOf_in n
  have hs : Small (intI (nOf n)) := by have := sz_intI _ h0 h1; show sz _ ≤ _; omega
  rcases (iv_spec hs).2.2 with ⟨m, m0, m1, e, h⟩ | ⟨h, _⟩
  · rw [h, intI_inj h0 m0 e]
  · exact absurd rfl (h _ h0 h1)
theorem num_g (b : Bool) {x : S65} (h : Gd x) : Evt (fun k => impl_opener_num_0.f k (⟨b⟩ : S86) x) ((iv x).1, (⟨b || !(iv x).2⟩ : S86)) := by
  unfold impl_opener_num_0.f
  refine Evt.bind (iv_spec (good_small h)).2.1 (.of fun k => ?_)
  cases b <;> rfl

/-! ### texts -/
theorem text_g (b : Bool) (x : S65) (n : Int) : impl_opener_text_0.f (⟨b⟩ : S86) x n = some (x.f1, (⟨b || (x.f0 != n)⟩ : S86)) := by
  cases b <;> simp [impl_opener_text_0.f]
def txs (x : S65) : List ByteArray := x.f2.map S65.f1
def badT (x : S65) (m : Int) : Bool := !decide (x.f0 = 48) || x.f2.any (fun y => y.f0 != m)
theorem texts_in {x : S65} (hx : Gd x) : Evt (fun k => spec_l09TextsIn.f k x) (txs x) := by
  have h := good_len hx
  have key : ∀ (m i : Nat), x.f2.length - i = m → i ≤ x.f2.length → Evt (fun k => spec_l09TextsIn.l0 k ((x.f2.take i).map S65.f1) (i : Int) x) (x.f2.map S65.f1) := by
    intro m
    induction m with
    | zero =>
      intro i hm hi
      obtain rfl : i = x.f2.length := by omega
      refine Evt.succ (.of fun k => ?_)
      rw [spec_l09TextsIn.l0, if_neg (by omega), List.take_length]
    | succ m ih =>
      intro i hm hi
      have hil : i < x.f2.length := by omega
      have hc : (((x.f2.take i).map S65.f1).length + 1 ≤ 8796093022208) = True := eq_true (by rw [List.length_map, List.length_take]; omega)
      have := ih (i + 1) (by omega) (by omega)
      rw [List.take_succ_eq_append_getElem hil, List.map_append] at this
      refine Evt.succ (this.eq (fun k => ?_))
      rw [spec_l09TextsIn.l0, if_pos (by omega), if_pos (by omega), if_pos (by omega), rdit _ i hil, show wrap64 ((i : Int) + 1) = ((i + 1 : Nat) : Int) by rw [w64 (by omega) (by omega)]; rfl]
      simp only [hc, if_true, lets]
      rfl
  exact (key _ 0 rfl (by omega)).eq (fun k => by unfold spec_l09TextsIn.f; rfl)
theorem texts_g (b : Bool) {x : S65} (hx : Gd x) (m : Int) : Evt (fun k => impl_opener_texts_0.f k (⟨b⟩ : S86) x m) (txs x, (⟨b || badT x m⟩ : S86)) := by
  have h := good_len hx
  by_cases c : x.f0 = 48
  · have key : ∀ (n i : Nat) (b : Bool), x.f2.length - i = n → i ≤ x.f2.length → Evt (fun k => impl_opener_texts_0.l0 k ((x.f2.take i).map S65.f1) (i : Int) b x m) (txs x, (⟨b || (x.f2.drop i).any (fun y => y.f0 != m)⟩ : S86)) := by
      intro n
      induction n with
      | zero =>
        intro i b hm hi
        obtain rfl : i = x.f2.length := by omega
        rw [List.drop_length, List.any_nil, Bool.or_false]
        refine Evt.succ (.of fun k => ?_)
        rw [impl_opener_texts_0.l0, if_neg (by omega), List.take_length]
        rfl
      | succ n ih =>
        intro i b hm hi
        have hil : i < x.f2.length := by omega
        have hc : (((x.f2.take i).map S65.f1).length + 1 ≤ 8796093022208) = True := eq_true (by rw [List.length_map, List.length_take]; omega)
        have e := ih (i + 1) (b || (x.f2[i].f0 != m)) (by omega) (by omega)
        rw [List.take_succ_eq_append_getElem hil, List.map_append] at e
        rw [List.drop_eq_getElem_cons hil, List.any_cons, ← Bool.or_assoc]
        refine Evt.succ (e.eq (fun k => ?_))
        rw [impl_opener_texts_0.l0, if_pos (by omega), if_pos (by omega), if_pos (by omega), rdit _ i hil, text_g, show wrap64 ((i : Int) + 1) = ((i + 1 : Nat) : Int) by rw [w64 (by omega) (by omega)]; rfl]
        simp only [Option.bind_some, hc, if_true, lets]
        rfl
    have e := key _ 0 b rfl (by omega)
    rw [List.drop_zero] at e
    unfold badT
    rw [decide_eq_true c, Bool.not_true, Bool.false_or]
    refine e.eq (fun k => ?_)
    unfold impl_opener_texts_0.f
    rw [list_m, decide_eq_true c, Bool.not_true, Bool.or_false]
    rfl
  · unfold badT txs
    rw [good_plain hx c, decide_eq_false c, Bool.not_false, Bool.true_or, Bool.or_true]
    refine Evt.succ (.of fun k => ?_)
    unfold impl_opener_texts_0.f
    rw [list_m, decide_eq_false c, Option.bind_some, if_neg (by simp), impl_opener_texts_0.l1, if_neg (by simp), Bool.not_false, Bool.or_true]
    rfl
theorem sz_text {x : S65} : x.f1.size ≤ sz x := by have := sz_eq x; omega
theorem txs_sm {x : S65} (hx : Gd x) : (txs x).length ≤ 1048576 ∧ ∀ e ∈ txs x, e.size ≤ 1048576 := ⟨by unfold txs; rw [List.length_map]; exact good_len hx, fun e he => by
  obtain ⟨z, hz, rfl⟩ := List.mem_map.1 he
  have := good_sz (good_kid hx hz)
  have := sz_text (x := z)
  omega⟩
theorem txs_w (x : S65) : (txs x).length + ((txs x).map ByteArray.size).sum ≤ sz x := by
  have key : ∀ l : List S65, l.length + ((l.map S65.f1).map ByteArray.size).sum ≤ (l.map sz).sum := by
    intro l
    induction l with
    | nil => simp
    | cons a l ih =>
      have h1 := sz_text (x := a)
      have h2 := sz_eq a
      simp only [List.map_cons, List.sum_cons, List.length_cons]
      omega
  have := key x.f2
  have := sz_eq x
  unfold txs
  rw [List.length_map]
  omega
def item4 (s : ByteArray) : S65 := ⟨4, s, []⟩
theorem sz4 (s : ByteArray) : sz (item4 s) = 16 + s.size := sz_plain 4 s
theorem sz4s : ∀ l : List ByteArray, ((l.map item4).map sz).sum ≤ 16 * (l.length + (l.map ByteArray.size).sum)
  | [] => by simp
  | s :: l => by
    have := sz4s l
    have := sz4 s
    simp only [List.map_cons, List.sum_cons, List.length_cons]
    omega
theorem badT_mk (m : Int) (l : List S65) (h : ∀ y ∈ l, y.f0 = m) (s : ByteArray) : badT ⟨48, s, l⟩ m = false := by
  unfold badT
  rw [decide_eq_true rfl, Bool.not_true, Bool.false_or]
  show l.any (fun y => y.f0 != m) = false
  rw [List.any_eq_false]
  intro y hy
  rw [h y hy]
  simp
theorem fl {a b : Nat} {i j : Int} (hi : i = (a : Int)) (hj : j = (b : Int)) (h : a < b) : (i < j) = True := eq_true (by omega)
end Go.Proofs.YtoaoncnbimcdgaaDoor.OpenFnExactReadCert

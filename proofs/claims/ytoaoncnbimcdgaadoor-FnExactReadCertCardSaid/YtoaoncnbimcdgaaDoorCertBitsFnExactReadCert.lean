/- Items of letters and of lists of what was called back, told outright. Plain lemmas, no condition. -/
import Derived.Test.YtoaoncnbimcdgaaDoorOpenFnExactReadCert
import Derived.Test.YtoaoncnbimcdgaaDoorNameFnExactReadCert
namespace Go.Proofs.YtoaoncnbimcdgaaDoor.CertBitsFnExactReadCert
open Go.RowKit Go.Proofs.YtoaoncnbimcdgaaDoorW.PrintWords Go.Proofs.YtoaoncnbimcdgaaDoorW.PrintLast Go.Proofs.YtoaoncnbimcdgaaDoor.ZOpen Go.Proofs.YtoaoncnbimcdgaaDoor.Z Go.Proofs.YtoaoncnbimcdgaaDoor.F
open Go.Proofs.YtoaoncnbimcdgaaDoor.ZP Go.Proofs.YtoaoncnbimcdgaaDoor.ItemFnExactReadCert Go.Proofs.YtoaoncnbimcdgaaDoor.ReadFnExactReadCert Go.Proofs.YtoaoncnbimcdgaaDoor.IntFnExactReadCert Go.Proofs.YtoaoncnbimcdgaaDoor.OpenFnExactReadCert Go.Proofs.YtoaoncnbimcdgaaDoor.NameFnExactReadCert
set_option linter.unusedVariables false
set_option linter.unusedSimpArgs false
set_option maxHeartbeats 4000000
noncomputable def intN (n : Int) : S65 := intI (nOf n)
theorem intN_f (n : Int) : Evt (fun k => spec_IntItem.f k n) (intN n) := (int_vals n).1
theorem intN_g (n : Int) : Evt (fun k => impl_IntItem.f k n) (intN n) := (int_vals n).2
theorem intN_sz (n : Int) : sz (intN n) ≤ 32 := sz_intI _ (nOf_in n).1 (nOf_in n).2
theorem iv_intN (n : Int) : iv (intN n) = (nOf n, true) := iv_int n
theorem sz_ints : ∀ l : List Int, ((l.map intN).map sz).sum ≤ 32 * l.length
  | [] => by simp
  | n :: l => by
    have := sz_ints l
    have := intN_sz n
    simp only [List.map_cons, List.sum_cons, List.length_cons]
    omega
theorem ints_f (l : List Int) (h : l.length ≤ 1048576) : Evt (fun k => spec_l09Ints.f k l) ⟨48, (⟨#[]⟩ : ByteArray), l.map intN⟩ := by
  have hl : (l.map intN).length = l.length := List.length_map _
  refine (map_loop (l.map intN) (fun k r i => spec_l09Ints.l0 k r i l) (fun i k => spec_IntItem.f k (rd l (i : Int))) (⟨48, (⟨#[]⟩ : ByteArray), l.map intN⟩ : S65) (fun k i r hi hr => ?_) (Evt.of fun k => ?_) (fun i hi => ?_) _ 0 rfl (Nat.zero_le _)).eq (fun k => rfl)
  · have hc : (r.length + 1 ≤ 2932031007402) = True := eq_true (by omega)
    show spec_l09Ints.l0 (k + 1) r (i : Int) l = _
    rw [spec_l09Ints.l0, if_pos (by omega), if_pos (by omega), if_pos (by omega), wn i (by omega)]
    simp only [hc, if_true, lets]
  · show spec_l09Ints.l0 (k + 1) (l.map intN) _ l = _
    rw [spec_l09Ints.l0, if_neg (by omega)]
  · rw [rdI_ l i (by omega), List.getElem_map]
    exact intN_f _
theorem ints_g (l : List Int) (h : l.length ≤ 1048576) : Evt (fun k => impl_each_int_0.f k l) ⟨48, (⟨#[]⟩ : ByteArray), l.map intN⟩ := by
  have hl : (l.map intN).length = l.length := List.length_map _
  refine (map_loop (l.map intN) (fun k r i => impl_each_int_0.l0 k r i l) (fun i k => impl_IntItem.f k (rd l (i : Int))) (⟨48, (⟨#[]⟩ : ByteArray), l.map intN⟩ : S65) (fun k i r hi hr => ?_) (Evt.of fun k => ?_) (fun i hi => ?_) _ 0 rfl (Nat.zero_le _)).eq (fun k => rfl)
  · have hc : (r.length + 1 ≤ 2932031007402) = True := eq_true (by omega)
    show impl_each_int_0.l0 (k + 1) r (i : Int) l = _
    rw [impl_each_int_0.l0, if_pos (by omega), if_pos (by omega), if_pos (by omega), wn i (by omega)]
    simp only [hc, if_true, lets]
  · show impl_each_int_0.l0 (k + 1) (l.map intN) _ l = _
    rw [impl_each_int_0.l0, if_neg (by omega)]
  · rw [rdI_ l i (by omega), List.getElem_map]
    exact intN_g _
def item12 (s : ByteArray) : S65 := ⟨12, s, []⟩
theorem sz12 (s : ByteArray) : sz (item12 s) = 16 + s.size := sz_plain 12 s
theorem text12_f (s : ByteArray) : spec_TextItem.f s = some (item12 s) := rfl
theorem text12_g (s : ByteArray) : impl_TextItem.f s = some (item12 s) := rfl
theorem bytes_f (s : ByteArray) : spec_l09Bytes.f s = some (item4 s) := rfl
theorem bytes_g (s : ByteArray) : impl_bytesItem.f s = some (item4 s) := rfl
theorem sz12s (l : List ByteArray) (h : l.length ≤ 1048576 ∧ ∀ e ∈ l, e.size ≤ 1048576) : sz (⟨48, (⟨#[]⟩ : ByteArray), l.map item12⟩ : S65) ≤ 16 + 1048576 * 1048592 := by
  rw [sz_list]
  have h1 := sum_le sz 1048592 (l.map item12) (fun e he => by
    obtain ⟨s, hs', rfl⟩ := List.mem_map.1 he
    have := h.2 s hs'
    rw [sz12]
    omega)
  rw [List.length_map] at h1
  have h2 : l.length * 1048592 ≤ 1048576 * 1048592 := Nat.mul_le_mul_right _ h.1
  omega
theorem texts12_f (l : List ByteArray) (h : l.length ≤ 1048576) : Evt (fun k => spec_l09Texts.f k l) ⟨48, (⟨#[]⟩ : ByteArray), l.map item12⟩ := by
  have hl : (l.map item12).length = l.length := List.length_map _
  have hg : ∀ i (hi : i < (l.map item12).length), Evt (fun _ => some (item12 (rdOf ByteArray.empty l (i : Int)))) (l.map item12)[i] := by
    intro i hi
    have : rdOf ByteArray.empty l (i : Int) = l[i]'(by omega) := by simp [rdOf, show i < l.length by omega]
    rw [this, List.getElem_map]
    exact Evt.now
  refine (map_loop (l.map item12) (fun k r i => spec_l09Texts.l0 k r i l) (fun i _ => some (item12 (rdOf ByteArray.empty l (i : Int)))) (⟨48, (⟨#[]⟩ : ByteArray), l.map item12⟩ : S65) (fun k i r hi hr => ?_) (Evt.of fun k => ?_) hg _ 0 rfl (Nat.zero_le _)).eq (fun k => rfl)
  · have hc : (r.length + 1 ≤ 2932031007402) = True := eq_true (by omega)
    show spec_l09Texts.l0 (k + 1) r (i : Int) l = _
    rw [spec_l09Texts.l0, if_pos (by omega), if_pos (by omega), if_pos (by omega), wn i (by omega)]
    simp only [text12_f, Option.bind_some, hc, if_true, lets]
  · show spec_l09Texts.l0 (k + 1) _ _ l = _
    rw [spec_l09Texts.l0, if_neg (by omega)]
theorem texts12_g (l : List ByteArray) (h : l.length ≤ 1048576) : Evt (fun k => impl_each_string_0.f k l) ⟨48, (⟨#[]⟩ : ByteArray), l.map item12⟩ := by
  have hl : (l.map item12).length = l.length := List.length_map _
  have hg : ∀ i (hi : i < (l.map item12).length), Evt (fun _ => some (item12 (rdOf ByteArray.empty l (i : Int)))) (l.map item12)[i] := by
    intro i hi
    have : rdOf ByteArray.empty l (i : Int) = l[i]'(by omega) := by simp [rdOf, show i < l.length by omega]
    rw [this, List.getElem_map]
    exact Evt.now
  refine (map_loop (l.map item12) (fun k r i => impl_each_string_0.l0 k r i l) (fun i _ => some (item12 (rdOf ByteArray.empty l (i : Int)))) (⟨48, (⟨#[]⟩ : ByteArray), l.map item12⟩ : S65) (fun k i r hi hr => ?_) (Evt.of fun k => ?_) hg _ 0 rfl (Nat.zero_le _)).eq (fun k => rfl)
  · have hc : (r.length + 1 ≤ 2932031007402) = True := eq_true (by omega)
    show impl_each_string_0.l0 (k + 1) r (i : Int) l = _
    rw [impl_each_string_0.l0, if_pos (by omega), if_pos (by omega), if_pos (by omega), wn i (by omega)]
    simp only [text12_g, Option.bind_some, hc, if_true, lets]
  · show impl_each_string_0.l0 (k + 1) _ _ l = _
    rw [impl_each_string_0.l0, if_neg (by omega)]
def itemB (b : Bool) : S65 := if b = true then ⟨1, (⟨#[255]⟩ : ByteArray), []⟩ else ⟨1, (⟨#[0]⟩ : ByteArray), []⟩
theorem bool_f (b : Bool) : spec_l09Bool.f b = some (itemB b) := by cases b <;> rfl
theorem bool_g (b : Bool) : impl_boolItem.f b = some (itemB b) := bool_f b
theorem itemB_tag (b : Bool) : (itemB b).f0 = 1 := by cases b <;> rfl
theorem itemB_sz (b : Bool) : sz (itemB b) ≤ 32 := by cases b <;> (unfold itemB; simp only [if_true, if_false, Bool.false_eq_true]; rw [sz_plain]; decide)
theorem flag_g (b : Bool) (x : S65) : impl_opener_flag_0.f (⟨b⟩ : S86) x = some ((x.f1.toList == ([255] : List UInt8)), (⟨b || (x.f0 != 1)⟩ : S86)) := by
  unfold impl_opener_flag_0.f
  rw [text_g, Option.bind_some]
/-- The numbers of a list of numbers. -/
noncomputable def nums (x : S65) : List Int := x.f2.map (fun y => (iv y).1)
noncomputable def badN (x : S65) : Bool := !decide (x.f0 = 48) || x.f2.any (fun y => !(iv y).2)
theorem ints_in {x : S65} (hx : Gd x) : Evt (fun k => spec_l09IntsIn.f k x) (nums x) := by
  have h := good_len hx
  have key : ∀ (m i : Nat), x.f2.length - i = m → i ≤ x.f2.length → Evt (fun k => spec_l09IntsIn.l0 k ((x.f2.take i).map (fun y => (iv y).1)) (i : Int) x) (nums x) := by
    intro m
    induction m with
    | zero =>
      intro i hm hi
      obtain rfl : i = x.f2.length := by omega
      refine Evt.succ (.of fun k => ?_)
      rw [spec_l09IntsIn.l0, if_neg (by omega), List.take_length]
      rfl
    | succ m ih =>
      intro i hm hi
      have hil : i < x.f2.length := by omega
      have hy := good_kid hx (List.getElem_mem hil)
      have hc : (((x.f2.take i).map (fun y => (iv y).1)).length + 1 ≤ 17592186044416) = True := eq_true (by rw [List.length_map, List.length_take]; omega)
      have c0 : ((i : Int) < (x.f2.length : Int)) = True := eq_true (by omega)
      have c1 : ((0 : Int) ≤ (i : Int)) = True := eq_true (by omega)
      have e := ih (i + 1) (by omega) (by omega)
      rw [List.take_succ_eq_append_getElem hil, List.map_append] at e
      refine Evt.succ ?_
      simp only [spec_l09IntsIn.l0, c0, c1, if_true, rdit _ i hil, wn i (by omega)]
      refine Evt.bind (iv_f hy) ?_
      simp only [hc, if_true, lets]
      exact e
  exact (key _ 0 rfl (by omega)).eq (fun k => by unfold spec_l09IntsIn.f; rfl)
theorem nums_g (b : Bool) {x : S65} (hx : Gd x) : Evt (fun k => impl_opener_nums_0.f k (⟨b⟩ : S86) x) (nums x, (⟨b || badN x⟩ : S86)) := by
  have h := good_len hx
  by_cases c : x.f0 = 48
  · have key : ∀ (n i : Nat) (b : Bool), x.f2.length - i = n → i ≤ x.f2.length → Evt (fun k => impl_opener_nums_0.l0 k ((x.f2.take i).map (fun y => (iv y).1)) (i : Int) b x) (nums x, (⟨b || (x.f2.drop i).any (fun y => !(iv y).2)⟩ : S86)) := by
      intro n
      induction n with
      | zero =>
        intro i b hm hi
        obtain rfl : i = x.f2.length := by omega
        rw [List.drop_length, List.any_nil, Bool.or_false]
        refine Evt.succ (.of fun k => ?_)
        rw [impl_opener_nums_0.l0, if_neg (by omega), List.take_length]
        rfl
      | succ n ih =>
        intro i b hm hi
        have hil : i < x.f2.length := by omega
        have hy := good_kid hx (List.getElem_mem hil)
        have hc : (((x.f2.take i).map (fun y => (iv y).1)).length + 1 ≤ 17592186044416) = True := eq_true (by rw [List.length_map, List.length_take]; omega)
        have c0 : ((i : Int) < (x.f2.length : Int)) = True := eq_true (by omega)
        have c1 : ((0 : Int) ≤ (i : Int)) = True := eq_true (by omega)
        have e := ih (i + 1) (b || !(iv x.f2[i]).2) (by omega) (by omega)
        rw [List.take_succ_eq_append_getElem hil, List.map_append] at e
        rw [List.drop_eq_getElem_cons hil, List.any_cons, ← Bool.or_assoc]
        refine Evt.succ ?_
        simp only [impl_opener_nums_0.l0, c0, c1, if_true, rdit _ i hil, wn i (by omega)]
        refine Evt.bind (num_g _ hy) ?_
        simp only [hc, if_true, lets]
        exact e
    have e := key _ 0 b rfl (by omega)
    rw [List.drop_zero] at e
    unfold badN
    rw [decide_eq_true c, Bool.not_true, Bool.false_or]
    refine e.eq (fun k => ?_)
    unfold impl_opener_nums_0.f
    rw [list_m, decide_eq_true c, Bool.not_true, Bool.or_false]
    rfl
  · unfold badN nums
    rw [good_plain hx c, decide_eq_false c, Bool.not_false, Bool.true_or, Bool.or_true]
    refine Evt.succ (.of fun k => ?_)
    unfold impl_opener_nums_0.f
    rw [list_m, decide_eq_false c, Option.bind_some, if_neg (by simp), impl_opener_nums_0.l1, if_neg (by simp), Bool.not_false, Bool.or_true]
    rfl
theorem badN_mk (l : List Int) (s : ByteArray) : badN ⟨48, s, l.map intN⟩ = false := by
  unfold badN
  rw [decide_eq_true rfl, Bool.not_true, Bool.false_or]
  show (l.map intN).any (fun y => !(iv y).2) = false
  rw [List.any_eq_false]
  intro y hy
  obtain ⟨n, _, rfl⟩ := List.mem_map.1 hy
  rw [iv_intN]
  simp
end Go.Proofs.YtoaoncnbimcdgaaDoor.CertBitsFnExactReadCert

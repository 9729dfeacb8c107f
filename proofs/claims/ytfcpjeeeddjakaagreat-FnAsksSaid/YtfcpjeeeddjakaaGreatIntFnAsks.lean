/- Numbers written as items, and read back. Plain lemmas, no condition. -/
import Derived.Test.YtfcpjeeeddjakaaGreatReadFnAsks
namespace Go.Proofs.YtfcpjeeeddjakaaGreat.IntFnAsks
open Go.RowKit YtfcpjeeeddjakaaGreatW.PrintWords YtfcpjeeeddjakaaGreatW.PrintLast ZOpen Z F
open ZP ItemFnAsks ReadFnAsks
set_option linter.unusedVariables false
set_option maxHeartbeats 8000000
def pad : List Int → List Int
  | [] => [0]
  | b :: l => if 128 ≤ b then 0 :: b :: l else b :: l
noncomputable def inL (n : Nat) : List Int := pad (be n)
noncomputable def intI (n : Int) : S66 := ⟨2, strOfNums (inL n.toNat), []⟩
theorem int_b (y : Int) (l : List Int) (y0 : 0 ≤ y) (y1 : y ≤ 255) (hl : l.length ≤ 100) (k : Nat) : spec_IntItem.l0 (k + 1) 0 (strOfNums (y :: l)) = some ⟨2, strOfNums (pad (y :: l)), []⟩ := by
  have es2 : (strOfNums (y :: l)).size = l.length + 1 := strOfNums_size _
  have en : ¬ (strOfNums (y :: l)).toList = ([] : List UInt8) := fun h => by have := ba_nil.1 h; omega
  have e0 : (⟨#[0]⟩ : ByteArray).size = 1 := rfl
  have hb := sn_bt y l y0 y1
  rw [spec_IntItem.l0, if_neg (by omega), if_neg en, if_pos (by omega), hb]
  by_cases c : 128 ≤ y
  · rw [if_pos c, if_pos (by omega), show pad (y :: l) = [0] ++ (y :: l) from if_pos c, sn_app]
    rfl
  · rw [if_neg c, show pad (y :: l) = y :: l from if_neg c]
theorem int_v (d : Nat) : ∀ (x : Nat) (y : Int) (l : List Int), x < 256 ^ d → x ≤ 1000000000 → l.length + d ≤ 100 → 0 ≤ y → y ≤ 255 → ∀ k, d < k →
    spec_IntItem.l0 k (x : Int) (strOfNums (y :: l)) = some ⟨2, strOfNums (pad (be x ++ y :: l)), []⟩ := by
  induction d with
  | zero =>
    intro x y l h hx hl y0 y1 k hk
    obtain ⟨k, rfl⟩ : ∃ q, k = q + 1 := ⟨k - 1, by omega⟩
    obtain rfl : x = 0 := by simpa using h
    rw [be_zero, List.nil_append]
    exact int_b y l y0 y1 (by omega) k
  | succ d ih =>
    intro x y l h hx hl y0 y1 k hk
    obtain ⟨k, rfl⟩ : ∃ q, k = q + 1 := ⟨k - 1, by omega⟩
    rcases Nat.eq_zero_or_pos x with rfl | hp
    · rw [be_zero, List.nil_append]
      exact int_b y l y0 y1 (by omega) k
    · have es2 : (strOfNums (y :: l)).size = l.length + 1 := strOfNums_size _
      have e1 : Int.tmod (x : Int) 256 % 256 = ((x % 256 : Nat) : Int) := by rw [Int.tmod_eq_emod_of_nonneg (by omega)]; omega
      have h1 : 256 ^ (d + 1) = 256 ^ d * 256 := Nat.pow_succ _ _
      have es : (strOfNums ([((x % 256 : Nat) : Int)] : List Int)).size = 1 := strOfNums_size _
      have ih := ih (x / 256) ((x % 256 : Nat) : Int) (y :: l) (by omega) (by omega) (by rw [List.length_cons]; omega) (by omega) (by omega) k (by omega)
      have e2 : wrap64 (Int.tdiv (x : Int) 256) = ((x / 256 : Nat) : Int) := by rw [Int.tdiv_eq_ediv_of_nonneg (by omega)]; unfold wrap64; omega
      have g1 : (strOfNums ([((x % 256 : Nat) : Int)] : List Int)).size + (strOfNums (y :: l)).size ≤ 9223372036854775807 := by clear e2; omega
      rw [spec_IntItem.l0, if_pos (by clear e2; omega), e1, if_pos g1, e2, ← sn_app, be_pos hp, List.append_assoc]
      exact ih
theorem int_val {n : Int} (h0 : 0 ≤ n) (h1 : n ≤ 1000000000) : Evt (fun k => spec_IntItem.f k n) (intI n) := by
  obtain ⟨m, rfl⟩ : ∃ m : Nat, n = m := ⟨n.toNat, by omega⟩
  refine .at_ 10 fun k hk => ?_
  unfold spec_IntItem.f
  rw [in_f, decide_eq_true ⟨h0, h1⟩, Option.bind_some, if_pos rfl]
  rcases Nat.eq_zero_or_pos m with rfl | hp
  · rw [show ((0 : Nat) : Int) = 0 from rfl, int_zero k (by omega)]
    unfold intI inL
    rw [show (0 : Int).toNat = 0 from rfl, be_zero]
    rfl
  · obtain ⟨k, rfl⟩ : ∃ q, k = q + 1 := ⟨k - 1, by omega⟩
    have e1 : Int.tmod (m : Int) 256 % 256 = ((m % 256 : Nat) : Int) := by rw [Int.tmod_eq_emod_of_nonneg (by omega)]; omega
    have e2 : Unit → wrap64 (Int.tdiv (m : Int) 256) = ((m / 256 : Nat) : Int) := fun _ => by rw [Int.tdiv_eq_ediv_of_nonneg (by omega)]; unfold wrap64; omega
    have es : (strOfNums ([((m % 256 : Nat) : Int)] : List Int)).size = 1 := strOfNums_size _
    have e0 : (⟨#[]⟩ : ByteArray).size = 0 := rfl
    have := int_v 4 (m / 256) ((m % 256 : Nat) : Int) [] (by rw [show 256 ^ 4 = 4294967296 from by decide]; omega) (by omega) (by simp) (by omega) (by omega) k (by omega)
    rw [spec_IntItem.l0, if_pos (by omega), e1, if_pos (by omega), e2 (), ← sn_nil, ← sn_app]
    refine this.trans ?_
    unfold intI inL
    rw [Int.toNat_natCast, be_pos hp]
def nOf (n : Int) : Int := if 0 ≤ n ∧ n ≤ 1000000000 then n else 0
theorem nOf_in (n : Int) : 0 ≤ nOf n ∧ nOf n ≤ 1000000000 := by unfold nOf; split <;> omega
theorem int_vals (n : Int) : Evt (fun k => spec_IntItem.f k n) (intI (nOf n)) ∧ Evt (fun k => impl_IntItem.f k n) (intI (nOf n)) := by
  have h : Evt (fun k => spec_IntItem.f k n) (intI (nOf n)) := by
    unfold nOf
    by_cases c : 0 ≤ n ∧ n ≤ 1000000000
    · rw [if_pos c]; exact int_val c.1 c.2
    · rw [if_neg c]
      refine .at_ 1 fun k hk => ?_
      unfold spec_IntItem.f
      rw [in_f, decide_eq_false c, Option.bind_some, if_neg (by simp), int_l1, int_zero k hk]
      unfold intI inL
      rw [show (0 : Int).toNat = 0 from rfl, be_zero]
      rfl
  obtain ⟨it, i1, i2, _⟩ := int_item n
  obtain rfl := Evt.uniq h i1
  exact ⟨h, i2⟩
theorem be_head : ∀ (n : Nat), 0 < n → ∃ b l, be n = b :: l ∧ 0 < b
  | n, h => by
    rw [be_pos h]
    by_cases c : n < 256
    · rw [show n / 256 = 0 by omega, be_zero]
      exact ⟨_, _, rfl, by omega⟩
    · obtain ⟨b, l, e, hb⟩ := be_head (n / 256) (by omega)
      rw [e]
      exact ⟨b, l ++ _, rfl, hb⟩
termination_by n => n
theorem inL_byt (n : Nat) : Byt (inL n) := by
  have h := be_byt n
  unfold inL
  cases e : be n with
  | nil => exact Byt.cons (by omega) (by omega) Byt.nil
  | cons b l =>
    rw [e] at h
    show Byt (if 128 ≤ b then 0 :: b :: l else b :: l)
    split
    · exact Byt.cons (by omega) (by omega) h
    · exact h
theorem inL_val (n : Nat) : valL (inL n) = n := by
  have h := be_val n
  unfold inL
  cases e : be n with
  | nil => rw [e] at h; exact h
  | cons b l =>
    rw [e] at h
    show valL (if 128 ≤ b then 0 :: b :: l else b :: l) = n
    split
    · rw [← h]; rfl
    · exact h
theorem inL_form {n : Nat} (hn : n ≤ 1000000000) : IntForm (strOfNums (inL n)) := by
  have hy := inL_byt n
  have hl := be_len 4 n (by rw [show 256 ^ 4 = 4294967296 from by decide]; omega)
  have hb := be_byt n
  unfold inL at *
  rcases Nat.eq_zero_or_pos n with rfl | hp
  · rw [be_zero]
    have h0 : bt (strOfNums (pad [])) 0 = 0 := sn_bt 0 [] (by omega) (by omega)
    exact ⟨by decide, by decide, by rw [h0]; omega, fun _ => .inl (by rw [sn_size]; rfl)⟩
  · obtain ⟨b, l, e, h0⟩ := be_head n hp
    rw [e] at hl hb hy ⊢
    rw [List.length_cons] at hl
    have hbb := hb b List.mem_cons_self
    by_cases c : 128 ≤ b
    · rw [show pad (b :: l) = 0 :: b :: l from if_pos c] at hy ⊢
      have g0 : bt (strOfNums (0 :: b :: l)) 0 = 0 := sn_bt 0 _ (by omega) (by omega)
      have g1 : bt (strOfNums (0 :: b :: l)) 1 = b := sn_get hy 1 (by simp)
      have hs : (strOfNums (0 :: b :: l)).size = l.length + 2 := by rw [sn_size]; rfl
      exact ⟨by omega, by omega, by omega, fun _ => .inr (by omega)⟩
    · rw [show pad (b :: l) = b :: l from if_neg c] at hy ⊢
      have g0 : bt (strOfNums (b :: l)) 0 = b := sn_bt b _ hbb.1 hbb.2
      have hs : (strOfNums (b :: l)).size = l.length + 1 := by rw [sn_size]; rfl
      exact ⟨by omega, by omega, by omega, fun h => by omega⟩
theorem form_inL {s : ByteArray} (h : IntForm s) : s = strOfNums (inL (valL (bytesOf s)).toNat) := by
  obtain ⟨h1, h5, hb, hz⟩ := h
  have hby := byt_bytes s
  have hl := bytesOf_length s
  have g0 := bt_get s 0 (by omega)
  rw [show ((0 : Nat) : Int) = 0 from rfl] at g0
  refine (sn_bytes s).symm.trans (congrArg strOfNums ?_)
  unfold inL
  cases e : bytesOf s with
  | nil => rw [e] at hl; simp at hl; omega
  | cons b l =>
    rw [e] at hby
    have hbb := hby b List.mem_cons_self
    have g0' : bt s 0 = b := by rw [g0]; simp [e]
    rw [e, List.length_cons] at hl
    by_cases c : 0 < b
    · rw [be_of hby c]
      exact (if_neg (by omega)).symm
    · obtain rfl : b = 0 := by omega
      rcases hz g0' with q | q
      · cases l with
        | nil => rw [show valL [0] = 0 from rfl, show (0 : Int).toNat = 0 from rfl, be_zero]; rfl
        | cons c l => rw [List.length_cons] at hl; omega
      · cases l with
        | nil =>
          exfalso
          have : bt s 1 = 0 := by
            unfold bt
            rw [dif_neg (by simp at hl ⊢; omega)]
          omega
        | cons c l =>
          have g1 := bt_get s 1 (by rw [List.length_cons] at hl; omega)
          have g1' : bt s 1 = c := by
            rw [show ((1 : Nat) : Int) = 1 from rfl] at g1
            rw [g1]
            simp [e]
          rw [show valL (0 :: c :: l) = valL (c :: l) from rfl, be_of (fun y hy => hby y (List.mem_cons_of_mem _ hy)) (by omega)]
          exact (if_pos (by omega)).symm
theorem ok_form {x : S66} (c2 : x.f0 = 2) (ck : x.f2 = []) (h : IntForm x.f1) (d : Int) : Ok x d := by
  obtain ⟨h1, h5, hb, hz⟩ := h
  refine Evt.succ (.of fun k => ?_)
  rw [spec_l07Right.f, if_neg (by omega), if_pos (by rw [ck]; rfl)]
  have : spec_l07Plain.f k x = some true := by
    unfold spec_l07Plain.f
    rw [if_neg (by omega), if_pos c2, in_f, decide_eq_true ⟨by omega, by omega⟩, Option.bind_some, if_pos rfl, if_pos (by omega), if_neg (by omega)]
    by_cases c0 : bt x.f1 0 = 0
    · rw [if_pos c0]
      by_cases c1 : x.f1.size = 1
      · rw [if_pos (by omega)]
      · rw [if_neg (by omega), if_pos (by omega), decide_eq_true ((hz c0).resolve_left c1)]
    · rw [if_neg c0]
  rw [this]
  rfl
theorem ok_of_form {s : ByteArray} (h : IntForm s) (d : Int) : Ok ⟨2, s, []⟩ d := ok_form rfl rfl h d
theorem sz_intI (n : Int) (h0 : 0 ≤ n) (h1 : n ≤ 1000000000) : sz (intI n) ≤ 32 := by
  have := (inL_form (n := n.toNat) (by omega)).2.1
  unfold intI
  rw [sz_plain]
  omega
theorem intI_inj {a b : Int} (ha : 0 ≤ a) (hb : 0 ≤ b) (h : intI a = intI b) : a = b := by
  have h1 : strOfNums (inL a.toNat) = strOfNums (inL b.toNat) := congrArg S66.f1 h
  have h2 := sn_inj (inL_byt _) (inL_byt _) h1
  have h3 : valL (inL a.toNat) = valL (inL b.toNat) := by rw [h2]
  rw [inL_val, inL_val] at h3
  omega
theorem same_plain (x y : S66) (hx : x.f2.length ≤ 4611686018427387904) (hy : y.f2 = []) : ∃ b : Bool, Evt (fun k => impl_SameItem.f k x y) b ∧ (b = true ↔ x = y) := by
  by_cases c0 : x.f0 = y.f0
  · by_cases c1 : x.f1.toList = y.f1.toList
    · by_cases c2 : x.f2 = []
      · refine ⟨true, Evt.succ (Evt.eq (Evt.bind (a := true) (g := fun _ t7 => some t7) (Evt.succ (Evt.succ (Evt.of fun k => ?_))) Evt.now) (fun k => by rw [impl_SameItem.f, if_pos c0, if_pos c1])), ⟨fun _ => ?_, fun _ => rfl⟩⟩
        · rw [impl_SameItem_impl_Item.f, c2, hy, if_pos rfl, impl_SameItem_impl_Item.l0, if_neg (by simp)]
        · cases x; cases y
          simp only at c0 c1 c2 hy
          rw [c0, toList_inj.1 c1, c2, hy]
      · have hl : 0 < x.f2.length := List.length_pos_iff.2 c2
        refine ⟨false, Evt.succ (Evt.eq (Evt.bind (a := false) (g := fun _ t7 => some t7) (Evt.succ (Evt.of fun k => ?_)) Evt.now) (fun k => by rw [impl_SameItem.f, if_pos c0, if_pos c1])), ⟨(fun h => by cases h), (fun h => absurd (h ▸ hy) c2)⟩⟩
        rw [impl_SameItem_impl_Item.f, hy, if_neg (by rw [List.length_nil]; omega)]
    · exact ⟨false, Evt.succ (Evt.of fun k => by rw [impl_SameItem.f, if_pos c0, if_neg c1]), ⟨(fun h => by cases h), (fun h => absurd (by rw [h]) c1)⟩⟩
  · exact ⟨false, Evt.succ (Evt.of fun k => by rw [impl_SameItem.f, if_neg c0]), ⟨(fun h => by cases h), (fun h => absurd (by rw [h]) c0)⟩⟩
def IsInt (x : S66) (r : Int × Bool) : Prop := (∃ n, 0 ≤ n ∧ n ≤ 1000000000 ∧ x = intI n ∧ r = (n, true)) ∨ ((∀ n, 0 ≤ n → n ≤ 1000000000 → x ≠ intI n) ∧ r = (0, false))
theorem IsInt.uniq {x : S66} {r q : Int × Bool} (h : IsInt x r) (h' : IsInt x q) : r = q := by
  rcases h with ⟨n, n0, n1, e, rfl⟩ | ⟨hn, rfl⟩ <;> rcases h' with ⟨m, m0, m1, e', rfl⟩ | ⟨hm, rfl⟩
  · rw [intI_inj n0 m0 (e.symm.trans e')]
  · exact absurd e (hm n n0 n1)
  · exact absurd e' (hn m m0 m1)
  · rfl
theorem in_l1 : ∀ (k : Nat) (x i : Int) (a : S66) (y : ByteArray), impl_IntIn.l1 k x i a y = impl_IntIn.l0 k x i a y
  | 0, _, _, _, _ => by rw [impl_IntIn.l1, impl_IntIn.l0]
  | k + 1, x, i, a, y => by rw [impl_IntIn.l1, impl_IntIn.l0]; simp only [in_l1 k]
theorem in_loop (x : S66) (hs : Small x) (y : ByteArray) (hy : y.size ≤ 5) (hx : ∀ n, 0 ≤ n → n ≤ 1000000000 → x = intI n → x.f1 = y) : ∃ r, Evt (fun k => impl_IntIn.l0 k 0 0 x y) r ∧ IsInt x r := by
  have hv := valL_small (byt_bytes y) (by rw [bytesOf_length]; exact hy)
  have hs' : sz x ≤ 35184372088832 := hs
  have hxl := sz_len x
  have run : ∀ r, Evt (fun k => impl_IntIn.l0 k (valL (bytesOf y)) ((bytesOf y).length : Int) x y) r → Evt (fun k => impl_IntIn.l0 k 0 0 x y) r := fun r hr =>
    val_loop (fun k q i => impl_IntIn.l0 k q i x y) (byt_bytes y) (by rw [bytesOf_length]; exact hy) (fun k q i hi q0 q1 => by
      have hb := byt_bytes y _ (List.getElem_mem hi)
      rw [bytesOf_length] at hi
      show impl_IntIn.l0 (k + 1) q (i : Int) x y = _
      rw [impl_IntIn.l0, if_pos (by omega), if_pos (by omega), if_pos (by omega), rdI_ _ i (by rw [bytesOf_length]; exact hi), or_val q _ q0 q1 hb.1 hb.2, show wrap64 ((i : Int) + 1) = ((i + 1 : Nat) : Int) by rw [w64 (by omega) (by omega)]; rfl]) r hr _ 0 0 rfl (by omega) (by omega) (by decide) rfl
  have last : ∀ k, impl_IntIn.l0 (k + 1) (valL (bytesOf y)) ((bytesOf y).length : Int) x y = (if decide (0 ≤ valL (bytesOf y) ∧ valL (bytesOf y) ≤ 1000000000) = true then ((impl_IntItem.f k (valL (bytesOf y))).bind fun t106001 => ((impl_SameItem.f k x t106001).bind fun t107001 => (if t107001 = true then (some ((valL (bytesOf y)), true)) else (some (0, false))))) else (some (0, false))) := fun k => by
    rw [impl_IntIn.l0, if_neg (by rw [bytesOf_length]; omega), in_g, Option.bind_some]
  have none_ : ∀ n, 0 ≤ n → n ≤ 1000000000 → x = intI n → valL (bytesOf y) = n := fun n n0 n1 e => by
    rw [← hx n n0 n1 e, e]
    show valL (bytesOf (strOfNums (inL n.toNat))) = n
    rw [bytes_sn (inL_byt _), inL_val]
    omega
  by_cases c : 0 ≤ valL (bytesOf y) ∧ valL (bytesOf y) ≤ 1000000000
  · obtain ⟨b, b1, b2⟩ := same_plain x (intI (valL (bytesOf y))) (by omega) rfl
    have hi := (int_vals (valL (bytesOf y))).2
    rw [show nOf (valL (bytesOf y)) = valL (bytesOf y) from if_pos c] at hi
    have key : ∀ r, (if b = true then ((valL (bytesOf y)), true) else ((0 : Int), false)) = r → Evt (fun k => impl_IntIn.l0 k 0 0 x y) r := by
      rintro r rfl
      refine run _ (Evt.succ (Evt.eq (Evt.bind hi (g := fun k t => (impl_SameItem.f k x t).bind fun t107001 => (if t107001 = true then (some ((valL (bytesOf y)), true)) else (some (0, false)))) (Evt.bind b1 (Evt.eq Evt.now (fun k => ?_)))) (fun k => (last k).trans (if_pos (decide_eq_true c)))))
      cases b <;> rfl
    cases hb : b with
    | true => exact ⟨_, key _ (by rw [hb]; rfl), .inl ⟨_, c.1, c.2, b2.1 hb, rfl⟩⟩
    | false => exact ⟨_, key _ (by rw [hb]; rfl), .inr ⟨fun n n0 n1 e => by
        have := none_ n n0 n1 e
        rw [this] at b2
        exact absurd (b2.2 e) (by rw [hb]; simp), rfl⟩⟩
  · refine ⟨(0, false), run _ (Evt.succ (Evt.eq Evt.now (fun k => (last k).trans (if_neg (by simpa using c))))), .inr ⟨fun n n0 n1 e => ?_, rfl⟩⟩
    have := none_ n n0 n1 e
    omega
theorem int_g (x : S66) (hs : Small x) : ∃ r, Evt (fun k => impl_IntIn.f k x) r ∧ IsInt x r := by
  have hform : ∀ n, 0 ≤ n → n ≤ 1000000000 → x = intI n → x.f1.size ≤ 5 := fun n n0 n1 e => by
    rw [e]
    exact (inL_form (n := n.toNat) (by omega)).2.1
  have hs' : sz x ≤ 35184372088832 := hs
  have hz := sz_eq x
  by_cases c : 5 < (x.f1.size : Int)
  · have e5 : (x.f1.extract 0 5).size = 5 := by rw [ex_size _ _ _ (by omega)]
    obtain ⟨r, r1, r2⟩ := in_loop x hs (x.f1.extract 0 5) (by omega) (fun n n0 n1 e => by have := hform n n0 n1 e; omega)
    refine ⟨r, r1.eq (fun k => ?_), r2⟩
    unfold impl_IntIn.f
    rw [if_pos c, if_pos (by omega), if_pos (by omega)]
    simp only [lets]
    rw [if_pos (by omega)]
  · have e5 : x.f1.extract 0 x.f1.size = x.f1 := by rw [← sn_bytes x.f1, sn_extract, sn_size, List.drop_zero, Nat.sub_zero, List.take_length]
    obtain ⟨r, r1, r2⟩ := in_loop x hs x.f1 (by omega) (fun n n0 n1 e => rfl)
    refine ⟨r, r1.eq (fun k => ?_), r2⟩
    unfold impl_IntIn.f
    rw [if_neg c, if_pos (by omega), if_pos (by omega), Int.toNat_natCast, e5]
    simp only [lets]
    rw [if_pos (by omega), in_l1]
theorem int_f (x : S66) (hs : Small x) : ∃ r, Evt (fun k => spec_IntIn.f k x) r ∧ IsInt x r := by
  obtain ⟨b, b1, _⟩ := item (sz x) hs x (Nat.le_refl _) 0 (by omega) (by omega)
  have s1 : Evt (fun k => spec_ItemOk.f k x) b := (Evt.bind b1 (g := fun _ t => some t) Evt.now).eq (fun k => by unfold spec_ItemOk.f; rfl)
  have no : ¬ (x.f0 = 2 ∧ b = true) → ∀ n, 0 ≤ n → n ≤ 1000000000 → x ≠ intI n := fun h n n0 n1 e => by
    refine h ⟨by rw [e]; rfl, ?_⟩
    have : Ok x 0 := by rw [e]; exact ok_of_form (inL_form (by omega)) 0
    exact Evt.uniq b1 this
  by_cases c : x.f0 = 2
  · cases hb : b with
    | false =>
      refine ⟨(0, false), Evt.eq (Evt.bind s1 (g := fun k t4 => if t4 = true then (spec_IntIn.l0 k 0 0 x) else (some (0, false))) (Evt.eq Evt.now (fun k => by rw [hb]; rfl))) (fun k => by unfold spec_IntIn.f; rw [if_pos c]), .inr ⟨no (by rw [hb]; simp), rfl⟩⟩
    | true =>
      rw [hb] at b1
      obtain ⟨hk, _, hf⟩ := ok_plain b1 (by omega)
      have hf := hf c
      have hxe : x = intI (valL (bytesOf x.f1)) := by
        unfold intI
        rw [← form_inL hf]
        cases x
        simp only at c hk
        rw [c, hk]
      have hv := valL_small (byt_bytes x.f1) (by rw [bytesOf_length]; exact hf.2.1)
      have hf5 := hf.2.1
      have run : ∀ r, Evt (fun k => spec_IntIn.l0 k (valL (bytesOf x.f1)) ((bytesOf x.f1).length : Int) x) r → Evt (fun k => spec_IntIn.f k x) r := fun r hr => by
        refine Evt.eq (Evt.bind s1 (g := fun k t4 => if t4 = true then (spec_IntIn.l0 k 0 0 x) else (some (0, false))) ?_) (fun k => by unfold spec_IntIn.f; rw [if_pos c])
        rw [hb]
        refine Evt.eq (val_loop (fun k q i => spec_IntIn.l0 k q i x) (byt_bytes x.f1) (by rw [bytesOf_length]; exact hf.2.1) (fun k q i hi q0 q1 => ?_) r hr _ 0 0 rfl (by omega) (by omega) (by decide) rfl) (fun k => if_pos rfl)
        have hb := byt_bytes x.f1 _ (List.getElem_mem hi)
        have hi' := hi
        rw [bytesOf_length] at hi
        show spec_IntIn.l0 (k + 1) q (i : Int) x = _
        rw [spec_IntIn.l0, if_pos (by omega), if_pos (by omega), if_pos (by omega), bt_get _ i hi, w_id hb.1 hb.2, show wrap64 (256 * q) = 256 * q from w64 (by omega) (by omega), show wrap64 (256 * q + (bytesOf x.f1)[i]) = 256 * q + (bytesOf x.f1)[i] from w64 (by omega) (by omega), show wrap64 ((i : Int) + 1) = ((i + 1 : Nat) : Int) by rw [w64 (by omega) (by omega)]; rfl]
      by_cases cv : 1000000000 < valL (bytesOf x.f1)
      · refine ⟨(0, false), run _ (Evt.succ (Evt.of fun k => by rw [spec_IntIn.l0, if_neg (by rw [bytesOf_length]; omega), if_pos cv])), .inr ⟨fun n n0 n1 e => ?_, rfl⟩⟩
        have := intI_inj hv.1 n0 (hxe.symm.trans e)
        omega
      · exact ⟨(valL (bytesOf x.f1), true), run _ (Evt.succ (Evt.of fun k => by rw [spec_IntIn.l0, if_neg (by rw [bytesOf_length]; omega), if_neg cv])), .inl ⟨_, hv.1, by omega, hxe, rfl⟩⟩
  · exact ⟨(0, false), .of fun k => by unfold spec_IntIn.f; rw [if_neg c], .inr ⟨no (fun h => c h.1), rfl⟩⟩
theorem int_in (x : S66) (hs : Small x) : ∃ r, Evt (fun k => spec_IntIn.f k x) r ∧ Evt (fun k => impl_IntIn.f k x) r ∧ IsInt x r := by
  obtain ⟨r, r1, r2⟩ := int_f x hs
  obtain ⟨q, q1, q2⟩ := int_g x hs
  obtain rfl := IsInt.uniq r2 q2
  exact ⟨r, r1, q1, r2⟩
end Go.Proofs.YtfcpjeeeddjakaaGreat.IntFnAsks

/- Items read back from their texts: both readers answer, and answer the same. Plain lemmas, no condition. -/
import Derived.Test.YtfcpjeeeddjakaaGreatItemFnAsks
namespace Go.Proofs.YtfcpjeeeddjakaaGreat.ReadFnAsks
open Go.RowKit YtfcpjeeeddjakaaGreatW.PrintWords YtfcpjeeeddjakaaGreatW.PrintLast ZOpen Z F
open ZP ItemFnAsks
set_option linter.unusedVariables false
set_option maxHeartbeats 8000000
theorem Evt.uniq {α : Type} {f : Nat → Option α} {a b : α} (h : Evt f a) (h' : Evt f b) : a = b := by
  obtain ⟨K, h⟩ := h
  obtain ⟨K', h'⟩ := h'
  exact Option.some.inj ((h (max K K') (by omega)).symm.trans (h' (max K K') (by omega)))
theorem Evt.pred {α : Type} {f g : Nat → Option α} {r : α} (h : Evt f r) (e : ∀ k, f (k + 1) = g k) : Evt g r := by
  obtain ⟨K, h⟩ := h
  exact ⟨K, fun k hk => (e k).symm.trans (h (k + 1) (by omega))⟩
theorem Evt.unbind {α β : Type} {f : Nat → Option α} {g : Nat → α → Option β} {a : α} {r : β} (h : Evt (fun k => (f k).bind (g k)) r) (ha : Evt f a) : Evt (fun k => g k a) r := by
  obtain ⟨K, h⟩ := h
  obtain ⟨K', ha⟩ := ha
  refine ⟨max K K', fun k hk => ?_⟩
  have h1 : (f k).bind (g k) = some r := h k (by omega)
  rwa [ha k (by omega), Option.bind_some] at h1
def Byt (l : List Int) : Prop := ∀ b ∈ l, 0 ≤ b ∧ b ≤ 255
theorem Byt.app {a b : List Int} (ha : Byt a) (hb : Byt b) : Byt (a ++ b) := fun x hx => (List.mem_append.1 hx).elim (ha x) (hb x)
theorem Byt.nil : Byt [] := fun _ h => by cases h
theorem Byt.cons {x : Int} {l : List Int} (h0 : 0 ≤ x) (h1 : x ≤ 255) (hl : Byt l) : Byt (x :: l) := fun y hy => by
  rcases List.mem_cons.1 hy with rfl | hy
  · exact ⟨h0, h1⟩
  · exact hl y hy
theorem byt_bytes (s : ByteArray) : Byt (bytesOf s) := fun x hx => by
  obtain ⟨b, _, rfl⟩ := List.mem_map.1 hx
  have := b.toNat_lt
  omega
theorem sn_size (l : List Int) : (strOfNums l).size = l.length := strOfNums_size l
theorem bytes_sn {l : List Int} (h : Byt l) : bytesOf (strOfNums l) = l := by
  show ((strOfNums l).data.toList.map fun b => (b.toNat : Int)) = l
  simp only [strOfNums, List.map_map]
  rw [List.map_congr_left (g := id) (fun x hx => by
    have := h x hx
    simp
    omega), List.map_id]
theorem bt_get (s : ByteArray) (i : Nat) (hi : i < s.size) : bt s (i : Int) = (bytesOf s)[i]'(by rw [bytesOf_length]; exact hi) := by
  unfold bt
  rw [dif_pos (by simpa using hi)]
  simp only [bytesOf, List.getElem_map, Int.toNat_natCast]
  rfl
theorem sn_get {l : List Int} (h : Byt l) (i : Nat) (hi : i < l.length) : bt (strOfNums l) (i : Int) = l[i] := by
  rw [bt_get _ i (by rw [sn_size]; exact hi)]
  simp only [bytes_sn h]
theorem sn_extract (l : List Int) (a b : Nat) : (strOfNums l).extract a b = strOfNums ((l.drop a).take (b - a)) := by
  refine ext_ba ?_
  simp [strOfNums, ByteArray.data_extract, List.extract_eq_take_drop]
theorem sn_all (s : ByteArray) : ∃ l, Byt l ∧ s = strOfNums l := ⟨bytesOf s, byt_bytes s, (sn_bytes s).symm⟩
theorem sn_inj {a b : List Int} (ha : Byt a) (hb : Byt b) (h : strOfNums a = strOfNums b) : a = b := by rw [← bytes_sn ha, ← bytes_sn hb, h]
theorem toList_inj {a b : ByteArray} : a.toList = b.toList ↔ a = b := by
  refine ⟨fun h => ext_ba ?_, fun h => by rw [h]⟩
  rwa [ByteArray.toList_eq, ByteArray.toList_eq] at h
theorem empty_eq {s : ByteArray} (h : s.size = 0) : s = (⟨#[]⟩ : ByteArray) := by
  refine ext_ba ?_
  have : s.data.toList.length = 0 := by rw [data_length]; exact h
  exact List.eq_nil_of_length_eq_zero this
theorem rdI_ (x : List Int) (i : Nat) (h : i < x.length) : rd x (i : Int) = x[i] := by simp [rd, h]
theorem w_id {x : Int} (h0 : 0 ≤ x) (h1 : x ≤ 255) : wrap64 x = x := w64 (by omega) (by omega)
def valF (x b : Int) : Int := 256 * x + b
def valL (l : List Int) : Int := l.foldl valF 0
theorem valL_snoc (l : List Int) (b : Int) : valL (l ++ [b]) = 256 * valL l + b := by simp [valL, List.foldl_append, valF]
theorem pow_cast (i : Nat) : (256 : Int) ^ i = ((256 ^ i : Nat) : Int) := by simp
theorem pow_le {i j : Nat} (h : i ≤ j) : (256 : Int) ^ i ≤ 256 ^ j := by
  rw [pow_cast, pow_cast]
  exact_mod_cast Nat.pow_le_pow_right (by decide) h
theorem fold_bound : ∀ (l : List Int) (x : Int) (i : Nat), Byt l → 0 ≤ x → x < 256 ^ i → 0 ≤ l.foldl valF x ∧ l.foldl valF x < 256 ^ (i + l.length)
  | [], x, i, _, h0, h1 => ⟨h0, h1⟩
  | b :: l, x, i, hl, h0, h1 => by
    have hb := hl b List.mem_cons_self
    have hp : (256 : Int) ^ (i + 1) = 256 ^ i * 256 := Int.pow_succ 256 i
    have := fold_bound l (valF x b) (i + 1) (fun y hy => hl y (List.mem_cons_of_mem _ hy)) (by unfold valF; omega) (by unfold valF; omega)
    rw [List.foldl_cons, List.length_cons, show i + (l.length + 1) = i + 1 + l.length by omega]
    exact this
theorem valL_bound {l : List Int} (h : Byt l) : 0 ≤ valL l ∧ valL l < 256 ^ l.length := by
  have := fold_bound l 0 0 h (by omega) (by decide)
  rwa [Nat.zero_add] at this
theorem valL_small {l : List Int} (h : Byt l) (hn : l.length ≤ 5) : 0 ≤ valL l ∧ valL l ≤ 1099511627775 := by
  have h1 := valL_bound h
  have h2 : (256 : Int) ^ l.length ≤ 256 ^ 5 := pow_le hn
  have h3 : (256 : Int) ^ 5 = 1099511627776 := by decide
  omega
theorem val_loop {β : Type} (L : Nat → Int → Int → Option β) {l : List Int} (hl : Byt l) (hn : l.length ≤ 5)
    (h1 : ∀ k x (i : Nat) (hi : i < l.length), 0 ≤ x → x ≤ 4294967295 → L (k + 1) x (i : Int) = L k (256 * x + l[i]) ((i + 1 : Nat) : Int)) (r : β) (hE : Evt (fun k => L k (valL l) (l.length : Int)) r) :
    ∀ (m i : Nat) (x : Int), l.length - i = m → i ≤ l.length → 0 ≤ x → x < 256 ^ i → (l.drop i).foldl valF x = valL l → Evt (fun k => L k x (i : Int)) r := by
  intro m
  induction m with
  | zero =>
    intro i x hm hi h0 hx hv
    obtain rfl : i = l.length := by omega
    rw [List.drop_length] at hv
    obtain rfl : x = valL l := hv
    exact hE
  | succ m ih =>
    intro i x hm hi h0 hx hv
    have hil : i < l.length := by omega
    have h4 : (256 : Int) ^ i ≤ 256 ^ 4 := pow_le (by omega)
    have h5 : (256 : Int) ^ 4 = 4294967296 := by decide
    have hp : (256 : Int) ^ (i + 1) = 256 ^ i * 256 := Int.pow_succ 256 i
    have hb := hl _ (List.getElem_mem hil)
    rw [List.drop_eq_getElem_cons hil, List.foldl_cons] at hv
    exact Evt.succ ((ih (i + 1) (256 * x + l[i]) (by omega) (by omega) (by omega) (by omega) hv).eq (fun k => h1 k x i hil h0 (by omega)))
theorem or_val (x b : Int) (h0 : 0 ≤ x) (h1 : x ≤ 4294967295) (b0 : 0 ≤ b) (b1 : b ≤ 255) : Go.bits .or .i64 (wrap64 (x * 256)) (wrap64 b) = 256 * x + b := by
  rw [w_id b0 b1, show wrap64 (x * 256) = x * 256 from w64 (by omega) (by omega)]
  have e : (2 : Int) ^ 63 = 9223372036854775808 := by decide
  have e8 : (2 : Int) ^ 8 = 256 := by decide
  rw [bits_join .i64 63 (by decide) (fun n g0 g1 => by rw [IntKind.wrap_i64]; omega) 8 (x * 256) b (by omega) (by omega) (by omega) b0 (by omega) (by omega)]
  omega
def be0 (n : Nat) : List Int := if h : n = 0 then [] else be0 (n / 256) ++ [((n % 256 : Nat) : Int)]
termination_by n
decreasing_by omega
theorem be_ex (n : Nat) : ∃ l, l = be0 n := ⟨_, rfl⟩
noncomputable def be (n : Nat) : List Int := Classical.choose (be_ex n)
theorem be_def (n : Nat) : be n = be0 n := Classical.choose_spec (be_ex n)
theorem be_zero : be 0 = [] := by rw [be_def, be0, dif_pos rfl]
theorem be_pos {n : Nat} (h : 0 < n) : be n = be (n / 256) ++ [((n % 256 : Nat) : Int)] := by rw [be_def n, be_def (n / 256), be0, dif_neg (by omega)]
theorem be_byt (n : Nat) : Byt (be n) := by
  induction n using Nat.strongRecOn with
  | _ n ih =>
  rcases Nat.eq_zero_or_pos n with rfl | h
  · rw [be_zero]; exact Byt.nil
  · rw [be_pos h]
    exact (ih _ (by omega)).app (Byt.cons (by omega) (by omega) Byt.nil)
theorem be_val (n : Nat) : valL (be n) = n := by
  induction n using Nat.strongRecOn with
  | _ n ih =>
  rcases Nat.eq_zero_or_pos n with rfl | h
  · rw [be_zero]; rfl
  · rw [be_pos h, valL_snoc, ih _ (by omega)]
    omega
theorem be_len : ∀ (d n : Nat), n < 256 ^ d → (be n).length ≤ d
  | d, n, h => by
    rcases Nat.eq_zero_or_pos n with rfl | hp
    · rw [be_zero]; simp
    · cases d with
      | zero => simp at h; omega
      | succ d =>
        have h1 : 256 ^ (d + 1) = 256 ^ d * 256 := Nat.pow_succ _ _
        have := be_len d (n / 256) (by omega)
        rw [be_pos hp, List.length_append, List.length_singleton]
        omega
theorem be_ne {n : Nat} (h : 0 < n) : 0 < (be n).length := by rw [be_pos h, List.length_append, List.length_singleton]; omega
theorem be_snoc {n : Nat} {b : Int} (h0 : 0 ≤ b) (h1 : b ≤ 255) (h : 0 < 256 * n + b.toNat) : be (256 * n + b.toNat) = be n ++ [b] := by
  rw [be_pos h, show (256 * n + b.toNat) / 256 = n by omega, show (256 * n + b.toNat) % 256 = b.toNat by omega]
  congr 2
  omega
theorem be_fold : ∀ (l : List Int) (n : Nat), Byt l → 0 < n → be (l.foldl valF (n : Int)).toNat = be n ++ l
  | [], n, _, _ => by simp
  | b :: l, n, hl, hn => by
    have hb := hl b List.mem_cons_self
    have e : valF (n : Int) b = ((256 * n + b.toNat : Nat) : Int) := by unfold valF; omega
    rw [List.foldl_cons, e, be_fold l _ (fun y hy => hl y (List.mem_cons_of_mem _ hy)) (by omega), be_snoc hb.1 hb.2 (by omega), List.append_assoc]
    rfl
theorem be_of {b : Int} {l : List Int} (hl : Byt (b :: l)) (hb : 0 < b) : be (valL (b :: l)).toNat = b :: l := by
  have h := hl b List.mem_cons_self
  have e : valL (b :: l) = l.foldl valF ((b.toNat : Nat) : Int) := by
    show l.foldl valF (valF 0 b) = _
    congr 1
    unfold valF
    omega
  rw [e, be_fold l b.toNat (fun y hy => hl y (List.mem_cons_of_mem _ hy)) (by omega)]
  have := be_snoc (n := 0) h.1 h.2 (by omega)
  rw [Nat.mul_zero, Nat.zero_add, be_zero] at this
  rw [this]
  rfl
theorem hdL_ex (n : Nat) : ∃ l : List Int, l = if n < 128 then [(n : Int)] else (128 + ((be n).length : Int)) :: be n := ⟨_, rfl⟩
noncomputable def hdL (n : Nat) : List Int := Classical.choose (hdL_ex n)
theorem hdL_def (n : Nat) : hdL n = if n < 128 then [(n : Int)] else (128 + ((be n).length : Int)) :: be n := Classical.choose_spec (hdL_ex n)
theorem hd_byt {n : Nat} (h : n < 256 ^ 8) : Byt (hdL n) := by
  have := be_len 8 n h
  rw [hdL_def]
  split
  · exact Byt.cons (by omega) (by omega) Byt.nil
  · exact Byt.cons (by omega) (by omega) (be_byt n)
theorem hd_len {n : Nat} (h : n < 256 ^ 8) : (hdL n).length ≤ 9 := by
  have := be_len 8 n h
  rw [hdL_def]
  split <;> simp
  omega
theorem len_v : ∀ (d x : Nat) (l : List Int), x < 256 ^ d → x ≤ 4611686018427387904 → l.length + d ≤ 1000 → ∀ k, d < k →
    spec_l07Length.l0 k (x : Int) (strOfNums l) = some (strOfNums ([wrap64 (128 + ((be x ++ l).length : Int)) % 256] ++ (be x ++ l)))
  | d, x, l, h, hx, hl, k, hk => by
    obtain ⟨k, rfl⟩ : ∃ q, k = q + 1 := ⟨k - 1, by omega⟩
    have es2 : (strOfNums l).size = l.length := strOfNums_size l
    rcases Nat.eq_zero_or_pos x with rfl | hp
    · have es : (strOfNums ([wrap64 (128 + ((strOfNums l).size : Int)) % 256] : List Int)).size = 1 := strOfNums_size _
      rw [spec_l07Length.l0, if_neg (by omega), if_pos (by omega), be_zero, List.nil_append, sn_app, es2]
    · cases d with
      | zero => simp at h; omega
      | succ d =>
        have e1 : Int.tmod (x : Int) 256 % 256 = ((x % 256 : Nat) : Int) := by rw [Int.tmod_eq_emod_of_nonneg (by omega)]; omega
        have e2 : wrap64 (Int.tdiv (x : Int) 256) = ((x / 256 : Nat) : Int) := by rw [Int.tdiv_eq_ediv_of_nonneg (by omega)]; unfold wrap64; omega
        have h1 : 256 ^ (d + 1) = 256 ^ d * 256 := Nat.pow_succ _ _
        have es : (strOfNums ([((x % 256 : Nat) : Int)] : List Int)).size = 1 := strOfNums_size _
        have ih := len_v d (x / 256) ([((x % 256 : Nat) : Int)] ++ l) (by omega) (by omega) (by simp; omega) k (by omega)
        rw [spec_l07Length.l0, if_pos (by omega), e1, if_pos (by omega), e2, ← sn_app, ih, be_pos hp, List.append_assoc]
theorem len_e {n : Nat} (h : n ≤ 4611686018427387904) : Evt (fun k => spec_l07Length.f k (n : Int)) (strOfNums (hdL n)) := by
  rw [hdL_def]
  by_cases c : n < 128
  · rw [if_pos c]
    refine .of fun k => ?_
    unfold spec_l07Length.f
    rw [if_pos (by omega), show (n : Int) % 256 = (n : Int) by omega]
  · rw [if_neg c]
    have h8 : n < 256 ^ 8 := by rw [show 256 ^ 8 = 18446744073709551616 from by decide]; omega
    have hb := be_len 8 n h8
    refine .at_ 9 fun k hk => ?_
    unfold spec_l07Length.f
    rw [if_neg (by omega)]
    have := len_v 8 n [] h8 h (by simp) k (by omega)
    rw [List.append_nil, show wrap64 (128 + ((be n).length : Int)) % 256 = 128 + ((be n).length : Int) by rw [w64 (by omega) (by omega)]; omega] at this
    exact this
noncomputable def tl0 : S66 → List Int
  | ⟨t, s, ks⟩ => (t % 256) :: (hdL (bytesOf s ++ (if t = 48 then (ks.attach.map fun ⟨y, _⟩ => tl0 y).flatten else [])).length ++ (bytesOf s ++ (if t = 48 then (ks.attach.map fun ⟨y, _⟩ => tl0 y).flatten else [])))
theorem tl_ex (x : S66) : ∃ l, l = tl0 x := ⟨_, rfl⟩
noncomputable def tl (x : S66) : List Int := Classical.choose (tl_ex x)
theorem tl_def (x : S66) : tl x = tl0 x := Classical.choose_spec (tl_ex x)
theorem body_ex (x : S66) : ∃ l, l = bytesOf x.f1 ++ (if x.f0 = 48 then (x.f2.map tl).flatten else []) := ⟨_, rfl⟩
noncomputable def body (x : S66) : List Int := Classical.choose (body_ex x)
theorem body_def (x : S66) : body x = bytesOf x.f1 ++ (if x.f0 = 48 then (x.f2.map tl).flatten else []) := Classical.choose_spec (body_ex x)
theorem tl_eq (x : S66) : tl x = (x.f0 % 256) :: (hdL (body x).length ++ body x) := by
  have hf : tl = tl0 := funext tl_def
  rw [body_def, tl_def, hf]
  cases x with
  | mk t s ks =>
    rw [tl0]
    simp only [show (ks.attach.map fun x => tl0 x.val) = ks.map tl0 from by simp]
theorem tl_len {x : S66} : sz x ≤ 35184372088832 → (tl x).length ≤ sz x ∧ (body x).length + 16 ≤ sz x + 0 ∧ Byt (tl x) ∧ Byt (body x) := by
  suffices H : ∀ n (x : S66), sz x = n → sz x ≤ 35184372088832 → (tl x).length ≤ sz x ∧ (body x).length + 16 ≤ sz x + 0 ∧ Byt (tl x) ∧ Byt (body x) from H _ x rfl
  intro n
  induction n using Nat.strongRecOn with
  | _ n ih =>
  intro x hx hs
  have hz := sz_eq x
  have kid := fun (y : S66) (hy : y ∈ x.f2) => ih (sz y) (by have := sz_kid hy; omega) y rfl (by have := sz_kid hy; omega)
  have hsum : ∀ l : List S66, (∀ y ∈ l, y ∈ x.f2) → ((l.map tl).flatten).length ≤ (l.map sz).sum ∧ Byt (l.map tl).flatten := by
    intro l
    induction l with
    | nil => exact fun _ => ⟨by simp, Byt.nil⟩
    | cons y l ihl =>
      intro h
      have h1 := kid y (h y List.mem_cons_self)
      have h2 := ihl (fun z hz => h z (List.mem_cons_of_mem _ hz))
      simp only [List.map_cons, List.flatten_cons, List.length_append, List.sum_cons]
      exact ⟨by omega, h1.2.2.1.app h2.2⟩
  have hk := hsum x.f2 (fun _ h => h)
  have hb : (body x).length + 16 ≤ sz x ∧ Byt (body x) := by
    rw [body_def]
    split
    · exact ⟨by rw [List.length_append, bytesOf_length]; omega, (byt_bytes _).app hk.2⟩
    · exact ⟨by rw [List.append_nil, bytesOf_length]; omega, by rw [List.append_nil]; exact byt_bytes _⟩
  have h8 : (body x).length < 256 ^ 8 := by rw [show 256 ^ 8 = 18446744073709551616 from by decide]; omega
  have hd := hd_len h8
  rw [tl_eq]
  refine ⟨by rw [List.length_cons, List.length_append]; omega, by omega, Byt.cons (by omega) (by omega) ((hd_byt h8).app hb.2), hb.2⟩
theorem text_v : ∀ (n : Nat) (x : S66), sz x = n → sz x ≤ 35184372088832 → Evt (fun k => spec_l07Text.f k x) (strOfNums (tl x)) := by
  intro n
  induction n using Nat.strongRecOn with
  | _ n ih =>
  intro x hx hs
  have hl := sz_len x
  have hb := tl_len hs
  have he := len_e (n := (body x).length) (by omega)
  have e1 : (strOfNums ([(x.f0 % 256)] : List Int)).size = 1 := strOfNums_size _
  have h8 : (body x).length < 256 ^ 8 := by rw [show 256 ^ 8 = 18446744073709551616 from by decide]; omega
  have hd := hd_len h8
  have fin : ∀ s : ByteArray, s = strOfNums (body x) → Evt (fun k => ((spec_l07Length.f k (s.size : Int)).bind fun t1 => (if (strOfNums ([(x.f0 % 256)] : List Int)).size + t1.size ≤ 9223372036854775807 then (if ((strOfNums ([(x.f0 % 256)] : List Int)) ++ t1).size + s.size ≤ 9223372036854775807 then (some (((strOfNums ([(x.f0 % 256)] : List Int)) ++ t1) ++ s)) else none) else none))) (strOfNums (tl x)) := by
    rintro s rfl
    refine Evt.bind (a := strOfNums (hdL (body x).length)) (he.eq (fun k => by rw [sn_size])) (Evt.eq Evt.now (fun k => ?_))
    rw [if_pos (by rw [e1, sn_size]; omega), if_pos (by rw [ByteArray.size_append, e1, sn_size, sn_size]; omega), tl_eq, ← sn_app, ← sn_app]
    rfl
  by_cases c48 : x.f0 = 48
  · have hbody : body x = bytesOf x.f1 ++ (x.f2.map tl).flatten := by rw [body_def]; rw [if_pos c48]
    have key : ∀ (m i : Nat), x.f2.length - i = m → i ≤ x.f2.length → Evt (fun k => spec_l07Text.l0 k (strOfNums (bytesOf x.f1 ++ ((x.f2.take i).map tl).flatten)) (i : Int) x) (strOfNums (tl x)) := by
      intro m
      induction m with
      | zero =>
        intro i hm hi
        obtain rfl : i = x.f2.length := by omega
        refine Evt.succ ((fin (strOfNums (bytesOf x.f1 ++ ((x.f2.take x.f2.length).map tl).flatten)) (by rw [List.take_length, hbody])).eq (fun k => ?_))
        rw [spec_l07Text.l0, if_neg (by omega)]
      | succ m ihm =>
        intro i hm hi
        have hil : i < x.f2.length := by omega
        have hkid := sz_kid (List.getElem_mem hil)
        have hk := ih (sz x.f2[i]) (by omega) x.f2[i] rfl (by omega)
        have h2 : ((x.f2.take (i + 1)).map tl).flatten = ((x.f2.take i).map tl).flatten ++ tl x.f2[i] := by
          rw [List.take_succ_eq_append_getElem hil]
          simp only [List.map_append, List.map_cons, List.map_nil, List.flatten_append, List.flatten_cons, List.flatten_nil, List.append_nil]
        have hle : (((x.f2.take (i + 1)).map tl).flatten).length ≤ ((x.f2.map tl).flatten).length := by
          have : x.f2.map tl = (x.f2.take (i + 1)).map tl ++ (x.f2.drop (i + 1)).map tl := by rw [← List.map_append, List.take_append_drop]
          rw [this, List.flatten_append, List.length_append]
          omega
        have hbl := hb.2.1
        rw [hbody, List.length_append] at hbl
        have st : Evt (fun k => (spec_l07Text.f k x.f2[i]).bind fun t => if (strOfNums (bytesOf x.f1 ++ ((x.f2.take i).map tl).flatten)).size + t.size ≤ 9223372036854775807 then spec_l07Text.l0 k (strOfNums (bytesOf x.f1 ++ ((x.f2.take i).map tl).flatten) ++ t) ((i + 1 : Nat) : Int) x else none) (strOfNums (tl x)) := by
          refine Evt.bind hk ?_
          have := ihm (i + 1) (by omega) (by omega)
          refine this.eq (fun k => ?_)
          rw [if_pos (by rw [sn_size, sn_size]; rw [h2] at hle; simp only [List.length_append] at hle ⊢; omega), h2, ← sn_app, List.append_assoc]
        clear hle hbl h2 hb hd h8
        refine Evt.succ (Evt.eq st (fun k => ?_))
        rw [spec_l07Text.l0, if_pos (by omega), if_pos (by omega), if_pos (by omega), rdit _ i hil, show wrap64 ((i : Int) + 1) = ((i + 1 : Nat) : Int) by rw [w64 (by omega) (by omega)]; rfl]
    refine Evt.succ ((key _ 0 rfl (by omega)).eq (fun k => ?_))
    rw [spec_l07Text.f, if_pos c48]
    simp only [List.take_zero, List.map_nil, List.flatten_nil, List.append_nil, sn_bytes]
    rfl
  · have hbody : body x = bytesOf x.f1 := by rw [body_def]; rw [if_neg c48, List.append_nil]
    refine Evt.succ ((fin x.f1 (by rw [hbody, sn_bytes])).eq (fun k => ?_))
    rw [spec_l07Text.f, if_neg c48]
def Ok (x : S66) (d : Int) : Prop := Evt (fun k => spec_l07Right.f k x d) true
def Small (x : S66) : Prop := sz x ≤ 35184372088832
theorem ok_kids {x : S66} (hs : Small x) {d : Int} (d0 : 0 ≤ d) (d1 : d + 1 ≤ 6) : ∀ (m i : Nat), x.f2.length - i = m → i ≤ x.f2.length → Evt (fun k => spec_l07Right.l0 k (i : Int) x d) true → ∀ j, i ≤ j → ∀ hj : j < x.f2.length, Ok x.f2[j] (d + 1) := by
  have hl := sz_len x
  intro m
  induction m with
  | zero => intro i hm hi _ j h1 h2; omega
  | succ m ih =>
    intro i hm hi h j h1 h2
    have hil : i < x.f2.length := by omega
    have hs' : sz x ≤ 35184372088832 := hs
    have e1 : wrap64 ((i : Int) + 1) = ((i + 1 : Nat) : Int) := by rw [w64 (by omega) (by omega)]; rfl
    have ed : wrap64 (d + 1) = d + 1 := w64 (by omega) (by omega)
    have hk := sz_kid (List.getElem_mem hil)
    obtain ⟨b, b1, _⟩ := item (sz x.f2[i]) (by omega) x.f2[i] (Nat.le_refl _) (d + 1) (by omega) d1
    have h' : Evt (fun k => (spec_l07Right.f k x.f2[i] (d + 1)).bind fun t => if t = true then spec_l07Right.l0 k ((i + 1 : Nat) : Int) x d else some false) true :=
      Evt.pred h (fun k => by rw [spec_l07Right.l0, if_pos (by omega), if_pos (by omega), if_pos (by omega), rdit _ i hil, ed, e1])
    have h3 := Evt.unbind h' b1
    cases b with
    | false => exact absurd (Evt.uniq h3 (Evt.eq Evt.now (fun k => if_neg (by simp)))) (by simp)
    | true =>
      by_cases hji : j = i
      · subst hji; exact b1
      · exact ih (i + 1) (by omega) (by omega) (h3.eq (fun k => (if_pos rfl).symm)) j (by omega) h2
theorem ok_list {x : S66} (hs : Small x) {d : Int} (d0 : 0 ≤ d) (h : Ok x d) (c48 : x.f0 = 48) : x.f1 = (⟨#[]⟩ : ByteArray) ∧ x.f2.length ≤ 40 ∧ d + 1 ≤ 6 ∧ ∀ j, ∀ hj : j < x.f2.length, Ok x.f2[j] (d + 1) := by
  by_cases cn : x.f1.toList = ([] : List UInt8)
  · by_cases c40 : 40 < (x.f2.length : Int)
    · exact absurd (Evt.uniq h (Evt.succ (Evt.eq Evt.now (fun k => by rw [spec_l07Right.f, if_pos c48, if_pos cn, if_pos c40])))) (by simp)
    · by_cases c6 : 6 ≤ d
      · exact absurd (Evt.uniq h (Evt.succ (Evt.eq Evt.now (fun k => by rw [spec_l07Right.f, if_pos c48, if_pos cn, if_neg c40, if_pos c6])))) (by simp)
      · have h1 : Evt (fun k => spec_l07Right.l0 k ((0 : Nat) : Int) x d) true := Evt.pred h (fun k => by rw [spec_l07Right.f, if_pos c48, if_pos cn, if_neg c40, if_neg c6]; rfl)
        exact ⟨empty_eq (ba_nil.1 cn), by omega, by omega, fun j hj => ok_kids hs d0 (by omega) _ 0 rfl (by omega) h1 j (by omega) hj⟩
  · exact absurd (Evt.uniq h (Evt.succ (Evt.eq Evt.now (fun k => by rw [spec_l07Right.f, if_pos c48, if_neg cn])))) (by simp)
def IntForm (s : ByteArray) : Prop := 1 ≤ s.size ∧ s.size ≤ 5 ∧ bt s 0 < 128 ∧ (bt s 0 = 0 → s.size = 1 ∨ 128 ≤ bt s 1)
theorem ok_plain {x : S66} {d : Int} (h : Ok x d) (c48 : x.f0 ≠ 48) : x.f2 = [] ∧ (x.f0 = 1 ∨ x.f0 = 2 ∨ x.f0 = 4 ∨ x.f0 = 12) ∧ (x.f0 = 2 → IntForm x.f1) := by
  by_cases ck : (x.f2.length : Int) = 0
  · have h1 : Evt (fun k => (spec_l07Plain.f k x).bind fun t => some t) true := Evt.pred h (fun k => by rw [spec_l07Right.f, if_neg c48, if_pos ck])
    have h2 : Evt (fun k => spec_l07Plain.f k x) true := h1.eq (fun k => by cases spec_l07Plain.f k x <;> rfl)
    refine ⟨List.eq_nil_of_length_eq_zero (by omega), ?_⟩
    by_cases t1 : x.f0 = 1
    · exact ⟨.inl t1, fun h => by omega⟩
    by_cases t2 : x.f0 = 2
    · refine ⟨.inr (.inl t2), fun _ => ?_⟩
      by_cases w : (1 : Int) ≤ (x.f1.size : Int) ∧ (x.f1.size : Int) ≤ 5
      · have w0 : 0 < (x.f1.size : Int) := by omega
        by_cases hb : 128 ≤ bt x.f1 0
        · refine absurd (Evt.uniq h2 (Evt.of fun k => ?_)) (show true ≠ false by simp)
          unfold spec_l07Plain.f
          rw [if_neg t1, if_pos t2, in_f, decide_eq_true w, Option.bind_some, if_pos rfl, if_pos w0, if_pos hb]
        · refine ⟨by omega, by omega, by omega, fun hz0 => ?_⟩
          by_cases h1 : (x.f1.size : Int) = 1
          · exact .inl (by omega)
          · have h3 : 1 < (x.f1.size : Int) := by omega
            have := Evt.uniq h2 (Evt.of (r := decide (128 ≤ bt x.f1 1)) fun k => by
              unfold spec_l07Plain.f
              rw [if_neg t1, if_pos t2, in_f, decide_eq_true w, Option.bind_some, if_pos rfl, if_pos w0, if_neg hb, if_pos hz0, if_neg h1, if_pos h3])
            exact .inr (of_decide_eq_true this.symm)
      · refine absurd (Evt.uniq h2 (Evt.of fun k => ?_)) (show true ≠ false by simp)
        unfold spec_l07Plain.f
        rw [if_neg t1, if_pos t2, in_f, decide_eq_false w, Option.bind_some, if_neg (by simp)]
    by_cases t12 : x.f0 = 12
    · exact ⟨.inr (.inr (.inr t12)), fun h => by omega⟩
    have := Evt.uniq h2 (Evt.of (r := (x.f0 == 4)) fun k => by
      unfold spec_l07Plain.f
      rw [if_neg t1, if_neg t2, if_neg t12])
    exact ⟨.inr (.inr (.inl (by simpa using this.symm))), fun h => by omega⟩
  · exact absurd (Evt.uniq h (Evt.succ (Evt.eq Evt.now (fun k => by rw [spec_l07Right.f, if_neg c48, if_neg ck])))) (by simp)
theorem ok_tag {x : S66} {d : Int} (h : Ok x d) : 0 ≤ x.f0 ∧ x.f0 ≤ 48 := by
  by_cases c48 : x.f0 = 48
  · omega
  · have := (ok_plain h c48).2.1
    omega
theorem ok_mk {x : S66} {d : Int} (h : Ok x d) (hs : Small x) (d0 : 0 ≤ d) : (x.f0 = 48 ∧ body x = (x.f2.map tl).flatten ∧ x = ⟨48, (⟨#[]⟩ : ByteArray), x.f2⟩) ∨ (x.f0 ≠ 48 ∧ body x = bytesOf x.f1 ∧ x = ⟨x.f0, x.f1, []⟩) := by
  by_cases c48 : x.f0 = 48
  · obtain ⟨h1, _⟩ := ok_list hs d0 h c48
    refine .inl ⟨c48, ?_, ?_⟩
    · rw [body_def]
      rw [if_pos c48, h1]
      rfl
    · cases x
      simp only at c48 h1
      rw [c48, h1]
  · obtain ⟨h1, _⟩ := ok_plain h c48
    refine .inr ⟨c48, ?_, ?_⟩
    · rw [body_def]
      rw [if_neg c48, List.append_nil]
    · cases x
      simp only at h1
      rw [h1]
theorem readLen {n : Nat} (hn : n < 65536) {rest : List Int} (hr : Byt rest) (hl : rest.length ≤ 1073741824) :
    Evt (fun k => impl_readLength.f k (strOfNums (hdL n ++ rest))) ((n : Int), strOfNums rest, true) := by
  have h8 : n < 256 ^ 8 := by rw [show 256 ^ 8 = 18446744073709551616 from by decide]; omega
  have hby := (hd_byt h8).app hr
  have hdl := hd_len h8
  have hsz : (strOfNums (hdL n ++ rest)).size = (hdL n).length + rest.length := by rw [sn_size, List.length_append]
  by_cases c : n < 128
  · have e : hdL n = [(n : Int)] := by rw [hdL_def]; rw [if_pos c]
    have b0 : bt (strOfNums (hdL n ++ rest)) 0 = n := by
      have := sn_get hby 0 (by rw [e]; simp)
      rw [show ((0 : Nat) : Int) = 0 from rfl] at this
      rw [this]
      simp [e]
    refine .of fun k => ?_
    unfold impl_readLength.f
    rw [if_neg (fun h => by have := ba_nil.1 h; rw [hsz, e, List.length_singleton] at this; omega), if_pos (by rw [hsz, e]; simp; omega), if_pos (by rw [b0]; omega), if_pos (by rw [hsz, e]; simp; omega), b0, w_id (by omega) (by omega), sn_extract, sn_size]
    congr 3
    rw [e]
    simp
  · have e : hdL n = (128 + ((be n).length : Int)) :: be n := by rw [hdL_def]; rw [if_neg c]
    have hb1 := be_len 2 n (by omega)
    have hb0 := be_ne (n := n) (by omega)
    have b0 : bt (strOfNums (hdL n ++ rest)) 0 = 128 + ((be n).length : Int) := by
      have := sn_get hby 0 (by rw [e]; simp)
      rw [show ((0 : Nat) : Int) = 0 from rfl] at this
      rw [this]
      simp [e]
    have w1 : wrap64 (bt (strOfNums (hdL n ++ rest)) 0) = 128 + ((be n).length : Int) := by rw [b0]; exact w64 (by omega) (by omega)
    have w2 : wrap64 (128 + ((be n).length : Int) - 128) = ((be n).length : Int) := by rw [w64 (by omega) (by omega)]; omega
    have w3 : wrap64 (1 + ((be n).length : Int)) = 1 + ((be n).length : Int) := w64 (by omega) (by omega)
    have wp : wrap64 (1 + wrap64 (wrap64 (bt (strOfNums (hdL n ++ rest)) 0) - 128)) = ((1 + (be n).length : Nat) : Int) := by rw [w1, w2, w3]; omega
    have ex1 : (strOfNums (hdL n ++ rest)).extract 1 (1 + (be n).length) = strOfNums (be n) := by
      rw [sn_extract, e]
      congr 1
      simp
    have ex2 : (strOfNums (hdL n ++ rest)).extract (1 + (be n).length) (strOfNums (hdL n ++ rest)).size = strOfNums rest := by
      rw [sn_extract, sn_size, e]
      congr 1
      simp only [List.cons_append, List.length_cons, List.length_append]
      rw [show 1 + (be n).length = (be n).length + 1 by omega, List.drop_succ_cons, List.drop_left, List.take_of_length_le (by omega)]
    have hsz2 : (strOfNums (hdL n ++ rest)).size = 1 + (be n).length + rest.length := by rw [hsz, e, List.length_cons]; omega
    have hy : (strOfNums (be n)).size = (be n).length := sn_size _
    have loop : Evt (fun k => impl_readLength.l0 k 0 ((0 : Nat) : Int) (strOfNums (hdL n ++ rest)) (strOfNums (be n))) ((n : Int), strOfNums rest, true) := by
      refine val_loop (fun k x i => impl_readLength.l0 k x i (strOfNums (hdL n ++ rest)) (strOfNums (be n))) (be_byt n) (by omega) (fun k x i hi x0 x1 => ?_) _ (Evt.succ (Evt.of fun k => ?_)) _ 0 0 rfl (by omega) (by omega) (by decide) rfl
      · have hb := be_byt n _ (List.getElem_mem hi)
        show impl_readLength.l0 (k + 1) x (i : Int) _ _ = _
        rw [impl_readLength.l0, if_pos (by rw [hy]; omega), if_pos (by omega), if_pos (by rw [hy]; omega), bytes_sn (be_byt n), rdI_ _ i hi, or_val x _ x0 x1 hb.1 hb.2, show wrap64 ((i : Int) + 1) = ((i + 1 : Nat) : Int) by rw [w64 (by omega) (by omega)]; rfl]
      · show impl_readLength.l0 (k + 1) _ _ _ _ = _
        rw [impl_readLength.l0, if_neg (by rw [hy]; omega), wp, if_pos (by omega), be_val, Int.toNat_natCast, ex2]
    refine loop.eq (fun k => ?_)
    unfold impl_readLength.f
    rw [if_neg (fun h => by have := ba_nil.1 h; omega), if_pos (by omega), if_neg (by rw [b0]; omega), if_neg (by rw [w1, w2]; omega), wp, if_neg (by omega), if_pos (by omega), if_pos (by omega), Int.toNat_natCast, ex1]
    simp only [lets]
    rw [if_pos (by rw [hy]; omega)]
    rfl
theorem read_g : ∀ (n : Nat) (x : S66), sz x = n → Small x → ∀ (d : Int) (rest : List Int), 0 ≤ d → d ≤ 6 → Ok x d → Byt rest → (tl x).length + rest.length ≤ 65535 →
    Evt (fun k => impl_readItem.f k (strOfNums (tl x ++ rest)) d) (x, strOfNums rest, true) := by
  intro n
  induction n using Nat.strongRecOn with
  | _ n ih =>
  intro x hx hs d rest d0 d1 hok hr hl
  have hs' : sz x ≤ 35184372088832 := hs
  have hb := tl_len hs'
  have ht := tl_eq x
  have htag := ok_tag hok
  have hm : (x.f0 % 256) = x.f0 := by omega
  rw [hm] at ht
  have hlen : (tl x).length = 1 + (hdL (body x).length).length + (body x).length := by rw [ht, List.length_cons, List.length_append]; omega
  have hby : Byt (tl x ++ rest) := hb.2.2.1.app hr
  have hsz : (strOfNums (tl x ++ rest)).size = (tl x).length + rest.length := by rw [sn_size, List.length_append]
  have b0 : bt (strOfNums (tl x ++ rest)) 0 = x.f0 := by
    have := sn_get hby 0 (by rw [List.length_append]; omega)
    rw [show ((0 : Nat) : Int) = 0 from rfl] at this
    rw [this]
    simp [ht]
  have w0 : wrap64 (bt (strOfNums (tl x ++ rest)) 0) = x.f0 := by rw [b0]; exact w_id (by omega) (by omega)
  have ex : (strOfNums (tl x ++ rest)).extract 1 (strOfNums (tl x ++ rest)).size = strOfNums (hdL (body x).length ++ (body x ++ rest)) := by
    rw [sn_extract, sn_size, ht]
    congr 1
    simp only [List.cons_append, List.drop_succ_cons, List.drop_zero, List.length_cons, List.append_assoc]
    rw [List.take_of_length_le (by omega)]
  have hrl := readLen (n := (body x).length) (by omega) (hb.2.2.2.app hr) (by rw [List.length_append]; omega)
  rw [← ex] at hrl
  have hsz2 : (strOfNums (body x ++ rest)).size = (body x).length + rest.length := by rw [sn_size, List.length_append]
  have ex1 : (strOfNums (body x ++ rest)).extract 0 (body x).length = strOfNums (body x) := by
    rw [sn_extract]
    congr 1
    simp
  have ex2 : (strOfNums (body x ++ rest)).extract (body x).length (strOfNums (body x ++ rest)).size = strOfNums rest := by
    rw [sn_extract, hsz2]
    congr 1
    rw [List.drop_left, List.take_of_length_le (by omega)]
  have start : ∀ g : Nat → Option (S66 × ByteArray × Bool), (∀ k, g k = (if x.f0 = 48 then (impl_readItem.l0 k [] (strOfNums (body x)) (strOfNums (tl x ++ rest)) d ((((body x).length : Nat) : Int), strOfNums (body x ++ rest), true)) else (some ((⟨x.f0, (strOfNums (body x)), ([] : List S66)⟩ : S66), strOfNums rest, true)))) →
      Evt g (x, strOfNums rest, true) → Evt (fun k => impl_readItem.f k (strOfNums (tl x ++ rest)) d) (x, strOfNums rest, true) := by
    intro g hg hE
    refine Evt.succ (Evt.eq (Evt.bind hrl (g := fun k t17 => (if t17.2.2 = true then (if (t17.2.1.size : Int) < t17.1 then (some ((⟨0, (⟨#[]⟩ : ByteArray), ([] : List S66)⟩ : S66), (⟨#[]⟩ : ByteArray), false)) else (if 0 ≤ t17.1 then (if t17.1 ≤ (t17.2.1.size : Int) then (if (wrap64 (bt (strOfNums (tl x ++ rest)) 0)) = 48 then (impl_readItem.l0 k [] (t17.2.1.extract 0 (t17.1).toNat) (strOfNums (tl x ++ rest)) d t17) else (some ((⟨(wrap64 (bt (strOfNums (tl x ++ rest)) 0)), (t17.2.1.extract 0 (t17.1).toNat), ([] : List S66)⟩ : S66), (t17.2.1.extract (t17.1).toNat t17.2.1.size), true))) else none) else none)) else (some ((⟨0, (⟨#[]⟩ : ByteArray), ([] : List S66)⟩ : S66), (⟨#[]⟩ : ByteArray), false)))) ?_) (fun k => ?_))
    · refine hE.eq (fun k => ?_)
      simp only [if_true]
      rw [if_neg (by rw [hsz2]; omega), if_pos (by omega), if_pos (by rw [hsz2]; omega), Int.toNat_natCast, ex1, ex2, w0, hg k]
    · rw [impl_readItem.f, if_neg (fun h => by have := ba_nil.1 h; omega), if_neg (by omega), if_pos (by omega), if_pos (by omega)]
  rcases ok_mk hok hs d0 with ⟨c48, hbody, hmk⟩ | ⟨c48, hbody, hmk⟩
  · obtain ⟨_, h40, hd, hkids⟩ := ok_list hs d0 hok c48
    have ed : wrap64 (d + 1) = d + 1 := w64 (by omega) (by omega)
    have hlk := sz_len x
    have key : ∀ (m i : Nat), x.f2.length - i = m → i ≤ x.f2.length → Evt (fun k => impl_readItem.l0 k (x.f2.take i) (strOfNums ((x.f2.drop i).map tl).flatten) (strOfNums (tl x ++ rest)) d ((((body x).length : Nat) : Int), strOfNums (body x ++ rest), true)) (x, strOfNums rest, true) := by
      intro m
      induction m with
      | zero =>
        intro i hm hi
        obtain rfl : i = x.f2.length := by omega
        refine Evt.succ (Evt.eq Evt.now (fun k => ?_))
        rw [impl_readItem.l0, if_pos (ba_nil.2 (by rw [sn_size]; simp)), w0, c48, List.take_length, Int.toNat_natCast, ex2, ← hmk]
      | succ m ihm =>
        intro i hm hi
        have hil : i < x.f2.length := by omega
        have hkid := sz_kid (List.getElem_mem hil)
        have hks : Small x.f2[i] := by show sz _ ≤ _; omega
        have hkt := tl_len (x := x.f2[i]) (by omega)
        have hdrop : ((x.f2.drop i).map tl).flatten = tl x.f2[i] ++ ((x.f2.drop (i + 1)).map tl).flatten := by rw [List.drop_eq_getElem_cons hil]; simp only [List.map_cons, List.flatten_cons]
        have hsub : ((x.f2.drop i).map tl).flatten.length ≤ (body x).length ∧ Byt ((x.f2.drop i).map tl).flatten := by
          have h1 : x.f2.map tl = (x.f2.take i).map tl ++ (x.f2.drop i).map tl := by rw [← List.map_append, List.take_append_drop]
          have h2 : body x = ((x.f2.take i).map tl).flatten ++ ((x.f2.drop i).map tl).flatten := by rw [hbody, h1, List.flatten_append]
          have h3 := hb.2.2.2
          rw [h2] at h3 ⊢
          exact ⟨by rw [List.length_append]; omega, fun y hy => h3 y (List.mem_append_right _ hy)⟩
        have hby2 : Byt ((x.f2.drop (i + 1)).map tl).flatten := fun y hy => hsub.2 y (by rw [hdrop]; exact List.mem_append_right _ hy)
        have hl1 := hsub.1
        rw [hdrop, List.length_append] at hl1
        have hk := ih (sz x.f2[i]) (by omega) x.f2[i] rfl hks (d + 1) ((x.f2.drop (i + 1)).map tl).flatten (by omega) (by omega) (hkids i hil) hby2 (by omega)
        have hpos : 0 < (tl x.f2[i]).length := by rw [tl_eq]; simp
        have hc : ((x.f2.take i).length + 1 ≤ 2932031007402) = True := eq_true (by rw [List.length_take]; omega)
        refine Evt.succ (Evt.eq (Evt.bind hk (g := fun k t60 => (if t60.2.2 = true then (if (x.f2.take i).length + 1 ≤ 2932031007402 then (lets ((x.f2.take i) ++ ([t60.1] : List S66)) fun y71 => (impl_readItem.l0 k y71 t60.2.1 (strOfNums (tl x ++ rest)) d ((((body x).length : Nat) : Int), strOfNums (body x ++ rest), true))) else none) else (some ((⟨0, (⟨#[]⟩ : ByteArray), ([] : List S66)⟩ : S66), (⟨#[]⟩ : ByteArray), false)))) ?_) (fun k => ?_))
        · have := ihm (i + 1) (by omega) (by omega)
          rw [List.take_succ_eq_append_getElem hil] at this
          refine this.eq (fun k => ?_)
          simp only [if_true, hc, lets]
        · rw [impl_readItem.l0, if_neg (fun h => by have := ba_nil.1 h; rw [sn_size, hdrop, List.length_append] at this; omega), ed, hdrop]
    refine start _ (fun k => rfl) ((key _ 0 rfl (by omega)).eq (fun k => ?_))
    rw [if_pos c48, hbody]
    rfl
  · refine start _ (fun k => rfl) (Evt.of fun k => ?_)
    rw [if_neg c48, hbody, sn_bytes, ← hmk]
theorem sizeLen {n : Nat} (hn : n < 65536) {pre rest : List Int} (hp : Byt pre) (hr : Byt rest) (hl : pre.length + rest.length ≤ 1073741824) :
    Evt (fun k => spec_l07Size.f k (strOfNums (pre ++ (hdL n ++ rest))) (pre.length : Int)) ((n : Int), ((pre.length + (hdL n).length : Nat) : Int), true) := by
  have h8 : n < 256 ^ 8 := by rw [show 256 ^ 8 = 18446744073709551616 from by decide]; omega
  have hby := hp.app ((hd_byt h8).app hr)
  have hdl := hd_len h8
  have hsz : (strOfNums (pre ++ (hdL n ++ rest))).size = pre.length + (hdL n).length + rest.length := by rw [sn_size, List.length_append, List.length_append]; omega
  generalize hT : strOfNums (pre ++ (hdL n ++ rest)) = T at hsz
  have get : ∀ j (hj : j < (hdL n).length), bt T ((pre.length + j : Nat) : Int) = (hdL n)[j] := by
    intro j hj
    rw [← hT, sn_get hby (pre.length + j) (by rw [List.length_append, List.length_append]; omega), List.getElem_append_right (by omega), List.getElem_append_left (by omega)]
    congr 1
    omega
  have g0 := get 0 (by rw [hdL_def]; split <;> simp)
  rw [Nat.add_zero] at g0
  by_cases c : n < 128
  · have e : hdL n = [(n : Int)] := by rw [hdL_def]; rw [if_pos c]
    have b0 : bt T (pre.length : Int) = n := by rw [g0]; simp [e]
    have e1 : (hdL n).length = 1 := by rw [e]; rfl
    refine .of fun k => ?_
    unfold spec_l07Size.f
    rw [if_neg (by omega), if_pos (by omega), if_pos (by omega), b0, w_id (by omega) (by omega), if_pos (by omega), w64 (by omega) (by omega), e1]
    rfl
  · have e : hdL n = (128 + ((be n).length : Int)) :: be n := by rw [hdL_def]; rw [if_neg c]
    have hb1 := be_len 2 n (by omega)
    have hb0 := be_ne (n := n) (by omega)
    have e1 : (hdL n).length = 1 + (be n).length := by rw [e, List.length_cons]; omega
    have b0 : bt T (pre.length : Int) = 128 + ((be n).length : Int) := by rw [g0]; simp [e]
    have w2 : Unit → wrap64 (wrap64 (bt T (pre.length : Int)) - 128) = ((be n).length : Int) := fun _ => by rw [b0, show wrap64 (128 + ((be n).length : Int)) = 128 + ((be n).length : Int) from w64 (by omega) (by omega), w64 (by omega) (by omega)]; omega
    have wa : Unit → wrap64 ((pre.length : Int) + 1) = ((pre.length + 1 : Nat) : Int) := fun _ => by rw [w64 (by omega) (by omega)]; rfl
    have loop : Evt (fun k => spec_l07Size.l0 k 0 ((0 : Nat) : Int) T (pre.length : Int)) ((n : Int), ((pre.length + (hdL n).length : Nat) : Int), true) := by
      refine val_loop (fun k x i => spec_l07Size.l0 k x i T (pre.length : Int)) (be_byt n) (by omega) (fun k x i hi x0 x1 => ?_) _ (Evt.succ (Evt.of fun k => ?_)) _ 0 0 rfl (by omega) (by omega) (by decide) rfl
      · have hb := be_byt n _ (List.getElem_mem hi)
        have hg := get (i + 1) (by omega)
        have hg2 : (hdL n)[i + 1]'(by omega) = (be n)[i] := by simp [e]
        have wi : Unit → wrap64 (((pre.length + 1 : Nat) : Int) + (i : Int)) = ((pre.length + (i + 1) : Nat) : Int) := fun _ => by rw [w64 (by omega) (by omega)]; omega
        show spec_l07Size.l0 (k + 1) x (i : Int) _ _ = _
        rw [spec_l07Size.l0, w2 (), if_pos (by omega), wa (), wi (), if_pos (by omega), if_pos (by omega), hg, hg2, w_id hb.1 hb.2, show wrap64 (256 * x) = 256 * x from w64 (by omega) (by omega), show wrap64 (256 * x + (be n)[i]) = 256 * x + (be n)[i] from w64 (by omega) (by omega), show wrap64 ((i : Int) + 1) = ((i + 1 : Nat) : Int) by rw [w64 (by omega) (by omega)]; rfl]
      · show spec_l07Size.l0 (k + 1) _ _ _ _ = _
        rw [spec_l07Size.l0, w2 (), if_neg (by omega), wa (), be_val, e1, w64 (by omega) (by omega)]
        congr 3
        omega
    refine loop.eq (fun k => ?_)
    unfold spec_l07Size.f
    rw [if_neg (by omega), if_pos (by omega), if_pos (by omega), if_neg (by rw [b0, show wrap64 (128 + ((be n).length : Int)) = 128 + ((be n).length : Int) from w64 (by omega) (by omega)]; omega), w2 (), in_f, decide_eq_true ⟨by omega, by omega⟩, Option.bind_some, if_pos rfl, if_neg (by rw [show wrap64 ((T.size : Int) - (pre.length : Int)) = (T.size : Int) - (pre.length : Int) from w64 (by omega) (by omega), w64 (by omega) (by omega)]; omega)]
    rfl
theorem read_f : ∀ (n : Nat) (x : S66), sz x = n → Small x → ∀ (d : Int) (pre rest : List Int), 0 ≤ d → d ≤ 6 → Ok x d → Byt pre → Byt rest → pre.length + (tl x).length + rest.length ≤ 65535 →
    Evt (fun k => spec_l07Read.f k (strOfNums (pre ++ (tl x ++ rest))) (pre.length : Int) d) (x, ((pre.length + (tl x).length : Nat) : Int), true) := by
  intro n
  induction n using Nat.strongRecOn with
  | _ n ih =>
  intro x hx hs d pre rest d0 d1 hok hp hr hl
  have hs' : sz x ≤ 35184372088832 := hs
  have hb := tl_len hs'
  have ht := tl_eq x
  have htag := ok_tag hok
  have hm : (x.f0 % 256) = x.f0 := by omega
  rw [hm] at ht
  have hlen : (tl x).length = 1 + (hdL (body x).length).length + (body x).length := by rw [ht, List.length_cons, List.length_append]; omega
  have hby : Byt (pre ++ (tl x ++ rest)) := hp.app (hb.2.2.1.app hr)
  have hT0 : strOfNums (pre ++ (tl x ++ rest)) = strOfNums ((pre ++ [x.f0]) ++ (hdL (body x).length ++ (body x ++ rest))) := by rw [ht]; congr 1; simp
  have hsz : (strOfNums (pre ++ (tl x ++ rest))).size = pre.length + (tl x).length + rest.length := by rw [sn_size, List.length_append, List.length_append]; omega
  have b0 : bt (strOfNums (pre ++ (tl x ++ rest))) (pre.length : Int) = x.f0 := by
    rw [sn_get hby pre.length (by rw [List.length_append, List.length_append]; omega), List.getElem_append_right (by omega)]
    simp [ht]
  have w0 : Unit → wrap64 (bt (strOfNums (pre ++ (tl x ++ rest))) (pre.length : Int)) = x.f0 := fun _ => by rw [b0]; exact w_id (by omega) (by omega)
  have hsl := sizeLen (n := (body x).length) (by omega) (pre := pre ++ [x.f0]) (rest := body x ++ rest) (hp.app (Byt.cons (by omega) (by omega) Byt.nil)) (hb.2.2.2.app hr) (by rw [List.length_append, List.length_append, List.length_singleton]; omega)
  rw [← hT0, List.length_append, List.length_singleton] at hsl
  have wa : Unit → wrap64 ((pre.length : Int) + 1) = ((pre.length + 1 : Nat) : Int) := fun _ => by rw [w64 (by omega) (by omega)]; rfl
  generalize hF : pre.length + 1 + (hdL (body x).length).length = F at hsl
  have wF : Unit → wrap64 ((F : Int) + ((body x).length : Int)) = ((pre.length + (tl x).length : Nat) : Int) := fun _ => by rw [w64 (by omega) (by omega)]; omega
  have exT : (strOfNums (pre ++ (tl x ++ rest))).extract F (pre.length + (tl x).length) = strOfNums (body x) := by
    rw [sn_extract, ht]
    congr 1
    have h1 : pre ++ (x.f0 :: (hdL (body x).length ++ body x) ++ rest) = (pre ++ [x.f0] ++ hdL (body x).length) ++ (body x ++ rest) := by simp
    have h2 : F = (pre ++ [x.f0] ++ hdL (body x).length).length := by simp only [List.length_append, List.length_singleton]; omega
    rw [h1, h2, List.drop_left, List.take_left']
    simp only [List.length_append, List.length_cons, List.length_nil]
    omega
  have exE : (strOfNums (pre ++ (tl x ++ rest))).extract 0 (pre.length + (tl x).length) = strOfNums (pre ++ tl x) := by
    rw [sn_extract, List.drop_zero, Nat.sub_zero, ← List.append_assoc, List.take_left']
    rw [List.length_append]
  generalize hT : strOfNums (pre ++ (tl x ++ rest)) = T at *
  have start : ∀ g : Nat → Option (S66 × Int × Bool), (∀ k, g k = (if x.f0 = 48 then (spec_l07Read.l0 k [] (F : Int) T (pre.length : Int) d (((body x).length : Int), (F : Int), true)) else (some ((⟨x.f0, (strOfNums (body x)), ([] : List S66)⟩ : S66), ((pre.length + (tl x).length : Nat) : Int), true)))) →
      Evt g (x, ((pre.length + (tl x).length : Nat) : Int), true) → Evt (fun k => spec_l07Read.f k T (pre.length : Int) d) (x, ((pre.length + (tl x).length : Nat) : Int), true) := by
    intro g hg hE
    refine Evt.succ (Evt.eq (Evt.bind hsl (g := fun k t16 => (if t16.2.2 = true then (if (wrap64 ((T.size : Int) - t16.2.1)) < t16.1 then (some ((⟨0, (⟨#[]⟩ : ByteArray), ([] : List S66)⟩ : S66), 0, false)) else (if (wrap64 (bt T (pre.length : Int))) = 48 then (spec_l07Read.l0 k [] t16.2.1 T (pre.length : Int) d t16) else (if 0 ≤ t16.2.1 then (if t16.2.1 ≤ (wrap64 (t16.2.1 + t16.1)) then (if (wrap64 (t16.2.1 + t16.1)) ≤ (T.size : Int) then (some ((⟨(wrap64 (bt T (pre.length : Int))), (T.extract (t16.2.1).toNat ((wrap64 (t16.2.1 + t16.1))).toNat), ([] : List S66)⟩ : S66), (wrap64 (t16.2.1 + t16.1)), true)) else none) else none) else none))) else (some ((⟨0, (⟨#[]⟩ : ByteArray), ([] : List S66)⟩ : S66), 0, false)))) ?_) (fun k => ?_))
    · refine hE.eq (fun k => ?_)
      simp only [if_true]
      rw [if_neg (by rw [w64 (by omega) (by omega)]; omega), w0 (), hg k]
      by_cases c48 : x.f0 = 48
      · rw [if_pos c48, if_pos c48]
      · rw [if_neg c48, if_neg c48, wF (), if_pos (by omega), if_pos (by omega), if_pos (by omega), Int.toNat_natCast, Int.toNat_natCast, exT]
    · rw [spec_l07Read.f, if_neg (by omega), if_neg (by omega), if_pos (by omega), if_pos (by omega), wa ()]
  rcases ok_mk hok hs d0 with ⟨c48, hbody, hmk⟩ | ⟨c48, hbody, hmk⟩
  · obtain ⟨_, h40, hd, hkids⟩ := ok_list hs d0 hok c48
    have ed : Unit → wrap64 (d + 1) = d + 1 := fun _ => w64 (by omega) (by omega)
    have hlk := sz_len x
    have key : ∀ (m i : Nat), x.f2.length - i = m → i ≤ x.f2.length → Evt (fun k => spec_l07Read.l0 k (x.f2.take i) ((F + ((x.f2.take i).map tl).flatten.length : Nat) : Int) T (pre.length : Int) d (((body x).length : Int), (F : Int), true)) (x, ((pre.length + (tl x).length : Nat) : Int), true) := by
      intro m
      induction m with
      | zero =>
        intro i hm hi
        obtain rfl : i = x.f2.length := by omega
        refine Evt.succ (Evt.eq Evt.now (fun k => ?_))
        rw [spec_l07Read.l0, if_neg (by rw [wF (), List.take_length, ← hbody]; omega), wF (), w0 (), c48, List.take_length, ← hmk]
      | succ m ihm =>
        intro i hm hi
        have hil : i < x.f2.length := by omega
        have hkid := sz_kid (List.getElem_mem hil)
        have hks : Small x.f2[i] := by show sz _ ≤ _; omega
        have hkt := tl_len (x := x.f2[i]) (by omega)
        have hsplit : body x = ((x.f2.take i).map tl).flatten ++ (tl x.f2[i] ++ ((x.f2.drop (i + 1)).map tl).flatten) := by
          have h1 : x.f2.map tl = (x.f2.take i).map tl ++ (x.f2.drop i).map tl := by rw [← List.map_append, List.take_append_drop]
          rw [hbody, h1, List.flatten_append, List.drop_eq_getElem_cons hil]
          simp only [List.map_cons, List.flatten_cons]
        have hbl := hb.2.2.2
        have hsum : (body x).length = ((x.f2.take i).map tl).flatten.length + ((tl x.f2[i]).length + ((x.f2.drop (i + 1)).map tl).flatten.length) := by rw [hsplit, List.length_append, List.length_append]
        have hpos : 0 < (tl x.f2[i]).length := by rw [tl_eq]; simp
        have hpre : Byt (pre ++ [x.f0] ++ hdL (body x).length ++ ((x.f2.take i).map tl).flatten) := by
          have h8 : (body x).length < 256 ^ 8 := by rw [show 256 ^ 8 = 18446744073709551616 from by decide]; omega
          refine ((hp.app (Byt.cons (by omega) (by omega) Byt.nil)).app (hd_byt h8)).app (fun y hy => hbl y ?_)
          rw [hsplit]; exact List.mem_append_left _ hy
        have hpost : Byt ((x.f2.drop (i + 1)).map tl).flatten := fun y hy => hbl y (by rw [hsplit]; exact List.mem_append_right _ (List.mem_append_right _ hy))
        have hpl : (pre ++ [x.f0] ++ hdL (body x).length ++ ((x.f2.take i).map tl).flatten).length = F + ((x.f2.take i).map tl).flatten.length := by simp only [List.length_append, List.length_singleton]; omega
        have hk := ih (sz x.f2[i]) (by omega) x.f2[i] rfl hks (d + 1) (pre ++ [x.f0] ++ hdL (body x).length ++ ((x.f2.take i).map tl).flatten) ((x.f2.drop (i + 1)).map tl).flatten (by omega) (by omega) (hkids i hil) hpre hpost (by rw [hpl]; omega)
        have hTk : strOfNums (pre ++ [x.f0] ++ hdL (body x).length ++ ((x.f2.take i).map tl).flatten ++ (tl x.f2[i] ++ ((x.f2.drop (i + 1)).map tl).flatten)) = T.extract 0 (pre.length + (tl x).length) := by
          rw [exE, ht, hsplit]
          congr 1
          simp only [List.append_assoc, List.cons_append, List.nil_append, ← hsplit]
        rw [hTk, hpl] at hk
        have hnext : F + ((x.f2.take i).map tl).flatten.length + (tl x.f2[i]).length = F + ((x.f2.take (i + 1)).map tl).flatten.length := by
          rw [List.take_succ_eq_append_getElem hil]
          simp only [List.map_append, List.map_cons, List.map_nil, List.flatten_append, List.flatten_cons, List.flatten_nil, List.append_nil, List.length_append]
          omega
        rw [hnext] at hk
        have hc : ((x.f2.take i).length + 1 ≤ 2932031007402) = True := eq_true (by rw [List.length_take]; omega)
        have h40' : ¬ 40 ≤ ((x.f2.take i).length : Int) := by rw [List.length_take]; omega
        refine Evt.succ (Evt.eq (Evt.bind hk (g := fun k t56 => (if t56.2.2 = true then (if 40 ≤ ((x.f2.take i).length : Int) then (some ((⟨0, (⟨#[]⟩ : ByteArray), ([] : List S66)⟩ : S66), 0, false)) else (if (x.f2.take i).length + 1 ≤ 2932031007402 then (lets ((x.f2.take i) ++ ([t56.1] : List S66)) fun y70 => (spec_l07Read.l0 k y70 t56.2.1 T (pre.length : Int) d (((body x).length : Int), (F : Int), true))) else none)) else (some ((⟨0, (⟨#[]⟩ : ByteArray), ([] : List S66)⟩ : S66), 0, false)))) ?_) (fun k => ?_))
        · have := ihm (i + 1) (by omega) (by omega)
          rw [List.take_succ_eq_append_getElem hil] at this
          refine this.eq (fun k => ?_)
          simp only [if_true, hc, h40', if_false, lets]
          rw [← List.take_succ_eq_append_getElem hil]
        · rw [spec_l07Read.l0, if_pos (by rw [wF ()]; omega), if_pos (by rw [wF ()]; omega), if_pos (by rw [wF ()]; omega), ed (), wF (), Int.toNat_natCast]
    have k0 := key _ 0 rfl (by omega)
    simp only [List.take_zero, List.map_nil, List.flatten_nil, List.length_nil, Nat.add_zero] at k0
    refine start _ (fun k => rfl) (k0.eq (fun k => ?_))
    rw [if_pos c48]
  · refine start _ (fun k => rfl) (Evt.of fun k => ?_)
    rw [if_neg c48, hbody, sn_bytes, ← hmk]
theorem ex_size (s : ByteArray) (a b : Nat) (h : b ≤ s.size) : (s.extract a b).size = b - a := by rw [ByteArray.size_extract]; omega
theorem readLen_t (s : ByteArray) (hs : s.size ≤ 1073741824) : ∃ (n : Int) (rest : ByteArray) (b : Bool), Evt (fun k => impl_readLength.f k s) (n, rest, b) ∧ (b = true → 0 ≤ n ∧ n ≤ 4294967295 ∧ rest.size + 1 ≤ s.size) := by
  rcases Nat.eq_zero_or_pos s.size with h0 | h0
  · exact ⟨_, _, _, .of fun k => by unfold impl_readLength.f; rw [if_pos (ba_nil.2 h0)], fun h => by cases h⟩
  have hne : ¬ s.toList = ([] : List UInt8) := fun h => by have := ba_nil.1 h; omega
  have hb := bt_range s 0
  by_cases c : bt s 0 < 128
  · refine ⟨_, _, _, .of fun k => by unfold impl_readLength.f; rw [if_neg hne, if_pos (by omega), if_pos c, if_pos (by omega)], fun _ => ⟨?_, ?_, ?_⟩⟩
    · rw [w_id hb.1 hb.2]; exact hb.1
    · rw [w_id hb.1 hb.2]; omega
    · rw [ex_size _ _ _ (Nat.le_refl _)]; omega
  obtain ⟨m, hm⟩ : ∃ m : Nat, bt s 0 - 128 = m := ⟨(bt s 0 - 128).toNat, by omega⟩
  have w1 : wrap64 (wrap64 (bt s 0) - 128) = (m : Int) := by rw [w_id hb.1 hb.2, w64 (by omega) (by omega)]; omega
  by_cases c4 : 4 < (m : Int)
  · exact ⟨_, _, _, .of fun k => by unfold impl_readLength.f; rw [if_neg hne, if_pos (by omega), if_neg c, w1, if_pos c4], fun h => by cases h⟩
  have w2 : wrap64 (1 + (m : Int)) = ((1 + m : Nat) : Int) := by rw [w64 (by omega) (by omega)]; omega
  by_cases cs : (s.size : Int) < ((1 + m : Nat) : Int)
  · exact ⟨_, _, _, .of fun k => by unfold impl_readLength.f; rw [if_neg hne, if_pos (by omega), if_neg c, w1, if_neg c4, w2, if_pos cs], fun h => by cases h⟩
  generalize hy : s.extract 1 (1 + m) = y
  have hys : y.size = m := by rw [← hy, ex_size _ _ _ (by omega)]; omega
  have hyl : (bytesOf y).length = m := by rw [bytesOf_length, hys]
  have hv := valL_bound (byt_bytes y)
  have hv4 : (256 : Int) ^ (bytesOf y).length ≤ 256 ^ 4 := pow_le (by omega)
  have h5 : (256 : Int) ^ 4 = 4294967296 := by decide
  have loop : Evt (fun k => impl_readLength.l0 k 0 ((0 : Nat) : Int) s y) (valL (bytesOf y), s.extract (1 + m) s.size, true) := by
    refine val_loop (fun k x i => impl_readLength.l0 k x i s y) (byt_bytes y) (by omega) (fun k x i hi x0 x1 => ?_) _ (Evt.succ (Evt.of fun k => ?_)) _ 0 0 rfl (by omega) (by omega) (by decide) rfl
    · have hb := byt_bytes y _ (List.getElem_mem hi)
      show impl_readLength.l0 (k + 1) x (i : Int) _ _ = _
      rw [impl_readLength.l0, if_pos (by omega), if_pos (by omega), if_pos (by omega), rdI_ _ i hi, or_val x _ x0 x1 hb.1 hb.2, show wrap64 ((i : Int) + 1) = ((i + 1 : Nat) : Int) by rw [w64 (by omega) (by omega)]; rfl]
    · show impl_readLength.l0 (k + 1) _ _ _ _ = _
      rw [impl_readLength.l0, if_neg (by omega), w1, w2, if_pos (by omega), Int.toNat_natCast]
  refine ⟨_, _, _, loop.eq (fun k => ?_), fun _ => ⟨hv.1, by omega, by rw [ex_size _ _ _ (Nat.le_refl _)]; omega⟩⟩
  unfold impl_readLength.f
  rw [if_neg hne, if_pos (by omega), if_neg c, w1, if_neg c4, w2, if_neg cs, if_pos (by omega), if_pos (by omega), Int.toNat_natCast, hy]
  simp only [lets]
  rw [if_pos (by omega)]
  rfl
def zer : S66 := ⟨0, (⟨#[]⟩ : ByteArray), []⟩
theorem sz_zer : sz zer = 16 := by rw [sz_eq]; rfl
theorem sz_plain (t : Int) (s : ByteArray) : sz (⟨t, s, []⟩ : S66) = 16 + s.size := by rw [sz_eq]; rfl
theorem sz_kids (t : Int) (ks : List S66) : sz (⟨t, (⟨#[]⟩ : ByteArray), ks⟩ : S66) = 16 + (ks.map sz).sum := by rw [sz_eq]; show 16 + 0 + (ks.map sz).sum = _; omega
theorem tot_g : ∀ (n : Nat) (s : ByteArray), s.size = n → n ≤ 65536 → ∀ d : Int, 0 ≤ d → d ≤ 7 → ∃ r : S66 × ByteArray × Bool, Evt (fun k => impl_readItem.f k s d) r ∧
    ((r.2.2 = true ∧ r.2.1.size + 2 ≤ s.size ∧ sz r.1 + 16 * r.2.1.size ≤ 16 * s.size) ∨ r = (zer, (⟨#[]⟩ : ByteArray), false)) := by
  intro n
  induction n using Nat.strongRecOn with
  | _ n ih =>
  intro s hsn hn d d0 d1
  rcases Nat.eq_zero_or_pos s.size with h0 | h0
  · exact ⟨_, Evt.succ (.of fun k => by rw [impl_readItem.f, if_pos (ba_nil.2 h0)]; rfl), .inr rfl⟩
  have hne : ¬ s.toList = ([] : List UInt8) := fun h => by have := ba_nil.1 h; omega
  by_cases c6 : 6 < d
  · exact ⟨_, Evt.succ (.of fun k => by rw [impl_readItem.f, if_neg hne, if_pos c6]; rfl), .inr rfl⟩
  obtain ⟨m, rest, b, e, hb⟩ := readLen_t (s.extract 1 s.size) (by rw [ex_size _ _ _ (Nat.le_refl _)]; omega)
  rw [ex_size _ _ _ (Nat.le_refl _)] at hb
  have start : ∀ (r : S66 × ByteArray × Bool) (g : Nat → Option (S66 × ByteArray × Bool)), Evt g r → (∀ k, (if b = true then (if (rest.size : Int) < m then (some ((⟨0, (⟨#[]⟩ : ByteArray), ([] : List S66)⟩ : S66), (⟨#[]⟩ : ByteArray), false)) else (if 0 ≤ m then (if m ≤ (rest.size : Int) then (if (wrap64 (bt s 0)) = 48 then (impl_readItem.l0 k [] (rest.extract 0 (m).toNat) s d (m, rest, b)) else (some ((⟨(wrap64 (bt s 0)), (rest.extract 0 (m).toNat), ([] : List S66)⟩ : S66), (rest.extract (m).toNat rest.size), true))) else none) else none)) else (some ((⟨0, (⟨#[]⟩ : ByteArray), ([] : List S66)⟩ : S66), (⟨#[]⟩ : ByteArray), false))) = g k) → Evt (fun k => impl_readItem.f k s d) r := by
    intro r g hg hk
    refine Evt.succ (Evt.eq (Evt.bind e (g := fun k t17 => (if t17.2.2 = true then (if (t17.2.1.size : Int) < t17.1 then (some ((⟨0, (⟨#[]⟩ : ByteArray), ([] : List S66)⟩ : S66), (⟨#[]⟩ : ByteArray), false)) else (if 0 ≤ t17.1 then (if t17.1 ≤ (t17.2.1.size : Int) then (if (wrap64 (bt s 0)) = 48 then (impl_readItem.l0 k [] (t17.2.1.extract 0 (t17.1).toNat) s d t17) else (some ((⟨(wrap64 (bt s 0)), (t17.2.1.extract 0 (t17.1).toNat), ([] : List S66)⟩ : S66), (t17.2.1.extract (t17.1).toNat t17.2.1.size), true))) else none) else none)) else (some ((⟨0, (⟨#[]⟩ : ByteArray), ([] : List S66)⟩ : S66), (⟨#[]⟩ : ByteArray), false)))) (hg.eq hk)) (fun k => ?_))
    rw [impl_readItem.f, if_neg hne, if_neg c6, if_pos (by omega), if_pos (by omega)]
  cases hbb : b with
  | false => exact ⟨_, start _ _ Evt.now (fun k => by rw [hbb]; rfl), .inr rfl⟩
  | true =>
  obtain ⟨m0, m1, hr⟩ := hb hbb
  by_cases cm : (rest.size : Int) < m
  · exact ⟨_, start _ _ Evt.now (fun k => by rw [hbb, if_pos rfl, if_pos cm]; rfl), .inr rfl⟩
  obtain ⟨q, rfl⟩ : ∃ q : Nat, m = q := ⟨m.toNat, by omega⟩
  have s1 : (rest.extract 0 q).size = q := by rw [ex_size _ _ _ (by omega)]; omega
  have s2 : (rest.extract q rest.size).size = rest.size - q := ex_size _ _ _ (Nat.le_refl _)
  by_cases c48 : wrap64 (bt s 0) = 48
  · have ed : wrap64 (d + 1) = d + 1 := w64 (by omega) (by omega)
    have loop : ∀ (z : Nat) (u : ByteArray) (acc : List S66), u.size = z → (acc.map sz).sum + 16 * u.size ≤ 16 * q → ∃ r : S66 × ByteArray × Bool, Evt (fun k => impl_readItem.l0 k acc u s d ((q : Int), rest, true)) r ∧
        ((r.2.2 = true ∧ r.2.1.size + 2 ≤ s.size ∧ sz r.1 + 16 * r.2.1.size ≤ 16 * s.size) ∨ r = (zer, (⟨#[]⟩ : ByteArray), false)) := by
      intro z
      induction z using Nat.strongRecOn with
      | _ z ihz =>
      intro u acc hu ha
      have hal := sum_len acc
      rcases Nat.eq_zero_or_pos u.size with hu0 | hu0
      · refine ⟨_, Evt.succ (.of fun k => by rw [impl_readItem.l0, if_pos (ba_nil.2 hu0)]), .inl ⟨rfl, ?_, ?_⟩⟩
        · show (rest.extract ((q : Int)).toNat rest.size).size + 2 ≤ _
          rw [Int.toNat_natCast, s2]; omega
        · show sz _ + 16 * (rest.extract ((q : Int)).toNat rest.size).size ≤ _
          rw [Int.toNat_natCast, s2, sz_kids]; omega
      · have hune : ¬ u.toList = ([] : List UInt8) := fun h => by have := ba_nil.1 h; omega
        obtain ⟨r, r1, r2⟩ := ih u.size (by omega) u rfl (by omega) (d + 1) (by omega) (by omega)
        have hc : (acc.length + 1 ≤ 2932031007402) = True := eq_true (by omega)
        have step : ∀ (R : S66 × ByteArray × Bool) (g : Nat → Option (S66 × ByteArray × Bool)), Evt g R → (∀ k, (if r.2.2 = true then (if acc.length + 1 ≤ 2932031007402 then (lets (acc ++ ([r.1] : List S66)) fun y71 => (impl_readItem.l0 k y71 r.2.1 s d ((q : Int), rest, true))) else none) else (some ((⟨0, (⟨#[]⟩ : ByteArray), ([] : List S66)⟩ : S66), (⟨#[]⟩ : ByteArray), false))) = g k) → Evt (fun k => impl_readItem.l0 k acc u s d ((q : Int), rest, true)) R := by
          intro R g hg hk
          refine Evt.succ (Evt.eq (Evt.bind r1 (g := fun k t60 => (if t60.2.2 = true then (if acc.length + 1 ≤ 2932031007402 then (lets (acc ++ ([t60.1] : List S66)) fun y71 => (impl_readItem.l0 k y71 t60.2.1 s d ((q : Int), rest, true))) else none) else (some ((⟨0, (⟨#[]⟩ : ByteArray), ([] : List S66)⟩ : S66), (⟨#[]⟩ : ByteArray), false)))) (hg.eq hk)) (fun k => ?_))
          rw [impl_readItem.l0, if_neg hune, ed]
        rcases r2 with ⟨g1, g2, g3⟩ | rfl
        · obtain ⟨R, R1, R2⟩ := ihz r.2.1.size (by omega) r.2.1 (acc ++ [r.1]) rfl (by simp only [List.map_append, List.map_cons, List.map_nil, List.sum_append, List.sum_cons, List.sum_nil]; omega)
          exact ⟨R, step R _ R1 (fun k => by simp only [g1, if_true, hc, lets]), R2⟩
        · exact ⟨_, step _ _ Evt.now (fun k => by rfl), .inr rfl⟩
    obtain ⟨R, R1, R2⟩ := loop _ (rest.extract 0 q) [] rfl (by rw [s1]; simp)
    refine ⟨R, start R _ R1 (fun k => ?_), R2⟩
    rw [hbb, if_pos rfl, if_neg cm, if_pos (by omega), if_pos (by omega), if_pos c48, Int.toNat_natCast]
  · refine ⟨_, start _ _ Evt.now (fun k => by rw [hbb, if_pos rfl, if_neg cm, if_pos (by omega), if_pos (by omega), if_neg c48]), .inl ⟨rfl, ?_, ?_⟩⟩
    · show (rest.extract ((q : Int)).toNat rest.size).size + 2 ≤ _
      rw [Int.toNat_natCast, s2]; omega
    · show sz _ + 16 * (rest.extract ((q : Int)).toNat rest.size).size ≤ _
      rw [Int.toNat_natCast, s2, sz_plain, s1]; omega
theorem sizeLen_t (s : ByteArray) (at_ : Nat) (hs : s.size ≤ 1073741824) (ha : at_ ≤ 1073741824) : ∃ (n e : Int) (b : Bool), Evt (fun k => spec_l07Size.f k s (at_ : Int)) (n, e, b) ∧ (b = true → 0 ≤ n ∧ n ≤ 4294967295 ∧ ∃ q : Nat, e = q ∧ at_ + 1 ≤ q ∧ q ≤ s.size) := by
  by_cases c0 : (s.size : Int) ≤ (at_ : Int)
  · exact ⟨_, _, _, .of fun k => by unfold spec_l07Size.f; rw [if_pos c0], fun h => by cases h⟩
  have hb := bt_range s (at_ : Int)
  have wa : Unit → wrap64 ((at_ : Int) + 1) = ((at_ + 1 : Nat) : Int) := fun _ => by rw [w64 (by omega) (by omega)]; rfl
  by_cases c : bt s (at_ : Int) < 128
  · refine ⟨_, _, _, .of fun k => by unfold spec_l07Size.f; rw [if_neg c0, if_pos (by omega), if_pos (by omega), w_id hb.1 hb.2, if_pos c, wa ()], fun _ => ⟨hb.1, by omega, _, rfl, by omega, by omega⟩⟩
  obtain ⟨m, hm⟩ : ∃ m : Nat, bt s (at_ : Int) - 128 = m := ⟨(bt s (at_ : Int) - 128).toNat, by omega⟩
  have w1 : Unit → wrap64 (wrap64 (bt s (at_ : Int)) - 128) = (m : Int) := fun _ => by rw [w_id hb.1 hb.2, w64 (by omega) (by omega)]; omega
  by_cases cin : (1 : Int) ≤ (m : Int) ∧ (m : Int) ≤ 2
  · have w3 : Unit → wrap64 (wrap64 ((s.size : Int) - (at_ : Int)) - 1) = (s.size : Int) - (at_ : Int) - 1 := fun _ => by rw [show wrap64 ((s.size : Int) - (at_ : Int)) = (s.size : Int) - (at_ : Int) from w64 (by omega) (by omega), w64 (by omega) (by omega)]
    by_cases cs : (s.size : Int) - (at_ : Int) - 1 < (m : Int)
    · exact ⟨_, _, _, .of fun k => by unfold spec_l07Size.f; rw [if_neg c0, if_pos (by omega), if_pos (by omega), w_id hb.1 hb.2, if_neg c, ← w_id hb.1 hb.2, w_id hb.1 hb.2, show wrap64 (bt s (at_ : Int) - 128) = (m : Int) by rw [w64 (by omega) (by omega)]; omega, in_f, decide_eq_true cin, Option.bind_some, if_pos rfl, w3 (), if_pos cs], fun h => by cases h⟩
    generalize hy : s.extract (at_ + 1) (at_ + 1 + m) = y
    have hys : y.size = m := by rw [← hy, ex_size _ _ _ (by omega)]; omega
    have hyl : (bytesOf y).length = m := by rw [bytesOf_length, hys]
    have hv := valL_bound (byt_bytes y)
    have hv4 : (256 : Int) ^ (bytesOf y).length ≤ 256 ^ 4 := pow_le (by omega)
    have h5 : (256 : Int) ^ 4 = 4294967296 := by decide
    have get : ∀ i (hi : i < (bytesOf y).length), bt s ((at_ + 1 + i : Nat) : Int) = (bytesOf y)[i] := by
      intro i hi
      obtain ⟨l, hl, rfl⟩ := sn_all s
      have hsl := sn_size l
      have hby : bytesOf y = (l.drop (at_ + 1)).take m := by
        rw [← hy, sn_extract, bytes_sn (fun x hx => hl x (List.mem_of_mem_drop (List.mem_of_mem_take hx)))]
        congr 1
        omega
      rw [sn_get hl (at_ + 1 + i) (by omega)]
      simp only [hby, List.getElem_take, List.getElem_drop]
    have loop : Evt (fun k => spec_l07Size.l0 k 0 ((0 : Nat) : Int) s (at_ : Int)) (valL (bytesOf y), ((at_ + 1 + m : Nat) : Int), true) := by
      refine val_loop (fun k x i => spec_l07Size.l0 k x i s (at_ : Int)) (byt_bytes y) (by omega) (fun k x i hi x0 x1 => ?_) _ (Evt.succ (Evt.of fun k => ?_)) _ 0 0 rfl (by omega) (by omega) (by decide) rfl
      · have hb := byt_bytes y _ (List.getElem_mem hi)
        have wi : Unit → wrap64 (((at_ + 1 : Nat) : Int) + (i : Int)) = ((at_ + 1 + i : Nat) : Int) := fun _ => by rw [w64 (by omega) (by omega)]; omega
        show spec_l07Size.l0 (k + 1) x (i : Int) _ _ = _
        rw [spec_l07Size.l0, w1 (), if_pos (by omega), wa (), wi (), if_pos (by omega), if_pos (by omega), get i hi, w_id hb.1 hb.2, show wrap64 (256 * x) = 256 * x from w64 (by omega) (by omega), show wrap64 (256 * x + (bytesOf y)[i]) = 256 * x + (bytesOf y)[i] from w64 (by omega) (by omega), show wrap64 ((i : Int) + 1) = ((i + 1 : Nat) : Int) by rw [w64 (by omega) (by omega)]; rfl]
      · show spec_l07Size.l0 (k + 1) _ _ _ _ = _
        rw [spec_l07Size.l0, w1 (), if_neg (by omega), wa (), w64 (by omega) (by omega)]
        congr 3
    refine ⟨_, _, _, loop.eq (fun k => ?_), fun _ => ⟨hv.1, by omega, _, rfl, by omega, by omega⟩⟩
    unfold spec_l07Size.f
    rw [if_neg c0, if_pos (by omega), if_pos (by omega), if_neg (by rw [w_id hb.1 hb.2]; exact c), w1 (), in_f, decide_eq_true cin, Option.bind_some, if_pos rfl, w3 (), if_neg cs]
    rfl
  · exact ⟨_, _, _, .of fun k => by unfold spec_l07Size.f; rw [if_neg c0, if_pos (by omega), if_pos (by omega), if_neg (by rw [w_id hb.1 hb.2]; exact c), w1 (), in_f, decide_eq_false cin, Option.bind_some, if_neg (by simp)], fun h => by cases h⟩
theorem tot_f : ∀ (n : Nat) (s : ByteArray) (at_ : Nat), s.size - at_ = n → s.size ≤ 65536 → at_ ≤ 65536 → ∀ d : Int, 0 ≤ d → d ≤ 7 → ∃ r : S66 × Int × Bool, Evt (fun k => spec_l07Read.f k s (at_ : Int) d) r ∧
    ((r.2.2 = true ∧ ∃ e : Nat, r.2.1 = e ∧ at_ + 2 ≤ e ∧ e ≤ s.size ∧ sz r.1 ≤ 16 * (e - at_)) ∨ r = (zer, 0, false)) := by
  intro n
  induction n using Nat.strongRecOn with
  | _ n ih =>
  intro s at_ hsn hs ha d d0 d1
  by_cases c0 : (s.size : Int) ≤ (at_ : Int)
  · exact ⟨_, Evt.succ (.of fun k => by rw [spec_l07Read.f, if_pos c0]; rfl), .inr rfl⟩
  by_cases c6 : 6 < d
  · exact ⟨_, Evt.succ (.of fun k => by rw [spec_l07Read.f, if_neg c0, if_pos c6]; rfl), .inr rfl⟩
  have wa : Unit → wrap64 ((at_ : Int) + 1) = ((at_ + 1 : Nat) : Int) := fun _ => by rw [w64 (by omega) (by omega)]; rfl
  obtain ⟨m, f, b, e, hb⟩ := sizeLen_t s (at_ + 1) (by omega) (by omega)
  have start : ∀ (r : S66 × Int × Bool) (g : Nat → Option (S66 × Int × Bool)), Evt g r → (∀ k, (if b = true then (if (wrap64 ((s.size : Int) - f)) < m then (some ((⟨0, (⟨#[]⟩ : ByteArray), ([] : List S66)⟩ : S66), 0, false)) else (if (wrap64 (bt s (at_ : Int))) = 48 then (spec_l07Read.l0 k [] f s (at_ : Int) d (m, f, b)) else (if 0 ≤ f then (if f ≤ (wrap64 (f + m)) then (if (wrap64 (f + m)) ≤ (s.size : Int) then (some ((⟨(wrap64 (bt s (at_ : Int))), (s.extract (f).toNat ((wrap64 (f + m))).toNat), ([] : List S66)⟩ : S66), (wrap64 (f + m)), true)) else none) else none) else none))) else (some ((⟨0, (⟨#[]⟩ : ByteArray), ([] : List S66)⟩ : S66), 0, false))) = g k) → Evt (fun k => spec_l07Read.f k s (at_ : Int) d) r := by
    intro r g hg hk
    refine Evt.succ (Evt.eq (Evt.bind e (g := fun k t16 => (if t16.2.2 = true then (if (wrap64 ((s.size : Int) - t16.2.1)) < t16.1 then (some ((⟨0, (⟨#[]⟩ : ByteArray), ([] : List S66)⟩ : S66), 0, false)) else (if (wrap64 (bt s (at_ : Int))) = 48 then (spec_l07Read.l0 k [] t16.2.1 s (at_ : Int) d t16) else (if 0 ≤ t16.2.1 then (if t16.2.1 ≤ (wrap64 (t16.2.1 + t16.1)) then (if (wrap64 (t16.2.1 + t16.1)) ≤ (s.size : Int) then (some ((⟨(wrap64 (bt s (at_ : Int))), (s.extract (t16.2.1).toNat ((wrap64 (t16.2.1 + t16.1))).toNat), ([] : List S66)⟩ : S66), (wrap64 (t16.2.1 + t16.1)), true)) else none) else none) else none))) else (some ((⟨0, (⟨#[]⟩ : ByteArray), ([] : List S66)⟩ : S66), 0, false)))) (hg.eq hk)) (fun k => ?_))
    rw [spec_l07Read.f, if_neg c0, if_neg c6, if_pos (by omega), if_pos (by omega), wa ()]
  cases hbb : b with
  | false => exact ⟨_, start _ _ Evt.now (fun k => by rw [hbb]; rfl), .inr rfl⟩
  | true =>
  obtain ⟨m0, m1, F, rfl, hF1, hF2⟩ := hb hbb
  by_cases cm : wrap64 ((s.size : Int) - (F : Int)) < m
  · exact ⟨_, start _ _ Evt.now (fun k => by rw [hbb, if_pos rfl, if_pos cm]; rfl), .inr rfl⟩
  rw [w64 (by omega) (by omega)] at cm
  obtain ⟨q, rfl⟩ : ∃ q : Nat, m = q := ⟨m.toNat, by omega⟩
  have wF : Unit → wrap64 ((F : Int) + (q : Int)) = ((F + q : Nat) : Int) := fun _ => by rw [w64 (by omega) (by omega)]; omega
  have cm' : ¬ wrap64 ((s.size : Int) - (F : Int)) < (q : Int) := by rw [w64 (by omega) (by omega)]; exact cm
  by_cases c48 : wrap64 (bt s (at_ : Int)) = 48
  · have ed : Unit → wrap64 (d + 1) = d + 1 := fun _ => w64 (by omega) (by omega)
    have es : (s.extract 0 (F + q)).size = F + q := by rw [ex_size _ _ _ (by omega)]; omega
    have loop : ∀ (z p : Nat) (acc : List S66), F + q - p = z → F ≤ p → p ≤ F + q → (acc.map sz).sum ≤ 16 * (p - F) → ∃ r : S66 × Int × Bool, Evt (fun k => spec_l07Read.l0 k acc (p : Int) s (at_ : Int) d ((q : Int), (F : Int), true)) r ∧
        ((r.2.2 = true ∧ ∃ e : Nat, r.2.1 = e ∧ at_ + 2 ≤ e ∧ e ≤ s.size ∧ sz r.1 ≤ 16 * (e - at_)) ∨ r = (zer, 0, false)) := by
      intro z
      induction z using Nat.strongRecOn with
      | _ z ihz =>
      intro p acc hz h1 h2 hacc
      have hal := sum_len acc
      by_cases cp : (p : Int) < ((F + q : Nat) : Int)
      · obtain ⟨r, r1, r2⟩ := ih ((s.extract 0 (F + q)).size - p) (by omega) (s.extract 0 (F + q)) p rfl (by omega) (by omega) (d + 1) (by omega) (by omega)
        have hc : (acc.length + 1 ≤ 2932031007402) = True := eq_true (by omega)
        have step : ∀ (R : S66 × Int × Bool) (g : Nat → Option (S66 × Int × Bool)), Evt g R → (∀ k, (if r.2.2 = true then (if 40 ≤ (acc.length : Int) then (some ((⟨0, (⟨#[]⟩ : ByteArray), ([] : List S66)⟩ : S66), 0, false)) else (if acc.length + 1 ≤ 2932031007402 then (lets (acc ++ ([r.1] : List S66)) fun y70 => (spec_l07Read.l0 k y70 r.2.1 s (at_ : Int) d ((q : Int), (F : Int), true))) else none)) else (some ((⟨0, (⟨#[]⟩ : ByteArray), ([] : List S66)⟩ : S66), 0, false))) = g k) → Evt (fun k => spec_l07Read.l0 k acc (p : Int) s (at_ : Int) d ((q : Int), (F : Int), true)) R := by
          intro R g hg hk
          refine Evt.succ (Evt.eq (Evt.bind r1 (g := fun k t56 => (if t56.2.2 = true then (if 40 ≤ (acc.length : Int) then (some ((⟨0, (⟨#[]⟩ : ByteArray), ([] : List S66)⟩ : S66), 0, false)) else (if acc.length + 1 ≤ 2932031007402 then (lets (acc ++ ([t56.1] : List S66)) fun y70 => (spec_l07Read.l0 k y70 t56.2.1 s (at_ : Int) d ((q : Int), (F : Int), true))) else none)) else (some ((⟨0, (⟨#[]⟩ : ByteArray), ([] : List S66)⟩ : S66), 0, false)))) (hg.eq hk)) (fun k => ?_))
          rw [spec_l07Read.l0, wF (), if_pos cp, if_pos (by omega), if_pos (by omega), ed (), Int.toNat_natCast]
        rcases r2 with ⟨g1, E, g2, g3, g4, g5⟩ | rfl
        · by_cases c40 : 40 ≤ (acc.length : Int)
          · exact ⟨_, step _ _ Evt.now (fun k => by rw [if_pos g1, if_pos c40]; rfl), .inr rfl⟩
          · rw [es] at g4
            obtain ⟨R, R1, R2⟩ := ihz (F + q - E) (by omega) E (acc ++ [r.1]) rfl (by omega) (by omega) (by simp only [List.map_append, List.map_cons, List.map_nil, List.sum_append, List.sum_cons, List.sum_nil]; omega)
            exact ⟨R, step R _ R1 (fun k => by simp only [g1, if_true, hc, c40, if_false, lets, g2]), R2⟩
        · exact ⟨_, step _ _ Evt.now (fun k => by rfl), .inr rfl⟩
      · refine ⟨_, Evt.succ (.of fun k => by rw [spec_l07Read.l0, wF (), if_neg cp]), .inl ⟨rfl, F + q, rfl, by omega, by omega, ?_⟩⟩
        show sz _ ≤ _
        rw [sz_kids]; omega
    obtain ⟨R, R1, R2⟩ := loop _ F [] rfl (by omega) (by omega) (by simp)
    refine ⟨R, start R _ R1 (fun k => ?_), R2⟩
    rw [hbb, if_pos rfl, if_neg cm', if_pos c48]
  · refine ⟨_, start _ _ Evt.now (fun k => by rw [hbb, if_pos rfl, if_neg cm', if_neg c48, wF (), if_pos (by omega), if_pos (by omega), if_pos (by omega)]), .inl ⟨rfl, F + q, rfl, by omega, by omega, ?_⟩⟩
    show sz _ ≤ _
    rw [sz_plain, Int.toNat_natCast, Int.toNat_natCast, ex_size _ _ _ (by omega)]; omega
theorem ok_text {x : S66} (hs : Small x) {r : ByteArray × Bool} (hr : Evt (fun k => spec_ItemText.f k x) r) (h2 : r.2 = true) : Ok x 0 ∧ r.1 = strOfNums (tl x) ∧ (tl x).length ≤ 4000 := by
  obtain ⟨b, b1, _⟩ := item (sz x) hs x (Nat.le_refl _) 0 (by omega) (by omega)
  have s1 : Evt (fun k => spec_ItemOk.f k x) b := (Evt.bind b1 (g := fun _ t => some t) Evt.now).eq (fun k => by unfold spec_ItemOk.f; rfl)
  have h1 : Evt (fun k => (spec_ItemOk.f k x).bind fun t3 => if t3 = true then ((spec_l07Text.f k x).bind fun t6 => (if 4000 < (t6.size : Int) then (some ((⟨#[]⟩ : ByteArray), false)) else (some (t6, true)))) else (some ((⟨#[]⟩ : ByteArray), false))) r := hr.eq (fun k => by unfold spec_ItemText.f; rfl)
  have h3 := Evt.unbind h1 s1
  cases b with
  | false =>
    have := Evt.uniq h3 (Evt.eq Evt.now (fun k => by rw [if_neg (by simp)]))
    rw [this] at h2
    cases h2
  | true =>
    have h4 : Evt (fun k => (spec_l07Text.f k x).bind fun t6 => (if 4000 < (t6.size : Int) then (some ((⟨#[]⟩ : ByteArray), false)) else (some (t6, true)))) r := h3.eq (fun k => (if_pos rfl).symm)
    have h5 := Evt.unbind h4 (text_v _ x rfl hs)
    by_cases c : 4000 < ((strOfNums (tl x)).size : Int)
    · have := Evt.uniq h5 (Evt.eq Evt.now (fun k => by rw [if_pos c]))
      rw [this] at h2
      cases h2
    · have := Evt.uniq h5 (Evt.eq Evt.now (fun k => by rw [if_neg c]))
      rw [this]
      rw [sn_size] at c
      exact ⟨b1, rfl, by omega⟩
theorem text_inj {x y : S66} (hx : Small x) (hy : Small y) (ox : Ok x 0) (oy : Ok y 0) (lx : (tl x).length ≤ 4000) (h : strOfNums (tl x) = strOfNums (tl y)) : x = y := by
  have h1 := tl_len (x := x) hx
  have h2 := tl_len (x := y) hy
  have e := sn_inj h1.2.2.1 h2.2.2.1 h
  have r1 := read_g _ x rfl hx 0 [] (by omega) (by omega) ox Byt.nil (by simp; omega)
  have r2 := read_g _ y rfl hy 0 [] (by omega) (by omega) oy Byt.nil (by rw [← e]; simp; omega)
  rw [← e] at r2
  have := Evt.uniq r1 r2
  exact congrArg Prod.fst this
theorem some_if {α : Type} {c : Prop} [Decidable c] (a b : α) : (if c then some a else some b) = some (if c then a else b) := by split <;> rfl
theorem read_item (t : ByteArray) : ∃ r : S66 × Bool, Evt (fun k => spec_ReadItem.f k t) r ∧ Evt (fun k => impl_ReadItem.f k t) r ∧
    ((r.2 = true ∧ Ok r.1 0 ∧ t = strOfNums (tl r.1) ∧ (tl r.1).length ≤ 4000 ∧ sz r.1 ≤ 1048576) ∨ r = (zer, false)) := by
  by_cases c : 4000 < (t.size : Int)
  · exact ⟨(zer, false), .of fun k => by unfold spec_ReadItem.f; rw [if_pos c]; rfl, .of fun k => by unfold impl_ReadItem.f; rw [if_pos c]; rfl, .inr rfl⟩
  obtain ⟨r1, e1, g1⟩ := tot_f _ t 0 rfl (by omega) (by omega) 0 (by omega) (by omega)
  obtain ⟨r2, e2, g2⟩ := tot_g _ t rfl (by omega) 0 (by omega) (by omega)
  have z1 : sz r1.1 ≤ 1048576 := by
    rcases g1 with ⟨_, e, _, _, h1, h2⟩ | rfl
    · omega
    · show sz zer ≤ _; rw [sz_zer]; omega
  have z2 : sz r2.1 ≤ 1048576 := by
    rcases g2 with ⟨_, h1, h2⟩ | rfl
    · omega
    · show sz zer ≤ _; rw [sz_zer]; omega
  have s1 : Small r1.1 := by show sz _ ≤ _; omega
  have s2 : Small r2.1 := by show sz _ ≤ _; omega
  obtain ⟨u, u1, u2⟩ := item_text r1.1 s1
  obtain ⟨v, v1, v2⟩ := item_text r2.1 s2
  have mk : ∀ x : S66, (⟨x.f0, x.f1, x.f2⟩ : S66) = x := fun x => by cases x; rfl
  have S : ∀ R : S66 × Bool, (if r1.2.2 = true then (if r1.2.1 = (t.size : Int) then (if u.2 = true then (if u.1.toList = t.toList then (r1.1, true) else (zer, false)) else (zer, false)) else (zer, false)) else (zer, false)) = R → Evt (fun k => spec_ReadItem.f k t) R := by
    rintro R rfl
    refine Evt.eq (Evt.bind e1 (g := fun k t6 => ((spec_ItemText.f k t6.1).bind fun t13 => (if t6.2.2 = true then (if t6.2.1 = (t.size : Int) then (if t13.2 = true then (if t13.1.toList = t.toList then (some ((⟨t6.1.f0, t6.1.f1, t6.1.f2⟩ : S66), true)) else (some ((⟨0, (⟨#[]⟩ : ByteArray), ([] : List S66)⟩ : S66), false))) else (some ((⟨0, (⟨#[]⟩ : ByteArray), ([] : List S66)⟩ : S66), false))) else (some ((⟨0, (⟨#[]⟩ : ByteArray), ([] : List S66)⟩ : S66), false))) else (some ((⟨0, (⟨#[]⟩ : ByteArray), ([] : List S66)⟩ : S66), false)))))
      (Evt.bind u1 (Evt.eq Evt.now (fun k => ?_)))) (fun k => by unfold spec_ReadItem.f; rw [if_neg c]; rfl)
    rw [mk]
    simp only [some_if]
    rfl
  have G : ∀ R : S66 × Bool, (if r2.2.2 = true then (if r2.2.1.toList = ([] : List UInt8) then (if v.2 = true then (if v.1.toList = t.toList then (r2.1, true) else (zer, false)) else (zer, false)) else (zer, false)) else (zer, false)) = R → Evt (fun k => impl_ReadItem.f k t) R := by
    rintro R rfl
    refine Evt.eq (Evt.bind e2 (g := fun k t6 => (if t6.2.2 = true then (if t6.2.1.toList = ([] : List UInt8) then ((impl_ItemText.f k t6.1).bind fun t15 => (if t15.2 = true then (if t15.1.toList = t.toList then (some ((⟨t6.1.f0, t6.1.f1, t6.1.f2⟩ : S66), true)) else (some ((⟨0, (⟨#[]⟩ : ByteArray), ([] : List S66)⟩ : S66), false))) else (some ((⟨0, (⟨#[]⟩ : ByteArray), ([] : List S66)⟩ : S66), false)))) else (some ((⟨0, (⟨#[]⟩ : ByteArray), ([] : List S66)⟩ : S66), false))) else (some ((⟨0, (⟨#[]⟩ : ByteArray), ([] : List S66)⟩ : S66), false)))) ?_) (fun k => by unfold impl_ReadItem.f; rw [if_neg c])
    by_cases h1 : r2.2.2 = true
    · by_cases h2 : r2.2.1.toList = ([] : List UInt8)
      · refine Evt.eq (Evt.bind v2 (g := fun _ t15 => (if t15.2 = true then (if t15.1.toList = t.toList then (some ((⟨r2.1.f0, r2.1.f1, r2.1.f2⟩ : S66), true)) else (some ((⟨0, (⟨#[]⟩ : ByteArray), ([] : List S66)⟩ : S66), false))) else (some ((⟨0, (⟨#[]⟩ : ByteArray), ([] : List S66)⟩ : S66), false)))) (Evt.eq Evt.now (fun k => ?_))) (fun k => by rw [if_pos h1, if_pos h2])
        rw [mk, if_pos h1, if_pos h2]
        simp only [some_if]
        rfl
      · exact Evt.eq Evt.now (fun k => by rw [if_pos h1, if_neg h2, if_pos h1, if_neg h2]; rfl)
    · exact Evt.eq Evt.now (fun k => by rw [if_neg h1, if_neg h1]; rfl)
  by_cases cS : r1.2.2 = true ∧ r1.2.1 = (t.size : Int) ∧ u.2 = true ∧ u.1.toList = t.toList
  · obtain ⟨a1, a2, a3, a4⟩ := cS
    obtain ⟨o1, o2, o3⟩ := ok_text s1 u1 a3
    have ht : t = strOfNums (tl r1.1) := by rw [← o2]; exact (toList_inj.1 a4).symm
    have rg := read_g _ r1.1 rfl s1 0 [] (by omega) (by omega) o1 Byt.nil (by simp; omega)
    rw [List.append_nil, ← ht] at rg
    obtain rfl := Evt.uniq e2 rg
    obtain rfl := Evt.uniq v1 u1
    refine ⟨(r1.1, true), S _ (by rw [if_pos a1, if_pos a2, if_pos a3, if_pos a4]), G _ (by rw [if_pos rfl, if_pos (ba_nil.2 (by show (strOfNums []).size = 0; rfl)), if_pos a3, if_pos a4]), .inl ⟨rfl, o1, ht, o3, z1⟩⟩
  · by_cases cG : r2.2.2 = true ∧ r2.2.1.toList = ([] : List UInt8) ∧ v.2 = true ∧ v.1.toList = t.toList
    · exfalso
      obtain ⟨a1, a2, a3, a4⟩ := cG
      obtain ⟨o1, o2, o3⟩ := ok_text s2 v1 a3
      have ht : t = strOfNums (tl r2.1) := by rw [← o2]; exact (toList_inj.1 a4).symm
      have rf := read_f _ r2.1 rfl s2 0 [] [] (by omega) (by omega) o1 Byt.nil Byt.nil (by simp; omega)
      rw [List.append_nil, List.nil_append, ← ht] at rf
      have e1' : Evt (fun k => spec_l07Read.f k t (([] : List Int).length : Int) 0) r1 := e1
      obtain rfl := Evt.uniq e1' rf
      obtain rfl := Evt.uniq u1 v1
      refine cS ⟨rfl, ?_, a3, a4⟩
      show ((([] : List Int).length + (tl r2.1).length : Nat) : Int) = _
      rw [ht, sn_size]
      simp
    · refine ⟨(zer, false), S _ ?_, G _ ?_, .inr rfl⟩
      · by_cases h1 : r1.2.2 = true
        · by_cases h2 : r1.2.1 = (t.size : Int)
          · by_cases h3 : u.2 = true
            · rw [if_pos h1, if_pos h2, if_pos h3, if_neg (fun h4 => cS ⟨h1, h2, h3, h4⟩)]
            · rw [if_pos h1, if_pos h2, if_neg h3]
          · rw [if_pos h1, if_neg h2]
        · rw [if_neg h1]
      · by_cases h1 : r2.2.2 = true
        · by_cases h2 : r2.2.1.toList = ([] : List UInt8)
          · by_cases h3 : v.2 = true
            · rw [if_pos h1, if_pos h2, if_pos h3, if_neg (fun h4 => cG ⟨h1, h2, h3, h4⟩)]
            · rw [if_pos h1, if_pos h2, if_neg h3]
          · rw [if_pos h1, if_neg h2]
        · rw [if_neg h1]
end Go.Proofs.YtfcpjeeeddjakaaGreat.ReadFnAsks

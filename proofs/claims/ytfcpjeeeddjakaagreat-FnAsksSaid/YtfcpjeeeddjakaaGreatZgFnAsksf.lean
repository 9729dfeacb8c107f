/- Functions of the program and of the law, and that their calls do what is written here. -/
import Derived.Test.YtfcpjeeeddjakaaGreatZgFnAskse
namespace Go.Proofs.YtfcpjeeeddjakaaGreat.F
open Go.RowKit YtfcpjeeeddjakaaGreatW.PrintWords YtfcpjeeeddjakaaGreatW.PrintLast YtfcpjeeeddjakaaGreatW.PrintMore Z
attribute [local go_sem] max2_int min2_int max_two min_two max_three min_three max_four min_four
set_option linter.unusedVariables false
set_option linter.unusedSimpArgs false
set_option maxRecDepth 100000
set_option maxHeartbeats 16000000
def impl_each_string_0.l0 : Nat → (List S66) → Int → (List ByteArray) → Option (S66)
  | 0, _, _, _ => none
  | k + 1, l22, x24, a0 => (if x24 < (a0.length : Int) then (if 0 ≤ x24 then (if x24 < (a0.length : Int) then ((impl_bytesItem.f (rdOf ByteArray.empty a0 x24)).bind fun t3 => (if l22.length + 1 ≤ 2932031007402 then (lets (l22 ++ ([t3] : List S66)) fun y9 => (impl_each_string_0.l0 k y9 (wrap64 (x24 + 1)) a0)) else none)) else none) else none) else (some (⟨48, (⟨#[]⟩ : ByteArray), l22⟩ : S66)))
def impl_each_string_0.f (k : Nat) (a0 : (List ByteArray)) : Option (S66) := (impl_each_string_0.l0 k [] 0 a0)
def impl_each_string_0.T5 : TT := (true, [([], []), ([0], [0]), ([], []), ([], []), ([2, 3], [2, 3]), ([4], [4]), ([1, 5, 4], [1, 5]), ([0, 1, 2, 3, 4, 5, 6], []), ([7, 6, 6, 0, 1, 2, 3, 4, 5, 6], [6, 7])])
theorem impl_each_string_0.tT5 : rtab .any (opsOf Tryz.f32 5) = impl_each_string_0.T5 := by kernel_rfl
theorem impl_each_string_0.calls {k : Nat} {a0 : (List ByteArray)} {Ap0 : Option Addr} {np0 cp0 : Nat} {r : S66} {w : World} (h : impl_each_string_0.f k a0 = some r) (gp0 : Kd.string.C w Ap0 np0 a0) (lp0 : np0 ≤ cp0) :
    Calls Tryz.prog 32 #[.slice Ap0 np0 cp0, .func (.func 33) #[] #[]] w (fun e w' => ∃ v0_ : Value, e = .returned (.agg #[.int .i64 r.f0, .string r.f1, v0_]) ∧ Hp noFP w w' [.own (Zd.slice 66 q66) r.f2 [v0_]]) := by
 obtain rfl := C_len gp0
 have HS := Hp.start w
 have H := Aside0.mk h
 clear h
 unfold impl_each_string_0.f at H
 go_enter Tryz.func32, Tryz.ntmps32
 go_wp2_with (first | ((with_reducible refine gd 4 rfl ?_); refine ev_bx HS ?_; clear HS; intro g4 w4 HS F) | ((with_reducible refine gd 5 rfl ?_); refine ev_bx HS ?_; clear HS; intro g5 w5 HS F) | ((with_reducible refine gate_store (p := 5) rfl ?_); refine ev_st 1 0 HS (seg := [.int .i64 48, .string (⟨#[]⟩ : ByteArray), .slice none 0 0]) ?_; clear HS; intro w5 HS F))
 replace HS := HS.nil 66 q66
 go_loopg [11] k (fun kq v_11 w' => ∃ (l22 : List S66) (v23 : Value) (x24 : Int), v_11 = .int .i64 x24 ∧ Aside0 (impl_each_string_0.l0 kq l22 x24 a0 = some r) ∧ Aside0 (kq ≤ k) ∧ Hp noFP w w' [.box g4 [.int .i64 0, .string (⟨#[]⟩ : ByteArray), .slice none 0 0] 66, .box g5 [.int .i64 48, .string (⟨#[]⟩ : ByteArray), v23] 66, .own (Zd.slice 66 q66) l22 [v23]])
 case atStart => exact ⟨_, _, _, rfl, H, ⟨Nat.le_refl _⟩, HS⟩
 case round =>
  clear HS H; (try clear F)
  obtain ⟨l22, v23, x24, rfl, H, HKk21, HS⟩ := hrel
  obtain ⟨B23, d23, rfl, m23⟩ := HS.form 2 rfl
  have F := HS.boxes; simp only [bxn] at F
  cases gk with
  | zero => exact absurd H.out (by simp [impl_each_string_0.l0])
  | succ k21 =>
   simp only [impl_each_string_0.l0] at H
   replace H := znif H; rcases H with ⟨c26, H⟩ | ⟨c26, H⟩
   case inl =>
    obtain rfl := zsome H
    go_wp2_with ((with_reducible refine gate_store (p := 4) rfl ?_); refine ev_st 0 0 HS (seg := [.int .i64 48, .string (⟨#[]⟩ : ByteArray), .slice B23 l22.length d23]) ?_; clear HS; intro w33 HS F)
    exact bodyPost_ret (results_single rfl (.cell _ _ _ _ _ rfl (HS.boxAt (i := 0) rfl) Tryz.underlying66 rfl (by kernel_rfl) .nil)) rfl ⟨_, rfl, HS.pick [2] (by decide) (by rfl)⟩
   replace H := zgo H; obtain ⟨c27, H⟩ := H
   replace H := zgo H; obtain ⟨c28, H⟩ := H
   obtain ⟨ad29, rfl, e29_0⟩ := Kd.at_string gp0 x24 (of_eq_true c27) (of_eq_true c28)
   have e29_0_29 := HS.keepc e29_0
   (try go_wp2)
   replace H := zbind H; obtain ⟨t3, ht3, H⟩ := H
   replace H := zgo H; obtain ⟨c8, H⟩ := H
   replace H := zlets H; obtain ⟨y9, e_y9, H⟩ := H
   refine dr_start2 [.box g4 [.int .i64 0, .string (⟨#[]⟩ : ByteArray), .slice none 0 0] 66, .box g5 [.int .i64 48, .string (⟨#[]⟩ : ByteArray), .slice B23 l22.length d23] 66, .emp] [8] HS (HS.arr [some 0, some 1, none] (by decide)) #[false, false, false, false, false, false, false, false, false] (by kernel_rfl) rfl rfl impl_each_string_0.tT5 (fun w31 HT HS HH => ?_)
   (try clear F)
   refine drq_of [(0, some 15), (1, some 16), (2, some 17), (3, some 18)] ?_
   repeat (first | refine drp HT ?_ | refine drt HT HH ?_)
   refine drq_end ?_
   refine dr1 4 HT fun K hK => ?_
   refine if_wp (by rfl) ?_; refine wp_callv Tryz.func33 (by kernel_rfl) rfl #[.string (rdOf ByteArray.empty a0 x24)] #[.string (rdOf ByteArray.empty a0 x24)] rfl rfl (by simp only [mpn]; rfl) (by first | rfl | simp) ?_; refine (impl_bytesItem.calls ht3.out).mono ?_; rintro _ wt3 ⟨v6, rfl, HQ⟩; refine ⟨_, rfl, ?_⟩; replace HS := HS.call HQ; clear HQ; (try clear F); obtain ⟨B6, d6, rfl, m6⟩ := HS.form 3 rfl
   (try simp only [hpn, hpm] at HS)
   have F := HS.boxes; simp only [bxn] at F
   refine hK.out _ _ ⟨[], HS.arr [some 0, some 1, none] (by decide)⟩ (fun HH => ?_)
   clear hK K
   refine norm_ (a' := ?_) ?_ ?_
   rotate_left
   · show Act.put _ (some 19) _ = _; simp only [Act.put, ptn]; rfl
   refine dr1 5 HT fun K hK => ?_
   refine if_li q66 [3] ([t3] : List S66) ([.int .i64 t3.f0, .string t3.f1, .slice B6 t3.f2.length d6] ++ []) HS (MadeL.cons (js1 := [3]) (c := [.int .i64 t3.f0, .string t3.f1, .slice B6 t3.f2.length d6]) rfl (fun S hd hh => q66_pack (x := t3) hd (hh 3 (.own (Zd.slice 66 q66) t3.f2 [.slice B6 t3.f2.length d6]) rfl) (by decide)) MadeL.nil (by decide)) ?_; clear HS; intro v7 w7 HS F; obtain ⟨B7, d7, rfl, m7⟩ := HS.formn 1 4 rfl rfl
   refine hK.out _ _ ⟨[], HS.arr [some 0, some 1, none] (by decide)⟩ (fun HH => ?_)
   clear hK K
   refine norm_ (a' := ?_) ?_ ?_
   rotate_left
   · show Act.put _ (some 20) _ = _; simp only [Act.put, ptn]; rfl
   refine dr1 6 HT fun K hK => ?_
   refine wp_ap q66 2 4 HS rfl rfl Tryz.underlying64 info66 (of_eq_true c8) ?_; clear HS; intro v9 w9 HS; rw [← e_y9.out] at HS; obtain ⟨B9, d9, rfl, m9⟩ := HS.form 5 rfl
   (try simp only [hpn, hpm] at HS)
   have F := HS.boxes; simp only [bxn] at F
   refine hK.out _ _ ⟨[], HS.arr [some 0, some 1, none] (by decide)⟩ (fun HH => ?_)
   clear hK K
   refine norm_ (a' := ?_) ?_ ?_
   rotate_left
   · show Act.put _ (some 21) _ = _; simp only [Act.put, ptn]; rfl
   refine drq_of [(7, some 22)] ?_
   repeat (refine drp HT ?_)
   refine drq_end ?_
   refine dr_last 8 HT rfl (by kernel_rfl) (by decide) (fun K hK => ?_)
   refine if_st 1 2 HS (seg := [.slice B9 y9.length d9]) ?_; clear HS; intro w10 HS F
   refine hK.out _ _ ?_
   clear hK K
   refine done_ (done_of HT.out (by kernel_rfl)) ?_
   (try clear F)
   have F := HS.boxes; simp only [bxn] at F
   go_wp2
   go_roundg k21
   case measure => have := HKk21.out; omega
   case rel => exact ⟨_, _, _, rfl, H, ⟨by have := HKk21.out; omega⟩, HS.pick [0, 1, 5] (by decide) (by rfl)⟩
mutual
def impl_IntItem.l0 : Nat → (List Int) → Int → Option (S66)
  | 0, _, _ => none
  | k + 1, l19, x21 => (if 0 < x21 then (if 1 + l19.length ≤ 140737488355328 then (lets (([(x21 % 256)] : List Int) ++ l19) fun y27 => (impl_IntItem.l0 k y27 (x21 / 256))) else none) else (if 0 < (l19.length : Int) then (if 128 ≤ (rd l19 0) then (if 1 + l19.length ≤ 140737488355328 then (lets (([0] : List Int) ++ l19) fun y35 => (some (⟨2, (strOfNums y35), ([] : List S66)⟩ : S66))) else none) else (some (⟨2, (strOfNums l19), ([] : List S66)⟩ : S66))) else none))
def impl_IntItem.l1 : Nat → (List Int) → Int → Option (S66)
  | 0, _, _ => none
  | k + 1, l54, x56 => (if 0 < x56 then (if 1 + l54.length ≤ 140737488355328 then (lets (([(x56 % 256)] : List Int) ++ l54) fun y62 => (impl_IntItem.l1 k y62 (x56 / 256))) else none) else (if 0 < (l54.length : Int) then (if 128 ≤ (rd l54 0) then (if 1 + l54.length ≤ 140737488355328 then (lets (([0] : List Int) ++ l54) fun y70 => (some (⟨2, (strOfNums y70), ([] : List S66)⟩ : S66))) else none) else (some (⟨2, (strOfNums l54), ([] : List S66)⟩ : S66))) else none))
end
def impl_IntItem.f (k : Nat) (a0 : Int) : Option (S66) := ((impl_within.f a0 0 1000000000).bind fun t3 => (if t3 = true then (impl_IntItem.l0 k ([(a0 % 256)] : List Int) (a0 / 256)) else (impl_IntItem.l1 k ([0] : List Int) (0 / 256))))
theorem impl_IntItem.calls {k : Nat} {a0 : Int} {r : S66} {w : World} (h : impl_IntItem.f k a0 = some r) :
    Calls Tryz.prog 34 #[.int .i64 a0] w (fun e w' => ∃ v0_ : Value, e = .returned (.agg #[.int .i64 r.f0, .string r.f1, v0_]) ∧ Hp noFP w w' [.own (Zd.slice 66 q66) r.f2 [v0_]]) := by
 have HS := Hp.start w
 have H := Aside0.mk h
 clear h
 unfold impl_IntItem.f at H
 go_enter Tryz.func34, Tryz.ntmps34
 replace H := zbind H; obtain ⟨t3, ht3, H⟩ := H
 go_upto_if 6 with (first | ((with_reducible refine gd 2 rfl ?_); refine ev_bx HS ?_; clear HS; intro g2 w2 HS F) | ((with_reducible refine gd 5 rfl ?_); refine ev_cl HS (impl_within.calls ht3.out) Tryz.func52 ?_; clear HS; intro wt3 HS F))
 replace H := zifb H; rcases H with ⟨c5, H⟩ | ⟨c5, H⟩
 case inl =>
  subst c5
  (try simp only [dcn, dcu, dcf])
  go_wp2_with ((with_reducible refine gd 9 rfl ?_); refine ev_li (Zd.int .u8) [] ([(a0 % 256)] : List Int) ([.int .u8 (a0 % 256)] ++ []) HS (MadeL.cons (js1 := []) (c := [.int .u8 (a0 % 256)]) rfl (made_flat (fun _ => rfl)) MadeL.nil (by decide)) ?_; clear HS; intro v6 w6 HS F; obtain ⟨B6, d6, rfl, m6⟩ := HS.formn 1 1 rfl rfl)
  go_loopg [0, 3] k (fun kq v_0 v_3 w' => ∃ (l19 : List Int) (v20 : Value) (x21 : Int), v_0 = .int .i64 x21 ∧ v_3 = v20 ∧ Aside0 (impl_IntItem.l0 kq l19 x21 = some r) ∧ Aside0 (kq ≤ k) ∧ Hp noFP w w' [.box g2 [.int .i64 0, .string (⟨#[]⟩ : ByteArray), .slice none 0 0] 66, .own (Zd.slice 5 (Zd.int .u8)) l19 [v20]])
  case atStart => exact ⟨_, _, _, rfl, rfl, H, ⟨Nat.le_refl _⟩, HS⟩
  case round =>
   clear HS H; (try clear F)
   obtain ⟨l19, v20, x21, rfl, rfl, H, HKk18, HS⟩ := hrel
   obtain ⟨B20, d20, rfl, m20⟩ := HS.form 1 rfl
   have F := HS.boxes; simp only [bxn] at F
   cases gk with
   | zero => exact absurd H.out (by simp [impl_IntItem.l0])
   | succ k18 =>
    simp only [impl_IntItem.l0] at H
    replace H := zif H; rcases H with ⟨c23, H⟩ | ⟨c23, H⟩
    case inl =>
     replace H := zgo H; obtain ⟨c26, H⟩ := H
     replace H := zlets H; obtain ⟨y27, e_y27, H⟩ := H
     go_wp2_with (first | ((with_reducible refine gd 18 rfl ?_); refine ev_li (Zd.int .u8) [] ([(x21 % 256)] : List Int) ([.int .u8 (x21 % 256)] ++ []) HS (MadeL.cons (js1 := []) (c := [.int .u8 (x21 % 256)]) rfl (made_flat (fun _ => rfl)) MadeL.nil (by decide)) ?_; clear HS; intro v24 w24 HS F; obtain ⟨B24, d24, rfl, m24⟩ := HS.formn 1 2 rfl rfl) | ((with_reducible refine gd 20 rfl ?_); refine ev_apr (flat_int _) 2 HS rfl (HS.rd 1 rfl) Tryz.underlying22 info5 (of_eq_true c26) ?_; clear HS; intro v27 w27 HS; rw [← e_y27.out] at HS; obtain ⟨B27, d27, rfl, m27⟩ := HS.form 3 rfl; (try simp only [hpn, hpm] at HS); have F := HS.boxes; simp only [bxn] at F))
     go_roundg k18
     case measure => have := HKk18.out; omega
     case rel => exact ⟨_, _, _, rfl, rfl, H, ⟨by have := HKk18.out; omega⟩, HS.pick [0, 3] (by decide) (by rfl)⟩
    replace H := zgo H; obtain ⟨c29, H⟩ := H
    have c29n : (0 < l19.length) = True := eq_true (by have := of_eq_true c29; omega)
    obtain ⟨ad30, rfl, e30_0⟩ := Kd.at_int (HS.rd 1 rfl) 0 (of_eq_true (eq_true (by decide))) (of_eq_true c29)
    (try (have e30_0' := e30_0; simp only [Int.toNat_zero, Int.reduceToNat, Int.toNat_natCast, Nat.zero_mul, Nat.one_mul, Nat.zero_add, Nat.add_zero, Addr.add_zero', Addr.add_succ', Nat.reduceMul, Nat.reduceAdd] at e30_0'))
    replace H := znif H; rcases H with ⟨c31, H⟩ | ⟨c31, H⟩
    case inl =>
     obtain rfl := zsome H
     go_wp2_with (first | ((with_reducible refine gd 29 rfl ?_); refine ev_val rfl (run_str rfl rfl Tryz.underlying22 Tryz.underlying5 Tryz.underlying9 (HS.rd 1 rfl)) ?_) | ((with_reducible refine gate_store (p := 2) rfl ?_); refine ev_st 0 0 HS (seg := [.int .i64 2, .string (strOfNums l19), .slice none 0 0]) ?_; clear HS; intro w39 HS F))
     replace HS := HS.nil 66 q66
     exact bodyPost_ret (results_single rfl (.cell _ _ _ _ _ rfl (HS.boxAt (i := 0) rfl) Tryz.underlying66 rfl (by kernel_rfl) .nil)) rfl ⟨_, rfl, HS.pick [2] (by decide) (by rfl)⟩
    replace H := zgo H; obtain ⟨c34, H⟩ := H
    replace H := zlets H; obtain ⟨y35, e_y35, H⟩ := H
    obtain rfl := zsome H
    go_wp2_with (first | ((with_reducible refine gd 25 rfl ?_); refine ev_li (Zd.int .u8) [] ([0] : List Int) ([.int .u8 0] ++ []) HS (MadeL.cons (js1 := []) (c := [.int .u8 0]) rfl (made_flat (fun _ => rfl)) MadeL.nil (by decide)) ?_; clear HS; intro v32 w32 HS F; obtain ⟨B32, d32, rfl, m32⟩ := HS.formn 1 2 rfl rfl) | ((with_reducible refine gd 27 rfl ?_); refine ev_apr (flat_int _) 2 HS rfl (HS.rd 1 rfl) Tryz.underlying22 info5 (of_eq_true c34) ?_; clear HS; intro v35 w35 HS; rw [← e_y35.out] at HS; obtain ⟨B35, d35, rfl, m35⟩ := HS.form 3 rfl; (try simp only [hpn, hpm] at HS); have F := HS.boxes; simp only [bxn] at F) | ((with_reducible refine gd 29 rfl ?_); refine ev_val rfl (run_str rfl rfl Tryz.underlying22 Tryz.underlying5 Tryz.underlying9 (HS.rd 3 rfl)) ?_) | ((with_reducible refine gate_store (p := 2) rfl ?_); refine ev_st 0 0 HS (seg := [.int .i64 2, .string (strOfNums y35), .slice none 0 0]) ?_; clear HS; intro w37 HS F))
    replace HS := HS.nil 66 q66
    exact bodyPost_ret (results_single rfl (.cell _ _ _ _ _ rfl (HS.boxAt (i := 0) rfl) Tryz.underlying66 rfl (by kernel_rfl) .nil)) rfl ⟨_, rfl, HS.pick [4] (by decide) (by rfl)⟩
 subst c5
 (try simp only [dcn, dcu, dcf])
 go_wp2_with ((with_reducible refine gd 9 rfl ?_); refine ev_li (Zd.int .u8) [] ([0] : List Int) ([.int .u8 0] ++ []) HS (MadeL.cons (js1 := []) (c := [.int .u8 0]) rfl (made_flat (fun _ => rfl)) MadeL.nil (by decide)) ?_; clear HS; intro v41 w41 HS F; obtain ⟨B41, d41, rfl, m41⟩ := HS.formn 1 1 rfl rfl)
 go_loopg [0, 3] k (fun kq v_0 v_3 w' => ∃ (l54 : List Int) (v55 : Value) (x56 : Int), v_0 = .int .i64 x56 ∧ v_3 = v55 ∧ Aside0 (impl_IntItem.l1 kq l54 x56 = some r) ∧ Aside0 (kq ≤ k) ∧ Hp noFP w w' [.box g2 [.int .i64 0, .string (⟨#[]⟩ : ByteArray), .slice none 0 0] 66, .own (Zd.slice 5 (Zd.int .u8)) l54 [v55]])
 case atStart => exact ⟨_, _, _, rfl, rfl, H, ⟨Nat.le_refl _⟩, HS⟩
 case round =>
  clear HS H; (try clear F)
  obtain ⟨l54, v55, x56, rfl, rfl, H, HKk53, HS⟩ := hrel
  obtain ⟨B55, d55, rfl, m55⟩ := HS.form 1 rfl
  have F := HS.boxes; simp only [bxn] at F
  cases gk with
  | zero => exact absurd H.out (by simp [impl_IntItem.l1])
  | succ k53 =>
   simp only [impl_IntItem.l1] at H
   replace H := zif H; rcases H with ⟨c58, H⟩ | ⟨c58, H⟩
   case inl =>
    replace H := zgo H; obtain ⟨c61, H⟩ := H
    replace H := zlets H; obtain ⟨y62, e_y62, H⟩ := H
    go_wp2_with (first | ((with_reducible refine gd 18 rfl ?_); refine ev_li (Zd.int .u8) [] ([(x56 % 256)] : List Int) ([.int .u8 (x56 % 256)] ++ []) HS (MadeL.cons (js1 := []) (c := [.int .u8 (x56 % 256)]) rfl (made_flat (fun _ => rfl)) MadeL.nil (by decide)) ?_; clear HS; intro v59 w59 HS F; obtain ⟨B59, d59, rfl, m59⟩ := HS.formn 1 2 rfl rfl) | ((with_reducible refine gd 20 rfl ?_); refine ev_apr (flat_int _) 2 HS rfl (HS.rd 1 rfl) Tryz.underlying22 info5 (of_eq_true c61) ?_; clear HS; intro v62 w62 HS; rw [← e_y62.out] at HS; obtain ⟨B62, d62, rfl, m62⟩ := HS.form 3 rfl; (try simp only [hpn, hpm] at HS); have F := HS.boxes; simp only [bxn] at F))
    go_roundg k53
    case measure => have := HKk53.out; omega
    case rel => exact ⟨_, _, _, rfl, rfl, H, ⟨by have := HKk53.out; omega⟩, HS.pick [0, 3] (by decide) (by rfl)⟩
   replace H := zgo H; obtain ⟨c64, H⟩ := H
   have c64n : (0 < l54.length) = True := eq_true (by have := of_eq_true c64; omega)
   obtain ⟨ad65, rfl, e65_0⟩ := Kd.at_int (HS.rd 1 rfl) 0 (of_eq_true (eq_true (by decide))) (of_eq_true c64)
   (try (have e65_0' := e65_0; simp only [Int.toNat_zero, Int.reduceToNat, Int.toNat_natCast, Nat.zero_mul, Nat.one_mul, Nat.zero_add, Nat.add_zero, Addr.add_zero', Addr.add_succ', Nat.reduceMul, Nat.reduceAdd] at e65_0'))
   replace H := znif H; rcases H with ⟨c66, H⟩ | ⟨c66, H⟩
   case inl =>
    obtain rfl := zsome H
    go_wp2_with (first | ((with_reducible refine gd 29 rfl ?_); refine ev_val rfl (run_str rfl rfl Tryz.underlying22 Tryz.underlying5 Tryz.underlying9 (HS.rd 1 rfl)) ?_) | ((with_reducible refine gate_store (p := 2) rfl ?_); refine ev_st 0 0 HS (seg := [.int .i64 2, .string (strOfNums l54), .slice none 0 0]) ?_; clear HS; intro w74 HS F))
    replace HS := HS.nil 66 q66
    exact bodyPost_ret (results_single rfl (.cell _ _ _ _ _ rfl (HS.boxAt (i := 0) rfl) Tryz.underlying66 rfl (by kernel_rfl) .nil)) rfl ⟨_, rfl, HS.pick [2] (by decide) (by rfl)⟩
   replace H := zgo H; obtain ⟨c69, H⟩ := H
   replace H := zlets H; obtain ⟨y70, e_y70, H⟩ := H
   obtain rfl := zsome H
   go_wp2_with (first | ((with_reducible refine gd 25 rfl ?_); refine ev_li (Zd.int .u8) [] ([0] : List Int) ([.int .u8 0] ++ []) HS (MadeL.cons (js1 := []) (c := [.int .u8 0]) rfl (made_flat (fun _ => rfl)) MadeL.nil (by decide)) ?_; clear HS; intro v67 w67 HS F; obtain ⟨B67, d67, rfl, m67⟩ := HS.formn 1 2 rfl rfl) | ((with_reducible refine gd 27 rfl ?_); refine ev_apr (flat_int _) 2 HS rfl (HS.rd 1 rfl) Tryz.underlying22 info5 (of_eq_true c69) ?_; clear HS; intro v70 w70 HS; rw [← e_y70.out] at HS; obtain ⟨B70, d70, rfl, m70⟩ := HS.form 3 rfl; (try simp only [hpn, hpm] at HS); have F := HS.boxes; simp only [bxn] at F) | ((with_reducible refine gd 29 rfl ?_); refine ev_val rfl (run_str rfl rfl Tryz.underlying22 Tryz.underlying5 Tryz.underlying9 (HS.rd 3 rfl)) ?_) | ((with_reducible refine gate_store (p := 2) rfl ?_); refine ev_st 0 0 HS (seg := [.int .i64 2, .string (strOfNums y70), .slice none 0 0]) ?_; clear HS; intro w72 HS F))
   replace HS := HS.nil 66 q66
   exact bodyPost_ret (results_single rfl (.cell _ _ _ _ _ rfl (HS.boxAt (i := 0) rfl) Tryz.underlying66 rfl (by kernel_rfl) .nil)) rfl ⟨_, rfl, HS.pick [4] (by decide) (by rfl)⟩
def impl_boolItem.f (a0 : Bool) : Option (S66) := (if a0 = true then (some (⟨1, (⟨#[255]⟩ : ByteArray), ([] : List S66)⟩ : S66)) else (some (⟨1, (⟨#[0]⟩ : ByteArray), ([] : List S66)⟩ : S66)))
theorem impl_boolItem.calls {a0 : Bool} {r : S66} {w : World} (h : impl_boolItem.f a0 = some r) :
    Calls Tryz.prog 35 #[.bool a0] w (fun e w' => ∃ v0_ : Value, e = .returned (.agg #[.int .i64 r.f0, .string r.f1, v0_]) ∧ Hp noFP w w' [.own (Zd.slice 66 q66) r.f2 [v0_]]) := by
 have HS := Hp.start w
 have H := Aside0.mk h
 clear h
 unfold impl_boolItem.f at H
 go_enter Tryz.func35, Tryz.ntmps35
 go_upto_if 3 with ((with_reducible refine gd 2 rfl ?_); refine ev_bx HS ?_; clear HS; intro g2 w2 HS F)
 replace H := zifb H; rcases H with ⟨c3, H⟩ | ⟨c3, H⟩
 case inl =>
  subst c3
  (try simp only [dcn, dcu, dcf])
  obtain rfl := zsome H
  go_wp2_with ((with_reducible refine gate_store (p := 2) rfl ?_); refine ev_st 0 0 HS (seg := [.int .i64 1, .string (⟨#[255]⟩ : ByteArray), .slice none 0 0]) ?_; clear HS; intro w4 HS F)
  replace HS := HS.nil 66 q66
  exact bodyPost_ret (results_single rfl (.cell _ _ _ _ _ rfl (HS.boxAt (i := 0) rfl) Tryz.underlying66 rfl (by kernel_rfl) .nil)) rfl ⟨_, rfl, HS.pick [1] (by decide) (by rfl)⟩
 subst c3
 (try simp only [dcn, dcu, dcf])
 obtain rfl := zsome H
 go_wp2_with ((with_reducible refine gate_store (p := 2) rfl ?_); refine ev_st 0 0 HS (seg := [.int .i64 1, .string (⟨#[0]⟩ : ByteArray), .slice none 0 0]) ?_; clear HS; intro w6 HS F)
 replace HS := HS.nil 66 q66
 exact bodyPost_ret (results_single rfl (.cell _ _ _ _ _ rfl (HS.boxAt (i := 0) rfl) Tryz.underlying66 rfl (by kernel_rfl) .nil)) rfl ⟨_, rfl, HS.pick [1] (by decide) (by rfl)⟩
def impl_AskText.f (k : Nat) (a0 : S26) : Option (ByteArray × Bool) := ((impl_AskOk.f k a0).bind fun t3 => (if t3 = true then ((impl_each_string_0.f k a0.f0).bind fun t6 => ((impl_IntItem.f k a0.f1).bind fun t9 => ((impl_IntItem.f k a0.f2).bind fun t11 => ((impl_IntItem.f k a0.f3).bind fun t14 => ((impl_IntItem.f k a0.f4).bind fun t16 => ((impl_boolItem.f a0.f5).bind fun t18 => ((impl_ListItem.f k ([t6, t9, t11, t14, t16, t18] : List S66)).bind fun t21 => ((impl_ItemText.f k t21).bind fun t23 => (some (t23.1, t23.2)))))))))) else (some ((⟨#[]⟩ : ByteArray), false))))
def impl_AskText.T3 : TT := (true, [([], []), ([0], [0]), ([1], [1]), ([], []), ([3], [3]), ([4, 2], [4]), ([], []), ([6], [6]), ([7, 5], [7]), ([], []), ([9], [9]), ([10, 8], [10]), ([], []), ([12], [12]), ([13, 11], [13]), ([], []), ([15], [15]), ([16, 14], [16]), ([2, 5, 8, 11, 14, 17], [2, 5, 8, 11, 14, 17]), ([18, 17], [18]), ([19, 19], [19]), ([20], [20]), ([20], [20]), ([21, 20, 0, 1, 2, 3, 4, 5, 6, 7, 8, 9, 10, 11, 12, 13, 14, 15, 16, 17, 18, 19, 20, 21, 22], [21]), ([22, 23, 0, 1, 2, 3, 4, 5, 6, 7, 8, 9, 10, 11, 12, 13, 14, 15, 16, 17, 18, 19, 20, 21, 22, 23], [22])])
theorem impl_AskText.tT3 : rtab .any (opsOf Tryz.f7 3) = impl_AskText.T3 := by kernel_rfl
theorem impl_AskText.calls {k : Nat} {a0 : S26} {Ap0 : Option Addr} {np0 cp0 : Nat} {r1 : ByteArray} {r2 : Bool} {w : World} (h : impl_AskText.f k a0 = some (r1, r2)) (gp0 : Kd.string.C w Ap0 np0 a0.f0) (lp0 : np0 ≤ cp0) :
    Calls Tryz.prog 7 #[.agg #[.slice Ap0 np0 cp0, .int .i64 a0.f1, .int .i64 a0.f2, .int .i64 a0.f3, .int .i64 a0.f4, .bool a0.f5]] w (fun e w' => e = .returned (.tuple #[.string r1, .bool r2]) ∧ Hp noFP w w' []) := by
 obtain rfl := C_len gp0
 have HS := Hp.start w
 have H := Aside0.mk h
 clear h
 unfold impl_AskText.f at H
 go_enter Tryz.func7, Tryz.ntmps7
 replace H := zbind H; obtain ⟨t3, ht3, H⟩ := H
 go_upto_if 6 with (first | ((with_reducible refine gd 1 rfl ?_); refine ev_bx HS ?_; clear HS; intro g1 w1 HS F) | ((with_reducible refine gd 5 rfl ?_); refine ev_cl HS (impl_AskOk.calls ht3.out (HS.ro gp0) lp0) Tryz.func12 ?_; clear HS; intro wt3 HS F))
 replace H := znifb H; rcases H with ⟨c5, H⟩ | ⟨c5, H⟩
 case inl =>
  subst c5
  (try simp only [dcn, dcu, dcf])
  obtain ⟨rfl, rfl⟩ := zsome2 H
  go_wp2
  exact bodyPost_ret (results_list (rs := [.tmp 2, .tmp 3]) rfl (by simp) (.tmp (.tmp .nil))) rfl ⟨rfl, HS.pick [] (by decide) (by rfl)⟩
 subst c5
 (try simp only [dcn, dcu, dcf])
 (try go_wp2)
 replace H := zbind H; obtain ⟨t6, ht6, H⟩ := H
 replace H := zbind H; obtain ⟨t9, ht9, H⟩ := H
 replace H := zbind H; obtain ⟨t11, ht11, H⟩ := H
 replace H := zbind H; obtain ⟨t14, ht14, H⟩ := H
 replace H := zbind H; obtain ⟨t16, ht16, H⟩ := H
 replace H := zbind H; obtain ⟨t18, ht18, H⟩ := H
 replace H := zbind H; obtain ⟨t21, ht21, H⟩ := H
 replace H := zbind H; obtain ⟨t23, ht23, H⟩ := H
 refine dr_start [] HS #[false, false, false, false, false, false, false, false, false, false, false, false, false, false, false, false, false, false, false, false, false, false, false, false, false] (by kernel_rfl) rfl rfl impl_AskText.tT3 (fun w7 HT HS HH => ?_)
 (try clear F)
 refine drq_of [(0, some 7), (1, some 8), (3, some 10), (4, some 11), (6, some 13), (7, some 14), (9, some 16), (10, some 17), (12, some 19), (13, some 20), (15, some 22), (16, some 23)] ?_
 repeat (first | refine drp HT ?_ | refine drt HT HH ?_)
 refine drq_end ?_
 refine dr1 2 HT fun K hK => ?_
 refine go_cl1 HS (impl_each_string_0.calls ht6.out (HS.ro gp0) lp0) Tryz.func32 ?_; clear HS; intro v8 wt6 HS F; obtain ⟨B8, d8, rfl, m8⟩ := HS.form 1 rfl
 refine nrm 9 hK ⟨_, HS⟩ (fun HH => ?_); clear hK K
 refine dr1 5 HT fun K hK => ?_
 refine go_cl1 HS (impl_IntItem.calls ht9.out) Tryz.func34 ?_; clear HS; intro v10 wt9 HS F; obtain ⟨B10, d10, rfl, m10⟩ := HS.form 2 rfl
 refine nrm 12 hK ⟨_, HS⟩ (fun HH => ?_); clear hK K
 refine dr1 8 HT fun K hK => ?_
 refine go_cl1 HS (impl_IntItem.calls ht11.out) Tryz.func34 ?_; clear HS; intro v13 wt11 HS F; obtain ⟨B13, d13, rfl, m13⟩ := HS.form 3 rfl
 refine nrm 15 hK ⟨_, HS⟩ (fun HH => ?_); clear hK K
 refine dr1 11 HT fun K hK => ?_
 refine go_cl1 HS (impl_IntItem.calls ht14.out) Tryz.func34 ?_; clear HS; intro v15 wt14 HS F; obtain ⟨B15, d15, rfl, m15⟩ := HS.form 4 rfl
 refine nrm 18 hK ⟨_, HS⟩ (fun HH => ?_); clear hK K
 refine dr1 14 HT fun K hK => ?_
 refine go_cl1 HS (impl_IntItem.calls ht16.out) Tryz.func34 ?_; clear HS; intro v17 wt16 HS F; obtain ⟨B17, d17, rfl, m17⟩ := HS.form 5 rfl
 refine nrm 21 hK ⟨_, HS⟩ (fun HH => ?_); clear hK K
 refine dr1 17 HT fun K hK => ?_
 refine go_cl1 HS (impl_boolItem.calls ht18.out) Tryz.func35 ?_; clear HS; intro v19 wt18 HS F; obtain ⟨B19, d19, rfl, m19⟩ := HS.form 6 rfl
 refine nrm 24 hK ⟨_, HS⟩ (fun HH => ?_); clear hK K
 refine dr1 18 HT fun K hK => ?_
 refine if_li q66 [1, 2, 3, 4, 5, 6] ([t6, t9, t11, t14, t16, t18] : List S66) ([.int .i64 t6.f0, .string t6.f1, .slice B8 t6.f2.length d8] ++ ([.int .i64 t9.f0, .string t9.f1, .slice B10 t9.f2.length d10] ++ ([.int .i64 t11.f0, .string t11.f1, .slice B13 t11.f2.length d13] ++ ([.int .i64 t14.f0, .string t14.f1, .slice B15 t14.f2.length d15] ++ ([.int .i64 t16.f0, .string t16.f1, .slice B17 t16.f2.length d17] ++ ([.int .i64 t18.f0, .string t18.f1, .slice B19 t18.f2.length d19] ++ [])))))) HS (MadeL.cons (js1 := [1]) (c := [.int .i64 t6.f0, .string t6.f1, .slice B8 t6.f2.length d8]) rfl (fun S hd hh => q66_pack (x := t6) hd (hh 1 (.own (Zd.slice 66 q66) t6.f2 [.slice B8 t6.f2.length d8]) rfl) (by decide)) (MadeL.cons (js1 := [2]) (c := [.int .i64 t9.f0, .string t9.f1, .slice B10 t9.f2.length d10]) rfl (fun S hd hh => q66_pack (x := t9) hd (hh 2 (.own (Zd.slice 66 q66) t9.f2 [.slice B10 t9.f2.length d10]) rfl) (by decide)) (MadeL.cons (js1 := [3]) (c := [.int .i64 t11.f0, .string t11.f1, .slice B13 t11.f2.length d13]) rfl (fun S hd hh => q66_pack (x := t11) hd (hh 3 (.own (Zd.slice 66 q66) t11.f2 [.slice B13 t11.f2.length d13]) rfl) (by decide)) (MadeL.cons (js1 := [4]) (c := [.int .i64 t14.f0, .string t14.f1, .slice B15 t14.f2.length d15]) rfl (fun S hd hh => q66_pack (x := t14) hd (hh 4 (.own (Zd.slice 66 q66) t14.f2 [.slice B15 t14.f2.length d15]) rfl) (by decide)) (MadeL.cons (js1 := [5]) (c := [.int .i64 t16.f0, .string t16.f1, .slice B17 t16.f2.length d17]) rfl (fun S hd hh => q66_pack (x := t16) hd (hh 5 (.own (Zd.slice 66 q66) t16.f2 [.slice B17 t16.f2.length d17]) rfl) (by decide)) (MadeL.cons (js1 := [6]) (c := [.int .i64 t18.f0, .string t18.f1, .slice B19 t18.f2.length d19]) rfl (fun S hd hh => q66_pack (x := t18) hd (hh 6 (.own (Zd.slice 66 q66) t18.f2 [.slice B19 t18.f2.length d19]) rfl) (by decide)) MadeL.nil (by decide)) (by decide)) (by decide)) (by decide)) (by decide)) (by decide)) ?_; clear HS; intro v20 w20 HS F; obtain ⟨B20, d20, rfl, m20⟩ := HS.formn 6 7 rfl rfl
 refine nrm 25 hK ⟨_, HS⟩ (fun HH => ?_); clear hK K
 refine dr1 19 HT fun K hK => ?_
 refine go_cl1 HS (impl_ListItem.calls ht21.out (HS.rd 7 rfl) m20) Tryz.func31 ?_; clear HS; intro v22 wt21 HS F; obtain ⟨B22, d22, rfl, m22⟩ := HS.form 8 rfl
 refine nrm 26 hK ⟨_, HS⟩ (fun HH => ?_); clear hK K
 refine dr1 20 HT fun K hK => ?_
 refine go_cl HS (impl_ItemText.calls ht23.out (HS.rd 8 rfl) m22) Tryz.func30 ?_; clear HS; intro wt23 HS F
 refine nrm 27 hK ⟨_, HS⟩ (fun HH => ?_); clear hK K
 refine drq_of [(21, some 28), (22, some 29), (23, some 2), (24, some 3)] ?_
 repeat (refine drp HT ?_)
 refine drq_end ?_
 refine done_ (done_of HT.out (by kernel_rfl)) ?_
 (try clear F)
 have F := HS.boxes; simp only [bxn] at F
 obtain ⟨rfl, rfl⟩ := zsome2 H
 go_wp2
 exact bodyPost_ret (results_list (rs := [.tmp 2, .tmp 3]) rfl (by simp) (.tmp (.tmp .nil))) rfl ⟨rfl, HS.pick [] (by decide) (by rfl)⟩
def impl_readLength.l0 : Nat → Int → Int → ByteArray → ByteArray → Option (Int × ByteArray × Bool)
  | 0, _, _, _, _ => none
  | k + 1, x28, x29, a0, y15 => (if x29 < (y15.size : Int) then (if 0 ≤ x29 then (if x29 < (y15.size : Int) then (impl_readLength.l0 k (Go.bits .or .i64 (wrap64 (x28 * 256)) (wrap64 (rd (bytesOf y15) x29))) (wrap64 (x29 + 1)) a0 y15) else none) else none) else (if 0 ≤ (wrap64 (1 + (wrap64 ((wrap64 (bt a0 0)) - 128)))) then (some (x28, (a0.extract ((wrap64 (1 + (wrap64 ((wrap64 (bt a0 0)) - 128))))).toNat a0.size), true)) else none))
def impl_readLength.f (k : Nat) (a0 : ByteArray) : Option (Int × ByteArray × Bool) := (if a0.toList = ([] : List UInt8) then (some (0, (⟨#[]⟩ : ByteArray), false)) else (if 0 < (a0.size : Int) then (if (bt a0 0) < 128 then (if 1 ≤ (a0.size : Int) then (some ((wrap64 (bt a0 0)), (a0.extract 1 a0.size), true)) else none) else (if 4 < (wrap64 ((wrap64 (bt a0 0)) - 128)) then (some (0, (⟨#[]⟩ : ByteArray), false)) else (if (a0.size : Int) < (wrap64 (1 + (wrap64 ((wrap64 (bt a0 0)) - 128)))) then (some (0, (⟨#[]⟩ : ByteArray), false)) else (if 1 ≤ (wrap64 (1 + (wrap64 ((wrap64 (bt a0 0)) - 128)))) then (if (wrap64 (1 + (wrap64 ((wrap64 (bt a0 0)) - 128)))) ≤ (a0.size : Int) then (lets (a0.extract 1 ((wrap64 (1 + (wrap64 ((wrap64 (bt a0 0)) - 128))))).toNat) fun y15 => (if y15.size ≤ 9223372036854775807 then (impl_readLength.l0 k 0 0 a0 y15) else none)) else none) else none)))) else none))
def impl_readLength.T4 : TT := (true, [([], []), ([0], [0]), ([1], [1]), ([], []), ([3], [3]), ([2, 0, 1, 2], [2]), ([4, 5, 0, 1, 2, 3, 4, 5], [4]), ([6, 0, 1, 2, 3, 4, 5, 6], [])])
theorem impl_readLength.tT4 : rtab .any (opsOf Tryz.f105 4) = impl_readLength.T4 := by kernel_rfl
def impl_readLength.T14 : TT := (true, [([], []), ([], []), ([], []), ([2], [2]), ([1, 3], [1, 3]), ([0, 0], [0]), ([4, 5, 0, 1, 2, 3, 4, 5], [4]), ([6, 0, 1, 2, 3, 4, 5, 6], [])])
theorem impl_readLength.tT14 : rtab .any (opsOf Tryz.f105 14) = impl_readLength.T14 := by kernel_rfl
theorem impl_readLength.calls {k : Nat} {a0 : ByteArray} {r1 : Int} {r2 : ByteArray} {r3 : Bool} {w : World} (h : impl_readLength.f k a0 = some (r1, r2, r3)) :
    Calls Tryz.prog 105 #[.string a0] w (fun e w' => e = .returned (.tuple #[.int .i64 r1, .string r2, .bool r3]) ∧ Hp noFP w w' []) := by
 have HS := Hp.start w
 have H := Aside0.mk h
 clear h
 unfold impl_readLength.f at H
 go_enter Tryz.func105, Tryz.ntmps105
 replace H := zif' H; rcases H with ⟨c1, H⟩ | ⟨c1, H⟩
 case inl =>
  have c1a := beq_iff_eq.mpr c1
  have c1b := bne_eq_false_iff_eq.mpr c1
  have c1e := List.isEmpty_iff.mpr c1
  clear c1
  obtain ⟨rfl, rfl, rfl⟩ := zsome3 H
  go_wp2
  exact bodyPost_ret (results_list (rs := [.tmp 2, .tmp 3, .tmp 4]) rfl (by simp) (.tmp (.tmp (.tmp .nil)))) rfl ⟨rfl, HS.pick [] (by decide) (by rfl)⟩
 have c1a := beq_eq_false_iff_ne.mpr c1
 have c1b := bne_iff_ne.mpr c1
 have c1e := List.isEmpty_eq_false_iff.mpr c1
 clear c1
 replace H := zgo H; obtain ⟨c2, H⟩ := H
 have c2n : (0 < a0.size) = True := eq_true (by have := of_eq_true c2; omega)
 have hx3 : ∀ h : 0 < a0.size, ((a0[0]'h).toNat : Int) = bt a0 0 := bt_at a0 0
 have hz4 : 0 < a0.size := (by have := of_eq_true c2; omega)
 replace H := zif H; rcases H with ⟨c5, H⟩ | ⟨c5, H⟩
 case inl =>
  (try go_wp2)
  have hx17 : ∀ h : 0 < a0.size, ((a0[0]'h).toNat : Int) = bt a0 0 := bt_at a0 0
  have hz18 : 0 < a0.size := (by have := of_eq_true c2; omega)
  replace H := zgo H; obtain ⟨c19, H⟩ := H
  refine dr_start [] HS #[false, false, false, false, false, false, false, false] (by kernel_rfl) rfl rfl impl_readLength.tT4 (fun w7 HT HS HH => ?_)
  (try clear F)
  refine drq_of [(0, some 14), (1, some 15), (2, some 16), (3, some 17)] ?_
  repeat (refine drp HT ?_)
  refine drq_end ?_
  refine dr_pure 4 (some 18) HT (v := .string (a0.extract 1 a0.size)) (a' := ?_) rfl rfl (by kernel_rfl) (fun _ _ _ h => h) (.inl ⟨by rfl, fun w' => (run_cut rfl rfl Tryz.underlying9 (.inr ⟨_, _, rfl, rfl, of_eq_true (eq_true (by decide : (0:Int) ≤ 1))⟩) (.inl ⟨rfl, rfl⟩) (by have := of_eq_true (eq_true (by decide : (0:Int) ≤ 1)); have := of_eq_true c19; have := of_eq_true (eq_true (Int.le_refl (a0.size : Int))); omega) (by have := of_eq_true (eq_true (by decide : (0:Int) ≤ 1)); have := of_eq_true c19; have := of_eq_true (eq_true (Int.le_refl (a0.size : Int))); omega))⟩) ?_ ?_
  rotate_left
  · simp only [Act.put, ptn]; rfl
  refine drq_of [(5, some 2), (6, some 3), (7, some 4)] ?_
  repeat (refine drp HT ?_)
  refine drq_end ?_
  refine done_ (done_of HT.out (by kernel_rfl)) ?_
  obtain ⟨rfl, rfl, rfl⟩ := zsome3 H
  go_wp2
  exact bodyPost_ret (results_list (rs := [.tmp 2, .tmp 3, .tmp 4]) rfl (by simp) (.tmp (.tmp (.tmp .nil)))) rfl ⟨rfl, HS.pick [] (by decide) (by rfl)⟩
 have hx9 : ∀ h : 0 < a0.size, ((a0[0]'h).toNat : Int) = bt a0 0 := bt_at a0 0
 have hz10 : 0 < a0.size := (by have := of_eq_true c2; omega)
 replace H := zif H; rcases H with ⟨c11, H⟩ | ⟨c11, H⟩
 case inl =>
  obtain ⟨rfl, rfl, rfl⟩ := zsome3 H
  go_wp2
  exact bodyPost_ret (results_list (rs := [.tmp 2, .tmp 3, .tmp 4]) rfl (by simp) (.tmp (.tmp (.tmp .nil)))) rfl ⟨rfl, HS.pick [] (by decide) (by rfl)⟩
 replace H := zif H; rcases H with ⟨c12, H⟩ | ⟨c12, H⟩
 case inl =>
  obtain ⟨rfl, rfl, rfl⟩ := zsome3 H
  go_wp2
  exact bodyPost_ret (results_list (rs := [.tmp 2, .tmp 3, .tmp 4]) rfl (by simp) (.tmp (.tmp (.tmp .nil)))) rfl ⟨rfl, HS.pick [] (by decide) (by rfl)⟩
 replace H := zgo H; obtain ⟨c13, H⟩ := H
 replace H := zgo H; obtain ⟨c14, H⟩ := H
 replace H := zlets H; obtain ⟨y15, e_y15, H⟩ := H
 replace H := zgo H; obtain ⟨c16, H⟩ := H
 go_wp2_with (first | ((with_reducible refine gd 35 rfl ?_); refine ev_val rfl (run_cut rfl rfl Tryz.underlying9 (.inr ⟨_, _, rfl, rfl, of_eq_true (eq_true (by decide : (0:Int) ≤ 1))⟩) (.inr ⟨_, _, rfl, rfl, by have := of_eq_true (eq_true (by decide : (0:Int) ≤ 1)); have := of_eq_true c13; have := of_eq_true c14; omega⟩) (by have := of_eq_true (eq_true (by decide : (0:Int) ≤ 1)); have := of_eq_true c13; have := of_eq_true c14; omega) (by have := of_eq_true (eq_true (by decide : (0:Int) ≤ 1)); have := of_eq_true c13; have := of_eq_true c14; omega)) ?_) | ((with_reducible refine gd 36 rfl ?_); refine ev_bytes rfl HS rfl (s := y15) (by rw [e_y15.out]; rfl) Tryz.underlying9 Tryz.underlying22 Tryz.underlying5 (of_eq_true c16) ?_; clear HS; intro v15 w15 HS; obtain ⟨B15, d15, rfl, m15⟩ := HS.vformb 0 rfl; (try simp only [hpn, hpm] at HS)))
 go_loopg [6, 38] k (fun kq v_6 v_38 w' => ∃ (x28 : Int) (x29 : Int), v_6 = .int .i64 x28 ∧ v_38 = .int .i64 x29 ∧ Aside0 (impl_readLength.l0 kq x28 x29 a0 y15 = some (r1, r2, r3)) ∧ Aside0 (kq ≤ k) ∧ Hp noFP w w' [.own (Zd.view 5 (Zd.int .u8)) (bytesOf y15) [.slice B15 y15.size d15]])
 case atStart => exact ⟨_, _, rfl, rfl, H, ⟨Nat.le_refl _⟩, HS⟩
 case round =>
  clear HS H; (try clear F)
  obtain ⟨x28, x29, rfl, rfl, H, HKk27, HS⟩ := hrel
  cases gk with
  | zero => exact absurd H.out (by simp [impl_readLength.l0])
  | succ k27 =>
   simp only [impl_readLength.l0] at H
   replace H := zif H; rcases H with ⟨c31, H⟩ | ⟨c31, H⟩
   case inl =>
    replace H := zgo H; obtain ⟨c32, H⟩ := H
    replace H := zgo H; obtain ⟨c33, H⟩ := H
    obtain ⟨ad34, rfl, e34_0⟩ := Kd.at_int (HS.vrd 0 rfl) x29 (of_eq_true c32) (of_eq_true c33)
    go_wp2
    go_roundg k27
    case measure => have := HKk27.out; omega
    case rel => exact ⟨_, _, rfl, rfl, H, ⟨by have := HKk27.out; omega⟩, HS.pick [0] (by decide) (by rfl)⟩
   (try go_wp2)
   replace H := zgo H; obtain ⟨c20, H⟩ := H
   refine dr_start [] HS #[false, false, false, false, false, false, false, false] (by kernel_rfl) rfl rfl impl_readLength.tT14 (fun w36 HT HS HH => ?_)
   (try clear F)
   refine drq_of [(0, some 48), (1, some 49), (2, some 50), (3, some 51)] ?_
   repeat (refine drp HT ?_)
   refine drq_end ?_
   refine dr_pure 4 (some 52) HT (v := .string (a0.extract ((wrap64 (1 + (wrap64 ((wrap64 (bt a0 0)) - 128))))).toNat a0.size)) (a' := ?_) rfl rfl (by kernel_rfl) (fun _ _ _ h => h) (.inl ⟨by rfl, fun w' => (run_cut rfl rfl Tryz.underlying9 (.inr ⟨_, _, rfl, rfl, of_eq_true c20⟩) (.inl ⟨rfl, rfl⟩) (by have := of_eq_true c20; have := of_eq_true c14; have := of_eq_true (eq_true (Int.le_refl (a0.size : Int))); omega) (by have := of_eq_true c20; have := of_eq_true c14; have := of_eq_true (eq_true (Int.le_refl (a0.size : Int))); omega))⟩) ?_ ?_
   rotate_left
   · simp only [Act.put, ptn]; rfl
   refine drq_of [(5, some 2), (6, some 3), (7, some 4)] ?_
   repeat (refine drp HT ?_)
   refine drq_end ?_
   refine done_ (done_of HT.out (by kernel_rfl)) ?_
   obtain ⟨rfl, rfl, rfl⟩ := zsome3 H
   go_wp2
   exact bodyPost_ret (results_list (rs := [.tmp 2, .tmp 3, .tmp 4]) rfl (by simp) (.tmp (.tmp (.tmp .nil)))) rfl ⟨rfl, HS.pick [] (by decide) (by rfl)⟩
mutual
def impl_readItem.l0 : Nat → (List S66) → ByteArray → ByteArray → Int → Int × ByteArray × Bool → Option (S66 × ByteArray × Bool)
  | 0, _, _, _, _, _ => none
  | k + 1, l53, x55, a0, a1, t17 => (if x55.toList = ([] : List UInt8) then (some ((⟨(wrap64 (bt a0 0)), (⟨#[]⟩ : ByteArray), l53⟩ : S66), (t17.2.1.extract (t17.1).toNat t17.2.1.size), true)) else ((impl_readItem.f k x55 (wrap64 (a1 + 1))).bind fun t60 => (if t60.2.2 = true then (if l53.length + 1 ≤ 2932031007402 then (lets (l53 ++ ([t60.1] : List S66)) fun y71 => (impl_readItem.l0 k y71 t60.2.1 a0 a1 t17)) else none) else (some ((⟨0, (⟨#[]⟩ : ByteArray), ([] : List S66)⟩ : S66), (⟨#[]⟩ : ByteArray), false)))))
def impl_readItem.f : Nat → ByteArray → Int → Option (S66 × ByteArray × Bool)
  | 0, _, _ => none
  | k + 1, a0, a1 => (if a0.toList = ([] : List UInt8) then (some ((⟨0, (⟨#[]⟩ : ByteArray), ([] : List S66)⟩ : S66), (⟨#[]⟩ : ByteArray), false)) else (if 6 < a1 then (some ((⟨0, (⟨#[]⟩ : ByteArray), ([] : List S66)⟩ : S66), (⟨#[]⟩ : ByteArray), false)) else (if 0 < (a0.size : Int) then (if 1 ≤ (a0.size : Int) then ((impl_readLength.f k (a0.extract 1 a0.size)).bind fun t17 => (if t17.2.2 = true then (if (t17.2.1.size : Int) < t17.1 then (some ((⟨0, (⟨#[]⟩ : ByteArray), ([] : List S66)⟩ : S66), (⟨#[]⟩ : ByteArray), false)) else (if 0 ≤ t17.1 then (if t17.1 ≤ (t17.2.1.size : Int) then (if (wrap64 (bt a0 0)) = 48 then (impl_readItem.l0 k [] (t17.2.1.extract 0 (t17.1).toNat) a0 a1 t17) else (some ((⟨(wrap64 (bt a0 0)), (t17.2.1.extract 0 (t17.1).toNat), ([] : List S66)⟩ : S66), (t17.2.1.extract (t17.1).toNat t17.2.1.size), true))) else none) else none)) else (some ((⟨0, (⟨#[]⟩ : ByteArray), ([] : List S66)⟩ : S66), (⟨#[]⟩ : ByteArray), false)))) else none) else none)))
end
def impl_readItem.T7 : TT := (true, [([], []), ([], []), ([0, 1], [0, 1]), ([], []), ([], []), ([3, 4], [3, 4]), ([2, 0, 1, 2], [2]), ([5, 6, 0, 1, 2, 3, 4, 5, 6], [0, 3, 5])])
theorem impl_readItem.tT7 : rtab .any (opsOf Tryz.f76 7) = impl_readItem.T7 := by kernel_rfl
theorem impl_readItem.calls_ (K : Nat) : ∀ {k : Nat} (hK : k ≤ K) {a0 : ByteArray} {a1 : Int} {r1 : S66} {r2 : ByteArray} {r3 : Bool} {w : World} (h : impl_readItem.f k a0 a1 = some (r1, r2, r3)),
    Calls Tryz.prog 76 #[.string a0, .int .i64 a1] w (fun e w' => ∃ v0_ : Value, e = .returned (.tuple #[.agg #[.int .i64 r1.f0, .string r1.f1, v0_], .string r2, .bool r3]) ∧ Hp noFP w w' [.own (Zd.slice 66 q66) r1.f2 [v0_]]) := by
  induction K with
  | zero =>
    intro k hK a0 a1 r1 r2 r3 w h
    obtain rfl : k = 0 := by omega
    exact absurd h (by simp [impl_readItem.f])
  | succ K IH =>
    intro k hK a0 a1 r1 r2 r3 w h
    cases k with
    | zero => exact absurd h (by simp [impl_readItem.f])
    | succ k =>
    have HK0 : Aside0 (k ≤ K) := ⟨by omega⟩
    clear hK
    have HS := Hp.start w
    have H := Aside0.mk h
    clear h
    simp only [impl_readItem.f] at H
    go_enter Tryz.func76, Tryz.ntmps76
    replace H := zif' H; rcases H with ⟨c3, H⟩ | ⟨c3, H⟩
    case inl =>
     have c3a := beq_iff_eq.mpr c3
     have c3b := bne_eq_false_iff_eq.mpr c3
     have c3e := List.isEmpty_iff.mpr c3
     clear c3
     obtain ⟨rfl, rfl, rfl⟩ := zsome3 H
     go_wp2_with (first | ((with_reducible refine gd 4 rfl ?_); refine ev_bx HS ?_; clear HS; intro g4 w4 HS F) | ((with_reducible refine gate_store (p := 4) rfl ?_); refine ev_st 0 0 HS (seg := [.int .i64 0, .string (⟨#[]⟩ : ByteArray), .slice none 0 0]) ?_; clear HS; intro w4 HS F))
     replace HS := HS.nil 66 q66
     exact bodyPost_ret (results_list (rs := [.cell 4 66, .tmp 5, .tmp 6]) rfl (by simp) (.cell _ _ _ _ _ rfl (HS.boxAt (i := 0) rfl) Tryz.underlying66 rfl (by kernel_rfl) (.tmp (.tmp .nil)))) rfl ⟨_, rfl, HS.pick [1] (by decide) (by rfl)⟩
    have c3a := beq_eq_false_iff_ne.mpr c3
    have c3b := bne_iff_ne.mpr c3
    have c3e := List.isEmpty_eq_false_iff.mpr c3
    clear c3
    go_upto_if 20 with ((with_reducible refine gd 4 rfl ?_); refine ev_bx HS ?_; clear HS; intro g4 w4 HS F)
    replace H := zif H; rcases H with ⟨c6, H⟩ | ⟨c6, H⟩
    case inl =>
     (try simp only [c6, dcn])
     obtain ⟨rfl, rfl, rfl⟩ := zsome3 H
     go_wp2_with ((with_reducible refine gate_store (p := 4) rfl ?_); refine ev_st 0 0 HS (seg := [.int .i64 0, .string (⟨#[]⟩ : ByteArray), .slice none 0 0]) ?_; clear HS; intro w7 HS F)
     replace HS := HS.nil 66 q66
     exact bodyPost_ret (results_list (rs := [.cell 4 66, .tmp 5, .tmp 6]) rfl (by simp) (.cell _ _ _ _ _ rfl (HS.boxAt (i := 0) rfl) Tryz.underlying66 rfl (by kernel_rfl) (.tmp (.tmp .nil)))) rfl ⟨_, rfl, HS.pick [1] (by decide) (by rfl)⟩
    (try simp only [c6, dcn])
    replace H := zgo H; obtain ⟨c9, H⟩ := H
    have c9n : (0 < a0.size) = True := eq_true (by have := of_eq_true c9; omega)
    have hx10 : ∀ h : 0 < a0.size, ((a0[0]'h).toNat : Int) = bt a0 0 := bt_at a0 0
    have hz11 : 0 < a0.size := (by have := of_eq_true c9; omega)
    replace H := zgo H; obtain ⟨c16, H⟩ := H
    replace H := zbind H; obtain ⟨t17, ht17, H⟩ := H
    replace H := znifb H; rcases H with ⟨c19, H⟩ | ⟨c19, H⟩
    case inl =>
     obtain ⟨rfl, rfl, rfl⟩ := zsome3 H
     go_wp2_with (first | ((with_reducible refine gd 7 rfl ?_); refine ev_bx HS ?_; clear HS; intro g7 w7 HS F) | ((with_reducible refine gate_store (p := 7) rfl ?_); refine ev_st 1 0 HS (seg := [.int .i64 (wrap64 (bt a0 0)), .string (⟨#[]⟩ : ByteArray), .slice none 0 0]) ?_; clear HS; intro w14 HS F) | ((with_reducible refine gd 28 rfl ?_); refine ev_val rfl (run_cut rfl rfl Tryz.underlying9 (.inr ⟨_, _, rfl, rfl, of_eq_true (eq_true (by decide : (0:Int) ≤ 1))⟩) (.inl ⟨rfl, rfl⟩) (by have := of_eq_true (eq_true (by decide : (0:Int) ≤ 1)); have := of_eq_true c16; have := of_eq_true (eq_true (Int.le_refl (a0.size : Int))); omega) (by have := of_eq_true (eq_true (by decide : (0:Int) ≤ 1)); have := of_eq_true c16; have := of_eq_true (eq_true (Int.le_refl (a0.size : Int))); omega)) ?_) | ((with_reducible refine gd 29 rfl ?_); refine ev_cl HS (impl_readLength.calls ht17.out) Tryz.func105 ?_; clear HS; intro wt17 HS F; (try simp only [c19])) | ((with_reducible refine gate_store (p := 4) rfl ?_); refine ev_st 0 0 HS (seg := [.int .i64 0, .string (⟨#[]⟩ : ByteArray), .slice none 0 0]) ?_; clear HS; intro w81 HS F))
     replace HS := HS.nil 66 q66
     exact bodyPost_ret (results_list (rs := [.cell 4 66, .tmp 5, .tmp 6]) rfl (by simp) (.cell _ _ _ _ _ rfl (HS.boxAt (i := 0) rfl) Tryz.underlying66 rfl (by kernel_rfl) (.tmp (.tmp .nil)))) rfl ⟨_, rfl, HS.pick [2] (by decide) (by rfl)⟩
    go_upto_if 40 with (first | ((with_reducible refine gd 7 rfl ?_); refine ev_bx HS ?_; clear HS; intro g7 w7 HS F) | ((with_reducible refine gate_store (p := 7) rfl ?_); refine ev_st 1 0 HS (seg := [.int .i64 (wrap64 (bt a0 0)), .string (⟨#[]⟩ : ByteArray), .slice none 0 0]) ?_; clear HS; intro w14 HS F) | ((with_reducible refine gd 28 rfl ?_); refine ev_val rfl (run_cut rfl rfl Tryz.underlying9 (.inr ⟨_, _, rfl, rfl, of_eq_true (eq_true (by decide : (0:Int) ≤ 1))⟩) (.inl ⟨rfl, rfl⟩) (by have := of_eq_true (eq_true (by decide : (0:Int) ≤ 1)); have := of_eq_true c16; have := of_eq_true (eq_true (Int.le_refl (a0.size : Int))); omega) (by have := of_eq_true (eq_true (by decide : (0:Int) ≤ 1)); have := of_eq_true c16; have := of_eq_true (eq_true (Int.le_refl (a0.size : Int))); omega)) ?_) | ((with_reducible refine gd 29 rfl ?_); refine ev_cl HS (impl_readLength.calls ht17.out) Tryz.func105 ?_; clear HS; intro wt17 HS F; (try simp only [c19])))
    replace H := zif H; rcases H with ⟨c20, H⟩ | ⟨c20, H⟩
    case inl =>
     (try simp only [c20, dcn])
     obtain ⟨rfl, rfl, rfl⟩ := zsome3 H
     go_wp2_with ((with_reducible refine gate_store (p := 4) rfl ?_); refine ev_st 0 0 HS (seg := [.int .i64 0, .string (⟨#[]⟩ : ByteArray), .slice none 0 0]) ?_; clear HS; intro w21 HS F)
     replace HS := HS.nil 66 q66
     exact bodyPost_ret (results_list (rs := [.cell 4 66, .tmp 5, .tmp 6]) rfl (by simp) (.cell _ _ _ _ _ rfl (HS.boxAt (i := 0) rfl) Tryz.underlying66 rfl (by kernel_rfl) (.tmp (.tmp .nil)))) rfl ⟨_, rfl, HS.pick [2] (by decide) (by rfl)⟩
    (try simp only [c20, dcn])
    (try go_wp2)
    replace H := zgo H; obtain ⟨c5, H⟩ := H
    replace H := zgo H; obtain ⟨c13, H⟩ := H
    refine dr_start [] HS #[false, false, false, false, false, false, false, false] (by kernel_rfl) rfl rfl impl_readItem.tT7 (fun w24 HT HS HH => ?_)
    (try clear F)
    refine drq_of [(0, some 42), (1, some 43)] ?_
    repeat (refine drp HT ?_)
    refine drq_end ?_
    refine dr_pure 2 (some 44) HT (v := .string (t17.2.1.extract 0 (t17.1).toNat)) (a' := ?_) rfl rfl (by kernel_rfl) (fun _ _ _ h => h) (.inl ⟨by rfl, fun w' => (run_cut rfl rfl Tryz.underlying9 (.inl ⟨rfl, rfl⟩) (.inr ⟨_, _, rfl, rfl, by have := of_eq_true (eq_true (by decide : (0:Int) ≤ 0)); have := of_eq_true c5; have := of_eq_true c13; omega⟩) (by have := of_eq_true (eq_true (by decide : (0:Int) ≤ 0)); have := of_eq_true c5; have := of_eq_true c13; omega) (by have := of_eq_true (eq_true (by decide : (0:Int) ≤ 0)); have := of_eq_true c5; have := of_eq_true c13; omega))⟩) ?_ ?_
    rotate_left
    · simp only [Act.put, ptn]; rfl
    refine drq_of [(3, some 45), (4, some 46)] ?_
    repeat (refine drp HT ?_)
    refine drq_end ?_
    refine dr_pure 5 (some 47) HT (v := .string (t17.2.1.extract (t17.1).toNat t17.2.1.size)) (a' := ?_) rfl rfl (by kernel_rfl) (fun _ _ _ h => h) (.inl ⟨by rfl, fun w' => (run_cut rfl rfl Tryz.underlying9 (.inr ⟨_, _, rfl, rfl, of_eq_true c5⟩) (.inl ⟨rfl, rfl⟩) (by have := of_eq_true c5; have := of_eq_true c13; have := of_eq_true (eq_true (Int.le_refl (t17.2.1.size : Int))); omega) (by have := of_eq_true c5; have := of_eq_true c13; have := of_eq_true (eq_true (Int.le_refl (t17.2.1.size : Int))); omega))⟩) ?_ ?_
    rotate_left
    · simp only [Act.put, ptn]; rfl
    refine drq_of [(6, some 11), (7, some 9)] ?_
    repeat (refine drp HT ?_)
    refine drq_end ?_
    refine done_ (done_of HT.out (by kernel_rfl)) ?_
    (try clear F)
    have F := HS.boxes; simp only [bxn] at F
    replace H := znif' H; rcases H with ⟨c26, H⟩ | ⟨c26, H⟩
    case inl =>
     have c26a := beq_eq_false_iff_ne.mpr c26
     have c26b := bne_iff_ne.mpr c26
     clear c26
     (try simp only [c26a, c26b, dcn])
     obtain ⟨rfl, rfl, rfl⟩ := zsome3 H
     go_wp2_with (first | ((with_reducible refine gate_store (p := 52) rfl ?_); refine ev_st 1 1 HS (seg := [.string (t17.2.1.extract 0 (t17.1).toNat)]) ?_; clear HS; intro w77 HS F) | ((with_reducible refine gate_store (p := 4) rfl ?_); refine ev_st 0 0 HS (seg := [.int .i64 (wrap64 (bt a0 0)), .string (t17.2.1.extract 0 (t17.1).toNat), .slice none 0 0]) ?_; clear HS; intro w79 HS F))
     replace HS := HS.nil 66 q66
     exact bodyPost_ret (results_list (rs := [.cell 4 66, .tmp 5, .tmp 6]) rfl (by simp) (.cell _ _ _ _ _ rfl (HS.boxAt (i := 0) rfl) Tryz.underlying66 rfl (by kernel_rfl) (.tmp (.tmp .nil)))) rfl ⟨_, rfl, HS.pick [2] (by decide) (by rfl)⟩
    have c26a := beq_iff_eq.mpr c26
    have c26b := bne_eq_false_iff_eq.mpr c26
    clear c26
    (try simp only [c26a, c26b, dcn])
    go_wp2
    replace HS := HS.nil 66 q66
    go_loopg [11] k (fun kq v_11 w' => ∃ (l53 : List S66) (v54 : Value) (x55 : ByteArray), v_11 = .string x55 ∧ Aside0 (impl_readItem.l0 kq l53 x55 a0 a1 t17 = some (r1, r2, r3)) ∧ Aside0 (kq ≤ k) ∧ Hp noFP w w' [.box g4 [.int .i64 0, .string (⟨#[]⟩ : ByteArray), .slice none 0 0] 66, .box g7 [.int .i64 (wrap64 (bt a0 0)), .string (⟨#[]⟩ : ByteArray), v54] 66, .own (Zd.slice 66 q66) l53 [v54]])
    case atStart => exact ⟨_, _, _, rfl, H, ⟨Nat.le_refl _⟩, HS⟩
    case round =>
     clear HS H; (try clear F)
     obtain ⟨l53, v54, x55, rfl, H, HKk52, HS⟩ := hrel
     obtain ⟨B54, d54, rfl, m54⟩ := HS.form 2 rfl
     have F := HS.boxes; simp only [bxn] at F
     cases gk with
     | zero => exact absurd H.out (by simp [impl_readItem.l0])
     | succ k52 =>
      simp only [impl_readItem.l0] at H
      replace H := zif' H; rcases H with ⟨c57, H⟩ | ⟨c57, H⟩
      case inl =>
       have c57a := beq_iff_eq.mpr c57
       have c57b := bne_eq_false_iff_eq.mpr c57
       have c57e := List.isEmpty_iff.mpr c57
       clear c57
       obtain ⟨rfl, rfl, rfl⟩ := zsome3 H
       go_wp2_with ((with_reducible refine gate_store (p := 4) rfl ?_); refine ev_st 0 0 HS (seg := [.int .i64 (wrap64 (bt a0 0)), .string (⟨#[]⟩ : ByteArray), .slice B54 l53.length d54]) ?_; clear HS; intro w58 HS F)
       exact bodyPost_ret (results_list (rs := [.cell 4 66, .tmp 5, .tmp 6]) rfl (by simp) (.cell _ _ _ _ _ rfl (HS.boxAt (i := 0) rfl) Tryz.underlying66 rfl (by kernel_rfl) (.tmp (.tmp .nil)))) rfl ⟨_, rfl, HS.pick [2] (by decide) (by rfl)⟩
      have c57a := beq_eq_false_iff_ne.mpr c57
      have c57b := bne_iff_ne.mpr c57
      have c57e := List.isEmpty_eq_false_iff.mpr c57
      clear c57
      replace H := zbind H; obtain ⟨t60, ht60, H⟩ := H
      go_upto_if 66 with (first | ((with_reducible refine gd 61 rfl ?_); refine ev_cl1 HS (IH (by have := HK0.out; have := HKk52.out; omega) ht60.out) Tryz.func76 ?_; clear HS; intro v61 wt60 HS F; obtain ⟨B61, d61, rfl, m61⟩ := HS.form 3 rfl) | ((with_reducible refine gd 12 rfl ?_); refine ev_bx HS ?_; clear HS; intro g12 w12 HS F) | ((with_reducible refine gate_store (p := 12) rfl ?_); refine ev_st 4 0 HS (seg := [.int .i64 t60.1.f0, .string t60.1.f1, .slice B61 t60.1.f2.length d61]) ?_; clear HS; intro w65 HS F))
      replace H := znifb H; rcases H with ⟨c67, H⟩ | ⟨c67, H⟩
      case inl =>
       (try simp only [c67, dcn])
       obtain ⟨rfl, rfl, rfl⟩ := zsome3 H
       go_wp2_with ((with_reducible refine gate_store (p := 4) rfl ?_); refine ev_st 0 0 HS (seg := [.int .i64 0, .string (⟨#[]⟩ : ByteArray), .slice none 0 0]) ?_; clear HS; intro w75 HS F)
       replace HS := HS.nil 66 q66
       exact bodyPost_ret (results_list (rs := [.cell 4 66, .tmp 5, .tmp 6]) rfl (by simp) (.cell _ _ _ _ _ rfl (HS.boxAt (i := 0) rfl) Tryz.underlying66 rfl (by kernel_rfl) (.tmp (.tmp .nil)))) rfl ⟨_, rfl, HS.pick [5] (by decide) (by rfl)⟩
      (try simp only [c67, dcn])
      replace H := zgo H; obtain ⟨c70, H⟩ := H
      replace H := zlets H; obtain ⟨y71, e_y71, H⟩ := H
      go_wp2_with (first | ((with_reducible refine gd 71 rfl ?_); refine ev_li q66 [3] ([t60.1] : List S66) ([.int .i64 t60.1.f0, .string t60.1.f1, .slice B61 t60.1.f2.length d61] ++ []) HS (MadeL.cons (js1 := [3]) (c := [.int .i64 t60.1.f0, .string t60.1.f1, .slice B61 t60.1.f2.length d61]) rfl (fun S hd hh => q66_pack (x := t60.1) hd (hh 3 (.own (Zd.slice 66 q66) t60.1.f2 [.slice B61 t60.1.f2.length d61]) rfl) (by decide)) MadeL.nil (by decide)) ?_; clear HS; intro v68 w68 HS F; obtain ⟨B68, d68, rfl, m68⟩ := HS.formn 1 5 rfl rfl) | ((with_reducible refine gd 72 rfl ?_); refine ev_ap q66 2 5 HS rfl rfl Tryz.underlying64 info66 (of_eq_true c70) ?_; clear HS; intro v71 w71 HS; rw [← e_y71.out] at HS; obtain ⟨B71, d71, rfl, m71⟩ := HS.form 6 rfl; (try simp only [hpn, hpm] at HS); have F := HS.boxes; simp only [bxn] at F) | ((with_reducible refine gate_store (p := 73) rfl ?_); refine ev_st 1 2 HS (seg := [.slice B71 y71.length d71]) ?_; clear HS; intro w73 HS F))
      go_roundg k52
      case measure => have := HK0.out; have := HKk52.out; omega
      case rel => exact ⟨_, _, _, rfl, H, ⟨by have := HK0.out; have := HKk52.out; omega⟩, HS.pick [0, 1, 6] (by decide) (by rfl)⟩
theorem impl_readItem.calls {k : Nat} {a0 : ByteArray} {a1 : Int} {r1 : S66} {r2 : ByteArray} {r3 : Bool} {w : World} (h : impl_readItem.f k a0 a1 = some (r1, r2, r3)) :
    Calls Tryz.prog 76 #[.string a0, .int .i64 a1] w (fun e w' => ∃ v0_ : Value, e = .returned (.tuple #[.agg #[.int .i64 r1.f0, .string r1.f1, v0_], .string r2, .bool r3]) ∧ Hp noFP w w' [.own (Zd.slice 66 q66) r1.f2 [v0_]]) := impl_readItem.calls_ k (Nat.le_refl k) h
def impl_ReadItem.f (k : Nat) (a0 : ByteArray) : Option (S66 × Bool) := (if 4000 < (a0.size : Int) then (some ((⟨0, (⟨#[]⟩ : ByteArray), ([] : List S66)⟩ : S66), false)) else ((impl_readItem.f k a0 0).bind fun t6 => (if t6.2.2 = true then (if t6.2.1.toList = ([] : List UInt8) then ((impl_ItemText.f k t6.1).bind fun t15 => (if t15.2 = true then (if t15.1.toList = a0.toList then (some ((⟨t6.1.f0, t6.1.f1, t6.1.f2⟩ : S66), true)) else (some ((⟨0, (⟨#[]⟩ : ByteArray), ([] : List S66)⟩ : S66), false))) else (some ((⟨0, (⟨#[]⟩ : ByteArray), ([] : List S66)⟩ : S66), false)))) else (some ((⟨0, (⟨#[]⟩ : ByteArray), ([] : List S66)⟩ : S66), false))) else (some ((⟨0, (⟨#[]⟩ : ByteArray), ([] : List S66)⟩ : S66), false)))))
theorem impl_ReadItem.calls {k : Nat} {a0 : ByteArray} {r1 : S66} {r2 : Bool} {w : World} (h : impl_ReadItem.f k a0 = some (r1, r2)) :
    Calls Tryz.prog 40 #[.string a0] w (fun e w' => ∃ v0_ : Value, e = .returned (.tuple #[.agg #[.int .i64 r1.f0, .string r1.f1, v0_], .bool r2]) ∧ Hp noFP w w' [.own (Zd.slice 66 q66) r1.f2 [v0_]]) := by
 have HS := Hp.start w
 have H := Aside0.mk h
 clear h
 unfold impl_ReadItem.f at H
 go_enter Tryz.func40, Tryz.ntmps40
 go_upto_if 11 with ((with_reducible refine gd 2 rfl ?_); refine ev_bx HS ?_; clear HS; intro g2 w2 HS F)
 replace H := zif H; rcases H with ⟨c3, H⟩ | ⟨c3, H⟩
 case inl =>
  (try simp only [c3, dcn])
  obtain ⟨rfl, rfl⟩ := zsome2 H
  go_wp2_with ((with_reducible refine gate_store (p := 2) rfl ?_); refine ev_st 0 0 HS (seg := [.int .i64 0, .string (⟨#[]⟩ : ByteArray), .slice none 0 0]) ?_; clear HS; intro w4 HS F)
  replace HS := HS.nil 66 q66
  exact bodyPost_ret (results_list (rs := [.cell 2 66, .tmp 3]) rfl (by simp) (.cell _ _ _ _ _ rfl (HS.boxAt (i := 0) rfl) Tryz.underlying66 rfl (by kernel_rfl) (.tmp .nil))) rfl ⟨_, rfl, HS.pick [1] (by decide) (by rfl)⟩
 (try simp only [c3, dcn])
 replace H := zbind H; obtain ⟨t6, ht6, H⟩ := H
 replace H := znifb H; rcases H with ⟨c13, H⟩ | ⟨c13, H⟩
 case inl =>
  obtain ⟨rfl, rfl⟩ := zsome2 H
  go_wp2_with (first | ((with_reducible refine gd 15 rfl ?_); refine ev_cl1 HS (impl_readItem.calls ht6.out) Tryz.func76 ?_; clear HS; intro v7 wt6 HS F; obtain ⟨B7, d7, rfl, m7⟩ := HS.form 1 rfl) | ((with_reducible refine gd 4 rfl ?_); refine ev_bx HS ?_; clear HS; intro g4 w4 HS F) | ((with_reducible refine gate_store (p := 4) rfl ?_); refine ev_st 2 0 HS (seg := [.int .i64 t6.1.f0, .string t6.1.f1, .slice B7 t6.1.f2.length d7]) ?_; clear HS; intro w11 HS F; (try simp only [c13])) | ((with_reducible refine gate_store (p := 2) rfl ?_); refine ev_st 0 0 HS (seg := [.int .i64 0, .string (⟨#[]⟩ : ByteArray), .slice none 0 0]) ?_; clear HS; intro w27 HS F))
  replace HS := HS.nil 66 q66
  exact bodyPost_ret (results_list (rs := [.cell 2 66, .tmp 3]) rfl (by simp) (.cell _ _ _ _ _ rfl (HS.boxAt (i := 0) rfl) Tryz.underlying66 rfl (by kernel_rfl) (.tmp .nil))) rfl ⟨_, rfl, HS.pick [3] (by decide) (by rfl)⟩
 go_upto_if 24 with (first | ((with_reducible refine gd 15 rfl ?_); refine ev_cl1 HS (impl_readItem.calls ht6.out) Tryz.func76 ?_; clear HS; intro v7 wt6 HS F; obtain ⟨B7, d7, rfl, m7⟩ := HS.form 1 rfl) | ((with_reducible refine gd 4 rfl ?_); refine ev_bx HS ?_; clear HS; intro g4 w4 HS F) | ((with_reducible refine gate_store (p := 4) rfl ?_); refine ev_st 2 0 HS (seg := [.int .i64 t6.1.f0, .string t6.1.f1, .slice B7 t6.1.f2.length d7]) ?_; clear HS; intro w11 HS F; (try simp only [c13])))
 replace H := znif' H; rcases H with ⟨c14, H⟩ | ⟨c14, H⟩
 case inl =>
  have c14a := beq_eq_false_iff_ne.mpr c14
  have c14b := bne_iff_ne.mpr c14
  have c14e := List.isEmpty_eq_false_iff.mpr c14
  clear c14
  (try simp only [c14a, c14b, c14e, dcn])
  obtain ⟨rfl, rfl⟩ := zsome2 H
  go_wp2_with ((with_reducible refine gate_store (p := 2) rfl ?_); refine ev_st 0 0 HS (seg := [.int .i64 0, .string (⟨#[]⟩ : ByteArray), .slice none 0 0]) ?_; clear HS; intro w25 HS F)
  replace HS := HS.nil 66 q66
  exact bodyPost_ret (results_list (rs := [.cell 2 66, .tmp 3]) rfl (by simp) (.cell _ _ _ _ _ rfl (HS.boxAt (i := 0) rfl) Tryz.underlying66 rfl (by kernel_rfl) (.tmp .nil))) rfl ⟨_, rfl, HS.pick [3] (by decide) (by rfl)⟩
 have c14a := beq_iff_eq.mpr c14
 have c14b := bne_eq_false_iff_eq.mpr c14
 have c14e := List.isEmpty_iff.mpr c14
 clear c14
 (try simp only [c14a, c14b, c14e, dcn])
 replace H := zbind H; obtain ⟨t15, ht15, H⟩ := H
 replace H := znifb H; rcases H with ⟨c17, H⟩ | ⟨c17, H⟩
 case inl =>
  obtain ⟨rfl, rfl⟩ := zsome2 H
  go_wp2_with (first | ((with_reducible refine gd 28 rfl ?_); refine ev_cl HS (impl_ItemText.calls ht15.out (HS.rd 1 rfl) m7) Tryz.func30 ?_; clear HS; intro wt15 HS F; (try simp only [c17])) | ((with_reducible refine gate_store (p := 2) rfl ?_); refine ev_st 0 0 HS (seg := [.int .i64 0, .string (⟨#[]⟩ : ByteArray), .slice none 0 0]) ?_; clear HS; intro w23 HS F))
  replace HS := HS.nil 66 q66
  exact bodyPost_ret (results_list (rs := [.cell 2 66, .tmp 3]) rfl (by simp) (.cell _ _ _ _ _ rfl (HS.boxAt (i := 0) rfl) Tryz.underlying66 rfl (by kernel_rfl) (.tmp .nil))) rfl ⟨_, rfl, HS.pick [3] (by decide) (by rfl)⟩
 go_upto_if 37 with ((with_reducible refine gd 28 rfl ?_); refine ev_cl HS (impl_ItemText.calls ht15.out (HS.rd 1 rfl) m7) Tryz.func30 ?_; clear HS; intro wt15 HS F; (try simp only [c17]))
 replace H := zif' H; rcases H with ⟨c18, H⟩ | ⟨c18, H⟩
 case inl =>
  have c18a := beq_iff_eq.mpr c18
  have c18b := bne_eq_false_iff_eq.mpr c18
  clear c18
  (try simp only [c18a, c18b, dcn])
  obtain ⟨rfl, rfl⟩ := zsome2 H
  go_wp2_with ((with_reducible refine gate_store (p := 2) rfl ?_); refine ev_st 0 0 HS (seg := [.int .i64 t6.1.f0, .string t6.1.f1, .slice B7 t6.1.f2.length d7]) ?_; clear HS; intro w19 HS F)
  exact bodyPost_ret (results_list (rs := [.cell 2 66, .tmp 3]) rfl (by simp) (.cell _ _ _ _ _ rfl (HS.boxAt (i := 0) rfl) Tryz.underlying66 rfl (by kernel_rfl) (.tmp .nil))) rfl ⟨_, rfl, HS.pick [1] (by decide) (by rfl)⟩
 have c18a := beq_eq_false_iff_ne.mpr c18
 have c18b := bne_iff_ne.mpr c18
 clear c18
 (try simp only [c18a, c18b, dcn])
 obtain ⟨rfl, rfl⟩ := zsome2 H
 go_wp2_with ((with_reducible refine gate_store (p := 2) rfl ?_); refine ev_st 0 0 HS (seg := [.int .i64 0, .string (⟨#[]⟩ : ByteArray), .slice none 0 0]) ?_; clear HS; intro w21 HS F)
 replace HS := HS.nil 66 q66
 exact bodyPost_ret (results_list (rs := [.cell 2 66, .tmp 3]) rfl (by simp) (.cell _ _ _ _ _ rfl (HS.boxAt (i := 0) rfl) Tryz.underlying66 rfl (by kernel_rfl) (.tmp .nil))) rfl ⟨_, rfl, HS.pick [3] (by decide) (by rfl)⟩
def impl_opener_list_0.f (a0 : S77) (a1 : S66) (a2 : Int) : Option ((Bool × Nat) × S77) := (if a1.f0 = 48 then (if 0 ≤ a2 then (if (a1.f2.length : Int) = a2 then (some ((true, 0), a0)) else (if a2 < 0 then (some ((false, 0), (⟨true⟩ : S77))) else (if 0 ≤ a2 then (if (a2).toNat ≤ 5864062014805 then (lets (a2).toNat fun y13 => (some ((false, y13), (⟨true⟩ : S77)))) else none) else none))) else (some ((true, 0), a0))) else (if a2 < 0 then (some ((false, 0), (⟨true⟩ : S77))) else (if 0 ≤ a2 then (if (a2).toNat ≤ 5864062014805 then (lets (a2).toNat fun y23 => (some ((false, y23), (⟨true⟩ : S77)))) else none) else none)))
theorem impl_opener_list_0.calls {a0 : S77} {a1 : S66} {a2 : Int} {A : FP} {p0 : Nat} {Ap1 : Option Addr} {np1 cp1 : Nat} {wv : World} {r1 : (Bool × Nat)} {r2 : S77} {w : World} (h : impl_opener_list_0.f a0 a1 a2 = some (r1, r2)) (gp1 : k66.C wv Ap1 np1 a1.f2) (lp1 : np1 ≤ cp1) (hV : View A w wv) (HS : Hp A w w [.box p0 [.bool a0.f0] 77]) :
    Calls Tryz.prog 41 #[.pointer (some ⟨p0, 0, none⟩), .agg #[.int .i64 a1.f0, .string a1.f1, .slice Ap1 np1 cp1], .int .i64 a2] w (fun e w' => ∃ v0_ : Value, e = .returned (cond r1.1 (.slice Ap1 np1 cp1) v0_) ∧ Hp A w w' [.box p0 [.bool r2.f0] 77, .own (Zd.slice 66 q66) (List.replicate r1.2 z66) [v0_]]) := by
 obtain rfl := C_len gp1
 have H := Aside0.mk h
 clear h
 unfold impl_opener_list_0.f at H
 go_enter Tryz.func41, Tryz.ntmps41
 have F := HS.boxes; simp only [bxn] at F
 replace H := znif' H; rcases H with ⟨c3, H⟩ | ⟨c3, H⟩
 case inl =>
  have c3a := beq_eq_false_iff_ne.mpr c3
  have c3b := bne_iff_ne.mpr c3
  clear c3
  replace H := zif H; rcases H with ⟨c18, H⟩ | ⟨c18, H⟩
  case inl =>
   obtain ⟨rfl, rfl⟩ := zsome2 H
   go_wp2_with (first | ((with_reducible refine gd 4 rfl ?_); refine ev_bx HS ?_; clear HS; intro g4 w4 HS F) | ((with_reducible refine gate_store (p := 23) rfl ?_); refine ev_st 0 0 HS (seg := [.bool true]) ?_; clear HS; intro w16 HS F) | ((with_reducible refine gd 26 rfl ?_); refine ev_make rfl q66 z66 HS rfl (0 : Int) rfl rfl Tryz.underlying64 info66 rfl (by decide) (by decide) q66_zero (of_eq_true (eq_true (by decide : (0 : Int) ≤ 0))) (by have := of_eq_true (eq_true (by decide : (0 : Int).toNat ≤ 5864062014805)); omega) ?_; clear HS; intro v19 w19 HS; obtain ⟨B19, d19, rfl, m19⟩ := HS.formn 0 2 rfl (by first | rfl | simp); (try simp only [hpn, hpm] at HS); have F := HS.boxes; simp only [bxn] at F))
   first | exact bodyPost_ret (results_single rfl (.tmp .nil)) rfl ⟨_, rfl, HS.pick [0, 2] (by decide) (by rfl)⟩ | exact bodyPost_ret (results_single rfl (.tmp .nil)) rfl ⟨rfl, _, HS.pick [0, 2] (by decide) (by rfl)⟩
  replace H := zgo H; obtain ⟨c21, H⟩ := H
  replace H := zgo H; obtain ⟨c22, H⟩ := H
  replace H := zlets H; obtain ⟨y23, e_y23, H⟩ := H
  obtain ⟨rfl, rfl⟩ := zsome2 H
  go_wp2_with (first | ((with_reducible refine gd 4 rfl ?_); refine ev_bx HS ?_; clear HS; intro g4 w4 HS F) | ((with_reducible refine gate_store (p := 23) rfl ?_); refine ev_st 0 0 HS (seg := [.bool true]) ?_; clear HS; intro w16 HS F) | ((with_reducible refine gd 26 rfl ?_); refine ev_make rfl q66 z66 HS rfl a2 rfl rfl Tryz.underlying64 info66 rfl (by decide) (by decide) q66_zero (of_eq_true c21) (by have := of_eq_true c22; omega) ?_; clear HS; intro v24 w24 HS; rw [← e_y23.out] at HS; obtain ⟨B24, d24, rfl, m24⟩ := HS.formn y23 2 rfl (by first | rfl | simp); (try simp only [hpn, hpm] at HS); have F := HS.boxes; simp only [bxn] at F))
  first | exact bodyPost_ret (results_single rfl (.tmp .nil)) rfl ⟨_, rfl, HS.pick [0, 2] (by decide) (by rfl)⟩ | exact bodyPost_ret (results_single rfl (.tmp .nil)) rfl ⟨rfl, _, HS.pick [0, 2] (by decide) (by rfl)⟩
 have c3a := beq_iff_eq.mpr c3
 have c3b := bne_eq_false_iff_eq.mpr c3
 clear c3
 replace H := znif H; rcases H with ⟨c4, H⟩ | ⟨c4, H⟩
 case inl =>
  obtain ⟨rfl, rfl⟩ := zsome2 H
  go_wp2_with ((with_reducible refine gd 4 rfl ?_); refine ev_bx HS ?_; clear HS; intro g4 w4 HS F)
  replace HS := HS.nil 66 q66
  first | exact bodyPost_ret (results_single rfl (.tmp .nil)) rfl ⟨_, rfl, HS.pick [0, 2] (by decide) (by rfl)⟩ | exact bodyPost_ret (results_single rfl (.tmp .nil)) rfl ⟨rfl, _, HS.pick [0, 2] (by decide) (by rfl)⟩
 go_upto_if 20 with ((with_reducible refine gd 4 rfl ?_); refine ev_bx HS ?_; clear HS; intro g4 w4 HS F)
 replace H := zif' H; rcases H with ⟨c5, H⟩ | ⟨c5, H⟩
 case inl =>
  have c5a := beq_iff_eq.mpr c5
  have c5b := bne_eq_false_iff_eq.mpr c5
  clear c5
  (try simp only [c5a, c5b, dcn])
  obtain ⟨rfl, rfl⟩ := zsome2 H
  go_wp2
  replace HS := HS.nil 66 q66
  first | exact bodyPost_ret (results_single rfl (.tmp .nil)) rfl ⟨_, rfl, HS.pick [0, 2] (by decide) (by rfl)⟩ | exact bodyPost_ret (results_single rfl (.tmp .nil)) rfl ⟨rfl, _, HS.pick [0, 2] (by decide) (by rfl)⟩
 have c5a := beq_eq_false_iff_ne.mpr c5
 have c5b := bne_iff_ne.mpr c5
 clear c5
 (try simp only [c5a, c5b, dcn])
 replace H := zif H; rcases H with ⟨c8, H⟩ | ⟨c8, H⟩
 case inl =>
  obtain ⟨rfl, rfl⟩ := zsome2 H
  go_wp2_with (first | ((with_reducible refine gate_store (p := 23) rfl ?_); refine ev_st 0 0 HS (seg := [.bool true]) ?_; clear HS; intro w6 HS F) | ((with_reducible refine gd 26 rfl ?_); refine ev_make rfl q66 z66 HS rfl (0 : Int) rfl rfl Tryz.underlying64 info66 rfl (by decide) (by decide) q66_zero (of_eq_true (eq_true (by decide : (0 : Int) ≤ 0))) (by have := of_eq_true (eq_true (by decide : (0 : Int).toNat ≤ 5864062014805)); omega) ?_; clear HS; intro v9 w9 HS; obtain ⟨B9, d9, rfl, m9⟩ := HS.formn 0 2 rfl (by first | rfl | simp); (try simp only [hpn, hpm] at HS); have F := HS.boxes; simp only [bxn] at F))
  first | exact bodyPost_ret (results_single rfl (.tmp .nil)) rfl ⟨_, rfl, HS.pick [0, 2] (by decide) (by rfl)⟩ | exact bodyPost_ret (results_single rfl (.tmp .nil)) rfl ⟨rfl, _, HS.pick [0, 2] (by decide) (by rfl)⟩
 replace H := zgo H; obtain ⟨c11, H⟩ := H
 replace H := zgo H; obtain ⟨c12, H⟩ := H
 replace H := zlets H; obtain ⟨y13, e_y13, H⟩ := H
 obtain ⟨rfl, rfl⟩ := zsome2 H
 go_wp2_with (first | ((with_reducible refine gate_store (p := 23) rfl ?_); refine ev_st 0 0 HS (seg := [.bool true]) ?_; clear HS; intro w6 HS F) | ((with_reducible refine gd 26 rfl ?_); refine ev_make rfl q66 z66 HS rfl a2 rfl rfl Tryz.underlying64 info66 rfl (by decide) (by decide) q66_zero (of_eq_true c11) (by have := of_eq_true c12; omega) ?_; clear HS; intro v14 w14 HS; rw [← e_y13.out] at HS; obtain ⟨B14, d14, rfl, m14⟩ := HS.formn y13 2 rfl (by first | rfl | simp); (try simp only [hpn, hpm] at HS); have F := HS.boxes; simp only [bxn] at F))
 first | exact bodyPost_ret (results_single rfl (.tmp .nil)) rfl ⟨_, rfl, HS.pick [0, 2] (by decide) (by rfl)⟩ | exact bodyPost_ret (results_single rfl (.tmp .nil)) rfl ⟨rfl, _, HS.pick [0, 2] (by decide) (by rfl)⟩
def impl_opener_text_0.f (a0 : S77) (a1 : S66) (a2 : Int) : Option (ByteArray × S77) := (if a0.f0 = true then (some (a1.f1, (⟨true⟩ : S77))) else (some (a1.f1, (⟨(a1.f0 != a2)⟩ : S77))))
theorem impl_opener_text_0.calls {a0 : S77} {a1 : S66} {a2 : Int} {A : FP} {p0 : Nat} {Ap1 : Option Addr} {np1 cp1 : Nat} {wv : World} {r1 : ByteArray} {r2 : S77} {w : World} (h : impl_opener_text_0.f a0 a1 a2 = some (r1, r2)) (gp1 : k66.C wv Ap1 np1 a1.f2) (lp1 : np1 ≤ cp1) (hV : View A w wv) (HS : Hp A w w [.box p0 [.bool a0.f0] 77]) :
    Calls Tryz.prog 77 #[.pointer (some ⟨p0, 0, none⟩), .agg #[.int .i64 a1.f0, .string a1.f1, .slice Ap1 np1 cp1], .int .i64 a2] w (fun e w' => e = .returned (.string r1) ∧ Hp A w w' [.box p0 [.bool r2.f0] 77]) := by
 obtain rfl := C_len gp1
 have H := Aside0.mk h
 clear h
 unfold impl_opener_text_0.f at H
 go_enter Tryz.func77, Tryz.ntmps77
 have F := HS.boxes; simp only [bxn] at F
 replace H := zifb H; rcases H with ⟨c3, H⟩ | ⟨c3, H⟩
 case inl =>
  obtain ⟨rfl, rfl⟩ := zsome2 H
  go_wp2_with (first | ((with_reducible refine gd 4 rfl ?_); refine ev_bx HS ?_; clear HS; intro g4 w4 HS F; (try simp only [c3])) | ((with_reducible refine gate_store (p := 19) rfl ?_); refine ev_st 0 0 HS (seg := [.bool true]) ?_; clear HS; intro w4 HS F))
  go_ret
  exact ⟨rfl, HS.pick [0] (by decide) (by rfl)⟩
 obtain ⟨rfl, rfl⟩ := zsome2 H
 go_wp2_with (first | ((with_reducible refine gd 4 rfl ?_); refine ev_bx HS ?_; clear HS; intro g4 w4 HS F; (try simp only [c3])) | ((with_reducible refine gate_store (p := 19) rfl ?_); refine ev_st 0 0 HS (seg := [.bool (a1.f0 != a2)]) ?_; clear HS; intro w6 HS F))
 go_ret
 exact ⟨rfl, HS.pick [0] (by decide) (by rfl)⟩
mutual
def impl_opener_texts_0.l0 : Nat → (List ByteArray) → Int → Bool → S66 → Int → Option ((List ByteArray) × S77)
  | 0, _, _, _, _, _ => none
  | k + 1, l42, x44, x45, a1, a2 => (if x44 < (a1.f2.length : Int) then (if 0 ≤ x44 then (if x44 < (a1.f2.length : Int) then ((impl_opener_text_0.f (⟨x45⟩ : S77) (rd_T66 a1.f2 x44) a2).bind fun t55 => (if l42.length + 1 ≤ 8796093022208 then (lets (l42 ++ ([t55.1] : List ByteArray)) fun y60 => (impl_opener_texts_0.l0 k y60 (wrap64 (x44 + 1)) t55.2.f0 a1 a2)) else none)) else none) else none) else (some (l42, (⟨x45⟩ : S77))))
def impl_opener_texts_0.l1 : Nat → (List ByteArray) → Int → Bool → Int → (Bool × Nat) × S77 → Option ((List ByteArray) × S77)
  | 0, _, _, _, _, _ => none
  | k + 1, l97, x99, x100, a2, t3 => (if x99 < (t3.1.2 : Int) then (if 0 ≤ x99 then (if x99 < (t3.1.2 : Int) then ((impl_opener_text_0.f (⟨x100⟩ : S77) (⟨0, (⟨#[]⟩ : ByteArray), ([] : List S66)⟩ : S66) a2).bind fun t110 => (if l97.length + 1 ≤ 8796093022208 then (lets (l97 ++ ([t110.1] : List ByteArray)) fun y115 => (impl_opener_texts_0.l1 k y115 (wrap64 (x99 + 1)) t110.2.f0 a2 t3)) else none)) else none) else none) else (some (l97, (⟨x100⟩ : S77))))
end
def impl_opener_texts_0.f (k : Nat) (a0 : S77) (a1 : S66) (a2 : Int) : Option ((List ByteArray) × S77) := ((impl_opener_list_0.f a0 a1 (-1)).bind fun t3 => (if t3.1.1 = true then (impl_opener_texts_0.l0 k [] 0 t3.2.f0 a1 a2) else (impl_opener_texts_0.l1 k [] 0 t3.2.f0 a2 t3)))
theorem impl_opener_texts_0.calls {k : Nat} {a0 : S77} {a1 : S66} {a2 : Int} {A : FP} {p0 : Nat} {Ap1 : Option Addr} {np1 cp1 : Nat} {wv : World} {r1 : (List ByteArray)} {r2 : S77} {w : World} (h : impl_opener_texts_0.f k a0 a1 a2 = some (r1, r2)) (gp1 : k66.C wv Ap1 np1 a1.f2) (lp1 : np1 ≤ cp1) (hV : View A w wv) (HS : Hp A w w [.box p0 [.bool a0.f0] 77]) :
    Calls Tryz.prog 42 #[.pointer (some ⟨p0, 0, none⟩), .agg #[.int .i64 a1.f0, .string a1.f1, .slice Ap1 np1 cp1], .int .i64 a2] w (fun e w' => ∃ v0_ : Value, e = .returned (v0_) ∧ Hp A w w' [.box p0 [.bool r2.f0] 77, .own (Zd.slice 9 Zd.string) r1 [v0_]]) := by
 obtain rfl := C_len gp1
 have H := Aside0.mk h
 clear h
 unfold impl_opener_texts_0.f at H
 go_enter Tryz.func42, Tryz.ntmps42
 have F := HS.boxes; simp only [bxn] at F
 replace H := zbind H; obtain ⟨t3, ht3, H⟩ := H
 replace H := znifb H; rcases H with ⟨c6, H⟩ | ⟨c6, H⟩
 case inl =>
  go_wp2_with (first | ((with_reducible refine gd 4 rfl ?_); refine ev_bx HS ?_; clear HS; intro g4 w4 HS F) | ((with_reducible refine gd 12 rfl ?_); refine HS.lend [0] (by decide) [.box p0 [.bool a0.f0] 77] rfl (fun A' HL HD HA HB => ?_); refine ev_call rfl Tryz.func41 (by kernel_rfl) rfl #[.pointer (some ⟨p0, 0, none⟩), .agg #[.int .i64 a1.f0, .string a1.f1, .slice Ap1 a1.f2.length cp1], .int .i64 (-1)] rfl (by simp only [mpn]; rfl) ?_; refine (impl_opener_list_0.calls ht3.out gp1 lp1 (hV.lend HS HL) HA).mono ?_; rintro _ wt3 ⟨v4, rfl, HQ⟩; refine ⟨_, rfl, ?_⟩; replace HS := HB _ _ HQ (Nat.le_of_ble_eq_true rfl); clear HQ HA HB HL HD; (try simp only [hpn, hpm] at HS); (try clear F); obtain ⟨B4, d4, rfl, m4⟩ := HS.formn t3.1.2 2 rfl (by first | rfl | simp); (try simp only [cond_true, cond_false]); (try simp only [c6, cond_true, cond_false]); (try simp only [hpn, hpm] at HS); have F := HS.boxes; simp only [bxn] at F))
  replace HS := HS.nil 9 Zd.string
  go_loopg [7, 14] k (fun kq v_7 v_14 w' => ∃ (l97 : List ByteArray) (v98 : Value) (x99 : Int) (x100 : Bool), v_7 = v98 ∧ v_14 = .int .i64 x99 ∧ Aside0 (impl_opener_texts_0.l1 kq l97 x99 x100 a2 t3 = some (r1, r2)) ∧ Aside0 (kq ≤ k) ∧ Hp A w w' [.box p0 [.bool x100] 77, .box g4 [.int .i64 a1.f0, .string a1.f1, .slice Ap1 a1.f2.length cp1] 66, .own (Zd.slice 66 q66) (List.replicate t3.1.2 z66) [.slice B4 t3.1.2 d4], .own (Zd.slice 9 Zd.string) l97 [v98]])
  case atStart => exact ⟨_, _, _, _, rfl, rfl, H, ⟨Nat.le_refl _⟩, HS⟩
  case round =>
   clear HS H; (try clear F)
   obtain ⟨l97, v98, x99, x100, rfl, rfl, H, HKk96, HS⟩ := hrel
   obtain ⟨B98, d98, rfl, m98⟩ := HS.form 3 rfl
   have F := HS.boxes; simp only [bxn] at F
   cases gk with
   | zero => exact absurd H.out (by simp [impl_opener_texts_0.l1])
   | succ k96 =>
    simp only [impl_opener_texts_0.l1] at H
    replace H := znif H; rcases H with ⟨c102, H⟩ | ⟨c102, H⟩
    case inl =>
     obtain ⟨rfl, rfl⟩ := zsome2 H
     go_wp2
     exact bodyPost_ret (results_single rfl (.tmp .nil)) rfl ⟨_, rfl, HS.pick [0, 3] (by decide) (by rfl)⟩
    replace H := zgo H; obtain ⟨c103, H⟩ := H
    replace H := zgo H; obtain ⟨c104, H⟩ := H
    obtain ⟨ad105, B105_2, d105_2, rfl, e105_0, e105_1, e105_2, m105_2, y105_2⟩ := at_T66 (HS.rd 2 rfl) x99 (of_eq_true c103) (of_eq_true c104)
    simp only [rdrep_T66] at e105_0 e105_1 e105_2; simp only [z66, List.length_nil] at e105_0 e105_1 e105_2
    replace H := zbind H; obtain ⟨t110, ht110, H⟩ := H
    replace H := zgo H; obtain ⟨c114, H⟩ := H
    replace H := zlets H; obtain ⟨y115, e_y115, H⟩ := H
    go_wp2_with (first | ((with_reducible refine gd 9 rfl ?_); refine ev_bx HS ?_; clear HS; intro g9 w9 HS F) | ((with_reducible refine gate_store (p := 9) rfl ?_); refine ev_st 4 0 HS (seg := [.int .i64 0, .string (⟨#[]⟩ : ByteArray), .slice B105_2 0 d105_2]) ?_; clear HS; intro w108 HS F) | ((with_reducible refine gd 22 rfl ?_); refine HS.lend [0] (by decide) [.box p0 [.bool x100] 77] rfl (fun A' HL HD HA HB => ?_); refine ev_lc (impl_opener_text_0.calls ht110.out (C_zero _) (Nat.zero_le _) (hV.lend HS HL) HA) (fun _ HQ => HB _ _ HQ (Nat.le_of_ble_eq_true rfl)) Tryz.func77 ?_; clear HS HA HB HL HD; intro wt110 HS F) | ((with_reducible refine gd 23 rfl ?_); refine ev_li Zd.string [] ([t110.1] : List ByteArray) ([.string t110.1] ++ []) HS (MadeL.cons (js1 := []) (c := [.string t110.1]) rfl (made_flat (fun _ => rfl)) MadeL.nil (by decide)) ?_; clear HS; intro v112 w112 HS F; obtain ⟨B112, d112, rfl, m112⟩ := HS.formn 1 5 rfl rfl) | ((with_reducible refine gd 24 rfl ?_); refine ev_ap Zd.string 3 5 HS rfl rfl Tryz.underlying24 info9 (of_eq_true c114) ?_; clear HS; intro v115 w115 HS; rw [← e_y115.out] at HS; obtain ⟨B115, d115, rfl, m115⟩ := HS.form 6 rfl; (try simp only [hpn, hpm] at HS); have F := HS.boxes; simp only [bxn] at F))
    go_roundg k96
    case measure => have := HKk96.out; omega
    case rel => exact ⟨_, _, _, _, rfl, rfl, H, ⟨by have := HKk96.out; omega⟩, HS.pick [0, 1, 2, 6] (by decide) (by rfl)⟩
 go_wp2_with (first | ((with_reducible refine gd 4 rfl ?_); refine ev_bx HS ?_; clear HS; intro g4 w4 HS F) | ((with_reducible refine gd 12 rfl ?_); refine HS.lend [0] (by decide) [.box p0 [.bool a0.f0] 77] rfl (fun A' HL HD HA HB => ?_); refine ev_call rfl Tryz.func41 (by kernel_rfl) rfl #[.pointer (some ⟨p0, 0, none⟩), .agg #[.int .i64 a1.f0, .string a1.f1, .slice Ap1 a1.f2.length cp1], .int .i64 (-1)] rfl (by simp only [mpn]; rfl) ?_; refine (impl_opener_list_0.calls ht3.out gp1 lp1 (hV.lend HS HL) HA).mono ?_; rintro _ wt3 ⟨v4, rfl, HQ⟩; refine ⟨_, rfl, ?_⟩; replace HS := HB _ _ HQ (Nat.le_of_ble_eq_true rfl); clear HQ HA HB HL HD; (try simp only [hpn, hpm] at HS); (try clear F); obtain ⟨B4, d4, rfl, m4⟩ := HS.formn t3.1.2 2 rfl (by first | rfl | simp); (try simp only [cond_true, cond_false]); (try simp only [c6, cond_true, cond_false]); (try simp only [hpn, hpm] at HS); have F := HS.boxes; simp only [bxn] at F))
 replace HS := HS.nil 9 Zd.string
 go_loopg [7, 14] k (fun kq v_7 v_14 w' => ∃ (l42 : List ByteArray) (v43 : Value) (x44 : Int) (x45 : Bool), v_7 = v43 ∧ v_14 = .int .i64 x44 ∧ Aside0 (impl_opener_texts_0.l0 kq l42 x44 x45 a1 a2 = some (r1, r2)) ∧ Aside0 (kq ≤ k) ∧ Hp A w w' [.box p0 [.bool x45] 77, .box g4 [.int .i64 a1.f0, .string a1.f1, .slice Ap1 a1.f2.length cp1] 66, .own (Zd.slice 66 q66) (List.replicate t3.1.2 z66) [.slice B4 t3.1.2 d4], .own (Zd.slice 9 Zd.string) l42 [v43]])
 case atStart => exact ⟨_, _, _, _, rfl, rfl, H, ⟨Nat.le_refl _⟩, HS⟩
 case round =>
  clear HS H; (try clear F)
  obtain ⟨l42, v43, x44, x45, rfl, rfl, H, HKk41, HS⟩ := hrel
  obtain ⟨B43, d43, rfl, m43⟩ := HS.form 3 rfl
  have F := HS.boxes; simp only [bxn] at F
  cases gk with
  | zero => exact absurd H.out (by simp [impl_opener_texts_0.l0])
  | succ k41 =>
   simp only [impl_opener_texts_0.l0] at H
   replace H := znif H; rcases H with ⟨c47, H⟩ | ⟨c47, H⟩
   case inl =>
    obtain ⟨rfl, rfl⟩ := zsome2 H
    go_wp2
    exact bodyPost_ret (results_single rfl (.tmp .nil)) rfl ⟨_, rfl, HS.pick [0, 3] (by decide) (by rfl)⟩
   replace H := zgo H; obtain ⟨c48, H⟩ := H
   replace H := zgo H; obtain ⟨c49, H⟩ := H
   obtain ⟨ad50, B50_2, d50_2, rfl, e50_0, e50_1, e50_2, m50_2, y50_2⟩ := at_T66 gp1 x44 (of_eq_true c48) (of_eq_true c49)
   have e50_0_50 := (hV.keepc HS e50_0)
   have e50_1_50 := (hV.keepc HS e50_1)
   have e50_2_50 := (hV.keepc HS e50_2)
   replace H := zbind H; obtain ⟨t55, ht55, H⟩ := H
   replace H := zgo H; obtain ⟨c59, H⟩ := H
   replace H := zlets H; obtain ⟨y60, e_y60, H⟩ := H
   go_wp2_with (first | ((with_reducible refine gd 9 rfl ?_); refine ev_bx HS ?_; clear HS; intro g9 w9 HS F) | ((with_reducible refine gate_store (p := 9) rfl ?_); refine ev_st 4 0 HS (seg := [.int .i64 ((rd_T66 a1.f2 x44).f0), .string ((rd_T66 a1.f2 x44).f1), .slice B50_2 (rd_T66 a1.f2 x44).f2.length d50_2]) ?_; clear HS; intro w53 HS F) | ((with_reducible refine gd 22 rfl ?_); refine HS.lend [0] (by decide) [.box p0 [.bool x45] 77] rfl (fun A' HL HD HA HB => ?_); refine ev_lc (impl_opener_text_0.calls ht55.out y50_2 m50_2 (hV.lend HS HL) HA) (fun _ HQ => HB _ _ HQ (Nat.le_of_ble_eq_true rfl)) Tryz.func77 ?_; clear HS HA HB HL HD; intro wt55 HS F) | ((with_reducible refine gd 23 rfl ?_); refine ev_li Zd.string [] ([t55.1] : List ByteArray) ([.string t55.1] ++ []) HS (MadeL.cons (js1 := []) (c := [.string t55.1]) rfl (made_flat (fun _ => rfl)) MadeL.nil (by decide)) ?_; clear HS; intro v57 w57 HS F; obtain ⟨B57, d57, rfl, m57⟩ := HS.formn 1 5 rfl rfl) | ((with_reducible refine gd 24 rfl ?_); refine ev_ap Zd.string 3 5 HS rfl rfl Tryz.underlying24 info9 (of_eq_true c59) ?_; clear HS; intro v60 w60 HS; rw [← e_y60.out] at HS; obtain ⟨B60, d60, rfl, m60⟩ := HS.form 6 rfl; (try simp only [hpn, hpm] at HS); have F := HS.boxes; simp only [bxn] at F))
   go_roundg k41
   case measure => have := HKk41.out; omega
   case rel => exact ⟨_, _, _, _, rfl, rfl, H, ⟨by have := HKk41.out; omega⟩, HS.pick [0, 1, 2, 6] (by decide) (by rfl)⟩
mutual
def impl_SameItem.f : Nat → S66 → S66 → Option (Bool)
  | 0, _, _ => none
  | k + 1, a0, a1 => (if a0.f0 = a1.f0 then (if a0.f1.toList = a1.f1.toList then ((impl_SameItem_impl_Item.f k a0.f2 a1.f2).bind fun t7 => (some t7)) else (some false)) else (some false))
def impl_SameItem_impl_Item.l0 : Nat → Int → (List S66) → (List S66) → Option (Bool)
  | 0, _, _, _ => none
  | k + 1, x5, a0, a1 => (if x5 < (a0.length : Int) then (if 0 ≤ x5 then (if x5 < (a0.length : Int) then (if x5 < (a1.length : Int) then ((impl_SameItem.f k (rd_T66 a0 x5) (rd_T66 a1 x5)).bind fun t21 => (if t21 = true then (impl_SameItem_impl_Item.l0 k (wrap64 (x5 + 1)) a0 a1) else (some false))) else none) else none) else none) else (some true))
def impl_SameItem_impl_Item.f : Nat → (List S66) → (List S66) → Option (Bool)
  | 0, _, _ => none
  | k + 1, a0, a1 => (if (a0.length : Int) = (a1.length : Int) then (impl_SameItem_impl_Item.l0 k 0 a0 a1) else (some false))
end
theorem impl_SameItem_impl_Item.calls_ {K : Nat} (IH : ∀ {k : Nat} (hK : k ≤ K) {a0 : S66} {a1 : S66} {Ap0 Ap1 : Option Addr} {np0 cp0 np1 cp1 : Nat} {r : Bool} {w : World} (h : impl_SameItem.f k a0 a1 = some r) (gp0 : k66.C w Ap0 np0 a0.f2) (lp0 : np0 ≤ cp0) (gp1 : k66.C w Ap1 np1 a1.f2) (lp1 : np1 ≤ cp1), Calls Tryz.prog 106 #[.agg #[.int .i64 a0.f0, .string a0.f1, .slice Ap0 np0 cp0], .agg #[.int .i64 a1.f0, .string a1.f1, .slice Ap1 np1 cp1]] w (fun e w' => e = .returned (.bool r) ∧ Hp noFP w w' [])) : ∀ {k : Nat} (hK : k ≤ K) {a0 : (List S66)} {a1 : (List S66)} {Ap0 Ap1 : Option Addr} {np0 cp0 np1 cp1 : Nat} {r : Bool} {w : World} (h : impl_SameItem_impl_Item.f k a0 a1 = some r) (gp0 : k66.C w Ap0 np0 a0) (lp0 : np0 ≤ cp0) (gp1 : k66.C w Ap1 np1 a1) (lp1 : np1 ≤ cp1),
    Calls Tryz.prog 126 #[.slice Ap0 np0 cp0, .slice Ap1 np1 cp1, .func (.func 106) #[] #[]] w (fun e w' => e = .returned (.bool r) ∧ Hp noFP w w' []) := by
  intro k hK a0 a1 Ap0 np0 cp0 Ap1 np1 cp1 r w h gp0 lp0 gp1 lp1
  cases k with
  | zero => exact absurd h (by simp [impl_SameItem_impl_Item.f])
  | succ k =>
  have HK0 : Aside0 (k ≤ K) := ⟨by omega⟩
  clear hK
  obtain rfl := C_len gp0
  obtain rfl := C_len gp1
  have HS := Hp.start w
  have H := Aside0.mk h
  clear h
  simp only [impl_SameItem_impl_Item.f] at H
  go_enter Tryz.func126, Tryz.ntmps126
  replace H := znif' H; rcases H with ⟨c1, H⟩ | ⟨c1, H⟩
  case inl =>
   have c1a := beq_eq_false_iff_ne.mpr c1
   have c1b := bne_iff_ne.mpr c1
   clear c1
   obtain rfl := zsome H
   go_wp2
   go_ret
   exact HS.pk
  have c1a := beq_iff_eq.mpr c1
  have c1b := bne_eq_false_iff_eq.mpr c1
  clear c1
  go_wp2
  go_loopg [17] k (fun kq v_17 w' => ∃ (x5 : Int), v_17 = .int .i64 x5 ∧ Aside0 (impl_SameItem_impl_Item.l0 kq x5 a0 a1 = some r) ∧ Aside0 (kq ≤ k) ∧ Hp noFP w w' [])
  case atStart => exact ⟨_, rfl, H, ⟨Nat.le_refl _⟩, HS⟩
  case round =>
   clear HS H; (try clear F)
   obtain ⟨x5, rfl, H, HKk4, HS⟩ := hrel
   cases gk with
   | zero => exact absurd H.out (by simp [impl_SameItem_impl_Item.l0])
   | succ k4 =>
    simp only [impl_SameItem_impl_Item.l0] at H
    replace H := znif H; rcases H with ⟨c7, H⟩ | ⟨c7, H⟩
    case inl =>
     obtain rfl := zsome H
     go_wp2
     go_ret
     exact HS.pk
    replace H := zgo H; obtain ⟨c8, H⟩ := H
    replace H := zgo H; obtain ⟨c9, H⟩ := H
    obtain ⟨ad10, B10_2, d10_2, rfl, e10_0, e10_1, e10_2, m10_2, y10_2⟩ := at_T66 gp0 x5 (of_eq_true c8) (of_eq_true c9)
    have e10_0_10 := HS.keepc e10_0
    have e10_1_10 := HS.keepc e10_1
    have e10_2_10 := HS.keepc e10_2
    replace H := zgo H; obtain ⟨c15, H⟩ := H
    replace H := zbind H; obtain ⟨t21, ht21, H⟩ := H
    go_upto_if 30 with (first | ((with_reducible refine gd 8 rfl ?_); refine ev_bx HS ?_; clear HS; intro g8 w8 HS F) | ((with_reducible refine gate_store (p := 8) rfl ?_); refine ev_st 0 0 HS (seg := [.int .i64 ((rd_T66 a0 x5).f0), .string ((rd_T66 a0 x5).f1), .slice B10_2 (rd_T66 a0 x5).f2.length d10_2]) ?_; clear HS; intro w13 HS F; obtain ⟨ad16, B16_2, d16_2, rfl, e16_0, e16_1, e16_2, m16_2, y16_2⟩ := at_T66 gp1 x5 (of_eq_true c8) (of_eq_true c15); have e16_0_16 := HS.keepc e16_0; have e16_1_16 := HS.keepc e16_1; have e16_2_16 := HS.keepc e16_2) | ((with_reducible refine gd 9 rfl ?_); refine ev_bx HS ?_; clear HS; intro g9 w9 HS F) | ((with_reducible refine gate_store (p := 9) rfl ?_); refine ev_st 1 0 HS (seg := [.int .i64 ((rd_T66 a1 x5).f0), .string ((rd_T66 a1 x5).f1), .slice B16_2 (rd_T66 a1 x5).f2.length d16_2]) ?_; clear HS; intro w19 HS F) | ((with_reducible refine gd 29 rfl ?_); refine ev_callv rfl Tryz.func106 (by kernel_rfl) rfl #[.agg #[.int .i64 ((rd_T66 a0 x5).f0), .string ((rd_T66 a0 x5).f1), .slice B10_2 (rd_T66 a0 x5).f2.length d10_2], .agg #[.int .i64 ((rd_T66 a1 x5).f0), .string ((rd_T66 a1 x5).f1), .slice B16_2 (rd_T66 a1 x5).f2.length d16_2]] #[.agg #[.int .i64 ((rd_T66 a0 x5).f0), .string ((rd_T66 a0 x5).f1), .slice B10_2 (rd_T66 a0 x5).f2.length d10_2], .agg #[.int .i64 ((rd_T66 a1 x5).f0), .string ((rd_T66 a1 x5).f1), .slice B16_2 (rd_T66 a1 x5).f2.length d16_2]] rfl rfl (by simp only [mpn]; rfl) (by first | rfl | simp) ?_; refine (IH (by have := HK0.out; have := HKk4.out; omega) ht21.out (HS.ro y10_2) m10_2 (HS.ro y16_2) m16_2).mono ?_; rintro _ wt21 ⟨rfl, HQ⟩; refine ⟨_, rfl, ?_⟩; replace HS := HS.call HQ; clear HQ; (try clear F); (try simp only [hpn, hpm] at HS); have F := HS.boxes; simp only [bxn] at F))
    replace H := znifb H; rcases H with ⟨c23, H⟩ | ⟨c23, H⟩
    case inl =>
     subst c23
     (try simp only [dcn, dcu, dcf])
     obtain rfl := zsome H
     go_wp2
     go_ret
     exact HS.pk
    subst c23
    (try simp only [dcn, dcu, dcf])
    go_wp2
    go_roundg k4
    case measure => have := HK0.out; have := HKk4.out; omega
    case rel => exact ⟨_, rfl, H, ⟨by have := HK0.out; have := HKk4.out; omega⟩, HS.pick [] (by decide) (by rfl)⟩
theorem impl_SameItem.calls_ (K : Nat) : ∀ {k : Nat} (hK : k ≤ K) {a0 : S66} {a1 : S66} {Ap0 Ap1 : Option Addr} {np0 cp0 np1 cp1 : Nat} {r : Bool} {w : World} (h : impl_SameItem.f k a0 a1 = some r) (gp0 : k66.C w Ap0 np0 a0.f2) (lp0 : np0 ≤ cp0) (gp1 : k66.C w Ap1 np1 a1.f2) (lp1 : np1 ≤ cp1),
    Calls Tryz.prog 106 #[.agg #[.int .i64 a0.f0, .string a0.f1, .slice Ap0 np0 cp0], .agg #[.int .i64 a1.f0, .string a1.f1, .slice Ap1 np1 cp1]] w (fun e w' => e = .returned (.bool r) ∧ Hp noFP w w' []) := by
  induction K with
  | zero =>
    intro k hK a0 a1 Ap0 np0 cp0 Ap1 np1 cp1 r w h gp0 lp0 gp1 lp1
    obtain rfl : k = 0 := by omega
    exact absurd h (by simp [impl_SameItem.f])
  | succ K IH =>
    intro k hK a0 a1 Ap0 np0 cp0 Ap1 np1 cp1 r w h gp0 lp0 gp1 lp1
    cases k with
    | zero => exact absurd h (by simp [impl_SameItem.f])
    | succ k =>
    have HK0 : Aside0 (k ≤ K) := ⟨by omega⟩
    clear hK
    obtain rfl := C_len gp0
    obtain rfl := C_len gp1
    have HS := Hp.start w
    have H := Aside0.mk h
    clear h
    simp only [impl_SameItem.f] at H
    go_enter Tryz.func106, Tryz.ntmps106
    replace H := znif' H; rcases H with ⟨c5, H⟩ | ⟨c5, H⟩
    case inl =>
     have c5a := beq_eq_false_iff_ne.mpr c5
     have c5b := bne_iff_ne.mpr c5
     clear c5
     obtain rfl := zsome H
     go_wp2_with (first | ((with_reducible refine gd 2 rfl ?_); refine ev_bx HS ?_; clear HS; intro g2 w2 HS F) | ((with_reducible refine gd 3 rfl ?_); refine ev_bx HS ?_; clear HS; intro g3 w3 HS F))
     go_ret
     exact HS.pk
    have c5a := beq_iff_eq.mpr c5
    have c5b := bne_eq_false_iff_eq.mpr c5
    clear c5
    replace H := znif' H; rcases H with ⟨c6, H⟩ | ⟨c6, H⟩
    case inl =>
     have c6a := beq_eq_false_iff_ne.mpr c6
     have c6b := bne_iff_ne.mpr c6
     clear c6
     obtain rfl := zsome H
     go_wp2_with (first | ((with_reducible refine gd 2 rfl ?_); refine ev_bx HS ?_; clear HS; intro g2 w2 HS F) | ((with_reducible refine gd 3 rfl ?_); refine ev_bx HS ?_; clear HS; intro g3 w3 HS F))
     go_ret
     exact HS.pk
    have c6a := beq_iff_eq.mpr c6
    have c6b := bne_eq_false_iff_eq.mpr c6
    clear c6
    replace H := zbind H; obtain ⟨t7, ht7, H⟩ := H
    obtain rfl := zsome H
    go_wp2_with (first | ((with_reducible refine gd 2 rfl ?_); refine ev_bx HS ?_; clear HS; intro g2 w2 HS F) | ((with_reducible refine gd 3 rfl ?_); refine ev_bx HS ?_; clear HS; intro g3 w3 HS F) | ((with_reducible refine gd 22 rfl ?_); refine gg ?_; refine ev_cl HS (impl_SameItem_impl_Item.calls_ IH (by have := HK0.out; omega) ht7.out (HS.ro gp0) lp0 (HS.ro gp1) lp1) Tryz.func126 ?_; clear HS; intro wt7 HS F))
    go_ret
    exact HS.pk
theorem impl_SameItem.calls {k : Nat} {a0 : S66} {a1 : S66} {Ap0 Ap1 : Option Addr} {np0 cp0 np1 cp1 : Nat} {r : Bool} {w : World} (h : impl_SameItem.f k a0 a1 = some r) (gp0 : k66.C w Ap0 np0 a0.f2) (lp0 : np0 ≤ cp0) (gp1 : k66.C w Ap1 np1 a1.f2) (lp1 : np1 ≤ cp1) :
    Calls Tryz.prog 106 #[.agg #[.int .i64 a0.f0, .string a0.f1, .slice Ap0 np0 cp0], .agg #[.int .i64 a1.f0, .string a1.f1, .slice Ap1 np1 cp1]] w (fun e w' => e = .returned (.bool r) ∧ Hp noFP w w' []) := impl_SameItem.calls_ k (Nat.le_refl k) h gp0 lp0 gp1 lp1
mutual
def impl_IntIn.l0 : Nat → Int → Int → S66 → ByteArray → Option (Int × Bool)
  | 0, _, _, _, _ => none
  | k + 1, x19, x20, a0, y6 => (if x20 < (y6.size : Int) then (if 0 ≤ x20 then (if x20 < (y6.size : Int) then (impl_IntIn.l0 k (Go.bits .or .i64 (wrap64 (x19 * 256)) (wrap64 (rd (bytesOf y6) x20))) (wrap64 (x20 + 1)) a0 y6) else none) else none) else ((impl_within.f x19 0 1000000000).bind fun t10 => (if t10 = true then ((impl_IntItem.f k x19).bind fun t12 => ((impl_SameItem.f k a0 t12).bind fun t14 => (if t14 = true then (some (x19, true)) else (some (0, false))))) else (some (0, false)))))
def impl_IntIn.l1 : Nat → Int → Int → S66 → ByteArray → Option (Int × Bool)
  | 0, _, _, _, _ => none
  | k + 1, x47, x48, a0, y34 => (if x48 < (y34.size : Int) then (if 0 ≤ x48 then (if x48 < (y34.size : Int) then (impl_IntIn.l1 k (Go.bits .or .i64 (wrap64 (x47 * 256)) (wrap64 (rd (bytesOf y34) x48))) (wrap64 (x48 + 1)) a0 y34) else none) else none) else ((impl_within.f x47 0 1000000000).bind fun t15 => (if t15 = true then ((impl_IntItem.f k x47).bind fun t21 => ((impl_SameItem.f k a0 t21).bind fun t28 => (if t28 = true then (some (x47, true)) else (some (0, false))))) else (some (0, false)))))
end
def impl_IntIn.f (k : Nat) (a0 : S66) : Option (Int × Bool) := (if 5 < (a0.f1.size : Int) then (if 0 ≤ 5 then (if 5 ≤ (a0.f1.size : Int) then (lets (a0.f1.extract 0 5) fun y6 => (if y6.size ≤ 9223372036854775807 then (impl_IntIn.l0 k 0 0 a0 y6) else none)) else none) else none) else (if 0 ≤ (a0.f1.size : Int) then (if (a0.f1.size : Int) ≤ (a0.f1.size : Int) then (lets (a0.f1.extract 0 ((a0.f1.size : Int)).toNat) fun y34 => (if y34.size ≤ 9223372036854775807 then (impl_IntIn.l1 k 0 0 a0 y34) else none)) else none) else none))
def impl_IntIn.T7 : TT := (true, [([], []), ([0], [0]), ([1], [1]), ([2, 1], [2]), ([3], [3]), ([3], [3]), ([5, 3, 3], [3, 5]), ([4, 6, 6, 3], [3, 4, 6]), ([7, 3], [3, 7]), ([3, 8], [3, 8])])
theorem impl_IntIn.tT7 : rtab .any (opsOf Tryz.f78 7) = impl_IntIn.T7 := by kernel_rfl
theorem impl_IntIn.calls {k : Nat} {a0 : S66} {Ap0 : Option Addr} {np0 cp0 : Nat} {r1 : Int} {r2 : Bool} {w : World} (h : impl_IntIn.f k a0 = some (r1, r2)) (gp0 : k66.C w Ap0 np0 a0.f2) (lp0 : np0 ≤ cp0) :
    Calls Tryz.prog 78 #[.agg #[.int .i64 a0.f0, .string a0.f1, .slice Ap0 np0 cp0]] w (fun e w' => e = .returned (.tuple #[.int .i64 r1, .bool r2]) ∧ Hp noFP w w' []) := by
 obtain rfl := C_len gp0
 have HS := Hp.start w
 have H := Aside0.mk h
 clear h
 unfold impl_IntIn.f at H
 go_enter Tryz.func78, Tryz.ntmps78
 replace H := zif H; rcases H with ⟨c3, H⟩ | ⟨c3, H⟩
 case inl =>
  replace H := zgo H; obtain ⟨c4, H⟩ := H
  replace H := zgo H; obtain ⟨c5, H⟩ := H
  replace H := zlets H; obtain ⟨y6, e_y6, H⟩ := H
  replace H := zgo H; obtain ⟨c7, H⟩ := H
  go_wp2_with (first | ((with_reducible refine gd 1 rfl ?_); refine ev_bx HS ?_; clear HS; intro g1 w1 HS F) | ((with_reducible refine gd 13 rfl ?_); refine ev_val rfl (run_cut rfl rfl Tryz.underlying9 (.inl ⟨rfl, rfl⟩) (.inr ⟨_, _, rfl, rfl, by have := of_eq_true (eq_true (by decide : (0:Int) ≤ 0)); have := of_eq_true c4; have := of_eq_true c5; omega⟩) (by have := of_eq_true (eq_true (by decide : (0:Int) ≤ 0)); have := of_eq_true c4; have := of_eq_true c5; omega) (by have := of_eq_true (eq_true (by decide : (0:Int) ≤ 0)); have := of_eq_true c4; have := of_eq_true c5; omega)) ?_) | ((with_reducible refine gd 14 rfl ?_); refine ev_bytes rfl HS rfl (s := y6) (by rw [e_y6.out]; rfl) Tryz.underlying9 Tryz.underlying22 Tryz.underlying5 (of_eq_true c7) ?_; clear HS; intro v6 w6 HS; obtain ⟨B6, d6, rfl, m6⟩ := HS.vformb 1 rfl; (try simp only [hpn, hpm] at HS); have F := HS.boxes; simp only [bxn] at F))
  go_loopg [4, 16] k (fun kq v_4 v_16 w' => ∃ (x19 : Int) (x20 : Int), v_4 = .int .i64 x19 ∧ v_16 = .int .i64 x20 ∧ Aside0 (impl_IntIn.l0 kq x19 x20 a0 y6 = some (r1, r2)) ∧ Aside0 (kq ≤ k) ∧ Hp noFP w w' [.box g1 [.int .i64 a0.f0, .string a0.f1, .slice Ap0 a0.f2.length cp0] 66, .own (Zd.view 5 (Zd.int .u8)) (bytesOf y6) [.slice B6 y6.size d6]])
  case atStart => exact ⟨_, _, rfl, rfl, H, ⟨Nat.le_refl _⟩, HS⟩
  case round =>
   clear HS H; (try clear F)
   obtain ⟨x19, x20, rfl, rfl, H, HKk18, HS⟩ := hrel
   have F := HS.boxes; simp only [bxn] at F
   cases gk with
   | zero => exact absurd H.out (by simp [impl_IntIn.l0])
   | succ k18 =>
    simp only [impl_IntIn.l0] at H
    replace H := zif H; rcases H with ⟨c22, H⟩ | ⟨c22, H⟩
    case inl =>
     replace H := zgo H; obtain ⟨c23, H⟩ := H
     replace H := zgo H; obtain ⟨c24, H⟩ := H
     obtain ⟨ad25, rfl, e25_0⟩ := Kd.at_int (HS.vrd 1 rfl) x20 (of_eq_true c23) (of_eq_true c24)
     go_wp2
     go_roundg k18
     case measure => have := HKk18.out; omega
     case rel => exact ⟨_, _, rfl, rfl, H, ⟨by have := HKk18.out; omega⟩, HS.pick [0, 1] (by decide) (by rfl)⟩
    (try go_wp2)
    replace H := zbind H; obtain ⟨t10, ht10, H⟩ := H
    replace H := znifb H; rcases H with ⟨c11, H⟩ | ⟨c11, H⟩
    case inl =>
     subst c11
     refine dr_start [] HS #[false, false, false, false, false, false, false, false, false, false] (by kernel_rfl) rfl rfl impl_IntIn.tT7 (fun w30 HT HS HH => ?_)
     (try clear F)
     refine drq_of [(0, some 26)] ?_
     repeat (refine drp HT ?_)
     refine drq_end ?_
     refine dr1 1 HT fun K hK => ?_
     refine go_cl HS (impl_within.calls ht10.out) Tryz.func52 ?_; clear HS; intro wt10 HS F
     refine nrm 27 hK ⟨_, HS⟩ (fun HH => ?_); clear hK K
     refine drq_of [(2, some 28), (3, some 29), (4, some 30), (5, some 31), (6, some 32), (7, some 33), (8, some 34), (9, some 35)] ?_
     repeat (first | refine drp HT ?_ | (refine drq_pure HT (v := undef) (a' := ?_) rfl rfl (by kernel_rfl) (fun _ _ _ h => h) (.inr ⟨by rfl, rfl⟩) ?_ ?_; rotate_left; (simp only [Act.put, ptn]; rfl)))
     refine drq_end ?_
     refine done_ (done_of HT.out (by kernel_rfl)) ?_
     (try clear F)
     have F := HS.boxes; simp only [bxn] at F
     obtain ⟨rfl, rfl⟩ := zsome2 H
     go_wp2
     exact bodyPost_ret (results_list (rs := [.tmp 2, .tmp 3]) rfl (by simp) (.tmp (.tmp .nil))) rfl ⟨rfl, HS.pick [] (by decide) (by rfl)⟩
    subst c11
    replace H := zbind H; obtain ⟨t12, ht12, H⟩ := H
    replace H := zbind H; obtain ⟨t14, ht14, H⟩ := H
    refine dr_start [] HS #[false, false, false, false, false, false, false, false, false, false] (by kernel_rfl) rfl rfl impl_IntIn.tT7 (fun w27 HT HS HH => ?_)
    (try clear F)
    refine drq_of [(0, some 26)] ?_
    repeat (refine drp HT ?_)
    refine drq_end ?_
    refine dr1 1 HT fun K hK => ?_
    refine go_cl HS (impl_within.calls ht10.out) Tryz.func52 ?_; clear HS; intro wt10 HS F
    refine nrm 27 hK ⟨_, HS⟩ (fun HH => ?_); clear hK K
    refine drq_of [(2, some 28), (3, some 29), (4, some 30), (5, some 31)] ?_
    repeat (first | refine drp HT ?_ | refine drt HT HH ?_)
    refine drq_end ?_
    refine dr1 6 HT fun K hK => ?_
    refine go_cl1 HS (impl_IntItem.calls ht12.out) Tryz.func34 ?_; clear HS; intro v13 wt12 HS F; obtain ⟨B13, d13, rfl, m13⟩ := HS.form 2 rfl
    refine nrm 32 hK ⟨_, HS⟩ (fun HH => ?_); clear hK K
    refine dr1 7 HT fun K hK => ?_
    refine go_cl HS (impl_SameItem.calls ht14.out (HS.ro gp0) lp0 (HS.rd 2 rfl) m13) Tryz.func106 ?_; clear HS; intro wt14 HS F
    refine nrm 33 hK ⟨_, HS⟩ (fun HH => ?_); clear hK K
    refine drq_of [(8, some 34), (9, some 35)] ?_
    repeat (refine drp HT ?_)
    refine drq_end ?_
    refine done_ (done_of HT.out (by kernel_rfl)) ?_
    (try clear F)
    have F := HS.boxes; simp only [bxn] at F
    replace H := zifb H; rcases H with ⟨c29, H⟩ | ⟨c29, H⟩
    case inl =>
     subst c29
     (try simp only [dcn, dcu, dcf])
     obtain ⟨rfl, rfl⟩ := zsome2 H
     go_wp2
     exact bodyPost_ret (results_list (rs := [.tmp 2, .tmp 3]) rfl (by simp) (.tmp (.tmp .nil))) rfl ⟨rfl, HS.pick [] (by decide) (by rfl)⟩
    subst c29
    (try simp only [dcn, dcu, dcf])
    obtain ⟨rfl, rfl⟩ := zsome2 H
    go_wp2
    exact bodyPost_ret (results_list (rs := [.tmp 2, .tmp 3]) rfl (by simp) (.tmp (.tmp .nil))) rfl ⟨rfl, HS.pick [] (by decide) (by rfl)⟩
 replace H := zgo H; obtain ⟨c32, H⟩ := H
 replace H := zgo H; obtain ⟨c33, H⟩ := H
 replace H := zlets H; obtain ⟨y34, e_y34, H⟩ := H
 replace H := zgo H; obtain ⟨c35, H⟩ := H
 go_wp2_with (first | ((with_reducible refine gd 1 rfl ?_); refine ev_bx HS ?_; clear HS; intro g1 w1 HS F) | ((with_reducible refine gd 13 rfl ?_); refine ev_val rfl (run_cut rfl rfl Tryz.underlying9 (.inl ⟨rfl, rfl⟩) (.inr ⟨_, _, rfl, rfl, by have := of_eq_true (eq_true (by decide : (0:Int) ≤ 0)); have := of_eq_true c32; have := of_eq_true c33; omega⟩) (by have := of_eq_true (eq_true (by decide : (0:Int) ≤ 0)); have := of_eq_true c32; have := of_eq_true c33; omega) (by have := of_eq_true (eq_true (by decide : (0:Int) ≤ 0)); have := of_eq_true c32; have := of_eq_true c33; omega)) ?_) | ((with_reducible refine gd 14 rfl ?_); refine ev_bytes rfl HS rfl (s := y34) (by rw [e_y34.out]; rfl) Tryz.underlying9 Tryz.underlying22 Tryz.underlying5 (of_eq_true c35) ?_; clear HS; intro v34 w34 HS; obtain ⟨B34, d34, rfl, m34⟩ := HS.vformb 1 rfl; (try simp only [hpn, hpm] at HS); have F := HS.boxes; simp only [bxn] at F))
 go_loopg [4, 16] k (fun kq v_4 v_16 w' => ∃ (x47 : Int) (x48 : Int), v_4 = .int .i64 x47 ∧ v_16 = .int .i64 x48 ∧ Aside0 (impl_IntIn.l1 kq x47 x48 a0 y34 = some (r1, r2)) ∧ Aside0 (kq ≤ k) ∧ Hp noFP w w' [.box g1 [.int .i64 a0.f0, .string a0.f1, .slice Ap0 a0.f2.length cp0] 66, .own (Zd.view 5 (Zd.int .u8)) (bytesOf y34) [.slice B34 y34.size d34]])
 case atStart => exact ⟨_, _, rfl, rfl, H, ⟨Nat.le_refl _⟩, HS⟩
 case round =>
  clear HS H; (try clear F)
  obtain ⟨x47, x48, rfl, rfl, H, HKk46, HS⟩ := hrel
  have F := HS.boxes; simp only [bxn] at F
  cases gk with
  | zero => exact absurd H.out (by simp [impl_IntIn.l1])
  | succ k46 =>
   simp only [impl_IntIn.l1] at H
   replace H := zif H; rcases H with ⟨c50, H⟩ | ⟨c50, H⟩
   case inl =>
    replace H := zgo H; obtain ⟨c51, H⟩ := H
    replace H := zgo H; obtain ⟨c52, H⟩ := H
    obtain ⟨ad53, rfl, e53_0⟩ := Kd.at_int (HS.vrd 1 rfl) x48 (of_eq_true c51) (of_eq_true c52)
    go_wp2
    go_roundg k46
    case measure => have := HKk46.out; omega
    case rel => exact ⟨_, _, rfl, rfl, H, ⟨by have := HKk46.out; omega⟩, HS.pick [0, 1] (by decide) (by rfl)⟩
   (try go_wp2)
   replace H := zbind H; obtain ⟨t15, ht15, H⟩ := H
   replace H := znifb H; rcases H with ⟨c17, H⟩ | ⟨c17, H⟩
   case inl =>
    subst c17
    refine dr_start [] HS #[false, false, false, false, false, false, false, false, false, false] (by kernel_rfl) rfl rfl impl_IntIn.tT7 (fun w58 HT HS HH => ?_)
    (try clear F)
    refine drq_of [(0, some 26)] ?_
    repeat (refine drp HT ?_)
    refine drq_end ?_
    refine dr1 1 HT fun K hK => ?_
    refine go_cl HS (impl_within.calls ht15.out) Tryz.func52 ?_; clear HS; intro wt15 HS F
    refine nrm 27 hK ⟨_, HS⟩ (fun HH => ?_); clear hK K
    refine drq_of [(2, some 28), (3, some 29), (4, some 30), (5, some 31), (6, some 32), (7, some 33), (8, some 34), (9, some 35)] ?_
    repeat (first | refine drp HT ?_ | (refine drq_pure HT (v := undef) (a' := ?_) rfl rfl (by kernel_rfl) (fun _ _ _ h => h) (.inr ⟨by rfl, rfl⟩) ?_ ?_; rotate_left; (simp only [Act.put, ptn]; rfl)))
    refine drq_end ?_
    refine done_ (done_of HT.out (by kernel_rfl)) ?_
    (try clear F)
    have F := HS.boxes; simp only [bxn] at F
    obtain ⟨rfl, rfl⟩ := zsome2 H
    go_wp2
    exact bodyPost_ret (results_list (rs := [.tmp 2, .tmp 3]) rfl (by simp) (.tmp (.tmp .nil))) rfl ⟨rfl, HS.pick [] (by decide) (by rfl)⟩
   subst c17
   replace H := zbind H; obtain ⟨t21, ht21, H⟩ := H
   replace H := zbind H; obtain ⟨t28, ht28, H⟩ := H
   refine dr_start [] HS #[false, false, false, false, false, false, false, false, false, false] (by kernel_rfl) rfl rfl impl_IntIn.tT7 (fun w55 HT HS HH => ?_)
   (try clear F)
   refine drq_of [(0, some 26)] ?_
   repeat (refine drp HT ?_)
   refine drq_end ?_
   refine dr1 1 HT fun K hK => ?_
   refine go_cl HS (impl_within.calls ht15.out) Tryz.func52 ?_; clear HS; intro wt15 HS F
   refine nrm 27 hK ⟨_, HS⟩ (fun HH => ?_); clear hK K
   refine drq_of [(2, some 28), (3, some 29), (4, some 30), (5, some 31)] ?_
   repeat (first | refine drp HT ?_ | refine drt HT HH ?_)
   refine drq_end ?_
   refine dr1 6 HT fun K hK => ?_
   refine go_cl1 HS (impl_IntItem.calls ht21.out) Tryz.func34 ?_; clear HS; intro v26 wt21 HS F; obtain ⟨B26, d26, rfl, m26⟩ := HS.form 2 rfl
   refine nrm 32 hK ⟨_, HS⟩ (fun HH => ?_); clear hK K
   refine dr1 7 HT fun K hK => ?_
   refine go_cl HS (impl_SameItem.calls ht28.out (HS.ro gp0) lp0 (HS.rd 2 rfl) m26) Tryz.func106 ?_; clear HS; intro wt28 HS F
   refine nrm 33 hK ⟨_, HS⟩ (fun HH => ?_); clear hK K
   refine drq_of [(8, some 34), (9, some 35)] ?_
   repeat (refine drp HT ?_)
   refine drq_end ?_
   refine done_ (done_of HT.out (by kernel_rfl)) ?_
   (try clear F)
   have F := HS.boxes; simp only [bxn] at F
   replace H := zifb H; rcases H with ⟨c57, H⟩ | ⟨c57, H⟩
   case inl =>
    subst c57
    (try simp only [dcn, dcu, dcf])
    obtain ⟨rfl, rfl⟩ := zsome2 H
    go_wp2
    exact bodyPost_ret (results_list (rs := [.tmp 2, .tmp 3]) rfl (by simp) (.tmp (.tmp .nil))) rfl ⟨rfl, HS.pick [] (by decide) (by rfl)⟩
   subst c57
   (try simp only [dcn, dcu, dcf])
   obtain ⟨rfl, rfl⟩ := zsome2 H
   go_wp2
   exact bodyPost_ret (results_list (rs := [.tmp 2, .tmp 3]) rfl (by simp) (.tmp (.tmp .nil))) rfl ⟨rfl, HS.pick [] (by decide) (by rfl)⟩
def impl_opener_num_0.f (k : Nat) (a0 : S77) (a1 : S66) : Option (Int × S77) := ((impl_IntIn.f k a1).bind fun t3 => (if a0.f0 = true then (some (t3.1, (⟨true⟩ : S77))) else (some (t3.1, (⟨(!t3.2)⟩ : S77)))))
theorem impl_opener_num_0.calls {k : Nat} {a0 : S77} {a1 : S66} {A : FP} {p0 : Nat} {Ap1 : Option Addr} {np1 cp1 : Nat} {wv : World} {r1 : Int} {r2 : S77} {w : World} (h : impl_opener_num_0.f k a0 a1 = some (r1, r2)) (gp1 : k66.C wv Ap1 np1 a1.f2) (lp1 : np1 ≤ cp1) (hV : View A w wv) (HS : Hp A w w [.box p0 [.bool a0.f0] 77]) :
    Calls Tryz.prog 43 #[.pointer (some ⟨p0, 0, none⟩), .agg #[.int .i64 a1.f0, .string a1.f1, .slice Ap1 np1 cp1]] w (fun e w' => e = .returned (.int .i64 r1) ∧ Hp A w w' [.box p0 [.bool r2.f0] 77]) := by
 obtain rfl := C_len gp1
 have H := Aside0.mk h
 clear h
 unfold impl_opener_num_0.f at H
 go_enter Tryz.func43, Tryz.ntmps43
 have F := HS.boxes; simp only [bxn] at F
 replace H := zbind H; obtain ⟨t3, ht3, H⟩ := H
 replace H := zifb H; rcases H with ⟨c5, H⟩ | ⟨c5, H⟩
 case inl =>
  obtain ⟨rfl, rfl⟩ := zsome2 H
  go_wp2_with (first | ((with_reducible refine gd 3 rfl ?_); refine ev_bx HS ?_; clear HS; intro g3 w3 HS F) | ((with_reducible refine gd 9 rfl ?_); refine ev_cl HS (impl_IntIn.calls ht3.out (hV.ro km66 HS gp1) lp1) Tryz.func78 ?_; clear HS; intro wt3 HS F; (try simp only [c5])) | ((with_reducible refine gate_store (p := 22) rfl ?_); refine ev_st 0 0 HS (seg := [.bool true]) ?_; clear HS; intro w6 HS F))
  go_ret
  exact ⟨rfl, HS.pick [0] (by decide) (by rfl)⟩
 obtain ⟨rfl, rfl⟩ := zsome2 H
 go_wp2_with (first | ((with_reducible refine gd 3 rfl ?_); refine ev_bx HS ?_; clear HS; intro g3 w3 HS F) | ((with_reducible refine gd 9 rfl ?_); refine ev_cl HS (impl_IntIn.calls ht3.out (hV.ro km66 HS gp1) lp1) Tryz.func78 ?_; clear HS; intro wt3 HS F; (try simp only [c5])) | ((with_reducible refine gate_store (p := 22) rfl ?_); refine ev_st 0 0 HS (seg := [.bool (!t3.2)]) ?_; clear HS; intro w8 HS F))
 go_ret
 exact ⟨rfl, HS.pick [0] (by decide) (by rfl)⟩
def impl_opener_flag_0.f (a0 : S77) (a1 : S66) : Option (Bool × S77) := ((impl_opener_text_0.f a0 a1 1).bind fun t3 => (some ((t3.1.toList == ([255] : List UInt8)), t3.2)))
theorem impl_opener_flag_0.calls {a0 : S77} {a1 : S66} {A : FP} {p0 : Nat} {Ap1 : Option Addr} {np1 cp1 : Nat} {wv : World} {r1 : Bool} {r2 : S77} {w : World} (h : impl_opener_flag_0.f a0 a1 = some (r1, r2)) (gp1 : k66.C wv Ap1 np1 a1.f2) (lp1 : np1 ≤ cp1) (hV : View A w wv) (HS : Hp A w w [.box p0 [.bool a0.f0] 77]) :
    Calls Tryz.prog 44 #[.pointer (some ⟨p0, 0, none⟩), .agg #[.int .i64 a1.f0, .string a1.f1, .slice Ap1 np1 cp1]] w (fun e w' => e = .returned (.bool r1) ∧ Hp A w w' [.box p0 [.bool r2.f0] 77]) := by
 obtain rfl := C_len gp1
 have H := Aside0.mk h
 clear h
 unfold impl_opener_flag_0.f at H
 go_enter Tryz.func44, Tryz.ntmps44
 have F := HS.boxes; simp only [bxn] at F
 replace H := zbind H; obtain ⟨t3, ht3, H⟩ := H
 obtain ⟨rfl, rfl⟩ := zsome2 H
 go_wp2_with (first | ((with_reducible refine gd 3 rfl ?_); refine ev_bx HS ?_; clear HS; intro g3 w3 HS F) | ((with_reducible refine gd 7 rfl ?_); refine HS.lend [0] (by decide) [.box p0 [.bool a0.f0] 77] rfl (fun A' HL HD HA HB => ?_); refine ev_lc (impl_opener_text_0.calls ht3.out gp1 lp1 (hV.lend HS HL) HA) (fun _ HQ => HB _ _ HQ (Nat.le_of_ble_eq_true rfl)) Tryz.func77 ?_; clear HS HA HB HL HD; intro wt3 HS F))
 go_ret
 exact ⟨rfl, HS.pick [0] (by decide) (by rfl)⟩
end Go.Proofs.YtfcpjeeeddjakaaGreat.F

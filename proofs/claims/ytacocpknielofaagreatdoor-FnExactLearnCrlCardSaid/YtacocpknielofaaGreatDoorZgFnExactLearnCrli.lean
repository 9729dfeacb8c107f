/- Functions of the program and of the law, and that their calls do what is written here. -/
import Derived.Test.YtacocpknielofaaGreatDoorZgFnExactLearnCrlg
import Derived.Test.YtacocpknielofaaGreatDoorZgFnExactLearnCrlh
namespace Go.Proofs.YtacocpknielofaaGreatDoor.F
open Go.RowKit YtacocpknielofaaGreatDoorW.PrintWords YtacocpknielofaaGreatDoorW.PrintLast YtacocpknielofaaGreatDoorW.PrintMore Z
attribute [local go_sem] max2_int min2_int max_two min_two max_three min_three max_four min_four
set_option linter.unusedVariables false
set_option linter.unusedSimpArgs false
set_option maxRecDepth 100000
set_option maxHeartbeats 16000000
def impl_boolItem.f (a0 : Bool) : Option (S182) := (if a0 = true then (some (⟨1, (⟨#[255]⟩ : ByteArray), ([] : List S182)⟩ : S182)) else (some (⟨1, (⟨#[0]⟩ : ByteArray), ([] : List S182)⟩ : S182)))
theorem impl_boolItem.calls {a0 : Bool} {r : S182} {w : World} (h : impl_boolItem.f a0 = some r) :
    Calls Tryz.prog 204 #[.bool a0] w (fun e w' => ∃ v0_ : Value, e = .returned (.agg #[.int .i64 r.f0, .string r.f1, v0_]) ∧ Hp noFP w w' [.own (Zd.slice 182 q182) r.f2 [v0_]]) := by
 have HS := Hp.start w
 have H := Aside0.mk h
 clear h
 unfold impl_boolItem.f at H
 go_enter Tryz.func204, Tryz.ntmps204
 go_upto_if 3 with ((with_reducible refine gd 2 rfl ?_); refine ev_bx HS ?_; clear HS; intro g2 w2 HS F)
 replace H := zifb H; rcases H with ⟨c3, H⟩ | ⟨c3, H⟩
 case inl =>
  subst c3
  (try simp only [dcn, dcu, dcf])
  obtain rfl := zsome H
  go_wp2_with ((with_reducible refine gate_store (p := 2) rfl ?_); refine ev_st 0 0 HS (seg := [.int .i64 1, .string (⟨#[255]⟩ : ByteArray), .slice none 0 0]) ?_; clear HS; intro w4 HS F)
  replace HS := HS.nil 182 q182
  exact bodyPost_ret (results_single rfl (.cell _ _ _ _ _ rfl (HS.boxAt (i := 0) rfl) Tryz.underlying182 rfl (by kernel_rfl) .nil)) rfl ⟨_, rfl, HS.pick [1] (by decide) (by rfl)⟩
 subst c3
 (try simp only [dcn, dcu, dcf])
 obtain rfl := zsome H
 go_wp2_with ((with_reducible refine gate_store (p := 2) rfl ?_); refine ev_st 0 0 HS (seg := [.int .i64 1, .string (⟨#[0]⟩ : ByteArray), .slice none 0 0]) ?_; clear HS; intro w6 HS F)
 replace HS := HS.nil 182 q182
 exact bodyPost_ret (results_single rfl (.cell _ _ _ _ _ rfl (HS.boxAt (i := 0) rfl) Tryz.underlying182 rfl (by kernel_rfl) .nil)) rfl ⟨_, rfl, HS.pick [1] (by decide) (by rfl)⟩
def impl_each_int_0.l0 : Nat → (List S182) → Int → (List Int) → Option (S182)
  | 0, _, _, _ => none
  | k + 1, l22, x24, a0 => (if x24 < (a0.length : Int) then (if 0 ≤ x24 then (if x24 < (a0.length : Int) then ((impl_IntItem.f k (rd a0 x24)).bind fun t3 => (if l22.length + 1 ≤ 2932031007402 then (lets (l22 ++ ([t3] : List S182)) fun y9 => (impl_each_int_0.l0 k y9 (wrap64 (x24 + 1)) a0)) else none)) else none) else none) else (some (⟨48, (⟨#[]⟩ : ByteArray), l22⟩ : S182)))
def impl_each_int_0.f (k : Nat) (a0 : (List Int)) : Option (S182) := (impl_each_int_0.l0 k [] 0 a0)
def impl_each_int_0.T5 : TT := (true, [([], []), ([0], [0]), ([], []), ([], []), ([2, 3], [2, 3]), ([4], [4]), ([1, 5, 4], [1, 5]), ([0, 1, 2, 3, 4, 5, 6], []), ([7, 6, 6, 0, 1, 2, 3, 4, 5, 6], [6, 7])])
theorem impl_each_int_0.tT5 : rtab .any (opsOf Tryz.f205 5) = impl_each_int_0.T5 := by kernel_rfl
theorem impl_each_int_0.calls {k : Nat} {a0 : (List Int)} {Ap0 : Option Addr} {np0 cp0 : Nat} {r : S182} {w : World} (h : impl_each_int_0.f k a0 = some r) (gp0 : (Kd.int .i64).C w Ap0 np0 a0) (lp0 : np0 ≤ cp0) :
    Calls Tryz.prog 205 #[.slice Ap0 np0 cp0, .func (.func 202) #[] #[]] w (fun e w' => ∃ v0_ : Value, e = .returned (.agg #[.int .i64 r.f0, .string r.f1, v0_]) ∧ Hp noFP w w' [.own (Zd.slice 182 q182) r.f2 [v0_]]) := by
 obtain rfl := C_len gp0
 have HS := Hp.start w
 have H := Aside0.mk h
 clear h
 unfold impl_each_int_0.f at H
 go_enter Tryz.func205, Tryz.ntmps205
 go_wp2_with (first | ((with_reducible refine gd 4 rfl ?_); refine ev_bx HS ?_; clear HS; intro g4 w4 HS F) | ((with_reducible refine gd 5 rfl ?_); refine ev_bx HS ?_; clear HS; intro g5 w5 HS F) | ((with_reducible refine gate_store (p := 5) rfl ?_); refine ev_st 1 0 HS (seg := [.int .i64 48, .string (⟨#[]⟩ : ByteArray), .slice none 0 0]) ?_; clear HS; intro w5 HS F))
 replace HS := HS.nil 182 q182
 go_loopg [11] k (fun kq v_11 w' => ∃ (l22 : List S182) (v23 : Value) (x24 : Int), v_11 = .int .i64 x24 ∧ Aside0 (impl_each_int_0.l0 kq l22 x24 a0 = some r) ∧ Aside0 (kq ≤ k) ∧ Hp noFP w w' [.box g4 [.int .i64 0, .string (⟨#[]⟩ : ByteArray), .slice none 0 0] 182, .box g5 [.int .i64 48, .string (⟨#[]⟩ : ByteArray), v23] 182, .own (Zd.slice 182 q182) l22 [v23]])
 case atStart => exact ⟨_, _, _, rfl, H, ⟨Nat.le_refl _⟩, HS⟩
 case round =>
  clear HS H; (try clear F)
  obtain ⟨l22, v23, x24, rfl, H, HKk21, HS⟩ := hrel
  obtain ⟨B23, d23, rfl, m23⟩ := HS.form 2 rfl
  have F := HS.boxes; simp only [bxn] at F
  cases gk with
  | zero => exact absurd H.out (by simp [impl_each_int_0.l0])
  | succ k21 =>
   simp only [impl_each_int_0.l0] at H
   replace H := znif H; rcases H with ⟨c26, H⟩ | ⟨c26, H⟩
   case inl =>
    obtain rfl := zsome H
    go_wp2_with ((with_reducible refine gate_store (p := 4) rfl ?_); refine ev_st 0 0 HS (seg := [.int .i64 48, .string (⟨#[]⟩ : ByteArray), .slice B23 l22.length d23]) ?_; clear HS; intro w33 HS F)
    exact bodyPost_ret (results_single rfl (.cell _ _ _ _ _ rfl (HS.boxAt (i := 0) rfl) Tryz.underlying182 rfl (by kernel_rfl) .nil)) rfl ⟨_, rfl, HS.pick [2] (by decide) (by rfl)⟩
   replace H := zgo H; obtain ⟨c27, H⟩ := H
   replace H := zgo H; obtain ⟨c28, H⟩ := H
   obtain ⟨ad29, rfl, e29_0⟩ := Kd.at_int gp0 x24 (of_eq_true c27) (of_eq_true c28)
   have e29_0_29 := HS.keepc e29_0
   (try go_wp2)
   replace H := zbind H; obtain ⟨t3, ht3, H⟩ := H
   replace H := zgo H; obtain ⟨c8, H⟩ := H
   replace H := zlets H; obtain ⟨y9, e_y9, H⟩ := H
   refine dr_start2 [.box g4 [.int .i64 0, .string (⟨#[]⟩ : ByteArray), .slice none 0 0] 182, .box g5 [.int .i64 48, .string (⟨#[]⟩ : ByteArray), .slice B23 l22.length d23] 182, .emp] [8] HS (HS.arr [some 0, some 1, none] (by decide)) #[false, false, false, false, false, false, false, false, false] (by kernel_rfl) rfl rfl impl_each_int_0.tT5 (fun w31 HT HS HH => ?_)
   (try clear F)
   refine drq_of [(0, some 15), (1, some 16), (2, some 17), (3, some 18)] ?_
   repeat (first | refine drp HT ?_ | refine drt HT HH ?_)
   refine drq_end ?_
   refine dr1 4 HT fun K hK => ?_
   refine if_wp (by rfl) ?_; refine wp_callv Tryz.func202 (by kernel_rfl) rfl #[.int .i64 (rd a0 x24)] #[.int .i64 (rd a0 x24)] rfl rfl (by simp only [mpn]; rfl) (by first | rfl | simp) ?_; refine (impl_IntItem.calls ht3.out).mono ?_; rintro _ wt3 ⟨v6, rfl, HQ⟩; refine ⟨_, rfl, ?_⟩; replace HS := HS.call HQ; clear HQ; (try clear F); obtain ⟨B6, d6, rfl, m6⟩ := HS.form 3 rfl
   (try simp only [hpn, hpm] at HS)
   have F := HS.boxes; simp only [bxn] at F
   refine hK.out _ _ ⟨[], HS.arr [some 0, some 1, none] (by decide)⟩ (fun HH => ?_)
   clear hK K
   refine norm_ (a' := ?_) ?_ ?_
   rotate_left
   · show Act.put _ (some 19) _ = _; simp only [Act.put, ptn]; rfl
   refine dr1 5 HT fun K hK => ?_
   refine if_li q182 [3] ([t3] : List S182) ([.int .i64 t3.f0, .string t3.f1, .slice B6 t3.f2.length d6] ++ []) HS (MadeL.cons (js1 := [3]) (c := [.int .i64 t3.f0, .string t3.f1, .slice B6 t3.f2.length d6]) rfl (fun S hd hh => q182_pack (x := t3) hd (hh 3 (.own (Zd.slice 182 q182) t3.f2 [.slice B6 t3.f2.length d6]) rfl) (by decide)) MadeL.nil (by decide)) ?_; clear HS; intro v7 w7 HS F; obtain ⟨B7, d7, rfl, m7⟩ := HS.formn 1 4 rfl rfl
   refine hK.out _ _ ⟨[], HS.arr [some 0, some 1, none] (by decide)⟩ (fun HH => ?_)
   clear hK K
   refine norm_ (a' := ?_) ?_ ?_
   rotate_left
   · show Act.put _ (some 20) _ = _; simp only [Act.put, ptn]; rfl
   refine dr1 6 HT fun K hK => ?_
   refine wp_ap q182 2 4 HS rfl rfl Tryz.underlying180 info182 (of_eq_true c8) ?_; clear HS; intro v9 w9 HS; rw [← e_y9.out] at HS; obtain ⟨B9, d9, rfl, m9⟩ := HS.form 5 rfl
   (try simp only [hpn, hpm] at HS)
   have F := HS.boxes; simp only [bxn] at F
   refine hK.out _ _ ⟨[], HS.arr [some 0, some 1, none] (by decide)⟩ (fun HH => ?_)
   clear hK K
   refine norm_ (a' := ?_) ?_ ?_
   rotate_left
   · show Act.put _ (some 21) _ = _; simp only [Act.put, ptn]; rfl
   refine drq_of [(7, some 22)] ?_
   repeat (refine drp HT ?_)
   refine drq_end ?_
   refine dr_last 8 HT rfl (by kernel_rfl) (by decide) (fun K hK => ?_)
   refine if_st 1 2 HS (seg := [.slice B9 y9.length d9]) ?_; clear HS; intro w10 HS F
   refine hK.out _ _ ?_
   clear hK K
   refine done_ (done_of HT.out (by kernel_rfl)) ?_
   (try clear F)
   have F := HS.boxes; simp only [bxn] at F
   go_wp2
   go_roundg k21
   case measure => have := HKk21.out; omega
   case rel => exact ⟨_, _, _, rfl, H, ⟨by have := HKk21.out; omega⟩, HS.pick [0, 1, 5] (by decide) (by rfl)⟩
def impl_each_string_0.l0 : Nat → (List S182) → Int → (List ByteArray) → Option (S182)
  | 0, _, _, _ => none
  | k + 1, l22, x24, a0 => (if x24 < (a0.length : Int) then (if 0 ≤ x24 then (if x24 < (a0.length : Int) then ((impl_TextItem.f (rdOf ByteArray.empty a0 x24)).bind fun t3 => (if l22.length + 1 ≤ 2932031007402 then (lets (l22 ++ ([t3] : List S182)) fun y9 => (impl_each_string_0.l0 k y9 (wrap64 (x24 + 1)) a0)) else none)) else none) else none) else (some (⟨48, (⟨#[]⟩ : ByteArray), l22⟩ : S182)))
def impl_each_string_0.f (k : Nat) (a0 : (List ByteArray)) : Option (S182) := (impl_each_string_0.l0 k [] 0 a0)
def impl_each_string_0.T5 : TT := (true, [([], []), ([0], [0]), ([], []), ([], []), ([2, 3], [2, 3]), ([4], [4]), ([1, 5, 4], [1, 5]), ([0, 1, 2, 3, 4, 5, 6], []), ([7, 6, 6, 0, 1, 2, 3, 4, 5, 6], [6, 7])])
theorem impl_each_string_0.tT5 : rtab .any (opsOf Tryz.f206 5) = impl_each_string_0.T5 := by kernel_rfl
theorem impl_each_string_0.calls {k : Nat} {a0 : (List ByteArray)} {Ap0 : Option Addr} {np0 cp0 : Nat} {r : S182} {w : World} (h : impl_each_string_0.f k a0 = some r) (gp0 : Kd.string.C w Ap0 np0 a0) (lp0 : np0 ≤ cp0) :
    Calls Tryz.prog 206 #[.slice Ap0 np0 cp0, .func (.func 203) #[] #[]] w (fun e w' => ∃ v0_ : Value, e = .returned (.agg #[.int .i64 r.f0, .string r.f1, v0_]) ∧ Hp noFP w w' [.own (Zd.slice 182 q182) r.f2 [v0_]]) := by
 obtain rfl := C_len gp0
 have HS := Hp.start w
 have H := Aside0.mk h
 clear h
 unfold impl_each_string_0.f at H
 go_enter Tryz.func206, Tryz.ntmps206
 go_wp2_with (first | ((with_reducible refine gd 4 rfl ?_); refine ev_bx HS ?_; clear HS; intro g4 w4 HS F) | ((with_reducible refine gd 5 rfl ?_); refine ev_bx HS ?_; clear HS; intro g5 w5 HS F) | ((with_reducible refine gate_store (p := 5) rfl ?_); refine ev_st 1 0 HS (seg := [.int .i64 48, .string (⟨#[]⟩ : ByteArray), .slice none 0 0]) ?_; clear HS; intro w5 HS F))
 replace HS := HS.nil 182 q182
 go_loopg [11] k (fun kq v_11 w' => ∃ (l22 : List S182) (v23 : Value) (x24 : Int), v_11 = .int .i64 x24 ∧ Aside0 (impl_each_string_0.l0 kq l22 x24 a0 = some r) ∧ Aside0 (kq ≤ k) ∧ Hp noFP w w' [.box g4 [.int .i64 0, .string (⟨#[]⟩ : ByteArray), .slice none 0 0] 182, .box g5 [.int .i64 48, .string (⟨#[]⟩ : ByteArray), v23] 182, .own (Zd.slice 182 q182) l22 [v23]])
 case atStart => exact ⟨_, _, _, rfl, H, ⟨Nat.le_refl _⟩, HS⟩
 case round =>
  clear HS H; (try clear F)
  obtain ⟨l22, v23, x24, rfl, H, HKk21, HS⟩ := hrel
  obtain ⟨B23, d23, rfl, m23⟩ := HS.form 2 rfl
  have F := HS.boxes; simp only [bxn] at F
  cases gk with
  | zero => exact absurd H.out (by simp [impl_each_string_0.l0])
  | succ k21 =>
   simp only [impl_each_string_0.l0] at H
   replace H := znif H; rcases H with ⟨c26, H⟩ | ⟨c26, H⟩
   case inl =>
    obtain rfl := zsome H
    go_wp2_with ((with_reducible refine gate_store (p := 4) rfl ?_); refine ev_st 0 0 HS (seg := [.int .i64 48, .string (⟨#[]⟩ : ByteArray), .slice B23 l22.length d23]) ?_; clear HS; intro w33 HS F)
    exact bodyPost_ret (results_single rfl (.cell _ _ _ _ _ rfl (HS.boxAt (i := 0) rfl) Tryz.underlying182 rfl (by kernel_rfl) .nil)) rfl ⟨_, rfl, HS.pick [2] (by decide) (by rfl)⟩
   replace H := zgo H; obtain ⟨c27, H⟩ := H
   replace H := zgo H; obtain ⟨c28, H⟩ := H
   obtain ⟨ad29, rfl, e29_0⟩ := Kd.at_string gp0 x24 (of_eq_true c27) (of_eq_true c28)
   have e29_0_29 := HS.keepc e29_0
   (try go_wp2)
   replace H := zbind H; obtain ⟨t3, ht3, H⟩ := H
   replace H := zgo H; obtain ⟨c8, H⟩ := H
   replace H := zlets H; obtain ⟨y9, e_y9, H⟩ := H
   refine dr_start2 [.box g4 [.int .i64 0, .string (⟨#[]⟩ : ByteArray), .slice none 0 0] 182, .box g5 [.int .i64 48, .string (⟨#[]⟩ : ByteArray), .slice B23 l22.length d23] 182, .emp] [8] HS (HS.arr [some 0, some 1, none] (by decide)) #[false, false, false, false, false, false, false, false, false] (by kernel_rfl) rfl rfl impl_each_string_0.tT5 (fun w31 HT HS HH => ?_)
   (try clear F)
   refine drq_of [(0, some 15), (1, some 16), (2, some 17), (3, some 18)] ?_
   repeat (first | refine drp HT ?_ | refine drt HT HH ?_)
   refine drq_end ?_
   refine dr1 4 HT fun K hK => ?_
   refine if_wp (by rfl) ?_; refine wp_callv Tryz.func203 (by kernel_rfl) rfl #[.string (rdOf ByteArray.empty a0 x24)] #[.string (rdOf ByteArray.empty a0 x24)] rfl rfl (by simp only [mpn]; rfl) (by first | rfl | simp) ?_; refine (impl_TextItem.calls ht3.out).mono ?_; rintro _ wt3 ⟨v6, rfl, HQ⟩; refine ⟨_, rfl, ?_⟩; replace HS := HS.call HQ; clear HQ; (try clear F); obtain ⟨B6, d6, rfl, m6⟩ := HS.form 3 rfl
   (try simp only [hpn, hpm] at HS)
   have F := HS.boxes; simp only [bxn] at F
   refine hK.out _ _ ⟨[], HS.arr [some 0, some 1, none] (by decide)⟩ (fun HH => ?_)
   clear hK K
   refine norm_ (a' := ?_) ?_ ?_
   rotate_left
   · show Act.put _ (some 19) _ = _; simp only [Act.put, ptn]; rfl
   refine dr1 5 HT fun K hK => ?_
   refine if_li q182 [3] ([t3] : List S182) ([.int .i64 t3.f0, .string t3.f1, .slice B6 t3.f2.length d6] ++ []) HS (MadeL.cons (js1 := [3]) (c := [.int .i64 t3.f0, .string t3.f1, .slice B6 t3.f2.length d6]) rfl (fun S hd hh => q182_pack (x := t3) hd (hh 3 (.own (Zd.slice 182 q182) t3.f2 [.slice B6 t3.f2.length d6]) rfl) (by decide)) MadeL.nil (by decide)) ?_; clear HS; intro v7 w7 HS F; obtain ⟨B7, d7, rfl, m7⟩ := HS.formn 1 4 rfl rfl
   refine hK.out _ _ ⟨[], HS.arr [some 0, some 1, none] (by decide)⟩ (fun HH => ?_)
   clear hK K
   refine norm_ (a' := ?_) ?_ ?_
   rotate_left
   · show Act.put _ (some 20) _ = _; simp only [Act.put, ptn]; rfl
   refine dr1 6 HT fun K hK => ?_
   refine wp_ap q182 2 4 HS rfl rfl Tryz.underlying180 info182 (of_eq_true c8) ?_; clear HS; intro v9 w9 HS; rw [← e_y9.out] at HS; obtain ⟨B9, d9, rfl, m9⟩ := HS.form 5 rfl
   (try simp only [hpn, hpm] at HS)
   have F := HS.boxes; simp only [bxn] at F
   refine hK.out _ _ ⟨[], HS.arr [some 0, some 1, none] (by decide)⟩ (fun HH => ?_)
   clear hK K
   refine norm_ (a' := ?_) ?_ ?_
   rotate_left
   · show Act.put _ (some 21) _ = _; simp only [Act.put, ptn]; rfl
   refine drq_of [(7, some 22)] ?_
   repeat (refine drp HT ?_)
   refine drq_end ?_
   refine dr_last 8 HT rfl (by kernel_rfl) (by decide) (fun K hK => ?_)
   refine if_st 1 2 HS (seg := [.slice B9 y9.length d9]) ?_; clear HS; intro w10 HS F
   refine hK.out _ _ ?_
   clear hK K
   refine done_ (done_of HT.out (by kernel_rfl)) ?_
   (try clear F)
   have F := HS.boxes; simp only [bxn] at F
   go_wp2
   go_roundg k21
   case measure => have := HKk21.out; omega
   case rel => exact ⟨_, _, _, rfl, H, ⟨by have := HKk21.out; omega⟩, HS.pick [0, 1, 5] (by decide) (by rfl)⟩
def impl_BodyItem.f (k : Nat) (a0 : S91) : Option (S182) := ((impl_IntItem.f k a0.f3).bind fun t13 => ((impl_IntItem.f k a0.f4).bind fun t15 => ((impl_ListItem.f k ([t13, t15] : List S182)).bind fun t18 => ((impl_IntItem.f k a0.f0).bind fun t22 => ((impl_TextItem.f a0.f1).bind fun t24 => ((impl_TextItem.f a0.f2).bind fun t26 => ((impl_bytesItem.f a0.f5).bind fun t28 => ((impl_boolItem.f a0.f6).bind fun t30 => ((impl_IntItem.f k a0.f7).bind fun t32 => ((impl_IntItem.f k a0.f8).bind fun t34 => ((impl_each_int_0.f k a0.f9).bind fun t36 => ((impl_each_string_0.f k a0.f10).bind fun t38 => ((impl_each_string_0.f k a0.f11).bind fun t40 => ((impl_ListItem.f k ([t22, t24, t18, t26, t28, t30, t32, t34, t36, t38, t40] : List S182)).bind fun t43 => (some (⟨t43.f0, t43.f1, t43.f2⟩ : S182))))))))))))))))
def impl_BodyItem.T1 : TT := (true, [([], []), ([0], [0]), ([1], [1]), ([], []), ([3], [3]), ([4, 2], [4]), ([2, 5], [2, 5]), ([6, 5], [6]), ([], []), ([8, 7, 7, 0, 1, 2, 3, 4, 5, 6, 7, 8], [7, 8])])
theorem impl_BodyItem.tT1 : rtab .any (opsOf Tryz.f146 1) = impl_BodyItem.T1 := by kernel_rfl
def impl_BodyItem.T2 : TT := (true, [([], []), ([0], [0]), ([1], [1]), ([], []), ([3], [3]), ([4, 2], [4]), ([], []), ([], []), ([7], [7]), ([8, 5], [8]), ([], []), ([10], [10]), ([11, 9], [11]), ([], []), ([13], [13]), ([14, 12], [14]), ([], []), ([16], [16]), ([17, 15], [17]), ([], []), ([19], [19]), ([20, 18], [20]), ([], []), ([22], [22]), ([23, 21], [23]), ([], []), ([25], [25]), ([26, 24], [26]), ([], []), ([28], [28]), ([29, 27], [29]), ([2, 5, 6, 9, 12, 15, 18, 21, 24, 27, 30], [2, 5, 6, 9, 12, 15, 18, 21, 24, 27, 30]), ([31, 30], [31]), ([32, 32, 0, 1, 2, 3, 4, 5, 6, 7, 8, 9, 10, 11, 12, 13, 14, 15, 16, 17, 18, 19, 20, 21, 22, 23, 24, 25, 26, 27, 28, 29, 30, 31, 32], [32])])
theorem impl_BodyItem.tT2 : rtab .any (opsOf Tryz.f146 2) = impl_BodyItem.T2 := by kernel_rfl
theorem impl_BodyItem.calls {k : Nat} {a0 : S91} {Ap0 Ap1 Ap2 : Option Addr} {np0 cp0 np1 cp1 np2 cp2 : Nat} {r : S182} {w : World} (h : impl_BodyItem.f k a0 = some r) (gp0 : (Kd.int .i64).C w Ap0 np0 a0.f9) (lp0 : np0 ≤ cp0) (gp1 : Kd.string.C w Ap1 np1 a0.f10) (lp1 : np1 ≤ cp1) (gp2 : Kd.string.C w Ap2 np2 a0.f11) (lp2 : np2 ≤ cp2) :
    Calls Tryz.prog 146 #[.agg #[.int .i64 a0.f0, .string a0.f1, .string a0.f2, .int .i64 a0.f3, .int .i64 a0.f4, .string a0.f5, .bool a0.f6, .int .i64 a0.f7, .int .i64 a0.f8, .slice Ap0 np0 cp0, .slice Ap1 np1 cp1, .slice Ap2 np2 cp2, .string a0.f12]] w (fun e w' => ∃ v0_ : Value, e = .returned (.agg #[.int .i64 r.f0, .string r.f1, v0_]) ∧ Hp noFP w w' [.own (Zd.slice 182 q182) r.f2 [v0_]]) := by
 obtain rfl := C_len gp0
 obtain rfl := C_len gp1
 obtain rfl := C_len gp2
 have HS := Hp.start w
 have H := Aside0.mk h
 clear h
 unfold impl_BodyItem.f at H
 go_enter Tryz.func146, Tryz.ntmps146
 go_wp2_with (first | ((with_reducible refine gd 1 rfl ?_); refine ev_bx HS ?_; clear HS; intro g1 w1 HS F) | ((with_reducible refine gd 2 rfl ?_); refine ev_bx HS ?_; clear HS; intro g2 w2 HS F))
 replace H := zbind H; obtain ⟨t13, ht13, H⟩ := H
 replace H := zbind H; obtain ⟨t15, ht15, H⟩ := H
 replace H := zbind H; obtain ⟨t18, ht18, H⟩ := H
 refine dr_start [9] HS #[false, false, false, false, false, false, false, false, false, false] (by kernel_rfl) rfl rfl impl_BodyItem.tT1 (fun w6 HT HS HH => ?_)
 (try clear F)
 refine join_ 0 #[true, true, true, true, true, true, true, true, true, true] (fun ((v14, v16, v17, v19, g3) : Value × Value × Value × Value × Nat) => ([(4, .pointer (some ⟨g1, 3, none⟩)), (5, .int .i64 a0.f3), (6, .agg #[.int .i64 t13.f0, .string t13.f1, v14]), (7, .pointer (some ⟨g1, 4, none⟩)), (8, .int .i64 a0.f4), (9, .agg #[.int .i64 t15.f0, .string t15.f1, v16]), (10, v17), (11, .agg #[.int .i64 t18.f0, .string t18.f1, v19]), (3, .pointer (some ⟨g3, 0, none⟩))] : List (Tmp × Value))) (fun ((v14, v16, v17, v19, g3) : Value × Value × Value × Value × Nat) w' => Hp noFP w w' [.box g1 [.int .i64 a0.f0, .string a0.f1, .string a0.f2, .int .i64 a0.f3, .int .i64 a0.f4, .string a0.f5, .bool a0.f6, .int .i64 a0.f7, .int .i64 a0.f8, .slice Ap0 a0.f9.length cp0, .slice Ap1 a0.f10.length cp1, .slice Ap2 a0.f11.length cp2, .string a0.f12] 91, .box g2 [.int .i64 0, .string (⟨#[]⟩ : ByteArray), .slice none 0 0] 182, .emp, .emp, .own (Zd.slice 182 q182) ([t13, t15] : List S182) [v17], .own (Zd.slice 182 q182) t18.f2 [v19], .box g3 [.int .i64 t18.f0, .string t18.f1, v19] 182]) ?_ ?_
 rotate_left
 · intro hJ
   refine drq_of [(0, some 4), (1, some 5), (3, some 7), (4, some 8)] ?_
   repeat (first | refine drp HT ?_ | refine drt HT HH ?_)
   refine drq_end ?_
   refine dr_any [2, 8] HT (by kernel_rfl) (by decide) (AllReadyL.cons rfl (by decide) (fun K hK => ?_) (AllReadyL.cons rfl (by decide) (fun K hK => ?_) AllReadyL.nil))
   · refine go_cl1 HS (impl_IntItem.calls ht13.out) Tryz.func202 ?_; clear HS; intro v14 wt13 HS F; obtain ⟨B14, d14, rfl, m14⟩ := HS.form 2 rfl
     refine nrm 6 hK ⟨_, HS⟩ (fun HH => ?_); clear hK K
     refine dr_any [5, 8] HT (by kernel_rfl) (by decide) (AllReadyL.cons rfl (by decide) (fun K hK => ?_) (AllReadyL.cons rfl (by decide) (fun K hK => ?_) AllReadyL.nil))
     · refine go_cl1 HS (impl_IntItem.calls ht15.out) Tryz.func202 ?_; clear HS; intro v16 wt15 HS F; obtain ⟨B16, d16, rfl, m16⟩ := HS.form 3 rfl
       refine nrm 9 hK ⟨_, HS⟩ (fun HH => ?_); clear hK K
       refine dr_any [6, 8] HT (by kernel_rfl) (by decide) (AllReadyL.cons rfl (by decide) (fun K hK => ?_) (AllReadyL.cons rfl (by decide) (fun K hK => ?_) AllReadyL.nil))
       · refine if_li q182 [2, 3] ([t13, t15] : List S182) ([.int .i64 t13.f0, .string t13.f1, .slice B14 t13.f2.length d14] ++ ([.int .i64 t15.f0, .string t15.f1, .slice B16 t15.f2.length d16] ++ [])) HS (MadeL.cons (js1 := [2]) (c := [.int .i64 t13.f0, .string t13.f1, .slice B14 t13.f2.length d14]) rfl (fun S hd hh => q182_pack (x := t13) hd (hh 2 (.own (Zd.slice 182 q182) t13.f2 [.slice B14 t13.f2.length d14]) rfl) (by decide)) (MadeL.cons (js1 := [3]) (c := [.int .i64 t15.f0, .string t15.f1, .slice B16 t15.f2.length d16]) rfl (fun S hd hh => q182_pack (x := t15) hd (hh 3 (.own (Zd.slice 182 q182) t15.f2 [.slice B16 t15.f2.length d16]) rfl) (by decide)) MadeL.nil (by decide)) (by decide)) ?_; clear HS; intro v17 w17 HS F; obtain ⟨B17, d17, rfl, m17⟩ := HS.formn 2 4 rfl rfl
         refine nrm 10 hK ⟨_, HS⟩ (fun HH => ?_); clear hK K
         refine dr_any [7, 8] HT (by kernel_rfl) (by decide) (AllReadyL.cons rfl (by decide) (fun K hK => ?_) (AllReadyL.cons rfl (by decide) (fun K hK => ?_) AllReadyL.nil))
         · refine go_cl1 HS (impl_ListItem.calls ht18.out (HS.rd 4 rfl) m17) Tryz.func145 ?_; clear HS; intro v19 wt18 HS F; obtain ⟨B19, d19, rfl, m19⟩ := HS.form 5 rfl
           refine nrm 11 hK ⟨_, HS⟩ (fun HH => ?_); clear hK K
           refine dr1 8 HT fun K hK => ?_
           refine if_bx HS ?_; clear HS; intro g3 w3 HS F
           refine nrm 3 hK ⟨_, HS⟩ (fun HH => ?_); clear hK K
           refine dr_last 9 HT rfl (by kernel_rfl) (by decide) (fun K hK => ?_)
           refine if_st 6 0 HS (seg := [.int .i64 t18.f0, .string t18.f1, .slice B19 t18.f2.length d19]) ?_; clear HS; intro w20 HS F
           refine hK.out _ _ ?_
           clear hK K
           refine norm_ ?_ (hJ (.slice B14 t13.f2.length d14, .slice B16 t15.f2.length d16, .slice B17 2 d17, .slice B19 t18.f2.length d19, g3) _ (HS.arr [some 0, some 1, none, none, some 4, some 5, some 6] (by decide)))
           simp only [putAll, Act.put, ptn]
           (try rfl)
         · refine if_bx HS ?_; clear HS; intro g3 w3 HS F
           refine nrm 3 hK ⟨_, HS⟩ (fun HH => ?_); clear hK K
           refine dr1 7 HT fun K hK => ?_
           refine go_cl1 HS (impl_ListItem.calls ht18.out (HS.rd 4 rfl) m17) Tryz.func145 ?_; clear HS; intro v19 wt18 HS F; obtain ⟨B19, d19, rfl, m19⟩ := HS.form 6 rfl
           refine nrm 11 hK ⟨_, HS⟩ (fun HH => ?_); clear hK K
           refine dr_last 9 HT rfl (by kernel_rfl) (by decide) (fun K hK => ?_)
           refine if_st 5 0 HS (seg := [.int .i64 t18.f0, .string t18.f1, .slice B19 t18.f2.length d19]) ?_; clear HS; intro w20 HS F
           refine hK.out _ _ ?_
           clear hK K
           refine norm_ ?_ (hJ (.slice B14 t13.f2.length d14, .slice B16 t15.f2.length d16, .slice B17 2 d17, .slice B19 t18.f2.length d19, g3) _ (HS.arr [some 0, some 1, none, none, some 4, some 6, some 5] (by decide)))
           simp only [putAll, Act.put, ptn]
           (try rfl)
       · refine if_bx HS ?_; clear HS; intro g3 w3 HS F
         refine nrm 3 hK ⟨_, HS⟩ (fun HH => ?_); clear hK K
         refine dr1 6 HT fun K hK => ?_
         refine if_li q182 [2, 3] ([t13, t15] : List S182) ([.int .i64 t13.f0, .string t13.f1, .slice B14 t13.f2.length d14] ++ ([.int .i64 t15.f0, .string t15.f1, .slice B16 t15.f2.length d16] ++ [])) HS (MadeL.cons (js1 := [2]) (c := [.int .i64 t13.f0, .string t13.f1, .slice B14 t13.f2.length d14]) rfl (fun S hd hh => q182_pack (x := t13) hd (hh 2 (.own (Zd.slice 182 q182) t13.f2 [.slice B14 t13.f2.length d14]) rfl) (by decide)) (MadeL.cons (js1 := [3]) (c := [.int .i64 t15.f0, .string t15.f1, .slice B16 t15.f2.length d16]) rfl (fun S hd hh => q182_pack (x := t15) hd (hh 3 (.own (Zd.slice 182 q182) t15.f2 [.slice B16 t15.f2.length d16]) rfl) (by decide)) MadeL.nil (by decide)) (by decide)) ?_; clear HS; intro v17 w17 HS F; obtain ⟨B17, d17, rfl, m17⟩ := HS.formn 2 5 rfl rfl
         refine nrm 10 hK ⟨_, HS⟩ (fun HH => ?_); clear hK K
         refine dr1 7 HT fun K hK => ?_
         refine go_cl1 HS (impl_ListItem.calls ht18.out (HS.rd 5 rfl) m17) Tryz.func145 ?_; clear HS; intro v19 wt18 HS F; obtain ⟨B19, d19, rfl, m19⟩ := HS.form 6 rfl
         refine nrm 11 hK ⟨_, HS⟩ (fun HH => ?_); clear hK K
         refine dr_last 9 HT rfl (by kernel_rfl) (by decide) (fun K hK => ?_)
         refine if_st 4 0 HS (seg := [.int .i64 t18.f0, .string t18.f1, .slice B19 t18.f2.length d19]) ?_; clear HS; intro w20 HS F
         refine hK.out _ _ ?_
         clear hK K
         refine norm_ ?_ (hJ (.slice B14 t13.f2.length d14, .slice B16 t15.f2.length d16, .slice B17 2 d17, .slice B19 t18.f2.length d19, g3) _ (HS.arr [some 0, some 1, none, none, some 5, some 6, some 4] (by decide)))
         simp only [putAll, Act.put, ptn]
         (try rfl)
     · refine if_bx HS ?_; clear HS; intro g3 w3 HS F
       refine nrm 3 hK ⟨_, HS⟩ (fun HH => ?_); clear hK K
       refine dr1 5 HT fun K hK => ?_
       refine go_cl1 HS (impl_IntItem.calls ht15.out) Tryz.func202 ?_; clear HS; intro v16 wt15 HS F; obtain ⟨B16, d16, rfl, m16⟩ := HS.form 4 rfl
       refine nrm 9 hK ⟨_, HS⟩ (fun HH => ?_); clear hK K
       refine dr1 6 HT fun K hK => ?_
       refine if_li q182 [2, 4] ([t13, t15] : List S182) ([.int .i64 t13.f0, .string t13.f1, .slice B14 t13.f2.length d14] ++ ([.int .i64 t15.f0, .string t15.f1, .slice B16 t15.f2.length d16] ++ [])) HS (MadeL.cons (js1 := [2]) (c := [.int .i64 t13.f0, .string t13.f1, .slice B14 t13.f2.length d14]) rfl (fun S hd hh => q182_pack (x := t13) hd (hh 2 (.own (Zd.slice 182 q182) t13.f2 [.slice B14 t13.f2.length d14]) rfl) (by decide)) (MadeL.cons (js1 := [4]) (c := [.int .i64 t15.f0, .string t15.f1, .slice B16 t15.f2.length d16]) rfl (fun S hd hh => q182_pack (x := t15) hd (hh 4 (.own (Zd.slice 182 q182) t15.f2 [.slice B16 t15.f2.length d16]) rfl) (by decide)) MadeL.nil (by decide)) (by decide)) ?_; clear HS; intro v17 w17 HS F; obtain ⟨B17, d17, rfl, m17⟩ := HS.formn 2 5 rfl rfl
       refine nrm 10 hK ⟨_, HS⟩ (fun HH => ?_); clear hK K
       refine dr1 7 HT fun K hK => ?_
       refine go_cl1 HS (impl_ListItem.calls ht18.out (HS.rd 5 rfl) m17) Tryz.func145 ?_; clear HS; intro v19 wt18 HS F; obtain ⟨B19, d19, rfl, m19⟩ := HS.form 6 rfl
       refine nrm 11 hK ⟨_, HS⟩ (fun HH => ?_); clear hK K
       refine dr_last 9 HT rfl (by kernel_rfl) (by decide) (fun K hK => ?_)
       refine if_st 3 0 HS (seg := [.int .i64 t18.f0, .string t18.f1, .slice B19 t18.f2.length d19]) ?_; clear HS; intro w20 HS F
       refine hK.out _ _ ?_
       clear hK K
       refine norm_ ?_ (hJ (.slice B14 t13.f2.length d14, .slice B16 t15.f2.length d16, .slice B17 2 d17, .slice B19 t18.f2.length d19, g3) _ (HS.arr [some 0, some 1, none, none, some 5, some 6, some 3] (by decide)))
       simp only [putAll, Act.put, ptn]
       (try rfl)
   · refine if_bx HS ?_; clear HS; intro g3 w3 HS F
     refine nrm 3 hK ⟨_, HS⟩ (fun HH => ?_); clear hK K
     refine dr1 2 HT fun K hK => ?_
     refine go_cl1 HS (impl_IntItem.calls ht13.out) Tryz.func202 ?_; clear HS; intro v14 wt13 HS F; obtain ⟨B14, d14, rfl, m14⟩ := HS.form 3 rfl
     refine nrm 6 hK ⟨_, HS⟩ (fun HH => ?_); clear hK K
     refine dr1 5 HT fun K hK => ?_
     refine go_cl1 HS (impl_IntItem.calls ht15.out) Tryz.func202 ?_; clear HS; intro v16 wt15 HS F; obtain ⟨B16, d16, rfl, m16⟩ := HS.form 4 rfl
     refine nrm 9 hK ⟨_, HS⟩ (fun HH => ?_); clear hK K
     refine dr1 6 HT fun K hK => ?_
     refine if_li q182 [3, 4] ([t13, t15] : List S182) ([.int .i64 t13.f0, .string t13.f1, .slice B14 t13.f2.length d14] ++ ([.int .i64 t15.f0, .string t15.f1, .slice B16 t15.f2.length d16] ++ [])) HS (MadeL.cons (js1 := [3]) (c := [.int .i64 t13.f0, .string t13.f1, .slice B14 t13.f2.length d14]) rfl (fun S hd hh => q182_pack (x := t13) hd (hh 3 (.own (Zd.slice 182 q182) t13.f2 [.slice B14 t13.f2.length d14]) rfl) (by decide)) (MadeL.cons (js1 := [4]) (c := [.int .i64 t15.f0, .string t15.f1, .slice B16 t15.f2.length d16]) rfl (fun S hd hh => q182_pack (x := t15) hd (hh 4 (.own (Zd.slice 182 q182) t15.f2 [.slice B16 t15.f2.length d16]) rfl) (by decide)) MadeL.nil (by decide)) (by decide)) ?_; clear HS; intro v17 w17 HS F; obtain ⟨B17, d17, rfl, m17⟩ := HS.formn 2 5 rfl rfl
     refine nrm 10 hK ⟨_, HS⟩ (fun HH => ?_); clear hK K
     refine dr1 7 HT fun K hK => ?_
     refine go_cl1 HS (impl_ListItem.calls ht18.out (HS.rd 5 rfl) m17) Tryz.func145 ?_; clear HS; intro v19 wt18 HS F; obtain ⟨B19, d19, rfl, m19⟩ := HS.form 6 rfl
     refine nrm 11 hK ⟨_, HS⟩ (fun HH => ?_); clear hK K
     refine dr_last 9 HT rfl (by kernel_rfl) (by decide) (fun K hK => ?_)
     refine if_st 2 0 HS (seg := [.int .i64 t18.f0, .string t18.f1, .slice B19 t18.f2.length d19]) ?_; clear HS; intro w20 HS F
     refine hK.out _ _ ?_
     clear hK K
     refine norm_ ?_ (hJ (.slice B14 t13.f2.length d14, .slice B16 t15.f2.length d16, .slice B17 2 d17, .slice B19 t18.f2.length d19, g3) _ (HS.arr [some 0, some 1, none, none, some 5, some 6, some 2] (by decide)))
     simp only [putAll, Act.put, ptn]
     (try rfl)
 rintro ⟨v14, v16, v17, v19, g3⟩ w21 HS
 obtain ⟨B17, d17, rfl, m17⟩ := HS.formn 2 4 rfl (by first | rfl | simp)
 obtain ⟨B19, d19, rfl, m19⟩ := HS.form 5 rfl
 have F := HS.boxes; simp only [bxn] at F
 refine norm_ (a' := ?_) ?_ ?_
 rotate_left
 · simp only [putAll, Act.put, ptn]; rfl
 refine done_ (done_of HT.out (by kernel_rfl)) ?_
 (try go_wp2)
 replace H := zbind H; obtain ⟨t22, ht22, H⟩ := H
 replace H := zbind H; obtain ⟨t24, ht24, H⟩ := H
 replace H := zbind H; obtain ⟨t26, ht26, H⟩ := H
 replace H := zbind H; obtain ⟨t28, ht28, H⟩ := H
 replace H := zbind H; obtain ⟨t30, ht30, H⟩ := H
 replace H := zbind H; obtain ⟨t32, ht32, H⟩ := H
 replace H := zbind H; obtain ⟨t34, ht34, H⟩ := H
 replace H := zbind H; obtain ⟨t36, ht36, H⟩ := H
 replace H := zbind H; obtain ⟨t38, ht38, H⟩ := H
 replace H := zbind H; obtain ⟨t40, ht40, H⟩ := H
 replace H := zbind H; obtain ⟨t43, ht43, H⟩ := H
 refine dr_start2 [.box g1 [.int .i64 a0.f0, .string a0.f1, .string a0.f2, .int .i64 a0.f3, .int .i64 a0.f4, .string a0.f5, .bool a0.f6, .int .i64 a0.f7, .int .i64 a0.f8, .slice Ap0 a0.f9.length cp0, .slice Ap1 a0.f10.length cp1, .slice Ap2 a0.f11.length cp2, .string a0.f12] 91, .box g2 [.int .i64 0, .string (⟨#[]⟩ : ByteArray), .slice none 0 0] 182, .emp, .emp, .own (Zd.slice 182 q182) ([t13, t15] : List S182) [.slice B17 2 d17], .emp, .box g3 [.int .i64 t18.f0, .string t18.f1, .slice B19 t18.f2.length d19] 182] [33] HS (HS.arr [some 0, some 1, none, none, some 4, none, some 6] (by decide)) #[false, false, false, false, false, false, false, false, false, false, false, false, false, false, false, false, false, false, false, false, false, false, false, false, false, false, false, false, false, false, false, false, false, false] (by kernel_rfl) rfl rfl impl_BodyItem.tT2 (fun w9 HT HS HH => ?_)
 (try clear F)
 refine drq_of [(0, some 12), (1, some 13), (3, some 15), (4, some 16), (6, some 18), (7, some 19), (8, some 20), (10, some 22), (11, some 23), (13, some 25), (14, some 26), (16, some 28), (17, some 29), (19, some 31), (20, some 32), (22, some 34), (23, some 35), (25, some 37), (26, some 38), (28, some 40), (29, some 41)] ?_
 repeat (first | refine drp HT ?_ | refine drt HT HH ?_)
 refine drq_end ?_
 refine dr1 2 HT fun K hK => ?_
 refine go_cl1 HS (impl_IntItem.calls ht22.out) Tryz.func202 ?_; clear HS; intro v23 wt22 HS F; obtain ⟨B23, d23, rfl, m23⟩ := HS.form 7 rfl
 refine hK.out _ _ ⟨[], HS.arr [some 0, some 1, none, none, some 4, none, some 6] (by decide)⟩ (fun HH => ?_)
 clear hK K
 refine norm_ (a' := ?_) ?_ ?_
 rotate_left
 · show Act.put _ (some 14) _ = _; simp only [Act.put, ptn]; rfl
 refine dr1 5 HT fun K hK => ?_
 refine go_cl1 HS (impl_TextItem.calls ht24.out) Tryz.func203 ?_; clear HS; intro v25 wt24 HS F; obtain ⟨B25, d25, rfl, m25⟩ := HS.form 8 rfl
 refine hK.out _ _ ⟨[], HS.arr [some 0, some 1, none, none, some 4, none, some 6] (by decide)⟩ (fun HH => ?_)
 clear hK K
 refine norm_ (a' := ?_) ?_ ?_
 rotate_left
 · show Act.put _ (some 17) _ = _; simp only [Act.put, ptn]; rfl
 refine dr1 9 HT fun K hK => ?_
 refine go_cl1 HS (impl_TextItem.calls ht26.out) Tryz.func203 ?_; clear HS; intro v27 wt26 HS F; obtain ⟨B27, d27, rfl, m27⟩ := HS.form 9 rfl
 refine hK.out _ _ ⟨[], HS.arr [some 0, some 1, none, none, some 4, none, some 6] (by decide)⟩ (fun HH => ?_)
 clear hK K
 refine norm_ (a' := ?_) ?_ ?_
 rotate_left
 · show Act.put _ (some 21) _ = _; simp only [Act.put, ptn]; rfl
 refine dr1 12 HT fun K hK => ?_
 refine go_cl1 HS (impl_bytesItem.calls ht28.out) Tryz.func147 ?_; clear HS; intro v29 wt28 HS F; obtain ⟨B29, d29, rfl, m29⟩ := HS.form 10 rfl
 refine hK.out _ _ ⟨[], HS.arr [some 0, some 1, none, none, some 4, none, some 6] (by decide)⟩ (fun HH => ?_)
 clear hK K
 refine norm_ (a' := ?_) ?_ ?_
 rotate_left
 · show Act.put _ (some 24) _ = _; simp only [Act.put, ptn]; rfl
 refine dr1 15 HT fun K hK => ?_
 refine go_cl1 HS (impl_boolItem.calls ht30.out) Tryz.func204 ?_; clear HS; intro v31 wt30 HS F; obtain ⟨B31, d31, rfl, m31⟩ := HS.form 11 rfl
 refine hK.out _ _ ⟨[], HS.arr [some 0, some 1, none, none, some 4, none, some 6] (by decide)⟩ (fun HH => ?_)
 clear hK K
 refine norm_ (a' := ?_) ?_ ?_
 rotate_left
 · show Act.put _ (some 27) _ = _; simp only [Act.put, ptn]; rfl
 refine dr1 18 HT fun K hK => ?_
 refine go_cl1 HS (impl_IntItem.calls ht32.out) Tryz.func202 ?_; clear HS; intro v33 wt32 HS F; obtain ⟨B33, d33, rfl, m33⟩ := HS.form 12 rfl
 refine hK.out _ _ ⟨[], HS.arr [some 0, some 1, none, none, some 4, none, some 6] (by decide)⟩ (fun HH => ?_)
 clear hK K
 refine norm_ (a' := ?_) ?_ ?_
 rotate_left
 · show Act.put _ (some 30) _ = _; simp only [Act.put, ptn]; rfl
 refine dr1 21 HT fun K hK => ?_
 refine go_cl1 HS (impl_IntItem.calls ht34.out) Tryz.func202 ?_; clear HS; intro v35 wt34 HS F; obtain ⟨B35, d35, rfl, m35⟩ := HS.form 13 rfl
 refine hK.out _ _ ⟨[], HS.arr [some 0, some 1, none, none, some 4, none, some 6] (by decide)⟩ (fun HH => ?_)
 clear hK K
 refine norm_ (a' := ?_) ?_ ?_
 rotate_left
 · show Act.put _ (some 33) _ = _; simp only [Act.put, ptn]; rfl
 refine dr1 24 HT fun K hK => ?_
 refine go_cl1 HS (impl_each_int_0.calls ht36.out (HS.ro gp0) lp0) Tryz.func205 ?_; clear HS; intro v37 wt36 HS F; obtain ⟨B37, d37, rfl, m37⟩ := HS.form 14 rfl
 refine hK.out _ _ ⟨[], HS.arr [some 0, some 1, none, none, some 4, none, some 6] (by decide)⟩ (fun HH => ?_)
 clear hK K
 refine norm_ (a' := ?_) ?_ ?_
 rotate_left
 · show Act.put _ (some 36) _ = _; simp only [Act.put, ptn]; rfl
 refine dr1 27 HT fun K hK => ?_
 refine go_cl1 HS (impl_each_string_0.calls ht38.out (HS.ro gp1) lp1) Tryz.func206 ?_; clear HS; intro v39 wt38 HS F; obtain ⟨B39, d39, rfl, m39⟩ := HS.form 15 rfl
 refine hK.out _ _ ⟨[], HS.arr [some 0, some 1, none, none, some 4, none, some 6] (by decide)⟩ (fun HH => ?_)
 clear hK K
 refine norm_ (a' := ?_) ?_ ?_
 rotate_left
 · show Act.put _ (some 39) _ = _; simp only [Act.put, ptn]; rfl
 refine dr1 30 HT fun K hK => ?_
 refine go_cl1 HS (impl_each_string_0.calls ht40.out (HS.ro gp2) lp2) Tryz.func206 ?_; clear HS; intro v41 wt40 HS F; obtain ⟨B41, d41, rfl, m41⟩ := HS.form 16 rfl
 refine hK.out _ _ ⟨[], HS.arr [some 0, some 1, none, none, some 4, none, some 6] (by decide)⟩ (fun HH => ?_)
 clear hK K
 refine norm_ (a' := ?_) ?_ ?_
 rotate_left
 · show Act.put _ (some 42) _ = _; simp only [Act.put, ptn]; rfl
 refine dr1 31 HT fun K hK => ?_
 refine if_li q182 [7, 8, 5, 9, 10, 11, 12, 13, 14, 15, 16] ([t22, t24, t18, t26, t28, t30, t32, t34, t36, t38, t40] : List S182) ([.int .i64 t22.f0, .string t22.f1, .slice B23 t22.f2.length d23] ++ ([.int .i64 t24.f0, .string t24.f1, .slice B25 t24.f2.length d25] ++ ([.int .i64 t18.f0, .string t18.f1, .slice B19 t18.f2.length d19] ++ ([.int .i64 t26.f0, .string t26.f1, .slice B27 t26.f2.length d27] ++ ([.int .i64 t28.f0, .string t28.f1, .slice B29 t28.f2.length d29] ++ ([.int .i64 t30.f0, .string t30.f1, .slice B31 t30.f2.length d31] ++ ([.int .i64 t32.f0, .string t32.f1, .slice B33 t32.f2.length d33] ++ ([.int .i64 t34.f0, .string t34.f1, .slice B35 t34.f2.length d35] ++ ([.int .i64 t36.f0, .string t36.f1, .slice B37 t36.f2.length d37] ++ ([.int .i64 t38.f0, .string t38.f1, .slice B39 t38.f2.length d39] ++ ([.int .i64 t40.f0, .string t40.f1, .slice B41 t40.f2.length d41] ++ []))))))))))) HS (MadeL.cons (js1 := [7]) (c := [.int .i64 t22.f0, .string t22.f1, .slice B23 t22.f2.length d23]) rfl (fun S hd hh => q182_pack (x := t22) hd (hh 7 (.own (Zd.slice 182 q182) t22.f2 [.slice B23 t22.f2.length d23]) rfl) (by decide)) (MadeL.cons (js1 := [8]) (c := [.int .i64 t24.f0, .string t24.f1, .slice B25 t24.f2.length d25]) rfl (fun S hd hh => q182_pack (x := t24) hd (hh 8 (.own (Zd.slice 182 q182) t24.f2 [.slice B25 t24.f2.length d25]) rfl) (by decide)) (MadeL.cons (js1 := [5]) (c := [.int .i64 t18.f0, .string t18.f1, .slice B19 t18.f2.length d19]) rfl (fun S hd hh => q182_pack (x := t18) hd (hh 5 (.own (Zd.slice 182 q182) t18.f2 [.slice B19 t18.f2.length d19]) rfl) (by decide)) (MadeL.cons (js1 := [9]) (c := [.int .i64 t26.f0, .string t26.f1, .slice B27 t26.f2.length d27]) rfl (fun S hd hh => q182_pack (x := t26) hd (hh 9 (.own (Zd.slice 182 q182) t26.f2 [.slice B27 t26.f2.length d27]) rfl) (by decide)) (MadeL.cons (js1 := [10]) (c := [.int .i64 t28.f0, .string t28.f1, .slice B29 t28.f2.length d29]) rfl (fun S hd hh => q182_pack (x := t28) hd (hh 10 (.own (Zd.slice 182 q182) t28.f2 [.slice B29 t28.f2.length d29]) rfl) (by decide)) (MadeL.cons (js1 := [11]) (c := [.int .i64 t30.f0, .string t30.f1, .slice B31 t30.f2.length d31]) rfl (fun S hd hh => q182_pack (x := t30) hd (hh 11 (.own (Zd.slice 182 q182) t30.f2 [.slice B31 t30.f2.length d31]) rfl) (by decide)) (MadeL.cons (js1 := [12]) (c := [.int .i64 t32.f0, .string t32.f1, .slice B33 t32.f2.length d33]) rfl (fun S hd hh => q182_pack (x := t32) hd (hh 12 (.own (Zd.slice 182 q182) t32.f2 [.slice B33 t32.f2.length d33]) rfl) (by decide)) (MadeL.cons (js1 := [13]) (c := [.int .i64 t34.f0, .string t34.f1, .slice B35 t34.f2.length d35]) rfl (fun S hd hh => q182_pack (x := t34) hd (hh 13 (.own (Zd.slice 182 q182) t34.f2 [.slice B35 t34.f2.length d35]) rfl) (by decide)) (MadeL.cons (js1 := [14]) (c := [.int .i64 t36.f0, .string t36.f1, .slice B37 t36.f2.length d37]) rfl (fun S hd hh => q182_pack (x := t36) hd (hh 14 (.own (Zd.slice 182 q182) t36.f2 [.slice B37 t36.f2.length d37]) rfl) (by decide)) (MadeL.cons (js1 := [15]) (c := [.int .i64 t38.f0, .string t38.f1, .slice B39 t38.f2.length d39]) rfl (fun S hd hh => q182_pack (x := t38) hd (hh 15 (.own (Zd.slice 182 q182) t38.f2 [.slice B39 t38.f2.length d39]) rfl) (by decide)) (MadeL.cons (js1 := [16]) (c := [.int .i64 t40.f0, .string t40.f1, .slice B41 t40.f2.length d41]) rfl (fun S hd hh => q182_pack (x := t40) hd (hh 16 (.own (Zd.slice 182 q182) t40.f2 [.slice B41 t40.f2.length d41]) rfl) (by decide)) MadeL.nil (by decide)) (by decide)) (by decide)) (by decide)) (by decide)) (by decide)) (by decide)) (by decide)) (by decide)) (by decide)) (by decide)) ?_; clear HS; intro v42 w42 HS F; obtain ⟨B42, d42, rfl, m42⟩ := HS.formn 11 17 rfl rfl
 refine hK.out _ _ ⟨[], HS.arr [some 0, some 1, none, none, some 4, none, some 6] (by decide)⟩ (fun HH => ?_)
 clear hK K
 refine norm_ (a' := ?_) ?_ ?_
 rotate_left
 · show Act.put _ (some 43) _ = _; simp only [Act.put, ptn]; rfl
 refine dr1 32 HT fun K hK => ?_
 refine go_cl1 HS (impl_ListItem.calls ht43.out (HS.rd 17 rfl) m42) Tryz.func145 ?_; clear HS; intro v44 wt43 HS F; obtain ⟨B44, d44, rfl, m44⟩ := HS.form 18 rfl
 refine hK.out _ _ ⟨[], HS.arr [some 0, some 1, none, none, some 4, none, some 6] (by decide)⟩ (fun HH => ?_)
 clear hK K
 refine norm_ (a' := ?_) ?_ ?_
 rotate_left
 · show Act.put _ (some 44) _ = _; simp only [Act.put, ptn]; rfl
 refine dr_last 33 HT rfl (by kernel_rfl) (by decide) (fun K hK => ?_)
 refine if_st 1 0 HS (seg := [.int .i64 t43.f0, .string t43.f1, .slice B44 t43.f2.length d44]) ?_; clear HS; intro w45 HS F
 refine hK.out _ _ ?_
 clear hK K
 refine done_ (done_of HT.out (by kernel_rfl)) ?_
 (try clear F)
 have F := HS.boxes; simp only [bxn] at F
 obtain rfl := zsome H
 go_wp2
 exact bodyPost_ret (results_single rfl (.cell _ _ _ _ _ rfl (HS.boxAt (i := 1) rfl) Tryz.underlying182 rfl (by kernel_rfl) .nil)) rfl ⟨_, rfl, HS.pick [18] (by decide) (by rfl)⟩
def impl_CertText.f (k : Nat) (a0 : S91) : Option (ByteArray × Bool) := ((impl_CertOk.f k a0).bind fun t3 => (if t3 = true then ((impl_BodyItem.f k a0).bind fun t13 => ((impl_bytesItem.f a0.f12).bind fun t15 => ((impl_ListItem.f k ([t13, t15] : List S182)).bind fun t18 => ((impl_ItemText.f k t18).bind fun t20 => (some (t20.1, t20.2)))))) else (some ((⟨#[]⟩ : ByteArray), false))))
def impl_CertText.T3 : TT := (true, [([], []), ([0], [0]), ([], []), ([2], [2]), ([3, 1], [3]), ([1, 4], [1, 4]), ([5, 4], [5]), ([6, 6], [6]), ([7], [7]), ([7], [7]), ([8, 7, 0, 1, 2, 3, 4, 5, 6, 7, 8, 9], [8]), ([9, 10, 0, 1, 2, 3, 4, 5, 6, 7, 8, 9, 10], [9])])
theorem impl_CertText.tT3 : rtab .any (opsOf Tryz.f64 3) = impl_CertText.T3 := by kernel_rfl
theorem impl_CertText.calls {k : Nat} {a0 : S91} {Ap0 Ap1 Ap2 : Option Addr} {np0 cp0 np1 cp1 np2 cp2 : Nat} {mG : Int} {r1 : ByteArray} {r2 : Bool} {w : World} (h : impl_CertText.f k a0 = some (r1, r2)) (gp0 : (Kd.int .i64).C w Ap0 np0 a0.f9) (lp0 : np0 ≤ cp0) (gp1 : Kd.string.C w Ap1 np1 a0.f10) (lp1 : np1 ≤ cp1) (gp2 : Kd.string.C w Ap2 np2 a0.f11) (lp2 : np2 ≤ cp2) (hgM : w.cell? ⟨0, 0, none⟩ = some (.int .i64 mG)) :
    Calls Tryz.prog 64 #[.agg #[.int .i64 a0.f0, .string a0.f1, .string a0.f2, .int .i64 a0.f3, .int .i64 a0.f4, .string a0.f5, .bool a0.f6, .int .i64 a0.f7, .int .i64 a0.f8, .slice Ap0 np0 cp0, .slice Ap1 np1 cp1, .slice Ap2 np2 cp2, .string a0.f12]] w (fun e w' => e = .returned (.tuple #[.string r1, .bool r2]) ∧ Hp noFP w w' []) := by
 obtain rfl := C_len gp0
 obtain rfl := C_len gp1
 obtain rfl := C_len gp2
 have HS := Hp.start w
 have H := Aside0.mk h
 clear h
 unfold impl_CertText.f at H
 go_enter Tryz.func64, Tryz.ntmps64
 replace H := zbind H; obtain ⟨t3, ht3, H⟩ := H
 go_upto_if 6 with (first | ((with_reducible refine gd 1 rfl ?_); refine ev_bx HS ?_; clear HS; intro g1 w1 HS F) | ((with_reducible refine gd 5 rfl ?_); refine ev_cl HS (impl_CertOk.calls ht3.out (HS.ro gp0) lp0 (HS.ro gp1) lp1 (HS.ro gp2) lp2 (HS.keepc hgM)) Tryz.func124 ?_; clear HS; intro wt3 HS F))
 replace H := znifb H; rcases H with ⟨c5, H⟩ | ⟨c5, H⟩
 case inl =>
  subst c5
  (try simp only [dcn, dcu, dcf])
  obtain ⟨rfl, rfl⟩ := zsome2 H
  go_wp2
  exact bodyPost_ret (results_list (rs := [.tmp 2, .tmp 3]) rfl (by simp) (.tmp (.tmp .nil))) rfl ⟨rfl, HS.pick [] (by decide) (by rfl)⟩
 subst c5
 (try simp only [dcn, dcu, dcf])
 (try go_wp2)
 replace H := zbind H; obtain ⟨t13, ht13, H⟩ := H
 replace H := zbind H; obtain ⟨t15, ht15, H⟩ := H
 replace H := zbind H; obtain ⟨t18, ht18, H⟩ := H
 replace H := zbind H; obtain ⟨t20, ht20, H⟩ := H
 refine dr_start [] HS #[false, false, false, false, false, false, false, false, false, false, false, false] (by kernel_rfl) rfl rfl impl_CertText.tT3 (fun w7 HT HS HH => ?_)
 (try clear F)
 refine drq_of [(0, some 7), (2, some 9), (3, some 10)] ?_
 repeat (first | refine drp HT ?_ | refine drt HT HH ?_)
 refine drq_end ?_
 refine dr1 1 HT fun K hK => ?_
 refine go_cl1 HS (impl_BodyItem.calls ht13.out (HS.ro gp0) lp0 (HS.ro gp1) lp1 (HS.ro gp2) lp2) Tryz.func146 ?_; clear HS; intro v14 wt13 HS F; obtain ⟨B14, d14, rfl, m14⟩ := HS.form 1 rfl
 refine nrm 8 hK ⟨_, HS⟩ (fun HH => ?_); clear hK K
 refine dr1 4 HT fun K hK => ?_
 refine go_cl1 HS (impl_bytesItem.calls ht15.out) Tryz.func147 ?_; clear HS; intro v16 wt15 HS F; obtain ⟨B16, d16, rfl, m16⟩ := HS.form 2 rfl
 refine nrm 11 hK ⟨_, HS⟩ (fun HH => ?_); clear hK K
 refine dr1 5 HT fun K hK => ?_
 refine if_li q182 [1, 2] ([t13, t15] : List S182) ([.int .i64 t13.f0, .string t13.f1, .slice B14 t13.f2.length d14] ++ ([.int .i64 t15.f0, .string t15.f1, .slice B16 t15.f2.length d16] ++ [])) HS (MadeL.cons (js1 := [1]) (c := [.int .i64 t13.f0, .string t13.f1, .slice B14 t13.f2.length d14]) rfl (fun S hd hh => q182_pack (x := t13) hd (hh 1 (.own (Zd.slice 182 q182) t13.f2 [.slice B14 t13.f2.length d14]) rfl) (by decide)) (MadeL.cons (js1 := [2]) (c := [.int .i64 t15.f0, .string t15.f1, .slice B16 t15.f2.length d16]) rfl (fun S hd hh => q182_pack (x := t15) hd (hh 2 (.own (Zd.slice 182 q182) t15.f2 [.slice B16 t15.f2.length d16]) rfl) (by decide)) MadeL.nil (by decide)) (by decide)) ?_; clear HS; intro v17 w17 HS F; obtain ⟨B17, d17, rfl, m17⟩ := HS.formn 2 3 rfl rfl
 refine nrm 12 hK ⟨_, HS⟩ (fun HH => ?_); clear hK K
 refine dr1 6 HT fun K hK => ?_
 refine go_cl1 HS (impl_ListItem.calls ht18.out (HS.rd 3 rfl) m17) Tryz.func145 ?_; clear HS; intro v19 wt18 HS F; obtain ⟨B19, d19, rfl, m19⟩ := HS.form 4 rfl
 refine nrm 13 hK ⟨_, HS⟩ (fun HH => ?_); clear hK K
 refine dr1 7 HT fun K hK => ?_
 refine go_cl HS (impl_ItemText.calls ht20.out (HS.rd 4 rfl) m19) Tryz.func144 ?_; clear HS; intro wt20 HS F
 refine nrm 14 hK ⟨_, HS⟩ (fun HH => ?_); clear hK K
 refine drq_of [(8, some 15), (9, some 16), (10, some 2), (11, some 3)] ?_
 repeat (refine drp HT ?_)
 refine drq_end ?_
 refine done_ (done_of HT.out (by kernel_rfl)) ?_
 (try clear F)
 have F := HS.boxes; simp only [bxn] at F
 obtain ⟨rfl, rfl⟩ := zsome2 H
 go_wp2
 exact bodyPost_ret (results_list (rs := [.tmp 2, .tmp 3]) rfl (by simp) (.tmp (.tmp .nil))) rfl ⟨rfl, HS.pick [] (by decide) (by rfl)⟩
def impl_Cert_63_0.l0 : Nat → (List ByteArray) → Int → (List S91) → Option (Bool)
  | 0, _, _, _ => none
  | k + 1, l19, x21, a0 => (if x21 < (a0.length : Int) then (if 0 ≤ x21 then (if x21 < (a0.length : Int) then ((impl_CertText.f k (rd_T91 a0 x21)).bind fun t31 => (if t31.2 = true then ((slices_Contains_string_string.f k l19 t31.1).bind fun t34 => (if t34 = true then (some false) else (if l19.length + 1 ≤ 8796093022208 then (lets (l19 ++ ([t31.1] : List ByteArray)) fun y40 => (impl_Cert_63_0.l0 k y40 (wrap64 (x21 + 1)) a0)) else none))) else (some false))) else none) else none) else (some true))
def impl_Cert_63_0.f (k : Nat) (a0 : (List S91)) : Option (Bool) := (impl_Cert_63_0.l0 k [] 0 a0)
theorem impl_Cert_63_0.calls {k : Nat} {a0 : (List S91)} {Ap0 : Option Addr} {np0 cp0 : Nat} {mG : Int} {r : Bool} {w : World} (h : impl_Cert_63_0.f k a0 = some r) (gp0 : k91.C w Ap0 np0 a0) (lp0 : np0 ≤ cp0) (hgM : w.cell? ⟨0, 0, none⟩ = some (.int .i64 mG)) :
    Calls Tryz.prog 63 #[.slice Ap0 np0 cp0, .func (.func 64) #[] #[]] w (fun e w' => e = .returned (.bool r) ∧ Hp noFP w w' []) := by
 obtain rfl := C_len gp0
 have HS := Hp.start w
 have H := Aside0.mk h
 clear h
 unfold impl_Cert_63_0.f at H
 go_enter Tryz.func63, Tryz.ntmps63
 go_wp2
 replace HS := HS.nil 9 Zd.string
 go_loopg [5, 12] k (fun kq v_5 v_12 w' => ∃ (l19 : List ByteArray) (v20 : Value) (x21 : Int), v_5 = v20 ∧ v_12 = .int .i64 x21 ∧ Aside0 (impl_Cert_63_0.l0 kq l19 x21 a0 = some r) ∧ Aside0 (kq ≤ k) ∧ Hp noFP w w' [.own (Zd.slice 9 Zd.string) l19 [v20]])
 case atStart => exact ⟨_, _, _, rfl, rfl, H, ⟨Nat.le_refl _⟩, HS⟩
 case round =>
  clear HS H; (try clear F)
  obtain ⟨l19, v20, x21, rfl, rfl, H, HKk18, HS⟩ := hrel
  obtain ⟨B20, d20, rfl, m20⟩ := HS.form 0 rfl
  cases gk with
  | zero => exact absurd H.out (by simp [impl_Cert_63_0.l0])
  | succ k18 =>
   simp only [impl_Cert_63_0.l0] at H
   replace H := znif H; rcases H with ⟨c23, H⟩ | ⟨c23, H⟩
   case inl =>
    obtain rfl := zsome H
    go_wp2
    go_ret
    exact HS.pk
   replace H := zgo H; obtain ⟨c24, H⟩ := H
   replace H := zgo H; obtain ⟨c25, H⟩ := H
   obtain ⟨ad26, B26_9, d26_9, B26_10, d26_10, B26_11, d26_11, rfl, e26_0, e26_1, e26_2, e26_3, e26_4, e26_5, e26_6, e26_7, e26_8, e26_9, e26_10, e26_11, e26_12, m26_9, y26_9, m26_10, y26_10, m26_11, y26_11⟩ := at_T91 gp0 x21 (of_eq_true c24) (of_eq_true c25)
   have e26_0_26 := HS.keepc e26_0
   have e26_1_26 := HS.keepc e26_1
   have e26_2_26 := HS.keepc e26_2
   have e26_3_26 := HS.keepc e26_3
   have e26_4_26 := HS.keepc e26_4
   have e26_5_26 := HS.keepc e26_5
   have e26_6_26 := HS.keepc e26_6
   have e26_7_26 := HS.keepc e26_7
   have e26_8_26 := HS.keepc e26_8
   have e26_9_26 := HS.keepc e26_9
   have e26_10_26 := HS.keepc e26_10
   have e26_11_26 := HS.keepc e26_11
   have e26_12_26 := HS.keepc e26_12
   replace H := zbind H; obtain ⟨t31, ht31, H⟩ := H
   replace H := znifb H; rcases H with ⟨c33, H⟩ | ⟨c33, H⟩
   case inl =>
    obtain rfl := zsome H
    go_wp2_with (first | ((with_reducible refine gd 7 rfl ?_); refine ev_bx HS ?_; clear HS; intro g7 w7 HS F) | ((with_reducible refine gate_store (p := 7) rfl ?_); refine ev_st 1 0 HS (seg := [.int .i64 ((rd_T91 a0 x21).f0), .string ((rd_T91 a0 x21).f1), .string ((rd_T91 a0 x21).f2), .int .i64 ((rd_T91 a0 x21).f3), .int .i64 ((rd_T91 a0 x21).f4), .string ((rd_T91 a0 x21).f5), .bool ((rd_T91 a0 x21).f6), .int .i64 ((rd_T91 a0 x21).f7), .int .i64 ((rd_T91 a0 x21).f8), .slice B26_9 (rd_T91 a0 x21).f9.length d26_9, .slice B26_10 (rd_T91 a0 x21).f10.length d26_10, .slice B26_11 (rd_T91 a0 x21).f11.length d26_11, .string ((rd_T91 a0 x21).f12)]) ?_; clear HS; intro w29 HS F) | ((with_reducible refine gd 19 rfl ?_); refine ev_callv rfl Tryz.func64 (by kernel_rfl) rfl #[.agg #[.int .i64 ((rd_T91 a0 x21).f0), .string ((rd_T91 a0 x21).f1), .string ((rd_T91 a0 x21).f2), .int .i64 ((rd_T91 a0 x21).f3), .int .i64 ((rd_T91 a0 x21).f4), .string ((rd_T91 a0 x21).f5), .bool ((rd_T91 a0 x21).f6), .int .i64 ((rd_T91 a0 x21).f7), .int .i64 ((rd_T91 a0 x21).f8), .slice B26_9 (rd_T91 a0 x21).f9.length d26_9, .slice B26_10 (rd_T91 a0 x21).f10.length d26_10, .slice B26_11 (rd_T91 a0 x21).f11.length d26_11, .string ((rd_T91 a0 x21).f12)]] #[.agg #[.int .i64 ((rd_T91 a0 x21).f0), .string ((rd_T91 a0 x21).f1), .string ((rd_T91 a0 x21).f2), .int .i64 ((rd_T91 a0 x21).f3), .int .i64 ((rd_T91 a0 x21).f4), .string ((rd_T91 a0 x21).f5), .bool ((rd_T91 a0 x21).f6), .int .i64 ((rd_T91 a0 x21).f7), .int .i64 ((rd_T91 a0 x21).f8), .slice B26_9 (rd_T91 a0 x21).f9.length d26_9, .slice B26_10 (rd_T91 a0 x21).f10.length d26_10, .slice B26_11 (rd_T91 a0 x21).f11.length d26_11, .string ((rd_T91 a0 x21).f12)]] rfl rfl (by simp only [mpn]; rfl) (by first | rfl | simp) ?_; refine (impl_CertText.calls ht31.out (HS.ro y26_9) m26_9 (HS.ro y26_10) m26_10 (HS.ro y26_11) m26_11 (HS.keepc hgM)).mono ?_; rintro _ wt31 ⟨rfl, HQ⟩; refine ⟨_, rfl, ?_⟩; replace HS := HS.call HQ; clear HQ; (try clear F); (try simp only [hpn, hpm] at HS); have F := HS.boxes; simp only [bxn] at F; (try simp only [c33])))
    go_ret
    exact HS.pk
   replace H := zbind H; obtain ⟨t34, ht34, H⟩ := H
   go_upto_if 28 with (first | ((with_reducible refine gd 7 rfl ?_); refine ev_bx HS ?_; clear HS; intro g7 w7 HS F) | ((with_reducible refine gate_store (p := 7) rfl ?_); refine ev_st 1 0 HS (seg := [.int .i64 ((rd_T91 a0 x21).f0), .string ((rd_T91 a0 x21).f1), .string ((rd_T91 a0 x21).f2), .int .i64 ((rd_T91 a0 x21).f3), .int .i64 ((rd_T91 a0 x21).f4), .string ((rd_T91 a0 x21).f5), .bool ((rd_T91 a0 x21).f6), .int .i64 ((rd_T91 a0 x21).f7), .int .i64 ((rd_T91 a0 x21).f8), .slice B26_9 (rd_T91 a0 x21).f9.length d26_9, .slice B26_10 (rd_T91 a0 x21).f10.length d26_10, .slice B26_11 (rd_T91 a0 x21).f11.length d26_11, .string ((rd_T91 a0 x21).f12)]) ?_; clear HS; intro w29 HS F) | ((with_reducible refine gd 19 rfl ?_); refine ev_callv rfl Tryz.func64 (by kernel_rfl) rfl #[.agg #[.int .i64 ((rd_T91 a0 x21).f0), .string ((rd_T91 a0 x21).f1), .string ((rd_T91 a0 x21).f2), .int .i64 ((rd_T91 a0 x21).f3), .int .i64 ((rd_T91 a0 x21).f4), .string ((rd_T91 a0 x21).f5), .bool ((rd_T91 a0 x21).f6), .int .i64 ((rd_T91 a0 x21).f7), .int .i64 ((rd_T91 a0 x21).f8), .slice B26_9 (rd_T91 a0 x21).f9.length d26_9, .slice B26_10 (rd_T91 a0 x21).f10.length d26_10, .slice B26_11 (rd_T91 a0 x21).f11.length d26_11, .string ((rd_T91 a0 x21).f12)]] #[.agg #[.int .i64 ((rd_T91 a0 x21).f0), .string ((rd_T91 a0 x21).f1), .string ((rd_T91 a0 x21).f2), .int .i64 ((rd_T91 a0 x21).f3), .int .i64 ((rd_T91 a0 x21).f4), .string ((rd_T91 a0 x21).f5), .bool ((rd_T91 a0 x21).f6), .int .i64 ((rd_T91 a0 x21).f7), .int .i64 ((rd_T91 a0 x21).f8), .slice B26_9 (rd_T91 a0 x21).f9.length d26_9, .slice B26_10 (rd_T91 a0 x21).f10.length d26_10, .slice B26_11 (rd_T91 a0 x21).f11.length d26_11, .string ((rd_T91 a0 x21).f12)]] rfl rfl (by simp only [mpn]; rfl) (by first | rfl | simp) ?_; refine (impl_CertText.calls ht31.out (HS.ro y26_9) m26_9 (HS.ro y26_10) m26_10 (HS.ro y26_11) m26_11 (HS.keepc hgM)).mono ?_; rintro _ wt31 ⟨rfl, HQ⟩; refine ⟨_, rfl, ?_⟩; replace HS := HS.call HQ; clear HQ; (try clear F); (try simp only [hpn, hpm] at HS); have F := HS.boxes; simp only [bxn] at F; (try simp only [c33])) | ((with_reducible refine gd 27 rfl ?_); refine gg ?_; refine ev_cl HS (slices_Contains_string_string.calls ht34.out (HS.rd 0 rfl) m20) Tryz.func143 ?_; clear HS; intro wt34 HS F))
   replace H := zifb H; rcases H with ⟨c36, H⟩ | ⟨c36, H⟩
   case inl =>
    subst c36
    (try simp only [dcn, dcu, dcf])
    obtain rfl := zsome H
    go_wp2
    go_ret
    exact HS.pk
   subst c36
   (try simp only [dcn, dcu, dcf])
   replace H := zgo H; obtain ⟨c39, H⟩ := H
   replace H := zlets H; obtain ⟨y40, e_y40, H⟩ := H
   go_wp2_with (first | ((with_reducible refine gd 31 rfl ?_); refine ev_li Zd.string [] ([t31.1] : List ByteArray) ([.string t31.1] ++ []) HS (MadeL.cons (js1 := []) (c := [.string t31.1]) rfl (made_flat (fun _ => rfl)) MadeL.nil (by decide)) ?_; clear HS; intro v37 w37 HS F; obtain ⟨B37, d37, rfl, m37⟩ := HS.formn 1 2 rfl rfl) | ((with_reducible refine gd 32 rfl ?_); refine ev_ap Zd.string 0 2 HS rfl rfl Tryz.underlying57 info9 (of_eq_true c39) ?_; clear HS; intro v40 w40 HS; rw [← e_y40.out] at HS; obtain ⟨B40, d40, rfl, m40⟩ := HS.form 3 rfl; (try simp only [hpn, hpm] at HS); have F := HS.boxes; simp only [bxn] at F))
   go_roundg k18
   case measure => have := HKk18.out; omega
   case rel => exact ⟨_, _, _, rfl, rfl, H, ⟨by have := HKk18.out; omega⟩, HS.pick [3] (by decide) (by rfl)⟩
end Go.Proofs.YtacocpknielofaaGreatDoor.F

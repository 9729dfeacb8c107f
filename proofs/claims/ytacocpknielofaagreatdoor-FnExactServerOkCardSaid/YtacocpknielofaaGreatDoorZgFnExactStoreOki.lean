/- Functions of the program and of the law, and that their calls do what is written here. -/
import Derived.Test.YtacocpknielofaaGreatDoorZgFnExactStoreOkg
import Derived.Test.YtacocpknielofaaGreatDoorZgFnExactStoreOkh
namespace Go.Proofs.YtacocpknielofaaGreatDoor.F
open Go.RowKit Go.Proofs.YtacocpknielofaaGreatDoorW.PrintWords Go.Proofs.YtacocpknielofaaGreatDoorW.PrintLast Go.Proofs.YtacocpknielofaaGreatDoorW.PrintMore Go.Proofs.YtacocpknielofaaGreatDoor.Z
attribute [local go_sem] max2_int min2_int max_two min_two max_three min_three max_four min_four
set_option linter.unusedVariables false
set_option linter.unusedSimpArgs false
set_option maxRecDepth 100000
/-! ### impl_boolItem: function 204 -/
def impl_boolItem.f (a0 : Bool) : Option (S182) := (if a0 = true then (some (⟨1, (⟨#[255]⟩ : ByteArray), ([] : List S182)⟩ : S182)) else (some (⟨1, (⟨#[0]⟩ : ByteArray), ([] : List S182)⟩ : S182)))
set_option maxHeartbeats 16000000 in
theorem impl_boolItem.calls {a0 : Bool} {r : S182} {w : World} (h : impl_boolItem.f a0 = some r) :
    Calls Tryz.prog 204 #[.bool a0] w (fun e w' => ∃ v0_ : Value, e = .returned (.agg #[.int .i64 r.f0, .string r.f1, v0_]) ∧ Hp noFP w w' [.own (Zd.slice 182 q182) r.f2 [v0_]]) := by
 have HS := Hp.start w
 have H := Aside0.mk h
 clear h
 unfold impl_boolItem.f at H
 go_enter Tryz.func204, Tryz.ntmps204
 go_upto_if 3 with (first | ((with_reducible refine gate_dst (N := 2) rfl ?_); refine ev_bx HS ?_; clear HS; (try clear F); intro g2 w2 HS F))
 by_cases c3 : a0 = true
 case pos =>
  replace H := zpos c3 H
  subst c3
  (try simp only [dcn, if_true, Bool.false_eq_true, if_false])
  obtain rfl := zsome H
  go_wp2_with (first | ((with_reducible refine gate_store (p := 2) rfl ?_); refine ev_st 0 0 HS (seg := [.int .i64 1, .string (⟨#[255]⟩ : ByteArray), .slice none 0 0]) ?_; clear HS; (try clear F); intro w4 HS F))
  replace HS := HS.nil 182 q182
  exact bodyPost_ret (results_single rfl (.cell _ _ _ _ _ rfl (HS.boxAt (i := 0) rfl) Tryz.underlying182 rfl (by kernel_rfl) .nil)) rfl ⟨_, rfl, HS.pick [1] (by decide) (by rfl)⟩
 replace H := zneg c3 H
 replace c3 := eq_false_of_ne_true c3
 subst c3
 (try simp only [dcn, if_true, Bool.false_eq_true, if_false])
 obtain rfl := zsome H
 go_wp2_with (first | ((with_reducible refine gate_store (p := 2) rfl ?_); refine ev_st 0 0 HS (seg := [.int .i64 1, .string (⟨#[0]⟩ : ByteArray), .slice none 0 0]) ?_; clear HS; (try clear F); intro w6 HS F))
 replace HS := HS.nil 182 q182
 exact bodyPost_ret (results_single rfl (.cell _ _ _ _ _ rfl (HS.boxAt (i := 0) rfl) Tryz.underlying182 rfl (by kernel_rfl) .nil)) rfl ⟨_, rfl, HS.pick [1] (by decide) (by rfl)⟩
/-! ### impl_each_int_0: function 205 -/
def impl_each_int_0.l0 : Nat → (List S182) → Int → (List Int) → Option (S182)
  | 0, _, _, _ => none
  | k + 1, l22, x24, a0 => (if x24 < (a0.length : Int) then (if 0 ≤ x24 then (if x24 < (a0.length : Int) then ((impl_IntItem.f k (rd a0 x24)).bind fun t204001 => (if l22.length + 1 ≤ 2932031007402 then (lets (l22 ++ ([t204001] : List S182)) fun y206999 => (impl_each_int_0.l0 k y206999 (wrap64 (x24 + 1)) a0)) else none)) else none) else none) else (some (⟨48, (⟨#[]⟩ : ByteArray), l22⟩ : S182)))
def impl_each_int_0.f (k : Nat) (a0 : (List Int)) : Option (S182) := (impl_each_int_0.l0 k [] 0 a0)
def impl_each_int_0.T5 : Bool × List (List Nat × List Nat) := (true, [([], []), ([0], [0]), ([], []), ([], []), ([2, 3], [2, 3]), ([4], [4]), ([1, 5, 4], [1, 5]), ([0, 1, 2, 3, 4, 5, 6], []), ([7, 6, 6, 0, 1, 2, 3, 4, 5, 6], [6, 7])])
theorem impl_each_int_0.tT5 : rtab .any (opsOf Tryz.f205 5) = impl_each_int_0.T5 := by kernel_rfl
set_option maxHeartbeats 16000000 in
theorem impl_each_int_0.calls {k : Nat} {a0 : (List Int)} {Ap0 : Option Addr} {np0 cp0 : Nat} {r : S182} {w : World} (h : impl_each_int_0.f k a0 = some r) (gp0 : (Kd.int .i64).C w Ap0 np0 a0) (lp0 : np0 ≤ cp0) :
    Calls Tryz.prog 205 #[.slice Ap0 np0 cp0, .func (.func 202) #[] #[]] w (fun e w' => ∃ v0_ : Value, e = .returned (.agg #[.int .i64 r.f0, .string r.f1, v0_]) ∧ Hp noFP w w' [.own (Zd.slice 182 q182) r.f2 [v0_]]) := by
 obtain rfl := C_len gp0
 have HS := Hp.start w
 have H := Aside0.mk h
 clear h
 unfold impl_each_int_0.f at H
 go_enter Tryz.func205, Tryz.ntmps205
 go_wp2_with (first | ((with_reducible refine gate_dst (N := 4) rfl ?_); refine ev_bx HS ?_; clear HS; (try clear F); intro g4 w4 HS F) | ((with_reducible refine gate_dst (N := 5) rfl ?_); refine ev_bx HS ?_; clear HS; (try clear F); intro g5 w5 HS F) | ((with_reducible refine gate_store (p := 5) rfl ?_); refine ev_st 1 0 HS (seg := [.int .i64 48, .string (⟨#[]⟩ : ByteArray), .slice none 0 0]) ?_; clear HS; (try clear F); intro w5 HS F))
 replace HS := HS.nil 182 q182
 go_loopg [11] k (fun kq v_11 w' => ∃ (l22 : List S182) (v23 : Value) (x24 : Int), v_11 = .int .i64 x24 ∧ Aside0 (impl_each_int_0.l0 kq l22 x24 a0 = some r) ∧ Aside0 (kq ≤ k) ∧ Hp noFP w w' [.box g4 [.int .i64 0, .string (⟨#[]⟩ : ByteArray), .slice none 0 0] 182, .box g5 [.int .i64 48, .string (⟨#[]⟩ : ByteArray), v23] 182, .own (Zd.slice 182 q182) l22 [v23]])
 case atStart => exact ⟨_, _, _, rfl, H, ⟨Nat.le_refl _⟩, HS⟩
 case round =>
  clear HS H; (try clear F)
  obtain ⟨l22, v23, x24, rfl, H, HKk21, HS⟩ := hrel
  obtain ⟨B23, d23, rfl, m23⟩ := HS.form 2 rfl
  have F := HS.boxes; simp only [bxn] at F
  cases gk with
  | zero => exact absurd H.out (by simp [impl_each_int_0.l0])
  | succ k21 =>
   simp only [impl_each_int_0.l0] at H
   by_cases c26 : x24 < (a0.length : Int)
   case neg =>
    replace H := zneg c26 H
    replace c26 := eq_false c26
    obtain rfl := zsome H
    go_wp2_with (first | ((with_reducible refine gate_store (p := 4) rfl ?_); refine ev_st 0 0 HS (seg := [.int .i64 48, .string (⟨#[]⟩ : ByteArray), .slice B23 l22.length d23]) ?_; clear HS; (try clear F); intro w33 HS F))
    exact bodyPost_ret (results_single rfl (.cell _ _ _ _ _ rfl (HS.boxAt (i := 0) rfl) Tryz.underlying182 rfl (by kernel_rfl) .nil)) rfl ⟨_, rfl, HS.pick [2] (by decide) (by rfl)⟩
   replace H := zpos c26 H
   replace c26 := eq_true c26
   obtain ⟨c27, H⟩ := zgo H
   obtain ⟨c28, H⟩ := zgo H
   obtain ⟨ad29, rfl, e29_0⟩ := Kd.at_int gp0 x24 (of_eq_true c27) (of_eq_true c28)
   have e29_0_29 := (HS.keepc e29_0)
   (try go_wp2)
   replace H := zbind H; obtain ⟨t204001, ht204001, H⟩ := H
   obtain ⟨c206001, H⟩ := zgo H
   replace H := zlets H; obtain ⟨y206999, e_y206999, H⟩ := H
   refine dr_start2 [.box g4 [.int .i64 0, .string (⟨#[]⟩ : ByteArray), .slice none 0 0] 182, .box g5 [.int .i64 48, .string (⟨#[]⟩ : ByteArray), .slice B23 l22.length d23] 182, .emp] [8] HS (HS.arr [some 0, some 1, none] (by decide)) #[false, false, false, false, false, false, false, false, false] (by kernel_rfl) rfl rfl impl_each_int_0.tT5 (fun w31 HT HS HH => ?_)
   (try clear F)
   refine drq_of [(0, some 15), (1, some 16), (2, some 17), (3, some 18)] ?_
   repeat (first | refine drp HT ?_ | refine drt HT HH ?_)
   refine drq_end ?_
   refine dr1 4 HT fun K hK => ?_
   refine if_wp (by rfl) ?_; refine wp_callv Tryz.func202 (by kernel_rfl) rfl #[.int .i64 (rd a0 x24)] #[.int .i64 (rd a0 x24)] rfl rfl (by simp only [mpn]; rfl) (by first | rfl | simp) ?_; refine (impl_IntItem.calls ht204001.out).mono ?_; rintro _ wt204001 ⟨v204002, rfl, HQ⟩; refine ⟨_, rfl, ?_⟩; replace HS := HS.call HQ; clear HQ; (try clear F); obtain ⟨B204002, d204002, rfl, m204002⟩ := HS.form 3 rfl
   (try simp only [hpn, hpm] at HS)
   have F := HS.boxes; simp only [bxn] at F
   refine hK.out _ _ ⟨[], HS.arr [some 0, some 1, none] (by decide)⟩ (fun HH => ?_)
   clear hK K
   refine norm_ (a' := ?_) ?_ ?_
   rotate_left
   · show Act.put _ (some 19) _ = _; simp only [Act.put, ptn]; rfl
   refine dr1 5 HT fun K hK => ?_
   refine if_wp (by rfl) ?_; refine wp_lit q182 [3] ([t204001] : List S182) ([.int .i64 t204001.f0, .string t204001.f1, .slice B204002 t204001.f2.length d204002] ++ []) HS (by first | (go_simp; done) | (go_simp; rfl)) rfl rfl (Nat.le_of_ble_eq_true rfl) (MadeL.cons (js1 := [3]) (c := [.int .i64 t204001.f0, .string t204001.f1, .slice B204002 t204001.f2.length d204002]) rfl (fun S hd hh => q182_pack (x := t204001) hd (hh 3 (.own (Zd.slice 182 q182) t204001.f2 [.slice B204002 t204001.f2.length d204002]) rfl) (by decide)) MadeL.nil (by decide)) ?_; clear HS; (try clear F); intro v205001 w205001 HS; obtain ⟨B205001, d205001, rfl, m205001⟩ := HS.formn 1 4 rfl rfl
   (try simp only [hpn, hpm] at HS)
   have F := HS.boxes; simp only [bxn] at F
   refine hK.out _ _ ⟨[], HS.arr [some 0, some 1, none] (by decide)⟩ (fun HH => ?_)
   clear hK K
   refine norm_ (a' := ?_) ?_ ?_
   rotate_left
   · show Act.put _ (some 20) _ = _; simp only [Act.put, ptn]; rfl
   refine dr1 6 HT fun K hK => ?_
   refine if_wp (by rfl) ?_; refine wp_append q182 2 4 HS rfl rfl (by decide) rfl rfl rfl Tryz.underlying180 info182 rfl (by decide) (by decide) (by have := of_eq_true c206001; first | omega | (simp only [List.length_cons, List.length_nil, List.length_append, Nat.zero_add] at this ⊢; omega)) ?_; clear HS; (try clear F); intro v206999 w206999 HS; rw [← e_y206999.out] at HS; obtain ⟨B206999, d206999, rfl, m206999⟩ := HS.form 5 rfl
   (try simp only [hpn, hpm] at HS)
   have F := HS.boxes; simp only [bxn] at F
   refine hK.out _ _ ⟨[], HS.arr [some 0, some 1, none] (by decide)⟩ (fun HH => ?_)
   clear hK K
   refine norm_ (a' := ?_) ?_ ?_
   rotate_left
   · show Act.put _ (some 21) _ = _; simp only [Act.put, ptn]; rfl
   refine drq_of [(7, some 22)] ?_
   repeat (refine drp HT ?_)
   refine drq_end ?_
   refine dr_last 8 HT rfl (by kernel_rfl) (by decide) (fun K hK => ?_)
   refine if_st 1 2 HS (seg := [.slice B206999 y206999.length d206999]) ?_; clear HS; (try clear F); intro w208001 HS F
   refine hK.out _ _ ?_
   clear hK K
   refine done_ (done_of HT.out (by kernel_rfl)) ?_
   (try clear F)
   have F := HS.boxes; simp only [bxn] at F
   go_wp2
   go_roundg k21
   case measure => have := HKk21.out; omega
   case rel => exact ⟨_, _, _, rfl, H, ⟨by have := HKk21.out; omega⟩, HS.pick [0, 1, 5] (by decide) (by rfl)⟩
/-! ### impl_each_string_0: function 206 -/
def impl_each_string_0.l0 : Nat → (List S182) → Int → (List ByteArray) → Option (S182)
  | 0, _, _, _ => none
  | k + 1, l22, x24, a0 => (if x24 < (a0.length : Int) then (if 0 ≤ x24 then (if x24 < (a0.length : Int) then ((impl_TextItem.f (rdOf ByteArray.empty a0 x24)).bind fun t204001 => (if l22.length + 1 ≤ 2932031007402 then (lets (l22 ++ ([t204001] : List S182)) fun y206999 => (impl_each_string_0.l0 k y206999 (wrap64 (x24 + 1)) a0)) else none)) else none) else none) else (some (⟨48, (⟨#[]⟩ : ByteArray), l22⟩ : S182)))
def impl_each_string_0.f (k : Nat) (a0 : (List ByteArray)) : Option (S182) := (impl_each_string_0.l0 k [] 0 a0)
def impl_each_string_0.T5 : Bool × List (List Nat × List Nat) := (true, [([], []), ([0], [0]), ([], []), ([], []), ([2, 3], [2, 3]), ([4], [4]), ([1, 5, 4], [1, 5]), ([0, 1, 2, 3, 4, 5, 6], []), ([7, 6, 6, 0, 1, 2, 3, 4, 5, 6], [6, 7])])
theorem impl_each_string_0.tT5 : rtab .any (opsOf Tryz.f206 5) = impl_each_string_0.T5 := by kernel_rfl
set_option maxHeartbeats 16000000 in
theorem impl_each_string_0.calls {k : Nat} {a0 : (List ByteArray)} {Ap0 : Option Addr} {np0 cp0 : Nat} {r : S182} {w : World} (h : impl_each_string_0.f k a0 = some r) (gp0 : Kd.string.C w Ap0 np0 a0) (lp0 : np0 ≤ cp0) :
    Calls Tryz.prog 206 #[.slice Ap0 np0 cp0, .func (.func 203) #[] #[]] w (fun e w' => ∃ v0_ : Value, e = .returned (.agg #[.int .i64 r.f0, .string r.f1, v0_]) ∧ Hp noFP w w' [.own (Zd.slice 182 q182) r.f2 [v0_]]) := by
 obtain rfl := C_len gp0
 have HS := Hp.start w
 have H := Aside0.mk h
 clear h
 unfold impl_each_string_0.f at H
 go_enter Tryz.func206, Tryz.ntmps206
 go_wp2_with (first | ((with_reducible refine gate_dst (N := 4) rfl ?_); refine ev_bx HS ?_; clear HS; (try clear F); intro g4 w4 HS F) | ((with_reducible refine gate_dst (N := 5) rfl ?_); refine ev_bx HS ?_; clear HS; (try clear F); intro g5 w5 HS F) | ((with_reducible refine gate_store (p := 5) rfl ?_); refine ev_st 1 0 HS (seg := [.int .i64 48, .string (⟨#[]⟩ : ByteArray), .slice none 0 0]) ?_; clear HS; (try clear F); intro w5 HS F))
 replace HS := HS.nil 182 q182
 go_loopg [11] k (fun kq v_11 w' => ∃ (l22 : List S182) (v23 : Value) (x24 : Int), v_11 = .int .i64 x24 ∧ Aside0 (impl_each_string_0.l0 kq l22 x24 a0 = some r) ∧ Aside0 (kq ≤ k) ∧ Hp noFP w w' [.box g4 [.int .i64 0, .string (⟨#[]⟩ : ByteArray), .slice none 0 0] 182, .box g5 [.int .i64 48, .string (⟨#[]⟩ : ByteArray), v23] 182, .own (Zd.slice 182 q182) l22 [v23]])
 case atStart => exact ⟨_, _, _, rfl, H, ⟨Nat.le_refl _⟩, HS⟩
 case round =>
  clear HS H; (try clear F)
  obtain ⟨l22, v23, x24, rfl, H, HKk21, HS⟩ := hrel
  obtain ⟨B23, d23, rfl, m23⟩ := HS.form 2 rfl
  have F := HS.boxes; simp only [bxn] at F
  cases gk with
  | zero => exact absurd H.out (by simp [impl_each_string_0.l0])
  | succ k21 =>
   simp only [impl_each_string_0.l0] at H
   by_cases c26 : x24 < (a0.length : Int)
   case neg =>
    replace H := zneg c26 H
    replace c26 := eq_false c26
    obtain rfl := zsome H
    go_wp2_with (first | ((with_reducible refine gate_store (p := 4) rfl ?_); refine ev_st 0 0 HS (seg := [.int .i64 48, .string (⟨#[]⟩ : ByteArray), .slice B23 l22.length d23]) ?_; clear HS; (try clear F); intro w33 HS F))
    exact bodyPost_ret (results_single rfl (.cell _ _ _ _ _ rfl (HS.boxAt (i := 0) rfl) Tryz.underlying182 rfl (by kernel_rfl) .nil)) rfl ⟨_, rfl, HS.pick [2] (by decide) (by rfl)⟩
   replace H := zpos c26 H
   replace c26 := eq_true c26
   obtain ⟨c27, H⟩ := zgo H
   obtain ⟨c28, H⟩ := zgo H
   obtain ⟨ad29, rfl, e29_0⟩ := Kd.at_string gp0 x24 (of_eq_true c27) (of_eq_true c28)
   have e29_0_29 := (HS.keepc e29_0)
   (try go_wp2)
   replace H := zbind H; obtain ⟨t204001, ht204001, H⟩ := H
   obtain ⟨c206001, H⟩ := zgo H
   replace H := zlets H; obtain ⟨y206999, e_y206999, H⟩ := H
   refine dr_start2 [.box g4 [.int .i64 0, .string (⟨#[]⟩ : ByteArray), .slice none 0 0] 182, .box g5 [.int .i64 48, .string (⟨#[]⟩ : ByteArray), .slice B23 l22.length d23] 182, .emp] [8] HS (HS.arr [some 0, some 1, none] (by decide)) #[false, false, false, false, false, false, false, false, false] (by kernel_rfl) rfl rfl impl_each_string_0.tT5 (fun w31 HT HS HH => ?_)
   (try clear F)
   refine drq_of [(0, some 15), (1, some 16), (2, some 17), (3, some 18)] ?_
   repeat (first | refine drp HT ?_ | refine drt HT HH ?_)
   refine drq_end ?_
   refine dr1 4 HT fun K hK => ?_
   refine if_wp (by rfl) ?_; refine wp_callv Tryz.func203 (by kernel_rfl) rfl #[.string (rdOf ByteArray.empty a0 x24)] #[.string (rdOf ByteArray.empty a0 x24)] rfl rfl (by simp only [mpn]; rfl) (by first | rfl | simp) ?_; refine (impl_TextItem.calls ht204001.out).mono ?_; rintro _ wt204001 ⟨v204002, rfl, HQ⟩; refine ⟨_, rfl, ?_⟩; replace HS := HS.call HQ; clear HQ; (try clear F); obtain ⟨B204002, d204002, rfl, m204002⟩ := HS.form 3 rfl
   (try simp only [hpn, hpm] at HS)
   have F := HS.boxes; simp only [bxn] at F
   refine hK.out _ _ ⟨[], HS.arr [some 0, some 1, none] (by decide)⟩ (fun HH => ?_)
   clear hK K
   refine norm_ (a' := ?_) ?_ ?_
   rotate_left
   · show Act.put _ (some 19) _ = _; simp only [Act.put, ptn]; rfl
   refine dr1 5 HT fun K hK => ?_
   refine if_wp (by rfl) ?_; refine wp_lit q182 [3] ([t204001] : List S182) ([.int .i64 t204001.f0, .string t204001.f1, .slice B204002 t204001.f2.length d204002] ++ []) HS (by first | (go_simp; done) | (go_simp; rfl)) rfl rfl (Nat.le_of_ble_eq_true rfl) (MadeL.cons (js1 := [3]) (c := [.int .i64 t204001.f0, .string t204001.f1, .slice B204002 t204001.f2.length d204002]) rfl (fun S hd hh => q182_pack (x := t204001) hd (hh 3 (.own (Zd.slice 182 q182) t204001.f2 [.slice B204002 t204001.f2.length d204002]) rfl) (by decide)) MadeL.nil (by decide)) ?_; clear HS; (try clear F); intro v205001 w205001 HS; obtain ⟨B205001, d205001, rfl, m205001⟩ := HS.formn 1 4 rfl rfl
   (try simp only [hpn, hpm] at HS)
   have F := HS.boxes; simp only [bxn] at F
   refine hK.out _ _ ⟨[], HS.arr [some 0, some 1, none] (by decide)⟩ (fun HH => ?_)
   clear hK K
   refine norm_ (a' := ?_) ?_ ?_
   rotate_left
   · show Act.put _ (some 20) _ = _; simp only [Act.put, ptn]; rfl
   refine dr1 6 HT fun K hK => ?_
   refine if_wp (by rfl) ?_; refine wp_append q182 2 4 HS rfl rfl (by decide) rfl rfl rfl Tryz.underlying180 info182 rfl (by decide) (by decide) (by have := of_eq_true c206001; first | omega | (simp only [List.length_cons, List.length_nil, List.length_append, Nat.zero_add] at this ⊢; omega)) ?_; clear HS; (try clear F); intro v206999 w206999 HS; rw [← e_y206999.out] at HS; obtain ⟨B206999, d206999, rfl, m206999⟩ := HS.form 5 rfl
   (try simp only [hpn, hpm] at HS)
   have F := HS.boxes; simp only [bxn] at F
   refine hK.out _ _ ⟨[], HS.arr [some 0, some 1, none] (by decide)⟩ (fun HH => ?_)
   clear hK K
   refine norm_ (a' := ?_) ?_ ?_
   rotate_left
   · show Act.put _ (some 21) _ = _; simp only [Act.put, ptn]; rfl
   refine drq_of [(7, some 22)] ?_
   repeat (refine drp HT ?_)
   refine drq_end ?_
   refine dr_last 8 HT rfl (by kernel_rfl) (by decide) (fun K hK => ?_)
   refine if_st 1 2 HS (seg := [.slice B206999 y206999.length d206999]) ?_; clear HS; (try clear F); intro w208001 HS F
   refine hK.out _ _ ?_
   clear hK K
   refine done_ (done_of HT.out (by kernel_rfl)) ?_
   (try clear F)
   have F := HS.boxes; simp only [bxn] at F
   go_wp2
   go_roundg k21
   case measure => have := HKk21.out; omega
   case rel => exact ⟨_, _, _, rfl, H, ⟨by have := HKk21.out; omega⟩, HS.pick [0, 1, 5] (by decide) (by rfl)⟩
/-! ### impl_BodyItem: function 146 -/
def impl_BodyItem.f (k : Nat) (a0 : S91) : Option (S182) := ((impl_IntItem.f k a0.f3).bind fun t102001 => ((impl_IntItem.f k a0.f4).bind fun t105001 => ((impl_ListItem.f k ([t102001, t105001] : List S182)).bind fun t107001 => ((impl_IntItem.f k a0.f0).bind fun t202001 => ((impl_TextItem.f a0.f1).bind fun t205001 => ((impl_TextItem.f a0.f2).bind fun t209001 => ((impl_bytesItem.f a0.f5).bind fun t212001 => ((impl_boolItem.f a0.f6).bind fun t215001 => ((impl_IntItem.f k a0.f7).bind fun t218001 => ((impl_IntItem.f k a0.f8).bind fun t221001 => ((impl_each_int_0.f k a0.f9).bind fun t224001 => ((impl_each_string_0.f k a0.f10).bind fun t227001 => ((impl_each_string_0.f k a0.f11).bind fun t230001 => ((impl_ListItem.f k ([t202001, t205001, t107001, t209001, t212001, t215001, t218001, t221001, t224001, t227001, t230001] : List S182)).bind fun t232001 => (some (⟨t232001.f0, t232001.f1, t232001.f2⟩ : S182))))))))))))))))
def impl_BodyItem.T1 : Bool × List (List Nat × List Nat) := (true, [([], []), ([0], [0]), ([1], [1]), ([], []), ([3], [3]), ([4, 2], [4]), ([2, 5], [2, 5]), ([6, 5], [6]), ([], []), ([8, 7, 7, 0, 1, 2, 3, 4, 5, 6, 7, 8], [7, 8])])
theorem impl_BodyItem.tT1 : rtab .any (opsOf Tryz.f146 1) = impl_BodyItem.T1 := by kernel_rfl
def impl_BodyItem.T2 : Bool × List (List Nat × List Nat) := (true, [([], []), ([0], [0]), ([1], [1]), ([], []), ([3], [3]), ([4, 2], [4]), ([], []), ([], []), ([7], [7]), ([8, 5], [8]), ([], []), ([10], [10]), ([11, 9], [11]), ([], []), ([13], [13]), ([14, 12], [14]), ([], []), ([16], [16]), ([17, 15], [17]), ([], []), ([19], [19]), ([20, 18], [20]), ([], []), ([22], [22]), ([23, 21], [23]), ([], []), ([25], [25]), ([26, 24], [26]), ([], []), ([28], [28]), ([29, 27], [29]), ([2, 5, 6, 9, 12, 15, 18, 21, 24, 27, 30], [2, 5, 6, 9, 12, 15, 18, 21, 24, 27, 30]), ([31, 30], [31]), ([32, 32, 0, 1, 2, 3, 4, 5, 6, 7, 8, 9, 10, 11, 12, 13, 14, 15, 16, 17, 18, 19, 20, 21, 22, 23, 24, 25, 26, 27, 28, 29, 30, 31, 32], [32])])
theorem impl_BodyItem.tT2 : rtab .any (opsOf Tryz.f146 2) = impl_BodyItem.T2 := by kernel_rfl
set_option maxHeartbeats 16000000 in
theorem impl_BodyItem.calls {k : Nat} {a0 : S91} {Ap0 : Option Addr} {np0 cp0 : Nat} {Ap1 : Option Addr} {np1 cp1 : Nat} {Ap2 : Option Addr} {np2 cp2 : Nat} {r : S182} {w : World} (h : impl_BodyItem.f k a0 = some r) (gp0 : (Kd.int .i64).C w Ap0 np0 a0.f9) (lp0 : np0 ≤ cp0) (gp1 : Kd.string.C w Ap1 np1 a0.f10) (lp1 : np1 ≤ cp1) (gp2 : Kd.string.C w Ap2 np2 a0.f11) (lp2 : np2 ≤ cp2) :
    Calls Tryz.prog 146 #[.agg #[.int .i64 a0.f0, .string a0.f1, .string a0.f2, .int .i64 a0.f3, .int .i64 a0.f4, .string a0.f5, .bool a0.f6, .int .i64 a0.f7, .int .i64 a0.f8, .slice Ap0 np0 cp0, .slice Ap1 np1 cp1, .slice Ap2 np2 cp2, .string a0.f12]] w (fun e w' => ∃ v0_ : Value, e = .returned (.agg #[.int .i64 r.f0, .string r.f1, v0_]) ∧ Hp noFP w w' [.own (Zd.slice 182 q182) r.f2 [v0_]]) := by
 obtain rfl := C_len gp0
 obtain rfl := C_len gp1
 obtain rfl := C_len gp2
 have HS := Hp.start w
 have H := Aside0.mk h
 clear h
 unfold impl_BodyItem.f at H
 go_enter Tryz.func146, Tryz.ntmps146
 go_wp2_with (first | ((with_reducible refine gate_dst (N := 1) rfl ?_); refine ev_bx HS ?_; clear HS; (try clear F); intro g1 w1 HS F) | ((with_reducible refine gate_dst (N := 2) rfl ?_); refine ev_bx HS ?_; clear HS; (try clear F); intro g2 w2 HS F))
 replace H := zbind H; obtain ⟨t102001, ht102001, H⟩ := H
 replace H := zbind H; obtain ⟨t105001, ht105001, H⟩ := H
 replace H := zbind H; obtain ⟨t107001, ht107001, H⟩ := H
 refine dr_start [9] HS #[false, false, false, false, false, false, false, false, false, false] (by kernel_rfl) rfl rfl impl_BodyItem.tT1 (fun w6 HT HS HH => ?_)
 (try clear F)
 refine join_ 0 #[true, true, true, true, true, true, true, true, true, true] (fun ((v102002, v105002, v106001, v107002, g3) : Value × Value × Value × Value × Nat) => ([(4, .pointer (some ⟨g1, 3, none⟩)), (5, .int .i64 a0.f3), (6, .agg #[.int .i64 t102001.f0, .string t102001.f1, v102002]), (7, .pointer (some ⟨g1, 4, none⟩)), (8, .int .i64 a0.f4), (9, .agg #[.int .i64 t105001.f0, .string t105001.f1, v105002]), (10, v106001), (11, .agg #[.int .i64 t107001.f0, .string t107001.f1, v107002]), (3, .pointer (some ⟨g3, 0, none⟩))] : List (Tmp × Value))) (fun ((v102002, v105002, v106001, v107002, g3) : Value × Value × Value × Value × Nat) w' => Hp noFP w w' [.box g1 [.int .i64 a0.f0, .string a0.f1, .string a0.f2, .int .i64 a0.f3, .int .i64 a0.f4, .string a0.f5, .bool a0.f6, .int .i64 a0.f7, .int .i64 a0.f8, .slice Ap0 a0.f9.length cp0, .slice Ap1 a0.f10.length cp1, .slice Ap2 a0.f11.length cp2, .string a0.f12] 91, .box g2 [.int .i64 0, .string (⟨#[]⟩ : ByteArray), .slice none 0 0] 182, .emp, .emp, .own (Zd.slice 182 q182) ([t102001, t105001] : List S182) [v106001], .own (Zd.slice 182 q182) t107001.f2 [v107002], .box g3 [.int .i64 t107001.f0, .string t107001.f1, v107002] 182]) ?_ ?_
 rotate_left
 · intro hJ
   refine drq_of [(0, some 4), (1, some 5), (3, some 7), (4, some 8)] ?_
   repeat (first | refine drp HT ?_ | refine drt HT HH ?_)
   refine drq_end ?_
   refine dr_any [2, 8] HT (by kernel_rfl) (by decide) (AllReadyL.cons rfl (by decide) (fun K hK => ?_) (AllReadyL.cons rfl (by decide) (fun K hK => ?_) AllReadyL.nil))
   · refine go_cl1 HS (impl_IntItem.calls ht102001.out) Tryz.func202 ?_; clear HS; (try clear F); intro v102002 wt102001 HS F; obtain ⟨B102002, d102002, rfl, m102002⟩ := HS.form 2 rfl
     refine nrm 6 hK ⟨_, HS⟩ (fun HH => ?_); clear hK K
     refine dr_any [5, 8] HT (by kernel_rfl) (by decide) (AllReadyL.cons rfl (by decide) (fun K hK => ?_) (AllReadyL.cons rfl (by decide) (fun K hK => ?_) AllReadyL.nil))
     · refine go_cl1 HS (impl_IntItem.calls ht105001.out) Tryz.func202 ?_; clear HS; (try clear F); intro v105002 wt105001 HS F; obtain ⟨B105002, d105002, rfl, m105002⟩ := HS.form 3 rfl
       refine nrm 9 hK ⟨_, HS⟩ (fun HH => ?_); clear hK K
       refine dr_any [6, 8] HT (by kernel_rfl) (by decide) (AllReadyL.cons rfl (by decide) (fun K hK => ?_) (AllReadyL.cons rfl (by decide) (fun K hK => ?_) AllReadyL.nil))
       · refine if_wp (by rfl) ?_; refine wp_lit q182 [2, 3] ([t102001, t105001] : List S182) ([.int .i64 t102001.f0, .string t102001.f1, .slice B102002 t102001.f2.length d102002] ++ ([.int .i64 t105001.f0, .string t105001.f1, .slice B105002 t105001.f2.length d105002] ++ [])) HS (by first | (go_simp; done) | (go_simp; rfl)) rfl rfl (Nat.le_of_ble_eq_true rfl) (MadeL.cons (js1 := [2]) (c := [.int .i64 t102001.f0, .string t102001.f1, .slice B102002 t102001.f2.length d102002]) rfl (fun S hd hh => q182_pack (x := t102001) hd (hh 2 (.own (Zd.slice 182 q182) t102001.f2 [.slice B102002 t102001.f2.length d102002]) rfl) (by decide)) (MadeL.cons (js1 := [3]) (c := [.int .i64 t105001.f0, .string t105001.f1, .slice B105002 t105001.f2.length d105002]) rfl (fun S hd hh => q182_pack (x := t105001) hd (hh 3 (.own (Zd.slice 182 q182) t105001.f2 [.slice B105002 t105001.f2.length d105002]) rfl) (by decide)) MadeL.nil (by decide)) (by decide)) ?_; clear HS; (try clear F); intro v106001 w106001 HS; obtain ⟨B106001, d106001, rfl, m106001⟩ := HS.formn 2 4 rfl rfl
         (try simp only [hpn, hpm] at HS)
         have F := HS.boxes; simp only [bxn] at F
         refine nrm 10 hK ⟨_, HS⟩ (fun HH => ?_); clear hK K
         refine dr_any [7, 8] HT (by kernel_rfl) (by decide) (AllReadyL.cons rfl (by decide) (fun K hK => ?_) (AllReadyL.cons rfl (by decide) (fun K hK => ?_) AllReadyL.nil))
         · refine go_cl1 HS (impl_ListItem.calls ht107001.out (HS.rd 4 rfl) m106001) Tryz.func145 ?_; clear HS; (try clear F); intro v107002 wt107001 HS F; obtain ⟨B107002, d107002, rfl, m107002⟩ := HS.form 5 rfl
           refine nrm 11 hK ⟨_, HS⟩ (fun HH => ?_); clear hK K
           refine dr1 8 HT fun K hK => ?_
           refine if_bx HS ?_; clear HS; (try clear F); intro g3 w3 HS F
           refine nrm 3 hK ⟨_, HS⟩ (fun HH => ?_); clear hK K
           refine dr_last 9 HT rfl (by kernel_rfl) (by decide) (fun K hK => ?_)
           refine if_st 6 0 HS (seg := [.int .i64 t107001.f0, .string t107001.f1, .slice B107002 t107001.f2.length d107002]) ?_; clear HS; (try clear F); intro w109001 HS F
           refine hK.out _ _ ?_
           clear hK K
           refine norm_ ?_ (hJ (.slice B102002 t102001.f2.length d102002, .slice B105002 t105001.f2.length d105002, .slice B106001 2 d106001, .slice B107002 t107001.f2.length d107002, g3) _ (HS.arr [some 0, some 1, none, none, some 4, some 5, some 6] (by decide)))
           simp only [putAll, Act.put, ptn]
           (try rfl)
         · refine if_bx HS ?_; clear HS; (try clear F); intro g3 w3 HS F
           refine nrm 3 hK ⟨_, HS⟩ (fun HH => ?_); clear hK K
           refine dr1 7 HT fun K hK => ?_
           refine go_cl1 HS (impl_ListItem.calls ht107001.out (HS.rd 4 rfl) m106001) Tryz.func145 ?_; clear HS; (try clear F); intro v107002 wt107001 HS F; obtain ⟨B107002, d107002, rfl, m107002⟩ := HS.form 6 rfl
           refine nrm 11 hK ⟨_, HS⟩ (fun HH => ?_); clear hK K
           refine dr_last 9 HT rfl (by kernel_rfl) (by decide) (fun K hK => ?_)
           refine if_st 5 0 HS (seg := [.int .i64 t107001.f0, .string t107001.f1, .slice B107002 t107001.f2.length d107002]) ?_; clear HS; (try clear F); intro w109001 HS F
           refine hK.out _ _ ?_
           clear hK K
           refine norm_ ?_ (hJ (.slice B102002 t102001.f2.length d102002, .slice B105002 t105001.f2.length d105002, .slice B106001 2 d106001, .slice B107002 t107001.f2.length d107002, g3) _ (HS.arr [some 0, some 1, none, none, some 4, some 6, some 5] (by decide)))
           simp only [putAll, Act.put, ptn]
           (try rfl)
       · refine if_bx HS ?_; clear HS; (try clear F); intro g3 w3 HS F
         refine nrm 3 hK ⟨_, HS⟩ (fun HH => ?_); clear hK K
         refine dr1 6 HT fun K hK => ?_
         refine if_wp (by rfl) ?_; refine wp_lit q182 [2, 3] ([t102001, t105001] : List S182) ([.int .i64 t102001.f0, .string t102001.f1, .slice B102002 t102001.f2.length d102002] ++ ([.int .i64 t105001.f0, .string t105001.f1, .slice B105002 t105001.f2.length d105002] ++ [])) HS (by first | (go_simp; done) | (go_simp; rfl)) rfl rfl (Nat.le_of_ble_eq_true rfl) (MadeL.cons (js1 := [2]) (c := [.int .i64 t102001.f0, .string t102001.f1, .slice B102002 t102001.f2.length d102002]) rfl (fun S hd hh => q182_pack (x := t102001) hd (hh 2 (.own (Zd.slice 182 q182) t102001.f2 [.slice B102002 t102001.f2.length d102002]) rfl) (by decide)) (MadeL.cons (js1 := [3]) (c := [.int .i64 t105001.f0, .string t105001.f1, .slice B105002 t105001.f2.length d105002]) rfl (fun S hd hh => q182_pack (x := t105001) hd (hh 3 (.own (Zd.slice 182 q182) t105001.f2 [.slice B105002 t105001.f2.length d105002]) rfl) (by decide)) MadeL.nil (by decide)) (by decide)) ?_; clear HS; (try clear F); intro v106001 w106001 HS; obtain ⟨B106001, d106001, rfl, m106001⟩ := HS.formn 2 5 rfl rfl
         (try simp only [hpn, hpm] at HS)
         have F := HS.boxes; simp only [bxn] at F
         refine nrm 10 hK ⟨_, HS⟩ (fun HH => ?_); clear hK K
         refine dr1 7 HT fun K hK => ?_
         refine go_cl1 HS (impl_ListItem.calls ht107001.out (HS.rd 5 rfl) m106001) Tryz.func145 ?_; clear HS; (try clear F); intro v107002 wt107001 HS F; obtain ⟨B107002, d107002, rfl, m107002⟩ := HS.form 6 rfl
         refine nrm 11 hK ⟨_, HS⟩ (fun HH => ?_); clear hK K
         refine dr_last 9 HT rfl (by kernel_rfl) (by decide) (fun K hK => ?_)
         refine if_st 4 0 HS (seg := [.int .i64 t107001.f0, .string t107001.f1, .slice B107002 t107001.f2.length d107002]) ?_; clear HS; (try clear F); intro w109001 HS F
         refine hK.out _ _ ?_
         clear hK K
         refine norm_ ?_ (hJ (.slice B102002 t102001.f2.length d102002, .slice B105002 t105001.f2.length d105002, .slice B106001 2 d106001, .slice B107002 t107001.f2.length d107002, g3) _ (HS.arr [some 0, some 1, none, none, some 5, some 6, some 4] (by decide)))
         simp only [putAll, Act.put, ptn]
         (try rfl)
     · refine if_bx HS ?_; clear HS; (try clear F); intro g3 w3 HS F
       refine nrm 3 hK ⟨_, HS⟩ (fun HH => ?_); clear hK K
       refine dr1 5 HT fun K hK => ?_
       refine go_cl1 HS (impl_IntItem.calls ht105001.out) Tryz.func202 ?_; clear HS; (try clear F); intro v105002 wt105001 HS F; obtain ⟨B105002, d105002, rfl, m105002⟩ := HS.form 4 rfl
       refine nrm 9 hK ⟨_, HS⟩ (fun HH => ?_); clear hK K
       refine dr1 6 HT fun K hK => ?_
       refine if_wp (by rfl) ?_; refine wp_lit q182 [2, 4] ([t102001, t105001] : List S182) ([.int .i64 t102001.f0, .string t102001.f1, .slice B102002 t102001.f2.length d102002] ++ ([.int .i64 t105001.f0, .string t105001.f1, .slice B105002 t105001.f2.length d105002] ++ [])) HS (by first | (go_simp; done) | (go_simp; rfl)) rfl rfl (Nat.le_of_ble_eq_true rfl) (MadeL.cons (js1 := [2]) (c := [.int .i64 t102001.f0, .string t102001.f1, .slice B102002 t102001.f2.length d102002]) rfl (fun S hd hh => q182_pack (x := t102001) hd (hh 2 (.own (Zd.slice 182 q182) t102001.f2 [.slice B102002 t102001.f2.length d102002]) rfl) (by decide)) (MadeL.cons (js1 := [4]) (c := [.int .i64 t105001.f0, .string t105001.f1, .slice B105002 t105001.f2.length d105002]) rfl (fun S hd hh => q182_pack (x := t105001) hd (hh 4 (.own (Zd.slice 182 q182) t105001.f2 [.slice B105002 t105001.f2.length d105002]) rfl) (by decide)) MadeL.nil (by decide)) (by decide)) ?_; clear HS; (try clear F); intro v106001 w106001 HS; obtain ⟨B106001, d106001, rfl, m106001⟩ := HS.formn 2 5 rfl rfl
       (try simp only [hpn, hpm] at HS)
       have F := HS.boxes; simp only [bxn] at F
       refine nrm 10 hK ⟨_, HS⟩ (fun HH => ?_); clear hK K
       refine dr1 7 HT fun K hK => ?_
       refine go_cl1 HS (impl_ListItem.calls ht107001.out (HS.rd 5 rfl) m106001) Tryz.func145 ?_; clear HS; (try clear F); intro v107002 wt107001 HS F; obtain ⟨B107002, d107002, rfl, m107002⟩ := HS.form 6 rfl
       refine nrm 11 hK ⟨_, HS⟩ (fun HH => ?_); clear hK K
       refine dr_last 9 HT rfl (by kernel_rfl) (by decide) (fun K hK => ?_)
       refine if_st 3 0 HS (seg := [.int .i64 t107001.f0, .string t107001.f1, .slice B107002 t107001.f2.length d107002]) ?_; clear HS; (try clear F); intro w109001 HS F
       refine hK.out _ _ ?_
       clear hK K
       refine norm_ ?_ (hJ (.slice B102002 t102001.f2.length d102002, .slice B105002 t105001.f2.length d105002, .slice B106001 2 d106001, .slice B107002 t107001.f2.length d107002, g3) _ (HS.arr [some 0, some 1, none, none, some 5, some 6, some 3] (by decide)))
       simp only [putAll, Act.put, ptn]
       (try rfl)
   · refine if_bx HS ?_; clear HS; (try clear F); intro g3 w3 HS F
     refine nrm 3 hK ⟨_, HS⟩ (fun HH => ?_); clear hK K
     refine dr1 2 HT fun K hK => ?_
     refine go_cl1 HS (impl_IntItem.calls ht102001.out) Tryz.func202 ?_; clear HS; (try clear F); intro v102002 wt102001 HS F; obtain ⟨B102002, d102002, rfl, m102002⟩ := HS.form 3 rfl
     refine nrm 6 hK ⟨_, HS⟩ (fun HH => ?_); clear hK K
     refine dr1 5 HT fun K hK => ?_
     refine go_cl1 HS (impl_IntItem.calls ht105001.out) Tryz.func202 ?_; clear HS; (try clear F); intro v105002 wt105001 HS F; obtain ⟨B105002, d105002, rfl, m105002⟩ := HS.form 4 rfl
     refine nrm 9 hK ⟨_, HS⟩ (fun HH => ?_); clear hK K
     refine dr1 6 HT fun K hK => ?_
     refine if_wp (by rfl) ?_; refine wp_lit q182 [3, 4] ([t102001, t105001] : List S182) ([.int .i64 t102001.f0, .string t102001.f1, .slice B102002 t102001.f2.length d102002] ++ ([.int .i64 t105001.f0, .string t105001.f1, .slice B105002 t105001.f2.length d105002] ++ [])) HS (by first | (go_simp; done) | (go_simp; rfl)) rfl rfl (Nat.le_of_ble_eq_true rfl) (MadeL.cons (js1 := [3]) (c := [.int .i64 t102001.f0, .string t102001.f1, .slice B102002 t102001.f2.length d102002]) rfl (fun S hd hh => q182_pack (x := t102001) hd (hh 3 (.own (Zd.slice 182 q182) t102001.f2 [.slice B102002 t102001.f2.length d102002]) rfl) (by decide)) (MadeL.cons (js1 := [4]) (c := [.int .i64 t105001.f0, .string t105001.f1, .slice B105002 t105001.f2.length d105002]) rfl (fun S hd hh => q182_pack (x := t105001) hd (hh 4 (.own (Zd.slice 182 q182) t105001.f2 [.slice B105002 t105001.f2.length d105002]) rfl) (by decide)) MadeL.nil (by decide)) (by decide)) ?_; clear HS; (try clear F); intro v106001 w106001 HS; obtain ⟨B106001, d106001, rfl, m106001⟩ := HS.formn 2 5 rfl rfl
     (try simp only [hpn, hpm] at HS)
     have F := HS.boxes; simp only [bxn] at F
     refine nrm 10 hK ⟨_, HS⟩ (fun HH => ?_); clear hK K
     refine dr1 7 HT fun K hK => ?_
     refine go_cl1 HS (impl_ListItem.calls ht107001.out (HS.rd 5 rfl) m106001) Tryz.func145 ?_; clear HS; (try clear F); intro v107002 wt107001 HS F; obtain ⟨B107002, d107002, rfl, m107002⟩ := HS.form 6 rfl
     refine nrm 11 hK ⟨_, HS⟩ (fun HH => ?_); clear hK K
     refine dr_last 9 HT rfl (by kernel_rfl) (by decide) (fun K hK => ?_)
     refine if_st 2 0 HS (seg := [.int .i64 t107001.f0, .string t107001.f1, .slice B107002 t107001.f2.length d107002]) ?_; clear HS; (try clear F); intro w109001 HS F
     refine hK.out _ _ ?_
     clear hK K
     refine norm_ ?_ (hJ (.slice B102002 t102001.f2.length d102002, .slice B105002 t105001.f2.length d105002, .slice B106001 2 d106001, .slice B107002 t107001.f2.length d107002, g3) _ (HS.arr [some 0, some 1, none, none, some 5, some 6, some 2] (by decide)))
     simp only [putAll, Act.put, ptn]
     (try rfl)
 rintro ⟨v102002, v105002, v106001, v107002, g3⟩ w199999 HS
 obtain ⟨B106001, d106001, rfl, m106001⟩ := HS.formn 2 4 rfl (by first | rfl | simp)
 obtain ⟨B107002, d107002, rfl, m107002⟩ := HS.form 5 rfl
 have F := HS.boxes; simp only [bxn] at F
 refine norm_ (a' := ?_) ?_ ?_
 rotate_left
 · simp only [putAll, Act.put, ptn]; rfl
 refine done_ (done_of HT.out (by kernel_rfl)) ?_
 (try go_wp2)
 replace H := zbind H; obtain ⟨t202001, ht202001, H⟩ := H
 replace H := zbind H; obtain ⟨t205001, ht205001, H⟩ := H
 replace H := zbind H; obtain ⟨t209001, ht209001, H⟩ := H
 replace H := zbind H; obtain ⟨t212001, ht212001, H⟩ := H
 replace H := zbind H; obtain ⟨t215001, ht215001, H⟩ := H
 replace H := zbind H; obtain ⟨t218001, ht218001, H⟩ := H
 replace H := zbind H; obtain ⟨t221001, ht221001, H⟩ := H
 replace H := zbind H; obtain ⟨t224001, ht224001, H⟩ := H
 replace H := zbind H; obtain ⟨t227001, ht227001, H⟩ := H
 replace H := zbind H; obtain ⟨t230001, ht230001, H⟩ := H
 replace H := zbind H; obtain ⟨t232001, ht232001, H⟩ := H
 refine dr_start2 [.box g1 [.int .i64 a0.f0, .string a0.f1, .string a0.f2, .int .i64 a0.f3, .int .i64 a0.f4, .string a0.f5, .bool a0.f6, .int .i64 a0.f7, .int .i64 a0.f8, .slice Ap0 a0.f9.length cp0, .slice Ap1 a0.f10.length cp1, .slice Ap2 a0.f11.length cp2, .string a0.f12] 91, .box g2 [.int .i64 0, .string (⟨#[]⟩ : ByteArray), .slice none 0 0] 182, .emp, .emp, .own (Zd.slice 182 q182) ([t102001, t105001] : List S182) [.slice B106001 2 d106001], .emp, .box g3 [.int .i64 t107001.f0, .string t107001.f1, .slice B107002 t107001.f2.length d107002] 182] [33] HS (HS.arr [some 0, some 1, none, none, some 4, none, some 6] (by decide)) #[false, false, false, false, false, false, false, false, false, false, false, false, false, false, false, false, false, false, false, false, false, false, false, false, false, false, false, false, false, false, false, false, false, false] (by kernel_rfl) rfl rfl impl_BodyItem.tT2 (fun w9 HT HS HH => ?_)
 (try clear F)
 refine drq_of [(0, some 12), (1, some 13), (3, some 15), (4, some 16), (6, some 18), (7, some 19), (8, some 20), (10, some 22), (11, some 23), (13, some 25), (14, some 26), (16, some 28), (17, some 29), (19, some 31), (20, some 32), (22, some 34), (23, some 35), (25, some 37), (26, some 38), (28, some 40), (29, some 41)] ?_
 repeat (first | refine drp HT ?_ | refine drt HT HH ?_)
 refine drq_end ?_
 refine dr1 2 HT fun K hK => ?_
 refine go_cl1 HS (impl_IntItem.calls ht202001.out) Tryz.func202 ?_; clear HS; (try clear F); intro v202002 wt202001 HS F; obtain ⟨B202002, d202002, rfl, m202002⟩ := HS.form 7 rfl
 refine hK.out _ _ ⟨[], HS.arr [some 0, some 1, none, none, some 4, none, some 6] (by decide)⟩ (fun HH => ?_)
 clear hK K
 refine norm_ (a' := ?_) ?_ ?_
 rotate_left
 · show Act.put _ (some 14) _ = _; simp only [Act.put, ptn]; rfl
 refine dr1 5 HT fun K hK => ?_
 refine go_cl1 HS (impl_TextItem.calls ht205001.out) Tryz.func203 ?_; clear HS; (try clear F); intro v205002 wt205001 HS F; obtain ⟨B205002, d205002, rfl, m205002⟩ := HS.form 8 rfl
 refine hK.out _ _ ⟨[], HS.arr [some 0, some 1, none, none, some 4, none, some 6] (by decide)⟩ (fun HH => ?_)
 clear hK K
 refine norm_ (a' := ?_) ?_ ?_
 rotate_left
 · show Act.put _ (some 17) _ = _; simp only [Act.put, ptn]; rfl
 refine dr1 9 HT fun K hK => ?_
 refine go_cl1 HS (impl_TextItem.calls ht209001.out) Tryz.func203 ?_; clear HS; (try clear F); intro v209002 wt209001 HS F; obtain ⟨B209002, d209002, rfl, m209002⟩ := HS.form 9 rfl
 refine hK.out _ _ ⟨[], HS.arr [some 0, some 1, none, none, some 4, none, some 6] (by decide)⟩ (fun HH => ?_)
 clear hK K
 refine norm_ (a' := ?_) ?_ ?_
 rotate_left
 · show Act.put _ (some 21) _ = _; simp only [Act.put, ptn]; rfl
 refine dr1 12 HT fun K hK => ?_
 refine go_cl1 HS (impl_bytesItem.calls ht212001.out) Tryz.func147 ?_; clear HS; (try clear F); intro v212002 wt212001 HS F; obtain ⟨B212002, d212002, rfl, m212002⟩ := HS.form 10 rfl
 refine hK.out _ _ ⟨[], HS.arr [some 0, some 1, none, none, some 4, none, some 6] (by decide)⟩ (fun HH => ?_)
 clear hK K
 refine norm_ (a' := ?_) ?_ ?_
 rotate_left
 · show Act.put _ (some 24) _ = _; simp only [Act.put, ptn]; rfl
 refine dr1 15 HT fun K hK => ?_
 refine go_cl1 HS (impl_boolItem.calls ht215001.out) Tryz.func204 ?_; clear HS; (try clear F); intro v215002 wt215001 HS F; obtain ⟨B215002, d215002, rfl, m215002⟩ := HS.form 11 rfl
 refine hK.out _ _ ⟨[], HS.arr [some 0, some 1, none, none, some 4, none, some 6] (by decide)⟩ (fun HH => ?_)
 clear hK K
 refine norm_ (a' := ?_) ?_ ?_
 rotate_left
 · show Act.put _ (some 27) _ = _; simp only [Act.put, ptn]; rfl
 refine dr1 18 HT fun K hK => ?_
 refine go_cl1 HS (impl_IntItem.calls ht218001.out) Tryz.func202 ?_; clear HS; (try clear F); intro v218002 wt218001 HS F; obtain ⟨B218002, d218002, rfl, m218002⟩ := HS.form 12 rfl
 refine hK.out _ _ ⟨[], HS.arr [some 0, some 1, none, none, some 4, none, some 6] (by decide)⟩ (fun HH => ?_)
 clear hK K
 refine norm_ (a' := ?_) ?_ ?_
 rotate_left
 · show Act.put _ (some 30) _ = _; simp only [Act.put, ptn]; rfl
 refine dr1 21 HT fun K hK => ?_
 refine go_cl1 HS (impl_IntItem.calls ht221001.out) Tryz.func202 ?_; clear HS; (try clear F); intro v221002 wt221001 HS F; obtain ⟨B221002, d221002, rfl, m221002⟩ := HS.form 13 rfl
 refine hK.out _ _ ⟨[], HS.arr [some 0, some 1, none, none, some 4, none, some 6] (by decide)⟩ (fun HH => ?_)
 clear hK K
 refine norm_ (a' := ?_) ?_ ?_
 rotate_left
 · show Act.put _ (some 33) _ = _; simp only [Act.put, ptn]; rfl
 refine dr1 24 HT fun K hK => ?_
 refine go_cl1 HS (impl_each_int_0.calls ht224001.out (HS.ro gp0) lp0) Tryz.func205 ?_; clear HS; (try clear F); intro v224002 wt224001 HS F; obtain ⟨B224002, d224002, rfl, m224002⟩ := HS.form 14 rfl
 refine hK.out _ _ ⟨[], HS.arr [some 0, some 1, none, none, some 4, none, some 6] (by decide)⟩ (fun HH => ?_)
 clear hK K
 refine norm_ (a' := ?_) ?_ ?_
 rotate_left
 · show Act.put _ (some 36) _ = _; simp only [Act.put, ptn]; rfl
 refine dr1 27 HT fun K hK => ?_
 refine go_cl1 HS (impl_each_string_0.calls ht227001.out (HS.ro gp1) lp1) Tryz.func206 ?_; clear HS; (try clear F); intro v227002 wt227001 HS F; obtain ⟨B227002, d227002, rfl, m227002⟩ := HS.form 15 rfl
 refine hK.out _ _ ⟨[], HS.arr [some 0, some 1, none, none, some 4, none, some 6] (by decide)⟩ (fun HH => ?_)
 clear hK K
 refine norm_ (a' := ?_) ?_ ?_
 rotate_left
 · show Act.put _ (some 39) _ = _; simp only [Act.put, ptn]; rfl
 refine dr1 30 HT fun K hK => ?_
 refine go_cl1 HS (impl_each_string_0.calls ht230001.out (HS.ro gp2) lp2) Tryz.func206 ?_; clear HS; (try clear F); intro v230002 wt230001 HS F; obtain ⟨B230002, d230002, rfl, m230002⟩ := HS.form 16 rfl
 refine hK.out _ _ ⟨[], HS.arr [some 0, some 1, none, none, some 4, none, some 6] (by decide)⟩ (fun HH => ?_)
 clear hK K
 refine norm_ (a' := ?_) ?_ ?_
 rotate_left
 · show Act.put _ (some 42) _ = _; simp only [Act.put, ptn]; rfl
 refine dr1 31 HT fun K hK => ?_
 refine if_wp (by rfl) ?_; refine wp_lit q182 [7, 8, 5, 9, 10, 11, 12, 13, 14, 15, 16] ([t202001, t205001, t107001, t209001, t212001, t215001, t218001, t221001, t224001, t227001, t230001] : List S182) ([.int .i64 t202001.f0, .string t202001.f1, .slice B202002 t202001.f2.length d202002] ++ ([.int .i64 t205001.f0, .string t205001.f1, .slice B205002 t205001.f2.length d205002] ++ ([.int .i64 t107001.f0, .string t107001.f1, .slice B107002 t107001.f2.length d107002] ++ ([.int .i64 t209001.f0, .string t209001.f1, .slice B209002 t209001.f2.length d209002] ++ ([.int .i64 t212001.f0, .string t212001.f1, .slice B212002 t212001.f2.length d212002] ++ ([.int .i64 t215001.f0, .string t215001.f1, .slice B215002 t215001.f2.length d215002] ++ ([.int .i64 t218001.f0, .string t218001.f1, .slice B218002 t218001.f2.length d218002] ++ ([.int .i64 t221001.f0, .string t221001.f1, .slice B221002 t221001.f2.length d221002] ++ ([.int .i64 t224001.f0, .string t224001.f1, .slice B224002 t224001.f2.length d224002] ++ ([.int .i64 t227001.f0, .string t227001.f1, .slice B227002 t227001.f2.length d227002] ++ ([.int .i64 t230001.f0, .string t230001.f1, .slice B230002 t230001.f2.length d230002] ++ []))))))))))) HS (by first | (go_simp; done) | (go_simp; rfl)) rfl rfl (Nat.le_of_ble_eq_true rfl) (MadeL.cons (js1 := [7]) (c := [.int .i64 t202001.f0, .string t202001.f1, .slice B202002 t202001.f2.length d202002]) rfl (fun S hd hh => q182_pack (x := t202001) hd (hh 7 (.own (Zd.slice 182 q182) t202001.f2 [.slice B202002 t202001.f2.length d202002]) rfl) (by decide)) (MadeL.cons (js1 := [8]) (c := [.int .i64 t205001.f0, .string t205001.f1, .slice B205002 t205001.f2.length d205002]) rfl (fun S hd hh => q182_pack (x := t205001) hd (hh 8 (.own (Zd.slice 182 q182) t205001.f2 [.slice B205002 t205001.f2.length d205002]) rfl) (by decide)) (MadeL.cons (js1 := [5]) (c := [.int .i64 t107001.f0, .string t107001.f1, .slice B107002 t107001.f2.length d107002]) rfl (fun S hd hh => q182_pack (x := t107001) hd (hh 5 (.own (Zd.slice 182 q182) t107001.f2 [.slice B107002 t107001.f2.length d107002]) rfl) (by decide)) (MadeL.cons (js1 := [9]) (c := [.int .i64 t209001.f0, .string t209001.f1, .slice B209002 t209001.f2.length d209002]) rfl (fun S hd hh => q182_pack (x := t209001) hd (hh 9 (.own (Zd.slice 182 q182) t209001.f2 [.slice B209002 t209001.f2.length d209002]) rfl) (by decide)) (MadeL.cons (js1 := [10]) (c := [.int .i64 t212001.f0, .string t212001.f1, .slice B212002 t212001.f2.length d212002]) rfl (fun S hd hh => q182_pack (x := t212001) hd (hh 10 (.own (Zd.slice 182 q182) t212001.f2 [.slice B212002 t212001.f2.length d212002]) rfl) (by decide)) (MadeL.cons (js1 := [11]) (c := [.int .i64 t215001.f0, .string t215001.f1, .slice B215002 t215001.f2.length d215002]) rfl (fun S hd hh => q182_pack (x := t215001) hd (hh 11 (.own (Zd.slice 182 q182) t215001.f2 [.slice B215002 t215001.f2.length d215002]) rfl) (by decide)) (MadeL.cons (js1 := [12]) (c := [.int .i64 t218001.f0, .string t218001.f1, .slice B218002 t218001.f2.length d218002]) rfl (fun S hd hh => q182_pack (x := t218001) hd (hh 12 (.own (Zd.slice 182 q182) t218001.f2 [.slice B218002 t218001.f2.length d218002]) rfl) (by decide)) (MadeL.cons (js1 := [13]) (c := [.int .i64 t221001.f0, .string t221001.f1, .slice B221002 t221001.f2.length d221002]) rfl (fun S hd hh => q182_pack (x := t221001) hd (hh 13 (.own (Zd.slice 182 q182) t221001.f2 [.slice B221002 t221001.f2.length d221002]) rfl) (by decide)) (MadeL.cons (js1 := [14]) (c := [.int .i64 t224001.f0, .string t224001.f1, .slice B224002 t224001.f2.length d224002]) rfl (fun S hd hh => q182_pack (x := t224001) hd (hh 14 (.own (Zd.slice 182 q182) t224001.f2 [.slice B224002 t224001.f2.length d224002]) rfl) (by decide)) (MadeL.cons (js1 := [15]) (c := [.int .i64 t227001.f0, .string t227001.f1, .slice B227002 t227001.f2.length d227002]) rfl (fun S hd hh => q182_pack (x := t227001) hd (hh 15 (.own (Zd.slice 182 q182) t227001.f2 [.slice B227002 t227001.f2.length d227002]) rfl) (by decide)) (MadeL.cons (js1 := [16]) (c := [.int .i64 t230001.f0, .string t230001.f1, .slice B230002 t230001.f2.length d230002]) rfl (fun S hd hh => q182_pack (x := t230001) hd (hh 16 (.own (Zd.slice 182 q182) t230001.f2 [.slice B230002 t230001.f2.length d230002]) rfl) (by decide)) MadeL.nil (by decide)) (by decide)) (by decide)) (by decide)) (by decide)) (by decide)) (by decide)) (by decide)) (by decide)) (by decide)) (by decide)) ?_; clear HS; (try clear F); intro v231001 w231001 HS; obtain ⟨B231001, d231001, rfl, m231001⟩ := HS.formn 11 17 rfl rfl
 (try simp only [hpn, hpm] at HS)
 have F := HS.boxes; simp only [bxn] at F
 refine hK.out _ _ ⟨[], HS.arr [some 0, some 1, none, none, some 4, none, some 6] (by decide)⟩ (fun HH => ?_)
 clear hK K
 refine norm_ (a' := ?_) ?_ ?_
 rotate_left
 · show Act.put _ (some 43) _ = _; simp only [Act.put, ptn]; rfl
 refine dr1 32 HT fun K hK => ?_
 refine go_cl1 HS (impl_ListItem.calls ht232001.out (HS.rd 17 rfl) m231001) Tryz.func145 ?_; clear HS; (try clear F); intro v232002 wt232001 HS F; obtain ⟨B232002, d232002, rfl, m232002⟩ := HS.form 18 rfl
 refine hK.out _ _ ⟨[], HS.arr [some 0, some 1, none, none, some 4, none, some 6] (by decide)⟩ (fun HH => ?_)
 clear hK K
 refine norm_ (a' := ?_) ?_ ?_
 rotate_left
 · show Act.put _ (some 44) _ = _; simp only [Act.put, ptn]; rfl
 refine dr_last 33 HT rfl (by kernel_rfl) (by decide) (fun K hK => ?_)
 refine if_st 1 0 HS (seg := [.int .i64 t232001.f0, .string t232001.f1, .slice B232002 t232001.f2.length d232002]) ?_; clear HS; (try clear F); intro w233001 HS F
 refine hK.out _ _ ?_
 clear hK K
 refine done_ (done_of HT.out (by kernel_rfl)) ?_
 (try clear F)
 have F := HS.boxes; simp only [bxn] at F
 obtain rfl := zsome H
 go_wp2
 exact bodyPost_ret (results_single rfl (.cell _ _ _ _ _ rfl (HS.boxAt (i := 1) rfl) Tryz.underlying182 rfl (by kernel_rfl) .nil)) rfl ⟨_, rfl, HS.pick [18] (by decide) (by rfl)⟩
/-! ### impl_CertText: function 64 -/
def impl_CertText.f (k : Nat) (a0 : S91) : Option (ByteArray × Bool) := ((impl_CertOk.f k a0).bind fun t3 => (if t3 = true then ((impl_BodyItem.f k a0).bind fun t101001 => ((impl_bytesItem.f a0.f12).bind fun t104001 => ((impl_ListItem.f k ([t101001, t104001] : List S182)).bind fun t106001 => ((impl_ItemText.f k t106001).bind fun t107001 => (some (t107001.1, t107001.2)))))) else (some ((⟨#[]⟩ : ByteArray), false))))
def impl_CertText.T3 : Bool × List (List Nat × List Nat) := (true, [([], []), ([0], [0]), ([], []), ([2], [2]), ([3, 1], [3]), ([1, 4], [1, 4]), ([5, 4], [5]), ([6, 6], [6]), ([7], [7]), ([7], [7]), ([8, 7, 0, 1, 2, 3, 4, 5, 6, 7, 8, 9], [8]), ([9, 10, 0, 1, 2, 3, 4, 5, 6, 7, 8, 9, 10], [9])])
theorem impl_CertText.tT3 : rtab .any (opsOf Tryz.f64 3) = impl_CertText.T3 := by kernel_rfl
set_option maxHeartbeats 16000000 in
theorem impl_CertText.calls {k : Nat} {a0 : S91} {Ap0 : Option Addr} {np0 cp0 : Nat} {Ap1 : Option Addr} {np1 cp1 : Nat} {Ap2 : Option Addr} {np2 cp2 : Nat} {mG : Int} {r1 : ByteArray} {r2 : Bool} {w : World} (h : impl_CertText.f k a0 = some (r1, r2)) (gp0 : (Kd.int .i64).C w Ap0 np0 a0.f9) (lp0 : np0 ≤ cp0) (gp1 : Kd.string.C w Ap1 np1 a0.f10) (lp1 : np1 ≤ cp1) (gp2 : Kd.string.C w Ap2 np2 a0.f11) (lp2 : np2 ≤ cp2) (hgM : w.cell? ⟨0, 0, none⟩ = some (.int .i64 mG)) :
    Calls Tryz.prog 64 #[.agg #[.int .i64 a0.f0, .string a0.f1, .string a0.f2, .int .i64 a0.f3, .int .i64 a0.f4, .string a0.f5, .bool a0.f6, .int .i64 a0.f7, .int .i64 a0.f8, .slice Ap0 np0 cp0, .slice Ap1 np1 cp1, .slice Ap2 np2 cp2, .string a0.f12]] w (fun e w' => e = .returned (.tuple #[.string r1, .bool r2]) ∧ Hp noFP w w' []) := by
 obtain rfl := C_len gp0
 obtain rfl := C_len gp1
 obtain rfl := C_len gp2
 have HS := Hp.start w
 have H := Aside0.mk h
 clear h
 unfold impl_CertText.f at H
 go_enter Tryz.func64, Tryz.ntmps64
 replace H := zbind H; obtain ⟨t3, ht3, H⟩ := H
 go_upto_if 6 with (first | ((with_reducible refine gate_dst (N := 1) rfl ?_); refine ev_bx HS ?_; clear HS; (try clear F); intro g1 w1 HS F) | ((with_reducible refine gate_dst (N := 5) rfl ?_); refine ev_cl HS (impl_CertOk.calls ht3.out (HS.ro gp0) lp0 (HS.ro gp1) lp1 (HS.ro gp2) lp2 (HS.keepc hgM)) Tryz.func124 ?_; clear HS; (try clear F); intro wt3 HS F))
 by_cases c5 : t3 = true
 case neg =>
  replace H := zneg c5 H
  replace c5 := eq_false_of_ne_true c5
  subst c5
  (try simp only [dcn, if_true, Bool.false_eq_true, if_false])
  obtain ⟨rfl, rfl⟩ := zsome2 H
  go_wp2
  exact bodyPost_ret (results_list (rs := [.tmp 2, .tmp 3]) rfl (by simp) (.tmp (.tmp .nil))) rfl ⟨rfl, HS.pick [] (by decide) (by rfl)⟩
 replace H := zpos c5 H
 subst c5
 (try simp only [dcn, if_true, Bool.false_eq_true, if_false])
 (try go_wp2)
 replace H := zbind H; obtain ⟨t101001, ht101001, H⟩ := H
 replace H := zbind H; obtain ⟨t104001, ht104001, H⟩ := H
 replace H := zbind H; obtain ⟨t106001, ht106001, H⟩ := H
 replace H := zbind H; obtain ⟨t107001, ht107001, H⟩ := H
 refine dr_start [] HS #[false, false, false, false, false, false, false, false, false, false, false, false] (by kernel_rfl) rfl rfl impl_CertText.tT3 (fun w7 HT HS HH => ?_)
 (try clear F)
 refine drq_of [(0, some 7), (2, some 9), (3, some 10)] ?_
 repeat (first | refine drp HT ?_ | refine drt HT HH ?_)
 refine drq_end ?_
 refine dr1 1 HT fun K hK => ?_
 refine go_cl1 HS (impl_BodyItem.calls ht101001.out (HS.ro gp0) lp0 (HS.ro gp1) lp1 (HS.ro gp2) lp2) Tryz.func146 ?_; clear HS; (try clear F); intro v101002 wt101001 HS F; obtain ⟨B101002, d101002, rfl, m101002⟩ := HS.form 1 rfl
 refine nrm 8 hK ⟨_, HS⟩ (fun HH => ?_); clear hK K
 refine dr1 4 HT fun K hK => ?_
 refine go_cl1 HS (impl_bytesItem.calls ht104001.out) Tryz.func147 ?_; clear HS; (try clear F); intro v104002 wt104001 HS F; obtain ⟨B104002, d104002, rfl, m104002⟩ := HS.form 2 rfl
 refine nrm 11 hK ⟨_, HS⟩ (fun HH => ?_); clear hK K
 refine dr1 5 HT fun K hK => ?_
 refine if_wp (by rfl) ?_; refine wp_lit q182 [1, 2] ([t101001, t104001] : List S182) ([.int .i64 t101001.f0, .string t101001.f1, .slice B101002 t101001.f2.length d101002] ++ ([.int .i64 t104001.f0, .string t104001.f1, .slice B104002 t104001.f2.length d104002] ++ [])) HS (by first | (go_simp; done) | (go_simp; rfl)) rfl rfl (Nat.le_of_ble_eq_true rfl) (MadeL.cons (js1 := [1]) (c := [.int .i64 t101001.f0, .string t101001.f1, .slice B101002 t101001.f2.length d101002]) rfl (fun S hd hh => q182_pack (x := t101001) hd (hh 1 (.own (Zd.slice 182 q182) t101001.f2 [.slice B101002 t101001.f2.length d101002]) rfl) (by decide)) (MadeL.cons (js1 := [2]) (c := [.int .i64 t104001.f0, .string t104001.f1, .slice B104002 t104001.f2.length d104002]) rfl (fun S hd hh => q182_pack (x := t104001) hd (hh 2 (.own (Zd.slice 182 q182) t104001.f2 [.slice B104002 t104001.f2.length d104002]) rfl) (by decide)) MadeL.nil (by decide)) (by decide)) ?_; clear HS; (try clear F); intro v105001 w105001 HS; obtain ⟨B105001, d105001, rfl, m105001⟩ := HS.formn 2 3 rfl rfl
 (try simp only [hpn, hpm] at HS)
 have F := HS.boxes; simp only [bxn] at F
 refine nrm 12 hK ⟨_, HS⟩ (fun HH => ?_); clear hK K
 refine dr1 6 HT fun K hK => ?_
 refine go_cl1 HS (impl_ListItem.calls ht106001.out (HS.rd 3 rfl) m105001) Tryz.func145 ?_; clear HS; (try clear F); intro v106002 wt106001 HS F; obtain ⟨B106002, d106002, rfl, m106002⟩ := HS.form 4 rfl
 refine nrm 13 hK ⟨_, HS⟩ (fun HH => ?_); clear hK K
 refine dr1 7 HT fun K hK => ?_
 refine go_cl HS (impl_ItemText.calls ht107001.out (HS.rd 4 rfl) m106002) Tryz.func144 ?_; clear HS; (try clear F); intro wt107001 HS F
 refine nrm 14 hK ⟨_, HS⟩ (fun HH => ?_); clear hK K
 refine drq_of [(8, some 15), (9, some 16), (10, some 2), (11, some 3)] ?_
 repeat (refine drp HT ?_)
 refine drq_end ?_
 refine done_ (done_of HT.out (by kernel_rfl)) ?_
 (try clear F)
 have F := HS.boxes; simp only [bxn] at F
 obtain ⟨rfl, rfl⟩ := zsome2 H
 go_wp2
 exact bodyPost_ret (results_list (rs := [.tmp 2, .tmp 3]) rfl (by simp) (.tmp (.tmp .nil))) rfl ⟨rfl, HS.pick [] (by decide) (by rfl)⟩
end Go.Proofs.YtacocpknielofaaGreatDoor.F

/- Functions of the program and of the law, and that their calls do what is written here. -/
import Derived.Test.YtacocpknielofaaGreatDoorZgFnExactStoreOka
import Derived.Test.YtacocpknielofaaGreatDoorZgFnExactStoreOkc
import Derived.Test.YtacocpknielofaaGreatDoorZgFnExactStoreOkd
import Derived.Test.YtacocpknielofaaGreatDoorZgFnExactStoreOke
import Derived.Test.YtacocpknielofaaGreatDoorZgFnExactStoreOkf
namespace Go.Proofs.YtacocpknielofaaGreatDoor.F
open Go.RowKit Go.Proofs.YtacocpknielofaaGreatDoorW.PrintWords Go.Proofs.YtacocpknielofaaGreatDoorW.PrintLast Go.Proofs.YtacocpknielofaaGreatDoorW.PrintMore Go.Proofs.YtacocpknielofaaGreatDoor.Z
attribute [local go_sem] max2_int min2_int max_two min_two max_three min_three max_four min_four
set_option linter.unusedVariables false
set_option linter.unusedSimpArgs false
set_option maxRecDepth 100000
/-! ### spec_l10Item: function 138 -/
def spec_l10Item.l0 : Nat → (List S182) → Int → S81 → Option (S182)
  | 0, _, _, _ => none
  | k + 1, l21, x23, a0 => (if x23 < (a0.f5.length : Int) then (if 0 ≤ x23 then (if x23 < (a0.f5.length : Int) then ((spec_l09Ints.f k ([(rd_T238 a0.f5 x23).f0, (rd_T238 a0.f5 x23).f1] : List Int)).bind fun t215001 => (if l21.length + 1 ≤ 2932031007402 then (lets (l21 ++ ([t215001] : List S182)) fun y217999 => (spec_l10Item.l0 k y217999 (wrap64 (x23 + 1)) a0)) else none)) else none) else none) else ((spec_TextItem.f a0.f0).bind fun t302001 => ((spec_IntItem.f k a0.f1).bind fun t305001 => ((spec_IntItem.f k a0.f2).bind fun t308001 => ((spec_IntItem.f k a0.f3).bind fun t311001 => ((spec_IntItem.f k a0.f4).bind fun t314001 => (some (⟨48, (⟨#[]⟩ : ByteArray), ([t302001, t305001, t308001, t311001, t314001, (⟨48, (⟨#[]⟩ : ByteArray), l21⟩ : S182)] : List S182)⟩ : S182))))))))
def spec_l10Item.f (k : Nat) (a0 : S81) : Option (S182) := (spec_l10Item.l0 k [] 0 a0)
def spec_l10Item.T5 : Bool × List (List Nat × List Nat) := (true, [([], []), ([0], [0]), ([], []), ([2], [2]), ([], []), ([3, 4], [3, 4]), ([5], [5]), ([6], [6]), ([], []), ([8], [8]), ([], []), ([9, 10], [9, 10]), ([11], [11]), ([12], [12]), ([7, 13], [7, 13]), ([14], [14]), ([15], [15]), ([1, 16, 15], [1, 16]), ([0, 1, 2, 3, 4, 5, 6, 7, 8, 9, 10, 11, 12, 13, 14, 15, 16, 17], []), ([18, 17, 17, 0, 1, 2, 3, 4, 5, 6, 7, 8, 9, 10, 11, 12, 13, 14, 15, 16, 17], [17, 18])])
theorem spec_l10Item.tT5 : rtab .any (opsOf Tryz.f138 5) = spec_l10Item.T5 := by kernel_rfl
def spec_l10Item.T6 : Bool × List (List Nat × List Nat) := (true, [([], []), ([0], [0]), ([1], [1]), ([], []), ([3], [3]), ([4, 2], [4]), ([], []), ([6], [6]), ([7, 5], [7]), ([], []), ([9], [9]), ([10, 8], [10]), ([], []), ([12], [12]), ([13, 11], [13]), ([], []), ([2, 5, 8, 11, 14, 15], [2, 5, 8, 11, 14, 15]), ([16], [16]), ([17, 14, 0, 1, 2, 3, 4, 5, 6, 7, 8, 9, 10, 11, 12, 13, 14, 15, 16, 17], [17])])
theorem spec_l10Item.tT6 : rtab .any (opsOf Tryz.f138 6) = spec_l10Item.T6 := by kernel_rfl
set_option maxHeartbeats 16000000 in
theorem spec_l10Item.calls {k : Nat} {a0 : S81} {Ap0 : Option Addr} {np0 cp0 : Nat} {r : S182} {w : World} (h : spec_l10Item.f k a0 = some r) (gp0 : k238.C w Ap0 np0 a0.f5) (lp0 : np0 ≤ cp0) :
    Calls Tryz.prog 138 #[.agg #[.string a0.f0, .int .i64 a0.f1, .int .i64 a0.f2, .int .i64 a0.f3, .int .i64 a0.f4, .slice Ap0 np0 cp0, .string a0.f6]] w (fun e w' => ∃ v0_ : Value, e = .returned (.agg #[.int .i64 r.f0, .string r.f1, v0_]) ∧ Hp noFP w w' [.own (Zd.slice 182 q182) r.f2 [v0_]]) := by
 obtain rfl := C_len gp0
 have HS := Hp.start w
 have H := Aside0.mk h
 clear h
 unfold spec_l10Item.f at H
 go_enter Tryz.func138, Tryz.ntmps138
 go_wp2_with (first | ((with_reducible refine gate_dst (N := 1) rfl ?_); refine ev_box rfl HS (by first | (go_simp; done) | (go_simp; rfl)) rfl ?_; clear HS; (try clear F); intro g1 w1 HS; (try simp only [hpn, hpm] at HS); have F := HS.boxes; simp only [bxn] at F) | ((with_reducible refine gate_dst (N := 2) rfl ?_); refine ev_box rfl HS (by first | (go_simp; done) | (go_simp; rfl)) rfl ?_; clear HS; (try clear F); intro g2 w2 HS; (try simp only [hpn, hpm] at HS); have F := HS.boxes; simp only [bxn] at F) | ((with_reducible refine gate_dst (N := 3) rfl ?_); refine ev_box rfl HS (by first | (go_simp; done) | (go_simp; rfl)) rfl ?_; clear HS; (try clear F); intro g3 w3 HS; (try simp only [hpn, hpm] at HS); have F := HS.boxes; simp only [bxn] at F) | ((with_reducible refine gate_store (p := 3) rfl ?_); refine ev_store rfl 2 0 HS (seg := [.int .i64 48, .string (⟨#[]⟩ : ByteArray), .slice none 0 0]) rfl rfl rfl rfl rfl rfl (by kernel_rfl) (by simp [wrt]) (by simp [Value.oneCell']) ?_; clear HS; (try clear F); intro w7 HS; (try simp only [hpn, hpm] at HS); have F := HS.boxes; simp only [bxn] at F))
 replace HS := HS.nil 182 q182
 go_loopg [4] k (fun kq v_4 w' => ∃ (l21 : List S182) (v22 : Value) (x23 : Int), v_4 = .int .i64 x23 ∧ Aside0 (spec_l10Item.l0 kq l21 x23 a0 = some r) ∧ Aside0 (kq ≤ k) ∧ Hp noFP w w' [.box g1 [.string a0.f0, .int .i64 a0.f1, .int .i64 a0.f2, .int .i64 a0.f3, .int .i64 a0.f4, .slice Ap0 a0.f5.length cp0, .string a0.f6] 81, .box g2 [.int .i64 0, .string (⟨#[]⟩ : ByteArray), .slice none 0 0] 182, .box g3 [.int .i64 48, .string (⟨#[]⟩ : ByteArray), v22] 182, .own (Zd.slice 182 q182) l21 [v22]])
 case atStart => exact ⟨_, _, _, rfl, H, ⟨Nat.le_refl _⟩, HS⟩
 case round =>
  clear HS H; (try clear F)
  obtain ⟨l21, v22, x23, rfl, H, HKk20, HS⟩ := hrel
  obtain ⟨B22, d22, rfl, m22⟩ := HS.form 3 rfl
  have F := HS.boxes; simp only [bxn] at F
  cases gk with
  | zero => exact absurd H.out (by simp [spec_l10Item.l0])
  | succ k20 =>
   simp only [spec_l10Item.l0] at H
   by_cases c25 : x23 < (a0.f5.length : Int)
   case pos =>
    replace H := zpos c25 H
    replace c25 := eq_true c25
    (try go_wp2)
    by_cases c205001 : 0 ≤ x23
    case neg => exact zno c205001 H
    replace H := zpos c205001 H
    replace c205001 := eq_true c205001
    by_cases c205002 : x23 < (a0.f5.length : Int)
    case neg => exact zno c205002 H
    replace H := zpos c205002 H
    replace c205002 := eq_true c205002
    obtain ⟨ad205999, rfl, e205999_0, e205999_1⟩ := at_T238 gp0 x23 (of_eq_true c205001) (of_eq_true c205002)
    replace H := zbind H; obtain ⟨t215001, ht215001, H⟩ := H
    by_cases c217001 : l21.length + 1 ≤ 2932031007402
    case neg => exact zno c217001 H
    replace H := zpos c217001 H
    replace c217001 := eq_true c217001
    replace H := zlets H; obtain ⟨y217999, e_y217999, H⟩ := H
    refine dr_start2 [.box g1 [.string a0.f0, .int .i64 a0.f1, .int .i64 a0.f2, .int .i64 a0.f3, .int .i64 a0.f4, .slice (some ad205999) a0.f5.length cp0, .string a0.f6] 81, .box g2 [.int .i64 0, .string (⟨#[]⟩ : ByteArray), .slice none 0 0] 182, .box g3 [.int .i64 48, .string (⟨#[]⟩ : ByteArray), .slice B22 l21.length d22] 182, .emp] [19] HS (HS.arr [some 0, some 1, some 2, none] (by decide)) #[false, false, false, false, false, false, false, false, false, false, false, false, false, false, false, false, false, false, false, false] (by kernel_rfl) rfl rfl spec_l10Item.tT5 (fun w27 HT HS HH => ?_)
    (try clear F)
    refine drq_of [(0, some 13), (1, some 14), (2, some 15), (3, some 16), (4, some 17), (5, some 18), (6, some 19)] ?_
    repeat (first | (refine drq_pure HT (v := ?_) (a' := ?_) rfl rfl (by kernel_rfl) (fun _ _ _ h => h) (.inl ⟨by rfl, ?_⟩) ?_ ?_; rotate_left; (intro w'; go_simp; with_reducible rfl); rotate_left; (simp only [Act.put, ptn]; rfl)) | (refine drq_take HT HH (v := ?_) (a' := ?_) rfl rfl (by kernel_rfl) (fun _ _ _ h => h) (.inl ⟨by rfl, ?_⟩) ?_ ?_; rotate_left; (rintro w' ⟨rs', HS'⟩; have F := HS'.boxes; simp only [bxn, List.cons_append, List.nil_append] at F; go_simp; with_reducible rfl); rotate_left; (simp only [Act.put, ptn]; rfl)))
    refine drq_end ?_
    refine dr_take 7 (some 20) HT HH (v := ?_) (a' := ?_) rfl rfl (by kernel_rfl) (fun _ _ _ h => h) (.inl ⟨by rfl, ?_⟩) ?_ ?_
    rotate_left
    · rintro w' ⟨rs', HS'⟩; have e205999_0 := (HS'.keepc e205999_0); have e205999_1 := (HS'.keepc e205999_1); go_simp; with_reducible rfl
    rotate_left
    · simp only [Act.put, ptn]; rfl
    refine drq_of [(8, some 21), (9, some 22), (10, some 23), (11, some 24), (12, some 25)] ?_
    repeat (first | (refine drq_pure HT (v := ?_) (a' := ?_) rfl rfl (by kernel_rfl) (fun _ _ _ h => h) (.inl ⟨by rfl, ?_⟩) ?_ ?_; rotate_left; (intro w'; go_simp; with_reducible rfl); rotate_left; (simp only [Act.put, ptn]; rfl)) | (refine drq_take HT HH (v := ?_) (a' := ?_) rfl rfl (by kernel_rfl) (fun _ _ _ h => h) (.inl ⟨by rfl, ?_⟩) ?_ ?_; rotate_left; (rintro w' ⟨rs', HS'⟩; have F := HS'.boxes; simp only [bxn, List.cons_append, List.nil_append] at F; go_simp; with_reducible rfl); rotate_left; (simp only [Act.put, ptn]; rfl)))
    refine drq_end ?_
    refine dr_take 13 (some 26) HT HH (v := ?_) (a' := ?_) rfl rfl (by kernel_rfl) (fun _ _ _ h => h) (.inl ⟨by rfl, ?_⟩) ?_ ?_
    rotate_left
    · rintro w' ⟨rs', HS'⟩; have e205999_0 := (HS'.keepc e205999_0); have e205999_1 := (HS'.keepc e205999_1); go_simp; with_reducible rfl
    rotate_left
    · simp only [Act.put, ptn]; rfl
    refine dr_one 14 HT rfl (by kernel_rfl) (by decide) (fun K hK => ?_)
    refine if_wp (by rfl) ?_; refine wp_lit (Zd.int .i64) [] ([(rd_T238 a0.f5 x23).f0, (rd_T238 a0.f5 x23).f1] : List Int) ([.int .i64 ((rd_T238 a0.f5 x23).f0)] ++ ([.int .i64 ((rd_T238 a0.f5 x23).f1)] ++ [])) HS (by first | (go_simp; done) | (go_simp; rfl)) rfl rfl (Nat.le_of_ble_eq_true rfl) (MadeL.cons (js1 := []) (c := [.int .i64 ((rd_T238 a0.f5 x23).f0)]) rfl (made_flat (fun _ => rfl)) (MadeL.cons (js1 := []) (c := [.int .i64 ((rd_T238 a0.f5 x23).f1)]) rfl (made_flat (fun _ => rfl)) MadeL.nil (by decide)) (by decide)) ?_; clear HS; (try clear F); intro v214001 w214001 HS; obtain ⟨B214001, d214001, rfl, m214001⟩ := HS.formn 2 4 rfl rfl
    (try simp only [hpn, hpm] at HS)
    have F := HS.boxes; simp only [bxn] at F
    refine hK.out _ _ ⟨[], HS.arr [some 0, some 1, some 2, none] (by decide)⟩ (fun HH => ?_)
    clear hK K
    refine norm_ (a' := ?_) ?_ ?_
    rotate_left
    · show Act.put _ (some 27) _ = _; simp only [Act.put, ptn]; rfl
    refine dr_one 15 HT rfl (by kernel_rfl) (by decide) (fun K hK => ?_)
    refine goes_ Tryz.func195 (by kernel_rfl) rfl #[.slice B214001 2 d214001] (by rfl) rfl rfl (by simp only [mpn]; rfl) ?_; refine (spec_l09Ints.calls ht215001.out (HS.rd 4 rfl) m214001).mono ?_; rintro _ wt215001 ⟨v215002, rfl, HQ⟩; refine ⟨_, rfl, ?_⟩; replace HS := HS.call HQ; clear HQ; (try clear F); obtain ⟨B215002, d215002, rfl, m215002⟩ := HS.form 5 rfl
    (try simp only [hpn, hpm] at HS)
    have F := HS.boxes; simp only [bxn] at F
    refine hK.out _ _ ⟨[], HS.arr [some 0, some 1, some 2, none] (by decide)⟩ (fun HH => ?_)
    clear hK K
    refine norm_ (a' := ?_) ?_ ?_
    rotate_left
    · show Act.put _ (some 28) _ = _; simp only [Act.put, ptn]; rfl
    refine dr_one 16 HT rfl (by kernel_rfl) (by decide) (fun K hK => ?_)
    refine if_wp (by rfl) ?_; refine wp_lit q182 [5] ([t215001] : List S182) ([.int .i64 t215001.f0, .string t215001.f1, .slice B215002 t215001.f2.length d215002] ++ []) HS (by first | (go_simp; done) | (go_simp; rfl)) rfl rfl (Nat.le_of_ble_eq_true rfl) (MadeL.cons (js1 := [5]) (c := [.int .i64 t215001.f0, .string t215001.f1, .slice B215002 t215001.f2.length d215002]) rfl (fun S hd hh => q182_pack (x := t215001) hd (hh 5 (.own (Zd.slice 182 q182) t215001.f2 [.slice B215002 t215001.f2.length d215002]) rfl) (by decide)) MadeL.nil (by decide)) ?_; clear HS; (try clear F); intro v216001 w216001 HS; obtain ⟨B216001, d216001, rfl, m216001⟩ := HS.formn 1 6 rfl rfl
    (try simp only [hpn, hpm] at HS)
    have F := HS.boxes; simp only [bxn] at F
    refine hK.out _ _ ⟨[], HS.arr [some 0, some 1, some 2, none] (by decide)⟩ (fun HH => ?_)
    clear hK K
    refine norm_ (a' := ?_) ?_ ?_
    rotate_left
    · show Act.put _ (some 29) _ = _; simp only [Act.put, ptn]; rfl
    refine dr_one 17 HT rfl (by kernel_rfl) (by decide) (fun K hK => ?_)
    refine if_wp (by rfl) ?_; refine wp_append q182 3 6 HS rfl rfl (by decide) rfl rfl rfl Tryz.underlying180 info182 rfl (by decide) (by decide) (by have := of_eq_true c217001; first | omega | (simp only [List.length_cons, List.length_nil, List.length_append, Nat.zero_add] at this ⊢; omega)) ?_; clear HS; (try clear F); intro v217999 w217999 HS; rw [← e_y217999.out] at HS; obtain ⟨B217999, d217999, rfl, m217999⟩ := HS.form 7 rfl
    (try simp only [hpn, hpm] at HS)
    have F := HS.boxes; simp only [bxn] at F
    refine hK.out _ _ ⟨[], HS.arr [some 0, some 1, some 2, none] (by decide)⟩ (fun HH => ?_)
    clear hK K
    refine norm_ (a' := ?_) ?_ ?_
    rotate_left
    · show Act.put _ (some 30) _ = _; simp only [Act.put, ptn]; rfl
    refine drq_of [(18, some 31)] ?_
    repeat (first | (refine drq_pure HT (v := ?_) (a' := ?_) rfl rfl (by kernel_rfl) (fun _ _ _ h => h) (.inl ⟨by rfl, ?_⟩) ?_ ?_; rotate_left; (intro w'; go_simp; with_reducible rfl); rotate_left; (simp only [Act.put, ptn]; rfl)))
    refine drq_end ?_
    refine dr_last 19 HT rfl (by kernel_rfl) (by decide) (fun K hK => ?_)
    refine if_wp (by rfl) ?_; refine wp_store 2 2 HS (seg := [.slice B217999 y217999.length d217999]) rfl rfl rfl rfl rfl rfl (by kernel_rfl) (by simp [wrt]) (by simp [Value.oneCell']) ?_; clear HS; (try clear F); intro w219001 HS
    (try simp only [hpn, hpm] at HS)
    have F := HS.boxes; simp only [bxn] at F
    refine hK.out _ _ ?_
    clear hK K
    refine done_ (done_of HT.out (by kernel_rfl)) ?_
    (try clear F)
    have F := HS.boxes; simp only [bxn] at F
    go_wp2
    go_roundg k20
    case measure => have := HKk20.out; omega
    case rel => exact ⟨_, _, _, rfl, H, ⟨by have := HKk20.out; omega⟩, HS.pick [0, 1, 2, 7] (by decide) (by rfl)⟩
   replace H := zneg c25 H
   replace c25 := eq_false c25
   (try go_wp2)
   replace H := zbind H; obtain ⟨t302001, ht302001, H⟩ := H
   replace H := zbind H; obtain ⟨t305001, ht305001, H⟩ := H
   replace H := zbind H; obtain ⟨t308001, ht308001, H⟩ := H
   replace H := zbind H; obtain ⟨t311001, ht311001, H⟩ := H
   replace H := zbind H; obtain ⟨t314001, ht314001, H⟩ := H
   refine dr_start2 [.box g1 [.string a0.f0, .int .i64 a0.f1, .int .i64 a0.f2, .int .i64 a0.f3, .int .i64 a0.f4, .slice Ap0 a0.f5.length cp0, .string a0.f6] 81, .box g2 [.int .i64 0, .string (⟨#[]⟩ : ByteArray), .slice none 0 0] 182, .box g3 [.int .i64 48, .string (⟨#[]⟩ : ByteArray), .slice B22 l21.length d22] 182, .emp] [18] HS (HS.arr [some 0, some 1, some 2, none] (by decide)) #[false, false, false, false, false, false, false, false, false, false, false, false, false, false, false, false, false, false, false] (by kernel_rfl) rfl rfl spec_l10Item.tT6 (fun w30 HT HS HH => ?_)
   (try clear F)
   refine drq_of [(0, some 32), (1, some 33), (3, some 35), (4, some 36), (6, some 38), (7, some 39), (9, some 41), (10, some 42), (12, some 44), (13, some 45), (15, some 47)] ?_
   repeat (first | (refine drq_pure HT (v := ?_) (a' := ?_) rfl rfl (by kernel_rfl) (fun _ _ _ h => h) (.inl ⟨by rfl, ?_⟩) ?_ ?_; rotate_left; (intro w'; go_simp; with_reducible rfl); rotate_left; (simp only [Act.put, ptn]; rfl)) | (refine drq_take HT HH (v := ?_) (a' := ?_) rfl rfl (by kernel_rfl) (fun _ _ _ h => h) (.inl ⟨by rfl, ?_⟩) ?_ ?_; rotate_left; (rintro w' ⟨rs', HS'⟩; have F := HS'.boxes; simp only [bxn, List.cons_append, List.nil_append] at F; go_simp; with_reducible rfl); rotate_left; (simp only [Act.put, ptn]; rfl)))
   refine drq_end ?_
   refine dr_one 2 HT rfl (by kernel_rfl) (by decide) (fun K hK => ?_)
   refine goes_ Tryz.func193 (by kernel_rfl) rfl #[.string a0.f0] (by rfl) rfl rfl (by simp only [mpn]; rfl) ?_; refine (spec_TextItem.calls ht302001.out).mono ?_; rintro _ wt302001 ⟨v302002, rfl, HQ⟩; refine ⟨_, rfl, ?_⟩; replace HS := HS.call HQ; clear HQ; (try clear F); obtain ⟨B302002, d302002, rfl, m302002⟩ := HS.form 4 rfl
   (try simp only [hpn, hpm] at HS)
   have F := HS.boxes; simp only [bxn] at F
   refine hK.out _ _ ⟨[], HS.arr [some 0, some 1, some 2, none] (by decide)⟩ (fun HH => ?_)
   clear hK K
   refine norm_ (a' := ?_) ?_ ?_
   rotate_left
   · show Act.put _ (some 34) _ = _; simp only [Act.put, ptn]; rfl
   refine dr_one 5 HT rfl (by kernel_rfl) (by decide) (fun K hK => ?_)
   refine goes_ Tryz.func192 (by kernel_rfl) rfl #[.int .i64 a0.f1] (by rfl) rfl rfl (by simp only [mpn]; rfl) ?_; refine (spec_IntItem.calls ht305001.out).mono ?_; rintro _ wt305001 ⟨v305002, rfl, HQ⟩; refine ⟨_, rfl, ?_⟩; replace HS := HS.call HQ; clear HQ; (try clear F); obtain ⟨B305002, d305002, rfl, m305002⟩ := HS.form 5 rfl
   (try simp only [hpn, hpm] at HS)
   have F := HS.boxes; simp only [bxn] at F
   refine hK.out _ _ ⟨[], HS.arr [some 0, some 1, some 2, none] (by decide)⟩ (fun HH => ?_)
   clear hK K
   refine norm_ (a' := ?_) ?_ ?_
   rotate_left
   · show Act.put _ (some 37) _ = _; simp only [Act.put, ptn]; rfl
   refine dr_one 8 HT rfl (by kernel_rfl) (by decide) (fun K hK => ?_)
   refine goes_ Tryz.func192 (by kernel_rfl) rfl #[.int .i64 a0.f2] (by rfl) rfl rfl (by simp only [mpn]; rfl) ?_; refine (spec_IntItem.calls ht308001.out).mono ?_; rintro _ wt308001 ⟨v308002, rfl, HQ⟩; refine ⟨_, rfl, ?_⟩; replace HS := HS.call HQ; clear HQ; (try clear F); obtain ⟨B308002, d308002, rfl, m308002⟩ := HS.form 6 rfl
   (try simp only [hpn, hpm] at HS)
   have F := HS.boxes; simp only [bxn] at F
   refine hK.out _ _ ⟨[], HS.arr [some 0, some 1, some 2, none] (by decide)⟩ (fun HH => ?_)
   clear hK K
   refine norm_ (a' := ?_) ?_ ?_
   rotate_left
   · show Act.put _ (some 40) _ = _; simp only [Act.put, ptn]; rfl
   refine dr_one 11 HT rfl (by kernel_rfl) (by decide) (fun K hK => ?_)
   refine goes_ Tryz.func192 (by kernel_rfl) rfl #[.int .i64 a0.f3] (by rfl) rfl rfl (by simp only [mpn]; rfl) ?_; refine (spec_IntItem.calls ht311001.out).mono ?_; rintro _ wt311001 ⟨v311002, rfl, HQ⟩; refine ⟨_, rfl, ?_⟩; replace HS := HS.call HQ; clear HQ; (try clear F); obtain ⟨B311002, d311002, rfl, m311002⟩ := HS.form 7 rfl
   (try simp only [hpn, hpm] at HS)
   have F := HS.boxes; simp only [bxn] at F
   refine hK.out _ _ ⟨[], HS.arr [some 0, some 1, some 2, none] (by decide)⟩ (fun HH => ?_)
   clear hK K
   refine norm_ (a' := ?_) ?_ ?_
   rotate_left
   · show Act.put _ (some 43) _ = _; simp only [Act.put, ptn]; rfl
   refine dr_one 14 HT rfl (by kernel_rfl) (by decide) (fun K hK => ?_)
   refine goes_ Tryz.func192 (by kernel_rfl) rfl #[.int .i64 a0.f4] (by rfl) rfl rfl (by simp only [mpn]; rfl) ?_; refine (spec_IntItem.calls ht314001.out).mono ?_; rintro _ wt314001 ⟨v314002, rfl, HQ⟩; refine ⟨_, rfl, ?_⟩; replace HS := HS.call HQ; clear HQ; (try clear F); obtain ⟨B314002, d314002, rfl, m314002⟩ := HS.form 8 rfl
   (try simp only [hpn, hpm] at HS)
   have F := HS.boxes; simp only [bxn] at F
   refine hK.out _ _ ⟨[], HS.arr [some 0, some 1, some 2, none] (by decide)⟩ (fun HH => ?_)
   clear hK K
   refine norm_ (a' := ?_) ?_ ?_
   rotate_left
   · show Act.put _ (some 46) _ = _; simp only [Act.put, ptn]; rfl
   refine dr_one 16 HT rfl (by kernel_rfl) (by decide) (fun K hK => ?_)
   refine if_wp (by rfl) ?_; refine wp_lit q182 [4, 5, 6, 7, 8, 3] ([t302001, t305001, t308001, t311001, t314001, (⟨48, (⟨#[]⟩ : ByteArray), l21⟩ : S182)] : List S182) ([.int .i64 t302001.f0, .string t302001.f1, .slice B302002 t302001.f2.length d302002] ++ ([.int .i64 t305001.f0, .string t305001.f1, .slice B305002 t305001.f2.length d305002] ++ ([.int .i64 t308001.f0, .string t308001.f1, .slice B308002 t308001.f2.length d308002] ++ ([.int .i64 t311001.f0, .string t311001.f1, .slice B311002 t311001.f2.length d311002] ++ ([.int .i64 t314001.f0, .string t314001.f1, .slice B314002 t314001.f2.length d314002] ++ ([.int .i64 48, .string (⟨#[]⟩ : ByteArray), .slice B22 l21.length d22] ++ [])))))) HS (by first | (go_simp; done) | (go_simp; rfl)) rfl rfl (Nat.le_of_ble_eq_true rfl) (MadeL.cons (js1 := [4]) (c := [.int .i64 t302001.f0, .string t302001.f1, .slice B302002 t302001.f2.length d302002]) rfl (fun S hd hh => q182_pack (x := t302001) hd (hh 4 (.own (Zd.slice 182 q182) t302001.f2 [.slice B302002 t302001.f2.length d302002]) rfl) (by decide)) (MadeL.cons (js1 := [5]) (c := [.int .i64 t305001.f0, .string t305001.f1, .slice B305002 t305001.f2.length d305002]) rfl (fun S hd hh => q182_pack (x := t305001) hd (hh 5 (.own (Zd.slice 182 q182) t305001.f2 [.slice B305002 t305001.f2.length d305002]) rfl) (by decide)) (MadeL.cons (js1 := [6]) (c := [.int .i64 t308001.f0, .string t308001.f1, .slice B308002 t308001.f2.length d308002]) rfl (fun S hd hh => q182_pack (x := t308001) hd (hh 6 (.own (Zd.slice 182 q182) t308001.f2 [.slice B308002 t308001.f2.length d308002]) rfl) (by decide)) (MadeL.cons (js1 := [7]) (c := [.int .i64 t311001.f0, .string t311001.f1, .slice B311002 t311001.f2.length d311002]) rfl (fun S hd hh => q182_pack (x := t311001) hd (hh 7 (.own (Zd.slice 182 q182) t311001.f2 [.slice B311002 t311001.f2.length d311002]) rfl) (by decide)) (MadeL.cons (js1 := [8]) (c := [.int .i64 t314001.f0, .string t314001.f1, .slice B314002 t314001.f2.length d314002]) rfl (fun S hd hh => q182_pack (x := t314001) hd (hh 8 (.own (Zd.slice 182 q182) t314001.f2 [.slice B314002 t314001.f2.length d314002]) rfl) (by decide)) (MadeL.cons (js1 := [3]) (c := [.int .i64 48, .string (⟨#[]⟩ : ByteArray), .slice B22 l21.length d22]) rfl (fun S hd hh => q182_pack (x := (⟨48, (⟨#[]⟩ : ByteArray), l21⟩ : S182)) hd (hh 3 (.own (Zd.slice 182 q182) l21 [.slice B22 l21.length d22]) rfl) (by decide)) MadeL.nil (by decide)) (by decide)) (by decide)) (by decide)) (by decide)) (by decide)) ?_; clear HS; (try clear F); intro v316001 w316001 HS; obtain ⟨B316001, d316001, rfl, m316001⟩ := HS.formn 6 9 rfl rfl
   (try simp only [hpn, hpm] at HS)
   have F := HS.boxes; simp only [bxn] at F
   refine hK.out _ _ ⟨[], HS.arr [some 0, some 1, some 2, none] (by decide)⟩ (fun HH => ?_)
   clear hK K
   refine norm_ (a' := ?_) ?_ ?_
   rotate_left
   · show Act.put _ (some 48) _ = _; simp only [Act.put, ptn]; rfl
   refine drq_of [(17, some 49)] ?_
   repeat (first | (refine drq_pure HT (v := ?_) (a' := ?_) rfl rfl (by kernel_rfl) (fun _ _ _ h => h) (.inl ⟨by rfl, ?_⟩) ?_ ?_; rotate_left; (intro w'; go_simp; with_reducible rfl); rotate_left; (simp only [Act.put, ptn]; rfl)))
   refine drq_end ?_
   refine dr_last 18 HT rfl (by kernel_rfl) (by decide) (fun K hK => ?_)
   refine if_wp (by rfl) ?_; refine wp_store 1 0 HS (seg := [.int .i64 48, .string (⟨#[]⟩ : ByteArray), .slice B316001 6 d316001]) rfl rfl rfl rfl rfl rfl (by kernel_rfl) (by simp [wrt]) (by simp [Value.oneCell']) ?_; clear HS; (try clear F); intro w318001 HS
   (try simp only [hpn, hpm] at HS)
   have F := HS.boxes; simp only [bxn] at F
   refine hK.out _ _ ?_
   clear hK K
   refine done_ (done_of HT.out (by kernel_rfl)) ?_
   (try clear F)
   have F := HS.boxes; simp only [bxn] at F
   obtain rfl := zsome H
   go_wp2
   exact bodyPost_ret (results_single rfl (.cell _ _ _ _ _ rfl (HS.boxAt (i := 1) rfl) Tryz.underlying182 rfl (by kernel_rfl) .nil)) rfl ⟨_, rfl, HS.pick [9] (by decide) (by rfl)⟩
/-! ### spec_CrlText: function 56 -/
def spec_CrlText.f (k : Nat) (a0 : S81) : Option (ByteArray × Bool) := ((spec_CrlOk.f k a0).bind fun t3 => (if t3 = true then ((spec_l10Item.f k a0).bind fun t101001 => ((spec_l09Bytes.f a0.f6).bind fun t104001 => ((spec_ItemText.f k (⟨48, (⟨#[]⟩ : ByteArray), ([t101001, t104001] : List S182)⟩ : S182)).bind fun t107001 => (some (t107001.1, t107001.2))))) else (some ((⟨#[]⟩ : ByteArray), false))))
def spec_CrlText.T3 : Bool × List (List Nat × List Nat) := (true, [([], []), ([0], [0]), ([], []), ([2], [2]), ([3, 1], [3]), ([1, 4], [1, 4]), ([5], [5]), ([6, 4], [6]), ([7], [7]), ([7], [7]), ([8, 7, 0, 1, 2, 3, 4, 5, 6, 7, 8, 9], [8]), ([9, 10, 0, 1, 2, 3, 4, 5, 6, 7, 8, 9, 10], [9])])
theorem spec_CrlText.tT3 : rtab .any (opsOf Tryz.f56 3) = spec_CrlText.T3 := by kernel_rfl
set_option maxHeartbeats 16000000 in
theorem spec_CrlText.calls {k : Nat} {a0 : S81} {Ap0 : Option Addr} {np0 cp0 : Nat} {r1 : ByteArray} {r2 : Bool} {w : World} (h : spec_CrlText.f k a0 = some (r1, r2)) (gp0 : k238.C w Ap0 np0 a0.f5) (lp0 : np0 ≤ cp0) :
    Calls Tryz.prog 56 #[.agg #[.string a0.f0, .int .i64 a0.f1, .int .i64 a0.f2, .int .i64 a0.f3, .int .i64 a0.f4, .slice Ap0 np0 cp0, .string a0.f6]] w (fun e w' => e = .returned (.tuple #[.string r1, .bool r2]) ∧ Hp noFP w w' []) := by
 obtain rfl := C_len gp0
 have HS := Hp.start w
 have H := Aside0.mk h
 clear h
 unfold spec_CrlText.f at H
 go_enter Tryz.func56, Tryz.ntmps56
 replace H := zbind H; obtain ⟨t3, ht3, H⟩ := H
 go_upto_if 6 with (first | ((with_reducible refine gate_dst (N := 1) rfl ?_); refine ev_box rfl HS (by first | (go_simp; done) | (go_simp; rfl)) rfl ?_; clear HS; (try clear F); intro g1 w1 HS; (try simp only [hpn, hpm] at HS); have F := HS.boxes; simp only [bxn] at F) | ((with_reducible refine gate_dst (N := 5) rfl ?_); refine ev_call rfl Tryz.func137 (by kernel_rfl) rfl #[.agg #[.string a0.f0, .int .i64 a0.f1, .int .i64 a0.f2, .int .i64 a0.f3, .int .i64 a0.f4, .slice Ap0 a0.f5.length cp0, .string a0.f6]] rfl (by simp only [mpn]; rfl) ?_; refine (spec_CrlOk.calls ht3.out (HS.ro gp0) lp0).mono ?_; rintro _ wt3 ⟨rfl, HQ⟩; refine ⟨_, rfl, ?_⟩; replace HS := HS.call HQ; clear HQ; (try clear F); (try simp only [hpn, hpm] at HS); have F := HS.boxes; simp only [bxn] at F))
 by_cases c5 : t3 = true
 case neg =>
  replace H := zneg c5 H
  replace c5 := eq_false_of_ne_true c5
  subst c5
  (try simp only [dcn, if_true, Bool.false_eq_true, if_false])
  obtain ⟨rfl, rfl⟩ := zsome2 H
  go_wp2
  exact bodyPost_ret (results_list (rs := [.tmp 2, .tmp 3]) rfl (by simp) (.tmp (.tmp .nil))) rfl ⟨rfl, HS.pick [] (by decide) (by rfl)⟩
 replace H := zpos c5 H
 subst c5
 (try simp only [dcn, if_true, Bool.false_eq_true, if_false])
 (try go_wp2)
 replace H := zbind H; obtain ⟨t101001, ht101001, H⟩ := H
 replace H := zbind H; obtain ⟨t104001, ht104001, H⟩ := H
 replace H := zbind H; obtain ⟨t107001, ht107001, H⟩ := H
 refine dr_start [] HS #[false, false, false, false, false, false, false, false, false, false, false, false] (by kernel_rfl) rfl rfl spec_CrlText.tT3 (fun w7 HT HS HH => ?_)
 (try clear F)
 refine drq_of [(0, some 7), (2, some 9), (3, some 10)] ?_
 repeat (first | (refine drq_pure HT (v := ?_) (a' := ?_) rfl rfl (by kernel_rfl) (fun _ _ _ h => h) (.inl ⟨by rfl, ?_⟩) ?_ ?_; rotate_left; (intro w'; go_simp; with_reducible rfl); rotate_left; (simp only [Act.put, ptn]; rfl)) | (refine drq_take HT HH (v := ?_) (a' := ?_) rfl rfl (by kernel_rfl) (fun _ _ _ h => h) (.inl ⟨by rfl, ?_⟩) ?_ ?_; rotate_left; (rintro w' ⟨rs', HS'⟩; have F := HS'.boxes; simp only [bxn, List.cons_append, List.nil_append] at F; go_simp; with_reducible rfl); rotate_left; (simp only [Act.put, ptn]; rfl)))
 refine drq_end ?_
 refine dr_one 1 HT rfl (by kernel_rfl) (by decide) (fun K hK => ?_)
 refine goes_ Tryz.func138 (by kernel_rfl) rfl #[.agg #[.string a0.f0, .int .i64 a0.f1, .int .i64 a0.f2, .int .i64 a0.f3, .int .i64 a0.f4, .slice Ap0 a0.f5.length cp0, .string a0.f6]] (by rfl) rfl rfl (by simp only [mpn]; rfl) ?_; refine (spec_l10Item.calls ht101001.out (HS.ro gp0) lp0).mono ?_; rintro _ wt101001 ⟨v101002, rfl, HQ⟩; refine ⟨_, rfl, ?_⟩; replace HS := HS.call HQ; clear HQ; (try clear F); obtain ⟨B101002, d101002, rfl, m101002⟩ := HS.form 1 rfl
 (try simp only [hpn, hpm] at HS)
 have F := HS.boxes; simp only [bxn] at F
 refine hK.out _ _ ⟨_, HS⟩ (fun HH => ?_)
 clear hK K
 refine norm_ (a' := ?_) ?_ ?_
 rotate_left
 · show Act.put _ (some 8) _ = _; simp only [Act.put, ptn]; rfl
 refine dr_one 4 HT rfl (by kernel_rfl) (by decide) (fun K hK => ?_)
 refine goes_ Tryz.func136 (by kernel_rfl) rfl #[.string a0.f6] (by rfl) rfl rfl (by simp only [mpn]; rfl) ?_; refine (spec_l09Bytes.calls ht104001.out).mono ?_; rintro _ wt104001 ⟨v104002, rfl, HQ⟩; refine ⟨_, rfl, ?_⟩; replace HS := HS.call HQ; clear HQ; (try clear F); obtain ⟨B104002, d104002, rfl, m104002⟩ := HS.form 2 rfl
 (try simp only [hpn, hpm] at HS)
 have F := HS.boxes; simp only [bxn] at F
 refine hK.out _ _ ⟨_, HS⟩ (fun HH => ?_)
 clear hK K
 refine norm_ (a' := ?_) ?_ ?_
 rotate_left
 · show Act.put _ (some 11) _ = _; simp only [Act.put, ptn]; rfl
 refine dr_one 5 HT rfl (by kernel_rfl) (by decide) (fun K hK => ?_)
 refine if_wp (by rfl) ?_; refine wp_lit q182 [1, 2] ([t101001, t104001] : List S182) ([.int .i64 t101001.f0, .string t101001.f1, .slice B101002 t101001.f2.length d101002] ++ ([.int .i64 t104001.f0, .string t104001.f1, .slice B104002 t104001.f2.length d104002] ++ [])) HS (by first | (go_simp; done) | (go_simp; rfl)) rfl rfl (Nat.le_of_ble_eq_true rfl) (MadeL.cons (js1 := [1]) (c := [.int .i64 t101001.f0, .string t101001.f1, .slice B101002 t101001.f2.length d101002]) rfl (fun S hd hh => q182_pack (x := t101001) hd (hh 1 (.own (Zd.slice 182 q182) t101001.f2 [.slice B101002 t101001.f2.length d101002]) rfl) (by decide)) (MadeL.cons (js1 := [2]) (c := [.int .i64 t104001.f0, .string t104001.f1, .slice B104002 t104001.f2.length d104002]) rfl (fun S hd hh => q182_pack (x := t104001) hd (hh 2 (.own (Zd.slice 182 q182) t104001.f2 [.slice B104002 t104001.f2.length d104002]) rfl) (by decide)) MadeL.nil (by decide)) (by decide)) ?_; clear HS; (try clear F); intro v105001 w105001 HS; obtain ⟨B105001, d105001, rfl, m105001⟩ := HS.formn 2 3 rfl rfl
 (try simp only [hpn, hpm] at HS)
 have F := HS.boxes; simp only [bxn] at F
 refine hK.out _ _ ⟨_, HS⟩ (fun HH => ?_)
 clear hK K
 refine norm_ (a' := ?_) ?_ ?_
 rotate_left
 · show Act.put _ (some 12) _ = _; simp only [Act.put, ptn]; rfl
 refine drq_of [(6, some 13)] ?_
 repeat (first | (refine drq_pure HT (v := ?_) (a' := ?_) rfl rfl (by kernel_rfl) (fun _ _ _ h => h) (.inl ⟨by rfl, ?_⟩) ?_ ?_; rotate_left; (intro w'; go_simp; with_reducible rfl); rotate_left; (simp only [Act.put, ptn]; rfl)))
 refine drq_end ?_
 refine dr_one 7 HT rfl (by kernel_rfl) (by decide) (fun K hK => ?_)
 refine goes_ Tryz.func134 (by kernel_rfl) rfl #[.agg #[.int .i64 48, .string (⟨#[]⟩ : ByteArray), .slice B105001 2 d105001]] (by rfl) rfl rfl (by simp only [mpn]; rfl) ?_; refine (spec_ItemText.calls ht107001.out (HS.rd 3 rfl) m105001).mono ?_; rintro _ wt107001 ⟨rfl, HQ⟩; refine ⟨_, rfl, ?_⟩; replace HS := HS.call HQ; clear HQ; (try clear F)
 (try simp only [hpn, hpm] at HS)
 have F := HS.boxes; simp only [bxn] at F
 refine hK.out _ _ ⟨_, HS⟩ (fun HH => ?_)
 clear hK K
 refine norm_ (a' := ?_) ?_ ?_
 rotate_left
 · show Act.put _ (some 14) _ = _; simp only [Act.put, ptn]; rfl
 refine drq_of [(8, some 15), (9, some 16), (10, some 2), (11, some 3)] ?_
 repeat (first | (refine drq_pure HT (v := ?_) (a' := ?_) rfl rfl (by kernel_rfl) (fun _ _ _ h => h) (.inl ⟨by rfl, ?_⟩) ?_ ?_; rotate_left; (intro w'; go_simp; with_reducible rfl); rotate_left; (simp only [Act.put, ptn]; rfl)))
 refine drq_end ?_
 refine done_ (done_of HT.out (by kernel_rfl)) ?_
 (try clear F)
 have F := HS.boxes; simp only [bxn] at F
 obtain ⟨rfl, rfl⟩ := zsome2 H
 go_wp2
 exact bodyPost_ret (results_list (rs := [.tmp 2, .tmp 3]) rfl (by simp) (.tmp (.tmp .nil))) rfl ⟨rfl, HS.pick [] (by decide) (by rfl)⟩
/-! ### spec_l13Anchor: function 57 -/
def spec_l13Anchor.f (k : Nat) (a0 : S115) : Option (Bool) := ((spec_NameOk.f k a0.f0).bind fun t3 => (if t3 = true then (some ((a0.f1.size : Int) == 15)) else (some false)))
set_option maxHeartbeats 16000000 in
theorem spec_l13Anchor.calls {k : Nat} {a0 : S115} {r : Bool} {w : World} (h : spec_l13Anchor.f k a0 = some r) :
    Calls Tryz.prog 57 #[.agg #[.string a0.f0, .string a0.f1]] w (fun e w' => e = .returned (.bool r) ∧ Hp noFP w w' []) := by
 have HS := Hp.start w
 have H := Aside0.mk h
 clear h
 unfold spec_l13Anchor.f at H
 go_enter Tryz.func57, Tryz.ntmps57
 replace H := zbind H; obtain ⟨t3, ht3, H⟩ := H
 by_cases c5 : t3 = true
 case pos =>
  replace H := zpos c5 H
  subst c5
  obtain rfl := zsome H
  go_wp2_with (first | ((with_reducible refine gate_dst (N := 1) rfl ?_); refine ev_box rfl HS (by first | (go_simp; done) | (go_simp; rfl)) rfl ?_; clear HS; (try clear F); intro g1 w1 HS; (try simp only [hpn, hpm] at HS); have F := HS.boxes; simp only [bxn] at F) | ((with_reducible refine gate_dst (N := 5) rfl ?_); refine ev_call rfl Tryz.func139 (by kernel_rfl) rfl #[.string a0.f0] rfl (by simp only [mpn]; rfl) ?_; refine (spec_NameOk.calls ht3.out).mono ?_; rintro _ wt3 ⟨rfl, HQ⟩; refine ⟨_, rfl, ?_⟩; replace HS := HS.call HQ; clear HQ; (try clear F); (try simp only [hpn, hpm] at HS); have F := HS.boxes; simp only [bxn] at F))
  go_ret
  exact ⟨rfl, HS.pick [] (by decide) (by rfl)⟩
 replace H := zneg c5 H
 replace c5 := eq_false_of_ne_true c5
 subst c5
 obtain rfl := zsome H
 go_wp2_with (first | ((with_reducible refine gate_dst (N := 1) rfl ?_); refine ev_box rfl HS (by first | (go_simp; done) | (go_simp; rfl)) rfl ?_; clear HS; (try clear F); intro g1 w1 HS; (try simp only [hpn, hpm] at HS); have F := HS.boxes; simp only [bxn] at F) | ((with_reducible refine gate_dst (N := 5) rfl ?_); refine ev_call rfl Tryz.func139 (by kernel_rfl) rfl #[.string a0.f0] rfl (by simp only [mpn]; rfl) ?_; refine (spec_NameOk.calls ht3.out).mono ?_; rintro _ wt3 ⟨rfl, HQ⟩; refine ⟨_, rfl, ?_⟩; replace HS := HS.call HQ; clear HQ; (try clear F); (try simp only [hpn, hpm] at HS); have F := HS.boxes; simp only [bxn] at F))
 go_ret
 exact ⟨rfl, HS.pick [] (by decide) (by rfl)⟩
/-! ### spec_StoreOk: function 12 -/
mutual
def spec_StoreOk.l0 : Nat → (List ByteArray) → Int → S33 → Option (Bool)
  | 0, _, _, _ => none
  | k + 1, l22, x24, a0 => (if x24 < (a0.f0.length : Int) then (if 0 ≤ x24 then (if x24 < (a0.f0.length : Int) then ((spec_CertText.f k (rd_T91 a0.f0 x24)).bind fun t30 => (if t30.2 = true then ((spec_l13In.f k l22 t30.1).bind fun t33 => (if t33 = true then (some false) else (if l22.length + 1 ≤ 8796093022208 then (lets (l22 ++ ([t30.1] : List ByteArray)) fun y39 => (spec_StoreOk.l0 k y39 (wrap64 (x24 + 1)) a0)) else none))) else (some false))) else none) else none) else (spec_StoreOk.l1 k ([] : List ByteArray) 0 a0))
def spec_StoreOk.l1 : Nat → (List ByteArray) → Int → S33 → Option (Bool)
  | 0, _, _, _ => none
  | k + 1, l57, x59, a0 => (if x59 < (a0.f1.length : Int) then (if 0 ≤ x59 then (if x59 < (a0.f1.length : Int) then ((spec_CrlText.f k (rd_T81 a0.f1 x59)).bind fun t65 => (if t65.2 = true then ((spec_l13In.f k l57 t65.1).bind fun t68 => (if t68 = true then (some false) else (if l57.length + 1 ≤ 8796093022208 then (lets (l57 ++ ([t65.1] : List ByteArray)) fun y74 => (spec_StoreOk.l1 k y74 (wrap64 (x59 + 1)) a0)) else none))) else (some false))) else none) else none) else (spec_StoreOk.l2 k 0 a0))
def spec_StoreOk.l2 : Nat → Int → S33 → Option (Bool)
  | 0, _, _ => none
  | k + 1, x79, a0 => (if x79 < (a0.f2.length : Int) then (if 0 ≤ x79 then (if x79 < (a0.f2.length : Int) then ((spec_l13Anchor.f k (rd_T115 a0.f2 x79)).bind fun t85 => (if t85 = true then (spec_StoreOk.l3 k 0 a0 x79) else (some false))) else none) else none) else (some true))
def spec_StoreOk.l3 : Nat → Int → S33 → Int → Option (Bool)
  | 0, _, _, _ => none
  | k + 1, x91, a0, x79 => (if x91 < x79 then (if 0 ≤ x91 then (if x91 < (a0.f2.length : Int) then (if ((rd_T115 a0.f2 x91).f0).toList = ((rd_T115 a0.f2 x79).f0).toList then (some false) else (spec_StoreOk.l3 k (wrap64 (x91 + 1)) a0 x79)) else none) else none) else (spec_StoreOk.l2 k (wrap64 (x79 + 1)) a0))
end
def spec_StoreOk.f (k : Nat) (a0 : S33) : Option (Bool) := (if 12 < (a0.f0.length : Int) then (some false) else (if 8 < (a0.f1.length : Int) then (some false) else (if 3 < (a0.f2.length : Int) then (some false) else (spec_StoreOk.l0 k ([] : List ByteArray) 0 a0))))
def spec_StoreOk.T27 : Bool × List (List Nat × List Nat) := (true, [([], []), ([0], [0]), ([], []), ([1, 2], [1, 2]), ([3], [3]), ([4], [4]), ([], []), ([6], [6]), ([], []), ([7, 8], [7, 8]), ([9], [9]), ([10], [10]), ([5, 11], [5, 11])])
theorem spec_StoreOk.tT27 : rtab .any (opsOf Tryz.f12 27) = spec_StoreOk.T27 := by kernel_rfl
set_option maxHeartbeats 16000000 in
theorem spec_StoreOk.calls {k : Nat} {a0 : S33} {Ap0 : Option Addr} {np0 cp0 : Nat} {Ap1 : Option Addr} {np1 cp1 : Nat} {Ap2 : Option Addr} {np2 cp2 : Nat} {r : Bool} {w : World} (h : spec_StoreOk.f k a0 = some r) (gp0 : k91.C w Ap0 np0 a0.f0) (lp0 : np0 ≤ cp0) (gp1 : k81.C w Ap1 np1 a0.f1) (lp1 : np1 ≤ cp1) (gp2 : k115.C w Ap2 np2 a0.f2) (lp2 : np2 ≤ cp2) :
    Calls Tryz.prog 12 #[.agg #[.slice Ap0 np0 cp0, .slice Ap1 np1 cp1, .slice Ap2 np2 cp2]] w (fun e w' => e = .returned (.bool r) ∧ Hp noFP w w' []) := by
 obtain rfl := C_len gp0
 obtain rfl := C_len gp1
 obtain rfl := C_len gp2
 have HS := Hp.start w
 have H := Aside0.mk h
 clear h
 unfold spec_StoreOk.f at H
 go_enter Tryz.func12, Tryz.ntmps12
 by_cases c3 : 12 < (a0.f0.length : Int)
 case pos =>
  replace H := zpos c3 H
  replace c3 := eq_true c3
  obtain rfl := zsome H
  go_wp2_with (first | ((with_reducible refine gate_dst (N := 1) rfl ?_); refine ev_box rfl HS (by first | (go_simp; done) | (go_simp; rfl)) rfl ?_; clear HS; (try clear F); intro g1 w1 HS; (try simp only [hpn, hpm] at HS); have F := HS.boxes; simp only [bxn] at F))
  go_ret
  exact ⟨rfl, HS.pick [] (by decide) (by rfl)⟩
 replace H := zneg c3 H
 replace c3 := eq_false c3
 by_cases c4 : 8 < (a0.f1.length : Int)
 case pos =>
  replace H := zpos c4 H
  replace c4 := eq_true c4
  obtain rfl := zsome H
  go_wp2_with (first | ((with_reducible refine gate_dst (N := 1) rfl ?_); refine ev_box rfl HS (by first | (go_simp; done) | (go_simp; rfl)) rfl ?_; clear HS; (try clear F); intro g1 w1 HS; (try simp only [hpn, hpm] at HS); have F := HS.boxes; simp only [bxn] at F))
  go_ret
  exact ⟨rfl, HS.pick [] (by decide) (by rfl)⟩
 replace H := zneg c4 H
 replace c4 := eq_false c4
 go_upto_if 28 with (first | ((with_reducible refine gate_dst (N := 1) rfl ?_); refine ev_box rfl HS (by first | (go_simp; done) | (go_simp; rfl)) rfl ?_; clear HS; (try clear F); intro g1 w1 HS; (try simp only [hpn, hpm] at HS); have F := HS.boxes; simp only [bxn] at F))
 by_cases c5 : 3 < (a0.f2.length : Int)
 case pos =>
  replace H := zpos c5 H
  replace c5 := eq_true c5
  (try simp only [c5, dcn])
  obtain rfl := zsome H
  go_wp2
  go_ret
  exact ⟨rfl, HS.pick [] (by decide) (by rfl)⟩
 replace H := zneg c5 H
 replace c5 := eq_false c5
 (try simp only [c5, dcn])
 go_wp2_with (first | ((with_reducible refine gate_dst (N := 29) rfl ?_); refine ev_lit rfl Zd.string [] ([] : List ByteArray) [] HS (by first | (go_simp; done) | (go_simp; rfl)) rfl rfl (Nat.le_of_ble_eq_true rfl) MadeL.nil ?_; clear HS; (try clear F); intro v6 w6 HS; obtain ⟨B6, d6, rfl, m6⟩ := HS.formn 0 1 rfl rfl; (try simp only [hpn, hpm] at HS); have F := HS.boxes; simp only [bxn] at F))
 go_loopg [3, 4] k (fun kq v_3 v_4 w' => ∃ (l22 : List ByteArray) (v23 : Value) (x24 : Int), v_3 = v23 ∧ v_4 = .int .i64 x24 ∧ Aside0 (spec_StoreOk.l0 kq l22 x24 a0 = some r) ∧ Aside0 (kq ≤ k) ∧ Hp noFP w w' [.box g1 [.slice Ap0 a0.f0.length cp0, .slice Ap1 a0.f1.length cp1, .slice Ap2 a0.f2.length cp2] 33, .own (Zd.slice 9 Zd.string) l22 [v23]])
 case atStart => exact ⟨_, _, _, rfl, rfl, H, ⟨Nat.le_refl _⟩, HS⟩
 case round =>
  clear HS H; (try clear F)
  obtain ⟨l22, v23, x24, rfl, rfl, H, HKk21, HS⟩ := hrel
  obtain ⟨B23, d23, rfl, m23⟩ := HS.form 1 rfl
  have F := HS.boxes; simp only [bxn] at F
  cases gk with
  | zero => exact absurd H.out (by simp [spec_StoreOk.l0])
  | succ k21 =>
   simp only [spec_StoreOk.l0] at H
   by_cases c26 : x24 < (a0.f0.length : Int)
   case pos =>
    replace H := zpos c26 H
    replace c26 := eq_true c26
    by_cases c27 : 0 ≤ x24
    case neg => exact zno c27 H
    replace H := zpos c27 H
    replace c27 := eq_true c27
    by_cases c28 : x24 < (a0.f0.length : Int)
    case neg => exact zno c28 H
    replace H := zpos c28 H
    replace c28 := eq_true c28
    obtain ⟨ad29, B29_9, d29_9, B29_10, d29_10, B29_11, d29_11, rfl, e29_0, e29_1, e29_2, e29_3, e29_4, e29_5, e29_6, e29_7, e29_8, e29_9, e29_10, e29_11, e29_12, m29_9, y29_9, m29_10, y29_10, m29_11, y29_11⟩ := at_T91 gp0 x24 (of_eq_true c27) (of_eq_true c28)
    have e29_0_29 := (HS.keepc e29_0)
    have e29_1_29 := (HS.keepc e29_1)
    have e29_2_29 := (HS.keepc e29_2)
    have e29_3_29 := (HS.keepc e29_3)
    have e29_4_29 := (HS.keepc e29_4)
    have e29_5_29 := (HS.keepc e29_5)
    have e29_6_29 := (HS.keepc e29_6)
    have e29_7_29 := (HS.keepc e29_7)
    have e29_8_29 := (HS.keepc e29_8)
    have e29_9_29 := (HS.keepc e29_9)
    have e29_10_29 := (HS.keepc e29_10)
    have e29_11_29 := (HS.keepc e29_11)
    have e29_12_29 := (HS.keepc e29_12)
    replace H := zbind H; obtain ⟨t30, ht30, H⟩ := H
    by_cases c32 : t30.2 = true
    case neg =>
     replace H := zneg c32 H
     replace c32 := eq_false_of_ne_true c32
     obtain rfl := zsome H
     go_wp2_with (first | ((with_reducible refine gate_dst (N := 43) rfl ?_); refine ev_call rfl Tryz.func54 (by kernel_rfl) rfl #[.agg #[.int .i64 ((rd_T91 a0.f0 x24).f0), .string ((rd_T91 a0.f0 x24).f1), .string ((rd_T91 a0.f0 x24).f2), .int .i64 ((rd_T91 a0.f0 x24).f3), .int .i64 ((rd_T91 a0.f0 x24).f4), .string ((rd_T91 a0.f0 x24).f5), .bool ((rd_T91 a0.f0 x24).f6), .int .i64 ((rd_T91 a0.f0 x24).f7), .int .i64 ((rd_T91 a0.f0 x24).f8), .slice B29_9 (rd_T91 a0.f0 x24).f9.length d29_9, .slice B29_10 (rd_T91 a0.f0 x24).f10.length d29_10, .slice B29_11 (rd_T91 a0.f0 x24).f11.length d29_11, .string ((rd_T91 a0.f0 x24).f12)]] rfl (by simp only [mpn]; rfl) ?_; refine (spec_CertText.calls ht30.out (HS.ro y29_9) m29_9 (HS.ro y29_10) m29_10 (HS.ro y29_11) m29_11).mono ?_; rintro _ wt30 ⟨rfl, HQ⟩; refine ⟨_, rfl, ?_⟩; replace HS := HS.call HQ; clear HQ; (try clear F); (try simp only [hpn, hpm] at HS); have F := HS.boxes; simp only [bxn] at F; (try simp only [c32])))
     go_ret
     exact ⟨rfl, HS.pick [] (by decide) (by rfl)⟩
    replace H := zpos c32 H
    replace H := zbind H; obtain ⟨t33, ht33, H⟩ := H
    go_upto_if 52 with (first | ((with_reducible refine gate_dst (N := 43) rfl ?_); refine ev_call rfl Tryz.func54 (by kernel_rfl) rfl #[.agg #[.int .i64 ((rd_T91 a0.f0 x24).f0), .string ((rd_T91 a0.f0 x24).f1), .string ((rd_T91 a0.f0 x24).f2), .int .i64 ((rd_T91 a0.f0 x24).f3), .int .i64 ((rd_T91 a0.f0 x24).f4), .string ((rd_T91 a0.f0 x24).f5), .bool ((rd_T91 a0.f0 x24).f6), .int .i64 ((rd_T91 a0.f0 x24).f7), .int .i64 ((rd_T91 a0.f0 x24).f8), .slice B29_9 (rd_T91 a0.f0 x24).f9.length d29_9, .slice B29_10 (rd_T91 a0.f0 x24).f10.length d29_10, .slice B29_11 (rd_T91 a0.f0 x24).f11.length d29_11, .string ((rd_T91 a0.f0 x24).f12)]] rfl (by simp only [mpn]; rfl) ?_; refine (spec_CertText.calls ht30.out (HS.ro y29_9) m29_9 (HS.ro y29_10) m29_10 (HS.ro y29_11) m29_11).mono ?_; rintro _ wt30 ⟨rfl, HQ⟩; refine ⟨_, rfl, ?_⟩; replace HS := HS.call HQ; clear HQ; (try clear F); (try simp only [hpn, hpm] at HS); have F := HS.boxes; simp only [bxn] at F; (try simp only [c32])) | ((with_reducible refine gate_dst (N := 51) rfl ?_); refine gate_guard (by rfl) ?_; refine ev_call rfl Tryz.func55 (by kernel_rfl) rfl #[.slice B23 l22.length d23, .string t30.1] rfl (by simp only [mpn]; rfl) ?_; refine (spec_l13In.calls ht33.out (HS.rd 1 rfl) m23).mono ?_; rintro _ wt33 ⟨rfl, HQ⟩; refine ⟨_, rfl, ?_⟩; replace HS := HS.call HQ; clear HQ; (try clear F); (try simp only [hpn, hpm] at HS); have F := HS.boxes; simp only [bxn] at F))
    by_cases c35 : t33 = true
    case pos =>
     replace H := zpos c35 H
     subst c35
     (try simp only [dcn, if_true, Bool.false_eq_true, if_false])
     obtain rfl := zsome H
     go_wp2
     go_ret
     exact ⟨rfl, HS.pick [] (by decide) (by rfl)⟩
    replace H := zneg c35 H
    replace c35 := eq_false_of_ne_true c35
    subst c35
    (try simp only [dcn, if_true, Bool.false_eq_true, if_false])
    by_cases c38 : l22.length + 1 ≤ 8796093022208
    case neg => exact zno c38 H
    replace H := zpos c38 H
    replace c38 := eq_true c38
    replace H := zlets H; obtain ⟨y39, e_y39, H⟩ := H
    go_wp2_with (first | ((with_reducible refine gate_dst (N := 55) rfl ?_); refine ev_lit rfl Zd.string [] ([t30.1] : List ByteArray) ([.string t30.1] ++ []) HS (by first | (go_simp; done) | (go_simp; rfl)) rfl rfl (Nat.le_of_ble_eq_true rfl) (MadeL.cons (js1 := []) (c := [.string t30.1]) rfl (made_flat (fun _ => rfl)) MadeL.nil (by decide)) ?_; clear HS; (try clear F); intro v36 w36 HS; obtain ⟨B36, d36, rfl, m36⟩ := HS.formn 1 2 rfl rfl; (try simp only [hpn, hpm] at HS); have F := HS.boxes; simp only [bxn] at F) | ((with_reducible refine gate_dst (N := 56) rfl ?_); refine ev_append rfl Zd.string 1 2 HS rfl rfl (by decide) rfl rfl rfl Tryz.underlying57 info9 rfl (by decide) (by decide) (by have := of_eq_true c38; first | omega | (simp only [List.length_cons, List.length_nil, List.length_append, Nat.zero_add] at this ⊢; omega)) ?_; clear HS; (try clear F); intro v39 w39 HS; rw [← e_y39.out] at HS; obtain ⟨B39, d39, rfl, m39⟩ := HS.form 3 rfl; (try simp only [hpn, hpm] at HS); have F := HS.boxes; simp only [bxn] at F))
    go_roundg k21
    case measure => have := HKk21.out; omega
    case rel => exact ⟨_, _, _, rfl, rfl, H, ⟨by have := HKk21.out; omega⟩, HS.pick [0, 3] (by decide) (by rfl)⟩
   replace H := zneg c26 H
   replace c26 := eq_false c26
   go_wp2_with (first | ((with_reducible refine gate_dst (N := 57) rfl ?_); refine ev_lit rfl Zd.string [] ([] : List ByteArray) [] HS (by first | (go_simp; done) | (go_simp; rfl)) rfl rfl (Nat.le_of_ble_eq_true rfl) MadeL.nil ?_; clear HS; (try clear F); intro v41 w41 HS; obtain ⟨B41, d41, rfl, m41⟩ := HS.formn 0 2 rfl rfl; (try simp only [hpn, hpm] at HS); have F := HS.boxes; simp only [bxn] at F))
   (try obtain ⟨wok56, rfl⟩ : ∃ wo_ : World, wo_ = wr := ⟨_, rfl⟩)
   go_loopg [7, 8] k21 (fun kq v_7 v_8 w' => ∃ (l57 : List ByteArray) (v58 : Value) (x59 : Int), v_7 = v58 ∧ v_8 = .int .i64 x59 ∧ Aside0 (spec_StoreOk.l1 kq l57 x59 a0 = some r) ∧ Aside0 (kq ≤ k21) ∧ Hp noFP w w' [.box g1 [.slice Ap0 a0.f0.length cp0, .slice Ap1 a0.f1.length cp1, .slice Ap2 a0.f2.length cp2] 33, .own (Zd.slice 9 Zd.string) l22 [.slice B23 l22.length d23], .own (Zd.slice 9 Zd.string) l57 [v58]])
   case atStart => exact ⟨_, _, _, rfl, rfl, H, ⟨Nat.le_refl _⟩, HS⟩
   case round =>
    clear HS H; (try clear F)
    obtain ⟨l57, v58, x59, rfl, rfl, H, HKk56, HS⟩ := hrel
    obtain ⟨B58, d58, rfl, m58⟩ := HS.form 2 rfl
    have F := HS.boxes; simp only [bxn] at F
    cases gk with
    | zero => exact absurd H.out (by simp [spec_StoreOk.l1])
    | succ k56 =>
     simp only [spec_StoreOk.l1] at H
     by_cases c61 : x59 < (a0.f1.length : Int)
     case pos =>
      replace H := zpos c61 H
      replace c61 := eq_true c61
      by_cases c62 : 0 ≤ x59
      case neg => exact zno c62 H
      replace H := zpos c62 H
      replace c62 := eq_true c62
      by_cases c63 : x59 < (a0.f1.length : Int)
      case neg => exact zno c63 H
      replace H := zpos c63 H
      replace c63 := eq_true c63
      obtain ⟨ad64, B64_5, d64_5, rfl, e64_0, e64_1, e64_2, e64_3, e64_4, e64_5, e64_6, m64_5, y64_5⟩ := at_T81 gp1 x59 (of_eq_true c62) (of_eq_true c63)
      have e64_0_64 := (HS.keepc e64_0)
      have e64_1_64 := (HS.keepc e64_1)
      have e64_2_64 := (HS.keepc e64_2)
      have e64_3_64 := (HS.keepc e64_3)
      have e64_4_64 := (HS.keepc e64_4)
      have e64_5_64 := (HS.keepc e64_5)
      have e64_6_64 := (HS.keepc e64_6)
      replace H := zbind H; obtain ⟨t65, ht65, H⟩ := H
      by_cases c67 : t65.2 = true
      case neg =>
       replace H := zneg c67 H
       replace c67 := eq_false_of_ne_true c67
       obtain rfl := zsome H
       go_wp2_with (first | ((with_reducible refine gate_dst (N := 71) rfl ?_); refine ev_call rfl Tryz.func56 (by kernel_rfl) rfl #[.agg #[.string ((rd_T81 a0.f1 x59).f0), .int .i64 ((rd_T81 a0.f1 x59).f1), .int .i64 ((rd_T81 a0.f1 x59).f2), .int .i64 ((rd_T81 a0.f1 x59).f3), .int .i64 ((rd_T81 a0.f1 x59).f4), .slice B64_5 (rd_T81 a0.f1 x59).f5.length d64_5, .string ((rd_T81 a0.f1 x59).f6)]] rfl (by simp only [mpn]; rfl) ?_; refine (spec_CrlText.calls ht65.out (HS.ro y64_5) m64_5).mono ?_; rintro _ wt65 ⟨rfl, HQ⟩; refine ⟨_, rfl, ?_⟩; replace HS := HS.call HQ; clear HQ; (try clear F); (try simp only [hpn, hpm] at HS); have F := HS.boxes; simp only [bxn] at F; (try simp only [c67])))
       go_ret
       exact ⟨rfl, HS.pick [] (by decide) (by rfl)⟩
      replace H := zpos c67 H
      replace H := zbind H; obtain ⟨t68, ht68, H⟩ := H
      go_upto_if 80 with (first | ((with_reducible refine gate_dst (N := 71) rfl ?_); refine ev_call rfl Tryz.func56 (by kernel_rfl) rfl #[.agg #[.string ((rd_T81 a0.f1 x59).f0), .int .i64 ((rd_T81 a0.f1 x59).f1), .int .i64 ((rd_T81 a0.f1 x59).f2), .int .i64 ((rd_T81 a0.f1 x59).f3), .int .i64 ((rd_T81 a0.f1 x59).f4), .slice B64_5 (rd_T81 a0.f1 x59).f5.length d64_5, .string ((rd_T81 a0.f1 x59).f6)]] rfl (by simp only [mpn]; rfl) ?_; refine (spec_CrlText.calls ht65.out (HS.ro y64_5) m64_5).mono ?_; rintro _ wt65 ⟨rfl, HQ⟩; refine ⟨_, rfl, ?_⟩; replace HS := HS.call HQ; clear HQ; (try clear F); (try simp only [hpn, hpm] at HS); have F := HS.boxes; simp only [bxn] at F; (try simp only [c67])) | ((with_reducible refine gate_dst (N := 79) rfl ?_); refine gate_guard (by rfl) ?_; refine ev_call rfl Tryz.func55 (by kernel_rfl) rfl #[.slice B58 l57.length d58, .string t65.1] rfl (by simp only [mpn]; rfl) ?_; refine (spec_l13In.calls ht68.out (HS.rd 2 rfl) m58).mono ?_; rintro _ wt68 ⟨rfl, HQ⟩; refine ⟨_, rfl, ?_⟩; replace HS := HS.call HQ; clear HQ; (try clear F); (try simp only [hpn, hpm] at HS); have F := HS.boxes; simp only [bxn] at F))
      by_cases c70 : t68 = true
      case pos =>
       replace H := zpos c70 H
       subst c70
       (try simp only [dcn, if_true, Bool.false_eq_true, if_false])
       obtain rfl := zsome H
       go_wp2
       go_ret
       exact ⟨rfl, HS.pick [] (by decide) (by rfl)⟩
      replace H := zneg c70 H
      replace c70 := eq_false_of_ne_true c70
      subst c70
      (try simp only [dcn, if_true, Bool.false_eq_true, if_false])
      by_cases c73 : l57.length + 1 ≤ 8796093022208
      case neg => exact zno c73 H
      replace H := zpos c73 H
      replace c73 := eq_true c73
      replace H := zlets H; obtain ⟨y74, e_y74, H⟩ := H
      go_wp2_with (first | ((with_reducible refine gate_dst (N := 83) rfl ?_); refine ev_lit rfl Zd.string [] ([t65.1] : List ByteArray) ([.string t65.1] ++ []) HS (by first | (go_simp; done) | (go_simp; rfl)) rfl rfl (Nat.le_of_ble_eq_true rfl) (MadeL.cons (js1 := []) (c := [.string t65.1]) rfl (made_flat (fun _ => rfl)) MadeL.nil (by decide)) ?_; clear HS; (try clear F); intro v71 w71 HS; obtain ⟨B71, d71, rfl, m71⟩ := HS.formn 1 3 rfl rfl; (try simp only [hpn, hpm] at HS); have F := HS.boxes; simp only [bxn] at F) | ((with_reducible refine gate_dst (N := 84) rfl ?_); refine ev_append rfl Zd.string 2 3 HS rfl rfl (by decide) rfl rfl rfl Tryz.underlying57 info9 rfl (by decide) (by decide) (by have := of_eq_true c73; first | omega | (simp only [List.length_cons, List.length_nil, List.length_append, Nat.zero_add] at this ⊢; omega)) ?_; clear HS; (try clear F); intro v74 w74 HS; rw [← e_y74.out] at HS; obtain ⟨B74, d74, rfl, m74⟩ := HS.form 4 rfl; (try simp only [hpn, hpm] at HS); have F := HS.boxes; simp only [bxn] at F))
      go_roundg k56
      case measure => have := HKk21.out; have := HKk56.out; omega
      case rel => exact ⟨_, _, _, rfl, rfl, H, ⟨by have := HKk21.out; have := HKk56.out; omega⟩, HS.pick [0, 1, 4] (by decide) (by rfl)⟩
     replace H := zneg c61 H
     replace c61 := eq_false c61
     go_wp2
     (try obtain ⟨wok78, rfl⟩ : ∃ wo_ : World, wo_ = wr := ⟨_, rfl⟩)
     go_loopg [11] k56 (fun kq v_11 w' => ∃ (x79 : Int), v_11 = .int .i64 x79 ∧ Aside0 (spec_StoreOk.l2 kq x79 a0 = some r) ∧ Aside0 (kq ≤ k56) ∧ Hp noFP w w' [.box g1 [.slice Ap0 a0.f0.length cp0, .slice Ap1 a0.f1.length cp1, .slice Ap2 a0.f2.length cp2] 33, .own (Zd.slice 9 Zd.string) l22 [.slice B23 l22.length d23], .own (Zd.slice 9 Zd.string) l57 [.slice B58 l57.length d58]])
     case atStart => exact ⟨_, rfl, H, ⟨Nat.le_refl _⟩, HS⟩
     case round =>
      clear HS H; (try clear F)
      obtain ⟨x79, rfl, H, HKk78, HS⟩ := hrel
      have F := HS.boxes; simp only [bxn] at F
      cases gk with
      | zero => exact absurd H.out (by simp [spec_StoreOk.l2])
      | succ k78 =>
       simp only [spec_StoreOk.l2] at H
       by_cases c81 : x79 < (a0.f2.length : Int)
       case neg =>
        replace H := zneg c81 H
        replace c81 := eq_false c81
        obtain rfl := zsome H
        go_wp2
        go_ret
        exact ⟨rfl, HS.pick [] (by decide) (by rfl)⟩
       replace H := zpos c81 H
       replace c81 := eq_true c81
       by_cases c82 : 0 ≤ x79
       case neg => exact zno c82 H
       replace H := zpos c82 H
       replace c82 := eq_true c82
       by_cases c83 : x79 < (a0.f2.length : Int)
       case neg => exact zno c83 H
       replace H := zpos c83 H
       replace c83 := eq_true c83
       obtain ⟨ad84, rfl, e84_0, e84_1⟩ := at_T115 gp2 x79 (of_eq_true c82) (of_eq_true c83)
       have e84_0_84 := (HS.keepc e84_0)
       have e84_1_84 := (HS.keepc e84_1)
       replace H := zbind H; obtain ⟨t85, ht85, H⟩ := H
       go_upto_if 98 with (first | ((with_reducible refine gate_dst (N := 97) rfl ?_); refine ev_call rfl Tryz.func57 (by kernel_rfl) rfl #[.agg #[.string ((rd_T115 a0.f2 x79).f0), .string ((rd_T115 a0.f2 x79).f1)]] rfl (by simp only [mpn]; rfl) ?_; refine (spec_l13Anchor.calls ht85.out).mono ?_; rintro _ wt85 ⟨rfl, HQ⟩; refine ⟨_, rfl, ?_⟩; replace HS := HS.call HQ; clear HQ; (try clear F); (try simp only [hpn, hpm] at HS); have F := HS.boxes; simp only [bxn] at F))
       by_cases c87 : t85 = true
       case neg =>
        replace H := zneg c87 H
        replace c87 := eq_false_of_ne_true c87
        subst c87
        (try simp only [dcn, if_true, Bool.false_eq_true, if_false])
        obtain rfl := zsome H
        go_wp2
        go_ret
        exact ⟨rfl, HS.pick [] (by decide) (by rfl)⟩
       replace H := zpos c87 H
       subst c87
       (try simp only [dcn, if_true, Bool.false_eq_true, if_false])
       go_wp2
       (try obtain ⟨wok90, rfl⟩ : ∃ wo_ : World, wo_ = wr := ⟨_, rfl⟩)
       go_loopg [12] k78 (fun kq v_12 w' => ∃ (x91 : Int), v_12 = .int .i64 x91 ∧ Aside0 (spec_StoreOk.l3 kq x91 a0 x79 = some r) ∧ Aside0 (kq ≤ k78) ∧ Hp noFP w w' [.box g1 [.slice Ap0 a0.f0.length cp0, .slice Ap1 a0.f1.length cp1, .slice (some ad84) a0.f2.length cp2] 33, .own (Zd.slice 9 Zd.string) l22 [.slice B23 l22.length d23], .own (Zd.slice 9 Zd.string) l57 [.slice B58 l57.length d58]])
       case atStart => exact ⟨_, rfl, H, ⟨Nat.le_refl _⟩, HS⟩
       case round =>
        clear HS H; (try clear F)
        obtain ⟨x91, rfl, H, HKk90, HS⟩ := hrel
        have F := HS.boxes; simp only [bxn] at F
        cases gk with
        | zero => exact absurd H.out (by simp [spec_StoreOk.l3])
        | succ k90 =>
         simp only [spec_StoreOk.l3] at H
         by_cases c93 : x91 < x79
         case neg =>
          replace H := zneg c93 H
          replace c93 := eq_false c93
          go_wp2
          go_roundg k90
          case measure => have := HKk21.out; have := HKk56.out; have := HKk78.out; have := HKk90.out; omega
          case rel => exact ⟨_, rfl, H, ⟨by have := HKk21.out; have := HKk56.out; have := HKk78.out; have := HKk90.out; omega⟩, HS.pick [0, 1, 2] (by decide) (by rfl)⟩
         replace H := zpos c93 H
         replace c93 := eq_true c93
         (try go_wp2)
         by_cases c103001 : 0 ≤ x91
         case neg => exact zno c103001 H
         replace H := zpos c103001 H
         replace c103001 := eq_true c103001
         by_cases c103002 : x91 < (a0.f2.length : Int)
         case neg => exact zno c103002 H
         replace H := zpos c103002 H
         replace c103002 := eq_true c103002
         obtain ⟨ad103999, hq103999, e103999_0, e103999_1⟩ := at_T115 gp2 x91 (of_eq_true c103001) (of_eq_true c103002); obtain rfl := Option.some.inj hq103999
         obtain ⟨ad109999, hq109999, e109999_0, e109999_1⟩ := at_T115 gp2 x79 (of_eq_true c82) (of_eq_true c83); obtain rfl := Option.some.inj hq109999
         refine dr_start [] HS #[false, false, false, false, false, false, false, false, false, false, false, false, false] (by kernel_rfl) rfl rfl spec_StoreOk.tT27 (fun w95 HT HS HH => ?_)
         (try clear F)
         refine drq_of [(0, some 104), (1, some 105), (2, some 106), (3, some 107), (4, some 108)] ?_
         repeat (first | (refine drq_pure HT (v := ?_) (a' := ?_) rfl rfl (by kernel_rfl) (fun _ _ _ h => h) (.inl ⟨by rfl, ?_⟩) ?_ ?_; rotate_left; (intro w'; go_simp; with_reducible rfl); rotate_left; (simp only [Act.put, ptn]; rfl)) | (refine drq_take HT HH (v := ?_) (a' := ?_) rfl rfl (by kernel_rfl) (fun _ _ _ h => h) (.inl ⟨by rfl, ?_⟩) ?_ ?_; rotate_left; (rintro w' ⟨rs', HS'⟩; have F := HS'.boxes; simp only [bxn, List.cons_append, List.nil_append] at F; go_simp; with_reducible rfl); rotate_left; (simp only [Act.put, ptn]; rfl)))
         refine drq_end ?_
         refine dr_take 5 (some 109) HT HH (v := ?_) (a' := ?_) rfl rfl (by kernel_rfl) (fun _ _ _ h => h) (.inl ⟨by rfl, ?_⟩) ?_ ?_
         rotate_left
         · rintro w' ⟨rs', HS'⟩; have e103999_0 := (HS'.keepc e103999_0); have e103999_1 := (HS'.keepc e103999_1); go_simp; with_reducible rfl
         rotate_left
         · simp only [Act.put, ptn]; rfl
         refine drq_of [(6, some 110), (7, some 111), (8, some 112), (9, some 113), (10, some 114)] ?_
         repeat (first | (refine drq_pure HT (v := ?_) (a' := ?_) rfl rfl (by kernel_rfl) (fun _ _ _ h => h) (.inl ⟨by rfl, ?_⟩) ?_ ?_; rotate_left; (intro w'; go_simp; with_reducible rfl); rotate_left; (simp only [Act.put, ptn]; rfl)) | (refine drq_take HT HH (v := ?_) (a' := ?_) rfl rfl (by kernel_rfl) (fun _ _ _ h => h) (.inl ⟨by rfl, ?_⟩) ?_ ?_; rotate_left; (rintro w' ⟨rs', HS'⟩; have F := HS'.boxes; simp only [bxn, List.cons_append, List.nil_append] at F; go_simp; with_reducible rfl); rotate_left; (simp only [Act.put, ptn]; rfl)))
         refine drq_end ?_
         refine dr_take 11 (some 115) HT HH (v := ?_) (a' := ?_) rfl rfl (by kernel_rfl) (fun _ _ _ h => h) (.inl ⟨by rfl, ?_⟩) ?_ ?_
         rotate_left
         · rintro w' ⟨rs', HS'⟩; have e109999_0 := (HS'.keepc e109999_0); have e109999_1 := (HS'.keepc e109999_1); go_simp; with_reducible rfl
         rotate_left
         · simp only [Act.put, ptn]; rfl
         refine drq_of [(12, some 116)] ?_
         repeat (first | (refine drq_pure HT (v := ?_) (a' := ?_) rfl rfl (by kernel_rfl) (fun _ _ _ h => h) (.inl ⟨by rfl, ?_⟩) ?_ ?_; rotate_left; (intro w'; go_simp; with_reducible rfl); rotate_left; (simp only [Act.put, ptn]; rfl)))
         refine drq_end ?_
         refine done_ (done_of HT.out (by kernel_rfl)) ?_
         (try clear F)
         have F := HS.boxes; simp only [bxn] at F
         by_cases c97 : ((rd_T115 a0.f2 x91).f0).toList = ((rd_T115 a0.f2 x79).f0).toList
         case pos =>
          replace H := zpos c97 H
          have c97a := beq_iff_eq.mpr c97
          have c97b := bne_eq_false_iff_eq.mpr c97
          clear c97
          (try simp only [c97a, c97b, dcn])
          obtain rfl := zsome H
          go_wp2
          go_ret
          exact ⟨rfl, HS.pick [] (by decide) (by rfl)⟩
         replace H := zneg c97 H
         have c97a := beq_eq_false_iff_ne.mpr c97
         have c97b := bne_iff_ne.mpr c97
         clear c97
         (try simp only [c97a, c97b, dcn])
         go_wp2
         go_roundg k90
         case measure => have := HKk21.out; have := HKk56.out; have := HKk78.out; have := HKk90.out; omega
         case rel => exact ⟨_, rfl, H, ⟨by have := HKk21.out; have := HKk56.out; have := HKk78.out; have := HKk90.out; omega⟩, HS.pick [0, 1, 2] (by decide) (by rfl)⟩
end Go.Proofs.YtacocpknielofaaGreatDoor.F

/- Functions of the program and of the law, and that their calls do what is written here. -/
import Derived.Test.YtacocpknielofaaGreatDoorZgFnExactStoreOkh
import Derived.Test.YtacocpknielofaaGreatDoorZgFnExactStoreOki
import Derived.Test.YtacocpknielofaaGreatDoorZgFnExactStoreOkj
import Derived.Test.YtacocpknielofaaGreatDoorZgFnExactStoreOkk
import Derived.Test.YtacocpknielofaaGreatDoorZgFnExactStoreOkn
namespace Go.Proofs.YtacocpknielofaaGreatDoor.F
open Go.RowKit Go.Proofs.YtacocpknielofaaGreatDoorW.PrintWords Go.Proofs.YtacocpknielofaaGreatDoorW.PrintLast Go.Proofs.YtacocpknielofaaGreatDoorW.PrintMore Go.Proofs.YtacocpknielofaaGreatDoor.Z
attribute [local go_sem] max2_int min2_int max_two min_two max_three min_three max_four min_four
set_option linter.unusedVariables false
set_option linter.unusedSimpArgs false
set_option maxRecDepth 100000
/-! ### impl_crlItem_1: function 207 -/
def impl_crlItem_1.f (k : Nat) (a0 : S238) : Option (S182) := ((impl_IntItem.f k a0.f0).bind fun t102001 => ((impl_IntItem.f k a0.f1).bind fun t105001 => ((impl_ListItem.f k ([t102001, t105001] : List S182)).bind fun t107001 => (some (⟨t107001.f0, t107001.f1, t107001.f2⟩ : S182)))))
def impl_crlItem_1.T1 : Bool × List (List Nat × List Nat) := (true, [([], []), ([0], [0]), ([1], [1]), ([], []), ([3], [3]), ([4, 2], [4]), ([2, 5], [2, 5]), ([6, 5], [6]), ([7, 7, 0, 1, 2, 3, 4, 5, 6, 7], [7])])
theorem impl_crlItem_1.tT1 : rtab .any (opsOf Tryz.f207 1) = impl_crlItem_1.T1 := by kernel_rfl
set_option maxHeartbeats 16000000 in
theorem impl_crlItem_1.calls {k : Nat} {a0 : S238} {r : S182} {w : World} (h : impl_crlItem_1.f k a0 = some r) :
    Calls Tryz.prog 207 #[.agg #[.int .i64 a0.f0, .int .i64 a0.f1]] w (fun e w' => ∃ v0_ : Value, e = .returned (.agg #[.int .i64 r.f0, .string r.f1, v0_]) ∧ Hp noFP w w' [.own (Zd.slice 182 q182) r.f2 [v0_]]) := by
 have HS := Hp.start w
 have H := Aside0.mk h
 clear h
 unfold impl_crlItem_1.f at H
 go_enter Tryz.func207, Tryz.ntmps207
 go_wp2_with (first | ((with_reducible refine gate_dst (N := 1) rfl ?_); refine ev_box rfl HS (by first | (go_simp; done) | (go_simp; rfl)) rfl ?_; clear HS; (try clear F); intro g1 w1 HS; (try simp only [hpn, hpm] at HS); have F := HS.boxes; simp only [bxn] at F) | ((with_reducible refine gate_dst (N := 2) rfl ?_); refine ev_box rfl HS (by first | (go_simp; done) | (go_simp; rfl)) rfl ?_; clear HS; (try clear F); intro g2 w2 HS; (try simp only [hpn, hpm] at HS); have F := HS.boxes; simp only [bxn] at F))
 replace H := zbind H; obtain ⟨t102001, ht102001, H⟩ := H
 replace H := zbind H; obtain ⟨t105001, ht105001, H⟩ := H
 replace H := zbind H; obtain ⟨t107001, ht107001, H⟩ := H
 refine dr_start [8] HS #[false, false, false, false, false, false, false, false, false] (by kernel_rfl) rfl rfl impl_crlItem_1.tT1 (fun w6 HT HS HH => ?_)
 (try clear F)
 refine drq_of [(0, some 3), (1, some 4), (3, some 6), (4, some 7)] ?_
 repeat (first | (refine drq_pure HT (v := ?_) (a' := ?_) rfl rfl (by kernel_rfl) (fun _ _ _ h => h) (.inl ⟨by rfl, ?_⟩) ?_ ?_; rotate_left; (intro w'; go_simp; with_reducible rfl); rotate_left; (simp only [Act.put, ptn]; rfl)) | (refine drq_take HT HH (v := ?_) (a' := ?_) rfl rfl (by kernel_rfl) (fun _ _ _ h => h) (.inl ⟨by rfl, ?_⟩) ?_ ?_; rotate_left; (rintro w' ⟨rs', HS'⟩; have F := HS'.boxes; simp only [bxn, List.cons_append, List.nil_append] at F; go_simp; with_reducible rfl); rotate_left; (simp only [Act.put, ptn]; rfl)))
 refine drq_end ?_
 refine dr_one 2 HT rfl (by kernel_rfl) (by decide) (fun K hK => ?_)
 refine goes_ Tryz.func202 (by kernel_rfl) rfl #[.int .i64 a0.f0] (by rfl) rfl rfl (by simp only [mpn]; rfl) ?_; refine (impl_IntItem.calls ht102001.out).mono ?_; rintro _ wt102001 ⟨v102002, rfl, HQ⟩; refine ⟨_, rfl, ?_⟩; replace HS := HS.call HQ; clear HQ; (try clear F); obtain ⟨B102002, d102002, rfl, m102002⟩ := HS.form 2 rfl
 (try simp only [hpn, hpm] at HS)
 have F := HS.boxes; simp only [bxn] at F
 refine hK.out _ _ ⟨_, HS⟩ (fun HH => ?_)
 clear hK K
 refine norm_ (a' := ?_) ?_ ?_
 rotate_left
 · show Act.put _ (some 5) _ = _; simp only [Act.put, ptn]; rfl
 refine dr_one 5 HT rfl (by kernel_rfl) (by decide) (fun K hK => ?_)
 refine goes_ Tryz.func202 (by kernel_rfl) rfl #[.int .i64 a0.f1] (by rfl) rfl rfl (by simp only [mpn]; rfl) ?_; refine (impl_IntItem.calls ht105001.out).mono ?_; rintro _ wt105001 ⟨v105002, rfl, HQ⟩; refine ⟨_, rfl, ?_⟩; replace HS := HS.call HQ; clear HQ; (try clear F); obtain ⟨B105002, d105002, rfl, m105002⟩ := HS.form 3 rfl
 (try simp only [hpn, hpm] at HS)
 have F := HS.boxes; simp only [bxn] at F
 refine hK.out _ _ ⟨_, HS⟩ (fun HH => ?_)
 clear hK K
 refine norm_ (a' := ?_) ?_ ?_
 rotate_left
 · show Act.put _ (some 8) _ = _; simp only [Act.put, ptn]; rfl
 refine dr_one 6 HT rfl (by kernel_rfl) (by decide) (fun K hK => ?_)
 refine if_wp (by rfl) ?_; refine wp_lit q182 [2, 3] ([t102001, t105001] : List S182) ([.int .i64 t102001.f0, .string t102001.f1, .slice B102002 t102001.f2.length d102002] ++ ([.int .i64 t105001.f0, .string t105001.f1, .slice B105002 t105001.f2.length d105002] ++ [])) HS (by first | (go_simp; done) | (go_simp; rfl)) rfl rfl (Nat.le_of_ble_eq_true rfl) (MadeL.cons (js1 := [2]) (c := [.int .i64 t102001.f0, .string t102001.f1, .slice B102002 t102001.f2.length d102002]) rfl (fun S hd hh => q182_pack (x := t102001) hd (hh 2 (.own (Zd.slice 182 q182) t102001.f2 [.slice B102002 t102001.f2.length d102002]) rfl) (by decide)) (MadeL.cons (js1 := [3]) (c := [.int .i64 t105001.f0, .string t105001.f1, .slice B105002 t105001.f2.length d105002]) rfl (fun S hd hh => q182_pack (x := t105001) hd (hh 3 (.own (Zd.slice 182 q182) t105001.f2 [.slice B105002 t105001.f2.length d105002]) rfl) (by decide)) MadeL.nil (by decide)) (by decide)) ?_; clear HS; (try clear F); intro v106001 w106001 HS; obtain ⟨B106001, d106001, rfl, m106001⟩ := HS.formn 2 4 rfl rfl
 (try simp only [hpn, hpm] at HS)
 have F := HS.boxes; simp only [bxn] at F
 refine hK.out _ _ ⟨_, HS⟩ (fun HH => ?_)
 clear hK K
 refine norm_ (a' := ?_) ?_ ?_
 rotate_left
 · show Act.put _ (some 9) _ = _; simp only [Act.put, ptn]; rfl
 refine dr_one 7 HT rfl (by kernel_rfl) (by decide) (fun K hK => ?_)
 refine goes_ Tryz.func145 (by kernel_rfl) rfl #[.slice B106001 2 d106001] (by rfl) rfl rfl (by simp only [mpn]; rfl) ?_; refine (impl_ListItem.calls ht107001.out (HS.rd 4 rfl) m106001).mono ?_; rintro _ wt107001 ⟨v107002, rfl, HQ⟩; refine ⟨_, rfl, ?_⟩; replace HS := HS.call HQ; clear HQ; (try clear F); obtain ⟨B107002, d107002, rfl, m107002⟩ := HS.form 5 rfl
 (try simp only [hpn, hpm] at HS)
 have F := HS.boxes; simp only [bxn] at F
 refine hK.out _ _ ⟨_, HS⟩ (fun HH => ?_)
 clear hK K
 refine norm_ (a' := ?_) ?_ ?_
 rotate_left
 · show Act.put _ (some 10) _ = _; simp only [Act.put, ptn]; rfl
 refine dr_last 8 HT rfl (by kernel_rfl) (by decide) (fun K hK => ?_)
 refine if_wp (by rfl) ?_; refine wp_store 1 0 HS (seg := [.int .i64 t107001.f0, .string t107001.f1, .slice B107002 t107001.f2.length d107002]) rfl rfl rfl rfl rfl rfl (by kernel_rfl) (by simp [wrt]) (by simp [Value.oneCell']) ?_; clear HS; (try clear F); intro w108001 HS
 (try simp only [hpn, hpm] at HS)
 have F := HS.boxes; simp only [bxn] at F
 refine hK.out _ _ ?_
 clear hK K
 refine done_ (done_of HT.out (by kernel_rfl)) ?_
 (try clear F)
 have F := HS.boxes; simp only [bxn] at F
 obtain rfl := zsome H
 go_wp2
 exact bodyPost_ret (results_single rfl (.cell _ _ _ _ _ rfl (HS.boxAt (i := 1) rfl) Tryz.underlying182 rfl (by kernel_rfl) .nil)) rfl ⟨_, rfl, HS.pick [5] (by decide) (by rfl)⟩
/-! ### impl_Rev_0: function 208 -/
def impl_Rev_0.l0 : Nat → (List S182) → Int → (List S238) → Option (S182)
  | 0, _, _, _ => none
  | k + 1, l26, x28, a0 => (if x28 < (a0.length : Int) then (if 0 ≤ x28 then (if x28 < (a0.length : Int) then ((impl_crlItem_1.f k (rd_T238 a0 x28)).bind fun t204001 => (if l26.length + 1 ≤ 2932031007402 then (lets (l26 ++ ([t204001] : List S182)) fun y206999 => (impl_Rev_0.l0 k y206999 (wrap64 (x28 + 1)) a0)) else none)) else none) else none) else (some (⟨48, (⟨#[]⟩ : ByteArray), l26⟩ : S182)))
def impl_Rev_0.f (k : Nat) (a0 : (List S238)) : Option (S182) := (impl_Rev_0.l0 k [] 0 a0)
def impl_Rev_0.T5 : Bool × List (List Nat × List Nat) := (true, [([], []), ([0], [0]), ([], []), ([], []), ([2, 3], [2, 3]), ([4], [4]), ([1, 5, 4], [1, 5]), ([0, 1, 2, 3, 4, 5, 6], []), ([7, 6, 6, 0, 1, 2, 3, 4, 5, 6], [6, 7])])
theorem impl_Rev_0.tT5 : rtab .any (opsOf Tryz.f208 5) = impl_Rev_0.T5 := by kernel_rfl
set_option maxHeartbeats 16000000 in
theorem impl_Rev_0.calls {k : Nat} {a0 : (List S238)} {Ap0 : Option Addr} {np0 cp0 : Nat} {r : S182} {w : World} (h : impl_Rev_0.f k a0 = some r) (gp0 : k238.C w Ap0 np0 a0) (lp0 : np0 ≤ cp0) :
    Calls Tryz.prog 208 #[.slice Ap0 np0 cp0, .func (.func 207) #[] #[]] w (fun e w' => ∃ v0_ : Value, e = .returned (.agg #[.int .i64 r.f0, .string r.f1, v0_]) ∧ Hp noFP w w' [.own (Zd.slice 182 q182) r.f2 [v0_]]) := by
 obtain rfl := C_len gp0
 have HS := Hp.start w
 have H := Aside0.mk h
 clear h
 unfold impl_Rev_0.f at H
 go_enter Tryz.func208, Tryz.ntmps208
 go_wp2_with (first | ((with_reducible refine gate_dst (N := 4) rfl ?_); refine ev_box rfl HS (by first | (go_simp; done) | (go_simp; rfl)) rfl ?_; clear HS; (try clear F); intro g4 w4 HS; (try simp only [hpn, hpm] at HS); have F := HS.boxes; simp only [bxn] at F) | ((with_reducible refine gate_dst (N := 5) rfl ?_); refine ev_box rfl HS (by first | (go_simp; done) | (go_simp; rfl)) rfl ?_; clear HS; (try clear F); intro g5 w5 HS; (try simp only [hpn, hpm] at HS); have F := HS.boxes; simp only [bxn] at F) | ((with_reducible refine gate_store (p := 5) rfl ?_); refine ev_store rfl 1 0 HS (seg := [.int .i64 48, .string (⟨#[]⟩ : ByteArray), .slice none 0 0]) rfl rfl rfl rfl rfl rfl (by kernel_rfl) (by simp [wrt]) (by simp [Value.oneCell']) ?_; clear HS; (try clear F); intro w5 HS; (try simp only [hpn, hpm] at HS); have F := HS.boxes; simp only [bxn] at F))
 replace HS := HS.nil 182 q182
 go_loopg [11] k (fun kq v_11 w' => ∃ (l26 : List S182) (v27 : Value) (x28 : Int), v_11 = .int .i64 x28 ∧ Aside0 (impl_Rev_0.l0 kq l26 x28 a0 = some r) ∧ Aside0 (kq ≤ k) ∧ Hp noFP w w' [.box g4 [.int .i64 0, .string (⟨#[]⟩ : ByteArray), .slice none 0 0] 182, .box g5 [.int .i64 48, .string (⟨#[]⟩ : ByteArray), v27] 182, .own (Zd.slice 182 q182) l26 [v27]])
 case atStart => exact ⟨_, _, _, rfl, H, ⟨Nat.le_refl _⟩, HS⟩
 case round =>
  clear HS H; (try clear F)
  obtain ⟨l26, v27, x28, rfl, H, HKk25, HS⟩ := hrel
  obtain ⟨B27, d27, rfl, m27⟩ := HS.form 2 rfl
  have F := HS.boxes; simp only [bxn] at F
  cases gk with
  | zero => exact absurd H.out (by simp [impl_Rev_0.l0])
  | succ k25 =>
   simp only [impl_Rev_0.l0] at H
   by_cases c30 : x28 < (a0.length : Int)
   case neg =>
    replace H := zneg c30 H
    replace c30 := eq_false c30
    obtain rfl := zsome H
    go_wp2_with (first | ((with_reducible refine gate_store (p := 4) rfl ?_); refine ev_store rfl 0 0 HS (seg := [.int .i64 48, .string (⟨#[]⟩ : ByteArray), .slice B27 l26.length d27]) rfl rfl rfl rfl rfl rfl (by kernel_rfl) (by simp [wrt]) (by simp [Value.oneCell']) ?_; clear HS; (try clear F); intro w41 HS; (try simp only [hpn, hpm] at HS); have F := HS.boxes; simp only [bxn] at F))
    exact bodyPost_ret (results_single rfl (.cell _ _ _ _ _ rfl (HS.boxAt (i := 0) rfl) Tryz.underlying182 rfl (by kernel_rfl) .nil)) rfl ⟨_, rfl, HS.pick [2] (by decide) (by rfl)⟩
   replace H := zpos c30 H
   replace c30 := eq_true c30
   by_cases c31 : 0 ≤ x28
   case neg => exact zno c31 H
   replace H := zpos c31 H
   replace c31 := eq_true c31
   by_cases c32 : x28 < (a0.length : Int)
   case neg => exact zno c32 H
   replace H := zpos c32 H
   replace c32 := eq_true c32
   obtain ⟨ad33, rfl, e33_0, e33_1⟩ := at_T238 gp0 x28 (of_eq_true c31) (of_eq_true c32)
   have e33_0_33 := (HS.keepc e33_0)
   have e33_1_33 := (HS.keepc e33_1)
   go_wp2_with (first | ((with_reducible refine gate_dst (N := 7) rfl ?_); refine ev_box rfl HS (by first | (go_simp; done) | (go_simp; rfl)) rfl ?_; clear HS; (try clear F); intro g7 w7 HS; (try simp only [hpn, hpm] at HS); have F := HS.boxes; simp only [bxn] at F) | ((with_reducible refine gate_store (p := 7) rfl ?_); refine ev_store rfl 3 0 HS (seg := [.int .i64 ((rd_T238 a0 x28).f0), .int .i64 ((rd_T238 a0 x28).f1)]) rfl rfl rfl rfl rfl rfl (by kernel_rfl) (by simp [wrt]) (by simp [Value.oneCell']) ?_; clear HS; (try clear F); intro w36 HS; (try simp only [hpn, hpm] at HS); have F := HS.boxes; simp only [bxn] at F))
   replace H := zbind H; obtain ⟨t204001, ht204001, H⟩ := H
   by_cases c206001 : l26.length + 1 ≤ 2932031007402
   case neg => exact zno c206001 H
   replace H := zpos c206001 H
   replace c206001 := eq_true c206001
   replace H := zlets H; obtain ⟨y206999, e_y206999, H⟩ := H
   refine dr_start2 [.box g4 [.int .i64 0, .string (⟨#[]⟩ : ByteArray), .slice none 0 0] 182, .box g5 [.int .i64 48, .string (⟨#[]⟩ : ByteArray), .slice B27 l26.length d27] 182, .emp, .box g7 [.int .i64 ((rd_T238 a0 x28).f0), .int .i64 ((rd_T238 a0 x28).f1)] 238] [8] HS (HS.arr [some 0, some 1, none, some 3] (by decide)) #[false, false, false, false, false, false, false, false, false] (by kernel_rfl) rfl rfl impl_Rev_0.tT5 (fun w39 HT HS HH => ?_)
   (try clear F)
   refine drq_of [(0, some 15), (1, some 16), (2, some 17), (3, some 18)] ?_
   repeat (first | (refine drq_pure HT (v := ?_) (a' := ?_) rfl rfl (by kernel_rfl) (fun _ _ _ h => h) (.inl ⟨by rfl, ?_⟩) ?_ ?_; rotate_left; (intro w'; go_simp; with_reducible rfl); rotate_left; (simp only [Act.put, ptn]; rfl)) | (refine drq_take HT HH (v := ?_) (a' := ?_) rfl rfl (by kernel_rfl) (fun _ _ _ h => h) (.inl ⟨by rfl, ?_⟩) ?_ ?_; rotate_left; (rintro w' ⟨rs', HS'⟩; have F := HS'.boxes; simp only [bxn, List.cons_append, List.nil_append] at F; go_simp; with_reducible rfl); rotate_left; (simp only [Act.put, ptn]; rfl)))
   refine drq_end ?_
   refine dr_one 4 HT rfl (by kernel_rfl) (by decide) (fun K hK => ?_)
   refine if_wp (by rfl) ?_; refine wp_callv Tryz.func207 (by kernel_rfl) rfl #[.agg #[.int .i64 ((rd_T238 a0 x28).f0), .int .i64 ((rd_T238 a0 x28).f1)]] #[.agg #[.int .i64 ((rd_T238 a0 x28).f0), .int .i64 ((rd_T238 a0 x28).f1)]] rfl rfl (by simp only [mpn]; rfl) (by first | rfl | simp) ?_; refine (impl_crlItem_1.calls ht204001.out).mono ?_; rintro _ wt204001 ⟨v204002, rfl, HQ⟩; refine ⟨_, rfl, ?_⟩; replace HS := HS.call HQ; clear HQ; (try clear F); obtain ⟨B204002, d204002, rfl, m204002⟩ := HS.form 4 rfl
   (try simp only [hpn, hpm] at HS)
   have F := HS.boxes; simp only [bxn] at F
   refine hK.out _ _ ⟨[], HS.arr [some 0, some 1, none, some 3] (by decide)⟩ (fun HH => ?_)
   clear hK K
   refine norm_ (a' := ?_) ?_ ?_
   rotate_left
   · show Act.put _ (some 19) _ = _; simp only [Act.put, ptn]; rfl
   refine dr_one 5 HT rfl (by kernel_rfl) (by decide) (fun K hK => ?_)
   refine if_wp (by rfl) ?_; refine wp_lit q182 [4] ([t204001] : List S182) ([.int .i64 t204001.f0, .string t204001.f1, .slice B204002 t204001.f2.length d204002] ++ []) HS (by first | (go_simp; done) | (go_simp; rfl)) rfl rfl (Nat.le_of_ble_eq_true rfl) (MadeL.cons (js1 := [4]) (c := [.int .i64 t204001.f0, .string t204001.f1, .slice B204002 t204001.f2.length d204002]) rfl (fun S hd hh => q182_pack (x := t204001) hd (hh 4 (.own (Zd.slice 182 q182) t204001.f2 [.slice B204002 t204001.f2.length d204002]) rfl) (by decide)) MadeL.nil (by decide)) ?_; clear HS; (try clear F); intro v205001 w205001 HS; obtain ⟨B205001, d205001, rfl, m205001⟩ := HS.formn 1 5 rfl rfl
   (try simp only [hpn, hpm] at HS)
   have F := HS.boxes; simp only [bxn] at F
   refine hK.out _ _ ⟨[], HS.arr [some 0, some 1, none, some 3] (by decide)⟩ (fun HH => ?_)
   clear hK K
   refine norm_ (a' := ?_) ?_ ?_
   rotate_left
   · show Act.put _ (some 20) _ = _; simp only [Act.put, ptn]; rfl
   refine dr_one 6 HT rfl (by kernel_rfl) (by decide) (fun K hK => ?_)
   refine if_wp (by rfl) ?_; refine wp_append q182 2 5 HS rfl rfl (by decide) rfl rfl rfl Tryz.underlying180 info182 rfl (by decide) (by decide) (by have := of_eq_true c206001; first | omega | (simp only [List.length_cons, List.length_nil, List.length_append, Nat.zero_add] at this ⊢; omega)) ?_; clear HS; (try clear F); intro v206999 w206999 HS; rw [← e_y206999.out] at HS; obtain ⟨B206999, d206999, rfl, m206999⟩ := HS.form 6 rfl
   (try simp only [hpn, hpm] at HS)
   have F := HS.boxes; simp only [bxn] at F
   refine hK.out _ _ ⟨[], HS.arr [some 0, some 1, none, some 3] (by decide)⟩ (fun HH => ?_)
   clear hK K
   refine norm_ (a' := ?_) ?_ ?_
   rotate_left
   · show Act.put _ (some 21) _ = _; simp only [Act.put, ptn]; rfl
   refine drq_of [(7, some 22)] ?_
   repeat (first | (refine drq_pure HT (v := ?_) (a' := ?_) rfl rfl (by kernel_rfl) (fun _ _ _ h => h) (.inl ⟨by rfl, ?_⟩) ?_ ?_; rotate_left; (intro w'; go_simp; with_reducible rfl); rotate_left; (simp only [Act.put, ptn]; rfl)))
   refine drq_end ?_
   refine dr_last 8 HT rfl (by kernel_rfl) (by decide) (fun K hK => ?_)
   refine if_wp (by rfl) ?_; refine wp_store 1 2 HS (seg := [.slice B206999 y206999.length d206999]) rfl rfl rfl rfl rfl rfl (by kernel_rfl) (by simp [wrt]) (by simp [Value.oneCell']) ?_; clear HS; (try clear F); intro w208001 HS
   (try simp only [hpn, hpm] at HS)
   have F := HS.boxes; simp only [bxn] at F
   refine hK.out _ _ ?_
   clear hK K
   refine done_ (done_of HT.out (by kernel_rfl)) ?_
   (try clear F)
   have F := HS.boxes; simp only [bxn] at F
   go_wp2
   go_roundg k25
   case measure => have := HKk25.out; omega
   case rel => exact ⟨_, _, _, rfl, H, ⟨by have := HKk25.out; omega⟩, HS.pick [0, 1, 6] (by decide) (by rfl)⟩
/-! ### impl_crlItem: function 149 -/
def impl_crlItem.f (k : Nat) (a0 : S81) : Option (S182) := ((impl_TextItem.f a0.f0).bind fun t102001 => ((impl_IntItem.f k a0.f1).bind fun t105001 => ((impl_IntItem.f k a0.f2).bind fun t108001 => ((impl_IntItem.f k a0.f3).bind fun t111001 => ((impl_IntItem.f k a0.f4).bind fun t114001 => ((impl_Rev_0.f k a0.f5).bind fun t118001 => ((impl_ListItem.f k ([t102001, t105001, t108001, t111001, t114001, t118001] : List S182)).bind fun t120001 => (some (⟨t120001.f0, t120001.f1, t120001.f2⟩ : S182)))))))))
def impl_crlItem.T2 : Bool × List (List Nat × List Nat) := (true, [([], []), ([0], [0]), ([1], [1]), ([], []), ([3], [3]), ([4, 2], [4]), ([], []), ([6], [6]), ([7, 5], [7]), ([], []), ([9], [9]), ([10, 8], [10]), ([], []), ([12], [12]), ([13, 11], [13]), ([], []), ([15], [15]), ([], []), ([16, 17, 14], [16, 17]), ([2, 5, 8, 11, 14, 18], [2, 5, 8, 11, 14, 18]), ([19, 18], [19]), ([20, 20, 0, 1, 2, 3, 4, 5, 6, 7, 8, 9, 10, 11, 12, 13, 14, 15, 16, 17, 18, 19, 20], [20])])
theorem impl_crlItem.tT2 : rtab .any (opsOf Tryz.f149 2) = impl_crlItem.T2 := by kernel_rfl
set_option maxHeartbeats 16000000 in
theorem impl_crlItem.calls {k : Nat} {a0 : S81} {Ap0 : Option Addr} {np0 cp0 : Nat} {r : S182} {w : World} (h : impl_crlItem.f k a0 = some r) (gp0 : k238.C w Ap0 np0 a0.f5) (lp0 : np0 ≤ cp0) :
    Calls Tryz.prog 149 #[.agg #[.string a0.f0, .int .i64 a0.f1, .int .i64 a0.f2, .int .i64 a0.f3, .int .i64 a0.f4, .slice Ap0 np0 cp0, .string a0.f6]] w (fun e w' => ∃ v0_ : Value, e = .returned (.agg #[.int .i64 r.f0, .string r.f1, v0_]) ∧ Hp noFP w w' [.own (Zd.slice 182 q182) r.f2 [v0_]]) := by
 obtain rfl := C_len gp0
 have HS := Hp.start w
 have H := Aside0.mk h
 clear h
 unfold impl_crlItem.f at H
 go_enter Tryz.func149, Tryz.ntmps149
 go_wp2_with (first | ((with_reducible refine gate_dst (N := 1) rfl ?_); refine ev_box rfl HS (by first | (go_simp; done) | (go_simp; rfl)) rfl ?_; clear HS; (try clear F); intro g1 w1 HS; (try simp only [hpn, hpm] at HS); have F := HS.boxes; simp only [bxn] at F) | ((with_reducible refine gate_dst (N := 2) rfl ?_); refine ev_box rfl HS (by first | (go_simp; done) | (go_simp; rfl)) rfl ?_; clear HS; (try clear F); intro g2 w2 HS; (try simp only [hpn, hpm] at HS); have F := HS.boxes; simp only [bxn] at F))
 replace H := zbind H; obtain ⟨t102001, ht102001, H⟩ := H
 replace H := zbind H; obtain ⟨t105001, ht105001, H⟩ := H
 replace H := zbind H; obtain ⟨t108001, ht108001, H⟩ := H
 replace H := zbind H; obtain ⟨t111001, ht111001, H⟩ := H
 replace H := zbind H; obtain ⟨t114001, ht114001, H⟩ := H
 replace H := zbind H; obtain ⟨t118001, ht118001, H⟩ := H
 replace H := zbind H; obtain ⟨t120001, ht120001, H⟩ := H
 refine dr_start [21] HS #[false, false, false, false, false, false, false, false, false, false, false, false, false, false, false, false, false, false, false, false, false, false] (by kernel_rfl) rfl rfl impl_crlItem.tT2 (fun w6 HT HS HH => ?_)
 (try clear F)
 refine drq_of [(0, some 4), (1, some 5), (3, some 7), (4, some 8), (6, some 10), (7, some 11), (9, some 13), (10, some 14), (12, some 16), (13, some 17), (15, some 19), (16, some 20), (17, some 21)] ?_
 repeat (first | (refine drq_pure HT (v := ?_) (a' := ?_) rfl rfl (by kernel_rfl) (fun _ _ _ h => h) (.inl ⟨by rfl, ?_⟩) ?_ ?_; rotate_left; (intro w'; go_simp; with_reducible rfl); rotate_left; (simp only [Act.put, ptn]; rfl)) | (refine drq_take HT HH (v := ?_) (a' := ?_) rfl rfl (by kernel_rfl) (fun _ _ _ h => h) (.inl ⟨by rfl, ?_⟩) ?_ ?_; rotate_left; (rintro w' ⟨rs', HS'⟩; have F := HS'.boxes; simp only [bxn, List.cons_append, List.nil_append] at F; go_simp; with_reducible rfl); rotate_left; (simp only [Act.put, ptn]; rfl)))
 refine drq_end ?_
 refine dr_one 2 HT rfl (by kernel_rfl) (by decide) (fun K hK => ?_)
 refine goes_ Tryz.func203 (by kernel_rfl) rfl #[.string a0.f0] (by rfl) rfl rfl (by simp only [mpn]; rfl) ?_; refine (impl_TextItem.calls ht102001.out).mono ?_; rintro _ wt102001 ⟨v102002, rfl, HQ⟩; refine ⟨_, rfl, ?_⟩; replace HS := HS.call HQ; clear HQ; (try clear F); obtain ⟨B102002, d102002, rfl, m102002⟩ := HS.form 2 rfl
 (try simp only [hpn, hpm] at HS)
 have F := HS.boxes; simp only [bxn] at F
 refine hK.out _ _ ⟨_, HS⟩ (fun HH => ?_)
 clear hK K
 refine norm_ (a' := ?_) ?_ ?_
 rotate_left
 · show Act.put _ (some 6) _ = _; simp only [Act.put, ptn]; rfl
 refine dr_one 5 HT rfl (by kernel_rfl) (by decide) (fun K hK => ?_)
 refine goes_ Tryz.func202 (by kernel_rfl) rfl #[.int .i64 a0.f1] (by rfl) rfl rfl (by simp only [mpn]; rfl) ?_; refine (impl_IntItem.calls ht105001.out).mono ?_; rintro _ wt105001 ⟨v105002, rfl, HQ⟩; refine ⟨_, rfl, ?_⟩; replace HS := HS.call HQ; clear HQ; (try clear F); obtain ⟨B105002, d105002, rfl, m105002⟩ := HS.form 3 rfl
 (try simp only [hpn, hpm] at HS)
 have F := HS.boxes; simp only [bxn] at F
 refine hK.out _ _ ⟨_, HS⟩ (fun HH => ?_)
 clear hK K
 refine norm_ (a' := ?_) ?_ ?_
 rotate_left
 · show Act.put _ (some 9) _ = _; simp only [Act.put, ptn]; rfl
 refine dr_one 8 HT rfl (by kernel_rfl) (by decide) (fun K hK => ?_)
 refine goes_ Tryz.func202 (by kernel_rfl) rfl #[.int .i64 a0.f2] (by rfl) rfl rfl (by simp only [mpn]; rfl) ?_; refine (impl_IntItem.calls ht108001.out).mono ?_; rintro _ wt108001 ⟨v108002, rfl, HQ⟩; refine ⟨_, rfl, ?_⟩; replace HS := HS.call HQ; clear HQ; (try clear F); obtain ⟨B108002, d108002, rfl, m108002⟩ := HS.form 4 rfl
 (try simp only [hpn, hpm] at HS)
 have F := HS.boxes; simp only [bxn] at F
 refine hK.out _ _ ⟨_, HS⟩ (fun HH => ?_)
 clear hK K
 refine norm_ (a' := ?_) ?_ ?_
 rotate_left
 · show Act.put _ (some 12) _ = _; simp only [Act.put, ptn]; rfl
 refine dr_one 11 HT rfl (by kernel_rfl) (by decide) (fun K hK => ?_)
 refine goes_ Tryz.func202 (by kernel_rfl) rfl #[.int .i64 a0.f3] (by rfl) rfl rfl (by simp only [mpn]; rfl) ?_; refine (impl_IntItem.calls ht111001.out).mono ?_; rintro _ wt111001 ⟨v111002, rfl, HQ⟩; refine ⟨_, rfl, ?_⟩; replace HS := HS.call HQ; clear HQ; (try clear F); obtain ⟨B111002, d111002, rfl, m111002⟩ := HS.form 5 rfl
 (try simp only [hpn, hpm] at HS)
 have F := HS.boxes; simp only [bxn] at F
 refine hK.out _ _ ⟨_, HS⟩ (fun HH => ?_)
 clear hK K
 refine norm_ (a' := ?_) ?_ ?_
 rotate_left
 · show Act.put _ (some 15) _ = _; simp only [Act.put, ptn]; rfl
 refine dr_one 14 HT rfl (by kernel_rfl) (by decide) (fun K hK => ?_)
 refine goes_ Tryz.func202 (by kernel_rfl) rfl #[.int .i64 a0.f4] (by rfl) rfl rfl (by simp only [mpn]; rfl) ?_; refine (impl_IntItem.calls ht114001.out).mono ?_; rintro _ wt114001 ⟨v114002, rfl, HQ⟩; refine ⟨_, rfl, ?_⟩; replace HS := HS.call HQ; clear HQ; (try clear F); obtain ⟨B114002, d114002, rfl, m114002⟩ := HS.form 6 rfl
 (try simp only [hpn, hpm] at HS)
 have F := HS.boxes; simp only [bxn] at F
 refine hK.out _ _ ⟨_, HS⟩ (fun HH => ?_)
 clear hK K
 refine norm_ (a' := ?_) ?_ ?_
 rotate_left
 · show Act.put _ (some 18) _ = _; simp only [Act.put, ptn]; rfl
 refine dr_one 18 HT rfl (by kernel_rfl) (by decide) (fun K hK => ?_)
 refine goes_ Tryz.func208 (by kernel_rfl) rfl #[.slice Ap0 a0.f5.length cp0, .func (.func 207) #[] #[]] (by rfl) rfl rfl (by simp only [mpn]; rfl) ?_; refine (impl_Rev_0.calls ht118001.out (HS.ro gp0) lp0).mono ?_; rintro _ wt118001 ⟨v118002, rfl, HQ⟩; refine ⟨_, rfl, ?_⟩; replace HS := HS.call HQ; clear HQ; (try clear F); obtain ⟨B118002, d118002, rfl, m118002⟩ := HS.form 7 rfl
 (try simp only [hpn, hpm] at HS)
 have F := HS.boxes; simp only [bxn] at F
 refine hK.out _ _ ⟨_, HS⟩ (fun HH => ?_)
 clear hK K
 refine norm_ (a' := ?_) ?_ ?_
 rotate_left
 · show Act.put _ (some 22) _ = _; simp only [Act.put, ptn]; rfl
 refine dr_one 19 HT rfl (by kernel_rfl) (by decide) (fun K hK => ?_)
 refine if_wp (by rfl) ?_; refine wp_lit q182 [2, 3, 4, 5, 6, 7] ([t102001, t105001, t108001, t111001, t114001, t118001] : List S182) ([.int .i64 t102001.f0, .string t102001.f1, .slice B102002 t102001.f2.length d102002] ++ ([.int .i64 t105001.f0, .string t105001.f1, .slice B105002 t105001.f2.length d105002] ++ ([.int .i64 t108001.f0, .string t108001.f1, .slice B108002 t108001.f2.length d108002] ++ ([.int .i64 t111001.f0, .string t111001.f1, .slice B111002 t111001.f2.length d111002] ++ ([.int .i64 t114001.f0, .string t114001.f1, .slice B114002 t114001.f2.length d114002] ++ ([.int .i64 t118001.f0, .string t118001.f1, .slice B118002 t118001.f2.length d118002] ++ [])))))) HS (by first | (go_simp; done) | (go_simp; rfl)) rfl rfl (Nat.le_of_ble_eq_true rfl) (MadeL.cons (js1 := [2]) (c := [.int .i64 t102001.f0, .string t102001.f1, .slice B102002 t102001.f2.length d102002]) rfl (fun S hd hh => q182_pack (x := t102001) hd (hh 2 (.own (Zd.slice 182 q182) t102001.f2 [.slice B102002 t102001.f2.length d102002]) rfl) (by decide)) (MadeL.cons (js1 := [3]) (c := [.int .i64 t105001.f0, .string t105001.f1, .slice B105002 t105001.f2.length d105002]) rfl (fun S hd hh => q182_pack (x := t105001) hd (hh 3 (.own (Zd.slice 182 q182) t105001.f2 [.slice B105002 t105001.f2.length d105002]) rfl) (by decide)) (MadeL.cons (js1 := [4]) (c := [.int .i64 t108001.f0, .string t108001.f1, .slice B108002 t108001.f2.length d108002]) rfl (fun S hd hh => q182_pack (x := t108001) hd (hh 4 (.own (Zd.slice 182 q182) t108001.f2 [.slice B108002 t108001.f2.length d108002]) rfl) (by decide)) (MadeL.cons (js1 := [5]) (c := [.int .i64 t111001.f0, .string t111001.f1, .slice B111002 t111001.f2.length d111002]) rfl (fun S hd hh => q182_pack (x := t111001) hd (hh 5 (.own (Zd.slice 182 q182) t111001.f2 [.slice B111002 t111001.f2.length d111002]) rfl) (by decide)) (MadeL.cons (js1 := [6]) (c := [.int .i64 t114001.f0, .string t114001.f1, .slice B114002 t114001.f2.length d114002]) rfl (fun S hd hh => q182_pack (x := t114001) hd (hh 6 (.own (Zd.slice 182 q182) t114001.f2 [.slice B114002 t114001.f2.length d114002]) rfl) (by decide)) (MadeL.cons (js1 := [7]) (c := [.int .i64 t118001.f0, .string t118001.f1, .slice B118002 t118001.f2.length d118002]) rfl (fun S hd hh => q182_pack (x := t118001) hd (hh 7 (.own (Zd.slice 182 q182) t118001.f2 [.slice B118002 t118001.f2.length d118002]) rfl) (by decide)) MadeL.nil (by decide)) (by decide)) (by decide)) (by decide)) (by decide)) (by decide)) ?_; clear HS; (try clear F); intro v119001 w119001 HS; obtain ⟨B119001, d119001, rfl, m119001⟩ := HS.formn 6 8 rfl rfl
 (try simp only [hpn, hpm] at HS)
 have F := HS.boxes; simp only [bxn] at F
 refine hK.out _ _ ⟨_, HS⟩ (fun HH => ?_)
 clear hK K
 refine norm_ (a' := ?_) ?_ ?_
 rotate_left
 · show Act.put _ (some 23) _ = _; simp only [Act.put, ptn]; rfl
 refine dr_one 20 HT rfl (by kernel_rfl) (by decide) (fun K hK => ?_)
 refine goes_ Tryz.func145 (by kernel_rfl) rfl #[.slice B119001 6 d119001] (by rfl) rfl rfl (by simp only [mpn]; rfl) ?_; refine (impl_ListItem.calls ht120001.out (HS.rd 8 rfl) m119001).mono ?_; rintro _ wt120001 ⟨v120002, rfl, HQ⟩; refine ⟨_, rfl, ?_⟩; replace HS := HS.call HQ; clear HQ; (try clear F); obtain ⟨B120002, d120002, rfl, m120002⟩ := HS.form 9 rfl
 (try simp only [hpn, hpm] at HS)
 have F := HS.boxes; simp only [bxn] at F
 refine hK.out _ _ ⟨_, HS⟩ (fun HH => ?_)
 clear hK K
 refine norm_ (a' := ?_) ?_ ?_
 rotate_left
 · show Act.put _ (some 24) _ = _; simp only [Act.put, ptn]; rfl
 refine dr_last 21 HT rfl (by kernel_rfl) (by decide) (fun K hK => ?_)
 refine if_wp (by rfl) ?_; refine wp_store 1 0 HS (seg := [.int .i64 t120001.f0, .string t120001.f1, .slice B120002 t120001.f2.length d120002]) rfl rfl rfl rfl rfl rfl (by kernel_rfl) (by simp [wrt]) (by simp [Value.oneCell']) ?_; clear HS; (try clear F); intro w121001 HS
 (try simp only [hpn, hpm] at HS)
 have F := HS.boxes; simp only [bxn] at F
 refine hK.out _ _ ?_
 clear hK K
 refine done_ (done_of HT.out (by kernel_rfl)) ?_
 (try clear F)
 have F := HS.boxes; simp only [bxn] at F
 obtain rfl := zsome H
 go_wp2
 exact bodyPost_ret (results_single rfl (.cell _ _ _ _ _ rfl (HS.boxAt (i := 1) rfl) Tryz.underlying182 rfl (by kernel_rfl) .nil)) rfl ⟨_, rfl, HS.pick [9] (by decide) (by rfl)⟩
/-! ### impl_CrlText: function 66 -/
def impl_CrlText.f (k : Nat) (a0 : S81) : Option (ByteArray × Bool) := ((impl_CrlOk.f k a0).bind fun t3 => (if t3 = true then ((impl_crlItem.f k a0).bind fun t101001 => ((impl_bytesItem.f a0.f6).bind fun t104001 => ((impl_ListItem.f k ([t101001, t104001] : List S182)).bind fun t106001 => ((impl_ItemText.f k t106001).bind fun t107001 => (some (t107001.1, t107001.2)))))) else (some ((⟨#[]⟩ : ByteArray), false))))
def impl_CrlText.T3 : Bool × List (List Nat × List Nat) := (true, [([], []), ([0], [0]), ([], []), ([2], [2]), ([3, 1], [3]), ([1, 4], [1, 4]), ([5, 4], [5]), ([6, 6], [6]), ([7], [7]), ([7], [7]), ([8, 7, 0, 1, 2, 3, 4, 5, 6, 7, 8, 9], [8]), ([9, 10, 0, 1, 2, 3, 4, 5, 6, 7, 8, 9, 10], [9])])
theorem impl_CrlText.tT3 : rtab .any (opsOf Tryz.f66 3) = impl_CrlText.T3 := by kernel_rfl
set_option maxHeartbeats 16000000 in
theorem impl_CrlText.calls {k : Nat} {a0 : S81} {Ap0 : Option Addr} {np0 cp0 : Nat} {mG : Int} {r1 : ByteArray} {r2 : Bool} {w : World} (h : impl_CrlText.f k a0 = some (r1, r2)) (gp0 : k238.C w Ap0 np0 a0.f5) (lp0 : np0 ≤ cp0) (hgM : w.cell? ⟨0, 0, none⟩ = some (.int .i64 mG)) :
    Calls Tryz.prog 66 #[.agg #[.string a0.f0, .int .i64 a0.f1, .int .i64 a0.f2, .int .i64 a0.f3, .int .i64 a0.f4, .slice Ap0 np0 cp0, .string a0.f6]] w (fun e w' => e = .returned (.tuple #[.string r1, .bool r2]) ∧ Hp noFP w w' []) := by
 obtain rfl := C_len gp0
 have HS := Hp.start w
 have H := Aside0.mk h
 clear h
 unfold impl_CrlText.f at H
 go_enter Tryz.func66, Tryz.ntmps66
 replace H := zbind H; obtain ⟨t3, ht3, H⟩ := H
 go_upto_if 6 with (first | ((with_reducible refine gate_dst (N := 1) rfl ?_); refine ev_box rfl HS (by first | (go_simp; done) | (go_simp; rfl)) rfl ?_; clear HS; (try clear F); intro g1 w1 HS; (try simp only [hpn, hpm] at HS); have F := HS.boxes; simp only [bxn] at F) | ((with_reducible refine gate_dst (N := 5) rfl ?_); refine ev_call rfl Tryz.func148 (by kernel_rfl) rfl #[.agg #[.string a0.f0, .int .i64 a0.f1, .int .i64 a0.f2, .int .i64 a0.f3, .int .i64 a0.f4, .slice Ap0 a0.f5.length cp0, .string a0.f6]] rfl (by simp only [mpn]; rfl) ?_; refine (impl_CrlOk.calls ht3.out (HS.ro gp0) lp0 (HS.keepc hgM)).mono ?_; rintro _ wt3 ⟨rfl, HQ⟩; refine ⟨_, rfl, ?_⟩; replace HS := HS.call HQ; clear HQ; (try clear F); (try simp only [hpn, hpm] at HS); have F := HS.boxes; simp only [bxn] at F))
 by_cases c5 : t3 = true
 case neg =>
  replace H := zneg c5 H
  replace c5 := eq_false_of_ne_true c5
  subst c5
  (try simp only [dcn, if_true, Bool.false_eq_true, if_false])
  obtain ⟨rfl, rfl⟩ := zsome2 H
  go_wp2
  exact bodyPost_ret (results_list (rs := [.tmp 2, .tmp 3]) rfl (by simp) (.tmp (.tmp .nil))) rfl ⟨rfl, HS.pick [] (by decide) (by rfl)⟩
 replace H := zpos c5 H
 subst c5
 (try simp only [dcn, if_true, Bool.false_eq_true, if_false])
 (try go_wp2)
 replace H := zbind H; obtain ⟨t101001, ht101001, H⟩ := H
 replace H := zbind H; obtain ⟨t104001, ht104001, H⟩ := H
 replace H := zbind H; obtain ⟨t106001, ht106001, H⟩ := H
 replace H := zbind H; obtain ⟨t107001, ht107001, H⟩ := H
 refine dr_start [] HS #[false, false, false, false, false, false, false, false, false, false, false, false] (by kernel_rfl) rfl rfl impl_CrlText.tT3 (fun w7 HT HS HH => ?_)
 (try clear F)
 refine drq_of [(0, some 7), (2, some 9), (3, some 10)] ?_
 repeat (first | (refine drq_pure HT (v := ?_) (a' := ?_) rfl rfl (by kernel_rfl) (fun _ _ _ h => h) (.inl ⟨by rfl, ?_⟩) ?_ ?_; rotate_left; (intro w'; go_simp; with_reducible rfl); rotate_left; (simp only [Act.put, ptn]; rfl)) | (refine drq_take HT HH (v := ?_) (a' := ?_) rfl rfl (by kernel_rfl) (fun _ _ _ h => h) (.inl ⟨by rfl, ?_⟩) ?_ ?_; rotate_left; (rintro w' ⟨rs', HS'⟩; have F := HS'.boxes; simp only [bxn, List.cons_append, List.nil_append] at F; go_simp; with_reducible rfl); rotate_left; (simp only [Act.put, ptn]; rfl)))
 refine drq_end ?_
 refine dr_one 1 HT rfl (by kernel_rfl) (by decide) (fun K hK => ?_)
 refine goes_ Tryz.func149 (by kernel_rfl) rfl #[.agg #[.string a0.f0, .int .i64 a0.f1, .int .i64 a0.f2, .int .i64 a0.f3, .int .i64 a0.f4, .slice Ap0 a0.f5.length cp0, .string a0.f6]] (by rfl) rfl rfl (by simp only [mpn]; rfl) ?_; refine (impl_crlItem.calls ht101001.out (HS.ro gp0) lp0).mono ?_; rintro _ wt101001 ⟨v101002, rfl, HQ⟩; refine ⟨_, rfl, ?_⟩; replace HS := HS.call HQ; clear HQ; (try clear F); obtain ⟨B101002, d101002, rfl, m101002⟩ := HS.form 1 rfl
 (try simp only [hpn, hpm] at HS)
 have F := HS.boxes; simp only [bxn] at F
 refine hK.out _ _ ⟨_, HS⟩ (fun HH => ?_)
 clear hK K
 refine norm_ (a' := ?_) ?_ ?_
 rotate_left
 · show Act.put _ (some 8) _ = _; simp only [Act.put, ptn]; rfl
 refine dr_one 4 HT rfl (by kernel_rfl) (by decide) (fun K hK => ?_)
 refine goes_ Tryz.func147 (by kernel_rfl) rfl #[.string a0.f6] (by rfl) rfl rfl (by simp only [mpn]; rfl) ?_; refine (impl_bytesItem.calls ht104001.out).mono ?_; rintro _ wt104001 ⟨v104002, rfl, HQ⟩; refine ⟨_, rfl, ?_⟩; replace HS := HS.call HQ; clear HQ; (try clear F); obtain ⟨B104002, d104002, rfl, m104002⟩ := HS.form 2 rfl
 (try simp only [hpn, hpm] at HS)
 have F := HS.boxes; simp only [bxn] at F
 refine hK.out _ _ ⟨_, HS⟩ (fun HH => ?_)
 clear hK K
 refine norm_ (a' := ?_) ?_ ?_
 rotate_left
 · show Act.put _ (some 11) _ = _; simp only [Act.put, ptn]; rfl
 refine dr_one 5 HT rfl (by kernel_rfl) (by decide) (fun K hK => ?_)
 refine if_wp (by rfl) ?_; refine wp_lit q182 [1, 2] ([t101001, t104001] : List S182) ([.int .i64 t101001.f0, .string t101001.f1, .slice B101002 t101001.f2.length d101002] ++ ([.int .i64 t104001.f0, .string t104001.f1, .slice B104002 t104001.f2.length d104002] ++ [])) HS (by first | (go_simp; done) | (go_simp; rfl)) rfl rfl (Nat.le_of_ble_eq_true rfl) (MadeL.cons (js1 := [1]) (c := [.int .i64 t101001.f0, .string t101001.f1, .slice B101002 t101001.f2.length d101002]) rfl (fun S hd hh => q182_pack (x := t101001) hd (hh 1 (.own (Zd.slice 182 q182) t101001.f2 [.slice B101002 t101001.f2.length d101002]) rfl) (by decide)) (MadeL.cons (js1 := [2]) (c := [.int .i64 t104001.f0, .string t104001.f1, .slice B104002 t104001.f2.length d104002]) rfl (fun S hd hh => q182_pack (x := t104001) hd (hh 2 (.own (Zd.slice 182 q182) t104001.f2 [.slice B104002 t104001.f2.length d104002]) rfl) (by decide)) MadeL.nil (by decide)) (by decide)) ?_; clear HS; (try clear F); intro v105001 w105001 HS; obtain ⟨B105001, d105001, rfl, m105001⟩ := HS.formn 2 3 rfl rfl
 (try simp only [hpn, hpm] at HS)
 have F := HS.boxes; simp only [bxn] at F
 refine hK.out _ _ ⟨_, HS⟩ (fun HH => ?_)
 clear hK K
 refine norm_ (a' := ?_) ?_ ?_
 rotate_left
 · show Act.put _ (some 12) _ = _; simp only [Act.put, ptn]; rfl
 refine dr_one 6 HT rfl (by kernel_rfl) (by decide) (fun K hK => ?_)
 refine goes_ Tryz.func145 (by kernel_rfl) rfl #[.slice B105001 2 d105001] (by rfl) rfl rfl (by simp only [mpn]; rfl) ?_; refine (impl_ListItem.calls ht106001.out (HS.rd 3 rfl) m105001).mono ?_; rintro _ wt106001 ⟨v106002, rfl, HQ⟩; refine ⟨_, rfl, ?_⟩; replace HS := HS.call HQ; clear HQ; (try clear F); obtain ⟨B106002, d106002, rfl, m106002⟩ := HS.form 4 rfl
 (try simp only [hpn, hpm] at HS)
 have F := HS.boxes; simp only [bxn] at F
 refine hK.out _ _ ⟨_, HS⟩ (fun HH => ?_)
 clear hK K
 refine norm_ (a' := ?_) ?_ ?_
 rotate_left
 · show Act.put _ (some 13) _ = _; simp only [Act.put, ptn]; rfl
 refine dr_one 7 HT rfl (by kernel_rfl) (by decide) (fun K hK => ?_)
 refine goes_ Tryz.func144 (by kernel_rfl) rfl #[.agg #[.int .i64 t106001.f0, .string t106001.f1, .slice B106002 t106001.f2.length d106002]] (by rfl) rfl rfl (by simp only [mpn]; rfl) ?_; refine (impl_ItemText.calls ht107001.out (HS.rd 4 rfl) m106002).mono ?_; rintro _ wt107001 ⟨rfl, HQ⟩; refine ⟨_, rfl, ?_⟩; replace HS := HS.call HQ; clear HQ; (try clear F)
 (try simp only [hpn, hpm] at HS)
 have F := HS.boxes; simp only [bxn] at F
 refine hK.out _ _ ⟨_, HS⟩ (fun HH => ?_)
 clear hK K
 refine norm_ (a' := ?_) ?_ ?_
 rotate_left
 · show Act.put _ (some 14) _ = _; simp only [Act.put, ptn]; rfl
 refine drq_of [(8, some 15), (9, some 16), (10, some 2), (11, some 3)] ?_
 repeat (first | (refine drq_pure HT (v := ?_) (a' := ?_) rfl rfl (by kernel_rfl) (fun _ _ _ h => h) (.inl ⟨by rfl, ?_⟩) ?_ ?_; rotate_left; (intro w'; go_simp; with_reducible rfl); rotate_left; (simp only [Act.put, ptn]; rfl)))
 refine drq_end ?_
 refine done_ (done_of HT.out (by kernel_rfl)) ?_
 (try clear F)
 have F := HS.boxes; simp only [bxn] at F
 obtain ⟨rfl, rfl⟩ := zsome2 H
 go_wp2
 exact bodyPost_ret (results_list (rs := [.tmp 2, .tmp 3]) rfl (by simp) (.tmp (.tmp .nil))) rfl ⟨rfl, HS.pick [] (by decide) (by rfl)⟩
/-! ### impl_Crl_0: function 65 -/
def impl_Crl_0.l0 : Nat → (List ByteArray) → Int → (List S81) → Option (Bool)
  | 0, _, _, _ => none
  | k + 1, l19, x21, a0 => (if x21 < (a0.length : Int) then (if 0 ≤ x21 then (if x21 < (a0.length : Int) then ((impl_CrlText.f k (rd_T81 a0 x21)).bind fun t31 => (if t31.2 = true then ((slices_Contains_string_string.f k l19 t31.1).bind fun t34 => (if t34 = true then (some false) else (if l19.length + 1 ≤ 8796093022208 then (lets (l19 ++ ([t31.1] : List ByteArray)) fun y40 => (impl_Crl_0.l0 k y40 (wrap64 (x21 + 1)) a0)) else none))) else (some false))) else none) else none) else (some true))
def impl_Crl_0.f (k : Nat) (a0 : (List S81)) : Option (Bool) := (impl_Crl_0.l0 k [] 0 a0)
set_option maxHeartbeats 16000000 in
theorem impl_Crl_0.calls {k : Nat} {a0 : (List S81)} {Ap0 : Option Addr} {np0 cp0 : Nat} {mG : Int} {r : Bool} {w : World} (h : impl_Crl_0.f k a0 = some r) (gp0 : k81.C w Ap0 np0 a0) (lp0 : np0 ≤ cp0) (hgM : w.cell? ⟨0, 0, none⟩ = some (.int .i64 mG)) :
    Calls Tryz.prog 65 #[.slice Ap0 np0 cp0, .func (.func 66) #[] #[]] w (fun e w' => e = .returned (.bool r) ∧ Hp noFP w w' []) := by
 obtain rfl := C_len gp0
 have HS := Hp.start w
 have H := Aside0.mk h
 clear h
 unfold impl_Crl_0.f at H
 go_enter Tryz.func65, Tryz.ntmps65
 go_wp2
 replace HS := HS.nil 9 Zd.string
 go_loopg [5, 12] k (fun kq v_5 v_12 w' => ∃ (l19 : List ByteArray) (v20 : Value) (x21 : Int), v_5 = v20 ∧ v_12 = .int .i64 x21 ∧ Aside0 (impl_Crl_0.l0 kq l19 x21 a0 = some r) ∧ Aside0 (kq ≤ k) ∧ Hp noFP w w' [.own (Zd.slice 9 Zd.string) l19 [v20]])
 case atStart => exact ⟨_, _, _, rfl, rfl, H, ⟨Nat.le_refl _⟩, HS⟩
 case round =>
  clear HS H; (try clear F)
  obtain ⟨l19, v20, x21, rfl, rfl, H, HKk18, HS⟩ := hrel
  obtain ⟨B20, d20, rfl, m20⟩ := HS.form 0 rfl
  cases gk with
  | zero => exact absurd H.out (by simp [impl_Crl_0.l0])
  | succ k18 =>
   simp only [impl_Crl_0.l0] at H
   by_cases c23 : x21 < (a0.length : Int)
   case neg =>
    replace H := zneg c23 H
    replace c23 := eq_false c23
    obtain rfl := zsome H
    go_wp2
    go_ret
    exact ⟨rfl, HS.pick [] (by decide) (by rfl)⟩
   replace H := zpos c23 H
   replace c23 := eq_true c23
   by_cases c24 : 0 ≤ x21
   case neg => exact zno c24 H
   replace H := zpos c24 H
   replace c24 := eq_true c24
   by_cases c25 : x21 < (a0.length : Int)
   case neg => exact zno c25 H
   replace H := zpos c25 H
   replace c25 := eq_true c25
   obtain ⟨ad26, B26_5, d26_5, rfl, e26_0, e26_1, e26_2, e26_3, e26_4, e26_5, e26_6, m26_5, y26_5⟩ := at_T81 gp0 x21 (of_eq_true c24) (of_eq_true c25)
   have e26_0_26 := (HS.keepc e26_0)
   have e26_1_26 := (HS.keepc e26_1)
   have e26_2_26 := (HS.keepc e26_2)
   have e26_3_26 := (HS.keepc e26_3)
   have e26_4_26 := (HS.keepc e26_4)
   have e26_5_26 := (HS.keepc e26_5)
   have e26_6_26 := (HS.keepc e26_6)
   replace H := zbind H; obtain ⟨t31, ht31, H⟩ := H
   by_cases c33 : t31.2 = true
   case neg =>
    replace H := zneg c33 H
    replace c33 := eq_false_of_ne_true c33
    obtain rfl := zsome H
    go_wp2_with (first | ((with_reducible refine gate_dst (N := 7) rfl ?_); refine ev_box rfl HS (by first | (go_simp; done) | (go_simp; rfl)) rfl ?_; clear HS; (try clear F); intro g7 w7 HS; (try simp only [hpn, hpm] at HS); have F := HS.boxes; simp only [bxn] at F) | ((with_reducible refine gate_store (p := 7) rfl ?_); refine ev_store rfl 1 0 HS (seg := [.string ((rd_T81 a0 x21).f0), .int .i64 ((rd_T81 a0 x21).f1), .int .i64 ((rd_T81 a0 x21).f2), .int .i64 ((rd_T81 a0 x21).f3), .int .i64 ((rd_T81 a0 x21).f4), .slice B26_5 (rd_T81 a0 x21).f5.length d26_5, .string ((rd_T81 a0 x21).f6)]) rfl rfl rfl rfl rfl rfl (by kernel_rfl) (by simp [wrt]) (by simp [Value.oneCell']) ?_; clear HS; (try clear F); intro w29 HS; (try simp only [hpn, hpm] at HS); have F := HS.boxes; simp only [bxn] at F) | ((with_reducible refine gate_dst (N := 19) rfl ?_); refine ev_callv rfl Tryz.func66 (by kernel_rfl) rfl #[.agg #[.string ((rd_T81 a0 x21).f0), .int .i64 ((rd_T81 a0 x21).f1), .int .i64 ((rd_T81 a0 x21).f2), .int .i64 ((rd_T81 a0 x21).f3), .int .i64 ((rd_T81 a0 x21).f4), .slice B26_5 (rd_T81 a0 x21).f5.length d26_5, .string ((rd_T81 a0 x21).f6)]] #[.agg #[.string ((rd_T81 a0 x21).f0), .int .i64 ((rd_T81 a0 x21).f1), .int .i64 ((rd_T81 a0 x21).f2), .int .i64 ((rd_T81 a0 x21).f3), .int .i64 ((rd_T81 a0 x21).f4), .slice B26_5 (rd_T81 a0 x21).f5.length d26_5, .string ((rd_T81 a0 x21).f6)]] rfl rfl (by simp only [mpn]; rfl) (by first | rfl | simp) ?_; refine (impl_CrlText.calls ht31.out (HS.ro y26_5) m26_5 (HS.keepc hgM)).mono ?_; rintro _ wt31 ⟨rfl, HQ⟩; refine ⟨_, rfl, ?_⟩; replace HS := HS.call HQ; clear HQ; (try clear F); (try simp only [hpn, hpm] at HS); have F := HS.boxes; simp only [bxn] at F; (try simp only [c33])))
    go_ret
    exact ⟨rfl, HS.pick [] (by decide) (by rfl)⟩
   replace H := zpos c33 H
   replace H := zbind H; obtain ⟨t34, ht34, H⟩ := H
   go_upto_if 28 with (first | ((with_reducible refine gate_dst (N := 7) rfl ?_); refine ev_box rfl HS (by first | (go_simp; done) | (go_simp; rfl)) rfl ?_; clear HS; (try clear F); intro g7 w7 HS; (try simp only [hpn, hpm] at HS); have F := HS.boxes; simp only [bxn] at F) | ((with_reducible refine gate_store (p := 7) rfl ?_); refine ev_store rfl 1 0 HS (seg := [.string ((rd_T81 a0 x21).f0), .int .i64 ((rd_T81 a0 x21).f1), .int .i64 ((rd_T81 a0 x21).f2), .int .i64 ((rd_T81 a0 x21).f3), .int .i64 ((rd_T81 a0 x21).f4), .slice B26_5 (rd_T81 a0 x21).f5.length d26_5, .string ((rd_T81 a0 x21).f6)]) rfl rfl rfl rfl rfl rfl (by kernel_rfl) (by simp [wrt]) (by simp [Value.oneCell']) ?_; clear HS; (try clear F); intro w29 HS; (try simp only [hpn, hpm] at HS); have F := HS.boxes; simp only [bxn] at F) | ((with_reducible refine gate_dst (N := 19) rfl ?_); refine ev_callv rfl Tryz.func66 (by kernel_rfl) rfl #[.agg #[.string ((rd_T81 a0 x21).f0), .int .i64 ((rd_T81 a0 x21).f1), .int .i64 ((rd_T81 a0 x21).f2), .int .i64 ((rd_T81 a0 x21).f3), .int .i64 ((rd_T81 a0 x21).f4), .slice B26_5 (rd_T81 a0 x21).f5.length d26_5, .string ((rd_T81 a0 x21).f6)]] #[.agg #[.string ((rd_T81 a0 x21).f0), .int .i64 ((rd_T81 a0 x21).f1), .int .i64 ((rd_T81 a0 x21).f2), .int .i64 ((rd_T81 a0 x21).f3), .int .i64 ((rd_T81 a0 x21).f4), .slice B26_5 (rd_T81 a0 x21).f5.length d26_5, .string ((rd_T81 a0 x21).f6)]] rfl rfl (by simp only [mpn]; rfl) (by first | rfl | simp) ?_; refine (impl_CrlText.calls ht31.out (HS.ro y26_5) m26_5 (HS.keepc hgM)).mono ?_; rintro _ wt31 ⟨rfl, HQ⟩; refine ⟨_, rfl, ?_⟩; replace HS := HS.call HQ; clear HQ; (try clear F); (try simp only [hpn, hpm] at HS); have F := HS.boxes; simp only [bxn] at F; (try simp only [c33])) | ((with_reducible refine gate_dst (N := 27) rfl ?_); refine gate_guard (by rfl) ?_; refine ev_call rfl Tryz.func143 (by kernel_rfl) rfl #[.slice B20 l19.length d20, .string t31.1] rfl (by simp only [mpn]; rfl) ?_; refine (slices_Contains_string_string.calls ht34.out (HS.rd 0 rfl) m20).mono ?_; rintro _ wt34 ⟨rfl, HQ⟩; refine ⟨_, rfl, ?_⟩; replace HS := HS.call HQ; clear HQ; (try clear F); (try simp only [hpn, hpm] at HS); have F := HS.boxes; simp only [bxn] at F))
   by_cases c36 : t34 = true
   case pos =>
    replace H := zpos c36 H
    subst c36
    (try simp only [dcn, if_true, Bool.false_eq_true, if_false])
    obtain rfl := zsome H
    go_wp2
    go_ret
    exact ⟨rfl, HS.pick [] (by decide) (by rfl)⟩
   replace H := zneg c36 H
   replace c36 := eq_false_of_ne_true c36
   subst c36
   (try simp only [dcn, if_true, Bool.false_eq_true, if_false])
   by_cases c39 : l19.length + 1 ≤ 8796093022208
   case neg => exact zno c39 H
   replace H := zpos c39 H
   replace c39 := eq_true c39
   replace H := zlets H; obtain ⟨y40, e_y40, H⟩ := H
   go_wp2_with (first | ((with_reducible refine gate_dst (N := 31) rfl ?_); refine ev_lit rfl Zd.string [] ([t31.1] : List ByteArray) ([.string t31.1] ++ []) HS (by first | (go_simp; done) | (go_simp; rfl)) rfl rfl (Nat.le_of_ble_eq_true rfl) (MadeL.cons (js1 := []) (c := [.string t31.1]) rfl (made_flat (fun _ => rfl)) MadeL.nil (by decide)) ?_; clear HS; (try clear F); intro v37 w37 HS; obtain ⟨B37, d37, rfl, m37⟩ := HS.formn 1 2 rfl rfl; (try simp only [hpn, hpm] at HS); have F := HS.boxes; simp only [bxn] at F) | ((with_reducible refine gate_dst (N := 32) rfl ?_); refine ev_append rfl Zd.string 0 2 HS rfl rfl (by decide) rfl rfl rfl Tryz.underlying57 info9 rfl (by decide) (by decide) (by have := of_eq_true c39; first | omega | (simp only [List.length_cons, List.length_nil, List.length_append, Nat.zero_add] at this ⊢; omega)) ?_; clear HS; (try clear F); intro v40 w40 HS; rw [← e_y40.out] at HS; obtain ⟨B40, d40, rfl, m40⟩ := HS.form 3 rfl; (try simp only [hpn, hpm] at HS); have F := HS.boxes; simp only [bxn] at F))
   go_roundg k18
   case measure => have := HKk18.out; omega
   case rel => exact ⟨_, _, _, rfl, rfl, H, ⟨by have := HKk18.out; omega⟩, HS.pick [3] (by decide) (by rfl)⟩
/-! ### impl_StoreOk_1: function 61 -/
def impl_StoreOk_1.f (k : Nat) (a0 : S115) : Option (ByteArray × Bool) := ((impl_NameOk.f k a0.f0).bind fun t104001 => (if t104001 = true then (some (a0.f0, ((a0.f1.size : Int) == 15))) else (some (a0.f0, false))))
def impl_StoreOk_1.T1 : Bool × List (List Nat × List Nat) := (true, [([], []), ([0], [0]), ([], []), ([2], [2]), ([3], [3]), ([4, 4], [4]), ([5], [5]), ([6, 5], [5, 6]), ([7, 5], [5, 7]), ([8, 5], [5, 8]), ([5, 9], [5, 9]), ([1, 5, 0, 1], [1]), ([10, 11, 0, 1, 2, 3, 4, 5, 6, 7, 8, 9, 10, 11], [10])])
theorem impl_StoreOk_1.tT1 : rtab .any (opsOf Tryz.f61 1) = impl_StoreOk_1.T1 := by kernel_rfl
set_option maxHeartbeats 16000000 in
theorem impl_StoreOk_1.calls {k : Nat} {a0 : S115} {mG : Int} {r1 : ByteArray} {r2 : Bool} {w : World} (h : impl_StoreOk_1.f k a0 = some (r1, r2)) (hgM : w.cell? ⟨0, 0, none⟩ = some (.int .i64 mG)) :
    Calls Tryz.prog 61 #[.agg #[.string a0.f0, .string a0.f1]] w (fun e w' => e = .returned (.tuple #[.string r1, .bool r2]) ∧ Hp noFP w w' []) := by
 have HS := Hp.start w
 have H := Aside0.mk h
 clear h
 unfold impl_StoreOk_1.f at H
 go_enter Tryz.func61, Tryz.ntmps61
 go_wp2_with (first | ((with_reducible refine gate_dst (N := 1) rfl ?_); refine ev_box rfl HS (by first | (go_simp; done) | (go_simp; rfl)) rfl ?_; clear HS; (try clear F); intro g1 w1 HS; (try simp only [hpn, hpm] at HS); have F := HS.boxes; simp only [bxn] at F))
 replace H := zbind H; obtain ⟨t104001, ht104001, H⟩ := H
 by_cases c105001 : t104001 = true
 case neg =>
  replace H := zneg c105001 H
  replace c105001 := eq_false_of_ne_true c105001
  subst c105001
  refine dr_start [] HS #[false, false, false, false, false, false, false, false, false, false, false, false, false] (by kernel_rfl) rfl rfl impl_StoreOk_1.tT1 (fun w6 HT HS HH => ?_)
  (try clear F)
  refine drq_of [(0, some 4), (1, some 5), (2, some 6), (3, some 7)] ?_
  repeat (first | (refine drq_pure HT (v := ?_) (a' := ?_) rfl rfl (by kernel_rfl) (fun _ _ _ h => h) (.inl ⟨by rfl, ?_⟩) ?_ ?_; rotate_left; (intro w'; go_simp; with_reducible rfl); rotate_left; (simp only [Act.put, ptn]; rfl)) | (refine drq_take HT HH (v := ?_) (a' := ?_) rfl rfl (by kernel_rfl) (fun _ _ _ h => h) (.inl ⟨by rfl, ?_⟩) ?_ ?_; rotate_left; (rintro w' ⟨rs', HS'⟩; have F := HS'.boxes; simp only [bxn, List.cons_append, List.nil_append] at F; go_simp; with_reducible rfl); rotate_left; (simp only [Act.put, ptn]; rfl)))
  refine drq_end ?_
  refine dr_one 4 HT rfl (by kernel_rfl) (by decide) (fun K hK => ?_)
  refine goes_ Tryz.func62 (by kernel_rfl) rfl #[.string a0.f0] (by rfl) rfl rfl (by simp only [mpn]; rfl) ?_; refine (impl_NameOk.calls ht104001.out (HS.keepc hgM)).mono ?_; rintro _ wt104001 ⟨rfl, HQ⟩; refine ⟨_, rfl, ?_⟩; replace HS := HS.call HQ; clear HQ; (try clear F)
  (try simp only [hpn, hpm] at HS)
  have F := HS.boxes; simp only [bxn] at F
  refine hK.out _ _ ⟨_, HS⟩ (fun HH => ?_)
  clear hK K
  refine norm_ (a' := ?_) ?_ ?_
  rotate_left
  · show Act.put _ (some 8) _ = _; simp only [Act.put, ptn]; rfl
  refine drq_of [(5, some 9), (6, some 10), (7, some 11), (8, some 12), (9, some 13), (10, some 14), (11, some 2), (12, some 3)] ?_
  repeat (first | (refine drq_pure HT (v := ?_) (a' := ?_) rfl rfl (by kernel_rfl) (fun _ _ _ h => h) (.inl ⟨by rfl, ?_⟩) ?_ ?_; rotate_left; (intro w'; go_simp; with_reducible rfl); rotate_left; (simp only [Act.put, ptn]; rfl)) | (refine drq_pure HT (v := undef) (a' := ?_) rfl rfl (by kernel_rfl) (fun _ _ _ h => h) (.inr ⟨by rfl, rfl⟩) ?_ ?_; rotate_left; (simp only [Act.put, ptn]; rfl)))
  refine drq_end ?_
  refine done_ (done_of HT.out (by kernel_rfl)) ?_
  (try clear F)
  have F := HS.boxes; simp only [bxn] at F
  obtain ⟨rfl, rfl⟩ := zsome2 H
  go_wp2
  exact bodyPost_ret (results_list (rs := [.tmp 2, .tmp 3]) rfl (by simp) (.tmp (.tmp .nil))) rfl ⟨rfl, HS.pick [] (by decide) (by rfl)⟩
 replace H := zpos c105001 H
 subst c105001
 refine dr_start [] HS #[false, false, false, false, false, false, false, false, false, false, false, false, false] (by kernel_rfl) rfl rfl impl_StoreOk_1.tT1 (fun w4 HT HS HH => ?_)
 (try clear F)
 refine drq_of [(0, some 4), (1, some 5), (2, some 6), (3, some 7)] ?_
 repeat (first | (refine drq_pure HT (v := ?_) (a' := ?_) rfl rfl (by kernel_rfl) (fun _ _ _ h => h) (.inl ⟨by rfl, ?_⟩) ?_ ?_; rotate_left; (intro w'; go_simp; with_reducible rfl); rotate_left; (simp only [Act.put, ptn]; rfl)) | (refine drq_take HT HH (v := ?_) (a' := ?_) rfl rfl (by kernel_rfl) (fun _ _ _ h => h) (.inl ⟨by rfl, ?_⟩) ?_ ?_; rotate_left; (rintro w' ⟨rs', HS'⟩; have F := HS'.boxes; simp only [bxn, List.cons_append, List.nil_append] at F; go_simp; with_reducible rfl); rotate_left; (simp only [Act.put, ptn]; rfl)))
 refine drq_end ?_
 refine dr_one 4 HT rfl (by kernel_rfl) (by decide) (fun K hK => ?_)
 refine goes_ Tryz.func62 (by kernel_rfl) rfl #[.string a0.f0] (by rfl) rfl rfl (by simp only [mpn]; rfl) ?_; refine (impl_NameOk.calls ht104001.out (HS.keepc hgM)).mono ?_; rintro _ wt104001 ⟨rfl, HQ⟩; refine ⟨_, rfl, ?_⟩; replace HS := HS.call HQ; clear HQ; (try clear F)
 (try simp only [hpn, hpm] at HS)
 have F := HS.boxes; simp only [bxn] at F
 refine hK.out _ _ ⟨_, HS⟩ (fun HH => ?_)
 clear hK K
 refine norm_ (a' := ?_) ?_ ?_
 rotate_left
 · show Act.put _ (some 8) _ = _; simp only [Act.put, ptn]; rfl
 refine drq_of [(5, some 9), (6, some 10), (7, some 11), (8, some 12), (9, some 13), (10, some 14), (11, some 2), (12, some 3)] ?_
 repeat (first | (refine drq_pure HT (v := ?_) (a' := ?_) rfl rfl (by kernel_rfl) (fun _ _ _ h => h) (.inl ⟨by rfl, ?_⟩) ?_ ?_; rotate_left; (intro w'; go_simp; with_reducible rfl); rotate_left; (simp only [Act.put, ptn]; rfl)) | (refine drq_take HT HH (v := ?_) (a' := ?_) rfl rfl (by kernel_rfl) (fun _ _ _ h => h) (.inl ⟨by rfl, ?_⟩) ?_ ?_; rotate_left; (rintro w' ⟨rs', HS'⟩; have F := HS'.boxes; simp only [bxn, List.cons_append, List.nil_append] at F; go_simp; with_reducible rfl); rotate_left; (simp only [Act.put, ptn]; rfl)))
 refine drq_end ?_
 refine done_ (done_of HT.out (by kernel_rfl)) ?_
 (try clear F)
 have F := HS.boxes; simp only [bxn] at F
 obtain ⟨rfl, rfl⟩ := zsome2 H
 go_wp2
 exact bodyPost_ret (results_list (rs := [.tmp 2, .tmp 3]) rfl (by simp) (.tmp (.tmp .nil))) rfl ⟨rfl, HS.pick [] (by decide) (by rfl)⟩
end Go.Proofs.YtacocpknielofaaGreatDoor.F

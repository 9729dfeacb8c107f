/- Functions of the program and of the law, and that their calls do what is written here. -/
import Derived.Test.YtacocpknielofaaGreatDoorZgFnExactStoreOkh
import Derived.Test.YtacocpknielofaaGreatDoorZgFnExactStoreOki
import Derived.Test.YtacocpknielofaaGreatDoorZgFnExactStoreOkj
import Derived.Test.YtacocpknielofaaGreatDoorZgFnExactStoreOkk
import Derived.Test.YtacocpknielofaaGreatDoorZgFnExactStoreOkl
namespace Go.Proofs.YtacocpknielofaaGreatDoor.F
open Go.RowKit Go.Proofs.YtacocpknielofaaGreatDoorW.PrintWords Go.Proofs.YtacocpknielofaaGreatDoorW.PrintLast Go.Proofs.YtacocpknielofaaGreatDoorW.PrintMore Go.Proofs.YtacocpknielofaaGreatDoor.Z
attribute [local go_sem] max2_int min2_int max_two min_two max_three min_three max_four min_four
set_option linter.unusedVariables false
set_option linter.unusedSimpArgs false
set_option maxRecDepth 100000
/-! ### impl_CertText: function 64 -/
def impl_CertText.f (k : Nat) (a0 : S91) : Option (ByteArray × Bool) := ((impl_CertOk.f k a0).bind fun t3 => (if t3 = true then ((impl_BodyItem.f k a0).bind fun t101001 => ((impl_bytesItem.f a0.f12).bind fun t104001 => ((impl_ListItem.f k ([t101001, t104001] : List S182)).bind fun t106001 => ((impl_ItemText.f k t106001).bind fun t107001 => (some (t107001.1, t107001.2)))))) else (some ((⟨#[]⟩ : ByteArray), false))))
def impl_CertText.T3 : Bool × List (List Nat × List Nat) := (true, [([], []), ([0], [0]), ([], []), ([2], [2]), ([3, 1], [3]), ([1, 4], [1, 4]), ([5, 4], [5]), ([6, 6], [6]), ([7], [7]), ([7], [7]), ([8, 7, 0, 1, 2, 3, 4, 5, 6, 7, 8, 9], [8]), ([9, 10, 0, 1, 2, 3, 4, 5, 6, 7, 8, 9, 10], [9])])
theorem impl_CertText.tT3 : rtab .any (opsOf Tryz.f64 3) = impl_CertText.T3 := by kernel_rfl
set_option maxHeartbeats 16000000 in
theorem impl_CertText.calls {k : Nat} {a0 : S91} {Ap0 : Option Addr} {np0 cp0 : Nat} {Ap1 : Option Addr} {np1 cp1 : Nat} {Ap2 : Option Addr} {np2 cp2 : Nat} {mG : Int} {r1 : ByteArray} {r2 : Bool} {w : World} (h : impl_CertText.f k a0 = some (r1, r2)) (gp0 : (Kd.int .i64).C w Ap0 np0 a0.f9) (lp0 : np0 ≤ cp0) (gp1 : Kd.string.C w Ap1 np1 a0.f10) (lp1 : np1 ≤ cp1) (gp2 : Kd.string.C w Ap2 np2 a0.f11) (lp2 : np2 ≤ cp2) (hgM : w.cell? ⟨0, 0, none⟩ = some (.int .i64 mG)) :
    Calls Tryz.prog 64 #[.agg #[.int .i64 a0.f0, .string a0.f1, .string a0.f2, .int .i64 a0.f3, .int .i64 a0.f4, .string a0.f5, .bool a0.f6, .int .i64 a0.f7, .int .i64 a0.f8, .slice Ap0 np0 cp0, .slice Ap1 np1 cp1, .slice Ap2 np2 cp2, .string a0.f12]] w (fun e w' => e = .returned (.tuple #[.string r1, .bool r2]) ∧ Hp noFP w w' []) := by
 obtain rfl := C_len gp0
 obtain rfl := C_len gp1
 obtain rfl := C_len gp2
 have HS := Hp.start w
 have H := Aside0.mk h
 clear h
 unfold impl_CertText.f at H
 go_enter Tryz.func64, Tryz.ntmps64
 replace H := zbind H; obtain ⟨t3, ht3, H⟩ := H
 go_upto_if 6 with (first | ((with_reducible refine gate_dst (N := 1) rfl ?_); refine ev_box rfl HS (by first | (go_simp; done) | (go_simp; rfl)) rfl ?_; clear HS; (try clear F); intro g1 w1 HS; (try simp only [hpn, hpm] at HS); have F := HS.boxes; simp only [bxn] at F) | ((with_reducible refine gate_dst (N := 5) rfl ?_); refine ev_call rfl Tryz.func124 (by kernel_rfl) rfl #[.agg #[.int .i64 a0.f0, .string a0.f1, .string a0.f2, .int .i64 a0.f3, .int .i64 a0.f4, .string a0.f5, .bool a0.f6, .int .i64 a0.f7, .int .i64 a0.f8, .slice Ap0 a0.f9.length cp0, .slice Ap1 a0.f10.length cp1, .slice Ap2 a0.f11.length cp2, .string a0.f12]] rfl (by simp only [mpn]; rfl) ?_; refine (impl_CertOk.calls ht3.out (HS.ro gp0) lp0 (HS.ro gp1) lp1 (HS.ro gp2) lp2 (HS.keepc hgM)).mono ?_; rintro _ wt3 ⟨rfl, HQ⟩; refine ⟨_, rfl, ?_⟩; replace HS := HS.call HQ; clear HQ; (try clear F); (try simp only [hpn, hpm] at HS); have F := HS.boxes; simp only [bxn] at F))
 by_cases c5 : t3 = true
 case neg =>
  replace H := zneg c5 H
  replace c5 := eq_false_of_ne_true c5
  subst c5
  (try simp only [dcn, if_true, Bool.false_eq_true, if_false])
  obtain ⟨rfl, rfl⟩ := zsome2 H
  go_wp2
  exact bodyPost_ret (results_list (rs := [.tmp 2, .tmp 3]) rfl (by simp) (.tmp (.tmp .nil))) rfl ⟨rfl, HS.pick [] (by decide) (by rfl)⟩
 replace H := zpos c5 H
 subst c5
 (try simp only [dcn, if_true, Bool.false_eq_true, if_false])
 (try go_wp2)
 replace H := zbind H; obtain ⟨t101001, ht101001, H⟩ := H
 replace H := zbind H; obtain ⟨t104001, ht104001, H⟩ := H
 replace H := zbind H; obtain ⟨t106001, ht106001, H⟩ := H
 replace H := zbind H; obtain ⟨t107001, ht107001, H⟩ := H
 refine dr_start [] HS #[false, false, false, false, false, false, false, false, false, false, false, false] (by kernel_rfl) rfl rfl impl_CertText.tT3 (fun w7 HT HS HH => ?_)
 (try clear F)
 refine drq_of [(0, some 7), (2, some 9), (3, some 10)] ?_
 repeat (first | (refine drq_pure HT (v := ?_) (a' := ?_) rfl rfl (by kernel_rfl) (fun _ _ _ h => h) (.inl ⟨by rfl, ?_⟩) ?_ ?_; rotate_left; (intro w'; go_simp; with_reducible rfl); rotate_left; (simp only [Act.put, ptn]; rfl)) | (refine drq_take HT HH (v := ?_) (a' := ?_) rfl rfl (by kernel_rfl) (fun _ _ _ h => h) (.inl ⟨by rfl, ?_⟩) ?_ ?_; rotate_left; (rintro w' ⟨rs', HS'⟩; have F := HS'.boxes; simp only [bxn, List.cons_append, List.nil_append] at F; go_simp; with_reducible rfl); rotate_left; (simp only [Act.put, ptn]; rfl)))
 refine drq_end ?_
 refine dr_one 1 HT rfl (by kernel_rfl) (by decide) (fun K hK => ?_)
 refine goes_ Tryz.func146 (by kernel_rfl) rfl #[.agg #[.int .i64 a0.f0, .string a0.f1, .string a0.f2, .int .i64 a0.f3, .int .i64 a0.f4, .string a0.f5, .bool a0.f6, .int .i64 a0.f7, .int .i64 a0.f8, .slice Ap0 a0.f9.length cp0, .slice Ap1 a0.f10.length cp1, .slice Ap2 a0.f11.length cp2, .string a0.f12]] (by rfl) rfl rfl (by simp only [mpn]; rfl) ?_; refine (impl_BodyItem.calls ht101001.out (HS.ro gp0) lp0 (HS.ro gp1) lp1 (HS.ro gp2) lp2).mono ?_; rintro _ wt101001 ⟨v101002, rfl, HQ⟩; refine ⟨_, rfl, ?_⟩; replace HS := HS.call HQ; clear HQ; (try clear F); obtain ⟨B101002, d101002, rfl, m101002⟩ := HS.form 1 rfl
 (try simp only [hpn, hpm] at HS)
 have F := HS.boxes; simp only [bxn] at F
 refine hK.out _ _ ⟨_, HS⟩ (fun HH => ?_)
 clear hK K
 refine norm_ (a' := ?_) ?_ ?_
 rotate_left
 · show Act.put _ (some 8) _ = _; simp only [Act.put, ptn]; rfl
 refine dr_one 4 HT rfl (by kernel_rfl) (by decide) (fun K hK => ?_)
 refine goes_ Tryz.func147 (by kernel_rfl) rfl #[.string a0.f12] (by rfl) rfl rfl (by simp only [mpn]; rfl) ?_; refine (impl_bytesItem.calls ht104001.out).mono ?_; rintro _ wt104001 ⟨v104002, rfl, HQ⟩; refine ⟨_, rfl, ?_⟩; replace HS := HS.call HQ; clear HQ; (try clear F); obtain ⟨B104002, d104002, rfl, m104002⟩ := HS.form 2 rfl
 (try simp only [hpn, hpm] at HS)
 have F := HS.boxes; simp only [bxn] at F
 refine hK.out _ _ ⟨_, HS⟩ (fun HH => ?_)
 clear hK K
 refine norm_ (a' := ?_) ?_ ?_
 rotate_left
 · show Act.put _ (some 11) _ = _; simp only [Act.put, ptn]; rfl
 refine dr_one 5 HT rfl (by kernel_rfl) (by decide) (fun K hK => ?_)
 refine if_wp (by rfl) ?_; refine wp_lit q182 [1, 2] ([t101001, t104001] : List S182) ([.int .i64 t101001.f0, .string t101001.f1, .slice B101002 t101001.f2.length d101002] ++ ([.int .i64 t104001.f0, .string t104001.f1, .slice B104002 t104001.f2.length d104002] ++ [])) HS (by first | (go_simp; done) | (go_simp; rfl)) rfl rfl (Nat.le_of_ble_eq_true rfl) (MadeL.cons (js1 := [1]) (c := [.int .i64 t101001.f0, .string t101001.f1, .slice B101002 t101001.f2.length d101002]) rfl (fun S hd hh => q182_pack (x := t101001) hd (hh 1 (.own (Zd.slice 182 q182) t101001.f2 [.slice B101002 t101001.f2.length d101002]) rfl) (by decide)) (MadeL.cons (js1 := [2]) (c := [.int .i64 t104001.f0, .string t104001.f1, .slice B104002 t104001.f2.length d104002]) rfl (fun S hd hh => q182_pack (x := t104001) hd (hh 2 (.own (Zd.slice 182 q182) t104001.f2 [.slice B104002 t104001.f2.length d104002]) rfl) (by decide)) MadeL.nil (by decide)) (by decide)) ?_; clear HS; (try clear F); intro v105001 w105001 HS; obtain ⟨B105001, d105001, rfl, m105001⟩ := HS.formn 2 3 rfl rfl
 (try simp only [hpn, hpm] at HS)
 have F := HS.boxes; simp only [bxn] at F
 refine hK.out _ _ ⟨_, HS⟩ (fun HH => ?_)
 clear hK K
 refine norm_ (a' := ?_) ?_ ?_
 rotate_left
 · show Act.put _ (some 12) _ = _; simp only [Act.put, ptn]; rfl
 refine dr_one 6 HT rfl (by kernel_rfl) (by decide) (fun K hK => ?_)
 refine goes_ Tryz.func145 (by kernel_rfl) rfl #[.slice B105001 2 d105001] (by rfl) rfl rfl (by simp only [mpn]; rfl) ?_; refine (impl_ListItem.calls ht106001.out (HS.rd 3 rfl) m105001).mono ?_; rintro _ wt106001 ⟨v106002, rfl, HQ⟩; refine ⟨_, rfl, ?_⟩; replace HS := HS.call HQ; clear HQ; (try clear F); obtain ⟨B106002, d106002, rfl, m106002⟩ := HS.form 4 rfl
 (try simp only [hpn, hpm] at HS)
 have F := HS.boxes; simp only [bxn] at F
 refine hK.out _ _ ⟨_, HS⟩ (fun HH => ?_)
 clear hK K
 refine norm_ (a' := ?_) ?_ ?_
 rotate_left
 · show Act.put _ (some 13) _ = _; simp only [Act.put, ptn]; rfl
 refine dr_one 7 HT rfl (by kernel_rfl) (by decide) (fun K hK => ?_)
 refine goes_ Tryz.func144 (by kernel_rfl) rfl #[.agg #[.int .i64 t106001.f0, .string t106001.f1, .slice B106002 t106001.f2.length d106002]] (by rfl) rfl rfl (by simp only [mpn]; rfl) ?_; refine (impl_ItemText.calls ht107001.out (HS.rd 4 rfl) m106002).mono ?_; rintro _ wt107001 ⟨rfl, HQ⟩; refine ⟨_, rfl, ?_⟩; replace HS := HS.call HQ; clear HQ; (try clear F)
 (try simp only [hpn, hpm] at HS)
 have F := HS.boxes; simp only [bxn] at F
 refine hK.out _ _ ⟨_, HS⟩ (fun HH => ?_)
 clear hK K
 refine norm_ (a' := ?_) ?_ ?_
 rotate_left
 · show Act.put _ (some 14) _ = _; simp only [Act.put, ptn]; rfl
 refine drq_of [(8, some 15), (9, some 16), (10, some 2), (11, some 3)] ?_
 repeat (first | (refine drq_pure HT (v := ?_) (a' := ?_) rfl rfl (by kernel_rfl) (fun _ _ _ h => h) (.inl ⟨by rfl, ?_⟩) ?_ ?_; rotate_left; (intro w'; go_simp; with_reducible rfl); rotate_left; (simp only [Act.put, ptn]; rfl)))
 refine drq_end ?_
 refine done_ (done_of HT.out (by kernel_rfl)) ?_
 (try clear F)
 have F := HS.boxes; simp only [bxn] at F
 obtain ⟨rfl, rfl⟩ := zsome2 H
 go_wp2
 exact bodyPost_ret (results_list (rs := [.tmp 2, .tmp 3]) rfl (by simp) (.tmp (.tmp .nil))) rfl ⟨rfl, HS.pick [] (by decide) (by rfl)⟩
/-! ### impl_Cert_63_0: function 63 -/
def impl_Cert_63_0.l0 : Nat → (List ByteArray) → Int → (List S91) → Option (Bool)
  | 0, _, _, _ => none
  | k + 1, l19, x21, a0 => (if x21 < (a0.length : Int) then (if 0 ≤ x21 then (if x21 < (a0.length : Int) then ((impl_CertText.f k (rd_T91 a0 x21)).bind fun t31 => (if t31.2 = true then ((slices_Contains_string_string.f k l19 t31.1).bind fun t34 => (if t34 = true then (some false) else (if l19.length + 1 ≤ 8796093022208 then (lets (l19 ++ ([t31.1] : List ByteArray)) fun y40 => (impl_Cert_63_0.l0 k y40 (wrap64 (x21 + 1)) a0)) else none))) else (some false))) else none) else none) else (some true))
def impl_Cert_63_0.f (k : Nat) (a0 : (List S91)) : Option (Bool) := (impl_Cert_63_0.l0 k [] 0 a0)
set_option maxHeartbeats 16000000 in
theorem impl_Cert_63_0.calls {k : Nat} {a0 : (List S91)} {Ap0 : Option Addr} {np0 cp0 : Nat} {mG : Int} {r : Bool} {w : World} (h : impl_Cert_63_0.f k a0 = some r) (gp0 : k91.C w Ap0 np0 a0) (lp0 : np0 ≤ cp0) (hgM : w.cell? ⟨0, 0, none⟩ = some (.int .i64 mG)) :
    Calls Tryz.prog 63 #[.slice Ap0 np0 cp0, .func (.func 64) #[] #[]] w (fun e w' => e = .returned (.bool r) ∧ Hp noFP w w' []) := by
 obtain rfl := C_len gp0
 have HS := Hp.start w
 have H := Aside0.mk h
 clear h
 unfold impl_Cert_63_0.f at H
 go_enter Tryz.func63, Tryz.ntmps63
 go_wp2
 replace HS := HS.nil 9 Zd.string
 go_loopg [5, 12] k (fun kq v_5 v_12 w' => ∃ (l19 : List ByteArray) (v20 : Value) (x21 : Int), v_5 = v20 ∧ v_12 = .int .i64 x21 ∧ Aside0 (impl_Cert_63_0.l0 kq l19 x21 a0 = some r) ∧ Aside0 (kq ≤ k) ∧ Hp noFP w w' [.own (Zd.slice 9 Zd.string) l19 [v20]])
 case atStart => exact ⟨_, _, _, rfl, rfl, H, ⟨Nat.le_refl _⟩, HS⟩
 case round =>
  clear HS H; (try clear F)
  obtain ⟨l19, v20, x21, rfl, rfl, H, HKk18, HS⟩ := hrel
  obtain ⟨B20, d20, rfl, m20⟩ := HS.form 0 rfl
  cases gk with
  | zero => exact absurd H.out (by simp [impl_Cert_63_0.l0])
  | succ k18 =>
   simp only [impl_Cert_63_0.l0] at H
   by_cases c23 : x21 < (a0.length : Int)
   case neg =>
    replace H := zneg c23 H
    replace c23 := eq_false c23
    obtain rfl := zsome H
    go_wp2
    go_ret
    exact ⟨rfl, HS.pick [] (by decide) (by rfl)⟩
   replace H := zpos c23 H
   replace c23 := eq_true c23
   by_cases c24 : 0 ≤ x21
   case neg => exact zno c24 H
   replace H := zpos c24 H
   replace c24 := eq_true c24
   by_cases c25 : x21 < (a0.length : Int)
   case neg => exact zno c25 H
   replace H := zpos c25 H
   replace c25 := eq_true c25
   obtain ⟨ad26, B26_9, d26_9, B26_10, d26_10, B26_11, d26_11, rfl, e26_0, e26_1, e26_2, e26_3, e26_4, e26_5, e26_6, e26_7, e26_8, e26_9, e26_10, e26_11, e26_12, m26_9, y26_9, m26_10, y26_10, m26_11, y26_11⟩ := at_T91 gp0 x21 (of_eq_true c24) (of_eq_true c25)
   have e26_0_26 := (HS.keepc e26_0)
   have e26_1_26 := (HS.keepc e26_1)
   have e26_2_26 := (HS.keepc e26_2)
   have e26_3_26 := (HS.keepc e26_3)
   have e26_4_26 := (HS.keepc e26_4)
   have e26_5_26 := (HS.keepc e26_5)
   have e26_6_26 := (HS.keepc e26_6)
   have e26_7_26 := (HS.keepc e26_7)
   have e26_8_26 := (HS.keepc e26_8)
   have e26_9_26 := (HS.keepc e26_9)
   have e26_10_26 := (HS.keepc e26_10)
   have e26_11_26 := (HS.keepc e26_11)
   have e26_12_26 := (HS.keepc e26_12)
   replace H := zbind H; obtain ⟨t31, ht31, H⟩ := H
   by_cases c33 : t31.2 = true
   case neg =>
    replace H := zneg c33 H
    replace c33 := eq_false_of_ne_true c33
    obtain rfl := zsome H
    go_wp2_with (first | ((with_reducible refine gate_dst (N := 7) rfl ?_); refine ev_box rfl HS (by first | (go_simp; done) | (go_simp; rfl)) rfl ?_; clear HS; (try clear F); intro g7 w7 HS; (try simp only [hpn, hpm] at HS); have F := HS.boxes; simp only [bxn] at F) | ((with_reducible refine gate_store (p := 7) rfl ?_); refine ev_store rfl 1 0 HS (seg := [.int .i64 ((rd_T91 a0 x21).f0), .string ((rd_T91 a0 x21).f1), .string ((rd_T91 a0 x21).f2), .int .i64 ((rd_T91 a0 x21).f3), .int .i64 ((rd_T91 a0 x21).f4), .string ((rd_T91 a0 x21).f5), .bool ((rd_T91 a0 x21).f6), .int .i64 ((rd_T91 a0 x21).f7), .int .i64 ((rd_T91 a0 x21).f8), .slice B26_9 (rd_T91 a0 x21).f9.length d26_9, .slice B26_10 (rd_T91 a0 x21).f10.length d26_10, .slice B26_11 (rd_T91 a0 x21).f11.length d26_11, .string ((rd_T91 a0 x21).f12)]) rfl rfl rfl rfl rfl rfl (by kernel_rfl) (by simp [wrt]) (by simp [Value.oneCell']) ?_; clear HS; (try clear F); intro w29 HS; (try simp only [hpn, hpm] at HS); have F := HS.boxes; simp only [bxn] at F) | ((with_reducible refine gate_dst (N := 19) rfl ?_); refine ev_callv rfl Tryz.func64 (by kernel_rfl) rfl #[.agg #[.int .i64 ((rd_T91 a0 x21).f0), .string ((rd_T91 a0 x21).f1), .string ((rd_T91 a0 x21).f2), .int .i64 ((rd_T91 a0 x21).f3), .int .i64 ((rd_T91 a0 x21).f4), .string ((rd_T91 a0 x21).f5), .bool ((rd_T91 a0 x21).f6), .int .i64 ((rd_T91 a0 x21).f7), .int .i64 ((rd_T91 a0 x21).f8), .slice B26_9 (rd_T91 a0 x21).f9.length d26_9, .slice B26_10 (rd_T91 a0 x21).f10.length d26_10, .slice B26_11 (rd_T91 a0 x21).f11.length d26_11, .string ((rd_T91 a0 x21).f12)]] #[.agg #[.int .i64 ((rd_T91 a0 x21).f0), .string ((rd_T91 a0 x21).f1), .string ((rd_T91 a0 x21).f2), .int .i64 ((rd_T91 a0 x21).f3), .int .i64 ((rd_T91 a0 x21).f4), .string ((rd_T91 a0 x21).f5), .bool ((rd_T91 a0 x21).f6), .int .i64 ((rd_T91 a0 x21).f7), .int .i64 ((rd_T91 a0 x21).f8), .slice B26_9 (rd_T91 a0 x21).f9.length d26_9, .slice B26_10 (rd_T91 a0 x21).f10.length d26_10, .slice B26_11 (rd_T91 a0 x21).f11.length d26_11, .string ((rd_T91 a0 x21).f12)]] rfl rfl (by simp only [mpn]; rfl) (by first | rfl | simp) ?_; refine (impl_CertText.calls ht31.out (HS.ro y26_9) m26_9 (HS.ro y26_10) m26_10 (HS.ro y26_11) m26_11 (HS.keepc hgM)).mono ?_; rintro _ wt31 ⟨rfl, HQ⟩; refine ⟨_, rfl, ?_⟩; replace HS := HS.call HQ; clear HQ; (try clear F); (try simp only [hpn, hpm] at HS); have F := HS.boxes; simp only [bxn] at F; (try simp only [c33])))
    go_ret
    exact ⟨rfl, HS.pick [] (by decide) (by rfl)⟩
   replace H := zpos c33 H
   replace H := zbind H; obtain ⟨t34, ht34, H⟩ := H
   go_upto_if 28 with (first | ((with_reducible refine gate_dst (N := 7) rfl ?_); refine ev_box rfl HS (by first | (go_simp; done) | (go_simp; rfl)) rfl ?_; clear HS; (try clear F); intro g7 w7 HS; (try simp only [hpn, hpm] at HS); have F := HS.boxes; simp only [bxn] at F) | ((with_reducible refine gate_store (p := 7) rfl ?_); refine ev_store rfl 1 0 HS (seg := [.int .i64 ((rd_T91 a0 x21).f0), .string ((rd_T91 a0 x21).f1), .string ((rd_T91 a0 x21).f2), .int .i64 ((rd_T91 a0 x21).f3), .int .i64 ((rd_T91 a0 x21).f4), .string ((rd_T91 a0 x21).f5), .bool ((rd_T91 a0 x21).f6), .int .i64 ((rd_T91 a0 x21).f7), .int .i64 ((rd_T91 a0 x21).f8), .slice B26_9 (rd_T91 a0 x21).f9.length d26_9, .slice B26_10 (rd_T91 a0 x21).f10.length d26_10, .slice B26_11 (rd_T91 a0 x21).f11.length d26_11, .string ((rd_T91 a0 x21).f12)]) rfl rfl rfl rfl rfl rfl (by kernel_rfl) (by simp [wrt]) (by simp [Value.oneCell']) ?_; clear HS; (try clear F); intro w29 HS; (try simp only [hpn, hpm] at HS); have F := HS.boxes; simp only [bxn] at F) | ((with_reducible refine gate_dst (N := 19) rfl ?_); refine ev_callv rfl Tryz.func64 (by kernel_rfl) rfl #[.agg #[.int .i64 ((rd_T91 a0 x21).f0), .string ((rd_T91 a0 x21).f1), .string ((rd_T91 a0 x21).f2), .int .i64 ((rd_T91 a0 x21).f3), .int .i64 ((rd_T91 a0 x21).f4), .string ((rd_T91 a0 x21).f5), .bool ((rd_T91 a0 x21).f6), .int .i64 ((rd_T91 a0 x21).f7), .int .i64 ((rd_T91 a0 x21).f8), .slice B26_9 (rd_T91 a0 x21).f9.length d26_9, .slice B26_10 (rd_T91 a0 x21).f10.length d26_10, .slice B26_11 (rd_T91 a0 x21).f11.length d26_11, .string ((rd_T91 a0 x21).f12)]] #[.agg #[.int .i64 ((rd_T91 a0 x21).f0), .string ((rd_T91 a0 x21).f1), .string ((rd_T91 a0 x21).f2), .int .i64 ((rd_T91 a0 x21).f3), .int .i64 ((rd_T91 a0 x21).f4), .string ((rd_T91 a0 x21).f5), .bool ((rd_T91 a0 x21).f6), .int .i64 ((rd_T91 a0 x21).f7), .int .i64 ((rd_T91 a0 x21).f8), .slice B26_9 (rd_T91 a0 x21).f9.length d26_9, .slice B26_10 (rd_T91 a0 x21).f10.length d26_10, .slice B26_11 (rd_T91 a0 x21).f11.length d26_11, .string ((rd_T91 a0 x21).f12)]] rfl rfl (by simp only [mpn]; rfl) (by first | rfl | simp) ?_; refine (impl_CertText.calls ht31.out (HS.ro y26_9) m26_9 (HS.ro y26_10) m26_10 (HS.ro y26_11) m26_11 (HS.keepc hgM)).mono ?_; rintro _ wt31 ⟨rfl, HQ⟩; refine ⟨_, rfl, ?_⟩; replace HS := HS.call HQ; clear HQ; (try clear F); (try simp only [hpn, hpm] at HS); have F := HS.boxes; simp only [bxn] at F; (try simp only [c33])) | ((with_reducible refine gate_dst (N := 27) rfl ?_); refine gate_guard (by rfl) ?_; refine ev_call rfl Tryz.func143 (by kernel_rfl) rfl #[.slice B20 l19.length d20, .string t31.1] rfl (by simp only [mpn]; rfl) ?_; refine (slices_Contains_string_string.calls ht34.out (HS.rd 0 rfl) m20).mono ?_; rintro _ wt34 ⟨rfl, HQ⟩; refine ⟨_, rfl, ?_⟩; replace HS := HS.call HQ; clear HQ; (try clear F); (try simp only [hpn, hpm] at HS); have F := HS.boxes; simp only [bxn] at F))
   by_cases c36 : t34 = true
   case pos =>
    replace H := zpos c36 H
    subst c36
    (try simp only [dcn, if_true, Bool.false_eq_true, if_false])
    obtain rfl := zsome H
    go_wp2
    go_ret
    exact ⟨rfl, HS.pick [] (by decide) (by rfl)⟩
   replace H := zneg c36 H
   replace c36 := eq_false_of_ne_true c36
   subst c36
   (try simp only [dcn, if_true, Bool.false_eq_true, if_false])
   by_cases c39 : l19.length + 1 ≤ 8796093022208
   case neg => exact zno c39 H
   replace H := zpos c39 H
   replace c39 := eq_true c39
   replace H := zlets H; obtain ⟨y40, e_y40, H⟩ := H
   go_wp2_with (first | ((with_reducible refine gate_dst (N := 31) rfl ?_); refine ev_lit rfl Zd.string [] ([t31.1] : List ByteArray) ([.string t31.1] ++ []) HS (by first | (go_simp; done) | (go_simp; rfl)) rfl rfl (Nat.le_of_ble_eq_true rfl) (MadeL.cons (js1 := []) (c := [.string t31.1]) rfl (made_flat (fun _ => rfl)) MadeL.nil (by decide)) ?_; clear HS; (try clear F); intro v37 w37 HS; obtain ⟨B37, d37, rfl, m37⟩ := HS.formn 1 2 rfl rfl; (try simp only [hpn, hpm] at HS); have F := HS.boxes; simp only [bxn] at F) | ((with_reducible refine gate_dst (N := 32) rfl ?_); refine ev_append rfl Zd.string 0 2 HS rfl rfl (by decide) rfl rfl rfl Tryz.underlying57 info9 rfl (by decide) (by decide) (by have := of_eq_true c39; first | omega | (simp only [List.length_cons, List.length_nil, List.length_append, Nat.zero_add] at this ⊢; omega)) ?_; clear HS; (try clear F); intro v40 w40 HS; rw [← e_y40.out] at HS; obtain ⟨B40, d40, rfl, m40⟩ := HS.form 3 rfl; (try simp only [hpn, hpm] at HS); have F := HS.boxes; simp only [bxn] at F))
   go_roundg k18
   case measure => have := HKk18.out; omega
   case rel => exact ⟨_, _, _, rfl, rfl, H, ⟨by have := HKk18.out; omega⟩, HS.pick [3] (by decide) (by rfl)⟩
end Go.Proofs.YtacocpknielofaaGreatDoor.F

/- Functions of the program and of the law, and that their calls do what is written here. -/
import Derived.Test.YtacocpknielofaaGreatDoorZgFnExactStoreOkg
import Derived.Test.YtacocpknielofaaGreatDoorZgFnExactStoreOkh
import Derived.Test.YtacocpknielofaaGreatDoorZgFnExactStoreOkj
namespace Go.Proofs.YtacocpknielofaaGreatDoor.F
open Go.RowKit Go.Proofs.YtacocpknielofaaGreatDoorW.PrintWords Go.Proofs.YtacocpknielofaaGreatDoorW.PrintLast Go.Proofs.YtacocpknielofaaGreatDoorW.PrintMore Go.Proofs.YtacocpknielofaaGreatDoor.Z
attribute [local go_sem] max2_int min2_int max_two min_two max_three min_three max_four min_four
set_option linter.unusedVariables false
set_option linter.unusedSimpArgs false
set_option maxRecDepth 100000
/-! ### impl_crlItem: function 149 -/
def impl_crlItem.f (k : Nat) (a0 : S81) : Option (S182) := ((impl_TextItem.f a0.f0).bind fun t102001 => ((impl_IntItem.f k a0.f1).bind fun t105001 => ((impl_IntItem.f k a0.f2).bind fun t108001 => ((impl_IntItem.f k a0.f3).bind fun t111001 => ((impl_IntItem.f k a0.f4).bind fun t114001 => ((impl_Rev_0.f k a0.f5).bind fun t118001 => ((impl_ListItem.f k ([t102001, t105001, t108001, t111001, t114001, t118001] : List S182)).bind fun t120001 => (some (⟨t120001.f0, t120001.f1, t120001.f2⟩ : S182)))))))))
def impl_crlItem.T2 : Bool × List (List Nat × List Nat) := (true, [([], []), ([0], [0]), ([1], [1]), ([], []), ([3], [3]), ([4, 2], [4]), ([], []), ([6], [6]), ([7, 5], [7]), ([], []), ([9], [9]), ([10, 8], [10]), ([], []), ([12], [12]), ([13, 11], [13]), ([], []), ([15], [15]), ([], []), ([16, 17, 14], [16, 17]), ([2, 5, 8, 11, 14, 18], [2, 5, 8, 11, 14, 18]), ([19, 18], [19]), ([20, 20, 0, 1, 2, 3, 4, 5, 6, 7, 8, 9, 10, 11, 12, 13, 14, 15, 16, 17, 18, 19, 20], [20])])
theorem impl_crlItem.tT2 : rtab .any (opsOf Tryz.f149 2) = impl_crlItem.T2 := by kernel_rfl
set_option maxHeartbeats 16000000 in
theorem impl_crlItem.calls {k : Nat} {a0 : S81} {Ap0 : Option Addr} {np0 cp0 : Nat} {r : S182} {w : World} (h : impl_crlItem.f k a0 = some r) (gp0 : k238.C w Ap0 np0 a0.f5) (lp0 : np0 ≤ cp0) :
    Calls Tryz.prog 149 #[.agg #[.string a0.f0, .int .i64 a0.f1, .int .i64 a0.f2, .int .i64 a0.f3, .int .i64 a0.f4, .slice Ap0 np0 cp0, .string a0.f6]] w (fun e w' => ∃ v0_ : Value, e = .returned (.agg #[.int .i64 r.f0, .string r.f1, v0_]) ∧ Hp noFP w w' [.own (Zd.slice 182 q182) r.f2 [v0_]]) := by
 obtain rfl := C_len gp0
 have HS := Hp.start w
 have H := Aside0.mk h
 clear h
 unfold impl_crlItem.f at H
 go_enter Tryz.func149, Tryz.ntmps149
 go_wp2_with (first | ((with_reducible refine gate_dst (N := 1) rfl ?_); refine ev_bx HS ?_; clear HS; (try clear F); intro g1 w1 HS F) | ((with_reducible refine gate_dst (N := 2) rfl ?_); refine ev_bx HS ?_; clear HS; (try clear F); intro g2 w2 HS F))
 replace H := zbind H; obtain ⟨t102001, ht102001, H⟩ := H
 replace H := zbind H; obtain ⟨t105001, ht105001, H⟩ := H
 replace H := zbind H; obtain ⟨t108001, ht108001, H⟩ := H
 replace H := zbind H; obtain ⟨t111001, ht111001, H⟩ := H
 replace H := zbind H; obtain ⟨t114001, ht114001, H⟩ := H
 replace H := zbind H; obtain ⟨t118001, ht118001, H⟩ := H
 replace H := zbind H; obtain ⟨t120001, ht120001, H⟩ := H
 refine dr_start [21] HS #[false, false, false, false, false, false, false, false, false, false, false, false, false, false, false, false, false, false, false, false, false, false] (by kernel_rfl) rfl rfl impl_crlItem.tT2 (fun w6 HT HS HH => ?_)
 (try clear F)
 refine drq_of [(0, some 4), (1, some 5), (3, some 7), (4, some 8), (6, some 10), (7, some 11), (9, some 13), (10, some 14), (12, some 16), (13, some 17), (15, some 19), (16, some 20), (17, some 21)] ?_
 repeat (first | refine drp HT ?_ | refine drt HT HH ?_)
 refine drq_end ?_
 refine dr1 2 HT fun K hK => ?_
 refine go_cl1 HS (impl_TextItem.calls ht102001.out) Tryz.func203 ?_; clear HS; (try clear F); intro v102002 wt102001 HS F; obtain ⟨B102002, d102002, rfl, m102002⟩ := HS.form 2 rfl
 refine nrm 6 hK ⟨_, HS⟩ (fun HH => ?_); clear hK K
 refine dr1 5 HT fun K hK => ?_
 refine go_cl1 HS (impl_IntItem.calls ht105001.out) Tryz.func202 ?_; clear HS; (try clear F); intro v105002 wt105001 HS F; obtain ⟨B105002, d105002, rfl, m105002⟩ := HS.form 3 rfl
 refine nrm 9 hK ⟨_, HS⟩ (fun HH => ?_); clear hK K
 refine dr1 8 HT fun K hK => ?_
 refine go_cl1 HS (impl_IntItem.calls ht108001.out) Tryz.func202 ?_; clear HS; (try clear F); intro v108002 wt108001 HS F; obtain ⟨B108002, d108002, rfl, m108002⟩ := HS.form 4 rfl
 refine nrm 12 hK ⟨_, HS⟩ (fun HH => ?_); clear hK K
 refine dr1 11 HT fun K hK => ?_
 refine go_cl1 HS (impl_IntItem.calls ht111001.out) Tryz.func202 ?_; clear HS; (try clear F); intro v111002 wt111001 HS F; obtain ⟨B111002, d111002, rfl, m111002⟩ := HS.form 5 rfl
 refine nrm 15 hK ⟨_, HS⟩ (fun HH => ?_); clear hK K
 refine dr1 14 HT fun K hK => ?_
 refine go_cl1 HS (impl_IntItem.calls ht114001.out) Tryz.func202 ?_; clear HS; (try clear F); intro v114002 wt114001 HS F; obtain ⟨B114002, d114002, rfl, m114002⟩ := HS.form 6 rfl
 refine nrm 18 hK ⟨_, HS⟩ (fun HH => ?_); clear hK K
 refine dr1 18 HT fun K hK => ?_
 refine go_cl1 HS (impl_Rev_0.calls ht118001.out (HS.ro gp0) lp0) Tryz.func208 ?_; clear HS; (try clear F); intro v118002 wt118001 HS F; obtain ⟨B118002, d118002, rfl, m118002⟩ := HS.form 7 rfl
 refine nrm 22 hK ⟨_, HS⟩ (fun HH => ?_); clear hK K
 refine dr1 19 HT fun K hK => ?_
 refine if_wp (by rfl) ?_; refine wp_lit q182 [2, 3, 4, 5, 6, 7] ([t102001, t105001, t108001, t111001, t114001, t118001] : List S182) ([.int .i64 t102001.f0, .string t102001.f1, .slice B102002 t102001.f2.length d102002] ++ ([.int .i64 t105001.f0, .string t105001.f1, .slice B105002 t105001.f2.length d105002] ++ ([.int .i64 t108001.f0, .string t108001.f1, .slice B108002 t108001.f2.length d108002] ++ ([.int .i64 t111001.f0, .string t111001.f1, .slice B111002 t111001.f2.length d111002] ++ ([.int .i64 t114001.f0, .string t114001.f1, .slice B114002 t114001.f2.length d114002] ++ ([.int .i64 t118001.f0, .string t118001.f1, .slice B118002 t118001.f2.length d118002] ++ [])))))) HS (by first | (go_simp; done) | (go_simp; rfl)) rfl rfl (Nat.le_of_ble_eq_true rfl) (MadeL.cons (js1 := [2]) (c := [.int .i64 t102001.f0, .string t102001.f1, .slice B102002 t102001.f2.length d102002]) rfl (fun S hd hh => q182_pack (x := t102001) hd (hh 2 (.own (Zd.slice 182 q182) t102001.f2 [.slice B102002 t102001.f2.length d102002]) rfl) (by decide)) (MadeL.cons (js1 := [3]) (c := [.int .i64 t105001.f0, .string t105001.f1, .slice B105002 t105001.f2.length d105002]) rfl (fun S hd hh => q182_pack (x := t105001) hd (hh 3 (.own (Zd.slice 182 q182) t105001.f2 [.slice B105002 t105001.f2.length d105002]) rfl) (by decide)) (MadeL.cons (js1 := [4]) (c := [.int .i64 t108001.f0, .string t108001.f1, .slice B108002 t108001.f2.length d108002]) rfl (fun S hd hh => q182_pack (x := t108001) hd (hh 4 (.own (Zd.slice 182 q182) t108001.f2 [.slice B108002 t108001.f2.length d108002]) rfl) (by decide)) (MadeL.cons (js1 := [5]) (c := [.int .i64 t111001.f0, .string t111001.f1, .slice B111002 t111001.f2.length d111002]) rfl (fun S hd hh => q182_pack (x := t111001) hd (hh 5 (.own (Zd.slice 182 q182) t111001.f2 [.slice B111002 t111001.f2.length d111002]) rfl) (by decide)) (MadeL.cons (js1 := [6]) (c := [.int .i64 t114001.f0, .string t114001.f1, .slice B114002 t114001.f2.length d114002]) rfl (fun S hd hh => q182_pack (x := t114001) hd (hh 6 (.own (Zd.slice 182 q182) t114001.f2 [.slice B114002 t114001.f2.length d114002]) rfl) (by decide)) (MadeL.cons (js1 := [7]) (c := [.int .i64 t118001.f0, .string t118001.f1, .slice B118002 t118001.f2.length d118002]) rfl (fun S hd hh => q182_pack (x := t118001) hd (hh 7 (.own (Zd.slice 182 q182) t118001.f2 [.slice B118002 t118001.f2.length d118002]) rfl) (by decide)) MadeL.nil (by decide)) (by decide)) (by decide)) (by decide)) (by decide)) (by decide)) ?_; clear HS; (try clear F); intro v119001 w119001 HS; obtain ⟨B119001, d119001, rfl, m119001⟩ := HS.formn 6 8 rfl rfl
 (try simp only [hpn, hpm] at HS)
 have F := HS.boxes; simp only [bxn] at F
 refine nrm 23 hK ⟨_, HS⟩ (fun HH => ?_); clear hK K
 refine dr1 20 HT fun K hK => ?_
 refine go_cl1 HS (impl_ListItem.calls ht120001.out (HS.rd 8 rfl) m119001) Tryz.func145 ?_; clear HS; (try clear F); intro v120002 wt120001 HS F; obtain ⟨B120002, d120002, rfl, m120002⟩ := HS.form 9 rfl
 refine nrm 24 hK ⟨_, HS⟩ (fun HH => ?_); clear hK K
 refine dr_last 21 HT rfl (by kernel_rfl) (by decide) (fun K hK => ?_)
 refine if_st 1 0 HS (seg := [.int .i64 t120001.f0, .string t120001.f1, .slice B120002 t120001.f2.length d120002]) ?_; clear HS; (try clear F); intro w121001 HS F
 refine hK.out _ _ ?_
 clear hK K
 refine done_ (done_of HT.out (by kernel_rfl)) ?_
 (try clear F)
 have F := HS.boxes; simp only [bxn] at F
 obtain rfl := zsome H
 go_wp2
 exact bodyPost_ret (results_single rfl (.cell _ _ _ _ _ rfl (HS.boxAt (i := 1) rfl) Tryz.underlying182 rfl (by kernel_rfl) .nil)) rfl ⟨_, rfl, HS.pick [9] (by decide) (by rfl)⟩
/-! ### impl_CrlText: function 66 -/
def impl_CrlText.f (k : Nat) (a0 : S81) : Option (ByteArray × Bool) := ((impl_CrlOk.f k a0).bind fun t3 => (if t3 = true then ((impl_crlItem.f k a0).bind fun t101001 => ((impl_bytesItem.f a0.f6).bind fun t104001 => ((impl_ListItem.f k ([t101001, t104001] : List S182)).bind fun t106001 => ((impl_ItemText.f k t106001).bind fun t107001 => (some (t107001.1, t107001.2)))))) else (some ((⟨#[]⟩ : ByteArray), false))))
def impl_CrlText.T3 : Bool × List (List Nat × List Nat) := (true, [([], []), ([0], [0]), ([], []), ([2], [2]), ([3, 1], [3]), ([1, 4], [1, 4]), ([5, 4], [5]), ([6, 6], [6]), ([7], [7]), ([7], [7]), ([8, 7, 0, 1, 2, 3, 4, 5, 6, 7, 8, 9], [8]), ([9, 10, 0, 1, 2, 3, 4, 5, 6, 7, 8, 9, 10], [9])])
theorem impl_CrlText.tT3 : rtab .any (opsOf Tryz.f66 3) = impl_CrlText.T3 := by kernel_rfl
set_option maxHeartbeats 16000000 in
theorem impl_CrlText.calls {k : Nat} {a0 : S81} {Ap0 : Option Addr} {np0 cp0 : Nat} {mG : Int} {r1 : ByteArray} {r2 : Bool} {w : World} (h : impl_CrlText.f k a0 = some (r1, r2)) (gp0 : k238.C w Ap0 np0 a0.f5) (lp0 : np0 ≤ cp0) (hgM : w.cell? ⟨0, 0, none⟩ = some (.int .i64 mG)) :
    Calls Tryz.prog 66 #[.agg #[.string a0.f0, .int .i64 a0.f1, .int .i64 a0.f2, .int .i64 a0.f3, .int .i64 a0.f4, .slice Ap0 np0 cp0, .string a0.f6]] w (fun e w' => e = .returned (.tuple #[.string r1, .bool r2]) ∧ Hp noFP w w' []) := by
 obtain rfl := C_len gp0
 have HS := Hp.start w
 have H := Aside0.mk h
 clear h
 unfold impl_CrlText.f at H
 go_enter Tryz.func66, Tryz.ntmps66
 replace H := zbind H; obtain ⟨t3, ht3, H⟩ := H
 go_upto_if 6 with (first | ((with_reducible refine gate_dst (N := 1) rfl ?_); refine ev_bx HS ?_; clear HS; (try clear F); intro g1 w1 HS F) | ((with_reducible refine gate_dst (N := 5) rfl ?_); refine ev_cl HS (impl_CrlOk.calls ht3.out (HS.ro gp0) lp0 (HS.keepc hgM)) Tryz.func148 ?_; clear HS; (try clear F); intro wt3 HS F))
 by_cases c5 : t3 = true
 case neg =>
  replace H := zneg c5 H
  replace c5 := eq_false_of_ne_true c5
  subst c5
  (try simp only [dcn, if_true, Bool.false_eq_true, if_false])
  obtain ⟨rfl, rfl⟩ := zsome2 H
  go_wp2
  exact bodyPost_ret (results_list (rs := [.tmp 2, .tmp 3]) rfl (by simp) (.tmp (.tmp .nil))) rfl ⟨rfl, HS.pick [] (by decide) (by rfl)⟩
 replace H := zpos c5 H
 subst c5
 (try simp only [dcn, if_true, Bool.false_eq_true, if_false])
 (try go_wp2)
 replace H := zbind H; obtain ⟨t101001, ht101001, H⟩ := H
 replace H := zbind H; obtain ⟨t104001, ht104001, H⟩ := H
 replace H := zbind H; obtain ⟨t106001, ht106001, H⟩ := H
 replace H := zbind H; obtain ⟨t107001, ht107001, H⟩ := H
 refine dr_start [] HS #[false, false, false, false, false, false, false, false, false, false, false, false] (by kernel_rfl) rfl rfl impl_CrlText.tT3 (fun w7 HT HS HH => ?_)
 (try clear F)
 refine drq_of [(0, some 7), (2, some 9), (3, some 10)] ?_
 repeat (first | refine drp HT ?_ | refine drt HT HH ?_)
 refine drq_end ?_
 refine dr1 1 HT fun K hK => ?_
 refine go_cl1 HS (impl_crlItem.calls ht101001.out (HS.ro gp0) lp0) Tryz.func149 ?_; clear HS; (try clear F); intro v101002 wt101001 HS F; obtain ⟨B101002, d101002, rfl, m101002⟩ := HS.form 1 rfl
 refine nrm 8 hK ⟨_, HS⟩ (fun HH => ?_); clear hK K
 refine dr1 4 HT fun K hK => ?_
 refine go_cl1 HS (impl_bytesItem.calls ht104001.out) Tryz.func147 ?_; clear HS; (try clear F); intro v104002 wt104001 HS F; obtain ⟨B104002, d104002, rfl, m104002⟩ := HS.form 2 rfl
 refine nrm 11 hK ⟨_, HS⟩ (fun HH => ?_); clear hK K
 refine dr1 5 HT fun K hK => ?_
 refine if_wp (by rfl) ?_; refine wp_lit q182 [1, 2] ([t101001, t104001] : List S182) ([.int .i64 t101001.f0, .string t101001.f1, .slice B101002 t101001.f2.length d101002] ++ ([.int .i64 t104001.f0, .string t104001.f1, .slice B104002 t104001.f2.length d104002] ++ [])) HS (by first | (go_simp; done) | (go_simp; rfl)) rfl rfl (Nat.le_of_ble_eq_true rfl) (MadeL.cons (js1 := [1]) (c := [.int .i64 t101001.f0, .string t101001.f1, .slice B101002 t101001.f2.length d101002]) rfl (fun S hd hh => q182_pack (x := t101001) hd (hh 1 (.own (Zd.slice 182 q182) t101001.f2 [.slice B101002 t101001.f2.length d101002]) rfl) (by decide)) (MadeL.cons (js1 := [2]) (c := [.int .i64 t104001.f0, .string t104001.f1, .slice B104002 t104001.f2.length d104002]) rfl (fun S hd hh => q182_pack (x := t104001) hd (hh 2 (.own (Zd.slice 182 q182) t104001.f2 [.slice B104002 t104001.f2.length d104002]) rfl) (by decide)) MadeL.nil (by decide)) (by decide)) ?_; clear HS; (try clear F); intro v105001 w105001 HS; obtain ⟨B105001, d105001, rfl, m105001⟩ := HS.formn 2 3 rfl rfl
 (try simp only [hpn, hpm] at HS)
 have F := HS.boxes; simp only [bxn] at F
 refine nrm 12 hK ⟨_, HS⟩ (fun HH => ?_); clear hK K
 refine dr1 6 HT fun K hK => ?_
 refine go_cl1 HS (impl_ListItem.calls ht106001.out (HS.rd 3 rfl) m105001) Tryz.func145 ?_; clear HS; (try clear F); intro v106002 wt106001 HS F; obtain ⟨B106002, d106002, rfl, m106002⟩ := HS.form 4 rfl
 refine nrm 13 hK ⟨_, HS⟩ (fun HH => ?_); clear hK K
 refine dr1 7 HT fun K hK => ?_
 refine go_cl HS (impl_ItemText.calls ht107001.out (HS.rd 4 rfl) m106002) Tryz.func144 ?_; clear HS; (try clear F); intro wt107001 HS F
 refine nrm 14 hK ⟨_, HS⟩ (fun HH => ?_); clear hK K
 refine drq_of [(8, some 15), (9, some 16), (10, some 2), (11, some 3)] ?_
 repeat (refine drp HT ?_)
 refine drq_end ?_
 refine done_ (done_of HT.out (by kernel_rfl)) ?_
 (try clear F)
 have F := HS.boxes; simp only [bxn] at F
 obtain ⟨rfl, rfl⟩ := zsome2 H
 go_wp2
 exact bodyPost_ret (results_list (rs := [.tmp 2, .tmp 3]) rfl (by simp) (.tmp (.tmp .nil))) rfl ⟨rfl, HS.pick [] (by decide) (by rfl)⟩
/-! ### impl_Crl_0: function 65 -/
def impl_Crl_0.l0 : Nat → (List ByteArray) → Int → (List S81) → Option (Bool)
  | 0, _, _, _ => none
  | k + 1, l19, x21, a0 => (if x21 < (a0.length : Int) then (if 0 ≤ x21 then (if x21 < (a0.length : Int) then ((impl_CrlText.f k (rd_T81 a0 x21)).bind fun t31 => (if t31.2 = true then ((slices_Contains_string_string.f k l19 t31.1).bind fun t34 => (if t34 = true then (some false) else (if l19.length + 1 ≤ 8796093022208 then (lets (l19 ++ ([t31.1] : List ByteArray)) fun y40 => (impl_Crl_0.l0 k y40 (wrap64 (x21 + 1)) a0)) else none))) else (some false))) else none) else none) else (some true))
def impl_Crl_0.f (k : Nat) (a0 : (List S81)) : Option (Bool) := (impl_Crl_0.l0 k [] 0 a0)
set_option maxHeartbeats 16000000 in
theorem impl_Crl_0.calls {k : Nat} {a0 : (List S81)} {Ap0 : Option Addr} {np0 cp0 : Nat} {mG : Int} {r : Bool} {w : World} (h : impl_Crl_0.f k a0 = some r) (gp0 : k81.C w Ap0 np0 a0) (lp0 : np0 ≤ cp0) (hgM : w.cell? ⟨0, 0, none⟩ = some (.int .i64 mG)) :
    Calls Tryz.prog 65 #[.slice Ap0 np0 cp0, .func (.func 66) #[] #[]] w (fun e w' => e = .returned (.bool r) ∧ Hp noFP w w' []) := by
 obtain rfl := C_len gp0
 have HS := Hp.start w
 have H := Aside0.mk h
 clear h
 unfold impl_Crl_0.f at H
 go_enter Tryz.func65, Tryz.ntmps65
 go_wp2
 replace HS := HS.nil 9 Zd.string
 go_loopg [5, 12] k (fun kq v_5 v_12 w' => ∃ (l19 : List ByteArray) (v20 : Value) (x21 : Int), v_5 = v20 ∧ v_12 = .int .i64 x21 ∧ Aside0 (impl_Crl_0.l0 kq l19 x21 a0 = some r) ∧ Aside0 (kq ≤ k) ∧ Hp noFP w w' [.own (Zd.slice 9 Zd.string) l19 [v20]])
 case atStart => exact ⟨_, _, _, rfl, rfl, H, ⟨Nat.le_refl _⟩, HS⟩
 case round =>
  clear HS H; (try clear F)
  obtain ⟨l19, v20, x21, rfl, rfl, H, HKk18, HS⟩ := hrel
  obtain ⟨B20, d20, rfl, m20⟩ := HS.form 0 rfl
  cases gk with
  | zero => exact absurd H.out (by simp [impl_Crl_0.l0])
  | succ k18 =>
   simp only [impl_Crl_0.l0] at H
   by_cases c23 : x21 < (a0.length : Int)
   case neg =>
    replace H := zneg c23 H
    replace c23 := eq_false c23
    obtain rfl := zsome H
    go_wp2
    go_ret
    exact HS.pk
   replace H := zpos c23 H
   replace c23 := eq_true c23
   obtain ⟨c24, H⟩ := zgo H
   obtain ⟨c25, H⟩ := zgo H
   obtain ⟨ad26, B26_5, d26_5, rfl, e26_0, e26_1, e26_2, e26_3, e26_4, e26_5, e26_6, m26_5, y26_5⟩ := at_T81 gp0 x21 (of_eq_true c24) (of_eq_true c25)
   have e26_0_26 := (HS.keepc e26_0)
   have e26_1_26 := (HS.keepc e26_1)
   have e26_2_26 := (HS.keepc e26_2)
   have e26_3_26 := (HS.keepc e26_3)
   have e26_4_26 := (HS.keepc e26_4)
   have e26_5_26 := (HS.keepc e26_5)
   have e26_6_26 := (HS.keepc e26_6)
   replace H := zbind H; obtain ⟨t31, ht31, H⟩ := H
   by_cases c33 : t31.2 = true
   case neg =>
    replace H := zneg c33 H
    replace c33 := eq_false_of_ne_true c33
    obtain rfl := zsome H
    go_wp2_with (first | ((with_reducible refine gate_dst (N := 7) rfl ?_); refine ev_bx HS ?_; clear HS; (try clear F); intro g7 w7 HS F) | ((with_reducible refine gate_store (p := 7) rfl ?_); refine ev_st 1 0 HS (seg := [.string ((rd_T81 a0 x21).f0), .int .i64 ((rd_T81 a0 x21).f1), .int .i64 ((rd_T81 a0 x21).f2), .int .i64 ((rd_T81 a0 x21).f3), .int .i64 ((rd_T81 a0 x21).f4), .slice B26_5 (rd_T81 a0 x21).f5.length d26_5, .string ((rd_T81 a0 x21).f6)]) ?_; clear HS; (try clear F); intro w29 HS F) | ((with_reducible refine gate_dst (N := 19) rfl ?_); refine ev_callv rfl Tryz.func66 (by kernel_rfl) rfl #[.agg #[.string ((rd_T81 a0 x21).f0), .int .i64 ((rd_T81 a0 x21).f1), .int .i64 ((rd_T81 a0 x21).f2), .int .i64 ((rd_T81 a0 x21).f3), .int .i64 ((rd_T81 a0 x21).f4), .slice B26_5 (rd_T81 a0 x21).f5.length d26_5, .string ((rd_T81 a0 x21).f6)]] #[.agg #[.string ((rd_T81 a0 x21).f0), .int .i64 ((rd_T81 a0 x21).f1), .int .i64 ((rd_T81 a0 x21).f2), .int .i64 ((rd_T81 a0 x21).f3), .int .i64 ((rd_T81 a0 x21).f4), .slice B26_5 (rd_T81 a0 x21).f5.length d26_5, .string ((rd_T81 a0 x21).f6)]] rfl rfl (by simp only [mpn]; rfl) (by first | rfl | simp) ?_; refine (impl_CrlText.calls ht31.out (HS.ro y26_5) m26_5 (HS.keepc hgM)).mono ?_; rintro _ wt31 ⟨rfl, HQ⟩; refine ⟨_, rfl, ?_⟩; replace HS := HS.call HQ; clear HQ; (try clear F); (try simp only [hpn, hpm] at HS); have F := HS.boxes; simp only [bxn] at F; (try simp only [c33])))
    go_ret
    exact HS.pk
   replace H := zpos c33 H
   replace H := zbind H; obtain ⟨t34, ht34, H⟩ := H
   go_upto_if 28 with (first | ((with_reducible refine gate_dst (N := 7) rfl ?_); refine ev_bx HS ?_; clear HS; (try clear F); intro g7 w7 HS F) | ((with_reducible refine gate_store (p := 7) rfl ?_); refine ev_st 1 0 HS (seg := [.string ((rd_T81 a0 x21).f0), .int .i64 ((rd_T81 a0 x21).f1), .int .i64 ((rd_T81 a0 x21).f2), .int .i64 ((rd_T81 a0 x21).f3), .int .i64 ((rd_T81 a0 x21).f4), .slice B26_5 (rd_T81 a0 x21).f5.length d26_5, .string ((rd_T81 a0 x21).f6)]) ?_; clear HS; (try clear F); intro w29 HS F) | ((with_reducible refine gate_dst (N := 19) rfl ?_); refine ev_callv rfl Tryz.func66 (by kernel_rfl) rfl #[.agg #[.string ((rd_T81 a0 x21).f0), .int .i64 ((rd_T81 a0 x21).f1), .int .i64 ((rd_T81 a0 x21).f2), .int .i64 ((rd_T81 a0 x21).f3), .int .i64 ((rd_T81 a0 x21).f4), .slice B26_5 (rd_T81 a0 x21).f5.length d26_5, .string ((rd_T81 a0 x21).f6)]] #[.agg #[.string ((rd_T81 a0 x21).f0), .int .i64 ((rd_T81 a0 x21).f1), .int .i64 ((rd_T81 a0 x21).f2), .int .i64 ((rd_T81 a0 x21).f3), .int .i64 ((rd_T81 a0 x21).f4), .slice B26_5 (rd_T81 a0 x21).f5.length d26_5, .string ((rd_T81 a0 x21).f6)]] rfl rfl (by simp only [mpn]; rfl) (by first | rfl | simp) ?_; refine (impl_CrlText.calls ht31.out (HS.ro y26_5) m26_5 (HS.keepc hgM)).mono ?_; rintro _ wt31 ⟨rfl, HQ⟩; refine ⟨_, rfl, ?_⟩; replace HS := HS.call HQ; clear HQ; (try clear F); (try simp only [hpn, hpm] at HS); have F := HS.boxes; simp only [bxn] at F; (try simp only [c33])) | ((with_reducible refine gate_dst (N := 27) rfl ?_); refine gate_guard (by rfl) ?_; refine ev_cl HS (slices_Contains_string_string.calls ht34.out (HS.rd 0 rfl) m20) Tryz.func143 ?_; clear HS; (try clear F); intro wt34 HS F))
   by_cases c36 : t34 = true
   case pos =>
    replace H := zpos c36 H
    subst c36
    (try simp only [dcn, if_true, Bool.false_eq_true, if_false])
    obtain rfl := zsome H
    go_wp2
    go_ret
    exact HS.pk
   replace H := zneg c36 H
   replace c36 := eq_false_of_ne_true c36
   subst c36
   (try simp only [dcn, if_true, Bool.false_eq_true, if_false])
   obtain ⟨c39, H⟩ := zgo H
   replace H := zlets H; obtain ⟨y40, e_y40, H⟩ := H
   go_wp2_with (first | ((with_reducible refine gate_dst (N := 31) rfl ?_); refine ev_lit rfl Zd.string [] ([t31.1] : List ByteArray) ([.string t31.1] ++ []) HS (by first | (go_simp; done) | (go_simp; rfl)) rfl rfl (Nat.le_of_ble_eq_true rfl) (MadeL.cons (js1 := []) (c := [.string t31.1]) rfl (made_flat (fun _ => rfl)) MadeL.nil (by decide)) ?_; clear HS; (try clear F); intro v37 w37 HS; obtain ⟨B37, d37, rfl, m37⟩ := HS.formn 1 2 rfl rfl; (try simp only [hpn, hpm] at HS); have F := HS.boxes; simp only [bxn] at F) | ((with_reducible refine gate_dst (N := 32) rfl ?_); refine ev_append rfl Zd.string 0 2 HS rfl rfl (by decide) rfl rfl rfl Tryz.underlying57 info9 rfl (by decide) (by decide) (by have := of_eq_true c39; first | omega | (simp only [List.length_cons, List.length_nil, List.length_append, Nat.zero_add] at this ⊢; omega)) ?_; clear HS; (try clear F); intro v40 w40 HS; rw [← e_y40.out] at HS; obtain ⟨B40, d40, rfl, m40⟩ := HS.form 3 rfl; (try simp only [hpn, hpm] at HS); have F := HS.boxes; simp only [bxn] at F))
   go_roundg k18
   case measure => have := HKk18.out; omega
   case rel => exact ⟨_, _, _, rfl, rfl, H, ⟨by have := HKk18.out; omega⟩, HS.pick [3] (by decide) (by rfl)⟩
/-! ### impl_StoreOk_1: function 61 -/
def impl_StoreOk_1.f (k : Nat) (a0 : S115) : Option (ByteArray × Bool) := ((impl_NameOk.f k a0.f0).bind fun t104001 => (if t104001 = true then (some (a0.f0, ((a0.f1.size : Int) == 15))) else (some (a0.f0, false))))
def impl_StoreOk_1.T1 : Bool × List (List Nat × List Nat) := (true, [([], []), ([0], [0]), ([], []), ([2], [2]), ([3], [3]), ([4, 4], [4]), ([5], [5]), ([6, 5], [5, 6]), ([7, 5], [5, 7]), ([8, 5], [5, 8]), ([5, 9], [5, 9]), ([1, 5, 0, 1], [1]), ([10, 11, 0, 1, 2, 3, 4, 5, 6, 7, 8, 9, 10, 11], [10])])
theorem impl_StoreOk_1.tT1 : rtab .any (opsOf Tryz.f61 1) = impl_StoreOk_1.T1 := by kernel_rfl
set_option maxHeartbeats 16000000 in
theorem impl_StoreOk_1.calls {k : Nat} {a0 : S115} {mG : Int} {r1 : ByteArray} {r2 : Bool} {w : World} (h : impl_StoreOk_1.f k a0 = some (r1, r2)) (hgM : w.cell? ⟨0, 0, none⟩ = some (.int .i64 mG)) :
    Calls Tryz.prog 61 #[.agg #[.string a0.f0, .string a0.f1]] w (fun e w' => e = .returned (.tuple #[.string r1, .bool r2]) ∧ Hp noFP w w' []) := by
 have HS := Hp.start w
 have H := Aside0.mk h
 clear h
 unfold impl_StoreOk_1.f at H
 go_enter Tryz.func61, Tryz.ntmps61
 go_wp2_with (first | ((with_reducible refine gate_dst (N := 1) rfl ?_); refine ev_bx HS ?_; clear HS; (try clear F); intro g1 w1 HS F))
 replace H := zbind H; obtain ⟨t104001, ht104001, H⟩ := H
 by_cases c105001 : t104001 = true
 case neg =>
  replace H := zneg c105001 H
  replace c105001 := eq_false_of_ne_true c105001
  subst c105001
  refine dr_start [] HS #[false, false, false, false, false, false, false, false, false, false, false, false, false] (by kernel_rfl) rfl rfl impl_StoreOk_1.tT1 (fun w6 HT HS HH => ?_)
  (try clear F)
  refine drq_of [(0, some 4), (1, some 5), (2, some 6), (3, some 7)] ?_
  repeat (first | refine drp HT ?_ | refine drt HT HH ?_)
  refine drq_end ?_
  refine dr1 4 HT fun K hK => ?_
  refine go_cl HS (impl_NameOk.calls ht104001.out (HS.keepc hgM)) Tryz.func62 ?_; clear HS; (try clear F); intro wt104001 HS F
  refine nrm 8 hK ⟨_, HS⟩ (fun HH => ?_); clear hK K
  refine drq_of [(5, some 9), (6, some 10), (7, some 11), (8, some 12), (9, some 13), (10, some 14), (11, some 2), (12, some 3)] ?_
  repeat (first | (refine drq_pure HT (v := ?_) (a' := ?_) rfl rfl (by kernel_rfl) (fun _ _ _ h => h) (.inl ⟨by rfl, ?_⟩) ?_ ?_; rotate_left; (intro w'; go_simp; with_reducible rfl); rotate_left; (simp only [Act.put, ptn]; rfl)) | (refine drq_pure HT (v := undef) (a' := ?_) rfl rfl (by kernel_rfl) (fun _ _ _ h => h) (.inr ⟨by rfl, rfl⟩) ?_ ?_; rotate_left; (simp only [Act.put, ptn]; rfl)))
  refine drq_end ?_
  refine done_ (done_of HT.out (by kernel_rfl)) ?_
  (try clear F)
  have F := HS.boxes; simp only [bxn] at F
  obtain ⟨rfl, rfl⟩ := zsome2 H
  go_wp2
  exact bodyPost_ret (results_list (rs := [.tmp 2, .tmp 3]) rfl (by simp) (.tmp (.tmp .nil))) rfl ⟨rfl, HS.pick [] (by decide) (by rfl)⟩
 replace H := zpos c105001 H
 subst c105001
 refine dr_start [] HS #[false, false, false, false, false, false, false, false, false, false, false, false, false] (by kernel_rfl) rfl rfl impl_StoreOk_1.tT1 (fun w4 HT HS HH => ?_)
 (try clear F)
 refine drq_of [(0, some 4), (1, some 5), (2, some 6), (3, some 7)] ?_
 repeat (first | refine drp HT ?_ | refine drt HT HH ?_)
 refine drq_end ?_
 refine dr1 4 HT fun K hK => ?_
 refine go_cl HS (impl_NameOk.calls ht104001.out (HS.keepc hgM)) Tryz.func62 ?_; clear HS; (try clear F); intro wt104001 HS F
 refine nrm 8 hK ⟨_, HS⟩ (fun HH => ?_); clear hK K
 refine drq_of [(5, some 9), (6, some 10), (7, some 11), (8, some 12), (9, some 13), (10, some 14), (11, some 2), (12, some 3)] ?_
 repeat (first | refine drp HT ?_ | refine drt HT HH ?_)
 refine drq_end ?_
 refine done_ (done_of HT.out (by kernel_rfl)) ?_
 (try clear F)
 have F := HS.boxes; simp only [bxn] at F
 obtain ⟨rfl, rfl⟩ := zsome2 H
 go_wp2
 exact bodyPost_ret (results_list (rs := [.tmp 2, .tmp 3]) rfl (by simp) (.tmp (.tmp .nil))) rfl ⟨rfl, HS.pick [] (by decide) (by rfl)⟩
/-! ### impl_Anchor_0: function 67 -/
def impl_Anchor_0.l0 : Nat → (List ByteArray) → Int → (List S115) → Option (Bool)
  | 0, _, _, _ => none
  | k + 1, l19, x21, a0 => (if x21 < (a0.length : Int) then (if 0 ≤ x21 then (if x21 < (a0.length : Int) then ((impl_StoreOk_1.f k (rd_T115 a0 x21)).bind fun t31 => (if t31.2 = true then ((slices_Contains_string_string.f k l19 t31.1).bind fun t34 => (if t34 = true then (some false) else (if l19.length + 1 ≤ 8796093022208 then (lets (l19 ++ ([t31.1] : List ByteArray)) fun y40 => (impl_Anchor_0.l0 k y40 (wrap64 (x21 + 1)) a0)) else none))) else (some false))) else none) else none) else (some true))
def impl_Anchor_0.f (k : Nat) (a0 : (List S115)) : Option (Bool) := (impl_Anchor_0.l0 k [] 0 a0)
set_option maxHeartbeats 16000000 in
theorem impl_Anchor_0.calls {k : Nat} {a0 : (List S115)} {Ap0 : Option Addr} {np0 cp0 : Nat} {mG : Int} {r : Bool} {w : World} (h : impl_Anchor_0.f k a0 = some r) (gp0 : k115.C w Ap0 np0 a0) (lp0 : np0 ≤ cp0) (hgM : w.cell? ⟨0, 0, none⟩ = some (.int .i64 mG)) :
    Calls Tryz.prog 67 #[.slice Ap0 np0 cp0, .func (.func 61) #[] #[]] w (fun e w' => e = .returned (.bool r) ∧ Hp noFP w w' []) := by
 obtain rfl := C_len gp0
 have HS := Hp.start w
 have H := Aside0.mk h
 clear h
 unfold impl_Anchor_0.f at H
 go_enter Tryz.func67, Tryz.ntmps67
 go_wp2
 replace HS := HS.nil 9 Zd.string
 go_loopg [5, 12] k (fun kq v_5 v_12 w' => ∃ (l19 : List ByteArray) (v20 : Value) (x21 : Int), v_5 = v20 ∧ v_12 = .int .i64 x21 ∧ Aside0 (impl_Anchor_0.l0 kq l19 x21 a0 = some r) ∧ Aside0 (kq ≤ k) ∧ Hp noFP w w' [.own (Zd.slice 9 Zd.string) l19 [v20]])
 case atStart => exact ⟨_, _, _, rfl, rfl, H, ⟨Nat.le_refl _⟩, HS⟩
 case round =>
  clear HS H; (try clear F)
  obtain ⟨l19, v20, x21, rfl, rfl, H, HKk18, HS⟩ := hrel
  obtain ⟨B20, d20, rfl, m20⟩ := HS.form 0 rfl
  cases gk with
  | zero => exact absurd H.out (by simp [impl_Anchor_0.l0])
  | succ k18 =>
   simp only [impl_Anchor_0.l0] at H
   by_cases c23 : x21 < (a0.length : Int)
   case neg =>
    replace H := zneg c23 H
    replace c23 := eq_false c23
    obtain rfl := zsome H
    go_wp2
    go_ret
    exact HS.pk
   replace H := zpos c23 H
   replace c23 := eq_true c23
   obtain ⟨c24, H⟩ := zgo H
   obtain ⟨c25, H⟩ := zgo H
   obtain ⟨ad26, rfl, e26_0, e26_1⟩ := at_T115 gp0 x21 (of_eq_true c24) (of_eq_true c25)
   have e26_0_26 := (HS.keepc e26_0)
   have e26_1_26 := (HS.keepc e26_1)
   replace H := zbind H; obtain ⟨t31, ht31, H⟩ := H
   by_cases c33 : t31.2 = true
   case neg =>
    replace H := zneg c33 H
    replace c33 := eq_false_of_ne_true c33
    obtain rfl := zsome H
    go_wp2_with (first | ((with_reducible refine gate_dst (N := 7) rfl ?_); refine ev_bx HS ?_; clear HS; (try clear F); intro g7 w7 HS F) | ((with_reducible refine gate_store (p := 7) rfl ?_); refine ev_st 1 0 HS (seg := [.string ((rd_T115 a0 x21).f0), .string ((rd_T115 a0 x21).f1)]) ?_; clear HS; (try clear F); intro w29 HS F) | ((with_reducible refine gate_dst (N := 19) rfl ?_); refine ev_callv rfl Tryz.func61 (by kernel_rfl) rfl #[.agg #[.string ((rd_T115 a0 x21).f0), .string ((rd_T115 a0 x21).f1)]] #[.agg #[.string ((rd_T115 a0 x21).f0), .string ((rd_T115 a0 x21).f1)]] rfl rfl (by simp only [mpn]; rfl) (by first | rfl | simp) ?_; refine (impl_StoreOk_1.calls ht31.out (HS.keepc hgM)).mono ?_; rintro _ wt31 ⟨rfl, HQ⟩; refine ⟨_, rfl, ?_⟩; replace HS := HS.call HQ; clear HQ; (try clear F); (try simp only [hpn, hpm] at HS); have F := HS.boxes; simp only [bxn] at F; (try simp only [c33])))
    go_ret
    exact HS.pk
   replace H := zpos c33 H
   replace H := zbind H; obtain ⟨t34, ht34, H⟩ := H
   go_upto_if 28 with (first | ((with_reducible refine gate_dst (N := 7) rfl ?_); refine ev_bx HS ?_; clear HS; (try clear F); intro g7 w7 HS F) | ((with_reducible refine gate_store (p := 7) rfl ?_); refine ev_st 1 0 HS (seg := [.string ((rd_T115 a0 x21).f0), .string ((rd_T115 a0 x21).f1)]) ?_; clear HS; (try clear F); intro w29 HS F) | ((with_reducible refine gate_dst (N := 19) rfl ?_); refine ev_callv rfl Tryz.func61 (by kernel_rfl) rfl #[.agg #[.string ((rd_T115 a0 x21).f0), .string ((rd_T115 a0 x21).f1)]] #[.agg #[.string ((rd_T115 a0 x21).f0), .string ((rd_T115 a0 x21).f1)]] rfl rfl (by simp only [mpn]; rfl) (by first | rfl | simp) ?_; refine (impl_StoreOk_1.calls ht31.out (HS.keepc hgM)).mono ?_; rintro _ wt31 ⟨rfl, HQ⟩; refine ⟨_, rfl, ?_⟩; replace HS := HS.call HQ; clear HQ; (try clear F); (try simp only [hpn, hpm] at HS); have F := HS.boxes; simp only [bxn] at F; (try simp only [c33])) | ((with_reducible refine gate_dst (N := 27) rfl ?_); refine gate_guard (by rfl) ?_; refine ev_cl HS (slices_Contains_string_string.calls ht34.out (HS.rd 0 rfl) m20) Tryz.func143 ?_; clear HS; (try clear F); intro wt34 HS F))
   by_cases c36 : t34 = true
   case pos =>
    replace H := zpos c36 H
    subst c36
    (try simp only [dcn, if_true, Bool.false_eq_true, if_false])
    obtain rfl := zsome H
    go_wp2
    go_ret
    exact HS.pk
   replace H := zneg c36 H
   replace c36 := eq_false_of_ne_true c36
   subst c36
   (try simp only [dcn, if_true, Bool.false_eq_true, if_false])
   obtain ⟨c39, H⟩ := zgo H
   replace H := zlets H; obtain ⟨y40, e_y40, H⟩ := H
   go_wp2_with (first | ((with_reducible refine gate_dst (N := 31) rfl ?_); refine ev_lit rfl Zd.string [] ([t31.1] : List ByteArray) ([.string t31.1] ++ []) HS (by first | (go_simp; done) | (go_simp; rfl)) rfl rfl (Nat.le_of_ble_eq_true rfl) (MadeL.cons (js1 := []) (c := [.string t31.1]) rfl (made_flat (fun _ => rfl)) MadeL.nil (by decide)) ?_; clear HS; (try clear F); intro v37 w37 HS; obtain ⟨B37, d37, rfl, m37⟩ := HS.formn 1 2 rfl rfl; (try simp only [hpn, hpm] at HS); have F := HS.boxes; simp only [bxn] at F) | ((with_reducible refine gate_dst (N := 32) rfl ?_); refine ev_append rfl Zd.string 0 2 HS rfl rfl (by decide) rfl rfl rfl Tryz.underlying57 info9 rfl (by decide) (by decide) (by have := of_eq_true c39; first | omega | (simp only [List.length_cons, List.length_nil, List.length_append, Nat.zero_add] at this ⊢; omega)) ?_; clear HS; (try clear F); intro v40 w40 HS; rw [← e_y40.out] at HS; obtain ⟨B40, d40, rfl, m40⟩ := HS.form 3 rfl; (try simp only [hpn, hpm] at HS); have F := HS.boxes; simp only [bxn] at F))
   go_roundg k18
   case measure => have := HKk18.out; omega
   case rel => exact ⟨_, _, _, rfl, rfl, H, ⟨by have := HKk18.out; omega⟩, HS.pick [3] (by decide) (by rfl)⟩
/-! ### impl_StoreOk: function 14 -/
def impl_StoreOk.f (k : Nat) (a0 : S33) : Option (Bool) := (if (a0.f0.length : Int) ≤ 12 then (if (a0.f1.length : Int) ≤ 8 then (if (a0.f2.length : Int) ≤ 3 then ((impl_Cert_63_0.f k a0.f0).bind fun t6 => (if t6 = true then ((impl_Crl_0.f k a0.f1).bind fun t9 => (if t9 = true then ((impl_Anchor_0.f k a0.f2).bind fun t12 => (some t12)) else (some false))) else (some false))) else (some false)) else (some false)) else (some false))
set_option maxHeartbeats 16000000 in
theorem impl_StoreOk.calls {k : Nat} {a0 : S33} {Ap0 : Option Addr} {np0 cp0 : Nat} {Ap1 : Option Addr} {np1 cp1 : Nat} {Ap2 : Option Addr} {np2 cp2 : Nat} {mG : Int} {r : Bool} {w : World} (h : impl_StoreOk.f k a0 = some r) (gp0 : k91.C w Ap0 np0 a0.f0) (lp0 : np0 ≤ cp0) (gp1 : k81.C w Ap1 np1 a0.f1) (lp1 : np1 ≤ cp1) (gp2 : k115.C w Ap2 np2 a0.f2) (lp2 : np2 ≤ cp2) (hgM : w.cell? ⟨0, 0, none⟩ = some (.int .i64 mG)) :
    Calls Tryz.prog 14 #[.agg #[.slice Ap0 np0 cp0, .slice Ap1 np1 cp1, .slice Ap2 np2 cp2]] w (fun e w' => e = .returned (.bool r) ∧ Hp noFP w w' []) := by
 obtain rfl := C_len gp0
 obtain rfl := C_len gp1
 obtain rfl := C_len gp2
 have HS := Hp.start w
 have H := Aside0.mk h
 clear h
 unfold impl_StoreOk.f at H
 go_enter Tryz.func14, Tryz.ntmps14
 by_cases c3 : (a0.f0.length : Int) ≤ 12
 case neg =>
  replace H := zneg c3 H
  replace c3 := eq_false c3
  obtain rfl := zsome H
  go_wp2_with (first | ((with_reducible refine gate_dst (N := 1) rfl ?_); refine ev_bx HS ?_; clear HS; (try clear F); intro g1 w1 HS F))
  go_ret
  exact HS.pk
 replace H := zpos c3 H
 replace c3 := eq_true c3
 by_cases c4 : (a0.f1.length : Int) ≤ 8
 case neg =>
  replace H := zneg c4 H
  replace c4 := eq_false c4
  obtain rfl := zsome H
  go_wp2_with (first | ((with_reducible refine gate_dst (N := 1) rfl ?_); refine ev_bx HS ?_; clear HS; (try clear F); intro g1 w1 HS F))
  go_ret
  exact HS.pk
 replace H := zpos c4 H
 replace c4 := eq_true c4
 by_cases c5 : (a0.f2.length : Int) ≤ 3
 case neg =>
  replace H := zneg c5 H
  replace c5 := eq_false c5
  obtain rfl := zsome H
  go_wp2_with (first | ((with_reducible refine gate_dst (N := 1) rfl ?_); refine ev_bx HS ?_; clear HS; (try clear F); intro g1 w1 HS F))
  go_ret
  exact HS.pk
 replace H := zpos c5 H
 replace c5 := eq_true c5
 replace H := zbind H; obtain ⟨t6, ht6, H⟩ := H
 by_cases c8 : t6 = true
 case neg =>
  replace H := zneg c8 H
  replace c8 := eq_false_of_ne_true c8
  subst c8
  obtain rfl := zsome H
  go_wp2_with (first | ((with_reducible refine gate_dst (N := 1) rfl ?_); refine ev_bx HS ?_; clear HS; (try clear F); intro g1 w1 HS F) | ((with_reducible refine gate_dst (N := 23) rfl ?_); refine gate_guard (by rfl) ?_; refine ev_cl HS (impl_Cert_63_0.calls ht6.out (HS.ro gp0) lp0 (HS.keepc hgM)) Tryz.func63 ?_; clear HS; (try clear F); intro wt6 HS F))
  go_ret
  exact HS.pk
 replace H := zpos c8 H
 subst c8
 replace H := zbind H; obtain ⟨t9, ht9, H⟩ := H
 by_cases c11 : t9 = true
 case neg =>
  replace H := zneg c11 H
  replace c11 := eq_false_of_ne_true c11
  subst c11
  obtain rfl := zsome H
  go_wp2_with (first | ((with_reducible refine gate_dst (N := 1) rfl ?_); refine ev_bx HS ?_; clear HS; (try clear F); intro g1 w1 HS F) | ((with_reducible refine gate_dst (N := 23) rfl ?_); refine gate_guard (by rfl) ?_; refine ev_cl HS (impl_Cert_63_0.calls ht6.out (HS.ro gp0) lp0 (HS.keepc hgM)) Tryz.func63 ?_; clear HS; (try clear F); intro wt6 HS F) | ((with_reducible refine gate_dst (N := 28) rfl ?_); refine gate_guard (by rfl) ?_; refine ev_cl HS (impl_Crl_0.calls ht9.out (HS.ro gp1) lp1 (HS.keepc hgM)) Tryz.func65 ?_; clear HS; (try clear F); intro wt9 HS F))
  go_ret
  exact HS.pk
 replace H := zpos c11 H
 subst c11
 replace H := zbind H; obtain ⟨t12, ht12, H⟩ := H
 obtain rfl := zsome H
 go_wp2_with (first | ((with_reducible refine gate_dst (N := 1) rfl ?_); refine ev_bx HS ?_; clear HS; (try clear F); intro g1 w1 HS F) | ((with_reducible refine gate_dst (N := 23) rfl ?_); refine gate_guard (by rfl) ?_; refine ev_cl HS (impl_Cert_63_0.calls ht6.out (HS.ro gp0) lp0 (HS.keepc hgM)) Tryz.func63 ?_; clear HS; (try clear F); intro wt6 HS F) | ((with_reducible refine gate_dst (N := 28) rfl ?_); refine gate_guard (by rfl) ?_; refine ev_cl HS (impl_Crl_0.calls ht9.out (HS.ro gp1) lp1 (HS.keepc hgM)) Tryz.func65 ?_; clear HS; (try clear F); intro wt9 HS F) | ((with_reducible refine gate_dst (N := 34) rfl ?_); refine gate_guard (by rfl) ?_; refine ev_cl HS (impl_Anchor_0.calls ht12.out (HS.ro gp2) lp2 (HS.keepc hgM)) Tryz.func67 ?_; clear HS; (try clear F); intro wt12 HS F))
 go_ret
 exact HS.pk
/-! ### laws_eqIntS: function 101 -/
def laws_eqIntS.l0 : Nat → Int → (List Int) → (List Int) → Option (Bool)
  | 0, _, _, _ => none
  | k + 1, x5, a0, a1 => (if x5 < (a0.length : Int) then (if 0 ≤ x5 then (if x5 < (a0.length : Int) then (if x5 < (a1.length : Int) then (if (rd a0 x5) = (rd a1 x5) then (laws_eqIntS.l0 k (wrap64 (x5 + 1)) a0 a1) else (some false)) else none) else none) else none) else (some true))
def laws_eqIntS.f (k : Nat) (a0 : (List Int)) (a1 : (List Int)) : Option (Bool) := (if (a0.length : Int) = (a1.length : Int) then (laws_eqIntS.l0 k 0 a0 a1) else (some false))
def laws_eqIntS.T6 : Bool × List (List Nat × List Nat) := (true, [([], []), ([], []), ([0, 1], [0, 1]), ([2], [2]), ([], []), ([], []), ([4, 5], [4, 5]), ([6], [6]), ([3, 7], [3, 7])])
theorem laws_eqIntS.tT6 : rtab .any (opsOf Tryz.f101 6) = laws_eqIntS.T6 := by kernel_rfl
set_option maxHeartbeats 16000000 in
theorem laws_eqIntS.calls {k : Nat} {a0 : (List Int)} {a1 : (List Int)} {Ap0 : Option Addr} {np0 cp0 : Nat} {Ap1 : Option Addr} {np1 cp1 : Nat} {r : Bool} {w : World} (h : laws_eqIntS.f k a0 a1 = some r) (gp0 : (Kd.int .i64).C w Ap0 np0 a0) (lp0 : np0 ≤ cp0) (gp1 : (Kd.int .i64).C w Ap1 np1 a1) (lp1 : np1 ≤ cp1) :
    Calls Tryz.prog 101 #[.slice Ap0 np0 cp0, .slice Ap1 np1 cp1] w (fun e w' => e = .returned (.bool r) ∧ Hp noFP w w' []) := by
 obtain rfl := C_len gp0
 obtain rfl := C_len gp1
 have HS := Hp.start w
 have H := Aside0.mk h
 clear h
 unfold laws_eqIntS.f at H
 go_enter Tryz.func101, Tryz.ntmps101
 by_cases c1 : (a0.length : Int) = (a1.length : Int)
 case neg =>
  replace H := zneg c1 H
  have c1a := beq_eq_false_iff_ne.mpr c1
  have c1b := bne_iff_ne.mpr c1
  clear c1
  obtain rfl := zsome H
  go_wp2
  go_ret
  exact HS.pk
 replace H := zpos c1 H
 have c1a := beq_iff_eq.mpr c1
 have c1b := bne_eq_false_iff_eq.mpr c1
 clear c1
 go_wp2
 go_loopg [5] k (fun kq v_5 w' => ∃ (x5 : Int), v_5 = .int .i64 x5 ∧ Aside0 (laws_eqIntS.l0 kq x5 a0 a1 = some r) ∧ Aside0 (kq ≤ k) ∧ Hp noFP w w' [])
 case atStart => exact ⟨_, rfl, H, ⟨Nat.le_refl _⟩, HS⟩
 case round =>
  clear HS H; (try clear F)
  obtain ⟨x5, rfl, H, HKk4, HS⟩ := hrel
  cases gk with
  | zero => exact absurd H.out (by simp [laws_eqIntS.l0])
  | succ k4 =>
   simp only [laws_eqIntS.l0] at H
   by_cases c7 : x5 < (a0.length : Int)
   case neg =>
    replace H := zneg c7 H
    replace c7 := eq_false c7
    obtain rfl := zsome H
    go_wp2
    go_ret
    exact HS.pk
   replace H := zpos c7 H
   replace c7 := eq_true c7
   (try go_wp2)
   obtain ⟨c102001, H⟩ := zgo H
   obtain ⟨c102002, H⟩ := zgo H
   obtain ⟨ad102999, rfl, e102999_0⟩ := Kd.at_int gp0 x5 (of_eq_true c102001) (of_eq_true c102002)
   obtain ⟨c106001, H⟩ := zgo H
   obtain ⟨ad106999, rfl, e106999_0⟩ := Kd.at_int gp1 x5 (of_eq_true c102001) (of_eq_true c106001)
   refine dr_start [] HS #[false, false, false, false, false, false, false, false, false] (by kernel_rfl) rfl rfl laws_eqIntS.tT6 (fun w9 HT HS HH => ?_)
   (try clear F)
   refine drq_of [(0, some 17), (1, some 18), (2, some 19)] ?_
   repeat (refine drp HT ?_)
   refine drq_end ?_
   refine dr_take 3 (some 20) HT HH (v := ?_) (a' := ?_) rfl rfl (by kernel_rfl) (fun _ _ _ h => h) (.inl ⟨by rfl, ?_⟩) ?_ ?_
   rotate_left
   · rintro w' ⟨rs', HS'⟩; have e102999_0 := (HS'.keepc e102999_0); go_simp; with_reducible rfl
   rotate_left
   · simp only [Act.put, ptn]; rfl
   refine drq_of [(4, some 21), (5, some 22), (6, some 23)] ?_
   repeat (refine drp HT ?_)
   refine drq_end ?_
   refine dr_take 7 (some 24) HT HH (v := ?_) (a' := ?_) rfl rfl (by kernel_rfl) (fun _ _ _ h => h) (.inl ⟨by rfl, ?_⟩) ?_ ?_
   rotate_left
   · rintro w' ⟨rs', HS'⟩; have e106999_0 := (HS'.keepc e106999_0); go_simp; with_reducible rfl
   rotate_left
   · simp only [Act.put, ptn]; rfl
   refine drq_of [(8, some 25)] ?_
   repeat (refine drp HT ?_)
   refine drq_end ?_
   refine done_ (done_of HT.out (by kernel_rfl)) ?_
   by_cases c11 : (rd a0 x5) = (rd a1 x5)
   case neg =>
    replace H := zneg c11 H
    have c11a := beq_eq_false_iff_ne.mpr c11
    have c11b := bne_iff_ne.mpr c11
    clear c11
    (try simp only [c11a, c11b, dcn])
    obtain rfl := zsome H
    go_wp2
    go_ret
    exact HS.pk
   replace H := zpos c11 H
   have c11a := beq_iff_eq.mpr c11
   have c11b := bne_eq_false_iff_eq.mpr c11
   clear c11
   (try simp only [c11a, c11b, dcn])
   go_wp2
   go_roundg k4
   case measure => have := HKk4.out; omega
   case rel => exact ⟨_, rfl, H, ⟨by have := HKk4.out; omega⟩, HS.pick [] (by decide) (by rfl)⟩
/-! ### laws_eqStringS: function 103 -/
def laws_eqStringS.l0 : Nat → Int → (List ByteArray) → (List ByteArray) → Option (Bool)
  | 0, _, _, _ => none
  | k + 1, x5, a0, a1 => (if x5 < (a0.length : Int) then (if 0 ≤ x5 then (if x5 < (a0.length : Int) then (if x5 < (a1.length : Int) then (if (rdOf ByteArray.empty a0 x5).toList = (rdOf ByteArray.empty a1 x5).toList then (laws_eqStringS.l0 k (wrap64 (x5 + 1)) a0 a1) else (some false)) else none) else none) else none) else (some true))
def laws_eqStringS.f (k : Nat) (a0 : (List ByteArray)) (a1 : (List ByteArray)) : Option (Bool) := (if (a0.length : Int) = (a1.length : Int) then (laws_eqStringS.l0 k 0 a0 a1) else (some false))
def laws_eqStringS.T6 : Bool × List (List Nat × List Nat) := (true, [([], []), ([], []), ([0, 1], [0, 1]), ([2], [2]), ([], []), ([], []), ([4, 5], [4, 5]), ([6], [6]), ([3, 7], [3, 7])])
theorem laws_eqStringS.tT6 : rtab .any (opsOf Tryz.f103 6) = laws_eqStringS.T6 := by kernel_rfl
set_option maxHeartbeats 16000000 in
theorem laws_eqStringS.calls {k : Nat} {a0 : (List ByteArray)} {a1 : (List ByteArray)} {Ap0 : Option Addr} {np0 cp0 : Nat} {Ap1 : Option Addr} {np1 cp1 : Nat} {r : Bool} {w : World} (h : laws_eqStringS.f k a0 a1 = some r) (gp0 : Kd.string.C w Ap0 np0 a0) (lp0 : np0 ≤ cp0) (gp1 : Kd.string.C w Ap1 np1 a1) (lp1 : np1 ≤ cp1) :
    Calls Tryz.prog 103 #[.slice Ap0 np0 cp0, .slice Ap1 np1 cp1] w (fun e w' => e = .returned (.bool r) ∧ Hp noFP w w' []) := by
 obtain rfl := C_len gp0
 obtain rfl := C_len gp1
 have HS := Hp.start w
 have H := Aside0.mk h
 clear h
 unfold laws_eqStringS.f at H
 go_enter Tryz.func103, Tryz.ntmps103
 by_cases c1 : (a0.length : Int) = (a1.length : Int)
 case neg =>
  replace H := zneg c1 H
  have c1a := beq_eq_false_iff_ne.mpr c1
  have c1b := bne_iff_ne.mpr c1
  clear c1
  obtain rfl := zsome H
  go_wp2
  go_ret
  exact HS.pk
 replace H := zpos c1 H
 have c1a := beq_iff_eq.mpr c1
 have c1b := bne_eq_false_iff_eq.mpr c1
 clear c1
 go_wp2
 go_loopg [5] k (fun kq v_5 w' => ∃ (x5 : Int), v_5 = .int .i64 x5 ∧ Aside0 (laws_eqStringS.l0 kq x5 a0 a1 = some r) ∧ Aside0 (kq ≤ k) ∧ Hp noFP w w' [])
 case atStart => exact ⟨_, rfl, H, ⟨Nat.le_refl _⟩, HS⟩
 case round =>
  clear HS H; (try clear F)
  obtain ⟨x5, rfl, H, HKk4, HS⟩ := hrel
  cases gk with
  | zero => exact absurd H.out (by simp [laws_eqStringS.l0])
  | succ k4 =>
   simp only [laws_eqStringS.l0] at H
   by_cases c7 : x5 < (a0.length : Int)
   case neg =>
    replace H := zneg c7 H
    replace c7 := eq_false c7
    obtain rfl := zsome H
    go_wp2
    go_ret
    exact HS.pk
   replace H := zpos c7 H
   replace c7 := eq_true c7
   (try go_wp2)
   obtain ⟨c102001, H⟩ := zgo H
   obtain ⟨c102002, H⟩ := zgo H
   obtain ⟨ad102999, rfl, e102999_0⟩ := Kd.at_string gp0 x5 (of_eq_true c102001) (of_eq_true c102002)
   obtain ⟨c106001, H⟩ := zgo H
   obtain ⟨ad106999, rfl, e106999_0⟩ := Kd.at_string gp1 x5 (of_eq_true c102001) (of_eq_true c106001)
   refine dr_start [] HS #[false, false, false, false, false, false, false, false, false] (by kernel_rfl) rfl rfl laws_eqStringS.tT6 (fun w9 HT HS HH => ?_)
   (try clear F)
   refine drq_of [(0, some 17), (1, some 18), (2, some 19)] ?_
   repeat (refine drp HT ?_)
   refine drq_end ?_
   refine dr_take 3 (some 20) HT HH (v := ?_) (a' := ?_) rfl rfl (by kernel_rfl) (fun _ _ _ h => h) (.inl ⟨by rfl, ?_⟩) ?_ ?_
   rotate_left
   · rintro w' ⟨rs', HS'⟩; have e102999_0 := (HS'.keepc e102999_0); go_simp; with_reducible rfl
   rotate_left
   · simp only [Act.put, ptn]; rfl
   refine drq_of [(4, some 21), (5, some 22), (6, some 23)] ?_
   repeat (refine drp HT ?_)
   refine drq_end ?_
   refine dr_take 7 (some 24) HT HH (v := ?_) (a' := ?_) rfl rfl (by kernel_rfl) (fun _ _ _ h => h) (.inl ⟨by rfl, ?_⟩) ?_ ?_
   rotate_left
   · rintro w' ⟨rs', HS'⟩; have e106999_0 := (HS'.keepc e106999_0); go_simp; with_reducible rfl
   rotate_left
   · simp only [Act.put, ptn]; rfl
   refine drq_of [(8, some 25)] ?_
   repeat (refine drp HT ?_)
   refine drq_end ?_
   refine done_ (done_of HT.out (by kernel_rfl)) ?_
   by_cases c11 : (rdOf ByteArray.empty a0 x5).toList = (rdOf ByteArray.empty a1 x5).toList
   case neg =>
    replace H := zneg c11 H
    have c11a := beq_eq_false_iff_ne.mpr c11
    have c11b := bne_iff_ne.mpr c11
    clear c11
    (try simp only [c11a, c11b, dcn])
    obtain rfl := zsome H
    go_wp2
    go_ret
    exact HS.pk
   replace H := zpos c11 H
   have c11a := beq_iff_eq.mpr c11
   have c11b := bne_eq_false_iff_eq.mpr c11
   clear c11
   (try simp only [c11a, c11b, dcn])
   go_wp2
   go_roundg k4
   case measure => have := HKk4.out; omega
   case rel => exact ⟨_, rfl, H, ⟨by have := HKk4.out; omega⟩, HS.pick [] (by decide) (by rfl)⟩
/-! ### laws_eqCert: function 38 -/
def laws_eqCert.f (k : Nat) (a0 : S91) (a1 : S91) : Option (Bool) := (if a0.f0 = a1.f0 then (if a0.f1.toList = a1.f1.toList then (if a0.f2.toList = a1.f2.toList then (if a0.f3 = a1.f3 then (if a0.f4 = a1.f4 then (if a0.f5.toList = a1.f5.toList then (if a0.f6 = a1.f6 then (if a0.f7 = a1.f7 then (if a0.f8 = a1.f8 then ((laws_eqIntS.f k a0.f9 a1.f9).bind fun t14 => (if t14 = true then ((laws_eqStringS.f k a0.f10 a1.f10).bind fun t17 => (if t17 = true then ((laws_eqStringS.f k a0.f11 a1.f11).bind fun t20 => (if t20 = true then (if a0.f12.toList = a1.f12.toList then (some true) else (some false)) else (some false))) else (some false))) else (some false))) else (some false)) else (some false)) else (some false)) else (some false)) else (some false)) else (some false)) else (some false)) else (some false)) else (some false))
set_option maxHeartbeats 16000000 in
theorem laws_eqCert.calls {k : Nat} {a0 : S91} {a1 : S91} {Ap0 : Option Addr} {np0 cp0 : Nat} {Ap1 : Option Addr} {np1 cp1 : Nat} {Ap2 : Option Addr} {np2 cp2 : Nat} {Ap3 : Option Addr} {np3 cp3 : Nat} {Ap4 : Option Addr} {np4 cp4 : Nat} {Ap5 : Option Addr} {np5 cp5 : Nat} {r : Bool} {w : World} (h : laws_eqCert.f k a0 a1 = some r) (gp0 : (Kd.int .i64).C w Ap0 np0 a0.f9) (lp0 : np0 ≤ cp0) (gp1 : Kd.string.C w Ap1 np1 a0.f10) (lp1 : np1 ≤ cp1) (gp2 : Kd.string.C w Ap2 np2 a0.f11) (lp2 : np2 ≤ cp2) (gp3 : (Kd.int .i64).C w Ap3 np3 a1.f9) (lp3 : np3 ≤ cp3) (gp4 : Kd.string.C w Ap4 np4 a1.f10) (lp4 : np4 ≤ cp4) (gp5 : Kd.string.C w Ap5 np5 a1.f11) (lp5 : np5 ≤ cp5) :
    Calls Tryz.prog 38 #[.agg #[.int .i64 a0.f0, .string a0.f1, .string a0.f2, .int .i64 a0.f3, .int .i64 a0.f4, .string a0.f5, .bool a0.f6, .int .i64 a0.f7, .int .i64 a0.f8, .slice Ap0 np0 cp0, .slice Ap1 np1 cp1, .slice Ap2 np2 cp2, .string a0.f12], .agg #[.int .i64 a1.f0, .string a1.f1, .string a1.f2, .int .i64 a1.f3, .int .i64 a1.f4, .string a1.f5, .bool a1.f6, .int .i64 a1.f7, .int .i64 a1.f8, .slice Ap3 np3 cp3, .slice Ap4 np4 cp4, .slice Ap5 np5 cp5, .string a1.f12]] w (fun e w' => e = .returned (.bool r) ∧ Hp noFP w w' []) := by
 obtain rfl := C_len gp0
 obtain rfl := C_len gp1
 obtain rfl := C_len gp2
 obtain rfl := C_len gp3
 obtain rfl := C_len gp4
 obtain rfl := C_len gp5
 have HS := Hp.start w
 have H := Aside0.mk h
 clear h
 unfold laws_eqCert.f at H
 go_enter Tryz.func38, Tryz.ntmps38
 go_upto_if 9 with (first | ((with_reducible refine gate_dst (N := 2) rfl ?_); refine ev_bx HS ?_; clear HS; (try clear F); intro g2 w2 HS F) | ((with_reducible refine gate_dst (N := 3) rfl ?_); refine ev_bx HS ?_; clear HS; (try clear F); intro g3 w3 HS F))
 by_cases c5 : a0.f0 = a1.f0
 case neg =>
  replace H := zneg c5 H
  have c5a := beq_eq_false_iff_ne.mpr c5
  have c5b := bne_iff_ne.mpr c5
  clear c5
  (try simp only [c5a, c5b, dcn])
  obtain rfl := zsome H
  go_wp2
  go_ret
  exact HS.pk
 replace H := zpos c5 H
 have c5a := beq_iff_eq.mpr c5
 have c5b := bne_eq_false_iff_eq.mpr c5
 clear c5
 (try simp only [c5a, c5b, dcn])
 by_cases c6 : a0.f1.toList = a1.f1.toList
 case neg =>
  replace H := zneg c6 H
  have c6a := beq_eq_false_iff_ne.mpr c6
  have c6b := bne_iff_ne.mpr c6
  clear c6
  obtain rfl := zsome H
  go_wp2
  go_ret
  exact HS.pk
 replace H := zpos c6 H
 have c6a := beq_iff_eq.mpr c6
 have c6b := bne_eq_false_iff_eq.mpr c6
 clear c6
 by_cases c7 : a0.f2.toList = a1.f2.toList
 case neg =>
  replace H := zneg c7 H
  have c7a := beq_eq_false_iff_ne.mpr c7
  have c7b := bne_iff_ne.mpr c7
  clear c7
  obtain rfl := zsome H
  go_wp2
  go_ret
  exact HS.pk
 replace H := zpos c7 H
 have c7a := beq_iff_eq.mpr c7
 have c7b := bne_eq_false_iff_eq.mpr c7
 clear c7
 by_cases c8 : a0.f3 = a1.f3
 case neg =>
  replace H := zneg c8 H
  have c8a := beq_eq_false_iff_ne.mpr c8
  have c8b := bne_iff_ne.mpr c8
  clear c8
  obtain rfl := zsome H
  go_wp2
  go_ret
  exact HS.pk
 replace H := zpos c8 H
 have c8a := beq_iff_eq.mpr c8
 have c8b := bne_eq_false_iff_eq.mpr c8
 clear c8
 by_cases c9 : a0.f4 = a1.f4
 case neg =>
  replace H := zneg c9 H
  have c9a := beq_eq_false_iff_ne.mpr c9
  have c9b := bne_iff_ne.mpr c9
  clear c9
  obtain rfl := zsome H
  go_wp2
  go_ret
  exact HS.pk
 replace H := zpos c9 H
 have c9a := beq_iff_eq.mpr c9
 have c9b := bne_eq_false_iff_eq.mpr c9
 clear c9
 by_cases c10 : a0.f5.toList = a1.f5.toList
 case neg =>
  replace H := zneg c10 H
  have c10a := beq_eq_false_iff_ne.mpr c10
  have c10b := bne_iff_ne.mpr c10
  clear c10
  obtain rfl := zsome H
  go_wp2
  go_ret
  exact HS.pk
 replace H := zpos c10 H
 have c10a := beq_iff_eq.mpr c10
 have c10b := bne_eq_false_iff_eq.mpr c10
 clear c10
 by_cases c11 : a0.f6 = a1.f6
 case neg =>
  replace H := zneg c11 H
  have c11a := beq_eq_false_iff_ne.mpr c11
  have c11b := bne_iff_ne.mpr c11
  clear c11
  obtain rfl := zsome H
  go_wp2
  go_ret
  exact HS.pk
 replace H := zpos c11 H
 have c11a := beq_iff_eq.mpr c11
 have c11b := bne_eq_false_iff_eq.mpr c11
 clear c11
 by_cases c12 : a0.f7 = a1.f7
 case neg =>
  replace H := zneg c12 H
  have c12a := beq_eq_false_iff_ne.mpr c12
  have c12b := bne_iff_ne.mpr c12
  clear c12
  obtain rfl := zsome H
  go_wp2
  go_ret
  exact HS.pk
 replace H := zpos c12 H
 have c12a := beq_iff_eq.mpr c12
 have c12b := bne_eq_false_iff_eq.mpr c12
 clear c12
 by_cases c13 : a0.f8 = a1.f8
 case neg =>
  replace H := zneg c13 H
  have c13a := beq_eq_false_iff_ne.mpr c13
  have c13b := bne_iff_ne.mpr c13
  clear c13
  obtain rfl := zsome H
  go_wp2
  go_ret
  exact HS.pk
 replace H := zpos c13 H
 have c13a := beq_iff_eq.mpr c13
 have c13b := bne_eq_false_iff_eq.mpr c13
 clear c13
 replace H := zbind H; obtain ⟨t14, ht14, H⟩ := H
 go_upto_if 55 with (first | ((with_reducible refine gate_dst (N := 54) rfl ?_); refine ev_cl HS (laws_eqIntS.calls ht14.out (HS.ro gp0) lp0 (HS.ro gp3) lp3) Tryz.func101 ?_; clear HS; (try clear F); intro wt14 HS F))
 by_cases c16 : t14 = true
 case neg =>
  replace H := zneg c16 H
  replace c16 := eq_false_of_ne_true c16
  subst c16
  (try simp only [dcn, if_true, Bool.false_eq_true, if_false])
  obtain rfl := zsome H
  go_wp2
  go_ret
  exact HS.pk
 replace H := zpos c16 H
 subst c16
 (try simp only [dcn, if_true, Bool.false_eq_true, if_false])
 replace H := zbind H; obtain ⟨t17, ht17, H⟩ := H
 go_upto_if 61 with (first | ((with_reducible refine gate_dst (N := 60) rfl ?_); refine ev_cl HS (laws_eqStringS.calls ht17.out (HS.ro gp1) lp1 (HS.ro gp4) lp4) Tryz.func103 ?_; clear HS; (try clear F); intro wt17 HS F))
 by_cases c19 : t17 = true
 case neg =>
  replace H := zneg c19 H
  replace c19 := eq_false_of_ne_true c19
  subst c19
  (try simp only [dcn, if_true, Bool.false_eq_true, if_false])
  obtain rfl := zsome H
  go_wp2
  go_ret
  exact HS.pk
 replace H := zpos c19 H
 subst c19
 (try simp only [dcn, if_true, Bool.false_eq_true, if_false])
 replace H := zbind H; obtain ⟨t20, ht20, H⟩ := H
 go_upto_if 67 with (first | ((with_reducible refine gate_dst (N := 66) rfl ?_); refine ev_cl HS (laws_eqStringS.calls ht20.out (HS.ro gp2) lp2 (HS.ro gp5) lp5) Tryz.func103 ?_; clear HS; (try clear F); intro wt20 HS F))
 by_cases c22 : t20 = true
 case neg =>
  replace H := zneg c22 H
  replace c22 := eq_false_of_ne_true c22
  subst c22
  (try simp only [dcn, if_true, Bool.false_eq_true, if_false])
  obtain rfl := zsome H
  go_wp2
  go_ret
  exact HS.pk
 replace H := zpos c22 H
 subst c22
 (try simp only [dcn, if_true, Bool.false_eq_true, if_false])
 by_cases c23 : a0.f12.toList = a1.f12.toList
 case neg =>
  replace H := zneg c23 H
  have c23a := beq_eq_false_iff_ne.mpr c23
  have c23b := bne_iff_ne.mpr c23
  clear c23
  obtain rfl := zsome H
  go_wp2
  go_ret
  exact HS.pk
 replace H := zpos c23 H
 have c23a := beq_iff_eq.mpr c23
 have c23b := bne_eq_false_iff_eq.mpr c23
 clear c23
 obtain rfl := zsome H
 go_wp2
 go_ret
 exact HS.pk
end Go.Proofs.YtacocpknielofaaGreatDoor.F

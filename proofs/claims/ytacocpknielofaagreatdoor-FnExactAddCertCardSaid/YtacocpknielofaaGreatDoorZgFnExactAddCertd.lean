/- Functions of the program and of the law, and that their calls do what is written here. -/
import Derived.Test.YtacocpknielofaaGreatDoorZgFnExactAddCerta
import Derived.Test.YtacocpknielofaaGreatDoorZgFnExactAddCertc
import Derived.Test.YtacocpknielofaaGreatDoorZgFnExactStoreOkj
namespace Go.Proofs.YtacocpknielofaaGreatDoor.F
open Go.RowKit Go.Proofs.YtacocpknielofaaGreatDoorW.PrintWords Go.Proofs.YtacocpknielofaaGreatDoorW.PrintLast Go.Proofs.YtacocpknielofaaGreatDoorW.PrintMore Go.Proofs.YtacocpknielofaaGreatDoor.Z
attribute [local go_sem] max2_int min2_int max_two min_two max_three min_three max_four min_four
set_option linter.unusedVariables false
set_option linter.unusedSimpArgs false
set_option maxRecDepth 100000
set_option maxHeartbeats 16000000
def impl_AddCert.f (k : Nat) (a0 : S33) (a1 : S91) : Option (S33 × Bool) := ((impl_copyStore.f k a0).bind fun t7 => ((impl_copyCert.f a1).bind fun t13 => (if t7.f0.length + 1 ≤ 764877654105 then (lets (t7.f0 ++ ([t13] : List S91)) fun y28 => ((impl_StoreOk.f k (⟨y28, t7.f1, t7.f2⟩ : S33)).bind fun t19 => (if t19 = true then (some ((⟨y28, t7.f1, t7.f2⟩ : S33), true)) else ((impl_copyStore.f k a0).bind fun t24 => (some ((⟨t24.f0, t24.f1, t24.f2⟩ : S33), false)))))) else none)))
def impl_AddCert.T2 : TT := (true, [([], []), ([0], [0]), ([], []), ([2], [2]), ([3], [3]), ([1, 4, 3], [1, 4]), ([0, 1, 2, 3, 4, 5], []), ([6, 5, 5, 0, 1, 2, 3, 4, 5], [5, 6])])
theorem impl_AddCert.tT2 : rtab .any (opsOf Tryz.f37 2) = impl_AddCert.T2 := by kernel_rfl
theorem impl_AddCert.calls {k : Nat} {a0 : S33} {a1 : S91} {Ap0 Ap1 Ap2 Ap3 Ap4 Ap5 : Option Addr} {np0 cp0 np1 cp1 np2 cp2 np3 cp3 np4 cp4 np5 cp5 : Nat} {mG : Int} {r1 : S33} {r2 : Bool} {w : World} (h : impl_AddCert.f k a0 a1 = some (r1, r2)) (gp0 : k91.C w Ap0 np0 a0.f0) (lp0 : np0 ≤ cp0) (gp1 : k81.C w Ap1 np1 a0.f1) (lp1 : np1 ≤ cp1) (gp2 : k115.C w Ap2 np2 a0.f2) (lp2 : np2 ≤ cp2) (gp3 : (Kd.int .i64).C w Ap3 np3 a1.f9) (lp3 : np3 ≤ cp3) (gp4 : Kd.string.C w Ap4 np4 a1.f10) (lp4 : np4 ≤ cp4) (gp5 : Kd.string.C w Ap5 np5 a1.f11) (lp5 : np5 ≤ cp5) (hgM : w.cell? ⟨0, 0, none⟩ = some (.int .i64 mG)) :
    Calls Tryz.prog 37 #[.agg #[.slice Ap0 np0 cp0, .slice Ap1 np1 cp1, .slice Ap2 np2 cp2], .agg #[.int .i64 a1.f0, .string a1.f1, .string a1.f2, .int .i64 a1.f3, .int .i64 a1.f4, .string a1.f5, .bool a1.f6, .int .i64 a1.f7, .int .i64 a1.f8, .slice Ap3 np3 cp3, .slice Ap4 np4 cp4, .slice Ap5 np5 cp5, .string a1.f12]] w (fun e w' => ∃ v0_ v1_ v2_ : Value, e = .returned (.tuple #[.agg #[v0_, v1_, v2_], .bool r2]) ∧ Hp noFP w w' [.own (Zd.slice 91 q91) r1.f0 [v0_], .own (Zd.slice 81 q81) r1.f1 [v1_], .own (Zd.slice 115 q115) r1.f2 [v2_]]) := by
 obtain rfl := C_len gp0
 obtain rfl := C_len gp1
 obtain rfl := C_len gp2
 obtain rfl := C_len gp3
 obtain rfl := C_len gp4
 obtain rfl := C_len gp5
 have HS := Hp.start w
 have H := Aside0.mk h
 clear h
 unfold impl_AddCert.f at H
 go_enter Tryz.func37, Tryz.ntmps37
 replace H := zbind H; obtain ⟨t7, ht7, H⟩ := H
 go_wp2_with (first | ((with_reducible refine gd 2 rfl ?_); refine ev_bx HS ?_; clear HS; intro g2 w2 HS F) | ((with_reducible refine gd 3 rfl ?_); refine ev_bx HS ?_; clear HS; intro g3 w3 HS F) | ((with_reducible refine gd 4 rfl ?_); refine ev_bx HS ?_; clear HS; intro g4 w4 HS F) | ((with_reducible refine gd 8 rfl ?_); refine ev_cl3 HS (impl_copyStore.calls ht7.out (HS.ro gp0) lp0 (HS.ro gp1) lp1 (HS.ro gp2) lp2) Tryz.func108 ?_; clear HS; intro v8 v9 v10 wt7 HS F; obtain ⟨B8, d8, rfl, m8⟩ := HS.form 3 rfl; obtain ⟨B9, d9, rfl, m9⟩ := HS.form 4 rfl; obtain ⟨B10, d10, rfl, m10⟩ := HS.form 5 rfl) | ((with_reducible refine gd 6 rfl ?_); refine ev_bx HS ?_; clear HS; intro g6 w6 HS F) | ((with_reducible refine gate_store (p := 6) rfl ?_); refine ev_st 6 0 HS (seg := [.slice B8 t7.f0.length d8, .slice B9 t7.f1.length d9, .slice B10 t7.f2.length d10]) ?_; clear HS; intro w14 HS F))
 replace H := zbind H; obtain ⟨t13, ht13, H⟩ := H
 replace H := zgo H; obtain ⟨c23, H⟩ := H
 replace H := zlets H; obtain ⟨y28, e_y28, H⟩ := H
 refine dr_start2 [.box g2 [.slice Ap0 a0.f0.length cp0, .slice Ap1 a0.f1.length cp1, .slice Ap2 a0.f2.length cp2] 33, .box g3 [.int .i64 a1.f0, .string a1.f1, .string a1.f2, .int .i64 a1.f3, .int .i64 a1.f4, .string a1.f5, .bool a1.f6, .int .i64 a1.f7, .int .i64 a1.f8, .slice Ap3 a1.f9.length cp3, .slice Ap4 a1.f10.length cp4, .slice Ap5 a1.f11.length cp5, .string a1.f12] 91, .box g4 [.slice none 0 0, .slice none 0 0, .slice none 0 0] 33, .emp, .own (Zd.slice 81 q81) t7.f1 [.slice B9 t7.f1.length d9], .own (Zd.slice 115 q115) t7.f2 [.slice B10 t7.f2.length d10], .box g6 [.slice B8 t7.f0.length d8, .slice B9 t7.f1.length d9, .slice B10 t7.f2.length d10] 33] [7] HS (HS.arr [some 0, some 1, some 2, none, some 4, some 5, some 6] (by decide)) #[false, false, false, false, false, false, false, false] (by kernel_rfl) rfl rfl impl_AddCert.tT2 (fun w17 HT HS HH => ?_)
 (try clear F)
 refine drq_of [(0, some 9), (1, some 10), (2, some 11)] ?_
 repeat (first | refine drp HT ?_ | refine drt HT HH ?_)
 refine drq_end ?_
 refine dr1 3 HT fun K hK => ?_
 refine go_cl3 HS (impl_copyCert.calls ht13.out (HS.ro gp3) lp3 (HS.ro gp4) lp4 (HS.ro gp5) lp5) Tryz.func119 ?_; clear HS; intro v15 v16 v18 wt13 HS F; obtain ⟨B15, d15, rfl, m15⟩ := HS.form 7 rfl; obtain ⟨B16, d16, rfl, m16⟩ := HS.form 8 rfl; obtain ⟨B18, d18, rfl, m18⟩ := HS.form 9 rfl
 refine hK.out _ _ ⟨[], HS.arr [some 0, some 1, some 2, none, some 4, some 5, some 6] (by decide)⟩ (fun HH => ?_)
 clear hK K
 refine norm_ (a' := ?_) ?_ ?_
 rotate_left
 · show Act.put _ (some 12) _ = _; simp only [Act.put, ptn]; rfl
 refine dr1 4 HT fun K hK => ?_
 refine if_li q91 [7, 8, 9] ([t13] : List S91) ([.int .i64 t13.f0, .string t13.f1, .string t13.f2, .int .i64 t13.f3, .int .i64 t13.f4, .string t13.f5, .bool t13.f6, .int .i64 t13.f7, .int .i64 t13.f8, .slice B15 t13.f9.length d15, .slice B16 t13.f10.length d16, .slice B18 t13.f11.length d18, .string t13.f12] ++ []) HS (MadeL.cons (js1 := [7, 8, 9]) (c := [.int .i64 t13.f0, .string t13.f1, .string t13.f2, .int .i64 t13.f3, .int .i64 t13.f4, .string t13.f5, .bool t13.f6, .int .i64 t13.f7, .int .i64 t13.f8, .slice B15 t13.f9.length d15, .slice B16 t13.f10.length d16, .slice B18 t13.f11.length d18, .string t13.f12]) rfl (fun S hd hh => q91_pack (x := t13) hd (hh 7 (.own (Zd.slice 3 (Zd.int .i64)) t13.f9 [.slice B15 t13.f9.length d15]) rfl) (hh 8 (.own (Zd.slice 9 Zd.string) t13.f10 [.slice B16 t13.f10.length d16]) rfl) (hh 9 (.own (Zd.slice 9 Zd.string) t13.f11 [.slice B18 t13.f11.length d18]) rfl) (by decide)) MadeL.nil (by decide)) ?_; clear HS; intro v20 w20 HS F; obtain ⟨B20, d20, rfl, m20⟩ := HS.formn 1 10 rfl rfl
 refine hK.out _ _ ⟨[], HS.arr [some 0, some 1, some 2, none, some 4, some 5, some 6] (by decide)⟩ (fun HH => ?_)
 clear hK K
 refine norm_ (a' := ?_) ?_ ?_
 rotate_left
 · show Act.put _ (some 13) _ = _; simp only [Act.put, ptn]; rfl
 refine dr1 5 HT fun K hK => ?_
 refine wp_ap q91 3 10 HS rfl rfl Tryz.underlying29 info91 (of_eq_true c23) ?_; clear HS; intro v28 w28 HS; rw [← e_y28.out] at HS; obtain ⟨B28, d28, rfl, m28⟩ := HS.form 11 rfl
 (try simp only [hpn, hpm] at HS)
 have F := HS.boxes; simp only [bxn] at F
 refine hK.out _ _ ⟨[], HS.arr [some 0, some 1, some 2, none, some 4, some 5, some 6] (by decide)⟩ (fun HH => ?_)
 clear hK K
 refine norm_ (a' := ?_) ?_ ?_
 rotate_left
 · show Act.put _ (some 14) _ = _; simp only [Act.put, ptn]; rfl
 refine drq_of [(6, some 15)] ?_
 repeat (refine drp HT ?_)
 refine drq_end ?_
 refine dr_last 7 HT rfl (by kernel_rfl) (by decide) (fun K hK => ?_)
 refine if_st 6 0 HS (seg := [.slice B28 y28.length d28]) ?_; clear HS; intro w30 HS F
 refine hK.out _ _ ?_
 clear hK K
 refine done_ (done_of HT.out (by kernel_rfl)) ?_
 (try clear F)
 have F := HS.boxes; simp only [bxn] at F
 replace H := zbind H; obtain ⟨t19, ht19, H⟩ := H
 go_upto_if 18 with (first | ((with_reducible refine gd 17 rfl ?_); refine ev_cl HS (impl_StoreOk.calls ht19.out (HS.rd 11 rfl) m28 (HS.rd 4 rfl) m9 (HS.rd 5 rfl) m10 (HS.keepc hgM)) Tryz.func14 ?_; clear HS; intro wt19 HS F))
 replace H := zifb H; rcases H with ⟨c21, H⟩ | ⟨c21, H⟩
 case inl =>
  subst c21
  (try simp only [dcn, dcu, dcf])
  obtain ⟨rfl, rfl⟩ := zsome2 H
  go_wp2_with (first | ((with_reducible refine gate_store (p := 4) rfl ?_); refine ev_st 2 0 HS (seg := [.slice B28 y28.length d28, .slice B9 t7.f1.length d9, .slice B10 t7.f2.length d10]) ?_; clear HS; intro w22 HS F))
  exact bodyPost_ret (results_list (rs := [.cell 4 33, .tmp 5]) rfl (by simp) (.cell _ _ _ _ _ rfl (HS.boxAt (i := 2) rfl) Tryz.underlying33 rfl (by kernel_rfl) (.tmp .nil))) rfl ⟨_, _, _, rfl, HS.pick [11, 4, 5] (by decide) (by rfl)⟩
 subst c21
 (try simp only [dcn, dcu, dcf])
 replace H := zbind H; obtain ⟨t24, ht24, H⟩ := H
 obtain ⟨rfl, rfl⟩ := zsome2 H
 go_wp2_with (first | ((with_reducible refine gd 20 rfl ?_); refine ev_cl3 HS (impl_copyStore.calls ht24.out (HS.ro gp0) lp0 (HS.ro gp1) lp1 (HS.ro gp2) lp2) Tryz.func108 ?_; clear HS; intro v25 v26 v27 wt24 HS F; obtain ⟨B25, d25, rfl, m25⟩ := HS.form 12 rfl; obtain ⟨B26, d26, rfl, m26⟩ := HS.form 13 rfl; obtain ⟨B27, d27, rfl, m27⟩ := HS.form 14 rfl) | ((with_reducible refine gate_store (p := 4) rfl ?_); refine ev_st 2 0 HS (seg := [.slice B25 t24.f0.length d25, .slice B26 t24.f1.length d26, .slice B27 t24.f2.length d27]) ?_; clear HS; intro w29 HS F))
 exact bodyPost_ret (results_list (rs := [.cell 4 33, .tmp 5]) rfl (by simp) (.cell _ _ _ _ _ rfl (HS.boxAt (i := 2) rfl) Tryz.underlying33 rfl (by kernel_rfl) (.tmp .nil))) rfl ⟨_, _, _, rfl, HS.pick [12, 13, 14] (by decide) (by rfl)⟩
def laws_markCert.f (k : Nat) (a0 : S91) (a1 : Int) : Option (Int × (List Int) × (List ByteArray) × (List ByteArray)) := ((laws_markIntS.f k a0.f9 a1).bind fun t6 => ((laws_markStringS.f k a0.f10 t6.1).bind fun t8 => ((laws_markStringS.f k a0.f11 t8.1).bind fun t10 => (some (t10.1, t6.2, t8.2, t10.2)))))
theorem laws_markCert.calls {k : Nat} {a0 : S91} {a1 : Int} {A : FP} {vp0 : Value} {vp1 : Value} {vp2 : Value} {r1 : Int} {r2 : (List Int)} {r3 : (List ByteArray)} {r4 : (List ByteArray)} {w : World} (h : laws_markCert.f k a0 a1 = some (r1, r2, r3, r4)) (HS : Hp A w w [.own (Zd.slice 3 (Zd.int .i64)) a0.f9 [vp0], .own (Zd.slice 9 Zd.string) a0.f10 [vp1], .own (Zd.slice 9 Zd.string) a0.f11 [vp2]]) :
    Calls Tryz.prog 39 #[.agg #[.int .i64 a0.f0, .string a0.f1, .string a0.f2, .int .i64 a0.f3, .int .i64 a0.f4, .string a0.f5, .bool a0.f6, .int .i64 a0.f7, .int .i64 a0.f8, vp0, vp1, vp2, .string a0.f12], .int .i64 a1] w (fun e w' => e = .returned (.int .i64 r1) ∧ Hp A w w' [.own (Zd.slice 3 (Zd.int .i64)) r2 [vp0], .own (Zd.slice 9 Zd.string) r3 [vp1], .own (Zd.slice 9 Zd.string) r4 [vp2]]) := by
 obtain ⟨B1, d1, rfl, m1⟩ := HS.form 0 rfl
 obtain ⟨B2, d2, rfl, m2⟩ := HS.form 1 rfl
 obtain ⟨B3, d3, rfl, m3⟩ := HS.form 2 rfl
 have H := Aside0.mk h
 clear h
 unfold laws_markCert.f at H
 go_enter Tryz.func39, Tryz.ntmps39
 replace H := zbind H; obtain ⟨t6, ht6, H⟩ := H
 replace H := zbind H; obtain ⟨t8, ht8, H⟩ := H
 replace H := zbind H; obtain ⟨t10, ht10, H⟩ := H
 have H := zsome H; simp only [Prod.mk.injEq] at H; obtain ⟨rfl, rfl, rfl, rfl⟩ := H
 go_wp2_with (first | ((with_reducible refine gd 2 rfl ?_); refine ev_bx HS ?_; clear HS; intro g2 w2 HS F) | ((with_reducible refine gd 8 rfl ?_); refine HS.lend [0] (by decide) [.own (Zd.slice 3 (Zd.int .i64)) a0.f9 [.slice B1 a0.f9.length d1]] rfl (fun A' HL HD HA HB => ?_); refine ev_lc (laws_markIntS.calls ht6.out HA) (fun _ HQ => HB _ _ HQ (Nat.le_of_ble_eq_true rfl)) Tryz.func120 ?_; clear HS HA HB HL HD; intro wt6 HS F) | ((with_reducible refine gd 12 rfl ?_); refine HS.lend [1] (by decide) [.own (Zd.slice 9 Zd.string) a0.f10 [.slice B2 a0.f10.length d2]] rfl (fun A' HL HD HA HB => ?_); refine ev_lc (laws_markStringS.calls ht8.out HA) (fun _ HQ => HB _ _ HQ (Nat.le_of_ble_eq_true rfl)) Tryz.func121 ?_; clear HS HA HB HL HD; intro wt8 HS F) | ((with_reducible refine gd 16 rfl ?_); refine HS.lend [2] (by decide) [.own (Zd.slice 9 Zd.string) a0.f11 [.slice B3 a0.f11.length d3]] rfl (fun A' HL HD HA HB => ?_); refine ev_lc (laws_markStringS.calls ht10.out HA) (fun _ HQ => HB _ _ HQ (Nat.le_of_ble_eq_true rfl)) Tryz.func121 ?_; clear HS HA HB HL HD; intro wt10 HS F))
 go_ret
 exact ⟨rfl, HS.pick [0, 1, 2] (by decide) (by rfl)⟩
end Go.Proofs.YtacocpknielofaaGreatDoor.F

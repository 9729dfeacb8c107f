/- Functions of the program and of the law, and that their calls do what is written here. -/
import Derived.Test.YtacocpknielofaaGreatDoorZgFnExactAddCerta
import Derived.Test.YtacocpknielofaaGreatDoorZgFnExactAddCertb
import Derived.Test.YtacocpknielofaaGreatDoorZgFnExactAddCrla
import Derived.Test.YtacocpknielofaaGreatDoorZgFnExactStoreOka
import Derived.Test.YtacocpknielofaaGreatDoorZgFnExactStoreOke
import Derived.Test.YtacocpknielofaaGreatDoorZgFnExactStoreOkj
namespace Go.Proofs.YtacocpknielofaaGreatDoor.F
open Go.RowKit Go.Proofs.YtacocpknielofaaGreatDoorW.PrintWords Go.Proofs.YtacocpknielofaaGreatDoorW.PrintLast Go.Proofs.YtacocpknielofaaGreatDoorW.PrintMore Go.Proofs.YtacocpknielofaaGreatDoor.Z
attribute [local go_sem] max2_int min2_int max_two min_two max_three min_three max_four min_four
set_option linter.unusedVariables false
set_option linter.unusedSimpArgs false
set_option maxRecDepth 100000
set_option maxHeartbeats 16000000
def impl_AddCrl.f (k : Nat) (a0 : S33) (a1 : S81) : Option (S33 × Bool) := ((impl_copyStore.f k a0).bind fun t7 => ((impl_copyCrl.f a1).bind fun t11 => (if t7.f1.length + 1 ≤ 1599289640401 then (lets (t7.f1 ++ ([t11] : List S81)) fun y16 => ((impl_StoreOk.f k (⟨t7.f0, y16, t7.f2⟩ : S33)).bind fun t19 => (if t19 = true then (some ((⟨t7.f0, y16, t7.f2⟩ : S33), true)) else ((impl_copyStore.f k a0).bind fun t24 => (some ((⟨t24.f0, t24.f1, t24.f2⟩ : S33), false)))))) else none)))
def impl_AddCrl.T2 : TT := (true, [([], []), ([0], [0]), ([], []), ([2], [2]), ([3], [3]), ([1, 4, 3], [1, 4]), ([0, 1, 2, 3, 4, 5], []), ([6, 5, 5, 0, 1, 2, 3, 4, 5], [5, 6])])
theorem impl_AddCrl.tT2 : rtab .any (opsOf Tryz.f29 2) = impl_AddCrl.T2 := by kernel_rfl
theorem impl_AddCrl.calls {k : Nat} {a0 : S33} {a1 : S81} {Ap0 Ap1 Ap2 Ap3 : Option Addr} {np0 cp0 np1 cp1 np2 cp2 np3 cp3 : Nat} {mG : Int} {r1 : S33} {r2 : Bool} {w : World} (h : impl_AddCrl.f k a0 a1 = some (r1, r2)) (gp0 : k91.C w Ap0 np0 a0.f0) (lp0 : np0 ≤ cp0) (gp1 : k81.C w Ap1 np1 a0.f1) (lp1 : np1 ≤ cp1) (gp2 : k115.C w Ap2 np2 a0.f2) (lp2 : np2 ≤ cp2) (gp3 : k238.C w Ap3 np3 a1.f5) (lp3 : np3 ≤ cp3) (hgM : w.cell? ⟨0, 0, none⟩ = some (.int .i64 mG)) :
    Calls Tryz.prog 29 #[.agg #[.slice Ap0 np0 cp0, .slice Ap1 np1 cp1, .slice Ap2 np2 cp2], .agg #[.string a1.f0, .int .i64 a1.f1, .int .i64 a1.f2, .int .i64 a1.f3, .int .i64 a1.f4, .slice Ap3 np3 cp3, .string a1.f6]] w (fun e w' => ∃ v0_ v1_ v2_ : Value, e = .returned (.tuple #[.agg #[v0_, v1_, v2_], .bool r2]) ∧ Hp noFP w w' [.own (Zd.slice 91 q91) r1.f0 [v0_], .own (Zd.slice 81 q81) r1.f1 [v1_], .own (Zd.slice 115 q115) r1.f2 [v2_]]) := by
 obtain rfl := C_len gp0
 obtain rfl := C_len gp1
 obtain rfl := C_len gp2
 obtain rfl := C_len gp3
 have HS := Hp.start w
 have H := Aside0.mk h
 clear h
 unfold impl_AddCrl.f at H
 go_enter Tryz.func29, Tryz.ntmps29
 replace H := zbind H; obtain ⟨t7, ht7, H⟩ := H
 go_wp2_with (first | ((with_reducible refine gd 2 rfl ?_); refine ev_bx HS ?_; clear HS; intro g2 w2 HS F) | ((with_reducible refine gd 3 rfl ?_); refine ev_bx HS ?_; clear HS; intro g3 w3 HS F) | ((with_reducible refine gd 4 rfl ?_); refine ev_bx HS ?_; clear HS; intro g4 w4 HS F) | ((with_reducible refine gd 8 rfl ?_); refine ev_cl3 HS (impl_copyStore.calls ht7.out (HS.ro gp0) lp0 (HS.ro gp1) lp1 (HS.ro gp2) lp2) Tryz.func108 ?_; clear HS; intro v8 v9 v10 wt7 HS F; obtain ⟨B8, d8, rfl, m8⟩ := HS.form 3 rfl; obtain ⟨B9, d9, rfl, m9⟩ := HS.form 4 rfl; obtain ⟨B10, d10, rfl, m10⟩ := HS.form 5 rfl) | ((with_reducible refine gd 6 rfl ?_); refine ev_bx HS ?_; clear HS; intro g6 w6 HS F) | ((with_reducible refine gate_store (p := 6) rfl ?_); refine ev_st 6 0 HS (seg := [.slice B8 t7.f0.length d8, .slice B9 t7.f1.length d9, .slice B10 t7.f2.length d10]) ?_; clear HS; intro w14 HS F))
 replace H := zbind H; obtain ⟨t11, ht11, H⟩ := H
 replace H := zgo H; obtain ⟨c15, H⟩ := H
 replace H := zlets H; obtain ⟨y16, e_y16, H⟩ := H
 refine dr_start2 [.box g2 [.slice Ap0 a0.f0.length cp0, .slice Ap1 a0.f1.length cp1, .slice Ap2 a0.f2.length cp2] 33, .box g3 [.string a1.f0, .int .i64 a1.f1, .int .i64 a1.f2, .int .i64 a1.f3, .int .i64 a1.f4, .slice Ap3 a1.f5.length cp3, .string a1.f6] 81, .box g4 [.slice none 0 0, .slice none 0 0, .slice none 0 0] 33, .own (Zd.slice 91 q91) t7.f0 [.slice B8 t7.f0.length d8], .emp, .own (Zd.slice 115 q115) t7.f2 [.slice B10 t7.f2.length d10], .box g6 [.slice B8 t7.f0.length d8, .slice B9 t7.f1.length d9, .slice B10 t7.f2.length d10] 33] [7] HS (HS.arr [some 0, some 1, some 2, some 3, none, some 5, some 6] (by decide)) #[false, false, false, false, false, false, false, false] (by kernel_rfl) rfl rfl impl_AddCrl.tT2 (fun w17 HT HS HH => ?_)
 (try clear F)
 refine drq_of [(0, some 9), (1, some 10), (2, some 11)] ?_
 repeat (first | refine drp HT ?_ | refine drt HT HH ?_)
 refine drq_end ?_
 refine dr1 3 HT fun K hK => ?_
 refine go_cl1 HS (impl_copyCrl.calls ht11.out (HS.ro gp3) lp3) Tryz.func109 ?_; clear HS; intro v12 wt11 HS F; obtain ⟨B12, d12, rfl, m12⟩ := HS.form 7 rfl
 refine hK.out _ _ ⟨[], HS.arr [some 0, some 1, some 2, some 3, none, some 5, some 6] (by decide)⟩ (fun HH => ?_)
 clear hK K
 refine norm_ (a' := ?_) ?_ ?_
 rotate_left
 · show Act.put _ (some 12) _ = _; simp only [Act.put, ptn]; rfl
 refine dr1 4 HT fun K hK => ?_
 refine if_li q81 [7] ([t11] : List S81) ([.string t11.f0, .int .i64 t11.f1, .int .i64 t11.f2, .int .i64 t11.f3, .int .i64 t11.f4, .slice B12 t11.f5.length d12, .string t11.f6] ++ []) HS (MadeL.cons (js1 := [7]) (c := [.string t11.f0, .int .i64 t11.f1, .int .i64 t11.f2, .int .i64 t11.f3, .int .i64 t11.f4, .slice B12 t11.f5.length d12, .string t11.f6]) rfl (fun S hd hh => q81_pack (x := t11) hd (hh 7 (.own (Zd.slice 238 q238) t11.f5 [.slice B12 t11.f5.length d12]) rfl) (by decide)) MadeL.nil (by decide)) ?_; clear HS; intro v13 w13 HS F; obtain ⟨B13, d13, rfl, m13⟩ := HS.formn 1 8 rfl rfl
 refine hK.out _ _ ⟨[], HS.arr [some 0, some 1, some 2, some 3, none, some 5, some 6] (by decide)⟩ (fun HH => ?_)
 clear hK K
 refine norm_ (a' := ?_) ?_ ?_
 rotate_left
 · show Act.put _ (some 13) _ = _; simp only [Act.put, ptn]; rfl
 refine dr1 5 HT fun K hK => ?_
 refine wp_ap q81 4 8 HS rfl rfl Tryz.underlying30 info81 (of_eq_true c15) ?_; clear HS; intro v16 w16 HS; rw [← e_y16.out] at HS; obtain ⟨B16, d16, rfl, m16⟩ := HS.form 9 rfl
 (try simp only [hpn, hpm] at HS)
 have F := HS.boxes; simp only [bxn] at F
 refine hK.out _ _ ⟨[], HS.arr [some 0, some 1, some 2, some 3, none, some 5, some 6] (by decide)⟩ (fun HH => ?_)
 clear hK K
 refine norm_ (a' := ?_) ?_ ?_
 rotate_left
 · show Act.put _ (some 14) _ = _; simp only [Act.put, ptn]; rfl
 refine drq_of [(6, some 15)] ?_
 repeat (refine drp HT ?_)
 refine drq_end ?_
 refine dr_last 7 HT rfl (by kernel_rfl) (by decide) (fun K hK => ?_)
 refine if_st 6 1 HS (seg := [.slice B16 y16.length d16]) ?_; clear HS; intro w18 HS F
 refine hK.out _ _ ?_
 clear hK K
 refine done_ (done_of HT.out (by kernel_rfl)) ?_
 (try clear F)
 have F := HS.boxes; simp only [bxn] at F
 replace H := zbind H; obtain ⟨t19, ht19, H⟩ := H
 go_upto_if 18 with (first | ((with_reducible refine gd 17 rfl ?_); refine ev_cl HS (impl_StoreOk.calls ht19.out (HS.rd 3 rfl) m8 (HS.rd 9 rfl) m16 (HS.rd 5 rfl) m10 (HS.keepc hgM)) Tryz.func14 ?_; clear HS; intro wt19 HS F))
 replace H := zifb H; rcases H with ⟨c21, H⟩ | ⟨c21, H⟩
 case inl =>
  subst c21
  (try simp only [dcn, dcu, dcf])
  obtain ⟨rfl, rfl⟩ := zsome2 H
  go_wp2_with (first | ((with_reducible refine gate_store (p := 4) rfl ?_); refine ev_st 2 0 HS (seg := [.slice B8 t7.f0.length d8, .slice B16 y16.length d16, .slice B10 t7.f2.length d10]) ?_; clear HS; intro w22 HS F))
  exact bodyPost_ret (results_list (rs := [.cell 4 33, .tmp 5]) rfl (by simp) (.cell _ _ _ _ _ rfl (HS.boxAt (i := 2) rfl) Tryz.underlying33 rfl (by kernel_rfl) (.tmp .nil))) rfl ⟨_, _, _, rfl, HS.pick [3, 9, 5] (by decide) (by rfl)⟩
 subst c21
 (try simp only [dcn, dcu, dcf])
 replace H := zbind H; obtain ⟨t24, ht24, H⟩ := H
 obtain ⟨rfl, rfl⟩ := zsome2 H
 go_wp2_with (first | ((with_reducible refine gd 20 rfl ?_); refine ev_cl3 HS (impl_copyStore.calls ht24.out (HS.ro gp0) lp0 (HS.ro gp1) lp1 (HS.ro gp2) lp2) Tryz.func108 ?_; clear HS; intro v25 v26 v27 wt24 HS F; obtain ⟨B25, d25, rfl, m25⟩ := HS.form 10 rfl; obtain ⟨B26, d26, rfl, m26⟩ := HS.form 11 rfl; obtain ⟨B27, d27, rfl, m27⟩ := HS.form 12 rfl) | ((with_reducible refine gate_store (p := 4) rfl ?_); refine ev_st 2 0 HS (seg := [.slice B25 t24.f0.length d25, .slice B26 t24.f1.length d26, .slice B27 t24.f2.length d27]) ?_; clear HS; intro w29 HS F))
 exact bodyPost_ret (results_list (rs := [.cell 4 33, .tmp 5]) rfl (by simp) (.cell _ _ _ _ _ rfl (HS.boxAt (i := 2) rfl) Tryz.underlying33 rfl (by kernel_rfl) (.tmp .nil))) rfl ⟨_, _, _, rfl, HS.pick [10, 11, 12] (by decide) (by rfl)⟩
def laws_markCrl.f (k : Nat) (a0 : S81) (a1 : Int) : Option (Int × (List S238)) := ((laws_markRevS.f k a0.f5 a1).bind fun t4 => (some (t4.1, t4.2)))
theorem laws_markCrl.calls {k : Nat} {a0 : S81} {a1 : Int} {A : FP} {vp0 : Value} {r1 : Int} {r2 : (List S238)} {w : World} (h : laws_markCrl.f k a0 a1 = some (r1, r2)) (HS : Hp A w w [.own (Zd.slice 238 q238) a0.f5 [vp0]]) :
    Calls Tryz.prog 32 #[.agg #[.string a0.f0, .int .i64 a0.f1, .int .i64 a0.f2, .int .i64 a0.f3, .int .i64 a0.f4, vp0, .string a0.f6], .int .i64 a1] w (fun e w' => e = .returned (.int .i64 r1) ∧ Hp A w w' [.own (Zd.slice 238 q238) r2 [vp0]]) := by
 obtain ⟨B1, d1, rfl, m1⟩ := HS.form 0 rfl
 have H := Aside0.mk h
 clear h
 unfold laws_markCrl.f at H
 go_enter Tryz.func32, Tryz.ntmps32
 replace H := zbind H; obtain ⟨t4, ht4, H⟩ := H
 obtain ⟨rfl, rfl⟩ := zsome2 H
 go_wp2_with (first | ((with_reducible refine gd 2 rfl ?_); refine ev_bx HS ?_; clear HS; intro g2 w2 HS F) | ((with_reducible refine gd 8 rfl ?_); refine HS.lend [0] (by decide) [.own (Zd.slice 238 q238) a0.f5 [.slice B1 a0.f5.length d1]] rfl (fun A' HL HD HA HB => ?_); refine ev_lc (laws_markRevS.calls ht4.out HA) (fun _ HQ => HB _ _ HQ (Nat.le_of_ble_eq_true rfl)) Tryz.func114 ?_; clear HS HA HB HL HD; intro wt4 HS F))
 go_ret
 exact ⟨rfl, HS.pick [0] (by decide) (by rfl)⟩
def laws_FnExactAddCrl.f (k : Nat) (a0 : S26) (a1 : S75) : Option (Bool) := ((laws_szStore.f k a0 1048576).bind fun t5 => (if t5 < 0 then (some true) else ((laws_szCrl.f a1 t5).bind fun t8 => (if t8 < 0 then (some true) else ((laws_toStore.f k a0).bind fun t18 => ((laws_toCrl.f k a1).bind fun t25 => ((spec_AddCrl.f k t18 t25).bind fun t35 => ((laws_toStore.f k a0).bind fun t14 => ((laws_toCrl.f k a1).bind fun t23 => ((impl_AddCrl.f k t14 t23).bind fun t30 => ((laws_eqStore.f k t30.1 t35.1).bind fun t39 => (if t39 = true then (if t30.2 = t35.2 then ((laws_toStore.f k a0).bind fun t47 => ((laws_eqStore.f k t14 t47).bind fun t57 => (if t57 = true then ((laws_toCrl.f k a1).bind fun t60 => ((laws_eqCrl.f k t23 t60).bind fun t65 => (if t65 = true then ((laws_markStore.f k t14 1).bind fun t51 => ((laws_markCrl.f k t23 t51.1).bind fun t53 => (if t53.1 < 0 then (some false) else ((laws_eqStore.f k t30.1 t35.1).bind fun t56 => (if t56 = true then ((laws_markStore.f k t30.1 1).bind fun t59 => ((laws_heldStore.f k (⟨t59.2.1, t59.2.2.1, t59.2.2.2⟩ : S33) 1).bind fun t61 => (if t61 < 0 then (some false) else (if t61 = t59.1 then ((laws_toStore.f k a0).bind fun t67 => ((laws_toCrl.f k a1).bind fun t77 => ((impl_AddCrl.f k t67 t77).bind fun t79 => ((laws_eqStore.f k t79.1 t35.1).bind fun t68 => (if t68 = true then (if t79.2 = t35.2 then ((laws_heldStore.f k (⟨t59.2.1, t59.2.2.1, t59.2.2.2⟩ : S33) 1).bind fun t72 => (if t72 < 0 then (some false) else (if t72 = t59.1 then (some true) else (some false)))) else (some false)) else (some false)))))) else (some false))))) else (some false)))))) else (some false)))) else (some false)))) else (some false)) else (some false)))))))))))))
def laws_FnExactAddCrl.T8 : TT := (true, [([], []), ([0], [0]), ([], []), ([2, 1], [2]), ([1, 3, 3], [1, 3]), ([4], [4]), ([5], [5]), ([5], [5]), ([], []), ([8, 6, 4, 0, 1, 2, 3, 4, 5, 6, 8], [6, 8]), ([7, 9, 0, 1, 2, 3, 4, 5, 6, 7, 8, 9], [7])])
theorem laws_FnExactAddCrl.tT8 : rtab .any (opsOf Tryz.f6 8) = laws_FnExactAddCrl.T8 := by kernel_rfl
def laws_FnExactAddCrl.T14 : TT := (true, [([], []), ([], []), ([1], [1]), ([0, 2, 2], [0, 2]), ([3], [3])])
theorem laws_FnExactAddCrl.tT14 : rtab .any (opsOf Tryz.f6 14) = laws_FnExactAddCrl.T14 := by kernel_rfl
def laws_FnExactAddCrl.T16 : TT := (true, [([], []), ([], []), ([1], [1]), ([0, 2, 2], [0, 2]), ([3], [3])])
theorem laws_FnExactAddCrl.tT16 : rtab .any (opsOf Tryz.f6 16) = laws_FnExactAddCrl.T16 := by kernel_rfl
def laws_FnExactAddCrl.T31 : TT := (true, [([], []), ([0], [0]), ([], []), ([2, 1], [2]), ([1, 3, 3], [1, 3]), ([4], [4]), ([5], [5]), ([5], [5]), ([], []), ([8, 6, 4, 0, 1, 2, 3, 4, 5, 6, 8], [6, 8]), ([7, 9, 0, 1, 2, 3, 4, 5, 6, 7, 8, 9], [7])])
theorem laws_FnExactAddCrl.tT31 : rtab .any (opsOf Tryz.f6 31) = laws_FnExactAddCrl.T31 := by kernel_rfl
theorem laws_FnExactAddCrl.calls {k : Nat} {a0 : S26} {a1 : S75} {Ap0 Ap1 Ap2 Ap3 : Option Addr} {np0 cp0 np1 cp1 np2 cp2 np3 cp3 : Nat} {mG : Int} {r : Bool} {w : World} (h : laws_FnExactAddCrl.f k a0 a1 = some r) (gp0 : k88.C w Ap0 np0 a0.f0) (lp0 : np0 ≤ cp0) (gp1 : k75.C w Ap1 np1 a0.f1) (lp1 : np1 ≤ cp1) (gp2 : k178.C w Ap2 np2 a0.f2) (lp2 : np2 ≤ cp2) (gp3 : k240.C w Ap3 np3 a1.f5) (lp3 : np3 ≤ cp3) (hgM : w.cell? ⟨0, 0, none⟩ = some (.int .i64 mG)) :
    Calls Tryz.prog 6 #[.agg #[.slice Ap0 np0 cp0, .slice Ap1 np1 cp1, .slice Ap2 np2 cp2], .agg #[.string a1.f0, .int .i64 a1.f1, .int .i64 a1.f2, .int .i64 a1.f3, .int .i64 a1.f4, .slice Ap3 np3 cp3, .string a1.f6]] w (fun e w' => e = .returned (.bool r) ∧ Hp noFP w w' []) := by
 obtain rfl := C_len gp0
 obtain rfl := C_len gp1
 obtain rfl := C_len gp2
 obtain rfl := C_len gp3
 have HS := Hp.start w
 have H := Aside0.mk h
 clear h
 unfold laws_FnExactAddCrl.f at H
 go_enter Tryz.func6, Tryz.ntmps6
 replace H := zbind H; obtain ⟨t5, ht5, H⟩ := H
 go_upto_if 21 with (first | ((with_reducible refine gd 2 rfl ?_); refine ev_bx HS ?_; clear HS; intro g2 w2 HS F) | ((with_reducible refine gd 3 rfl ?_); refine ev_bx HS ?_; clear HS; intro g3 w3 HS F) | ((with_reducible refine gd 19 rfl ?_); refine ev_cl HS (laws_szStore.calls ht5.out (HS.ro gp0) lp0 (HS.ro gp1) lp1 (HS.ro gp2) lp2) Tryz.func11 ?_; clear HS; intro wt5 HS F))
 replace H := zif H; rcases H with ⟨c7, H⟩ | ⟨c7, H⟩
 case inl =>
  (try simp only [c7, dcn])
  obtain rfl := zsome H
  go_wp2
  go_ret
  exact HS.pk
 (try simp only [c7, dcn])
 replace H := zbind H; obtain ⟨t8, ht8, H⟩ := H
 go_upto_if 26 with (first | ((with_reducible refine gd 24 rfl ?_); refine ev_cl HS (laws_szCrl.calls ht8.out (HS.ro gp3) lp3) Tryz.func26 ?_; clear HS; intro wt8 HS F))
 replace H := zif H; rcases H with ⟨c10, H⟩ | ⟨c10, H⟩
 case inl =>
  (try simp only [c10, dcn])
  obtain rfl := zsome H
  go_wp2
  go_ret
  exact HS.pk
 (try simp only [c10, dcn])
 (try go_wp2)
 replace H := zbind H; obtain ⟨t18, ht18, H⟩ := H
 replace H := zbind H; obtain ⟨t25, ht25, H⟩ := H
 replace H := zbind H; obtain ⟨t35, ht35, H⟩ := H
 refine dr_start [9] HS #[false, false, false, false, false, false, false, false, false, false, false] (by kernel_rfl) rfl rfl laws_FnExactAddCrl.tT8 (fun w12 HT HS HH => ?_)
 (try clear F)
 refine join_ 0 #[true, true, true, true, true, true, true, true, true, true, true] (fun ((v19, v20, v22, v34, v36, v38, v40, g6) : Value × Value × Value × Value × Value × Value × Value × Nat) => ([(28, .agg #[.slice Ap0 a0.f0.length cp0, .slice Ap1 a0.f1.length cp1, .slice Ap2 a0.f2.length cp2]), (29, .agg #[v19, v20, v22]), (30, .agg #[.string a1.f0, .int .i64 a1.f1, .int .i64 a1.f2, .int .i64 a1.f3, .int .i64 a1.f4, .slice Ap3 a1.f5.length cp3, .string a1.f6]), (31, .agg #[.string t25.f0, .int .i64 t25.f1, .int .i64 t25.f2, .int .i64 t25.f3, .int .i64 t25.f4, v34, .string t25.f6]), (32, .tuple #[.agg #[v36, v38, v40], .bool t35.2]), (27, .tuple #[.agg #[v36, v38, v40], .bool t35.2]), (33, .agg #[v36, v38, v40]), (34, .bool t35.2), (6, .pointer (some ⟨g6, 0, none⟩)), (7, .bool t35.2)] : List (Tmp × Value))) (fun ((v19, v20, v22, v34, v36, v38, v40, g6) : Value × Value × Value × Value × Value × Value × Value × Nat) w' => Hp noFP w w' [.box g2 [.slice Ap0 a0.f0.length cp0, .slice Ap1 a0.f1.length cp1, .slice Ap2 a0.f2.length cp2] 26, .box g3 [.string a1.f0, .int .i64 a1.f1, .int .i64 a1.f2, .int .i64 a1.f3, .int .i64 a1.f4, .slice Ap3 a1.f5.length cp3, .string a1.f6] 75, .own (Zd.slice 91 q91) t18.f0 [v19], .own (Zd.slice 81 q81) t18.f1 [v20], .own (Zd.slice 115 q115) t18.f2 [v22], .own (Zd.slice 238 q238) t25.f5 [v34], .own (Zd.slice 91 q91) t35.1.f0 [v36], .own (Zd.slice 81 q81) t35.1.f1 [v38], .own (Zd.slice 115 q115) t35.1.f2 [v40], .box g6 [v36, v38, v40] 33]) ?_ ?_
 rotate_left
 · intro hJ
   refine drq_of [(0, some 28), (2, some 30)] ?_
   repeat (refine drt HT HH ?_)
   refine drq_end ?_
   refine dr_any [1, 8] HT (by kernel_rfl) (by decide) (AllReadyL.cons rfl (by decide) (fun K hK => ?_) (AllReadyL.cons rfl (by decide) (fun K hK => ?_) AllReadyL.nil))
   · refine go_cl3 HS (laws_toStore.calls ht18.out (HS.ro gp0) lp0 (HS.ro gp1) lp1 (HS.ro gp2) lp2) Tryz.func13 ?_; clear HS; intro v19 v20 v22 wt18 HS F; obtain ⟨B19, d19, rfl, m19⟩ := HS.form 2 rfl; obtain ⟨B20, d20, rfl, m20⟩ := HS.form 3 rfl; obtain ⟨B22, d22, rfl, m22⟩ := HS.form 4 rfl
     refine nrm 29 hK ⟨_, HS⟩ (fun HH => ?_); clear hK K
     refine dr_any [3, 8] HT (by kernel_rfl) (by decide) (AllReadyL.cons rfl (by decide) (fun K hK => ?_) (AllReadyL.cons rfl (by decide) (fun K hK => ?_) AllReadyL.nil))
     · refine go_cl1 HS (laws_toCrl.calls ht25.out (HS.ro gp3) lp3) Tryz.func28 ?_; clear HS; intro v34 wt25 HS F; obtain ⟨B34, d34, rfl, m34⟩ := HS.form 5 rfl
       refine nrm 31 hK ⟨_, HS⟩ (fun HH => ?_); clear hK K
       refine dr_any [4, 8] HT (by kernel_rfl) (by decide) (AllReadyL.cons rfl (by decide) (fun K hK => ?_) (AllReadyL.cons rfl (by decide) (fun K hK => ?_) AllReadyL.nil))
       · refine go_cl3 HS (spec_AddCrl.calls ht35.out (HS.rd 2 rfl) m19 (HS.rd 3 rfl) m20 (HS.rd 4 rfl) m22 (HS.rd 5 rfl) m34) Tryz.func27 ?_; clear HS; intro v36 v38 v40 wt35 HS F; obtain ⟨B36, d36, rfl, m36⟩ := HS.form 6 rfl; obtain ⟨B38, d38, rfl, m38⟩ := HS.form 7 rfl; obtain ⟨B40, d40, rfl, m40⟩ := HS.form 8 rfl
         refine nrm 32 hK ⟨_, HS⟩ (fun HH => ?_); clear hK K
         refine drq_of [(5, some 27), (6, some 33), (7, some 34)] ?_
         repeat (refine drp HT ?_)
         refine drq_end ?_
         refine dr1 8 HT fun K hK => ?_
         refine if_bx HS ?_; clear HS; intro g6 w6 HS F
         refine nrm 6 hK ⟨_, HS⟩ (fun HH => ?_); clear hK K
         refine dr_last 9 HT rfl (by kernel_rfl) (by decide) (fun K hK => ?_)
         refine if_st 9 0 HS (seg := [.slice B36 t35.1.f0.length d36, .slice B38 t35.1.f1.length d38, .slice B40 t35.1.f2.length d40]) ?_; clear HS; intro w43 HS F
         refine hK.out _ _ ?_
         clear hK K
         refine drq_of [(10, some 7)] ?_
         repeat (refine drp HT ?_)
         refine drq_end ?_
         refine norm_ ?_ (hJ (.slice B19 t18.f0.length d19, .slice B20 t18.f1.length d20, .slice B22 t18.f2.length d22, .slice B34 t25.f5.length d34, .slice B36 t35.1.f0.length d36, .slice B38 t35.1.f1.length d38, .slice B40 t35.1.f2.length d40, g6) _ (HS.arr [some 0, some 1, some 2, some 3, some 4, some 5, some 6, some 7, some 8, some 9] (by decide)))
         simp only [putAll, Act.put, ptn]
         (try rfl)
       · refine if_bx HS ?_; clear HS; intro g6 w6 HS F
         refine nrm 6 hK ⟨_, HS⟩ (fun HH => ?_); clear hK K
         refine dr1 4 HT fun K hK => ?_
         refine go_cl3 HS (spec_AddCrl.calls ht35.out (HS.rd 2 rfl) m19 (HS.rd 3 rfl) m20 (HS.rd 4 rfl) m22 (HS.rd 5 rfl) m34) Tryz.func27 ?_; clear HS; intro v36 v38 v40 wt35 HS F; obtain ⟨B36, d36, rfl, m36⟩ := HS.form 7 rfl; obtain ⟨B38, d38, rfl, m38⟩ := HS.form 8 rfl; obtain ⟨B40, d40, rfl, m40⟩ := HS.form 9 rfl
         refine nrm 32 hK ⟨_, HS⟩ (fun HH => ?_); clear hK K
         refine drq_of [(5, some 27), (6, some 33), (7, some 34)] ?_
         repeat (refine drp HT ?_)
         refine drq_end ?_
         refine dr_last 9 HT rfl (by kernel_rfl) (by decide) (fun K hK => ?_)
         refine if_st 6 0 HS (seg := [.slice B36 t35.1.f0.length d36, .slice B38 t35.1.f1.length d38, .slice B40 t35.1.f2.length d40]) ?_; clear HS; intro w43 HS F
         refine hK.out _ _ ?_
         clear hK K
         refine drq_of [(10, some 7)] ?_
         repeat (refine drp HT ?_)
         refine drq_end ?_
         refine norm_ ?_ (hJ (.slice B19 t18.f0.length d19, .slice B20 t18.f1.length d20, .slice B22 t18.f2.length d22, .slice B34 t25.f5.length d34, .slice B36 t35.1.f0.length d36, .slice B38 t35.1.f1.length d38, .slice B40 t35.1.f2.length d40, g6) _ (HS.arr [some 0, some 1, some 2, some 3, some 4, some 5, some 7, some 8, some 9, some 6] (by decide)))
         simp only [putAll, Act.put, ptn]
         (try rfl)
     · refine if_bx HS ?_; clear HS; intro g6 w6 HS F
       refine nrm 6 hK ⟨_, HS⟩ (fun HH => ?_); clear hK K
       refine dr1 3 HT fun K hK => ?_
       refine go_cl1 HS (laws_toCrl.calls ht25.out (HS.ro gp3) lp3) Tryz.func28 ?_; clear HS; intro v34 wt25 HS F; obtain ⟨B34, d34, rfl, m34⟩ := HS.form 6 rfl
       refine nrm 31 hK ⟨_, HS⟩ (fun HH => ?_); clear hK K
       refine dr1 4 HT fun K hK => ?_
       refine go_cl3 HS (spec_AddCrl.calls ht35.out (HS.rd 2 rfl) m19 (HS.rd 3 rfl) m20 (HS.rd 4 rfl) m22 (HS.rd 6 rfl) m34) Tryz.func27 ?_; clear HS; intro v36 v38 v40 wt35 HS F; obtain ⟨B36, d36, rfl, m36⟩ := HS.form 7 rfl; obtain ⟨B38, d38, rfl, m38⟩ := HS.form 8 rfl; obtain ⟨B40, d40, rfl, m40⟩ := HS.form 9 rfl
       refine nrm 32 hK ⟨_, HS⟩ (fun HH => ?_); clear hK K
       refine drq_of [(5, some 27), (6, some 33), (7, some 34)] ?_
       repeat (refine drp HT ?_)
       refine drq_end ?_
       refine dr_last 9 HT rfl (by kernel_rfl) (by decide) (fun K hK => ?_)
       refine if_st 5 0 HS (seg := [.slice B36 t35.1.f0.length d36, .slice B38 t35.1.f1.length d38, .slice B40 t35.1.f2.length d40]) ?_; clear HS; intro w43 HS F
       refine hK.out _ _ ?_
       clear hK K
       refine drq_of [(10, some 7)] ?_
       repeat (refine drp HT ?_)
       refine drq_end ?_
       refine norm_ ?_ (hJ (.slice B19 t18.f0.length d19, .slice B20 t18.f1.length d20, .slice B22 t18.f2.length d22, .slice B34 t25.f5.length d34, .slice B36 t35.1.f0.length d36, .slice B38 t35.1.f1.length d38, .slice B40 t35.1.f2.length d40, g6) _ (HS.arr [some 0, some 1, some 2, some 3, some 4, some 6, some 7, some 8, some 9, some 5] (by decide)))
       simp only [putAll, Act.put, ptn]
       (try rfl)
   · refine if_bx HS ?_; clear HS; intro g6 w6 HS F
     refine nrm 6 hK ⟨_, HS⟩ (fun HH => ?_); clear hK K
     refine dr1 1 HT fun K hK => ?_
     refine go_cl3 HS (laws_toStore.calls ht18.out (HS.ro gp0) lp0 (HS.ro gp1) lp1 (HS.ro gp2) lp2) Tryz.func13 ?_; clear HS; intro v19 v20 v22 wt18 HS F; obtain ⟨B19, d19, rfl, m19⟩ := HS.form 3 rfl; obtain ⟨B20, d20, rfl, m20⟩ := HS.form 4 rfl; obtain ⟨B22, d22, rfl, m22⟩ := HS.form 5 rfl
     refine nrm 29 hK ⟨_, HS⟩ (fun HH => ?_); clear hK K
     refine dr1 3 HT fun K hK => ?_
     refine go_cl1 HS (laws_toCrl.calls ht25.out (HS.ro gp3) lp3) Tryz.func28 ?_; clear HS; intro v34 wt25 HS F; obtain ⟨B34, d34, rfl, m34⟩ := HS.form 6 rfl
     refine nrm 31 hK ⟨_, HS⟩ (fun HH => ?_); clear hK K
     refine dr1 4 HT fun K hK => ?_
     refine go_cl3 HS (spec_AddCrl.calls ht35.out (HS.rd 3 rfl) m19 (HS.rd 4 rfl) m20 (HS.rd 5 rfl) m22 (HS.rd 6 rfl) m34) Tryz.func27 ?_; clear HS; intro v36 v38 v40 wt35 HS F; obtain ⟨B36, d36, rfl, m36⟩ := HS.form 7 rfl; obtain ⟨B38, d38, rfl, m38⟩ := HS.form 8 rfl; obtain ⟨B40, d40, rfl, m40⟩ := HS.form 9 rfl
     refine nrm 32 hK ⟨_, HS⟩ (fun HH => ?_); clear hK K
     refine drq_of [(5, some 27), (6, some 33), (7, some 34)] ?_
     repeat (refine drp HT ?_)
     refine drq_end ?_
     refine dr_last 9 HT rfl (by kernel_rfl) (by decide) (fun K hK => ?_)
     refine if_st 2 0 HS (seg := [.slice B36 t35.1.f0.length d36, .slice B38 t35.1.f1.length d38, .slice B40 t35.1.f2.length d40]) ?_; clear HS; intro w43 HS F
     refine hK.out _ _ ?_
     clear hK K
     refine drq_of [(10, some 7)] ?_
     repeat (refine drp HT ?_)
     refine drq_end ?_
     refine norm_ ?_ (hJ (.slice B19 t18.f0.length d19, .slice B20 t18.f1.length d20, .slice B22 t18.f2.length d22, .slice B34 t25.f5.length d34, .slice B36 t35.1.f0.length d36, .slice B38 t35.1.f1.length d38, .slice B40 t35.1.f2.length d40, g6) _ (HS.arr [some 0, some 1, some 3, some 4, some 5, some 6, some 7, some 8, some 9, some 2] (by decide)))
     simp only [putAll, Act.put, ptn]
     (try rfl)
 rintro ⟨v19, v20, v22, v34, v36, v38, v40, g6⟩ w45 HS
 obtain ⟨B19, d19, rfl, m19⟩ := HS.form 2 rfl
 obtain ⟨B20, d20, rfl, m20⟩ := HS.form 3 rfl
 obtain ⟨B22, d22, rfl, m22⟩ := HS.form 4 rfl
 obtain ⟨B34, d34, rfl, m34⟩ := HS.form 5 rfl
 obtain ⟨B36, d36, rfl, m36⟩ := HS.form 6 rfl
 obtain ⟨B38, d38, rfl, m38⟩ := HS.form 7 rfl
 obtain ⟨B40, d40, rfl, m40⟩ := HS.form 8 rfl
 have F := HS.boxes; simp only [bxn] at F
 refine norm_ (a' := ?_) ?_ ?_
 rotate_left
 · simp only [putAll, Act.put, ptn]; rfl
 refine done_ (done_of HT.out (by kernel_rfl)) ?_
 replace H := zbind H; obtain ⟨t14, ht14, H⟩ := H
 replace H := zbind H; obtain ⟨t23, ht23, H⟩ := H
 replace H := zbind H; obtain ⟨t30, ht30, H⟩ := H
 replace H := zbind H; obtain ⟨t39, ht39, H⟩ := H
 replace H := znifb H; rcases H with ⟨c41, H⟩ | ⟨c41, H⟩
 case inl =>
  subst c41
  obtain rfl := zsome H
  go_wp2_with (first | ((with_reducible refine gd 36 rfl ?_); refine ev_cl3 HS (laws_toStore.calls ht14.out (HS.ro gp0) lp0 (HS.ro gp1) lp1 (HS.ro gp2) lp2) Tryz.func13 ?_; clear HS; intro v15 v16 v17 wt14 HS F; obtain ⟨B15, d15, rfl, m15⟩ := HS.form 10 rfl; obtain ⟨B16, d16, rfl, m16⟩ := HS.form 11 rfl; obtain ⟨B17, d17, rfl, m17⟩ := HS.form 12 rfl) | ((with_reducible refine gd 8 rfl ?_); refine ev_bx HS ?_; clear HS; intro g8 w8 HS F) | ((with_reducible refine gate_store (p := 8) rfl ?_); refine ev_st 13 0 HS (seg := [.slice B15 t14.f0.length d15, .slice B16 t14.f1.length d16, .slice B17 t14.f2.length d17]) ?_; clear HS; intro w21 HS F) | ((with_reducible refine gd 38 rfl ?_); refine ev_cl1 HS (laws_toCrl.calls ht23.out (HS.ro gp3) lp3) Tryz.func28 ?_; clear HS; intro v24 wt23 HS F; obtain ⟨B24, d24, rfl, m24⟩ := HS.form 14 rfl) | ((with_reducible refine gd 9 rfl ?_); refine ev_bx HS ?_; clear HS; intro g9 w9 HS F) | ((with_reducible refine gate_store (p := 9) rfl ?_); refine ev_st 15 0 HS (seg := [.string t23.f0, .int .i64 t23.f1, .int .i64 t23.f2, .int .i64 t23.f3, .int .i64 t23.f4, .slice B24 t23.f5.length d24, .string t23.f6]) ?_; clear HS; intro w28 HS F) | ((with_reducible refine gd 42 rfl ?_); refine ev_cl3 HS (impl_AddCrl.calls ht30.out (HS.rd 10 rfl) m15 (HS.rd 11 rfl) m16 (HS.rd 12 rfl) m17 (HS.rd 14 rfl) m24 (HS.keepc hgM)) Tryz.func29 ?_; clear HS; intro v31 v32 v33 wt30 HS F; obtain ⟨B31, d31, rfl, m31⟩ := HS.form 16 rfl; obtain ⟨B32, d32, rfl, m32⟩ := HS.form 17 rfl; obtain ⟨B33, d33, rfl, m33⟩ := HS.form 18 rfl) | ((with_reducible refine gd 10 rfl ?_); refine ev_bx HS ?_; clear HS; intro g10 w10 HS F) | ((with_reducible refine gate_store (p := 10) rfl ?_); refine ev_st 19 0 HS (seg := [.slice B31 t30.1.f0.length d31, .slice B32 t30.1.f1.length d32, .slice B33 t30.1.f2.length d33]) ?_; clear HS; intro w37 HS F) | ((with_reducible refine gd 47 rfl ?_); refine ev_cl HS (laws_eqStore.calls ht39.out (HS.rd 16 rfl) m31 (HS.rd 17 rfl) m32 (HS.rd 18 rfl) m33 (HS.rd 6 rfl) m36 (HS.rd 7 rfl) m38 (HS.rd 8 rfl) m40) Tryz.func15 ?_; clear HS; intro wt39 HS F))
  go_ret
  exact HS.pk
 subst c41
 go_upto_if 53 with (first | ((with_reducible refine gd 36 rfl ?_); refine ev_cl3 HS (laws_toStore.calls ht14.out (HS.ro gp0) lp0 (HS.ro gp1) lp1 (HS.ro gp2) lp2) Tryz.func13 ?_; clear HS; intro v15 v16 v17 wt14 HS F; obtain ⟨B15, d15, rfl, m15⟩ := HS.form 10 rfl; obtain ⟨B16, d16, rfl, m16⟩ := HS.form 11 rfl; obtain ⟨B17, d17, rfl, m17⟩ := HS.form 12 rfl) | ((with_reducible refine gd 8 rfl ?_); refine ev_bx HS ?_; clear HS; intro g8 w8 HS F) | ((with_reducible refine gate_store (p := 8) rfl ?_); refine ev_st 13 0 HS (seg := [.slice B15 t14.f0.length d15, .slice B16 t14.f1.length d16, .slice B17 t14.f2.length d17]) ?_; clear HS; intro w21 HS F) | ((with_reducible refine gd 38 rfl ?_); refine ev_cl1 HS (laws_toCrl.calls ht23.out (HS.ro gp3) lp3) Tryz.func28 ?_; clear HS; intro v24 wt23 HS F; obtain ⟨B24, d24, rfl, m24⟩ := HS.form 14 rfl) | ((with_reducible refine gd 9 rfl ?_); refine ev_bx HS ?_; clear HS; intro g9 w9 HS F) | ((with_reducible refine gate_store (p := 9) rfl ?_); refine ev_st 15 0 HS (seg := [.string t23.f0, .int .i64 t23.f1, .int .i64 t23.f2, .int .i64 t23.f3, .int .i64 t23.f4, .slice B24 t23.f5.length d24, .string t23.f6]) ?_; clear HS; intro w28 HS F) | ((with_reducible refine gd 42 rfl ?_); refine ev_cl3 HS (impl_AddCrl.calls ht30.out (HS.rd 10 rfl) m15 (HS.rd 11 rfl) m16 (HS.rd 12 rfl) m17 (HS.rd 14 rfl) m24 (HS.keepc hgM)) Tryz.func29 ?_; clear HS; intro v31 v32 v33 wt30 HS F; obtain ⟨B31, d31, rfl, m31⟩ := HS.form 16 rfl; obtain ⟨B32, d32, rfl, m32⟩ := HS.form 17 rfl; obtain ⟨B33, d33, rfl, m33⟩ := HS.form 18 rfl) | ((with_reducible refine gd 10 rfl ?_); refine ev_bx HS ?_; clear HS; intro g10 w10 HS F) | ((with_reducible refine gate_store (p := 10) rfl ?_); refine ev_st 19 0 HS (seg := [.slice B31 t30.1.f0.length d31, .slice B32 t30.1.f1.length d32, .slice B33 t30.1.f2.length d33]) ?_; clear HS; intro w37 HS F) | ((with_reducible refine gd 47 rfl ?_); refine ev_cl HS (laws_eqStore.calls ht39.out (HS.rd 16 rfl) m31 (HS.rd 17 rfl) m32 (HS.rd 18 rfl) m33 (HS.rd 6 rfl) m36 (HS.rd 7 rfl) m38 (HS.rd 8 rfl) m40) Tryz.func15 ?_; clear HS; intro wt39 HS F))
 replace H := znif' H; rcases H with ⟨c42, H⟩ | ⟨c42, H⟩
 case inl =>
  have c42a := beq_eq_false_iff_ne.mpr c42
  have c42b := bne_iff_ne.mpr c42
  clear c42
  (try simp only [c42a, c42b, dcn])
  obtain rfl := zsome H
  go_wp2
  go_ret
  exact HS.pk
 have c42a := beq_iff_eq.mpr c42
 have c42b := bne_eq_false_iff_eq.mpr c42
 clear c42
 (try simp only [c42a, c42b, dcn])
 (try go_wp2)
 replace H := zbind H; obtain ⟨t47, ht47, H⟩ := H
 replace H := zbind H; obtain ⟨t57, ht57, H⟩ := H
 refine dr_start [] HS #[false, false, false, false, false] (by kernel_rfl) rfl rfl laws_FnExactAddCrl.tT14 (fun w44 HT HS HH => ?_)
 (try clear F)
 refine drq_of [(0, some 54), (1, some 55)] ?_
 repeat (refine drt HT HH ?_)
 refine drq_end ?_
 refine dr1 2 HT fun K hK => ?_
 refine go_cl3 HS (laws_toStore.calls ht47.out (HS.ro gp0) lp0 (HS.ro gp1) lp1 (HS.ro gp2) lp2) Tryz.func13 ?_; clear HS; intro v49 v52 v54 wt47 HS F; obtain ⟨B49, d49, rfl, m49⟩ := HS.form 20 rfl; obtain ⟨B52, d52, rfl, m52⟩ := HS.form 21 rfl; obtain ⟨B54, d54, rfl, m54⟩ := HS.form 22 rfl
 refine nrm 56 hK ⟨_, HS⟩ (fun HH => ?_); clear hK K
 refine dr1 3 HT fun K hK => ?_
 refine go_cl HS (laws_eqStore.calls ht57.out (HS.rd 10 rfl) m15 (HS.rd 11 rfl) m16 (HS.rd 12 rfl) m17 (HS.rd 20 rfl) m49 (HS.rd 21 rfl) m52 (HS.rd 22 rfl) m54) Tryz.func15 ?_; clear HS; intro wt57 HS F
 refine nrm 57 hK ⟨_, HS⟩ (fun HH => ?_); clear hK K
 refine drq_of [(4, some 58)] ?_
 repeat (refine drp HT ?_)
 refine drq_end ?_
 refine done_ (done_of HT.out (by kernel_rfl)) ?_
 (try clear F)
 have F := HS.boxes; simp only [bxn] at F
 replace H := znifb H; rcases H with ⟨c46, H⟩ | ⟨c46, H⟩
 case inl =>
  subst c46
  (try simp only [dcn, dcu, dcf])
  obtain rfl := zsome H
  go_wp2
  go_ret
  exact HS.pk
 subst c46
 (try simp only [dcn, dcu, dcf])
 (try go_wp2)
 replace H := zbind H; obtain ⟨t60, ht60, H⟩ := H
 replace H := zbind H; obtain ⟨t65, ht65, H⟩ := H
 refine dr_start [] HS #[false, false, false, false, false] (by kernel_rfl) rfl rfl laws_FnExactAddCrl.tT16 (fun w48 HT HS HH => ?_)
 (try clear F)
 refine drq_of [(0, some 59), (1, some 60)] ?_
 repeat (refine drt HT HH ?_)
 refine drq_end ?_
 refine dr1 2 HT fun K hK => ?_
 refine go_cl1 HS (laws_toCrl.calls ht60.out (HS.ro gp3) lp3) Tryz.func28 ?_; clear HS; intro v62 wt60 HS F; obtain ⟨B62, d62, rfl, m62⟩ := HS.form 23 rfl
 refine nrm 61 hK ⟨_, HS⟩ (fun HH => ?_); clear hK K
 refine dr1 3 HT fun K hK => ?_
 refine go_cl HS (laws_eqCrl.calls ht65.out (HS.rd 14 rfl) m24 (HS.rd 23 rfl) m62) Tryz.func30 ?_; clear HS; intro wt65 HS F
 refine nrm 62 hK ⟨_, HS⟩ (fun HH => ?_); clear hK K
 refine drq_of [(4, some 63)] ?_
 repeat (refine drp HT ?_)
 refine drq_end ?_
 refine done_ (done_of HT.out (by kernel_rfl)) ?_
 (try clear F)
 have F := HS.boxes; simp only [bxn] at F
 replace H := znifb H; rcases H with ⟨c50, H⟩ | ⟨c50, H⟩
 case inl =>
  subst c50
  (try simp only [dcn, dcu, dcf])
  obtain rfl := zsome H
  go_wp2
  go_ret
  exact HS.pk
 subst c50
 (try simp only [dcn, dcu, dcf])
 replace H := zbind H; obtain ⟨t51, ht51, H⟩ := H
 replace H := zbind H; obtain ⟨t53, ht53, H⟩ := H
 replace H := zif H; rcases H with ⟨c55, H⟩ | ⟨c55, H⟩
 case inl =>
  obtain rfl := zsome H
  go_wp2_with (first | ((with_reducible refine gd 66 rfl ?_); refine HS.lend [10, 11, 12] (by decide) [.own (Zd.slice 91 q91) t14.f0 [.slice B15 t14.f0.length d15], .own (Zd.slice 81 q81) t14.f1 [.slice B16 t14.f1.length d16], .own (Zd.slice 115 q115) t14.f2 [.slice B17 t14.f2.length d17]] rfl (fun A' HL HD HA HB => ?_); refine ev_lc (laws_markStore.calls ht51.out HA) (fun _ HQ => HB _ _ HQ (Nat.le_of_ble_eq_true rfl)) Tryz.func31 ?_; clear HS HA HB HL HD; intro wt51 HS F) | ((with_reducible refine gd 69 rfl ?_); refine HS.lend [14] (by decide) [.own (Zd.slice 238 q238) t23.f5 [.slice B24 t23.f5.length d24]] rfl (fun A' HL HD HA HB => ?_); refine ev_lc (laws_markCrl.calls ht53.out HA) (fun _ HQ => HB _ _ HQ (Nat.le_of_ble_eq_true rfl)) Tryz.func32 ?_; clear HS HA HB HL HD; intro wt53 HS F))
  go_ret
  exact HS.pk
 replace H := zbind H; obtain ⟨t56, ht56, H⟩ := H
 replace H := znifb H; rcases H with ⟨c58, H⟩ | ⟨c58, H⟩
 case inl =>
  subst c58
  obtain rfl := zsome H
  go_wp2_with (first | ((with_reducible refine gd 66 rfl ?_); refine HS.lend [10, 11, 12] (by decide) [.own (Zd.slice 91 q91) t14.f0 [.slice B15 t14.f0.length d15], .own (Zd.slice 81 q81) t14.f1 [.slice B16 t14.f1.length d16], .own (Zd.slice 115 q115) t14.f2 [.slice B17 t14.f2.length d17]] rfl (fun A' HL HD HA HB => ?_); refine ev_lc (laws_markStore.calls ht51.out HA) (fun _ HQ => HB _ _ HQ (Nat.le_of_ble_eq_true rfl)) Tryz.func31 ?_; clear HS HA HB HL HD; intro wt51 HS F) | ((with_reducible refine gd 69 rfl ?_); refine HS.lend [14] (by decide) [.own (Zd.slice 238 q238) t23.f5 [.slice B24 t23.f5.length d24]] rfl (fun A' HL HD HA HB => ?_); refine ev_lc (laws_markCrl.calls ht53.out HA) (fun _ HQ => HB _ _ HQ (Nat.le_of_ble_eq_true rfl)) Tryz.func32 ?_; clear HS HA HB HL HD; intro wt53 HS F) | ((with_reducible refine gd 75 rfl ?_); refine gg ?_; refine ev_cl HS (laws_eqStore.calls ht56.out (HS.rd 16 rfl) m31 (HS.rd 17 rfl) m32 (HS.rd 18 rfl) m33 (HS.rd 6 rfl) m36 (HS.rd 7 rfl) m38 (HS.rd 8 rfl) m40) Tryz.func15 ?_; clear HS; intro wt56 HS F))
  go_ret
  exact HS.pk
 subst c58
 replace H := zbind H; obtain ⟨t59, ht59, H⟩ := H
 replace H := zbind H; obtain ⟨t61, ht61, H⟩ := H
 go_upto_if 90 with (first | ((with_reducible refine gd 66 rfl ?_); refine HS.lend [10, 11, 12] (by decide) [.own (Zd.slice 91 q91) t14.f0 [.slice B15 t14.f0.length d15], .own (Zd.slice 81 q81) t14.f1 [.slice B16 t14.f1.length d16], .own (Zd.slice 115 q115) t14.f2 [.slice B17 t14.f2.length d17]] rfl (fun A' HL HD HA HB => ?_); refine ev_lc (laws_markStore.calls ht51.out HA) (fun _ HQ => HB _ _ HQ (Nat.le_of_ble_eq_true rfl)) Tryz.func31 ?_; clear HS HA HB HL HD; intro wt51 HS F) | ((with_reducible refine gd 69 rfl ?_); refine HS.lend [14] (by decide) [.own (Zd.slice 238 q238) t23.f5 [.slice B24 t23.f5.length d24]] rfl (fun A' HL HD HA HB => ?_); refine ev_lc (laws_markCrl.calls ht53.out HA) (fun _ HQ => HB _ _ HQ (Nat.le_of_ble_eq_true rfl)) Tryz.func32 ?_; clear HS HA HB HL HD; intro wt53 HS F) | ((with_reducible refine gd 75 rfl ?_); refine gg ?_; refine ev_cl HS (laws_eqStore.calls ht56.out (HS.rd 16 rfl) m31 (HS.rd 17 rfl) m32 (HS.rd 18 rfl) m33 (HS.rd 6 rfl) m36 (HS.rd 7 rfl) m38 (HS.rd 8 rfl) m40) Tryz.func15 ?_; clear HS; intro wt56 HS F) | ((with_reducible refine gd 85 rfl ?_); refine HS.lend [16, 17, 18] (by decide) [.own (Zd.slice 91 q91) t30.1.f0 [.slice B31 t30.1.f0.length d31], .own (Zd.slice 81 q81) t30.1.f1 [.slice B32 t30.1.f1.length d32], .own (Zd.slice 115 q115) t30.1.f2 [.slice B33 t30.1.f2.length d33]] rfl (fun A' HL HD HA HB => ?_); refine ev_lc (laws_markStore.calls ht59.out HA) (fun _ HQ => HB _ _ HQ (Nat.le_of_ble_eq_true rfl)) Tryz.func31 ?_; clear HS HA HB HL HD; intro wt59 HS F) | ((with_reducible refine gd 88 rfl ?_); refine ev_cl HS (laws_heldStore.calls ht61.out (HS.rd 16 rfl) m31 (HS.rd 17 rfl) m32 (HS.rd 18 rfl) m33) Tryz.func33 ?_; clear HS; intro wt61 HS F))
 replace H := zif H; rcases H with ⟨c63, H⟩ | ⟨c63, H⟩
 case inl =>
  (try simp only [c63, dcn])
  obtain rfl := zsome H
  go_wp2
  go_ret
  exact HS.pk
 (try simp only [c63, dcn])
 replace H := znif' H; rcases H with ⟨c64, H⟩ | ⟨c64, H⟩
 case inl =>
  have c64a := beq_eq_false_iff_ne.mpr c64
  have c64b := bne_iff_ne.mpr c64
  clear c64
  (try simp only [c64a, c64b, dcn])
  obtain rfl := zsome H
  go_wp2
  go_ret
  exact HS.pk
 have c64a := beq_iff_eq.mpr c64
 have c64b := bne_eq_false_iff_eq.mpr c64
 clear c64
 (try simp only [c64a, c64b, dcn])
 (try go_wp2)
 replace H := zbind H; obtain ⟨t67, ht67, H⟩ := H
 replace H := zbind H; obtain ⟨t77, ht77, H⟩ := H
 replace H := zbind H; obtain ⟨t79, ht79, H⟩ := H
 refine dr_start [9] HS #[false, false, false, false, false, false, false, false, false, false, false] (by kernel_rfl) rfl rfl laws_FnExactAddCrl.tT31 (fun w66 HT HS HH => ?_)
 (try clear F)
 refine join_ 0 #[true, true, true, true, true, true, true, true, true, true, true] (fun ((v69, v73, v76, v78, v80, v82, v83, g15) : Value × Value × Value × Value × Value × Value × Value × Nat) => ([(95, .agg #[.slice Ap0 a0.f0.length cp0, .slice Ap1 a0.f1.length cp1, .slice Ap2 a0.f2.length cp2]), (96, .agg #[v69, v73, v76]), (97, .agg #[.string a1.f0, .int .i64 a1.f1, .int .i64 a1.f2, .int .i64 a1.f3, .int .i64 a1.f4, .slice Ap3 a1.f5.length cp3, .string a1.f6]), (98, .agg #[.string t77.f0, .int .i64 t77.f1, .int .i64 t77.f2, .int .i64 t77.f3, .int .i64 t77.f4, v78, .string t77.f6]), (99, .tuple #[.agg #[v80, v82, v83], .bool t79.2]), (94, .tuple #[.agg #[v80, v82, v83], .bool t79.2]), (100, .agg #[v80, v82, v83]), (101, .bool t79.2), (15, .pointer (some ⟨g15, 0, none⟩)), (16, .bool t79.2)] : List (Tmp × Value))) (fun ((v69, v73, v76, v78, v80, v82, v83, g15) : Value × Value × Value × Value × Value × Value × Value × Nat) w' => Hp noFP w w' [.box g2 [.slice Ap0 a0.f0.length cp0, .slice Ap1 a0.f1.length cp1, .slice Ap2 a0.f2.length cp2] 26, .box g3 [.string a1.f0, .int .i64 a1.f1, .int .i64 a1.f2, .int .i64 a1.f3, .int .i64 a1.f4, .slice Ap3 a1.f5.length cp3, .string a1.f6] 75, .own (Zd.slice 91 q91) t18.f0 [.slice B19 t18.f0.length d19], .own (Zd.slice 81 q81) t18.f1 [.slice B20 t18.f1.length d20], .own (Zd.slice 115 q115) t18.f2 [.slice B22 t18.f2.length d22], .own (Zd.slice 238 q238) t25.f5 [.slice B34 t25.f5.length d34], .own (Zd.slice 91 q91) t35.1.f0 [.slice B36 t35.1.f0.length d36], .own (Zd.slice 81 q81) t35.1.f1 [.slice B38 t35.1.f1.length d38], .own (Zd.slice 115 q115) t35.1.f2 [.slice B40 t35.1.f2.length d40], .box g6 [.slice B36 t35.1.f0.length d36, .slice B38 t35.1.f1.length d38, .slice B40 t35.1.f2.length d40] 33, .own (Zd.slice 91 q91) t51.2.1 [.slice B15 t14.f0.length d15], .own (Zd.slice 81 q81) t51.2.2.1 [.slice B16 t14.f1.length d16], .own (Zd.slice 115 q115) t51.2.2.2 [.slice B17 t14.f2.length d17], .box g8 [.slice B15 t14.f0.length d15, .slice B16 t14.f1.length d16, .slice B17 t14.f2.length d17] 33, .own (Zd.slice 238 q238) t53.2 [.slice B24 t23.f5.length d24], .box g9 [.string t23.f0, .int .i64 t23.f1, .int .i64 t23.f2, .int .i64 t23.f3, .int .i64 t23.f4, .slice B24 t23.f5.length d24, .string t23.f6] 81, .own (Zd.slice 91 q91) t59.2.1 [.slice B31 t30.1.f0.length d31], .own (Zd.slice 81 q81) t59.2.2.1 [.slice B32 t30.1.f1.length d32], .own (Zd.slice 115 q115) t59.2.2.2 [.slice B33 t30.1.f2.length d33], .box g10 [.slice B31 t30.1.f0.length d31, .slice B32 t30.1.f1.length d32, .slice B33 t30.1.f2.length d33] 33, .own (Zd.slice 91 q91) t47.f0 [.slice B49 t47.f0.length d49], .own (Zd.slice 81 q81) t47.f1 [.slice B52 t47.f1.length d52], .own (Zd.slice 115 q115) t47.f2 [.slice B54 t47.f2.length d54], .own (Zd.slice 238 q238) t60.f5 [.slice B62 t60.f5.length d62], .own (Zd.slice 91 q91) t67.f0 [v69], .own (Zd.slice 81 q81) t67.f1 [v73], .own (Zd.slice 115 q115) t67.f2 [v76], .own (Zd.slice 238 q238) t77.f5 [v78], .own (Zd.slice 91 q91) t79.1.f0 [v80], .own (Zd.slice 81 q81) t79.1.f1 [v82], .own (Zd.slice 115 q115) t79.1.f2 [v83], .box g15 [v80, v82, v83] 33]) ?_ ?_
 rotate_left
 · intro hJ
   refine drq_of [(0, some 95), (2, some 97)] ?_
   repeat (refine drt HT HH ?_)
   refine drq_end ?_
   refine dr_any [1, 8] HT (by kernel_rfl) (by decide) (AllReadyL.cons rfl (by decide) (fun K hK => ?_) (AllReadyL.cons rfl (by decide) (fun K hK => ?_) AllReadyL.nil))
   · refine go_cl3 HS (laws_toStore.calls ht67.out (HS.ro gp0) lp0 (HS.ro gp1) lp1 (HS.ro gp2) lp2) Tryz.func13 ?_; clear HS; intro v69 v73 v76 wt67 HS F; obtain ⟨B69, d69, rfl, m69⟩ := HS.form 24 rfl; obtain ⟨B73, d73, rfl, m73⟩ := HS.form 25 rfl; obtain ⟨B76, d76, rfl, m76⟩ := HS.form 26 rfl
     refine nrm 96 hK ⟨_, HS⟩ (fun HH => ?_); clear hK K
     refine dr_any [3, 8] HT (by kernel_rfl) (by decide) (AllReadyL.cons rfl (by decide) (fun K hK => ?_) (AllReadyL.cons rfl (by decide) (fun K hK => ?_) AllReadyL.nil))
     · refine go_cl1 HS (laws_toCrl.calls ht77.out (HS.ro gp3) lp3) Tryz.func28 ?_; clear HS; intro v78 wt77 HS F; obtain ⟨B78, d78, rfl, m78⟩ := HS.form 27 rfl
       refine nrm 98 hK ⟨_, HS⟩ (fun HH => ?_); clear hK K
       refine dr_any [4, 8] HT (by kernel_rfl) (by decide) (AllReadyL.cons rfl (by decide) (fun K hK => ?_) (AllReadyL.cons rfl (by decide) (fun K hK => ?_) AllReadyL.nil))
       · refine go_cl3 HS (impl_AddCrl.calls ht79.out (HS.rd 24 rfl) m69 (HS.rd 25 rfl) m73 (HS.rd 26 rfl) m76 (HS.rd 27 rfl) m78 (HS.keepc hgM)) Tryz.func29 ?_; clear HS; intro v80 v82 v83 wt79 HS F; obtain ⟨B80, d80, rfl, m80⟩ := HS.form 28 rfl; obtain ⟨B82, d82, rfl, m82⟩ := HS.form 29 rfl; obtain ⟨B83, d83, rfl, m83⟩ := HS.form 30 rfl
         refine nrm 99 hK ⟨_, HS⟩ (fun HH => ?_); clear hK K
         refine drq_of [(5, some 94), (6, some 100), (7, some 101)] ?_
         repeat (refine drp HT ?_)
         refine drq_end ?_
         refine dr1 8 HT fun K hK => ?_
         refine if_bx HS ?_; clear HS; intro g15 w15 HS F
         refine nrm 15 hK ⟨_, HS⟩ (fun HH => ?_); clear hK K
         refine dr_last 9 HT rfl (by kernel_rfl) (by decide) (fun K hK => ?_)
         refine if_st 31 0 HS (seg := [.slice B80 t79.1.f0.length d80, .slice B82 t79.1.f1.length d82, .slice B83 t79.1.f2.length d83]) ?_; clear HS; intro w84 HS F
         refine hK.out _ _ ?_
         clear hK K
         refine drq_of [(10, some 16)] ?_
         repeat (refine drp HT ?_)
         refine drq_end ?_
         refine norm_ ?_ (hJ (.slice B69 t67.f0.length d69, .slice B73 t67.f1.length d73, .slice B76 t67.f2.length d76, .slice B78 t77.f5.length d78, .slice B80 t79.1.f0.length d80, .slice B82 t79.1.f1.length d82, .slice B83 t79.1.f2.length d83, g15) _ (HS.arr [some 0, some 1, some 2, some 3, some 4, some 5, some 6, some 7, some 8, some 9, some 10, some 11, some 12, some 13, some 14, some 15, some 16, some 17, some 18, some 19, some 20, some 21, some 22, some 23, some 24, some 25, some 26, some 27, some 28, some 29, some 30, some 31] (by decide)))
         simp only [putAll, Act.put, ptn]
         (try rfl)
       · refine if_bx HS ?_; clear HS; intro g15 w15 HS F
         refine nrm 15 hK ⟨_, HS⟩ (fun HH => ?_); clear hK K
         refine dr1 4 HT fun K hK => ?_
         refine go_cl3 HS (impl_AddCrl.calls ht79.out (HS.rd 24 rfl) m69 (HS.rd 25 rfl) m73 (HS.rd 26 rfl) m76 (HS.rd 27 rfl) m78 (HS.keepc hgM)) Tryz.func29 ?_; clear HS; intro v80 v82 v83 wt79 HS F; obtain ⟨B80, d80, rfl, m80⟩ := HS.form 29 rfl; obtain ⟨B82, d82, rfl, m82⟩ := HS.form 30 rfl; obtain ⟨B83, d83, rfl, m83⟩ := HS.form 31 rfl
         refine nrm 99 hK ⟨_, HS⟩ (fun HH => ?_); clear hK K
         refine drq_of [(5, some 94), (6, some 100), (7, some 101)] ?_
         repeat (refine drp HT ?_)
         refine drq_end ?_
         refine dr_last 9 HT rfl (by kernel_rfl) (by decide) (fun K hK => ?_)
         refine if_st 28 0 HS (seg := [.slice B80 t79.1.f0.length d80, .slice B82 t79.1.f1.length d82, .slice B83 t79.1.f2.length d83]) ?_; clear HS; intro w84 HS F
         refine hK.out _ _ ?_
         clear hK K
         refine drq_of [(10, some 16)] ?_
         repeat (refine drp HT ?_)
         refine drq_end ?_
         refine norm_ ?_ (hJ (.slice B69 t67.f0.length d69, .slice B73 t67.f1.length d73, .slice B76 t67.f2.length d76, .slice B78 t77.f5.length d78, .slice B80 t79.1.f0.length d80, .slice B82 t79.1.f1.length d82, .slice B83 t79.1.f2.length d83, g15) _ (HS.arr [some 0, some 1, some 2, some 3, some 4, some 5, some 6, some 7, some 8, some 9, some 10, some 11, some 12, some 13, some 14, some 15, some 16, some 17, some 18, some 19, some 20, some 21, some 22, some 23, some 24, some 25, some 26, some 27, some 29, some 30, some 31, some 28] (by decide)))
         simp only [putAll, Act.put, ptn]
         (try rfl)
     · refine if_bx HS ?_; clear HS; intro g15 w15 HS F
       refine nrm 15 hK ⟨_, HS⟩ (fun HH => ?_); clear hK K
       refine dr1 3 HT fun K hK => ?_
       refine go_cl1 HS (laws_toCrl.calls ht77.out (HS.ro gp3) lp3) Tryz.func28 ?_; clear HS; intro v78 wt77 HS F; obtain ⟨B78, d78, rfl, m78⟩ := HS.form 28 rfl
       refine nrm 98 hK ⟨_, HS⟩ (fun HH => ?_); clear hK K
       refine dr1 4 HT fun K hK => ?_
       refine go_cl3 HS (impl_AddCrl.calls ht79.out (HS.rd 24 rfl) m69 (HS.rd 25 rfl) m73 (HS.rd 26 rfl) m76 (HS.rd 28 rfl) m78 (HS.keepc hgM)) Tryz.func29 ?_; clear HS; intro v80 v82 v83 wt79 HS F; obtain ⟨B80, d80, rfl, m80⟩ := HS.form 29 rfl; obtain ⟨B82, d82, rfl, m82⟩ := HS.form 30 rfl; obtain ⟨B83, d83, rfl, m83⟩ := HS.form 31 rfl
       refine nrm 99 hK ⟨_, HS⟩ (fun HH => ?_); clear hK K
       refine drq_of [(5, some 94), (6, some 100), (7, some 101)] ?_
       repeat (refine drp HT ?_)
       refine drq_end ?_
       refine dr_last 9 HT rfl (by kernel_rfl) (by decide) (fun K hK => ?_)
       refine if_st 27 0 HS (seg := [.slice B80 t79.1.f0.length d80, .slice B82 t79.1.f1.length d82, .slice B83 t79.1.f2.length d83]) ?_; clear HS; intro w84 HS F
       refine hK.out _ _ ?_
       clear hK K
       refine drq_of [(10, some 16)] ?_
       repeat (refine drp HT ?_)
       refine drq_end ?_
       refine norm_ ?_ (hJ (.slice B69 t67.f0.length d69, .slice B73 t67.f1.length d73, .slice B76 t67.f2.length d76, .slice B78 t77.f5.length d78, .slice B80 t79.1.f0.length d80, .slice B82 t79.1.f1.length d82, .slice B83 t79.1.f2.length d83, g15) _ (HS.arr [some 0, some 1, some 2, some 3, some 4, some 5, some 6, some 7, some 8, some 9, some 10, some 11, some 12, some 13, some 14, some 15, some 16, some 17, some 18, some 19, some 20, some 21, some 22, some 23, some 24, some 25, some 26, some 28, some 29, some 30, some 31, some 27] (by decide)))
       simp only [putAll, Act.put, ptn]
       (try rfl)
   · refine if_bx HS ?_; clear HS; intro g15 w15 HS F
     refine nrm 15 hK ⟨_, HS⟩ (fun HH => ?_); clear hK K
     refine dr1 1 HT fun K hK => ?_
     refine go_cl3 HS (laws_toStore.calls ht67.out (HS.ro gp0) lp0 (HS.ro gp1) lp1 (HS.ro gp2) lp2) Tryz.func13 ?_; clear HS; intro v69 v73 v76 wt67 HS F; obtain ⟨B69, d69, rfl, m69⟩ := HS.form 25 rfl; obtain ⟨B73, d73, rfl, m73⟩ := HS.form 26 rfl; obtain ⟨B76, d76, rfl, m76⟩ := HS.form 27 rfl
     refine nrm 96 hK ⟨_, HS⟩ (fun HH => ?_); clear hK K
     refine dr1 3 HT fun K hK => ?_
     refine go_cl1 HS (laws_toCrl.calls ht77.out (HS.ro gp3) lp3) Tryz.func28 ?_; clear HS; intro v78 wt77 HS F; obtain ⟨B78, d78, rfl, m78⟩ := HS.form 28 rfl
     refine nrm 98 hK ⟨_, HS⟩ (fun HH => ?_); clear hK K
     refine dr1 4 HT fun K hK => ?_
     refine go_cl3 HS (impl_AddCrl.calls ht79.out (HS.rd 25 rfl) m69 (HS.rd 26 rfl) m73 (HS.rd 27 rfl) m76 (HS.rd 28 rfl) m78 (HS.keepc hgM)) Tryz.func29 ?_; clear HS; intro v80 v82 v83 wt79 HS F; obtain ⟨B80, d80, rfl, m80⟩ := HS.form 29 rfl; obtain ⟨B82, d82, rfl, m82⟩ := HS.form 30 rfl; obtain ⟨B83, d83, rfl, m83⟩ := HS.form 31 rfl
     refine nrm 99 hK ⟨_, HS⟩ (fun HH => ?_); clear hK K
     refine drq_of [(5, some 94), (6, some 100), (7, some 101)] ?_
     repeat (refine drp HT ?_)
     refine drq_end ?_
     refine dr_last 9 HT rfl (by kernel_rfl) (by decide) (fun K hK => ?_)
     refine if_st 24 0 HS (seg := [.slice B80 t79.1.f0.length d80, .slice B82 t79.1.f1.length d82, .slice B83 t79.1.f2.length d83]) ?_; clear HS; intro w84 HS F
     refine hK.out _ _ ?_
     clear hK K
     refine drq_of [(10, some 16)] ?_
     repeat (refine drp HT ?_)
     refine drq_end ?_
     refine norm_ ?_ (hJ (.slice B69 t67.f0.length d69, .slice B73 t67.f1.length d73, .slice B76 t67.f2.length d76, .slice B78 t77.f5.length d78, .slice B80 t79.1.f0.length d80, .slice B82 t79.1.f1.length d82, .slice B83 t79.1.f2.length d83, g15) _ (HS.arr [some 0, some 1, some 2, some 3, some 4, some 5, some 6, some 7, some 8, some 9, some 10, some 11, some 12, some 13, some 14, some 15, some 16, some 17, some 18, some 19, some 20, some 21, some 22, some 23, some 25, some 26, some 27, some 28, some 29, some 30, some 31, some 24] (by decide)))
     simp only [putAll, Act.put, ptn]
     (try rfl)
 rintro ⟨v69, v73, v76, v78, v80, v82, v83, g15⟩ w85 HS
 obtain ⟨B69, d69, rfl, m69⟩ := HS.form 24 rfl
 obtain ⟨B73, d73, rfl, m73⟩ := HS.form 25 rfl
 obtain ⟨B76, d76, rfl, m76⟩ := HS.form 26 rfl
 obtain ⟨B78, d78, rfl, m78⟩ := HS.form 27 rfl
 obtain ⟨B80, d80, rfl, m80⟩ := HS.form 28 rfl
 obtain ⟨B82, d82, rfl, m82⟩ := HS.form 29 rfl
 obtain ⟨B83, d83, rfl, m83⟩ := HS.form 30 rfl
 have F := HS.boxes; simp only [bxn] at F
 refine norm_ (a' := ?_) ?_ ?_
 rotate_left
 · simp only [putAll, Act.put, ptn]; rfl
 refine done_ (done_of HT.out (by kernel_rfl)) ?_
 replace H := zbind H; obtain ⟨t68, ht68, H⟩ := H
 replace H := znifb H; rcases H with ⟨c70, H⟩ | ⟨c70, H⟩
 case inl =>
  subst c70
  obtain rfl := zsome H
  go_wp2_with (first | ((with_reducible refine gd 104 rfl ?_); refine ev_cl HS (laws_eqStore.calls ht68.out (HS.rd 28 rfl) m80 (HS.rd 29 rfl) m82 (HS.rd 30 rfl) m83 (HS.rd 6 rfl) m36 (HS.rd 7 rfl) m38 (HS.rd 8 rfl) m40) Tryz.func15 ?_; clear HS; intro wt68 HS F))
  go_ret
  exact HS.pk
 subst c70
 go_upto_if 110 with (first | ((with_reducible refine gd 104 rfl ?_); refine ev_cl HS (laws_eqStore.calls ht68.out (HS.rd 28 rfl) m80 (HS.rd 29 rfl) m82 (HS.rd 30 rfl) m83 (HS.rd 6 rfl) m36 (HS.rd 7 rfl) m38 (HS.rd 8 rfl) m40) Tryz.func15 ?_; clear HS; intro wt68 HS F))
 replace H := znif' H; rcases H with ⟨c71, H⟩ | ⟨c71, H⟩
 case inl =>
  have c71a := beq_eq_false_iff_ne.mpr c71
  have c71b := bne_iff_ne.mpr c71
  clear c71
  (try simp only [c71a, c71b, dcn])
  obtain rfl := zsome H
  go_wp2
  go_ret
  exact HS.pk
 have c71a := beq_iff_eq.mpr c71
 have c71b := bne_eq_false_iff_eq.mpr c71
 clear c71
 (try simp only [c71a, c71b, dcn])
 replace H := zbind H; obtain ⟨t72, ht72, H⟩ := H
 go_upto_if 115 with (first | ((with_reducible refine gd 113 rfl ?_); refine ev_cl HS (laws_heldStore.calls ht72.out (HS.rd 16 rfl) m31 (HS.rd 17 rfl) m32 (HS.rd 18 rfl) m33) Tryz.func33 ?_; clear HS; intro wt72 HS F))
 replace H := zif H; rcases H with ⟨c74, H⟩ | ⟨c74, H⟩
 case inl =>
  (try simp only [c74, dcn])
  obtain rfl := zsome H
  go_wp2
  go_ret
  exact HS.pk
 (try simp only [c74, dcn])
 replace H := znif' H; rcases H with ⟨c75, H⟩ | ⟨c75, H⟩
 case inl =>
  have c75a := beq_eq_false_iff_ne.mpr c75
  have c75b := bne_iff_ne.mpr c75
  clear c75
  (try simp only [c75a, c75b, dcn])
  obtain rfl := zsome H
  go_wp2
  go_ret
  exact HS.pk
 have c75a := beq_iff_eq.mpr c75
 have c75b := bne_eq_false_iff_eq.mpr c75
 clear c75
 (try simp only [c75a, c75b, dcn])
 obtain rfl := zsome H
 go_wp2
 go_ret
 exact HS.pk
end Go.Proofs.YtacocpknielofaaGreatDoor.F

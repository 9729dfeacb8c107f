/- Functions of the program and of the law, and that their calls do what is written here. -/
import Derived.Test.YtacocpknielofaaGreatDoorZgFnExactStoreOkb
import Derived.Test.YtacocpknielofaaGreatDoorZgFnExactStoreOkc
namespace Go.Proofs.YtacocpknielofaaGreatDoor.F
open Go.RowKit Go.Proofs.YtacocpknielofaaGreatDoorW.PrintWords Go.Proofs.YtacocpknielofaaGreatDoorW.PrintLast Go.Proofs.YtacocpknielofaaGreatDoorW.PrintMore Go.Proofs.YtacocpknielofaaGreatDoor.Z
attribute [local go_sem] max2_int min2_int max_two min_two max_three min_three max_four min_four
set_option linter.unusedVariables false
set_option linter.unusedSimpArgs false
set_option maxRecDepth 100000
/-! ### spec_BodyItem: function 135 -/
def spec_BodyItem.f (k : Nat) (a0 : S91) : Option (S182) := ((spec_IntItem.f k a0.f3).bind fun t102001 => ((spec_IntItem.f k a0.f4).bind fun t105001 => ((spec_IntItem.f k a0.f0).bind fun t202001 => ((spec_TextItem.f a0.f1).bind fun t205001 => ((spec_TextItem.f a0.f2).bind fun t209001 => ((spec_l09Bytes.f a0.f5).bind fun t212001 => ((spec_l09Bool.f a0.f6).bind fun t215001 => ((spec_IntItem.f k a0.f7).bind fun t218001 => ((spec_IntItem.f k a0.f8).bind fun t221001 => ((spec_l09Ints.f k a0.f9).bind fun t224001 => ((spec_l09Texts.f k a0.f10).bind fun t227001 => ((spec_l09Texts.f k a0.f11).bind fun t230001 => (some (⟨48, (⟨#[]⟩ : ByteArray), ([t202001, t205001, (⟨48, (⟨#[]⟩ : ByteArray), ([t102001, t105001] : List S182)⟩ : S182), t209001, t212001, t215001, t218001, t221001, t224001, t227001, t230001] : List S182)⟩ : S182))))))))))))))
def spec_BodyItem.T1 : Bool × List (List Nat × List Nat) := (true, [([], []), ([0], [0]), ([1], [1]), ([], []), ([3], [3]), ([4, 2], [4]), ([2, 5], [2, 5]), ([6], [6]), ([], []), ([8, 7, 5, 0, 1, 2, 3, 4, 5, 6, 7, 8], [7, 8])])
theorem spec_BodyItem.tT1 : rtab .any (opsOf Tryz.f135 1) = spec_BodyItem.T1 := by kernel_rfl
def spec_BodyItem.T2 : Bool × List (List Nat × List Nat) := (true, [([], []), ([0], [0]), ([1], [1]), ([], []), ([3], [3]), ([4, 2], [4]), ([], []), ([], []), ([7], [7]), ([8, 5], [8]), ([], []), ([10], [10]), ([11, 9], [11]), ([], []), ([13], [13]), ([14, 12], [14]), ([], []), ([16], [16]), ([17, 15], [17]), ([], []), ([19], [19]), ([20, 18], [20]), ([], []), ([22], [22]), ([23, 21], [23]), ([], []), ([25], [25]), ([26, 24], [26]), ([], []), ([28], [28]), ([29, 27], [29]), ([2, 5, 6, 9, 12, 15, 18, 21, 24, 27, 30], [2, 5, 6, 9, 12, 15, 18, 21, 24, 27, 30]), ([31], [31]), ([32, 30, 0, 1, 2, 3, 4, 5, 6, 7, 8, 9, 10, 11, 12, 13, 14, 15, 16, 17, 18, 19, 20, 21, 22, 23, 24, 25, 26, 27, 28, 29, 30, 31, 32], [32])])
theorem spec_BodyItem.tT2 : rtab .any (opsOf Tryz.f135 2) = spec_BodyItem.T2 := by kernel_rfl
set_option maxHeartbeats 16000000 in
theorem spec_BodyItem.calls {k : Nat} {a0 : S91} {Ap0 : Option Addr} {np0 cp0 : Nat} {Ap1 : Option Addr} {np1 cp1 : Nat} {Ap2 : Option Addr} {np2 cp2 : Nat} {r : S182} {w : World} (h : spec_BodyItem.f k a0 = some r) (gp0 : (Kd.int .i64).C w Ap0 np0 a0.f9) (lp0 : np0 ≤ cp0) (gp1 : Kd.string.C w Ap1 np1 a0.f10) (lp1 : np1 ≤ cp1) (gp2 : Kd.string.C w Ap2 np2 a0.f11) (lp2 : np2 ≤ cp2) :
    Calls Tryz.prog 135 #[.agg #[.int .i64 a0.f0, .string a0.f1, .string a0.f2, .int .i64 a0.f3, .int .i64 a0.f4, .string a0.f5, .bool a0.f6, .int .i64 a0.f7, .int .i64 a0.f8, .slice Ap0 np0 cp0, .slice Ap1 np1 cp1, .slice Ap2 np2 cp2, .string a0.f12]] w (fun e w' => ∃ v0_ : Value, e = .returned (.agg #[.int .i64 r.f0, .string r.f1, v0_]) ∧ Hp noFP w w' [.own (Zd.slice 182 q182) r.f2 [v0_]]) := by
 obtain rfl := C_len gp0
 obtain rfl := C_len gp1
 obtain rfl := C_len gp2
 have HS := Hp.start w
 have H := Aside0.mk h
 clear h
 unfold spec_BodyItem.f at H
 go_enter Tryz.func135, Tryz.ntmps135
 go_wp2_with (first | ((with_reducible refine gate_dst (N := 1) rfl ?_); refine ev_bx HS ?_; clear HS; (try clear F); intro g1 w1 HS F) | ((with_reducible refine gate_dst (N := 2) rfl ?_); refine ev_bx HS ?_; clear HS; (try clear F); intro g2 w2 HS F))
 replace H := zbind H; obtain ⟨t102001, ht102001, H⟩ := H
 replace H := zbind H; obtain ⟨t105001, ht105001, H⟩ := H
 refine dr_start [9] HS #[false, false, false, false, false, false, false, false, false, false] (by kernel_rfl) rfl rfl spec_BodyItem.tT1 (fun w6 HT HS HH => ?_)
 (try clear F)
 refine join_ 0 #[true, true, true, true, true, true, true, true, true, true] (fun ((v102002, v105002, v106001, g3) : Value × Value × Value × Nat) => ([(4, .pointer (some ⟨g1, 3, none⟩)), (5, .int .i64 a0.f3), (6, .agg #[.int .i64 t102001.f0, .string t102001.f1, v102002]), (7, .pointer (some ⟨g1, 4, none⟩)), (8, .int .i64 a0.f4), (9, .agg #[.int .i64 t105001.f0, .string t105001.f1, v105002]), (10, v106001), (11, .agg #[.int .i64 48, .string (⟨#[]⟩ : ByteArray), v106001]), (3, .pointer (some ⟨g3, 0, none⟩))] : List (Tmp × Value))) (fun ((v102002, v105002, v106001, g3) : Value × Value × Value × Nat) w' => Hp noFP w w' [.box g1 [.int .i64 a0.f0, .string a0.f1, .string a0.f2, .int .i64 a0.f3, .int .i64 a0.f4, .string a0.f5, .bool a0.f6, .int .i64 a0.f7, .int .i64 a0.f8, .slice Ap0 a0.f9.length cp0, .slice Ap1 a0.f10.length cp1, .slice Ap2 a0.f11.length cp2, .string a0.f12] 91, .box g2 [.int .i64 0, .string (⟨#[]⟩ : ByteArray), .slice none 0 0] 182, .emp, .emp, .own (Zd.slice 182 q182) ([t102001, t105001] : List S182) [v106001], .box g3 [.int .i64 48, .string (⟨#[]⟩ : ByteArray), v106001] 182]) ?_ ?_
 rotate_left
 · intro hJ
   refine drq_of [(0, some 4), (1, some 5), (3, some 7), (4, some 8)] ?_
   repeat (first | refine drp HT ?_ | refine drt HT HH ?_)
   refine drq_end ?_
   refine dr_any [2, 8] HT (by kernel_rfl) (by decide) (AllReadyL.cons rfl (by decide) (fun K hK => ?_) (AllReadyL.cons rfl (by decide) (fun K hK => ?_) AllReadyL.nil))
   · refine go_cl1 HS (spec_IntItem.calls ht102001.out) Tryz.func192 ?_; clear HS; (try clear F); intro v102002 wt102001 HS F; obtain ⟨B102002, d102002, rfl, m102002⟩ := HS.form 2 rfl
     refine nrm 6 hK ⟨_, HS⟩ (fun HH => ?_); clear hK K
     refine dr_any [5, 8] HT (by kernel_rfl) (by decide) (AllReadyL.cons rfl (by decide) (fun K hK => ?_) (AllReadyL.cons rfl (by decide) (fun K hK => ?_) AllReadyL.nil))
     · refine go_cl1 HS (spec_IntItem.calls ht105001.out) Tryz.func192 ?_; clear HS; (try clear F); intro v105002 wt105001 HS F; obtain ⟨B105002, d105002, rfl, m105002⟩ := HS.form 3 rfl
       refine nrm 9 hK ⟨_, HS⟩ (fun HH => ?_); clear hK K
       refine dr_any [6, 8] HT (by kernel_rfl) (by decide) (AllReadyL.cons rfl (by decide) (fun K hK => ?_) (AllReadyL.cons rfl (by decide) (fun K hK => ?_) AllReadyL.nil))
       · refine if_wp (by rfl) ?_; refine wp_lit q182 [2, 3] ([t102001, t105001] : List S182) ([.int .i64 t102001.f0, .string t102001.f1, .slice B102002 t102001.f2.length d102002] ++ ([.int .i64 t105001.f0, .string t105001.f1, .slice B105002 t105001.f2.length d105002] ++ [])) HS (by first | (go_simp; done) | (go_simp; rfl)) rfl rfl (Nat.le_of_ble_eq_true rfl) (MadeL.cons (js1 := [2]) (c := [.int .i64 t102001.f0, .string t102001.f1, .slice B102002 t102001.f2.length d102002]) rfl (fun S hd hh => q182_pack (x := t102001) hd (hh 2 (.own (Zd.slice 182 q182) t102001.f2 [.slice B102002 t102001.f2.length d102002]) rfl) (by decide)) (MadeL.cons (js1 := [3]) (c := [.int .i64 t105001.f0, .string t105001.f1, .slice B105002 t105001.f2.length d105002]) rfl (fun S hd hh => q182_pack (x := t105001) hd (hh 3 (.own (Zd.slice 182 q182) t105001.f2 [.slice B105002 t105001.f2.length d105002]) rfl) (by decide)) MadeL.nil (by decide)) (by decide)) ?_; clear HS; (try clear F); intro v106001 w106001 HS; obtain ⟨B106001, d106001, rfl, m106001⟩ := HS.formn 2 4 rfl rfl
         (try simp only [hpn, hpm] at HS)
         have F := HS.boxes; simp only [bxn] at F
         refine nrm 10 hK ⟨_, HS⟩ (fun HH => ?_); clear hK K
         refine drq_of [(7, some 11)] ?_
         repeat (refine drp HT ?_)
         refine drq_end ?_
         refine dr1 8 HT fun K hK => ?_
         refine if_bx HS ?_; clear HS; (try clear F); intro g3 w3 HS F
         refine nrm 3 hK ⟨_, HS⟩ (fun HH => ?_); clear hK K
         refine dr_last 9 HT rfl (by kernel_rfl) (by decide) (fun K hK => ?_)
         refine if_st 5 0 HS (seg := [.int .i64 48, .string (⟨#[]⟩ : ByteArray), .slice B106001 2 d106001]) ?_; clear HS; (try clear F); intro w109001 HS F
         refine hK.out _ _ ?_
         clear hK K
         refine norm_ ?_ (hJ (.slice B102002 t102001.f2.length d102002, .slice B105002 t105001.f2.length d105002, .slice B106001 2 d106001, g3) _ (HS.arr [some 0, some 1, none, none, some 4, some 5] (by decide)))
         simp only [putAll, Act.put, ptn]
         (try rfl)
       · refine if_bx HS ?_; clear HS; (try clear F); intro g3 w3 HS F
         refine nrm 3 hK ⟨_, HS⟩ (fun HH => ?_); clear hK K
         refine dr1 6 HT fun K hK => ?_
         refine if_wp (by rfl) ?_; refine wp_lit q182 [2, 3] ([t102001, t105001] : List S182) ([.int .i64 t102001.f0, .string t102001.f1, .slice B102002 t102001.f2.length d102002] ++ ([.int .i64 t105001.f0, .string t105001.f1, .slice B105002 t105001.f2.length d105002] ++ [])) HS (by first | (go_simp; done) | (go_simp; rfl)) rfl rfl (Nat.le_of_ble_eq_true rfl) (MadeL.cons (js1 := [2]) (c := [.int .i64 t102001.f0, .string t102001.f1, .slice B102002 t102001.f2.length d102002]) rfl (fun S hd hh => q182_pack (x := t102001) hd (hh 2 (.own (Zd.slice 182 q182) t102001.f2 [.slice B102002 t102001.f2.length d102002]) rfl) (by decide)) (MadeL.cons (js1 := [3]) (c := [.int .i64 t105001.f0, .string t105001.f1, .slice B105002 t105001.f2.length d105002]) rfl (fun S hd hh => q182_pack (x := t105001) hd (hh 3 (.own (Zd.slice 182 q182) t105001.f2 [.slice B105002 t105001.f2.length d105002]) rfl) (by decide)) MadeL.nil (by decide)) (by decide)) ?_; clear HS; (try clear F); intro v106001 w106001 HS; obtain ⟨B106001, d106001, rfl, m106001⟩ := HS.formn 2 5 rfl rfl
         (try simp only [hpn, hpm] at HS)
         have F := HS.boxes; simp only [bxn] at F
         refine nrm 10 hK ⟨_, HS⟩ (fun HH => ?_); clear hK K
         refine drq_of [(7, some 11)] ?_
         repeat (refine drp HT ?_)
         refine drq_end ?_
         refine dr_last 9 HT rfl (by kernel_rfl) (by decide) (fun K hK => ?_)
         refine if_st 4 0 HS (seg := [.int .i64 48, .string (⟨#[]⟩ : ByteArray), .slice B106001 2 d106001]) ?_; clear HS; (try clear F); intro w109001 HS F
         refine hK.out _ _ ?_
         clear hK K
         refine norm_ ?_ (hJ (.slice B102002 t102001.f2.length d102002, .slice B105002 t105001.f2.length d105002, .slice B106001 2 d106001, g3) _ (HS.arr [some 0, some 1, none, none, some 5, some 4] (by decide)))
         simp only [putAll, Act.put, ptn]
         (try rfl)
     · refine if_bx HS ?_; clear HS; (try clear F); intro g3 w3 HS F
       refine nrm 3 hK ⟨_, HS⟩ (fun HH => ?_); clear hK K
       refine dr1 5 HT fun K hK => ?_
       refine go_cl1 HS (spec_IntItem.calls ht105001.out) Tryz.func192 ?_; clear HS; (try clear F); intro v105002 wt105001 HS F; obtain ⟨B105002, d105002, rfl, m105002⟩ := HS.form 4 rfl
       refine nrm 9 hK ⟨_, HS⟩ (fun HH => ?_); clear hK K
       refine dr1 6 HT fun K hK => ?_
       refine if_wp (by rfl) ?_; refine wp_lit q182 [2, 4] ([t102001, t105001] : List S182) ([.int .i64 t102001.f0, .string t102001.f1, .slice B102002 t102001.f2.length d102002] ++ ([.int .i64 t105001.f0, .string t105001.f1, .slice B105002 t105001.f2.length d105002] ++ [])) HS (by first | (go_simp; done) | (go_simp; rfl)) rfl rfl (Nat.le_of_ble_eq_true rfl) (MadeL.cons (js1 := [2]) (c := [.int .i64 t102001.f0, .string t102001.f1, .slice B102002 t102001.f2.length d102002]) rfl (fun S hd hh => q182_pack (x := t102001) hd (hh 2 (.own (Zd.slice 182 q182) t102001.f2 [.slice B102002 t102001.f2.length d102002]) rfl) (by decide)) (MadeL.cons (js1 := [4]) (c := [.int .i64 t105001.f0, .string t105001.f1, .slice B105002 t105001.f2.length d105002]) rfl (fun S hd hh => q182_pack (x := t105001) hd (hh 4 (.own (Zd.slice 182 q182) t105001.f2 [.slice B105002 t105001.f2.length d105002]) rfl) (by decide)) MadeL.nil (by decide)) (by decide)) ?_; clear HS; (try clear F); intro v106001 w106001 HS; obtain ⟨B106001, d106001, rfl, m106001⟩ := HS.formn 2 5 rfl rfl
       (try simp only [hpn, hpm] at HS)
       have F := HS.boxes; simp only [bxn] at F
       refine nrm 10 hK ⟨_, HS⟩ (fun HH => ?_); clear hK K
       refine drq_of [(7, some 11)] ?_
       repeat (refine drp HT ?_)
       refine drq_end ?_
       refine dr_last 9 HT rfl (by kernel_rfl) (by decide) (fun K hK => ?_)
       refine if_st 3 0 HS (seg := [.int .i64 48, .string (⟨#[]⟩ : ByteArray), .slice B106001 2 d106001]) ?_; clear HS; (try clear F); intro w109001 HS F
       refine hK.out _ _ ?_
       clear hK K
       refine norm_ ?_ (hJ (.slice B102002 t102001.f2.length d102002, .slice B105002 t105001.f2.length d105002, .slice B106001 2 d106001, g3) _ (HS.arr [some 0, some 1, none, none, some 5, some 3] (by decide)))
       simp only [putAll, Act.put, ptn]
       (try rfl)
   · refine if_bx HS ?_; clear HS; (try clear F); intro g3 w3 HS F
     refine nrm 3 hK ⟨_, HS⟩ (fun HH => ?_); clear hK K
     refine dr1 2 HT fun K hK => ?_
     refine go_cl1 HS (spec_IntItem.calls ht102001.out) Tryz.func192 ?_; clear HS; (try clear F); intro v102002 wt102001 HS F; obtain ⟨B102002, d102002, rfl, m102002⟩ := HS.form 3 rfl
     refine nrm 6 hK ⟨_, HS⟩ (fun HH => ?_); clear hK K
     refine dr1 5 HT fun K hK => ?_
     refine go_cl1 HS (spec_IntItem.calls ht105001.out) Tryz.func192 ?_; clear HS; (try clear F); intro v105002 wt105001 HS F; obtain ⟨B105002, d105002, rfl, m105002⟩ := HS.form 4 rfl
     refine nrm 9 hK ⟨_, HS⟩ (fun HH => ?_); clear hK K
     refine dr1 6 HT fun K hK => ?_
     refine if_wp (by rfl) ?_; refine wp_lit q182 [3, 4] ([t102001, t105001] : List S182) ([.int .i64 t102001.f0, .string t102001.f1, .slice B102002 t102001.f2.length d102002] ++ ([.int .i64 t105001.f0, .string t105001.f1, .slice B105002 t105001.f2.length d105002] ++ [])) HS (by first | (go_simp; done) | (go_simp; rfl)) rfl rfl (Nat.le_of_ble_eq_true rfl) (MadeL.cons (js1 := [3]) (c := [.int .i64 t102001.f0, .string t102001.f1, .slice B102002 t102001.f2.length d102002]) rfl (fun S hd hh => q182_pack (x := t102001) hd (hh 3 (.own (Zd.slice 182 q182) t102001.f2 [.slice B102002 t102001.f2.length d102002]) rfl) (by decide)) (MadeL.cons (js1 := [4]) (c := [.int .i64 t105001.f0, .string t105001.f1, .slice B105002 t105001.f2.length d105002]) rfl (fun S hd hh => q182_pack (x := t105001) hd (hh 4 (.own (Zd.slice 182 q182) t105001.f2 [.slice B105002 t105001.f2.length d105002]) rfl) (by decide)) MadeL.nil (by decide)) (by decide)) ?_; clear HS; (try clear F); intro v106001 w106001 HS; obtain ⟨B106001, d106001, rfl, m106001⟩ := HS.formn 2 5 rfl rfl
     (try simp only [hpn, hpm] at HS)
     have F := HS.boxes; simp only [bxn] at F
     refine nrm 10 hK ⟨_, HS⟩ (fun HH => ?_); clear hK K
     refine drq_of [(7, some 11)] ?_
     repeat (refine drp HT ?_)
     refine drq_end ?_
     refine dr_last 9 HT rfl (by kernel_rfl) (by decide) (fun K hK => ?_)
     refine if_st 2 0 HS (seg := [.int .i64 48, .string (⟨#[]⟩ : ByteArray), .slice B106001 2 d106001]) ?_; clear HS; (try clear F); intro w109001 HS F
     refine hK.out _ _ ?_
     clear hK K
     refine norm_ ?_ (hJ (.slice B102002 t102001.f2.length d102002, .slice B105002 t105001.f2.length d105002, .slice B106001 2 d106001, g3) _ (HS.arr [some 0, some 1, none, none, some 5, some 2] (by decide)))
     simp only [putAll, Act.put, ptn]
     (try rfl)
 rintro ⟨v102002, v105002, v106001, g3⟩ w199999 HS
 obtain ⟨B106001, d106001, rfl, m106001⟩ := HS.formn 2 4 rfl (by first | rfl | simp)
 have F := HS.boxes; simp only [bxn] at F
 refine norm_ (a' := ?_) ?_ ?_
 rotate_left
 · simp only [putAll, Act.put, ptn]; rfl
 refine done_ (done_of HT.out (by kernel_rfl)) ?_
 (try go_wp2)
 replace H := zbind H; obtain ⟨t202001, ht202001, H⟩ := H
 replace H := zbind H; obtain ⟨t205001, ht205001, H⟩ := H
 replace H := zbind H; obtain ⟨t209001, ht209001, H⟩ := H
 replace H := zbind H; obtain ⟨t212001, ht212001, H⟩ := H
 replace H := zbind H; obtain ⟨t215001, ht215001, H⟩ := H
 replace H := zbind H; obtain ⟨t218001, ht218001, H⟩ := H
 replace H := zbind H; obtain ⟨t221001, ht221001, H⟩ := H
 replace H := zbind H; obtain ⟨t224001, ht224001, H⟩ := H
 replace H := zbind H; obtain ⟨t227001, ht227001, H⟩ := H
 replace H := zbind H; obtain ⟨t230001, ht230001, H⟩ := H
 refine dr_start2 [.box g1 [.int .i64 a0.f0, .string a0.f1, .string a0.f2, .int .i64 a0.f3, .int .i64 a0.f4, .string a0.f5, .bool a0.f6, .int .i64 a0.f7, .int .i64 a0.f8, .slice Ap0 a0.f9.length cp0, .slice Ap1 a0.f10.length cp1, .slice Ap2 a0.f11.length cp2, .string a0.f12] 91, .box g2 [.int .i64 0, .string (⟨#[]⟩ : ByteArray), .slice none 0 0] 182, .emp, .emp, .emp, .box g3 [.int .i64 48, .string (⟨#[]⟩ : ByteArray), .slice B106001 2 d106001] 182] [33] HS (HS.arr [some 0, some 1, none, none, none, some 5] (by decide)) #[false, false, false, false, false, false, false, false, false, false, false, false, false, false, false, false, false, false, false, false, false, false, false, false, false, false, false, false, false, false, false, false, false, false] (by kernel_rfl) rfl rfl spec_BodyItem.tT2 (fun w9 HT HS HH => ?_)
 (try clear F)
 refine drq_of [(0, some 12), (1, some 13), (3, some 15), (4, some 16), (6, some 18), (7, some 19), (8, some 20), (10, some 22), (11, some 23), (13, some 25), (14, some 26), (16, some 28), (17, some 29), (19, some 31), (20, some 32), (22, some 34), (23, some 35), (25, some 37), (26, some 38), (28, some 40), (29, some 41)] ?_
 repeat (first | refine drp HT ?_ | refine drt HT HH ?_)
 refine drq_end ?_
 refine dr1 2 HT fun K hK => ?_
 refine go_cl1 HS (spec_IntItem.calls ht202001.out) Tryz.func192 ?_; clear HS; (try clear F); intro v202002 wt202001 HS F; obtain ⟨B202002, d202002, rfl, m202002⟩ := HS.form 6 rfl
 refine hK.out _ _ ⟨[], HS.arr [some 0, some 1, none, none, none, some 5] (by decide)⟩ (fun HH => ?_)
 clear hK K
 refine norm_ (a' := ?_) ?_ ?_
 rotate_left
 · show Act.put _ (some 14) _ = _; simp only [Act.put, ptn]; rfl
 refine dr1 5 HT fun K hK => ?_
 refine go_cl1 HS (spec_TextItem.calls ht205001.out) Tryz.func193 ?_; clear HS; (try clear F); intro v205002 wt205001 HS F; obtain ⟨B205002, d205002, rfl, m205002⟩ := HS.form 7 rfl
 refine hK.out _ _ ⟨[], HS.arr [some 0, some 1, none, none, none, some 5] (by decide)⟩ (fun HH => ?_)
 clear hK K
 refine norm_ (a' := ?_) ?_ ?_
 rotate_left
 · show Act.put _ (some 17) _ = _; simp only [Act.put, ptn]; rfl
 refine dr1 9 HT fun K hK => ?_
 refine go_cl1 HS (spec_TextItem.calls ht209001.out) Tryz.func193 ?_; clear HS; (try clear F); intro v209002 wt209001 HS F; obtain ⟨B209002, d209002, rfl, m209002⟩ := HS.form 8 rfl
 refine hK.out _ _ ⟨[], HS.arr [some 0, some 1, none, none, none, some 5] (by decide)⟩ (fun HH => ?_)
 clear hK K
 refine norm_ (a' := ?_) ?_ ?_
 rotate_left
 · show Act.put _ (some 21) _ = _; simp only [Act.put, ptn]; rfl
 refine dr1 12 HT fun K hK => ?_
 refine go_cl1 HS (spec_l09Bytes.calls ht212001.out) Tryz.func136 ?_; clear HS; (try clear F); intro v212002 wt212001 HS F; obtain ⟨B212002, d212002, rfl, m212002⟩ := HS.form 9 rfl
 refine hK.out _ _ ⟨[], HS.arr [some 0, some 1, none, none, none, some 5] (by decide)⟩ (fun HH => ?_)
 clear hK K
 refine norm_ (a' := ?_) ?_ ?_
 rotate_left
 · show Act.put _ (some 24) _ = _; simp only [Act.put, ptn]; rfl
 refine dr1 15 HT fun K hK => ?_
 refine go_cl1 HS (spec_l09Bool.calls ht215001.out) Tryz.func194 ?_; clear HS; (try clear F); intro v215002 wt215001 HS F; obtain ⟨B215002, d215002, rfl, m215002⟩ := HS.form 10 rfl
 refine hK.out _ _ ⟨[], HS.arr [some 0, some 1, none, none, none, some 5] (by decide)⟩ (fun HH => ?_)
 clear hK K
 refine norm_ (a' := ?_) ?_ ?_
 rotate_left
 · show Act.put _ (some 27) _ = _; simp only [Act.put, ptn]; rfl
 refine dr1 18 HT fun K hK => ?_
 refine go_cl1 HS (spec_IntItem.calls ht218001.out) Tryz.func192 ?_; clear HS; (try clear F); intro v218002 wt218001 HS F; obtain ⟨B218002, d218002, rfl, m218002⟩ := HS.form 11 rfl
 refine hK.out _ _ ⟨[], HS.arr [some 0, some 1, none, none, none, some 5] (by decide)⟩ (fun HH => ?_)
 clear hK K
 refine norm_ (a' := ?_) ?_ ?_
 rotate_left
 · show Act.put _ (some 30) _ = _; simp only [Act.put, ptn]; rfl
 refine dr1 21 HT fun K hK => ?_
 refine go_cl1 HS (spec_IntItem.calls ht221001.out) Tryz.func192 ?_; clear HS; (try clear F); intro v221002 wt221001 HS F; obtain ⟨B221002, d221002, rfl, m221002⟩ := HS.form 12 rfl
 refine hK.out _ _ ⟨[], HS.arr [some 0, some 1, none, none, none, some 5] (by decide)⟩ (fun HH => ?_)
 clear hK K
 refine norm_ (a' := ?_) ?_ ?_
 rotate_left
 · show Act.put _ (some 33) _ = _; simp only [Act.put, ptn]; rfl
 refine dr1 24 HT fun K hK => ?_
 refine go_cl1 HS (spec_l09Ints.calls ht224001.out (HS.ro gp0) lp0) Tryz.func195 ?_; clear HS; (try clear F); intro v224002 wt224001 HS F; obtain ⟨B224002, d224002, rfl, m224002⟩ := HS.form 13 rfl
 refine hK.out _ _ ⟨[], HS.arr [some 0, some 1, none, none, none, some 5] (by decide)⟩ (fun HH => ?_)
 clear hK K
 refine norm_ (a' := ?_) ?_ ?_
 rotate_left
 · show Act.put _ (some 36) _ = _; simp only [Act.put, ptn]; rfl
 refine dr1 27 HT fun K hK => ?_
 refine go_cl1 HS (spec_l09Texts.calls ht227001.out (HS.ro gp1) lp1) Tryz.func196 ?_; clear HS; (try clear F); intro v227002 wt227001 HS F; obtain ⟨B227002, d227002, rfl, m227002⟩ := HS.form 14 rfl
 refine hK.out _ _ ⟨[], HS.arr [some 0, some 1, none, none, none, some 5] (by decide)⟩ (fun HH => ?_)
 clear hK K
 refine norm_ (a' := ?_) ?_ ?_
 rotate_left
 · show Act.put _ (some 39) _ = _; simp only [Act.put, ptn]; rfl
 refine dr1 30 HT fun K hK => ?_
 refine go_cl1 HS (spec_l09Texts.calls ht230001.out (HS.ro gp2) lp2) Tryz.func196 ?_; clear HS; (try clear F); intro v230002 wt230001 HS F; obtain ⟨B230002, d230002, rfl, m230002⟩ := HS.form 15 rfl
 refine hK.out _ _ ⟨[], HS.arr [some 0, some 1, none, none, none, some 5] (by decide)⟩ (fun HH => ?_)
 clear hK K
 refine norm_ (a' := ?_) ?_ ?_
 rotate_left
 · show Act.put _ (some 42) _ = _; simp only [Act.put, ptn]; rfl
 refine dr1 31 HT fun K hK => ?_
 refine if_wp (by rfl) ?_; refine wp_lit q182 [6, 7, 4, 8, 9, 10, 11, 12, 13, 14, 15] ([t202001, t205001, (⟨48, (⟨#[]⟩ : ByteArray), ([t102001, t105001] : List S182)⟩ : S182), t209001, t212001, t215001, t218001, t221001, t224001, t227001, t230001] : List S182) ([.int .i64 t202001.f0, .string t202001.f1, .slice B202002 t202001.f2.length d202002] ++ ([.int .i64 t205001.f0, .string t205001.f1, .slice B205002 t205001.f2.length d205002] ++ ([.int .i64 48, .string (⟨#[]⟩ : ByteArray), .slice B106001 2 d106001] ++ ([.int .i64 t209001.f0, .string t209001.f1, .slice B209002 t209001.f2.length d209002] ++ ([.int .i64 t212001.f0, .string t212001.f1, .slice B212002 t212001.f2.length d212002] ++ ([.int .i64 t215001.f0, .string t215001.f1, .slice B215002 t215001.f2.length d215002] ++ ([.int .i64 t218001.f0, .string t218001.f1, .slice B218002 t218001.f2.length d218002] ++ ([.int .i64 t221001.f0, .string t221001.f1, .slice B221002 t221001.f2.length d221002] ++ ([.int .i64 t224001.f0, .string t224001.f1, .slice B224002 t224001.f2.length d224002] ++ ([.int .i64 t227001.f0, .string t227001.f1, .slice B227002 t227001.f2.length d227002] ++ ([.int .i64 t230001.f0, .string t230001.f1, .slice B230002 t230001.f2.length d230002] ++ []))))))))))) HS (by first | (go_simp; done) | (go_simp; rfl)) rfl rfl (Nat.le_of_ble_eq_true rfl) (MadeL.cons (js1 := [6]) (c := [.int .i64 t202001.f0, .string t202001.f1, .slice B202002 t202001.f2.length d202002]) rfl (fun S hd hh => q182_pack (x := t202001) hd (hh 6 (.own (Zd.slice 182 q182) t202001.f2 [.slice B202002 t202001.f2.length d202002]) rfl) (by decide)) (MadeL.cons (js1 := [7]) (c := [.int .i64 t205001.f0, .string t205001.f1, .slice B205002 t205001.f2.length d205002]) rfl (fun S hd hh => q182_pack (x := t205001) hd (hh 7 (.own (Zd.slice 182 q182) t205001.f2 [.slice B205002 t205001.f2.length d205002]) rfl) (by decide)) (MadeL.cons (js1 := [4]) (c := [.int .i64 48, .string (⟨#[]⟩ : ByteArray), .slice B106001 2 d106001]) rfl (fun S hd hh => q182_pack (x := (⟨48, (⟨#[]⟩ : ByteArray), ([t102001, t105001] : List S182)⟩ : S182)) hd (hh 4 (.own (Zd.slice 182 q182) ([t102001, t105001] : List S182) [.slice B106001 2 d106001]) rfl) (by decide)) (MadeL.cons (js1 := [8]) (c := [.int .i64 t209001.f0, .string t209001.f1, .slice B209002 t209001.f2.length d209002]) rfl (fun S hd hh => q182_pack (x := t209001) hd (hh 8 (.own (Zd.slice 182 q182) t209001.f2 [.slice B209002 t209001.f2.length d209002]) rfl) (by decide)) (MadeL.cons (js1 := [9]) (c := [.int .i64 t212001.f0, .string t212001.f1, .slice B212002 t212001.f2.length d212002]) rfl (fun S hd hh => q182_pack (x := t212001) hd (hh 9 (.own (Zd.slice 182 q182) t212001.f2 [.slice B212002 t212001.f2.length d212002]) rfl) (by decide)) (MadeL.cons (js1 := [10]) (c := [.int .i64 t215001.f0, .string t215001.f1, .slice B215002 t215001.f2.length d215002]) rfl (fun S hd hh => q182_pack (x := t215001) hd (hh 10 (.own (Zd.slice 182 q182) t215001.f2 [.slice B215002 t215001.f2.length d215002]) rfl) (by decide)) (MadeL.cons (js1 := [11]) (c := [.int .i64 t218001.f0, .string t218001.f1, .slice B218002 t218001.f2.length d218002]) rfl (fun S hd hh => q182_pack (x := t218001) hd (hh 11 (.own (Zd.slice 182 q182) t218001.f2 [.slice B218002 t218001.f2.length d218002]) rfl) (by decide)) (MadeL.cons (js1 := [12]) (c := [.int .i64 t221001.f0, .string t221001.f1, .slice B221002 t221001.f2.length d221002]) rfl (fun S hd hh => q182_pack (x := t221001) hd (hh 12 (.own (Zd.slice 182 q182) t221001.f2 [.slice B221002 t221001.f2.length d221002]) rfl) (by decide)) (MadeL.cons (js1 := [13]) (c := [.int .i64 t224001.f0, .string t224001.f1, .slice B224002 t224001.f2.length d224002]) rfl (fun S hd hh => q182_pack (x := t224001) hd (hh 13 (.own (Zd.slice 182 q182) t224001.f2 [.slice B224002 t224001.f2.length d224002]) rfl) (by decide)) (MadeL.cons (js1 := [14]) (c := [.int .i64 t227001.f0, .string t227001.f1, .slice B227002 t227001.f2.length d227002]) rfl (fun S hd hh => q182_pack (x := t227001) hd (hh 14 (.own (Zd.slice 182 q182) t227001.f2 [.slice B227002 t227001.f2.length d227002]) rfl) (by decide)) (MadeL.cons (js1 := [15]) (c := [.int .i64 t230001.f0, .string t230001.f1, .slice B230002 t230001.f2.length d230002]) rfl (fun S hd hh => q182_pack (x := t230001) hd (hh 15 (.own (Zd.slice 182 q182) t230001.f2 [.slice B230002 t230001.f2.length d230002]) rfl) (by decide)) MadeL.nil (by decide)) (by decide)) (by decide)) (by decide)) (by decide)) (by decide)) (by decide)) (by decide)) (by decide)) (by decide)) (by decide)) ?_; clear HS; (try clear F); intro v231001 w231001 HS; obtain ⟨B231001, d231001, rfl, m231001⟩ := HS.formn 11 16 rfl rfl
 (try simp only [hpn, hpm] at HS)
 have F := HS.boxes; simp only [bxn] at F
 refine hK.out _ _ ⟨[], HS.arr [some 0, some 1, none, none, none, some 5] (by decide)⟩ (fun HH => ?_)
 clear hK K
 refine norm_ (a' := ?_) ?_ ?_
 rotate_left
 · show Act.put _ (some 43) _ = _; simp only [Act.put, ptn]; rfl
 refine drq_of [(32, some 44)] ?_
 repeat (refine drp HT ?_)
 refine drq_end ?_
 refine dr_last 33 HT rfl (by kernel_rfl) (by decide) (fun K hK => ?_)
 refine if_st 1 0 HS (seg := [.int .i64 48, .string (⟨#[]⟩ : ByteArray), .slice B231001 11 d231001]) ?_; clear HS; (try clear F); intro w233001 HS F
 refine hK.out _ _ ?_
 clear hK K
 refine done_ (done_of HT.out (by kernel_rfl)) ?_
 (try clear F)
 have F := HS.boxes; simp only [bxn] at F
 obtain rfl := zsome H
 go_wp2
 exact bodyPost_ret (results_single rfl (.cell _ _ _ _ _ rfl (HS.boxAt (i := 1) rfl) Tryz.underlying182 rfl (by kernel_rfl) .nil)) rfl ⟨_, rfl, HS.pick [16] (by decide) (by rfl)⟩
/-! ### spec_CertText: function 54 -/
def spec_CertText.f (k : Nat) (a0 : S91) : Option (ByteArray × Bool) := ((spec_CertOk.f k a0).bind fun t3 => (if t3 = true then ((spec_BodyItem.f k a0).bind fun t101001 => ((spec_l09Bytes.f a0.f12).bind fun t104001 => ((spec_ItemText.f k (⟨48, (⟨#[]⟩ : ByteArray), ([t101001, t104001] : List S182)⟩ : S182)).bind fun t107001 => (some (t107001.1, t107001.2))))) else (some ((⟨#[]⟩ : ByteArray), false))))
def spec_CertText.T3 : Bool × List (List Nat × List Nat) := (true, [([], []), ([0], [0]), ([], []), ([2], [2]), ([3, 1], [3]), ([1, 4], [1, 4]), ([5], [5]), ([6, 4], [6]), ([7], [7]), ([7], [7]), ([8, 7, 0, 1, 2, 3, 4, 5, 6, 7, 8, 9], [8]), ([9, 10, 0, 1, 2, 3, 4, 5, 6, 7, 8, 9, 10], [9])])
theorem spec_CertText.tT3 : rtab .any (opsOf Tryz.f54 3) = spec_CertText.T3 := by kernel_rfl
set_option maxHeartbeats 16000000 in
theorem spec_CertText.calls {k : Nat} {a0 : S91} {Ap0 : Option Addr} {np0 cp0 : Nat} {Ap1 : Option Addr} {np1 cp1 : Nat} {Ap2 : Option Addr} {np2 cp2 : Nat} {r1 : ByteArray} {r2 : Bool} {w : World} (h : spec_CertText.f k a0 = some (r1, r2)) (gp0 : (Kd.int .i64).C w Ap0 np0 a0.f9) (lp0 : np0 ≤ cp0) (gp1 : Kd.string.C w Ap1 np1 a0.f10) (lp1 : np1 ≤ cp1) (gp2 : Kd.string.C w Ap2 np2 a0.f11) (lp2 : np2 ≤ cp2) :
    Calls Tryz.prog 54 #[.agg #[.int .i64 a0.f0, .string a0.f1, .string a0.f2, .int .i64 a0.f3, .int .i64 a0.f4, .string a0.f5, .bool a0.f6, .int .i64 a0.f7, .int .i64 a0.f8, .slice Ap0 np0 cp0, .slice Ap1 np1 cp1, .slice Ap2 np2 cp2, .string a0.f12]] w (fun e w' => e = .returned (.tuple #[.string r1, .bool r2]) ∧ Hp noFP w w' []) := by
 obtain rfl := C_len gp0
 obtain rfl := C_len gp1
 obtain rfl := C_len gp2
 have HS := Hp.start w
 have H := Aside0.mk h
 clear h
 unfold spec_CertText.f at H
 go_enter Tryz.func54, Tryz.ntmps54
 replace H := zbind H; obtain ⟨t3, ht3, H⟩ := H
 go_upto_if 6 with (first | ((with_reducible refine gate_dst (N := 1) rfl ?_); refine ev_bx HS ?_; clear HS; (try clear F); intro g1 w1 HS F) | ((with_reducible refine gate_dst (N := 5) rfl ?_); refine ev_cl HS (spec_CertOk.calls ht3.out (HS.ro gp0) lp0 (HS.ro gp1) lp1 (HS.ro gp2) lp2) Tryz.func122 ?_; clear HS; (try clear F); intro wt3 HS F))
 by_cases c5 : t3 = true
 case neg =>
  replace H := zneg c5 H
  replace c5 := eq_false_of_ne_true c5
  subst c5
  (try simp only [dcn, if_true, Bool.false_eq_true, if_false])
  obtain ⟨rfl, rfl⟩ := zsome2 H
  go_wp2
  exact bodyPost_ret (results_list (rs := [.tmp 2, .tmp 3]) rfl (by simp) (.tmp (.tmp .nil))) rfl ⟨rfl, HS.pick [] (by decide) (by rfl)⟩
 replace H := zpos c5 H
 subst c5
 (try simp only [dcn, if_true, Bool.false_eq_true, if_false])
 (try go_wp2)
 replace H := zbind H; obtain ⟨t101001, ht101001, H⟩ := H
 replace H := zbind H; obtain ⟨t104001, ht104001, H⟩ := H
 replace H := zbind H; obtain ⟨t107001, ht107001, H⟩ := H
 refine dr_start [] HS #[false, false, false, false, false, false, false, false, false, false, false, false] (by kernel_rfl) rfl rfl spec_CertText.tT3 (fun w7 HT HS HH => ?_)
 (try clear F)
 refine drq_of [(0, some 7), (2, some 9), (3, some 10)] ?_
 repeat (first | refine drp HT ?_ | refine drt HT HH ?_)
 refine drq_end ?_
 refine dr1 1 HT fun K hK => ?_
 refine go_cl1 HS (spec_BodyItem.calls ht101001.out (HS.ro gp0) lp0 (HS.ro gp1) lp1 (HS.ro gp2) lp2) Tryz.func135 ?_; clear HS; (try clear F); intro v101002 wt101001 HS F; obtain ⟨B101002, d101002, rfl, m101002⟩ := HS.form 1 rfl
 refine nrm 8 hK ⟨_, HS⟩ (fun HH => ?_); clear hK K
 refine dr1 4 HT fun K hK => ?_
 refine go_cl1 HS (spec_l09Bytes.calls ht104001.out) Tryz.func136 ?_; clear HS; (try clear F); intro v104002 wt104001 HS F; obtain ⟨B104002, d104002, rfl, m104002⟩ := HS.form 2 rfl
 refine nrm 11 hK ⟨_, HS⟩ (fun HH => ?_); clear hK K
 refine dr1 5 HT fun K hK => ?_
 refine if_wp (by rfl) ?_; refine wp_lit q182 [1, 2] ([t101001, t104001] : List S182) ([.int .i64 t101001.f0, .string t101001.f1, .slice B101002 t101001.f2.length d101002] ++ ([.int .i64 t104001.f0, .string t104001.f1, .slice B104002 t104001.f2.length d104002] ++ [])) HS (by first | (go_simp; done) | (go_simp; rfl)) rfl rfl (Nat.le_of_ble_eq_true rfl) (MadeL.cons (js1 := [1]) (c := [.int .i64 t101001.f0, .string t101001.f1, .slice B101002 t101001.f2.length d101002]) rfl (fun S hd hh => q182_pack (x := t101001) hd (hh 1 (.own (Zd.slice 182 q182) t101001.f2 [.slice B101002 t101001.f2.length d101002]) rfl) (by decide)) (MadeL.cons (js1 := [2]) (c := [.int .i64 t104001.f0, .string t104001.f1, .slice B104002 t104001.f2.length d104002]) rfl (fun S hd hh => q182_pack (x := t104001) hd (hh 2 (.own (Zd.slice 182 q182) t104001.f2 [.slice B104002 t104001.f2.length d104002]) rfl) (by decide)) MadeL.nil (by decide)) (by decide)) ?_; clear HS; (try clear F); intro v105001 w105001 HS; obtain ⟨B105001, d105001, rfl, m105001⟩ := HS.formn 2 3 rfl rfl
 (try simp only [hpn, hpm] at HS)
 have F := HS.boxes; simp only [bxn] at F
 refine nrm 12 hK ⟨_, HS⟩ (fun HH => ?_); clear hK K
 refine drq_of [(6, some 13)] ?_
 repeat (refine drp HT ?_)
 refine drq_end ?_
 refine dr1 7 HT fun K hK => ?_
 refine go_cl HS (spec_ItemText.calls ht107001.out (HS.rd 3 rfl) m105001) Tryz.func134 ?_; clear HS; (try clear F); intro wt107001 HS F
 refine nrm 14 hK ⟨_, HS⟩ (fun HH => ?_); clear hK K
 refine drq_of [(8, some 15), (9, some 16), (10, some 2), (11, some 3)] ?_
 repeat (refine drp HT ?_)
 refine drq_end ?_
 refine done_ (done_of HT.out (by kernel_rfl)) ?_
 (try clear F)
 have F := HS.boxes; simp only [bxn] at F
 obtain ⟨rfl, rfl⟩ := zsome2 H
 go_wp2
 exact bodyPost_ret (results_list (rs := [.tmp 2, .tmp 3]) rfl (by simp) (.tmp (.tmp .nil))) rfl ⟨rfl, HS.pick [] (by decide) (by rfl)⟩
/-! ### spec_l13In: function 55 -/
def spec_l13In.l0 : Nat → Int → (List ByteArray) → ByteArray → Option (Bool)
  | 0, _, _, _ => none
  | k + 1, x4, a0, a1 => (if x4 < (a0.length : Int) then (if 0 ≤ x4 then (if x4 < (a0.length : Int) then (if (rdOf ByteArray.empty a0 x4).toList = a1.toList then (some true) else (spec_l13In.l0 k (wrap64 (x4 + 1)) a0 a1)) else none) else none) else (some false))
def spec_l13In.f (k : Nat) (a0 : (List ByteArray)) (a1 : ByteArray) : Option (Bool) := (spec_l13In.l0 k 0 a0 a1)
set_option maxHeartbeats 16000000 in
theorem spec_l13In.calls {k : Nat} {a0 : (List ByteArray)} {a1 : ByteArray} {Ap0 : Option Addr} {np0 cp0 : Nat} {r : Bool} {w : World} (h : spec_l13In.f k a0 a1 = some r) (gp0 : Kd.string.C w Ap0 np0 a0) (lp0 : np0 ≤ cp0) :
    Calls Tryz.prog 55 #[.slice Ap0 np0 cp0, .string a1] w (fun e w' => e = .returned (.bool r) ∧ Hp noFP w w' []) := by
 obtain rfl := C_len gp0
 have HS := Hp.start w
 have H := Aside0.mk h
 clear h
 unfold spec_l13In.f at H
 go_enter Tryz.func55, Tryz.ntmps55
 go_wp2
 go_loopg [5] k (fun kq v_5 w' => ∃ (x4 : Int), v_5 = .int .i64 x4 ∧ Aside0 (spec_l13In.l0 kq x4 a0 a1 = some r) ∧ Aside0 (kq ≤ k) ∧ Hp noFP w w' [])
 case atStart => exact ⟨_, rfl, H, ⟨Nat.le_refl _⟩, HS⟩
 case round =>
  clear HS H; (try clear F)
  obtain ⟨x4, rfl, H, HKk3, HS⟩ := hrel
  cases gk with
  | zero => exact absurd H.out (by simp [spec_l13In.l0])
  | succ k3 =>
   simp only [spec_l13In.l0] at H
   by_cases c6 : x4 < (a0.length : Int)
   case neg =>
    replace H := zneg c6 H
    replace c6 := eq_false c6
    obtain rfl := zsome H
    go_wp2
    go_ret
    exact HS.pk
   replace H := zpos c6 H
   replace c6 := eq_true c6
   obtain ⟨c7, H⟩ := zgo H
   obtain ⟨c8, H⟩ := zgo H
   obtain ⟨ad9, rfl, e9_0⟩ := Kd.at_string gp0 x4 (of_eq_true c7) (of_eq_true c8)
   have e9_0_9 := (HS.keepc e9_0)
   by_cases c10 : (rdOf ByteArray.empty a0 x4).toList = a1.toList
   case pos =>
    replace H := zpos c10 H
    have c10a := beq_iff_eq.mpr c10
    have c10b := bne_eq_false_iff_eq.mpr c10
    clear c10
    obtain rfl := zsome H
    go_wp2
    go_ret
    exact HS.pk
   replace H := zneg c10 H
   have c10a := beq_eq_false_iff_ne.mpr c10
   have c10b := bne_iff_ne.mpr c10
   clear c10
   go_wp2
   go_roundg k3
   case measure => have := HKk3.out; omega
   case rel => exact ⟨_, rfl, H, ⟨by have := HKk3.out; omega⟩, HS.pick [] (by decide) (by rfl)⟩
end Go.Proofs.YtacocpknielofaaGreatDoor.F

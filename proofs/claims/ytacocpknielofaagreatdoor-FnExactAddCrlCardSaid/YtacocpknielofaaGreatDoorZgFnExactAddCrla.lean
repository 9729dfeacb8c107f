/- Functions of the program and of the law, and that their calls do what is written here. -/
import Derived.Test.YtacocpknielofaaGreatDoorZgFnExactAddCertb
import Derived.Test.YtacocpknielofaaGreatDoorZgFnExactStoreOke
namespace Go.Proofs.YtacocpknielofaaGreatDoor.F
open Go.RowKit Go.Proofs.YtacocpknielofaaGreatDoorW.PrintWords Go.Proofs.YtacocpknielofaaGreatDoorW.PrintLast Go.Proofs.YtacocpknielofaaGreatDoorW.PrintMore Go.Proofs.YtacocpknielofaaGreatDoor.Z
attribute [local go_sem] max2_int min2_int max_two min_two max_three min_three max_four min_four
set_option linter.unusedVariables false
set_option linter.unusedSimpArgs false
set_option maxRecDepth 100000
set_option maxHeartbeats 16000000
def spec_l13Copy.l0 : Nat → (List S81) → Int → S33 → (List S91) → (List S115) → Option (S33)
  | 0, _, _, _, _, _ => none
  | k + 1, l20, x22, a0, t7, y11 => (if x22 < (a0.f1.length : Int) then (if 0 ≤ x22 then (if x22 < (a0.f1.length : Int) then ((spec_l10Copy.f (rd_T81 a0.f1 x22)).bind fun t17 => (if l20.length + 1 ≤ 1599289640401 then (lets (l20 ++ ([t17] : List S81)) fun y27 => (spec_l13Copy.l0 k y27 (wrap64 (x22 + 1)) a0 t7 y11)) else none)) else none) else none) else (some (⟨t7, l20, y11⟩ : S33)))
def spec_l13Copy.f (k : Nat) (a0 : S33) : Option (S33) := ((spec_l13Certs.f k a0.f0).bind fun t7 => (if 0 + a0.f2.length ≤ 4398046511104 then (lets (([] : List S115) ++ a0.f2) fun y11 => (spec_l13Copy.l0 k [] 0 a0 t7 y11)) else none))
def spec_l13Copy.T1 : TT := (true, [([], []), ([0], [0]), ([1], [1]), ([], []), ([], []), ([4], [4]), ([3, 5, 2], [3, 5]), ([2, 6], [2, 6]), ([], []), ([8, 7, 6, 0, 1, 2, 3, 4, 5, 6, 7, 8], [7, 8])])
theorem spec_l13Copy.tT1 : rtab .any (opsOf Tryz.f105 1) = spec_l13Copy.T1 := by kernel_rfl
def spec_l13Copy.T5 : TT := (true, [([], []), ([0], [0]), ([], []), ([2], [2]), ([], []), ([3, 4], [3, 4]), ([5], [5]), ([6], [6]), ([7], [7]), ([1, 8, 7], [1, 8]), ([0, 1, 2, 3, 4, 5, 6, 7, 8, 9], []), ([10, 9, 9, 0, 1, 2, 3, 4, 5, 6, 7, 8, 9], [9, 10])])
theorem spec_l13Copy.tT5 : rtab .any (opsOf Tryz.f105 5) = spec_l13Copy.T5 := by kernel_rfl
theorem spec_l13Copy.calls {k : Nat} {a0 : S33} {Ap0 Ap1 Ap2 : Option Addr} {np0 cp0 np1 cp1 np2 cp2 : Nat} {r : S33} {w : World} (h : spec_l13Copy.f k a0 = some r) (gp0 : k91.C w Ap0 np0 a0.f0) (lp0 : np0 ≤ cp0) (gp1 : k81.C w Ap1 np1 a0.f1) (lp1 : np1 ≤ cp1) (gp2 : k115.C w Ap2 np2 a0.f2) (lp2 : np2 ≤ cp2) :
    Calls Tryz.prog 105 #[.agg #[.slice Ap0 np0 cp0, .slice Ap1 np1 cp1, .slice Ap2 np2 cp2]] w (fun e w' => ∃ v0_ v1_ v2_ : Value, e = .returned (.agg #[v0_, v1_, v2_]) ∧ Hp noFP w w' [.own (Zd.slice 91 q91) r.f0 [v0_], .own (Zd.slice 81 q81) r.f1 [v1_], .own (Zd.slice 115 q115) r.f2 [v2_]]) := by
 obtain rfl := C_len gp0
 obtain rfl := C_len gp1
 obtain rfl := C_len gp2
 have HS := Hp.start w
 have H := Aside0.mk h
 clear h
 unfold spec_l13Copy.f at H
 go_enter Tryz.func105, Tryz.ntmps105
 go_wp2_with (first | ((with_reducible refine gd 1 rfl ?_); refine ev_bx HS ?_; clear HS; intro g1 w1 HS F) | ((with_reducible refine gd 2 rfl ?_); refine ev_bx HS ?_; clear HS; intro g2 w2 HS F))
 replace H := zbind H; obtain ⟨t7, ht7, H⟩ := H
 replace H := zgo H; obtain ⟨c10, H⟩ := H
 replace H := zlets H; obtain ⟨y11, e_y11, H⟩ := H
 refine dr_start [9] HS #[false, false, false, false, false, false, false, false, false, false] (by kernel_rfl) rfl rfl spec_l13Copy.tT1 (fun w6 HT HS HH => ?_)
 (try clear F)
 refine join_ 0 #[true, true, true, true, true, true, true, true, true, true] (fun ((v8, v9, v11, g3) : Value × Value × Value × Nat) => ([(5, .pointer (some ⟨g1, 0, none⟩)), (6, .slice Ap0 a0.f0.length cp0), (7, v8), (8, v9), (9, .pointer (some ⟨g1, 2, none⟩)), (10, .slice Ap2 a0.f2.length cp2), (11, v11), (12, .agg #[v8, .slice none 0 0, v11]), (3, .pointer (some ⟨g3, 0, none⟩))] : List (Tmp × Value))) (fun ((v8, v9, v11, g3) : Value × Value × Value × Nat) w' => Hp noFP w w' [.box g1 [.slice Ap0 a0.f0.length cp0, .slice Ap1 a0.f1.length cp1, .slice Ap2 a0.f2.length cp2] 33, .box g2 [.slice none 0 0, .slice none 0 0, .slice none 0 0] 33, .own (Zd.slice 91 q91) t7 [v8], .emp, .own (Zd.slice 115 q115) y11 [v11], .box g3 [v8, .slice none 0 0, v11] 33]) ?_ ?_
 rotate_left
 · intro hJ
   refine drq_of [(0, some 5), (1, some 6), (4, some 9), (5, some 10)] ?_
   repeat (first | refine drp HT ?_ | refine drt HT HH ?_)
   refine drq_end ?_
   refine dr_any [2, 3, 8] HT (by kernel_rfl) (by decide) (AllReadyL.cons rfl (by decide) (fun K hK => ?_) (AllReadyL.cons rfl (by decide) (fun K hK => ?_) (AllReadyL.cons rfl (by decide) (fun K hK => ?_) AllReadyL.nil)))
   · refine go_cl1 HS (spec_l13Certs.calls ht7.out (HS.ro gp0) lp0) Tryz.func175 ?_; clear HS; intro v8 wt7 HS F; obtain ⟨B8, d8, rfl, m8⟩ := HS.form 2 rfl
     refine nrm 7 hK ⟨_, HS⟩ (fun HH => ?_); clear hK K
     refine dr_any [3, 8] HT (by kernel_rfl) (by decide) (AllReadyL.cons rfl (by decide) (fun K hK => ?_) (AllReadyL.cons rfl (by decide) (fun K hK => ?_) AllReadyL.nil))
     · refine if_li q115 [] ([] : List S115) [] HS MadeL.nil ?_; clear HS; intro v9 w9 HS F; obtain ⟨B9, d9, rfl, m9⟩ := HS.formn 0 3 rfl rfl
       refine nrm 8 hK ⟨_, HS⟩ (fun HH => ?_); clear hK K
       refine dr_any [6, 8] HT (by kernel_rfl) (by decide) (AllReadyL.cons rfl (by decide) (fun K hK => ?_) (AllReadyL.cons rfl (by decide) (fun K hK => ?_) AllReadyL.nil))
       · refine wp_apr fl115 3 HS rfl (HS.ro gp2) Tryz.underlying31 info115 (of_eq_true c10) ?_; clear HS; intro v11 w11 HS; rw [← e_y11.out] at HS; obtain ⟨B11, d11, rfl, m11⟩ := HS.form 4 rfl
         (try simp only [hpn, hpm] at HS)
         have F := HS.boxes; simp only [bxn] at F
         refine nrm 11 hK ⟨_, HS⟩ (fun HH => ?_); clear hK K
         refine drq_of [(7, some 12)] ?_
         repeat (refine drp HT ?_)
         refine drq_end ?_
         refine dr1 8 HT fun K hK => ?_
         refine if_bx HS ?_; clear HS; intro g3 w3 HS F
         refine nrm 3 hK ⟨_, HS⟩ (fun HH => ?_); clear hK K
         refine dr_last 9 HT rfl (by kernel_rfl) (by decide) (fun K hK => ?_)
         refine if_st 5 0 HS (seg := [.slice B8 t7.length d8, .slice none 0 0, .slice B11 y11.length d11]) ?_; clear HS; intro w12 HS F
         refine hK.out _ _ ?_
         clear hK K
         refine norm_ ?_ (hJ (.slice B8 t7.length d8, .slice B9 0 d9, .slice B11 y11.length d11, g3) _ (HS.arr [some 0, some 1, some 2, none, some 4, some 5] (by decide)))
         simp only [putAll, Act.put, ptn]
         (try rfl)
       · refine if_bx HS ?_; clear HS; intro g3 w3 HS F
         refine nrm 3 hK ⟨_, HS⟩ (fun HH => ?_); clear hK K
         refine dr1 6 HT fun K hK => ?_
         refine wp_apr fl115 3 HS rfl (HS.ro gp2) Tryz.underlying31 info115 (of_eq_true c10) ?_; clear HS; intro v11 w11 HS; rw [← e_y11.out] at HS; obtain ⟨B11, d11, rfl, m11⟩ := HS.form 5 rfl
         (try simp only [hpn, hpm] at HS)
         have F := HS.boxes; simp only [bxn] at F
         refine nrm 11 hK ⟨_, HS⟩ (fun HH => ?_); clear hK K
         refine drq_of [(7, some 12)] ?_
         repeat (refine drp HT ?_)
         refine drq_end ?_
         refine dr_last 9 HT rfl (by kernel_rfl) (by decide) (fun K hK => ?_)
         refine if_st 4 0 HS (seg := [.slice B8 t7.length d8, .slice none 0 0, .slice B11 y11.length d11]) ?_; clear HS; intro w12 HS F
         refine hK.out _ _ ?_
         clear hK K
         refine norm_ ?_ (hJ (.slice B8 t7.length d8, .slice B9 0 d9, .slice B11 y11.length d11, g3) _ (HS.arr [some 0, some 1, some 2, none, some 5, some 4] (by decide)))
         simp only [putAll, Act.put, ptn]
         (try rfl)
     · refine if_bx HS ?_; clear HS; intro g3 w3 HS F
       refine nrm 3 hK ⟨_, HS⟩ (fun HH => ?_); clear hK K
       refine dr1 3 HT fun K hK => ?_
       refine if_li q115 [] ([] : List S115) [] HS MadeL.nil ?_; clear HS; intro v9 w9 HS F; obtain ⟨B9, d9, rfl, m9⟩ := HS.formn 0 4 rfl rfl
       refine nrm 8 hK ⟨_, HS⟩ (fun HH => ?_); clear hK K
       refine dr1 6 HT fun K hK => ?_
       refine wp_apr fl115 4 HS rfl (HS.ro gp2) Tryz.underlying31 info115 (of_eq_true c10) ?_; clear HS; intro v11 w11 HS; rw [← e_y11.out] at HS; obtain ⟨B11, d11, rfl, m11⟩ := HS.form 5 rfl
       (try simp only [hpn, hpm] at HS)
       have F := HS.boxes; simp only [bxn] at F
       refine nrm 11 hK ⟨_, HS⟩ (fun HH => ?_); clear hK K
       refine drq_of [(7, some 12)] ?_
       repeat (refine drp HT ?_)
       refine drq_end ?_
       refine dr_last 9 HT rfl (by kernel_rfl) (by decide) (fun K hK => ?_)
       refine if_st 3 0 HS (seg := [.slice B8 t7.length d8, .slice none 0 0, .slice B11 y11.length d11]) ?_; clear HS; intro w12 HS F
       refine hK.out _ _ ?_
       clear hK K
       refine norm_ ?_ (hJ (.slice B8 t7.length d8, .slice B9 0 d9, .slice B11 y11.length d11, g3) _ (HS.arr [some 0, some 1, some 2, none, some 5, some 3] (by decide)))
       simp only [putAll, Act.put, ptn]
       (try rfl)
   · refine if_li q115 [] ([] : List S115) [] HS MadeL.nil ?_; clear HS; intro v9 w9 HS F; obtain ⟨B9, d9, rfl, m9⟩ := HS.formn 0 2 rfl rfl
     refine nrm 8 hK ⟨_, HS⟩ (fun HH => ?_); clear hK K
     refine dr_any [2, 8] HT (by kernel_rfl) (by decide) (AllReadyL.cons rfl (by decide) (fun K hK => ?_) (AllReadyL.cons rfl (by decide) (fun K hK => ?_) AllReadyL.nil))
     · refine go_cl1 HS (spec_l13Certs.calls ht7.out (HS.ro gp0) lp0) Tryz.func175 ?_; clear HS; intro v8 wt7 HS F; obtain ⟨B8, d8, rfl, m8⟩ := HS.form 3 rfl
       refine nrm 7 hK ⟨_, HS⟩ (fun HH => ?_); clear hK K
       refine dr_any [6, 8] HT (by kernel_rfl) (by decide) (AllReadyL.cons rfl (by decide) (fun K hK => ?_) (AllReadyL.cons rfl (by decide) (fun K hK => ?_) AllReadyL.nil))
       · refine wp_apr fl115 2 HS rfl (HS.ro gp2) Tryz.underlying31 info115 (of_eq_true c10) ?_; clear HS; intro v11 w11 HS; rw [← e_y11.out] at HS; obtain ⟨B11, d11, rfl, m11⟩ := HS.form 4 rfl
         (try simp only [hpn, hpm] at HS)
         have F := HS.boxes; simp only [bxn] at F
         refine nrm 11 hK ⟨_, HS⟩ (fun HH => ?_); clear hK K
         refine drq_of [(7, some 12)] ?_
         repeat (refine drp HT ?_)
         refine drq_end ?_
         refine dr1 8 HT fun K hK => ?_
         refine if_bx HS ?_; clear HS; intro g3 w3 HS F
         refine nrm 3 hK ⟨_, HS⟩ (fun HH => ?_); clear hK K
         refine dr_last 9 HT rfl (by kernel_rfl) (by decide) (fun K hK => ?_)
         refine if_st 5 0 HS (seg := [.slice B8 t7.length d8, .slice none 0 0, .slice B11 y11.length d11]) ?_; clear HS; intro w12 HS F
         refine hK.out _ _ ?_
         clear hK K
         refine norm_ ?_ (hJ (.slice B8 t7.length d8, .slice B9 0 d9, .slice B11 y11.length d11, g3) _ (HS.arr [some 0, some 1, some 3, none, some 4, some 5] (by decide)))
         simp only [putAll, Act.put, ptn]
         (try rfl)
       · refine if_bx HS ?_; clear HS; intro g3 w3 HS F
         refine nrm 3 hK ⟨_, HS⟩ (fun HH => ?_); clear hK K
         refine dr1 6 HT fun K hK => ?_
         refine wp_apr fl115 2 HS rfl (HS.ro gp2) Tryz.underlying31 info115 (of_eq_true c10) ?_; clear HS; intro v11 w11 HS; rw [← e_y11.out] at HS; obtain ⟨B11, d11, rfl, m11⟩ := HS.form 5 rfl
         (try simp only [hpn, hpm] at HS)
         have F := HS.boxes; simp only [bxn] at F
         refine nrm 11 hK ⟨_, HS⟩ (fun HH => ?_); clear hK K
         refine drq_of [(7, some 12)] ?_
         repeat (refine drp HT ?_)
         refine drq_end ?_
         refine dr_last 9 HT rfl (by kernel_rfl) (by decide) (fun K hK => ?_)
         refine if_st 4 0 HS (seg := [.slice B8 t7.length d8, .slice none 0 0, .slice B11 y11.length d11]) ?_; clear HS; intro w12 HS F
         refine hK.out _ _ ?_
         clear hK K
         refine norm_ ?_ (hJ (.slice B8 t7.length d8, .slice B9 0 d9, .slice B11 y11.length d11, g3) _ (HS.arr [some 0, some 1, some 3, none, some 5, some 4] (by decide)))
         simp only [putAll, Act.put, ptn]
         (try rfl)
     · refine if_bx HS ?_; clear HS; intro g3 w3 HS F
       refine nrm 3 hK ⟨_, HS⟩ (fun HH => ?_); clear hK K
       refine dr1 2 HT fun K hK => ?_
       refine go_cl1 HS (spec_l13Certs.calls ht7.out (HS.ro gp0) lp0) Tryz.func175 ?_; clear HS; intro v8 wt7 HS F; obtain ⟨B8, d8, rfl, m8⟩ := HS.form 4 rfl
       refine nrm 7 hK ⟨_, HS⟩ (fun HH => ?_); clear hK K
       refine dr1 6 HT fun K hK => ?_
       refine wp_apr fl115 2 HS rfl (HS.ro gp2) Tryz.underlying31 info115 (of_eq_true c10) ?_; clear HS; intro v11 w11 HS; rw [← e_y11.out] at HS; obtain ⟨B11, d11, rfl, m11⟩ := HS.form 5 rfl
       (try simp only [hpn, hpm] at HS)
       have F := HS.boxes; simp only [bxn] at F
       refine nrm 11 hK ⟨_, HS⟩ (fun HH => ?_); clear hK K
       refine drq_of [(7, some 12)] ?_
       repeat (refine drp HT ?_)
       refine drq_end ?_
       refine dr_last 9 HT rfl (by kernel_rfl) (by decide) (fun K hK => ?_)
       refine if_st 3 0 HS (seg := [.slice B8 t7.length d8, .slice none 0 0, .slice B11 y11.length d11]) ?_; clear HS; intro w12 HS F
       refine hK.out _ _ ?_
       clear hK K
       refine norm_ ?_ (hJ (.slice B8 t7.length d8, .slice B9 0 d9, .slice B11 y11.length d11, g3) _ (HS.arr [some 0, some 1, some 4, none, some 5, some 3] (by decide)))
       simp only [putAll, Act.put, ptn]
       (try rfl)
   · refine if_bx HS ?_; clear HS; intro g3 w3 HS F
     refine nrm 3 hK ⟨_, HS⟩ (fun HH => ?_); clear hK K
     refine dr_any [2, 3] HT (by kernel_rfl) (by decide) (AllReadyL.cons rfl (by decide) (fun K hK => ?_) (AllReadyL.cons rfl (by decide) (fun K hK => ?_) AllReadyL.nil))
     · refine go_cl1 HS (spec_l13Certs.calls ht7.out (HS.ro gp0) lp0) Tryz.func175 ?_; clear HS; intro v8 wt7 HS F; obtain ⟨B8, d8, rfl, m8⟩ := HS.form 3 rfl
       refine nrm 7 hK ⟨_, HS⟩ (fun HH => ?_); clear hK K
       refine dr1 3 HT fun K hK => ?_
       refine if_li q115 [] ([] : List S115) [] HS MadeL.nil ?_; clear HS; intro v9 w9 HS F; obtain ⟨B9, d9, rfl, m9⟩ := HS.formn 0 4 rfl rfl
       refine nrm 8 hK ⟨_, HS⟩ (fun HH => ?_); clear hK K
       refine dr1 6 HT fun K hK => ?_
       refine wp_apr fl115 4 HS rfl (HS.ro gp2) Tryz.underlying31 info115 (of_eq_true c10) ?_; clear HS; intro v11 w11 HS; rw [← e_y11.out] at HS; obtain ⟨B11, d11, rfl, m11⟩ := HS.form 5 rfl
       (try simp only [hpn, hpm] at HS)
       have F := HS.boxes; simp only [bxn] at F
       refine nrm 11 hK ⟨_, HS⟩ (fun HH => ?_); clear hK K
       refine drq_of [(7, some 12)] ?_
       repeat (refine drp HT ?_)
       refine drq_end ?_
       refine dr_last 9 HT rfl (by kernel_rfl) (by decide) (fun K hK => ?_)
       refine if_st 2 0 HS (seg := [.slice B8 t7.length d8, .slice none 0 0, .slice B11 y11.length d11]) ?_; clear HS; intro w12 HS F
       refine hK.out _ _ ?_
       clear hK K
       refine norm_ ?_ (hJ (.slice B8 t7.length d8, .slice B9 0 d9, .slice B11 y11.length d11, g3) _ (HS.arr [some 0, some 1, some 3, none, some 5, some 2] (by decide)))
       simp only [putAll, Act.put, ptn]
       (try rfl)
     · refine if_li q115 [] ([] : List S115) [] HS MadeL.nil ?_; clear HS; intro v9 w9 HS F; obtain ⟨B9, d9, rfl, m9⟩ := HS.formn 0 3 rfl rfl
       refine nrm 8 hK ⟨_, HS⟩ (fun HH => ?_); clear hK K
       refine dr1 2 HT fun K hK => ?_
       refine go_cl1 HS (spec_l13Certs.calls ht7.out (HS.ro gp0) lp0) Tryz.func175 ?_; clear HS; intro v8 wt7 HS F; obtain ⟨B8, d8, rfl, m8⟩ := HS.form 4 rfl
       refine nrm 7 hK ⟨_, HS⟩ (fun HH => ?_); clear hK K
       refine dr1 6 HT fun K hK => ?_
       refine wp_apr fl115 3 HS rfl (HS.ro gp2) Tryz.underlying31 info115 (of_eq_true c10) ?_; clear HS; intro v11 w11 HS; rw [← e_y11.out] at HS; obtain ⟨B11, d11, rfl, m11⟩ := HS.form 5 rfl
       (try simp only [hpn, hpm] at HS)
       have F := HS.boxes; simp only [bxn] at F
       refine nrm 11 hK ⟨_, HS⟩ (fun HH => ?_); clear hK K
       refine drq_of [(7, some 12)] ?_
       repeat (refine drp HT ?_)
       refine drq_end ?_
       refine dr_last 9 HT rfl (by kernel_rfl) (by decide) (fun K hK => ?_)
       refine if_st 2 0 HS (seg := [.slice B8 t7.length d8, .slice none 0 0, .slice B11 y11.length d11]) ?_; clear HS; intro w12 HS F
       refine hK.out _ _ ?_
       clear hK K
       refine norm_ ?_ (hJ (.slice B8 t7.length d8, .slice B9 0 d9, .slice B11 y11.length d11, g3) _ (HS.arr [some 0, some 1, some 4, none, some 5, some 2] (by decide)))
       simp only [putAll, Act.put, ptn]
       (try rfl)
 rintro ⟨v8, v9, v11, g3⟩ w13 HS
 obtain ⟨B8, d8, rfl, m8⟩ := HS.form 2 rfl
 obtain ⟨B11, d11, rfl, m11⟩ := HS.form 4 rfl
 have F := HS.boxes; simp only [bxn] at F
 refine norm_ (a' := ?_) ?_ ?_
 rotate_left
 · simp only [putAll, Act.put, ptn]; rfl
 refine done_ (done_of HT.out (by kernel_rfl)) ?_
 go_wp2
 replace HS := HS.nil 81 q81
 go_loopg [4] k (fun kq v_4 w' => ∃ (l20 : List S81) (v21 : Value) (x22 : Int), v_4 = .int .i64 x22 ∧ Aside0 (spec_l13Copy.l0 kq l20 x22 a0 t7 y11 = some r) ∧ Aside0 (kq ≤ k) ∧ Hp noFP w w' [.box g1 [.slice Ap0 a0.f0.length cp0, .slice Ap1 a0.f1.length cp1, .slice Ap2 a0.f2.length cp2] 33, .box g2 [.slice none 0 0, .slice none 0 0, .slice none 0 0] 33, .own (Zd.slice 91 q91) t7 [.slice B8 t7.length d8], .emp, .own (Zd.slice 115 q115) y11 [.slice B11 y11.length d11], .box g3 [.slice B8 t7.length d8, v21, .slice B11 y11.length d11] 33, .own (Zd.slice 81 q81) l20 [v21]])
 case atStart => exact ⟨_, _, _, rfl, H, ⟨Nat.le_refl _⟩, HS⟩
 case round =>
  clear HS H; (try clear F)
  obtain ⟨l20, v21, x22, rfl, H, HKk19, HS⟩ := hrel
  obtain ⟨B21, d21, rfl, m21⟩ := HS.form 6 rfl
  have F := HS.boxes; simp only [bxn] at F
  cases gk with
  | zero => exact absurd H.out (by simp [spec_l13Copy.l0])
  | succ k19 =>
   simp only [spec_l13Copy.l0] at H
   replace H := znif H; rcases H with ⟨c24, H⟩ | ⟨c24, H⟩
   case inl =>
    obtain rfl := zsome H
    go_wp2_with (first | ((with_reducible refine gate_store (p := 2) rfl ?_); refine ev_st 1 0 HS (seg := [.slice B8 t7.length d8, .slice B21 l20.length d21, .slice B11 y11.length d11]) ?_; clear HS; intro w28 HS F))
    exact bodyPost_ret (results_single rfl (.cell _ _ _ _ _ rfl (HS.boxAt (i := 1) rfl) Tryz.underlying33 rfl (by kernel_rfl) .nil)) rfl ⟨_, _, _, rfl, HS.pick [2, 6, 4] (by decide) (by rfl)⟩
   (try go_wp2)
   replace H := zgo H; obtain ⟨c14, H⟩ := H
   replace H := zgo H; obtain ⟨c15, H⟩ := H
   obtain ⟨ad16, B16_5, d16_5, rfl, e16_0, e16_1, e16_2, e16_3, e16_4, e16_5, e16_6, m16_5, y16_5⟩ := at_T81 gp1 x22 (of_eq_true c14) (of_eq_true c15)
   replace H := zbind H; obtain ⟨t17, ht17, H⟩ := H
   replace H := zgo H; obtain ⟨c25, H⟩ := H
   replace H := zlets H; obtain ⟨y27, e_y27, H⟩ := H
   refine dr_start2 [.box g1 [.slice Ap0 a0.f0.length cp0, .slice (some ad16) a0.f1.length cp1, .slice Ap2 a0.f2.length cp2] 33, .box g2 [.slice none 0 0, .slice none 0 0, .slice none 0 0] 33, .own (Zd.slice 91 q91) t7 [.slice B8 t7.length d8], .emp, .own (Zd.slice 115 q115) y11 [.slice B11 y11.length d11], .box g3 [.slice B8 t7.length d8, .slice B21 l20.length d21, .slice B11 y11.length d11] 33, .emp] [11] HS (HS.arr [some 0, some 1, some 2, none, some 4, some 5, none] (by decide)) #[false, false, false, false, false, false, false, false, false, false, false, false] (by kernel_rfl) rfl rfl spec_l13Copy.tT5 (fun w26 HT HS HH => ?_)
   (try clear F)
   refine drq_of [(0, some 20), (1, some 21), (2, some 22), (3, some 23), (4, some 24), (5, some 25)] ?_
   repeat (first | refine drp HT ?_ | refine drt HT HH ?_)
   refine drq_end ?_
   refine dr_take 6 (some 26) HT HH (v := ?_) (a' := ?_) rfl rfl (by kernel_rfl) (fun _ _ _ h => h) (.inl ⟨by rfl, ?_⟩) ?_ ?_
   rotate_left
   · rintro w' ⟨rs', HS'⟩; have e16_0 := HS'.keepc e16_0; have e16_1 := HS'.keepc e16_1; have e16_2 := HS'.keepc e16_2; have e16_3 := HS'.keepc e16_3; have e16_4 := HS'.keepc e16_4; have e16_5 := HS'.keepc e16_5; have e16_6 := HS'.keepc e16_6; go_simp; with_reducible rfl
   rotate_left
   · simp only [Act.put, ptn]; rfl
   refine dr1 7 HT fun K hK => ?_
   refine go_cl1 HS (spec_l10Copy.calls ht17.out (HS.ro y16_5) m16_5) Tryz.func106 ?_; clear HS; intro v18 wt17 HS F; obtain ⟨B18, d18, rfl, m18⟩ := HS.form 7 rfl
   refine hK.out _ _ ⟨[], HS.arr [some 0, some 1, some 2, none, some 4, some 5, none] (by decide)⟩ (fun HH => ?_)
   clear hK K
   refine norm_ (a' := ?_) ?_ ?_
   rotate_left
   · show Act.put _ (some 27) _ = _; simp only [Act.put, ptn]; rfl
   refine dr1 8 HT fun K hK => ?_
   refine if_li q81 [7] ([t17] : List S81) ([.string t17.f0, .int .i64 t17.f1, .int .i64 t17.f2, .int .i64 t17.f3, .int .i64 t17.f4, .slice B18 t17.f5.length d18, .string t17.f6] ++ []) HS (MadeL.cons (js1 := [7]) (c := [.string t17.f0, .int .i64 t17.f1, .int .i64 t17.f2, .int .i64 t17.f3, .int .i64 t17.f4, .slice B18 t17.f5.length d18, .string t17.f6]) rfl (fun S hd hh => q81_pack (x := t17) hd (hh 7 (.own (Zd.slice 238 q238) t17.f5 [.slice B18 t17.f5.length d18]) rfl) (by decide)) MadeL.nil (by decide)) ?_; clear HS; intro v23 w23 HS F; obtain ⟨B23, d23, rfl, m23⟩ := HS.formn 1 8 rfl rfl
   refine hK.out _ _ ⟨[], HS.arr [some 0, some 1, some 2, none, some 4, some 5, none] (by decide)⟩ (fun HH => ?_)
   clear hK K
   refine norm_ (a' := ?_) ?_ ?_
   rotate_left
   · show Act.put _ (some 28) _ = _; simp only [Act.put, ptn]; rfl
   refine dr1 9 HT fun K hK => ?_
   refine wp_ap q81 6 8 HS rfl rfl Tryz.underlying30 info81 (of_eq_true c25) ?_; clear HS; intro v27 w27 HS; rw [← e_y27.out] at HS; obtain ⟨B27, d27, rfl, m27⟩ := HS.form 9 rfl
   (try simp only [hpn, hpm] at HS)
   have F := HS.boxes; simp only [bxn] at F
   refine hK.out _ _ ⟨[], HS.arr [some 0, some 1, some 2, none, some 4, some 5, none] (by decide)⟩ (fun HH => ?_)
   clear hK K
   refine norm_ (a' := ?_) ?_ ?_
   rotate_left
   · show Act.put _ (some 29) _ = _; simp only [Act.put, ptn]; rfl
   refine drq_of [(10, some 30)] ?_
   repeat (refine drp HT ?_)
   refine drq_end ?_
   refine dr_last 11 HT rfl (by kernel_rfl) (by decide) (fun K hK => ?_)
   refine if_st 5 1 HS (seg := [.slice B27 y27.length d27]) ?_; clear HS; intro w29 HS F
   refine hK.out _ _ ?_
   clear hK K
   refine done_ (done_of HT.out (by kernel_rfl)) ?_
   (try clear F)
   have F := HS.boxes; simp only [bxn] at F
   go_wp2
   go_roundg k19
   case measure => have := HKk19.out; omega
   case rel => exact ⟨_, _, _, rfl, H, ⟨by have := HKk19.out; omega⟩, HS.pick [0, 1, 2, 3, 4, 5, 9] (by decide) (by rfl)⟩
def spec_AddCrl.f (k : Nat) (a0 : S33) (a1 : S81) : Option (S33 × Bool) := ((spec_l13Copy.f k a0).bind fun t7 => ((spec_l10Copy.f a1).bind fun t11 => (if t7.f1.length + 1 ≤ 1599289640401 then (lets (t7.f1 ++ ([t11] : List S81)) fun y18 => ((spec_StoreOk.f k (⟨t7.f0, y18, t7.f2⟩ : S33)).bind fun t19 => (if t19 = true then (some ((⟨t7.f0, y18, t7.f2⟩ : S33), true)) else ((spec_l13Copy.f k a0).bind fun t24 => (some ((⟨t24.f0, t24.f1, t24.f2⟩ : S33), false)))))) else none)))
def spec_AddCrl.T2 : TT := (true, [([], []), ([0], [0]), ([], []), ([2], [2]), ([3], [3]), ([1, 4, 3], [1, 4]), ([0, 1, 2, 3, 4, 5], []), ([6, 5, 5, 0, 1, 2, 3, 4, 5], [5, 6])])
theorem spec_AddCrl.tT2 : rtab .any (opsOf Tryz.f27 2) = spec_AddCrl.T2 := by kernel_rfl
theorem spec_AddCrl.calls {k : Nat} {a0 : S33} {a1 : S81} {Ap0 Ap1 Ap2 Ap3 : Option Addr} {np0 cp0 np1 cp1 np2 cp2 np3 cp3 : Nat} {r1 : S33} {r2 : Bool} {w : World} (h : spec_AddCrl.f k a0 a1 = some (r1, r2)) (gp0 : k91.C w Ap0 np0 a0.f0) (lp0 : np0 ≤ cp0) (gp1 : k81.C w Ap1 np1 a0.f1) (lp1 : np1 ≤ cp1) (gp2 : k115.C w Ap2 np2 a0.f2) (lp2 : np2 ≤ cp2) (gp3 : k238.C w Ap3 np3 a1.f5) (lp3 : np3 ≤ cp3) :
    Calls Tryz.prog 27 #[.agg #[.slice Ap0 np0 cp0, .slice Ap1 np1 cp1, .slice Ap2 np2 cp2], .agg #[.string a1.f0, .int .i64 a1.f1, .int .i64 a1.f2, .int .i64 a1.f3, .int .i64 a1.f4, .slice Ap3 np3 cp3, .string a1.f6]] w (fun e w' => ∃ v0_ v1_ v2_ : Value, e = .returned (.tuple #[.agg #[v0_, v1_, v2_], .bool r2]) ∧ Hp noFP w w' [.own (Zd.slice 91 q91) r1.f0 [v0_], .own (Zd.slice 81 q81) r1.f1 [v1_], .own (Zd.slice 115 q115) r1.f2 [v2_]]) := by
 obtain rfl := C_len gp0
 obtain rfl := C_len gp1
 obtain rfl := C_len gp2
 obtain rfl := C_len gp3
 have HS := Hp.start w
 have H := Aside0.mk h
 clear h
 unfold spec_AddCrl.f at H
 go_enter Tryz.func27, Tryz.ntmps27
 replace H := zbind H; obtain ⟨t7, ht7, H⟩ := H
 go_wp2_with (first | ((with_reducible refine gd 2 rfl ?_); refine ev_bx HS ?_; clear HS; intro g2 w2 HS F) | ((with_reducible refine gd 3 rfl ?_); refine ev_bx HS ?_; clear HS; intro g3 w3 HS F) | ((with_reducible refine gd 4 rfl ?_); refine ev_bx HS ?_; clear HS; intro g4 w4 HS F) | ((with_reducible refine gd 8 rfl ?_); refine ev_cl3 HS (spec_l13Copy.calls ht7.out (HS.ro gp0) lp0 (HS.ro gp1) lp1 (HS.ro gp2) lp2) Tryz.func105 ?_; clear HS; intro v8 v9 v10 wt7 HS F; obtain ⟨B8, d8, rfl, m8⟩ := HS.form 3 rfl; obtain ⟨B9, d9, rfl, m9⟩ := HS.form 4 rfl; obtain ⟨B10, d10, rfl, m10⟩ := HS.form 5 rfl) | ((with_reducible refine gd 6 rfl ?_); refine ev_bx HS ?_; clear HS; intro g6 w6 HS F) | ((with_reducible refine gate_store (p := 6) rfl ?_); refine ev_st 6 0 HS (seg := [.slice B8 t7.f0.length d8, .slice B9 t7.f1.length d9, .slice B10 t7.f2.length d10]) ?_; clear HS; intro w14 HS F))
 replace H := zbind H; obtain ⟨t11, ht11, H⟩ := H
 replace H := zgo H; obtain ⟨c16, H⟩ := H
 replace H := zlets H; obtain ⟨y18, e_y18, H⟩ := H
 refine dr_start2 [.box g2 [.slice Ap0 a0.f0.length cp0, .slice Ap1 a0.f1.length cp1, .slice Ap2 a0.f2.length cp2] 33, .box g3 [.string a1.f0, .int .i64 a1.f1, .int .i64 a1.f2, .int .i64 a1.f3, .int .i64 a1.f4, .slice Ap3 a1.f5.length cp3, .string a1.f6] 81, .box g4 [.slice none 0 0, .slice none 0 0, .slice none 0 0] 33, .own (Zd.slice 91 q91) t7.f0 [.slice B8 t7.f0.length d8], .emp, .own (Zd.slice 115 q115) t7.f2 [.slice B10 t7.f2.length d10], .box g6 [.slice B8 t7.f0.length d8, .slice B9 t7.f1.length d9, .slice B10 t7.f2.length d10] 33] [7] HS (HS.arr [some 0, some 1, some 2, some 3, none, some 5, some 6] (by decide)) #[false, false, false, false, false, false, false, false] (by kernel_rfl) rfl rfl spec_AddCrl.tT2 (fun w17 HT HS HH => ?_)
 (try clear F)
 refine drq_of [(0, some 9), (1, some 10), (2, some 11)] ?_
 repeat (first | refine drp HT ?_ | refine drt HT HH ?_)
 refine drq_end ?_
 refine dr1 3 HT fun K hK => ?_
 refine go_cl1 HS (spec_l10Copy.calls ht11.out (HS.ro gp3) lp3) Tryz.func106 ?_; clear HS; intro v13 wt11 HS F; obtain ⟨B13, d13, rfl, m13⟩ := HS.form 7 rfl
 refine hK.out _ _ ⟨[], HS.arr [some 0, some 1, some 2, some 3, none, some 5, some 6] (by decide)⟩ (fun HH => ?_)
 clear hK K
 refine norm_ (a' := ?_) ?_ ?_
 rotate_left
 · show Act.put _ (some 12) _ = _; simp only [Act.put, ptn]; rfl
 refine dr1 4 HT fun K hK => ?_
 refine if_li q81 [7] ([t11] : List S81) ([.string t11.f0, .int .i64 t11.f1, .int .i64 t11.f2, .int .i64 t11.f3, .int .i64 t11.f4, .slice B13 t11.f5.length d13, .string t11.f6] ++ []) HS (MadeL.cons (js1 := [7]) (c := [.string t11.f0, .int .i64 t11.f1, .int .i64 t11.f2, .int .i64 t11.f3, .int .i64 t11.f4, .slice B13 t11.f5.length d13, .string t11.f6]) rfl (fun S hd hh => q81_pack (x := t11) hd (hh 7 (.own (Zd.slice 238 q238) t11.f5 [.slice B13 t11.f5.length d13]) rfl) (by decide)) MadeL.nil (by decide)) ?_; clear HS; intro v15 w15 HS F; obtain ⟨B15, d15, rfl, m15⟩ := HS.formn 1 8 rfl rfl
 refine hK.out _ _ ⟨[], HS.arr [some 0, some 1, some 2, some 3, none, some 5, some 6] (by decide)⟩ (fun HH => ?_)
 clear hK K
 refine norm_ (a' := ?_) ?_ ?_
 rotate_left
 · show Act.put _ (some 13) _ = _; simp only [Act.put, ptn]; rfl
 refine dr1 5 HT fun K hK => ?_
 refine wp_ap q81 4 8 HS rfl rfl Tryz.underlying30 info81 (of_eq_true c16) ?_; clear HS; intro v18 w18 HS; rw [← e_y18.out] at HS; obtain ⟨B18, d18, rfl, m18⟩ := HS.form 9 rfl
 (try simp only [hpn, hpm] at HS)
 have F := HS.boxes; simp only [bxn] at F
 refine hK.out _ _ ⟨[], HS.arr [some 0, some 1, some 2, some 3, none, some 5, some 6] (by decide)⟩ (fun HH => ?_)
 clear hK K
 refine norm_ (a' := ?_) ?_ ?_
 rotate_left
 · show Act.put _ (some 14) _ = _; simp only [Act.put, ptn]; rfl
 refine drq_of [(6, some 15)] ?_
 repeat (refine drp HT ?_)
 refine drq_end ?_
 refine dr_last 7 HT rfl (by kernel_rfl) (by decide) (fun K hK => ?_)
 refine if_st 6 1 HS (seg := [.slice B18 y18.length d18]) ?_; clear HS; intro w20 HS F
 refine hK.out _ _ ?_
 clear hK K
 refine done_ (done_of HT.out (by kernel_rfl)) ?_
 (try clear F)
 have F := HS.boxes; simp only [bxn] at F
 replace H := zbind H; obtain ⟨t19, ht19, H⟩ := H
 go_upto_if 18 with (first | ((with_reducible refine gd 17 rfl ?_); refine ev_cl HS (spec_StoreOk.calls ht19.out (HS.rd 3 rfl) m8 (HS.rd 9 rfl) m18 (HS.rd 5 rfl) m10) Tryz.func12 ?_; clear HS; intro wt19 HS F))
 replace H := zifb H; rcases H with ⟨c21, H⟩ | ⟨c21, H⟩
 case inl =>
  subst c21
  (try simp only [dcn, dcu, dcf])
  obtain ⟨rfl, rfl⟩ := zsome2 H
  go_wp2_with (first | ((with_reducible refine gate_store (p := 4) rfl ?_); refine ev_st 2 0 HS (seg := [.slice B8 t7.f0.length d8, .slice B18 y18.length d18, .slice B10 t7.f2.length d10]) ?_; clear HS; intro w22 HS F))
  exact bodyPost_ret (results_list (rs := [.cell 4 33, .tmp 5]) rfl (by simp) (.cell _ _ _ _ _ rfl (HS.boxAt (i := 2) rfl) Tryz.underlying33 rfl (by kernel_rfl) (.tmp .nil))) rfl ⟨_, _, _, rfl, HS.pick [3, 9, 5] (by decide) (by rfl)⟩
 subst c21
 (try simp only [dcn, dcu, dcf])
 replace H := zbind H; obtain ⟨t24, ht24, H⟩ := H
 obtain ⟨rfl, rfl⟩ := zsome2 H
 go_wp2_with (first | ((with_reducible refine gd 20 rfl ?_); refine ev_cl3 HS (spec_l13Copy.calls ht24.out (HS.ro gp0) lp0 (HS.ro gp1) lp1 (HS.ro gp2) lp2) Tryz.func105 ?_; clear HS; intro v25 v26 v27 wt24 HS F; obtain ⟨B25, d25, rfl, m25⟩ := HS.form 10 rfl; obtain ⟨B26, d26, rfl, m26⟩ := HS.form 11 rfl; obtain ⟨B27, d27, rfl, m27⟩ := HS.form 12 rfl) | ((with_reducible refine gate_store (p := 4) rfl ?_); refine ev_st 2 0 HS (seg := [.slice B25 t24.f0.length d25, .slice B26 t24.f1.length d26, .slice B27 t24.f2.length d27]) ?_; clear HS; intro w29 HS F))
 exact bodyPost_ret (results_list (rs := [.cell 4 33, .tmp 5]) rfl (by simp) (.cell _ _ _ _ _ rfl (HS.boxAt (i := 2) rfl) Tryz.underlying33 rfl (by kernel_rfl) (.tmp .nil))) rfl ⟨_, _, _, rfl, HS.pick [10, 11, 12] (by decide) (by rfl)⟩
def impl_copyCert.f (a0 : S91) : Option (S91) := (if 0 + a0.f9.length ≤ 17592186044416 then (lets (([] : List Int) ++ a0.f9) fun y6 => (if 0 + a0.f10.length ≤ 8796093022208 then (lets (([] : List ByteArray) ++ a0.f10) fun y11 => (if 0 + a0.f11.length ≤ 8796093022208 then (lets (([] : List ByteArray) ++ a0.f11) fun y16 => (some (⟨a0.f0, a0.f1, a0.f2, a0.f3, a0.f4, a0.f5, a0.f6, a0.f7, a0.f8, y6, y11, y16, a0.f12⟩ : S91))) else none)) else none)) else none)
theorem impl_copyCert.calls {a0 : S91} {Ap0 Ap1 Ap2 : Option Addr} {np0 cp0 np1 cp1 np2 cp2 : Nat} {r : S91} {w : World} (h : impl_copyCert.f a0 = some r) (gp0 : (Kd.int .i64).C w Ap0 np0 a0.f9) (lp0 : np0 ≤ cp0) (gp1 : Kd.string.C w Ap1 np1 a0.f10) (lp1 : np1 ≤ cp1) (gp2 : Kd.string.C w Ap2 np2 a0.f11) (lp2 : np2 ≤ cp2) :
    Calls Tryz.prog 119 #[.agg #[.int .i64 a0.f0, .string a0.f1, .string a0.f2, .int .i64 a0.f3, .int .i64 a0.f4, .string a0.f5, .bool a0.f6, .int .i64 a0.f7, .int .i64 a0.f8, .slice Ap0 np0 cp0, .slice Ap1 np1 cp1, .slice Ap2 np2 cp2, .string a0.f12]] w (fun e w' => ∃ v0_ v1_ v2_ : Value, e = .returned (.agg #[.int .i64 r.f0, .string r.f1, .string r.f2, .int .i64 r.f3, .int .i64 r.f4, .string r.f5, .bool r.f6, .int .i64 r.f7, .int .i64 r.f8, v0_, v1_, v2_, .string r.f12]) ∧ Hp noFP w w' [.own (Zd.slice 3 (Zd.int .i64)) r.f9 [v0_], .own (Zd.slice 9 Zd.string) r.f10 [v1_], .own (Zd.slice 9 Zd.string) r.f11 [v2_]]) := by
 obtain rfl := C_len gp0
 obtain rfl := C_len gp1
 obtain rfl := C_len gp2
 have HS := Hp.start w
 have H := Aside0.mk h
 clear h
 unfold impl_copyCert.f at H
 go_enter Tryz.func119, Tryz.ntmps119
 replace H := zgo H; obtain ⟨c5, H⟩ := H
 replace H := zlets H; obtain ⟨y6, e_y6, H⟩ := H
 replace H := zgo H; obtain ⟨c10, H⟩ := H
 replace H := zlets H; obtain ⟨y11, e_y11, H⟩ := H
 replace H := zgo H; obtain ⟨c15, H⟩ := H
 replace H := zlets H; obtain ⟨y16, e_y16, H⟩ := H
 obtain rfl := zsome H
 go_wp2_with (first | ((with_reducible refine gd 1 rfl ?_); refine ev_bx HS ?_; clear HS; intro g1 w1 HS F) | ((with_reducible refine gd 2 rfl ?_); refine ev_bx HS ?_; clear HS; intro g2 w2 HS F) | ((with_reducible refine gd 5 rfl ?_); replace HS := HS.nil 3 (Zd.int .i64); refine ev_apr (flat_int _) 2 HS rfl (HS.ro gp0) Tryz.underlying52 info3 (of_eq_true c5) ?_; clear HS; intro v6 w6 HS; rw [← e_y6.out] at HS; obtain ⟨B6, d6, rfl, m6⟩ := HS.form 3 rfl; (try simp only [hpn, hpm] at HS); have F := HS.boxes; simp only [bxn] at F) | ((with_reducible refine gate_store (p := 6) rfl ?_); refine ev_st 0 9 HS (seg := [.slice B6 y6.length d6]) ?_; clear HS; intro w8 HS F) | ((with_reducible refine gd 9 rfl ?_); replace HS := HS.nil 9 Zd.string; refine ev_apr flat_string 4 HS rfl (HS.ro gp1) Tryz.underlying57 info9 (of_eq_true c10) ?_; clear HS; intro v11 w11 HS; rw [← e_y11.out] at HS; obtain ⟨B11, d11, rfl, m11⟩ := HS.form 5 rfl; (try simp only [hpn, hpm] at HS); have F := HS.boxes; simp only [bxn] at F) | ((with_reducible refine gate_store (p := 10) rfl ?_); refine ev_st 0 10 HS (seg := [.slice B11 y11.length d11]) ?_; clear HS; intro w13 HS F) | ((with_reducible refine gd 13 rfl ?_); replace HS := HS.nil 9 Zd.string; refine ev_apr flat_string 6 HS rfl (HS.ro gp2) Tryz.underlying57 info9 (of_eq_true c15) ?_; clear HS; intro v16 w16 HS; rw [← e_y16.out] at HS; obtain ⟨B16, d16, rfl, m16⟩ := HS.form 7 rfl; (try simp only [hpn, hpm] at HS); have F := HS.boxes; simp only [bxn] at F) | ((with_reducible refine gate_store (p := 14) rfl ?_); refine ev_st 0 11 HS (seg := [.slice B16 y16.length d16]) ?_; clear HS; intro w18 HS F) | ((with_reducible refine gate_store (p := 2) rfl ?_); refine ev_st 1 0 HS (seg := [.int .i64 a0.f0, .string a0.f1, .string a0.f2, .int .i64 a0.f3, .int .i64 a0.f4, .string a0.f5, .bool a0.f6, .int .i64 a0.f7, .int .i64 a0.f8, .slice B6 y6.length d6, .slice B11 y11.length d11, .slice B16 y16.length d16, .string a0.f12]) ?_; clear HS; intro w20 HS F))
 exact bodyPost_ret (results_single rfl (.cell _ _ _ _ _ rfl (HS.boxAt (i := 1) rfl) Tryz.underlying91 rfl (by kernel_rfl) .nil)) rfl ⟨_, _, _, rfl, HS.pick [3, 5, 7] (by decide) (by rfl)⟩
def impl_copyCerts.l0 : Nat → (List S91) → Int → (List S91) → Option ((List S91))
  | 0, _, _, _ => none
  | k + 1, l16, x18, a0 => (if x18 < (a0.length : Int) then (if 0 ≤ x18 then (if x18 < (a0.length : Int) then ((impl_copyCert.f (rd_T91 a0 x18)).bind fun t28 => (if l16.length + 1 ≤ 764877654105 then (lets (l16 ++ ([t28] : List S91)) fun y36 => (impl_copyCerts.l0 k y36 (wrap64 (x18 + 1)) a0)) else none)) else none) else none) else (some l16))
def impl_copyCerts.f (k : Nat) (a0 : (List S91)) : Option ((List S91)) := (impl_copyCerts.l0 k [] 0 a0)
theorem impl_copyCerts.calls {k : Nat} {a0 : (List S91)} {Ap0 : Option Addr} {np0 cp0 : Nat} {r : (List S91)} {w : World} (h : impl_copyCerts.f k a0 = some r) (gp0 : k91.C w Ap0 np0 a0) (lp0 : np0 ≤ cp0) :
    Calls Tryz.prog 177 #[.slice Ap0 np0 cp0] w (fun e w' => ∃ v0_ : Value, e = .returned (v0_) ∧ Hp noFP w w' [.own (Zd.slice 91 q91) r [v0_]]) := by
 obtain rfl := C_len gp0
 have HS := Hp.start w
 have H := Aside0.mk h
 clear h
 unfold impl_copyCerts.f at H
 go_enter Tryz.func177, Tryz.ntmps177
 go_wp2
 replace HS := HS.nil 91 q91
 go_loopg [3, 8] k (fun kq v_3 v_8 w' => ∃ (l16 : List S91) (v17 : Value) (x18 : Int), v_3 = v17 ∧ v_8 = .int .i64 x18 ∧ Aside0 (impl_copyCerts.l0 kq l16 x18 a0 = some r) ∧ Aside0 (kq ≤ k) ∧ Hp noFP w w' [.own (Zd.slice 91 q91) l16 [v17]])
 case atStart => exact ⟨_, _, _, rfl, rfl, H, ⟨Nat.le_refl _⟩, HS⟩
 case round =>
  clear HS H; (try clear F)
  obtain ⟨l16, v17, x18, rfl, rfl, H, HKk15, HS⟩ := hrel
  obtain ⟨B17, d17, rfl, m17⟩ := HS.form 0 rfl
  cases gk with
  | zero => exact absurd H.out (by simp [impl_copyCerts.l0])
  | succ k15 =>
   simp only [impl_copyCerts.l0] at H
   replace H := znif H; rcases H with ⟨c20, H⟩ | ⟨c20, H⟩
   case inl =>
    obtain rfl := zsome H
    go_wp2
    exact bodyPost_ret (results_single rfl (.tmp .nil)) rfl ⟨_, rfl, HS.pick [0] (by decide) (by rfl)⟩
   replace H := zgo H; obtain ⟨c21, H⟩ := H
   replace H := zgo H; obtain ⟨c22, H⟩ := H
   obtain ⟨ad23, B23_9, d23_9, B23_10, d23_10, B23_11, d23_11, rfl, e23_0, e23_1, e23_2, e23_3, e23_4, e23_5, e23_6, e23_7, e23_8, e23_9, e23_10, e23_11, e23_12, m23_9, y23_9, m23_10, y23_10, m23_11, y23_11⟩ := at_T91 gp0 x18 (of_eq_true c21) (of_eq_true c22)
   have e23_0_23 := HS.keepc e23_0
   have e23_1_23 := HS.keepc e23_1
   have e23_2_23 := HS.keepc e23_2
   have e23_3_23 := HS.keepc e23_3
   have e23_4_23 := HS.keepc e23_4
   have e23_5_23 := HS.keepc e23_5
   have e23_6_23 := HS.keepc e23_6
   have e23_7_23 := HS.keepc e23_7
   have e23_8_23 := HS.keepc e23_8
   have e23_9_23 := HS.keepc e23_9
   have e23_10_23 := HS.keepc e23_10
   have e23_11_23 := HS.keepc e23_11
   have e23_12_23 := HS.keepc e23_12
   replace H := zbind H; obtain ⟨t28, ht28, H⟩ := H
   replace H := zgo H; obtain ⟨c35, H⟩ := H
   replace H := zlets H; obtain ⟨y36, e_y36, H⟩ := H
   go_wp2_with (first | ((with_reducible refine gd 5 rfl ?_); refine ev_bx HS ?_; clear HS; intro g5 w5 HS F) | ((with_reducible refine gate_store (p := 5) rfl ?_); refine ev_st 1 0 HS (seg := [.int .i64 ((rd_T91 a0 x18).f0), .string ((rd_T91 a0 x18).f1), .string ((rd_T91 a0 x18).f2), .int .i64 ((rd_T91 a0 x18).f3), .int .i64 ((rd_T91 a0 x18).f4), .string ((rd_T91 a0 x18).f5), .bool ((rd_T91 a0 x18).f6), .int .i64 ((rd_T91 a0 x18).f7), .int .i64 ((rd_T91 a0 x18).f8), .slice B23_9 (rd_T91 a0 x18).f9.length d23_9, .slice B23_10 (rd_T91 a0 x18).f10.length d23_10, .slice B23_11 (rd_T91 a0 x18).f11.length d23_11, .string ((rd_T91 a0 x18).f12)]) ?_; clear HS; intro w26 HS F) | ((with_reducible refine gd 14 rfl ?_); refine ev_cl3 HS (impl_copyCert.calls ht28.out (HS.ro y23_9) m23_9 (HS.ro y23_10) m23_10 (HS.ro y23_11) m23_11) Tryz.func119 ?_; clear HS; intro v29 v30 v31 wt28 HS F; obtain ⟨B29, d29, rfl, m29⟩ := HS.form 2 rfl; obtain ⟨B30, d30, rfl, m30⟩ := HS.form 3 rfl; obtain ⟨B31, d31, rfl, m31⟩ := HS.form 4 rfl) | ((with_reducible refine gd 15 rfl ?_); refine ev_li q91 [2, 3, 4] ([t28] : List S91) ([.int .i64 t28.f0, .string t28.f1, .string t28.f2, .int .i64 t28.f3, .int .i64 t28.f4, .string t28.f5, .bool t28.f6, .int .i64 t28.f7, .int .i64 t28.f8, .slice B29 t28.f9.length d29, .slice B30 t28.f10.length d30, .slice B31 t28.f11.length d31, .string t28.f12] ++ []) HS (MadeL.cons (js1 := [2, 3, 4]) (c := [.int .i64 t28.f0, .string t28.f1, .string t28.f2, .int .i64 t28.f3, .int .i64 t28.f4, .string t28.f5, .bool t28.f6, .int .i64 t28.f7, .int .i64 t28.f8, .slice B29 t28.f9.length d29, .slice B30 t28.f10.length d30, .slice B31 t28.f11.length d31, .string t28.f12]) rfl (fun S hd hh => q91_pack (x := t28) hd (hh 2 (.own (Zd.slice 3 (Zd.int .i64)) t28.f9 [.slice B29 t28.f9.length d29]) rfl) (hh 3 (.own (Zd.slice 9 Zd.string) t28.f10 [.slice B30 t28.f10.length d30]) rfl) (hh 4 (.own (Zd.slice 9 Zd.string) t28.f11 [.slice B31 t28.f11.length d31]) rfl) (by decide)) MadeL.nil (by decide)) ?_; clear HS; intro v33 w33 HS F; obtain ⟨B33, d33, rfl, m33⟩ := HS.formn 1 5 rfl rfl) | ((with_reducible refine gd 16 rfl ?_); refine ev_ap q91 0 5 HS rfl rfl Tryz.underlying29 info91 (of_eq_true c35) ?_; clear HS; intro v36 w36 HS; rw [← e_y36.out] at HS; obtain ⟨B36, d36, rfl, m36⟩ := HS.form 6 rfl; (try simp only [hpn, hpm] at HS); have F := HS.boxes; simp only [bxn] at F))
   go_roundg k15
   case measure => have := HKk15.out; omega
   case rel => exact ⟨_, _, _, rfl, rfl, H, ⟨by have := HKk15.out; omega⟩, HS.pick [6] (by decide) (by rfl)⟩
def impl_copyCrl.f (a0 : S81) : Option (S81) := (if 0 + a0.f5.length ≤ 8796093022208 then (lets (([] : List S238) ++ a0.f5) fun y6 => (some (⟨a0.f0, a0.f1, a0.f2, a0.f3, a0.f4, y6, a0.f6⟩ : S81))) else none)
theorem impl_copyCrl.calls {a0 : S81} {Ap0 : Option Addr} {np0 cp0 : Nat} {r : S81} {w : World} (h : impl_copyCrl.f a0 = some r) (gp0 : k238.C w Ap0 np0 a0.f5) (lp0 : np0 ≤ cp0) :
    Calls Tryz.prog 109 #[.agg #[.string a0.f0, .int .i64 a0.f1, .int .i64 a0.f2, .int .i64 a0.f3, .int .i64 a0.f4, .slice Ap0 np0 cp0, .string a0.f6]] w (fun e w' => ∃ v0_ : Value, e = .returned (.agg #[.string r.f0, .int .i64 r.f1, .int .i64 r.f2, .int .i64 r.f3, .int .i64 r.f4, v0_, .string r.f6]) ∧ Hp noFP w w' [.own (Zd.slice 238 q238) r.f5 [v0_]]) := by
 obtain rfl := C_len gp0
 have HS := Hp.start w
 have H := Aside0.mk h
 clear h
 unfold impl_copyCrl.f at H
 go_enter Tryz.func109, Tryz.ntmps109
 replace H := zgo H; obtain ⟨c5, H⟩ := H
 replace H := zlets H; obtain ⟨y6, e_y6, H⟩ := H
 obtain rfl := zsome H
 go_wp2_with (first | ((with_reducible refine gd 1 rfl ?_); refine ev_bx HS ?_; clear HS; intro g1 w1 HS F) | ((with_reducible refine gd 2 rfl ?_); refine ev_bx HS ?_; clear HS; intro g2 w2 HS F) | ((with_reducible refine gd 5 rfl ?_); replace HS := HS.nil 238 q238; refine ev_apr fl238 2 HS rfl (HS.ro gp0) Tryz.underlying79 info238 (of_eq_true c5) ?_; clear HS; intro v6 w6 HS; rw [← e_y6.out] at HS; obtain ⟨B6, d6, rfl, m6⟩ := HS.form 3 rfl; (try simp only [hpn, hpm] at HS); have F := HS.boxes; simp only [bxn] at F) | ((with_reducible refine gate_store (p := 6) rfl ?_); refine ev_st 0 5 HS (seg := [.slice B6 y6.length d6]) ?_; clear HS; intro w8 HS F) | ((with_reducible refine gate_store (p := 2) rfl ?_); refine ev_st 1 0 HS (seg := [.string a0.f0, .int .i64 a0.f1, .int .i64 a0.f2, .int .i64 a0.f3, .int .i64 a0.f4, .slice B6 y6.length d6, .string a0.f6]) ?_; clear HS; intro w10 HS F))
 exact bodyPost_ret (results_single rfl (.cell _ _ _ _ _ rfl (HS.boxAt (i := 1) rfl) Tryz.underlying81 rfl (by kernel_rfl) .nil)) rfl ⟨_, rfl, HS.pick [3] (by decide) (by rfl)⟩
def impl_copyCrls.l0 : Nat → (List S81) → Int → (List S81) → Option ((List S81))
  | 0, _, _, _ => none
  | k + 1, l16, x18, a0 => (if x18 < (a0.length : Int) then (if 0 ≤ x18 then (if x18 < (a0.length : Int) then ((impl_copyCrl.f (rd_T81 a0 x18)).bind fun t28 => (if l16.length + 1 ≤ 1599289640401 then (lets (l16 ++ ([t28] : List S81)) fun y34 => (impl_copyCrls.l0 k y34 (wrap64 (x18 + 1)) a0)) else none)) else none) else none) else (some l16))
def impl_copyCrls.f (k : Nat) (a0 : (List S81)) : Option ((List S81)) := (impl_copyCrls.l0 k [] 0 a0)
theorem impl_copyCrls.calls {k : Nat} {a0 : (List S81)} {Ap0 : Option Addr} {np0 cp0 : Nat} {r : (List S81)} {w : World} (h : impl_copyCrls.f k a0 = some r) (gp0 : k81.C w Ap0 np0 a0) (lp0 : np0 ≤ cp0) :
    Calls Tryz.prog 178 #[.slice Ap0 np0 cp0] w (fun e w' => ∃ v0_ : Value, e = .returned (v0_) ∧ Hp noFP w w' [.own (Zd.slice 81 q81) r [v0_]]) := by
 obtain rfl := C_len gp0
 have HS := Hp.start w
 have H := Aside0.mk h
 clear h
 unfold impl_copyCrls.f at H
 go_enter Tryz.func178, Tryz.ntmps178
 go_wp2
 replace HS := HS.nil 81 q81
 go_loopg [3, 8] k (fun kq v_3 v_8 w' => ∃ (l16 : List S81) (v17 : Value) (x18 : Int), v_3 = v17 ∧ v_8 = .int .i64 x18 ∧ Aside0 (impl_copyCrls.l0 kq l16 x18 a0 = some r) ∧ Aside0 (kq ≤ k) ∧ Hp noFP w w' [.own (Zd.slice 81 q81) l16 [v17]])
 case atStart => exact ⟨_, _, _, rfl, rfl, H, ⟨Nat.le_refl _⟩, HS⟩
 case round =>
  clear HS H; (try clear F)
  obtain ⟨l16, v17, x18, rfl, rfl, H, HKk15, HS⟩ := hrel
  obtain ⟨B17, d17, rfl, m17⟩ := HS.form 0 rfl
  cases gk with
  | zero => exact absurd H.out (by simp [impl_copyCrls.l0])
  | succ k15 =>
   simp only [impl_copyCrls.l0] at H
   replace H := znif H; rcases H with ⟨c20, H⟩ | ⟨c20, H⟩
   case inl =>
    obtain rfl := zsome H
    go_wp2
    exact bodyPost_ret (results_single rfl (.tmp .nil)) rfl ⟨_, rfl, HS.pick [0] (by decide) (by rfl)⟩
   replace H := zgo H; obtain ⟨c21, H⟩ := H
   replace H := zgo H; obtain ⟨c22, H⟩ := H
   obtain ⟨ad23, B23_5, d23_5, rfl, e23_0, e23_1, e23_2, e23_3, e23_4, e23_5, e23_6, m23_5, y23_5⟩ := at_T81 gp0 x18 (of_eq_true c21) (of_eq_true c22)
   have e23_0_23 := HS.keepc e23_0
   have e23_1_23 := HS.keepc e23_1
   have e23_2_23 := HS.keepc e23_2
   have e23_3_23 := HS.keepc e23_3
   have e23_4_23 := HS.keepc e23_4
   have e23_5_23 := HS.keepc e23_5
   have e23_6_23 := HS.keepc e23_6
   replace H := zbind H; obtain ⟨t28, ht28, H⟩ := H
   replace H := zgo H; obtain ⟨c33, H⟩ := H
   replace H := zlets H; obtain ⟨y34, e_y34, H⟩ := H
   go_wp2_with (first | ((with_reducible refine gd 5 rfl ?_); refine ev_bx HS ?_; clear HS; intro g5 w5 HS F) | ((with_reducible refine gate_store (p := 5) rfl ?_); refine ev_st 1 0 HS (seg := [.string ((rd_T81 a0 x18).f0), .int .i64 ((rd_T81 a0 x18).f1), .int .i64 ((rd_T81 a0 x18).f2), .int .i64 ((rd_T81 a0 x18).f3), .int .i64 ((rd_T81 a0 x18).f4), .slice B23_5 (rd_T81 a0 x18).f5.length d23_5, .string ((rd_T81 a0 x18).f6)]) ?_; clear HS; intro w26 HS F) | ((with_reducible refine gd 14 rfl ?_); refine ev_cl1 HS (impl_copyCrl.calls ht28.out (HS.ro y23_5) m23_5) Tryz.func109 ?_; clear HS; intro v29 wt28 HS F; obtain ⟨B29, d29, rfl, m29⟩ := HS.form 2 rfl) | ((with_reducible refine gd 15 rfl ?_); refine ev_li q81 [2] ([t28] : List S81) ([.string t28.f0, .int .i64 t28.f1, .int .i64 t28.f2, .int .i64 t28.f3, .int .i64 t28.f4, .slice B29 t28.f5.length d29, .string t28.f6] ++ []) HS (MadeL.cons (js1 := [2]) (c := [.string t28.f0, .int .i64 t28.f1, .int .i64 t28.f2, .int .i64 t28.f3, .int .i64 t28.f4, .slice B29 t28.f5.length d29, .string t28.f6]) rfl (fun S hd hh => q81_pack (x := t28) hd (hh 2 (.own (Zd.slice 238 q238) t28.f5 [.slice B29 t28.f5.length d29]) rfl) (by decide)) MadeL.nil (by decide)) ?_; clear HS; intro v31 w31 HS F; obtain ⟨B31, d31, rfl, m31⟩ := HS.formn 1 3 rfl rfl) | ((with_reducible refine gd 16 rfl ?_); refine ev_ap q81 0 3 HS rfl rfl Tryz.underlying30 info81 (of_eq_true c33) ?_; clear HS; intro v34 w34 HS; rw [← e_y34.out] at HS; obtain ⟨B34, d34, rfl, m34⟩ := HS.form 4 rfl; (try simp only [hpn, hpm] at HS); have F := HS.boxes; simp only [bxn] at F))
   go_roundg k15
   case measure => have := HKk15.out; omega
   case rel => exact ⟨_, _, _, rfl, rfl, H, ⟨by have := HKk15.out; omega⟩, HS.pick [4] (by decide) (by rfl)⟩
def impl_copyStore.f (k : Nat) (a0 : S33) : Option (S33) := ((impl_copyCerts.f k a0.f0).bind fun t3 => ((impl_copyCrls.f k a0.f1).bind fun t5 => (if 0 + a0.f2.length ≤ 4398046511104 then (lets (([] : List S115) ++ a0.f2) fun y9 => (some (⟨t3, t5, y9⟩ : S33))) else none)))
def impl_copyStore.T1 : TT := (true, [([], []), ([0], [0]), ([1], [1]), ([], []), ([3], [3]), ([4, 2], [4]), ([], []), ([6], [6]), ([7, 5], [7]), ([2, 5, 8], [2, 5, 8]), ([9, 8, 0, 1, 2, 3, 4, 5, 6, 7, 8, 9], [9])])
theorem impl_copyStore.tT1 : rtab .any (opsOf Tryz.f108 1) = impl_copyStore.T1 := by kernel_rfl
theorem impl_copyStore.calls {k : Nat} {a0 : S33} {Ap0 Ap1 Ap2 : Option Addr} {np0 cp0 np1 cp1 np2 cp2 : Nat} {r : S33} {w : World} (h : impl_copyStore.f k a0 = some r) (gp0 : k91.C w Ap0 np0 a0.f0) (lp0 : np0 ≤ cp0) (gp1 : k81.C w Ap1 np1 a0.f1) (lp1 : np1 ≤ cp1) (gp2 : k115.C w Ap2 np2 a0.f2) (lp2 : np2 ≤ cp2) :
    Calls Tryz.prog 108 #[.agg #[.slice Ap0 np0 cp0, .slice Ap1 np1 cp1, .slice Ap2 np2 cp2]] w (fun e w' => ∃ v0_ v1_ v2_ : Value, e = .returned (.agg #[v0_, v1_, v2_]) ∧ Hp noFP w w' [.own (Zd.slice 91 q91) r.f0 [v0_], .own (Zd.slice 81 q81) r.f1 [v1_], .own (Zd.slice 115 q115) r.f2 [v2_]]) := by
 obtain rfl := C_len gp0
 obtain rfl := C_len gp1
 obtain rfl := C_len gp2
 have HS := Hp.start w
 have H := Aside0.mk h
 clear h
 unfold impl_copyStore.f at H
 go_enter Tryz.func108, Tryz.ntmps108
 go_wp2_with (first | ((with_reducible refine gd 1 rfl ?_); refine ev_bx HS ?_; clear HS; intro g1 w1 HS F) | ((with_reducible refine gd 2 rfl ?_); refine ev_bx HS ?_; clear HS; intro g2 w2 HS F))
 replace H := zbind H; obtain ⟨t3, ht3, H⟩ := H
 replace H := zbind H; obtain ⟨t5, ht5, H⟩ := H
 replace H := zgo H; obtain ⟨c8, H⟩ := H
 replace H := zlets H; obtain ⟨y9, e_y9, H⟩ := H
 refine dr_start [10] HS #[false, false, false, false, false, false, false, false, false, false, false] (by kernel_rfl) rfl rfl impl_copyStore.tT1 (fun w6 HT HS HH => ?_)
 (try clear F)
 refine drq_of [(0, some 3), (1, some 4), (3, some 6), (4, some 7), (6, some 9), (7, some 10)] ?_
 repeat (first | refine drp HT ?_ | refine drt HT HH ?_)
 refine drq_end ?_
 refine dr1 2 HT fun K hK => ?_
 refine go_cl1 HS (impl_copyCerts.calls ht3.out (HS.ro gp0) lp0) Tryz.func177 ?_; clear HS; intro v4 wt3 HS F; obtain ⟨B4, d4, rfl, m4⟩ := HS.form 2 rfl
 refine nrm 5 hK ⟨_, HS⟩ (fun HH => ?_); clear hK K
 refine dr1 5 HT fun K hK => ?_
 refine go_cl1 HS (impl_copyCrls.calls ht5.out (HS.ro gp1) lp1) Tryz.func178 ?_; clear HS; intro v7 wt5 HS F; obtain ⟨B7, d7, rfl, m7⟩ := HS.form 3 rfl
 refine nrm 8 hK ⟨_, HS⟩ (fun HH => ?_); clear hK K
 refine dr1 8 HT fun K hK => ?_
 refine if_wp (by rfl) ?_; replace HS := HS.nil 115 q115; refine wp_appendr q115 fl115 4 HS rfl (HS.ro gp2) rfl rfl rfl Tryz.underlying31 info115 rfl (by decide) (by decide) (by have := of_eq_true c8; first | omega | (simp only [List.length_cons, List.length_nil, List.length_append, Nat.zero_add] at this ⊢; omega)) ?_; clear HS; intro v9 w9 HS; rw [← e_y9.out] at HS; obtain ⟨B9, d9, rfl, m9⟩ := HS.form 5 rfl
 (try simp only [hpn, hpm] at HS)
 have F := HS.boxes; simp only [bxn] at F
 refine nrm 11 hK ⟨_, HS⟩ (fun HH => ?_); clear hK K
 refine drq_of [(9, some 12)] ?_
 repeat (refine drp HT ?_)
 refine drq_end ?_
 refine dr_last 10 HT rfl (by kernel_rfl) (by decide) (fun K hK => ?_)
 refine if_st 1 0 HS (seg := [.slice B4 t3.length d4, .slice B7 t5.length d7, .slice B9 y9.length d9]) ?_; clear HS; intro w10 HS F
 refine hK.out _ _ ?_
 clear hK K
 refine done_ (done_of HT.out (by kernel_rfl)) ?_
 (try clear F)
 have F := HS.boxes; simp only [bxn] at F
 obtain rfl := zsome H
 go_wp2
 exact bodyPost_ret (results_single rfl (.cell _ _ _ _ _ rfl (HS.boxAt (i := 1) rfl) Tryz.underlying33 rfl (by kernel_rfl) .nil)) rfl ⟨_, _, _, rfl, HS.pick [2, 3, 5] (by decide) (by rfl)⟩
end Go.Proofs.YtacocpknielofaaGreatDoor.F

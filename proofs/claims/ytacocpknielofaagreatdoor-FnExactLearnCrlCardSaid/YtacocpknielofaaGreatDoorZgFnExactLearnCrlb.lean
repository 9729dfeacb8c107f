/- Functions of the program and of the law, and that their calls do what is written here. -/
import Derived.Test.YtacocpknielofaaGreatDoorZgFnExactLearnCrla
namespace Go.Proofs.YtacocpknielofaaGreatDoor.F
open Go.RowKit YtacocpknielofaaGreatDoorW.PrintWords YtacocpknielofaaGreatDoorW.PrintLast YtacocpknielofaaGreatDoorW.PrintMore Z
attribute [local go_sem] max2_int min2_int max_two min_two max_three min_three max_four min_four
set_option linter.unusedVariables false
set_option linter.unusedSimpArgs false
set_option maxRecDepth 100000
set_option maxHeartbeats 16000000
def spec_l13Copy.l0 : Nat → (List S81) → Int → S33 → (List S91) → (List S115) → Option (S33)
  | 0, _, _, _, _, _ => none
  | k + 1, l20, x22, a0, t7, y11 => (if x22 < (a0.f1.length : Int) then (if 0 ≤ x22 then (if x22 < (a0.f1.length : Int) then ((spec_l10Copy.f (rd_T81 a0.f1 x22)).bind fun t17 => (if l20.length + 1 ≤ 1599289640401 then (lets (l20 ++ ([t17] : List S81)) fun y27 => (spec_l13Copy.l0 k y27 (wrap64 (x22 + 1)) a0 t7 y11)) else none)) else none) else none) else (some (⟨t7, l20, y11⟩ : S33)))
def spec_l13Copy.f (k : Nat) (a0 : S33) : Option (S33) := ((spec_l13Certs.f k a0.f0).bind fun t7 => (if 0 + a0.f2.length ≤ 4398046511104 then (lets (([] : List S115) ++ a0.f2) fun y11 => (spec_l13Copy.l0 k [] 0 a0 t7 y11)) else none))
def spec_l13Copy.T1 : TT := (true, [([], []), ([0], [0]), ([1], [1]), ([], []), ([], []), ([4], [4]), ([3, 5, 2], [3, 5]), ([2, 6], [2, 6]), ([], []), ([8, 7, 6, 0, 1, 2, 3, 4, 5, 6, 7, 8], [7, 8])])
theorem spec_l13Copy.tT1 : rtab .any (opsOf Tryz.f105 1) = spec_l13Copy.T1 := by kernel_rfl
def spec_l13Copy.T5 : TT := (true, [([], []), ([0], [0]), ([], []), ([2], [2]), ([], []), ([3, 4], [3, 4]), ([5], [5]), ([6], [6]), ([7], [7]), ([1, 8, 7], [1, 8]), ([0, 1, 2, 3, 4, 5, 6, 7, 8, 9], []), ([10, 9, 9, 0, 1, 2, 3, 4, 5, 6, 7, 8, 9], [9, 10])])
theorem spec_l13Copy.tT5 : rtab .any (opsOf Tryz.f105 5) = spec_l13Copy.T5 := by kernel_rfl
theorem spec_l13Copy.calls {k : Nat} {a0 : S33} {Ap0 Ap1 Ap2 : Option Addr} {np0 cp0 np1 cp1 np2 cp2 : Nat} {r : S33} {w : World} (h : spec_l13Copy.f k a0 = some r) (gp0 : k91.C w Ap0 np0 a0.f0) (lp0 : np0 ≤ cp0) (gp1 : k81.C w Ap1 np1 a0.f1) (lp1 : np1 ≤ cp1) (gp2 : k115.C w Ap2 np2 a0.f2) (lp2 : np2 ≤ cp2) :
    Calls Tryz.prog 105 #[.agg #[.slice Ap0 np0 cp0, .slice Ap1 np1 cp1, .slice Ap2 np2 cp2]] w (fun e w' => ∃ v0_ v1_ v2_ : Value, e = .returned (.agg #[v0_, v1_, v2_]) ∧ Hp noFP w w' [.own (Zd.slice 91 q91) r.f0 [v0_], .own (Zd.slice 81 q81) r.f1 [v1_], .own (Zd.slice 115 q115) r.f2 [v2_]]) := by
 obtain rfl := C_len gp0
 obtain rfl := C_len gp1
 obtain rfl := C_len gp2
 have HS := Hp.start w
 have H := Aside0.mk h
 clear h
 unfold spec_l13Copy.f at H
 go_enter Tryz.func105, Tryz.ntmps105
 go_wp2_with (first | ((with_reducible refine gd 1 rfl ?_); refine ev_bx HS ?_; clear HS; intro g1 w1 HS F) | ((with_reducible refine gd 2 rfl ?_); refine ev_bx HS ?_; clear HS; intro g2 w2 HS F))
 replace H := zbind H; obtain ⟨t7, ht7, H⟩ := H
 replace H := zgo H; obtain ⟨c10, H⟩ := H
 replace H := zlets H; obtain ⟨y11, e_y11, H⟩ := H
 refine dr_start [9] HS #[false, false, false, false, false, false, false, false, false, false] (by kernel_rfl) rfl rfl spec_l13Copy.tT1 (fun w6 HT HS HH => ?_)
 (try clear F)
 refine join_ 0 #[true, true, true, true, true, true, true, true, true, true] (fun ((v8, v9, v11, g3) : Value × Value × Value × Nat) => ([(5, .pointer (some ⟨g1, 0, none⟩)), (6, .slice Ap0 a0.f0.length cp0), (7, v8), (8, v9), (9, .pointer (some ⟨g1, 2, none⟩)), (10, .slice Ap2 a0.f2.length cp2), (11, v11), (12, .agg #[v8, .slice none 0 0, v11]), (3, .pointer (some ⟨g3, 0, none⟩))] : List (Tmp × Value))) (fun ((v8, v9, v11, g3) : Value × Value × Value × Nat) w' => Hp noFP w w' [.box g1 [.slice Ap0 a0.f0.length cp0, .slice Ap1 a0.f1.length cp1, .slice Ap2 a0.f2.length cp2] 33, .box g2 [.slice none 0 0, .slice none 0 0, .slice none 0 0] 33, .own (Zd.slice 91 q91) t7 [v8], .emp, .own (Zd.slice 115 q115) y11 [v11], .box g3 [v8, .slice none 0 0, v11] 33]) ?_ ?_
 rotate_left
 · intro hJ
   refine drq_of [(0, some 5), (1, some 6), (4, some 9), (5, some 10)] ?_
   repeat (first | refine drp HT ?_ | refine drt HT HH ?_)
   refine drq_end ?_
   refine dr_any [2, 3, 8] HT (by kernel_rfl) (by decide) (AllReadyL.cons rfl (by decide) (fun K hK => ?_) (AllReadyL.cons rfl (by decide) (fun K hK => ?_) (AllReadyL.cons rfl (by decide) (fun K hK => ?_) AllReadyL.nil)))
   · refine go_cl1 HS (spec_l13Certs.calls ht7.out (HS.ro gp0) lp0) Tryz.func175 ?_; clear HS; intro v8 wt7 HS F; obtain ⟨B8, d8, rfl, m8⟩ := HS.form 2 rfl
     refine nrm 7 hK ⟨_, HS⟩ (fun HH => ?_); clear hK K
     refine dr_any [3, 8] HT (by kernel_rfl) (by decide) (AllReadyL.cons rfl (by decide) (fun K hK => ?_) (AllReadyL.cons rfl (by decide) (fun K hK => ?_) AllReadyL.nil))
     · refine if_li q115 [] ([] : List S115) [] HS MadeL.nil ?_; clear HS; intro v9 w9 HS F; obtain ⟨B9, d9, rfl, m9⟩ := HS.formn 0 3 rfl rfl
       refine nrm 8 hK ⟨_, HS⟩ (fun HH => ?_); clear hK K
       refine dr_any [6, 8] HT (by kernel_rfl) (by decide) (AllReadyL.cons rfl (by decide) (fun K hK => ?_) (AllReadyL.cons rfl (by decide) (fun K hK => ?_) AllReadyL.nil))
       · refine wp_apr fl115 3 HS rfl (HS.ro gp2) Tryz.underlying31 info115 (of_eq_true c10) ?_; clear HS; intro v11 w11 HS; rw [← e_y11.out] at HS; obtain ⟨B11, d11, rfl, m11⟩ := HS.form 4 rfl
         (try simp only [hpn, hpm] at HS)
         have F := HS.boxes; simp only [bxn] at F
         refine nrm 11 hK ⟨_, HS⟩ (fun HH => ?_); clear hK K
         refine drq_of [(7, some 12)] ?_
         repeat (refine drp HT ?_)
         refine drq_end ?_
         refine dr1 8 HT fun K hK => ?_
         refine if_bx HS ?_; clear HS; intro g3 w3 HS F
         refine nrm 3 hK ⟨_, HS⟩ (fun HH => ?_); clear hK K
         refine dr_last 9 HT rfl (by kernel_rfl) (by decide) (fun K hK => ?_)
         refine if_st 5 0 HS (seg := [.slice B8 t7.length d8, .slice none 0 0, .slice B11 y11.length d11]) ?_; clear HS; intro w12 HS F
         refine hK.out _ _ ?_
         clear hK K
         refine norm_ ?_ (hJ (.slice B8 t7.length d8, .slice B9 0 d9, .slice B11 y11.length d11, g3) _ (HS.arr [some 0, some 1, some 2, none, some 4, some 5] (by decide)))
         simp only [putAll, Act.put, ptn]
         (try rfl)
       · refine if_bx HS ?_; clear HS; intro g3 w3 HS F
         refine nrm 3 hK ⟨_, HS⟩ (fun HH => ?_); clear hK K
         refine dr1 6 HT fun K hK => ?_
         refine wp_apr fl115 3 HS rfl (HS.ro gp2) Tryz.underlying31 info115 (of_eq_true c10) ?_; clear HS; intro v11 w11 HS; rw [← e_y11.out] at HS; obtain ⟨B11, d11, rfl, m11⟩ := HS.form 5 rfl
         (try simp only [hpn, hpm] at HS)
         have F := HS.boxes; simp only [bxn] at F
         refine nrm 11 hK ⟨_, HS⟩ (fun HH => ?_); clear hK K
         refine drq_of [(7, some 12)] ?_
         repeat (refine drp HT ?_)
         refine drq_end ?_
         refine dr_last 9 HT rfl (by kernel_rfl) (by decide) (fun K hK => ?_)
         refine if_st 4 0 HS (seg := [.slice B8 t7.length d8, .slice none 0 0, .slice B11 y11.length d11]) ?_; clear HS; intro w12 HS F
         refine hK.out _ _ ?_
         clear hK K
         refine norm_ ?_ (hJ (.slice B8 t7.length d8, .slice B9 0 d9, .slice B11 y11.length d11, g3) _ (HS.arr [some 0, some 1, some 2, none, some 5, some 4] (by decide)))
         simp only [putAll, Act.put, ptn]
         (try rfl)
     · refine if_bx HS ?_; clear HS; intro g3 w3 HS F
       refine nrm 3 hK ⟨_, HS⟩ (fun HH => ?_); clear hK K
       refine dr1 3 HT fun K hK => ?_
       refine if_li q115 [] ([] : List S115) [] HS MadeL.nil ?_; clear HS; intro v9 w9 HS F; obtain ⟨B9, d9, rfl, m9⟩ := HS.formn 0 4 rfl rfl
       refine nrm 8 hK ⟨_, HS⟩ (fun HH => ?_); clear hK K
       refine dr1 6 HT fun K hK => ?_
       refine wp_apr fl115 4 HS rfl (HS.ro gp2) Tryz.underlying31 info115 (of_eq_true c10) ?_; clear HS; intro v11 w11 HS; rw [← e_y11.out] at HS; obtain ⟨B11, d11, rfl, m11⟩ := HS.form 5 rfl
       (try simp only [hpn, hpm] at HS)
       have F := HS.boxes; simp only [bxn] at F
       refine nrm 11 hK ⟨_, HS⟩ (fun HH => ?_); clear hK K
       refine drq_of [(7, some 12)] ?_
       repeat (refine drp HT ?_)
       refine drq_end ?_
       refine dr_last 9 HT rfl (by kernel_rfl) (by decide) (fun K hK => ?_)
       refine if_st 3 0 HS (seg := [.slice B8 t7.length d8, .slice none 0 0, .slice B11 y11.length d11]) ?_; clear HS; intro w12 HS F
       refine hK.out _ _ ?_
       clear hK K
       refine norm_ ?_ (hJ (.slice B8 t7.length d8, .slice B9 0 d9, .slice B11 y11.length d11, g3) _ (HS.arr [some 0, some 1, some 2, none, some 5, some 3] (by decide)))
       simp only [putAll, Act.put, ptn]
       (try rfl)
   · refine if_li q115 [] ([] : List S115) [] HS MadeL.nil ?_; clear HS; intro v9 w9 HS F; obtain ⟨B9, d9, rfl, m9⟩ := HS.formn 0 2 rfl rfl
     refine nrm 8 hK ⟨_, HS⟩ (fun HH => ?_); clear hK K
     refine dr_any [2, 8] HT (by kernel_rfl) (by decide) (AllReadyL.cons rfl (by decide) (fun K hK => ?_) (AllReadyL.cons rfl (by decide) (fun K hK => ?_) AllReadyL.nil))
     · refine go_cl1 HS (spec_l13Certs.calls ht7.out (HS.ro gp0) lp0) Tryz.func175 ?_; clear HS; intro v8 wt7 HS F; obtain ⟨B8, d8, rfl, m8⟩ := HS.form 3 rfl
       refine nrm 7 hK ⟨_, HS⟩ (fun HH => ?_); clear hK K
       refine dr_any [6, 8] HT (by kernel_rfl) (by decide) (AllReadyL.cons rfl (by decide) (fun K hK => ?_) (AllReadyL.cons rfl (by decide) (fun K hK => ?_) AllReadyL.nil))
       · refine wp_apr fl115 2 HS rfl (HS.ro gp2) Tryz.underlying31 info115 (of_eq_true c10) ?_; clear HS; intro v11 w11 HS; rw [← e_y11.out] at HS; obtain ⟨B11, d11, rfl, m11⟩ := HS.form 4 rfl
         (try simp only [hpn, hpm] at HS)
         have F := HS.boxes; simp only [bxn] at F
         refine nrm 11 hK ⟨_, HS⟩ (fun HH => ?_); clear hK K
         refine drq_of [(7, some 12)] ?_
         repeat (refine drp HT ?_)
         refine drq_end ?_
         refine dr1 8 HT fun K hK => ?_
         refine if_bx HS ?_; clear HS; intro g3 w3 HS F
         refine nrm 3 hK ⟨_, HS⟩ (fun HH => ?_); clear hK K
         refine dr_last 9 HT rfl (by kernel_rfl) (by decide) (fun K hK => ?_)
         refine if_st 5 0 HS (seg := [.slice B8 t7.length d8, .slice none 0 0, .slice B11 y11.length d11]) ?_; clear HS; intro w12 HS F
         refine hK.out _ _ ?_
         clear hK K
         refine norm_ ?_ (hJ (.slice B8 t7.length d8, .slice B9 0 d9, .slice B11 y11.length d11, g3) _ (HS.arr [some 0, some 1, some 3, none, some 4, some 5] (by decide)))
         simp only [putAll, Act.put, ptn]
         (try rfl)
       · refine if_bx HS ?_; clear HS; intro g3 w3 HS F
         refine nrm 3 hK ⟨_, HS⟩ (fun HH => ?_); clear hK K
         refine dr1 6 HT fun K hK => ?_
         refine wp_apr fl115 2 HS rfl (HS.ro gp2) Tryz.underlying31 info115 (of_eq_true c10) ?_; clear HS; intro v11 w11 HS; rw [← e_y11.out] at HS; obtain ⟨B11, d11, rfl, m11⟩ := HS.form 5 rfl
         (try simp only [hpn, hpm] at HS)
         have F := HS.boxes; simp only [bxn] at F
         refine nrm 11 hK ⟨_, HS⟩ (fun HH => ?_); clear hK K
         refine drq_of [(7, some 12)] ?_
         repeat (refine drp HT ?_)
         refine drq_end ?_
         refine dr_last 9 HT rfl (by kernel_rfl) (by decide) (fun K hK => ?_)
         refine if_st 4 0 HS (seg := [.slice B8 t7.length d8, .slice none 0 0, .slice B11 y11.length d11]) ?_; clear HS; intro w12 HS F
         refine hK.out _ _ ?_
         clear hK K
         refine norm_ ?_ (hJ (.slice B8 t7.length d8, .slice B9 0 d9, .slice B11 y11.length d11, g3) _ (HS.arr [some 0, some 1, some 3, none, some 5, some 4] (by decide)))
         simp only [putAll, Act.put, ptn]
         (try rfl)
     · refine if_bx HS ?_; clear HS; intro g3 w3 HS F
       refine nrm 3 hK ⟨_, HS⟩ (fun HH => ?_); clear hK K
       refine dr1 2 HT fun K hK => ?_
       refine go_cl1 HS (spec_l13Certs.calls ht7.out (HS.ro gp0) lp0) Tryz.func175 ?_; clear HS; intro v8 wt7 HS F; obtain ⟨B8, d8, rfl, m8⟩ := HS.form 4 rfl
       refine nrm 7 hK ⟨_, HS⟩ (fun HH => ?_); clear hK K
       refine dr1 6 HT fun K hK => ?_
       refine wp_apr fl115 2 HS rfl (HS.ro gp2) Tryz.underlying31 info115 (of_eq_true c10) ?_; clear HS; intro v11 w11 HS; rw [← e_y11.out] at HS; obtain ⟨B11, d11, rfl, m11⟩ := HS.form 5 rfl
       (try simp only [hpn, hpm] at HS)
       have F := HS.boxes; simp only [bxn] at F
       refine nrm 11 hK ⟨_, HS⟩ (fun HH => ?_); clear hK K
       refine drq_of [(7, some 12)] ?_
       repeat (refine drp HT ?_)
       refine drq_end ?_
       refine dr_last 9 HT rfl (by kernel_rfl) (by decide) (fun K hK => ?_)
       refine if_st 3 0 HS (seg := [.slice B8 t7.length d8, .slice none 0 0, .slice B11 y11.length d11]) ?_; clear HS; intro w12 HS F
       refine hK.out _ _ ?_
       clear hK K
       refine norm_ ?_ (hJ (.slice B8 t7.length d8, .slice B9 0 d9, .slice B11 y11.length d11, g3) _ (HS.arr [some 0, some 1, some 4, none, some 5, some 3] (by decide)))
       simp only [putAll, Act.put, ptn]
       (try rfl)
   · refine if_bx HS ?_; clear HS; intro g3 w3 HS F
     refine nrm 3 hK ⟨_, HS⟩ (fun HH => ?_); clear hK K
     refine dr_any [2, 3] HT (by kernel_rfl) (by decide) (AllReadyL.cons rfl (by decide) (fun K hK => ?_) (AllReadyL.cons rfl (by decide) (fun K hK => ?_) AllReadyL.nil))
     · refine go_cl1 HS (spec_l13Certs.calls ht7.out (HS.ro gp0) lp0) Tryz.func175 ?_; clear HS; intro v8 wt7 HS F; obtain ⟨B8, d8, rfl, m8⟩ := HS.form 3 rfl
       refine nrm 7 hK ⟨_, HS⟩ (fun HH => ?_); clear hK K
       refine dr1 3 HT fun K hK => ?_
       refine if_li q115 [] ([] : List S115) [] HS MadeL.nil ?_; clear HS; intro v9 w9 HS F; obtain ⟨B9, d9, rfl, m9⟩ := HS.formn 0 4 rfl rfl
       refine nrm 8 hK ⟨_, HS⟩ (fun HH => ?_); clear hK K
       refine dr1 6 HT fun K hK => ?_
       refine wp_apr fl115 4 HS rfl (HS.ro gp2) Tryz.underlying31 info115 (of_eq_true c10) ?_; clear HS; intro v11 w11 HS; rw [← e_y11.out] at HS; obtain ⟨B11, d11, rfl, m11⟩ := HS.form 5 rfl
       (try simp only [hpn, hpm] at HS)
       have F := HS.boxes; simp only [bxn] at F
       refine nrm 11 hK ⟨_, HS⟩ (fun HH => ?_); clear hK K
       refine drq_of [(7, some 12)] ?_
       repeat (refine drp HT ?_)
       refine drq_end ?_
       refine dr_last 9 HT rfl (by kernel_rfl) (by decide) (fun K hK => ?_)
       refine if_st 2 0 HS (seg := [.slice B8 t7.length d8, .slice none 0 0, .slice B11 y11.length d11]) ?_; clear HS; intro w12 HS F
       refine hK.out _ _ ?_
       clear hK K
       refine norm_ ?_ (hJ (.slice B8 t7.length d8, .slice B9 0 d9, .slice B11 y11.length d11, g3) _ (HS.arr [some 0, some 1, some 3, none, some 5, some 2] (by decide)))
       simp only [putAll, Act.put, ptn]
       (try rfl)
     · refine if_li q115 [] ([] : List S115) [] HS MadeL.nil ?_; clear HS; intro v9 w9 HS F; obtain ⟨B9, d9, rfl, m9⟩ := HS.formn 0 3 rfl rfl
       refine nrm 8 hK ⟨_, HS⟩ (fun HH => ?_); clear hK K
       refine dr1 2 HT fun K hK => ?_
       refine go_cl1 HS (spec_l13Certs.calls ht7.out (HS.ro gp0) lp0) Tryz.func175 ?_; clear HS; intro v8 wt7 HS F; obtain ⟨B8, d8, rfl, m8⟩ := HS.form 4 rfl
       refine nrm 7 hK ⟨_, HS⟩ (fun HH => ?_); clear hK K
       refine dr1 6 HT fun K hK => ?_
       refine wp_apr fl115 3 HS rfl (HS.ro gp2) Tryz.underlying31 info115 (of_eq_true c10) ?_; clear HS; intro v11 w11 HS; rw [← e_y11.out] at HS; obtain ⟨B11, d11, rfl, m11⟩ := HS.form 5 rfl
       (try simp only [hpn, hpm] at HS)
       have F := HS.boxes; simp only [bxn] at F
       refine nrm 11 hK ⟨_, HS⟩ (fun HH => ?_); clear hK K
       refine drq_of [(7, some 12)] ?_
       repeat (refine drp HT ?_)
       refine drq_end ?_
       refine dr_last 9 HT rfl (by kernel_rfl) (by decide) (fun K hK => ?_)
       refine if_st 2 0 HS (seg := [.slice B8 t7.length d8, .slice none 0 0, .slice B11 y11.length d11]) ?_; clear HS; intro w12 HS F
       refine hK.out _ _ ?_
       clear hK K
       refine norm_ ?_ (hJ (.slice B8 t7.length d8, .slice B9 0 d9, .slice B11 y11.length d11, g3) _ (HS.arr [some 0, some 1, some 4, none, some 5, some 2] (by decide)))
       simp only [putAll, Act.put, ptn]
       (try rfl)
 rintro ⟨v8, v9, v11, g3⟩ w13 HS
 obtain ⟨B8, d8, rfl, m8⟩ := HS.form 2 rfl
 obtain ⟨B11, d11, rfl, m11⟩ := HS.form 4 rfl
 have F := HS.boxes; simp only [bxn] at F
 refine norm_ (a' := ?_) ?_ ?_
 rotate_left
 · simp only [putAll, Act.put, ptn]; rfl
 refine done_ (done_of HT.out (by kernel_rfl)) ?_
 go_wp2
 replace HS := HS.nil 81 q81
 go_loopg [4] k (fun kq v_4 w' => ∃ (l20 : List S81) (v21 : Value) (x22 : Int), v_4 = .int .i64 x22 ∧ Aside0 (spec_l13Copy.l0 kq l20 x22 a0 t7 y11 = some r) ∧ Aside0 (kq ≤ k) ∧ Hp noFP w w' [.box g1 [.slice Ap0 a0.f0.length cp0, .slice Ap1 a0.f1.length cp1, .slice Ap2 a0.f2.length cp2] 33, .box g2 [.slice none 0 0, .slice none 0 0, .slice none 0 0] 33, .own (Zd.slice 91 q91) t7 [.slice B8 t7.length d8], .emp, .own (Zd.slice 115 q115) y11 [.slice B11 y11.length d11], .box g3 [.slice B8 t7.length d8, v21, .slice B11 y11.length d11] 33, .own (Zd.slice 81 q81) l20 [v21]])
 case atStart => exact ⟨_, _, _, rfl, H, ⟨Nat.le_refl _⟩, HS⟩
 case round =>
  clear HS H; (try clear F)
  obtain ⟨l20, v21, x22, rfl, H, HKk19, HS⟩ := hrel
  obtain ⟨B21, d21, rfl, m21⟩ := HS.form 6 rfl
  have F := HS.boxes; simp only [bxn] at F
  cases gk with
  | zero => exact absurd H.out (by simp [spec_l13Copy.l0])
  | succ k19 =>
   simp only [spec_l13Copy.l0] at H
   replace H := znif H; rcases H with ⟨c24, H⟩ | ⟨c24, H⟩
   case inl =>
    obtain rfl := zsome H
    go_wp2_with ((with_reducible refine gate_store (p := 2) rfl ?_); refine ev_st 1 0 HS (seg := [.slice B8 t7.length d8, .slice B21 l20.length d21, .slice B11 y11.length d11]) ?_; clear HS; intro w28 HS F)
    exact bodyPost_ret (results_single rfl (.cell _ _ _ _ _ rfl (HS.boxAt (i := 1) rfl) Tryz.underlying33 rfl (by kernel_rfl) .nil)) rfl ⟨_, _, _, rfl, HS.pick [2, 6, 4] (by decide) (by rfl)⟩
   (try go_wp2)
   replace H := zgo H; obtain ⟨c14, H⟩ := H
   replace H := zgo H; obtain ⟨c15, H⟩ := H
   obtain ⟨ad16, B16_5, d16_5, rfl, e16_0, e16_1, e16_2, e16_3, e16_4, e16_5, e16_6, m16_5, y16_5⟩ := at_T81 gp1 x22 (of_eq_true c14) (of_eq_true c15)
   replace H := zbind H; obtain ⟨t17, ht17, H⟩ := H
   replace H := zgo H; obtain ⟨c25, H⟩ := H
   replace H := zlets H; obtain ⟨y27, e_y27, H⟩ := H
   refine dr_start2 [.box g1 [.slice Ap0 a0.f0.length cp0, .slice (some ad16) a0.f1.length cp1, .slice Ap2 a0.f2.length cp2] 33, .box g2 [.slice none 0 0, .slice none 0 0, .slice none 0 0] 33, .own (Zd.slice 91 q91) t7 [.slice B8 t7.length d8], .emp, .own (Zd.slice 115 q115) y11 [.slice B11 y11.length d11], .box g3 [.slice B8 t7.length d8, .slice B21 l20.length d21, .slice B11 y11.length d11] 33, .emp] [11] HS (HS.arr [some 0, some 1, some 2, none, some 4, some 5, none] (by decide)) #[false, false, false, false, false, false, false, false, false, false, false, false] (by kernel_rfl) rfl rfl spec_l13Copy.tT5 (fun w26 HT HS HH => ?_)
   (try clear F)
   refine drq_of [(0, some 20), (1, some 21), (2, some 22), (3, some 23), (4, some 24), (5, some 25)] ?_
   repeat (first | refine drp HT ?_ | refine drt HT HH ?_)
   refine drq_end ?_
   refine dr_take 6 (some 26) HT HH (v := ?_) (a' := ?_) rfl rfl (by kernel_rfl) (fun _ _ _ h => h) (.inl ⟨by rfl, ?_⟩) ?_ ?_
   rotate_left
   · rintro w' ⟨rs', HS'⟩; have e16_0 := HS'.keepc e16_0; have e16_1 := HS'.keepc e16_1; have e16_2 := HS'.keepc e16_2; have e16_3 := HS'.keepc e16_3; have e16_4 := HS'.keepc e16_4; have e16_5 := HS'.keepc e16_5; have e16_6 := HS'.keepc e16_6; go_simp; with_reducible rfl
   rotate_left
   · simp only [Act.put, ptn]; rfl
   refine dr1 7 HT fun K hK => ?_
   refine go_cl1 HS (spec_l10Copy.calls ht17.out (HS.ro y16_5) m16_5) Tryz.func106 ?_; clear HS; intro v18 wt17 HS F; obtain ⟨B18, d18, rfl, m18⟩ := HS.form 7 rfl
   refine hK.out _ _ ⟨[], HS.arr [some 0, some 1, some 2, none, some 4, some 5, none] (by decide)⟩ (fun HH => ?_)
   clear hK K
   refine norm_ (a' := ?_) ?_ ?_
   rotate_left
   · show Act.put _ (some 27) _ = _; simp only [Act.put, ptn]; rfl
   refine dr1 8 HT fun K hK => ?_
   refine if_li q81 [7] ([t17] : List S81) ([.string t17.f0, .int .i64 t17.f1, .int .i64 t17.f2, .int .i64 t17.f3, .int .i64 t17.f4, .slice B18 t17.f5.length d18, .string t17.f6] ++ []) HS (MadeL.cons (js1 := [7]) (c := [.string t17.f0, .int .i64 t17.f1, .int .i64 t17.f2, .int .i64 t17.f3, .int .i64 t17.f4, .slice B18 t17.f5.length d18, .string t17.f6]) rfl (fun S hd hh => q81_pack (x := t17) hd (hh 7 (.own (Zd.slice 238 q238) t17.f5 [.slice B18 t17.f5.length d18]) rfl) (by decide)) MadeL.nil (by decide)) ?_; clear HS; intro v23 w23 HS F; obtain ⟨B23, d23, rfl, m23⟩ := HS.formn 1 8 rfl rfl
   refine hK.out _ _ ⟨[], HS.arr [some 0, some 1, some 2, none, some 4, some 5, none] (by decide)⟩ (fun HH => ?_)
   clear hK K
   refine norm_ (a' := ?_) ?_ ?_
   rotate_left
   · show Act.put _ (some 28) _ = _; simp only [Act.put, ptn]; rfl
   refine dr1 9 HT fun K hK => ?_
   refine wp_ap q81 6 8 HS rfl rfl Tryz.underlying30 info81 (of_eq_true c25) ?_; clear HS; intro v27 w27 HS; rw [← e_y27.out] at HS; obtain ⟨B27, d27, rfl, m27⟩ := HS.form 9 rfl
   (try simp only [hpn, hpm] at HS)
   have F := HS.boxes; simp only [bxn] at F
   refine hK.out _ _ ⟨[], HS.arr [some 0, some 1, some 2, none, some 4, some 5, none] (by decide)⟩ (fun HH => ?_)
   clear hK K
   refine norm_ (a' := ?_) ?_ ?_
   rotate_left
   · show Act.put _ (some 29) _ = _; simp only [Act.put, ptn]; rfl
   refine drq_of [(10, some 30)] ?_
   repeat (refine drp HT ?_)
   refine drq_end ?_
   refine dr_last 11 HT rfl (by kernel_rfl) (by decide) (fun K hK => ?_)
   refine if_st 5 1 HS (seg := [.slice B27 y27.length d27]) ?_; clear HS; intro w29 HS F
   refine hK.out _ _ ?_
   clear hK K
   refine done_ (done_of HT.out (by kernel_rfl)) ?_
   (try clear F)
   have F := HS.boxes; simp only [bxn] at F
   go_wp2
   go_roundg k19
   case measure => have := HKk19.out; omega
   case rel => exact ⟨_, _, _, rfl, H, ⟨by have := HKk19.out; omega⟩, HS.pick [0, 1, 2, 3, 4, 5, 9] (by decide) (by rfl)⟩
def spec_l17Copy.l0 : Nat → (List S202) → Int → S46 → S33 → Option (S46)
  | 0, _, _, _, _ => none
  | k + 1, l57, x59, a0, t9 => (if x59 < (a0.f1.length : Int) then (if 0 ≤ x59 then (if x59 < (a0.f1.length : Int) then (if 0 + (rd_T202 a0.f1 x59).f1.length ≤ 17592186044416 then (lets (([] : List Int) ++ ((rd_T202 a0.f1 x59).f1)) fun y72 => (if 0 + (rd_T202 a0.f1 x59).f2.f1.length ≤ 17592186044416 then (lets (([] : List Int) ++ ((rd_T202 a0.f1 x59).f2.f1)) fun y79 => (if l57.length + 1 ≤ 1759218604441 then (lets (l57 ++ ([(⟨(rd_T202 a0.f1 x59).f0, y72, (⟨(rd_T202 a0.f1 x59).f2.f0, y79, (rd_T202 a0.f1 x59).f2.f2, (rd_T202 a0.f1 x59).f2.f3, (rd_T202 a0.f1 x59).f2.f4⟩ : S200)⟩ : S202)] : List S202)) fun y86 => (spec_l17Copy.l0 k y86 (wrap64 (x59 + 1)) a0 t9)) else none)) else none)) else none) else none) else none) else (if 0 + a0.f5.length ≤ 3518437208883 then (lets (([] : List S205) ++ a0.f5) fun y93 => (some (⟨(⟨t9.f0, t9.f1, t9.f2⟩ : S33), l57, a0.f2, a0.f3, a0.f4, y93⟩ : S46))) else none))
def spec_l17Copy.f (k : Nat) (a0 : S46) : Option (S46) := ((spec_l13Copy.f k a0.f0).bind fun t9 => (spec_l17Copy.l0 k ([] : List S202) 0 a0 t9))
theorem spec_l17Copy.calls {k : Nat} {a0 : S46} {Ap0 Ap1 Ap2 Ap3 Ap4 : Option Addr} {np0 cp0 np1 cp1 np2 cp2 np3 cp3 np4 cp4 : Nat} {r : S46} {w : World} (h : spec_l17Copy.f k a0 = some r) (gp0 : k91.C w Ap0 np0 a0.f0.f0) (lp0 : np0 ≤ cp0) (gp1 : k81.C w Ap1 np1 a0.f0.f1) (lp1 : np1 ≤ cp1) (gp2 : k115.C w Ap2 np2 a0.f0.f2) (lp2 : np2 ≤ cp2) (gp3 : k202.C w Ap3 np3 a0.f1) (lp3 : np3 ≤ cp3) (gp4 : k205.C w Ap4 np4 a0.f5) (lp4 : np4 ≤ cp4) :
    Calls Tryz.prog 127 #[.agg #[.slice Ap0 np0 cp0, .slice Ap1 np1 cp1, .slice Ap2 np2 cp2, .slice Ap3 np3 cp3, .int .i64 a0.f2, .int .i64 a0.f3, .int .i64 a0.f4, .slice Ap4 np4 cp4]] w (fun e w' => ∃ v0_ v1_ v2_ v3_ v4_ : Value, e = .returned (.agg #[v0_, v1_, v2_, v3_, .int .i64 r.f2, .int .i64 r.f3, .int .i64 r.f4, v4_]) ∧ Hp noFP w w' [.own (Zd.slice 91 q91) r.f0.f0 [v0_], .own (Zd.slice 81 q81) r.f0.f1 [v1_], .own (Zd.slice 115 q115) r.f0.f2 [v2_], .own (Zd.slice 202 q202) r.f1 [v3_], .own (Zd.slice 205 q205) r.f5 [v4_]]) := by
 obtain rfl := C_len gp0
 obtain rfl := C_len gp1
 obtain rfl := C_len gp2
 obtain rfl := C_len gp3
 obtain rfl := C_len gp4
 have HS := Hp.start w
 have H := Aside0.mk h
 clear h
 unfold spec_l17Copy.f at H
 go_enter Tryz.func127, Tryz.ntmps127
 replace H := zbind H; obtain ⟨t9, ht9, H⟩ := H
 go_wp2_with (first | ((with_reducible refine gd 1 rfl ?_); refine ev_bx HS ?_; clear HS; intro g1 w1 HS F) | ((with_reducible refine gd 2 rfl ?_); refine ev_bx HS ?_; clear HS; intro g2 w2 HS F) | ((with_reducible refine gd 3 rfl ?_); refine ev_bx HS ?_; clear HS; intro g3 w3 HS F) | ((with_reducible refine gate_store (p := 3) rfl ?_); refine ev_st 2 0 HS (seg := [.slice Ap0 a0.f0.f0.length cp0, .slice Ap1 a0.f0.f1.length cp1, .slice Ap2 a0.f0.f2.length cp2, .slice Ap3 a0.f1.length cp3, .int .i64 a0.f2, .int .i64 a0.f3, .int .i64 a0.f4, .slice Ap4 a0.f5.length cp4]) ?_; clear HS; intro w7 HS F) | ((with_reducible refine gd 9 rfl ?_); refine ev_cl3 HS (spec_l13Copy.calls ht9.out (HS.ro gp0) lp0 (HS.ro gp1) lp1 (HS.ro gp2) lp2) Tryz.func105 ?_; clear HS; intro v10 v11 v12 wt9 HS F; obtain ⟨B10, d10, rfl, m10⟩ := HS.form 3 rfl; obtain ⟨B11, d11, rfl, m11⟩ := HS.form 4 rfl; obtain ⟨B12, d12, rfl, m12⟩ := HS.form 5 rfl) | ((with_reducible refine gate_store (p := 10) rfl ?_); refine ev_st 2 0 HS (seg := [.slice B10 t9.f0.length d10, .slice B11 t9.f1.length d11, .slice B12 t9.f2.length d12]) ?_; clear HS; intro w14 HS F) | ((with_reducible refine gd 11 rfl ?_); refine ev_li q202 [] ([] : List S202) [] HS MadeL.nil ?_; clear HS; intro v16 w16 HS F; obtain ⟨B16, d16, rfl, m16⟩ := HS.formn 0 6 rfl rfl) | ((with_reducible refine gate_store (p := 12) rfl ?_); refine ev_st 2 3 HS (seg := [.slice B16 0 d16]) ?_; clear HS; intro w18 HS F))
 go_loopg [4] k (fun kq v_4 w' => ∃ (l57 : List S202) (v58 : Value) (x59 : Int), v_4 = .int .i64 x59 ∧ Aside0 (spec_l17Copy.l0 kq l57 x59 a0 t9 = some r) ∧ Aside0 (kq ≤ k) ∧ Hp noFP w w' [.box g1 [.slice Ap0 a0.f0.f0.length cp0, .slice Ap1 a0.f0.f1.length cp1, .slice Ap2 a0.f0.f2.length cp2, .slice Ap3 a0.f1.length cp3, .int .i64 a0.f2, .int .i64 a0.f3, .int .i64 a0.f4, .slice Ap4 a0.f5.length cp4] 46, .box g2 [.slice none 0 0, .slice none 0 0, .slice none 0 0, .slice none 0 0, .int .i64 0, .int .i64 0, .int .i64 0, .slice none 0 0] 46, .box g3 [.slice B10 t9.f0.length d10, .slice B11 t9.f1.length d11, .slice B12 t9.f2.length d12, v58, .int .i64 a0.f2, .int .i64 a0.f3, .int .i64 a0.f4, .slice Ap4 a0.f5.length cp4] 46, .own (Zd.slice 91 q91) t9.f0 [.slice B10 t9.f0.length d10], .own (Zd.slice 81 q81) t9.f1 [.slice B11 t9.f1.length d11], .own (Zd.slice 115 q115) t9.f2 [.slice B12 t9.f2.length d12], .own (Zd.slice 202 q202) l57 [v58]])
 case atStart => exact ⟨_, _, _, rfl, H, ⟨Nat.le_refl _⟩, HS⟩
 case round =>
  clear HS H; (try clear F)
  obtain ⟨l57, v58, x59, rfl, H, HKk56, HS⟩ := hrel
  obtain ⟨B58, d58, rfl, m58⟩ := HS.form 6 rfl
  have F := HS.boxes; simp only [bxn] at F
  cases gk with
  | zero => exact absurd H.out (by simp [spec_l17Copy.l0])
  | succ k56 =>
   simp only [spec_l17Copy.l0] at H
   replace H := znif H; rcases H with ⟨c61, H⟩ | ⟨c61, H⟩
   case inl =>
    replace H := zgo H; obtain ⟨c92, H⟩ := H
    replace H := zlets H; obtain ⟨y93, e_y93, H⟩ := H
    obtain rfl := zsome H
    go_wp2_with (first | ((with_reducible refine gd 43 rfl ?_); refine ev_li q205 [] ([] : List S205) [] HS MadeL.nil ?_; clear HS; intro v90 w90 HS F; obtain ⟨B90, d90, rfl, m90⟩ := HS.formn 0 7 rfl rfl) | ((with_reducible refine gd 46 rfl ?_); refine ev_apr fl205 7 HS rfl (HS.ro gp4) Tryz.underlying44 info205 (of_eq_true c92) ?_; clear HS; intro v93 w93 HS; rw [← e_y93.out] at HS; obtain ⟨B93, d93, rfl, m93⟩ := HS.form 8 rfl; (try simp only [hpn, hpm] at HS); have F := HS.boxes; simp only [bxn] at F) | ((with_reducible refine gate_store (p := 47) rfl ?_); refine ev_st 2 7 HS (seg := [.slice B93 y93.length d93]) ?_; clear HS; intro w95 HS F) | ((with_reducible refine gate_store (p := 2) rfl ?_); refine ev_st 1 0 HS (seg := [.slice B10 t9.f0.length d10, .slice B11 t9.f1.length d11, .slice B12 t9.f2.length d12, .slice B58 l57.length d58, .int .i64 a0.f2, .int .i64 a0.f3, .int .i64 a0.f4, .slice B93 y93.length d93]) ?_; clear HS; intro w97 HS F))
    exact bodyPost_ret (results_single rfl (.cell _ _ _ _ _ rfl (HS.boxAt (i := 1) rfl) Tryz.underlying46 rfl (by kernel_rfl) .nil)) rfl ⟨_, _, _, _, _, rfl, HS.pick [3, 4, 5, 6, 8] (by decide) (by rfl)⟩
   replace H := zgo H; obtain ⟨c62, H⟩ := H
   replace H := zgo H; obtain ⟨c63, H⟩ := H
   obtain ⟨ad64, B64_1, d64_1, B64_3, d64_3, rfl, e64_0, e64_1, e64_2, e64_3, e64_4, e64_5, e64_6, m64_1, y64_1, m64_3, y64_3⟩ := at_T202 gp3 x59 (of_eq_true c62) (of_eq_true c63)
   have e64_0_64 := HS.keepc e64_0
   have e64_1_64 := HS.keepc e64_1
   have e64_2_64 := HS.keepc e64_2
   have e64_3_64 := HS.keepc e64_3
   have e64_4_64 := HS.keepc e64_4
   have e64_5_64 := HS.keepc e64_5
   have e64_6_64 := HS.keepc e64_6
   replace H := zgo H; obtain ⟨c71, H⟩ := H
   replace H := zlets H; obtain ⟨y72, e_y72, H⟩ := H
   replace H := zgo H; obtain ⟨c78, H⟩ := H
   replace H := zlets H; obtain ⟨y79, e_y79, H⟩ := H
   replace H := zgo H; obtain ⟨c85, H⟩ := H
   replace H := zlets H; obtain ⟨y86, e_y86, H⟩ := H
   go_wp2_with (first | ((with_reducible refine gd 5 rfl ?_); refine ev_bx HS ?_; clear HS; intro g5 w5 HS F) | ((with_reducible refine gate_store (p := 5) rfl ?_); refine ev_st 7 0 HS (seg := [.int .i64 ((rd_T202 a0.f1 x59).f0), .slice B64_1 (rd_T202 a0.f1 x59).f1.length d64_1, .int .i64 ((rd_T202 a0.f1 x59).f2.f0), .slice B64_3 (rd_T202 a0.f1 x59).f2.f1.length d64_3, .bool ((rd_T202 a0.f1 x59).f2.f2), .bool ((rd_T202 a0.f1 x59).f2.f3), .int .i64 ((rd_T202 a0.f1 x59).f2.f4)]) ?_; clear HS; intro w67 HS F) | ((with_reducible refine gd 25 rfl ?_); refine ev_li (Zd.int .i64) [] ([] : List Int) [] HS MadeL.nil ?_; clear HS; intro v69 w69 HS F; obtain ⟨B69, d69, rfl, m69⟩ := HS.formn 0 8 rfl rfl) | ((with_reducible refine gd 28 rfl ?_); refine ev_apr (flat_int _) 8 HS rfl (HS.ro y64_1) Tryz.underlying52 info3 (of_eq_true c71) ?_; clear HS; intro v72 w72 HS; rw [← e_y72.out] at HS; obtain ⟨B72, d72, rfl, m72⟩ := HS.form 9 rfl; (try simp only [hpn, hpm] at HS); have F := HS.boxes; simp only [bxn] at F) | ((with_reducible refine gate_store (p := 29) rfl ?_); refine ev_st 7 1 HS (seg := [.slice B72 y72.length d72]) ?_; clear HS; intro w74 HS F) | ((with_reducible refine gd 30 rfl ?_); refine ev_li (Zd.int .i64) [] ([] : List Int) [] HS MadeL.nil ?_; clear HS; intro v76 w76 HS F; obtain ⟨B76, d76, rfl, m76⟩ := HS.formn 0 10 rfl rfl) | ((with_reducible refine gd 34 rfl ?_); refine ev_apr (flat_int _) 10 HS rfl (HS.ro y64_3) Tryz.underlying52 info3 (of_eq_true c78) ?_; clear HS; intro v79 w79 HS; rw [← e_y79.out] at HS; obtain ⟨B79, d79, rfl, m79⟩ := HS.form 11 rfl; (try simp only [hpn, hpm] at HS); have F := HS.boxes; simp only [bxn] at F) | ((with_reducible refine gate_store (p := 36) rfl ?_); refine ev_st 7 3 HS (seg := [.slice B79 y79.length d79]) ?_; clear HS; intro w81 HS F) | ((with_reducible refine gd 40 rfl ?_); refine ev_li q202 [9, 11] ([(⟨(rd_T202 a0.f1 x59).f0, y72, (⟨(rd_T202 a0.f1 x59).f2.f0, y79, (rd_T202 a0.f1 x59).f2.f2, (rd_T202 a0.f1 x59).f2.f3, (rd_T202 a0.f1 x59).f2.f4⟩ : S200)⟩ : S202)] : List S202) ([.int .i64 ((rd_T202 a0.f1 x59).f0), .slice B72 y72.length d72, .int .i64 ((rd_T202 a0.f1 x59).f2.f0), .slice B79 y79.length d79, .bool ((rd_T202 a0.f1 x59).f2.f2), .bool ((rd_T202 a0.f1 x59).f2.f3), .int .i64 ((rd_T202 a0.f1 x59).f2.f4)] ++ []) HS (MadeL.cons (js1 := [9, 11]) (c := [.int .i64 ((rd_T202 a0.f1 x59).f0), .slice B72 y72.length d72, .int .i64 ((rd_T202 a0.f1 x59).f2.f0), .slice B79 y79.length d79, .bool ((rd_T202 a0.f1 x59).f2.f2), .bool ((rd_T202 a0.f1 x59).f2.f3), .int .i64 ((rd_T202 a0.f1 x59).f2.f4)]) rfl (fun S hd hh => q202_pack (x := (⟨(rd_T202 a0.f1 x59).f0, y72, (⟨(rd_T202 a0.f1 x59).f2.f0, y79, (rd_T202 a0.f1 x59).f2.f2, (rd_T202 a0.f1 x59).f2.f3, (rd_T202 a0.f1 x59).f2.f4⟩ : S200)⟩ : S202)) hd (hh 9 (.own (Zd.slice 3 (Zd.int .i64)) y72 [.slice B72 y72.length d72]) rfl) (hh 11 (.own (Zd.slice 3 (Zd.int .i64)) y79 [.slice B79 y79.length d79]) rfl) (by decide)) MadeL.nil (by decide)) ?_; clear HS; intro v83 w83 HS F; obtain ⟨B83, d83, rfl, m83⟩ := HS.formn 1 12 rfl rfl) | ((with_reducible refine gd 41 rfl ?_); refine ev_ap q202 6 12 HS rfl rfl Tryz.underlying43 info202 (of_eq_true c85) ?_; clear HS; intro v86 w86 HS; rw [← e_y86.out] at HS; obtain ⟨B86, d86, rfl, m86⟩ := HS.form 13 rfl; (try simp only [hpn, hpm] at HS); have F := HS.boxes; simp only [bxn] at F) | ((with_reducible refine gate_store (p := 42) rfl ?_); refine ev_st 2 3 HS (seg := [.slice B86 y86.length d86]) ?_; clear HS; intro w88 HS F))
   go_roundg k56
   case measure => have := HKk56.out; omega
   case rel => exact ⟨_, _, _, rfl, H, ⟨by have := HKk56.out; omega⟩, HS.pick [0, 1, 2, 3, 4, 5, 13] (by decide) (by rfl)⟩
def spec_l01In.f (a0 : Int) (a1 : Int) (a2 : Int) : Option (Bool) := (if a1 ≤ a0 then (some (decide (a0 ≤ a2))) else (some false))
theorem spec_l01In.calls {a0 : Int} {a1 : Int} {a2 : Int} {r : Bool} {w : World} (h : spec_l01In.f a0 a1 a2 = some r) :
    Calls Tryz.prog 74 #[.int .i64 a0, .int .i64 a1, .int .i64 a2] w (fun e w' => e = .returned (.bool r) ∧ Hp noFP w w' []) := by
 have HS := Hp.start w
 have H := Aside0.mk h
 clear h
 unfold spec_l01In.f at H
 go_enter Tryz.func74, Tryz.ntmps74
 replace H := zif H; rcases H with ⟨c1, H⟩ | ⟨c1, H⟩
 case inl =>
  obtain rfl := zsome H
  go_wp2
  go_ret
  exact HS.pk
 obtain rfl := zsome H
 go_wp2
 go_ret
 exact HS.pk
def spec_NameOk.l0 : Nat → Int → Int → ByteArray → Option (Bool)
  | 0, _, _, _ => none
  | k + 1, x14, x15, a0 => (if x15 < (a0.size : Int) then (if 0 ≤ x15 then (if x15 < (a0.size : Int) then (if 97 ≤ (bt a0 x15) then (if (bt a0 x15) ≤ 122 then (spec_NameOk.l0 k (wrap64 (x14 + 1)) (wrap64 (x15 + 1)) a0) else (if (bt a0 x15) = 46 then (if 0 < x14 then (spec_NameOk.l0 k 0 (wrap64 (x15 + 1)) a0) else (some false)) else (some false))) else (if (bt a0 x15) = 46 then (if 0 < x14 then (spec_NameOk.l0 k 0 (wrap64 (x15 + 1)) a0) else (some false)) else (some false))) else none) else none) else ((spec_l01In.f (a0.size : Int) 1 20).bind fun t30 => (if t30 = true then (some (decide (0 < x14))) else (some false))))
def spec_NameOk.f (k : Nat) (a0 : ByteArray) : Option (Bool) := (spec_NameOk.l0 k 0 0 a0)
theorem spec_NameOk.calls {k : Nat} {a0 : ByteArray} {r : Bool} {w : World} (h : spec_NameOk.f k a0 = some r) :
    Calls Tryz.prog 139 #[.string a0] w (fun e w' => e = .returned (.bool r) ∧ Hp noFP w w' []) := by
 have HS := Hp.start w
 have H := Aside0.mk h
 clear h
 unfold spec_NameOk.f at H
 go_enter Tryz.func139, Tryz.ntmps139
 go_wp2
 go_loopg [3, 4] k (fun kq v_3 v_4 w' => ∃ (x14 : Int) (x15 : Int), v_3 = .int .i64 x14 ∧ v_4 = .int .i64 x15 ∧ Aside0 (spec_NameOk.l0 kq x14 x15 a0 = some r) ∧ Aside0 (kq ≤ k) ∧ Hp noFP w w' [])
 case atStart => exact ⟨_, _, rfl, rfl, H, ⟨Nat.le_refl _⟩, HS⟩
 case round =>
  clear HS H; (try clear F)
  obtain ⟨x14, x15, rfl, rfl, H, HKk13, HS⟩ := hrel
  cases gk with
  | zero => exact absurd H.out (by simp [spec_NameOk.l0])
  | succ k13 =>
   simp only [spec_NameOk.l0] at H
   replace H := znif H; rcases H with ⟨c17, H⟩ | ⟨c17, H⟩
   case inl =>
    replace H := zbind H; obtain ⟨t30, ht30, H⟩ := H
    replace H := zifb H; rcases H with ⟨c32, H⟩ | ⟨c32, H⟩
    case inl =>
     subst c32
     obtain rfl := zsome H
     go_wp2_with ((with_reducible refine gd 35 rfl ?_); refine ev_cl HS (spec_l01In.calls ht30.out) Tryz.func74 ?_; clear HS; intro wt30 HS F)
     go_ret
     exact HS.pk
    subst c32
    obtain rfl := zsome H
    go_wp2_with ((with_reducible refine gd 35 rfl ?_); refine ev_cl HS (spec_l01In.calls ht30.out) Tryz.func74 ?_; clear HS; intro wt30 HS F)
    go_ret
    exact HS.pk
   replace H := zgo H; obtain ⟨c18, H⟩ := H
   replace H := zgo H; obtain ⟨c19, H⟩ := H
   have hx20 := bt_at a0 x15
   replace H := znif H; rcases H with ⟨c21, H⟩ | ⟨c21, H⟩
   case inl =>
    have hx27 := bt_at a0 x15
    replace H := znif' H; rcases H with ⟨c28, H⟩ | ⟨c28, H⟩
    case inl =>
     have c28a := beq_eq_false_iff_ne.mpr c28
     have c28b := bne_iff_ne.mpr c28
     clear c28
     obtain rfl := zsome H
     go_wp2
     go_ret
     exact HS.pk
    have c28a := beq_iff_eq.mpr c28
    have c28b := bne_eq_false_iff_eq.mpr c28
    clear c28
    replace H := znif H; rcases H with ⟨c29, H⟩ | ⟨c29, H⟩
    case inl =>
     obtain rfl := zsome H
     go_wp2
     go_ret
     exact HS.pk
    go_wp2
    go_roundg k13
    case measure => have := HKk13.out; omega
    case rel => exact ⟨_, _, rfl, rfl, H, ⟨by have := HKk13.out; omega⟩, HS.pick [] (by decide) (by rfl)⟩
   have hx22 := bt_at a0 x15
   replace H := zif H; rcases H with ⟨c23, H⟩ | ⟨c23, H⟩
   case inl =>
    go_wp2
    go_roundg k13
    case measure => have := HKk13.out; omega
    case rel => exact ⟨_, _, rfl, rfl, H, ⟨by have := HKk13.out; omega⟩, HS.pick [] (by decide) (by rfl)⟩
   have hx24 := bt_at a0 x15
   replace H := znif' H; rcases H with ⟨c25, H⟩ | ⟨c25, H⟩
   case inl =>
    have c25a := beq_eq_false_iff_ne.mpr c25
    have c25b := bne_iff_ne.mpr c25
    clear c25
    obtain rfl := zsome H
    go_wp2
    go_ret
    exact HS.pk
   have c25a := beq_iff_eq.mpr c25
   have c25b := bne_eq_false_iff_eq.mpr c25
   clear c25
   replace H := znif H; rcases H with ⟨c26, H⟩ | ⟨c26, H⟩
   case inl =>
    obtain rfl := zsome H
    go_wp2
    go_ret
    exact HS.pk
   go_wp2
   go_roundg k13
   case measure => have := HKk13.out; omega
   case rel => exact ⟨_, _, rfl, rfl, H, ⟨by have := HKk13.out; omega⟩, HS.pick [] (by decide) (by rfl)⟩
def spec_PoliciesOk.l0 : Nat → Int → (List Int) → Option (Bool)
  | 0, _, _ => none
  | k + 1, x4, a0 => (if x4 < (a0.length : Int) then (if 0 ≤ x4 then (if x4 < (a0.length : Int) then ((spec_l01In.f (rd a0 x4) 0 99).bind fun t12 => (if t12 = true then (if 0 < x4 then (if 0 ≤ (wrap64 (x4 - 1)) then (if (wrap64 (x4 - 1)) < (a0.length : Int) then (if (rd a0 x4) ≤ (rd a0 (wrap64 (x4 - 1))) then (some false) else (spec_PoliciesOk.l0 k (wrap64 (x4 + 1)) a0)) else none) else none) else (spec_PoliciesOk.l0 k (wrap64 (x4 + 1)) a0)) else (some false))) else none) else none) else (some (decide ((a0.length : Int) ≤ 4))))
def spec_PoliciesOk.f (k : Nat) (a0 : (List Int)) : Option (Bool) := (spec_PoliciesOk.l0 k 0 a0)
def spec_PoliciesOk.T4 : TT := (true, [([], []), ([], []), ([0, 1], [0, 1]), ([2], [2]), ([3], [3]), ([4], [4]), ([5, 4], [5]), ([6], [6]), ([7, 6], [6, 7]), ([8, 6, 6], [6, 8]), ([9], [9]), ([9], [9]), ([11, 9], [9, 11]), ([10, 12, 9], [9, 10, 12]), ([13, 9], [9, 13]), ([9], [9]), ([9], [9]), ([15, 16, 9], [9, 15, 16]), ([17, 9], [9, 17]), ([14, 18, 9], [9, 14, 18]), ([9, 19, 6], [6, 9, 19]), ([6, 20], [6, 20])])
theorem spec_PoliciesOk.tT4 : rtab .any (opsOf Tryz.f184 4) = spec_PoliciesOk.T4 := by kernel_rfl
theorem spec_PoliciesOk.calls {k : Nat} {a0 : (List Int)} {Ap0 : Option Addr} {np0 cp0 : Nat} {r : Bool} {w : World} (h : spec_PoliciesOk.f k a0 = some r) (gp0 : (Kd.int .i64).C w Ap0 np0 a0) (lp0 : np0 ≤ cp0) :
    Calls Tryz.prog 184 #[.slice Ap0 np0 cp0] w (fun e w' => e = .returned (.bool r) ∧ Hp noFP w w' []) := by
 obtain rfl := C_len gp0
 have HS := Hp.start w
 have H := Aside0.mk h
 clear h
 unfold spec_PoliciesOk.f at H
 go_enter Tryz.func184, Tryz.ntmps184
 go_wp2
 go_loopg [3] k (fun kq v_3 w' => ∃ (x4 : Int), v_3 = .int .i64 x4 ∧ Aside0 (spec_PoliciesOk.l0 kq x4 a0 = some r) ∧ Aside0 (kq ≤ k) ∧ Hp noFP w w' [])
 case atStart => exact ⟨_, rfl, H, ⟨Nat.le_refl _⟩, HS⟩
 case round =>
  clear HS H; (try clear F)
  obtain ⟨x4, rfl, H, HKk3, HS⟩ := hrel
  cases gk with
  | zero => exact absurd H.out (by simp [spec_PoliciesOk.l0])
  | succ k3 =>
   simp only [spec_PoliciesOk.l0] at H
   replace H := znif H; rcases H with ⟨c6, H⟩ | ⟨c6, H⟩
   case inl =>
    obtain rfl := zsome H
    go_wp2
    go_ret
    exact HS.pk
   (try go_wp2)
   replace H := zgo H; obtain ⟨c5, H⟩ := H
   replace H := zgo H; obtain ⟨c7, H⟩ := H
   obtain ⟨ad9, rfl, e9_0⟩ := Kd.at_int gp0 x4 (of_eq_true c5) (of_eq_true c7)
   replace H := zbind H; obtain ⟨t12, ht12, H⟩ := H
   replace H := znifb H; rcases H with ⟨c14, H⟩ | ⟨c14, H⟩
   case inl =>
    subst c14
    refine dr_start [] HS #[false, false, false, false, false, false, false, false, false, false, false, false, false, false, false, false, false, false, false, false, false, false] (by kernel_rfl) rfl rfl spec_PoliciesOk.tT4 (fun w13 HT HS HH => ?_)
    (try clear F)
    refine drq_of [(0, some 10), (1, some 11), (2, some 12)] ?_
    repeat (refine drp HT ?_)
    refine drq_end ?_
    refine dr_take 3 (some 13) HT HH (v := ?_) (a' := ?_) rfl rfl (by kernel_rfl) (fun _ _ _ h => h) (.inl ⟨by rfl, ?_⟩) ?_ ?_
    rotate_left
    · rintro w' ⟨rs', HS'⟩; have e9_0 := HS'.keepc e9_0; go_simp; with_reducible rfl
    rotate_left
    · simp only [Act.put, ptn]; rfl
    refine dr1 4 HT fun K hK => ?_
    refine go_cl HS (spec_l01In.calls ht12.out) Tryz.func74 ?_; clear HS; intro wt12 HS F
    refine nrm 14 hK ⟨_, HS⟩ (fun HH => ?_); clear hK K
    refine drq_of [(5, some 15), (6, some 16), (7, some 17), (8, some 18), (9, some 19), (10, some 20), (11, some 21), (12, some 22), (13, some 23), (14, some 24), (15, some 25), (16, some 26), (17, some 27), (18, some 28), (19, some 29), (20, some 30), (21, some 31)] ?_
    repeat (first | refine drp HT ?_ | (refine drq_pure HT (v := undef) (a' := ?_) rfl rfl (by kernel_rfl) (fun _ _ _ h => h) (.inr ⟨by rfl, rfl⟩) ?_ ?_; rotate_left; (simp only [Act.put, ptn]; rfl)))
    refine drq_end ?_
    refine done_ (done_of HT.out (by kernel_rfl)) ?_
    obtain rfl := zsome H
    go_wp2
    go_ret
    exact HS.pk
   subst c14
   replace H := znif H; rcases H with ⟨c15, H⟩ | ⟨c15, H⟩
   case inl =>
    refine dr_start [] HS #[false, false, false, false, false, false, false, false, false, false, false, false, false, false, false, false, false, false, false, false, false, false] (by kernel_rfl) rfl rfl spec_PoliciesOk.tT4 (fun w11 HT HS HH => ?_)
    (try clear F)
    refine drq_of [(0, some 10), (1, some 11), (2, some 12)] ?_
    repeat (refine drp HT ?_)
    refine drq_end ?_
    refine dr_take 3 (some 13) HT HH (v := ?_) (a' := ?_) rfl rfl (by kernel_rfl) (fun _ _ _ h => h) (.inl ⟨by rfl, ?_⟩) ?_ ?_
    rotate_left
    · rintro w' ⟨rs', HS'⟩; have e9_0 := HS'.keepc e9_0; go_simp; with_reducible rfl
    rotate_left
    · simp only [Act.put, ptn]; rfl
    refine dr1 4 HT fun K hK => ?_
    refine go_cl HS (spec_l01In.calls ht12.out) Tryz.func74 ?_; clear HS; intro wt12 HS F
    refine nrm 14 hK ⟨_, HS⟩ (fun HH => ?_); clear hK K
    refine drq_of [(5, some 15), (6, some 16), (7, some 17), (8, some 18), (9, some 19), (10, some 20), (11, some 21), (12, some 22), (13, some 23), (14, some 24), (15, some 25), (16, some 26), (17, some 27), (18, some 28), (19, some 29), (20, some 30), (21, some 31)] ?_
    repeat (first | refine drp HT ?_ | (refine drq_pure HT (v := undef) (a' := ?_) rfl rfl (by kernel_rfl) (fun _ _ _ h => h) (.inr ⟨by rfl, rfl⟩) ?_ ?_; rotate_left; (simp only [Act.put, ptn]; rfl)))
    refine drq_end ?_
    refine done_ (done_of HT.out (by kernel_rfl)) ?_
    go_wp2
    go_roundg k3
    case measure => have := HKk3.out; omega
    case rel => exact ⟨_, rfl, H, ⟨by have := HKk3.out; omega⟩, HS.pick [] (by decide) (by rfl)⟩
   replace H := zgo H; obtain ⟨c16, H⟩ := H
   replace H := zgo H; obtain ⟨c17, H⟩ := H
   obtain ⟨ad18, hq18, e18_0⟩ := Kd.at_int gp0 (wrap64 (x4 - 1)) (of_eq_true c16) (of_eq_true c17); obtain rfl := Option.some.inj hq18
   refine dr_start [] HS #[false, false, false, false, false, false, false, false, false, false, false, false, false, false, false, false, false, false, false, false, false, false] (by kernel_rfl) rfl rfl spec_PoliciesOk.tT4 (fun w8 HT HS HH => ?_)
   (try clear F)
   refine drq_of [(0, some 10), (1, some 11), (2, some 12)] ?_
   repeat (refine drp HT ?_)
   refine drq_end ?_
   refine dr_take 3 (some 13) HT HH (v := ?_) (a' := ?_) rfl rfl (by kernel_rfl) (fun _ _ _ h => h) (.inl ⟨by rfl, ?_⟩) ?_ ?_
   rotate_left
   · rintro w' ⟨rs', HS'⟩; have e9_0 := HS'.keepc e9_0; go_simp; with_reducible rfl
   rotate_left
   · simp only [Act.put, ptn]; rfl
   refine dr1 4 HT fun K hK => ?_
   refine go_cl HS (spec_l01In.calls ht12.out) Tryz.func74 ?_; clear HS; intro wt12 HS F
   refine nrm 14 hK ⟨_, HS⟩ (fun HH => ?_); clear hK K
   refine drq_of [(5, some 15), (6, some 16), (7, some 17), (8, some 18), (9, some 19), (10, some 20), (11, some 21), (12, some 22), (13, some 23)] ?_
   repeat (refine drp HT ?_)
   refine drq_end ?_
   refine dr_take 14 (some 24) HT HH (v := ?_) (a' := ?_) rfl rfl (by kernel_rfl) (fun _ _ _ h => h) (.inl ⟨by rfl, ?_⟩) ?_ ?_
   rotate_left
   · rintro w' ⟨rs', HS'⟩; have e18_0 := HS'.keepc e18_0; go_simp; with_reducible rfl
   rotate_left
   · simp only [Act.put, ptn]; rfl
   refine drq_of [(15, some 25), (16, some 26), (17, some 27)] ?_
   repeat (refine drp HT ?_)
   refine drq_end ?_
   refine dr_take 18 (some 28) HT HH (v := ?_) (a' := ?_) rfl rfl (by kernel_rfl) (fun _ _ _ h => h) (.inl ⟨by rfl, ?_⟩) ?_ ?_
   rotate_left
   · rintro w' ⟨rs', HS'⟩; have e9_0 := HS'.keepc e9_0; go_simp; with_reducible rfl
   rotate_left
   · simp only [Act.put, ptn]; rfl
   refine drq_of [(19, some 29), (20, some 30), (21, some 31)] ?_
   repeat (refine drp HT ?_)
   refine drq_end ?_
   refine done_ (done_of HT.out (by kernel_rfl)) ?_
   replace H := zif H; rcases H with ⟨c10, H⟩ | ⟨c10, H⟩
   case inl =>
    (try simp only [c10, dcn])
    obtain rfl := zsome H
    go_wp2
    go_ret
    exact HS.pk
   (try simp only [c10, dcn])
   go_wp2
   go_roundg k3
   case measure => have := HKk3.out; omega
   case rel => exact ⟨_, rfl, H, ⟨by have := HKk3.out; omega⟩, HS.pick [] (by decide) (by rfl)⟩
def spec_NamesOk.l0 : Nat → Int → (List ByteArray) → Option (Bool)
  | 0, _, _ => none
  | k + 1, x4, a0 => (if x4 < (a0.length : Int) then (if 0 ≤ x4 then (if x4 < (a0.length : Int) then ((spec_NameOk.f k (rdOf ByteArray.empty a0 x4)).bind fun t12 => (if t12 = true then (if 0 < x4 then (if 0 ≤ (wrap64 (x4 - 1)) then (if (wrap64 (x4 - 1)) < (a0.length : Int) then (if (Op.bytesLess ((rdOf ByteArray.empty a0 (wrap64 (x4 - 1))).toList) ((rdOf ByteArray.empty a0 x4).toList)) = true then (spec_NamesOk.l0 k (wrap64 (x4 + 1)) a0) else (some false)) else none) else none) else (spec_NamesOk.l0 k (wrap64 (x4 + 1)) a0)) else (some false))) else none) else none) else (some (decide ((a0.length : Int) ≤ 4))))
def spec_NamesOk.f (k : Nat) (a0 : (List ByteArray)) : Option (Bool) := (spec_NamesOk.l0 k 0 a0)
def spec_NamesOk.T4 : TT := (true, [([], []), ([], []), ([0, 1], [0, 1]), ([2], [2]), ([3], [3]), ([4], [4]), ([5, 4], [5]), ([6], [6]), ([7, 6], [6, 7]), ([8, 6, 6], [6, 8]), ([9], [9]), ([9], [9]), ([11, 9], [9, 11]), ([10, 12, 9], [9, 10, 12]), ([13, 9], [9, 13]), ([9], [9]), ([9], [9]), ([15, 16, 9], [9, 15, 16]), ([17, 9], [9, 17]), ([14, 18, 9], [9, 14, 18]), ([9, 19, 6], [6, 9, 19]), ([6, 20], [6, 20])])
theorem spec_NamesOk.tT4 : rtab .any (opsOf Tryz.f185 4) = spec_NamesOk.T4 := by kernel_rfl
theorem spec_NamesOk.calls {k : Nat} {a0 : (List ByteArray)} {Ap0 : Option Addr} {np0 cp0 : Nat} {r : Bool} {w : World} (h : spec_NamesOk.f k a0 = some r) (gp0 : Kd.string.C w Ap0 np0 a0) (lp0 : np0 ≤ cp0) :
    Calls Tryz.prog 185 #[.slice Ap0 np0 cp0] w (fun e w' => e = .returned (.bool r) ∧ Hp noFP w w' []) := by
 obtain rfl := C_len gp0
 have HS := Hp.start w
 have H := Aside0.mk h
 clear h
 unfold spec_NamesOk.f at H
 go_enter Tryz.func185, Tryz.ntmps185
 go_wp2
 go_loopg [3] k (fun kq v_3 w' => ∃ (x4 : Int), v_3 = .int .i64 x4 ∧ Aside0 (spec_NamesOk.l0 kq x4 a0 = some r) ∧ Aside0 (kq ≤ k) ∧ Hp noFP w w' [])
 case atStart => exact ⟨_, rfl, H, ⟨Nat.le_refl _⟩, HS⟩
 case round =>
  clear HS H; (try clear F)
  obtain ⟨x4, rfl, H, HKk3, HS⟩ := hrel
  cases gk with
  | zero => exact absurd H.out (by simp [spec_NamesOk.l0])
  | succ k3 =>
   simp only [spec_NamesOk.l0] at H
   replace H := znif H; rcases H with ⟨c6, H⟩ | ⟨c6, H⟩
   case inl =>
    obtain rfl := zsome H
    go_wp2
    go_ret
    exact HS.pk
   (try go_wp2)
   replace H := zgo H; obtain ⟨c5, H⟩ := H
   replace H := zgo H; obtain ⟨c7, H⟩ := H
   obtain ⟨ad9, rfl, e9_0⟩ := Kd.at_string gp0 x4 (of_eq_true c5) (of_eq_true c7)
   replace H := zbind H; obtain ⟨t12, ht12, H⟩ := H
   replace H := znifb H; rcases H with ⟨c14, H⟩ | ⟨c14, H⟩
   case inl =>
    subst c14
    refine dr_start [] HS #[false, false, false, false, false, false, false, false, false, false, false, false, false, false, false, false, false, false, false, false, false, false] (by kernel_rfl) rfl rfl spec_NamesOk.tT4 (fun w13 HT HS HH => ?_)
    (try clear F)
    refine drq_of [(0, some 10), (1, some 11), (2, some 12)] ?_
    repeat (refine drp HT ?_)
    refine drq_end ?_
    refine dr_take 3 (some 13) HT HH (v := ?_) (a' := ?_) rfl rfl (by kernel_rfl) (fun _ _ _ h => h) (.inl ⟨by rfl, ?_⟩) ?_ ?_
    rotate_left
    · rintro w' ⟨rs', HS'⟩; have e9_0 := HS'.keepc e9_0; go_simp; with_reducible rfl
    rotate_left
    · simp only [Act.put, ptn]; rfl
    refine dr1 4 HT fun K hK => ?_
    refine go_cl HS (spec_NameOk.calls ht12.out) Tryz.func139 ?_; clear HS; intro wt12 HS F
    refine nrm 14 hK ⟨_, HS⟩ (fun HH => ?_); clear hK K
    refine drq_of [(5, some 15), (6, some 16), (7, some 17), (8, some 18), (9, some 19), (10, some 20), (11, some 21), (12, some 22), (13, some 23), (14, some 24), (15, some 25), (16, some 26), (17, some 27), (18, some 28), (19, some 29), (20, some 30), (21, some 31)] ?_
    repeat (first | refine drp HT ?_ | (refine drq_pure HT (v := undef) (a' := ?_) rfl rfl (by kernel_rfl) (fun _ _ _ h => h) (.inr ⟨by rfl, rfl⟩) ?_ ?_; rotate_left; (simp only [Act.put, ptn]; rfl)))
    refine drq_end ?_
    refine done_ (done_of HT.out (by kernel_rfl)) ?_
    obtain rfl := zsome H
    go_wp2
    go_ret
    exact HS.pk
   subst c14
   replace H := znif H; rcases H with ⟨c15, H⟩ | ⟨c15, H⟩
   case inl =>
    refine dr_start [] HS #[false, false, false, false, false, false, false, false, false, false, false, false, false, false, false, false, false, false, false, false, false, false] (by kernel_rfl) rfl rfl spec_NamesOk.tT4 (fun w11 HT HS HH => ?_)
    (try clear F)
    refine drq_of [(0, some 10), (1, some 11), (2, some 12)] ?_
    repeat (refine drp HT ?_)
    refine drq_end ?_
    refine dr_take 3 (some 13) HT HH (v := ?_) (a' := ?_) rfl rfl (by kernel_rfl) (fun _ _ _ h => h) (.inl ⟨by rfl, ?_⟩) ?_ ?_
    rotate_left
    · rintro w' ⟨rs', HS'⟩; have e9_0 := HS'.keepc e9_0; go_simp; with_reducible rfl
    rotate_left
    · simp only [Act.put, ptn]; rfl
    refine dr1 4 HT fun K hK => ?_
    refine go_cl HS (spec_NameOk.calls ht12.out) Tryz.func139 ?_; clear HS; intro wt12 HS F
    refine nrm 14 hK ⟨_, HS⟩ (fun HH => ?_); clear hK K
    refine drq_of [(5, some 15), (6, some 16), (7, some 17), (8, some 18), (9, some 19), (10, some 20), (11, some 21), (12, some 22), (13, some 23), (14, some 24), (15, some 25), (16, some 26), (17, some 27), (18, some 28), (19, some 29), (20, some 30), (21, some 31)] ?_
    repeat (first | refine drp HT ?_ | (refine drq_pure HT (v := undef) (a' := ?_) rfl rfl (by kernel_rfl) (fun _ _ _ h => h) (.inr ⟨by rfl, rfl⟩) ?_ ?_; rotate_left; (simp only [Act.put, ptn]; rfl)))
    refine drq_end ?_
    refine done_ (done_of HT.out (by kernel_rfl)) ?_
    go_wp2
    go_roundg k3
    case measure => have := HKk3.out; omega
    case rel => exact ⟨_, rfl, H, ⟨by have := HKk3.out; omega⟩, HS.pick [] (by decide) (by rfl)⟩
   replace H := zgo H; obtain ⟨c16, H⟩ := H
   replace H := zgo H; obtain ⟨c17, H⟩ := H
   obtain ⟨ad18, hq18, e18_0⟩ := Kd.at_string gp0 (wrap64 (x4 - 1)) (of_eq_true c16) (of_eq_true c17); obtain rfl := Option.some.inj hq18
   refine dr_start [] HS #[false, false, false, false, false, false, false, false, false, false, false, false, false, false, false, false, false, false, false, false, false, false] (by kernel_rfl) rfl rfl spec_NamesOk.tT4 (fun w8 HT HS HH => ?_)
   (try clear F)
   refine drq_of [(0, some 10), (1, some 11), (2, some 12)] ?_
   repeat (refine drp HT ?_)
   refine drq_end ?_
   refine dr_take 3 (some 13) HT HH (v := ?_) (a' := ?_) rfl rfl (by kernel_rfl) (fun _ _ _ h => h) (.inl ⟨by rfl, ?_⟩) ?_ ?_
   rotate_left
   · rintro w' ⟨rs', HS'⟩; have e9_0 := HS'.keepc e9_0; go_simp; with_reducible rfl
   rotate_left
   · simp only [Act.put, ptn]; rfl
   refine dr1 4 HT fun K hK => ?_
   refine go_cl HS (spec_NameOk.calls ht12.out) Tryz.func139 ?_; clear HS; intro wt12 HS F
   refine nrm 14 hK ⟨_, HS⟩ (fun HH => ?_); clear hK K
   refine drq_of [(5, some 15), (6, some 16), (7, some 17), (8, some 18), (9, some 19), (10, some 20), (11, some 21), (12, some 22), (13, some 23)] ?_
   repeat (refine drp HT ?_)
   refine drq_end ?_
   refine dr_take 14 (some 24) HT HH (v := ?_) (a' := ?_) rfl rfl (by kernel_rfl) (fun _ _ _ h => h) (.inl ⟨by rfl, ?_⟩) ?_ ?_
   rotate_left
   · rintro w' ⟨rs', HS'⟩; have e18_0 := HS'.keepc e18_0; go_simp; with_reducible rfl
   rotate_left
   · simp only [Act.put, ptn]; rfl
   refine drq_of [(15, some 25), (16, some 26), (17, some 27)] ?_
   repeat (refine drp HT ?_)
   refine drq_end ?_
   refine dr_take 18 (some 28) HT HH (v := ?_) (a' := ?_) rfl rfl (by kernel_rfl) (fun _ _ _ h => h) (.inl ⟨by rfl, ?_⟩) ?_ ?_
   rotate_left
   · rintro w' ⟨rs', HS'⟩; have e9_0 := HS'.keepc e9_0; go_simp; with_reducible rfl
   rotate_left
   · simp only [Act.put, ptn]; rfl
   refine drq_of [(19, some 29), (20, some 30), (21, some 31)] ?_
   repeat (refine drp HT ?_)
   refine drq_end ?_
   refine done_ (done_of HT.out (by kernel_rfl)) ?_
   replace H := znifb H; rcases H with ⟨c10, H⟩ | ⟨c10, H⟩
   case inl =>
    (try simp only [c10, dcn])
    obtain rfl := zsome H
    go_wp2
    go_ret
    exact HS.pk
   (try simp only [c10, dcn])
   go_wp2
   go_roundg k3
   case measure => have := HKk3.out; omega
   case rel => exact ⟨_, rfl, H, ⟨by have := HKk3.out; omega⟩, HS.pick [] (by decide) (by rfl)⟩
def spec_l09Num.f (a0 : Int) : Option (Bool) := ((spec_l01In.f a0 0 9999).bind fun t1 => (some t1))
theorem spec_l09Num.calls {a0 : Int} {r : Bool} {w : World} (h : spec_l09Num.f a0 = some r) :
    Calls Tryz.prog 75 #[.int .i64 a0] w (fun e w' => e = .returned (.bool r) ∧ Hp noFP w w' []) := by
 have HS := Hp.start w
 have H := Aside0.mk h
 clear h
 unfold spec_l09Num.f at H
 go_enter Tryz.func75, Tryz.ntmps75
 replace H := zbind H; obtain ⟨t1, ht1, H⟩ := H
 obtain rfl := zsome H
 go_wp2_with ((with_reducible refine gd 4 rfl ?_); refine ev_cl HS (spec_l01In.calls ht1.out) Tryz.func74 ?_; clear HS; intro wt1 HS F)
 go_ret
 exact HS.pk
end Go.Proofs.YtacocpknielofaaGreatDoor.F

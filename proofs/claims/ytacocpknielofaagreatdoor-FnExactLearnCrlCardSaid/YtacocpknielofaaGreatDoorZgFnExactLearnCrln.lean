/- Functions of the program and of the law, and that their calls do what is written here. -/
import Derived.Test.YtacocpknielofaaGreatDoorZgFnExactLearnCrla
import Derived.Test.YtacocpknielofaaGreatDoorZgFnExactLearnCrlf
import Derived.Test.YtacocpknielofaaGreatDoorZgFnExactLearnCrlk
import Derived.Test.YtacocpknielofaaGreatDoorZgFnExactLearnCrll
import Derived.Test.YtacocpknielofaaGreatDoorZgFnExactLearnCrlm
import Derived.Test.YtacocpknielofaaGreatDoorZgFnExactLearna
namespace Go.Proofs.YtacocpknielofaaGreatDoor.F
open Go.RowKit YtacocpknielofaaGreatDoorW.PrintWords YtacocpknielofaaGreatDoorW.PrintLast YtacocpknielofaaGreatDoorW.PrintMore Z
attribute [local go_sem] max2_int min2_int max_two min_two max_three min_three max_four min_four
set_option linter.unusedVariables false
set_option linter.unusedSimpArgs false
set_option maxRecDepth 100000
set_option maxHeartbeats 16000000
def laws_FnExactLearnCrl.f (k : Nat) (a0 : S40) (a1 : S75) : Option (Bool) := ((laws_szServer.f k a0 1048576).bind fun t5 => (if t5 < 0 then (some true) else ((laws_szCrl.f a1 t5).bind fun t8 => (if t8 < 0 then (some true) else ((laws_toServer.f k a0).bind fun t11 => ((laws_toCrl.f k a1).bind fun t29 => ((spec_LearnCrl.f k t11 t29).bind fun t39 => ((laws_toServer.f k a0).bind fun t14 => ((laws_toCrl.f k a1).bind fun t25 => ((impl_LearnCrl.f k t14 t25).bind fun t32 => ((laws_eqServer.f k t32.1 t39.1).bind fun t43 => (if t43 = true then (if t32.2 = t39.2 then ((laws_toServer.f k a0).bind fun t61 => ((laws_eqServer.f k t14 t61).bind fun t80 => (if t80 = true then ((laws_toCrl.f k a1).bind fun t82 => ((laws_eqCrl.f k t25 t82).bind fun t84 => (if t84 = true then ((laws_markServer.f k t14 1).bind fun t55 => ((laws_markCrl.f k t25 t55.1).bind fun t57 => (if t57.1 < 0 then (some false) else ((laws_eqServer.f k t32.1 t39.1).bind fun t60 => (if t60 = true then ((laws_markServer.f k t32.1 1).bind fun t63 => ((laws_heldServer.f k (⟨(⟨t63.2.1, t63.2.2.1, t63.2.2.2.1⟩ : S33), t63.2.2.2.2.1, t32.1.f2, t32.1.f3, t32.1.f4, t63.2.2.2.2.2⟩ : S46) 1).bind fun t65 => (if t65 < 0 then (some false) else (if t65 = t63.1 then ((laws_toServer.f k a0).bind fun t85 => ((laws_toCrl.f k a1).bind fun t93 => ((impl_LearnCrl.f k t85 t93).bind fun t95 => ((laws_eqServer.f k t95.1 t39.1).bind fun t72 => (if t72 = true then (if t95.2 = t39.2 then ((laws_heldServer.f k (⟨(⟨t63.2.1, t63.2.2.1, t63.2.2.2.1⟩ : S33), t63.2.2.2.2.1, t32.1.f2, t32.1.f3, t32.1.f4, t63.2.2.2.2.2⟩ : S46) 1).bind fun t76 => (if t76 < 0 then (some false) else (if t76 = t63.1 then (some true) else (some false)))) else (some false)) else (some false)))))) else (some false))))) else (some false)))))) else (some false)))) else (some false)))) else (some false)) else (some false)))))))))))))
def laws_FnExactLearnCrl.T8 : TT := (true, [([], []), ([0], [0]), ([], []), ([2, 1], [2]), ([1, 3, 3], [1, 3]), ([4], [4]), ([5], [5]), ([5], [5]), ([], []), ([8, 6, 4, 0, 1, 2, 3, 4, 5, 6, 8], [6, 8]), ([7, 9, 0, 1, 2, 3, 4, 5, 6, 7, 8, 9], [7])])
theorem laws_FnExactLearnCrl.tT8 : rtab .any (opsOf Tryz.f9 8) = laws_FnExactLearnCrl.T8 := by kernel_rfl
def laws_FnExactLearnCrl.T14 : TT := (true, [([], []), ([], []), ([1], [1]), ([0, 2, 2], [0, 2]), ([3], [3])])
theorem laws_FnExactLearnCrl.tT14 : rtab .any (opsOf Tryz.f9 14) = laws_FnExactLearnCrl.T14 := by kernel_rfl
def laws_FnExactLearnCrl.T16 : TT := (true, [([], []), ([], []), ([1], [1]), ([0, 2, 2], [0, 2]), ([3], [3])])
theorem laws_FnExactLearnCrl.tT16 : rtab .any (opsOf Tryz.f9 16) = laws_FnExactLearnCrl.T16 := by kernel_rfl
def laws_FnExactLearnCrl.T31 : TT := (true, [([], []), ([0], [0]), ([], []), ([2, 1], [2]), ([1, 3, 3], [1, 3]), ([4], [4]), ([5], [5]), ([5], [5]), ([], []), ([8, 6, 4, 0, 1, 2, 3, 4, 5, 6, 8], [6, 8]), ([7, 9, 0, 1, 2, 3, 4, 5, 6, 7, 8, 9], [7])])
theorem laws_FnExactLearnCrl.tT31 : rtab .any (opsOf Tryz.f9 31) = laws_FnExactLearnCrl.T31 := by kernel_rfl
theorem laws_FnExactLearnCrl.calls {k : Nat} {a0 : S40} {a1 : S75} {Ap0 Ap1 Ap2 Ap3 Ap4 Ap5 : Option Addr} {np0 cp0 np1 cp1 np2 cp2 np3 cp3 np4 cp4 np5 cp5 : Nat} {mG : Int} {r : Bool} {w : World} (h : laws_FnExactLearnCrl.f k a0 a1 = some r) (gp0 : k88.C w Ap0 np0 a0.f0.f0) (lp0 : np0 ≤ cp0) (gp1 : k75.C w Ap1 np1 a0.f0.f1) (lp1 : np1 ≤ cp1) (gp2 : k178.C w Ap2 np2 a0.f0.f2) (lp2 : np2 ≤ cp2) (gp3 : k196.C w Ap3 np3 a0.f1) (lp3 : np3 ≤ cp3) (gp4 : k199.C w Ap4 np4 a0.f5) (lp4 : np4 ≤ cp4) (gp5 : k240.C w Ap5 np5 a1.f5) (lp5 : np5 ≤ cp5) (hgM : w.cell? ⟨0, 0, none⟩ = some (.int .i64 mG)) :
    Calls Tryz.prog 9 #[.agg #[.slice Ap0 np0 cp0, .slice Ap1 np1 cp1, .slice Ap2 np2 cp2, .slice Ap3 np3 cp3, .int .i64 a0.f2, .int .i64 a0.f3, .int .i64 a0.f4, .slice Ap4 np4 cp4], .agg #[.string a1.f0, .int .i64 a1.f1, .int .i64 a1.f2, .int .i64 a1.f3, .int .i64 a1.f4, .slice Ap5 np5 cp5, .string a1.f6]] w (fun e w' => e = .returned (.bool r) ∧ Hp noFP w w' []) := by
 obtain rfl := C_len gp0
 obtain rfl := C_len gp1
 obtain rfl := C_len gp2
 obtain rfl := C_len gp3
 obtain rfl := C_len gp4
 obtain rfl := C_len gp5
 have HS := Hp.start w
 have H := Aside0.mk h
 clear h
 unfold laws_FnExactLearnCrl.f at H
 go_enter Tryz.func9, Tryz.ntmps9
 replace H := zbind H; obtain ⟨t5, ht5, H⟩ := H
 go_upto_if 21 with (first | ((with_reducible refine gd 2 rfl ?_); refine ev_bx HS ?_; clear HS; intro g2 w2 HS F) | ((with_reducible refine gd 3 rfl ?_); refine ev_bx HS ?_; clear HS; intro g3 w3 HS F) | ((with_reducible refine gd 19 rfl ?_); refine ev_cl HS (laws_szServer.calls ht5.out (HS.ro gp0) lp0 (HS.ro gp1) lp1 (HS.ro gp2) lp2 (HS.ro gp3) lp3 (HS.ro gp4) lp4) Tryz.func16 ?_; clear HS; intro wt5 HS F))
 replace H := zif H; rcases H with ⟨c7, H⟩ | ⟨c7, H⟩
 case inl =>
  (try simp only [c7, dcn])
  obtain rfl := zsome H
  go_wp2
  go_ret
  exact HS.pk
 (try simp only [c7, dcn])
 replace H := zbind H; obtain ⟨t8, ht8, H⟩ := H
 go_upto_if 26 with ((with_reducible refine gd 24 rfl ?_); refine ev_cl HS (laws_szCrl.calls ht8.out (HS.ro gp5) lp5) Tryz.func26 ?_; clear HS; intro wt8 HS F)
 replace H := zif H; rcases H with ⟨c10, H⟩ | ⟨c10, H⟩
 case inl =>
  (try simp only [c10, dcn])
  obtain rfl := zsome H
  go_wp2
  go_ret
  exact HS.pk
 (try simp only [c10, dcn])
 (try go_wp2)
 replace H := zbind H; obtain ⟨t11, ht11, H⟩ := H
 replace H := zbind H; obtain ⟨t29, ht29, H⟩ := H
 replace H := zbind H; obtain ⟨t39, ht39, H⟩ := H
 refine dr_start [9] HS #[false, false, false, false, false, false, false, false, false, false, false] (by kernel_rfl) rfl rfl laws_FnExactLearnCrl.tT8 (fun w12 HT HS HH => ?_)
 (try clear F)
 refine join_ 0 #[true, true, true, true, true, true, true, true, true, true, true] (fun ((v13, v21, v22, v24, v27, v38, v42, v44, v49, v51, v53, g6) : Value × Value × Value × Value × Value × Value × Value × Value × Value × Value × Value × Nat) => ([(28, .agg #[.slice Ap0 a0.f0.f0.length cp0, .slice Ap1 a0.f0.f1.length cp1, .slice Ap2 a0.f0.f2.length cp2, .slice Ap3 a0.f1.length cp3, .int .i64 a0.f2, .int .i64 a0.f3, .int .i64 a0.f4, .slice Ap4 a0.f5.length cp4]), (29, .agg #[v13, v21, v22, v24, .int .i64 t11.f2, .int .i64 t11.f3, .int .i64 t11.f4, v27]), (30, .agg #[.string a1.f0, .int .i64 a1.f1, .int .i64 a1.f2, .int .i64 a1.f3, .int .i64 a1.f4, .slice Ap5 a1.f5.length cp5, .string a1.f6]), (31, .agg #[.string t29.f0, .int .i64 t29.f1, .int .i64 t29.f2, .int .i64 t29.f3, .int .i64 t29.f4, v38, .string t29.f6]), (32, .tuple #[.agg #[v42, v44, v49, v51, .int .i64 t39.1.f2, .int .i64 t39.1.f3, .int .i64 t39.1.f4, v53], .bool t39.2]), (27, .tuple #[.agg #[v42, v44, v49, v51, .int .i64 t39.1.f2, .int .i64 t39.1.f3, .int .i64 t39.1.f4, v53], .bool t39.2]), (33, .agg #[v42, v44, v49, v51, .int .i64 t39.1.f2, .int .i64 t39.1.f3, .int .i64 t39.1.f4, v53]), (34, .bool t39.2), (6, .pointer (some ⟨g6, 0, none⟩)), (7, .bool t39.2)] : List (Tmp × Value))) (fun ((v13, v21, v22, v24, v27, v38, v42, v44, v49, v51, v53, g6) : Value × Value × Value × Value × Value × Value × Value × Value × Value × Value × Value × Nat) w' => Hp noFP w w' [.box g2 [.slice Ap0 a0.f0.f0.length cp0, .slice Ap1 a0.f0.f1.length cp1, .slice Ap2 a0.f0.f2.length cp2, .slice Ap3 a0.f1.length cp3, .int .i64 a0.f2, .int .i64 a0.f3, .int .i64 a0.f4, .slice Ap4 a0.f5.length cp4] 40, .box g3 [.string a1.f0, .int .i64 a1.f1, .int .i64 a1.f2, .int .i64 a1.f3, .int .i64 a1.f4, .slice Ap5 a1.f5.length cp5, .string a1.f6] 75, .own (Zd.slice 91 q91) t11.f0.f0 [v13], .own (Zd.slice 81 q81) t11.f0.f1 [v21], .own (Zd.slice 115 q115) t11.f0.f2 [v22], .own (Zd.slice 202 q202) t11.f1 [v24], .own (Zd.slice 205 q205) t11.f5 [v27], .own (Zd.slice 238 q238) t29.f5 [v38], .own (Zd.slice 91 q91) t39.1.f0.f0 [v42], .own (Zd.slice 81 q81) t39.1.f0.f1 [v44], .own (Zd.slice 115 q115) t39.1.f0.f2 [v49], .own (Zd.slice 202 q202) t39.1.f1 [v51], .own (Zd.slice 205 q205) t39.1.f5 [v53], .box g6 [v42, v44, v49, v51, .int .i64 t39.1.f2, .int .i64 t39.1.f3, .int .i64 t39.1.f4, v53] 46]) ?_ ?_
 rotate_left
 · intro hJ
   refine drq_of [(0, some 28), (2, some 30)] ?_
   repeat (refine drt HT HH ?_)
   refine drq_end ?_
   refine dr_any [1, 8] HT (by kernel_rfl) (by decide) (AllReadyL.cons rfl (by decide) (fun K hK => ?_) (AllReadyL.cons rfl (by decide) (fun K hK => ?_) AllReadyL.nil))
   · refine go_cl5 HS (laws_toServer.calls ht11.out (HS.ro gp0) lp0 (HS.ro gp1) lp1 (HS.ro gp2) lp2 (HS.ro gp3) lp3 (HS.ro gp4) lp4) Tryz.func18 ?_; clear HS; intro v13 v21 v22 v24 v27 wt11 HS F; obtain ⟨B13, d13, rfl, m13⟩ := HS.form 2 rfl; obtain ⟨B21, d21, rfl, m21⟩ := HS.form 3 rfl; obtain ⟨B22, d22, rfl, m22⟩ := HS.form 4 rfl; obtain ⟨B24, d24, rfl, m24⟩ := HS.form 5 rfl; obtain ⟨B27, d27, rfl, m27⟩ := HS.form 6 rfl
     refine nrm 29 hK ⟨_, HS⟩ (fun HH => ?_); clear hK K
     refine dr_any [3, 8] HT (by kernel_rfl) (by decide) (AllReadyL.cons rfl (by decide) (fun K hK => ?_) (AllReadyL.cons rfl (by decide) (fun K hK => ?_) AllReadyL.nil))
     · refine go_cl1 HS (laws_toCrl.calls ht29.out (HS.ro gp5) lp5) Tryz.func28 ?_; clear HS; intro v38 wt29 HS F; obtain ⟨B38, d38, rfl, m38⟩ := HS.form 7 rfl
       refine nrm 31 hK ⟨_, HS⟩ (fun HH => ?_); clear hK K
       refine dr_any [4, 8] HT (by kernel_rfl) (by decide) (AllReadyL.cons rfl (by decide) (fun K hK => ?_) (AllReadyL.cons rfl (by decide) (fun K hK => ?_) AllReadyL.nil))
       · refine go_cl5 HS (spec_LearnCrl.calls ht39.out (HS.rd 2 rfl) m13 (HS.rd 3 rfl) m21 (HS.rd 4 rfl) m22 (HS.rd 5 rfl) m24 (HS.rd 6 rfl) m27 (HS.rd 7 rfl) m38) Tryz.func45 ?_; clear HS; intro v42 v44 v49 v51 v53 wt39 HS F; obtain ⟨B42, d42, rfl, m42⟩ := HS.form 8 rfl; obtain ⟨B44, d44, rfl, m44⟩ := HS.form 9 rfl; obtain ⟨B49, d49, rfl, m49⟩ := HS.form 10 rfl; obtain ⟨B51, d51, rfl, m51⟩ := HS.form 11 rfl; obtain ⟨B53, d53, rfl, m53⟩ := HS.form 12 rfl
         refine nrm 32 hK ⟨_, HS⟩ (fun HH => ?_); clear hK K
         refine drq_of [(5, some 27), (6, some 33), (7, some 34)] ?_
         repeat (refine drp HT ?_)
         refine drq_end ?_
         refine dr1 8 HT fun K hK => ?_
         refine if_bx HS ?_; clear HS; intro g6 w6 HS F
         refine nrm 6 hK ⟨_, HS⟩ (fun HH => ?_); clear hK K
         refine dr_last 9 HT rfl (by kernel_rfl) (by decide) (fun K hK => ?_)
         refine if_st 13 0 HS (seg := [.slice B42 t39.1.f0.f0.length d42, .slice B44 t39.1.f0.f1.length d44, .slice B49 t39.1.f0.f2.length d49, .slice B51 t39.1.f1.length d51, .int .i64 t39.1.f2, .int .i64 t39.1.f3, .int .i64 t39.1.f4, .slice B53 t39.1.f5.length d53]) ?_; clear HS; intro w56 HS F
         refine hK.out _ _ ?_
         clear hK K
         refine drq_of [(10, some 7)] ?_
         repeat (refine drp HT ?_)
         refine drq_end ?_
         refine norm_ ?_ (hJ (.slice B13 t11.f0.f0.length d13, .slice B21 t11.f0.f1.length d21, .slice B22 t11.f0.f2.length d22, .slice B24 t11.f1.length d24, .slice B27 t11.f5.length d27, .slice B38 t29.f5.length d38, .slice B42 t39.1.f0.f0.length d42, .slice B44 t39.1.f0.f1.length d44, .slice B49 t39.1.f0.f2.length d49, .slice B51 t39.1.f1.length d51, .slice B53 t39.1.f5.length d53, g6) _ (HS.arr [some 0, some 1, some 2, some 3, some 4, some 5, some 6, some 7, some 8, some 9, some 10, some 11, some 12, some 13] (by decide)))
         simp only [putAll, Act.put, ptn]
         (try rfl)
       · refine if_bx HS ?_; clear HS; intro g6 w6 HS F
         refine nrm 6 hK ⟨_, HS⟩ (fun HH => ?_); clear hK K
         refine dr1 4 HT fun K hK => ?_
         refine go_cl5 HS (spec_LearnCrl.calls ht39.out (HS.rd 2 rfl) m13 (HS.rd 3 rfl) m21 (HS.rd 4 rfl) m22 (HS.rd 5 rfl) m24 (HS.rd 6 rfl) m27 (HS.rd 7 rfl) m38) Tryz.func45 ?_; clear HS; intro v42 v44 v49 v51 v53 wt39 HS F; obtain ⟨B42, d42, rfl, m42⟩ := HS.form 9 rfl; obtain ⟨B44, d44, rfl, m44⟩ := HS.form 10 rfl; obtain ⟨B49, d49, rfl, m49⟩ := HS.form 11 rfl; obtain ⟨B51, d51, rfl, m51⟩ := HS.form 12 rfl; obtain ⟨B53, d53, rfl, m53⟩ := HS.form 13 rfl
         refine nrm 32 hK ⟨_, HS⟩ (fun HH => ?_); clear hK K
         refine drq_of [(5, some 27), (6, some 33), (7, some 34)] ?_
         repeat (refine drp HT ?_)
         refine drq_end ?_
         refine dr_last 9 HT rfl (by kernel_rfl) (by decide) (fun K hK => ?_)
         refine if_st 8 0 HS (seg := [.slice B42 t39.1.f0.f0.length d42, .slice B44 t39.1.f0.f1.length d44, .slice B49 t39.1.f0.f2.length d49, .slice B51 t39.1.f1.length d51, .int .i64 t39.1.f2, .int .i64 t39.1.f3, .int .i64 t39.1.f4, .slice B53 t39.1.f5.length d53]) ?_; clear HS; intro w56 HS F
         refine hK.out _ _ ?_
         clear hK K
         refine drq_of [(10, some 7)] ?_
         repeat (refine drp HT ?_)
         refine drq_end ?_
         refine norm_ ?_ (hJ (.slice B13 t11.f0.f0.length d13, .slice B21 t11.f0.f1.length d21, .slice B22 t11.f0.f2.length d22, .slice B24 t11.f1.length d24, .slice B27 t11.f5.length d27, .slice B38 t29.f5.length d38, .slice B42 t39.1.f0.f0.length d42, .slice B44 t39.1.f0.f1.length d44, .slice B49 t39.1.f0.f2.length d49, .slice B51 t39.1.f1.length d51, .slice B53 t39.1.f5.length d53, g6) _ (HS.arr [some 0, some 1, some 2, some 3, some 4, some 5, some 6, some 7, some 9, some 10, some 11, some 12, some 13, some 8] (by decide)))
         simp only [putAll, Act.put, ptn]
         (try rfl)
     · refine if_bx HS ?_; clear HS; intro g6 w6 HS F
       refine nrm 6 hK ⟨_, HS⟩ (fun HH => ?_); clear hK K
       refine dr1 3 HT fun K hK => ?_
       refine go_cl1 HS (laws_toCrl.calls ht29.out (HS.ro gp5) lp5) Tryz.func28 ?_; clear HS; intro v38 wt29 HS F; obtain ⟨B38, d38, rfl, m38⟩ := HS.form 8 rfl
       refine nrm 31 hK ⟨_, HS⟩ (fun HH => ?_); clear hK K
       refine dr1 4 HT fun K hK => ?_
       refine go_cl5 HS (spec_LearnCrl.calls ht39.out (HS.rd 2 rfl) m13 (HS.rd 3 rfl) m21 (HS.rd 4 rfl) m22 (HS.rd 5 rfl) m24 (HS.rd 6 rfl) m27 (HS.rd 8 rfl) m38) Tryz.func45 ?_; clear HS; intro v42 v44 v49 v51 v53 wt39 HS F; obtain ⟨B42, d42, rfl, m42⟩ := HS.form 9 rfl; obtain ⟨B44, d44, rfl, m44⟩ := HS.form 10 rfl; obtain ⟨B49, d49, rfl, m49⟩ := HS.form 11 rfl; obtain ⟨B51, d51, rfl, m51⟩ := HS.form 12 rfl; obtain ⟨B53, d53, rfl, m53⟩ := HS.form 13 rfl
       refine nrm 32 hK ⟨_, HS⟩ (fun HH => ?_); clear hK K
       refine drq_of [(5, some 27), (6, some 33), (7, some 34)] ?_
       repeat (refine drp HT ?_)
       refine drq_end ?_
       refine dr_last 9 HT rfl (by kernel_rfl) (by decide) (fun K hK => ?_)
       refine if_st 7 0 HS (seg := [.slice B42 t39.1.f0.f0.length d42, .slice B44 t39.1.f0.f1.length d44, .slice B49 t39.1.f0.f2.length d49, .slice B51 t39.1.f1.length d51, .int .i64 t39.1.f2, .int .i64 t39.1.f3, .int .i64 t39.1.f4, .slice B53 t39.1.f5.length d53]) ?_; clear HS; intro w56 HS F
       refine hK.out _ _ ?_
       clear hK K
       refine drq_of [(10, some 7)] ?_
       repeat (refine drp HT ?_)
       refine drq_end ?_
       refine norm_ ?_ (hJ (.slice B13 t11.f0.f0.length d13, .slice B21 t11.f0.f1.length d21, .slice B22 t11.f0.f2.length d22, .slice B24 t11.f1.length d24, .slice B27 t11.f5.length d27, .slice B38 t29.f5.length d38, .slice B42 t39.1.f0.f0.length d42, .slice B44 t39.1.f0.f1.length d44, .slice B49 t39.1.f0.f2.length d49, .slice B51 t39.1.f1.length d51, .slice B53 t39.1.f5.length d53, g6) _ (HS.arr [some 0, some 1, some 2, some 3, some 4, some 5, some 6, some 8, some 9, some 10, some 11, some 12, some 13, some 7] (by decide)))
       simp only [putAll, Act.put, ptn]
       (try rfl)
   · refine if_bx HS ?_; clear HS; intro g6 w6 HS F
     refine nrm 6 hK ⟨_, HS⟩ (fun HH => ?_); clear hK K
     refine dr1 1 HT fun K hK => ?_
     refine go_cl5 HS (laws_toServer.calls ht11.out (HS.ro gp0) lp0 (HS.ro gp1) lp1 (HS.ro gp2) lp2 (HS.ro gp3) lp3 (HS.ro gp4) lp4) Tryz.func18 ?_; clear HS; intro v13 v21 v22 v24 v27 wt11 HS F; obtain ⟨B13, d13, rfl, m13⟩ := HS.form 3 rfl; obtain ⟨B21, d21, rfl, m21⟩ := HS.form 4 rfl; obtain ⟨B22, d22, rfl, m22⟩ := HS.form 5 rfl; obtain ⟨B24, d24, rfl, m24⟩ := HS.form 6 rfl; obtain ⟨B27, d27, rfl, m27⟩ := HS.form 7 rfl
     refine nrm 29 hK ⟨_, HS⟩ (fun HH => ?_); clear hK K
     refine dr1 3 HT fun K hK => ?_
     refine go_cl1 HS (laws_toCrl.calls ht29.out (HS.ro gp5) lp5) Tryz.func28 ?_; clear HS; intro v38 wt29 HS F; obtain ⟨B38, d38, rfl, m38⟩ := HS.form 8 rfl
     refine nrm 31 hK ⟨_, HS⟩ (fun HH => ?_); clear hK K
     refine dr1 4 HT fun K hK => ?_
     refine go_cl5 HS (spec_LearnCrl.calls ht39.out (HS.rd 3 rfl) m13 (HS.rd 4 rfl) m21 (HS.rd 5 rfl) m22 (HS.rd 6 rfl) m24 (HS.rd 7 rfl) m27 (HS.rd 8 rfl) m38) Tryz.func45 ?_; clear HS; intro v42 v44 v49 v51 v53 wt39 HS F; obtain ⟨B42, d42, rfl, m42⟩ := HS.form 9 rfl; obtain ⟨B44, d44, rfl, m44⟩ := HS.form 10 rfl; obtain ⟨B49, d49, rfl, m49⟩ := HS.form 11 rfl; obtain ⟨B51, d51, rfl, m51⟩ := HS.form 12 rfl; obtain ⟨B53, d53, rfl, m53⟩ := HS.form 13 rfl
     refine nrm 32 hK ⟨_, HS⟩ (fun HH => ?_); clear hK K
     refine drq_of [(5, some 27), (6, some 33), (7, some 34)] ?_
     repeat (refine drp HT ?_)
     refine drq_end ?_
     refine dr_last 9 HT rfl (by kernel_rfl) (by decide) (fun K hK => ?_)
     refine if_st 2 0 HS (seg := [.slice B42 t39.1.f0.f0.length d42, .slice B44 t39.1.f0.f1.length d44, .slice B49 t39.1.f0.f2.length d49, .slice B51 t39.1.f1.length d51, .int .i64 t39.1.f2, .int .i64 t39.1.f3, .int .i64 t39.1.f4, .slice B53 t39.1.f5.length d53]) ?_; clear HS; intro w56 HS F
     refine hK.out _ _ ?_
     clear hK K
     refine drq_of [(10, some 7)] ?_
     repeat (refine drp HT ?_)
     refine drq_end ?_
     refine norm_ ?_ (hJ (.slice B13 t11.f0.f0.length d13, .slice B21 t11.f0.f1.length d21, .slice B22 t11.f0.f2.length d22, .slice B24 t11.f1.length d24, .slice B27 t11.f5.length d27, .slice B38 t29.f5.length d38, .slice B42 t39.1.f0.f0.length d42, .slice B44 t39.1.f0.f1.length d44, .slice B49 t39.1.f0.f2.length d49, .slice B51 t39.1.f1.length d51, .slice B53 t39.1.f5.length d53, g6) _ (HS.arr [some 0, some 1, some 3, some 4, some 5, some 6, some 7, some 8, some 9, some 10, some 11, some 12, some 13, some 2] (by decide)))
     simp only [putAll, Act.put, ptn]
     (try rfl)
 rintro ⟨v13, v21, v22, v24, v27, v38, v42, v44, v49, v51, v53, g6⟩ w58 HS
 obtain ⟨B13, d13, rfl, m13⟩ := HS.form 2 rfl
 obtain ⟨B21, d21, rfl, m21⟩ := HS.form 3 rfl
 obtain ⟨B22, d22, rfl, m22⟩ := HS.form 4 rfl
 obtain ⟨B24, d24, rfl, m24⟩ := HS.form 5 rfl
 obtain ⟨B27, d27, rfl, m27⟩ := HS.form 6 rfl
 obtain ⟨B38, d38, rfl, m38⟩ := HS.form 7 rfl
 obtain ⟨B42, d42, rfl, m42⟩ := HS.form 8 rfl
 obtain ⟨B44, d44, rfl, m44⟩ := HS.form 9 rfl
 obtain ⟨B49, d49, rfl, m49⟩ := HS.form 10 rfl
 obtain ⟨B51, d51, rfl, m51⟩ := HS.form 11 rfl
 obtain ⟨B53, d53, rfl, m53⟩ := HS.form 12 rfl
 have F := HS.boxes; simp only [bxn] at F
 refine norm_ (a' := ?_) ?_ ?_
 rotate_left
 · simp only [putAll, Act.put, ptn]; rfl
 refine done_ (done_of HT.out (by kernel_rfl)) ?_
 replace H := zbind H; obtain ⟨t14, ht14, H⟩ := H
 replace H := zbind H; obtain ⟨t25, ht25, H⟩ := H
 replace H := zbind H; obtain ⟨t32, ht32, H⟩ := H
 replace H := zbind H; obtain ⟨t43, ht43, H⟩ := H
 replace H := znifb H; rcases H with ⟨c45, H⟩ | ⟨c45, H⟩
 case inl =>
  subst c45
  obtain rfl := zsome H
  go_wp2_with (first | ((with_reducible refine gd 36 rfl ?_); refine ev_cl5 HS (laws_toServer.calls ht14.out (HS.ro gp0) lp0 (HS.ro gp1) lp1 (HS.ro gp2) lp2 (HS.ro gp3) lp3 (HS.ro gp4) lp4) Tryz.func18 ?_; clear HS; intro v15 v16 v17 v18 v19 wt14 HS F; obtain ⟨B15, d15, rfl, m15⟩ := HS.form 14 rfl; obtain ⟨B16, d16, rfl, m16⟩ := HS.form 15 rfl; obtain ⟨B17, d17, rfl, m17⟩ := HS.form 16 rfl; obtain ⟨B18, d18, rfl, m18⟩ := HS.form 17 rfl; obtain ⟨B19, d19, rfl, m19⟩ := HS.form 18 rfl) | ((with_reducible refine gd 8 rfl ?_); refine ev_bx HS ?_; clear HS; intro g8 w8 HS F) | ((with_reducible refine gate_store (p := 8) rfl ?_); refine ev_st 19 0 HS (seg := [.slice B15 t14.f0.f0.length d15, .slice B16 t14.f0.f1.length d16, .slice B17 t14.f0.f2.length d17, .slice B18 t14.f1.length d18, .int .i64 t14.f2, .int .i64 t14.f3, .int .i64 t14.f4, .slice B19 t14.f5.length d19]) ?_; clear HS; intro w23 HS F) | ((with_reducible refine gd 38 rfl ?_); refine ev_cl1 HS (laws_toCrl.calls ht25.out (HS.ro gp5) lp5) Tryz.func28 ?_; clear HS; intro v26 wt25 HS F; obtain ⟨B26, d26, rfl, m26⟩ := HS.form 20 rfl) | ((with_reducible refine gd 9 rfl ?_); refine ev_bx HS ?_; clear HS; intro g9 w9 HS F) | ((with_reducible refine gate_store (p := 9) rfl ?_); refine ev_st 21 0 HS (seg := [.string t25.f0, .int .i64 t25.f1, .int .i64 t25.f2, .int .i64 t25.f3, .int .i64 t25.f4, .slice B26 t25.f5.length d26, .string t25.f6]) ?_; clear HS; intro w30 HS F) | ((with_reducible refine gd 42 rfl ?_); refine ev_cl5 HS (impl_LearnCrl.calls ht32.out (HS.rd 14 rfl) m15 (HS.rd 15 rfl) m16 (HS.rd 16 rfl) m17 (HS.rd 17 rfl) m18 (HS.rd 18 rfl) m19 (HS.rd 20 rfl) m26 (HS.keepc hgM)) Tryz.func46 ?_; clear HS; intro v33 v34 v35 v36 v37 wt32 HS F; obtain ⟨B33, d33, rfl, m33⟩ := HS.form 22 rfl; obtain ⟨B34, d34, rfl, m34⟩ := HS.form 23 rfl; obtain ⟨B35, d35, rfl, m35⟩ := HS.form 24 rfl; obtain ⟨B36, d36, rfl, m36⟩ := HS.form 25 rfl; obtain ⟨B37, d37, rfl, m37⟩ := HS.form 26 rfl) | ((with_reducible refine gd 10 rfl ?_); refine ev_bx HS ?_; clear HS; intro g10 w10 HS F) | ((with_reducible refine gate_store (p := 10) rfl ?_); refine ev_st 27 0 HS (seg := [.slice B33 t32.1.f0.f0.length d33, .slice B34 t32.1.f0.f1.length d34, .slice B35 t32.1.f0.f2.length d35, .slice B36 t32.1.f1.length d36, .int .i64 t32.1.f2, .int .i64 t32.1.f3, .int .i64 t32.1.f4, .slice B37 t32.1.f5.length d37]) ?_; clear HS; intro w41 HS F) | ((with_reducible refine gd 47 rfl ?_); refine ev_cl HS (laws_eqServer.calls ht43.out (HS.rd 22 rfl) m33 (HS.rd 23 rfl) m34 (HS.rd 24 rfl) m35 (HS.rd 25 rfl) m36 (HS.rd 26 rfl) m37 (HS.rd 8 rfl) m42 (HS.rd 9 rfl) m44 (HS.rd 10 rfl) m49 (HS.rd 11 rfl) m51 (HS.rd 12 rfl) m53) Tryz.func20 ?_; clear HS; intro wt43 HS F))
  go_ret
  exact HS.pk
 subst c45
 go_upto_if 53 with (first | ((with_reducible refine gd 36 rfl ?_); refine ev_cl5 HS (laws_toServer.calls ht14.out (HS.ro gp0) lp0 (HS.ro gp1) lp1 (HS.ro gp2) lp2 (HS.ro gp3) lp3 (HS.ro gp4) lp4) Tryz.func18 ?_; clear HS; intro v15 v16 v17 v18 v19 wt14 HS F; obtain ⟨B15, d15, rfl, m15⟩ := HS.form 14 rfl; obtain ⟨B16, d16, rfl, m16⟩ := HS.form 15 rfl; obtain ⟨B17, d17, rfl, m17⟩ := HS.form 16 rfl; obtain ⟨B18, d18, rfl, m18⟩ := HS.form 17 rfl; obtain ⟨B19, d19, rfl, m19⟩ := HS.form 18 rfl) | ((with_reducible refine gd 8 rfl ?_); refine ev_bx HS ?_; clear HS; intro g8 w8 HS F) | ((with_reducible refine gate_store (p := 8) rfl ?_); refine ev_st 19 0 HS (seg := [.slice B15 t14.f0.f0.length d15, .slice B16 t14.f0.f1.length d16, .slice B17 t14.f0.f2.length d17, .slice B18 t14.f1.length d18, .int .i64 t14.f2, .int .i64 t14.f3, .int .i64 t14.f4, .slice B19 t14.f5.length d19]) ?_; clear HS; intro w23 HS F) | ((with_reducible refine gd 38 rfl ?_); refine ev_cl1 HS (laws_toCrl.calls ht25.out (HS.ro gp5) lp5) Tryz.func28 ?_; clear HS; intro v26 wt25 HS F; obtain ⟨B26, d26, rfl, m26⟩ := HS.form 20 rfl) | ((with_reducible refine gd 9 rfl ?_); refine ev_bx HS ?_; clear HS; intro g9 w9 HS F) | ((with_reducible refine gate_store (p := 9) rfl ?_); refine ev_st 21 0 HS (seg := [.string t25.f0, .int .i64 t25.f1, .int .i64 t25.f2, .int .i64 t25.f3, .int .i64 t25.f4, .slice B26 t25.f5.length d26, .string t25.f6]) ?_; clear HS; intro w30 HS F) | ((with_reducible refine gd 42 rfl ?_); refine ev_cl5 HS (impl_LearnCrl.calls ht32.out (HS.rd 14 rfl) m15 (HS.rd 15 rfl) m16 (HS.rd 16 rfl) m17 (HS.rd 17 rfl) m18 (HS.rd 18 rfl) m19 (HS.rd 20 rfl) m26 (HS.keepc hgM)) Tryz.func46 ?_; clear HS; intro v33 v34 v35 v36 v37 wt32 HS F; obtain ⟨B33, d33, rfl, m33⟩ := HS.form 22 rfl; obtain ⟨B34, d34, rfl, m34⟩ := HS.form 23 rfl; obtain ⟨B35, d35, rfl, m35⟩ := HS.form 24 rfl; obtain ⟨B36, d36, rfl, m36⟩ := HS.form 25 rfl; obtain ⟨B37, d37, rfl, m37⟩ := HS.form 26 rfl) | ((with_reducible refine gd 10 rfl ?_); refine ev_bx HS ?_; clear HS; intro g10 w10 HS F) | ((with_reducible refine gate_store (p := 10) rfl ?_); refine ev_st 27 0 HS (seg := [.slice B33 t32.1.f0.f0.length d33, .slice B34 t32.1.f0.f1.length d34, .slice B35 t32.1.f0.f2.length d35, .slice B36 t32.1.f1.length d36, .int .i64 t32.1.f2, .int .i64 t32.1.f3, .int .i64 t32.1.f4, .slice B37 t32.1.f5.length d37]) ?_; clear HS; intro w41 HS F) | ((with_reducible refine gd 47 rfl ?_); refine ev_cl HS (laws_eqServer.calls ht43.out (HS.rd 22 rfl) m33 (HS.rd 23 rfl) m34 (HS.rd 24 rfl) m35 (HS.rd 25 rfl) m36 (HS.rd 26 rfl) m37 (HS.rd 8 rfl) m42 (HS.rd 9 rfl) m44 (HS.rd 10 rfl) m49 (HS.rd 11 rfl) m51 (HS.rd 12 rfl) m53) Tryz.func20 ?_; clear HS; intro wt43 HS F))
 replace H := znif' H; rcases H with ⟨c46, H⟩ | ⟨c46, H⟩
 case inl =>
  have c46a := beq_eq_false_iff_ne.mpr c46
  have c46b := bne_iff_ne.mpr c46
  clear c46
  (try simp only [c46a, c46b, dcn])
  obtain rfl := zsome H
  go_wp2
  go_ret
  exact HS.pk
 have c46a := beq_iff_eq.mpr c46
 have c46b := bne_eq_false_iff_eq.mpr c46
 clear c46
 (try simp only [c46a, c46b, dcn])
 (try go_wp2)
 replace H := zbind H; obtain ⟨t61, ht61, H⟩ := H
 replace H := zbind H; obtain ⟨t80, ht80, H⟩ := H
 refine dr_start [] HS #[false, false, false, false, false] (by kernel_rfl) rfl rfl laws_FnExactLearnCrl.tT14 (fun w48 HT HS HH => ?_)
 (try clear F)
 refine drq_of [(0, some 54), (1, some 55)] ?_
 repeat (refine drt HT HH ?_)
 refine drq_end ?_
 refine dr1 2 HT fun K hK => ?_
 refine go_cl5 HS (laws_toServer.calls ht61.out (HS.ro gp0) lp0 (HS.ro gp1) lp1 (HS.ro gp2) lp2 (HS.ro gp3) lp3 (HS.ro gp4) lp4) Tryz.func18 ?_; clear HS; intro v66 v69 v71 v73 v77 wt61 HS F; obtain ⟨B66, d66, rfl, m66⟩ := HS.form 28 rfl; obtain ⟨B69, d69, rfl, m69⟩ := HS.form 29 rfl; obtain ⟨B71, d71, rfl, m71⟩ := HS.form 30 rfl; obtain ⟨B73, d73, rfl, m73⟩ := HS.form 31 rfl; obtain ⟨B77, d77, rfl, m77⟩ := HS.form 32 rfl
 refine nrm 56 hK ⟨_, HS⟩ (fun HH => ?_); clear hK K
 refine dr1 3 HT fun K hK => ?_
 refine go_cl HS (laws_eqServer.calls ht80.out (HS.rd 14 rfl) m15 (HS.rd 15 rfl) m16 (HS.rd 16 rfl) m17 (HS.rd 17 rfl) m18 (HS.rd 18 rfl) m19 (HS.rd 28 rfl) m66 (HS.rd 29 rfl) m69 (HS.rd 30 rfl) m71 (HS.rd 31 rfl) m73 (HS.rd 32 rfl) m77) Tryz.func20 ?_; clear HS; intro wt80 HS F
 refine nrm 57 hK ⟨_, HS⟩ (fun HH => ?_); clear hK K
 refine drq_of [(4, some 58)] ?_
 repeat (refine drp HT ?_)
 refine drq_end ?_
 refine done_ (done_of HT.out (by kernel_rfl)) ?_
 (try clear F)
 have F := HS.boxes; simp only [bxn] at F
 replace H := znifb H; rcases H with ⟨c50, H⟩ | ⟨c50, H⟩
 case inl =>
  subst c50
  (try simp only [dcn, dcu, dcf])
  obtain rfl := zsome H
  go_wp2
  go_ret
  exact HS.pk
 subst c50
 (try simp only [dcn, dcu, dcf])
 (try go_wp2)
 replace H := zbind H; obtain ⟨t82, ht82, H⟩ := H
 replace H := zbind H; obtain ⟨t84, ht84, H⟩ := H
 refine dr_start [] HS #[false, false, false, false, false] (by kernel_rfl) rfl rfl laws_FnExactLearnCrl.tT16 (fun w52 HT HS HH => ?_)
 (try clear F)
 refine drq_of [(0, some 59), (1, some 60)] ?_
 repeat (refine drt HT HH ?_)
 refine drq_end ?_
 refine dr1 2 HT fun K hK => ?_
 refine go_cl1 HS (laws_toCrl.calls ht82.out (HS.ro gp5) lp5) Tryz.func28 ?_; clear HS; intro v83 wt82 HS F; obtain ⟨B83, d83, rfl, m83⟩ := HS.form 33 rfl
 refine nrm 61 hK ⟨_, HS⟩ (fun HH => ?_); clear hK K
 refine dr1 3 HT fun K hK => ?_
 refine go_cl HS (laws_eqCrl.calls ht84.out (HS.rd 20 rfl) m26 (HS.rd 33 rfl) m83) Tryz.func30 ?_; clear HS; intro wt84 HS F
 refine nrm 62 hK ⟨_, HS⟩ (fun HH => ?_); clear hK K
 refine drq_of [(4, some 63)] ?_
 repeat (refine drp HT ?_)
 refine drq_end ?_
 refine done_ (done_of HT.out (by kernel_rfl)) ?_
 (try clear F)
 have F := HS.boxes; simp only [bxn] at F
 replace H := znifb H; rcases H with ⟨c54, H⟩ | ⟨c54, H⟩
 case inl =>
  subst c54
  (try simp only [dcn, dcu, dcf])
  obtain rfl := zsome H
  go_wp2
  go_ret
  exact HS.pk
 subst c54
 (try simp only [dcn, dcu, dcf])
 replace H := zbind H; obtain ⟨t55, ht55, H⟩ := H
 replace H := zbind H; obtain ⟨t57, ht57, H⟩ := H
 replace H := zif H; rcases H with ⟨c59, H⟩ | ⟨c59, H⟩
 case inl =>
  obtain rfl := zsome H
  go_wp2_with (first | ((with_reducible refine gd 66 rfl ?_); refine HS.lend [14, 15, 16, 17, 18] (by decide) [.own (Zd.slice 91 q91) t14.f0.f0 [.slice B15 t14.f0.f0.length d15], .own (Zd.slice 81 q81) t14.f0.f1 [.slice B16 t14.f0.f1.length d16], .own (Zd.slice 115 q115) t14.f0.f2 [.slice B17 t14.f0.f2.length d17], .own (Zd.slice 202 q202) t14.f1 [.slice B18 t14.f1.length d18], .own (Zd.slice 205 q205) t14.f5 [.slice B19 t14.f5.length d19]] rfl (fun A' HL HD HA HB => ?_); refine ev_lc (laws_markServer.calls ht55.out HA) (fun _ HQ => HB _ _ HQ (Nat.le_of_ble_eq_true rfl)) Tryz.func47 ?_; clear HS HA HB HL HD; intro wt55 HS F) | ((with_reducible refine gd 69 rfl ?_); refine HS.lend [20] (by decide) [.own (Zd.slice 238 q238) t25.f5 [.slice B26 t25.f5.length d26]] rfl (fun A' HL HD HA HB => ?_); refine ev_lc (laws_markCrl.calls ht57.out HA) (fun _ HQ => HB _ _ HQ (Nat.le_of_ble_eq_true rfl)) Tryz.func32 ?_; clear HS HA HB HL HD; intro wt57 HS F))
  go_ret
  exact HS.pk
 replace H := zbind H; obtain ⟨t60, ht60, H⟩ := H
 replace H := znifb H; rcases H with ⟨c62, H⟩ | ⟨c62, H⟩
 case inl =>
  subst c62
  obtain rfl := zsome H
  go_wp2_with (first | ((with_reducible refine gd 66 rfl ?_); refine HS.lend [14, 15, 16, 17, 18] (by decide) [.own (Zd.slice 91 q91) t14.f0.f0 [.slice B15 t14.f0.f0.length d15], .own (Zd.slice 81 q81) t14.f0.f1 [.slice B16 t14.f0.f1.length d16], .own (Zd.slice 115 q115) t14.f0.f2 [.slice B17 t14.f0.f2.length d17], .own (Zd.slice 202 q202) t14.f1 [.slice B18 t14.f1.length d18], .own (Zd.slice 205 q205) t14.f5 [.slice B19 t14.f5.length d19]] rfl (fun A' HL HD HA HB => ?_); refine ev_lc (laws_markServer.calls ht55.out HA) (fun _ HQ => HB _ _ HQ (Nat.le_of_ble_eq_true rfl)) Tryz.func47 ?_; clear HS HA HB HL HD; intro wt55 HS F) | ((with_reducible refine gd 69 rfl ?_); refine HS.lend [20] (by decide) [.own (Zd.slice 238 q238) t25.f5 [.slice B26 t25.f5.length d26]] rfl (fun A' HL HD HA HB => ?_); refine ev_lc (laws_markCrl.calls ht57.out HA) (fun _ HQ => HB _ _ HQ (Nat.le_of_ble_eq_true rfl)) Tryz.func32 ?_; clear HS HA HB HL HD; intro wt57 HS F) | ((with_reducible refine gd 75 rfl ?_); refine gg ?_; refine ev_cl HS (laws_eqServer.calls ht60.out (HS.rd 22 rfl) m33 (HS.rd 23 rfl) m34 (HS.rd 24 rfl) m35 (HS.rd 25 rfl) m36 (HS.rd 26 rfl) m37 (HS.rd 8 rfl) m42 (HS.rd 9 rfl) m44 (HS.rd 10 rfl) m49 (HS.rd 11 rfl) m51 (HS.rd 12 rfl) m53) Tryz.func20 ?_; clear HS; intro wt60 HS F))
  go_ret
  exact HS.pk
 subst c62
 replace H := zbind H; obtain ⟨t63, ht63, H⟩ := H
 replace H := zbind H; obtain ⟨t65, ht65, H⟩ := H
 go_upto_if 90 with (first | ((with_reducible refine gd 66 rfl ?_); refine HS.lend [14, 15, 16, 17, 18] (by decide) [.own (Zd.slice 91 q91) t14.f0.f0 [.slice B15 t14.f0.f0.length d15], .own (Zd.slice 81 q81) t14.f0.f1 [.slice B16 t14.f0.f1.length d16], .own (Zd.slice 115 q115) t14.f0.f2 [.slice B17 t14.f0.f2.length d17], .own (Zd.slice 202 q202) t14.f1 [.slice B18 t14.f1.length d18], .own (Zd.slice 205 q205) t14.f5 [.slice B19 t14.f5.length d19]] rfl (fun A' HL HD HA HB => ?_); refine ev_lc (laws_markServer.calls ht55.out HA) (fun _ HQ => HB _ _ HQ (Nat.le_of_ble_eq_true rfl)) Tryz.func47 ?_; clear HS HA HB HL HD; intro wt55 HS F) | ((with_reducible refine gd 69 rfl ?_); refine HS.lend [20] (by decide) [.own (Zd.slice 238 q238) t25.f5 [.slice B26 t25.f5.length d26]] rfl (fun A' HL HD HA HB => ?_); refine ev_lc (laws_markCrl.calls ht57.out HA) (fun _ HQ => HB _ _ HQ (Nat.le_of_ble_eq_true rfl)) Tryz.func32 ?_; clear HS HA HB HL HD; intro wt57 HS F) | ((with_reducible refine gd 75 rfl ?_); refine gg ?_; refine ev_cl HS (laws_eqServer.calls ht60.out (HS.rd 22 rfl) m33 (HS.rd 23 rfl) m34 (HS.rd 24 rfl) m35 (HS.rd 25 rfl) m36 (HS.rd 26 rfl) m37 (HS.rd 8 rfl) m42 (HS.rd 9 rfl) m44 (HS.rd 10 rfl) m49 (HS.rd 11 rfl) m51 (HS.rd 12 rfl) m53) Tryz.func20 ?_; clear HS; intro wt60 HS F) | ((with_reducible refine gd 85 rfl ?_); refine HS.lend [22, 23, 24, 25, 26] (by decide) [.own (Zd.slice 91 q91) t32.1.f0.f0 [.slice B33 t32.1.f0.f0.length d33], .own (Zd.slice 81 q81) t32.1.f0.f1 [.slice B34 t32.1.f0.f1.length d34], .own (Zd.slice 115 q115) t32.1.f0.f2 [.slice B35 t32.1.f0.f2.length d35], .own (Zd.slice 202 q202) t32.1.f1 [.slice B36 t32.1.f1.length d36], .own (Zd.slice 205 q205) t32.1.f5 [.slice B37 t32.1.f5.length d37]] rfl (fun A' HL HD HA HB => ?_); refine ev_lc (laws_markServer.calls ht63.out HA) (fun _ HQ => HB _ _ HQ (Nat.le_of_ble_eq_true rfl)) Tryz.func47 ?_; clear HS HA HB HL HD; intro wt63 HS F) | ((with_reducible refine gd 88 rfl ?_); refine ev_cl HS (laws_heldServer.calls ht65.out (HS.rd 22 rfl) m33 (HS.rd 23 rfl) m34 (HS.rd 24 rfl) m35 (HS.rd 25 rfl) m36 (HS.rd 26 rfl) m37) Tryz.func48 ?_; clear HS; intro wt65 HS F))
 replace H := zif H; rcases H with ⟨c67, H⟩ | ⟨c67, H⟩
 case inl =>
  (try simp only [c67, dcn])
  obtain rfl := zsome H
  go_wp2
  go_ret
  exact HS.pk
 (try simp only [c67, dcn])
 replace H := znif' H; rcases H with ⟨c68, H⟩ | ⟨c68, H⟩
 case inl =>
  have c68a := beq_eq_false_iff_ne.mpr c68
  have c68b := bne_iff_ne.mpr c68
  clear c68
  (try simp only [c68a, c68b, dcn])
  obtain rfl := zsome H
  go_wp2
  go_ret
  exact HS.pk
 have c68a := beq_iff_eq.mpr c68
 have c68b := bne_eq_false_iff_eq.mpr c68
 clear c68
 (try simp only [c68a, c68b, dcn])
 (try go_wp2)
 replace H := zbind H; obtain ⟨t85, ht85, H⟩ := H
 replace H := zbind H; obtain ⟨t93, ht93, H⟩ := H
 replace H := zbind H; obtain ⟨t95, ht95, H⟩ := H
 refine dr_start [9] HS #[false, false, false, false, false, false, false, false, false, false, false] (by kernel_rfl) rfl rfl laws_FnExactLearnCrl.tT31 (fun w70 HT HS HH => ?_)
 (try clear F)
 refine join_ 0 #[true, true, true, true, true, true, true, true, true, true, true] (fun ((v86, v87, v89, v90, v92, v94, v96, v97, v98, v99, v100, g15) : Value × Value × Value × Value × Value × Value × Value × Value × Value × Value × Value × Nat) => ([(95, .agg #[.slice Ap0 a0.f0.f0.length cp0, .slice Ap1 a0.f0.f1.length cp1, .slice Ap2 a0.f0.f2.length cp2, .slice Ap3 a0.f1.length cp3, .int .i64 a0.f2, .int .i64 a0.f3, .int .i64 a0.f4, .slice Ap4 a0.f5.length cp4]), (96, .agg #[v86, v87, v89, v90, .int .i64 t85.f2, .int .i64 t85.f3, .int .i64 t85.f4, v92]), (97, .agg #[.string a1.f0, .int .i64 a1.f1, .int .i64 a1.f2, .int .i64 a1.f3, .int .i64 a1.f4, .slice Ap5 a1.f5.length cp5, .string a1.f6]), (98, .agg #[.string t93.f0, .int .i64 t93.f1, .int .i64 t93.f2, .int .i64 t93.f3, .int .i64 t93.f4, v94, .string t93.f6]), (99, .tuple #[.agg #[v96, v97, v98, v99, .int .i64 t95.1.f2, .int .i64 t95.1.f3, .int .i64 t95.1.f4, v100], .bool t95.2]), (94, .tuple #[.agg #[v96, v97, v98, v99, .int .i64 t95.1.f2, .int .i64 t95.1.f3, .int .i64 t95.1.f4, v100], .bool t95.2]), (100, .agg #[v96, v97, v98, v99, .int .i64 t95.1.f2, .int .i64 t95.1.f3, .int .i64 t95.1.f4, v100]), (101, .bool t95.2), (15, .pointer (some ⟨g15, 0, none⟩)), (16, .bool t95.2)] : List (Tmp × Value))) (fun ((v86, v87, v89, v90, v92, v94, v96, v97, v98, v99, v100, g15) : Value × Value × Value × Value × Value × Value × Value × Value × Value × Value × Value × Nat) w' => Hp noFP w w' [.box g2 [.slice Ap0 a0.f0.f0.length cp0, .slice Ap1 a0.f0.f1.length cp1, .slice Ap2 a0.f0.f2.length cp2, .slice Ap3 a0.f1.length cp3, .int .i64 a0.f2, .int .i64 a0.f3, .int .i64 a0.f4, .slice Ap4 a0.f5.length cp4] 40, .box g3 [.string a1.f0, .int .i64 a1.f1, .int .i64 a1.f2, .int .i64 a1.f3, .int .i64 a1.f4, .slice Ap5 a1.f5.length cp5, .string a1.f6] 75, .own (Zd.slice 91 q91) t11.f0.f0 [.slice B13 t11.f0.f0.length d13], .own (Zd.slice 81 q81) t11.f0.f1 [.slice B21 t11.f0.f1.length d21], .own (Zd.slice 115 q115) t11.f0.f2 [.slice B22 t11.f0.f2.length d22], .own (Zd.slice 202 q202) t11.f1 [.slice B24 t11.f1.length d24], .own (Zd.slice 205 q205) t11.f5 [.slice B27 t11.f5.length d27], .own (Zd.slice 238 q238) t29.f5 [.slice B38 t29.f5.length d38], .own (Zd.slice 91 q91) t39.1.f0.f0 [.slice B42 t39.1.f0.f0.length d42], .own (Zd.slice 81 q81) t39.1.f0.f1 [.slice B44 t39.1.f0.f1.length d44], .own (Zd.slice 115 q115) t39.1.f0.f2 [.slice B49 t39.1.f0.f2.length d49], .own (Zd.slice 202 q202) t39.1.f1 [.slice B51 t39.1.f1.length d51], .own (Zd.slice 205 q205) t39.1.f5 [.slice B53 t39.1.f5.length d53], .box g6 [.slice B42 t39.1.f0.f0.length d42, .slice B44 t39.1.f0.f1.length d44, .slice B49 t39.1.f0.f2.length d49, .slice B51 t39.1.f1.length d51, .int .i64 t39.1.f2, .int .i64 t39.1.f3, .int .i64 t39.1.f4, .slice B53 t39.1.f5.length d53] 46, .own (Zd.slice 91 q91) t55.2.1 [.slice B15 t14.f0.f0.length d15], .own (Zd.slice 81 q81) t55.2.2.1 [.slice B16 t14.f0.f1.length d16], .own (Zd.slice 115 q115) t55.2.2.2.1 [.slice B17 t14.f0.f2.length d17], .own (Zd.slice 202 q202) t55.2.2.2.2.1 [.slice B18 t14.f1.length d18], .own (Zd.slice 205 q205) t55.2.2.2.2.2 [.slice B19 t14.f5.length d19], .box g8 [.slice B15 t14.f0.f0.length d15, .slice B16 t14.f0.f1.length d16, .slice B17 t14.f0.f2.length d17, .slice B18 t14.f1.length d18, .int .i64 t14.f2, .int .i64 t14.f3, .int .i64 t14.f4, .slice B19 t14.f5.length d19] 46, .own (Zd.slice 238 q238) t57.2 [.slice B26 t25.f5.length d26], .box g9 [.string t25.f0, .int .i64 t25.f1, .int .i64 t25.f2, .int .i64 t25.f3, .int .i64 t25.f4, .slice B26 t25.f5.length d26, .string t25.f6] 81, .own (Zd.slice 91 q91) t63.2.1 [.slice B33 t32.1.f0.f0.length d33], .own (Zd.slice 81 q81) t63.2.2.1 [.slice B34 t32.1.f0.f1.length d34], .own (Zd.slice 115 q115) t63.2.2.2.1 [.slice B35 t32.1.f0.f2.length d35], .own (Zd.slice 202 q202) t63.2.2.2.2.1 [.slice B36 t32.1.f1.length d36], .own (Zd.slice 205 q205) t63.2.2.2.2.2 [.slice B37 t32.1.f5.length d37], .box g10 [.slice B33 t32.1.f0.f0.length d33, .slice B34 t32.1.f0.f1.length d34, .slice B35 t32.1.f0.f2.length d35, .slice B36 t32.1.f1.length d36, .int .i64 t32.1.f2, .int .i64 t32.1.f3, .int .i64 t32.1.f4, .slice B37 t32.1.f5.length d37] 46, .own (Zd.slice 91 q91) t61.f0.f0 [.slice B66 t61.f0.f0.length d66], .own (Zd.slice 81 q81) t61.f0.f1 [.slice B69 t61.f0.f1.length d69], .own (Zd.slice 115 q115) t61.f0.f2 [.slice B71 t61.f0.f2.length d71], .own (Zd.slice 202 q202) t61.f1 [.slice B73 t61.f1.length d73], .own (Zd.slice 205 q205) t61.f5 [.slice B77 t61.f5.length d77], .own (Zd.slice 238 q238) t82.f5 [.slice B83 t82.f5.length d83], .own (Zd.slice 91 q91) t85.f0.f0 [v86], .own (Zd.slice 81 q81) t85.f0.f1 [v87], .own (Zd.slice 115 q115) t85.f0.f2 [v89], .own (Zd.slice 202 q202) t85.f1 [v90], .own (Zd.slice 205 q205) t85.f5 [v92], .own (Zd.slice 238 q238) t93.f5 [v94], .own (Zd.slice 91 q91) t95.1.f0.f0 [v96], .own (Zd.slice 81 q81) t95.1.f0.f1 [v97], .own (Zd.slice 115 q115) t95.1.f0.f2 [v98], .own (Zd.slice 202 q202) t95.1.f1 [v99], .own (Zd.slice 205 q205) t95.1.f5 [v100], .box g15 [v96, v97, v98, v99, .int .i64 t95.1.f2, .int .i64 t95.1.f3, .int .i64 t95.1.f4, v100] 46]) ?_ ?_
 rotate_left
 · intro hJ
   refine drq_of [(0, some 95), (2, some 97)] ?_
   repeat (refine drt HT HH ?_)
   refine drq_end ?_
   refine dr_any [1, 8] HT (by kernel_rfl) (by decide) (AllReadyL.cons rfl (by decide) (fun K hK => ?_) (AllReadyL.cons rfl (by decide) (fun K hK => ?_) AllReadyL.nil))
   · refine go_cl5 HS (laws_toServer.calls ht85.out (HS.ro gp0) lp0 (HS.ro gp1) lp1 (HS.ro gp2) lp2 (HS.ro gp3) lp3 (HS.ro gp4) lp4) Tryz.func18 ?_; clear HS; intro v86 v87 v89 v90 v92 wt85 HS F; obtain ⟨B86, d86, rfl, m86⟩ := HS.form 34 rfl; obtain ⟨B87, d87, rfl, m87⟩ := HS.form 35 rfl; obtain ⟨B89, d89, rfl, m89⟩ := HS.form 36 rfl; obtain ⟨B90, d90, rfl, m90⟩ := HS.form 37 rfl; obtain ⟨B92, d92, rfl, m92⟩ := HS.form 38 rfl
     refine nrm 96 hK ⟨_, HS⟩ (fun HH => ?_); clear hK K
     refine dr_any [3, 8] HT (by kernel_rfl) (by decide) (AllReadyL.cons rfl (by decide) (fun K hK => ?_) (AllReadyL.cons rfl (by decide) (fun K hK => ?_) AllReadyL.nil))
     · refine go_cl1 HS (laws_toCrl.calls ht93.out (HS.ro gp5) lp5) Tryz.func28 ?_; clear HS; intro v94 wt93 HS F; obtain ⟨B94, d94, rfl, m94⟩ := HS.form 39 rfl
       refine nrm 98 hK ⟨_, HS⟩ (fun HH => ?_); clear hK K
       refine dr_any [4, 8] HT (by kernel_rfl) (by decide) (AllReadyL.cons rfl (by decide) (fun K hK => ?_) (AllReadyL.cons rfl (by decide) (fun K hK => ?_) AllReadyL.nil))
       · refine go_cl5 HS (impl_LearnCrl.calls ht95.out (HS.rd 34 rfl) m86 (HS.rd 35 rfl) m87 (HS.rd 36 rfl) m89 (HS.rd 37 rfl) m90 (HS.rd 38 rfl) m92 (HS.rd 39 rfl) m94 (HS.keepc hgM)) Tryz.func46 ?_; clear HS; intro v96 v97 v98 v99 v100 wt95 HS F; obtain ⟨B96, d96, rfl, m96⟩ := HS.form 40 rfl; obtain ⟨B97, d97, rfl, m97⟩ := HS.form 41 rfl; obtain ⟨B98, d98, rfl, m98⟩ := HS.form 42 rfl; obtain ⟨B99, d99, rfl, m99⟩ := HS.form 43 rfl; obtain ⟨B100, d100, rfl, m100⟩ := HS.form 44 rfl
         refine nrm 99 hK ⟨_, HS⟩ (fun HH => ?_); clear hK K
         refine drq_of [(5, some 94), (6, some 100), (7, some 101)] ?_
         repeat (refine drp HT ?_)
         refine drq_end ?_
         refine dr1 8 HT fun K hK => ?_
         refine if_bx HS ?_; clear HS; intro g15 w15 HS F
         refine nrm 15 hK ⟨_, HS⟩ (fun HH => ?_); clear hK K
         refine dr_last 9 HT rfl (by kernel_rfl) (by decide) (fun K hK => ?_)
         refine if_st 45 0 HS (seg := [.slice B96 t95.1.f0.f0.length d96, .slice B97 t95.1.f0.f1.length d97, .slice B98 t95.1.f0.f2.length d98, .slice B99 t95.1.f1.length d99, .int .i64 t95.1.f2, .int .i64 t95.1.f3, .int .i64 t95.1.f4, .slice B100 t95.1.f5.length d100]) ?_; clear HS; intro w101 HS F
         refine hK.out _ _ ?_
         clear hK K
         refine drq_of [(10, some 16)] ?_
         repeat (refine drp HT ?_)
         refine drq_end ?_
         refine norm_ ?_ (hJ (.slice B86 t85.f0.f0.length d86, .slice B87 t85.f0.f1.length d87, .slice B89 t85.f0.f2.length d89, .slice B90 t85.f1.length d90, .slice B92 t85.f5.length d92, .slice B94 t93.f5.length d94, .slice B96 t95.1.f0.f0.length d96, .slice B97 t95.1.f0.f1.length d97, .slice B98 t95.1.f0.f2.length d98, .slice B99 t95.1.f1.length d99, .slice B100 t95.1.f5.length d100, g15) _ (HS.arr [some 0, some 1, some 2, some 3, some 4, some 5, some 6, some 7, some 8, some 9, some 10, some 11, some 12, some 13, some 14, some 15, some 16, some 17, some 18, some 19, some 20, some 21, some 22, some 23, some 24, some 25, some 26, some 27, some 28, some 29, some 30, some 31, some 32, some 33, some 34, some 35, some 36, some 37, some 38, some 39, some 40, some 41, some 42, some 43, some 44, some 45] (by decide)))
         simp only [putAll, Act.put, ptn]
         (try rfl)
       · refine if_bx HS ?_; clear HS; intro g15 w15 HS F
         refine nrm 15 hK ⟨_, HS⟩ (fun HH => ?_); clear hK K
         refine dr1 4 HT fun K hK => ?_
         refine go_cl5 HS (impl_LearnCrl.calls ht95.out (HS.rd 34 rfl) m86 (HS.rd 35 rfl) m87 (HS.rd 36 rfl) m89 (HS.rd 37 rfl) m90 (HS.rd 38 rfl) m92 (HS.rd 39 rfl) m94 (HS.keepc hgM)) Tryz.func46 ?_; clear HS; intro v96 v97 v98 v99 v100 wt95 HS F; obtain ⟨B96, d96, rfl, m96⟩ := HS.form 41 rfl; obtain ⟨B97, d97, rfl, m97⟩ := HS.form 42 rfl; obtain ⟨B98, d98, rfl, m98⟩ := HS.form 43 rfl; obtain ⟨B99, d99, rfl, m99⟩ := HS.form 44 rfl; obtain ⟨B100, d100, rfl, m100⟩ := HS.form 45 rfl
         refine nrm 99 hK ⟨_, HS⟩ (fun HH => ?_); clear hK K
         refine drq_of [(5, some 94), (6, some 100), (7, some 101)] ?_
         repeat (refine drp HT ?_)
         refine drq_end ?_
         refine dr_last 9 HT rfl (by kernel_rfl) (by decide) (fun K hK => ?_)
         refine if_st 40 0 HS (seg := [.slice B96 t95.1.f0.f0.length d96, .slice B97 t95.1.f0.f1.length d97, .slice B98 t95.1.f0.f2.length d98, .slice B99 t95.1.f1.length d99, .int .i64 t95.1.f2, .int .i64 t95.1.f3, .int .i64 t95.1.f4, .slice B100 t95.1.f5.length d100]) ?_; clear HS; intro w101 HS F
         refine hK.out _ _ ?_
         clear hK K
         refine drq_of [(10, some 16)] ?_
         repeat (refine drp HT ?_)
         refine drq_end ?_
         refine norm_ ?_ (hJ (.slice B86 t85.f0.f0.length d86, .slice B87 t85.f0.f1.length d87, .slice B89 t85.f0.f2.length d89, .slice B90 t85.f1.length d90, .slice B92 t85.f5.length d92, .slice B94 t93.f5.length d94, .slice B96 t95.1.f0.f0.length d96, .slice B97 t95.1.f0.f1.length d97, .slice B98 t95.1.f0.f2.length d98, .slice B99 t95.1.f1.length d99, .slice B100 t95.1.f5.length d100, g15) _ (HS.arr [some 0, some 1, some 2, some 3, some 4, some 5, some 6, some 7, some 8, some 9, some 10, some 11, some 12, some 13, some 14, some 15, some 16, some 17, some 18, some 19, some 20, some 21, some 22, some 23, some 24, some 25, some 26, some 27, some 28, some 29, some 30, some 31, some 32, some 33, some 34, some 35, some 36, some 37, some 38, some 39, some 41, some 42, some 43, some 44, some 45, some 40] (by decide)))
         simp only [putAll, Act.put, ptn]
         (try rfl)
     · refine if_bx HS ?_; clear HS; intro g15 w15 HS F
       refine nrm 15 hK ⟨_, HS⟩ (fun HH => ?_); clear hK K
       refine dr1 3 HT fun K hK => ?_
       refine go_cl1 HS (laws_toCrl.calls ht93.out (HS.ro gp5) lp5) Tryz.func28 ?_; clear HS; intro v94 wt93 HS F; obtain ⟨B94, d94, rfl, m94⟩ := HS.form 40 rfl
       refine nrm 98 hK ⟨_, HS⟩ (fun HH => ?_); clear hK K
       refine dr1 4 HT fun K hK => ?_
       refine go_cl5 HS (impl_LearnCrl.calls ht95.out (HS.rd 34 rfl) m86 (HS.rd 35 rfl) m87 (HS.rd 36 rfl) m89 (HS.rd 37 rfl) m90 (HS.rd 38 rfl) m92 (HS.rd 40 rfl) m94 (HS.keepc hgM)) Tryz.func46 ?_; clear HS; intro v96 v97 v98 v99 v100 wt95 HS F; obtain ⟨B96, d96, rfl, m96⟩ := HS.form 41 rfl; obtain ⟨B97, d97, rfl, m97⟩ := HS.form 42 rfl; obtain ⟨B98, d98, rfl, m98⟩ := HS.form 43 rfl; obtain ⟨B99, d99, rfl, m99⟩ := HS.form 44 rfl; obtain ⟨B100, d100, rfl, m100⟩ := HS.form 45 rfl
       refine nrm 99 hK ⟨_, HS⟩ (fun HH => ?_); clear hK K
       refine drq_of [(5, some 94), (6, some 100), (7, some 101)] ?_
       repeat (refine drp HT ?_)
       refine drq_end ?_
       refine dr_last 9 HT rfl (by kernel_rfl) (by decide) (fun K hK => ?_)
       refine if_st 39 0 HS (seg := [.slice B96 t95.1.f0.f0.length d96, .slice B97 t95.1.f0.f1.length d97, .slice B98 t95.1.f0.f2.length d98, .slice B99 t95.1.f1.length d99, .int .i64 t95.1.f2, .int .i64 t95.1.f3, .int .i64 t95.1.f4, .slice B100 t95.1.f5.length d100]) ?_; clear HS; intro w101 HS F
       refine hK.out _ _ ?_
       clear hK K
       refine drq_of [(10, some 16)] ?_
       repeat (refine drp HT ?_)
       refine drq_end ?_
       refine norm_ ?_ (hJ (.slice B86 t85.f0.f0.length d86, .slice B87 t85.f0.f1.length d87, .slice B89 t85.f0.f2.length d89, .slice B90 t85.f1.length d90, .slice B92 t85.f5.length d92, .slice B94 t93.f5.length d94, .slice B96 t95.1.f0.f0.length d96, .slice B97 t95.1.f0.f1.length d97, .slice B98 t95.1.f0.f2.length d98, .slice B99 t95.1.f1.length d99, .slice B100 t95.1.f5.length d100, g15) _ (HS.arr [some 0, some 1, some 2, some 3, some 4, some 5, some 6, some 7, some 8, some 9, some 10, some 11, some 12, some 13, some 14, some 15, some 16, some 17, some 18, some 19, some 20, some 21, some 22, some 23, some 24, some 25, some 26, some 27, some 28, some 29, some 30, some 31, some 32, some 33, some 34, some 35, some 36, some 37, some 38, some 40, some 41, some 42, some 43, some 44, some 45, some 39] (by decide)))
       simp only [putAll, Act.put, ptn]
       (try rfl)
   · refine if_bx HS ?_; clear HS; intro g15 w15 HS F
     refine nrm 15 hK ⟨_, HS⟩ (fun HH => ?_); clear hK K
     refine dr1 1 HT fun K hK => ?_
     refine go_cl5 HS (laws_toServer.calls ht85.out (HS.ro gp0) lp0 (HS.ro gp1) lp1 (HS.ro gp2) lp2 (HS.ro gp3) lp3 (HS.ro gp4) lp4) Tryz.func18 ?_; clear HS; intro v86 v87 v89 v90 v92 wt85 HS F; obtain ⟨B86, d86, rfl, m86⟩ := HS.form 35 rfl; obtain ⟨B87, d87, rfl, m87⟩ := HS.form 36 rfl; obtain ⟨B89, d89, rfl, m89⟩ := HS.form 37 rfl; obtain ⟨B90, d90, rfl, m90⟩ := HS.form 38 rfl; obtain ⟨B92, d92, rfl, m92⟩ := HS.form 39 rfl
     refine nrm 96 hK ⟨_, HS⟩ (fun HH => ?_); clear hK K
     refine dr1 3 HT fun K hK => ?_
     refine go_cl1 HS (laws_toCrl.calls ht93.out (HS.ro gp5) lp5) Tryz.func28 ?_; clear HS; intro v94 wt93 HS F; obtain ⟨B94, d94, rfl, m94⟩ := HS.form 40 rfl
     refine nrm 98 hK ⟨_, HS⟩ (fun HH => ?_); clear hK K
     refine dr1 4 HT fun K hK => ?_
     refine go_cl5 HS (impl_LearnCrl.calls ht95.out (HS.rd 35 rfl) m86 (HS.rd 36 rfl) m87 (HS.rd 37 rfl) m89 (HS.rd 38 rfl) m90 (HS.rd 39 rfl) m92 (HS.rd 40 rfl) m94 (HS.keepc hgM)) Tryz.func46 ?_; clear HS; intro v96 v97 v98 v99 v100 wt95 HS F; obtain ⟨B96, d96, rfl, m96⟩ := HS.form 41 rfl; obtain ⟨B97, d97, rfl, m97⟩ := HS.form 42 rfl; obtain ⟨B98, d98, rfl, m98⟩ := HS.form 43 rfl; obtain ⟨B99, d99, rfl, m99⟩ := HS.form 44 rfl; obtain ⟨B100, d100, rfl, m100⟩ := HS.form 45 rfl
     refine nrm 99 hK ⟨_, HS⟩ (fun HH => ?_); clear hK K
     refine drq_of [(5, some 94), (6, some 100), (7, some 101)] ?_
     repeat (refine drp HT ?_)
     refine drq_end ?_
     refine dr_last 9 HT rfl (by kernel_rfl) (by decide) (fun K hK => ?_)
     refine if_st 34 0 HS (seg := [.slice B96 t95.1.f0.f0.length d96, .slice B97 t95.1.f0.f1.length d97, .slice B98 t95.1.f0.f2.length d98, .slice B99 t95.1.f1.length d99, .int .i64 t95.1.f2, .int .i64 t95.1.f3, .int .i64 t95.1.f4, .slice B100 t95.1.f5.length d100]) ?_; clear HS; intro w101 HS F
     refine hK.out _ _ ?_
     clear hK K
     refine drq_of [(10, some 16)] ?_
     repeat (refine drp HT ?_)
     refine drq_end ?_
     refine norm_ ?_ (hJ (.slice B86 t85.f0.f0.length d86, .slice B87 t85.f0.f1.length d87, .slice B89 t85.f0.f2.length d89, .slice B90 t85.f1.length d90, .slice B92 t85.f5.length d92, .slice B94 t93.f5.length d94, .slice B96 t95.1.f0.f0.length d96, .slice B97 t95.1.f0.f1.length d97, .slice B98 t95.1.f0.f2.length d98, .slice B99 t95.1.f1.length d99, .slice B100 t95.1.f5.length d100, g15) _ (HS.arr [some 0, some 1, some 2, some 3, some 4, some 5, some 6, some 7, some 8, some 9, some 10, some 11, some 12, some 13, some 14, some 15, some 16, some 17, some 18, some 19, some 20, some 21, some 22, some 23, some 24, some 25, some 26, some 27, some 28, some 29, some 30, some 31, some 32, some 33, some 35, some 36, some 37, some 38, some 39, some 40, some 41, some 42, some 43, some 44, some 45, some 34] (by decide)))
     simp only [putAll, Act.put, ptn]
     (try rfl)
 rintro ⟨v86, v87, v89, v90, v92, v94, v96, v97, v98, v99, v100, g15⟩ w102 HS
 obtain ⟨B86, d86, rfl, m86⟩ := HS.form 34 rfl
 obtain ⟨B87, d87, rfl, m87⟩ := HS.form 35 rfl
 obtain ⟨B89, d89, rfl, m89⟩ := HS.form 36 rfl
 obtain ⟨B90, d90, rfl, m90⟩ := HS.form 37 rfl
 obtain ⟨B92, d92, rfl, m92⟩ := HS.form 38 rfl
 obtain ⟨B94, d94, rfl, m94⟩ := HS.form 39 rfl
 obtain ⟨B96, d96, rfl, m96⟩ := HS.form 40 rfl
 obtain ⟨B97, d97, rfl, m97⟩ := HS.form 41 rfl
 obtain ⟨B98, d98, rfl, m98⟩ := HS.form 42 rfl
 obtain ⟨B99, d99, rfl, m99⟩ := HS.form 43 rfl
 obtain ⟨B100, d100, rfl, m100⟩ := HS.form 44 rfl
 have F := HS.boxes; simp only [bxn] at F
 refine norm_ (a' := ?_) ?_ ?_
 rotate_left
 · simp only [putAll, Act.put, ptn]; rfl
 refine done_ (done_of HT.out (by kernel_rfl)) ?_
 replace H := zbind H; obtain ⟨t72, ht72, H⟩ := H
 replace H := znifb H; rcases H with ⟨c74, H⟩ | ⟨c74, H⟩
 case inl =>
  subst c74
  obtain rfl := zsome H
  go_wp2_with ((with_reducible refine gd 104 rfl ?_); refine ev_cl HS (laws_eqServer.calls ht72.out (HS.rd 40 rfl) m96 (HS.rd 41 rfl) m97 (HS.rd 42 rfl) m98 (HS.rd 43 rfl) m99 (HS.rd 44 rfl) m100 (HS.rd 8 rfl) m42 (HS.rd 9 rfl) m44 (HS.rd 10 rfl) m49 (HS.rd 11 rfl) m51 (HS.rd 12 rfl) m53) Tryz.func20 ?_; clear HS; intro wt72 HS F)
  go_ret
  exact HS.pk
 subst c74
 go_upto_if 110 with ((with_reducible refine gd 104 rfl ?_); refine ev_cl HS (laws_eqServer.calls ht72.out (HS.rd 40 rfl) m96 (HS.rd 41 rfl) m97 (HS.rd 42 rfl) m98 (HS.rd 43 rfl) m99 (HS.rd 44 rfl) m100 (HS.rd 8 rfl) m42 (HS.rd 9 rfl) m44 (HS.rd 10 rfl) m49 (HS.rd 11 rfl) m51 (HS.rd 12 rfl) m53) Tryz.func20 ?_; clear HS; intro wt72 HS F)
 replace H := znif' H; rcases H with ⟨c75, H⟩ | ⟨c75, H⟩
 case inl =>
  have c75a := beq_eq_false_iff_ne.mpr c75
  have c75b := bne_iff_ne.mpr c75
  clear c75
  (try simp only [c75a, c75b, dcn])
  obtain rfl := zsome H
  go_wp2
  go_ret
  exact HS.pk
 have c75a := beq_iff_eq.mpr c75
 have c75b := bne_eq_false_iff_eq.mpr c75
 clear c75
 (try simp only [c75a, c75b, dcn])
 replace H := zbind H; obtain ⟨t76, ht76, H⟩ := H
 go_upto_if 115 with ((with_reducible refine gd 113 rfl ?_); refine ev_cl HS (laws_heldServer.calls ht76.out (HS.rd 22 rfl) m33 (HS.rd 23 rfl) m34 (HS.rd 24 rfl) m35 (HS.rd 25 rfl) m36 (HS.rd 26 rfl) m37) Tryz.func48 ?_; clear HS; intro wt76 HS F)
 replace H := zif H; rcases H with ⟨c78, H⟩ | ⟨c78, H⟩
 case inl =>
  (try simp only [c78, dcn])
  obtain rfl := zsome H
  go_wp2
  go_ret
  exact HS.pk
 (try simp only [c78, dcn])
 replace H := znif' H; rcases H with ⟨c79, H⟩ | ⟨c79, H⟩
 case inl =>
  have c79a := beq_eq_false_iff_ne.mpr c79
  have c79b := bne_iff_ne.mpr c79
  clear c79
  (try simp only [c79a, c79b, dcn])
  obtain rfl := zsome H
  go_wp2
  go_ret
  exact HS.pk
 have c79a := beq_iff_eq.mpr c79
 have c79b := bne_eq_false_iff_eq.mpr c79
 clear c79
 (try simp only [c79a, c79b, dcn])
 obtain rfl := zsome H
 go_wp2
 go_ret
 exact HS.pk
end Go.Proofs.YtacocpknielofaaGreatDoor.F

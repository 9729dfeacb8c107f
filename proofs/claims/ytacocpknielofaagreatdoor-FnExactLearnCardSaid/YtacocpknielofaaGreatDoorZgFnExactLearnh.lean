/- Functions of the program and of the law, and that their calls do what is written here. -/
import Derived.Test.YtacocpknielofaaGreatDoorZgFnExactLearna
import Derived.Test.YtacocpknielofaaGreatDoorZgFnExactLearnb
import Derived.Test.YtacocpknielofaaGreatDoorZgFnExactLearnc
import Derived.Test.YtacocpknielofaaGreatDoorZgFnExactLearne
import Derived.Test.YtacocpknielofaaGreatDoorZgFnExactLearng
namespace Go.Proofs.YtacocpknielofaaGreatDoor.F
open Go.RowKit YtacocpknielofaaGreatDoorW.PrintWords YtacocpknielofaaGreatDoorW.PrintLast YtacocpknielofaaGreatDoorW.PrintMore Z
attribute [local go_sem] max2_int min2_int max_two min_two max_three min_three max_four min_four
set_option linter.unusedVariables false
set_option linter.unusedSimpArgs false
set_option maxRecDepth 100000
set_option maxHeartbeats 16000000
def laws_FnExactLearn.f (k : Nat) (a0 : S40) (a1 : S88) : Option (Bool) := ((laws_szServer.f k a0 1048576).bind fun t5 => (if t5 < 0 then (some true) else ((laws_szCert.f k a1 t5).bind fun t8 => (if t8 < 0 then (some true) else ((laws_toServer.f k a0).bind fun t13 => ((laws_toCert.f k a1).bind fun t41 => ((spec_Learn.f k t13 t41).bind fun t53 => ((laws_toServer.f k a0).bind fun t14 => ((laws_toCert.f k a1).bind fun t25 => ((impl_Learn.f k t14 t25).bind fun t34 => ((laws_eqServer.f k t34.1 t53.1).bind fun t45 => (if t45 = true then (if t34.2 = t53.2 then ((laws_toServer.f k a0).bind fun t73 => ((laws_eqServer.f k t14 t73).bind fun t86 => (if t86 = true then ((laws_toCert.f k a1).bind fun t87 => ((laws_eqCert.f k t25 t87).bind fun t93 => (if t93 = true then ((laws_markServer.f k t14 1).bind fun t57 => ((laws_markCert.f k t25 t57.1).bind fun t59 => (if t59.1 < 0 then (some false) else ((laws_eqServer.f k t34.1 t53.1).bind fun t62 => (if t62 = true then ((laws_markServer.f k t34.1 1).bind fun t65 => ((laws_heldServer.f k (⟨(⟨t65.2.1, t65.2.2.1, t65.2.2.2.1⟩ : S33), t65.2.2.2.2.1, t34.1.f2, t34.1.f3, t34.1.f4, t65.2.2.2.2.2⟩ : S46) 1).bind fun t67 => (if t67 < 0 then (some false) else (if t67 = t65.1 then ((laws_toServer.f k a0).bind fun t94 => ((laws_toCert.f k a1).bind fun t100 => ((impl_Learn.f k t94 t100).bind fun t104 => ((laws_eqServer.f k t104.1 t53.1).bind fun t74 => (if t74 = true then (if t104.2 = t53.2 then ((laws_heldServer.f k (⟨(⟨t65.2.1, t65.2.2.1, t65.2.2.2.1⟩ : S33), t65.2.2.2.2.1, t34.1.f2, t34.1.f3, t34.1.f4, t65.2.2.2.2.2⟩ : S46) 1).bind fun t78 => (if t78 < 0 then (some false) else (if t78 = t65.1 then (some true) else (some false)))) else (some false)) else (some false)))))) else (some false))))) else (some false)))))) else (some false)))) else (some false)))) else (some false)) else (some false)))))))))))))
def laws_FnExactLearn.T8 : TT := (true, [([], []), ([0], [0]), ([], []), ([2, 1], [2]), ([1, 3, 3], [1, 3]), ([4], [4]), ([5], [5]), ([5], [5]), ([], []), ([8, 6, 4, 0, 1, 2, 3, 4, 5, 6, 8], [6, 8]), ([7, 9, 0, 1, 2, 3, 4, 5, 6, 7, 8, 9], [7])])
theorem laws_FnExactLearn.tT8 : rtab .any (opsOf Tryz.f10 8) = laws_FnExactLearn.T8 := by kernel_rfl
def laws_FnExactLearn.T14 : TT := (true, [([], []), ([], []), ([1], [1]), ([0, 2, 2], [0, 2]), ([3], [3])])
theorem laws_FnExactLearn.tT14 : rtab .any (opsOf Tryz.f10 14) = laws_FnExactLearn.T14 := by kernel_rfl
def laws_FnExactLearn.T16 : TT := (true, [([], []), ([], []), ([1], [1]), ([0, 2, 2], [0, 2]), ([3], [3])])
theorem laws_FnExactLearn.tT16 : rtab .any (opsOf Tryz.f10 16) = laws_FnExactLearn.T16 := by kernel_rfl
def laws_FnExactLearn.T31 : TT := (true, [([], []), ([0], [0]), ([], []), ([2, 1], [2]), ([1, 3, 3], [1, 3]), ([4], [4]), ([5], [5]), ([5], [5]), ([], []), ([8, 6, 4, 0, 1, 2, 3, 4, 5, 6, 8], [6, 8]), ([7, 9, 0, 1, 2, 3, 4, 5, 6, 7, 8, 9], [7])])
theorem laws_FnExactLearn.tT31 : rtab .any (opsOf Tryz.f10 31) = laws_FnExactLearn.T31 := by kernel_rfl
theorem laws_FnExactLearn.calls {k : Nat} {a0 : S40} {a1 : S88} {Ap0 Ap1 Ap2 Ap3 Ap4 Ap5 Ap6 Ap7 : Option Addr} {np0 cp0 np1 cp1 np2 cp2 np3 cp3 np4 cp4 np5 cp5 np6 cp6 np7 cp7 : Nat} {mG : Int} {r : Bool} {w : World} (h : laws_FnExactLearn.f k a0 a1 = some r) (gp0 : k88.C w Ap0 np0 a0.f0.f0) (lp0 : np0 ≤ cp0) (gp1 : k75.C w Ap1 np1 a0.f0.f1) (lp1 : np1 ≤ cp1) (gp2 : k178.C w Ap2 np2 a0.f0.f2) (lp2 : np2 ≤ cp2) (gp3 : k196.C w Ap3 np3 a0.f1) (lp3 : np3 ≤ cp3) (gp4 : k199.C w Ap4 np4 a0.f5) (lp4 : np4 ≤ cp4) (gp5 : (Kd.int .i64).C w Ap5 np5 a1.f9) (lp5 : np5 ≤ cp5) (gp6 : Kd.string.C w Ap6 np6 a1.f10) (lp6 : np6 ≤ cp6) (gp7 : Kd.string.C w Ap7 np7 a1.f11) (lp7 : np7 ≤ cp7) (hgM : w.cell? ⟨0, 0, none⟩ = some (.int .i64 mG)) :
    Calls Tryz.prog 10 #[.agg #[.slice Ap0 np0 cp0, .slice Ap1 np1 cp1, .slice Ap2 np2 cp2, .slice Ap3 np3 cp3, .int .i64 a0.f2, .int .i64 a0.f3, .int .i64 a0.f4, .slice Ap4 np4 cp4], .agg #[.int .i64 a1.f0, .string a1.f1, .string a1.f2, .int .i64 a1.f3, .int .i64 a1.f4, .string a1.f5, .bool a1.f6, .int .i64 a1.f7, .int .i64 a1.f8, .slice Ap5 np5 cp5, .slice Ap6 np6 cp6, .slice Ap7 np7 cp7, .string a1.f12]] w (fun e w' => e = .returned (.bool r) ∧ Hp noFP w w' []) := by
 obtain rfl := C_len gp0
 obtain rfl := C_len gp1
 obtain rfl := C_len gp2
 obtain rfl := C_len gp3
 obtain rfl := C_len gp4
 obtain rfl := C_len gp5
 obtain rfl := C_len gp6
 obtain rfl := C_len gp7
 have HS := Hp.start w
 have H := Aside0.mk h
 clear h
 unfold laws_FnExactLearn.f at H
 go_enter Tryz.func10, Tryz.ntmps10
 replace H := zbind H; obtain ⟨t5, ht5, H⟩ := H
 go_upto_if 21 with (first | ((with_reducible refine gd 2 rfl ?_); refine ev_bx HS ?_; clear HS; intro g2 w2 HS F) | ((with_reducible refine gd 3 rfl ?_); refine ev_bx HS ?_; clear HS; intro g3 w3 HS F) | ((with_reducible refine gd 19 rfl ?_); refine ev_cl HS (laws_szServer.calls ht5.out (HS.ro gp0) lp0 (HS.ro gp1) lp1 (HS.ro gp2) lp2 (HS.ro gp3) lp3 (HS.ro gp4) lp4) Tryz.func16 ?_; clear HS; intro wt5 HS F))
 replace H := zif H; rcases H with ⟨c7, H⟩ | ⟨c7, H⟩
 case inl =>
  (try simp only [c7, dcn])
  obtain rfl := zsome H
  go_wp2
  go_ret
  exact HS.pk
 (try simp only [c7, dcn])
 replace H := zbind H; obtain ⟨t8, ht8, H⟩ := H
 go_upto_if 26 with ((with_reducible refine gd 24 rfl ?_); refine ev_cl HS (laws_szCert.calls ht8.out (HS.ro gp5) lp5 (HS.ro gp6) lp6 (HS.ro gp7) lp7) Tryz.func34 ?_; clear HS; intro wt8 HS F)
 replace H := zif H; rcases H with ⟨c10, H⟩ | ⟨c10, H⟩
 case inl =>
  (try simp only [c10, dcn])
  obtain rfl := zsome H
  go_wp2
  go_ret
  exact HS.pk
 (try simp only [c10, dcn])
 (try go_wp2)
 replace H := zbind H; obtain ⟨t13, ht13, H⟩ := H
 replace H := zbind H; obtain ⟨t41, ht41, H⟩ := H
 replace H := zbind H; obtain ⟨t53, ht53, H⟩ := H
 refine dr_start [9] HS #[false, false, false, false, false, false, false, false, false, false, false] (by kernel_rfl) rfl rfl laws_FnExactLearn.tT8 (fun w12 HT HS HH => ?_)
 (try clear F)
 refine join_ 0 #[true, true, true, true, true, true, true, true, true, true, true] (fun ((v21, v22, v24, v29, v30, v42, v44, v51, v55, v58, v60, v63, v66, g6) : Value × Value × Value × Value × Value × Value × Value × Value × Value × Value × Value × Value × Value × Nat) => ([(28, .agg #[.slice Ap0 a0.f0.f0.length cp0, .slice Ap1 a0.f0.f1.length cp1, .slice Ap2 a0.f0.f2.length cp2, .slice Ap3 a0.f1.length cp3, .int .i64 a0.f2, .int .i64 a0.f3, .int .i64 a0.f4, .slice Ap4 a0.f5.length cp4]), (29, .agg #[v21, v22, v24, v29, .int .i64 t13.f2, .int .i64 t13.f3, .int .i64 t13.f4, v30]), (30, .agg #[.int .i64 a1.f0, .string a1.f1, .string a1.f2, .int .i64 a1.f3, .int .i64 a1.f4, .string a1.f5, .bool a1.f6, .int .i64 a1.f7, .int .i64 a1.f8, .slice Ap5 a1.f9.length cp5, .slice Ap6 a1.f10.length cp6, .slice Ap7 a1.f11.length cp7, .string a1.f12]), (31, .agg #[.int .i64 t41.f0, .string t41.f1, .string t41.f2, .int .i64 t41.f3, .int .i64 t41.f4, .string t41.f5, .bool t41.f6, .int .i64 t41.f7, .int .i64 t41.f8, v42, v44, v51, .string t41.f12]), (32, .tuple #[.agg #[v55, v58, v60, v63, .int .i64 t53.1.f2, .int .i64 t53.1.f3, .int .i64 t53.1.f4, v66], .bool t53.2]), (27, .tuple #[.agg #[v55, v58, v60, v63, .int .i64 t53.1.f2, .int .i64 t53.1.f3, .int .i64 t53.1.f4, v66], .bool t53.2]), (33, .agg #[v55, v58, v60, v63, .int .i64 t53.1.f2, .int .i64 t53.1.f3, .int .i64 t53.1.f4, v66]), (34, .bool t53.2), (6, .pointer (some ⟨g6, 0, none⟩)), (7, .bool t53.2)] : List (Tmp × Value))) (fun ((v21, v22, v24, v29, v30, v42, v44, v51, v55, v58, v60, v63, v66, g6) : Value × Value × Value × Value × Value × Value × Value × Value × Value × Value × Value × Value × Value × Nat) w' => Hp noFP w w' [.box g2 [.slice Ap0 a0.f0.f0.length cp0, .slice Ap1 a0.f0.f1.length cp1, .slice Ap2 a0.f0.f2.length cp2, .slice Ap3 a0.f1.length cp3, .int .i64 a0.f2, .int .i64 a0.f3, .int .i64 a0.f4, .slice Ap4 a0.f5.length cp4] 40, .box g3 [.int .i64 a1.f0, .string a1.f1, .string a1.f2, .int .i64 a1.f3, .int .i64 a1.f4, .string a1.f5, .bool a1.f6, .int .i64 a1.f7, .int .i64 a1.f8, .slice Ap5 a1.f9.length cp5, .slice Ap6 a1.f10.length cp6, .slice Ap7 a1.f11.length cp7, .string a1.f12] 88, .own (Zd.slice 91 q91) t13.f0.f0 [v21], .own (Zd.slice 81 q81) t13.f0.f1 [v22], .own (Zd.slice 115 q115) t13.f0.f2 [v24], .own (Zd.slice 202 q202) t13.f1 [v29], .own (Zd.slice 205 q205) t13.f5 [v30], .own (Zd.slice 3 (Zd.int .i64)) t41.f9 [v42], .own (Zd.slice 9 Zd.string) t41.f10 [v44], .own (Zd.slice 9 Zd.string) t41.f11 [v51], .own (Zd.slice 91 q91) t53.1.f0.f0 [v55], .own (Zd.slice 81 q81) t53.1.f0.f1 [v58], .own (Zd.slice 115 q115) t53.1.f0.f2 [v60], .own (Zd.slice 202 q202) t53.1.f1 [v63], .own (Zd.slice 205 q205) t53.1.f5 [v66], .box g6 [v55, v58, v60, v63, .int .i64 t53.1.f2, .int .i64 t53.1.f3, .int .i64 t53.1.f4, v66] 46]) ?_ ?_
 rotate_left
 · intro hJ
   refine drq_of [(0, some 28), (2, some 30)] ?_
   repeat (refine drt HT HH ?_)
   refine drq_end ?_
   refine dr_any [1, 8] HT (by kernel_rfl) (by decide) (AllReadyL.cons rfl (by decide) (fun K hK => ?_) (AllReadyL.cons rfl (by decide) (fun K hK => ?_) AllReadyL.nil))
   · refine go_cl5 HS (laws_toServer.calls ht13.out (HS.ro gp0) lp0 (HS.ro gp1) lp1 (HS.ro gp2) lp2 (HS.ro gp3) lp3 (HS.ro gp4) lp4) Tryz.func18 ?_; clear HS; intro v21 v22 v24 v29 v30 wt13 HS F; obtain ⟨B21, d21, rfl, m21⟩ := HS.form 2 rfl; obtain ⟨B22, d22, rfl, m22⟩ := HS.form 3 rfl; obtain ⟨B24, d24, rfl, m24⟩ := HS.form 4 rfl; obtain ⟨B29, d29, rfl, m29⟩ := HS.form 5 rfl; obtain ⟨B30, d30, rfl, m30⟩ := HS.form 6 rfl
     refine nrm 29 hK ⟨_, HS⟩ (fun HH => ?_); clear hK K
     refine dr_any [3, 8] HT (by kernel_rfl) (by decide) (AllReadyL.cons rfl (by decide) (fun K hK => ?_) (AllReadyL.cons rfl (by decide) (fun K hK => ?_) AllReadyL.nil))
     · refine go_cl3 HS (laws_toCert.calls ht41.out (HS.ro gp5) lp5 (HS.ro gp6) lp6 (HS.ro gp7) lp7) Tryz.func36 ?_; clear HS; intro v42 v44 v51 wt41 HS F; obtain ⟨B42, d42, rfl, m42⟩ := HS.form 7 rfl; obtain ⟨B44, d44, rfl, m44⟩ := HS.form 8 rfl; obtain ⟨B51, d51, rfl, m51⟩ := HS.form 9 rfl
       refine nrm 31 hK ⟨_, HS⟩ (fun HH => ?_); clear hK K
       refine dr_any [4, 8] HT (by kernel_rfl) (by decide) (AllReadyL.cons rfl (by decide) (fun K hK => ?_) (AllReadyL.cons rfl (by decide) (fun K hK => ?_) AllReadyL.nil))
       · refine go_cl5 HS (spec_Learn.calls ht53.out (HS.rd 2 rfl) m21 (HS.rd 3 rfl) m22 (HS.rd 4 rfl) m24 (HS.rd 5 rfl) m29 (HS.rd 6 rfl) m30 (HS.rd 7 rfl) m42 (HS.rd 8 rfl) m44 (HS.rd 9 rfl) m51) Tryz.func49 ?_; clear HS; intro v55 v58 v60 v63 v66 wt53 HS F; obtain ⟨B55, d55, rfl, m55⟩ := HS.form 10 rfl; obtain ⟨B58, d58, rfl, m58⟩ := HS.form 11 rfl; obtain ⟨B60, d60, rfl, m60⟩ := HS.form 12 rfl; obtain ⟨B63, d63, rfl, m63⟩ := HS.form 13 rfl; obtain ⟨B66, d66, rfl, m66⟩ := HS.form 14 rfl
         refine nrm 32 hK ⟨_, HS⟩ (fun HH => ?_); clear hK K
         refine drq_of [(5, some 27), (6, some 33), (7, some 34)] ?_
         repeat (refine drp HT ?_)
         refine drq_end ?_
         refine dr1 8 HT fun K hK => ?_
         refine if_bx HS ?_; clear HS; intro g6 w6 HS F
         refine nrm 6 hK ⟨_, HS⟩ (fun HH => ?_); clear hK K
         refine dr_last 9 HT rfl (by kernel_rfl) (by decide) (fun K hK => ?_)
         refine if_st 15 0 HS (seg := [.slice B55 t53.1.f0.f0.length d55, .slice B58 t53.1.f0.f1.length d58, .slice B60 t53.1.f0.f2.length d60, .slice B63 t53.1.f1.length d63, .int .i64 t53.1.f2, .int .i64 t53.1.f3, .int .i64 t53.1.f4, .slice B66 t53.1.f5.length d66]) ?_; clear HS; intro w68 HS F
         refine hK.out _ _ ?_
         clear hK K
         refine drq_of [(10, some 7)] ?_
         repeat (refine drp HT ?_)
         refine drq_end ?_
         refine norm_ ?_ (hJ (.slice B21 t13.f0.f0.length d21, .slice B22 t13.f0.f1.length d22, .slice B24 t13.f0.f2.length d24, .slice B29 t13.f1.length d29, .slice B30 t13.f5.length d30, .slice B42 t41.f9.length d42, .slice B44 t41.f10.length d44, .slice B51 t41.f11.length d51, .slice B55 t53.1.f0.f0.length d55, .slice B58 t53.1.f0.f1.length d58, .slice B60 t53.1.f0.f2.length d60, .slice B63 t53.1.f1.length d63, .slice B66 t53.1.f5.length d66, g6) _ (HS.arr [some 0, some 1, some 2, some 3, some 4, some 5, some 6, some 7, some 8, some 9, some 10, some 11, some 12, some 13, some 14, some 15] (by decide)))
         simp only [putAll, Act.put, ptn]
         (try rfl)
       · refine if_bx HS ?_; clear HS; intro g6 w6 HS F
         refine nrm 6 hK ⟨_, HS⟩ (fun HH => ?_); clear hK K
         refine dr1 4 HT fun K hK => ?_
         refine go_cl5 HS (spec_Learn.calls ht53.out (HS.rd 2 rfl) m21 (HS.rd 3 rfl) m22 (HS.rd 4 rfl) m24 (HS.rd 5 rfl) m29 (HS.rd 6 rfl) m30 (HS.rd 7 rfl) m42 (HS.rd 8 rfl) m44 (HS.rd 9 rfl) m51) Tryz.func49 ?_; clear HS; intro v55 v58 v60 v63 v66 wt53 HS F; obtain ⟨B55, d55, rfl, m55⟩ := HS.form 11 rfl; obtain ⟨B58, d58, rfl, m58⟩ := HS.form 12 rfl; obtain ⟨B60, d60, rfl, m60⟩ := HS.form 13 rfl; obtain ⟨B63, d63, rfl, m63⟩ := HS.form 14 rfl; obtain ⟨B66, d66, rfl, m66⟩ := HS.form 15 rfl
         refine nrm 32 hK ⟨_, HS⟩ (fun HH => ?_); clear hK K
         refine drq_of [(5, some 27), (6, some 33), (7, some 34)] ?_
         repeat (refine drp HT ?_)
         refine drq_end ?_
         refine dr_last 9 HT rfl (by kernel_rfl) (by decide) (fun K hK => ?_)
         refine if_st 10 0 HS (seg := [.slice B55 t53.1.f0.f0.length d55, .slice B58 t53.1.f0.f1.length d58, .slice B60 t53.1.f0.f2.length d60, .slice B63 t53.1.f1.length d63, .int .i64 t53.1.f2, .int .i64 t53.1.f3, .int .i64 t53.1.f4, .slice B66 t53.1.f5.length d66]) ?_; clear HS; intro w68 HS F
         refine hK.out _ _ ?_
         clear hK K
         refine drq_of [(10, some 7)] ?_
         repeat (refine drp HT ?_)
         refine drq_end ?_
         refine norm_ ?_ (hJ (.slice B21 t13.f0.f0.length d21, .slice B22 t13.f0.f1.length d22, .slice B24 t13.f0.f2.length d24, .slice B29 t13.f1.length d29, .slice B30 t13.f5.length d30, .slice B42 t41.f9.length d42, .slice B44 t41.f10.length d44, .slice B51 t41.f11.length d51, .slice B55 t53.1.f0.f0.length d55, .slice B58 t53.1.f0.f1.length d58, .slice B60 t53.1.f0.f2.length d60, .slice B63 t53.1.f1.length d63, .slice B66 t53.1.f5.length d66, g6) _ (HS.arr [some 0, some 1, some 2, some 3, some 4, some 5, some 6, some 7, some 8, some 9, some 11, some 12, some 13, some 14, some 15, some 10] (by decide)))
         simp only [putAll, Act.put, ptn]
         (try rfl)
     · refine if_bx HS ?_; clear HS; intro g6 w6 HS F
       refine nrm 6 hK ⟨_, HS⟩ (fun HH => ?_); clear hK K
       refine dr1 3 HT fun K hK => ?_
       refine go_cl3 HS (laws_toCert.calls ht41.out (HS.ro gp5) lp5 (HS.ro gp6) lp6 (HS.ro gp7) lp7) Tryz.func36 ?_; clear HS; intro v42 v44 v51 wt41 HS F; obtain ⟨B42, d42, rfl, m42⟩ := HS.form 8 rfl; obtain ⟨B44, d44, rfl, m44⟩ := HS.form 9 rfl; obtain ⟨B51, d51, rfl, m51⟩ := HS.form 10 rfl
       refine nrm 31 hK ⟨_, HS⟩ (fun HH => ?_); clear hK K
       refine dr1 4 HT fun K hK => ?_
       refine go_cl5 HS (spec_Learn.calls ht53.out (HS.rd 2 rfl) m21 (HS.rd 3 rfl) m22 (HS.rd 4 rfl) m24 (HS.rd 5 rfl) m29 (HS.rd 6 rfl) m30 (HS.rd 8 rfl) m42 (HS.rd 9 rfl) m44 (HS.rd 10 rfl) m51) Tryz.func49 ?_; clear HS; intro v55 v58 v60 v63 v66 wt53 HS F; obtain ⟨B55, d55, rfl, m55⟩ := HS.form 11 rfl; obtain ⟨B58, d58, rfl, m58⟩ := HS.form 12 rfl; obtain ⟨B60, d60, rfl, m60⟩ := HS.form 13 rfl; obtain ⟨B63, d63, rfl, m63⟩ := HS.form 14 rfl; obtain ⟨B66, d66, rfl, m66⟩ := HS.form 15 rfl
       refine nrm 32 hK ⟨_, HS⟩ (fun HH => ?_); clear hK K
       refine drq_of [(5, some 27), (6, some 33), (7, some 34)] ?_
       repeat (refine drp HT ?_)
       refine drq_end ?_
       refine dr_last 9 HT rfl (by kernel_rfl) (by decide) (fun K hK => ?_)
       refine if_st 7 0 HS (seg := [.slice B55 t53.1.f0.f0.length d55, .slice B58 t53.1.f0.f1.length d58, .slice B60 t53.1.f0.f2.length d60, .slice B63 t53.1.f1.length d63, .int .i64 t53.1.f2, .int .i64 t53.1.f3, .int .i64 t53.1.f4, .slice B66 t53.1.f5.length d66]) ?_; clear HS; intro w68 HS F
       refine hK.out _ _ ?_
       clear hK K
       refine drq_of [(10, some 7)] ?_
       repeat (refine drp HT ?_)
       refine drq_end ?_
       refine norm_ ?_ (hJ (.slice B21 t13.f0.f0.length d21, .slice B22 t13.f0.f1.length d22, .slice B24 t13.f0.f2.length d24, .slice B29 t13.f1.length d29, .slice B30 t13.f5.length d30, .slice B42 t41.f9.length d42, .slice B44 t41.f10.length d44, .slice B51 t41.f11.length d51, .slice B55 t53.1.f0.f0.length d55, .slice B58 t53.1.f0.f1.length d58, .slice B60 t53.1.f0.f2.length d60, .slice B63 t53.1.f1.length d63, .slice B66 t53.1.f5.length d66, g6) _ (HS.arr [some 0, some 1, some 2, some 3, some 4, some 5, some 6, some 8, some 9, some 10, some 11, some 12, some 13, some 14, some 15, some 7] (by decide)))
       simp only [putAll, Act.put, ptn]
       (try rfl)
   · refine if_bx HS ?_; clear HS; intro g6 w6 HS F
     refine nrm 6 hK ⟨_, HS⟩ (fun HH => ?_); clear hK K
     refine dr1 1 HT fun K hK => ?_
     refine go_cl5 HS (laws_toServer.calls ht13.out (HS.ro gp0) lp0 (HS.ro gp1) lp1 (HS.ro gp2) lp2 (HS.ro gp3) lp3 (HS.ro gp4) lp4) Tryz.func18 ?_; clear HS; intro v21 v22 v24 v29 v30 wt13 HS F; obtain ⟨B21, d21, rfl, m21⟩ := HS.form 3 rfl; obtain ⟨B22, d22, rfl, m22⟩ := HS.form 4 rfl; obtain ⟨B24, d24, rfl, m24⟩ := HS.form 5 rfl; obtain ⟨B29, d29, rfl, m29⟩ := HS.form 6 rfl; obtain ⟨B30, d30, rfl, m30⟩ := HS.form 7 rfl
     refine nrm 29 hK ⟨_, HS⟩ (fun HH => ?_); clear hK K
     refine dr1 3 HT fun K hK => ?_
     refine go_cl3 HS (laws_toCert.calls ht41.out (HS.ro gp5) lp5 (HS.ro gp6) lp6 (HS.ro gp7) lp7) Tryz.func36 ?_; clear HS; intro v42 v44 v51 wt41 HS F; obtain ⟨B42, d42, rfl, m42⟩ := HS.form 8 rfl; obtain ⟨B44, d44, rfl, m44⟩ := HS.form 9 rfl; obtain ⟨B51, d51, rfl, m51⟩ := HS.form 10 rfl
     refine nrm 31 hK ⟨_, HS⟩ (fun HH => ?_); clear hK K
     refine dr1 4 HT fun K hK => ?_
     refine go_cl5 HS (spec_Learn.calls ht53.out (HS.rd 3 rfl) m21 (HS.rd 4 rfl) m22 (HS.rd 5 rfl) m24 (HS.rd 6 rfl) m29 (HS.rd 7 rfl) m30 (HS.rd 8 rfl) m42 (HS.rd 9 rfl) m44 (HS.rd 10 rfl) m51) Tryz.func49 ?_; clear HS; intro v55 v58 v60 v63 v66 wt53 HS F; obtain ⟨B55, d55, rfl, m55⟩ := HS.form 11 rfl; obtain ⟨B58, d58, rfl, m58⟩ := HS.form 12 rfl; obtain ⟨B60, d60, rfl, m60⟩ := HS.form 13 rfl; obtain ⟨B63, d63, rfl, m63⟩ := HS.form 14 rfl; obtain ⟨B66, d66, rfl, m66⟩ := HS.form 15 rfl
     refine nrm 32 hK ⟨_, HS⟩ (fun HH => ?_); clear hK K
     refine drq_of [(5, some 27), (6, some 33), (7, some 34)] ?_
     repeat (refine drp HT ?_)
     refine drq_end ?_
     refine dr_last 9 HT rfl (by kernel_rfl) (by decide) (fun K hK => ?_)
     refine if_st 2 0 HS (seg := [.slice B55 t53.1.f0.f0.length d55, .slice B58 t53.1.f0.f1.length d58, .slice B60 t53.1.f0.f2.length d60, .slice B63 t53.1.f1.length d63, .int .i64 t53.1.f2, .int .i64 t53.1.f3, .int .i64 t53.1.f4, .slice B66 t53.1.f5.length d66]) ?_; clear HS; intro w68 HS F
     refine hK.out _ _ ?_
     clear hK K
     refine drq_of [(10, some 7)] ?_
     repeat (refine drp HT ?_)
     refine drq_end ?_
     refine norm_ ?_ (hJ (.slice B21 t13.f0.f0.length d21, .slice B22 t13.f0.f1.length d22, .slice B24 t13.f0.f2.length d24, .slice B29 t13.f1.length d29, .slice B30 t13.f5.length d30, .slice B42 t41.f9.length d42, .slice B44 t41.f10.length d44, .slice B51 t41.f11.length d51, .slice B55 t53.1.f0.f0.length d55, .slice B58 t53.1.f0.f1.length d58, .slice B60 t53.1.f0.f2.length d60, .slice B63 t53.1.f1.length d63, .slice B66 t53.1.f5.length d66, g6) _ (HS.arr [some 0, some 1, some 3, some 4, some 5, some 6, some 7, some 8, some 9, some 10, some 11, some 12, some 13, some 14, some 15, some 2] (by decide)))
     simp only [putAll, Act.put, ptn]
     (try rfl)
 rintro ⟨v21, v22, v24, v29, v30, v42, v44, v51, v55, v58, v60, v63, v66, g6⟩ w71 HS
 obtain ⟨B21, d21, rfl, m21⟩ := HS.form 2 rfl
 obtain ⟨B22, d22, rfl, m22⟩ := HS.form 3 rfl
 obtain ⟨B24, d24, rfl, m24⟩ := HS.form 4 rfl
 obtain ⟨B29, d29, rfl, m29⟩ := HS.form 5 rfl
 obtain ⟨B30, d30, rfl, m30⟩ := HS.form 6 rfl
 obtain ⟨B42, d42, rfl, m42⟩ := HS.form 7 rfl
 obtain ⟨B44, d44, rfl, m44⟩ := HS.form 8 rfl
 obtain ⟨B51, d51, rfl, m51⟩ := HS.form 9 rfl
 obtain ⟨B55, d55, rfl, m55⟩ := HS.form 10 rfl
 obtain ⟨B58, d58, rfl, m58⟩ := HS.form 11 rfl
 obtain ⟨B60, d60, rfl, m60⟩ := HS.form 12 rfl
 obtain ⟨B63, d63, rfl, m63⟩ := HS.form 13 rfl
 obtain ⟨B66, d66, rfl, m66⟩ := HS.form 14 rfl
 have F := HS.boxes; simp only [bxn] at F
 refine norm_ (a' := ?_) ?_ ?_
 rotate_left
 · simp only [putAll, Act.put, ptn]; rfl
 refine done_ (done_of HT.out (by kernel_rfl)) ?_
 replace H := zbind H; obtain ⟨t14, ht14, H⟩ := H
 replace H := zbind H; obtain ⟨t25, ht25, H⟩ := H
 replace H := zbind H; obtain ⟨t34, ht34, H⟩ := H
 replace H := zbind H; obtain ⟨t45, ht45, H⟩ := H
 replace H := znifb H; rcases H with ⟨c47, H⟩ | ⟨c47, H⟩
 case inl =>
  subst c47
  obtain rfl := zsome H
  go_wp2_with (first | ((with_reducible refine gd 36 rfl ?_); refine ev_cl5 HS (laws_toServer.calls ht14.out (HS.ro gp0) lp0 (HS.ro gp1) lp1 (HS.ro gp2) lp2 (HS.ro gp3) lp3 (HS.ro gp4) lp4) Tryz.func18 ?_; clear HS; intro v15 v16 v17 v18 v19 wt14 HS F; obtain ⟨B15, d15, rfl, m15⟩ := HS.form 16 rfl; obtain ⟨B16, d16, rfl, m16⟩ := HS.form 17 rfl; obtain ⟨B17, d17, rfl, m17⟩ := HS.form 18 rfl; obtain ⟨B18, d18, rfl, m18⟩ := HS.form 19 rfl; obtain ⟨B19, d19, rfl, m19⟩ := HS.form 20 rfl) | ((with_reducible refine gd 8 rfl ?_); refine ev_bx HS ?_; clear HS; intro g8 w8 HS F) | ((with_reducible refine gate_store (p := 8) rfl ?_); refine ev_st 21 0 HS (seg := [.slice B15 t14.f0.f0.length d15, .slice B16 t14.f0.f1.length d16, .slice B17 t14.f0.f2.length d17, .slice B18 t14.f1.length d18, .int .i64 t14.f2, .int .i64 t14.f3, .int .i64 t14.f4, .slice B19 t14.f5.length d19]) ?_; clear HS; intro w23 HS F) | ((with_reducible refine gd 38 rfl ?_); refine ev_cl3 HS (laws_toCert.calls ht25.out (HS.ro gp5) lp5 (HS.ro gp6) lp6 (HS.ro gp7) lp7) Tryz.func36 ?_; clear HS; intro v26 v27 v28 wt25 HS F; obtain ⟨B26, d26, rfl, m26⟩ := HS.form 22 rfl; obtain ⟨B27, d27, rfl, m27⟩ := HS.form 23 rfl; obtain ⟨B28, d28, rfl, m28⟩ := HS.form 24 rfl) | ((with_reducible refine gd 9 rfl ?_); refine ev_bx HS ?_; clear HS; intro g9 w9 HS F) | ((with_reducible refine gate_store (p := 9) rfl ?_); refine ev_st 25 0 HS (seg := [.int .i64 t25.f0, .string t25.f1, .string t25.f2, .int .i64 t25.f3, .int .i64 t25.f4, .string t25.f5, .bool t25.f6, .int .i64 t25.f7, .int .i64 t25.f8, .slice B26 t25.f9.length d26, .slice B27 t25.f10.length d27, .slice B28 t25.f11.length d28, .string t25.f12]) ?_; clear HS; intro w32 HS F) | ((with_reducible refine gd 42 rfl ?_); refine ev_cl5 HS (impl_Learn.calls ht34.out (HS.rd 16 rfl) m15 (HS.rd 17 rfl) m16 (HS.rd 18 rfl) m17 (HS.rd 19 rfl) m18 (HS.rd 20 rfl) m19 (HS.rd 22 rfl) m26 (HS.rd 23 rfl) m27 (HS.rd 24 rfl) m28 (HS.keepc hgM)) Tryz.func50 ?_; clear HS; intro v35 v36 v37 v38 v39 wt34 HS F; obtain ⟨B35, d35, rfl, m35⟩ := HS.form 26 rfl; obtain ⟨B36, d36, rfl, m36⟩ := HS.form 27 rfl; obtain ⟨B37, d37, rfl, m37⟩ := HS.form 28 rfl; obtain ⟨B38, d38, rfl, m38⟩ := HS.form 29 rfl; obtain ⟨B39, d39, rfl, m39⟩ := HS.form 30 rfl) | ((with_reducible refine gd 10 rfl ?_); refine ev_bx HS ?_; clear HS; intro g10 w10 HS F) | ((with_reducible refine gate_store (p := 10) rfl ?_); refine ev_st 31 0 HS (seg := [.slice B35 t34.1.f0.f0.length d35, .slice B36 t34.1.f0.f1.length d36, .slice B37 t34.1.f0.f2.length d37, .slice B38 t34.1.f1.length d38, .int .i64 t34.1.f2, .int .i64 t34.1.f3, .int .i64 t34.1.f4, .slice B39 t34.1.f5.length d39]) ?_; clear HS; intro w43 HS F) | ((with_reducible refine gd 47 rfl ?_); refine ev_cl HS (laws_eqServer.calls ht45.out (HS.rd 26 rfl) m35 (HS.rd 27 rfl) m36 (HS.rd 28 rfl) m37 (HS.rd 29 rfl) m38 (HS.rd 30 rfl) m39 (HS.rd 10 rfl) m55 (HS.rd 11 rfl) m58 (HS.rd 12 rfl) m60 (HS.rd 13 rfl) m63 (HS.rd 14 rfl) m66) Tryz.func20 ?_; clear HS; intro wt45 HS F))
  go_ret
  exact HS.pk
 subst c47
 go_upto_if 53 with (first | ((with_reducible refine gd 36 rfl ?_); refine ev_cl5 HS (laws_toServer.calls ht14.out (HS.ro gp0) lp0 (HS.ro gp1) lp1 (HS.ro gp2) lp2 (HS.ro gp3) lp3 (HS.ro gp4) lp4) Tryz.func18 ?_; clear HS; intro v15 v16 v17 v18 v19 wt14 HS F; obtain ⟨B15, d15, rfl, m15⟩ := HS.form 16 rfl; obtain ⟨B16, d16, rfl, m16⟩ := HS.form 17 rfl; obtain ⟨B17, d17, rfl, m17⟩ := HS.form 18 rfl; obtain ⟨B18, d18, rfl, m18⟩ := HS.form 19 rfl; obtain ⟨B19, d19, rfl, m19⟩ := HS.form 20 rfl) | ((with_reducible refine gd 8 rfl ?_); refine ev_bx HS ?_; clear HS; intro g8 w8 HS F) | ((with_reducible refine gate_store (p := 8) rfl ?_); refine ev_st 21 0 HS (seg := [.slice B15 t14.f0.f0.length d15, .slice B16 t14.f0.f1.length d16, .slice B17 t14.f0.f2.length d17, .slice B18 t14.f1.length d18, .int .i64 t14.f2, .int .i64 t14.f3, .int .i64 t14.f4, .slice B19 t14.f5.length d19]) ?_; clear HS; intro w23 HS F) | ((with_reducible refine gd 38 rfl ?_); refine ev_cl3 HS (laws_toCert.calls ht25.out (HS.ro gp5) lp5 (HS.ro gp6) lp6 (HS.ro gp7) lp7) Tryz.func36 ?_; clear HS; intro v26 v27 v28 wt25 HS F; obtain ⟨B26, d26, rfl, m26⟩ := HS.form 22 rfl; obtain ⟨B27, d27, rfl, m27⟩ := HS.form 23 rfl; obtain ⟨B28, d28, rfl, m28⟩ := HS.form 24 rfl) | ((with_reducible refine gd 9 rfl ?_); refine ev_bx HS ?_; clear HS; intro g9 w9 HS F) | ((with_reducible refine gate_store (p := 9) rfl ?_); refine ev_st 25 0 HS (seg := [.int .i64 t25.f0, .string t25.f1, .string t25.f2, .int .i64 t25.f3, .int .i64 t25.f4, .string t25.f5, .bool t25.f6, .int .i64 t25.f7, .int .i64 t25.f8, .slice B26 t25.f9.length d26, .slice B27 t25.f10.length d27, .slice B28 t25.f11.length d28, .string t25.f12]) ?_; clear HS; intro w32 HS F) | ((with_reducible refine gd 42 rfl ?_); refine ev_cl5 HS (impl_Learn.calls ht34.out (HS.rd 16 rfl) m15 (HS.rd 17 rfl) m16 (HS.rd 18 rfl) m17 (HS.rd 19 rfl) m18 (HS.rd 20 rfl) m19 (HS.rd 22 rfl) m26 (HS.rd 23 rfl) m27 (HS.rd 24 rfl) m28 (HS.keepc hgM)) Tryz.func50 ?_; clear HS; intro v35 v36 v37 v38 v39 wt34 HS F; obtain ⟨B35, d35, rfl, m35⟩ := HS.form 26 rfl; obtain ⟨B36, d36, rfl, m36⟩ := HS.form 27 rfl; obtain ⟨B37, d37, rfl, m37⟩ := HS.form 28 rfl; obtain ⟨B38, d38, rfl, m38⟩ := HS.form 29 rfl; obtain ⟨B39, d39, rfl, m39⟩ := HS.form 30 rfl) | ((with_reducible refine gd 10 rfl ?_); refine ev_bx HS ?_; clear HS; intro g10 w10 HS F) | ((with_reducible refine gate_store (p := 10) rfl ?_); refine ev_st 31 0 HS (seg := [.slice B35 t34.1.f0.f0.length d35, .slice B36 t34.1.f0.f1.length d36, .slice B37 t34.1.f0.f2.length d37, .slice B38 t34.1.f1.length d38, .int .i64 t34.1.f2, .int .i64 t34.1.f3, .int .i64 t34.1.f4, .slice B39 t34.1.f5.length d39]) ?_; clear HS; intro w43 HS F) | ((with_reducible refine gd 47 rfl ?_); refine ev_cl HS (laws_eqServer.calls ht45.out (HS.rd 26 rfl) m35 (HS.rd 27 rfl) m36 (HS.rd 28 rfl) m37 (HS.rd 29 rfl) m38 (HS.rd 30 rfl) m39 (HS.rd 10 rfl) m55 (HS.rd 11 rfl) m58 (HS.rd 12 rfl) m60 (HS.rd 13 rfl) m63 (HS.rd 14 rfl) m66) Tryz.func20 ?_; clear HS; intro wt45 HS F))
 replace H := znif' H; rcases H with ⟨c48, H⟩ | ⟨c48, H⟩
 case inl =>
  have c48a := beq_eq_false_iff_ne.mpr c48
  have c48b := bne_iff_ne.mpr c48
  clear c48
  (try simp only [c48a, c48b, dcn])
  obtain rfl := zsome H
  go_wp2
  go_ret
  exact HS.pk
 have c48a := beq_iff_eq.mpr c48
 have c48b := bne_eq_false_iff_eq.mpr c48
 clear c48
 (try simp only [c48a, c48b, dcn])
 (try go_wp2)
 replace H := zbind H; obtain ⟨t73, ht73, H⟩ := H
 replace H := zbind H; obtain ⟨t86, ht86, H⟩ := H
 refine dr_start [] HS #[false, false, false, false, false] (by kernel_rfl) rfl rfl laws_FnExactLearn.tT14 (fun w50 HT HS HH => ?_)
 (try clear F)
 refine drq_of [(0, some 54), (1, some 55)] ?_
 repeat (refine drt HT HH ?_)
 refine drq_end ?_
 refine dr1 2 HT fun K hK => ?_
 refine go_cl5 HS (laws_toServer.calls ht73.out (HS.ro gp0) lp0 (HS.ro gp1) lp1 (HS.ro gp2) lp2 (HS.ro gp3) lp3 (HS.ro gp4) lp4) Tryz.func18 ?_; clear HS; intro v79 v82 v83 v84 v85 wt73 HS F; obtain ⟨B79, d79, rfl, m79⟩ := HS.form 32 rfl; obtain ⟨B82, d82, rfl, m82⟩ := HS.form 33 rfl; obtain ⟨B83, d83, rfl, m83⟩ := HS.form 34 rfl; obtain ⟨B84, d84, rfl, m84⟩ := HS.form 35 rfl; obtain ⟨B85, d85, rfl, m85⟩ := HS.form 36 rfl
 refine nrm 56 hK ⟨_, HS⟩ (fun HH => ?_); clear hK K
 refine dr1 3 HT fun K hK => ?_
 refine go_cl HS (laws_eqServer.calls ht86.out (HS.rd 16 rfl) m15 (HS.rd 17 rfl) m16 (HS.rd 18 rfl) m17 (HS.rd 19 rfl) m18 (HS.rd 20 rfl) m19 (HS.rd 32 rfl) m79 (HS.rd 33 rfl) m82 (HS.rd 34 rfl) m83 (HS.rd 35 rfl) m84 (HS.rd 36 rfl) m85) Tryz.func20 ?_; clear HS; intro wt86 HS F
 refine nrm 57 hK ⟨_, HS⟩ (fun HH => ?_); clear hK K
 refine drq_of [(4, some 58)] ?_
 repeat (refine drp HT ?_)
 refine drq_end ?_
 refine done_ (done_of HT.out (by kernel_rfl)) ?_
 (try clear F)
 have F := HS.boxes; simp only [bxn] at F
 replace H := znifb H; rcases H with ⟨c52, H⟩ | ⟨c52, H⟩
 case inl =>
  subst c52
  (try simp only [dcn, dcu, dcf])
  obtain rfl := zsome H
  go_wp2
  go_ret
  exact HS.pk
 subst c52
 (try simp only [dcn, dcu, dcf])
 (try go_wp2)
 replace H := zbind H; obtain ⟨t87, ht87, H⟩ := H
 replace H := zbind H; obtain ⟨t93, ht93, H⟩ := H
 refine dr_start [] HS #[false, false, false, false, false] (by kernel_rfl) rfl rfl laws_FnExactLearn.tT16 (fun w54 HT HS HH => ?_)
 (try clear F)
 refine drq_of [(0, some 59), (1, some 60)] ?_
 repeat (refine drt HT HH ?_)
 refine drq_end ?_
 refine dr1 2 HT fun K hK => ?_
 refine go_cl3 HS (laws_toCert.calls ht87.out (HS.ro gp5) lp5 (HS.ro gp6) lp6 (HS.ro gp7) lp7) Tryz.func36 ?_; clear HS; intro v89 v90 v92 wt87 HS F; obtain ⟨B89, d89, rfl, m89⟩ := HS.form 37 rfl; obtain ⟨B90, d90, rfl, m90⟩ := HS.form 38 rfl; obtain ⟨B92, d92, rfl, m92⟩ := HS.form 39 rfl
 refine nrm 61 hK ⟨_, HS⟩ (fun HH => ?_); clear hK K
 refine dr1 3 HT fun K hK => ?_
 refine go_cl HS (laws_eqCert.calls ht93.out (HS.rd 22 rfl) m26 (HS.rd 23 rfl) m27 (HS.rd 24 rfl) m28 (HS.rd 37 rfl) m89 (HS.rd 38 rfl) m90 (HS.rd 39 rfl) m92) Tryz.func38 ?_; clear HS; intro wt93 HS F
 refine nrm 62 hK ⟨_, HS⟩ (fun HH => ?_); clear hK K
 refine drq_of [(4, some 63)] ?_
 repeat (refine drp HT ?_)
 refine drq_end ?_
 refine done_ (done_of HT.out (by kernel_rfl)) ?_
 (try clear F)
 have F := HS.boxes; simp only [bxn] at F
 replace H := znifb H; rcases H with ⟨c56, H⟩ | ⟨c56, H⟩
 case inl =>
  subst c56
  (try simp only [dcn, dcu, dcf])
  obtain rfl := zsome H
  go_wp2
  go_ret
  exact HS.pk
 subst c56
 (try simp only [dcn, dcu, dcf])
 replace H := zbind H; obtain ⟨t57, ht57, H⟩ := H
 replace H := zbind H; obtain ⟨t59, ht59, H⟩ := H
 replace H := zif H; rcases H with ⟨c61, H⟩ | ⟨c61, H⟩
 case inl =>
  obtain rfl := zsome H
  go_wp2_with (first | ((with_reducible refine gd 66 rfl ?_); refine HS.lend [16, 17, 18, 19, 20] (by decide) [.own (Zd.slice 91 q91) t14.f0.f0 [.slice B15 t14.f0.f0.length d15], .own (Zd.slice 81 q81) t14.f0.f1 [.slice B16 t14.f0.f1.length d16], .own (Zd.slice 115 q115) t14.f0.f2 [.slice B17 t14.f0.f2.length d17], .own (Zd.slice 202 q202) t14.f1 [.slice B18 t14.f1.length d18], .own (Zd.slice 205 q205) t14.f5 [.slice B19 t14.f5.length d19]] rfl (fun A' HL HD HA HB => ?_); refine ev_lc (laws_markServer.calls ht57.out HA) (fun _ HQ => HB _ _ HQ (Nat.le_of_ble_eq_true rfl)) Tryz.func47 ?_; clear HS HA HB HL HD; intro wt57 HS F) | ((with_reducible refine gd 69 rfl ?_); refine HS.lend [22, 23, 24] (by decide) [.own (Zd.slice 3 (Zd.int .i64)) t25.f9 [.slice B26 t25.f9.length d26], .own (Zd.slice 9 Zd.string) t25.f10 [.slice B27 t25.f10.length d27], .own (Zd.slice 9 Zd.string) t25.f11 [.slice B28 t25.f11.length d28]] rfl (fun A' HL HD HA HB => ?_); refine ev_lc (laws_markCert.calls ht59.out HA) (fun _ HQ => HB _ _ HQ (Nat.le_of_ble_eq_true rfl)) Tryz.func39 ?_; clear HS HA HB HL HD; intro wt59 HS F))
  go_ret
  exact HS.pk
 replace H := zbind H; obtain ⟨t62, ht62, H⟩ := H
 replace H := znifb H; rcases H with ⟨c64, H⟩ | ⟨c64, H⟩
 case inl =>
  subst c64
  obtain rfl := zsome H
  go_wp2_with (first | ((with_reducible refine gd 66 rfl ?_); refine HS.lend [16, 17, 18, 19, 20] (by decide) [.own (Zd.slice 91 q91) t14.f0.f0 [.slice B15 t14.f0.f0.length d15], .own (Zd.slice 81 q81) t14.f0.f1 [.slice B16 t14.f0.f1.length d16], .own (Zd.slice 115 q115) t14.f0.f2 [.slice B17 t14.f0.f2.length d17], .own (Zd.slice 202 q202) t14.f1 [.slice B18 t14.f1.length d18], .own (Zd.slice 205 q205) t14.f5 [.slice B19 t14.f5.length d19]] rfl (fun A' HL HD HA HB => ?_); refine ev_lc (laws_markServer.calls ht57.out HA) (fun _ HQ => HB _ _ HQ (Nat.le_of_ble_eq_true rfl)) Tryz.func47 ?_; clear HS HA HB HL HD; intro wt57 HS F) | ((with_reducible refine gd 69 rfl ?_); refine HS.lend [22, 23, 24] (by decide) [.own (Zd.slice 3 (Zd.int .i64)) t25.f9 [.slice B26 t25.f9.length d26], .own (Zd.slice 9 Zd.string) t25.f10 [.slice B27 t25.f10.length d27], .own (Zd.slice 9 Zd.string) t25.f11 [.slice B28 t25.f11.length d28]] rfl (fun A' HL HD HA HB => ?_); refine ev_lc (laws_markCert.calls ht59.out HA) (fun _ HQ => HB _ _ HQ (Nat.le_of_ble_eq_true rfl)) Tryz.func39 ?_; clear HS HA HB HL HD; intro wt59 HS F) | ((with_reducible refine gd 75 rfl ?_); refine gg ?_; refine ev_cl HS (laws_eqServer.calls ht62.out (HS.rd 26 rfl) m35 (HS.rd 27 rfl) m36 (HS.rd 28 rfl) m37 (HS.rd 29 rfl) m38 (HS.rd 30 rfl) m39 (HS.rd 10 rfl) m55 (HS.rd 11 rfl) m58 (HS.rd 12 rfl) m60 (HS.rd 13 rfl) m63 (HS.rd 14 rfl) m66) Tryz.func20 ?_; clear HS; intro wt62 HS F))
  go_ret
  exact HS.pk
 subst c64
 replace H := zbind H; obtain ⟨t65, ht65, H⟩ := H
 replace H := zbind H; obtain ⟨t67, ht67, H⟩ := H
 go_upto_if 90 with (first | ((with_reducible refine gd 66 rfl ?_); refine HS.lend [16, 17, 18, 19, 20] (by decide) [.own (Zd.slice 91 q91) t14.f0.f0 [.slice B15 t14.f0.f0.length d15], .own (Zd.slice 81 q81) t14.f0.f1 [.slice B16 t14.f0.f1.length d16], .own (Zd.slice 115 q115) t14.f0.f2 [.slice B17 t14.f0.f2.length d17], .own (Zd.slice 202 q202) t14.f1 [.slice B18 t14.f1.length d18], .own (Zd.slice 205 q205) t14.f5 [.slice B19 t14.f5.length d19]] rfl (fun A' HL HD HA HB => ?_); refine ev_lc (laws_markServer.calls ht57.out HA) (fun _ HQ => HB _ _ HQ (Nat.le_of_ble_eq_true rfl)) Tryz.func47 ?_; clear HS HA HB HL HD; intro wt57 HS F) | ((with_reducible refine gd 69 rfl ?_); refine HS.lend [22, 23, 24] (by decide) [.own (Zd.slice 3 (Zd.int .i64)) t25.f9 [.slice B26 t25.f9.length d26], .own (Zd.slice 9 Zd.string) t25.f10 [.slice B27 t25.f10.length d27], .own (Zd.slice 9 Zd.string) t25.f11 [.slice B28 t25.f11.length d28]] rfl (fun A' HL HD HA HB => ?_); refine ev_lc (laws_markCert.calls ht59.out HA) (fun _ HQ => HB _ _ HQ (Nat.le_of_ble_eq_true rfl)) Tryz.func39 ?_; clear HS HA HB HL HD; intro wt59 HS F) | ((with_reducible refine gd 75 rfl ?_); refine gg ?_; refine ev_cl HS (laws_eqServer.calls ht62.out (HS.rd 26 rfl) m35 (HS.rd 27 rfl) m36 (HS.rd 28 rfl) m37 (HS.rd 29 rfl) m38 (HS.rd 30 rfl) m39 (HS.rd 10 rfl) m55 (HS.rd 11 rfl) m58 (HS.rd 12 rfl) m60 (HS.rd 13 rfl) m63 (HS.rd 14 rfl) m66) Tryz.func20 ?_; clear HS; intro wt62 HS F) | ((with_reducible refine gd 85 rfl ?_); refine HS.lend [26, 27, 28, 29, 30] (by decide) [.own (Zd.slice 91 q91) t34.1.f0.f0 [.slice B35 t34.1.f0.f0.length d35], .own (Zd.slice 81 q81) t34.1.f0.f1 [.slice B36 t34.1.f0.f1.length d36], .own (Zd.slice 115 q115) t34.1.f0.f2 [.slice B37 t34.1.f0.f2.length d37], .own (Zd.slice 202 q202) t34.1.f1 [.slice B38 t34.1.f1.length d38], .own (Zd.slice 205 q205) t34.1.f5 [.slice B39 t34.1.f5.length d39]] rfl (fun A' HL HD HA HB => ?_); refine ev_lc (laws_markServer.calls ht65.out HA) (fun _ HQ => HB _ _ HQ (Nat.le_of_ble_eq_true rfl)) Tryz.func47 ?_; clear HS HA HB HL HD; intro wt65 HS F) | ((with_reducible refine gd 88 rfl ?_); refine ev_cl HS (laws_heldServer.calls ht67.out (HS.rd 26 rfl) m35 (HS.rd 27 rfl) m36 (HS.rd 28 rfl) m37 (HS.rd 29 rfl) m38 (HS.rd 30 rfl) m39) Tryz.func48 ?_; clear HS; intro wt67 HS F))
 replace H := zif H; rcases H with ⟨c69, H⟩ | ⟨c69, H⟩
 case inl =>
  (try simp only [c69, dcn])
  obtain rfl := zsome H
  go_wp2
  go_ret
  exact HS.pk
 (try simp only [c69, dcn])
 replace H := znif' H; rcases H with ⟨c70, H⟩ | ⟨c70, H⟩
 case inl =>
  have c70a := beq_eq_false_iff_ne.mpr c70
  have c70b := bne_iff_ne.mpr c70
  clear c70
  (try simp only [c70a, c70b, dcn])
  obtain rfl := zsome H
  go_wp2
  go_ret
  exact HS.pk
 have c70a := beq_iff_eq.mpr c70
 have c70b := bne_eq_false_iff_eq.mpr c70
 clear c70
 (try simp only [c70a, c70b, dcn])
 (try go_wp2)
 replace H := zbind H; obtain ⟨t94, ht94, H⟩ := H
 replace H := zbind H; obtain ⟨t100, ht100, H⟩ := H
 replace H := zbind H; obtain ⟨t104, ht104, H⟩ := H
 refine dr_start [9] HS #[false, false, false, false, false, false, false, false, false, false, false] (by kernel_rfl) rfl rfl laws_FnExactLearn.tT31 (fun w72 HT HS HH => ?_)
 (try clear F)
 refine join_ 0 #[true, true, true, true, true, true, true, true, true, true, true] (fun ((v95, v96, v97, v98, v99, v101, v102, v103, v105, v106, v107, v108, v109, g15) : Value × Value × Value × Value × Value × Value × Value × Value × Value × Value × Value × Value × Value × Nat) => ([(95, .agg #[.slice Ap0 a0.f0.f0.length cp0, .slice Ap1 a0.f0.f1.length cp1, .slice Ap2 a0.f0.f2.length cp2, .slice Ap3 a0.f1.length cp3, .int .i64 a0.f2, .int .i64 a0.f3, .int .i64 a0.f4, .slice Ap4 a0.f5.length cp4]), (96, .agg #[v95, v96, v97, v98, .int .i64 t94.f2, .int .i64 t94.f3, .int .i64 t94.f4, v99]), (97, .agg #[.int .i64 a1.f0, .string a1.f1, .string a1.f2, .int .i64 a1.f3, .int .i64 a1.f4, .string a1.f5, .bool a1.f6, .int .i64 a1.f7, .int .i64 a1.f8, .slice Ap5 a1.f9.length cp5, .slice Ap6 a1.f10.length cp6, .slice Ap7 a1.f11.length cp7, .string a1.f12]), (98, .agg #[.int .i64 t100.f0, .string t100.f1, .string t100.f2, .int .i64 t100.f3, .int .i64 t100.f4, .string t100.f5, .bool t100.f6, .int .i64 t100.f7, .int .i64 t100.f8, v101, v102, v103, .string t100.f12]), (99, .tuple #[.agg #[v105, v106, v107, v108, .int .i64 t104.1.f2, .int .i64 t104.1.f3, .int .i64 t104.1.f4, v109], .bool t104.2]), (94, .tuple #[.agg #[v105, v106, v107, v108, .int .i64 t104.1.f2, .int .i64 t104.1.f3, .int .i64 t104.1.f4, v109], .bool t104.2]), (100, .agg #[v105, v106, v107, v108, .int .i64 t104.1.f2, .int .i64 t104.1.f3, .int .i64 t104.1.f4, v109]), (101, .bool t104.2), (15, .pointer (some ⟨g15, 0, none⟩)), (16, .bool t104.2)] : List (Tmp × Value))) (fun ((v95, v96, v97, v98, v99, v101, v102, v103, v105, v106, v107, v108, v109, g15) : Value × Value × Value × Value × Value × Value × Value × Value × Value × Value × Value × Value × Value × Nat) w' => Hp noFP w w' [.box g2 [.slice Ap0 a0.f0.f0.length cp0, .slice Ap1 a0.f0.f1.length cp1, .slice Ap2 a0.f0.f2.length cp2, .slice Ap3 a0.f1.length cp3, .int .i64 a0.f2, .int .i64 a0.f3, .int .i64 a0.f4, .slice Ap4 a0.f5.length cp4] 40, .box g3 [.int .i64 a1.f0, .string a1.f1, .string a1.f2, .int .i64 a1.f3, .int .i64 a1.f4, .string a1.f5, .bool a1.f6, .int .i64 a1.f7, .int .i64 a1.f8, .slice Ap5 a1.f9.length cp5, .slice Ap6 a1.f10.length cp6, .slice Ap7 a1.f11.length cp7, .string a1.f12] 88, .own (Zd.slice 91 q91) t13.f0.f0 [.slice B21 t13.f0.f0.length d21], .own (Zd.slice 81 q81) t13.f0.f1 [.slice B22 t13.f0.f1.length d22], .own (Zd.slice 115 q115) t13.f0.f2 [.slice B24 t13.f0.f2.length d24], .own (Zd.slice 202 q202) t13.f1 [.slice B29 t13.f1.length d29], .own (Zd.slice 205 q205) t13.f5 [.slice B30 t13.f5.length d30], .own (Zd.slice 3 (Zd.int .i64)) t41.f9 [.slice B42 t41.f9.length d42], .own (Zd.slice 9 Zd.string) t41.f10 [.slice B44 t41.f10.length d44], .own (Zd.slice 9 Zd.string) t41.f11 [.slice B51 t41.f11.length d51], .own (Zd.slice 91 q91) t53.1.f0.f0 [.slice B55 t53.1.f0.f0.length d55], .own (Zd.slice 81 q81) t53.1.f0.f1 [.slice B58 t53.1.f0.f1.length d58], .own (Zd.slice 115 q115) t53.1.f0.f2 [.slice B60 t53.1.f0.f2.length d60], .own (Zd.slice 202 q202) t53.1.f1 [.slice B63 t53.1.f1.length d63], .own (Zd.slice 205 q205) t53.1.f5 [.slice B66 t53.1.f5.length d66], .box g6 [.slice B55 t53.1.f0.f0.length d55, .slice B58 t53.1.f0.f1.length d58, .slice B60 t53.1.f0.f2.length d60, .slice B63 t53.1.f1.length d63, .int .i64 t53.1.f2, .int .i64 t53.1.f3, .int .i64 t53.1.f4, .slice B66 t53.1.f5.length d66] 46, .own (Zd.slice 91 q91) t57.2.1 [.slice B15 t14.f0.f0.length d15], .own (Zd.slice 81 q81) t57.2.2.1 [.slice B16 t14.f0.f1.length d16], .own (Zd.slice 115 q115) t57.2.2.2.1 [.slice B17 t14.f0.f2.length d17], .own (Zd.slice 202 q202) t57.2.2.2.2.1 [.slice B18 t14.f1.length d18], .own (Zd.slice 205 q205) t57.2.2.2.2.2 [.slice B19 t14.f5.length d19], .box g8 [.slice B15 t14.f0.f0.length d15, .slice B16 t14.f0.f1.length d16, .slice B17 t14.f0.f2.length d17, .slice B18 t14.f1.length d18, .int .i64 t14.f2, .int .i64 t14.f3, .int .i64 t14.f4, .slice B19 t14.f5.length d19] 46, .own (Zd.slice 3 (Zd.int .i64)) t59.2.1 [.slice B26 t25.f9.length d26], .own (Zd.slice 9 Zd.string) t59.2.2.1 [.slice B27 t25.f10.length d27], .own (Zd.slice 9 Zd.string) t59.2.2.2 [.slice B28 t25.f11.length d28], .box g9 [.int .i64 t25.f0, .string t25.f1, .string t25.f2, .int .i64 t25.f3, .int .i64 t25.f4, .string t25.f5, .bool t25.f6, .int .i64 t25.f7, .int .i64 t25.f8, .slice B26 t25.f9.length d26, .slice B27 t25.f10.length d27, .slice B28 t25.f11.length d28, .string t25.f12] 91, .own (Zd.slice 91 q91) t65.2.1 [.slice B35 t34.1.f0.f0.length d35], .own (Zd.slice 81 q81) t65.2.2.1 [.slice B36 t34.1.f0.f1.length d36], .own (Zd.slice 115 q115) t65.2.2.2.1 [.slice B37 t34.1.f0.f2.length d37], .own (Zd.slice 202 q202) t65.2.2.2.2.1 [.slice B38 t34.1.f1.length d38], .own (Zd.slice 205 q205) t65.2.2.2.2.2 [.slice B39 t34.1.f5.length d39], .box g10 [.slice B35 t34.1.f0.f0.length d35, .slice B36 t34.1.f0.f1.length d36, .slice B37 t34.1.f0.f2.length d37, .slice B38 t34.1.f1.length d38, .int .i64 t34.1.f2, .int .i64 t34.1.f3, .int .i64 t34.1.f4, .slice B39 t34.1.f5.length d39] 46, .own (Zd.slice 91 q91) t73.f0.f0 [.slice B79 t73.f0.f0.length d79], .own (Zd.slice 81 q81) t73.f0.f1 [.slice B82 t73.f0.f1.length d82], .own (Zd.slice 115 q115) t73.f0.f2 [.slice B83 t73.f0.f2.length d83], .own (Zd.slice 202 q202) t73.f1 [.slice B84 t73.f1.length d84], .own (Zd.slice 205 q205) t73.f5 [.slice B85 t73.f5.length d85], .own (Zd.slice 3 (Zd.int .i64)) t87.f9 [.slice B89 t87.f9.length d89], .own (Zd.slice 9 Zd.string) t87.f10 [.slice B90 t87.f10.length d90], .own (Zd.slice 9 Zd.string) t87.f11 [.slice B92 t87.f11.length d92], .own (Zd.slice 91 q91) t94.f0.f0 [v95], .own (Zd.slice 81 q81) t94.f0.f1 [v96], .own (Zd.slice 115 q115) t94.f0.f2 [v97], .own (Zd.slice 202 q202) t94.f1 [v98], .own (Zd.slice 205 q205) t94.f5 [v99], .own (Zd.slice 3 (Zd.int .i64)) t100.f9 [v101], .own (Zd.slice 9 Zd.string) t100.f10 [v102], .own (Zd.slice 9 Zd.string) t100.f11 [v103], .own (Zd.slice 91 q91) t104.1.f0.f0 [v105], .own (Zd.slice 81 q81) t104.1.f0.f1 [v106], .own (Zd.slice 115 q115) t104.1.f0.f2 [v107], .own (Zd.slice 202 q202) t104.1.f1 [v108], .own (Zd.slice 205 q205) t104.1.f5 [v109], .box g15 [v105, v106, v107, v108, .int .i64 t104.1.f2, .int .i64 t104.1.f3, .int .i64 t104.1.f4, v109] 46]) ?_ ?_
 rotate_left
 · intro hJ
   refine drq_of [(0, some 95), (2, some 97)] ?_
   repeat (refine drt HT HH ?_)
   refine drq_end ?_
   refine dr_any [1, 8] HT (by kernel_rfl) (by decide) (AllReadyL.cons rfl (by decide) (fun K hK => ?_) (AllReadyL.cons rfl (by decide) (fun K hK => ?_) AllReadyL.nil))
   · refine go_cl5 HS (laws_toServer.calls ht94.out (HS.ro gp0) lp0 (HS.ro gp1) lp1 (HS.ro gp2) lp2 (HS.ro gp3) lp3 (HS.ro gp4) lp4) Tryz.func18 ?_; clear HS; intro v95 v96 v97 v98 v99 wt94 HS F; obtain ⟨B95, d95, rfl, m95⟩ := HS.form 40 rfl; obtain ⟨B96, d96, rfl, m96⟩ := HS.form 41 rfl; obtain ⟨B97, d97, rfl, m97⟩ := HS.form 42 rfl; obtain ⟨B98, d98, rfl, m98⟩ := HS.form 43 rfl; obtain ⟨B99, d99, rfl, m99⟩ := HS.form 44 rfl
     refine nrm 96 hK ⟨_, HS⟩ (fun HH => ?_); clear hK K
     refine dr_any [3, 8] HT (by kernel_rfl) (by decide) (AllReadyL.cons rfl (by decide) (fun K hK => ?_) (AllReadyL.cons rfl (by decide) (fun K hK => ?_) AllReadyL.nil))
     · refine go_cl3 HS (laws_toCert.calls ht100.out (HS.ro gp5) lp5 (HS.ro gp6) lp6 (HS.ro gp7) lp7) Tryz.func36 ?_; clear HS; intro v101 v102 v103 wt100 HS F; obtain ⟨B101, d101, rfl, m101⟩ := HS.form 45 rfl; obtain ⟨B102, d102, rfl, m102⟩ := HS.form 46 rfl; obtain ⟨B103, d103, rfl, m103⟩ := HS.form 47 rfl
       refine nrm 98 hK ⟨_, HS⟩ (fun HH => ?_); clear hK K
       refine dr_any [4, 8] HT (by kernel_rfl) (by decide) (AllReadyL.cons rfl (by decide) (fun K hK => ?_) (AllReadyL.cons rfl (by decide) (fun K hK => ?_) AllReadyL.nil))
       · refine go_cl5 HS (impl_Learn.calls ht104.out (HS.rd 40 rfl) m95 (HS.rd 41 rfl) m96 (HS.rd 42 rfl) m97 (HS.rd 43 rfl) m98 (HS.rd 44 rfl) m99 (HS.rd 45 rfl) m101 (HS.rd 46 rfl) m102 (HS.rd 47 rfl) m103 (HS.keepc hgM)) Tryz.func50 ?_; clear HS; intro v105 v106 v107 v108 v109 wt104 HS F; obtain ⟨B105, d105, rfl, m105⟩ := HS.form 48 rfl; obtain ⟨B106, d106, rfl, m106⟩ := HS.form 49 rfl; obtain ⟨B107, d107, rfl, m107⟩ := HS.form 50 rfl; obtain ⟨B108, d108, rfl, m108⟩ := HS.form 51 rfl; obtain ⟨B109, d109, rfl, m109⟩ := HS.form 52 rfl
         refine nrm 99 hK ⟨_, HS⟩ (fun HH => ?_); clear hK K
         refine drq_of [(5, some 94), (6, some 100), (7, some 101)] ?_
         repeat (refine drp HT ?_)
         refine drq_end ?_
         refine dr1 8 HT fun K hK => ?_
         refine if_bx HS ?_; clear HS; intro g15 w15 HS F
         refine nrm 15 hK ⟨_, HS⟩ (fun HH => ?_); clear hK K
         refine dr_last 9 HT rfl (by kernel_rfl) (by decide) (fun K hK => ?_)
         refine if_st 53 0 HS (seg := [.slice B105 t104.1.f0.f0.length d105, .slice B106 t104.1.f0.f1.length d106, .slice B107 t104.1.f0.f2.length d107, .slice B108 t104.1.f1.length d108, .int .i64 t104.1.f2, .int .i64 t104.1.f3, .int .i64 t104.1.f4, .slice B109 t104.1.f5.length d109]) ?_; clear HS; intro w110 HS F
         refine hK.out _ _ ?_
         clear hK K
         refine drq_of [(10, some 16)] ?_
         repeat (refine drp HT ?_)
         refine drq_end ?_
         refine norm_ ?_ (hJ (.slice B95 t94.f0.f0.length d95, .slice B96 t94.f0.f1.length d96, .slice B97 t94.f0.f2.length d97, .slice B98 t94.f1.length d98, .slice B99 t94.f5.length d99, .slice B101 t100.f9.length d101, .slice B102 t100.f10.length d102, .slice B103 t100.f11.length d103, .slice B105 t104.1.f0.f0.length d105, .slice B106 t104.1.f0.f1.length d106, .slice B107 t104.1.f0.f2.length d107, .slice B108 t104.1.f1.length d108, .slice B109 t104.1.f5.length d109, g15) _ (HS.arr [some 0, some 1, some 2, some 3, some 4, some 5, some 6, some 7, some 8, some 9, some 10, some 11, some 12, some 13, some 14, some 15, some 16, some 17, some 18, some 19, some 20, some 21, some 22, some 23, some 24, some 25, some 26, some 27, some 28, some 29, some 30, some 31, some 32, some 33, some 34, some 35, some 36, some 37, some 38, some 39, some 40, some 41, some 42, some 43, some 44, some 45, some 46, some 47, some 48, some 49, some 50, some 51, some 52, some 53] (by decide)))
         simp only [putAll, Act.put, ptn]
         (try rfl)
       · refine if_bx HS ?_; clear HS; intro g15 w15 HS F
         refine nrm 15 hK ⟨_, HS⟩ (fun HH => ?_); clear hK K
         refine dr1 4 HT fun K hK => ?_
         refine go_cl5 HS (impl_Learn.calls ht104.out (HS.rd 40 rfl) m95 (HS.rd 41 rfl) m96 (HS.rd 42 rfl) m97 (HS.rd 43 rfl) m98 (HS.rd 44 rfl) m99 (HS.rd 45 rfl) m101 (HS.rd 46 rfl) m102 (HS.rd 47 rfl) m103 (HS.keepc hgM)) Tryz.func50 ?_; clear HS; intro v105 v106 v107 v108 v109 wt104 HS F; obtain ⟨B105, d105, rfl, m105⟩ := HS.form 49 rfl; obtain ⟨B106, d106, rfl, m106⟩ := HS.form 50 rfl; obtain ⟨B107, d107, rfl, m107⟩ := HS.form 51 rfl; obtain ⟨B108, d108, rfl, m108⟩ := HS.form 52 rfl; obtain ⟨B109, d109, rfl, m109⟩ := HS.form 53 rfl
         refine nrm 99 hK ⟨_, HS⟩ (fun HH => ?_); clear hK K
         refine drq_of [(5, some 94), (6, some 100), (7, some 101)] ?_
         repeat (refine drp HT ?_)
         refine drq_end ?_
         refine dr_last 9 HT rfl (by kernel_rfl) (by decide) (fun K hK => ?_)
         refine if_st 48 0 HS (seg := [.slice B105 t104.1.f0.f0.length d105, .slice B106 t104.1.f0.f1.length d106, .slice B107 t104.1.f0.f2.length d107, .slice B108 t104.1.f1.length d108, .int .i64 t104.1.f2, .int .i64 t104.1.f3, .int .i64 t104.1.f4, .slice B109 t104.1.f5.length d109]) ?_; clear HS; intro w110 HS F
         refine hK.out _ _ ?_
         clear hK K
         refine drq_of [(10, some 16)] ?_
         repeat (refine drp HT ?_)
         refine drq_end ?_
         refine norm_ ?_ (hJ (.slice B95 t94.f0.f0.length d95, .slice B96 t94.f0.f1.length d96, .slice B97 t94.f0.f2.length d97, .slice B98 t94.f1.length d98, .slice B99 t94.f5.length d99, .slice B101 t100.f9.length d101, .slice B102 t100.f10.length d102, .slice B103 t100.f11.length d103, .slice B105 t104.1.f0.f0.length d105, .slice B106 t104.1.f0.f1.length d106, .slice B107 t104.1.f0.f2.length d107, .slice B108 t104.1.f1.length d108, .slice B109 t104.1.f5.length d109, g15) _ (HS.arr [some 0, some 1, some 2, some 3, some 4, some 5, some 6, some 7, some 8, some 9, some 10, some 11, some 12, some 13, some 14, some 15, some 16, some 17, some 18, some 19, some 20, some 21, some 22, some 23, some 24, some 25, some 26, some 27, some 28, some 29, some 30, some 31, some 32, some 33, some 34, some 35, some 36, some 37, some 38, some 39, some 40, some 41, some 42, some 43, some 44, some 45, some 46, some 47, some 49, some 50, some 51, some 52, some 53, some 48] (by decide)))
         simp only [putAll, Act.put, ptn]
         (try rfl)
     · refine if_bx HS ?_; clear HS; intro g15 w15 HS F
       refine nrm 15 hK ⟨_, HS⟩ (fun HH => ?_); clear hK K
       refine dr1 3 HT fun K hK => ?_
       refine go_cl3 HS (laws_toCert.calls ht100.out (HS.ro gp5) lp5 (HS.ro gp6) lp6 (HS.ro gp7) lp7) Tryz.func36 ?_; clear HS; intro v101 v102 v103 wt100 HS F; obtain ⟨B101, d101, rfl, m101⟩ := HS.form 46 rfl; obtain ⟨B102, d102, rfl, m102⟩ := HS.form 47 rfl; obtain ⟨B103, d103, rfl, m103⟩ := HS.form 48 rfl
       refine nrm 98 hK ⟨_, HS⟩ (fun HH => ?_); clear hK K
       refine dr1 4 HT fun K hK => ?_
       refine go_cl5 HS (impl_Learn.calls ht104.out (HS.rd 40 rfl) m95 (HS.rd 41 rfl) m96 (HS.rd 42 rfl) m97 (HS.rd 43 rfl) m98 (HS.rd 44 rfl) m99 (HS.rd 46 rfl) m101 (HS.rd 47 rfl) m102 (HS.rd 48 rfl) m103 (HS.keepc hgM)) Tryz.func50 ?_; clear HS; intro v105 v106 v107 v108 v109 wt104 HS F; obtain ⟨B105, d105, rfl, m105⟩ := HS.form 49 rfl; obtain ⟨B106, d106, rfl, m106⟩ := HS.form 50 rfl; obtain ⟨B107, d107, rfl, m107⟩ := HS.form 51 rfl; obtain ⟨B108, d108, rfl, m108⟩ := HS.form 52 rfl; obtain ⟨B109, d109, rfl, m109⟩ := HS.form 53 rfl
       refine nrm 99 hK ⟨_, HS⟩ (fun HH => ?_); clear hK K
       refine drq_of [(5, some 94), (6, some 100), (7, some 101)] ?_
       repeat (refine drp HT ?_)
       refine drq_end ?_
       refine dr_last 9 HT rfl (by kernel_rfl) (by decide) (fun K hK => ?_)
       refine if_st 45 0 HS (seg := [.slice B105 t104.1.f0.f0.length d105, .slice B106 t104.1.f0.f1.length d106, .slice B107 t104.1.f0.f2.length d107, .slice B108 t104.1.f1.length d108, .int .i64 t104.1.f2, .int .i64 t104.1.f3, .int .i64 t104.1.f4, .slice B109 t104.1.f5.length d109]) ?_; clear HS; intro w110 HS F
       refine hK.out _ _ ?_
       clear hK K
       refine drq_of [(10, some 16)] ?_
       repeat (refine drp HT ?_)
       refine drq_end ?_
       refine norm_ ?_ (hJ (.slice B95 t94.f0.f0.length d95, .slice B96 t94.f0.f1.length d96, .slice B97 t94.f0.f2.length d97, .slice B98 t94.f1.length d98, .slice B99 t94.f5.length d99, .slice B101 t100.f9.length d101, .slice B102 t100.f10.length d102, .slice B103 t100.f11.length d103, .slice B105 t104.1.f0.f0.length d105, .slice B106 t104.1.f0.f1.length d106, .slice B107 t104.1.f0.f2.length d107, .slice B108 t104.1.f1.length d108, .slice B109 t104.1.f5.length d109, g15) _ (HS.arr [some 0, some 1, some 2, some 3, some 4, some 5, some 6, some 7, some 8, some 9, some 10, some 11, some 12, some 13, some 14, some 15, some 16, some 17, some 18, some 19, some 20, some 21, some 22, some 23, some 24, some 25, some 26, some 27, some 28, some 29, some 30, some 31, some 32, some 33, some 34, some 35, some 36, some 37, some 38, some 39, some 40, some 41, some 42, some 43, some 44, some 46, some 47, some 48, some 49, some 50, some 51, some 52, some 53, some 45] (by decide)))
       simp only [putAll, Act.put, ptn]
       (try rfl)
   · refine if_bx HS ?_; clear HS; intro g15 w15 HS F
     refine nrm 15 hK ⟨_, HS⟩ (fun HH => ?_); clear hK K
     refine dr1 1 HT fun K hK => ?_
     refine go_cl5 HS (laws_toServer.calls ht94.out (HS.ro gp0) lp0 (HS.ro gp1) lp1 (HS.ro gp2) lp2 (HS.ro gp3) lp3 (HS.ro gp4) lp4) Tryz.func18 ?_; clear HS; intro v95 v96 v97 v98 v99 wt94 HS F; obtain ⟨B95, d95, rfl, m95⟩ := HS.form 41 rfl; obtain ⟨B96, d96, rfl, m96⟩ := HS.form 42 rfl; obtain ⟨B97, d97, rfl, m97⟩ := HS.form 43 rfl; obtain ⟨B98, d98, rfl, m98⟩ := HS.form 44 rfl; obtain ⟨B99, d99, rfl, m99⟩ := HS.form 45 rfl
     refine nrm 96 hK ⟨_, HS⟩ (fun HH => ?_); clear hK K
     refine dr1 3 HT fun K hK => ?_
     refine go_cl3 HS (laws_toCert.calls ht100.out (HS.ro gp5) lp5 (HS.ro gp6) lp6 (HS.ro gp7) lp7) Tryz.func36 ?_; clear HS; intro v101 v102 v103 wt100 HS F; obtain ⟨B101, d101, rfl, m101⟩ := HS.form 46 rfl; obtain ⟨B102, d102, rfl, m102⟩ := HS.form 47 rfl; obtain ⟨B103, d103, rfl, m103⟩ := HS.form 48 rfl
     refine nrm 98 hK ⟨_, HS⟩ (fun HH => ?_); clear hK K
     refine dr1 4 HT fun K hK => ?_
     refine go_cl5 HS (impl_Learn.calls ht104.out (HS.rd 41 rfl) m95 (HS.rd 42 rfl) m96 (HS.rd 43 rfl) m97 (HS.rd 44 rfl) m98 (HS.rd 45 rfl) m99 (HS.rd 46 rfl) m101 (HS.rd 47 rfl) m102 (HS.rd 48 rfl) m103 (HS.keepc hgM)) Tryz.func50 ?_; clear HS; intro v105 v106 v107 v108 v109 wt104 HS F; obtain ⟨B105, d105, rfl, m105⟩ := HS.form 49 rfl; obtain ⟨B106, d106, rfl, m106⟩ := HS.form 50 rfl; obtain ⟨B107, d107, rfl, m107⟩ := HS.form 51 rfl; obtain ⟨B108, d108, rfl, m108⟩ := HS.form 52 rfl; obtain ⟨B109, d109, rfl, m109⟩ := HS.form 53 rfl
     refine nrm 99 hK ⟨_, HS⟩ (fun HH => ?_); clear hK K
     refine drq_of [(5, some 94), (6, some 100), (7, some 101)] ?_
     repeat (refine drp HT ?_)
     refine drq_end ?_
     refine dr_last 9 HT rfl (by kernel_rfl) (by decide) (fun K hK => ?_)
     refine if_st 40 0 HS (seg := [.slice B105 t104.1.f0.f0.length d105, .slice B106 t104.1.f0.f1.length d106, .slice B107 t104.1.f0.f2.length d107, .slice B108 t104.1.f1.length d108, .int .i64 t104.1.f2, .int .i64 t104.1.f3, .int .i64 t104.1.f4, .slice B109 t104.1.f5.length d109]) ?_; clear HS; intro w110 HS F
     refine hK.out _ _ ?_
     clear hK K
     refine drq_of [(10, some 16)] ?_
     repeat (refine drp HT ?_)
     refine drq_end ?_
     refine norm_ ?_ (hJ (.slice B95 t94.f0.f0.length d95, .slice B96 t94.f0.f1.length d96, .slice B97 t94.f0.f2.length d97, .slice B98 t94.f1.length d98, .slice B99 t94.f5.length d99, .slice B101 t100.f9.length d101, .slice B102 t100.f10.length d102, .slice B103 t100.f11.length d103, .slice B105 t104.1.f0.f0.length d105, .slice B106 t104.1.f0.f1.length d106, .slice B107 t104.1.f0.f2.length d107, .slice B108 t104.1.f1.length d108, .slice B109 t104.1.f5.length d109, g15) _ (HS.arr [some 0, some 1, some 2, some 3, some 4, some 5, some 6, some 7, some 8, some 9, some 10, some 11, some 12, some 13, some 14, some 15, some 16, some 17, some 18, some 19, some 20, some 21, some 22, some 23, some 24, some 25, some 26, some 27, some 28, some 29, some 30, some 31, some 32, some 33, some 34, some 35, some 36, some 37, some 38, some 39, some 41, some 42, some 43, some 44, some 45, some 46, some 47, some 48, some 49, some 50, some 51, some 52, some 53, some 40] (by decide)))
     simp only [putAll, Act.put, ptn]
     (try rfl)
 rintro ⟨v95, v96, v97, v98, v99, v101, v102, v103, v105, v106, v107, v108, v109, g15⟩ w111 HS
 obtain ⟨B95, d95, rfl, m95⟩ := HS.form 40 rfl
 obtain ⟨B96, d96, rfl, m96⟩ := HS.form 41 rfl
 obtain ⟨B97, d97, rfl, m97⟩ := HS.form 42 rfl
 obtain ⟨B98, d98, rfl, m98⟩ := HS.form 43 rfl
 obtain ⟨B99, d99, rfl, m99⟩ := HS.form 44 rfl
 obtain ⟨B101, d101, rfl, m101⟩ := HS.form 45 rfl
 obtain ⟨B102, d102, rfl, m102⟩ := HS.form 46 rfl
 obtain ⟨B103, d103, rfl, m103⟩ := HS.form 47 rfl
 obtain ⟨B105, d105, rfl, m105⟩ := HS.form 48 rfl
 obtain ⟨B106, d106, rfl, m106⟩ := HS.form 49 rfl
 obtain ⟨B107, d107, rfl, m107⟩ := HS.form 50 rfl
 obtain ⟨B108, d108, rfl, m108⟩ := HS.form 51 rfl
 obtain ⟨B109, d109, rfl, m109⟩ := HS.form 52 rfl
 have F := HS.boxes; simp only [bxn] at F
 refine norm_ (a' := ?_) ?_ ?_
 rotate_left
 · simp only [putAll, Act.put, ptn]; rfl
 refine done_ (done_of HT.out (by kernel_rfl)) ?_
 replace H := zbind H; obtain ⟨t74, ht74, H⟩ := H
 replace H := znifb H; rcases H with ⟨c76, H⟩ | ⟨c76, H⟩
 case inl =>
  subst c76
  obtain rfl := zsome H
  go_wp2_with ((with_reducible refine gd 104 rfl ?_); refine ev_cl HS (laws_eqServer.calls ht74.out (HS.rd 48 rfl) m105 (HS.rd 49 rfl) m106 (HS.rd 50 rfl) m107 (HS.rd 51 rfl) m108 (HS.rd 52 rfl) m109 (HS.rd 10 rfl) m55 (HS.rd 11 rfl) m58 (HS.rd 12 rfl) m60 (HS.rd 13 rfl) m63 (HS.rd 14 rfl) m66) Tryz.func20 ?_; clear HS; intro wt74 HS F)
  go_ret
  exact HS.pk
 subst c76
 go_upto_if 110 with ((with_reducible refine gd 104 rfl ?_); refine ev_cl HS (laws_eqServer.calls ht74.out (HS.rd 48 rfl) m105 (HS.rd 49 rfl) m106 (HS.rd 50 rfl) m107 (HS.rd 51 rfl) m108 (HS.rd 52 rfl) m109 (HS.rd 10 rfl) m55 (HS.rd 11 rfl) m58 (HS.rd 12 rfl) m60 (HS.rd 13 rfl) m63 (HS.rd 14 rfl) m66) Tryz.func20 ?_; clear HS; intro wt74 HS F)
 replace H := znif' H; rcases H with ⟨c77, H⟩ | ⟨c77, H⟩
 case inl =>
  have c77a := beq_eq_false_iff_ne.mpr c77
  have c77b := bne_iff_ne.mpr c77
  clear c77
  (try simp only [c77a, c77b, dcn])
  obtain rfl := zsome H
  go_wp2
  go_ret
  exact HS.pk
 have c77a := beq_iff_eq.mpr c77
 have c77b := bne_eq_false_iff_eq.mpr c77
 clear c77
 (try simp only [c77a, c77b, dcn])
 replace H := zbind H; obtain ⟨t78, ht78, H⟩ := H
 go_upto_if 115 with ((with_reducible refine gd 113 rfl ?_); refine ev_cl HS (laws_heldServer.calls ht78.out (HS.rd 26 rfl) m35 (HS.rd 27 rfl) m36 (HS.rd 28 rfl) m37 (HS.rd 29 rfl) m38 (HS.rd 30 rfl) m39) Tryz.func48 ?_; clear HS; intro wt78 HS F)
 replace H := zif H; rcases H with ⟨c80, H⟩ | ⟨c80, H⟩
 case inl =>
  (try simp only [c80, dcn])
  obtain rfl := zsome H
  go_wp2
  go_ret
  exact HS.pk
 (try simp only [c80, dcn])
 replace H := znif' H; rcases H with ⟨c81, H⟩ | ⟨c81, H⟩
 case inl =>
  have c81a := beq_eq_false_iff_ne.mpr c81
  have c81b := bne_iff_ne.mpr c81
  clear c81
  (try simp only [c81a, c81b, dcn])
  obtain rfl := zsome H
  go_wp2
  go_ret
  exact HS.pk
 have c81a := beq_iff_eq.mpr c81
 have c81b := bne_eq_false_iff_eq.mpr c81
 clear c81
 (try simp only [c81a, c81b, dcn])
 obtain rfl := zsome H
 go_wp2
 go_ret
 exact HS.pk
end Go.Proofs.YtacocpknielofaaGreatDoor.F

/- Functions of the program and of the law, and that their calls do what is written here. -/
import Derived.Test.YtacocpknielofaaGreatDoorZgFnExactAddCerta
import Derived.Test.YtacocpknielofaaGreatDoorZgFnExactAddCertb
import Derived.Test.YtacocpknielofaaGreatDoorZgFnExactAddCertc
import Derived.Test.YtacocpknielofaaGreatDoorZgFnExactAddCertd
import Derived.Test.YtacocpknielofaaGreatDoorZgFnExactStoreOka
import Derived.Test.YtacocpknielofaaGreatDoorZgFnExactStoreOke
import Derived.Test.YtacocpknielofaaGreatDoorZgFnExactStoreOkj
namespace Go.Proofs.YtacocpknielofaaGreatDoor.F
open Go.RowKit Go.Proofs.YtacocpknielofaaGreatDoorW.PrintWords Go.Proofs.YtacocpknielofaaGreatDoorW.PrintLast Go.Proofs.YtacocpknielofaaGreatDoorW.PrintMore Go.Proofs.YtacocpknielofaaGreatDoor.Z
attribute [local go_sem] max2_int min2_int max_two min_two max_three min_three max_four min_four
set_option linter.unusedVariables false
set_option linter.unusedSimpArgs false
set_option maxRecDepth 100000
set_option maxHeartbeats 16000000
def laws_FnExactAddCert.f (k : Nat) (a0 : S26) (a1 : S88) : Option (Bool) := ((laws_szStore.f k a0 1048576).bind fun t5 => (if t5 < 0 then (some true) else ((laws_szCert.f k a1 t5).bind fun t8 => (if t8 < 0 then (some true) else ((laws_toStore.f k a0).bind fun t18 => ((laws_toCert.f k a1).bind fun t27 => ((spec_AddCert.f k t18 t27).bind fun t42 => ((laws_toStore.f k a0).bind fun t14 => ((laws_toCert.f k a1).bind fun t23 => ((impl_AddCert.f k t14 t23).bind fun t32 => ((laws_eqStore.f k t32.1 t42.1).bind fun t41 => (if t41 = true then (if t32.2 = t42.2 then ((laws_toStore.f k a0).bind fun t56 => ((laws_eqStore.f k t14 t56).bind fun t69 => (if t69 = true then ((laws_toCert.f k a1).bind fun t71 => ((laws_eqCert.f k t23 t71).bind fun t82 => (if t82 = true then ((laws_markStore.f k t14 1).bind fun t53 => ((laws_markCert.f k t23 t53.1).bind fun t55 => (if t55.1 < 0 then (some false) else ((laws_eqStore.f k t32.1 t42.1).bind fun t58 => (if t58 = true then ((laws_markStore.f k t32.1 1).bind fun t61 => ((laws_heldStore.f k (⟨t61.2.1, t61.2.2.1, t61.2.2.2⟩ : S33) 1).bind fun t63 => (if t63 < 0 then (some false) else (if t63 = t61.1 then ((laws_toStore.f k a0).bind fun t83 => ((laws_toCert.f k a1).bind fun t87 => ((impl_AddCert.f k t83 t87).bind fun t93 => ((laws_eqStore.f k t93.1 t42.1).bind fun t70 => (if t70 = true then (if t93.2 = t42.2 then ((laws_heldStore.f k (⟨t61.2.1, t61.2.2.1, t61.2.2.2⟩ : S33) 1).bind fun t74 => (if t74 < 0 then (some false) else (if t74 = t61.1 then (some true) else (some false)))) else (some false)) else (some false)))))) else (some false))))) else (some false)))))) else (some false)))) else (some false)))) else (some false)) else (some false)))))))))))))
def laws_FnExactAddCert.T8 : TT := (true, [([], []), ([0], [0]), ([], []), ([2, 1], [2]), ([1, 3, 3], [1, 3]), ([4], [4]), ([5], [5]), ([5], [5]), ([], []), ([8, 6, 4, 0, 1, 2, 3, 4, 5, 6, 8], [6, 8]), ([7, 9, 0, 1, 2, 3, 4, 5, 6, 7, 8, 9], [7])])
theorem laws_FnExactAddCert.tT8 : rtab .any (opsOf Tryz.f7 8) = laws_FnExactAddCert.T8 := by kernel_rfl
def laws_FnExactAddCert.T14 : TT := (true, [([], []), ([], []), ([1], [1]), ([0, 2, 2], [0, 2]), ([3], [3])])
theorem laws_FnExactAddCert.tT14 : rtab .any (opsOf Tryz.f7 14) = laws_FnExactAddCert.T14 := by kernel_rfl
def laws_FnExactAddCert.T16 : TT := (true, [([], []), ([], []), ([1], [1]), ([0, 2, 2], [0, 2]), ([3], [3])])
theorem laws_FnExactAddCert.tT16 : rtab .any (opsOf Tryz.f7 16) = laws_FnExactAddCert.T16 := by kernel_rfl
def laws_FnExactAddCert.T31 : TT := (true, [([], []), ([0], [0]), ([], []), ([2, 1], [2]), ([1, 3, 3], [1, 3]), ([4], [4]), ([5], [5]), ([5], [5]), ([], []), ([8, 6, 4, 0, 1, 2, 3, 4, 5, 6, 8], [6, 8]), ([7, 9, 0, 1, 2, 3, 4, 5, 6, 7, 8, 9], [7])])
theorem laws_FnExactAddCert.tT31 : rtab .any (opsOf Tryz.f7 31) = laws_FnExactAddCert.T31 := by kernel_rfl
theorem laws_FnExactAddCert.calls {k : Nat} {a0 : S26} {a1 : S88} {Ap0 Ap1 Ap2 Ap3 Ap4 Ap5 : Option Addr} {np0 cp0 np1 cp1 np2 cp2 np3 cp3 np4 cp4 np5 cp5 : Nat} {mG : Int} {r : Bool} {w : World} (h : laws_FnExactAddCert.f k a0 a1 = some r) (gp0 : k88.C w Ap0 np0 a0.f0) (lp0 : np0 ≤ cp0) (gp1 : k75.C w Ap1 np1 a0.f1) (lp1 : np1 ≤ cp1) (gp2 : k178.C w Ap2 np2 a0.f2) (lp2 : np2 ≤ cp2) (gp3 : (Kd.int .i64).C w Ap3 np3 a1.f9) (lp3 : np3 ≤ cp3) (gp4 : Kd.string.C w Ap4 np4 a1.f10) (lp4 : np4 ≤ cp4) (gp5 : Kd.string.C w Ap5 np5 a1.f11) (lp5 : np5 ≤ cp5) (hgM : w.cell? ⟨0, 0, none⟩ = some (.int .i64 mG)) :
    Calls Tryz.prog 7 #[.agg #[.slice Ap0 np0 cp0, .slice Ap1 np1 cp1, .slice Ap2 np2 cp2], .agg #[.int .i64 a1.f0, .string a1.f1, .string a1.f2, .int .i64 a1.f3, .int .i64 a1.f4, .string a1.f5, .bool a1.f6, .int .i64 a1.f7, .int .i64 a1.f8, .slice Ap3 np3 cp3, .slice Ap4 np4 cp4, .slice Ap5 np5 cp5, .string a1.f12]] w (fun e w' => e = .returned (.bool r) ∧ Hp noFP w w' []) := by
 obtain rfl := C_len gp0
 obtain rfl := C_len gp1
 obtain rfl := C_len gp2
 obtain rfl := C_len gp3
 obtain rfl := C_len gp4
 obtain rfl := C_len gp5
 have HS := Hp.start w
 have H := Aside0.mk h
 clear h
 unfold laws_FnExactAddCert.f at H
 go_enter Tryz.func7, Tryz.ntmps7
 replace H := zbind H; obtain ⟨t5, ht5, H⟩ := H
 go_upto_if 21 with (first | ((with_reducible refine gd 2 rfl ?_); refine ev_bx HS ?_; clear HS; intro g2 w2 HS F) | ((with_reducible refine gd 3 rfl ?_); refine ev_bx HS ?_; clear HS; intro g3 w3 HS F) | ((with_reducible refine gd 19 rfl ?_); refine ev_cl HS (laws_szStore.calls ht5.out (HS.ro gp0) lp0 (HS.ro gp1) lp1 (HS.ro gp2) lp2) Tryz.func11 ?_; clear HS; intro wt5 HS F))
 replace H := zif H; rcases H with ⟨c7, H⟩ | ⟨c7, H⟩
 case inl =>
  (try simp only [c7, dcn])
  obtain rfl := zsome H
  go_wp2
  go_ret
  exact HS.pk
 (try simp only [c7, dcn])
 replace H := zbind H; obtain ⟨t8, ht8, H⟩ := H
 go_upto_if 26 with (first | ((with_reducible refine gd 24 rfl ?_); refine ev_cl HS (laws_szCert.calls ht8.out (HS.ro gp3) lp3 (HS.ro gp4) lp4 (HS.ro gp5) lp5) Tryz.func34 ?_; clear HS; intro wt8 HS F))
 replace H := zif H; rcases H with ⟨c10, H⟩ | ⟨c10, H⟩
 case inl =>
  (try simp only [c10, dcn])
  obtain rfl := zsome H
  go_wp2
  go_ret
  exact HS.pk
 (try simp only [c10, dcn])
 (try go_wp2)
 replace H := zbind H; obtain ⟨t18, ht18, H⟩ := H
 replace H := zbind H; obtain ⟨t27, ht27, H⟩ := H
 replace H := zbind H; obtain ⟨t42, ht42, H⟩ := H
 refine dr_start [9] HS #[false, false, false, false, false, false, false, false, false, false, false] (by kernel_rfl) rfl rfl laws_FnExactAddCert.tT8 (fun w12 HT HS HH => ?_)
 (try clear F)
 refine join_ 0 #[true, true, true, true, true, true, true, true, true, true, true] (fun ((v19, v20, v22, v28, v29, v40, v45, v47, v49, g6) : Value × Value × Value × Value × Value × Value × Value × Value × Value × Nat) => ([(28, .agg #[.slice Ap0 a0.f0.length cp0, .slice Ap1 a0.f1.length cp1, .slice Ap2 a0.f2.length cp2]), (29, .agg #[v19, v20, v22]), (30, .agg #[.int .i64 a1.f0, .string a1.f1, .string a1.f2, .int .i64 a1.f3, .int .i64 a1.f4, .string a1.f5, .bool a1.f6, .int .i64 a1.f7, .int .i64 a1.f8, .slice Ap3 a1.f9.length cp3, .slice Ap4 a1.f10.length cp4, .slice Ap5 a1.f11.length cp5, .string a1.f12]), (31, .agg #[.int .i64 t27.f0, .string t27.f1, .string t27.f2, .int .i64 t27.f3, .int .i64 t27.f4, .string t27.f5, .bool t27.f6, .int .i64 t27.f7, .int .i64 t27.f8, v28, v29, v40, .string t27.f12]), (32, .tuple #[.agg #[v45, v47, v49], .bool t42.2]), (27, .tuple #[.agg #[v45, v47, v49], .bool t42.2]), (33, .agg #[v45, v47, v49]), (34, .bool t42.2), (6, .pointer (some ⟨g6, 0, none⟩)), (7, .bool t42.2)] : List (Tmp × Value))) (fun ((v19, v20, v22, v28, v29, v40, v45, v47, v49, g6) : Value × Value × Value × Value × Value × Value × Value × Value × Value × Nat) w' => Hp noFP w w' [.box g2 [.slice Ap0 a0.f0.length cp0, .slice Ap1 a0.f1.length cp1, .slice Ap2 a0.f2.length cp2] 26, .box g3 [.int .i64 a1.f0, .string a1.f1, .string a1.f2, .int .i64 a1.f3, .int .i64 a1.f4, .string a1.f5, .bool a1.f6, .int .i64 a1.f7, .int .i64 a1.f8, .slice Ap3 a1.f9.length cp3, .slice Ap4 a1.f10.length cp4, .slice Ap5 a1.f11.length cp5, .string a1.f12] 88, .own (Zd.slice 91 q91) t18.f0 [v19], .own (Zd.slice 81 q81) t18.f1 [v20], .own (Zd.slice 115 q115) t18.f2 [v22], .own (Zd.slice 3 (Zd.int .i64)) t27.f9 [v28], .own (Zd.slice 9 Zd.string) t27.f10 [v29], .own (Zd.slice 9 Zd.string) t27.f11 [v40], .own (Zd.slice 91 q91) t42.1.f0 [v45], .own (Zd.slice 81 q81) t42.1.f1 [v47], .own (Zd.slice 115 q115) t42.1.f2 [v49], .box g6 [v45, v47, v49] 33]) ?_ ?_
 rotate_left
 · intro hJ
   refine drq_of [(0, some 28), (2, some 30)] ?_
   repeat (refine drt HT HH ?_)
   refine drq_end ?_
   refine dr_any [1, 8] HT (by kernel_rfl) (by decide) (AllReadyL.cons rfl (by decide) (fun K hK => ?_) (AllReadyL.cons rfl (by decide) (fun K hK => ?_) AllReadyL.nil))
   · refine go_cl3 HS (laws_toStore.calls ht18.out (HS.ro gp0) lp0 (HS.ro gp1) lp1 (HS.ro gp2) lp2) Tryz.func13 ?_; clear HS; intro v19 v20 v22 wt18 HS F; obtain ⟨B19, d19, rfl, m19⟩ := HS.form 2 rfl; obtain ⟨B20, d20, rfl, m20⟩ := HS.form 3 rfl; obtain ⟨B22, d22, rfl, m22⟩ := HS.form 4 rfl
     refine nrm 29 hK ⟨_, HS⟩ (fun HH => ?_); clear hK K
     refine dr_any [3, 8] HT (by kernel_rfl) (by decide) (AllReadyL.cons rfl (by decide) (fun K hK => ?_) (AllReadyL.cons rfl (by decide) (fun K hK => ?_) AllReadyL.nil))
     · refine go_cl3 HS (laws_toCert.calls ht27.out (HS.ro gp3) lp3 (HS.ro gp4) lp4 (HS.ro gp5) lp5) Tryz.func36 ?_; clear HS; intro v28 v29 v40 wt27 HS F; obtain ⟨B28, d28, rfl, m28⟩ := HS.form 5 rfl; obtain ⟨B29, d29, rfl, m29⟩ := HS.form 6 rfl; obtain ⟨B40, d40, rfl, m40⟩ := HS.form 7 rfl
       refine nrm 31 hK ⟨_, HS⟩ (fun HH => ?_); clear hK K
       refine dr_any [4, 8] HT (by kernel_rfl) (by decide) (AllReadyL.cons rfl (by decide) (fun K hK => ?_) (AllReadyL.cons rfl (by decide) (fun K hK => ?_) AllReadyL.nil))
       · refine go_cl3 HS (spec_AddCert.calls ht42.out (HS.rd 2 rfl) m19 (HS.rd 3 rfl) m20 (HS.rd 4 rfl) m22 (HS.rd 5 rfl) m28 (HS.rd 6 rfl) m29 (HS.rd 7 rfl) m40) Tryz.func35 ?_; clear HS; intro v45 v47 v49 wt42 HS F; obtain ⟨B45, d45, rfl, m45⟩ := HS.form 8 rfl; obtain ⟨B47, d47, rfl, m47⟩ := HS.form 9 rfl; obtain ⟨B49, d49, rfl, m49⟩ := HS.form 10 rfl
         refine nrm 32 hK ⟨_, HS⟩ (fun HH => ?_); clear hK K
         refine drq_of [(5, some 27), (6, some 33), (7, some 34)] ?_
         repeat (refine drp HT ?_)
         refine drq_end ?_
         refine dr1 8 HT fun K hK => ?_
         refine if_bx HS ?_; clear HS; intro g6 w6 HS F
         refine nrm 6 hK ⟨_, HS⟩ (fun HH => ?_); clear hK K
         refine dr_last 9 HT rfl (by kernel_rfl) (by decide) (fun K hK => ?_)
         refine if_st 11 0 HS (seg := [.slice B45 t42.1.f0.length d45, .slice B47 t42.1.f1.length d47, .slice B49 t42.1.f2.length d49]) ?_; clear HS; intro w51 HS F
         refine hK.out _ _ ?_
         clear hK K
         refine drq_of [(10, some 7)] ?_
         repeat (refine drp HT ?_)
         refine drq_end ?_
         refine norm_ ?_ (hJ (.slice B19 t18.f0.length d19, .slice B20 t18.f1.length d20, .slice B22 t18.f2.length d22, .slice B28 t27.f9.length d28, .slice B29 t27.f10.length d29, .slice B40 t27.f11.length d40, .slice B45 t42.1.f0.length d45, .slice B47 t42.1.f1.length d47, .slice B49 t42.1.f2.length d49, g6) _ (HS.arr [some 0, some 1, some 2, some 3, some 4, some 5, some 6, some 7, some 8, some 9, some 10, some 11] (by decide)))
         simp only [putAll, Act.put, ptn]
         (try rfl)
       · refine if_bx HS ?_; clear HS; intro g6 w6 HS F
         refine nrm 6 hK ⟨_, HS⟩ (fun HH => ?_); clear hK K
         refine dr1 4 HT fun K hK => ?_
         refine go_cl3 HS (spec_AddCert.calls ht42.out (HS.rd 2 rfl) m19 (HS.rd 3 rfl) m20 (HS.rd 4 rfl) m22 (HS.rd 5 rfl) m28 (HS.rd 6 rfl) m29 (HS.rd 7 rfl) m40) Tryz.func35 ?_; clear HS; intro v45 v47 v49 wt42 HS F; obtain ⟨B45, d45, rfl, m45⟩ := HS.form 9 rfl; obtain ⟨B47, d47, rfl, m47⟩ := HS.form 10 rfl; obtain ⟨B49, d49, rfl, m49⟩ := HS.form 11 rfl
         refine nrm 32 hK ⟨_, HS⟩ (fun HH => ?_); clear hK K
         refine drq_of [(5, some 27), (6, some 33), (7, some 34)] ?_
         repeat (refine drp HT ?_)
         refine drq_end ?_
         refine dr_last 9 HT rfl (by kernel_rfl) (by decide) (fun K hK => ?_)
         refine if_st 8 0 HS (seg := [.slice B45 t42.1.f0.length d45, .slice B47 t42.1.f1.length d47, .slice B49 t42.1.f2.length d49]) ?_; clear HS; intro w51 HS F
         refine hK.out _ _ ?_
         clear hK K
         refine drq_of [(10, some 7)] ?_
         repeat (refine drp HT ?_)
         refine drq_end ?_
         refine norm_ ?_ (hJ (.slice B19 t18.f0.length d19, .slice B20 t18.f1.length d20, .slice B22 t18.f2.length d22, .slice B28 t27.f9.length d28, .slice B29 t27.f10.length d29, .slice B40 t27.f11.length d40, .slice B45 t42.1.f0.length d45, .slice B47 t42.1.f1.length d47, .slice B49 t42.1.f2.length d49, g6) _ (HS.arr [some 0, some 1, some 2, some 3, some 4, some 5, some 6, some 7, some 9, some 10, some 11, some 8] (by decide)))
         simp only [putAll, Act.put, ptn]
         (try rfl)
     · refine if_bx HS ?_; clear HS; intro g6 w6 HS F
       refine nrm 6 hK ⟨_, HS⟩ (fun HH => ?_); clear hK K
       refine dr1 3 HT fun K hK => ?_
       refine go_cl3 HS (laws_toCert.calls ht27.out (HS.ro gp3) lp3 (HS.ro gp4) lp4 (HS.ro gp5) lp5) Tryz.func36 ?_; clear HS; intro v28 v29 v40 wt27 HS F; obtain ⟨B28, d28, rfl, m28⟩ := HS.form 6 rfl; obtain ⟨B29, d29, rfl, m29⟩ := HS.form 7 rfl; obtain ⟨B40, d40, rfl, m40⟩ := HS.form 8 rfl
       refine nrm 31 hK ⟨_, HS⟩ (fun HH => ?_); clear hK K
       refine dr1 4 HT fun K hK => ?_
       refine go_cl3 HS (spec_AddCert.calls ht42.out (HS.rd 2 rfl) m19 (HS.rd 3 rfl) m20 (HS.rd 4 rfl) m22 (HS.rd 6 rfl) m28 (HS.rd 7 rfl) m29 (HS.rd 8 rfl) m40) Tryz.func35 ?_; clear HS; intro v45 v47 v49 wt42 HS F; obtain ⟨B45, d45, rfl, m45⟩ := HS.form 9 rfl; obtain ⟨B47, d47, rfl, m47⟩ := HS.form 10 rfl; obtain ⟨B49, d49, rfl, m49⟩ := HS.form 11 rfl
       refine nrm 32 hK ⟨_, HS⟩ (fun HH => ?_); clear hK K
       refine drq_of [(5, some 27), (6, some 33), (7, some 34)] ?_
       repeat (refine drp HT ?_)
       refine drq_end ?_
       refine dr_last 9 HT rfl (by kernel_rfl) (by decide) (fun K hK => ?_)
       refine if_st 5 0 HS (seg := [.slice B45 t42.1.f0.length d45, .slice B47 t42.1.f1.length d47, .slice B49 t42.1.f2.length d49]) ?_; clear HS; intro w51 HS F
       refine hK.out _ _ ?_
       clear hK K
       refine drq_of [(10, some 7)] ?_
       repeat (refine drp HT ?_)
       refine drq_end ?_
       refine norm_ ?_ (hJ (.slice B19 t18.f0.length d19, .slice B20 t18.f1.length d20, .slice B22 t18.f2.length d22, .slice B28 t27.f9.length d28, .slice B29 t27.f10.length d29, .slice B40 t27.f11.length d40, .slice B45 t42.1.f0.length d45, .slice B47 t42.1.f1.length d47, .slice B49 t42.1.f2.length d49, g6) _ (HS.arr [some 0, some 1, some 2, some 3, some 4, some 6, some 7, some 8, some 9, some 10, some 11, some 5] (by decide)))
       simp only [putAll, Act.put, ptn]
       (try rfl)
   · refine if_bx HS ?_; clear HS; intro g6 w6 HS F
     refine nrm 6 hK ⟨_, HS⟩ (fun HH => ?_); clear hK K
     refine dr1 1 HT fun K hK => ?_
     refine go_cl3 HS (laws_toStore.calls ht18.out (HS.ro gp0) lp0 (HS.ro gp1) lp1 (HS.ro gp2) lp2) Tryz.func13 ?_; clear HS; intro v19 v20 v22 wt18 HS F; obtain ⟨B19, d19, rfl, m19⟩ := HS.form 3 rfl; obtain ⟨B20, d20, rfl, m20⟩ := HS.form 4 rfl; obtain ⟨B22, d22, rfl, m22⟩ := HS.form 5 rfl
     refine nrm 29 hK ⟨_, HS⟩ (fun HH => ?_); clear hK K
     refine dr1 3 HT fun K hK => ?_
     refine go_cl3 HS (laws_toCert.calls ht27.out (HS.ro gp3) lp3 (HS.ro gp4) lp4 (HS.ro gp5) lp5) Tryz.func36 ?_; clear HS; intro v28 v29 v40 wt27 HS F; obtain ⟨B28, d28, rfl, m28⟩ := HS.form 6 rfl; obtain ⟨B29, d29, rfl, m29⟩ := HS.form 7 rfl; obtain ⟨B40, d40, rfl, m40⟩ := HS.form 8 rfl
     refine nrm 31 hK ⟨_, HS⟩ (fun HH => ?_); clear hK K
     refine dr1 4 HT fun K hK => ?_
     refine go_cl3 HS (spec_AddCert.calls ht42.out (HS.rd 3 rfl) m19 (HS.rd 4 rfl) m20 (HS.rd 5 rfl) m22 (HS.rd 6 rfl) m28 (HS.rd 7 rfl) m29 (HS.rd 8 rfl) m40) Tryz.func35 ?_; clear HS; intro v45 v47 v49 wt42 HS F; obtain ⟨B45, d45, rfl, m45⟩ := HS.form 9 rfl; obtain ⟨B47, d47, rfl, m47⟩ := HS.form 10 rfl; obtain ⟨B49, d49, rfl, m49⟩ := HS.form 11 rfl
     refine nrm 32 hK ⟨_, HS⟩ (fun HH => ?_); clear hK K
     refine drq_of [(5, some 27), (6, some 33), (7, some 34)] ?_
     repeat (refine drp HT ?_)
     refine drq_end ?_
     refine dr_last 9 HT rfl (by kernel_rfl) (by decide) (fun K hK => ?_)
     refine if_st 2 0 HS (seg := [.slice B45 t42.1.f0.length d45, .slice B47 t42.1.f1.length d47, .slice B49 t42.1.f2.length d49]) ?_; clear HS; intro w51 HS F
     refine hK.out _ _ ?_
     clear hK K
     refine drq_of [(10, some 7)] ?_
     repeat (refine drp HT ?_)
     refine drq_end ?_
     refine norm_ ?_ (hJ (.slice B19 t18.f0.length d19, .slice B20 t18.f1.length d20, .slice B22 t18.f2.length d22, .slice B28 t27.f9.length d28, .slice B29 t27.f10.length d29, .slice B40 t27.f11.length d40, .slice B45 t42.1.f0.length d45, .slice B47 t42.1.f1.length d47, .slice B49 t42.1.f2.length d49, g6) _ (HS.arr [some 0, some 1, some 3, some 4, some 5, some 6, some 7, some 8, some 9, some 10, some 11, some 2] (by decide)))
     simp only [putAll, Act.put, ptn]
     (try rfl)
 rintro ⟨v19, v20, v22, v28, v29, v40, v45, v47, v49, g6⟩ w54 HS
 obtain ⟨B19, d19, rfl, m19⟩ := HS.form 2 rfl
 obtain ⟨B20, d20, rfl, m20⟩ := HS.form 3 rfl
 obtain ⟨B22, d22, rfl, m22⟩ := HS.form 4 rfl
 obtain ⟨B28, d28, rfl, m28⟩ := HS.form 5 rfl
 obtain ⟨B29, d29, rfl, m29⟩ := HS.form 6 rfl
 obtain ⟨B40, d40, rfl, m40⟩ := HS.form 7 rfl
 obtain ⟨B45, d45, rfl, m45⟩ := HS.form 8 rfl
 obtain ⟨B47, d47, rfl, m47⟩ := HS.form 9 rfl
 obtain ⟨B49, d49, rfl, m49⟩ := HS.form 10 rfl
 have F := HS.boxes; simp only [bxn] at F
 refine norm_ (a' := ?_) ?_ ?_
 rotate_left
 · simp only [putAll, Act.put, ptn]; rfl
 refine done_ (done_of HT.out (by kernel_rfl)) ?_
 replace H := zbind H; obtain ⟨t14, ht14, H⟩ := H
 replace H := zbind H; obtain ⟨t23, ht23, H⟩ := H
 replace H := zbind H; obtain ⟨t32, ht32, H⟩ := H
 replace H := zbind H; obtain ⟨t41, ht41, H⟩ := H
 replace H := znifb H; rcases H with ⟨c43, H⟩ | ⟨c43, H⟩
 case inl =>
  subst c43
  obtain rfl := zsome H
  go_wp2_with (first | ((with_reducible refine gd 36 rfl ?_); refine ev_cl3 HS (laws_toStore.calls ht14.out (HS.ro gp0) lp0 (HS.ro gp1) lp1 (HS.ro gp2) lp2) Tryz.func13 ?_; clear HS; intro v15 v16 v17 wt14 HS F; obtain ⟨B15, d15, rfl, m15⟩ := HS.form 12 rfl; obtain ⟨B16, d16, rfl, m16⟩ := HS.form 13 rfl; obtain ⟨B17, d17, rfl, m17⟩ := HS.form 14 rfl) | ((with_reducible refine gd 8 rfl ?_); refine ev_bx HS ?_; clear HS; intro g8 w8 HS F) | ((with_reducible refine gate_store (p := 8) rfl ?_); refine ev_st 15 0 HS (seg := [.slice B15 t14.f0.length d15, .slice B16 t14.f1.length d16, .slice B17 t14.f2.length d17]) ?_; clear HS; intro w21 HS F) | ((with_reducible refine gd 38 rfl ?_); refine ev_cl3 HS (laws_toCert.calls ht23.out (HS.ro gp3) lp3 (HS.ro gp4) lp4 (HS.ro gp5) lp5) Tryz.func36 ?_; clear HS; intro v24 v25 v26 wt23 HS F; obtain ⟨B24, d24, rfl, m24⟩ := HS.form 16 rfl; obtain ⟨B25, d25, rfl, m25⟩ := HS.form 17 rfl; obtain ⟨B26, d26, rfl, m26⟩ := HS.form 18 rfl) | ((with_reducible refine gd 9 rfl ?_); refine ev_bx HS ?_; clear HS; intro g9 w9 HS F) | ((with_reducible refine gate_store (p := 9) rfl ?_); refine ev_st 19 0 HS (seg := [.int .i64 t23.f0, .string t23.f1, .string t23.f2, .int .i64 t23.f3, .int .i64 t23.f4, .string t23.f5, .bool t23.f6, .int .i64 t23.f7, .int .i64 t23.f8, .slice B24 t23.f9.length d24, .slice B25 t23.f10.length d25, .slice B26 t23.f11.length d26, .string t23.f12]) ?_; clear HS; intro w30 HS F) | ((with_reducible refine gd 42 rfl ?_); refine ev_cl3 HS (impl_AddCert.calls ht32.out (HS.rd 12 rfl) m15 (HS.rd 13 rfl) m16 (HS.rd 14 rfl) m17 (HS.rd 16 rfl) m24 (HS.rd 17 rfl) m25 (HS.rd 18 rfl) m26 (HS.keepc hgM)) Tryz.func37 ?_; clear HS; intro v33 v34 v35 wt32 HS F; obtain ⟨B33, d33, rfl, m33⟩ := HS.form 20 rfl; obtain ⟨B34, d34, rfl, m34⟩ := HS.form 21 rfl; obtain ⟨B35, d35, rfl, m35⟩ := HS.form 22 rfl) | ((with_reducible refine gd 10 rfl ?_); refine ev_bx HS ?_; clear HS; intro g10 w10 HS F) | ((with_reducible refine gate_store (p := 10) rfl ?_); refine ev_st 23 0 HS (seg := [.slice B33 t32.1.f0.length d33, .slice B34 t32.1.f1.length d34, .slice B35 t32.1.f2.length d35]) ?_; clear HS; intro w39 HS F) | ((with_reducible refine gd 47 rfl ?_); refine ev_cl HS (laws_eqStore.calls ht41.out (HS.rd 20 rfl) m33 (HS.rd 21 rfl) m34 (HS.rd 22 rfl) m35 (HS.rd 8 rfl) m45 (HS.rd 9 rfl) m47 (HS.rd 10 rfl) m49) Tryz.func15 ?_; clear HS; intro wt41 HS F))
  go_ret
  exact HS.pk
 subst c43
 go_upto_if 53 with (first | ((with_reducible refine gd 36 rfl ?_); refine ev_cl3 HS (laws_toStore.calls ht14.out (HS.ro gp0) lp0 (HS.ro gp1) lp1 (HS.ro gp2) lp2) Tryz.func13 ?_; clear HS; intro v15 v16 v17 wt14 HS F; obtain ⟨B15, d15, rfl, m15⟩ := HS.form 12 rfl; obtain ⟨B16, d16, rfl, m16⟩ := HS.form 13 rfl; obtain ⟨B17, d17, rfl, m17⟩ := HS.form 14 rfl) | ((with_reducible refine gd 8 rfl ?_); refine ev_bx HS ?_; clear HS; intro g8 w8 HS F) | ((with_reducible refine gate_store (p := 8) rfl ?_); refine ev_st 15 0 HS (seg := [.slice B15 t14.f0.length d15, .slice B16 t14.f1.length d16, .slice B17 t14.f2.length d17]) ?_; clear HS; intro w21 HS F) | ((with_reducible refine gd 38 rfl ?_); refine ev_cl3 HS (laws_toCert.calls ht23.out (HS.ro gp3) lp3 (HS.ro gp4) lp4 (HS.ro gp5) lp5) Tryz.func36 ?_; clear HS; intro v24 v25 v26 wt23 HS F; obtain ⟨B24, d24, rfl, m24⟩ := HS.form 16 rfl; obtain ⟨B25, d25, rfl, m25⟩ := HS.form 17 rfl; obtain ⟨B26, d26, rfl, m26⟩ := HS.form 18 rfl) | ((with_reducible refine gd 9 rfl ?_); refine ev_bx HS ?_; clear HS; intro g9 w9 HS F) | ((with_reducible refine gate_store (p := 9) rfl ?_); refine ev_st 19 0 HS (seg := [.int .i64 t23.f0, .string t23.f1, .string t23.f2, .int .i64 t23.f3, .int .i64 t23.f4, .string t23.f5, .bool t23.f6, .int .i64 t23.f7, .int .i64 t23.f8, .slice B24 t23.f9.length d24, .slice B25 t23.f10.length d25, .slice B26 t23.f11.length d26, .string t23.f12]) ?_; clear HS; intro w30 HS F) | ((with_reducible refine gd 42 rfl ?_); refine ev_cl3 HS (impl_AddCert.calls ht32.out (HS.rd 12 rfl) m15 (HS.rd 13 rfl) m16 (HS.rd 14 rfl) m17 (HS.rd 16 rfl) m24 (HS.rd 17 rfl) m25 (HS.rd 18 rfl) m26 (HS.keepc hgM)) Tryz.func37 ?_; clear HS; intro v33 v34 v35 wt32 HS F; obtain ⟨B33, d33, rfl, m33⟩ := HS.form 20 rfl; obtain ⟨B34, d34, rfl, m34⟩ := HS.form 21 rfl; obtain ⟨B35, d35, rfl, m35⟩ := HS.form 22 rfl) | ((with_reducible refine gd 10 rfl ?_); refine ev_bx HS ?_; clear HS; intro g10 w10 HS F) | ((with_reducible refine gate_store (p := 10) rfl ?_); refine ev_st 23 0 HS (seg := [.slice B33 t32.1.f0.length d33, .slice B34 t32.1.f1.length d34, .slice B35 t32.1.f2.length d35]) ?_; clear HS; intro w39 HS F) | ((with_reducible refine gd 47 rfl ?_); refine ev_cl HS (laws_eqStore.calls ht41.out (HS.rd 20 rfl) m33 (HS.rd 21 rfl) m34 (HS.rd 22 rfl) m35 (HS.rd 8 rfl) m45 (HS.rd 9 rfl) m47 (HS.rd 10 rfl) m49) Tryz.func15 ?_; clear HS; intro wt41 HS F))
 replace H := znif' H; rcases H with ⟨c44, H⟩ | ⟨c44, H⟩
 case inl =>
  have c44a := beq_eq_false_iff_ne.mpr c44
  have c44b := bne_iff_ne.mpr c44
  clear c44
  (try simp only [c44a, c44b, dcn])
  obtain rfl := zsome H
  go_wp2
  go_ret
  exact HS.pk
 have c44a := beq_iff_eq.mpr c44
 have c44b := bne_eq_false_iff_eq.mpr c44
 clear c44
 (try simp only [c44a, c44b, dcn])
 (try go_wp2)
 replace H := zbind H; obtain ⟨t56, ht56, H⟩ := H
 replace H := zbind H; obtain ⟨t69, ht69, H⟩ := H
 refine dr_start [] HS #[false, false, false, false, false] (by kernel_rfl) rfl rfl laws_FnExactAddCert.tT14 (fun w46 HT HS HH => ?_)
 (try clear F)
 refine drq_of [(0, some 54), (1, some 55)] ?_
 repeat (refine drt HT HH ?_)
 refine drq_end ?_
 refine dr1 2 HT fun K hK => ?_
 refine go_cl3 HS (laws_toStore.calls ht56.out (HS.ro gp0) lp0 (HS.ro gp1) lp1 (HS.ro gp2) lp2) Tryz.func13 ?_; clear HS; intro v59 v62 v67 wt56 HS F; obtain ⟨B59, d59, rfl, m59⟩ := HS.form 24 rfl; obtain ⟨B62, d62, rfl, m62⟩ := HS.form 25 rfl; obtain ⟨B67, d67, rfl, m67⟩ := HS.form 26 rfl
 refine nrm 56 hK ⟨_, HS⟩ (fun HH => ?_); clear hK K
 refine dr1 3 HT fun K hK => ?_
 refine go_cl HS (laws_eqStore.calls ht69.out (HS.rd 12 rfl) m15 (HS.rd 13 rfl) m16 (HS.rd 14 rfl) m17 (HS.rd 24 rfl) m59 (HS.rd 25 rfl) m62 (HS.rd 26 rfl) m67) Tryz.func15 ?_; clear HS; intro wt69 HS F
 refine nrm 57 hK ⟨_, HS⟩ (fun HH => ?_); clear hK K
 refine drq_of [(4, some 58)] ?_
 repeat (refine drp HT ?_)
 refine drq_end ?_
 refine done_ (done_of HT.out (by kernel_rfl)) ?_
 (try clear F)
 have F := HS.boxes; simp only [bxn] at F
 replace H := znifb H; rcases H with ⟨c48, H⟩ | ⟨c48, H⟩
 case inl =>
  subst c48
  (try simp only [dcn, dcu, dcf])
  obtain rfl := zsome H
  go_wp2
  go_ret
  exact HS.pk
 subst c48
 (try simp only [dcn, dcu, dcf])
 (try go_wp2)
 replace H := zbind H; obtain ⟨t71, ht71, H⟩ := H
 replace H := zbind H; obtain ⟨t82, ht82, H⟩ := H
 refine dr_start [] HS #[false, false, false, false, false] (by kernel_rfl) rfl rfl laws_FnExactAddCert.tT16 (fun w50 HT HS HH => ?_)
 (try clear F)
 refine drq_of [(0, some 59), (1, some 60)] ?_
 repeat (refine drt HT HH ?_)
 refine drq_end ?_
 refine dr1 2 HT fun K hK => ?_
 refine go_cl3 HS (laws_toCert.calls ht71.out (HS.ro gp3) lp3 (HS.ro gp4) lp4 (HS.ro gp5) lp5) Tryz.func36 ?_; clear HS; intro v78 v79 v80 wt71 HS F; obtain ⟨B78, d78, rfl, m78⟩ := HS.form 27 rfl; obtain ⟨B79, d79, rfl, m79⟩ := HS.form 28 rfl; obtain ⟨B80, d80, rfl, m80⟩ := HS.form 29 rfl
 refine nrm 61 hK ⟨_, HS⟩ (fun HH => ?_); clear hK K
 refine dr1 3 HT fun K hK => ?_
 refine go_cl HS (laws_eqCert.calls ht82.out (HS.rd 16 rfl) m24 (HS.rd 17 rfl) m25 (HS.rd 18 rfl) m26 (HS.rd 27 rfl) m78 (HS.rd 28 rfl) m79 (HS.rd 29 rfl) m80) Tryz.func38 ?_; clear HS; intro wt82 HS F
 refine nrm 62 hK ⟨_, HS⟩ (fun HH => ?_); clear hK K
 refine drq_of [(4, some 63)] ?_
 repeat (refine drp HT ?_)
 refine drq_end ?_
 refine done_ (done_of HT.out (by kernel_rfl)) ?_
 (try clear F)
 have F := HS.boxes; simp only [bxn] at F
 replace H := znifb H; rcases H with ⟨c52, H⟩ | ⟨c52, H⟩
 case inl =>
  subst c52
  (try simp only [dcn, dcu, dcf])
  obtain rfl := zsome H
  go_wp2
  go_ret
  exact HS.pk
 subst c52
 (try simp only [dcn, dcu, dcf])
 replace H := zbind H; obtain ⟨t53, ht53, H⟩ := H
 replace H := zbind H; obtain ⟨t55, ht55, H⟩ := H
 replace H := zif H; rcases H with ⟨c57, H⟩ | ⟨c57, H⟩
 case inl =>
  obtain rfl := zsome H
  go_wp2_with (first | ((with_reducible refine gd 66 rfl ?_); refine HS.lend [12, 13, 14] (by decide) [.own (Zd.slice 91 q91) t14.f0 [.slice B15 t14.f0.length d15], .own (Zd.slice 81 q81) t14.f1 [.slice B16 t14.f1.length d16], .own (Zd.slice 115 q115) t14.f2 [.slice B17 t14.f2.length d17]] rfl (fun A' HL HD HA HB => ?_); refine ev_lc (laws_markStore.calls ht53.out HA) (fun _ HQ => HB _ _ HQ (Nat.le_of_ble_eq_true rfl)) Tryz.func31 ?_; clear HS HA HB HL HD; intro wt53 HS F) | ((with_reducible refine gd 69 rfl ?_); refine HS.lend [16, 17, 18] (by decide) [.own (Zd.slice 3 (Zd.int .i64)) t23.f9 [.slice B24 t23.f9.length d24], .own (Zd.slice 9 Zd.string) t23.f10 [.slice B25 t23.f10.length d25], .own (Zd.slice 9 Zd.string) t23.f11 [.slice B26 t23.f11.length d26]] rfl (fun A' HL HD HA HB => ?_); refine ev_lc (laws_markCert.calls ht55.out HA) (fun _ HQ => HB _ _ HQ (Nat.le_of_ble_eq_true rfl)) Tryz.func39 ?_; clear HS HA HB HL HD; intro wt55 HS F))
  go_ret
  exact HS.pk
 replace H := zbind H; obtain ⟨t58, ht58, H⟩ := H
 replace H := znifb H; rcases H with ⟨c60, H⟩ | ⟨c60, H⟩
 case inl =>
  subst c60
  obtain rfl := zsome H
  go_wp2_with (first | ((with_reducible refine gd 66 rfl ?_); refine HS.lend [12, 13, 14] (by decide) [.own (Zd.slice 91 q91) t14.f0 [.slice B15 t14.f0.length d15], .own (Zd.slice 81 q81) t14.f1 [.slice B16 t14.f1.length d16], .own (Zd.slice 115 q115) t14.f2 [.slice B17 t14.f2.length d17]] rfl (fun A' HL HD HA HB => ?_); refine ev_lc (laws_markStore.calls ht53.out HA) (fun _ HQ => HB _ _ HQ (Nat.le_of_ble_eq_true rfl)) Tryz.func31 ?_; clear HS HA HB HL HD; intro wt53 HS F) | ((with_reducible refine gd 69 rfl ?_); refine HS.lend [16, 17, 18] (by decide) [.own (Zd.slice 3 (Zd.int .i64)) t23.f9 [.slice B24 t23.f9.length d24], .own (Zd.slice 9 Zd.string) t23.f10 [.slice B25 t23.f10.length d25], .own (Zd.slice 9 Zd.string) t23.f11 [.slice B26 t23.f11.length d26]] rfl (fun A' HL HD HA HB => ?_); refine ev_lc (laws_markCert.calls ht55.out HA) (fun _ HQ => HB _ _ HQ (Nat.le_of_ble_eq_true rfl)) Tryz.func39 ?_; clear HS HA HB HL HD; intro wt55 HS F) | ((with_reducible refine gd 75 rfl ?_); refine gg ?_; refine ev_cl HS (laws_eqStore.calls ht58.out (HS.rd 20 rfl) m33 (HS.rd 21 rfl) m34 (HS.rd 22 rfl) m35 (HS.rd 8 rfl) m45 (HS.rd 9 rfl) m47 (HS.rd 10 rfl) m49) Tryz.func15 ?_; clear HS; intro wt58 HS F))
  go_ret
  exact HS.pk
 subst c60
 replace H := zbind H; obtain ⟨t61, ht61, H⟩ := H
 replace H := zbind H; obtain ⟨t63, ht63, H⟩ := H
 go_upto_if 90 with (first | ((with_reducible refine gd 66 rfl ?_); refine HS.lend [12, 13, 14] (by decide) [.own (Zd.slice 91 q91) t14.f0 [.slice B15 t14.f0.length d15], .own (Zd.slice 81 q81) t14.f1 [.slice B16 t14.f1.length d16], .own (Zd.slice 115 q115) t14.f2 [.slice B17 t14.f2.length d17]] rfl (fun A' HL HD HA HB => ?_); refine ev_lc (laws_markStore.calls ht53.out HA) (fun _ HQ => HB _ _ HQ (Nat.le_of_ble_eq_true rfl)) Tryz.func31 ?_; clear HS HA HB HL HD; intro wt53 HS F) | ((with_reducible refine gd 69 rfl ?_); refine HS.lend [16, 17, 18] (by decide) [.own (Zd.slice 3 (Zd.int .i64)) t23.f9 [.slice B24 t23.f9.length d24], .own (Zd.slice 9 Zd.string) t23.f10 [.slice B25 t23.f10.length d25], .own (Zd.slice 9 Zd.string) t23.f11 [.slice B26 t23.f11.length d26]] rfl (fun A' HL HD HA HB => ?_); refine ev_lc (laws_markCert.calls ht55.out HA) (fun _ HQ => HB _ _ HQ (Nat.le_of_ble_eq_true rfl)) Tryz.func39 ?_; clear HS HA HB HL HD; intro wt55 HS F) | ((with_reducible refine gd 75 rfl ?_); refine gg ?_; refine ev_cl HS (laws_eqStore.calls ht58.out (HS.rd 20 rfl) m33 (HS.rd 21 rfl) m34 (HS.rd 22 rfl) m35 (HS.rd 8 rfl) m45 (HS.rd 9 rfl) m47 (HS.rd 10 rfl) m49) Tryz.func15 ?_; clear HS; intro wt58 HS F) | ((with_reducible refine gd 85 rfl ?_); refine HS.lend [20, 21, 22] (by decide) [.own (Zd.slice 91 q91) t32.1.f0 [.slice B33 t32.1.f0.length d33], .own (Zd.slice 81 q81) t32.1.f1 [.slice B34 t32.1.f1.length d34], .own (Zd.slice 115 q115) t32.1.f2 [.slice B35 t32.1.f2.length d35]] rfl (fun A' HL HD HA HB => ?_); refine ev_lc (laws_markStore.calls ht61.out HA) (fun _ HQ => HB _ _ HQ (Nat.le_of_ble_eq_true rfl)) Tryz.func31 ?_; clear HS HA HB HL HD; intro wt61 HS F) | ((with_reducible refine gd 88 rfl ?_); refine ev_cl HS (laws_heldStore.calls ht63.out (HS.rd 20 rfl) m33 (HS.rd 21 rfl) m34 (HS.rd 22 rfl) m35) Tryz.func33 ?_; clear HS; intro wt63 HS F))
 replace H := zif H; rcases H with ⟨c65, H⟩ | ⟨c65, H⟩
 case inl =>
  (try simp only [c65, dcn])
  obtain rfl := zsome H
  go_wp2
  go_ret
  exact HS.pk
 (try simp only [c65, dcn])
 replace H := znif' H; rcases H with ⟨c66, H⟩ | ⟨c66, H⟩
 case inl =>
  have c66a := beq_eq_false_iff_ne.mpr c66
  have c66b := bne_iff_ne.mpr c66
  clear c66
  (try simp only [c66a, c66b, dcn])
  obtain rfl := zsome H
  go_wp2
  go_ret
  exact HS.pk
 have c66a := beq_iff_eq.mpr c66
 have c66b := bne_eq_false_iff_eq.mpr c66
 clear c66
 (try simp only [c66a, c66b, dcn])
 (try go_wp2)
 replace H := zbind H; obtain ⟨t83, ht83, H⟩ := H
 replace H := zbind H; obtain ⟨t87, ht87, H⟩ := H
 replace H := zbind H; obtain ⟨t93, ht93, H⟩ := H
 refine dr_start [9] HS #[false, false, false, false, false, false, false, false, false, false, false] (by kernel_rfl) rfl rfl laws_FnExactAddCert.tT31 (fun w68 HT HS HH => ?_)
 (try clear F)
 refine join_ 0 #[true, true, true, true, true, true, true, true, true, true, true] (fun ((v84, v85, v86, v89, v90, v92, v94, v95, v96, g15) : Value × Value × Value × Value × Value × Value × Value × Value × Value × Nat) => ([(95, .agg #[.slice Ap0 a0.f0.length cp0, .slice Ap1 a0.f1.length cp1, .slice Ap2 a0.f2.length cp2]), (96, .agg #[v84, v85, v86]), (97, .agg #[.int .i64 a1.f0, .string a1.f1, .string a1.f2, .int .i64 a1.f3, .int .i64 a1.f4, .string a1.f5, .bool a1.f6, .int .i64 a1.f7, .int .i64 a1.f8, .slice Ap3 a1.f9.length cp3, .slice Ap4 a1.f10.length cp4, .slice Ap5 a1.f11.length cp5, .string a1.f12]), (98, .agg #[.int .i64 t87.f0, .string t87.f1, .string t87.f2, .int .i64 t87.f3, .int .i64 t87.f4, .string t87.f5, .bool t87.f6, .int .i64 t87.f7, .int .i64 t87.f8, v89, v90, v92, .string t87.f12]), (99, .tuple #[.agg #[v94, v95, v96], .bool t93.2]), (94, .tuple #[.agg #[v94, v95, v96], .bool t93.2]), (100, .agg #[v94, v95, v96]), (101, .bool t93.2), (15, .pointer (some ⟨g15, 0, none⟩)), (16, .bool t93.2)] : List (Tmp × Value))) (fun ((v84, v85, v86, v89, v90, v92, v94, v95, v96, g15) : Value × Value × Value × Value × Value × Value × Value × Value × Value × Nat) w' => Hp noFP w w' [.box g2 [.slice Ap0 a0.f0.length cp0, .slice Ap1 a0.f1.length cp1, .slice Ap2 a0.f2.length cp2] 26, .box g3 [.int .i64 a1.f0, .string a1.f1, .string a1.f2, .int .i64 a1.f3, .int .i64 a1.f4, .string a1.f5, .bool a1.f6, .int .i64 a1.f7, .int .i64 a1.f8, .slice Ap3 a1.f9.length cp3, .slice Ap4 a1.f10.length cp4, .slice Ap5 a1.f11.length cp5, .string a1.f12] 88, .own (Zd.slice 91 q91) t18.f0 [.slice B19 t18.f0.length d19], .own (Zd.slice 81 q81) t18.f1 [.slice B20 t18.f1.length d20], .own (Zd.slice 115 q115) t18.f2 [.slice B22 t18.f2.length d22], .own (Zd.slice 3 (Zd.int .i64)) t27.f9 [.slice B28 t27.f9.length d28], .own (Zd.slice 9 Zd.string) t27.f10 [.slice B29 t27.f10.length d29], .own (Zd.slice 9 Zd.string) t27.f11 [.slice B40 t27.f11.length d40], .own (Zd.slice 91 q91) t42.1.f0 [.slice B45 t42.1.f0.length d45], .own (Zd.slice 81 q81) t42.1.f1 [.slice B47 t42.1.f1.length d47], .own (Zd.slice 115 q115) t42.1.f2 [.slice B49 t42.1.f2.length d49], .box g6 [.slice B45 t42.1.f0.length d45, .slice B47 t42.1.f1.length d47, .slice B49 t42.1.f2.length d49] 33, .own (Zd.slice 91 q91) t53.2.1 [.slice B15 t14.f0.length d15], .own (Zd.slice 81 q81) t53.2.2.1 [.slice B16 t14.f1.length d16], .own (Zd.slice 115 q115) t53.2.2.2 [.slice B17 t14.f2.length d17], .box g8 [.slice B15 t14.f0.length d15, .slice B16 t14.f1.length d16, .slice B17 t14.f2.length d17] 33, .own (Zd.slice 3 (Zd.int .i64)) t55.2.1 [.slice B24 t23.f9.length d24], .own (Zd.slice 9 Zd.string) t55.2.2.1 [.slice B25 t23.f10.length d25], .own (Zd.slice 9 Zd.string) t55.2.2.2 [.slice B26 t23.f11.length d26], .box g9 [.int .i64 t23.f0, .string t23.f1, .string t23.f2, .int .i64 t23.f3, .int .i64 t23.f4, .string t23.f5, .bool t23.f6, .int .i64 t23.f7, .int .i64 t23.f8, .slice B24 t23.f9.length d24, .slice B25 t23.f10.length d25, .slice B26 t23.f11.length d26, .string t23.f12] 91, .own (Zd.slice 91 q91) t61.2.1 [.slice B33 t32.1.f0.length d33], .own (Zd.slice 81 q81) t61.2.2.1 [.slice B34 t32.1.f1.length d34], .own (Zd.slice 115 q115) t61.2.2.2 [.slice B35 t32.1.f2.length d35], .box g10 [.slice B33 t32.1.f0.length d33, .slice B34 t32.1.f1.length d34, .slice B35 t32.1.f2.length d35] 33, .own (Zd.slice 91 q91) t56.f0 [.slice B59 t56.f0.length d59], .own (Zd.slice 81 q81) t56.f1 [.slice B62 t56.f1.length d62], .own (Zd.slice 115 q115) t56.f2 [.slice B67 t56.f2.length d67], .own (Zd.slice 3 (Zd.int .i64)) t71.f9 [.slice B78 t71.f9.length d78], .own (Zd.slice 9 Zd.string) t71.f10 [.slice B79 t71.f10.length d79], .own (Zd.slice 9 Zd.string) t71.f11 [.slice B80 t71.f11.length d80], .own (Zd.slice 91 q91) t83.f0 [v84], .own (Zd.slice 81 q81) t83.f1 [v85], .own (Zd.slice 115 q115) t83.f2 [v86], .own (Zd.slice 3 (Zd.int .i64)) t87.f9 [v89], .own (Zd.slice 9 Zd.string) t87.f10 [v90], .own (Zd.slice 9 Zd.string) t87.f11 [v92], .own (Zd.slice 91 q91) t93.1.f0 [v94], .own (Zd.slice 81 q81) t93.1.f1 [v95], .own (Zd.slice 115 q115) t93.1.f2 [v96], .box g15 [v94, v95, v96] 33]) ?_ ?_
 rotate_left
 · intro hJ
   refine drq_of [(0, some 95), (2, some 97)] ?_
   repeat (refine drt HT HH ?_)
   refine drq_end ?_
   refine dr_any [1, 8] HT (by kernel_rfl) (by decide) (AllReadyL.cons rfl (by decide) (fun K hK => ?_) (AllReadyL.cons rfl (by decide) (fun K hK => ?_) AllReadyL.nil))
   · refine go_cl3 HS (laws_toStore.calls ht83.out (HS.ro gp0) lp0 (HS.ro gp1) lp1 (HS.ro gp2) lp2) Tryz.func13 ?_; clear HS; intro v84 v85 v86 wt83 HS F; obtain ⟨B84, d84, rfl, m84⟩ := HS.form 30 rfl; obtain ⟨B85, d85, rfl, m85⟩ := HS.form 31 rfl; obtain ⟨B86, d86, rfl, m86⟩ := HS.form 32 rfl
     refine nrm 96 hK ⟨_, HS⟩ (fun HH => ?_); clear hK K
     refine dr_any [3, 8] HT (by kernel_rfl) (by decide) (AllReadyL.cons rfl (by decide) (fun K hK => ?_) (AllReadyL.cons rfl (by decide) (fun K hK => ?_) AllReadyL.nil))
     · refine go_cl3 HS (laws_toCert.calls ht87.out (HS.ro gp3) lp3 (HS.ro gp4) lp4 (HS.ro gp5) lp5) Tryz.func36 ?_; clear HS; intro v89 v90 v92 wt87 HS F; obtain ⟨B89, d89, rfl, m89⟩ := HS.form 33 rfl; obtain ⟨B90, d90, rfl, m90⟩ := HS.form 34 rfl; obtain ⟨B92, d92, rfl, m92⟩ := HS.form 35 rfl
       refine nrm 98 hK ⟨_, HS⟩ (fun HH => ?_); clear hK K
       refine dr_any [4, 8] HT (by kernel_rfl) (by decide) (AllReadyL.cons rfl (by decide) (fun K hK => ?_) (AllReadyL.cons rfl (by decide) (fun K hK => ?_) AllReadyL.nil))
       · refine go_cl3 HS (impl_AddCert.calls ht93.out (HS.rd 30 rfl) m84 (HS.rd 31 rfl) m85 (HS.rd 32 rfl) m86 (HS.rd 33 rfl) m89 (HS.rd 34 rfl) m90 (HS.rd 35 rfl) m92 (HS.keepc hgM)) Tryz.func37 ?_; clear HS; intro v94 v95 v96 wt93 HS F; obtain ⟨B94, d94, rfl, m94⟩ := HS.form 36 rfl; obtain ⟨B95, d95, rfl, m95⟩ := HS.form 37 rfl; obtain ⟨B96, d96, rfl, m96⟩ := HS.form 38 rfl
         refine nrm 99 hK ⟨_, HS⟩ (fun HH => ?_); clear hK K
         refine drq_of [(5, some 94), (6, some 100), (7, some 101)] ?_
         repeat (refine drp HT ?_)
         refine drq_end ?_
         refine dr1 8 HT fun K hK => ?_
         refine if_bx HS ?_; clear HS; intro g15 w15 HS F
         refine nrm 15 hK ⟨_, HS⟩ (fun HH => ?_); clear hK K
         refine dr_last 9 HT rfl (by kernel_rfl) (by decide) (fun K hK => ?_)
         refine if_st 39 0 HS (seg := [.slice B94 t93.1.f0.length d94, .slice B95 t93.1.f1.length d95, .slice B96 t93.1.f2.length d96]) ?_; clear HS; intro w97 HS F
         refine hK.out _ _ ?_
         clear hK K
         refine drq_of [(10, some 16)] ?_
         repeat (refine drp HT ?_)
         refine drq_end ?_
         refine norm_ ?_ (hJ (.slice B84 t83.f0.length d84, .slice B85 t83.f1.length d85, .slice B86 t83.f2.length d86, .slice B89 t87.f9.length d89, .slice B90 t87.f10.length d90, .slice B92 t87.f11.length d92, .slice B94 t93.1.f0.length d94, .slice B95 t93.1.f1.length d95, .slice B96 t93.1.f2.length d96, g15) _ (HS.arr [some 0, some 1, some 2, some 3, some 4, some 5, some 6, some 7, some 8, some 9, some 10, some 11, some 12, some 13, some 14, some 15, some 16, some 17, some 18, some 19, some 20, some 21, some 22, some 23, some 24, some 25, some 26, some 27, some 28, some 29, some 30, some 31, some 32, some 33, some 34, some 35, some 36, some 37, some 38, some 39] (by decide)))
         simp only [putAll, Act.put, ptn]
         (try rfl)
       · refine if_bx HS ?_; clear HS; intro g15 w15 HS F
         refine nrm 15 hK ⟨_, HS⟩ (fun HH => ?_); clear hK K
         refine dr1 4 HT fun K hK => ?_
         refine go_cl3 HS (impl_AddCert.calls ht93.out (HS.rd 30 rfl) m84 (HS.rd 31 rfl) m85 (HS.rd 32 rfl) m86 (HS.rd 33 rfl) m89 (HS.rd 34 rfl) m90 (HS.rd 35 rfl) m92 (HS.keepc hgM)) Tryz.func37 ?_; clear HS; intro v94 v95 v96 wt93 HS F; obtain ⟨B94, d94, rfl, m94⟩ := HS.form 37 rfl; obtain ⟨B95, d95, rfl, m95⟩ := HS.form 38 rfl; obtain ⟨B96, d96, rfl, m96⟩ := HS.form 39 rfl
         refine nrm 99 hK ⟨_, HS⟩ (fun HH => ?_); clear hK K
         refine drq_of [(5, some 94), (6, some 100), (7, some 101)] ?_
         repeat (refine drp HT ?_)
         refine drq_end ?_
         refine dr_last 9 HT rfl (by kernel_rfl) (by decide) (fun K hK => ?_)
         refine if_st 36 0 HS (seg := [.slice B94 t93.1.f0.length d94, .slice B95 t93.1.f1.length d95, .slice B96 t93.1.f2.length d96]) ?_; clear HS; intro w97 HS F
         refine hK.out _ _ ?_
         clear hK K
         refine drq_of [(10, some 16)] ?_
         repeat (refine drp HT ?_)
         refine drq_end ?_
         refine norm_ ?_ (hJ (.slice B84 t83.f0.length d84, .slice B85 t83.f1.length d85, .slice B86 t83.f2.length d86, .slice B89 t87.f9.length d89, .slice B90 t87.f10.length d90, .slice B92 t87.f11.length d92, .slice B94 t93.1.f0.length d94, .slice B95 t93.1.f1.length d95, .slice B96 t93.1.f2.length d96, g15) _ (HS.arr [some 0, some 1, some 2, some 3, some 4, some 5, some 6, some 7, some 8, some 9, some 10, some 11, some 12, some 13, some 14, some 15, some 16, some 17, some 18, some 19, some 20, some 21, some 22, some 23, some 24, some 25, some 26, some 27, some 28, some 29, some 30, some 31, some 32, some 33, some 34, some 35, some 37, some 38, some 39, some 36] (by decide)))
         simp only [putAll, Act.put, ptn]
         (try rfl)
     · refine if_bx HS ?_; clear HS; intro g15 w15 HS F
       refine nrm 15 hK ⟨_, HS⟩ (fun HH => ?_); clear hK K
       refine dr1 3 HT fun K hK => ?_
       refine go_cl3 HS (laws_toCert.calls ht87.out (HS.ro gp3) lp3 (HS.ro gp4) lp4 (HS.ro gp5) lp5) Tryz.func36 ?_; clear HS; intro v89 v90 v92 wt87 HS F; obtain ⟨B89, d89, rfl, m89⟩ := HS.form 34 rfl; obtain ⟨B90, d90, rfl, m90⟩ := HS.form 35 rfl; obtain ⟨B92, d92, rfl, m92⟩ := HS.form 36 rfl
       refine nrm 98 hK ⟨_, HS⟩ (fun HH => ?_); clear hK K
       refine dr1 4 HT fun K hK => ?_
       refine go_cl3 HS (impl_AddCert.calls ht93.out (HS.rd 30 rfl) m84 (HS.rd 31 rfl) m85 (HS.rd 32 rfl) m86 (HS.rd 34 rfl) m89 (HS.rd 35 rfl) m90 (HS.rd 36 rfl) m92 (HS.keepc hgM)) Tryz.func37 ?_; clear HS; intro v94 v95 v96 wt93 HS F; obtain ⟨B94, d94, rfl, m94⟩ := HS.form 37 rfl; obtain ⟨B95, d95, rfl, m95⟩ := HS.form 38 rfl; obtain ⟨B96, d96, rfl, m96⟩ := HS.form 39 rfl
       refine nrm 99 hK ⟨_, HS⟩ (fun HH => ?_); clear hK K
       refine drq_of [(5, some 94), (6, some 100), (7, some 101)] ?_
       repeat (refine drp HT ?_)
       refine drq_end ?_
       refine dr_last 9 HT rfl (by kernel_rfl) (by decide) (fun K hK => ?_)
       refine if_st 33 0 HS (seg := [.slice B94 t93.1.f0.length d94, .slice B95 t93.1.f1.length d95, .slice B96 t93.1.f2.length d96]) ?_; clear HS; intro w97 HS F
       refine hK.out _ _ ?_
       clear hK K
       refine drq_of [(10, some 16)] ?_
       repeat (refine drp HT ?_)
       refine drq_end ?_
       refine norm_ ?_ (hJ (.slice B84 t83.f0.length d84, .slice B85 t83.f1.length d85, .slice B86 t83.f2.length d86, .slice B89 t87.f9.length d89, .slice B90 t87.f10.length d90, .slice B92 t87.f11.length d92, .slice B94 t93.1.f0.length d94, .slice B95 t93.1.f1.length d95, .slice B96 t93.1.f2.length d96, g15) _ (HS.arr [some 0, some 1, some 2, some 3, some 4, some 5, some 6, some 7, some 8, some 9, some 10, some 11, some 12, some 13, some 14, some 15, some 16, some 17, some 18, some 19, some 20, some 21, some 22, some 23, some 24, some 25, some 26, some 27, some 28, some 29, some 30, some 31, some 32, some 34, some 35, some 36, some 37, some 38, some 39, some 33] (by decide)))
       simp only [putAll, Act.put, ptn]
       (try rfl)
   · refine if_bx HS ?_; clear HS; intro g15 w15 HS F
     refine nrm 15 hK ⟨_, HS⟩ (fun HH => ?_); clear hK K
     refine dr1 1 HT fun K hK => ?_
     refine go_cl3 HS (laws_toStore.calls ht83.out (HS.ro gp0) lp0 (HS.ro gp1) lp1 (HS.ro gp2) lp2) Tryz.func13 ?_; clear HS; intro v84 v85 v86 wt83 HS F; obtain ⟨B84, d84, rfl, m84⟩ := HS.form 31 rfl; obtain ⟨B85, d85, rfl, m85⟩ := HS.form 32 rfl; obtain ⟨B86, d86, rfl, m86⟩ := HS.form 33 rfl
     refine nrm 96 hK ⟨_, HS⟩ (fun HH => ?_); clear hK K
     refine dr1 3 HT fun K hK => ?_
     refine go_cl3 HS (laws_toCert.calls ht87.out (HS.ro gp3) lp3 (HS.ro gp4) lp4 (HS.ro gp5) lp5) Tryz.func36 ?_; clear HS; intro v89 v90 v92 wt87 HS F; obtain ⟨B89, d89, rfl, m89⟩ := HS.form 34 rfl; obtain ⟨B90, d90, rfl, m90⟩ := HS.form 35 rfl; obtain ⟨B92, d92, rfl, m92⟩ := HS.form 36 rfl
     refine nrm 98 hK ⟨_, HS⟩ (fun HH => ?_); clear hK K
     refine dr1 4 HT fun K hK => ?_
     refine go_cl3 HS (impl_AddCert.calls ht93.out (HS.rd 31 rfl) m84 (HS.rd 32 rfl) m85 (HS.rd 33 rfl) m86 (HS.rd 34 rfl) m89 (HS.rd 35 rfl) m90 (HS.rd 36 rfl) m92 (HS.keepc hgM)) Tryz.func37 ?_; clear HS; intro v94 v95 v96 wt93 HS F; obtain ⟨B94, d94, rfl, m94⟩ := HS.form 37 rfl; obtain ⟨B95, d95, rfl, m95⟩ := HS.form 38 rfl; obtain ⟨B96, d96, rfl, m96⟩ := HS.form 39 rfl
     refine nrm 99 hK ⟨_, HS⟩ (fun HH => ?_); clear hK K
     refine drq_of [(5, some 94), (6, some 100), (7, some 101)] ?_
     repeat (refine drp HT ?_)
     refine drq_end ?_
     refine dr_last 9 HT rfl (by kernel_rfl) (by decide) (fun K hK => ?_)
     refine if_st 30 0 HS (seg := [.slice B94 t93.1.f0.length d94, .slice B95 t93.1.f1.length d95, .slice B96 t93.1.f2.length d96]) ?_; clear HS; intro w97 HS F
     refine hK.out _ _ ?_
     clear hK K
     refine drq_of [(10, some 16)] ?_
     repeat (refine drp HT ?_)
     refine drq_end ?_
     refine norm_ ?_ (hJ (.slice B84 t83.f0.length d84, .slice B85 t83.f1.length d85, .slice B86 t83.f2.length d86, .slice B89 t87.f9.length d89, .slice B90 t87.f10.length d90, .slice B92 t87.f11.length d92, .slice B94 t93.1.f0.length d94, .slice B95 t93.1.f1.length d95, .slice B96 t93.1.f2.length d96, g15) _ (HS.arr [some 0, some 1, some 2, some 3, some 4, some 5, some 6, some 7, some 8, some 9, some 10, some 11, some 12, some 13, some 14, some 15, some 16, some 17, some 18, some 19, some 20, some 21, some 22, some 23, some 24, some 25, some 26, some 27, some 28, some 29, some 31, some 32, some 33, some 34, some 35, some 36, some 37, some 38, some 39, some 30] (by decide)))
     simp only [putAll, Act.put, ptn]
     (try rfl)
 rintro ⟨v84, v85, v86, v89, v90, v92, v94, v95, v96, g15⟩ w98 HS
 obtain ⟨B84, d84, rfl, m84⟩ := HS.form 30 rfl
 obtain ⟨B85, d85, rfl, m85⟩ := HS.form 31 rfl
 obtain ⟨B86, d86, rfl, m86⟩ := HS.form 32 rfl
 obtain ⟨B89, d89, rfl, m89⟩ := HS.form 33 rfl
 obtain ⟨B90, d90, rfl, m90⟩ := HS.form 34 rfl
 obtain ⟨B92, d92, rfl, m92⟩ := HS.form 35 rfl
 obtain ⟨B94, d94, rfl, m94⟩ := HS.form 36 rfl
 obtain ⟨B95, d95, rfl, m95⟩ := HS.form 37 rfl
 obtain ⟨B96, d96, rfl, m96⟩ := HS.form 38 rfl
 have F := HS.boxes; simp only [bxn] at F
 refine norm_ (a' := ?_) ?_ ?_
 rotate_left
 · simp only [putAll, Act.put, ptn]; rfl
 refine done_ (done_of HT.out (by kernel_rfl)) ?_
 replace H := zbind H; obtain ⟨t70, ht70, H⟩ := H
 replace H := znifb H; rcases H with ⟨c72, H⟩ | ⟨c72, H⟩
 case inl =>
  subst c72
  obtain rfl := zsome H
  go_wp2_with (first | ((with_reducible refine gd 104 rfl ?_); refine ev_cl HS (laws_eqStore.calls ht70.out (HS.rd 36 rfl) m94 (HS.rd 37 rfl) m95 (HS.rd 38 rfl) m96 (HS.rd 8 rfl) m45 (HS.rd 9 rfl) m47 (HS.rd 10 rfl) m49) Tryz.func15 ?_; clear HS; intro wt70 HS F))
  go_ret
  exact HS.pk
 subst c72
 go_upto_if 110 with (first | ((with_reducible refine gd 104 rfl ?_); refine ev_cl HS (laws_eqStore.calls ht70.out (HS.rd 36 rfl) m94 (HS.rd 37 rfl) m95 (HS.rd 38 rfl) m96 (HS.rd 8 rfl) m45 (HS.rd 9 rfl) m47 (HS.rd 10 rfl) m49) Tryz.func15 ?_; clear HS; intro wt70 HS F))
 replace H := znif' H; rcases H with ⟨c73, H⟩ | ⟨c73, H⟩
 case inl =>
  have c73a := beq_eq_false_iff_ne.mpr c73
  have c73b := bne_iff_ne.mpr c73
  clear c73
  (try simp only [c73a, c73b, dcn])
  obtain rfl := zsome H
  go_wp2
  go_ret
  exact HS.pk
 have c73a := beq_iff_eq.mpr c73
 have c73b := bne_eq_false_iff_eq.mpr c73
 clear c73
 (try simp only [c73a, c73b, dcn])
 replace H := zbind H; obtain ⟨t74, ht74, H⟩ := H
 go_upto_if 115 with (first | ((with_reducible refine gd 113 rfl ?_); refine ev_cl HS (laws_heldStore.calls ht74.out (HS.rd 20 rfl) m33 (HS.rd 21 rfl) m34 (HS.rd 22 rfl) m35) Tryz.func33 ?_; clear HS; intro wt74 HS F))
 replace H := zif H; rcases H with ⟨c76, H⟩ | ⟨c76, H⟩
 case inl =>
  (try simp only [c76, dcn])
  obtain rfl := zsome H
  go_wp2
  go_ret
  exact HS.pk
 (try simp only [c76, dcn])
 replace H := znif' H; rcases H with ⟨c77, H⟩ | ⟨c77, H⟩
 case inl =>
  have c77a := beq_eq_false_iff_ne.mpr c77
  have c77b := bne_iff_ne.mpr c77
  clear c77
  (try simp only [c77a, c77b, dcn])
  obtain rfl := zsome H
  go_wp2
  go_ret
  exact HS.pk
 have c77a := beq_iff_eq.mpr c77
 have c77b := bne_eq_false_iff_eq.mpr c77
 clear c77
 (try simp only [c77a, c77b, dcn])
 obtain rfl := zsome H
 go_wp2
 go_ret
 exact HS.pk
end Go.Proofs.YtacocpknielofaaGreatDoor.F

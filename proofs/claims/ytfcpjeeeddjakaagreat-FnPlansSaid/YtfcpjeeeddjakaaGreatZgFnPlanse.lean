/- Functions of the program and of the law, and that their calls do what is written here. -/
import Derived.Test.YtfcpjeeeddjakaaGreatZgFnPlansa
import Derived.Test.YtfcpjeeeddjakaaGreatZgFnPlansb
import Derived.Test.YtfcpjeeeddjakaaGreatZgFnPlansc
import Derived.Test.YtfcpjeeeddjakaaGreatZgFnPlansd
namespace Go.Proofs.YtfcpjeeeddjakaaGreat.F
open Go.RowKit YtfcpjeeeddjakaaGreatW.PrintWords YtfcpjeeeddjakaaGreatW.PrintLast YtfcpjeeeddjakaaGreatW.PrintMore Z
attribute [local go_sem] max2_int min2_int max_two min_two max_three min_three max_four min_four
set_option linter.unusedVariables false
set_option linter.unusedSimpArgs false
set_option maxRecDepth 100000
set_option maxHeartbeats 16000000
def spec_l13Copy.l0:Nat→(List S103)→Int→S48→(List S125)→(List S105)→Option (S48)
  |0,_,_,_,_,_=>none
  |k+1,l20,x22,a0,t7,y11=>(if x22<(a0.f1.length:Int)then(if 0≤x22 then(if x22<(a0.f1.length:Int)then((spec_l10Copy.f (rd_T103 a0.f1 x22)).bind fun t17=>(if l20.length+1≤1599289640401 then(lets (l20++([t17]:List S103)) fun y27=>(spec_l13Copy.l0 k y27 (wrap64 (x22+1)) a0 t7 y11))else none))else none)else none)else(some (⟨t7,l20,y11⟩:S48)))
def spec_l13Copy.f (k:Nat)(a0:S48):Option (S48):=((spec_l13Certs.f k a0.f0).bind fun t7=>(if 0+a0.f2.length≤4398046511104 then(lets (([]:List S105)++a0.f2) fun y11=>(spec_l13Copy.l0 k [] 0 a0 t7 y11))else none))
def spec_l13Copy.T1:TT:=(true,[([],[]),([0],[0]),([1],[1]),([],[]),([],[]),([4],[4]),([3,5,2],[3,5]),([2,6],[2,6]),([],[]),([8,7,6,0,1,2,3,4,5,6,7,8],[7,8])])
theorem spec_l13Copy.tT1:rtab .any (opsOf Tryz.f66 1)=spec_l13Copy.T1:=by kernel_rfl
def spec_l13Copy.T5:TT:=(true,[([],[]),([0],[0]),([],[]),([2],[2]),([],[]),([3,4],[3,4]),([5],[5]),([6],[6]),([7],[7]),([1,8,7],[1,8]),([0,1,2,3,4,5,6,7,8,9],[]),([10,9,9,0,1,2,3,4,5,6,7,8,9],[9,10])])
theorem spec_l13Copy.tT5:rtab .any (opsOf Tryz.f66 5)=spec_l13Copy.T5:=by kernel_rfl
theorem spec_l13Copy.calls {k:Nat}{a0:S48}{Ap0 Ap1 Ap2:Option Addr}{np0 cp0 np1 cp1 np2 cp2:Nat}{r:S48}{w:World}(h:spec_l13Copy.f k a0=some r)(gp0:k125.C w Ap0 np0 a0.f0)(lp0:np0≤cp0)(gp1:k103.C w Ap1 np1 a0.f1)(lp1:np1≤cp1)(gp2:k105.C w Ap2 np2 a0.f2)(lp2:np2≤cp2):
    Calls Tryz.prog 66 #[.agg #[.slice Ap0 np0 cp0,.slice Ap1 np1 cp1,.slice Ap2 np2 cp2]] w (fun e w'=>∃v0_ v1_ v2_:Value,e=.returned (.agg #[v0_,v1_,v2_])∧Hp noFP w w' [.own (Zd.slice 125 q125) r.f0 [v0_],.own (Zd.slice 103 q103) r.f1 [v1_],.own (Zd.slice 105 q105) r.f2 [v2_]]):=by
 obtain rfl:=C_len gp0
 obtain rfl:=C_len gp1
 obtain rfl:=C_len gp2
 have HS:=Hp.start w
 have H:=Aside0.mk h
 clear h
 unfold spec_l13Copy.f at H
 go_enter Tryz.func66,Tryz.ntmps66
 go_wp2_with (first|((with_reducible refine gd 1 rfl ?_);refine ev_bx HS ?_;clear HS;intro g1 w1 HS F)|((with_reducible refine gd 2 rfl ?_);refine ev_bx HS ?_;clear HS;intro g2 w2 HS F))
 replace H:=zbind H;obtain⟨t7,ht7,H⟩:=H
 replace H:=zgo H;obtain⟨c10,H⟩:=H
 replace H:=zlets H;obtain⟨y11,e_y11,H⟩:=H
 refine dr_start [9] HS #[false,false,false,false,false,false,false,false,false,false] (by kernel_rfl) rfl rfl spec_l13Copy.tT1 (fun w6 HT HS HH=>?_)
 (try clear F)
 refine join_ 0 #[true,true,true,true,true,true,true,true,true,true] (fun((v8,v9,v11,g3):Value×Value×Value×Nat)=>([(5,.pointer (some ⟨g1,0,none⟩)),(6,.slice Ap0 a0.f0.length cp0),(7,v8),(8,v9),(9,.pointer (some ⟨g1,2,none⟩)),(10,.slice Ap2 a0.f2.length cp2),(11,v11),(12,.agg #[v8,.slice none 0 0,v11]),(3,.pointer (some ⟨g3,0,none⟩))]:List (Tmp×Value))) (fun((v8,v9,v11,g3):Value×Value×Value×Nat) w'=>Hp noFP w w' [.box g1 [.slice Ap0 a0.f0.length cp0,.slice Ap1 a0.f1.length cp1,.slice Ap2 a0.f2.length cp2] 48,.box g2 [.slice none 0 0,.slice none 0 0,.slice none 0 0] 48,.own (Zd.slice 125 q125) t7 [v8],.emp,.own (Zd.slice 105 q105) y11 [v11],.box g3 [v8,.slice none 0 0,v11] 48]) ?_ ?_
 rotate_left
 · intro hJ
   refine dqt [0,1,4,5] HT HH ?_
   refine dr_any [2,3,8] HT (by kernel_rfl) (by decide) (AllReadyL.cons rfl (by decide) (fun K hK=>?_) (AllReadyL.cons rfl (by decide) (fun K hK=>?_) (AllReadyL.cons rfl (by decide) (fun K hK=>?_) AllReadyL.nil)))
   · refine go_cl1 HS (spec_l13Certs.calls ht7.out (HS.ro gp0) lp0) Tryz.func95 ?_;clear HS;intro v8 wt7 HS F;obtain⟨B8,d8,rfl,m8⟩:=HS.form 2 rfl
     refine nrm 7 hK ⟨_,HS⟩ fun HH=>?_;clear hK K
     refine dr_any [3,8] HT (by kernel_rfl) (by decide) (AllReadyL.cons rfl (by decide) (fun K hK=>?_) (AllReadyL.cons rfl (by decide) (fun K hK=>?_) AllReadyL.nil))
     · refine if_li q105 [] ([]:List S105) [] HS MadeL.nil ?_;clear HS;intro v9 w9 HS F;obtain⟨B9,d9,rfl,m9⟩:=HS.formn 0 3 rfl rfl
       refine nrm 8 hK ⟨_,HS⟩ fun HH=>?_;clear hK K
       refine dr_any [6,8] HT (by kernel_rfl) (by decide) (AllReadyL.cons rfl (by decide) (fun K hK=>?_) (AllReadyL.cons rfl (by decide) (fun K hK=>?_) AllReadyL.nil))
       · refine wp_apr fl105 3 HS rfl (HS.ro gp2) Tryz.underlying46 info105 (of_eq_true c10) ?_;clear HS;intro v11 w11 HS;rw [←e_y11.out] at HS;obtain⟨B11,d11,rfl,m11⟩:=HS.form 4 rfl
         (try simp only [hpn,hpm] at HS)
         have F:=HS.bx
         refine nrm 11 hK ⟨_,HS⟩ fun HH=>?_;clear hK K
         refine dq [7] HT ?_
         refine dr1 8 HT fun K hK=>?_
         refine if_bx HS ?_;clear HS;intro g3 w3 HS F
         refine nrm 3 hK ⟨_,HS⟩ fun HH=>?_;clear hK K
         refine dl 9 HT fun K hK=>?_
         refine if_st 5 0 HS (seg:=[.slice B8 t7.length d8,.slice none 0 0,.slice B11 y11.length d11]) ?_;clear HS;intro w12 HS F
         refine hK.out _ _ ?_
         clear hK K
         refine norm_ ?_ (hJ (.slice B8 t7.length d8,.slice B9 0 d9,.slice B11 y11.length d11,g3) _ (HS.ar [some 0,some 1,some 2,none,some 4,some 5]))
         simp only [putAll,Act.put,ptn]
         (try rfl)
       · refine if_bx HS ?_;clear HS;intro g3 w3 HS F
         refine nrm 3 hK ⟨_,HS⟩ fun HH=>?_;clear hK K
         refine dr1 6 HT fun K hK=>?_
         refine wp_apr fl105 3 HS rfl (HS.ro gp2) Tryz.underlying46 info105 (of_eq_true c10) ?_;clear HS;intro v11 w11 HS;rw [←e_y11.out] at HS;obtain⟨B11,d11,rfl,m11⟩:=HS.form 5 rfl
         (try simp only [hpn,hpm] at HS)
         have F:=HS.bx
         refine nrm 11 hK ⟨_,HS⟩ fun HH=>?_;clear hK K
         refine dq [7] HT ?_
         refine dl 9 HT fun K hK=>?_
         refine if_st 4 0 HS (seg:=[.slice B8 t7.length d8,.slice none 0 0,.slice B11 y11.length d11]) ?_;clear HS;intro w12 HS F
         refine hK.out _ _ ?_
         clear hK K
         refine norm_ ?_ (hJ (.slice B8 t7.length d8,.slice B9 0 d9,.slice B11 y11.length d11,g3) _ (HS.ar [some 0,some 1,some 2,none,some 5,some 4]))
         simp only [putAll,Act.put,ptn]
         (try rfl)
     · refine if_bx HS ?_;clear HS;intro g3 w3 HS F
       refine nrm 3 hK ⟨_,HS⟩ fun HH=>?_;clear hK K
       refine dr1 3 HT fun K hK=>?_
       refine if_li q105 [] ([]:List S105) [] HS MadeL.nil ?_;clear HS;intro v9 w9 HS F;obtain⟨B9,d9,rfl,m9⟩:=HS.formn 0 4 rfl rfl
       refine nrm 8 hK ⟨_,HS⟩ fun HH=>?_;clear hK K
       refine dr1 6 HT fun K hK=>?_
       refine wp_apr fl105 4 HS rfl (HS.ro gp2) Tryz.underlying46 info105 (of_eq_true c10) ?_;clear HS;intro v11 w11 HS;rw [←e_y11.out] at HS;obtain⟨B11,d11,rfl,m11⟩:=HS.form 5 rfl
       (try simp only [hpn,hpm] at HS)
       have F:=HS.bx
       refine nrm 11 hK ⟨_,HS⟩ fun HH=>?_;clear hK K
       refine dq [7] HT ?_
       refine dl 9 HT fun K hK=>?_
       refine if_st 3 0 HS (seg:=[.slice B8 t7.length d8,.slice none 0 0,.slice B11 y11.length d11]) ?_;clear HS;intro w12 HS F
       refine hK.out _ _ ?_
       clear hK K
       refine norm_ ?_ (hJ (.slice B8 t7.length d8,.slice B9 0 d9,.slice B11 y11.length d11,g3) _ (HS.ar [some 0,some 1,some 2,none,some 5,some 3]))
       simp only [putAll,Act.put,ptn]
       (try rfl)
   · refine if_li q105 [] ([]:List S105) [] HS MadeL.nil ?_;clear HS;intro v9 w9 HS F;obtain⟨B9,d9,rfl,m9⟩:=HS.formn 0 2 rfl rfl
     refine nrm 8 hK ⟨_,HS⟩ fun HH=>?_;clear hK K
     refine dr_any [2,8] HT (by kernel_rfl) (by decide) (AllReadyL.cons rfl (by decide) (fun K hK=>?_) (AllReadyL.cons rfl (by decide) (fun K hK=>?_) AllReadyL.nil))
     · refine go_cl1 HS (spec_l13Certs.calls ht7.out (HS.ro gp0) lp0) Tryz.func95 ?_;clear HS;intro v8 wt7 HS F;obtain⟨B8,d8,rfl,m8⟩:=HS.form 3 rfl
       refine nrm 7 hK ⟨_,HS⟩ fun HH=>?_;clear hK K
       refine dr_any [6,8] HT (by kernel_rfl) (by decide) (AllReadyL.cons rfl (by decide) (fun K hK=>?_) (AllReadyL.cons rfl (by decide) (fun K hK=>?_) AllReadyL.nil))
       · refine wp_apr fl105 2 HS rfl (HS.ro gp2) Tryz.underlying46 info105 (of_eq_true c10) ?_;clear HS;intro v11 w11 HS;rw [←e_y11.out] at HS;obtain⟨B11,d11,rfl,m11⟩:=HS.form 4 rfl
         (try simp only [hpn,hpm] at HS)
         have F:=HS.bx
         refine nrm 11 hK ⟨_,HS⟩ fun HH=>?_;clear hK K
         refine dq [7] HT ?_
         refine dr1 8 HT fun K hK=>?_
         refine if_bx HS ?_;clear HS;intro g3 w3 HS F
         refine nrm 3 hK ⟨_,HS⟩ fun HH=>?_;clear hK K
         refine dl 9 HT fun K hK=>?_
         refine if_st 5 0 HS (seg:=[.slice B8 t7.length d8,.slice none 0 0,.slice B11 y11.length d11]) ?_;clear HS;intro w12 HS F
         refine hK.out _ _ ?_
         clear hK K
         refine norm_ ?_ (hJ (.slice B8 t7.length d8,.slice B9 0 d9,.slice B11 y11.length d11,g3) _ (HS.ar [some 0,some 1,some 3,none,some 4,some 5]))
         simp only [putAll,Act.put,ptn]
         (try rfl)
       · refine if_bx HS ?_;clear HS;intro g3 w3 HS F
         refine nrm 3 hK ⟨_,HS⟩ fun HH=>?_;clear hK K
         refine dr1 6 HT fun K hK=>?_
         refine wp_apr fl105 2 HS rfl (HS.ro gp2) Tryz.underlying46 info105 (of_eq_true c10) ?_;clear HS;intro v11 w11 HS;rw [←e_y11.out] at HS;obtain⟨B11,d11,rfl,m11⟩:=HS.form 5 rfl
         (try simp only [hpn,hpm] at HS)
         have F:=HS.bx
         refine nrm 11 hK ⟨_,HS⟩ fun HH=>?_;clear hK K
         refine dq [7] HT ?_
         refine dl 9 HT fun K hK=>?_
         refine if_st 4 0 HS (seg:=[.slice B8 t7.length d8,.slice none 0 0,.slice B11 y11.length d11]) ?_;clear HS;intro w12 HS F
         refine hK.out _ _ ?_
         clear hK K
         refine norm_ ?_ (hJ (.slice B8 t7.length d8,.slice B9 0 d9,.slice B11 y11.length d11,g3) _ (HS.ar [some 0,some 1,some 3,none,some 5,some 4]))
         simp only [putAll,Act.put,ptn]
         (try rfl)
     · refine if_bx HS ?_;clear HS;intro g3 w3 HS F
       refine nrm 3 hK ⟨_,HS⟩ fun HH=>?_;clear hK K
       refine dr1 2 HT fun K hK=>?_
       refine go_cl1 HS (spec_l13Certs.calls ht7.out (HS.ro gp0) lp0) Tryz.func95 ?_;clear HS;intro v8 wt7 HS F;obtain⟨B8,d8,rfl,m8⟩:=HS.form 4 rfl
       refine nrm 7 hK ⟨_,HS⟩ fun HH=>?_;clear hK K
       refine dr1 6 HT fun K hK=>?_
       refine wp_apr fl105 2 HS rfl (HS.ro gp2) Tryz.underlying46 info105 (of_eq_true c10) ?_;clear HS;intro v11 w11 HS;rw [←e_y11.out] at HS;obtain⟨B11,d11,rfl,m11⟩:=HS.form 5 rfl
       (try simp only [hpn,hpm] at HS)
       have F:=HS.bx
       refine nrm 11 hK ⟨_,HS⟩ fun HH=>?_;clear hK K
       refine dq [7] HT ?_
       refine dl 9 HT fun K hK=>?_
       refine if_st 3 0 HS (seg:=[.slice B8 t7.length d8,.slice none 0 0,.slice B11 y11.length d11]) ?_;clear HS;intro w12 HS F
       refine hK.out _ _ ?_
       clear hK K
       refine norm_ ?_ (hJ (.slice B8 t7.length d8,.slice B9 0 d9,.slice B11 y11.length d11,g3) _ (HS.ar [some 0,some 1,some 4,none,some 5,some 3]))
       simp only [putAll,Act.put,ptn]
       (try rfl)
   · refine if_bx HS ?_;clear HS;intro g3 w3 HS F
     refine nrm 3 hK ⟨_,HS⟩ fun HH=>?_;clear hK K
     refine dr_any [2,3] HT (by kernel_rfl) (by decide) (AllReadyL.cons rfl (by decide) (fun K hK=>?_) (AllReadyL.cons rfl (by decide) (fun K hK=>?_) AllReadyL.nil))
     · refine go_cl1 HS (spec_l13Certs.calls ht7.out (HS.ro gp0) lp0) Tryz.func95 ?_;clear HS;intro v8 wt7 HS F;obtain⟨B8,d8,rfl,m8⟩:=HS.form 3 rfl
       refine nrm 7 hK ⟨_,HS⟩ fun HH=>?_;clear hK K
       refine dr1 3 HT fun K hK=>?_
       refine if_li q105 [] ([]:List S105) [] HS MadeL.nil ?_;clear HS;intro v9 w9 HS F;obtain⟨B9,d9,rfl,m9⟩:=HS.formn 0 4 rfl rfl
       refine nrm 8 hK ⟨_,HS⟩ fun HH=>?_;clear hK K
       refine dr1 6 HT fun K hK=>?_
       refine wp_apr fl105 4 HS rfl (HS.ro gp2) Tryz.underlying46 info105 (of_eq_true c10) ?_;clear HS;intro v11 w11 HS;rw [←e_y11.out] at HS;obtain⟨B11,d11,rfl,m11⟩:=HS.form 5 rfl
       (try simp only [hpn,hpm] at HS)
       have F:=HS.bx
       refine nrm 11 hK ⟨_,HS⟩ fun HH=>?_;clear hK K
       refine dq [7] HT ?_
       refine dl 9 HT fun K hK=>?_
       refine if_st 2 0 HS (seg:=[.slice B8 t7.length d8,.slice none 0 0,.slice B11 y11.length d11]) ?_;clear HS;intro w12 HS F
       refine hK.out _ _ ?_
       clear hK K
       refine norm_ ?_ (hJ (.slice B8 t7.length d8,.slice B9 0 d9,.slice B11 y11.length d11,g3) _ (HS.ar [some 0,some 1,some 3,none,some 5,some 2]))
       simp only [putAll,Act.put,ptn]
       (try rfl)
     · refine if_li q105 [] ([]:List S105) [] HS MadeL.nil ?_;clear HS;intro v9 w9 HS F;obtain⟨B9,d9,rfl,m9⟩:=HS.formn 0 3 rfl rfl
       refine nrm 8 hK ⟨_,HS⟩ fun HH=>?_;clear hK K
       refine dr1 2 HT fun K hK=>?_
       refine go_cl1 HS (spec_l13Certs.calls ht7.out (HS.ro gp0) lp0) Tryz.func95 ?_;clear HS;intro v8 wt7 HS F;obtain⟨B8,d8,rfl,m8⟩:=HS.form 4 rfl
       refine nrm 7 hK ⟨_,HS⟩ fun HH=>?_;clear hK K
       refine dr1 6 HT fun K hK=>?_
       refine wp_apr fl105 3 HS rfl (HS.ro gp2) Tryz.underlying46 info105 (of_eq_true c10) ?_;clear HS;intro v11 w11 HS;rw [←e_y11.out] at HS;obtain⟨B11,d11,rfl,m11⟩:=HS.form 5 rfl
       (try simp only [hpn,hpm] at HS)
       have F:=HS.bx
       refine nrm 11 hK ⟨_,HS⟩ fun HH=>?_;clear hK K
       refine dq [7] HT ?_
       refine dl 9 HT fun K hK=>?_
       refine if_st 2 0 HS (seg:=[.slice B8 t7.length d8,.slice none 0 0,.slice B11 y11.length d11]) ?_;clear HS;intro w12 HS F
       refine hK.out _ _ ?_
       clear hK K
       refine norm_ ?_ (hJ (.slice B8 t7.length d8,.slice B9 0 d9,.slice B11 y11.length d11,g3) _ (HS.ar [some 0,some 1,some 4,none,some 5,some 2]))
       simp only [putAll,Act.put,ptn]
       (try rfl)
 rintro⟨v8,v9,v11,g3⟩ w13 HS
 obtain⟨B8,d8,rfl,m8⟩:=HS.form 2 rfl
 obtain⟨B11,d11,rfl,m11⟩:=HS.form 4 rfl
 have F:=HS.bx
 refine norm_ (a':=?_) ?_ ?_
 rotate_left
 · simp only [putAll,Act.put,ptn];rfl
 refine dn HT ?_
 go_wp2
 replace HS:=HS.nil 103 q103
 go_loopg [4] k (fun kq v_4 w'=>∃(l20:List S103) (v21:Value) (x22:Int),v_4=.int .i64 x22∧Aside0 (spec_l13Copy.l0 kq l20 x22 a0 t7 y11=some r)∧Aside0 (kq≤k)∧Hp noFP w w' [.box g1 [.slice Ap0 a0.f0.length cp0,.slice Ap1 a0.f1.length cp1,.slice Ap2 a0.f2.length cp2] 48,.box g2 [.slice none 0 0,.slice none 0 0,.slice none 0 0] 48,.own (Zd.slice 125 q125) t7 [.slice B8 t7.length d8],.emp,.own (Zd.slice 105 q105) y11 [.slice B11 y11.length d11],.box g3 [.slice B8 t7.length d8,v21,.slice B11 y11.length d11] 48,.own (Zd.slice 103 q103) l20 [v21]])
 case atStart=>exact⟨_,_,_,rfl,H,⟨Nat.le_refl _⟩,HS⟩
 case round=>
  clear HS H;(try clear F)
  obtain⟨l20,v21,x22,rfl,H,HKk19,HS⟩:=hrel
  obtain⟨B21,d21,rfl,m21⟩:=HS.form 6 rfl
  have F:=HS.bx
  cases gk with
  |zero=>exact absurd H.out (by simp [spec_l13Copy.l0])
  | succ k19=>
   simp only [spec_l13Copy.l0] at H
   replace H:=znif H;rcases H with⟨c24,H⟩|⟨c24,H⟩
   ·
    obtain rfl:=zsome H
    go_wp2_with ((with_reducible refine gate_store (p:=2) rfl ?_);refine ev_st 1 0 HS (seg:=[.slice B8 t7.length d8,.slice B21 l20.length d21,.slice B11 y11.length d11]) ?_;clear HS;intro w28 HS F)
    exact rc 1 HS Tryz.underlying48 ⟨_,_,_,rfl,HS.pi [2,6,4]⟩
   (try go_wp2)
   replace H:=zgo H;obtain⟨c14,H⟩:=H
   replace H:=zgo H;obtain⟨c15,H⟩:=H
   obtain⟨ad16,B16_5,d16_5,rfl,e16_0,e16_1,e16_2,e16_3,e16_4,e16_5,e16_6,m16_5,y16_5⟩:=at_T103 gp1 x22 (of_eq_true c14) (of_eq_true c15)
   replace H:=zbind H;obtain⟨t17,ht17,H⟩:=H
   replace H:=zgo H;obtain⟨c25,H⟩:=H
   replace H:=zlets H;obtain⟨y27,e_y27,H⟩:=H
   refine dr_start2 [.box g1 [.slice Ap0 a0.f0.length cp0,.slice (some ad16) a0.f1.length cp1,.slice Ap2 a0.f2.length cp2] 48,.box g2 [.slice none 0 0,.slice none 0 0,.slice none 0 0] 48,.own (Zd.slice 125 q125) t7 [.slice B8 t7.length d8],.emp,.own (Zd.slice 105 q105) y11 [.slice B11 y11.length d11],.box g3 [.slice B8 t7.length d8,.slice B21 l20.length d21,.slice B11 y11.length d11] 48,.emp] [11] HS (HS.ar [some 0,some 1,some 2,none,some 4,some 5,none]) #[false,false,false,false,false,false,false,false,false,false,false,false] (by kernel_rfl) rfl rfl spec_l13Copy.tT5 (fun w26 HT HS HH=>?_)
   (try clear F)
   refine dqt [0,1,2,3,4,5] HT HH ?_
   refine dtk 6 26 HT HH rfl (by rintro w' ⟨rs',HS'⟩;have e16_0:=HS'.keepc e16_0;have e16_1:=HS'.keepc e16_1;have e16_2:=HS'.keepc e16_2;have e16_3:=HS'.keepc e16_3;have e16_4:=HS'.keepc e16_4;have e16_5:=HS'.keepc e16_5;have e16_6:=HS'.keepc e16_6;go_simp;with_reducible rfl) ?_
   refine dr1 7 HT fun K hK=>?_
   refine go_cl1 HS (spec_l10Copy.calls ht17.out (HS.ro y16_5) m16_5) Tryz.func96 ?_;clear HS;intro v18 wt17 HS F;obtain⟨B18,d18,rfl,m18⟩:=HS.form 7 rfl
   refine nra 27 hK (HS.ar [some 0,some 1,some 2,none,some 4,some 5,none]) fun HH=>?_;clear hK K
   refine dr1 8 HT fun K hK=>?_
   refine if_li q103 [7] ([t17]:List S103) ([.string t17.f0,.int .i64 t17.f1,.int .i64 t17.f2,.int .i64 t17.f3,.int .i64 t17.f4,.slice B18 t17.f5.length d18,.string t17.f6]++ []) HS (MadeL.cons (js1:=[7]) (c:=[.string t17.f0,.int .i64 t17.f1,.int .i64 t17.f2,.int .i64 t17.f3,.int .i64 t17.f4,.slice B18 t17.f5.length d18,.string t17.f6]) rfl (fun S hd hh=>q103_pack (x:=t17) hd (hh 7 (.own (Zd.slice 133 q133) t17.f5 [.slice B18 t17.f5.length d18]) rfl) (by decide)) MadeL.nil (by decide)) ?_;clear HS;intro v23 w23 HS F;obtain⟨B23,d23,rfl,m23⟩:=HS.formn 1 8 rfl rfl
   refine nra 28 hK (HS.ar [some 0,some 1,some 2,none,some 4,some 5,none]) fun HH=>?_;clear hK K
   refine dr1 9 HT fun K hK=>?_
   refine wp_ap q103 6 8 HS rfl rfl Tryz.underlying45 info103 (of_eq_true c25) ?_;clear HS;intro v27 w27 HS;rw [←e_y27.out] at HS;obtain⟨B27,d27,rfl,m27⟩:=HS.form 9 rfl
   (try simp only [hpn,hpm] at HS)
   have F:=HS.bx
   refine nra 29 hK (HS.ar [some 0,some 1,some 2,none,some 4,some 5,none]) fun HH=>?_;clear hK K
   refine dq [10] HT ?_
   refine dl 11 HT fun K hK=>?_
   refine if_st 5 1 HS (seg:=[.slice B27 y27.length d27]) ?_;clear HS;intro w29 HS F
   refine hK.out _ _ ?_
   clear hK K
   refine dn HT ?_
   (try clear F)
   have F:=HS.bx
   go_wp2
   go_roundg k19
   case measure=>have:=HKk19.out;omega
   case rel=>exact⟨_,_,_,rfl,H,⟨by have:=HKk19.out;omega⟩,HS.pi [0,1,2,3,4,5,9]⟩
def spec_l13In.l0:Nat→Int→(List ByteArray)→ByteArray→Option (Bool)
  |0,_,_,_=>none
  |k+1,x4,a0,a1=>(if x4<(a0.length:Int)then(if 0≤x4 then(if x4<(a0.length:Int)then(if(rdOf ByteArray.empty a0 x4).toList=a1.toList then(some true)else(spec_l13In.l0 k (wrap64 (x4+1)) a0 a1))else none)else none)else(some false))
def spec_l13In.f (k:Nat)(a0:(List ByteArray))(a1:ByteArray):Option (Bool):=(spec_l13In.l0 k 0 a0 a1)
theorem spec_l13In.calls {k:Nat}{a0:(List ByteArray)}{a1:ByteArray}{Ap0:Option Addr}{np0 cp0:Nat}{r:Bool}{w:World}(h:spec_l13In.f k a0 a1=some r)(gp0:Kd.string.C w Ap0 np0 a0)(lp0:np0≤cp0):
    Calls Tryz.prog 141 #[.slice Ap0 np0 cp0,.string a1] w (fun e w'=>e=.returned (.bool r)∧Hp noFP w w' []):=by
 obtain rfl:=C_len gp0
 have HS:=Hp.start w
 have H:=Aside0.mk h
 clear h
 unfold spec_l13In.f at H
 go_enter Tryz.func141,Tryz.ntmps141
 go_wp2
 go_loopg [5] k (fun kq v_5 w'=>∃(x4:Int),v_5=.int .i64 x4∧Aside0 (spec_l13In.l0 kq x4 a0 a1=some r)∧Aside0 (kq≤k)∧Hp noFP w w' [])
 case atStart=>exact⟨_,rfl,H,⟨Nat.le_refl _⟩,HS⟩
 case round=>
  clear HS H;(try clear F)
  obtain⟨x4,rfl,H,HKk3,HS⟩:=hrel
  cases gk with
  |zero=>exact absurd H.out (by simp [spec_l13In.l0])
  | succ k3=>
   simp only [spec_l13In.l0] at H
   replace H:=znif H;rcases H with⟨c6,H⟩|⟨c6,H⟩
   ·
    obtain rfl:=zsome H
    go_wp2
    go_ret
    exact HS.pk
   replace H:=zgo H;obtain⟨c7,H⟩:=H
   replace H:=zgo H;obtain⟨c8,H⟩:=H
   obtain⟨ad9,rfl,e9_0⟩:=Kd.at_string gp0 x4 (of_eq_true c7) (of_eq_true c8)
   have e9_0_9:=HS.keepc e9_0
   replace H:=zif' H;rcases H with⟨c10,H⟩|⟨c10,H⟩
   ·
    obtain⟨c10a,c10b⟩:=bq c10;clear c10
    obtain rfl:=zsome H
    go_wp2
    go_ret
    exact HS.pk
   obtain⟨c10a,c10b⟩:=nq c10;clear c10
   go_wp2
   go_roundg k3
   case measure=>have:=HKk3.out;omega
   case rel=>exact⟨_,rfl,H,⟨by have:=HKk3.out;omega⟩,HS.pi []⟩
def spec_CrlOk.l0:Nat→Int→S103→Option (Bool)
  |0,_,_=>none
  |k+1,x23,a0=>(if x23<(a0.f5.length:Int)then(if 0≤x23 then(if x23<(a0.f5.length:Int)then((spec_l09Num.f ((rd_T133 a0.f5 x23).f0)).bind fun t10=>(if t10=true then((spec_l01In.f ((rd_T133 a0.f5 x23).f1) 1 10).bind fun t16=>(if t16=true then(if(rd_T133 a0.f5 x23).f1=8 then(if a0.f4=0 then(some false)else(if 0<x23 then(if 0≤(wrap64 (x23 - 1))then(if(wrap64 (x23 - 1))<(a0.f5.length:Int)then(if(rd_T133 a0.f5 x23).f0≤(rd_T133 a0.f5 (wrap64 (x23 - 1))).f0 then(some false)else(spec_CrlOk.l0 k (wrap64 (x23+1)) a0))else none)else none)else(spec_CrlOk.l0 k (wrap64 (x23+1)) a0)))else(if 0<x23 then(if 0≤(wrap64 (x23 - 1))then(if(wrap64 (x23 - 1))<(a0.f5.length:Int)then(if(rd_T133 a0.f5 x23).f0≤(rd_T133 a0.f5 (wrap64 (x23 - 1))).f0 then(some false)else(spec_CrlOk.l0 k (wrap64 (x23+1)) a0))else none)else none)else(spec_CrlOk.l0 k (wrap64 (x23+1)) a0)))else(some false)))else(some false)))else none)else none)else(some true))
def spec_CrlOk.f (k:Nat)(a0:S103):Option (Bool):=((spec_NameOk.f k a0.f0).bind fun t3=>(if t3=true then((spec_l01In.f a0.f1 1 9999).bind fun t6=>(if t6=true then((spec_l01In.f a0.f4 0 (wrap64 (a0.f1 - 1))).bind fun t9=>(if t9=true then((spec_l09Num.f a0.f2).bind fun t12=>(if t12=true then((spec_l09Num.f a0.f3).bind fun t15=>(if t15=true then(if 8<(a0.f5.length:Int)then(some false)else(if(a0.f6.size:Int)=15 then(spec_CrlOk.l0 k 0 a0)else(some false)))else(some false)))else(some false)))else(some false)))else(some false)))else(some false)))
def spec_CrlOk.T7:TT:=(true,[([],[]),([0],[0]),([1],[1]),([2],[2]),([3,2],[3]),([4],[4]),([5,4],[4,5]),([6,4,4],[4,6]),([7,4],[4,7]),([4,8],[4,8]),([9,7],[9]),([10],[10]),([11,10],[10,11]),([12,10],[10,12]),([13,10,10],[10,13]),([14],[14]),([15,14],[14,15]),([16,14],[14,16]),([14,17,10],[10,14,17]),([10,18],[10,18]),([19,14],[19]),([20],[20]),([21,20],[20,21]),([22,20,20],[20,22]),([23],[23]),([24,23],[23,24]),([23],[23]),([26,23],[23,26]),([25,27,23],[23,25,27]),([28,23],[23,28]),([29,23],[23,29]),([23],[23]),([31,23],[23,31]),([30,32,23],[23,30,32]),([23,33,20],[20,23,33]),([20,34],[20,34])])
theorem spec_CrlOk.tT7:rtab .any (opsOf Tryz.f155 7)=spec_CrlOk.T7:=by kernel_rfl
theorem spec_CrlOk.calls {k:Nat}{a0:S103}{Ap0:Option Addr}{np0 cp0:Nat}{r:Bool}{w:World}(h:spec_CrlOk.f k a0=some r)(gp0:k133.C w Ap0 np0 a0.f5)(lp0:np0≤cp0):
    Calls Tryz.prog 155 #[.agg #[.string a0.f0,.int .i64 a0.f1,.int .i64 a0.f2,.int .i64 a0.f3,.int .i64 a0.f4,.slice Ap0 np0 cp0,.string a0.f6]] w (fun e w'=>e=.returned (.bool r)∧Hp noFP w w' []):=by
 obtain rfl:=C_len gp0
 have HS:=Hp.start w
 have H:=Aside0.mk h
 clear h
 unfold spec_CrlOk.f at H
 go_enter Tryz.func155,Tryz.ntmps155
 replace H:=zbind H;obtain⟨t3,ht3,H⟩:=H
 replace H:=znifb H;rcases H with⟨c5,H⟩|⟨c5,H⟩
 ·
  subst c5
  obtain rfl:=zsome H
  go_wp2_with (first|((with_reducible refine gd 1 rfl ?_);refine ev_bx HS ?_;clear HS;intro g1 w1 HS F)|((with_reducible refine gd 7 rfl ?_);refine ev_cl HS (spec_NameOk.calls ht3.out) Tryz.func136 ?_;clear HS;intro wt3 HS F))
  go_ret
  exact HS.pk
 subst c5
 replace H:=zbind H;obtain⟨t6,ht6,H⟩:=H
 replace H:=znifb H;rcases H with⟨c8,H⟩|⟨c8,H⟩
 ·
  subst c8
  obtain rfl:=zsome H
  go_wp2_with (first|((with_reducible refine gd 1 rfl ?_);refine ev_bx HS ?_;clear HS;intro g1 w1 HS F)|((with_reducible refine gd 7 rfl ?_);refine ev_cl HS (spec_NameOk.calls ht3.out) Tryz.func136 ?_;clear HS;intro wt3 HS F)|((with_reducible refine gd 12 rfl ?_);refine gg ?_;refine ev_cl HS (spec_l01In.calls ht6.out) Tryz.func54 ?_;clear HS;intro wt6 HS F))
  go_ret
  exact HS.pk
 subst c8
 replace H:=zbind H;obtain⟨t9,ht9,H⟩:=H
 replace H:=znifb H;rcases H with⟨c11,H⟩|⟨c11,H⟩
 ·
  subst c11
  obtain rfl:=zsome H
  go_wp2_with (first|((with_reducible refine gd 1 rfl ?_);refine ev_bx HS ?_;clear HS;intro g1 w1 HS F)|((with_reducible refine gd 7 rfl ?_);refine ev_cl HS (spec_NameOk.calls ht3.out) Tryz.func136 ?_;clear HS;intro wt3 HS F)|((with_reducible refine gd 12 rfl ?_);refine gg ?_;refine ev_cl HS (spec_l01In.calls ht6.out) Tryz.func54 ?_;clear HS;intro wt6 HS F)|((with_reducible refine gd 21 rfl ?_);refine gg ?_;refine ev_cl HS (spec_l01In.calls ht9.out) Tryz.func54 ?_;clear HS;intro wt9 HS F))
  go_ret
  exact HS.pk
 subst c11
 replace H:=zbind H;obtain⟨t12,ht12,H⟩:=H
 replace H:=znifb H;rcases H with⟨c14,H⟩|⟨c14,H⟩
 ·
  subst c14
  obtain rfl:=zsome H
  go_wp2_with (first|((with_reducible refine gd 1 rfl ?_);refine ev_bx HS ?_;clear HS;intro g1 w1 HS F)|((with_reducible refine gd 7 rfl ?_);refine ev_cl HS (spec_NameOk.calls ht3.out) Tryz.func136 ?_;clear HS;intro wt3 HS F)|((with_reducible refine gd 12 rfl ?_);refine gg ?_;refine ev_cl HS (spec_l01In.calls ht6.out) Tryz.func54 ?_;clear HS;intro wt6 HS F)|((with_reducible refine gd 21 rfl ?_);refine gg ?_;refine ev_cl HS (spec_l01In.calls ht9.out) Tryz.func54 ?_;clear HS;intro wt9 HS F)|((with_reducible refine gd 27 rfl ?_);refine gg ?_;refine ev_cl HS (spec_l09Num.calls ht12.out) Tryz.func55 ?_;clear HS;intro wt12 HS F))
  go_ret
  exact HS.pk
 subst c14
 replace H:=zbind H;obtain⟨t15,ht15,H⟩:=H
 replace H:=znifb H;rcases H with⟨c17,H⟩|⟨c17,H⟩
 ·
  subst c17
  obtain rfl:=zsome H
  go_wp2_with (first|((with_reducible refine gd 1 rfl ?_);refine ev_bx HS ?_;clear HS;intro g1 w1 HS F)|((with_reducible refine gd 7 rfl ?_);refine ev_cl HS (spec_NameOk.calls ht3.out) Tryz.func136 ?_;clear HS;intro wt3 HS F)|((with_reducible refine gd 12 rfl ?_);refine gg ?_;refine ev_cl HS (spec_l01In.calls ht6.out) Tryz.func54 ?_;clear HS;intro wt6 HS F)|((with_reducible refine gd 21 rfl ?_);refine gg ?_;refine ev_cl HS (spec_l01In.calls ht9.out) Tryz.func54 ?_;clear HS;intro wt9 HS F)|((with_reducible refine gd 27 rfl ?_);refine gg ?_;refine ev_cl HS (spec_l09Num.calls ht12.out) Tryz.func55 ?_;clear HS;intro wt12 HS F)|((with_reducible refine gd 33 rfl ?_);refine gg ?_;refine ev_cl HS (spec_l09Num.calls ht15.out) Tryz.func55 ?_;clear HS;intro wt15 HS F))
  go_ret
  exact HS.pk
 subst c17
 replace H:=zif H;rcases H with⟨c18,H⟩|⟨c18,H⟩
 ·
  obtain rfl:=zsome H
  go_wp2_with (first|((with_reducible refine gd 1 rfl ?_);refine ev_bx HS ?_;clear HS;intro g1 w1 HS F)|((with_reducible refine gd 7 rfl ?_);refine ev_cl HS (spec_NameOk.calls ht3.out) Tryz.func136 ?_;clear HS;intro wt3 HS F)|((with_reducible refine gd 12 rfl ?_);refine gg ?_;refine ev_cl HS (spec_l01In.calls ht6.out) Tryz.func54 ?_;clear HS;intro wt6 HS F)|((with_reducible refine gd 21 rfl ?_);refine gg ?_;refine ev_cl HS (spec_l01In.calls ht9.out) Tryz.func54 ?_;clear HS;intro wt9 HS F)|((with_reducible refine gd 27 rfl ?_);refine gg ?_;refine ev_cl HS (spec_l09Num.calls ht12.out) Tryz.func55 ?_;clear HS;intro wt12 HS F)|((with_reducible refine gd 33 rfl ?_);refine gg ?_;refine ev_cl HS (spec_l09Num.calls ht15.out) Tryz.func55 ?_;clear HS;intro wt15 HS F))
  go_ret
  exact HS.pk
 go_upto_if 47 with(first|((with_reducible refine gd 1 rfl ?_);refine ev_bx HS ?_;clear HS;intro g1 w1 HS F)|((with_reducible refine gd 7 rfl ?_);refine ev_cl HS (spec_NameOk.calls ht3.out) Tryz.func136 ?_;clear HS;intro wt3 HS F)|((with_reducible refine gd 12 rfl ?_);refine gg ?_;refine ev_cl HS (spec_l01In.calls ht6.out) Tryz.func54 ?_;clear HS;intro wt6 HS F)|((with_reducible refine gd 21 rfl ?_);refine gg ?_;refine ev_cl HS (spec_l01In.calls ht9.out) Tryz.func54 ?_;clear HS;intro wt9 HS F)|((with_reducible refine gd 27 rfl ?_);refine gg ?_;refine ev_cl HS (spec_l09Num.calls ht12.out) Tryz.func55 ?_;clear HS;intro wt12 HS F)|((with_reducible refine gd 33 rfl ?_);refine gg ?_;refine ev_cl HS (spec_l09Num.calls ht15.out) Tryz.func55 ?_;clear HS;intro wt15 HS F))
 replace H:=znif' H;rcases H with⟨c19,H⟩|⟨c19,H⟩
 ·
  obtain⟨c19a,c19b⟩:=nq c19;clear c19
  (try simp only [c19a,c19b,dcn])
  obtain rfl:=zsome H
  go_wp2
  go_ret
  exact HS.pk
 obtain⟨c19a,c19b⟩:=bq c19;clear c19
 (try simp only [c19a,c19b,dcn])
 go_wp2
 go_loopg [3] k (fun kq v_3 w'=>∃(x23:Int),v_3=.int .i64 x23∧Aside0 (spec_CrlOk.l0 kq x23 a0=some r)∧Aside0 (kq≤k)∧Hp noFP w w' [.box g1 [.string a0.f0,.int .i64 a0.f1,.int .i64 a0.f2,.int .i64 a0.f3,.int .i64 a0.f4,.slice Ap0 a0.f5.length cp0,.string a0.f6] 103])
 case atStart=>exact⟨_,rfl,H,⟨Nat.le_refl _⟩,HS⟩
 case round=>
  clear HS H;(try clear F)
  obtain⟨x23,rfl,H,HKk22,HS⟩:=hrel
  have F:=HS.bx
  cases gk with
  |zero=>exact absurd H.out (by simp [spec_CrlOk.l0])
  | succ k22=>
   simp only [spec_CrlOk.l0] at H
   replace H:=znif H;rcases H with⟨c25,H⟩|⟨c25,H⟩
   ·
    obtain rfl:=zsome H
    go_wp2
    go_ret
    exact HS.pk
   replace H:=zgo H;obtain⟨c26,H⟩:=H
   replace H:=zgo H;obtain⟨c27,H⟩:=H
   obtain⟨ad28,rfl,e28_0,e28_1⟩:=at_T133 gp0 x23 (of_eq_true c26) (of_eq_true c27)
   have e28_0_28:=HS.keepc e28_0
   have e28_1_28:=HS.keepc e28_1
   go_wp2_with (first|((with_reducible refine gd 4 rfl ?_);refine ev_bx HS ?_;clear HS;intro g4 w4 HS F)|((with_reducible refine gate_store (p:=4) rfl ?_);refine ev_st 1 0 HS (seg:=[.int .i64 ((rd_T133 a0.f5 x23).f0),.int .i64 ((rd_T133 a0.f5 x23).f1)]) ?_;clear HS;intro w31 HS F))
   replace H:=zbind H;obtain⟨t10,ht10,H⟩:=H
   replace H:=znifb H;rcases H with⟨c13,H⟩|⟨c13,H⟩
   ·
    subst c13
    refine dr_start [] HS #[false,false,false,false,false,false,false,false,false,false,false,false,false,false,false,false,false,false,false,false,false,false,false,false,false,false,false,false,false,false,false,false,false,false,false,false] (by kernel_rfl) rfl rfl spec_CrlOk.tT7 (fun w48 HT HS HH=>?_)
    (try clear F)
    refine dqt [0,1] HT HH ?_
    refine dr1 2 HT fun K hK=>?_
    refine go_cl HS (spec_l09Num.calls ht10.out) Tryz.func55 ?_;clear HS;intro wt10 HS F
    refine nrm 62 hK ⟨_,HS⟩ fun HH=>?_;clear hK K
    refine dqo [3,4,5,6,7,8,9,10,11,12,13,14,15,16,17,18,19,20,21,22,23,24,25,26,27,28,29,30,31,32,33,34,35] HT ?_
    refine dn HT ?_
    (try clear F)
    have F:=HS.bx
    obtain rfl:=zsome H
    go_wp2
    go_ret
    exact HS.pk
   subst c13
   replace H:=zbind H;obtain⟨t16,ht16,H⟩:=H
   replace H:=znifb H;rcases H with⟨c20,H⟩|⟨c20,H⟩
   ·
    subst c20
    refine dr_start [] HS #[false,false,false,false,false,false,false,false,false,false,false,false,false,false,false,false,false,false,false,false,false,false,false,false,false,false,false,false,false,false,false,false,false,false,false,false] (by kernel_rfl) rfl rfl spec_CrlOk.tT7 (fun w46 HT HS HH=>?_)
    (try clear F)
    refine dqt [0,1] HT HH ?_
    refine dr1 2 HT fun K hK=>?_
    refine go_cl HS (spec_l09Num.calls ht10.out) Tryz.func55 ?_;clear HS;intro wt10 HS F
    refine nrm 62 hK ⟨_,HS⟩ fun HH=>?_;clear hK K
    refine dqt [3,4,5,6] HT HH ?_
    refine dr1 7 HT fun K hK=>?_
    refine go_cl HS (spec_l01In.calls ht16.out) Tryz.func54 ?_;clear HS;intro wt16 HS F
    refine nrm 67 hK ⟨_,HS⟩ fun HH=>?_;clear hK K
    refine dqo [8,9,10,11,12,13,14,15,16,17,18,19,20,21,22,23,24,25,26,27,28,29,30,31,32,33,34,35] HT ?_
    refine dn HT ?_
    (try clear F)
    have F:=HS.bx
    obtain rfl:=zsome H
    go_wp2
    go_ret
    exact HS.pk
   subst c20
   replace H:=znif' H;rcases H with⟨c21,H⟩|⟨c21,H⟩
   ·
    obtain⟨c21a,c21b⟩:=nq c21;clear c21
    replace H:=znif H;rcases H with⟨c29,H⟩|⟨c29,H⟩
    ·
     refine dr_start [] HS #[false,false,false,false,false,false,false,false,false,false,false,false,false,false,false,false,false,false,false,false,false,false,false,false,false,false,false,false,false,false,false,false,false,false,false,false] (by kernel_rfl) rfl rfl spec_CrlOk.tT7 (fun w44 HT HS HH=>?_)
     (try clear F)
     refine dqt [0,1] HT HH ?_
     refine dr1 2 HT fun K hK=>?_
     refine go_cl HS (spec_l09Num.calls ht10.out) Tryz.func55 ?_;clear HS;intro wt10 HS F
     refine nrm 62 hK ⟨_,HS⟩ fun HH=>?_;clear hK K
     refine dqt [3,4,5,6] HT HH ?_
     refine dr1 7 HT fun K hK=>?_
     refine go_cl HS (spec_l01In.calls ht16.out) Tryz.func54 ?_;clear HS;intro wt16 HS F
     refine nrm 67 hK ⟨_,HS⟩ fun HH=>?_;clear hK K
     refine dqto [8,9,10,11,12,13,14,15,16,17,18,19,20,21,22,23,24,25,26,27,28,29,30,31,32,33,34,35] HT HH ?_
     refine dn HT ?_
     (try clear F)
     have F:=HS.bx
     go_wp2
     go_roundg k22
     case measure=>have:=HKk22.out;omega
     case rel=>exact⟨_,rfl,H,⟨by have:=HKk22.out;omega⟩,HS.pi [0]⟩
    replace H:=zgo H;obtain⟨c30,H⟩:=H
    replace H:=zgo H;obtain⟨c32,H⟩:=H
    obtain⟨ad33,hq33,e33_0,e33_1⟩:=at_T133 gp0 (wrap64 (x23 - 1)) (of_eq_true c30) (of_eq_true c32);obtain rfl:=Option.some.inj hq33
    refine dr_start [] HS #[false,false,false,false,false,false,false,false,false,false,false,false,false,false,false,false,false,false,false,false,false,false,false,false,false,false,false,false,false,false,false,false,false,false,false,false] (by kernel_rfl) rfl rfl spec_CrlOk.tT7 (fun w41 HT HS HH=>?_)
    (try clear F)
    refine dqt [0,1] HT HH ?_
    refine dr1 2 HT fun K hK=>?_
    refine go_cl HS (spec_l09Num.calls ht10.out) Tryz.func55 ?_;clear HS;intro wt10 HS F
    refine nrm 62 hK ⟨_,HS⟩ fun HH=>?_;clear hK K
    refine dqt [3,4,5,6] HT HH ?_
    refine dr1 7 HT fun K hK=>?_
    refine go_cl HS (spec_l01In.calls ht16.out) Tryz.func54 ?_;clear HS;intro wt16 HS F
    refine nrm 67 hK ⟨_,HS⟩ fun HH=>?_;clear hK K
    refine dqto [8,9,10,11,12,13,14,15,16,17,18,19,20,21,22,23,24,25,26,27,28,29] HT HH ?_
    refine dtk 30 90 HT HH rfl (by rintro w' ⟨rs',HS'⟩;have e33_0:=HS'.keepc e33_0;have e33_1:=HS'.keepc e33_1;go_simp;with_reducible rfl) ?_
    refine dqt [31,32,33,34,35] HT HH ?_
    refine dn HT ?_
    (try clear F)
    have F:=HS.bx
    replace H:=zif H;rcases H with⟨c43,H⟩|⟨c43,H⟩
    ·
     (try simp only [c43,dcn])
     obtain rfl:=zsome H
     go_wp2
     go_ret
     exact HS.pk
    (try simp only [c43,dcn])
    go_wp2
    go_roundg k22
    case measure=>have:=HKk22.out;omega
    case rel=>exact⟨_,rfl,H,⟨by have:=HKk22.out;omega⟩,HS.pi [0]⟩
   obtain⟨c21a,c21b⟩:=bq c21;clear c21
   replace H:=zif' H;rcases H with⟨c24,H⟩|⟨c24,H⟩
   ·
    obtain⟨c24a,c24b⟩:=bq c24;clear c24
    refine dr_start [] HS #[false,false,false,false,false,false,false,false,false,false,false,false,false,false,false,false,false,false,false,false,false,false,false,false,false,false,false,false,false,false,false,false,false,false,false,false] (by kernel_rfl) rfl rfl spec_CrlOk.tT7 (fun w34 HT HS HH=>?_)
    (try clear F)
    refine dqt [0,1] HT HH ?_
    refine dr1 2 HT fun K hK=>?_
    refine go_cl HS (spec_l09Num.calls ht10.out) Tryz.func55 ?_;clear HS;intro wt10 HS F
    refine nrm 62 hK ⟨_,HS⟩ fun HH=>?_;clear hK K
    refine dqt [3,4,5,6] HT HH ?_
    refine dr1 7 HT fun K hK=>?_
    refine go_cl HS (spec_l01In.calls ht16.out) Tryz.func54 ?_;clear HS;intro wt16 HS F
    refine nrm 67 hK ⟨_,HS⟩ fun HH=>?_;clear hK K
    refine dqto [8,9,10,11,12,13,14,15,16,17,18,19,20,21,22,23,24,25,26,27,28,29,30,31,32,33,34,35] HT HH ?_
    refine dn HT ?_
    (try clear F)
    have F:=HS.bx
    obtain rfl:=zsome H
    go_wp2
    go_ret
    exact HS.pk
   obtain⟨c24a,c24b⟩:=nq c24;clear c24
   replace H:=znif H;rcases H with⟨c29,H⟩|⟨c29,H⟩
   ·
    refine dr_start [] HS #[false,false,false,false,false,false,false,false,false,false,false,false,false,false,false,false,false,false,false,false,false,false,false,false,false,false,false,false,false,false,false,false,false,false,false,false] (by kernel_rfl) rfl rfl spec_CrlOk.tT7 (fun w39 HT HS HH=>?_)
    (try clear F)
    refine dqt [0,1] HT HH ?_
    refine dr1 2 HT fun K hK=>?_
    refine go_cl HS (spec_l09Num.calls ht10.out) Tryz.func55 ?_;clear HS;intro wt10 HS F
    refine nrm 62 hK ⟨_,HS⟩ fun HH=>?_;clear hK K
    refine dqt [3,4,5,6] HT HH ?_
    refine dr1 7 HT fun K hK=>?_
    refine go_cl HS (spec_l01In.calls ht16.out) Tryz.func54 ?_;clear HS;intro wt16 HS F
    refine nrm 67 hK ⟨_,HS⟩ fun HH=>?_;clear hK K
    refine dqto [8,9,10,11,12,13,14,15,16,17,18,19,20,21,22,23,24,25,26,27,28,29,30,31,32,33,34,35] HT HH ?_
    refine dn HT ?_
    (try clear F)
    have F:=HS.bx
    go_wp2
    go_roundg k22
    case measure=>have:=HKk22.out;omega
    case rel=>exact⟨_,rfl,H,⟨by have:=HKk22.out;omega⟩,HS.pi [0]⟩
   replace H:=zgo H;obtain⟨c30,H⟩:=H
   replace H:=zgo H;obtain⟨c32,H⟩:=H
   obtain⟨ad33,hq33,e33_0,e33_1⟩:=at_T133 gp0 (wrap64 (x23 - 1)) (of_eq_true c30) (of_eq_true c32);obtain rfl:=Option.some.inj hq33
   refine dr_start [] HS #[false,false,false,false,false,false,false,false,false,false,false,false,false,false,false,false,false,false,false,false,false,false,false,false,false,false,false,false,false,false,false,false,false,false,false,false] (by kernel_rfl) rfl rfl spec_CrlOk.tT7 (fun w36 HT HS HH=>?_)
   (try clear F)
   refine dqt [0,1] HT HH ?_
   refine dr1 2 HT fun K hK=>?_
   refine go_cl HS (spec_l09Num.calls ht10.out) Tryz.func55 ?_;clear HS;intro wt10 HS F
   refine nrm 62 hK ⟨_,HS⟩ fun HH=>?_;clear hK K
   refine dqt [3,4,5,6] HT HH ?_
   refine dr1 7 HT fun K hK=>?_
   refine go_cl HS (spec_l01In.calls ht16.out) Tryz.func54 ?_;clear HS;intro wt16 HS F
   refine nrm 67 hK ⟨_,HS⟩ fun HH=>?_;clear hK K
   refine dqt [8,9,10,11,12,13,14,15,16,17,18,19,20,21,22,23,24,25,26,27,28,29] HT HH ?_
   refine dtk 30 90 HT HH rfl (by rintro w' ⟨rs',HS'⟩;have e33_0:=HS'.keepc e33_0;have e33_1:=HS'.keepc e33_1;go_simp;with_reducible rfl) ?_
   refine dqt [31,32,33,34,35] HT HH ?_
   refine dn HT ?_
   (try clear F)
   have F:=HS.bx
   replace H:=zif H;rcases H with⟨c38,H⟩|⟨c38,H⟩
   ·
    (try simp only [c38,dcn])
    obtain rfl:=zsome H
    go_wp2
    go_ret
    exact HS.pk
   (try simp only [c38,dcn])
   go_wp2
   go_roundg k22
   case measure=>have:=HKk22.out;omega
   case rel=>exact⟨_,rfl,H,⟨by have:=HKk22.out;omega⟩,HS.pi [0]⟩
def spec_l10Item.l0:Nat→(List S66)→Int→S103→Option (S66)
  |0,_,_,_=>none
  |k+1,l21,x23,a0=>(if x23<(a0.f5.length:Int)then(if 0≤x23 then(if x23<(a0.f5.length:Int)then((spec_l09Ints.f k ([(rd_T133 a0.f5 x23).f0,(rd_T133 a0.f5 x23).f1]:List Int)).bind fun t12=>(if l21.length+1≤2932031007402 then(lets (l21++([t12]:List S66)) fun y16=>(spec_l10Item.l0 k y16 (wrap64 (x23+1)) a0))else none))else none)else none)else((spec_TextItem.f a0.f0).bind fun t18=>((spec_IntItem.f k a0.f1).bind fun t24=>((spec_IntItem.f k a0.f2).bind fun t28=>((spec_IntItem.f k a0.f3).bind fun t31=>((spec_IntItem.f k a0.f4).bind fun t33=>(some (⟨48,(⟨#[]⟩:ByteArray),([t18,t24,t28,t31,t33,(⟨48,(⟨#[]⟩:ByteArray),l21⟩:S66)]:List S66)⟩:S66))))))))
def spec_l10Item.f (k:Nat)(a0:S103):Option (S66):=(spec_l10Item.l0 k [] 0 a0)
def spec_l10Item.T5:TT:=(true,[([],[]),([0],[0]),([],[]),([2],[2]),([],[]),([3,4],[3,4]),([5],[5]),([6],[6]),([],[]),([8],[8]),([],[]),([9,10],[9,10]),([11],[11]),([12],[12]),([7,13],[7,13]),([14],[14]),([15],[15]),([1,16,15],[1,16]),([0,1,2,3,4,5,6,7,8,9,10,11,12,13,14,15,16,17],[]),([18,17,17,0,1,2,3,4,5,6,7,8,9,10,11,12,13,14,15,16,17],[17,18])])
theorem spec_l10Item.tT5:rtab .any (opsOf Tryz.f156 5)=spec_l10Item.T5:=by kernel_rfl
def spec_l10Item.T6:TT:=(true,[([],[]),([0],[0]),([1],[1]),([],[]),([3],[3]),([4,2],[4]),([],[]),([6],[6]),([7,5],[7]),([],[]),([9],[9]),([10,8],[10]),([],[]),([12],[12]),([13,11],[13]),([],[]),([2,5,8,11,14,15],[2,5,8,11,14,15]),([16],[16]),([17,14,0,1,2,3,4,5,6,7,8,9,10,11,12,13,14,15,16,17],[17])])
theorem spec_l10Item.tT6:rtab .any (opsOf Tryz.f156 6)=spec_l10Item.T6:=by kernel_rfl
theorem spec_l10Item.calls {k:Nat}{a0:S103}{Ap0:Option Addr}{np0 cp0:Nat}{r:S66}{w:World}(h:spec_l10Item.f k a0=some r)(gp0:k133.C w Ap0 np0 a0.f5)(lp0:np0≤cp0):
    Calls Tryz.prog 156 #[.agg #[.string a0.f0,.int .i64 a0.f1,.int .i64 a0.f2,.int .i64 a0.f3,.int .i64 a0.f4,.slice Ap0 np0 cp0,.string a0.f6]] w (fun e w'=>∃v0_:Value,e=.returned (.agg #[.int .i64 r.f0,.string r.f1,v0_])∧Hp noFP w w' [.own (Zd.slice 66 q66) r.f2 [v0_]]):=by
 obtain rfl:=C_len gp0
 have HS:=Hp.start w
 have H:=Aside0.mk h
 clear h
 unfold spec_l10Item.f at H
 go_enter Tryz.func156,Tryz.ntmps156
 go_wp2_with (first|((with_reducible refine gd 1 rfl ?_);refine ev_bx HS ?_;clear HS;intro g1 w1 HS F)|((with_reducible refine gd 2 rfl ?_);refine ev_bx HS ?_;clear HS;intro g2 w2 HS F)|((with_reducible refine gd 3 rfl ?_);refine ev_bx HS ?_;clear HS;intro g3 w3 HS F)|((with_reducible refine gate_store (p:=3) rfl ?_);refine ev_st 2 0 HS (seg:=[.int .i64 48,.string (⟨#[]⟩:ByteArray),.slice none 0 0]) ?_;clear HS;intro w7 HS F))
 replace HS:=HS.nil 66 q66
 go_loopg [4] k (fun kq v_4 w'=>∃(l21:List S66) (v22:Value) (x23:Int),v_4=.int .i64 x23∧Aside0 (spec_l10Item.l0 kq l21 x23 a0=some r)∧Aside0 (kq≤k)∧Hp noFP w w' [.box g1 [.string a0.f0,.int .i64 a0.f1,.int .i64 a0.f2,.int .i64 a0.f3,.int .i64 a0.f4,.slice Ap0 a0.f5.length cp0,.string a0.f6] 103,.box g2 [.int .i64 0,.string (⟨#[]⟩:ByteArray),.slice none 0 0] 66,.box g3 [.int .i64 48,.string (⟨#[]⟩:ByteArray),v22] 66,.own (Zd.slice 66 q66) l21 [v22]])
 case atStart=>exact⟨_,_,_,rfl,H,⟨Nat.le_refl _⟩,HS⟩
 case round=>
  clear HS H;(try clear F)
  obtain⟨l21,v22,x23,rfl,H,HKk20,HS⟩:=hrel
  obtain⟨B22,d22,rfl,m22⟩:=HS.form 3 rfl
  have F:=HS.bx
  cases gk with
  |zero=>exact absurd H.out (by simp [spec_l10Item.l0])
  | succ k20=>
   simp only [spec_l10Item.l0] at H
   replace H:=zif H;rcases H with⟨c25,H⟩|⟨c25,H⟩
   ·
    (try go_wp2)
    replace H:=zgo H;obtain⟨c8,H⟩:=H
    replace H:=zgo H;obtain⟨c9,H⟩:=H
    obtain⟨ad10,rfl,e10_0,e10_1⟩:=at_T133 gp0 x23 (of_eq_true c8) (of_eq_true c9)
    replace H:=zbind H;obtain⟨t12,ht12,H⟩:=H
    replace H:=zgo H;obtain⟨c15,H⟩:=H
    replace H:=zlets H;obtain⟨y16,e_y16,H⟩:=H
    refine dr_start2 [.box g1 [.string a0.f0,.int .i64 a0.f1,.int .i64 a0.f2,.int .i64 a0.f3,.int .i64 a0.f4,.slice (some ad10) a0.f5.length cp0,.string a0.f6] 103,.box g2 [.int .i64 0,.string (⟨#[]⟩:ByteArray),.slice none 0 0] 66,.box g3 [.int .i64 48,.string (⟨#[]⟩:ByteArray),.slice B22 l21.length d22] 66,.emp] [19] HS (HS.ar [some 0,some 1,some 2,none]) #[false,false,false,false,false,false,false,false,false,false,false,false,false,false,false,false,false,false,false,false] (by kernel_rfl) rfl rfl spec_l10Item.tT5 (fun w27 HT HS HH=>?_)
    (try clear F)
    refine dqt [0,1,2,3,4,5,6] HT HH ?_
    refine dtk 7 20 HT HH rfl (by rintro w' ⟨rs',HS'⟩;have e10_0:=HS'.keepc e10_0;have e10_1:=HS'.keepc e10_1;go_simp;with_reducible rfl) ?_
    refine dqt [8,9,10,11,12] HT HH ?_
    refine dtk 13 26 HT HH rfl (by rintro w' ⟨rs',HS'⟩;have e10_0:=HS'.keepc e10_0;have e10_1:=HS'.keepc e10_1;go_simp;with_reducible rfl) ?_
    refine dr1 14 HT fun K hK=>?_
    refine if_li (Zd.int .i64) [] ([(rd_T133 a0.f5 x23).f0,(rd_T133 a0.f5 x23).f1]:List Int) ([.int .i64 ((rd_T133 a0.f5 x23).f0)]++([.int .i64 ((rd_T133 a0.f5 x23).f1)]++ [])) HS (MadeL.cons (js1:=[]) (c:=[.int .i64 ((rd_T133 a0.f5 x23).f0)]) rfl (made_flat (fun _=>rfl)) (MadeL.cons (js1:=[]) (c:=[.int .i64 ((rd_T133 a0.f5 x23).f1)]) rfl (made_flat (fun _=>rfl)) MadeL.nil (by decide)) (by decide)) ?_;clear HS;intro v11 w11 HS F;obtain⟨B11,d11,rfl,m11⟩:=HS.formn 2 4 rfl rfl
    refine nra 27 hK (HS.ar [some 0,some 1,some 2,none]) fun HH=>?_;clear hK K
    refine dr1 15 HT fun K hK=>?_
    refine go_cl1 HS (spec_l09Ints.calls ht12.out (HS.rd 4 rfl) m11) Tryz.func139 ?_;clear HS;intro v13 wt12 HS F;obtain⟨B13,d13,rfl,m13⟩:=HS.form 5 rfl
    refine nra 28 hK (HS.ar [some 0,some 1,some 2,none]) fun HH=>?_;clear hK K
    refine dr1 16 HT fun K hK=>?_
    refine if_li q66 [5] ([t12]:List S66) ([.int .i64 t12.f0,.string t12.f1,.slice B13 t12.f2.length d13]++ []) HS (MadeL.cons (js1:=[5]) (c:=[.int .i64 t12.f0,.string t12.f1,.slice B13 t12.f2.length d13]) rfl (fun S hd hh=>q66_pack (x:=t12) hd (hh 5 (.own (Zd.slice 66 q66) t12.f2 [.slice B13 t12.f2.length d13]) rfl) (by decide)) MadeL.nil (by decide)) ?_;clear HS;intro v14 w14 HS F;obtain⟨B14,d14,rfl,m14⟩:=HS.formn 1 6 rfl rfl
    refine nra 29 hK (HS.ar [some 0,some 1,some 2,none]) fun HH=>?_;clear hK K
    refine dr1 17 HT fun K hK=>?_
    refine wp_ap q66 3 6 HS rfl rfl Tryz.underlying64 info66 (of_eq_true c15) ?_;clear HS;intro v16 w16 HS;rw [←e_y16.out] at HS;obtain⟨B16,d16,rfl,m16⟩:=HS.form 7 rfl
    (try simp only [hpn,hpm] at HS)
    have F:=HS.bx
    refine nra 30 hK (HS.ar [some 0,some 1,some 2,none]) fun HH=>?_;clear hK K
    refine dq [18] HT ?_
    refine dl 19 HT fun K hK=>?_
    refine if_st 2 2 HS (seg:=[.slice B16 y16.length d16]) ?_;clear HS;intro w17 HS F
    refine hK.out _ _ ?_
    clear hK K
    refine dn HT ?_
    (try clear F)
    have F:=HS.bx
    go_wp2
    go_roundg k20
    case measure=>have:=HKk20.out;omega
    case rel=>exact⟨_,_,_,rfl,H,⟨by have:=HKk20.out;omega⟩,HS.pi [0,1,2,7]⟩
   (try go_wp2)
   replace H:=zbind H;obtain⟨t18,ht18,H⟩:=H
   replace H:=zbind H;obtain⟨t24,ht24,H⟩:=H
   replace H:=zbind H;obtain⟨t28,ht28,H⟩:=H
   replace H:=zbind H;obtain⟨t31,ht31,H⟩:=H
   replace H:=zbind H;obtain⟨t33,ht33,H⟩:=H
   refine dr_start2 [.box g1 [.string a0.f0,.int .i64 a0.f1,.int .i64 a0.f2,.int .i64 a0.f3,.int .i64 a0.f4,.slice Ap0 a0.f5.length cp0,.string a0.f6] 103,.box g2 [.int .i64 0,.string (⟨#[]⟩:ByteArray),.slice none 0 0] 66,.box g3 [.int .i64 48,.string (⟨#[]⟩:ByteArray),.slice B22 l21.length d22] 66,.emp] [18] HS (HS.ar [some 0,some 1,some 2,none]) #[false,false,false,false,false,false,false,false,false,false,false,false,false,false,false,false,false,false,false] (by kernel_rfl) rfl rfl spec_l10Item.tT6 (fun w30 HT HS HH=>?_)
   (try clear F)
   refine dqt [0,1,3,4,6,7,9,10,12,13,15] HT HH ?_
   refine dr1 2 HT fun K hK=>?_
   refine go_cl1 HS (spec_TextItem.calls ht18.out) Tryz.func138 ?_;clear HS;intro v19 wt18 HS F;obtain⟨B19,d19,rfl,m19⟩:=HS.form 4 rfl
   refine nra 34 hK (HS.ar [some 0,some 1,some 2,none]) fun HH=>?_;clear hK K
   refine dr1 5 HT fun K hK=>?_
   refine go_cl1 HS (spec_IntItem.calls ht24.out) Tryz.func38 ?_;clear HS;intro v26 wt24 HS F;obtain⟨B26,d26,rfl,m26⟩:=HS.form 5 rfl
   refine nra 37 hK (HS.ar [some 0,some 1,some 2,none]) fun HH=>?_;clear hK K
   refine dr1 8 HT fun K hK=>?_
   refine go_cl1 HS (spec_IntItem.calls ht28.out) Tryz.func38 ?_;clear HS;intro v29 wt28 HS F;obtain⟨B29,d29,rfl,m29⟩:=HS.form 6 rfl
   refine nra 40 hK (HS.ar [some 0,some 1,some 2,none]) fun HH=>?_;clear hK K
   refine dr1 11 HT fun K hK=>?_
   refine go_cl1 HS (spec_IntItem.calls ht31.out) Tryz.func38 ?_;clear HS;intro v32 wt31 HS F;obtain⟨B32,d32,rfl,m32⟩:=HS.form 7 rfl
   refine nra 43 hK (HS.ar [some 0,some 1,some 2,none]) fun HH=>?_;clear hK K
   refine dr1 14 HT fun K hK=>?_
   refine go_cl1 HS (spec_IntItem.calls ht33.out) Tryz.func38 ?_;clear HS;intro v34 wt33 HS F;obtain⟨B34,d34,rfl,m34⟩:=HS.form 8 rfl
   refine nra 46 hK (HS.ar [some 0,some 1,some 2,none]) fun HH=>?_;clear hK K
   refine dr1 16 HT fun K hK=>?_
   refine if_li q66 [4,5,6,7,8,3] ([t18,t24,t28,t31,t33,(⟨48,(⟨#[]⟩:ByteArray),l21⟩:S66)]:List S66) ([.int .i64 t18.f0,.string t18.f1,.slice B19 t18.f2.length d19]++([.int .i64 t24.f0,.string t24.f1,.slice B26 t24.f2.length d26]++([.int .i64 t28.f0,.string t28.f1,.slice B29 t28.f2.length d29]++([.int .i64 t31.f0,.string t31.f1,.slice B32 t31.f2.length d32]++([.int .i64 t33.f0,.string t33.f1,.slice B34 t33.f2.length d34]++([.int .i64 48,.string (⟨#[]⟩:ByteArray),.slice B22 l21.length d22]++ [])))))) HS (MadeL.cons (js1:=[4]) (c:=[.int .i64 t18.f0,.string t18.f1,.slice B19 t18.f2.length d19]) rfl (fun S hd hh=>q66_pack (x:=t18) hd (hh 4 (.own (Zd.slice 66 q66) t18.f2 [.slice B19 t18.f2.length d19]) rfl) (by decide)) (MadeL.cons (js1:=[5]) (c:=[.int .i64 t24.f0,.string t24.f1,.slice B26 t24.f2.length d26]) rfl (fun S hd hh=>q66_pack (x:=t24) hd (hh 5 (.own (Zd.slice 66 q66) t24.f2 [.slice B26 t24.f2.length d26]) rfl) (by decide)) (MadeL.cons (js1:=[6]) (c:=[.int .i64 t28.f0,.string t28.f1,.slice B29 t28.f2.length d29]) rfl (fun S hd hh=>q66_pack (x:=t28) hd (hh 6 (.own (Zd.slice 66 q66) t28.f2 [.slice B29 t28.f2.length d29]) rfl) (by decide)) (MadeL.cons (js1:=[7]) (c:=[.int .i64 t31.f0,.string t31.f1,.slice B32 t31.f2.length d32]) rfl (fun S hd hh=>q66_pack (x:=t31) hd (hh 7 (.own (Zd.slice 66 q66) t31.f2 [.slice B32 t31.f2.length d32]) rfl) (by decide)) (MadeL.cons (js1:=[8]) (c:=[.int .i64 t33.f0,.string t33.f1,.slice B34 t33.f2.length d34]) rfl (fun S hd hh=>q66_pack (x:=t33) hd (hh 8 (.own (Zd.slice 66 q66) t33.f2 [.slice B34 t33.f2.length d34]) rfl) (by decide)) (MadeL.cons (js1:=[3]) (c:=[.int .i64 48,.string (⟨#[]⟩:ByteArray),.slice B22 l21.length d22]) rfl (fun S hd hh=>q66_pack (x:=(⟨48,(⟨#[]⟩:ByteArray),l21⟩:S66)) hd (hh 3 (.own (Zd.slice 66 q66) l21 [.slice B22 l21.length d22]) rfl) (by decide)) MadeL.nil (by decide)) (by decide)) (by decide)) (by decide)) (by decide)) (by decide)) ?_;clear HS;intro v35 w35 HS F;obtain⟨B35,d35,rfl,m35⟩:=HS.formn 6 9 rfl rfl
   refine nra 48 hK (HS.ar [some 0,some 1,some 2,none]) fun HH=>?_;clear hK K
   refine dq [17] HT ?_
   refine dl 18 HT fun K hK=>?_
   refine if_st 1 0 HS (seg:=[.int .i64 48,.string (⟨#[]⟩:ByteArray),.slice B35 6 d35]) ?_;clear HS;intro w36 HS F
   refine hK.out _ _ ?_
   clear hK K
   refine dn HT ?_
   (try clear F)
   have F:=HS.bx
   obtain rfl:=zsome H
   go_wp2
   exact rc 1 HS Tryz.underlying66 ⟨_,rfl,HS.pi [9]⟩
def spec_CrlText.f (k:Nat)(a0:S103):Option (ByteArray×Bool):=((spec_CrlOk.f k a0).bind fun t3=>(if t3=true then((spec_l10Item.f k a0).bind fun t8=>((spec_l09Bytes.f a0.f6).bind fun t10=>((spec_ItemText.f k (⟨48,(⟨#[]⟩:ByteArray),([t8,t10]:List S66)⟩:S66)).bind fun t13=>(some (t13.1,t13.2)))))else(some ((⟨#[]⟩:ByteArray),false))))
def spec_CrlText.T3:TT:=(true,[([],[]),([0],[0]),([],[]),([2],[2]),([3,1],[3]),([1,4],[1,4]),([5],[5]),([6,4],[6]),([7],[7]),([7],[7]),([8,7,0,1,2,3,4,5,6,7,8,9],[8]),([9,10,0,1,2,3,4,5,6,7,8,9,10],[9])])
theorem spec_CrlText.tT3:rtab .any (opsOf Tryz.f142 3)=spec_CrlText.T3:=by kernel_rfl
theorem spec_CrlText.calls {k:Nat}{a0:S103}{Ap0:Option Addr}{np0 cp0:Nat}{r1:ByteArray}{r2:Bool}{w:World}(h:spec_CrlText.f k a0=some (r1,r2))(gp0:k133.C w Ap0 np0 a0.f5)(lp0:np0≤cp0):
    Calls Tryz.prog 142 #[.agg #[.string a0.f0,.int .i64 a0.f1,.int .i64 a0.f2,.int .i64 a0.f3,.int .i64 a0.f4,.slice Ap0 np0 cp0,.string a0.f6]] w (fun e w'=>e=.returned (.tuple #[.string r1,.bool r2])∧Hp noFP w w' []):=by
 obtain rfl:=C_len gp0
 have HS:=Hp.start w
 have H:=Aside0.mk h
 clear h
 unfold spec_CrlText.f at H
 go_enter Tryz.func142,Tryz.ntmps142
 replace H:=zbind H;obtain⟨t3,ht3,H⟩:=H
 go_upto_if 6 with(first|((with_reducible refine gd 1 rfl ?_);refine ev_bx HS ?_;clear HS;intro g1 w1 HS F)|((with_reducible refine gd 5 rfl ?_);refine ev_cl HS (spec_CrlOk.calls ht3.out (HS.ro gp0) lp0) Tryz.func155 ?_;clear HS;intro wt3 HS F))
 replace H:=znifb H;rcases H with⟨c5,H⟩|⟨c5,H⟩
 ·
  subst c5
  (try simp only [dcn,dcu,dcf])
  obtain⟨rfl,rfl⟩:=zsome2 H
  go_wp2
  exact rl rfl (.tmp (.tmp .nil)) ⟨rfl,HS.pi []⟩
 subst c5
 (try simp only [dcn,dcu,dcf])
 (try go_wp2)
 replace H:=zbind H;obtain⟨t8,ht8,H⟩:=H
 replace H:=zbind H;obtain⟨t10,ht10,H⟩:=H
 replace H:=zbind H;obtain⟨t13,ht13,H⟩:=H
 refine dr_start [] HS #[false,false,false,false,false,false,false,false,false,false,false,false] (by kernel_rfl) rfl rfl spec_CrlText.tT3 (fun w7 HT HS HH=>?_)
 (try clear F)
 refine dqt [0,2,3] HT HH ?_
 refine dr1 1 HT fun K hK=>?_
 refine go_cl1 HS (spec_l10Item.calls ht8.out (HS.ro gp0) lp0) Tryz.func156 ?_;clear HS;intro v9 wt8 HS F;obtain⟨B9,d9,rfl,m9⟩:=HS.form 1 rfl
 refine nrm 8 hK ⟨_,HS⟩ fun HH=>?_;clear hK K
 refine dr1 4 HT fun K hK=>?_
 refine go_cl1 HS (spec_l09Bytes.calls ht10.out) Tryz.func75 ?_;clear HS;intro v11 wt10 HS F;obtain⟨B11,d11,rfl,m11⟩:=HS.form 2 rfl
 refine nrm 11 hK ⟨_,HS⟩ fun HH=>?_;clear hK K
 refine dr1 5 HT fun K hK=>?_
 refine if_li q66 [1,2] ([t8,t10]:List S66) ([.int .i64 t8.f0,.string t8.f1,.slice B9 t8.f2.length d9]++([.int .i64 t10.f0,.string t10.f1,.slice B11 t10.f2.length d11]++ [])) HS (MadeL.cons (js1:=[1]) (c:=[.int .i64 t8.f0,.string t8.f1,.slice B9 t8.f2.length d9]) rfl (fun S hd hh=>q66_pack (x:=t8) hd (hh 1 (.own (Zd.slice 66 q66) t8.f2 [.slice B9 t8.f2.length d9]) rfl) (by decide)) (MadeL.cons (js1:=[2]) (c:=[.int .i64 t10.f0,.string t10.f1,.slice B11 t10.f2.length d11]) rfl (fun S hd hh=>q66_pack (x:=t10) hd (hh 2 (.own (Zd.slice 66 q66) t10.f2 [.slice B11 t10.f2.length d11]) rfl) (by decide)) MadeL.nil (by decide)) (by decide)) ?_;clear HS;intro v12 w12 HS F;obtain⟨B12,d12,rfl,m12⟩:=HS.formn 2 3 rfl rfl
 refine nrm 12 hK ⟨_,HS⟩ fun HH=>?_;clear hK K
 refine dq [6] HT ?_
 refine dr1 7 HT fun K hK=>?_
 refine go_cl HS (spec_ItemText.calls ht13.out (HS.rd 3 rfl) m12) Tryz.func36 ?_;clear HS;intro wt13 HS F
 refine nrm 14 hK ⟨_,HS⟩ fun HH=>?_;clear hK K
 refine dq [8,9,10,11] HT ?_
 refine dn HT ?_
 (try clear F)
 have F:=HS.bx
 obtain⟨rfl,rfl⟩:=zsome2 H
 go_wp2
 exact rl rfl (.tmp (.tmp .nil)) ⟨rfl,HS.pi []⟩
def spec_l13Anchor.f (k:Nat)(a0:S105):Option (Bool):=((spec_NameOk.f k a0.f0).bind fun t3=>(if t3=true then(some ((a0.f1.size:Int)==15))else(some false)))
theorem spec_l13Anchor.calls {k:Nat}{a0:S105}{r:Bool}{w:World}(h:spec_l13Anchor.f k a0=some r):
    Calls Tryz.prog 143 #[.agg #[.string a0.f0,.string a0.f1]] w (fun e w'=>e=.returned (.bool r)∧Hp noFP w w' []):=by
 have HS:=Hp.start w
 have H:=Aside0.mk h
 clear h
 unfold spec_l13Anchor.f at H
 go_enter Tryz.func143,Tryz.ntmps143
 replace H:=zbind H;obtain⟨t3,ht3,H⟩:=H
 replace H:=zifb H;rcases H with⟨c5,H⟩|⟨c5,H⟩
 ·
  subst c5
  obtain rfl:=zsome H
  go_wp2_with (first|((with_reducible refine gd 1 rfl ?_);refine ev_bx HS ?_;clear HS;intro g1 w1 HS F)|((with_reducible refine gd 5 rfl ?_);refine ev_cl HS (spec_NameOk.calls ht3.out) Tryz.func136 ?_;clear HS;intro wt3 HS F))
  go_ret
  exact HS.pk
 subst c5
 obtain rfl:=zsome H
 go_wp2_with (first|((with_reducible refine gd 1 rfl ?_);refine ev_bx HS ?_;clear HS;intro g1 w1 HS F)|((with_reducible refine gd 5 rfl ?_);refine ev_cl HS (spec_NameOk.calls ht3.out) Tryz.func136 ?_;clear HS;intro wt3 HS F))
 go_ret
 exact HS.pk
mutual
def spec_StoreOk.l0:Nat→(List ByteArray)→Int→S48→Option (Bool)
  |0,_,_,_=>none
  |k+1,l22,x24,a0=>(if x24<(a0.f0.length:Int)then(if 0≤x24 then(if x24<(a0.f0.length:Int)then((spec_CertText.f k (rd_T125 a0.f0 x24)).bind fun t30=>(if t30.2=true then((spec_l13In.f k l22 t30.1).bind fun t33=>(if t33=true then(some false)else(if l22.length+1≤8796093022208 then(lets (l22++([t30.1]:List ByteArray)) fun y39=>(spec_StoreOk.l0 k y39 (wrap64 (x24+1)) a0))else none)))else(some false)))else none)else none)else(spec_StoreOk.l1 k ([]:List ByteArray) 0 a0))
def spec_StoreOk.l1:Nat→(List ByteArray)→Int→S48→Option (Bool)
  |0,_,_,_=>none
  |k+1,l57,x59,a0=>(if x59<(a0.f1.length:Int)then(if 0≤x59 then(if x59<(a0.f1.length:Int)then((spec_CrlText.f k (rd_T103 a0.f1 x59)).bind fun t65=>(if t65.2=true then((spec_l13In.f k l57 t65.1).bind fun t68=>(if t68=true then(some false)else(if l57.length+1≤8796093022208 then(lets (l57++([t65.1]:List ByteArray)) fun y74=>(spec_StoreOk.l1 k y74 (wrap64 (x59+1)) a0))else none)))else(some false)))else none)else none)else(spec_StoreOk.l2 k 0 a0))
def spec_StoreOk.l2:Nat→Int→S48→Option (Bool)
  |0,_,_=>none
  |k+1,x79,a0=>(if x79<(a0.f2.length:Int)then(if 0≤x79 then(if x79<(a0.f2.length:Int)then((spec_l13Anchor.f k (rd_T105 a0.f2 x79)).bind fun t85=>(if t85=true then(spec_StoreOk.l3 k 0 a0 x79)else(some false)))else none)else none)else(some true))
def spec_StoreOk.l3:Nat→Int→S48→Int→Option (Bool)
  |0,_,_,_=>none
  |k+1,x91,a0,x79=>(if x91<x79 then(if 0≤x91 then(if x91<(a0.f2.length:Int)then(if((rd_T105 a0.f2 x91).f0).toList=((rd_T105 a0.f2 x79).f0).toList then(some false)else(spec_StoreOk.l3 k (wrap64 (x91+1)) a0 x79))else none)else none)else(spec_StoreOk.l2 k (wrap64 (x79+1)) a0))
end
def spec_StoreOk.f (k:Nat)(a0:S48):Option (Bool):=(if 12<(a0.f0.length:Int)then(some false)else(if 8<(a0.f1.length:Int)then(some false)else(if 3<(a0.f2.length:Int)then(some false)else(spec_StoreOk.l0 k ([]:List ByteArray) 0 a0))))
def spec_StoreOk.T27:TT:=(true,[([],[]),([0],[0]),([],[]),([1,2],[1,2]),([3],[3]),([4],[4]),([],[]),([6],[6]),([],[]),([7,8],[7,8]),([9],[9]),([10],[10]),([5,11],[5,11])])
theorem spec_StoreOk.tT27:rtab .any (opsOf Tryz.f127 27)=spec_StoreOk.T27:=by kernel_rfl
theorem spec_StoreOk.calls {k:Nat}{a0:S48}{Ap0 Ap1 Ap2:Option Addr}{np0 cp0 np1 cp1 np2 cp2:Nat}{r:Bool}{w:World}(h:spec_StoreOk.f k a0=some r)(gp0:k125.C w Ap0 np0 a0.f0)(lp0:np0≤cp0)(gp1:k103.C w Ap1 np1 a0.f1)(lp1:np1≤cp1)(gp2:k105.C w Ap2 np2 a0.f2)(lp2:np2≤cp2):
    Calls Tryz.prog 127 #[.agg #[.slice Ap0 np0 cp0,.slice Ap1 np1 cp1,.slice Ap2 np2 cp2]] w (fun e w'=>e=.returned (.bool r)∧Hp noFP w w' []):=by
 obtain rfl:=C_len gp0
 obtain rfl:=C_len gp1
 obtain rfl:=C_len gp2
 have HS:=Hp.start w
 have H:=Aside0.mk h
 clear h
 unfold spec_StoreOk.f at H
 go_enter Tryz.func127,Tryz.ntmps127
 replace H:=zif H;rcases H with⟨c3,H⟩|⟨c3,H⟩
 ·
  obtain rfl:=zsome H
  go_wp2_with ((with_reducible refine gd 1 rfl ?_);refine ev_bx HS ?_;clear HS;intro g1 w1 HS F)
  go_ret
  exact HS.pk
 replace H:=zif H;rcases H with⟨c4,H⟩|⟨c4,H⟩
 ·
  obtain rfl:=zsome H
  go_wp2_with ((with_reducible refine gd 1 rfl ?_);refine ev_bx HS ?_;clear HS;intro g1 w1 HS F)
  go_ret
  exact HS.pk
 go_upto_if 28 with((with_reducible refine gd 1 rfl ?_);refine ev_bx HS ?_;clear HS;intro g1 w1 HS F)
 replace H:=zif H;rcases H with⟨c5,H⟩|⟨c5,H⟩
 ·
  (try simp only [c5,dcn])
  obtain rfl:=zsome H
  go_wp2
  go_ret
  exact HS.pk
 (try simp only [c5,dcn])
 go_wp2_with ((with_reducible refine gd 29 rfl ?_);refine ev_li Zd.string [] ([]:List ByteArray) [] HS MadeL.nil ?_;clear HS;intro v6 w6 HS F;obtain⟨B6,d6,rfl,m6⟩:=HS.formn 0 1 rfl rfl)
 go_loopg [3,4] k (fun kq v_3 v_4 w'=>∃(l22:List ByteArray) (v23:Value) (x24:Int),v_3=v23∧v_4=.int .i64 x24∧Aside0 (spec_StoreOk.l0 kq l22 x24 a0=some r)∧Aside0 (kq≤k)∧Hp noFP w w' [.box g1 [.slice Ap0 a0.f0.length cp0,.slice Ap1 a0.f1.length cp1,.slice Ap2 a0.f2.length cp2] 48,.own (Zd.slice 9 Zd.string) l22 [v23]])
 case atStart=>exact⟨_,_,_,rfl,rfl,H,⟨Nat.le_refl _⟩,HS⟩
 case round=>
  clear HS H;(try clear F)
  obtain⟨l22,v23,x24,rfl,rfl,H,HKk21,HS⟩:=hrel
  obtain⟨B23,d23,rfl,m23⟩:=HS.form 1 rfl
  have F:=HS.bx
  cases gk with
  |zero=>exact absurd H.out (by simp [spec_StoreOk.l0])
  | succ k21=>
   simp only [spec_StoreOk.l0] at H
   replace H:=zif H;rcases H with⟨c26,H⟩|⟨c26,H⟩
   ·
    replace H:=zgo H;obtain⟨c27,H⟩:=H
    replace H:=zgo H;obtain⟨c28,H⟩:=H
    obtain⟨ad29,B29_9,d29_9,B29_10,d29_10,B29_11,d29_11,rfl,e29_0,e29_1,e29_2,e29_3,e29_4,e29_5,e29_6,e29_7,e29_8,e29_9,e29_10,e29_11,e29_12,m29_9,y29_9,m29_10,y29_10,m29_11,y29_11⟩:=at_T125 gp0 x24 (of_eq_true c27) (of_eq_true c28)
    have e29_0_29:=HS.keepc e29_0
    have e29_1_29:=HS.keepc e29_1
    have e29_2_29:=HS.keepc e29_2
    have e29_3_29:=HS.keepc e29_3
    have e29_4_29:=HS.keepc e29_4
    have e29_5_29:=HS.keepc e29_5
    have e29_6_29:=HS.keepc e29_6
    have e29_7_29:=HS.keepc e29_7
    have e29_8_29:=HS.keepc e29_8
    have e29_9_29:=HS.keepc e29_9
    have e29_10_29:=HS.keepc e29_10
    have e29_11_29:=HS.keepc e29_11
    have e29_12_29:=HS.keepc e29_12
    replace H:=zbind H;obtain⟨t30,ht30,H⟩:=H
    replace H:=znifb H;rcases H with⟨c32,H⟩|⟨c32,H⟩
    ·
     obtain rfl:=zsome H
     go_wp2_with ((with_reducible refine gd 43 rfl ?_);refine ev_cl HS (spec_CertText.calls ht30.out (HS.ro y29_9) m29_9 (HS.ro y29_10) m29_10 (HS.ro y29_11) m29_11) Tryz.func99 ?_;clear HS;intro wt30 HS F;(try simp only [c32]))
     go_ret
     exact HS.pk
    replace H:=zbind H;obtain⟨t33,ht33,H⟩:=H
    go_upto_if 52 with(first|((with_reducible refine gd 43 rfl ?_);refine ev_cl HS (spec_CertText.calls ht30.out (HS.ro y29_9) m29_9 (HS.ro y29_10) m29_10 (HS.ro y29_11) m29_11) Tryz.func99 ?_;clear HS;intro wt30 HS F;(try simp only [c32]))|((with_reducible refine gd 51 rfl ?_);refine gg ?_;refine ev_cl HS (spec_l13In.calls ht33.out (HS.rd 1 rfl) m23) Tryz.func141 ?_;clear HS;intro wt33 HS F))
    replace H:=zifb H;rcases H with⟨c35,H⟩|⟨c35,H⟩
    ·
     subst c35
     (try simp only [dcn,dcu,dcf])
     obtain rfl:=zsome H
     go_wp2
     go_ret
     exact HS.pk
    subst c35
    (try simp only [dcn,dcu,dcf])
    replace H:=zgo H;obtain⟨c38,H⟩:=H
    replace H:=zlets H;obtain⟨y39,e_y39,H⟩:=H
    go_wp2_with (first|((with_reducible refine gd 55 rfl ?_);refine ev_li Zd.string [] ([t30.1]:List ByteArray) ([.string t30.1]++ []) HS (MadeL.cons (js1:=[]) (c:=[.string t30.1]) rfl (made_flat (fun _=>rfl)) MadeL.nil (by decide)) ?_;clear HS;intro v36 w36 HS F;obtain⟨B36,d36,rfl,m36⟩:=HS.formn 1 2 rfl rfl)|((with_reducible refine gd 56 rfl ?_);refine ev_ap Zd.string 1 2 HS rfl rfl Tryz.underlying24 info9 (of_eq_true c38) ?_;clear HS;intro v39 w39 HS;rw [←e_y39.out] at HS;obtain⟨B39,d39,rfl,m39⟩:=HS.form 3 rfl;(try simp only [hpn,hpm] at HS);have F:=HS.bx))
    go_roundg k21
    case measure=>have:=HKk21.out;omega
    case rel=>exact⟨_,_,_,rfl,rfl,H,⟨by have:=HKk21.out;omega⟩,HS.pi [0,3]⟩
   go_wp2_with ((with_reducible refine gd 57 rfl ?_);refine ev_li Zd.string [] ([]:List ByteArray) [] HS MadeL.nil ?_;clear HS;intro v41 w41 HS F;obtain⟨B41,d41,rfl,m41⟩:=HS.formn 0 2 rfl rfl)
   (try obtain⟨wok56,rfl⟩:∃wo_:World,wo_=wr:=⟨_,rfl⟩)
   go_loopg [7,8] k21 (fun kq v_7 v_8 w'=>∃(l57:List ByteArray) (v58:Value) (x59:Int),v_7=v58∧v_8=.int .i64 x59∧Aside0 (spec_StoreOk.l1 kq l57 x59 a0=some r)∧Aside0 (kq≤k21)∧Hp noFP w w' [.box g1 [.slice Ap0 a0.f0.length cp0,.slice Ap1 a0.f1.length cp1,.slice Ap2 a0.f2.length cp2] 48,.own (Zd.slice 9 Zd.string) l22 [.slice B23 l22.length d23],.own (Zd.slice 9 Zd.string) l57 [v58]])
   case atStart=>exact⟨_,_,_,rfl,rfl,H,⟨Nat.le_refl _⟩,HS⟩
   case round=>
    clear HS H;(try clear F)
    obtain⟨l57,v58,x59,rfl,rfl,H,HKk56,HS⟩:=hrel
    obtain⟨B58,d58,rfl,m58⟩:=HS.form 2 rfl
    have F:=HS.bx
    cases gk with
    |zero=>exact absurd H.out (by simp [spec_StoreOk.l1])
    | succ k56=>
     simp only [spec_StoreOk.l1] at H
     replace H:=zif H;rcases H with⟨c61,H⟩|⟨c61,H⟩
     ·
      replace H:=zgo H;obtain⟨c62,H⟩:=H
      replace H:=zgo H;obtain⟨c63,H⟩:=H
      obtain⟨ad64,B64_5,d64_5,rfl,e64_0,e64_1,e64_2,e64_3,e64_4,e64_5,e64_6,m64_5,y64_5⟩:=at_T103 gp1 x59 (of_eq_true c62) (of_eq_true c63)
      have e64_0_64:=HS.keepc e64_0
      have e64_1_64:=HS.keepc e64_1
      have e64_2_64:=HS.keepc e64_2
      have e64_3_64:=HS.keepc e64_3
      have e64_4_64:=HS.keepc e64_4
      have e64_5_64:=HS.keepc e64_5
      have e64_6_64:=HS.keepc e64_6
      replace H:=zbind H;obtain⟨t65,ht65,H⟩:=H
      replace H:=znifb H;rcases H with⟨c67,H⟩|⟨c67,H⟩
      ·
       obtain rfl:=zsome H
       go_wp2_with ((with_reducible refine gd 71 rfl ?_);refine ev_cl HS (spec_CrlText.calls ht65.out (HS.ro y64_5) m64_5) Tryz.func142 ?_;clear HS;intro wt65 HS F;(try simp only [c67]))
       go_ret
       exact HS.pk
      replace H:=zbind H;obtain⟨t68,ht68,H⟩:=H
      go_upto_if 80 with(first|((with_reducible refine gd 71 rfl ?_);refine ev_cl HS (spec_CrlText.calls ht65.out (HS.ro y64_5) m64_5) Tryz.func142 ?_;clear HS;intro wt65 HS F;(try simp only [c67]))|((with_reducible refine gd 79 rfl ?_);refine gg ?_;refine ev_cl HS (spec_l13In.calls ht68.out (HS.rd 2 rfl) m58) Tryz.func141 ?_;clear HS;intro wt68 HS F))
      replace H:=zifb H;rcases H with⟨c70,H⟩|⟨c70,H⟩
      ·
       subst c70
       (try simp only [dcn,dcu,dcf])
       obtain rfl:=zsome H
       go_wp2
       go_ret
       exact HS.pk
      subst c70
      (try simp only [dcn,dcu,dcf])
      replace H:=zgo H;obtain⟨c73,H⟩:=H
      replace H:=zlets H;obtain⟨y74,e_y74,H⟩:=H
      go_wp2_with (first|((with_reducible refine gd 83 rfl ?_);refine ev_li Zd.string [] ([t65.1]:List ByteArray) ([.string t65.1]++ []) HS (MadeL.cons (js1:=[]) (c:=[.string t65.1]) rfl (made_flat (fun _=>rfl)) MadeL.nil (by decide)) ?_;clear HS;intro v71 w71 HS F;obtain⟨B71,d71,rfl,m71⟩:=HS.formn 1 3 rfl rfl)|((with_reducible refine gd 84 rfl ?_);refine ev_ap Zd.string 2 3 HS rfl rfl Tryz.underlying24 info9 (of_eq_true c73) ?_;clear HS;intro v74 w74 HS;rw [←e_y74.out] at HS;obtain⟨B74,d74,rfl,m74⟩:=HS.form 4 rfl;(try simp only [hpn,hpm] at HS);have F:=HS.bx))
      go_roundg k56
      case measure=>have:=HKk21.out;have:=HKk56.out;omega
      case rel=>exact⟨_,_,_,rfl,rfl,H,⟨by have:=HKk21.out;have:=HKk56.out;omega⟩,HS.pi [0,1,4]⟩
     go_wp2
     (try obtain⟨wok78,rfl⟩:∃wo_:World,wo_=wr:=⟨_,rfl⟩)
     go_loopg [11] k56 (fun kq v_11 w'=>∃(x79:Int),v_11=.int .i64 x79∧Aside0 (spec_StoreOk.l2 kq x79 a0=some r)∧Aside0 (kq≤k56)∧Hp noFP w w' [.box g1 [.slice Ap0 a0.f0.length cp0,.slice Ap1 a0.f1.length cp1,.slice Ap2 a0.f2.length cp2] 48,.own (Zd.slice 9 Zd.string) l22 [.slice B23 l22.length d23],.own (Zd.slice 9 Zd.string) l57 [.slice B58 l57.length d58]])
     case atStart=>exact⟨_,rfl,H,⟨Nat.le_refl _⟩,HS⟩
     case round=>
      clear HS H;(try clear F)
      obtain⟨x79,rfl,H,HKk78,HS⟩:=hrel
      have F:=HS.bx
      cases gk with
      |zero=>exact absurd H.out (by simp [spec_StoreOk.l2])
      | succ k78=>
       simp only [spec_StoreOk.l2] at H
       replace H:=znif H;rcases H with⟨c81,H⟩|⟨c81,H⟩
       ·
        obtain rfl:=zsome H
        go_wp2
        go_ret
        exact HS.pk
       replace H:=zgo H;obtain⟨c82,H⟩:=H
       replace H:=zgo H;obtain⟨c83,H⟩:=H
       obtain⟨ad84,rfl,e84_0,e84_1⟩:=at_T105 gp2 x79 (of_eq_true c82) (of_eq_true c83)
       have e84_0_84:=HS.keepc e84_0
       have e84_1_84:=HS.keepc e84_1
       replace H:=zbind H;obtain⟨t85,ht85,H⟩:=H
       go_upto_if 98 with((with_reducible refine gd 97 rfl ?_);refine ev_cl HS (spec_l13Anchor.calls ht85.out) Tryz.func143 ?_;clear HS;intro wt85 HS F)
       replace H:=znifb H;rcases H with⟨c87,H⟩|⟨c87,H⟩
       ·
        subst c87
        (try simp only [dcn,dcu,dcf])
        obtain rfl:=zsome H
        go_wp2
        go_ret
        exact HS.pk
       subst c87
       (try simp only [dcn,dcu,dcf])
       go_wp2
       (try obtain⟨wok90,rfl⟩:∃wo_:World,wo_=wr:=⟨_,rfl⟩)
       go_loopg [12] k78 (fun kq v_12 w'=>∃(x91:Int),v_12=.int .i64 x91∧Aside0 (spec_StoreOk.l3 kq x91 a0 x79=some r)∧Aside0 (kq≤k78)∧Hp noFP w w' [.box g1 [.slice Ap0 a0.f0.length cp0,.slice Ap1 a0.f1.length cp1,.slice (some ad84) a0.f2.length cp2] 48,.own (Zd.slice 9 Zd.string) l22 [.slice B23 l22.length d23],.own (Zd.slice 9 Zd.string) l57 [.slice B58 l57.length d58]])
       case atStart=>exact⟨_,rfl,H,⟨Nat.le_refl _⟩,HS⟩
       case round=>
        clear HS H;(try clear F)
        obtain⟨x91,rfl,H,HKk90,HS⟩:=hrel
        have F:=HS.bx
        cases gk with
        |zero=>exact absurd H.out (by simp [spec_StoreOk.l3])
        | succ k90=>
         simp only [spec_StoreOk.l3] at H
         replace H:=znif H;rcases H with⟨c93,H⟩|⟨c93,H⟩
         ·
          go_wp2
          go_roundg k90
          case measure=>have:=HKk21.out;have:=HKk56.out;have:=HKk78.out;have:=HKk90.out;omega
          case rel=>exact⟨_,rfl,H,⟨by have:=HKk21.out;have:=HKk56.out;have:=HKk78.out;have:=HKk90.out;omega⟩,HS.pi [0,1,2]⟩
         (try go_wp2)
         replace H:=zgo H;obtain⟨c10,H⟩:=H
         replace H:=zgo H;obtain⟨c13,H⟩:=H
         obtain⟨ad14,hq14,e14_0,e14_1⟩:=at_T105 gp2 x91 (of_eq_true c10) (of_eq_true c13);obtain rfl:=Option.some.inj hq14
         obtain⟨ad15,hq15,e15_0,e15_1⟩:=at_T105 gp2 x79 (of_eq_true c82) (of_eq_true c83);obtain rfl:=Option.some.inj hq15
         refine dr_start [] HS #[false,false,false,false,false,false,false,false,false,false,false,false,false] (by kernel_rfl) rfl rfl spec_StoreOk.tT27 (fun w95 HT HS HH=>?_)
         (try clear F)
         refine dqt [0,1,2,3,4] HT HH ?_
         refine dtk 5 109 HT HH rfl (by rintro w' ⟨rs',HS'⟩;have e14_0:=HS'.keepc e14_0;have e14_1:=HS'.keepc e14_1;go_simp;with_reducible rfl) ?_
         refine dqt [6,7,8,9,10] HT HH ?_
         refine dtk 11 115 HT HH rfl (by rintro w' ⟨rs',HS'⟩;have e15_0:=HS'.keepc e15_0;have e15_1:=HS'.keepc e15_1;go_simp;with_reducible rfl) ?_
         refine dq [12] HT ?_
         refine dn HT ?_
         (try clear F)
         have F:=HS.bx
         replace H:=zif' H;rcases H with⟨c97,H⟩|⟨c97,H⟩
         ·
          obtain⟨c97a,c97b⟩:=bq c97;clear c97
          (try simp only [c97a,c97b,dcn])
          obtain rfl:=zsome H
          go_wp2
          go_ret
          exact HS.pk
         obtain⟨c97a,c97b⟩:=nq c97;clear c97
         (try simp only [c97a,c97b,dcn])
         go_wp2
         go_roundg k90
         case measure=>have:=HKk21.out;have:=HKk56.out;have:=HKk78.out;have:=HKk90.out;omega
         case rel=>exact⟨_,rfl,H,⟨by have:=HKk21.out;have:=HKk56.out;have:=HKk78.out;have:=HKk90.out;omega⟩,HS.pi [0,1,2]⟩
def spec_AddCert.f (k:Nat)(a0:S48)(a1:S125):Option (S48×Bool):=((spec_l13Copy.f k a0).bind fun t7=>((spec_l09Copy.f a1).bind fun t13=>(if t7.f0.length+1≤764877654105 then(lets (t7.f0++([t13]:List S125)) fun y28=>((spec_StoreOk.f k (⟨y28,t7.f1,t7.f2⟩:S48)).bind fun t19=>(if t19=true then(some ((⟨y28,t7.f1,t7.f2⟩:S48),true))else((spec_l13Copy.f k a0).bind fun t24=>(some ((⟨t24.f0,t24.f1,t24.f2⟩:S48),false))))))else none)))
def spec_AddCert.T2:TT:=(true,[([],[]),([0],[0]),([],[]),([2],[2]),([3],[3]),([1,4,3],[1,4]),([0,1,2,3,4,5],[]),([6,5,5,0,1,2,3,4,5],[5,6])])
theorem spec_AddCert.tT2:rtab .any (opsOf Tryz.f109 2)=spec_AddCert.T2:=by kernel_rfl
theorem spec_AddCert.calls {k:Nat}{a0:S48}{a1:S125}{Ap0 Ap1 Ap2 Ap3 Ap4 Ap5:Option Addr}{np0 cp0 np1 cp1 np2 cp2 np3 cp3 np4 cp4 np5 cp5:Nat}{r1:S48}{r2:Bool}{w:World}(h:spec_AddCert.f k a0 a1=some (r1,r2))(gp0:k125.C w Ap0 np0 a0.f0)(lp0:np0≤cp0)(gp1:k103.C w Ap1 np1 a0.f1)(lp1:np1≤cp1)(gp2:k105.C w Ap2 np2 a0.f2)(lp2:np2≤cp2)(gp3:(Kd.int .i64).C w Ap3 np3 a1.f9)(lp3:np3≤cp3)(gp4:Kd.string.C w Ap4 np4 a1.f10)(lp4:np4≤cp4)(gp5:Kd.string.C w Ap5 np5 a1.f11)(lp5:np5≤cp5):
    Calls Tryz.prog 109 #[.agg #[.slice Ap0 np0 cp0,.slice Ap1 np1 cp1,.slice Ap2 np2 cp2],.agg #[.int .i64 a1.f0,.string a1.f1,.string a1.f2,.int .i64 a1.f3,.int .i64 a1.f4,.string a1.f5,.bool a1.f6,.int .i64 a1.f7,.int .i64 a1.f8,.slice Ap3 np3 cp3,.slice Ap4 np4 cp4,.slice Ap5 np5 cp5,.string a1.f12]] w (fun e w'=>∃v0_ v1_ v2_:Value,e=.returned (.tuple #[.agg #[v0_,v1_,v2_],.bool r2])∧Hp noFP w w' [.own (Zd.slice 125 q125) r1.f0 [v0_],.own (Zd.slice 103 q103) r1.f1 [v1_],.own (Zd.slice 105 q105) r1.f2 [v2_]]):=by
 obtain rfl:=C_len gp0
 obtain rfl:=C_len gp1
 obtain rfl:=C_len gp2
 obtain rfl:=C_len gp3
 obtain rfl:=C_len gp4
 obtain rfl:=C_len gp5
 have HS:=Hp.start w
 have H:=Aside0.mk h
 clear h
 unfold spec_AddCert.f at H
 go_enter Tryz.func109,Tryz.ntmps109
 replace H:=zbind H;obtain⟨t7,ht7,H⟩:=H
 go_wp2_with (first|((with_reducible refine gd 2 rfl ?_);refine ev_bx HS ?_;clear HS;intro g2 w2 HS F)|((with_reducible refine gd 3 rfl ?_);refine ev_bx HS ?_;clear HS;intro g3 w3 HS F)|((with_reducible refine gd 4 rfl ?_);refine ev_bx HS ?_;clear HS;intro g4 w4 HS F)|((with_reducible refine gd 8 rfl ?_);refine ev_cl3 HS (spec_l13Copy.calls ht7.out (HS.ro gp0) lp0 (HS.ro gp1) lp1 (HS.ro gp2) lp2) Tryz.func66 ?_;clear HS;intro v8 v9 v10 wt7 HS F;obtain⟨B8,d8,rfl,m8⟩:=HS.form 3 rfl;obtain⟨B9,d9,rfl,m9⟩:=HS.form 4 rfl;obtain⟨B10,d10,rfl,m10⟩:=HS.form 5 rfl)|((with_reducible refine gd 6 rfl ?_);refine ev_bx HS ?_;clear HS;intro g6 w6 HS F)|((with_reducible refine gate_store (p:=6) rfl ?_);refine ev_st 6 0 HS (seg:=[.slice B8 t7.f0.length d8,.slice B9 t7.f1.length d9,.slice B10 t7.f2.length d10]) ?_;clear HS;intro w14 HS F))
 replace H:=zbind H;obtain⟨t13,ht13,H⟩:=H
 replace H:=zgo H;obtain⟨c23,H⟩:=H
 replace H:=zlets H;obtain⟨y28,e_y28,H⟩:=H
 refine dr_start2 [.box g2 [.slice Ap0 a0.f0.length cp0,.slice Ap1 a0.f1.length cp1,.slice Ap2 a0.f2.length cp2] 48,.box g3 [.int .i64 a1.f0,.string a1.f1,.string a1.f2,.int .i64 a1.f3,.int .i64 a1.f4,.string a1.f5,.bool a1.f6,.int .i64 a1.f7,.int .i64 a1.f8,.slice Ap3 a1.f9.length cp3,.slice Ap4 a1.f10.length cp4,.slice Ap5 a1.f11.length cp5,.string a1.f12] 125,.box g4 [.slice none 0 0,.slice none 0 0,.slice none 0 0] 48,.emp,.own (Zd.slice 103 q103) t7.f1 [.slice B9 t7.f1.length d9],.own (Zd.slice 105 q105) t7.f2 [.slice B10 t7.f2.length d10],.box g6 [.slice B8 t7.f0.length d8,.slice B9 t7.f1.length d9,.slice B10 t7.f2.length d10] 48] [7] HS (HS.ar [some 0,some 1,some 2,none,some 4,some 5,some 6]) #[false,false,false,false,false,false,false,false] (by kernel_rfl) rfl rfl spec_AddCert.tT2 (fun w17 HT HS HH=>?_)
 (try clear F)
 refine dqt [0,1,2] HT HH ?_
 refine dr1 3 HT fun K hK=>?_
 refine go_cl3 HS (spec_l09Copy.calls ht13.out (HS.ro gp3) lp3 (HS.ro gp4) lp4 (HS.ro gp5) lp5) Tryz.func113 ?_;clear HS;intro v15 v16 v18 wt13 HS F;obtain⟨B15,d15,rfl,m15⟩:=HS.form 7 rfl;obtain⟨B16,d16,rfl,m16⟩:=HS.form 8 rfl;obtain⟨B18,d18,rfl,m18⟩:=HS.form 9 rfl
 refine nra 12 hK (HS.ar [some 0,some 1,some 2,none,some 4,some 5,some 6]) fun HH=>?_;clear hK K
 refine dr1 4 HT fun K hK=>?_
 refine if_li q125 [7,8,9] ([t13]:List S125) ([.int .i64 t13.f0,.string t13.f1,.string t13.f2,.int .i64 t13.f3,.int .i64 t13.f4,.string t13.f5,.bool t13.f6,.int .i64 t13.f7,.int .i64 t13.f8,.slice B15 t13.f9.length d15,.slice B16 t13.f10.length d16,.slice B18 t13.f11.length d18,.string t13.f12]++ []) HS (MadeL.cons (js1:=[7,8,9]) (c:=[.int .i64 t13.f0,.string t13.f1,.string t13.f2,.int .i64 t13.f3,.int .i64 t13.f4,.string t13.f5,.bool t13.f6,.int .i64 t13.f7,.int .i64 t13.f8,.slice B15 t13.f9.length d15,.slice B16 t13.f10.length d16,.slice B18 t13.f11.length d18,.string t13.f12]) rfl (fun S hd hh=>q125_pack (x:=t13) hd (hh 7 (.own (Zd.slice 3 (Zd.int .i64)) t13.f9 [.slice B15 t13.f9.length d15]) rfl) (hh 8 (.own (Zd.slice 9 Zd.string) t13.f10 [.slice B16 t13.f10.length d16]) rfl) (hh 9 (.own (Zd.slice 9 Zd.string) t13.f11 [.slice B18 t13.f11.length d18]) rfl) (by decide)) MadeL.nil (by decide)) ?_;clear HS;intro v20 w20 HS F;obtain⟨B20,d20,rfl,m20⟩:=HS.formn 1 10 rfl rfl
 refine nra 13 hK (HS.ar [some 0,some 1,some 2,none,some 4,some 5,some 6]) fun HH=>?_;clear hK K
 refine dr1 5 HT fun K hK=>?_
 refine wp_ap q125 3 10 HS rfl rfl Tryz.underlying44 info125 (of_eq_true c23) ?_;clear HS;intro v28 w28 HS;rw [←e_y28.out] at HS;obtain⟨B28,d28,rfl,m28⟩:=HS.form 11 rfl
 (try simp only [hpn,hpm] at HS)
 have F:=HS.bx
 refine nra 14 hK (HS.ar [some 0,some 1,some 2,none,some 4,some 5,some 6]) fun HH=>?_;clear hK K
 refine dq [6] HT ?_
 refine dl 7 HT fun K hK=>?_
 refine if_st 6 0 HS (seg:=[.slice B28 y28.length d28]) ?_;clear HS;intro w30 HS F
 refine hK.out _ _ ?_
 clear hK K
 refine dn HT ?_
 (try clear F)
 have F:=HS.bx
 replace H:=zbind H;obtain⟨t19,ht19,H⟩:=H
 go_upto_if 18 with((with_reducible refine gd 17 rfl ?_);refine ev_cl HS (spec_StoreOk.calls ht19.out (HS.rd 11 rfl) m28 (HS.rd 4 rfl) m9 (HS.rd 5 rfl) m10) Tryz.func127 ?_;clear HS;intro wt19 HS F)
 replace H:=zifb H;rcases H with⟨c21,H⟩|⟨c21,H⟩
 ·
  subst c21
  (try simp only [dcn,dcu,dcf])
  obtain⟨rfl,rfl⟩:=zsome2 H
  go_wp2_with ((with_reducible refine gate_store (p:=4) rfl ?_);refine ev_st 2 0 HS (seg:=[.slice B28 y28.length d28,.slice B9 t7.f1.length d9,.slice B10 t7.f2.length d10]) ?_;clear HS;intro w22 HS F)
  exact rl rfl (.cell _ _ _ _ _ rfl (HS.boxAt (i:=2) rfl) Tryz.underlying48 rfl (by kernel_rfl) (.tmp .nil)) ⟨_,_,_,rfl,HS.pi [11,4,5]⟩
 subst c21
 (try simp only [dcn,dcu,dcf])
 replace H:=zbind H;obtain⟨t24,ht24,H⟩:=H
 obtain⟨rfl,rfl⟩:=zsome2 H
 go_wp2_with (first|((with_reducible refine gd 20 rfl ?_);refine ev_cl3 HS (spec_l13Copy.calls ht24.out (HS.ro gp0) lp0 (HS.ro gp1) lp1 (HS.ro gp2) lp2) Tryz.func66 ?_;clear HS;intro v25 v26 v27 wt24 HS F;obtain⟨B25,d25,rfl,m25⟩:=HS.form 12 rfl;obtain⟨B26,d26,rfl,m26⟩:=HS.form 13 rfl;obtain⟨B27,d27,rfl,m27⟩:=HS.form 14 rfl)|((with_reducible refine gate_store (p:=4) rfl ?_);refine ev_st 2 0 HS (seg:=[.slice B25 t24.f0.length d25,.slice B26 t24.f1.length d26,.slice B27 t24.f2.length d27]) ?_;clear HS;intro w29 HS F))
 exact rl rfl (.cell _ _ _ _ _ rfl (HS.boxAt (i:=2) rfl) Tryz.underlying48 rfl (by kernel_rfl) (.tmp .nil)) ⟨_,_,_,rfl,HS.pi [12,13,14]⟩
def spec_CrlBody.f (k:Nat)(a0:S103):Option (ByteArray):=((spec_l10Item.f k a0).bind fun t3=>((spec_ItemText.f k t3).bind fun t6=>(some t6.1)))
theorem spec_CrlBody.calls {k:Nat}{a0:S103}{Ap0:Option Addr}{np0 cp0:Nat}{r:ByteArray}{w:World}(h:spec_CrlBody.f k a0=some r)(gp0:k133.C w Ap0 np0 a0.f5)(lp0:np0≤cp0):
    Calls Tryz.prog 146 #[.agg #[.string a0.f0,.int .i64 a0.f1,.int .i64 a0.f2,.int .i64 a0.f3,.int .i64 a0.f4,.slice Ap0 np0 cp0,.string a0.f6]] w (fun e w'=>e=.returned (.string r)∧Hp noFP w w' []):=by
 obtain rfl:=C_len gp0
 have HS:=Hp.start w
 have H:=Aside0.mk h
 clear h
 unfold spec_CrlBody.f at H
 go_enter Tryz.func146,Tryz.ntmps146
 replace H:=zbind H;obtain⟨t3,ht3,H⟩:=H
 replace H:=zbind H;obtain⟨t6,ht6,H⟩:=H
 obtain rfl:=zsome H
 go_wp2_with (first|((with_reducible refine gd 1 rfl ?_);refine ev_bx HS ?_;clear HS;intro g1 w1 HS F)|((with_reducible refine gd 7 rfl ?_);refine ev_cl1 HS (spec_l10Item.calls ht3.out (HS.ro gp0) lp0) Tryz.func156 ?_;clear HS;intro v4 wt3 HS F;obtain⟨B4,d4,rfl,m4⟩:=HS.form 1 rfl)|((with_reducible refine gd 8 rfl ?_);refine ev_cl HS (spec_ItemText.calls ht6.out (HS.rd 1 rfl) m4) Tryz.func36 ?_;clear HS;intro wt6 HS F))
 go_ret
 exact HS.pk
def spec_SignedCrl.f (k:Nat)(a0:S103)(a1:Int):Option (S103):=((spec_l10Copy.f a0).bind fun t5=>((spec_CrlBody.f k a0).bind fun t12=>((spec_SignWith.f k a1 t12).bind fun t14=>(some (⟨t5.f0,t5.f1,t5.f2,t5.f3,t5.f4,t5.f5,t14⟩:S103)))))
theorem spec_SignedCrl.calls {k:Nat}{a0:S103}{a1:Int}{Ap0:Option Addr}{np0 cp0:Nat}{r:S103}{w:World}(h:spec_SignedCrl.f k a0 a1=some r)(gp0:k133.C w Ap0 np0 a0.f5)(lp0:np0≤cp0):
    Calls Tryz.prog 131 #[.agg #[.string a0.f0,.int .i64 a0.f1,.int .i64 a0.f2,.int .i64 a0.f3,.int .i64 a0.f4,.slice Ap0 np0 cp0,.string a0.f6],.int .i64 a1] w (fun e w'=>∃v0_:Value,e=.returned (.agg #[.string r.f0,.int .i64 r.f1,.int .i64 r.f2,.int .i64 r.f3,.int .i64 r.f4,v0_,.string r.f6])∧Hp noFP w w' [.own (Zd.slice 133 q133) r.f5 [v0_]]):=by
 obtain rfl:=C_len gp0
 have HS:=Hp.start w
 have H:=Aside0.mk h
 clear h
 unfold spec_SignedCrl.f at H
 go_enter Tryz.func131,Tryz.ntmps131
 replace H:=zbind H;obtain⟨t5,ht5,H⟩:=H
 replace H:=zbind H;obtain⟨t12,ht12,H⟩:=H
 replace H:=zbind H;obtain⟨t14,ht14,H⟩:=H
 obtain rfl:=zsome H
 go_wp2_with (first|((with_reducible refine gd 2 rfl ?_);refine ev_bx HS ?_;clear HS;intro g2 w2 HS F)|((with_reducible refine gd 4 rfl ?_);refine ev_bx HS ?_;clear HS;intro g4 w4 HS F)|((with_reducible refine gd 7 rfl ?_);refine ev_cl1 HS (spec_l10Copy.calls ht5.out (HS.ro gp0) lp0) Tryz.func96 ?_;clear HS;intro v6 wt5 HS F;obtain⟨B6,d6,rfl,m6⟩:=HS.form 2 rfl)|((with_reducible refine gd 5 rfl ?_);refine ev_bx HS ?_;clear HS;intro g5 w5 HS F)|((with_reducible refine gate_store (p:=5) rfl ?_);refine ev_st 3 0 HS (seg:=[.string t5.f0,.int .i64 t5.f1,.int .i64 t5.f2,.int .i64 t5.f3,.int .i64 t5.f4,.slice B6 t5.f5.length d6,.string t5.f6]) ?_;clear HS;intro w10 HS F)|((with_reducible refine gd 10 rfl ?_);refine ev_cl HS (spec_CrlBody.calls ht12.out (HS.ro gp0) lp0) Tryz.func146 ?_;clear HS;intro wt12 HS F)|((with_reducible refine gd 11 rfl ?_);refine ev_cl HS (spec_SignWith.calls ht14.out) Tryz.func144 ?_;clear HS;intro wt14 HS F)|((with_reducible refine gate_store (p:=12) rfl ?_);refine ev_st 3 6 HS (seg:=[.string t14]) ?_;clear HS;intro w16 HS F)|((with_reducible refine gate_store (p:=4) rfl ?_);refine ev_st 1 0 HS (seg:=[.string t5.f0,.int .i64 t5.f1,.int .i64 t5.f2,.int .i64 t5.f3,.int .i64 t5.f4,.slice B6 t5.f5.length d6,.string t14]) ?_;clear HS;intro w18 HS F))
 exact rc 1 HS Tryz.underlying103 ⟨_,rfl,HS.pi [2]⟩
end Go.Proofs.YtfcpjeeeddjakaaGreat.F

/- Functions of the program and of the law, and that their calls do what is written here. -/
import Derived.Test.YtfcpjeeeddjakaaGreatZgFnPlansd
import Derived.Test.YtfcpjeeeddjakaaGreatZgFnPlansh
import Derived.Test.YtfcpjeeeddjakaaGreatZgFnPlansi
namespace Go.Proofs.YtfcpjeeeddjakaaGreat.F
open Go.RowKit YtfcpjeeeddjakaaGreatW.PrintWords YtfcpjeeeddjakaaGreatW.PrintLast YtfcpjeeeddjakaaGreatW.PrintMore Z
attribute [local go_sem] max2_int min2_int max_two min_two max_three min_three max_four min_four
set_option linter.unusedVariables false
set_option linter.unusedSimpArgs false
set_option maxRecDepth 100000
set_option maxHeartbeats 16000000
def laws_FnPlans.f (k:Nat)(a0:(List Int)):Option (Bool):=((laws_big.f a0).bind fun t1=>(if t1=true then(some true)else((spec_DrawMerged.f k a0).bind fun t4=>((impl_Merged.f t4.1 t4.2.1 t4.2.2).bind fun t17=>((spec_DrawPlansOk.f k a0).bind fun t24=>((spec_DrawPlanAt.f k a0).bind fun t34=>((spec_DrawTrusting.f k a0).bind fun t37=>(if t4.2.1.f4=0 then(if t17.f0=t4.2.2 then((laws_sameInts.f k t17.f1 t4.1.f2.f1).bind fun t10=>(if t10=true then(if t17.f2=t4.1.f2.f2 then(if t17.f3=t4.1.f2.f3 then(if t17.f4=t4.1.f2.f4 then((impl_PlansOk.f k t24.1 t24.2).bind fun t33=>((spec_PlansOk.f k t24.1 t24.2).bind fun t36=>(if t33=t36 then((impl_PlanAt.f k t34.1 t34.2).bind fun t44=>((spec_PlanAt.f k t34.1 t34.2).bind fun t45=>(if t44=t45 then((impl_Trusting.f k t37.1 t37.2).bind fun t47=>((spec_Trusting.f k t37.1 t37.2).bind fun t55=>((laws_sameStore.f k t47 t55).bind fun t63=>(some t63))))else(some false))))else(some false))))else(some false))else(some false))else(some false))else(some false)))else(some false))else(if t17.f0=t4.2.1.f4 then((laws_sameInts.f k t17.f1 t4.1.f2.f1).bind fun t67=>(if t67=true then(if t17.f2=t4.1.f2.f2 then(if t17.f3=t4.1.f2.f3 then(if t17.f4=t4.1.f2.f4 then((impl_PlansOk.f k t24.1 t24.2).bind fun t76=>((spec_PlansOk.f k t24.1 t24.2).bind fun t78=>(if t76=t78 then((impl_PlanAt.f k t34.1 t34.2).bind fun t82=>((spec_PlanAt.f k t34.1 t34.2).bind fun t84=>(if t82=t84 then((impl_Trusting.f k t37.1 t37.2).bind fun t87=>((spec_Trusting.f k t37.1 t37.2).bind fun t91=>((laws_sameStore.f k t87 t91).bind fun t95=>(some t95))))else(some false))))else(some false))))else(some false))else(some false))else(some false))else(some false)))else(some false))))))))))
def laws_FnPlans.T11:TT:=(true,[([],[]),([0],[0]),([],[]),([1,2],[1,2]),([3],[3]),([4],[4]),([5,4],[4,5]),([4],[4]),([7,4],[4,7]),([8,4],[4,8]),([6,9,4,4],[4,6,9]),([4,10],[4,10]),([11,10],[11]),([12],[12]),([13,12],[12,13]),([12],[12]),([15,12],[12,15]),([16,12],[12,16]),([14,17,12],[12,14,17]),([12,18],[12,18]),([19,12],[19]),([20],[20]),([21,20],[20,21]),([20],[20]),([23,20],[20,23]),([24,20],[20,24]),([22,25,20],[20,22,25]),([20,26],[20,26]),([27,20],[27]),([28],[28]),([29,28],[28,29]),([28],[28]),([31,28],[28,31]),([32,28],[28,32]),([30,33,28],[28,30,33]),([28,34],[28,34]),([35,28],[35]),([36],[36]),([36],[36]),([37,38,36,36],[36,37,38]),([36],[36]),([36],[36]),([40,41,39,36],[36,40,41]),([39,42,36],[36,39,42]),([36,43],[36,43]),([44,42],[44]),([45],[45]),([45],[45]),([46,47,45,45],[45,46,47]),([45],[45]),([45],[45]),([49,50,48,45],[45,49,50]),([48,51,45],[45,48,51]),([45,52],[45,52]),([53,51],[53]),([54],[54]),([54],[54]),([55,56,54,54],[54,55,56]),([54],[54]),([54],[54]),([58,59,57,54],[54,58,59]),([57,60,60,54],[54,57,60]),([54,61],[54,61]),([62,61,0,1,2,3,4,5,6,7,8,9,10,11,12,13,14,15,16,17,18,19,20,21,22,23,24,25,26,27,28,29,30,31,32,33,34,35,36,37,38,39,40,41,42,43,44,45,46,47,48,49,50,51,52,53,54,55,56,57,58,59,60,61,62],[62])])
theorem laws_FnPlans.tT11:rtab .any (opsOf Tryz.f4 11)=laws_FnPlans.T11:=by kernel_rfl
theorem laws_FnPlans.calls {k:Nat}{a0:(List Int)}{Ap0:Option Addr}{np0 cp0:Nat}{r:Bool}{w:World}(h:laws_FnPlans.f k a0=some r)(gp0:(Kd.int .u8).C w Ap0 np0 a0)(lp0:np0≤cp0):
    Calls Tryz.prog 4 #[.slice Ap0 np0 cp0] w (fun e w'=>e=.returned (.bool r)∧Hp noFP w w' []):=by
 obtain rfl:=C_len gp0
 have HS:=Hp.start w
 have H:=Aside0.mk h
 clear h
 unfold laws_FnPlans.f at H
 go_enter Tryz.func4,Tryz.ntmps4
 replace H:=zbind H;obtain⟨t1,ht1,H⟩:=H
 go_upto_if 15 with((with_reducible refine gd 15 rfl ?_);refine ev_cl HS (laws_big.calls ht1.out (HS.ro gp0) lp0) Tryz.func5 ?_;clear HS;intro wt1 HS F)
 replace H:=zifb H;rcases H with⟨c3,H⟩|⟨c3,H⟩
 ·
  subst c3
  (try simp only [dcn,dcu,dcf])
  obtain rfl:=zsome H
  go_wp2
  go_ret
  exact HS.pk
 subst c3
 (try simp only [dcn,dcu,dcf])
 replace H:=zbind H;obtain⟨t4,ht4,H⟩:=H
 replace H:=zbind H;obtain⟨t17,ht17,H⟩:=H
 replace H:=zbind H;obtain⟨t24,ht24,H⟩:=H
 replace H:=zbind H;obtain⟨t34,ht34,H⟩:=H
 replace H:=zbind H;obtain⟨t37,ht37,H⟩:=H
 go_upto_if 44 with(first|((with_reducible refine gd 18 rfl ?_);refine ev_cl3 HS (spec_DrawMerged.calls ht4.out (HS.ro gp0) lp0) Tryz.func15 ?_;clear HS;intro v5 v6 v7 wt4 HS F;obtain⟨B5,d5,rfl,m5⟩:=HS.form 0 rfl;obtain⟨B6,d6,rfl,m6⟩:=HS.form 1 rfl;obtain⟨B7,d7,rfl,m7⟩:=HS.form 2 rfl)|((with_reducible refine gd 3 rfl ?_);refine ev_bx HS ?_;clear HS;intro g3 w3 HS F)|((with_reducible refine gd 4 rfl ?_);refine ev_bx HS ?_;clear HS;intro g4 w4 HS F)|((with_reducible refine gate_store (p:=3) rfl ?_);refine ev_st 3 0 HS (seg:=[.int .i64 t4.1.f0,.slice B5 t4.1.f1.length d5,.int .i64 t4.1.f2.f0,.slice B6 t4.1.f2.f1.length d6,.bool t4.1.f2.f2,.bool t4.1.f2.f3,.int .i64 t4.1.f2.f4]) ?_;clear HS;intro w13 HS F)|((with_reducible refine gate_store (p:=4) rfl ?_);refine ev_st 4 0 HS (seg:=[.slice B7 t4.2.1.f0.length d7,.int .i64 t4.2.1.f1,.int .i64 t4.2.1.f2,.int .i64 t4.2.1.f3,.int .i64 t4.2.1.f4,.bool t4.2.1.f5]) ?_;clear HS;intro w15 HS F)|((with_reducible refine gd 25 rfl ?_);refine ev_cl1 HS (impl_Merged.calls ht17.out (HS.rd 0 rfl) m5 (HS.rd 1 rfl) m6 (HS.rd 2 rfl) m7) Tryz.func16 ?_;clear HS;intro v18 wt17 HS F;obtain⟨B18,d18,rfl,m18⟩:=HS.form 5 rfl)|((with_reducible refine gd 6 rfl ?_);refine ev_bx HS ?_;clear HS;intro g6 w6 HS F)|((with_reducible refine gate_store (p:=6) rfl ?_);refine ev_st 6 0 HS (seg:=[.int .i64 t17.f0,.slice B18 t17.f1.length d18,.bool t17.f2,.bool t17.f3,.int .i64 t17.f4]) ?_;clear HS;intro w22 HS F)|((with_reducible refine gd 28 rfl ?_);refine ev_call rfl Tryz.func17 (by kernel_rfl) rfl #[.slice Ap0 a0.length cp0] rfl (by simp only [mpn];rfl) ?_;refine(spec_DrawPlansOk.calls ht24.out (HS.ro gp0) lp0).mono ?_;rintro _ wt24 ⟨v25,v26,v27,v28,rfl,HQ⟩;refine⟨_,rfl,?_⟩;replace HS:=HS.call HQ;clear HQ;(try clear F);obtain⟨B25,d25,rfl,m25⟩:=HS.form 7 rfl;obtain⟨B26,d26,rfl,m26⟩:=HS.vform 8 rfl;obtain⟨B27,d27,rfl,m27⟩:=HS.form 9 rfl;obtain⟨B28,d28,rfl,m28⟩:=HS.form 10 rfl;(try simp only [hpn,hpm] at HS);have F:=HS.bx)|((with_reducible refine gd 8 rfl ?_);refine ev_bx HS ?_;clear HS;intro g8 w8 HS F)|((with_reducible refine gate_store (p:=8) rfl ?_);refine ev_st 11 0 HS (seg:=[.slice B26 t24.2.f0.length d26,.slice B27 t24.2.f1.length d27,.slice B28 t24.2.f2.length d28]) ?_;clear HS;intro w32 HS F)|((with_reducible refine gd 33 rfl ?_);refine ev_cl1 HS (spec_DrawPlanAt.calls ht34.out (HS.ro gp0) lp0) Tryz.func18 ?_;clear HS;intro v35 wt34 HS F;obtain⟨B35,d35,rfl,m35⟩:=HS.form 12 rfl)|((with_reducible refine gd 38 rfl ?_);refine ev_cl5 HS (spec_DrawTrusting.calls ht37.out (HS.ro gp0) lp0) Tryz.func19 ?_;clear HS;intro v38 v39 v40 v41 v42 wt37 HS F;obtain⟨B38,d38,rfl,m38⟩:=HS.vform 13 rfl;obtain⟨B39,d39,rfl,m39⟩:=HS.form 14 rfl;obtain⟨B40,d40,rfl,m40⟩:=HS.form 15 rfl;obtain⟨B41,d41,rfl,m41⟩:=HS.form 16 rfl;obtain⟨B42,d42,rfl,m42⟩:=HS.form 17 rfl;(try simp only [hpn,hpm] at HS);have F:=HS.bx)|((with_reducible refine gd 11 rfl ?_);refine ev_bx HS ?_;clear HS;intro g11 w11 HS F)|((with_reducible refine gd 12 rfl ?_);refine ev_bx HS ?_;clear HS;intro g12 w12 HS F)|((with_reducible refine gate_store (p:=11) rfl ?_);refine ev_st 18 0 HS (seg:=[.slice B38 t37.1.f0.length d38,.slice B39 t37.1.f1.length d39,.slice B40 t37.1.f2.length d40]) ?_;clear HS;intro w48 HS F)|((with_reducible refine gate_store (p:=12) rfl ?_);refine ev_st 19 0 HS (seg:=[.int .i64 t37.2.f0,.slice B41 t37.2.f1.length d41,.int .i64 t37.2.f2.f0,.slice B42 t37.2.f2.f1.length d42,.bool t37.2.f2.f2,.bool t37.2.f2.f3,.int .i64 t37.2.f2.f4]) ?_;clear HS;intro w50 HS F))
 replace H:=zif' H;rcases H with⟨c52,H⟩|⟨c52,H⟩
 ·
  obtain⟨c52a,c52b⟩:=bq c52;clear c52
  (try simp only [c52a,c52b,dcn])
  (try go_wp2)
  replace H:=znif' H;rcases H with⟨c9,H⟩|⟨c9,H⟩
  ·
   obtain⟨c9a,c9b⟩:=nq c9;clear c9
   refine dr_start [] HS #[false,false,false,false,false,false,false,false,false,false,false,false,false,false,false,false,false,false,false,false,false,false,false,false,false,false,false,false,false,false,false,false,false,false,false,false,false,false,false,false,false,false,false,false,false,false,false,false,false,false,false,false,false,false,false,false,false,false,false,false,false,false,false,false] (by kernel_rfl) rfl rfl laws_FnPlans.tT11 (fun w68 HT HS HH=>?_)
   (try clear F)
   refine dqto [0,1,2,3,4,5,6,7,8,9,10,11,12,13,14,15,16,17,18,19,20,21,22,23,24,25,26,27,28,29,30,31,32,33,34,35,36,37,38,39,40,41,42,43,44,45,46,47,48,49,50,51,52,53,54,55,56,57,58,59,60,61,62,63] HT HH ?_
   refine dn HT ?_
   (try clear F)
   have F:=HS.bx
   obtain rfl:=zsome H
   go_wp2
   go_ret
   exact HS.pk
  obtain⟨c9a,c9b⟩:=bq c9;clear c9
  replace H:=zbind H;obtain⟨t10,ht10,H⟩:=H
  replace H:=znifb H;rcases H with⟨c14,H⟩|⟨c14,H⟩
  ·
   subst c14
   refine dr_start [] HS #[false,false,false,false,false,false,false,false,false,false,false,false,false,false,false,false,false,false,false,false,false,false,false,false,false,false,false,false,false,false,false,false,false,false,false,false,false,false,false,false,false,false,false,false,false,false,false,false,false,false,false,false,false,false,false,false,false,false,false,false,false,false,false,false] (by kernel_rfl) rfl rfl laws_FnPlans.tT11 (fun w66 HT HS HH=>?_)
   (try clear F)
   refine dqt [0,1,2,3,4,5,6,7,8,9] HT HH ?_
   refine dr1 10 HT fun K hK=>?_
   refine go_cl HS (laws_sameInts.calls ht10.out (HS.rd 5 rfl) m18 (HS.rd 1 rfl) m6) Tryz.func20 ?_;clear HS;intro wt10 HS F
   refine nrm 57 hK ⟨_,HS⟩ fun HH=>?_;clear hK K
   refine dqo [11,12,13,14,15,16,17,18,19,20,21,22,23,24,25,26,27,28,29,30,31,32,33,34,35,36,37,38,39,40,41,42,43,44,45,46,47,48,49,50,51,52,53,54,55,56,57,58,59,60,61,62,63] HT ?_
   refine dn HT ?_
   (try clear F)
   have F:=HS.bx
   obtain rfl:=zsome H
   go_wp2
   go_ret
   exact HS.pk
  subst c14
  replace H:=znif' H;rcases H with⟨c29,H⟩|⟨c29,H⟩
  ·
   obtain⟨c29a,c29b⟩:=nq c29;clear c29
   refine dr_start [] HS #[false,false,false,false,false,false,false,false,false,false,false,false,false,false,false,false,false,false,false,false,false,false,false,false,false,false,false,false,false,false,false,false,false,false,false,false,false,false,false,false,false,false,false,false,false,false,false,false,false,false,false,false,false,false,false,false,false,false,false,false,false,false,false,false] (by kernel_rfl) rfl rfl laws_FnPlans.tT11 (fun w64 HT HS HH=>?_)
   (try clear F)
   refine dqt [0,1,2,3,4,5,6,7,8,9] HT HH ?_
   refine dr1 10 HT fun K hK=>?_
   refine go_cl HS (laws_sameInts.calls ht10.out (HS.rd 5 rfl) m18 (HS.rd 1 rfl) m6) Tryz.func20 ?_;clear HS;intro wt10 HS F
   refine nrm 57 hK ⟨_,HS⟩ fun HH=>?_;clear hK K
   refine dqto [11,12,13,14,15,16,17,18,19,20,21,22,23,24,25,26,27,28,29,30,31,32,33,34,35,36,37,38,39,40,41,42,43,44,45,46,47,48,49,50,51,52,53,54,55,56,57,58,59,60,61,62,63] HT HH ?_
   refine dn HT ?_
   (try clear F)
   have F:=HS.bx
   obtain rfl:=zsome H
   go_wp2
   go_ret
   exact HS.pk
  obtain⟨c29a,c29b⟩:=bq c29;clear c29
  replace H:=znif' H;rcases H with⟨c30,H⟩|⟨c30,H⟩
  ·
   obtain⟨c30a,c30b⟩:=nq c30;clear c30
   refine dr_start [] HS #[false,false,false,false,false,false,false,false,false,false,false,false,false,false,false,false,false,false,false,false,false,false,false,false,false,false,false,false,false,false,false,false,false,false,false,false,false,false,false,false,false,false,false,false,false,false,false,false,false,false,false,false,false,false,false,false,false,false,false,false,false,false,false,false] (by kernel_rfl) rfl rfl laws_FnPlans.tT11 (fun w62 HT HS HH=>?_)
   (try clear F)
   refine dqt [0,1,2,3,4,5,6,7,8,9] HT HH ?_
   refine dr1 10 HT fun K hK=>?_
   refine go_cl HS (laws_sameInts.calls ht10.out (HS.rd 5 rfl) m18 (HS.rd 1 rfl) m6) Tryz.func20 ?_;clear HS;intro wt10 HS F
   refine nrm 57 hK ⟨_,HS⟩ fun HH=>?_;clear hK K
   refine dqto [11,12,13,14,15,16,17,18,19,20,21,22,23,24,25,26,27,28,29,30,31,32,33,34,35,36,37,38,39,40,41,42,43,44,45,46,47,48,49,50,51,52,53,54,55,56,57,58,59,60,61,62,63] HT HH ?_
   refine dn HT ?_
   (try clear F)
   have F:=HS.bx
   obtain rfl:=zsome H
   go_wp2
   go_ret
   exact HS.pk
  obtain⟨c30a,c30b⟩:=bq c30;clear c30
  replace H:=znif' H;rcases H with⟨c31,H⟩|⟨c31,H⟩
  ·
   obtain⟨c31a,c31b⟩:=nq c31;clear c31
   refine dr_start [] HS #[false,false,false,false,false,false,false,false,false,false,false,false,false,false,false,false,false,false,false,false,false,false,false,false,false,false,false,false,false,false,false,false,false,false,false,false,false,false,false,false,false,false,false,false,false,false,false,false,false,false,false,false,false,false,false,false,false,false,false,false,false,false,false,false] (by kernel_rfl) rfl rfl laws_FnPlans.tT11 (fun w60 HT HS HH=>?_)
   (try clear F)
   refine dqt [0,1,2,3,4,5,6,7,8,9] HT HH ?_
   refine dr1 10 HT fun K hK=>?_
   refine go_cl HS (laws_sameInts.calls ht10.out (HS.rd 5 rfl) m18 (HS.rd 1 rfl) m6) Tryz.func20 ?_;clear HS;intro wt10 HS F
   refine nrm 57 hK ⟨_,HS⟩ fun HH=>?_;clear hK K
   refine dqto [11,12,13,14,15,16,17,18,19,20,21,22,23,24,25,26,27,28,29,30,31,32,33,34,35,36,37,38,39,40,41,42,43,44,45,46,47,48,49,50,51,52,53,54,55,56,57,58,59,60,61,62,63] HT HH ?_
   refine dn HT ?_
   (try clear F)
   have F:=HS.bx
   obtain rfl:=zsome H
   go_wp2
   go_ret
   exact HS.pk
  obtain⟨c31a,c31b⟩:=bq c31;clear c31
  replace H:=zbind H;obtain⟨t33,ht33,H⟩:=H
  replace H:=zbind H;obtain⟨t36,ht36,H⟩:=H
  replace H:=znif' H;rcases H with⟨c43,H⟩|⟨c43,H⟩
  ·
   obtain⟨c43a,c43b⟩:=nq c43;clear c43
   refine dr_start [] HS #[false,false,false,false,false,false,false,false,false,false,false,false,false,false,false,false,false,false,false,false,false,false,false,false,false,false,false,false,false,false,false,false,false,false,false,false,false,false,false,false,false,false,false,false,false,false,false,false,false,false,false,false,false,false,false,false,false,false,false,false,false,false,false,false] (by kernel_rfl) rfl rfl laws_FnPlans.tT11 (fun w58 HT HS HH=>?_)
   (try clear F)
   refine dqt [0,1,2,3,4,5,6,7,8,9] HT HH ?_
   refine dr1 10 HT fun K hK=>?_
   refine go_cl HS (laws_sameInts.calls ht10.out (HS.rd 5 rfl) m18 (HS.rd 1 rfl) m6) Tryz.func20 ?_;clear HS;intro wt10 HS F
   refine nrm 57 hK ⟨_,HS⟩ fun HH=>?_;clear hK K
   refine dqt [11,12,13,14,15,16,17,18,19,20,21,22,23,24,25,26,27,28,29,30,31,32,33,34,35,36,37,38,40,41] HT HH ?_
   refine dr1 39 HT fun K hK=>?_
   refine go_cl HS (impl_PlansOk.calls ht33.out (HS.rd 7 rfl) m25 (HS.vrd 8 rfl) m26 (HS.rd 9 rfl) m27 (HS.rd 10 rfl) m28) Tryz.func21 ?_;clear HS;intro wt33 HS F
   refine nrm 86 hK ⟨_,HS⟩ fun HH=>?_;clear hK K
   refine dr1 42 HT fun K hK=>?_
   refine go_cl HS (spec_PlansOk.calls ht36.out (HS.rd 7 rfl) m25 (HS.vrd 8 rfl) m26 (HS.rd 9 rfl) m27 (HS.rd 10 rfl) m28) Tryz.func22 ?_;clear HS;intro wt36 HS F
   refine nrm 89 hK ⟨_,HS⟩ fun HH=>?_;clear hK K
   refine dqo [43,44,45,46,47,48,49,50,51,52,53,54,55,56,57,58,59,60,61,62,63] HT ?_
   refine dn HT ?_
   (try clear F)
   have F:=HS.bx
   obtain rfl:=zsome H
   go_wp2
   go_ret
   exact HS.pk
  obtain⟨c43a,c43b⟩:=bq c43;clear c43
  replace H:=zbind H;obtain⟨t44,ht44,H⟩:=H
  replace H:=zbind H;obtain⟨t45,ht45,H⟩:=H
  replace H:=znif' H;rcases H with⟨c46,H⟩|⟨c46,H⟩
  ·
   obtain⟨c46a,c46b⟩:=nq c46;clear c46
   refine dr_start [] HS #[false,false,false,false,false,false,false,false,false,false,false,false,false,false,false,false,false,false,false,false,false,false,false,false,false,false,false,false,false,false,false,false,false,false,false,false,false,false,false,false,false,false,false,false,false,false,false,false,false,false,false,false,false,false,false,false,false,false,false,false,false,false,false,false] (by kernel_rfl) rfl rfl laws_FnPlans.tT11 (fun w56 HT HS HH=>?_)
   (try clear F)
   refine dqt [0,1,2,3,4,5,6,7,8,9] HT HH ?_
   refine dr1 10 HT fun K hK=>?_
   refine go_cl HS (laws_sameInts.calls ht10.out (HS.rd 5 rfl) m18 (HS.rd 1 rfl) m6) Tryz.func20 ?_;clear HS;intro wt10 HS F
   refine nrm 57 hK ⟨_,HS⟩ fun HH=>?_;clear hK K
   refine dqt [11,12,13,14,15,16,17,18,19,20,21,22,23,24,25,26,27,28,29,30,31,32,33,34,35,36,37,38,40,41] HT HH ?_
   refine dr1 39 HT fun K hK=>?_
   refine go_cl HS (impl_PlansOk.calls ht33.out (HS.rd 7 rfl) m25 (HS.vrd 8 rfl) m26 (HS.rd 9 rfl) m27 (HS.rd 10 rfl) m28) Tryz.func21 ?_;clear HS;intro wt33 HS F
   refine nrm 86 hK ⟨_,HS⟩ fun HH=>?_;clear hK K
   refine dr1 42 HT fun K hK=>?_
   refine go_cl HS (spec_PlansOk.calls ht36.out (HS.rd 7 rfl) m25 (HS.vrd 8 rfl) m26 (HS.rd 9 rfl) m27 (HS.rd 10 rfl) m28) Tryz.func22 ?_;clear HS;intro wt36 HS F
   refine nrm 89 hK ⟨_,HS⟩ fun HH=>?_;clear hK K
   refine dq [43,44,45,46,47,49,50] HT ?_
   refine dr1 48 HT fun K hK=>?_
   refine go_cl HS (impl_PlanAt.calls ht44.out (HS.rd 12 rfl) m35) Tryz.func23 ?_;clear HS;intro wt44 HS F
   refine nrm 95 hK ⟨_,HS⟩ fun HH=>?_;clear hK K
   refine dr1 51 HT fun K hK=>?_
   refine go_cl HS (spec_PlanAt.calls ht45.out (HS.rd 12 rfl) m35) Tryz.func24 ?_;clear HS;intro wt45 HS F
   refine nrm 98 hK ⟨_,HS⟩ fun HH=>?_;clear hK K
   refine dqo [52,53,54,55,56,57,58,59,60,61,62,63] HT ?_
   refine dn HT ?_
   (try clear F)
   have F:=HS.bx
   obtain rfl:=zsome H
   go_wp2
   go_ret
   exact HS.pk
  obtain⟨c46a,c46b⟩:=bq c46;clear c46
  replace H:=zbind H;obtain⟨t47,ht47,H⟩:=H
  replace H:=zbind H;obtain⟨t55,ht55,H⟩:=H
  replace H:=zbind H;obtain⟨t63,ht63,H⟩:=H
  refine dr_start [] HS #[false,false,false,false,false,false,false,false,false,false,false,false,false,false,false,false,false,false,false,false,false,false,false,false,false,false,false,false,false,false,false,false,false,false,false,false,false,false,false,false,false,false,false,false,false,false,false,false,false,false,false,false,false,false,false,false,false,false,false,false,false,false,false,false] (by kernel_rfl) rfl rfl laws_FnPlans.tT11 (fun w54 HT HS HH=>?_)
  (try clear F)
  refine dqt [0,1,2,3,4,5,6,7,8,9] HT HH ?_
  refine dr1 10 HT fun K hK=>?_
  refine go_cl HS (laws_sameInts.calls ht10.out (HS.rd 5 rfl) m18 (HS.rd 1 rfl) m6) Tryz.func20 ?_;clear HS;intro wt10 HS F
  refine nrm 57 hK ⟨_,HS⟩ fun HH=>?_;clear hK K
  refine dqt [11,12,13,14,15,16,17,18,19,20,21,22,23,24,25,26,27,28,29,30,31,32,33,34,35,36,37,38,40,41] HT HH ?_
  refine dr1 39 HT fun K hK=>?_
  refine go_cl HS (impl_PlansOk.calls ht33.out (HS.rd 7 rfl) m25 (HS.vrd 8 rfl) m26 (HS.rd 9 rfl) m27 (HS.rd 10 rfl) m28) Tryz.func21 ?_;clear HS;intro wt33 HS F
  refine nrm 86 hK ⟨_,HS⟩ fun HH=>?_;clear hK K
  refine dr1 42 HT fun K hK=>?_
  refine go_cl HS (spec_PlansOk.calls ht36.out (HS.rd 7 rfl) m25 (HS.vrd 8 rfl) m26 (HS.rd 9 rfl) m27 (HS.rd 10 rfl) m28) Tryz.func22 ?_;clear HS;intro wt36 HS F
  refine nrm 89 hK ⟨_,HS⟩ fun HH=>?_;clear hK K
  refine dq [43,44,45,46,47,49,50] HT ?_
  refine dr1 48 HT fun K hK=>?_
  refine go_cl HS (impl_PlanAt.calls ht44.out (HS.rd 12 rfl) m35) Tryz.func23 ?_;clear HS;intro wt44 HS F
  refine nrm 95 hK ⟨_,HS⟩ fun HH=>?_;clear hK K
  refine dr1 51 HT fun K hK=>?_
  refine go_cl HS (spec_PlanAt.calls ht45.out (HS.rd 12 rfl) m35) Tryz.func24 ?_;clear HS;intro wt45 HS F
  refine nrm 98 hK ⟨_,HS⟩ fun HH=>?_;clear hK K
  refine dqt [52,53,54,55,56,58,59] HT HH ?_
  refine dr1 57 HT fun K hK=>?_
  refine go_cl3 HS (impl_Trusting.calls ht47.out (HS.vrd 13 rfl) m38 (HS.rd 14 rfl) m39 (HS.rd 15 rfl) m40 (HS.rd 16 rfl) m41 (HS.rd 17 rfl) m42) Tryz.func26 ?_;clear HS;intro v49 v51 v53 wt47 HS F;obtain⟨B49,d49,rfl,m49⟩:=HS.form 20 rfl;obtain⟨B51,d51,rfl,m51⟩:=HS.form 21 rfl;obtain⟨B53,d53,rfl,m53⟩:=HS.form 22 rfl
  refine nrm 104 hK ⟨_,HS⟩ fun HH=>?_;clear hK K
  refine dr1 60 HT fun K hK=>?_
  refine go_cl3 HS (spec_Trusting.calls ht55.out (HS.vrd 13 rfl) m38 (HS.rd 14 rfl) m39 (HS.rd 15 rfl) m40 (HS.rd 16 rfl) m41 (HS.rd 17 rfl) m42) Tryz.func27 ?_;clear HS;intro v57 v59 v61 wt55 HS F;obtain⟨B57,d57,rfl,m57⟩:=HS.form 23 rfl;obtain⟨B59,d59,rfl,m59⟩:=HS.form 24 rfl;obtain⟨B61,d61,rfl,m61⟩:=HS.form 25 rfl
  refine nrm 107 hK ⟨_,HS⟩ fun HH=>?_;clear hK K
  refine dr1 61 HT fun K hK=>?_
  refine go_cl HS (laws_sameStore.calls ht63.out (HS.rd 20 rfl) m49 (HS.rd 21 rfl) m51 (HS.rd 22 rfl) m53 (HS.rd 23 rfl) m57 (HS.rd 24 rfl) m59 (HS.rd 25 rfl) m61) Tryz.func25 ?_;clear HS;intro wt63 HS F
  refine nrm 108 hK ⟨_,HS⟩ fun HH=>?_;clear hK K
  refine dq [62,63] HT ?_
  refine dn HT ?_
  (try clear F)
  have F:=HS.bx
  obtain rfl:=zsome H
  go_wp2
  go_ret
  exact HS.pk
 obtain⟨c52a,c52b⟩:=nq c52;clear c52
 (try simp only [c52a,c52b,dcn])
 (try go_wp2)
 replace H:=znif' H;rcases H with⟨c65,H⟩|⟨c65,H⟩
 ·
  obtain⟨c65a,c65b⟩:=nq c65;clear c65
  refine dr_start [] HS #[false,false,false,false,false,false,false,false,false,false,false,false,false,false,false,false,false,false,false,false,false,false,false,false,false,false,false,false,false,false,false,false,false,false,false,false,false,false,false,false,false,false,false,false,false,false,false,false,false,false,false,false,false,false,false,false,false,false,false,false,false,false,false,false] (by kernel_rfl) rfl rfl laws_FnPlans.tT11 (fun w85 HT HS HH=>?_)
  (try clear F)
  refine dqto [0,1,2,3,4,5,6,7,8,9,10,11,12,13,14,15,16,17,18,19,20,21,22,23,24,25,26,27,28,29,30,31,32,33,34,35,36,37,38,39,40,41,42,43,44,45,46,47,48,49,50,51,52,53,54,55,56,57,58,59,60,61,62,63] HT HH ?_
  refine dn HT ?_
  (try clear F)
  have F:=HS.bx
  obtain rfl:=zsome H
  go_wp2
  go_ret
  exact HS.pk
 obtain⟨c65a,c65b⟩:=bq c65;clear c65
 replace H:=zbind H;obtain⟨t67,ht67,H⟩:=H
 replace H:=znifb H;rcases H with⟨c69,H⟩|⟨c69,H⟩
 ·
  subst c69
  refine dr_start [] HS #[false,false,false,false,false,false,false,false,false,false,false,false,false,false,false,false,false,false,false,false,false,false,false,false,false,false,false,false,false,false,false,false,false,false,false,false,false,false,false,false,false,false,false,false,false,false,false,false,false,false,false,false,false,false,false,false,false,false,false,false,false,false,false,false] (by kernel_rfl) rfl rfl laws_FnPlans.tT11 (fun w83 HT HS HH=>?_)
  (try clear F)
  refine dqt [0,1,2,3,4,5,6,7,8,9] HT HH ?_
  refine dr1 10 HT fun K hK=>?_
  refine go_cl HS (laws_sameInts.calls ht67.out (HS.rd 5 rfl) m18 (HS.rd 1 rfl) m6) Tryz.func20 ?_;clear HS;intro wt67 HS F
  refine nrm 57 hK ⟨_,HS⟩ fun HH=>?_;clear hK K
  refine dqo [11,12,13,14,15,16,17,18,19,20,21,22,23,24,25,26,27,28,29,30,31,32,33,34,35,36,37,38,39,40,41,42,43,44,45,46,47,48,49,50,51,52,53,54,55,56,57,58,59,60,61,62,63] HT ?_
  refine dn HT ?_
  (try clear F)
  have F:=HS.bx
  obtain rfl:=zsome H
  go_wp2
  go_ret
  exact HS.pk
 subst c69
 replace H:=znif' H;rcases H with⟨c70,H⟩|⟨c70,H⟩
 ·
  obtain⟨c70a,c70b⟩:=nq c70;clear c70
  refine dr_start [] HS #[false,false,false,false,false,false,false,false,false,false,false,false,false,false,false,false,false,false,false,false,false,false,false,false,false,false,false,false,false,false,false,false,false,false,false,false,false,false,false,false,false,false,false,false,false,false,false,false,false,false,false,false,false,false,false,false,false,false,false,false,false,false,false,false] (by kernel_rfl) rfl rfl laws_FnPlans.tT11 (fun w81 HT HS HH=>?_)
  (try clear F)
  refine dqt [0,1,2,3,4,5,6,7,8,9] HT HH ?_
  refine dr1 10 HT fun K hK=>?_
  refine go_cl HS (laws_sameInts.calls ht67.out (HS.rd 5 rfl) m18 (HS.rd 1 rfl) m6) Tryz.func20 ?_;clear HS;intro wt67 HS F
  refine nrm 57 hK ⟨_,HS⟩ fun HH=>?_;clear hK K
  refine dqto [11,12,13,14,15,16,17,18,19,20,21,22,23,24,25,26,27,28,29,30,31,32,33,34,35,36,37,38,39,40,41,42,43,44,45,46,47,48,49,50,51,52,53,54,55,56,57,58,59,60,61,62,63] HT HH ?_
  refine dn HT ?_
  (try clear F)
  have F:=HS.bx
  obtain rfl:=zsome H
  go_wp2
  go_ret
  exact HS.pk
 obtain⟨c70a,c70b⟩:=bq c70;clear c70
 replace H:=znif' H;rcases H with⟨c72,H⟩|⟨c72,H⟩
 ·
  obtain⟨c72a,c72b⟩:=nq c72;clear c72
  refine dr_start [] HS #[false,false,false,false,false,false,false,false,false,false,false,false,false,false,false,false,false,false,false,false,false,false,false,false,false,false,false,false,false,false,false,false,false,false,false,false,false,false,false,false,false,false,false,false,false,false,false,false,false,false,false,false,false,false,false,false,false,false,false,false,false,false,false,false] (by kernel_rfl) rfl rfl laws_FnPlans.tT11 (fun w79 HT HS HH=>?_)
  (try clear F)
  refine dqt [0,1,2,3,4,5,6,7,8,9] HT HH ?_
  refine dr1 10 HT fun K hK=>?_
  refine go_cl HS (laws_sameInts.calls ht67.out (HS.rd 5 rfl) m18 (HS.rd 1 rfl) m6) Tryz.func20 ?_;clear HS;intro wt67 HS F
  refine nrm 57 hK ⟨_,HS⟩ fun HH=>?_;clear hK K
  refine dqto [11,12,13,14,15,16,17,18,19,20,21,22,23,24,25,26,27,28,29,30,31,32,33,34,35,36,37,38,39,40,41,42,43,44,45,46,47,48,49,50,51,52,53,54,55,56,57,58,59,60,61,62,63] HT HH ?_
  refine dn HT ?_
  (try clear F)
  have F:=HS.bx
  obtain rfl:=zsome H
  go_wp2
  go_ret
  exact HS.pk
 obtain⟨c72a,c72b⟩:=bq c72;clear c72
 replace H:=znif' H;rcases H with⟨c74,H⟩|⟨c74,H⟩
 ·
  obtain⟨c74a,c74b⟩:=nq c74;clear c74
  refine dr_start [] HS #[false,false,false,false,false,false,false,false,false,false,false,false,false,false,false,false,false,false,false,false,false,false,false,false,false,false,false,false,false,false,false,false,false,false,false,false,false,false,false,false,false,false,false,false,false,false,false,false,false,false,false,false,false,false,false,false,false,false,false,false,false,false,false,false] (by kernel_rfl) rfl rfl laws_FnPlans.tT11 (fun w77 HT HS HH=>?_)
  (try clear F)
  refine dqt [0,1,2,3,4,5,6,7,8,9] HT HH ?_
  refine dr1 10 HT fun K hK=>?_
  refine go_cl HS (laws_sameInts.calls ht67.out (HS.rd 5 rfl) m18 (HS.rd 1 rfl) m6) Tryz.func20 ?_;clear HS;intro wt67 HS F
  refine nrm 57 hK ⟨_,HS⟩ fun HH=>?_;clear hK K
  refine dqto [11,12,13,14,15,16,17,18,19,20,21,22,23,24,25,26,27,28,29,30,31,32,33,34,35,36,37,38,39,40,41,42,43,44,45,46,47,48,49,50,51,52,53,54,55,56,57,58,59,60,61,62,63] HT HH ?_
  refine dn HT ?_
  (try clear F)
  have F:=HS.bx
  obtain rfl:=zsome H
  go_wp2
  go_ret
  exact HS.pk
 obtain⟨c74a,c74b⟩:=bq c74;clear c74
 replace H:=zbind H;obtain⟨t76,ht76,H⟩:=H
 replace H:=zbind H;obtain⟨t78,ht78,H⟩:=H
 replace H:=znif' H;rcases H with⟨c80,H⟩|⟨c80,H⟩
 ·
  obtain⟨c80a,c80b⟩:=nq c80;clear c80
  refine dr_start [] HS #[false,false,false,false,false,false,false,false,false,false,false,false,false,false,false,false,false,false,false,false,false,false,false,false,false,false,false,false,false,false,false,false,false,false,false,false,false,false,false,false,false,false,false,false,false,false,false,false,false,false,false,false,false,false,false,false,false,false,false,false,false,false,false,false] (by kernel_rfl) rfl rfl laws_FnPlans.tT11 (fun w75 HT HS HH=>?_)
  (try clear F)
  refine dqt [0,1,2,3,4,5,6,7,8,9] HT HH ?_
  refine dr1 10 HT fun K hK=>?_
  refine go_cl HS (laws_sameInts.calls ht67.out (HS.rd 5 rfl) m18 (HS.rd 1 rfl) m6) Tryz.func20 ?_;clear HS;intro wt67 HS F
  refine nrm 57 hK ⟨_,HS⟩ fun HH=>?_;clear hK K
  refine dqt [11,12,13,14,15,16,17,18,19,20,21,22,23,24,25,26,27,28,29,30,31,32,33,34,35,36,37,38,40,41] HT HH ?_
  refine dr1 39 HT fun K hK=>?_
  refine go_cl HS (impl_PlansOk.calls ht76.out (HS.rd 7 rfl) m25 (HS.vrd 8 rfl) m26 (HS.rd 9 rfl) m27 (HS.rd 10 rfl) m28) Tryz.func21 ?_;clear HS;intro wt76 HS F
  refine nrm 86 hK ⟨_,HS⟩ fun HH=>?_;clear hK K
  refine dr1 42 HT fun K hK=>?_
  refine go_cl HS (spec_PlansOk.calls ht78.out (HS.rd 7 rfl) m25 (HS.vrd 8 rfl) m26 (HS.rd 9 rfl) m27 (HS.rd 10 rfl) m28) Tryz.func22 ?_;clear HS;intro wt78 HS F
  refine nrm 89 hK ⟨_,HS⟩ fun HH=>?_;clear hK K
  refine dqo [43,44,45,46,47,48,49,50,51,52,53,54,55,56,57,58,59,60,61,62,63] HT ?_
  refine dn HT ?_
  (try clear F)
  have F:=HS.bx
  obtain rfl:=zsome H
  go_wp2
  go_ret
  exact HS.pk
 obtain⟨c80a,c80b⟩:=bq c80;clear c80
 replace H:=zbind H;obtain⟨t82,ht82,H⟩:=H
 replace H:=zbind H;obtain⟨t84,ht84,H⟩:=H
 replace H:=znif' H;rcases H with⟨c86,H⟩|⟨c86,H⟩
 ·
  obtain⟨c86a,c86b⟩:=nq c86;clear c86
  refine dr_start [] HS #[false,false,false,false,false,false,false,false,false,false,false,false,false,false,false,false,false,false,false,false,false,false,false,false,false,false,false,false,false,false,false,false,false,false,false,false,false,false,false,false,false,false,false,false,false,false,false,false,false,false,false,false,false,false,false,false,false,false,false,false,false,false,false,false] (by kernel_rfl) rfl rfl laws_FnPlans.tT11 (fun w73 HT HS HH=>?_)
  (try clear F)
  refine dqt [0,1,2,3,4,5,6,7,8,9] HT HH ?_
  refine dr1 10 HT fun K hK=>?_
  refine go_cl HS (laws_sameInts.calls ht67.out (HS.rd 5 rfl) m18 (HS.rd 1 rfl) m6) Tryz.func20 ?_;clear HS;intro wt67 HS F
  refine nrm 57 hK ⟨_,HS⟩ fun HH=>?_;clear hK K
  refine dqt [11,12,13,14,15,16,17,18,19,20,21,22,23,24,25,26,27,28,29,30,31,32,33,34,35,36,37,38,40,41] HT HH ?_
  refine dr1 39 HT fun K hK=>?_
  refine go_cl HS (impl_PlansOk.calls ht76.out (HS.rd 7 rfl) m25 (HS.vrd 8 rfl) m26 (HS.rd 9 rfl) m27 (HS.rd 10 rfl) m28) Tryz.func21 ?_;clear HS;intro wt76 HS F
  refine nrm 86 hK ⟨_,HS⟩ fun HH=>?_;clear hK K
  refine dr1 42 HT fun K hK=>?_
  refine go_cl HS (spec_PlansOk.calls ht78.out (HS.rd 7 rfl) m25 (HS.vrd 8 rfl) m26 (HS.rd 9 rfl) m27 (HS.rd 10 rfl) m28) Tryz.func22 ?_;clear HS;intro wt78 HS F
  refine nrm 89 hK ⟨_,HS⟩ fun HH=>?_;clear hK K
  refine dq [43,44,45,46,47,49,50] HT ?_
  refine dr1 48 HT fun K hK=>?_
  refine go_cl HS (impl_PlanAt.calls ht82.out (HS.rd 12 rfl) m35) Tryz.func23 ?_;clear HS;intro wt82 HS F
  refine nrm 95 hK ⟨_,HS⟩ fun HH=>?_;clear hK K
  refine dr1 51 HT fun K hK=>?_
  refine go_cl HS (spec_PlanAt.calls ht84.out (HS.rd 12 rfl) m35) Tryz.func24 ?_;clear HS;intro wt84 HS F
  refine nrm 98 hK ⟨_,HS⟩ fun HH=>?_;clear hK K
  refine dqo [52,53,54,55,56,57,58,59,60,61,62,63] HT ?_
  refine dn HT ?_
  (try clear F)
  have F:=HS.bx
  obtain rfl:=zsome H
  go_wp2
  go_ret
  exact HS.pk
 obtain⟨c86a,c86b⟩:=bq c86;clear c86
 replace H:=zbind H;obtain⟨t87,ht87,H⟩:=H
 replace H:=zbind H;obtain⟨t91,ht91,H⟩:=H
 replace H:=zbind H;obtain⟨t95,ht95,H⟩:=H
 refine dr_start [] HS #[false,false,false,false,false,false,false,false,false,false,false,false,false,false,false,false,false,false,false,false,false,false,false,false,false,false,false,false,false,false,false,false,false,false,false,false,false,false,false,false,false,false,false,false,false,false,false,false,false,false,false,false,false,false,false,false,false,false,false,false,false,false,false,false] (by kernel_rfl) rfl rfl laws_FnPlans.tT11 (fun w71 HT HS HH=>?_)
 (try clear F)
 refine dqt [0,1,2,3,4,5,6,7,8,9] HT HH ?_
 refine dr1 10 HT fun K hK=>?_
 refine go_cl HS (laws_sameInts.calls ht67.out (HS.rd 5 rfl) m18 (HS.rd 1 rfl) m6) Tryz.func20 ?_;clear HS;intro wt67 HS F
 refine nrm 57 hK ⟨_,HS⟩ fun HH=>?_;clear hK K
 refine dqt [11,12,13,14,15,16,17,18,19,20,21,22,23,24,25,26,27,28,29,30,31,32,33,34,35,36,37,38,40,41] HT HH ?_
 refine dr1 39 HT fun K hK=>?_
 refine go_cl HS (impl_PlansOk.calls ht76.out (HS.rd 7 rfl) m25 (HS.vrd 8 rfl) m26 (HS.rd 9 rfl) m27 (HS.rd 10 rfl) m28) Tryz.func21 ?_;clear HS;intro wt76 HS F
 refine nrm 86 hK ⟨_,HS⟩ fun HH=>?_;clear hK K
 refine dr1 42 HT fun K hK=>?_
 refine go_cl HS (spec_PlansOk.calls ht78.out (HS.rd 7 rfl) m25 (HS.vrd 8 rfl) m26 (HS.rd 9 rfl) m27 (HS.rd 10 rfl) m28) Tryz.func22 ?_;clear HS;intro wt78 HS F
 refine nrm 89 hK ⟨_,HS⟩ fun HH=>?_;clear hK K
 refine dq [43,44,45,46,47,49,50] HT ?_
 refine dr1 48 HT fun K hK=>?_
 refine go_cl HS (impl_PlanAt.calls ht82.out (HS.rd 12 rfl) m35) Tryz.func23 ?_;clear HS;intro wt82 HS F
 refine nrm 95 hK ⟨_,HS⟩ fun HH=>?_;clear hK K
 refine dr1 51 HT fun K hK=>?_
 refine go_cl HS (spec_PlanAt.calls ht84.out (HS.rd 12 rfl) m35) Tryz.func24 ?_;clear HS;intro wt84 HS F
 refine nrm 98 hK ⟨_,HS⟩ fun HH=>?_;clear hK K
 refine dqt [52,53,54,55,56,58,59] HT HH ?_
 refine dr1 57 HT fun K hK=>?_
 refine go_cl3 HS (impl_Trusting.calls ht87.out (HS.vrd 13 rfl) m38 (HS.rd 14 rfl) m39 (HS.rd 15 rfl) m40 (HS.rd 16 rfl) m41 (HS.rd 17 rfl) m42) Tryz.func26 ?_;clear HS;intro v88 v89 v90 wt87 HS F;obtain⟨B88,d88,rfl,m88⟩:=HS.form 20 rfl;obtain⟨B89,d89,rfl,m89⟩:=HS.form 21 rfl;obtain⟨B90,d90,rfl,m90⟩:=HS.form 22 rfl
 refine nrm 104 hK ⟨_,HS⟩ fun HH=>?_;clear hK K
 refine dr1 60 HT fun K hK=>?_
 refine go_cl3 HS (spec_Trusting.calls ht91.out (HS.vrd 13 rfl) m38 (HS.rd 14 rfl) m39 (HS.rd 15 rfl) m40 (HS.rd 16 rfl) m41 (HS.rd 17 rfl) m42) Tryz.func27 ?_;clear HS;intro v92 v93 v94 wt91 HS F;obtain⟨B92,d92,rfl,m92⟩:=HS.form 23 rfl;obtain⟨B93,d93,rfl,m93⟩:=HS.form 24 rfl;obtain⟨B94,d94,rfl,m94⟩:=HS.form 25 rfl
 refine nrm 107 hK ⟨_,HS⟩ fun HH=>?_;clear hK K
 refine dr1 61 HT fun K hK=>?_
 refine go_cl HS (laws_sameStore.calls ht95.out (HS.rd 20 rfl) m88 (HS.rd 21 rfl) m89 (HS.rd 22 rfl) m90 (HS.rd 23 rfl) m92 (HS.rd 24 rfl) m93 (HS.rd 25 rfl) m94) Tryz.func25 ?_;clear HS;intro wt95 HS F
 refine nrm 108 hK ⟨_,HS⟩ fun HH=>?_;clear hK K
 refine dq [62,63] HT ?_
 refine dn HT ?_
 (try clear F)
 have F:=HS.bx
 obtain rfl:=zsome H
 go_wp2
 go_ret
 exact HS.pk
end Go.Proofs.YtfcpjeeeddjakaaGreat.F

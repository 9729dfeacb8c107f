/- Functions of the program and of the law, and that their calls do what is written here. -/
import Derived.Test.YtfcpjeeeddjakaaGreatZgFnPlansa
import Derived.Test.YtfcpjeeeddjakaaGreatZgFnPlansc
import Derived.Test.YtfcpjeeeddjakaaGreatZgFnPlansd
import Derived.Test.YtfcpjeeeddjakaaGreatZgFnPlanse
import Derived.Test.YtfcpjeeeddjakaaGreatZgFnPlansf
import Derived.Test.YtfcpjeeeddjakaaGreatZgFnPlansg
namespace Go.Proofs.YtfcpjeeeddjakaaGreat.F
open Go.RowKit YtfcpjeeeddjakaaGreatW.PrintWords YtfcpjeeeddjakaaGreatW.PrintLast YtfcpjeeeddjakaaGreatW.PrintMore Z
attribute [local go_sem] max2_int min2_int max_two min_two max_three min_three max_four min_four
set_option linter.unusedVariables false
set_option linter.unusedSimpArgs false
set_option maxRecDepth 100000
set_option maxHeartbeats 16000000
def spec_l13Any_0.f (k:Nat)(a0:S110):Option (S48×S110):=((spec_l01Below_0.f a0 10).bind fun t3=>((spec_l13Store_0.f k (⟨a0.f0,t3.2.f1,t3.2.f2⟩:S110)).bind fun t5=>((spec_l13Copy.f k t5.1).bind fun t10=>(if t3.1=0 then((spec_l09Any_0.f k (⟨a0.f0,t5.2.f1,t5.2.f2⟩:S110)).bind fun t14=>(if t10.f0.length+1≤764877654105 then(lets (t10.f0++([t14.1]:List S125)) fun y24=>(some ((⟨y24,t10.f1,t10.f2⟩:S48),(⟨a0.f0,t14.2.f1,t14.2.f2⟩:S110))))else none))else(if t3.1=1 then(if 0<(t10.f0.length:Int)then(if t10.f0.length+1≤764877654105 then(lets (t10.f0++ [(rd_T125 t10.f0 0)]) fun y37=>(some ((⟨y37,t10.f1,t10.f2⟩:S48),(⟨a0.f0,t5.2.f1,t5.2.f2⟩:S110))))else none)else none)else(if t3.1=2 then((spec_l10Any_0.f k (⟨a0.f0,t5.2.f1,t5.2.f2⟩:S110)).bind fun t41=>(if t10.f1.length+1≤1599289640401 then(lets (t10.f1++([t41.1]:List S103)) fun y51=>(some ((⟨t10.f0,y51,t10.f2⟩:S48),(⟨a0.f0,t41.2.f1,t41.2.f2⟩:S110))))else none))else(if t3.1=3 then((spec_l12Anchor.f k).bind fun t53=>(if t10.f2.length+1≤4398046511104 then(lets (t10.f2++([t53]:List S105)) fun y56=>(some ((⟨t10.f0,t10.f1,y56⟩:S48),(⟨a0.f0,t5.2.f1,t5.2.f2⟩:S110))))else none))else(if t3.1=4 then((spec_PublicAt.f k 2).bind fun t59=>(if t10.f2.length+1≤4398046511104 then(lets (t10.f2++([(⟨(⟨#[115,117,98,46,99,97,46,111,114,103]⟩:ByteArray),t59⟩:S105)]:List S105)) fun y62=>(some ((⟨t10.f0,t10.f1,y62⟩:S48),(⟨a0.f0,t5.2.f1,t5.2.f2⟩:S110))))else none))else(some ((⟨t10.f0,t10.f1,t10.f2⟩:S48),(⟨a0.f0,t5.2.f1,t5.2.f2⟩:S110)))))))))))
def spec_l13Any_0.T5:TT:=(true,[([],[]),([0],[0]),([],[]),([2],[2]),([3],[3]),([1,4,3],[1,4]),([0,1,2,3,4,5],[]),([6,5,5,0,1,2,3,4,5],[5,6])])
theorem spec_l13Any_0.tT5:rtab .any (opsOf Tryz.f58 5)=spec_l13Any_0.T5:=by kernel_rfl
def spec_l13Any_0.T7:TT:=(true,[([],[]),([0],[0]),([],[]),([2],[2]),([3],[3]),([4],[4]),([5],[5]),([1,6],[1,6]),([0,1,2,3,4,5,6,7],[]),([8,7,7,0,1,2,3,4,5,6,7],[7,8])])
theorem spec_l13Any_0.tT7:rtab .any (opsOf Tryz.f58 7)=spec_l13Any_0.T7:=by kernel_rfl
def spec_l13Any_0.T9:TT:=(true,[([],[]),([0],[0]),([],[]),([2],[2]),([3],[3]),([1,4,3],[1,4]),([0,1,2,3,4,5],[]),([6,5,5,0,1,2,3,4,5],[5,6])])
theorem spec_l13Any_0.tT9:rtab .any (opsOf Tryz.f58 9)=spec_l13Any_0.T9:=by kernel_rfl
def spec_l13Any_0.T11:TT:=(true,[([],[]),([0],[0]),([],[]),([2],[2]),([1,3,2],[1,3]),([0,1,2,3,4],[]),([5,4,4,0,1,2,3,4],[4,5])])
theorem spec_l13Any_0.tT11:rtab .any (opsOf Tryz.f58 11)=spec_l13Any_0.T11:=by kernel_rfl
def spec_l13Any_0.T13:TT:=(true,[([],[]),([0],[0]),([],[]),([2],[2]),([3],[3]),([1,4,2],[1,4]),([0,1,2,3,4,5],[]),([6,5,5,0,1,2,3,4,5],[5,6])])
theorem spec_l13Any_0.tT13:rtab .any (opsOf Tryz.f58 13)=spec_l13Any_0.T13:=by kernel_rfl
theorem spec_l13Any_0.calls {k:Nat}{a0:S110}{A:FP}{p0:Nat}{Ap1:Option Addr}{np1 cp1:Nat}{wv:World}{r1:S48}{r2:S110}{w:World}(h:spec_l13Any_0.f k a0=some (r1,r2))(gp1:(Kd.int .u8).C wv Ap1 np1 a0.f0)(lp1:np1≤cp1)(hV:View A w wv)(HS:Hp A w w [.box p0 [.slice Ap1 np1 cp1,.int .i64 a0.f1,.int .i64 a0.f2] 110]):
    Calls Tryz.prog 58 #[.pointer (some ⟨p0,0,none⟩)] w (fun e w'=>∃v0_ v1_ v2_:Value,e=.returned (.agg #[v0_,v1_,v2_])∧Hp A w w' [.box p0 [.slice Ap1 np1 cp1,.int .i64 r2.f1,.int .i64 r2.f2] 110,.own (Zd.view 125 q125) r1.f0 [v0_],.own (Zd.slice 103 q103) r1.f1 [v1_],.own (Zd.slice 105 q105) r1.f2 [v2_]]):=by
 obtain rfl:=C_len gp1
 have H:=Aside0.mk h
 clear h
 unfold spec_l13Any_0.f at H
 go_enter Tryz.func58,Tryz.ntmps58
 have F:=HS.bx
 replace H:=zbind H;obtain⟨t3,ht3,H⟩:=H
 replace H:=zbind H;obtain⟨t5,ht5,H⟩:=H
 replace H:=zbind H;obtain⟨t10,ht10,H⟩:=H
 go_upto_if 11 with(first|((with_reducible refine gd 2 rfl ?_);refine ev_bx HS ?_;clear HS;intro g2 w2 HS F)|((with_reducible refine gd 6 rfl ?_);refine ev_lb [0] HS (fun _ HL HA=>spec_l01Below_0.calls ht3.out gp1 lp1 (hV.lend HS HL) HA) Tryz.func45 ?_;clear HS;intro wt3 HS F)|((with_reducible refine gd 8 rfl ?_);refine ev_lb3 [0] HS (fun _ HL HA=>spec_l13Store_0.calls ht5.out gp1 lp1 (hV.lend HS HL) HA) Tryz.func85 ?_;clear HS;intro v6 v7 v8 wt5 HS F;obtain⟨B6,d6,rfl,m6⟩:=HS.form 2 rfl;obtain⟨B7,d7,rfl,m7⟩:=HS.form 3 rfl;obtain⟨B8,d8,rfl,m8⟩:=HS.form 4 rfl;(try simp only [hpn,hpm] at HS);have F:=HS.bx)|((with_reducible refine gd 9 rfl ?_);refine ev_cl3 HS (spec_l13Copy.calls ht10.out (HS.rd 2 rfl) m6 (HS.rd 3 rfl) m7 (HS.rd 4 rfl) m8) Tryz.func66 ?_;clear HS;intro v11 v12 v13 wt10 HS F;obtain⟨B11,d11,rfl,m11⟩:=HS.form 5 rfl;obtain⟨B12,d12,rfl,m12⟩:=HS.form 6 rfl;obtain⟨B13,d13,rfl,m13⟩:=HS.form 7 rfl)|((with_reducible refine gd 4 rfl ?_);refine ev_bx HS ?_;clear HS;intro g4 w4 HS F)|((with_reducible refine gate_store (p:=4) rfl ?_);refine ev_st 8 0 HS (seg:=[.slice B11 t10.f0.length d11,.slice B12 t10.f1.length d12,.slice B13 t10.f2.length d13]) ?_;clear HS;intro w17 HS F))
 replace H:=zif' H;rcases H with⟨c19,H⟩|⟨c19,H⟩
 ·
  obtain⟨c19a,c19b⟩:=bq c19;clear c19
  (try simp only [c19a,c19b,dcn])
  (try go_wp2)
  replace H:=zbind H;obtain⟨t14,ht14,H⟩:=H
  replace H:=zgo H;obtain⟨c22,H⟩:=H
  replace H:=zlets H;obtain⟨y24,e_y24,H⟩:=H
  refine dr_start2 [.emp,.box g2 [.slice none 0 0,.slice none 0 0,.slice none 0 0] 48,.own (Zd.slice 125 q125) t5.1.f0 [.slice B6 t5.1.f0.length d6],.own (Zd.slice 103 q103) t5.1.f1 [.slice B7 t5.1.f1.length d7],.own (Zd.slice 105 q105) t5.1.f2 [.slice B8 t5.1.f2.length d8],.emp,.own (Zd.slice 103 q103) t10.f1 [.slice B12 t10.f1.length d12],.own (Zd.slice 105 q105) t10.f2 [.slice B13 t10.f2.length d13],.box g4 [.slice B11 t10.f0.length d11,.slice B12 t10.f1.length d12,.slice B13 t10.f2.length d13] 48] [7] HS (HS.ar [none,some 1,some 2,some 3,some 4,none,some 6,some 7,some 8]) #[false,false,false,false,false,false,false,false] (by kernel_rfl) rfl rfl spec_l13Any_0.tT5 (fun w21 HT HS HH=>?_)
  (try clear F)
  refine dqt [0,1,2] HT HH ?_
  refine dr1 3 HT fun K hK=>?_
  refine go_lb3 [0] HS (fun _ HL HA=>spec_l09Any_0.calls ht14.out gp1 lp1 (hV.lend HS HL) HA) Tryz.func86 ?_;clear HS;intro v15 v16 v18 wt14 HS F;obtain⟨B15,d15,rfl,m15⟩:=HS.form 9 rfl;obtain⟨B16,d16,rfl,m16⟩:=HS.form 10 rfl;obtain⟨B18,d18,rfl,m18⟩:=HS.form 11 rfl
  (try simp only [hpn,hpm] at HS)
  have F:=HS.bx
  refine nra 16 hK (HS.ar [none,some 1,some 2,some 3,some 4,none,some 6,some 7,some 8]) fun HH=>?_;clear hK K
  refine dr1 4 HT fun K hK=>?_
  refine if_li q125 [9,10,11] ([t14.1]:List S125) ([.int .i64 t14.1.f0,.string t14.1.f1,.string t14.1.f2,.int .i64 t14.1.f3,.int .i64 t14.1.f4,.string t14.1.f5,.bool t14.1.f6,.int .i64 t14.1.f7,.int .i64 t14.1.f8,.slice B15 t14.1.f9.length d15,.slice B16 t14.1.f10.length d16,.slice B18 t14.1.f11.length d18,.string t14.1.f12]++ []) HS (MadeL.cons (js1:=[9,10,11]) (c:=[.int .i64 t14.1.f0,.string t14.1.f1,.string t14.1.f2,.int .i64 t14.1.f3,.int .i64 t14.1.f4,.string t14.1.f5,.bool t14.1.f6,.int .i64 t14.1.f7,.int .i64 t14.1.f8,.slice B15 t14.1.f9.length d15,.slice B16 t14.1.f10.length d16,.slice B18 t14.1.f11.length d18,.string t14.1.f12]) rfl (fun S hd hh=>q125_pack (x:=t14.1) hd (hh 9 (.own (Zd.slice 3 (Zd.int .i64)) t14.1.f9 [.slice B15 t14.1.f9.length d15]) rfl) (hh 10 (.own (Zd.slice 9 Zd.string) t14.1.f10 [.slice B16 t14.1.f10.length d16]) rfl) (hh 11 (.own (Zd.slice 9 Zd.string) t14.1.f11 [.slice B18 t14.1.f11.length d18]) rfl) (by decide)) MadeL.nil (by decide)) ?_;clear HS;intro v20 w20 HS F;obtain⟨B20,d20,rfl,m20⟩:=HS.formn 1 12 rfl rfl
  refine nra 17 hK (HS.ar [none,some 1,some 2,some 3,some 4,none,some 6,some 7,some 8]) fun HH=>?_;clear hK K
  refine dr1 5 HT fun K hK=>?_
  refine wp_ap q125 5 12 HS rfl rfl Tryz.underlying44 info125 (of_eq_true c22) ?_;clear HS;intro v24 w24 HS;rw [←e_y24.out] at HS;obtain⟨B24,d24,rfl,m24⟩:=HS.form 13 rfl
  (try simp only [hpn,hpm] at HS)
  have F:=HS.bx
  refine nra 18 hK (HS.ar [none,some 1,some 2,some 3,some 4,none,some 6,some 7,some 8]) fun HH=>?_;clear hK K
  refine dq [6] HT ?_
  refine dl 7 HT fun K hK=>?_
  refine if_st 8 0 HS (seg:=[.slice B24 y24.length d24]) ?_;clear HS;intro w27 HS F
  refine hK.out _ _ ?_
  clear hK K
  refine dn HT ?_
  (try clear F)
  have F:=HS.bx
  obtain⟨rfl,rfl⟩:=zsome2 H
  go_wp2_with ((with_reducible refine gate_store (p:=2) rfl ?_);refine ev_st 1 0 HS (seg:=[.slice B24 y24.length d24,.slice B12 t10.f1.length d12,.slice B13 t10.f2.length d13]) ?_;clear HS;intro w23 HS F)
  replace HS:=HS.to_view 13 rfl
  (try simp only [hpn,hpm] at HS)
  exact rc 1 HS Tryz.underlying48 ⟨_,_,_,rfl,HS.pi [0,13,6,7]⟩
 obtain⟨c19a,c19b⟩:=nq c19;clear c19
 (try simp only [c19a,c19b,dcn])
 replace H:=zif' H;rcases H with⟨c25,H⟩|⟨c25,H⟩
 ·
  obtain⟨c25a,c25b⟩:=bq c25;clear c25
  (try go_wp2)
  obtain⟨in26,HS⟩:=HS.fix_row 5 rfl
  (try simp only [hpn,hpm] at HS)
  (try clear F)
  have F:=HS.bx
  replace H:=zgo H;obtain⟨c29,H⟩:=H
  have c29n:(0<t10.f0.length)=True:=eq_true (by have:=of_eq_true c29;omega)
  obtain⟨ad31,B31_9,d31_9,B31_10,d31_10,B31_11,d31_11,rfl,e31_0,e31_1,e31_2,e31_3,e31_4,e31_5,e31_6,e31_7,e31_8,e31_9,e31_10,e31_11,e31_12,m31_9,y31_9,m31_10,y31_10,m31_11,y31_11⟩:=at_T125 (HS.rdf 5 rfl) 0 (of_eq_true (eq_true (by decide))) (of_eq_true c29);(try have e31_0':=ct e31_0);(try have e31_1':=ct e31_1);(try have e31_2':=ct e31_2);(try have e31_3':=ct e31_3);(try have e31_4':=ct e31_4);(try have e31_5':=ct e31_5);(try have e31_6':=ct e31_6);(try have e31_7':=ct e31_7);(try have e31_8':=ct e31_8);(try have e31_9':=ct e31_9);(try have e31_10':=ct e31_10);(try have e31_11':=ct e31_11);(try have e31_12':=ct e31_12)
  have hch31:=Aside0.mk <| HS.chunk (vs:=[.int .i64 ((rd_T125 t10.f0 0).f0),.string ((rd_T125 t10.f0 0).f1),.string ((rd_T125 t10.f0 0).f2),.int .i64 ((rd_T125 t10.f0 0).f3),.int .i64 ((rd_T125 t10.f0 0).f4),.string ((rd_T125 t10.f0 0).f5),.bool ((rd_T125 t10.f0 0).f6),.int .i64 ((rd_T125 t10.f0 0).f7),.int .i64 ((rd_T125 t10.f0 0).f8),.slice B31_9 (rd_T125 t10.f0 0).f9.length d31_9,.slice B31_10 (rd_T125 t10.f0 0).f10.length d31_10,.slice B31_11 (rd_T125 t10.f0 0).f11.length d31_11,.string ((rd_T125 t10.f0 0).f12)]) (j:=((0:Int)).toNat) (m:=13) 5 rfl rfl (by have:=of_eq_true c29;omega) rfl (fun q hq=>match q,hq with|0,_=>e31_0|1,_=>(by rw [add_field _ _ 1 (by omega)];exact e31_1)|2,_=>(by rw [add_field _ _ 2 (by omega)];exact e31_2)|3,_=>(by rw [add_field _ _ 3 (by omega)];exact e31_3)|4,_=>(by rw [add_field _ _ 4 (by omega)];exact e31_4)|5,_=>(by rw [add_field _ _ 5 (by omega)];exact e31_5)|6,_=>(by rw [add_field _ _ 6 (by omega)];exact e31_6)|7,_=>(by rw [add_field _ _ 7 (by omega)];exact e31_7)|8,_=>(by rw [add_field _ _ 8 (by omega)];exact e31_8)|9,_=>(by rw [add_field _ _ 9 (by omega)];exact e31_9)|10,_=>(by rw [add_field _ _ 10 (by omega)];exact e31_10)|11,_=>(by rw [add_field _ _ 11 (by omega)];exact e31_11)|12,_=>(by rw [add_field _ _ 12 (by omega)];exact e31_12)|q+13,hq=>absurd hq (by omega))
  have hlx31:Aside0 (0<t10.f0.length):=⟨by have:=of_eq_true c29;omega⟩
  replace H:=zgo H;obtain⟨c35,H⟩:=H
  replace H:=zlets H;obtain⟨y37,e_y37,H⟩:=H
  refine dr_start [7,9] HS #[false,false,false,false,false,false,false,false,false,false] (by kernel_rfl) rfl rfl spec_l13Any_0.tT7 (fun w28 HT HS HH=>?_)
  (try clear F)
  refine dqt [0,1,2,3,4] HT HH ?_
  refine dtk 5 27 HT HH rfl (by rintro w' ⟨rs',HS'⟩;have e31_0:=HS'.fixat0 (j:=((0:Int)).toNat) (m:=13) 5 rfl hch31.out rfl hlx31.out;have e31_1:=HS'.fixatS (j:=((0:Int)).toNat) (m:=13) 5 1 rfl hch31.out rfl hlx31.out (by decide);have e31_2:=HS'.fixatS (j:=((0:Int)).toNat) (m:=13) 5 2 rfl hch31.out rfl hlx31.out (by decide);have e31_3:=HS'.fixatS (j:=((0:Int)).toNat) (m:=13) 5 3 rfl hch31.out rfl hlx31.out (by decide);have e31_4:=HS'.fixatS (j:=((0:Int)).toNat) (m:=13) 5 4 rfl hch31.out rfl hlx31.out (by decide);have e31_5:=HS'.fixatS (j:=((0:Int)).toNat) (m:=13) 5 5 rfl hch31.out rfl hlx31.out (by decide);have e31_6:=HS'.fixatS (j:=((0:Int)).toNat) (m:=13) 5 6 rfl hch31.out rfl hlx31.out (by decide);have e31_7:=HS'.fixatS (j:=((0:Int)).toNat) (m:=13) 5 7 rfl hch31.out rfl hlx31.out (by decide);have e31_8:=HS'.fixatS (j:=((0:Int)).toNat) (m:=13) 5 8 rfl hch31.out rfl hlx31.out (by decide);have e31_9:=HS'.fixatS (j:=((0:Int)).toNat) (m:=13) 5 9 rfl hch31.out rfl hlx31.out (by decide);have e31_10:=HS'.fixatS (j:=((0:Int)).toNat) (m:=13) 5 10 rfl hch31.out rfl hlx31.out (by decide);have e31_11:=HS'.fixatS (j:=((0:Int)).toNat) (m:=13) 5 11 rfl hch31.out rfl hlx31.out (by decide);have e31_12:=HS'.fixatS (j:=((0:Int)).toNat) (m:=13) 5 12 rfl hch31.out rfl hlx31.out (by decide);(try simp only [azn,Addr.add_zero',Addr.add_succ',Int.reduceToNat,Nat.reduceMul,Nat.reduceAdd] at e31_0 e31_1 e31_2 e31_3 e31_4 e31_5 e31_6 e31_7 e31_8 e31_9 e31_10 e31_11 e31_12);go_simp;with_reducible rfl) ?_
  refine dr1 6 HT fun K hK=>?_
  refine if_li (Zd.raw 13) [] [[.int .i64 ((rd_T125 t10.f0 0).f0),.string ((rd_T125 t10.f0 0).f1),.string ((rd_T125 t10.f0 0).f2),.int .i64 ((rd_T125 t10.f0 0).f3),.int .i64 ((rd_T125 t10.f0 0).f4),.string ((rd_T125 t10.f0 0).f5),.bool ((rd_T125 t10.f0 0).f6),.int .i64 ((rd_T125 t10.f0 0).f7),.int .i64 ((rd_T125 t10.f0 0).f8),.slice B31_9 (rd_T125 t10.f0 0).f9.length d31_9,.slice B31_10 (rd_T125 t10.f0 0).f10.length d31_10,.slice B31_11 (rd_T125 t10.f0 0).f11.length d31_11,.string ((rd_T125 t10.f0 0).f12)]] ([.int .i64 ((rd_T125 t10.f0 0).f0),.string ((rd_T125 t10.f0 0).f1),.string ((rd_T125 t10.f0 0).f2),.int .i64 ((rd_T125 t10.f0 0).f3),.int .i64 ((rd_T125 t10.f0 0).f4),.string ((rd_T125 t10.f0 0).f5),.bool ((rd_T125 t10.f0 0).f6),.int .i64 ((rd_T125 t10.f0 0).f7),.int .i64 ((rd_T125 t10.f0 0).f8),.slice B31_9 (rd_T125 t10.f0 0).f9.length d31_9,.slice B31_10 (rd_T125 t10.f0 0).f10.length d31_10,.slice B31_11 (rd_T125 t10.f0 0).f11.length d31_11,.string ((rd_T125 t10.f0 0).f12)]++ []) HS (MadeL.cons (js1:=[]) (c:=[.int .i64 ((rd_T125 t10.f0 0).f0),.string ((rd_T125 t10.f0 0).f1),.string ((rd_T125 t10.f0 0).f2),.int .i64 ((rd_T125 t10.f0 0).f3),.int .i64 ((rd_T125 t10.f0 0).f4),.string ((rd_T125 t10.f0 0).f5),.bool ((rd_T125 t10.f0 0).f6),.int .i64 ((rd_T125 t10.f0 0).f7),.int .i64 ((rd_T125 t10.f0 0).f8),.slice B31_9 (rd_T125 t10.f0 0).f9.length d31_9,.slice B31_10 (rd_T125 t10.f0 0).f10.length d31_10,.slice B31_11 (rd_T125 t10.f0 0).f11.length d31_11,.string ((rd_T125 t10.f0 0).f12)]) rfl (made_flat (d:=Zd.raw 13) (x:=[.int .i64 ((rd_T125 t10.f0 0).f0),.string ((rd_T125 t10.f0 0).f1),.string ((rd_T125 t10.f0 0).f2),.int .i64 ((rd_T125 t10.f0 0).f3),.int .i64 ((rd_T125 t10.f0 0).f4),.string ((rd_T125 t10.f0 0).f5),.bool ((rd_T125 t10.f0 0).f6),.int .i64 ((rd_T125 t10.f0 0).f7),.int .i64 ((rd_T125 t10.f0 0).f8),.slice B31_9 (rd_T125 t10.f0 0).f9.length d31_9,.slice B31_10 (rd_T125 t10.f0 0).f10.length d31_10,.slice B31_11 (rd_T125 t10.f0 0).f11.length d31_11,.string ((rd_T125 t10.f0 0).f12)]) (fun _=>raw_mk 13 _ _ [.int .i64 ((rd_T125 t10.f0 0).f0),.string ((rd_T125 t10.f0 0).f1),.string ((rd_T125 t10.f0 0).f2),.int .i64 ((rd_T125 t10.f0 0).f3),.int .i64 ((rd_T125 t10.f0 0).f4),.string ((rd_T125 t10.f0 0).f5),.bool ((rd_T125 t10.f0 0).f6),.int .i64 ((rd_T125 t10.f0 0).f7),.int .i64 ((rd_T125 t10.f0 0).f8),.slice B31_9 (rd_T125 t10.f0 0).f9.length d31_9,.slice B31_10 (rd_T125 t10.f0 0).f10.length d31_10,.slice B31_11 (rd_T125 t10.f0 0).f11.length d31_11,.string ((rd_T125 t10.f0 0).f12)] rfl (by simp [Value.oneCell']))) MadeL.nil (by decide)) ?_;clear HS;intro v33 w33 HS F;obtain⟨B33,d33,rfl,m33⟩:=HS.formn 1 9 rfl rfl
  refine nrm 28 hK ⟨_,HS⟩ fun HH=>?_;clear hK K
  refine dl 7 HT fun K hK=>?_
  refine if_wp (by rfl) ?_;replace HS:=HS.open_fixed 5 rfl rfl;(try simp only [hpn,hpm] at HS);refine wp_append (Zd.raw 13) 5 9 HS rfl rfl (by decide) rfl rfl rfl Tryz.underlying44 info125 rfl (by decide) (by decide) (by have:=of_eq_true c35;simp only [chunks_len,List.length_cons,List.length_nil];omega) ?_;clear HS;intro v37 w37 HS;(try simp only [hpn,hpm] at HS);replace HS:=HS.close_self (d:=q125) (p:=((0:Int)).toNat) (x:=(rd_T125 t10.f0 0)) 11 10 (by decide) rfl rfl rfl ((List.getElem?_eq_getElem (by have:=of_eq_true c29;omega)).trans (congrArg some (rd_T125_get (i:=(0:Int)) (by have:=of_eq_true c29;omega)))) hch31.out;(try simp only [hpn,hpm] at HS);rw [←e_y37.out] at HS;obtain⟨B37,d37,rfl,m37⟩:=HS.vform 11 rfl
  (try simp only [hpn,hpm] at HS)
  have F:=HS.bx
  refine hK.out _ _ ?_
  clear hK K
  refine norm_ (a':=?_) ?_ ?_
  rotate_left
  · show Act.put _ (some 29) _=_;simp only [Act.put,ptn];rfl
  refine dq [8] HT ?_
  refine dl 9 HT fun K hK=>?_
  refine if_st 8 0 HS (seg:=[.slice B37 y37.length d37]) ?_;clear HS;intro w39 HS F
  refine hK.out _ _ ?_
  clear hK K
  refine dn HT ?_
  (try clear F)
  have F:=HS.bx
  obtain⟨rfl,rfl⟩:=zsome2 H
  go_wp2_with ((with_reducible refine gate_store (p:=2) rfl ?_);refine ev_st 1 0 HS (seg:=[.slice B37 y37.length d37,.slice B12 t10.f1.length d12,.slice B13 t10.f2.length d13]) ?_;clear HS;intro w30 HS F)
  exact rc 1 HS Tryz.underlying48 ⟨_,_,_,rfl,HS.pi [0,11,6,7]⟩
 obtain⟨c25a,c25b⟩:=nq c25;clear c25
 replace H:=zif' H;rcases H with⟨c32,H⟩|⟨c32,H⟩
 ·
  obtain⟨c32a,c32b⟩:=bq c32;clear c32
  (try go_wp2)
  replace H:=zbind H;obtain⟨t41,ht41,H⟩:=H
  replace H:=zgo H;obtain⟨c49,H⟩:=H
  replace H:=zlets H;obtain⟨y51,e_y51,H⟩:=H
  refine dr_start2 [.emp,.box g2 [.slice none 0 0,.slice none 0 0,.slice none 0 0] 48,.own (Zd.slice 125 q125) t5.1.f0 [.slice B6 t5.1.f0.length d6],.own (Zd.slice 103 q103) t5.1.f1 [.slice B7 t5.1.f1.length d7],.own (Zd.slice 105 q105) t5.1.f2 [.slice B8 t5.1.f2.length d8],.own (Zd.slice 125 q125) t10.f0 [.slice B11 t10.f0.length d11],.emp,.own (Zd.slice 105 q105) t10.f2 [.slice B13 t10.f2.length d13],.box g4 [.slice B11 t10.f0.length d11,.slice B12 t10.f1.length d12,.slice B13 t10.f2.length d13] 48] [7] HS (HS.ar [none,some 1,some 2,some 3,some 4,some 5,none,some 7,some 8]) #[false,false,false,false,false,false,false,false] (by kernel_rfl) rfl rfl spec_l13Any_0.tT9 (fun w34 HT HS HH=>?_)
  (try clear F)
  refine dqt [0,1,2] HT HH ?_
  refine dr1 3 HT fun K hK=>?_
  refine go_lb1 [0] HS (fun _ HL HA=>spec_l10Any_0.calls ht41.out gp1 lp1 (hV.lend HS HL) HA) Tryz.func87 ?_;clear HS;intro v43 wt41 HS F;obtain⟨B43,d43,rfl,m43⟩:=HS.form 9 rfl
  (try simp only [hpn,hpm] at HS)
  have F:=HS.bx
  refine nra 36 hK (HS.ar [none,some 1,some 2,some 3,some 4,some 5,none,some 7,some 8]) fun HH=>?_;clear hK K
  refine dr1 4 HT fun K hK=>?_
  refine if_li q103 [9] ([t41.1]:List S103) ([.string t41.1.f0,.int .i64 t41.1.f1,.int .i64 t41.1.f2,.int .i64 t41.1.f3,.int .i64 t41.1.f4,.slice B43 t41.1.f5.length d43,.string t41.1.f6]++ []) HS (MadeL.cons (js1:=[9]) (c:=[.string t41.1.f0,.int .i64 t41.1.f1,.int .i64 t41.1.f2,.int .i64 t41.1.f3,.int .i64 t41.1.f4,.slice B43 t41.1.f5.length d43,.string t41.1.f6]) rfl (fun S hd hh=>q103_pack (x:=t41.1) hd (hh 9 (.own (Zd.slice 133 q133) t41.1.f5 [.slice B43 t41.1.f5.length d43]) rfl) (by decide)) MadeL.nil (by decide)) ?_;clear HS;intro v47 w47 HS F;obtain⟨B47,d47,rfl,m47⟩:=HS.formn 1 10 rfl rfl
  refine nra 37 hK (HS.ar [none,some 1,some 2,some 3,some 4,some 5,none,some 7,some 8]) fun HH=>?_;clear hK K
  refine dr1 5 HT fun K hK=>?_
  refine wp_ap q103 6 10 HS rfl rfl Tryz.underlying45 info103 (of_eq_true c49) ?_;clear HS;intro v51 w51 HS;rw [←e_y51.out] at HS;obtain⟨B51,d51,rfl,m51⟩:=HS.form 11 rfl
  (try simp only [hpn,hpm] at HS)
  have F:=HS.bx
  refine nra 38 hK (HS.ar [none,some 1,some 2,some 3,some 4,some 5,none,some 7,some 8]) fun HH=>?_;clear hK K
  refine dq [6] HT ?_
  refine dl 7 HT fun K hK=>?_
  refine if_st 8 1 HS (seg:=[.slice B51 y51.length d51]) ?_;clear HS;intro w52 HS F
  refine hK.out _ _ ?_
  clear hK K
  refine dn HT ?_
  (try clear F)
  have F:=HS.bx
  obtain⟨rfl,rfl⟩:=zsome2 H
  go_wp2_with ((with_reducible refine gate_store (p:=2) rfl ?_);refine ev_st 1 0 HS (seg:=[.slice B11 t10.f0.length d11,.slice B51 y51.length d51,.slice B13 t10.f2.length d13]) ?_;clear HS;intro w36 HS F)
  replace HS:=HS.to_view 5 rfl
  (try simp only [hpn,hpm] at HS)
  exact rc 1 HS Tryz.underlying48 ⟨_,_,_,rfl,HS.pi [0,5,11,7]⟩
 obtain⟨c32a,c32b⟩:=nq c32;clear c32
 replace H:=zif' H;rcases H with⟨c38,H⟩|⟨c38,H⟩
 ·
  obtain⟨c38a,c38b⟩:=bq c38;clear c38
  (try go_wp2)
  replace H:=zbind H;obtain⟨t53,ht53,H⟩:=H
  replace H:=zgo H;obtain⟨c55,H⟩:=H
  replace H:=zlets H;obtain⟨y56,e_y56,H⟩:=H
  refine dr_start2 [.box p0 [.slice Ap1 a0.f0.length cp1,.int .i64 t5.2.f1,.int .i64 t5.2.f2] 110,.box g2 [.slice none 0 0,.slice none 0 0,.slice none 0 0] 48,.own (Zd.slice 125 q125) t5.1.f0 [.slice B6 t5.1.f0.length d6],.own (Zd.slice 103 q103) t5.1.f1 [.slice B7 t5.1.f1.length d7],.own (Zd.slice 105 q105) t5.1.f2 [.slice B8 t5.1.f2.length d8],.own (Zd.slice 125 q125) t10.f0 [.slice B11 t10.f0.length d11],.own (Zd.slice 103 q103) t10.f1 [.slice B12 t10.f1.length d12],.emp,.box g4 [.slice B11 t10.f0.length d11,.slice B12 t10.f1.length d12,.slice B13 t10.f2.length d13] 48] [6] HS (HS.ar [some 0,some 1,some 2,some 3,some 4,some 5,some 6,none,some 8]) #[false,false,false,false,false,false,false] (by kernel_rfl) rfl rfl spec_l13Any_0.tT11 (fun w40 HT HS HH=>?_)
  (try clear F)
  refine dqt [0,1] HT HH ?_
  refine dr1 2 HT fun K hK=>?_
  refine goes_ Tryz.func88 (by kernel_rfl) rfl #[] (by rfl) rfl rfl (by simp only [mpn]) ?_;refine(spec_l12Anchor.calls ht53.out).mono ?_;rintro _ wt53 ⟨rfl,HQ⟩;refine⟨_,rfl,?_⟩;replace HS:=HS.call HQ;clear HQ;(try clear F)
  (try simp only [hpn,hpm] at HS)
  have F:=HS.bx
  refine nra 44 hK (HS.ar [some 0,some 1,some 2,some 3,some 4,some 5,some 6,none,some 8]) fun HH=>?_;clear hK K
  refine dr1 3 HT fun K hK=>?_
  refine if_li q105 [] ([t53]:List S105) ([.string t53.f0,.string t53.f1]++ []) HS (MadeL.cons (js1:=[]) (c:=[.string t53.f0,.string t53.f1]) rfl (made_flat (fun _=>q105_flat _ _ _)) MadeL.nil (by decide)) ?_;clear HS;intro v54 w54 HS F;obtain⟨B54,d54,rfl,m54⟩:=HS.formn 1 9 rfl rfl
  refine nra 45 hK (HS.ar [some 0,some 1,some 2,some 3,some 4,some 5,some 6,none,some 8]) fun HH=>?_;clear hK K
  refine dr1 4 HT fun K hK=>?_
  refine wp_ap q105 7 9 HS rfl rfl Tryz.underlying46 info105 (of_eq_true c55) ?_;clear HS;intro v56 w56 HS;rw [←e_y56.out] at HS;obtain⟨B56,d56,rfl,m56⟩:=HS.form 10 rfl
  (try simp only [hpn,hpm] at HS)
  have F:=HS.bx
  refine nra 46 hK (HS.ar [some 0,some 1,some 2,some 3,some 4,some 5,some 6,none,some 8]) fun HH=>?_;clear hK K
  refine dq [5] HT ?_
  refine dl 6 HT fun K hK=>?_
  refine if_st 8 2 HS (seg:=[.slice B56 y56.length d56]) ?_;clear HS;intro w57 HS F
  refine hK.out _ _ ?_
  clear hK K
  refine dn HT ?_
  (try clear F)
  have F:=HS.bx
  obtain⟨rfl,rfl⟩:=zsome2 H
  go_wp2_with ((with_reducible refine gate_store (p:=2) rfl ?_);refine ev_st 1 0 HS (seg:=[.slice B11 t10.f0.length d11,.slice B12 t10.f1.length d12,.slice B56 y56.length d56]) ?_;clear HS;intro w42 HS F)
  replace HS:=HS.to_view 5 rfl
  (try simp only [hpn,hpm] at HS)
  exact rc 1 HS Tryz.underlying48 ⟨_,_,_,rfl,HS.pi [0,5,6,10]⟩
 obtain⟨c38a,c38b⟩:=nq c38;clear c38
 replace H:=znif' H;rcases H with⟨c44,H⟩|⟨c44,H⟩
 ·
  obtain⟨c44a,c44b⟩:=nq c44;clear c44
  obtain⟨rfl,rfl⟩:=zsome2 H
  go_wp2_with ((with_reducible refine gate_store (p:=2) rfl ?_);refine ev_st 1 0 HS (seg:=[.slice B11 t10.f0.length d11,.slice B12 t10.f1.length d12,.slice B13 t10.f2.length d13]) ?_;clear HS;intro w50 HS F)
  replace HS:=HS.to_view 5 rfl
  (try simp only [hpn,hpm] at HS)
  exact rc 1 HS Tryz.underlying48 ⟨_,_,_,rfl,HS.pi [0,5,6,7]⟩
 obtain⟨c44a,c44b⟩:=bq c44;clear c44
 (try go_wp2)
 replace H:=zbind H;obtain⟨t59,ht59,H⟩:=H
 replace H:=zgo H;obtain⟨c61,H⟩:=H
 replace H:=zlets H;obtain⟨y62,e_y62,H⟩:=H
 refine dr_start2 [.box p0 [.slice Ap1 a0.f0.length cp1,.int .i64 t5.2.f1,.int .i64 t5.2.f2] 110,.box g2 [.slice none 0 0,.slice none 0 0,.slice none 0 0] 48,.own (Zd.slice 125 q125) t5.1.f0 [.slice B6 t5.1.f0.length d6],.own (Zd.slice 103 q103) t5.1.f1 [.slice B7 t5.1.f1.length d7],.own (Zd.slice 105 q105) t5.1.f2 [.slice B8 t5.1.f2.length d8],.own (Zd.slice 125 q125) t10.f0 [.slice B11 t10.f0.length d11],.own (Zd.slice 103 q103) t10.f1 [.slice B12 t10.f1.length d12],.emp,.box g4 [.slice B11 t10.f0.length d11,.slice B12 t10.f1.length d12,.slice B13 t10.f2.length d13] 48] [7] HS (HS.ar [some 0,some 1,some 2,some 3,some 4,some 5,some 6,none,some 8]) #[false,false,false,false,false,false,false,false] (by kernel_rfl) rfl rfl spec_l13Any_0.tT13 (fun w46 HT HS HH=>?_)
 (try clear F)
 refine dqt [0,1] HT HH ?_
 refine dr1 2 HT fun K hK=>?_
 refine go_cl HS (spec_PublicAt.calls ht59.out) Tryz.func89 ?_;clear HS;intro wt59 HS F
 refine nra 52 hK (HS.ar [some 0,some 1,some 2,some 3,some 4,some 5,some 6,none,some 8]) fun HH=>?_;clear hK K
 refine dq [3] HT ?_
 refine dr1 4 HT fun K hK=>?_
 refine if_li q105 [] ([(⟨(⟨#[115,117,98,46,99,97,46,111,114,103]⟩:ByteArray),t59⟩:S105)]:List S105) ([.string (⟨#[115,117,98,46,99,97,46,111,114,103]⟩:ByteArray),.string t59]++ []) HS (MadeL.cons (js1:=[]) (c:=[.string (⟨#[115,117,98,46,99,97,46,111,114,103]⟩:ByteArray),.string t59]) rfl (made_flat (fun _=>q105_flat _ _ _)) MadeL.nil (by decide)) ?_;clear HS;intro v60 w60 HS F;obtain⟨B60,d60,rfl,m60⟩:=HS.formn 1 9 rfl rfl
 refine nra 54 hK (HS.ar [some 0,some 1,some 2,some 3,some 4,some 5,some 6,none,some 8]) fun HH=>?_;clear hK K
 refine dr1 5 HT fun K hK=>?_
 refine wp_ap q105 7 9 HS rfl rfl Tryz.underlying46 info105 (of_eq_true c61) ?_;clear HS;intro v62 w62 HS;rw [←e_y62.out] at HS;obtain⟨B62,d62,rfl,m62⟩:=HS.form 10 rfl
 (try simp only [hpn,hpm] at HS)
 have F:=HS.bx
 refine nra 55 hK (HS.ar [some 0,some 1,some 2,some 3,some 4,some 5,some 6,none,some 8]) fun HH=>?_;clear hK K
 refine dq [6] HT ?_
 refine dl 7 HT fun K hK=>?_
 refine if_st 8 2 HS (seg:=[.slice B62 y62.length d62]) ?_;clear HS;intro w63 HS F
 refine hK.out _ _ ?_
 clear hK K
 refine dn HT ?_
 (try clear F)
 have F:=HS.bx
 obtain⟨rfl,rfl⟩:=zsome2 H
 go_wp2_with ((with_reducible refine gate_store (p:=2) rfl ?_);refine ev_st 1 0 HS (seg:=[.slice B11 t10.f0.length d11,.slice B12 t10.f1.length d12,.slice B62 y62.length d62]) ?_;clear HS;intro w48 HS F)
 replace HS:=HS.to_view 5 rfl
 (try simp only [hpn,hpm] at HS)
 exact rc 1 HS Tryz.underlying48 ⟨_,_,_,rfl,HS.pi [0,5,6,10]⟩
def spec_DrawPlansOk.f (k:Nat)(a0:(List Int)):Option ((List S39)×S48):=((spec_l01New.f k a0).bind fun t3=>((spec_l16Any_0.f k (⟨a0,t3.f1,t3.f2⟩:S110)).bind fun t6=>((spec_l13Any_0.f k (⟨a0,t6.2.f1,t6.2.f2⟩:S110)).bind fun t9=>(some (t6.1,(⟨t9.1.f0,t9.1.f1,t9.1.f2⟩:S48))))))
theorem spec_DrawPlansOk.calls {k:Nat}{a0:(List Int)}{Ap0:Option Addr}{np0 cp0:Nat}{r1:(List S39)}{r2:S48}{w:World}(h:spec_DrawPlansOk.f k a0=some (r1,r2))(gp0:(Kd.int .u8).C w Ap0 np0 a0)(lp0:np0≤cp0):
    Calls Tryz.prog 17 #[.slice Ap0 np0 cp0] w (fun e w'=>∃v0_ v1_ v2_ v3_:Value,e=.returned (.tuple #[v0_,.agg #[v1_,v2_,v3_]])∧Hp noFP w w' [.own (Zd.slice 39 q39) r1 [v0_],.own (Zd.view 125 q125) r2.f0 [v1_],.own (Zd.slice 103 q103) r2.f1 [v2_],.own (Zd.slice 105 q105) r2.f2 [v3_]]):=by
 obtain rfl:=C_len gp0
 have HS:=Hp.start w
 have H:=Aside0.mk h
 clear h
 unfold spec_DrawPlansOk.f at H
 go_enter Tryz.func17,Tryz.ntmps17
 replace H:=zbind H;obtain⟨t3,ht3,H⟩:=H
 replace H:=zbind H;obtain⟨t6,ht6,H⟩:=H
 replace H:=zbind H;obtain⟨t9,ht9,H⟩:=H
 obtain⟨rfl,rfl⟩:=zsome2 H
 go_wp2_with (first|((with_reducible refine gd 3 rfl ?_);refine ev_bx HS ?_;clear HS;intro g3 w3 HS F)|((with_reducible refine gd 7 rfl ?_);refine ev_call rfl Tryz.func29 (by kernel_rfl) rfl #[.slice Ap0 a0.length cp0] rfl (by simp only [mpn];rfl) ?_;refine(spec_l01New.calls ht3.out (HS.ro gp0) lp0).mono ?_;rintro _ wt3 ⟨g4,rfl,HQ⟩;refine⟨_,rfl,?_⟩;replace HS:=HS.call HQ;clear HQ;(try clear F);(try simp only [hpn,hpm] at HS);have F:=HS.bx)|((with_reducible refine gd 9 rfl ?_);refine ev_lb1 [1] HS (fun _ HL HA=>spec_l16Any_0.calls ht6.out gp0 lp0 (HS.view HL) HA) Tryz.func57 ?_;clear HS;intro v7 wt6 HS F;obtain⟨B7,d7,rfl,m7⟩:=HS.form 2 rfl;(try simp only [hpn,hpm] at HS);have F:=HS.bx)|((with_reducible refine gd 12 rfl ?_);refine ev_lb3 [1] HS (fun _ HL HA=>spec_l13Any_0.calls ht9.out gp0 lp0 (HS.view HL) HA) Tryz.func58 ?_;clear HS;intro v10 v11 v12 wt9 HS F;obtain⟨B10,d10,rfl,m10⟩:=HS.vform 3 rfl;obtain⟨B11,d11,rfl,m11⟩:=HS.form 4 rfl;obtain⟨B12,d12,rfl,m12⟩:=HS.form 5 rfl;(try simp only [hpn,hpm] at HS);have F:=HS.bx)|((with_reducible refine gate_store (p:=3) rfl ?_);refine ev_st 0 0 HS (seg:=[.slice B10 t9.1.f0.length d10,.slice B11 t9.1.f1.length d11,.slice B12 t9.1.f2.length d12]) ?_;clear HS;intro w14 HS F))
 exact rl rfl (.tmp (.cell _ _ _ _ _ rfl (HS.boxAt (i:=0) rfl) Tryz.underlying48 rfl (by kernel_rfl) .nil)) ⟨_,_,_,_,rfl,HS.pi [2,3,4,5]⟩
def spec_DrawPlanAt.f (k:Nat)(a0:(List Int)):Option ((List S39)×Int):=((spec_l01New.f k a0).bind fun t1=>((spec_l01Below_0.f (⟨a0,t1.f1,t1.f2⟩:S110) 4).bind fun t4=>((spec_l16Any_0.f k (⟨a0,t4.2.f1,t4.2.f2⟩:S110)).bind fun t6=>(some (t6.1,t4.1)))))
theorem spec_DrawPlanAt.calls {k:Nat}{a0:(List Int)}{Ap0:Option Addr}{np0 cp0:Nat}{r1:(List S39)}{r2:Int}{w:World}(h:spec_DrawPlanAt.f k a0=some (r1,r2))(gp0:(Kd.int .u8).C w Ap0 np0 a0)(lp0:np0≤cp0):
    Calls Tryz.prog 18 #[.slice Ap0 np0 cp0] w (fun e w'=>∃v0_:Value,e=.returned (.tuple #[v0_,.int .i64 r2])∧Hp noFP w w' [.own (Zd.slice 39 q39) r1 [v0_]]):=by
 obtain rfl:=C_len gp0
 have HS:=Hp.start w
 have H:=Aside0.mk h
 clear h
 unfold spec_DrawPlanAt.f at H
 go_enter Tryz.func18,Tryz.ntmps18
 replace H:=zbind H;obtain⟨t1,ht1,H⟩:=H
 replace H:=zbind H;obtain⟨t4,ht4,H⟩:=H
 replace H:=zbind H;obtain⟨t6,ht6,H⟩:=H
 obtain⟨rfl,rfl⟩:=zsome2 H
 go_wp2_with (first|((with_reducible refine gd 7 rfl ?_);refine ev_call rfl Tryz.func29 (by kernel_rfl) rfl #[.slice Ap0 a0.length cp0] rfl (by simp only [mpn];rfl) ?_;refine(spec_l01New.calls ht1.out (HS.ro gp0) lp0).mono ?_;rintro _ wt1 ⟨g2,rfl,HQ⟩;refine⟨_,rfl,?_⟩;replace HS:=HS.call HQ;clear HQ;(try clear F);(try simp only [hpn,hpm] at HS);have F:=HS.bx)|((with_reducible refine gd 9 rfl ?_);refine ev_lb [0] HS (fun _ HL HA=>spec_l01Below_0.calls ht4.out gp0 lp0 (HS.view HL) HA) Tryz.func45 ?_;clear HS;intro wt4 HS F)|((with_reducible refine gd 11 rfl ?_);refine ev_lb1 [0] HS (fun _ HL HA=>spec_l16Any_0.calls ht6.out gp0 lp0 (HS.view HL) HA) Tryz.func57 ?_;clear HS;intro v7 wt6 HS F;obtain⟨B7,d7,rfl,m7⟩:=HS.form 1 rfl;(try simp only [hpn,hpm] at HS);have F:=HS.bx))
 exact rl rfl (.tmp (.tmp .nil)) ⟨_,rfl,HS.pi [1]⟩
def spec_DrawTrusting.f (k:Nat)(a0:(List Int)):Option (S48×S39):=((spec_l01New.f k a0).bind fun t5=>((spec_l16Any_0.f k (⟨a0,t5.f1,t5.f2⟩:S110)).bind fun t8=>((spec_l13Any_0.f k (⟨a0,t8.2.f1,t8.2.f2⟩:S110)).bind fun t7=>((spec_l01Below_0.f (⟨a0,t7.2.f1,t7.2.f2⟩:S110) (t8.1.length:Int)).bind fun t15=>(if 0≤t15.1 then(if t15.1<(t8.1.length:Int)then(some ((⟨t7.1.f0,t7.1.f1,t7.1.f2⟩:S48),(⟨(rd_T39 t8.1 t15.1).f0,(rd_T39 t8.1 t15.1).f1,(⟨(rd_T39 t8.1 t15.1).f2.f0,(rd_T39 t8.1 t15.1).f2.f1,(rd_T39 t8.1 t15.1).f2.f2,(rd_T39 t8.1 t15.1).f2.f3,(rd_T39 t8.1 t15.1).f2.f4⟩:S37)⟩:S39)))else none)else none)))))
def spec_DrawTrusting.T3:TT:=(true,[([],[]),([0],[0]),([],[]),([],[]),([],[]),([4],[4]),([3,5,1],[3,5]),([2,6],[2,6]),([7],[7]),([1,6,0,1],[1]),([8,9,0,1,2,3,4,5,6,7,8,9],[8])])
theorem spec_DrawTrusting.tT3:rtab .any (opsOf Tryz.f19 3)=spec_DrawTrusting.T3:=by kernel_rfl
theorem spec_DrawTrusting.calls {k:Nat}{a0:(List Int)}{Ap0:Option Addr}{np0 cp0:Nat}{r1:S48}{r2:S39}{w:World}(h:spec_DrawTrusting.f k a0=some (r1,r2))(gp0:(Kd.int .u8).C w Ap0 np0 a0)(lp0:np0≤cp0):
    Calls Tryz.prog 19 #[.slice Ap0 np0 cp0] w (fun e w'=>∃v0_ v1_ v2_ v3_ v4_:Value,e=.returned (.tuple #[.agg #[v0_,v1_,v2_],.agg #[.int .i64 r2.f0,v3_,.int .i64 r2.f2.f0,v4_,.bool r2.f2.f2,.bool r2.f2.f3,.int .i64 r2.f2.f4]])∧Hp noFP w w' [.own (Zd.view 125 q125) r1.f0 [v0_],.own (Zd.slice 103 q103) r1.f1 [v1_],.own (Zd.slice 105 q105) r1.f2 [v2_],.own (Zd.slice 3 (Zd.int .i64)) r2.f1 [v3_],.own (Zd.slice 3 (Zd.int .i64)) r2.f2.f1 [v4_]]):=by
 obtain rfl:=C_len gp0
 have HS:=Hp.start w
 have H:=Aside0.mk h
 clear h
 unfold spec_DrawTrusting.f at H
 go_enter Tryz.func19,Tryz.ntmps19
 replace H:=zbind H;obtain⟨t5,ht5,H⟩:=H
 replace H:=zbind H;obtain⟨t8,ht8,H⟩:=H
 go_wp2_with (first|((with_reducible refine gd 2 rfl ?_);refine ev_bx HS ?_;clear HS;intro g2 w2 HS F)|((with_reducible refine gd 3 rfl ?_);refine ev_bx HS ?_;clear HS;intro g3 w3 HS F)|((with_reducible refine gd 7 rfl ?_);refine ev_call rfl Tryz.func29 (by kernel_rfl) rfl #[.slice Ap0 a0.length cp0] rfl (by simp only [mpn];rfl) ?_;refine(spec_l01New.calls ht5.out (HS.ro gp0) lp0).mono ?_;rintro _ wt5 ⟨g6,rfl,HQ⟩;refine⟨_,rfl,?_⟩;replace HS:=HS.call HQ;clear HQ;(try clear F);(try simp only [hpn,hpm] at HS);have F:=HS.bx)|((with_reducible refine gd 9 rfl ?_);refine ev_lb1 [2] HS (fun _ HL HA=>spec_l16Any_0.calls ht8.out gp0 lp0 (HS.view HL) HA) Tryz.func57 ?_;clear HS;intro v9 wt8 HS F;obtain⟨B9,d9,rfl,m9⟩:=HS.form 3 rfl;(try simp only [hpn,hpm] at HS);have F:=HS.bx))
 obtain⟨in11,HS⟩:=HS.fix_row 3 rfl
 (try simp only [hpn,hpm] at HS)
 (try clear F)
 have F:=HS.bx
 replace H:=zbind H;obtain⟨t7,ht7,H⟩:=H
 replace H:=zbind H;obtain⟨t15,ht15,H⟩:=H
 replace H:=zgo H;obtain⟨c16,H⟩:=H
 replace H:=zgo H;obtain⟨c17,H⟩:=H
 obtain⟨ad18,B18_1,d18_1,B18_3,d18_3,rfl,e18_0,e18_1,e18_2,e18_3,e18_4,e18_5,e18_6,m18_1,y18_1,m18_3,y18_3⟩:=at_T39 (HS.rdf 3 rfl) t15.1 (of_eq_true c16) (of_eq_true c17)
 have hch18:=Aside0.mk <| HS.chunk (vs:=[.int .i64 ((rd_T39 t8.1 t15.1).f0),.slice B18_1 (rd_T39 t8.1 t15.1).f1.length d18_1,.int .i64 ((rd_T39 t8.1 t15.1).f2.f0),.slice B18_3 (rd_T39 t8.1 t15.1).f2.f1.length d18_3,.bool ((rd_T39 t8.1 t15.1).f2.f2),.bool ((rd_T39 t8.1 t15.1).f2.f3),.int .i64 ((rd_T39 t8.1 t15.1).f2.f4)]) (j:=(t15.1).toNat) (m:=7) 3 rfl rfl (by have:=of_eq_true c16;have:=of_eq_true c17;omega) rfl (fun q hq=>match q,hq with|0,_=>e18_0|1,_=>(by rw [add_field _ _ 1 (by omega)];exact e18_1)|2,_=>(by rw [add_field _ _ 2 (by omega)];exact e18_2)|3,_=>(by rw [add_field _ _ 3 (by omega)];exact e18_3)|4,_=>(by rw [add_field _ _ 4 (by omega)];exact e18_4)|5,_=>(by rw [add_field _ _ 5 (by omega)];exact e18_5)|6,_=>(by rw [add_field _ _ 6 (by omega)];exact e18_6)|q+7,hq=>absurd hq (by omega))
 have hlx18:Aside0 (0<t8.1.length):=⟨by have:=of_eq_true c16;have:=of_eq_true c17;omega⟩
 refine dr_start2 [.emp,.box g3 [.int .i64 0,.slice none 0 0,.int .i64 0,.slice none 0 0,.bool false,.bool false,.int .i64 0] 39,.emp,.own (Zd.fixed 39 q39 in11) t8.1 [.slice (some ad18) t8.1.length d9]] [10] HS (HS.ar [none,some 1,none,some 3]) #[false,false,false,false,false,false,false,false,false,false,false] (by kernel_rfl) rfl rfl spec_DrawTrusting.tT3 (fun w13 HT HS HH=>?_)
 (try clear F)
 refine dq [0,2,3,4,5] HT ?_
 refine dr1 1 HT fun K hK=>?_
 refine go_lb3 [2] HS (fun _ HL HA=>spec_l13Any_0.calls ht7.out gp0 lp0 (HS.view HL) HA) Tryz.func58 ?_;clear HS;intro v10 v12 v14 wt7 HS F;obtain⟨B10,d10,rfl,m10⟩:=HS.vform 4 rfl;obtain⟨B12,d12,rfl,m12⟩:=HS.form 5 rfl;obtain⟨B14,d14,rfl,m14⟩:=HS.form 6 rfl
 (try simp only [hpn,hpm] at HS)
 have F:=HS.bx
 refine nra 11 hK (HS.ar [none,some 1,none,some 3]) fun HH=>?_;clear hK K
 refine dr1 6 HT fun K hK=>?_
 refine go_lb [2] HS (fun _ HL HA=>spec_l01Below_0.calls ht15.out gp0 lp0 (HS.view HL) HA) Tryz.func45 ?_;clear HS;intro wt15 HS F
 (try simp only [hpn,hpm] at HS)
 have F:=HS.bx
 refine nra 16 hK (HS.ar [none,some 1,none,some 3]) fun HH=>?_;clear hK K
 refine dq [7] HT ?_
 refine dtk 8 18 HT HH rfl (by rintro w' ⟨rs',HS'⟩;have e18_0:=HS'.fixat0 (j:=(t15.1).toNat) (m:=7) 3 rfl hch18.out rfl hlx18.out;have e18_1:=HS'.fixatS (j:=(t15.1).toNat) (m:=7) 3 1 rfl hch18.out rfl hlx18.out (by decide);have e18_2:=HS'.fixatS (j:=(t15.1).toNat) (m:=7) 3 2 rfl hch18.out rfl hlx18.out (by decide);have e18_3:=HS'.fixatS (j:=(t15.1).toNat) (m:=7) 3 3 rfl hch18.out rfl hlx18.out (by decide);have e18_4:=HS'.fixatS (j:=(t15.1).toNat) (m:=7) 3 4 rfl hch18.out rfl hlx18.out (by decide);have e18_5:=HS'.fixatS (j:=(t15.1).toNat) (m:=7) 3 5 rfl hch18.out rfl hlx18.out (by decide);have e18_6:=HS'.fixatS (j:=(t15.1).toNat) (m:=7) 3 6 rfl hch18.out rfl hlx18.out (by decide);go_simp;with_reducible rfl) ?_
 refine dr1 9 HT fun K hK=>?_
 refine if_st 0 0 HS (seg:=[.slice B10 t7.1.f0.length d10,.slice B12 t7.1.f1.length d12,.slice B14 t7.1.f2.length d14]) ?_;clear HS;intro w20 HS F
 refine hK.out _ _ ⟨[],HS.ar [none,some 1,none,some 3]⟩ (fun HH=>?_)
 clear hK K
 refine dl 10 HT fun K hK=>?_
 refine if_st 1 0 HS (seg:=[.int .i64 ((rd_T39 t8.1 t15.1).f0),.slice B18_1 (rd_T39 t8.1 t15.1).f1.length d18_1,.int .i64 ((rd_T39 t8.1 t15.1).f2.f0),.slice B18_3 (rd_T39 t8.1 t15.1).f2.f1.length d18_3,.bool ((rd_T39 t8.1 t15.1).f2.f2),.bool ((rd_T39 t8.1 t15.1).f2.f3),.int .i64 ((rd_T39 t8.1 t15.1).f2.f4)]) ?_;clear HS;intro w21 HS F
 refine hK.out _ _ ?_
 clear hK K
 refine dn HT ?_
 (try clear F)
 have F:=HS.bx
 obtain⟨rfl,rfl⟩:=zsome2 H
 go_wp2
 replace HS:=HS.one_fixed (d:=q39) (j:=(t15.1).toNat) (x:=(rd_T39 t8.1 t15.1)) (vs:=[.int .i64 ((rd_T39 t8.1 t15.1).f0),.slice B18_1 (rd_T39 t8.1 t15.1).f1.length d18_1,.int .i64 ((rd_T39 t8.1 t15.1).f2.f0),.slice B18_3 (rd_T39 t8.1 t15.1).f2.f1.length d18_3,.bool ((rd_T39 t8.1 t15.1).f2.f2),.bool ((rd_T39 t8.1 t15.1).f2.f3),.int .i64 ((rd_T39 t8.1 t15.1).f2.f4)]) 3 rfl rfl ((List.getElem?_eq_getElem (by have:=of_eq_true c16;have:=of_eq_true c17;omega)).trans (congrArg some (rd_T39_get (i:=t15.1) (by have:=of_eq_true c16;have:=of_eq_true c17;omega)))) hch18.out
 (try simp only [hpn,hpm] at HS)
 replace HS:=HS.un_iso 3 rfl
 replace HS:=HS.split_pair (n:=1) 3 rfl rfl
 (try simp only [hpn,hpm,List.take,List.drop] at HS)
 replace HS:=HS.split_pair (n:=1) 7 rfl rfl
 (try simp only [hpn,hpm,List.take,List.drop] at HS)
 (try simp only [hpn,hpm,List.take,List.drop] at HS)
 replace HS:=HS.un_iso 8 rfl
 replace HS:=HS.split_pair (n:=1) 8 rfl rfl
 (try simp only [hpn,hpm,List.take,List.drop] at HS)
 replace HS:=HS.split_pair (n:=1) 9 rfl rfl
 (try simp only [hpn,hpm,List.take,List.drop] at HS)
 replace HS:=HS.split_pair (n:=1) 10 rfl rfl
 (try simp only [hpn,hpm,List.take,List.drop] at HS)
 replace HS:=HS.split_pair (n:=1) 11 rfl rfl
 (try simp only [hpn,hpm,List.take,List.drop] at HS)
 (try simp only [hpn,hpm,List.take,List.drop] at HS)
 exact rl rfl (.cell _ _ _ _ _ rfl (HS.boxAt (i:=0) rfl) Tryz.underlying48 rfl (by kernel_rfl) (.cell _ _ _ _ _ rfl (HS.boxAt (i:=1) rfl) Tryz.underlying39 rfl (by kernel_rfl) .nil)) ⟨_,_,_,_,_,rfl,HS.pi [4,5,6,7,9]⟩
def laws_sameInts.l0:Nat→Int→(List Int)→(List Int)→Option (Bool)
  |0,_,_,_=>none
  |k+1,x5,a0,a1=>(if x5<(a0.length:Int)then(if 0≤x5 then(if x5<(a0.length:Int)then(if x5<(a1.length:Int)then(if(rd a0 x5)=(rd a1 x5)then(laws_sameInts.l0 k (wrap64 (x5+1)) a0 a1)else(some false))else none)else none)else none)else(some true))
def laws_sameInts.f (k:Nat)(a0:(List Int))(a1:(List Int)):Option (Bool):=(if(a0.length:Int)=(a1.length:Int)then(laws_sameInts.l0 k 0 a0 a1)else(some false))
def laws_sameInts.T6:TT:=(true,[([],[]),([],[]),([0,1],[0,1]),([2],[2]),([],[]),([],[]),([4,5],[4,5]),([6],[6]),([3,7],[3,7])])
theorem laws_sameInts.tT6:rtab .any (opsOf Tryz.f20 6)=laws_sameInts.T6:=by kernel_rfl
theorem laws_sameInts.calls {k:Nat}{a0:(List Int)}{a1:(List Int)}{Ap0 Ap1:Option Addr}{np0 cp0 np1 cp1:Nat}{r:Bool}{w:World}(h:laws_sameInts.f k a0 a1=some r)(gp0:(Kd.int .i64).C w Ap0 np0 a0)(lp0:np0≤cp0)(gp1:(Kd.int .i64).C w Ap1 np1 a1)(lp1:np1≤cp1):
    Calls Tryz.prog 20 #[.slice Ap0 np0 cp0,.slice Ap1 np1 cp1] w (fun e w'=>e=.returned (.bool r)∧Hp noFP w w' []):=by
 obtain rfl:=C_len gp0
 obtain rfl:=C_len gp1
 have HS:=Hp.start w
 have H:=Aside0.mk h
 clear h
 unfold laws_sameInts.f at H
 go_enter Tryz.func20,Tryz.ntmps20
 replace H:=znif' H;rcases H with⟨c1,H⟩|⟨c1,H⟩
 ·
  obtain⟨c1a,c1b⟩:=nq c1;clear c1
  obtain rfl:=zsome H
  go_wp2
  go_ret
  exact HS.pk
 obtain⟨c1a,c1b⟩:=bq c1;clear c1
 go_wp2
 go_loopg [5] k (fun kq v_5 w'=>∃(x5:Int),v_5=.int .i64 x5∧Aside0 (laws_sameInts.l0 kq x5 a0 a1=some r)∧Aside0 (kq≤k)∧Hp noFP w w' [])
 case atStart=>exact⟨_,rfl,H,⟨Nat.le_refl _⟩,HS⟩
 case round=>
  clear HS H;(try clear F)
  obtain⟨x5,rfl,H,HKk4,HS⟩:=hrel
  cases gk with
  |zero=>exact absurd H.out (by simp [laws_sameInts.l0])
  | succ k4=>
   simp only [laws_sameInts.l0] at H
   replace H:=znif H;rcases H with⟨c7,H⟩|⟨c7,H⟩
   ·
    obtain rfl:=zsome H
    go_wp2
    go_ret
    exact HS.pk
   (try go_wp2)
   replace H:=zgo H;obtain⟨c3,H⟩:=H
   replace H:=zgo H;obtain⟨c8,H⟩:=H
   obtain⟨ad10,rfl,e10_0⟩:=Kd.at_int gp0 x5 (of_eq_true c3) (of_eq_true c8)
   replace H:=zgo H;obtain⟨c12,H⟩:=H
   obtain⟨ad13,rfl,e13_0⟩:=Kd.at_int gp1 x5 (of_eq_true c3) (of_eq_true c12)
   refine dr_start [] HS #[false,false,false,false,false,false,false,false,false] (by kernel_rfl) rfl rfl laws_sameInts.tT6 (fun w9 HT HS HH=>?_)
   (try clear F)
   refine dq [0,1,2] HT ?_
   refine dtk 3 20 HT HH rfl (by rintro w' ⟨rs',HS'⟩;have e10_0:=HS'.keepc e10_0;go_simp;with_reducible rfl) ?_
   refine dq [4,5,6] HT ?_
   refine dtk 7 24 HT HH rfl (by rintro w' ⟨rs',HS'⟩;have e13_0:=HS'.keepc e13_0;go_simp;with_reducible rfl) ?_
   refine dq [8] HT ?_
   refine dn HT ?_
   replace H:=znif' H;rcases H with⟨c11,H⟩|⟨c11,H⟩
   ·
    obtain⟨c11a,c11b⟩:=nq c11;clear c11
    (try simp only [c11a,c11b,dcn])
    obtain rfl:=zsome H
    go_wp2
    go_ret
    exact HS.pk
   obtain⟨c11a,c11b⟩:=bq c11;clear c11
   (try simp only [c11a,c11b,dcn])
   go_wp2
   go_roundg k4
   case measure=>have:=HKk4.out;omega
   case rel=>exact⟨_,rfl,H,⟨by have:=HKk4.out;omega⟩,HS.pi []⟩
def impl_within.f (a0:Int)(a1:Int)(a2:Int):Option (Bool):=(if a1≤a0 then(some (decide (a0≤a2)))else(some false))
theorem impl_within.calls {a0:Int}{a1:Int}{a2:Int}{r:Bool}{w:World}(h:impl_within.f a0 a1 a2=some r):
    Calls Tryz.prog 52 #[.int .i64 a0,.int .i64 a1,.int .i64 a2] w (fun e w'=>e=.returned (.bool r)∧Hp noFP w w' []):=by
 have HS:=Hp.start w
 have H:=Aside0.mk h
 clear h
 unfold impl_within.f at H
 go_enter Tryz.func52,Tryz.ntmps52
 replace H:=zif H;rcases H with⟨c1,H⟩|⟨c1,H⟩
 ·
  obtain rfl:=zsome H
  go_wp2
  go_ret
  exact HS.pk
 obtain rfl:=zsome H
 go_wp2
 go_ret
 exact HS.pk
def impl_PoliciesOk.l0:Nat→Int→(List Int)→Option (Bool)
  |0,_,_=>none
  |k+1,x4,a0=>(if x4<(a0.length:Int)then(if 0≤x4 then(if x4<(a0.length:Int)then((impl_within.f (rd a0 x4) 0 99).bind fun t10=>(if t10=true then(if 0<x4 then(if 0≤(wrap64 (x4 - 1))then(if(wrap64 (x4 - 1))<(a0.length:Int)then(if(rd a0 x4)≤(rd a0 (wrap64 (x4 - 1)))then(some false)else(impl_PoliciesOk.l0 k (wrap64 (x4+1)) a0))else none)else none)else(impl_PoliciesOk.l0 k (wrap64 (x4+1)) a0))else(some false)))else none)else none)else(some (decide ((a0.length:Int)≤4))))
def impl_PoliciesOk.f (k:Nat)(a0:(List Int)):Option (Bool):=(impl_PoliciesOk.l0 k 0 a0)
theorem impl_PoliciesOk.calls {k:Nat}{a0:(List Int)}{Ap0:Option Addr}{np0 cp0:Nat}{r:Bool}{w:World}(h:impl_PoliciesOk.f k a0=some r)(gp0:(Kd.int .i64).C w Ap0 np0 a0)(lp0:np0≤cp0):
    Calls Tryz.prog 119 #[.slice Ap0 np0 cp0] w (fun e w'=>e=.returned (.bool r)∧Hp noFP w w' []):=by
 obtain rfl:=C_len gp0
 have HS:=Hp.start w
 have H:=Aside0.mk h
 clear h
 unfold impl_PoliciesOk.f at H
 go_enter Tryz.func119,Tryz.ntmps119
 go_wp2
 go_loopg [7] k (fun kq v_7 w'=>∃(x4:Int),v_7=.int .i64 x4∧Aside0 (impl_PoliciesOk.l0 kq x4 a0=some r)∧Aside0 (kq≤k)∧Hp noFP w w' [])
 case atStart=>exact⟨_,rfl,H,⟨Nat.le_refl _⟩,HS⟩
 case round=>
  clear HS H;(try clear F)
  obtain⟨x4,rfl,H,HKk3,HS⟩:=hrel
  cases gk with
  |zero=>exact absurd H.out (by simp [impl_PoliciesOk.l0])
  | succ k3=>
   simp only [impl_PoliciesOk.l0] at H
   replace H:=znif H;rcases H with⟨c6,H⟩|⟨c6,H⟩
   ·
    obtain rfl:=zsome H
    go_wp2
    go_ret
    exact HS.pk
   replace H:=zgo H;obtain⟨c7,H⟩:=H
   replace H:=zgo H;obtain⟨c8,H⟩:=H
   obtain⟨ad9,rfl,e9_0⟩:=Kd.at_int gp0 x4 (of_eq_true c7) (of_eq_true c8)
   have e9_0_9:=HS.keepc e9_0
   replace H:=zbind H;obtain⟨t10,ht10,H⟩:=H
   replace H:=znifb H;rcases H with⟨c12,H⟩|⟨c12,H⟩
   ·
    subst c12
    obtain rfl:=zsome H
    go_wp2_with ((with_reducible refine gd 13 rfl ?_);refine ev_cl HS (impl_within.calls ht10.out) Tryz.func52 ?_;clear HS;intro wt10 HS F)
    go_ret
    exact HS.pk
   subst c12
   replace H:=znif H;rcases H with⟨c13,H⟩|⟨c13,H⟩
   ·
    go_wp2_with ((with_reducible refine gd 13 rfl ?_);refine ev_cl HS (impl_within.calls ht10.out) Tryz.func52 ?_;clear HS;intro wt10 HS F)
    go_roundg k3
    case measure=>have:=HKk3.out;omega
    case rel=>exact⟨_,rfl,H,⟨by have:=HKk3.out;omega⟩,HS.pi []⟩
   replace H:=zgo H;obtain⟨c14,H⟩:=H
   replace H:=zgo H;obtain⟨c15,H⟩:=H
   go_upto_if 27 with((with_reducible refine gd 13 rfl ?_);refine ev_cl HS (impl_within.calls ht10.out) Tryz.func52 ?_;clear HS;intro wt10 HS F;obtain⟨ad16,hq16,e16_0⟩:=Kd.at_int gp0 (wrap64 (x4 - 1)) (of_eq_true c14) (of_eq_true c15);obtain rfl:=Option.some.inj hq16;have e16_0_16:=HS.keepc e16_0)
   replace H:=zif H;rcases H with⟨c17,H⟩|⟨c17,H⟩
   ·
    (try simp only [c17,dcn])
    obtain rfl:=zsome H
    go_wp2
    go_ret
    exact HS.pk
   (try simp only [c17,dcn])
   go_wp2
   go_roundg k3
   case measure=>have:=HKk3.out;omega
   case rel=>exact⟨_,rfl,H,⟨by have:=HKk3.out;omega⟩,HS.pi []⟩
def impl_timeOk.f (a0:Int):Option (Bool):=((impl_within.f a0 0 9999).bind fun t1=>(some t1))
theorem impl_timeOk.calls {a0:Int}{r:Bool}{w:World}(h:impl_timeOk.f a0=some r):
    Calls Tryz.prog 53 #[.int .i64 a0] w (fun e w'=>e=.returned (.bool r)∧Hp noFP w w' []):=by
 have HS:=Hp.start w
 have H:=Aside0.mk h
 clear h
 unfold impl_timeOk.f at H
 go_enter Tryz.func53,Tryz.ntmps53
 replace H:=zbind H;obtain⟨t1,ht1,H⟩:=H
 obtain rfl:=zsome H
 go_wp2_with ((with_reducible refine gd 4 rfl ?_);refine ev_cl HS (impl_within.calls ht1.out) Tryz.func52 ?_;clear HS;intro wt1 HS F)
 go_ret
 exact HS.pk
def impl_RulesOk.f (k:Nat)(a0:S37):Option (Bool):=((impl_timeOk.f a0.f0).bind fun t3=>(if t3=true then((impl_PoliciesOk.f k a0.f1).bind fun t6=>(if t6=true then((impl_within.f a0.f4 0 7).bind fun t9=>(some t9))else(some false)))else(some false)))
theorem impl_RulesOk.calls {k:Nat}{a0:S37}{Ap0:Option Addr}{np0 cp0:Nat}{r:Bool}{w:World}(h:impl_RulesOk.f k a0=some r)(gp0:(Kd.int .i64).C w Ap0 np0 a0.f1)(lp0:np0≤cp0):
    Calls Tryz.prog 90 #[.agg #[.int .i64 a0.f0,.slice Ap0 np0 cp0,.bool a0.f2,.bool a0.f3,.int .i64 a0.f4]] w (fun e w'=>e=.returned (.bool r)∧Hp noFP w w' []):=by
 obtain rfl:=C_len gp0
 have HS:=Hp.start w
 have H:=Aside0.mk h
 clear h
 unfold impl_RulesOk.f at H
 go_enter Tryz.func90,Tryz.ntmps90
 replace H:=zbind H;obtain⟨t3,ht3,H⟩:=H
 replace H:=znifb H;rcases H with⟨c5,H⟩|⟨c5,H⟩
 ·
  subst c5
  obtain rfl:=zsome H
  go_wp2_with (first|((with_reducible refine gd 1 rfl ?_);refine ev_bx HS ?_;clear HS;intro g1 w1 HS F)|((with_reducible refine gd 5 rfl ?_);refine ev_cl HS (impl_timeOk.calls ht3.out) Tryz.func53 ?_;clear HS;intro wt3 HS F))
  go_ret
  exact HS.pk
 subst c5
 replace H:=zbind H;obtain⟨t6,ht6,H⟩:=H
 replace H:=znifb H;rcases H with⟨c8,H⟩|⟨c8,H⟩
 ·
  subst c8
  obtain rfl:=zsome H
  go_wp2_with (first|((with_reducible refine gd 1 rfl ?_);refine ev_bx HS ?_;clear HS;intro g1 w1 HS F)|((with_reducible refine gd 5 rfl ?_);refine ev_cl HS (impl_timeOk.calls ht3.out) Tryz.func53 ?_;clear HS;intro wt3 HS F)|((with_reducible refine gd 9 rfl ?_);refine gg ?_;refine ev_cl HS (impl_PoliciesOk.calls ht6.out (HS.ro gp0) lp0) Tryz.func119 ?_;clear HS;intro wt6 HS F))
  go_ret
  exact HS.pk
 subst c8
 replace H:=zbind H;obtain⟨t9,ht9,H⟩:=H
 obtain rfl:=zsome H
 go_wp2_with (first|((with_reducible refine gd 1 rfl ?_);refine ev_bx HS ?_;clear HS;intro g1 w1 HS F)|((with_reducible refine gd 5 rfl ?_);refine ev_cl HS (impl_timeOk.calls ht3.out) Tryz.func53 ?_;clear HS;intro wt3 HS F)|((with_reducible refine gd 9 rfl ?_);refine gg ?_;refine ev_cl HS (impl_PoliciesOk.calls ht6.out (HS.ro gp0) lp0) Tryz.func119 ?_;clear HS;intro wt6 HS F)|((with_reducible refine gd 14 rfl ?_);refine gg ?_;refine ev_cl HS (impl_within.calls ht9.out) Tryz.func52 ?_;clear HS;intro wt9 HS F))
 go_ret
 exact HS.pk
def impl_planOk.l0:Nat→Int→S39→S48→Option (Bool)
  |0,_,_,_=>none
  |k+1,x14,a0,a1=>(if x14<(a0.f1.length:Int)then(if 0≤x14 then(if x14<(a0.f1.length:Int)then((impl_within.f (rd a0.f1 x14) 0 (wrap64 ((a1.f2.length:Int) - 1))).bind fun t20=>(if t20=true then(if 0<x14 then(if 0≤(wrap64 (x14 - 1))then(if(wrap64 (x14 - 1))<(a0.f1.length:Int)then(if(rd a0.f1 x14)≤(rd a0.f1 (wrap64 (x14 - 1)))then(some false)else(impl_planOk.l0 k (wrap64 (x14+1)) a0 a1))else none)else none)else(impl_planOk.l0 k (wrap64 (x14+1)) a0 a1))else(some false)))else none)else none)else((impl_within.f a0.f0 0 99).bind fun t28=>(if t28=true then((impl_RulesOk.f k (⟨0,a0.f2.f1,a0.f2.f2,a0.f2.f3,a0.f2.f4⟩:S37)).bind fun t31=>(if t31=true then((impl_within.f (a0.f1.length:Int) 1 3).bind fun t34=>(some t34))else(some false)))else(some false))))
def impl_planOk.f (k:Nat)(a0:S39)(a1:S48):Option (Bool):=(impl_planOk.l0 k 0 a0 a1)
theorem impl_planOk.calls {k:Nat}{a0:S39}{a1:S48}{Ap0 Ap1 Ap2 Ap3 Ap4:Option Addr}{np0 cp0 np1 cp1 np2 cp2 np3 cp3 np4 cp4:Nat}{r:Bool}{w:World}(h:impl_planOk.f k a0 a1=some r)(gp0:(Kd.int .i64).C w Ap0 np0 a0.f1)(lp0:np0≤cp0)(gp1:(Kd.int .i64).C w Ap1 np1 a0.f2.f1)(lp1:np1≤cp1)(gp2:k125.C w Ap2 np2 a1.f0)(lp2:np2≤cp2)(gp3:k103.C w Ap3 np3 a1.f1)(lp3:np3≤cp3)(gp4:k105.C w Ap4 np4 a1.f2)(lp4:np4≤cp4):
    Calls Tryz.prog 59 #[.agg #[.int .i64 a0.f0,.slice Ap0 np0 cp0,.int .i64 a0.f2.f0,.slice Ap1 np1 cp1,.bool a0.f2.f2,.bool a0.f2.f3,.int .i64 a0.f2.f4],.agg #[.slice Ap2 np2 cp2,.slice Ap3 np3 cp3,.slice Ap4 np4 cp4]] w (fun e w'=>e=.returned (.bool r)∧Hp noFP w w' []):=by
 obtain rfl:=C_len gp0
 obtain rfl:=C_len gp1
 obtain rfl:=C_len gp2
 obtain rfl:=C_len gp3
 obtain rfl:=C_len gp4
 have HS:=Hp.start w
 have H:=Aside0.mk h
 clear h
 unfold impl_planOk.f at H
 go_enter Tryz.func59,Tryz.ntmps59
 go_wp2_with (first|((with_reducible refine gd 2 rfl ?_);refine ev_bx HS ?_;clear HS;intro g2 w2 HS F)|((with_reducible refine gd 3 rfl ?_);refine ev_bx HS ?_;clear HS;intro g3 w3 HS F)|((with_reducible refine gd 5 rfl ?_);refine ev_bx HS ?_;clear HS;intro g5 w5 HS F)|((with_reducible refine gate_store (p:=5) rfl ?_);refine ev_st 2 0 HS (seg:=[.int .i64 a0.f2.f0,.slice Ap1 a0.f2.f1.length cp1,.bool a0.f2.f2,.bool a0.f2.f3,.int .i64 a0.f2.f4]) ?_;clear HS;intro w7 HS F)|((with_reducible refine gate_store (p:=10) rfl ?_);refine ev_st 2 0 HS (seg:=[.int .i64 0]) ?_;clear HS;intro w9 HS F))
 go_loopg [14] k (fun kq v_14 w'=>∃(x14:Int),v_14=.int .i64 x14∧Aside0 (impl_planOk.l0 kq x14 a0 a1=some r)∧Aside0 (kq≤k)∧Hp noFP w w' [.box g2 [.int .i64 a0.f0,.slice Ap0 a0.f1.length cp0,.int .i64 a0.f2.f0,.slice Ap1 a0.f2.f1.length cp1,.bool a0.f2.f2,.bool a0.f2.f3,.int .i64 a0.f2.f4] 39,.box g3 [.slice Ap2 a1.f0.length cp2,.slice Ap3 a1.f1.length cp3,.slice Ap4 a1.f2.length cp4] 48,.box g5 [.int .i64 0,.slice Ap1 a0.f2.f1.length cp1,.bool a0.f2.f2,.bool a0.f2.f3,.int .i64 a0.f2.f4] 37])
 case atStart=>exact⟨_,rfl,H,⟨Nat.le_refl _⟩,HS⟩
 case round=>
  clear HS H;(try clear F)
  obtain⟨x14,rfl,H,HKk13,HS⟩:=hrel
  have F:=HS.bx
  cases gk with
  |zero=>exact absurd H.out (by simp [impl_planOk.l0])
  | succ k13=>
   simp only [impl_planOk.l0] at H
   replace H:=zif H;rcases H with⟨c16,H⟩|⟨c16,H⟩
   ·
    replace H:=zgo H;obtain⟨c17,H⟩:=H
    replace H:=zgo H;obtain⟨c18,H⟩:=H
    obtain⟨ad19,rfl,e19_0⟩:=Kd.at_int gp0 x14 (of_eq_true c17) (of_eq_true c18)
    have e19_0_19:=HS.keepc e19_0
    replace H:=zbind H;obtain⟨t20,ht20,H⟩:=H
    replace H:=znifb H;rcases H with⟨c22,H⟩|⟨c22,H⟩
    ·
     subst c22
     obtain rfl:=zsome H
     go_wp2_with ((with_reducible refine gd 24 rfl ?_);refine ev_cl HS (impl_within.calls ht20.out) Tryz.func52 ?_;clear HS;intro wt20 HS F)
     go_ret
     exact HS.pk
    subst c22
    replace H:=znif H;rcases H with⟨c23,H⟩|⟨c23,H⟩
    ·
     go_wp2_with ((with_reducible refine gd 24 rfl ?_);refine ev_cl HS (impl_within.calls ht20.out) Tryz.func52 ?_;clear HS;intro wt20 HS F)
     go_roundg k13
     case measure=>have:=HKk13.out;omega
     case rel=>exact⟨_,rfl,H,⟨by have:=HKk13.out;omega⟩,HS.pi [0,1,2]⟩
    replace H:=zgo H;obtain⟨c24,H⟩:=H
    replace H:=zgo H;obtain⟨c25,H⟩:=H
    go_upto_if 39 with((with_reducible refine gd 24 rfl ?_);refine ev_cl HS (impl_within.calls ht20.out) Tryz.func52 ?_;clear HS;intro wt20 HS F;obtain⟨ad26,hq26,e26_0⟩:=Kd.at_int gp0 (wrap64 (x14 - 1)) (of_eq_true c24) (of_eq_true c25);obtain rfl:=Option.some.inj hq26;have e26_0_26:=HS.keepc e26_0)
    replace H:=zif H;rcases H with⟨c27,H⟩|⟨c27,H⟩
    ·
     (try simp only [c27,dcn])
     obtain rfl:=zsome H
     go_wp2
     go_ret
     exact HS.pk
    (try simp only [c27,dcn])
    go_wp2
    go_roundg k13
    case measure=>have:=HKk13.out;omega
    case rel=>exact⟨_,rfl,H,⟨by have:=HKk13.out;omega⟩,HS.pi [0,1,2]⟩
   replace H:=zbind H;obtain⟨t28,ht28,H⟩:=H
   replace H:=znifb H;rcases H with⟨c30,H⟩|⟨c30,H⟩
   ·
    subst c30
    obtain rfl:=zsome H
    go_wp2_with ((with_reducible refine gd 43 rfl ?_);refine ev_cl HS (impl_within.calls ht28.out) Tryz.func52 ?_;clear HS;intro wt28 HS F)
    go_ret
    exact HS.pk
   subst c30
   replace H:=zbind H;obtain⟨t31,ht31,H⟩:=H
   replace H:=znifb H;rcases H with⟨c33,H⟩|⟨c33,H⟩
   ·
    subst c33
    obtain rfl:=zsome H
    go_wp2_with (first|((with_reducible refine gd 43 rfl ?_);refine ev_cl HS (impl_within.calls ht28.out) Tryz.func52 ?_;clear HS;intro wt28 HS F)|((with_reducible refine gd 46 rfl ?_);refine gg ?_;refine ev_cl HS (impl_RulesOk.calls ht31.out (HS.ro gp1) lp1) Tryz.func90 ?_;clear HS;intro wt31 HS F))
    go_ret
    exact HS.pk
   subst c33
   replace H:=zbind H;obtain⟨t34,ht34,H⟩:=H
   obtain rfl:=zsome H
   go_wp2_with (first|((with_reducible refine gd 43 rfl ?_);refine ev_cl HS (impl_within.calls ht28.out) Tryz.func52 ?_;clear HS;intro wt28 HS F)|((with_reducible refine gd 46 rfl ?_);refine gg ?_;refine ev_cl HS (impl_RulesOk.calls ht31.out (HS.ro gp1) lp1) Tryz.func90 ?_;clear HS;intro wt31 HS F)|((with_reducible refine gd 52 rfl ?_);refine gg ?_;refine ev_cl HS (impl_within.calls ht34.out) Tryz.func52 ?_;clear HS;intro wt34 HS F))
   go_ret
   exact HS.pk
def impl_PlansOk.l0:Nat→Int→(List S39)→S48→Option (Bool)
  |0,_,_,_=>none
  |k+1,x6,a0,a1=>(if x6<(a0.length:Int)then(if 0≤x6 then(if x6<(a0.length:Int)then((impl_planOk.f k (rd_T39 a0 x6) a1).bind fun t7=>(if t7=true then(if 0<x6 then(if 0≤(wrap64 (x6 - 1))then(if(wrap64 (x6 - 1))<(a0.length:Int)then(if(rd_T39 a0 x6).f0≤(rd_T39 a0 (wrap64 (x6 - 1))).f0 then(some false)else(impl_PlansOk.l0 k (wrap64 (x6+1)) a0 a1))else none)else none)else(impl_PlansOk.l0 k (wrap64 (x6+1)) a0 a1))else(some false)))else none)else none)else(some (decide ((a0.length:Int)≤6))))
def impl_PlansOk.f (k:Nat)(a0:(List S39))(a1:S48):Option (Bool):=(impl_PlansOk.l0 k 0 a0 a1)
def impl_PlansOk.T4:TT:=(true,[([],[]),([],[]),([0,1],[0,1]),([2],[2]),([3,2],[3]),([4],[4]),([5,4],[4,5]),([6,4,4],[4,6]),([7],[7]),([7],[7]),([9,7],[7,9]),([8,10,7],[7,8,10]),([11,7],[7,11]),([12,7],[7,12]),([7],[7]),([14,7],[7,14]),([13,15,7],[7,13,15]),([7,16,4],[4,7,16]),([4,17],[4,17])])
theorem impl_PlansOk.tT4:rtab .any (opsOf Tryz.f21 4)=impl_PlansOk.T4:=by kernel_rfl
theorem impl_PlansOk.calls {k:Nat}{a0:(List S39)}{a1:S48}{Ap0 Ap1 Ap2 Ap3:Option Addr}{np0 cp0 np1 cp1 np2 cp2 np3 cp3:Nat}{r:Bool}{w:World}(h:impl_PlansOk.f k a0 a1=some r)(gp0:k39.C w Ap0 np0 a0)(lp0:np0≤cp0)(gp1:k125.C w Ap1 np1 a1.f0)(lp1:np1≤cp1)(gp2:k103.C w Ap2 np2 a1.f1)(lp2:np2≤cp2)(gp3:k105.C w Ap3 np3 a1.f2)(lp3:np3≤cp3):
    Calls Tryz.prog 21 #[.slice Ap0 np0 cp0,.agg #[.slice Ap1 np1 cp1,.slice Ap2 np2 cp2,.slice Ap3 np3 cp3]] w (fun e w'=>e=.returned (.bool r)∧Hp noFP w w' []):=by
 obtain rfl:=C_len gp0
 obtain rfl:=C_len gp1
 obtain rfl:=C_len gp2
 obtain rfl:=C_len gp3
 have HS:=Hp.start w
 have H:=Aside0.mk h
 clear h
 unfold impl_PlansOk.f at H
 go_enter Tryz.func21,Tryz.ntmps21
 go_wp2_with ((with_reducible refine gd 3 rfl ?_);refine ev_bx HS ?_;clear HS;intro g3 w3 HS F)
 go_loopg [9] k (fun kq v_9 w'=>∃(x6:Int),v_9=.int .i64 x6∧Aside0 (impl_PlansOk.l0 kq x6 a0 a1=some r)∧Aside0 (kq≤k)∧Hp noFP w w' [.box g3 [.slice Ap1 a1.f0.length cp1,.slice Ap2 a1.f1.length cp2,.slice Ap3 a1.f2.length cp3] 48])
 case atStart=>exact⟨_,rfl,H,⟨Nat.le_refl _⟩,HS⟩
 case round=>
  clear HS H;(try clear F)
  obtain⟨x6,rfl,H,HKk5,HS⟩:=hrel
  have F:=HS.bx
  cases gk with
  |zero=>exact absurd H.out (by simp [impl_PlansOk.l0])
  | succ k5=>
   simp only [impl_PlansOk.l0] at H
   replace H:=znif H;rcases H with⟨c8,H⟩|⟨c8,H⟩
   ·
    obtain rfl:=zsome H
    go_wp2
    go_ret
    exact HS.pk
   replace H:=zgo H;obtain⟨c9,H⟩:=H
   replace H:=zgo H;obtain⟨c10,H⟩:=H
   obtain⟨ad11,B11_1,d11_1,B11_3,d11_3,rfl,e11_0,e11_1,e11_2,e11_3,e11_4,e11_5,e11_6,m11_1,y11_1,m11_3,y11_3⟩:=at_T39 gp0 x6 (of_eq_true c9) (of_eq_true c10)
   have e11_0_11:=HS.keepc e11_0
   have e11_1_11:=HS.keepc e11_1
   have e11_2_11:=HS.keepc e11_2
   have e11_3_11:=HS.keepc e11_3
   have e11_4_11:=HS.keepc e11_4
   have e11_5_11:=HS.keepc e11_5
   have e11_6_11:=HS.keepc e11_6
   go_wp2_with (first|((with_reducible refine gd 6 rfl ?_);refine ev_bx HS ?_;clear HS;intro g6 w6 HS F)|((with_reducible refine gate_store (p:=6) rfl ?_);refine ev_st 1 0 HS (seg:=[.int .i64 ((rd_T39 a0 x6).f0),.slice B11_1 (rd_T39 a0 x6).f1.length d11_1,.int .i64 ((rd_T39 a0 x6).f2.f0),.slice B11_3 (rd_T39 a0 x6).f2.f1.length d11_3,.bool ((rd_T39 a0 x6).f2.f2),.bool ((rd_T39 a0 x6).f2.f3),.int .i64 ((rd_T39 a0 x6).f2.f4)]) ?_;clear HS;intro w14 HS F))
   replace H:=zbind H;obtain⟨t7,ht7,H⟩:=H
   replace H:=znifb H;rcases H with⟨c12,H⟩|⟨c12,H⟩
   ·
    subst c12
    refine dr_start [] HS #[false,false,false,false,false,false,false,false,false,false,false,false,false,false,false,false,false,false,false] (by kernel_rfl) rfl rfl impl_PlansOk.tT4 (fun w22 HT HS HH=>?_)
    (try clear F)
    refine dqt [0,1] HT HH ?_
    refine dr1 2 HT fun K hK=>?_
    refine go_cl HS (impl_planOk.calls ht7.out (HS.ro y11_1) m11_1 (HS.ro y11_3) m11_3 (HS.ro gp1) lp1 (HS.ro gp2) lp2 (HS.ro gp3) lp3) Tryz.func59 ?_;clear HS;intro wt7 HS F
    refine nrm 16 hK ⟨_,HS⟩ fun HH=>?_;clear hK K
    refine dqo [3,4,5,6,7,8,9,10,11,12,13,14,15,16,17,18] HT ?_
    refine dn HT ?_
    (try clear F)
    have F:=HS.bx
    obtain rfl:=zsome H
    go_wp2
    go_ret
    exact HS.pk
   subst c12
   replace H:=znif H;rcases H with⟨c13,H⟩|⟨c13,H⟩
   ·
    refine dr_start [] HS #[false,false,false,false,false,false,false,false,false,false,false,false,false,false,false,false,false,false,false] (by kernel_rfl) rfl rfl impl_PlansOk.tT4 (fun w20 HT HS HH=>?_)
    (try clear F)
    refine dqt [0,1] HT HH ?_
    refine dr1 2 HT fun K hK=>?_
    refine go_cl HS (impl_planOk.calls ht7.out (HS.ro y11_1) m11_1 (HS.ro y11_3) m11_3 (HS.ro gp1) lp1 (HS.ro gp2) lp2 (HS.ro gp3) lp3) Tryz.func59 ?_;clear HS;intro wt7 HS F
    refine nrm 16 hK ⟨_,HS⟩ fun HH=>?_;clear hK K
    refine dqo [3,4,5,6,7,8,9,10,11,12,13,14,15,16,17,18] HT ?_
    refine dn HT ?_
    (try clear F)
    have F:=HS.bx
    go_wp2
    go_roundg k5
    case measure=>have:=HKk5.out;omega
    case rel=>exact⟨_,rfl,H,⟨by have:=HKk5.out;omega⟩,HS.pi [0]⟩
   replace H:=zgo H;obtain⟨c15,H⟩:=H
   replace H:=zgo H;obtain⟨c16,H⟩:=H
   obtain⟨ad18,B18_1,d18_1,B18_3,d18_3,hq18,e18_0,e18_1,e18_2,e18_3,e18_4,e18_5,e18_6,m18_1,y18_1,m18_3,y18_3⟩:=at_T39 gp0 (wrap64 (x6 - 1)) (of_eq_true c15) (of_eq_true c16);obtain rfl:=Option.some.inj hq18
   refine dr_start [] HS #[false,false,false,false,false,false,false,false,false,false,false,false,false,false,false,false,false,false,false] (by kernel_rfl) rfl rfl impl_PlansOk.tT4 (fun w17 HT HS HH=>?_)
   (try clear F)
   refine dqt [0,1] HT HH ?_
   refine dr1 2 HT fun K hK=>?_
   refine go_cl HS (impl_planOk.calls ht7.out (HS.ro y11_1) m11_1 (HS.ro y11_3) m11_3 (HS.ro gp1) lp1 (HS.ro gp2) lp2 (HS.ro gp3) lp3) Tryz.func59 ?_;clear HS;intro wt7 HS F
   refine nrm 16 hK ⟨_,HS⟩ fun HH=>?_;clear hK K
   refine dq [3,4,5,6,7,8,9,10,11,12] HT ?_
   refine dtk 13 27 HT HH rfl (by rintro w' ⟨rs',HS'⟩;have e18_0:=HS'.keepc e18_0;have e18_1:=HS'.keepc e18_1;have e18_2:=HS'.keepc e18_2;have e18_3:=HS'.keepc e18_3;have e18_4:=HS'.keepc e18_4;have e18_5:=HS'.keepc e18_5;have e18_6:=HS'.keepc e18_6;go_simp;with_reducible rfl) ?_
   refine dqt [14,15,16,17,18] HT HH ?_
   refine dn HT ?_
   (try clear F)
   have F:=HS.bx
   replace H:=zif H;rcases H with⟨c19,H⟩|⟨c19,H⟩
   ·
    (try simp only [c19,dcn])
    obtain rfl:=zsome H
    go_wp2
    go_ret
    exact HS.pk
   (try simp only [c19,dcn])
   go_wp2
   go_roundg k5
   case measure=>have:=HKk5.out;omega
   case rel=>exact⟨_,rfl,H,⟨by have:=HKk5.out;omega⟩,HS.pi [0]⟩
def spec_RulesOk.f (k:Nat)(a0:S37):Option (Bool):=((spec_l09Num.f a0.f0).bind fun t3=>(if t3=true then((spec_PoliciesOk.f k a0.f1).bind fun t6=>(if t6=true then((spec_l01In.f a0.f4 0 7).bind fun t9=>(some t9))else(some false)))else(some false)))
theorem spec_RulesOk.calls {k:Nat}{a0:S37}{Ap0:Option Addr}{np0 cp0:Nat}{r:Bool}{w:World}(h:spec_RulesOk.f k a0=some r)(gp0:(Kd.int .i64).C w Ap0 np0 a0.f1)(lp0:np0≤cp0):
    Calls Tryz.prog 60 #[.agg #[.int .i64 a0.f0,.slice Ap0 np0 cp0,.bool a0.f2,.bool a0.f3,.int .i64 a0.f4]] w (fun e w'=>e=.returned (.bool r)∧Hp noFP w w' []):=by
 obtain rfl:=C_len gp0
 have HS:=Hp.start w
 have H:=Aside0.mk h
 clear h
 unfold spec_RulesOk.f at H
 go_enter Tryz.func60,Tryz.ntmps60
 replace H:=zbind H;obtain⟨t3,ht3,H⟩:=H
 replace H:=znifb H;rcases H with⟨c5,H⟩|⟨c5,H⟩
 ·
  subst c5
  obtain rfl:=zsome H
  go_wp2_with (first|((with_reducible refine gd 1 rfl ?_);refine ev_bx HS ?_;clear HS;intro g1 w1 HS F)|((with_reducible refine gd 5 rfl ?_);refine ev_cl HS (spec_l09Num.calls ht3.out) Tryz.func55 ?_;clear HS;intro wt3 HS F))
  go_ret
  exact HS.pk
 subst c5
 replace H:=zbind H;obtain⟨t6,ht6,H⟩:=H
 replace H:=znifb H;rcases H with⟨c8,H⟩|⟨c8,H⟩
 ·
  subst c8
  obtain rfl:=zsome H
  go_wp2_with (first|((with_reducible refine gd 1 rfl ?_);refine ev_bx HS ?_;clear HS;intro g1 w1 HS F)|((with_reducible refine gd 5 rfl ?_);refine ev_cl HS (spec_l09Num.calls ht3.out) Tryz.func55 ?_;clear HS;intro wt3 HS F)|((with_reducible refine gd 9 rfl ?_);refine gg ?_;refine ev_cl HS (spec_PoliciesOk.calls ht6.out (HS.ro gp0) lp0) Tryz.func91 ?_;clear HS;intro wt6 HS F))
  go_ret
  exact HS.pk
 subst c8
 replace H:=zbind H;obtain⟨t9,ht9,H⟩:=H
 obtain rfl:=zsome H
 go_wp2_with (first|((with_reducible refine gd 1 rfl ?_);refine ev_bx HS ?_;clear HS;intro g1 w1 HS F)|((with_reducible refine gd 5 rfl ?_);refine ev_cl HS (spec_l09Num.calls ht3.out) Tryz.func55 ?_;clear HS;intro wt3 HS F)|((with_reducible refine gd 9 rfl ?_);refine gg ?_;refine ev_cl HS (spec_PoliciesOk.calls ht6.out (HS.ro gp0) lp0) Tryz.func91 ?_;clear HS;intro wt6 HS F)|((with_reducible refine gd 14 rfl ?_);refine gg ?_;refine ev_cl HS (spec_l01In.calls ht9.out) Tryz.func54 ?_;clear HS;intro wt9 HS F))
 go_ret
 exact HS.pk
mutual
def spec_PlansOk.l0:Nat→Int→(List S39)→S48→Option (Bool)
  |0,_,_,_=>none
  |k+1,x6,a0,a1=>(if x6<(a0.length:Int)then(if 0≤x6 then(if x6<(a0.length:Int)then((spec_l01In.f ((rd_T39 a0 x6).f0) 0 99).bind fun t13=>(if t13=true then(if 0<x6 then(if 0≤(wrap64 (x6 - 1))then(if(wrap64 (x6 - 1))<(a0.length:Int)then(if(rd_T39 a0 x6).f0≤(rd_T39 a0 (wrap64 (x6 - 1))).f0 then(some false)else((spec_RulesOk.f k (⟨0,(rd_T39 a0 x6).f2.f1,(rd_T39 a0 x6).f2.f2,(rd_T39 a0 x6).f2.f3,(rd_T39 a0 x6).f2.f4⟩:S37)).bind fun t26=>(if t26=true then((spec_l01In.f ((rd_T39 a0 x6).f1.length:Int) 1 3).bind fun t29=>(if t29=true then(spec_PlansOk.l1 k 0 a0 a1 x6)else(some false)))else(some false))))else none)else none)else((spec_RulesOk.f k (⟨0,(rd_T39 a0 x6).f2.f1,(rd_T39 a0 x6).f2.f2,(rd_T39 a0 x6).f2.f3,(rd_T39 a0 x6).f2.f4⟩:S37)).bind fun t26=>(if t26=true then((spec_l01In.f ((rd_T39 a0 x6).f1.length:Int) 1 3).bind fun t29=>(if t29=true then(spec_PlansOk.l2 k 0 a0 a1 x6)else(some false)))else(some false))))else(some false)))else none)else none)else(some (decide ((a0.length:Int)≤6))))
def spec_PlansOk.l1:Nat→Int→(List S39)→S48→Int→Option (Bool)
  |0,_,_,_,_=>none
  |k+1,x31,a0,a1,x6=>(if x31<((rd_T39 a0 x6).f1.length:Int)then(if 0≤x31 then(if x31<((rd_T39 a0 x6).f1.length:Int)then((spec_l01In.f (rd ((rd_T39 a0 x6).f1) x31) 0 (wrap64 ((a1.f2.length:Int) - 1))).bind fun t41=>(if t41=true then(if 0<x31 then(if 0≤(wrap64 (x31 - 1))then(if(wrap64 (x31 - 1))<((rd_T39 a0 x6).f1.length:Int)then(if(rd ((rd_T39 a0 x6).f1) x31)≤(rd ((rd_T39 a0 x6).f1) (wrap64 (x31 - 1)))then(some false)else(spec_PlansOk.l1 k (wrap64 (x31+1)) a0 a1 x6))else none)else none)else(spec_PlansOk.l1 k (wrap64 (x31+1)) a0 a1 x6))else(some false)))else none)else none)else(spec_PlansOk.l0 k (wrap64 (x6+1)) a0 a1))
def spec_PlansOk.l2:Nat→Int→(List S39)→S48→Int→Option (Bool)
  |0,_,_,_,_=>none
  |k+1,x50,a0,a1,x6=>(if x50<((rd_T39 a0 x6).f1.length:Int)then(if 0≤x50 then(if x50<((rd_T39 a0 x6).f1.length:Int)then((spec_l01In.f (rd ((rd_T39 a0 x6).f1) x50) 0 (wrap64 ((a1.f2.length:Int) - 1))).bind fun t65=>(if t65=true then(if 0<x50 then(if 0≤(wrap64 (x50 - 1))then(if(wrap64 (x50 - 1))<((rd_T39 a0 x6).f1.length:Int)then(if(rd ((rd_T39 a0 x6).f1) x50)≤(rd ((rd_T39 a0 x6).f1) (wrap64 (x50 - 1)))then(some false)else(spec_PlansOk.l2 k (wrap64 (x50+1)) a0 a1 x6))else none)else none)else(spec_PlansOk.l2 k (wrap64 (x50+1)) a0 a1 x6))else(some false)))else none)else none)else(spec_PlansOk.l0 k (wrap64 (x6+1)) a0 a1))
end
def spec_PlansOk.f (k:Nat)(a0:(List S39))(a1:S48):Option (Bool):=(spec_PlansOk.l0 k 0 a0 a1)
def spec_PlansOk.T7:TT:=(true,[([],[]),([0],[0]),([1],[1]),([2],[2]),([3,2],[3]),([4],[4]),([5,4],[4,5]),([6,4,4],[4,6]),([7],[7]),([7],[7]),([9,7],[7,9]),([8,10,7],[7,8,10]),([11,7],[7,11]),([12,7],[7,12]),([7],[7]),([14,7],[7,14]),([13,15,7],[7,13,15]),([7,16,4],[4,7,16]),([4,17],[4,17]),([18,7],[18]),([19],[19]),([20,19,19],[19,20]),([21,19],[19,21]),([19,22],[19,22]),([23,21],[23]),([24],[24]),([25,24],[24,25]),([26,24],[24,26]),([27,24,24],[24,27]),([28,24],[24,28]),([24,29],[24,29])])
theorem spec_PlansOk.tT7:rtab .any (opsOf Tryz.f22 7)=spec_PlansOk.T7:=by kernel_rfl
def spec_PlansOk.T12:TT:=(true,[([],[]),([0],[0]),([],[]),([1,2],[1,2]),([3],[3]),([],[]),([5],[5]),([6],[6]),([7],[7]),([4,8],[4,8]),([9],[9]),([10,9],[10]),([11],[11]),([12,11],[11,12]),([13,11,11],[11,13]),([14],[14]),([15,14],[14,15]),([14],[14]),([17,14],[14,17]),([16,18,14],[14,16,18]),([19,14],[14,19]),([14],[14]),([21,14],[14,21]),([14],[14]),([22,23,14],[14,22,23]),([24,14],[14,24]),([20,25,14],[14,20,25]),([14,26,11],[11,14,26]),([11,27],[11,27])])
theorem spec_PlansOk.tT12:rtab .any (opsOf Tryz.f22 12)=spec_PlansOk.T12:=by kernel_rfl
theorem spec_PlansOk.calls {k:Nat}{a0:(List S39)}{a1:S48}{Ap0 Ap1 Ap2 Ap3:Option Addr}{np0 cp0 np1 cp1 np2 cp2 np3 cp3:Nat}{r:Bool}{w:World}(h:spec_PlansOk.f k a0 a1=some r)(gp0:k39.C w Ap0 np0 a0)(lp0:np0≤cp0)(gp1:k125.C w Ap1 np1 a1.f0)(lp1:np1≤cp1)(gp2:k103.C w Ap2 np2 a1.f1)(lp2:np2≤cp2)(gp3:k105.C w Ap3 np3 a1.f2)(lp3:np3≤cp3):
    Calls Tryz.prog 22 #[.slice Ap0 np0 cp0,.agg #[.slice Ap1 np1 cp1,.slice Ap2 np2 cp2,.slice Ap3 np3 cp3]] w (fun e w'=>e=.returned (.bool r)∧Hp noFP w w' []):=by
 obtain rfl:=C_len gp0
 obtain rfl:=C_len gp1
 obtain rfl:=C_len gp2
 obtain rfl:=C_len gp3
 have HS:=Hp.start w
 have H:=Aside0.mk h
 clear h
 unfold spec_PlansOk.f at H
 go_enter Tryz.func22,Tryz.ntmps22
 go_wp2_with ((with_reducible refine gd 3 rfl ?_);refine ev_bx HS ?_;clear HS;intro g3 w3 HS F)
 go_loopg [5] k (fun kq v_5 w'=>∃(x6:Int),v_5=.int .i64 x6∧Aside0 (spec_PlansOk.l0 kq x6 a0 a1=some r)∧Aside0 (kq≤k)∧Hp noFP w w' [.box g3 [.slice Ap1 a1.f0.length cp1,.slice Ap2 a1.f1.length cp2,.slice Ap3 a1.f2.length cp3] 48])
 case atStart=>exact⟨_,rfl,H,⟨Nat.le_refl _⟩,HS⟩
 case round=>
  clear HS H;(try clear F)
  obtain⟨x6,rfl,H,HKk5,HS⟩:=hrel
  have F:=HS.bx
  cases gk with
  |zero=>exact absurd H.out (by simp [spec_PlansOk.l0])
  | succ k5=>
   simp only [spec_PlansOk.l0] at H
   replace H:=znif H;rcases H with⟨c8,H⟩|⟨c8,H⟩
   ·
    obtain rfl:=zsome H
    go_wp2
    go_ret
    exact HS.pk
   replace H:=zgo H;obtain⟨c9,H⟩:=H
   replace H:=zgo H;obtain⟨c10,H⟩:=H
   obtain⟨ad11,B11_1,d11_1,B11_3,d11_3,rfl,e11_0,e11_1,e11_2,e11_3,e11_4,e11_5,e11_6,m11_1,y11_1,m11_3,y11_3⟩:=at_T39 gp0 x6 (of_eq_true c9) (of_eq_true c10)
   have e11_0_11:=HS.keepc e11_0
   have e11_1_11:=HS.keepc e11_1
   have e11_2_11:=HS.keepc e11_2
   have e11_3_11:=HS.keepc e11_3
   have e11_4_11:=HS.keepc e11_4
   have e11_5_11:=HS.keepc e11_5
   have e11_6_11:=HS.keepc e11_6
   go_wp2_with (first|((with_reducible refine gd 6 rfl ?_);refine ev_bx HS ?_;clear HS;intro g6 w6 HS F)|((with_reducible refine gate_store (p:=6) rfl ?_);refine ev_st 1 0 HS (seg:=[.int .i64 ((rd_T39 a0 x6).f0),.slice B11_1 (rd_T39 a0 x6).f1.length d11_1,.int .i64 ((rd_T39 a0 x6).f2.f0),.slice B11_3 (rd_T39 a0 x6).f2.f1.length d11_3,.bool ((rd_T39 a0 x6).f2.f2),.bool ((rd_T39 a0 x6).f2.f3),.int .i64 ((rd_T39 a0 x6).f2.f4)]) ?_;clear HS;intro w14 HS F)|((with_reducible refine gd 7 rfl ?_);refine ev_bx HS ?_;clear HS;intro g7 w7 HS F)|((with_reducible refine gate_store (p:=7) rfl ?_);refine ev_st 2 0 HS (seg:=[.int .i64 ((rd_T39 a0 x6).f2.f0),.slice B11_3 (rd_T39 a0 x6).f2.f1.length d11_3,.bool ((rd_T39 a0 x6).f2.f2),.bool ((rd_T39 a0 x6).f2.f3),.int .i64 ((rd_T39 a0 x6).f2.f4)]) ?_;clear HS;intro w18 HS F)|((with_reducible refine gate_store (p:=21) rfl ?_);refine ev_st 2 0 HS (seg:=[.int .i64 0]) ?_;clear HS;intro w20 HS F))
   replace H:=zbind H;obtain⟨t13,ht13,H⟩:=H
   replace H:=znifb H;rcases H with⟨c15,H⟩|⟨c15,H⟩
   ·
    subst c15
    refine dr_start [] HS #[false,false,false,false,false,false,false,false,false,false,false,false,false,false,false,false,false,false,false,false,false,false,false,false,false,false,false,false,false,false,false] (by kernel_rfl) rfl rfl spec_PlansOk.tT7 (fun w63 HT HS HH=>?_)
    (try clear F)
    refine dqt [0,1] HT HH ?_
    refine dr1 2 HT fun K hK=>?_
    refine go_cl HS (spec_l01In.calls ht13.out) Tryz.func54 ?_;clear HS;intro wt13 HS F
    refine nrm 24 hK ⟨_,HS⟩ fun HH=>?_;clear hK K
    refine dqo [3,4,5,6,7,8,9,10,11,12,13,14,15,16,17,18,19,20,21,22,23,24,25,26,27,28,29,30] HT ?_
    refine dn HT ?_
    (try clear F)
    have F:=HS.bx
    obtain rfl:=zsome H
    go_wp2
    go_ret
    exact HS.pk
   subst c15
   replace H:=znif H;rcases H with⟨c16,H⟩|⟨c16,H⟩
   ·
    replace H:=zbind H;obtain⟨t26,ht26,H⟩:=H
    replace H:=znifb H;rcases H with⟨c28,H⟩|⟨c28,H⟩
    ·
     subst c28
     refine dr_start [] HS #[false,false,false,false,false,false,false,false,false,false,false,false,false,false,false,false,false,false,false,false,false,false,false,false,false,false,false,false,false,false,false] (by kernel_rfl) rfl rfl spec_PlansOk.tT7 (fun w61 HT HS HH=>?_)
     (try clear F)
     refine dqt [0,1] HT HH ?_
     refine dr1 2 HT fun K hK=>?_
     refine go_cl HS (spec_l01In.calls ht13.out) Tryz.func54 ?_;clear HS;intro wt13 HS F
     refine nrm 24 hK ⟨_,HS⟩ fun HH=>?_;clear hK K
     refine dqto [3,4,5,6,7,8,9,10,11,12,13,14,15,16,17,18,19,20] HT HH ?_
     refine dr1 21 HT fun K hK=>?_
     refine go_cl HS (spec_RulesOk.calls ht26.out (HS.ro y11_3) m11_3) Tryz.func60 ?_;clear HS;intro wt26 HS F
     refine nrm 43 hK ⟨_,HS⟩ fun HH=>?_;clear hK K
     refine dqo [22,23,24,25,26,27,28,29,30] HT ?_
     refine dn HT ?_
     (try clear F)
     have F:=HS.bx
     obtain rfl:=zsome H
     go_wp2
     go_ret
     exact HS.pk
    subst c28
    replace H:=zbind H;obtain⟨t29,ht29,H⟩:=H
    refine dr_start [] HS #[false,false,false,false,false,false,false,false,false,false,false,false,false,false,false,false,false,false,false,false,false,false,false,false,false,false,false,false,false,false,false] (by kernel_rfl) rfl rfl spec_PlansOk.tT7 (fun w44 HT HS HH=>?_)
    (try clear F)
    refine dqt [0,1] HT HH ?_
    refine dr1 2 HT fun K hK=>?_
    refine go_cl HS (spec_l01In.calls ht13.out) Tryz.func54 ?_;clear HS;intro wt13 HS F
    refine nrm 24 hK ⟨_,HS⟩ fun HH=>?_;clear hK K
    refine dqto [3,4,5,6,7,8,9,10,11,12,13,14,15,16,17,18,19,20] HT HH ?_
    refine dr1 21 HT fun K hK=>?_
    refine go_cl HS (spec_RulesOk.calls ht26.out (HS.ro y11_3) m11_3) Tryz.func60 ?_;clear HS;intro wt26 HS F
    refine nrm 43 hK ⟨_,HS⟩ fun HH=>?_;clear hK K
    refine dqt [22,23,24,25,26,27] HT HH ?_
    refine dr1 28 HT fun K hK=>?_
    refine go_cl HS (spec_l01In.calls ht29.out) Tryz.func54 ?_;clear HS;intro wt29 HS F
    refine nrm 50 hK ⟨_,HS⟩ fun HH=>?_;clear hK K
    refine dq [29,30] HT ?_
    refine dn HT ?_
    (try clear F)
    have F:=HS.bx
    replace H:=znifb H;rcases H with⟨c46,H⟩|⟨c46,H⟩
    ·
     subst c46
     (try simp only [dcn,dcu,dcf])
     obtain rfl:=zsome H
     go_wp2
     go_ret
     exact HS.pk
    subst c46
    (try simp only [dcn,dcu,dcf])
    go_wp2
    (try obtain⟨wok49,rfl⟩:∃wo_:World,wo_=wr:=⟨_,rfl⟩)
    go_loopg [8] k5 (fun kq v_8 w'=>∃(x50:Int),v_8=.int .i64 x50∧Aside0 (spec_PlansOk.l2 kq x50 a0 a1 x6=some r)∧Aside0 (kq≤k5)∧Hp noFP w w' [.box g3 [.slice Ap1 a1.f0.length cp1,.slice Ap2 a1.f1.length cp2,.slice Ap3 a1.f2.length cp3] 48,.box g6 [.int .i64 ((rd_T39 a0 x6).f0),.slice B11_1 (rd_T39 a0 x6).f1.length d11_1,.int .i64 ((rd_T39 a0 x6).f2.f0),.slice B11_3 (rd_T39 a0 x6).f2.f1.length d11_3,.bool ((rd_T39 a0 x6).f2.f2),.bool ((rd_T39 a0 x6).f2.f3),.int .i64 ((rd_T39 a0 x6).f2.f4)] 39,.box g7 [.int .i64 0,.slice B11_3 (rd_T39 a0 x6).f2.f1.length d11_3,.bool ((rd_T39 a0 x6).f2.f2),.bool ((rd_T39 a0 x6).f2.f3),.int .i64 ((rd_T39 a0 x6).f2.f4)] 37])
    case atStart=>exact⟨_,rfl,H,⟨Nat.le_refl _⟩,HS⟩
    case round=>
     clear HS H;(try clear F)
     obtain⟨x50,rfl,H,HKk49,HS⟩:=hrel
     have F:=HS.bx
     cases gk with
     |zero=>exact absurd H.out (by simp [spec_PlansOk.l2])
     | succ k49=>
      simp only [spec_PlansOk.l2] at H
      replace H:=znif H;rcases H with⟨c52,H⟩|⟨c52,H⟩
      ·
       go_wp2
       go_roundg k49
       case measure=>have:=HKk5.out;have:=HKk49.out;omega
       case rel=>exact⟨_,rfl,H,⟨by have:=HKk5.out;have:=HKk49.out;omega⟩,HS.pi [0]⟩
      (try go_wp2)
      replace H:=zgo H;obtain⟨c55,H⟩:=H
      replace H:=zgo H;obtain⟨c58,H⟩:=H
      obtain⟨ad62,rfl,e62_0⟩:=Kd.at_int y11_1 x50 (of_eq_true c55) (of_eq_true c58)
      replace H:=zbind H;obtain⟨t65,ht65,H⟩:=H
      replace H:=znifb H;rcases H with⟨c66,H⟩|⟨c66,H⟩
      ·
       subst c66
       refine dr_start [] HS #[false,false,false,false,false,false,false,false,false,false,false,false,false,false,false,false,false,false,false,false,false,false,false,false,false,false,false,false,false] (by kernel_rfl) rfl rfl spec_PlansOk.tT12 (fun w59 HT HS HH=>?_)
       (try clear F)
       refine dqt [0,1,2,3] HT HH ?_
       refine dtk 4 64 HT HH rfl (by rintro w' ⟨rs',HS'⟩;have e62_0:=HS'.keepc e62_0;go_simp;with_reducible rfl) ?_
       refine dqt [5,6,7,8] HT HH ?_
       refine dr1 9 HT fun K hK=>?_
       refine go_cl HS (spec_l01In.calls ht65.out) Tryz.func54 ?_;clear HS;intro wt65 HS F
       refine nrm 69 hK ⟨_,HS⟩ fun HH=>?_;clear hK K
       refine dqo [10,11,12,13,14,15,16,17,18,19,20,21,22,23,24,25,26,27,28] HT ?_
       refine dn HT ?_
       (try clear F)
       have F:=HS.bx
       obtain rfl:=zsome H
       go_wp2
       go_ret
       exact HS.pk
      subst c66
      replace H:=znif H;rcases H with⟨c67,H⟩|⟨c67,H⟩
      ·
       refine dr_start [] HS #[false,false,false,false,false,false,false,false,false,false,false,false,false,false,false,false,false,false,false,false,false,false,false,false,false,false,false,false,false] (by kernel_rfl) rfl rfl spec_PlansOk.tT12 (fun w57 HT HS HH=>?_)
       (try clear F)
       refine dqt [0,1,2,3] HT HH ?_
       refine dtk 4 64 HT HH rfl (by rintro w' ⟨rs',HS'⟩;have e62_0:=HS'.keepc e62_0;go_simp;with_reducible rfl) ?_
       refine dqt [5,6,7,8] HT HH ?_
       refine dr1 9 HT fun K hK=>?_
       refine go_cl HS (spec_l01In.calls ht65.out) Tryz.func54 ?_;clear HS;intro wt65 HS F
       refine nrm 69 hK ⟨_,HS⟩ fun HH=>?_;clear hK K
       refine dqo [10,11,12,13,14,15,16,17,18,19,20,21,22,23,24,25,26,27,28] HT ?_
       refine dn HT ?_
       (try clear F)
       have F:=HS.bx
       go_wp2
       go_roundg k49
       case measure=>have:=HKk5.out;have:=HKk49.out;omega
       case rel=>exact⟨_,rfl,H,⟨by have:=HKk5.out;have:=HKk49.out;omega⟩,HS.pi [0,1,2]⟩
      replace H:=zgo H;obtain⟨c68,H⟩:=H
      replace H:=zgo H;obtain⟨c69,H⟩:=H
      obtain⟨ad70,hq70,e70_0⟩:=Kd.at_int y11_1 (wrap64 (x50 - 1)) (of_eq_true c68) (of_eq_true c69);obtain rfl:=Option.some.inj hq70
      refine dr_start [] HS #[false,false,false,false,false,false,false,false,false,false,false,false,false,false,false,false,false,false,false,false,false,false,false,false,false,false,false,false,false] (by kernel_rfl) rfl rfl spec_PlansOk.tT12 (fun w54 HT HS HH=>?_)
      (try clear F)
      refine dqt [0,1,2,3] HT HH ?_
      refine dtk 4 64 HT HH rfl (by rintro w' ⟨rs',HS'⟩;have e62_0:=HS'.keepc e62_0;go_simp;with_reducible rfl) ?_
      refine dqt [5,6,7,8] HT HH ?_
      refine dr1 9 HT fun K hK=>?_
      refine go_cl HS (spec_l01In.calls ht65.out) Tryz.func54 ?_;clear HS;intro wt65 HS F
      refine nrm 69 hK ⟨_,HS⟩ fun HH=>?_;clear hK K
      refine dqt [10,11,12,13,14,15,16,17,18,19] HT HH ?_
      refine dtk 20 80 HT HH rfl (by rintro w' ⟨rs',HS'⟩;have e70_0:=HS'.keepc e70_0;go_simp;with_reducible rfl) ?_
      refine dqt [21,22,23,24] HT HH ?_
      refine dtk 25 85 HT HH rfl (by rintro w' ⟨rs',HS'⟩;have e62_0:=HS'.keepc e62_0;go_simp;with_reducible rfl) ?_
      refine dq [26,27,28] HT ?_
      refine dn HT ?_
      (try clear F)
      have F:=HS.bx
      replace H:=zif H;rcases H with⟨c56,H⟩|⟨c56,H⟩
      ·
       (try simp only [c56,dcn])
       obtain rfl:=zsome H
       go_wp2
       go_ret
       exact HS.pk
      (try simp only [c56,dcn])
      go_wp2
      go_roundg k49
      case measure=>have:=HKk5.out;have:=HKk49.out;omega
      case rel=>exact⟨_,rfl,H,⟨by have:=HKk5.out;have:=HKk49.out;omega⟩,HS.pi [0,1,2]⟩
   replace H:=zgo H;obtain⟨c17,H⟩:=H
   replace H:=zgo H;obtain⟨c19,H⟩:=H
   obtain⟨ad21,B21_1,d21_1,B21_3,d21_3,hq21,e21_0,e21_1,e21_2,e21_3,e21_4,e21_5,e21_6,m21_1,y21_1,m21_3,y21_3⟩:=at_T39 gp0 (wrap64 (x6 - 1)) (of_eq_true c17) (of_eq_true c19);obtain rfl:=Option.some.inj hq21
   replace H:=zif H;rcases H with⟨c24,H⟩|⟨c24,H⟩
   ·
    refine dr_start [] HS #[false,false,false,false,false,false,false,false,false,false,false,false,false,false,false,false,false,false,false,false,false,false,false,false,false,false,false,false,false,false,false] (by kernel_rfl) rfl rfl spec_PlansOk.tT7 (fun w23 HT HS HH=>?_)
    (try clear F)
    refine dqt [0,1] HT HH ?_
    refine dr1 2 HT fun K hK=>?_
    refine go_cl HS (spec_l01In.calls ht13.out) Tryz.func54 ?_;clear HS;intro wt13 HS F
    refine nrm 24 hK ⟨_,HS⟩ fun HH=>?_;clear hK K
    refine dq [3,4,5,6,7,8,9,10,11,12] HT ?_
    refine dtk 13 35 HT HH rfl (by rintro w' ⟨rs',HS'⟩;have e21_0:=HS'.keepc e21_0;have e21_1:=HS'.keepc e21_1;have e21_2:=HS'.keepc e21_2;have e21_3:=HS'.keepc e21_3;have e21_4:=HS'.keepc e21_4;have e21_5:=HS'.keepc e21_5;have e21_6:=HS'.keepc e21_6;go_simp;with_reducible rfl) ?_
    refine dqto [14,15,16,17,18,19,20,21,22,23,24,25,26,27,28,29,30] HT HH ?_
    refine dn HT ?_
    (try clear F)
    have F:=HS.bx
    obtain rfl:=zsome H
    go_wp2
    go_ret
    exact HS.pk
   replace H:=zbind H;obtain⟨t26,ht26,H⟩:=H
   replace H:=znifb H;rcases H with⟨c28,H⟩|⟨c28,H⟩
   ·
    subst c28
    refine dr_start [] HS #[false,false,false,false,false,false,false,false,false,false,false,false,false,false,false,false,false,false,false,false,false,false,false,false,false,false,false,false,false,false,false] (by kernel_rfl) rfl rfl spec_PlansOk.tT7 (fun w42 HT HS HH=>?_)
    (try clear F)
    refine dqt [0,1] HT HH ?_
    refine dr1 2 HT fun K hK=>?_
    refine go_cl HS (spec_l01In.calls ht13.out) Tryz.func54 ?_;clear HS;intro wt13 HS F
    refine nrm 24 hK ⟨_,HS⟩ fun HH=>?_;clear hK K
    refine dq [3,4,5,6,7,8,9,10,11,12] HT ?_
    refine dtk 13 35 HT HH rfl (by rintro w' ⟨rs',HS'⟩;have e21_0:=HS'.keepc e21_0;have e21_1:=HS'.keepc e21_1;have e21_2:=HS'.keepc e21_2;have e21_3:=HS'.keepc e21_3;have e21_4:=HS'.keepc e21_4;have e21_5:=HS'.keepc e21_5;have e21_6:=HS'.keepc e21_6;go_simp;with_reducible rfl) ?_
    refine dqt [14,15,16,17,18,19,20] HT HH ?_
    refine dr1 21 HT fun K hK=>?_
    refine go_cl HS (spec_RulesOk.calls ht26.out (HS.ro y11_3) m11_3) Tryz.func60 ?_;clear HS;intro wt26 HS F
    refine nrm 43 hK ⟨_,HS⟩ fun HH=>?_;clear hK K
    refine dqo [22,23,24,25,26,27,28,29,30] HT ?_
    refine dn HT ?_
    (try clear F)
    have F:=HS.bx
    obtain rfl:=zsome H
    go_wp2
    go_ret
    exact HS.pk
   subst c28
   replace H:=zbind H;obtain⟨t29,ht29,H⟩:=H
   refine dr_start [] HS #[false,false,false,false,false,false,false,false,false,false,false,false,false,false,false,false,false,false,false,false,false,false,false,false,false,false,false,false,false,false,false] (by kernel_rfl) rfl rfl spec_PlansOk.tT7 (fun w25 HT HS HH=>?_)
   (try clear F)
   refine dqt [0,1] HT HH ?_
   refine dr1 2 HT fun K hK=>?_
   refine go_cl HS (spec_l01In.calls ht13.out) Tryz.func54 ?_;clear HS;intro wt13 HS F
   refine nrm 24 hK ⟨_,HS⟩ fun HH=>?_;clear hK K
   refine dq [3,4,5,6,7,8,9,10,11,12] HT ?_
   refine dtk 13 35 HT HH rfl (by rintro w' ⟨rs',HS'⟩;have e21_0:=HS'.keepc e21_0;have e21_1:=HS'.keepc e21_1;have e21_2:=HS'.keepc e21_2;have e21_3:=HS'.keepc e21_3;have e21_4:=HS'.keepc e21_4;have e21_5:=HS'.keepc e21_5;have e21_6:=HS'.keepc e21_6;go_simp;with_reducible rfl) ?_
   refine dqt [14,15,16,17,18,19,20] HT HH ?_
   refine dr1 21 HT fun K hK=>?_
   refine go_cl HS (spec_RulesOk.calls ht26.out (HS.ro y11_3) m11_3) Tryz.func60 ?_;clear HS;intro wt26 HS F
   refine nrm 43 hK ⟨_,HS⟩ fun HH=>?_;clear hK K
   refine dqt [22,23,24,25,26,27] HT HH ?_
   refine dr1 28 HT fun K hK=>?_
   refine go_cl HS (spec_l01In.calls ht29.out) Tryz.func54 ?_;clear HS;intro wt29 HS F
   refine nrm 50 hK ⟨_,HS⟩ fun HH=>?_;clear hK K
   refine dq [29,30] HT ?_
   refine dn HT ?_
   (try clear F)
   have F:=HS.bx
   replace H:=znifb H;rcases H with⟨c27,H⟩|⟨c27,H⟩
   ·
    subst c27
    (try simp only [dcn,dcu,dcf])
    obtain rfl:=zsome H
    go_wp2
    go_ret
    exact HS.pk
   subst c27
   (try simp only [dcn,dcu,dcf])
   go_wp2
   (try obtain⟨wok30,rfl⟩:∃wo_:World,wo_=wr:=⟨_,rfl⟩)
   go_loopg [8] k5 (fun kq v_8 w'=>∃(x31:Int),v_8=.int .i64 x31∧Aside0 (spec_PlansOk.l1 kq x31 a0 a1 x6=some r)∧Aside0 (kq≤k5)∧Hp noFP w w' [.box g3 [.slice Ap1 a1.f0.length cp1,.slice Ap2 a1.f1.length cp2,.slice Ap3 a1.f2.length cp3] 48,.box g6 [.int .i64 ((rd_T39 a0 x6).f0),.slice B11_1 (rd_T39 a0 x6).f1.length d11_1,.int .i64 ((rd_T39 a0 x6).f2.f0),.slice B11_3 (rd_T39 a0 x6).f2.f1.length d11_3,.bool ((rd_T39 a0 x6).f2.f2),.bool ((rd_T39 a0 x6).f2.f3),.int .i64 ((rd_T39 a0 x6).f2.f4)] 39,.box g7 [.int .i64 0,.slice B11_3 (rd_T39 a0 x6).f2.f1.length d11_3,.bool ((rd_T39 a0 x6).f2.f2),.bool ((rd_T39 a0 x6).f2.f3),.int .i64 ((rd_T39 a0 x6).f2.f4)] 37])
   case atStart=>exact⟨_,rfl,H,⟨Nat.le_refl _⟩,HS⟩
   case round=>
    clear HS H;(try clear F)
    obtain⟨x31,rfl,H,HKk30,HS⟩:=hrel
    have F:=HS.bx
    cases gk with
    |zero=>exact absurd H.out (by simp [spec_PlansOk.l1])
    | succ k30=>
     simp only [spec_PlansOk.l1] at H
     replace H:=znif H;rcases H with⟨c33,H⟩|⟨c33,H⟩
     ·
      go_wp2
      go_roundg k30
      case measure=>have:=HKk5.out;have:=HKk30.out;omega
      case rel=>exact⟨_,rfl,H,⟨by have:=HKk5.out;have:=HKk30.out;omega⟩,HS.pi [0]⟩
     (try go_wp2)
     replace H:=zgo H;obtain⟨c32,H⟩:=H
     replace H:=zgo H;obtain⟨c34,H⟩:=H
     obtain⟨ad36,rfl,e36_0⟩:=Kd.at_int y11_1 x31 (of_eq_true c32) (of_eq_true c34)
     replace H:=zbind H;obtain⟨t41,ht41,H⟩:=H
     replace H:=znifb H;rcases H with⟨c43,H⟩|⟨c43,H⟩
     ·
      subst c43
      refine dr_start [] HS #[false,false,false,false,false,false,false,false,false,false,false,false,false,false,false,false,false,false,false,false,false,false,false,false,false,false,false,false,false] (by kernel_rfl) rfl rfl spec_PlansOk.tT12 (fun w40 HT HS HH=>?_)
      (try clear F)
      refine dqt [0,1,2,3] HT HH ?_
      refine dtk 4 64 HT HH rfl (by rintro w' ⟨rs',HS'⟩;have e36_0:=HS'.keepc e36_0;go_simp;with_reducible rfl) ?_
      refine dqt [5,6,7,8] HT HH ?_
      refine dr1 9 HT fun K hK=>?_
      refine go_cl HS (spec_l01In.calls ht41.out) Tryz.func54 ?_;clear HS;intro wt41 HS F
      refine nrm 69 hK ⟨_,HS⟩ fun HH=>?_;clear hK K
      refine dqo [10,11,12,13,14,15,16,17,18,19,20,21,22,23,24,25,26,27,28] HT ?_
      refine dn HT ?_
      (try clear F)
      have F:=HS.bx
      obtain rfl:=zsome H
      go_wp2
      go_ret
      exact HS.pk
     subst c43
     replace H:=znif H;rcases H with⟨c45,H⟩|⟨c45,H⟩
     ·
      refine dr_start [] HS #[false,false,false,false,false,false,false,false,false,false,false,false,false,false,false,false,false,false,false,false,false,false,false,false,false,false,false,false,false] (by kernel_rfl) rfl rfl spec_PlansOk.tT12 (fun w38 HT HS HH=>?_)
      (try clear F)
      refine dqt [0,1,2,3] HT HH ?_
      refine dtk 4 64 HT HH rfl (by rintro w' ⟨rs',HS'⟩;have e36_0:=HS'.keepc e36_0;go_simp;with_reducible rfl) ?_
      refine dqt [5,6,7,8] HT HH ?_
      refine dr1 9 HT fun K hK=>?_
      refine go_cl HS (spec_l01In.calls ht41.out) Tryz.func54 ?_;clear HS;intro wt41 HS F
      refine nrm 69 hK ⟨_,HS⟩ fun HH=>?_;clear hK K
      refine dqo [10,11,12,13,14,15,16,17,18,19,20,21,22,23,24,25,26,27,28] HT ?_
      refine dn HT ?_
      (try clear F)
      have F:=HS.bx
      go_wp2
      go_roundg k30
      case measure=>have:=HKk5.out;have:=HKk30.out;omega
      case rel=>exact⟨_,rfl,H,⟨by have:=HKk5.out;have:=HKk30.out;omega⟩,HS.pi [0,1,2]⟩
     replace H:=zgo H;obtain⟨c47,H⟩:=H
     replace H:=zgo H;obtain⟨c51,H⟩:=H
     obtain⟨ad53,hq53,e53_0⟩:=Kd.at_int y11_1 (wrap64 (x31 - 1)) (of_eq_true c47) (of_eq_true c51);obtain rfl:=Option.some.inj hq53
     refine dr_start [] HS #[false,false,false,false,false,false,false,false,false,false,false,false,false,false,false,false,false,false,false,false,false,false,false,false,false,false,false,false,false] (by kernel_rfl) rfl rfl spec_PlansOk.tT12 (fun w35 HT HS HH=>?_)
     (try clear F)
     refine dqt [0,1,2,3] HT HH ?_
     refine dtk 4 64 HT HH rfl (by rintro w' ⟨rs',HS'⟩;have e36_0:=HS'.keepc e36_0;go_simp;with_reducible rfl) ?_
     refine dqt [5,6,7,8] HT HH ?_
     refine dr1 9 HT fun K hK=>?_
     refine go_cl HS (spec_l01In.calls ht41.out) Tryz.func54 ?_;clear HS;intro wt41 HS F
     refine nrm 69 hK ⟨_,HS⟩ fun HH=>?_;clear hK K
     refine dqt [10,11,12,13,14,15,16,17,18,19] HT HH ?_
     refine dtk 20 80 HT HH rfl (by rintro w' ⟨rs',HS'⟩;have e53_0:=HS'.keepc e53_0;go_simp;with_reducible rfl) ?_
     refine dqt [21,22,23,24] HT HH ?_
     refine dtk 25 85 HT HH rfl (by rintro w' ⟨rs',HS'⟩;have e36_0:=HS'.keepc e36_0;go_simp;with_reducible rfl) ?_
     refine dq [26,27,28] HT ?_
     refine dn HT ?_
     (try clear F)
     have F:=HS.bx
     replace H:=zif H;rcases H with⟨c37,H⟩|⟨c37,H⟩
     ·
      (try simp only [c37,dcn])
      obtain rfl:=zsome H
      go_wp2
      go_ret
      exact HS.pk
     (try simp only [c37,dcn])
     go_wp2
     go_roundg k30
     case measure=>have:=HKk5.out;have:=HKk30.out;omega
     case rel=>exact⟨_,rfl,H,⟨by have:=HKk5.out;have:=HKk30.out;omega⟩,HS.pi [0,1,2]⟩
def impl_PlanAt_1_0.f (a0:S39)(a1:Int):Option (Bool):=(some (a0.f0==a1))
theorem impl_PlanAt_1_0.calls {a0:S39}{a1:Int}{Ap0 Ap1:Option Addr}{np0 cp0 np1 cp1:Nat}{p2:Nat}{r:Bool}{w:World}(h:impl_PlanAt_1_0.f a0 a1=some r)(gp0:(Kd.int .i64).C w Ap0 np0 a0.f1)(lp0:np0≤cp0)(gp1:(Kd.int .i64).C w Ap1 np1 a0.f2.f1)(lp1:np1≤cp1)(zp2_0:w.cell? ⟨p2,0,none⟩=some (.int .i64 a1)):
    Calls Tryz.prog 62 #[.agg #[.int .i64 a0.f0,.slice Ap0 np0 cp0,.int .i64 a0.f2.f0,.slice Ap1 np1 cp1,.bool a0.f2.f2,.bool a0.f2.f3,.int .i64 a0.f2.f4],.pointer (some ⟨p2,0,none⟩)] w (fun e w'=>e=.returned (.bool r)∧Hp noFP w w' []):=by
 obtain rfl:=C_len gp0
 obtain rfl:=C_len gp1
 have HS:=Hp.start w
 have H:=Aside0.mk h
 clear h
 unfold impl_PlanAt_1_0.f at H
 go_enter Tryz.func62,Tryz.ntmps62
 obtain rfl:=zsome H
 go_wp2_with ((with_reducible refine gd 2 rfl ?_);refine ev_bx HS ?_;clear HS;intro g2 w2 HS F;have zp2_0_:=(HS.keepc zp2_0))
 go_ret
 exact HS.pk
def impl_Plan_0.l0:Nat→Int→(List S39)→Int→Option (Int)
  |0,_,_,_=>none
  |k+1,x4,a0,a1=>(if x4<(a0.length:Int)then(if 0≤x4 then(if x4<(a0.length:Int)then((impl_PlanAt_1_0.f (rd_T39 a0 x4) a1).bind fun t10=>(if t10=true then(some x4)else(impl_Plan_0.l0 k (wrap64 (x4+1)) a0 a1)))else none)else none)else(some (-1)))
def impl_Plan_0.f (k:Nat)(a0:(List S39))(a1:Int):Option (Int):=(impl_Plan_0.l0 k 0 a0 a1)
theorem impl_Plan_0.calls {k:Nat}{a0:(List S39)}{a1:Int}{Ap0:Option Addr}{np0 cp0:Nat}{p1:Nat}{r:Int}{w:World}(h:impl_Plan_0.f k a0 a1=some r)(gp0:k39.C w Ap0 np0 a0)(lp0:np0≤cp0)(zp1_0:w.cell? ⟨p1,0,none⟩=some (.int .i64 a1)):
    Calls Tryz.prog 61 #[.slice Ap0 np0 cp0,.func (.func 62) #[] #[.pointer (some ⟨p1,0,none⟩)]] w (fun e w'=>e=.returned (.int .i64 r)∧Hp noFP w w' []):=by
 obtain rfl:=C_len gp0
 have HS:=Hp.start w
 have H:=Aside0.mk h
 clear h
 unfold impl_Plan_0.f at H
 go_enter Tryz.func61,Tryz.ntmps61
 go_wp2
 go_loopg [8] k (fun kq v_8 w'=>∃(x4:Int),v_8=.int .i64 x4∧Aside0 (impl_Plan_0.l0 kq x4 a0 a1=some r)∧Aside0 (kq≤k)∧Hp noFP w w' [])
 case atStart=>exact⟨_,rfl,H,⟨Nat.le_refl _⟩,HS⟩
 case round=>
  clear HS H;(try clear F)
  obtain⟨x4,rfl,H,HKk3,HS⟩:=hrel
  cases gk with
  |zero=>exact absurd H.out (by simp [impl_Plan_0.l0])
  | succ k3=>
   simp only [impl_Plan_0.l0] at H
   replace H:=znif H;rcases H with⟨c6,H⟩|⟨c6,H⟩
   ·
    obtain rfl:=zsome H
    go_wp2
    go_ret
    exact HS.pk
   replace H:=zgo H;obtain⟨c7,H⟩:=H
   replace H:=zgo H;obtain⟨c8,H⟩:=H
   obtain⟨ad9,B9_1,d9_1,B9_3,d9_3,rfl,e9_0,e9_1,e9_2,e9_3,e9_4,e9_5,e9_6,m9_1,y9_1,m9_3,y9_3⟩:=at_T39 gp0 x4 (of_eq_true c7) (of_eq_true c8)
   have e9_0_9:=HS.keepc e9_0
   have e9_1_9:=HS.keepc e9_1
   have e9_2_9:=HS.keepc e9_2
   have e9_3_9:=HS.keepc e9_3
   have e9_4_9:=HS.keepc e9_4
   have e9_5_9:=HS.keepc e9_5
   have e9_6_9:=HS.keepc e9_6
   replace H:=zbind H;obtain⟨t10,ht10,H⟩:=H
   go_upto_if 16 with((with_reducible refine gd 16 rfl ?_);refine ev_callv rfl Tryz.func62 (by kernel_rfl) rfl #[.agg #[.int .i64 ((rd_T39 a0 x4).f0),.slice B9_1 (rd_T39 a0 x4).f1.length d9_1,.int .i64 ((rd_T39 a0 x4).f2.f0),.slice B9_3 (rd_T39 a0 x4).f2.f1.length d9_3,.bool ((rd_T39 a0 x4).f2.f2),.bool ((rd_T39 a0 x4).f2.f3),.int .i64 ((rd_T39 a0 x4).f2.f4)]] #[.agg #[.int .i64 ((rd_T39 a0 x4).f0),.slice B9_1 (rd_T39 a0 x4).f1.length d9_1,.int .i64 ((rd_T39 a0 x4).f2.f0),.slice B9_3 (rd_T39 a0 x4).f2.f1.length d9_3,.bool ((rd_T39 a0 x4).f2.f2),.bool ((rd_T39 a0 x4).f2.f3),.int .i64 ((rd_T39 a0 x4).f2.f4)],.pointer (some ⟨p1,0,none⟩)] rfl rfl (by simp only [mpn];rfl) (by first|rfl|simp) ?_;refine(impl_PlanAt_1_0.calls ht10.out (HS.ro y9_1) m9_1 (HS.ro y9_3) m9_3 (HS.keepc zp1_0)).mono ?_;rintro _ wt10 ⟨rfl,HQ⟩;refine⟨_,rfl,?_⟩;replace HS:=HS.call HQ;clear HQ;(try clear F);(try simp only [hpn,hpm] at HS))
   replace H:=zifb H;rcases H with⟨c12,H⟩|⟨c12,H⟩
   ·
    subst c12
    (try simp only [dcn,dcu,dcf])
    obtain rfl:=zsome H
    go_wp2
    go_ret
    exact HS.pk
   subst c12
   (try simp only [dcn,dcu,dcf])
   go_wp2
   go_roundg k3
   case measure=>have:=HKk3.out;omega
   case rel=>exact⟨_,rfl,H,⟨by have:=HKk3.out;omega⟩,HS.pi []⟩
def impl_PlanAt.f (k:Nat)(a0:(List S39))(a1:Int):Option (Int):=((impl_Plan_0.f k a0 a1).bind fun t3=>(some t3))
theorem impl_PlanAt.calls {k:Nat}{a0:(List S39)}{a1:Int}{Ap0:Option Addr}{np0 cp0:Nat}{r:Int}{w:World}(h:impl_PlanAt.f k a0 a1=some r)(gp0:k39.C w Ap0 np0 a0)(lp0:np0≤cp0):
    Calls Tryz.prog 23 #[.slice Ap0 np0 cp0,.int .i64 a1] w (fun e w'=>e=.returned (.int .i64 r)∧Hp noFP w w' []):=by
 obtain rfl:=C_len gp0
 have HS:=Hp.start w
 have H:=Aside0.mk h
 clear h
 unfold impl_PlanAt.f at H
 go_enter Tryz.func23,Tryz.ntmps23
 replace H:=zbind H;obtain⟨t3,ht3,H⟩:=H
 obtain rfl:=zsome H
 go_wp2_with (first|((with_reducible refine gd 3 rfl ?_);refine ev_bx HS ?_;clear HS;intro g3 w3 HS F)|((with_reducible refine gd 7 rfl ?_);refine ev_cl HS (impl_Plan_0.calls ht3.out (HS.ro gp0) lp0 (HS.cellAt 0 rfl (j:=0) rfl)) Tryz.func61 ?_;clear HS;intro wt3 HS F))
 go_ret
 exact HS.pk
def spec_PlanAt.l0:Nat→Int→(List S39)→Int→Option (Int)
  |0,_,_,_=>none
  |k+1,x4,a0,a1=>(if x4<(a0.length:Int)then(if 0≤x4 then(if x4<(a0.length:Int)then(if(rd_T39 a0 x4).f0=a1 then(some x4)else(spec_PlanAt.l0 k (wrap64 (x4+1)) a0 a1))else none)else none)else(some (-1)))
def spec_PlanAt.f (k:Nat)(a0:(List S39))(a1:Int):Option (Int):=(spec_PlanAt.l0 k 0 a0 a1)
theorem spec_PlanAt.calls {k:Nat}{a0:(List S39)}{a1:Int}{Ap0:Option Addr}{np0 cp0:Nat}{r:Int}{w:World}(h:spec_PlanAt.f k a0 a1=some r)(gp0:k39.C w Ap0 np0 a0)(lp0:np0≤cp0):
    Calls Tryz.prog 24 #[.slice Ap0 np0 cp0,.int .i64 a1] w (fun e w'=>e=.returned (.int .i64 r)∧Hp noFP w w' []):=by
 obtain rfl:=C_len gp0
 have HS:=Hp.start w
 have H:=Aside0.mk h
 clear h
 unfold spec_PlanAt.f at H
 go_enter Tryz.func24,Tryz.ntmps24
 go_wp2
 go_loopg [5] k (fun kq v_5 w'=>∃(x4:Int),v_5=.int .i64 x4∧Aside0 (spec_PlanAt.l0 kq x4 a0 a1=some r)∧Aside0 (kq≤k)∧Hp noFP w w' [])
 case atStart=>exact⟨_,rfl,H,⟨Nat.le_refl _⟩,HS⟩
 case round=>
  clear HS H;(try clear F)
  obtain⟨x4,rfl,H,HKk3,HS⟩:=hrel
  cases gk with
  |zero=>exact absurd H.out (by simp [spec_PlanAt.l0])
  | succ k3=>
   simp only [spec_PlanAt.l0] at H
   replace H:=znif H;rcases H with⟨c6,H⟩|⟨c6,H⟩
   ·
    obtain rfl:=zsome H
    go_wp2
    go_ret
    exact HS.pk
   replace H:=zgo H;obtain⟨c7,H⟩:=H
   replace H:=zgo H;obtain⟨c8,H⟩:=H
   obtain⟨ad9,B9_1,d9_1,B9_3,d9_3,rfl,e9_0,e9_1,e9_2,e9_3,e9_4,e9_5,e9_6,m9_1,y9_1,m9_3,y9_3⟩:=at_T39 gp0 x4 (of_eq_true c7) (of_eq_true c8)
   have e9_0_9:=HS.keepc e9_0
   have e9_1_9:=HS.keepc e9_1
   have e9_2_9:=HS.keepc e9_2
   have e9_3_9:=HS.keepc e9_3
   have e9_4_9:=HS.keepc e9_4
   have e9_5_9:=HS.keepc e9_5
   have e9_6_9:=HS.keepc e9_6
   replace H:=zif' H;rcases H with⟨c10,H⟩|⟨c10,H⟩
   ·
    obtain⟨c10a,c10b⟩:=bq c10;clear c10
    obtain rfl:=zsome H
    go_wp2
    go_ret
    exact HS.pk
   obtain⟨c10a,c10b⟩:=nq c10;clear c10
   go_wp2
   go_roundg k3
   case measure=>have:=HKk3.out;omega
   case rel=>exact⟨_,rfl,H,⟨by have:=HKk3.out;omega⟩,HS.pi []⟩
end Go.Proofs.YtfcpjeeeddjakaaGreat.F

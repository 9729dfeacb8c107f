/- Functions of the program and of the law, and that their calls do what is written here. -/
import Derived.Test.YtfcpjeeeddjakaaGreatZgFnPlansa
import Derived.Test.YtfcpjeeeddjakaaGreatZgFnPlansc
import Derived.Test.YtfcpjeeeddjakaaGreatZgFnPlansd
import Derived.Test.YtfcpjeeeddjakaaGreatZgFnPlanse
import Derived.Test.YtfcpjeeeddjakaaGreatZgFnPlansf
namespace Go.Proofs.YtfcpjeeeddjakaaGreat.F
open Go.RowKit YtfcpjeeeddjakaaGreatW.PrintWords YtfcpjeeeddjakaaGreatW.PrintLast YtfcpjeeeddjakaaGreatW.PrintMore Z
attribute [local go_sem] max2_int min2_int max_two min_two max_three min_three max_four min_four
set_option linter.unusedVariables false
set_option linter.unusedSimpArgs false
set_option maxRecDepth 100000
set_option maxHeartbeats 16000000
mutual
def spec_l13Store_0.l0:Nat→(List S125)→(List S103)→(List S105)→Int→Int→Int→S110→Option (S48×S110)
  |0,_,_,_,_,_,_,_=>none
  |k+1,l114,l116,l118,x120,x121,x122,a0=>((spec_l01Below_0.f (⟨a0.f0,x121,x122⟩:S110) 4).bind fun t124=>(if x120<t124.1 then((spec_l01Below_0.f (⟨a0.f0,t124.2.f1,t124.2.f2⟩:S110) 4).bind fun t127=>(if t127.1=0 then((spec_l09Made_0.f k (⟨a0.f0,t127.2.f1,t127.2.f2⟩:S110) (wrap64 (2+x120)) (⟨#[99,97,46,111,114,103]⟩:ByteArray) 1 (⟨#[115,117,98,46,99,97,46,111,114,103]⟩:ByteArray) 2 true).bind fun t31=>((spec_AddCert.f k (⟨l114,l116,l118⟩:S48) t31.1).bind fun t35=>(spec_l13Store_0.l0 k t35.1.f0 t35.1.f1 t35.1.f2 (wrap64 (x120+1)) t31.2.f1 t31.2.f2 a0)))else(if t127.1=1 then((spec_l09Made_0.f k (⟨a0.f0,t127.2.f1,t127.2.f2⟩:S110) (wrap64 (2+x120)) (⟨#[99,97,46,111,114,103]⟩:ByteArray) 1 (⟨#[115,117,98,46,99,97,46,111,114,103]⟩:ByteArray) 2 true).bind fun t40=>((spec_AddCert.f k (⟨l114,l116,l118⟩:S48) t40.1).bind fun t44=>(spec_l13Store_0.l0 k t44.1.f0 t44.1.f1 t44.1.f2 (wrap64 (x120+1)) t40.2.f1 t40.2.f2 a0)))else(if t127.1=2 then((spec_l09Made_0.f k (⟨a0.f0,t127.2.f1,t127.2.f2⟩:S110) (wrap64 (2+x120)) (⟨#[115,117,98,46,99,97,46,111,114,103]⟩:ByteArray) 2 (⟨#[99,97,46,111,114,103]⟩:ByteArray) 1 true).bind fun t1004001=>((spec_AddCert.f k (⟨l114,l116,l118⟩:S48) t1004001.1).bind fun t1005001=>(spec_l13Store_0.l0 k t1005001.1.f0 t1005001.1.f1 t1005001.1.f2 (wrap64 (x120+1)) t1004001.2.f1 t1004001.2.f2 a0)))else((spec_l09Made_0.f k (⟨a0.f0,t127.2.f1,t127.2.f2⟩:S110) (wrap64 (2+x120)) (⟨#[111,114,103]⟩:ByteArray) 5 (⟨#[99,97,46,111,114,103]⟩:ByteArray) 1 true).bind fun t1104001=>((spec_AddCert.f k (⟨l114,l116,l118⟩:S48) t1104001.1).bind fun t1105001=>(spec_l13Store_0.l0 k t1105001.1.f0 t1105001.1.f1 t1105001.1.f2 (wrap64 (x120+1)) t1104001.2.f1 t1104001.2.f2 a0)))))))else((spec_l12Lists_0.f k (⟨a0.f0,t124.2.f1,t124.2.f2⟩:S110)).bind fun t144=>(spec_l13Store_0.l1 k l114 l116 l118 0 a0 t144))))
def spec_l13Store_0.l1:Nat→(List S125)→(List S103)→(List S105)→Int→S110→(List S103)×S110→Option (S48×S110)
  |0,_,_,_,_,_,_=>none
  |k+1,l191,l193,l195,x197,a0,t144=>(if x197<(t144.1.length:Int)then(if 0≤x197 then(if x197<(t144.1.length:Int)then((spec_AddCrl.f k (⟨l191,l193,l195⟩:S48) (rd_T103 t144.1 x197)).bind fun t1505001=>(spec_l13Store_0.l1 k t1505001.1.f0 t1505001.1.f1 t1505001.1.f2 (wrap64 (x197+1)) a0 t144))else none)else none)else(some ((⟨l191,l193,l195⟩:S48),(⟨a0.f0,t144.2.f1,t144.2.f2⟩:S110))))
def spec_l13Store_0.l2:Nat→(List S125)→(List S103)→(List S105)→Int→Int→Int→S110→Option (S48×S110)
  |0,_,_,_,_,_,_,_=>none
  |k+1,l302,l304,l306,x308,x309,x310,a0=>((spec_l01Below_0.f (⟨a0.f0,x309,x310⟩:S110) 4).bind fun t312=>(if x308<t312.1 then((spec_l01Below_0.f (⟨a0.f0,t312.2.f1,t312.2.f2⟩:S110) 4).bind fun t315=>(if t315.1=0 then((spec_l09Made_0.f k (⟨a0.f0,t315.2.f1,t315.2.f2⟩:S110) (wrap64 (2+x308)) (⟨#[99,97,46,111,114,103]⟩:ByteArray) 1 (⟨#[115,117,98,46,99,97,46,111,114,103]⟩:ByteArray) 2 true).bind fun t2204001=>((spec_AddCert.f k (⟨l302,l304,l306⟩:S48) t2204001.1).bind fun t2205001=>(spec_l13Store_0.l2 k t2205001.1.f0 t2205001.1.f1 t2205001.1.f2 (wrap64 (x308+1)) t2204001.2.f1 t2204001.2.f2 a0)))else(if t315.1=1 then((spec_l09Made_0.f k (⟨a0.f0,t315.2.f1,t315.2.f2⟩:S110) (wrap64 (2+x308)) (⟨#[99,97,46,111,114,103]⟩:ByteArray) 1 (⟨#[115,117,98,46,99,97,46,111,114,103]⟩:ByteArray) 2 true).bind fun t2304001=>((spec_AddCert.f k (⟨l302,l304,l306⟩:S48) t2304001.1).bind fun t2305001=>(spec_l13Store_0.l2 k t2305001.1.f0 t2305001.1.f1 t2305001.1.f2 (wrap64 (x308+1)) t2304001.2.f1 t2304001.2.f2 a0)))else(if t315.1=2 then((spec_l09Made_0.f k (⟨a0.f0,t315.2.f1,t315.2.f2⟩:S110) (wrap64 (2+x308)) (⟨#[115,117,98,46,99,97,46,111,114,103]⟩:ByteArray) 2 (⟨#[99,97,46,111,114,103]⟩:ByteArray) 1 true).bind fun t2404001=>((spec_AddCert.f k (⟨l302,l304,l306⟩:S48) t2404001.1).bind fun t2405001=>(spec_l13Store_0.l2 k t2405001.1.f0 t2405001.1.f1 t2405001.1.f2 (wrap64 (x308+1)) t2404001.2.f1 t2404001.2.f2 a0)))else((spec_l09Made_0.f k (⟨a0.f0,t315.2.f1,t315.2.f2⟩:S110) (wrap64 (2+x308)) (⟨#[111,114,103]⟩:ByteArray) 5 (⟨#[99,97,46,111,114,103]⟩:ByteArray) 1 true).bind fun t2504001=>((spec_AddCert.f k (⟨l302,l304,l306⟩:S48) t2504001.1).bind fun t2505001=>(spec_l13Store_0.l2 k t2505001.1.f0 t2505001.1.f1 t2505001.1.f2 (wrap64 (x308+1)) t2504001.2.f1 t2504001.2.f2 a0)))))))else((spec_l12Lists_0.f k (⟨a0.f0,t312.2.f1,t312.2.f2⟩:S110)).bind fun t332=>(spec_l13Store_0.l3 k l302 l304 l306 0 a0 t332))))
def spec_l13Store_0.l3:Nat→(List S125)→(List S103)→(List S105)→Int→S110→(List S103)×S110→Option (S48×S110)
  |0,_,_,_,_,_,_=>none
  |k+1,l379,l381,l383,x385,a0,t332=>(if x385<(t332.1.length:Int)then(if 0≤x385 then(if x385<(t332.1.length:Int)then((spec_AddCrl.f k (⟨l379,l381,l383⟩:S48) (rd_T103 t332.1 x385)).bind fun t2905001=>(spec_l13Store_0.l3 k t2905001.1.f0 t2905001.1.f1 t2905001.1.f2 (wrap64 (x385+1)) a0 t332))else none)else none)else(some ((⟨l379,l381,l383⟩:S48),(⟨a0.f0,t332.2.f1,t332.2.f2⟩:S110))))
end
def spec_l13Store_0.f (k:Nat)(a0:S110):Option (S48×S110):=((spec_l12Anchor.f k).bind fun t3=>((spec_l01Once_0.f a0 3).bind fun t11=>(if t11.1=true then((spec_PublicAt.f k 5).bind fun t7=>(if 1+1≤4398046511104 then(lets (([t3]:List S105)++([(⟨(⟨#[111,114,103]⟩:ByteArray),t7⟩:S105)]:List S105)) fun y20=>((spec_l09Made_0.f k (⟨a0.f0,t11.2.f1,t11.2.f2⟩:S110) 1 (⟨#[114,111,111,116]⟩:ByteArray) 0 (⟨#[99,97,46,111,114,103]⟩:ByteArray) 1 true).bind fun t22=>((spec_AddCert.f k (⟨([]:List S125),([]:List S103),y20⟩:S48) t22.1).bind fun t26=>(spec_l13Store_0.l0 k t26.1.f0 t26.1.f1 t26.1.f2 0 t22.2.f1 t22.2.f2 a0))))else none))else((spec_l09Made_0.f k (⟨a0.f0,t11.2.f1,t11.2.f2⟩:S110) 1 (⟨#[114,111,111,116]⟩:ByteArray) 0 (⟨#[99,97,46,111,114,103]⟩:ByteArray) 1 true).bind fun t1602001=>((spec_AddCert.f k (⟨([]:List S125),([]:List S103),([t3]:List S105)⟩:S48) t1602001.1).bind fun t1603001=>(spec_l13Store_0.l2 k t1603001.1.f0 t1603001.1.f1 t1603001.1.f2 0 t1602001.2.f1 t1602001.2.f2 a0))))))
def spec_l13Store_0.T3:TT:=(true,[([],[]),([0],[0]),([],[]),([2],[2]),([3],[3]),([1,4,2],[1,4]),([0,1,2,3,4,5],[]),([6,5,5,0,1,2,3,4,5],[5,6])])
theorem spec_l13Store_0.tT3:rtab .any (opsOf Tryz.f85 3)=spec_l13Store_0.T3:=by kernel_rfl
def spec_l13Store_0.T4:TT:=(true,[([],[]),([],[]),([1],[1]),([0,2,2],[0,2]),([3],[3]),([4],[4]),([4],[4]),([5,3,0,1,2,3,4,5],[5])])
theorem spec_l13Store_0.tT4:rtab .any (opsOf Tryz.f85 4)=spec_l13Store_0.T4:=by kernel_rfl
def spec_l13Store_0.T12:TT:=(true,[([],[]),([],[]),([],[]),([2],[2]),([1,3],[1,3]),([0,4,4],[0,4]),([5],[5]),([6],[6]),([6],[6]),([7,5,0,1,2,3,4,5,6,7],[7])])
theorem spec_l13Store_0.tT12:rtab .any (opsOf Tryz.f85 12)=spec_l13Store_0.T12:=by kernel_rfl
def spec_l13Store_0.T14:TT:=(true,[([],[]),([],[]),([],[]),([2],[2]),([1,3],[1,3]),([0,4,4],[0,4]),([5],[5]),([6],[6]),([6],[6]),([7,5,0,1,2,3,4,5,6,7],[7])])
theorem spec_l13Store_0.tT14:rtab .any (opsOf Tryz.f85 14)=spec_l13Store_0.T14:=by kernel_rfl
def spec_l13Store_0.T9:TT:=(true,[([],[]),([],[]),([],[]),([2],[2]),([1,3],[1,3]),([0,4,4],[0,4]),([5],[5]),([6],[6]),([6],[6]),([7,5,0,1,2,3,4,5,6,7],[7])])
theorem spec_l13Store_0.tT9:rtab .any (opsOf Tryz.f85 9)=spec_l13Store_0.T9:=by kernel_rfl
def spec_l13Store_0.T19:TT:=(true,[([],[]),([],[]),([],[]),([1,2],[1,2]),([3],[3]),([0,4],[0,4]),([5],[5]),([6],[6]),([6],[6]),([7,5,0,1,2,3,4,5,6,7],[7])])
theorem spec_l13Store_0.tT19:rtab .any (opsOf Tryz.f85 19)=spec_l13Store_0.T19:=by kernel_rfl
theorem spec_l13Store_0.calls {k:Nat}{a0:S110}{A:FP}{p0:Nat}{Ap1:Option Addr}{np1 cp1:Nat}{wv:World}{r1:S48}{r2:S110}{w:World}(h:spec_l13Store_0.f k a0=some (r1,r2))(gp1:(Kd.int .u8).C wv Ap1 np1 a0.f0)(lp1:np1≤cp1)(hV:View A w wv)(HS:Hp A w w [.box p0 [.slice Ap1 np1 cp1,.int .i64 a0.f1,.int .i64 a0.f2] 110]):
    Calls Tryz.prog 85 #[.pointer (some ⟨p0,0,none⟩)] w (fun e w'=>∃v0_ v1_ v2_:Value,e=.returned (.agg #[v0_,v1_,v2_])∧Hp A w w' [.box p0 [.slice Ap1 np1 cp1,.int .i64 r2.f1,.int .i64 r2.f2] 110,.own (Zd.slice 125 q125) r1.f0 [v0_],.own (Zd.slice 103 q103) r1.f1 [v1_],.own (Zd.slice 105 q105) r1.f2 [v2_]]):=by
 obtain rfl:=C_len gp1
 have H:=Aside0.mk h
 clear h
 unfold spec_l13Store_0.f at H
 go_enter Tryz.func85,Tryz.ntmps85
 have F:=HS.bx
 replace H:=zbind H;obtain⟨t3,ht3,H⟩:=H
 replace H:=zbind H;obtain⟨t11,ht11,H⟩:=H
 go_upto_if 11 with(first|((with_reducible refine gd 2 rfl ?_);refine ev_bx HS ?_;clear HS;intro g2 w2 HS F)|((with_reducible refine gd 7 rfl ?_);refine ev_call rfl Tryz.func88 (by kernel_rfl) rfl #[] rfl (by simp only [mpn]) ?_;refine(spec_l12Anchor.calls ht3.out).mono ?_;rintro _ wt3 ⟨rfl,HQ⟩;refine⟨_,rfl,?_⟩;replace HS:=HS.call HQ;clear HQ;(try clear F);(try simp only [hpn,hpm] at HS);have F:=HS.bx)|((with_reducible refine gd 8 rfl ?_);refine ev_li q105 [] ([t3]:List S105) ([.string t3.f0,.string t3.f1]++ []) HS (MadeL.cons (js1:=[]) (c:=[.string t3.f0,.string t3.f1]) rfl (made_flat (fun _=>q105_flat _ _ _)) MadeL.nil (by decide)) ?_;clear HS;intro v5 w5 HS F;obtain⟨B5,d5,rfl,m5⟩:=HS.formn 1 2 rfl rfl)|((with_reducible refine gd 3 rfl ?_);refine ev_bx HS ?_;clear HS;intro g3 w3 HS F)|((with_reducible refine gate_store (p:=3) rfl ?_);refine ev_st 3 0 HS (seg:=[.slice none 0 0,.slice none 0 0,.slice B5 1 d5]) ?_;clear HS;intro w9 HS F)|((with_reducible refine gd 11 rfl ?_);refine ev_lb [0] HS (fun _ HL HA=>spec_l01Once_0.calls ht11.out gp1 lp1 (hV.lend HS HL) HA) Tryz.func98 ?_;clear HS;intro wt11 HS F))
 replace H:=znifb H;rcases H with⟨c13,H⟩|⟨c13,H⟩
 ·
  (try simp only [c13,dcn])
  (try go_wp2)
  replace H:=zbind H;obtain⟨t1602001,ht1602001,H⟩:=H
  replace H:=zbind H;obtain⟨t1603001,ht1603001,H⟩:=H
  refine dr_start2 [.emp,.box g2 [.slice none 0 0,.slice none 0 0,.slice none 0 0] 48,.own (Zd.slice 105 q105) ([t3]:List S105) [.slice B5 1 d5],.box g3 [.slice none 0 0,.slice none 0 0,.slice B5 1 d5] 48] [7] HS (HS.ar [none,some 1,some 2,some 3]) #[false,false,false,false,false,false,false,false] (by kernel_rfl) rfl rfl spec_l13Store_0.tT4 (fun w206 HT HS HH=>?_)
  (try clear F)
  refine dqt [0,1] HT HH ?_
  refine dr1 2 HT fun K hK=>?_
  refine go_lb3 [0] HS (fun _ HL HA=>spec_l09Made_0.calls ht1602001.out gp1 lp1 (hV.lend HS HL) HA) Tryz.func110 ?_;clear HS;intro v1602002 v1602003 v1602004 wt1602001 HS F;obtain⟨B1602002,d1602002,rfl,m1602002⟩:=HS.form 4 rfl;obtain⟨B1602003,d1602003,rfl,m1602003⟩:=HS.form 5 rfl;obtain⟨B1602004,d1602004,rfl,m1602004⟩:=HS.form 6 rfl
  (try simp only [hpn,hpm] at HS)
  have F:=HS.bx
  refine nra 22 hK (HS.ar [none,some 1,some 2,some 3]) fun HH=>?_;clear hK K
  refine dr1 3 HT fun K hK=>?_
  refine go_cl3 HS (spec_AddCert.calls ht1603001.out (C_nil _ _) (Nat.le_refl 0) (C_nil _ _) (Nat.le_refl 0) (HS.rd 2 rfl) m5 (HS.rd 4 rfl) m1602002 (HS.rd 5 rfl) m1602003 (HS.rd 6 rfl) m1602004) Tryz.func109 ?_;clear HS;intro v1603002 v1603003 v1603004 wt1603001 HS F;obtain⟨B1603002,d1603002,rfl,m1603002⟩:=HS.form 7 rfl;obtain⟨B1603003,d1603003,rfl,m1603003⟩:=HS.form 8 rfl;obtain⟨B1603004,d1603004,rfl,m1603004⟩:=HS.form 9 rfl
  refine nra 23 hK (HS.ar [none,some 1,some 2,some 3]) fun HH=>?_;clear hK K
  refine dq [4,5,6] HT ?_
  refine dl 7 HT fun K hK=>?_
  refine if_st 3 0 HS (seg:=[.slice B1603002 t1603001.1.f0.length d1603002,.slice B1603003 t1603001.1.f1.length d1603003,.slice B1603004 t1603001.1.f2.length d1603004]) ?_;clear HS;intro w1607001 HS F
  refine hK.out _ _ ?_
  clear hK K
  refine dn HT ?_
  (try clear F)
  have F:=HS.bx
  go_wp2
  go_loopg [4] k (fun kq v_4 w'=>∃(l302:List S125) (v303:Value) (l304:List S103) (v305:Value) (l306:List S105) (v307:Value) (x308:Int) (x309:Int) (x310:Int),v_4=.int .i64 x308∧Aside0 (spec_l13Store_0.l2 kq l302 l304 l306 x308 x309 x310 a0=some (r1,r2))∧Aside0 (kq≤k)∧Hp A w w' [.box p0 [.slice Ap1 a0.f0.length cp1,.int .i64 x309,.int .i64 x310] 110,.box g2 [.slice none 0 0,.slice none 0 0,.slice none 0 0] 48,.own (Zd.slice 105 q105) ([t3]:List S105) [.slice B5 1 d5],.box g3 [v303,v305,v307] 48,.own (Zd.slice 3 (Zd.int .i64)) t1602001.1.f9 [.slice B1602002 t1602001.1.f9.length d1602002],.own (Zd.slice 9 Zd.string) t1602001.1.f10 [.slice B1602003 t1602001.1.f10.length d1602003],.own (Zd.slice 9 Zd.string) t1602001.1.f11 [.slice B1602004 t1602001.1.f11.length d1602004],.own (Zd.slice 125 q125) l302 [v303],.own (Zd.slice 103 q103) l304 [v305],.own (Zd.slice 105 q105) l306 [v307]])
  case atStart=>exact⟨_,_,_,_,_,_,_,_,_,rfl,H,⟨Nat.le_refl _⟩,HS⟩
  case round=>
   clear HS H;(try clear F)
   obtain⟨l302,v303,l304,v305,l306,v307,x308,x309,x310,rfl,H,HKk301,HS⟩:=hrel
   obtain⟨B303,d303,rfl,m303⟩:=HS.form 7 rfl
   obtain⟨B305,d305,rfl,m305⟩:=HS.form 8 rfl
   obtain⟨B307,d307,rfl,m307⟩:=HS.form 9 rfl
   have F:=HS.bx
   cases gk with
   |zero=>exact absurd H.out (by simp [spec_l13Store_0.l2])
   | succ k301=>
    simp only [spec_l13Store_0.l2] at H
    replace H:=zbind H;obtain⟨t312,ht312,H⟩:=H
    go_upto_if 29 with((with_reducible refine gd 28 rfl ?_);refine ev_lb [0] HS (fun _ HL HA=>spec_l01Below_0.calls ht312.out gp1 lp1 (hV.lend HS HL) HA) Tryz.func45 ?_;clear HS;intro wt312 HS F)
    replace H:=znif H;rcases H with⟨c314,H⟩|⟨c314,H⟩
    ·
     (try simp only [c314,dcn])
     replace H:=zbind H;obtain⟨t332,ht332,H⟩:=H
     go_wp2_with ((with_reducible refine gd 67 rfl ?_);refine ev_lb1 [0] HS (fun _ HL HA=>spec_l12Lists_0.calls ht332.out gp1 lp1 (hV.lend HS HL) HA) Tryz.func111 ?_;clear HS;intro v333 wt332 HS F;obtain⟨B333,d333,rfl,m333⟩:=HS.form 10 rfl;(try simp only [hpn,hpm] at HS);have F:=HS.bx;refine HS.lend [0,1,3,7,8,9] (by decide) [.box p0 [.slice Ap1 a0.f0.length cp1,.int .i64 t332.2.f1,.int .i64 t332.2.f2] 110,.box g2 [.slice none 0 0,.slice none 0 0,.slice none 0 0] 48,.box g3 [.slice B303 l302.length d303,.slice B305 l304.length d305,.slice B307 l306.length d307] 48,.own (Zd.slice 125 q125) l302 [.slice B303 l302.length d303],.own (Zd.slice 103 q103) l304 [.slice B305 l304.length d305],.own (Zd.slice 105 q105) l306 [.slice B307 l306.length d307]] rfl (fun A335 HL HD HA HB335=>?_);have gb335_0:=hide_rd HD 2 rfl (by decide);have gb335_1:=hide_rd HD 4 rfl (by decide);have gb335_2:=hide_rd HD 5 rfl (by decide);have gb335_3:=hide_rd HD 6 rfl (by decide);have gb335_4:=hide_rd HD 10 rfl (by decide);have gb335_5:=hV.hideC up_int HS HL gp1;replace HS:=HA;replace hV:=hide_view A335 wt332;clear HA HD HL;(try clear F);replace HS:Hp A335 wt332 _ [.box p0 [.slice Ap1 a0.f0.length cp1,.int .i64 t332.2.f1,.int .i64 t332.2.f2] 110,.box g2 [.slice none 0 0,.slice none 0 0,.slice none 0 0] 48,.box g3 [.slice B303 l302.length d303,.slice B305 l304.length d305,.slice B307 l306.length d307] 48,.own (Zd.slice 125 q125) l302 [.slice B303 l302.length d303],.own (Zd.slice 103 q103) l304 [.slice B305 l304.length d305],.own (Zd.slice 105 q105) l306 [.slice B307 l306.length d307]]:=HS;have F:=HS.bx)
     (try obtain⟨wok378,rfl⟩:∃wo_:World,wo_=wr:=⟨_,rfl⟩)
     go_loopg [6] k301 (fun kq v_6 w'=>∃(l379:List S125) (v380:Value) (l381:List S103) (v382:Value) (l383:List S105) (v384:Value) (x385:Int),v_6=.int .i64 x385∧Aside0 (spec_l13Store_0.l3 kq l379 l381 l383 x385 a0 t332=some (r1,r2))∧Aside0 (kq≤k301)∧Hp A335 wt332 w' [.box p0 [.slice Ap1 a0.f0.length cp1,.int .i64 t332.2.f1,.int .i64 t332.2.f2] 110,.box g2 [.slice none 0 0,.slice none 0 0,.slice none 0 0] 48,.box g3 [v380,v382,v384] 48,.own (Zd.slice 125 q125) l379 [v380],.own (Zd.slice 103 q103) l381 [v382],.own (Zd.slice 105 q105) l383 [v384]])
     case atStart=>exact⟨_,_,_,_,_,_,_,rfl,H,⟨Nat.le_refl _⟩,HS⟩
     case round=>
      clear HS H;(try clear F)
      obtain⟨l379,v380,l381,v382,l383,v384,x385,rfl,H,HKk378,HS⟩:=hrel
      obtain⟨B380,d380,rfl,m380⟩:=HS.form 3 rfl
      obtain⟨B382,d382,rfl,m382⟩:=HS.form 4 rfl
      obtain⟨B384,d384,rfl,m384⟩:=HS.form 5 rfl
      have F:=HS.bx
      cases gk with
      |zero=>exact absurd H.out (by simp [spec_l13Store_0.l3])
      | succ k378=>
       simp only [spec_l13Store_0.l3] at H
       replace H:=znif H;rcases H with⟨c387,H⟩|⟨c387,H⟩
       ·
        obtain⟨rfl,rfl⟩:=zsome2 H
        go_wp2_with ((with_reducible refine gate_store (p:=2) rfl ?_);refine ev_st 1 0 HS (seg:=[.slice B380 l379.length d380,.slice B382 l381.length d382,.slice B384 l383.length d384]) ?_;clear HS;intro w391 HS F)
        have HS:=HB335 _ _ HS (Nat.le_of_ble_eq_true rfl)
        exact rc 1 HS Tryz.underlying48 ⟨_,_,_,rfl,HS.pi [0,7,8,9]⟩
       (try go_wp2)
       replace H:=zgo H;obtain⟨c2903001,H⟩:=H
       replace H:=zgo H;obtain⟨c2903002,H⟩:=H
       obtain⟨ad2903999,B2903999_5,d2903999_5,rfl,e2903999_0,e2903999_1,e2903999_2,e2903999_3,e2903999_4,e2903999_5,e2903999_6,m2903999_5,y2903999_5⟩:=at_T103 gb335_4 x385 (of_eq_true c2903001) (of_eq_true c2903002)
       replace H:=zbind H;obtain⟨t2905001,ht2905001,H⟩:=H
       refine dr_start [9] HS #[false,false,false,false,false,false,false,false,false,false] (by kernel_rfl) rfl rfl spec_l13Store_0.tT19 (fun w389 HT HS HH=>?_)
       (try clear F)
       refine dqt [0,1,2,3] HT HH ?_
       refine dtk 4 79 HT HH rfl (by rintro w' ⟨rs',HS'⟩;have e2903999_0:=(hV.keepc HS' e2903999_0);have e2903999_1:=(hV.keepc HS' e2903999_1);have e2903999_2:=(hV.keepc HS' e2903999_2);have e2903999_3:=(hV.keepc HS' e2903999_3);have e2903999_4:=(hV.keepc HS' e2903999_4);have e2903999_5:=(hV.keepc HS' e2903999_5);have e2903999_6:=(hV.keepc HS' e2903999_6);go_simp;with_reducible rfl) ?_
       refine dr1 5 HT fun K hK=>?_
       refine go_cl3 HS (spec_AddCrl.calls ht2905001.out (HS.rd 3 rfl) m380 (HS.rd 4 rfl) m382 (HS.rd 5 rfl) m384 (hV.ro km133 HS y2903999_5) m2903999_5) Tryz.func112 ?_;clear HS;intro v2905002 v2905003 v2905004 wt2905001 HS F;obtain⟨B2905002,d2905002,rfl,m2905002⟩:=HS.form 6 rfl;obtain⟨B2905003,d2905003,rfl,m2905003⟩:=HS.form 7 rfl;obtain⟨B2905004,d2905004,rfl,m2905004⟩:=HS.form 8 rfl
       refine hK.out _ _ ⟨_,HS⟩ (fun HH=>?_)
       clear hK K
       refine norm_ (a':=?_) ?_ ?_
       rotate_left
       · show Act.put _ (some 80) _=_;simp only [Act.put,ptn,c13];rfl
       refine dq [6,7,8] HT ?_
       refine dl 9 HT fun K hK=>?_
       refine if_st 2 0 HS (seg:=[.slice B2905002 t2905001.1.f0.length d2905002,.slice B2905003 t2905001.1.f1.length d2905003,.slice B2905004 t2905001.1.f2.length d2905004]) ?_;clear HS;intro w2909001 HS F
       refine hK.out _ _ ?_
       clear hK K
       refine dn HT ?_
       (try clear F)
       have F:=HS.bx
       go_wp2
       go_roundg k378
       case measure=>have:=HKk301.out;have:=HKk378.out;omega
       case rel=>exact⟨_,_,_,_,_,_,_,rfl,H,⟨by have:=HKk301.out;have:=HKk378.out;omega⟩,HS.pi [0,1,2,6,7,8]⟩
    (try simp only [c314,dcn])
    replace H:=zbind H;obtain⟨t315,ht315,H⟩:=H
    go_upto_if 43 with((with_reducible refine gd 33 rfl ?_);refine ev_lb [0] HS (fun _ HL HA=>spec_l01Below_0.calls ht315.out gp1 lp1 (hV.lend HS HL) HA) Tryz.func45 ?_;clear HS;intro wt315 HS F)
    replace H:=zif' H;rcases H with⟨c317,H⟩|⟨c317,H⟩
    ·
     obtain⟨c317a,c317b⟩:=bq c317;clear c317
     (try simp only [c317a,c317b,dcn])
     (try go_wp2)
     replace H:=zbind H;obtain⟨t2204001,ht2204001,H⟩:=H
     replace H:=zbind H;obtain⟨t2205001,ht2205001,H⟩:=H
     refine dr_start2 [.emp,.box g2 [.slice none 0 0,.slice none 0 0,.slice none 0 0] 48,.own (Zd.slice 105 q105) ([t3]:List S105) [.slice B5 1 d5],.box g3 [.slice B303 l302.length d303,.slice B305 l304.length d305,.slice B307 l306.length d307] 48,.own (Zd.slice 3 (Zd.int .i64)) t1602001.1.f9 [.slice B1602002 t1602001.1.f9.length d1602002],.own (Zd.slice 9 Zd.string) t1602001.1.f10 [.slice B1602003 t1602001.1.f10.length d1602003],.own (Zd.slice 9 Zd.string) t1602001.1.f11 [.slice B1602004 t1602001.1.f11.length d1602004],.own (Zd.slice 125 q125) l302 [.slice B303 l302.length d303],.own (Zd.slice 103 q103) l304 [.slice B305 l304.length d305],.own (Zd.slice 105 q105) l306 [.slice B307 l306.length d307]] [9] HS (HS.ar [none,some 1,some 2,some 3,some 4,some 5,some 6,some 7,some 8,some 9]) #[false,false,false,false,false,false,false,false,false,false] (by kernel_rfl) rfl rfl spec_l13Store_0.tT12 (fun w319 HT HS HH=>?_)
     (try clear F)
     refine dqt [0,1,2,3] HT HH ?_
     refine dr1 4 HT fun K hK=>?_
     refine go_lb3 [0] HS (fun _ HL HA=>spec_l09Made_0.calls ht2204001.out gp1 lp1 (hV.lend HS HL) HA) Tryz.func110 ?_;clear HS;intro v2204002 v2204003 v2204004 wt2204001 HS F;obtain⟨B2204002,d2204002,rfl,m2204002⟩:=HS.form 10 rfl;obtain⟨B2204003,d2204003,rfl,m2204003⟩:=HS.form 11 rfl;obtain⟨B2204004,d2204004,rfl,m2204004⟩:=HS.form 12 rfl
     (try simp only [hpn,hpm] at HS)
     have F:=HS.bx
     refine nra 51 hK (HS.ar [none,some 1,some 2,some 3,some 4,some 5,some 6,some 7,some 8,some 9]) fun HH=>?_;clear hK K
     refine dr1 5 HT fun K hK=>?_
     refine go_cl3 HS (spec_AddCert.calls ht2205001.out (HS.rd 7 rfl) m303 (HS.rd 8 rfl) m305 (HS.rd 9 rfl) m307 (HS.rd 10 rfl) m2204002 (HS.rd 11 rfl) m2204003 (HS.rd 12 rfl) m2204004) Tryz.func109 ?_;clear HS;intro v2205002 v2205003 v2205004 wt2205001 HS F;obtain⟨B2205002,d2205002,rfl,m2205002⟩:=HS.form 13 rfl;obtain⟨B2205003,d2205003,rfl,m2205003⟩:=HS.form 14 rfl;obtain⟨B2205004,d2205004,rfl,m2205004⟩:=HS.form 15 rfl
     refine nra 52 hK (HS.ar [none,some 1,some 2,some 3,some 4,some 5,some 6,some 7,some 8,some 9]) fun HH=>?_;clear hK K
     refine dq [6,7,8] HT ?_
     refine dl 9 HT fun K hK=>?_
     refine if_st 3 0 HS (seg:=[.slice B2205002 t2205001.1.f0.length d2205002,.slice B2205003 t2205001.1.f1.length d2205003,.slice B2205004 t2205001.1.f2.length d2205004]) ?_;clear HS;intro w2209001 HS F
     refine hK.out _ _ ?_
     clear hK K
     refine dn HT ?_
     (try clear F)
     have F:=HS.bx
     go_wp2
     go_roundg k301
     case measure=>have:=HKk301.out;omega
     case rel=>exact⟨_,_,_,_,_,_,_,_,_,rfl,H,⟨by have:=HKk301.out;omega⟩,HS.pi [0,1,2,3,4,5,6,13,14,15]⟩
    obtain⟨c317a,c317b⟩:=nq c317;clear c317
    (try simp only [c317a,c317b,dcn])
    replace H:=zif' H;rcases H with⟨c321,H⟩|⟨c321,H⟩
    ·
     obtain⟨c321a,c321b⟩:=bq c321;clear c321
     (try go_wp2)
     replace H:=zbind H;obtain⟨t2304001,ht2304001,H⟩:=H
     replace H:=zbind H;obtain⟨t2305001,ht2305001,H⟩:=H
     refine dr_start2 [.emp,.box g2 [.slice none 0 0,.slice none 0 0,.slice none 0 0] 48,.own (Zd.slice 105 q105) ([t3]:List S105) [.slice B5 1 d5],.box g3 [.slice B303 l302.length d303,.slice B305 l304.length d305,.slice B307 l306.length d307] 48,.own (Zd.slice 3 (Zd.int .i64)) t1602001.1.f9 [.slice B1602002 t1602001.1.f9.length d1602002],.own (Zd.slice 9 Zd.string) t1602001.1.f10 [.slice B1602003 t1602001.1.f10.length d1602003],.own (Zd.slice 9 Zd.string) t1602001.1.f11 [.slice B1602004 t1602001.1.f11.length d1602004],.own (Zd.slice 125 q125) l302 [.slice B303 l302.length d303],.own (Zd.slice 103 q103) l304 [.slice B305 l304.length d305],.own (Zd.slice 105 q105) l306 [.slice B307 l306.length d307]] [9] HS (HS.ar [none,some 1,some 2,some 3,some 4,some 5,some 6,some 7,some 8,some 9]) #[false,false,false,false,false,false,false,false,false,false] (by kernel_rfl) rfl rfl spec_l13Store_0.tT12 (fun w323 HT HS HH=>?_)
     (try clear F)
     refine dqt [0,1,2,3] HT HH ?_
     refine dr1 4 HT fun K hK=>?_
     refine go_lb3 [0] HS (fun _ HL HA=>spec_l09Made_0.calls ht2304001.out gp1 lp1 (hV.lend HS HL) HA) Tryz.func110 ?_;clear HS;intro v2304002 v2304003 v2304004 wt2304001 HS F;obtain⟨B2304002,d2304002,rfl,m2304002⟩:=HS.form 10 rfl;obtain⟨B2304003,d2304003,rfl,m2304003⟩:=HS.form 11 rfl;obtain⟨B2304004,d2304004,rfl,m2304004⟩:=HS.form 12 rfl
     (try simp only [hpn,hpm] at HS)
     have F:=HS.bx
     refine nra 51 hK (HS.ar [none,some 1,some 2,some 3,some 4,some 5,some 6,some 7,some 8,some 9]) fun HH=>?_;clear hK K
     refine dr1 5 HT fun K hK=>?_
     refine go_cl3 HS (spec_AddCert.calls ht2305001.out (HS.rd 7 rfl) m303 (HS.rd 8 rfl) m305 (HS.rd 9 rfl) m307 (HS.rd 10 rfl) m2304002 (HS.rd 11 rfl) m2304003 (HS.rd 12 rfl) m2304004) Tryz.func109 ?_;clear HS;intro v2305002 v2305003 v2305004 wt2305001 HS F;obtain⟨B2305002,d2305002,rfl,m2305002⟩:=HS.form 13 rfl;obtain⟨B2305003,d2305003,rfl,m2305003⟩:=HS.form 14 rfl;obtain⟨B2305004,d2305004,rfl,m2305004⟩:=HS.form 15 rfl
     refine nra 52 hK (HS.ar [none,some 1,some 2,some 3,some 4,some 5,some 6,some 7,some 8,some 9]) fun HH=>?_;clear hK K
     refine dq [6,7,8] HT ?_
     refine dl 9 HT fun K hK=>?_
     refine if_st 3 0 HS (seg:=[.slice B2305002 t2305001.1.f0.length d2305002,.slice B2305003 t2305001.1.f1.length d2305003,.slice B2305004 t2305001.1.f2.length d2305004]) ?_;clear HS;intro w2309001 HS F
     refine hK.out _ _ ?_
     clear hK K
     refine dn HT ?_
     (try clear F)
     have F:=HS.bx
     go_wp2
     go_roundg k301
     case measure=>have:=HKk301.out;omega
     case rel=>exact⟨_,_,_,_,_,_,_,_,_,rfl,H,⟨by have:=HKk301.out;omega⟩,HS.pi [0,1,2,3,4,5,6,13,14,15]⟩
    obtain⟨c321a,c321b⟩:=nq c321;clear c321
    replace H:=znif' H;rcases H with⟨c325,H⟩|⟨c325,H⟩
    ·
     obtain⟨c325a,c325b⟩:=nq c325;clear c325
     (try go_wp2)
     replace H:=zbind H;obtain⟨t2504001,ht2504001,H⟩:=H
     replace H:=zbind H;obtain⟨t2505001,ht2505001,H⟩:=H
     refine dr_start2 [.emp,.box g2 [.slice none 0 0,.slice none 0 0,.slice none 0 0] 48,.own (Zd.slice 105 q105) ([t3]:List S105) [.slice B5 1 d5],.box g3 [.slice B303 l302.length d303,.slice B305 l304.length d305,.slice B307 l306.length d307] 48,.own (Zd.slice 3 (Zd.int .i64)) t1602001.1.f9 [.slice B1602002 t1602001.1.f9.length d1602002],.own (Zd.slice 9 Zd.string) t1602001.1.f10 [.slice B1602003 t1602001.1.f10.length d1602003],.own (Zd.slice 9 Zd.string) t1602001.1.f11 [.slice B1602004 t1602001.1.f11.length d1602004],.own (Zd.slice 125 q125) l302 [.slice B303 l302.length d303],.own (Zd.slice 103 q103) l304 [.slice B305 l304.length d305],.own (Zd.slice 105 q105) l306 [.slice B307 l306.length d307]] [9] HS (HS.ar [none,some 1,some 2,some 3,some 4,some 5,some 6,some 7,some 8,some 9]) #[false,false,false,false,false,false,false,false,false,false] (by kernel_rfl) rfl rfl spec_l13Store_0.tT9 (fun w330 HT HS HH=>?_)
     (try clear F)
     refine dqt [0,1,2,3] HT HH ?_
     refine dr1 4 HT fun K hK=>?_
     refine go_lb3 [0] HS (fun _ HL HA=>spec_l09Made_0.calls ht2504001.out gp1 lp1 (hV.lend HS HL) HA) Tryz.func110 ?_;clear HS;intro v2504002 v2504003 v2504004 wt2504001 HS F;obtain⟨B2504002,d2504002,rfl,m2504002⟩:=HS.form 10 rfl;obtain⟨B2504003,d2504003,rfl,m2504003⟩:=HS.form 11 rfl;obtain⟨B2504004,d2504004,rfl,m2504004⟩:=HS.form 12 rfl
     (try simp only [hpn,hpm] at HS)
     have F:=HS.bx
     refine nra 39 hK (HS.ar [none,some 1,some 2,some 3,some 4,some 5,some 6,some 7,some 8,some 9]) fun HH=>?_;clear hK K
     refine dr1 5 HT fun K hK=>?_
     refine go_cl3 HS (spec_AddCert.calls ht2505001.out (HS.rd 7 rfl) m303 (HS.rd 8 rfl) m305 (HS.rd 9 rfl) m307 (HS.rd 10 rfl) m2504002 (HS.rd 11 rfl) m2504003 (HS.rd 12 rfl) m2504004) Tryz.func109 ?_;clear HS;intro v2505002 v2505003 v2505004 wt2505001 HS F;obtain⟨B2505002,d2505002,rfl,m2505002⟩:=HS.form 13 rfl;obtain⟨B2505003,d2505003,rfl,m2505003⟩:=HS.form 14 rfl;obtain⟨B2505004,d2505004,rfl,m2505004⟩:=HS.form 15 rfl
     refine nra 40 hK (HS.ar [none,some 1,some 2,some 3,some 4,some 5,some 6,some 7,some 8,some 9]) fun HH=>?_;clear hK K
     refine dq [6,7,8] HT ?_
     refine dl 9 HT fun K hK=>?_
     refine if_st 3 0 HS (seg:=[.slice B2505002 t2505001.1.f0.length d2505002,.slice B2505003 t2505001.1.f1.length d2505003,.slice B2505004 t2505001.1.f2.length d2505004]) ?_;clear HS;intro w2509001 HS F
     refine hK.out _ _ ?_
     clear hK K
     refine dn HT ?_
     (try clear F)
     have F:=HS.bx
     go_wp2
     go_roundg k301
     case measure=>have:=HKk301.out;omega
     case rel=>exact⟨_,_,_,_,_,_,_,_,_,rfl,H,⟨by have:=HKk301.out;omega⟩,HS.pi [0,1,2,3,4,5,6,13,14,15]⟩
    obtain⟨c325a,c325b⟩:=bq c325;clear c325
    (try go_wp2)
    replace H:=zbind H;obtain⟨t2404001,ht2404001,H⟩:=H
    replace H:=zbind H;obtain⟨t2405001,ht2405001,H⟩:=H
    refine dr_start2 [.emp,.box g2 [.slice none 0 0,.slice none 0 0,.slice none 0 0] 48,.own (Zd.slice 105 q105) ([t3]:List S105) [.slice B5 1 d5],.box g3 [.slice B303 l302.length d303,.slice B305 l304.length d305,.slice B307 l306.length d307] 48,.own (Zd.slice 3 (Zd.int .i64)) t1602001.1.f9 [.slice B1602002 t1602001.1.f9.length d1602002],.own (Zd.slice 9 Zd.string) t1602001.1.f10 [.slice B1602003 t1602001.1.f10.length d1602003],.own (Zd.slice 9 Zd.string) t1602001.1.f11 [.slice B1602004 t1602001.1.f11.length d1602004],.own (Zd.slice 125 q125) l302 [.slice B303 l302.length d303],.own (Zd.slice 103 q103) l304 [.slice B305 l304.length d305],.own (Zd.slice 105 q105) l306 [.slice B307 l306.length d307]] [9] HS (HS.ar [none,some 1,some 2,some 3,some 4,some 5,some 6,some 7,some 8,some 9]) #[false,false,false,false,false,false,false,false,false,false] (by kernel_rfl) rfl rfl spec_l13Store_0.tT14 (fun w327 HT HS HH=>?_)
    (try clear F)
    refine dqt [0,1,2,3] HT HH ?_
    refine dr1 4 HT fun K hK=>?_
    refine go_lb3 [0] HS (fun _ HL HA=>spec_l09Made_0.calls ht2404001.out gp1 lp1 (hV.lend HS HL) HA) Tryz.func110 ?_;clear HS;intro v2404002 v2404003 v2404004 wt2404001 HS F;obtain⟨B2404002,d2404002,rfl,m2404002⟩:=HS.form 10 rfl;obtain⟨B2404003,d2404003,rfl,m2404003⟩:=HS.form 11 rfl;obtain⟨B2404004,d2404004,rfl,m2404004⟩:=HS.form 12 rfl
    (try simp only [hpn,hpm] at HS)
    have F:=HS.bx
    refine nra 62 hK (HS.ar [none,some 1,some 2,some 3,some 4,some 5,some 6,some 7,some 8,some 9]) fun HH=>?_;clear hK K
    refine dr1 5 HT fun K hK=>?_
    refine go_cl3 HS (spec_AddCert.calls ht2405001.out (HS.rd 7 rfl) m303 (HS.rd 8 rfl) m305 (HS.rd 9 rfl) m307 (HS.rd 10 rfl) m2404002 (HS.rd 11 rfl) m2404003 (HS.rd 12 rfl) m2404004) Tryz.func109 ?_;clear HS;intro v2405002 v2405003 v2405004 wt2405001 HS F;obtain⟨B2405002,d2405002,rfl,m2405002⟩:=HS.form 13 rfl;obtain⟨B2405003,d2405003,rfl,m2405003⟩:=HS.form 14 rfl;obtain⟨B2405004,d2405004,rfl,m2405004⟩:=HS.form 15 rfl
    refine nra 63 hK (HS.ar [none,some 1,some 2,some 3,some 4,some 5,some 6,some 7,some 8,some 9]) fun HH=>?_;clear hK K
    refine dq [6,7,8] HT ?_
    refine dl 9 HT fun K hK=>?_
    refine if_st 3 0 HS (seg:=[.slice B2405002 t2405001.1.f0.length d2405002,.slice B2405003 t2405001.1.f1.length d2405003,.slice B2405004 t2405001.1.f2.length d2405004]) ?_;clear HS;intro w2409001 HS F
    refine hK.out _ _ ?_
    clear hK K
    refine dn HT ?_
    (try clear F)
    have F:=HS.bx
    go_wp2
    go_roundg k301
    case measure=>have:=HKk301.out;omega
    case rel=>exact⟨_,_,_,_,_,_,_,_,_,rfl,H,⟨by have:=HKk301.out;omega⟩,HS.pi [0,1,2,3,4,5,6,13,14,15]⟩
 (try simp only [c13,dcn])
 (try go_wp2)
 replace H:=zbind H;obtain⟨t7,ht7,H⟩:=H
 replace H:=zgo H;obtain⟨c17,H⟩:=H
 replace H:=zlets H;obtain⟨y20,e_y20,H⟩:=H
 refine dr_start2 [.box p0 [.slice Ap1 a0.f0.length cp1,.int .i64 t11.2.f1,.int .i64 t11.2.f2] 110,.box g2 [.slice none 0 0,.slice none 0 0,.slice none 0 0] 48,.emp,.box g3 [.slice none 0 0,.slice none 0 0,.slice B5 1 d5] 48] [7] HS (HS.ar [some 0,some 1,none,some 3]) #[false,false,false,false,false,false,false,false] (by kernel_rfl) rfl rfl spec_l13Store_0.tT3 (fun w15 HT HS HH=>?_)
 (try clear F)
 refine dqt [0,1] HT HH ?_
 refine dr1 2 HT fun K hK=>?_
 refine go_cl HS (spec_PublicAt.calls ht7.out) Tryz.func89 ?_;clear HS;intro wt7 HS F
 refine nra 14 hK (HS.ar [some 0,some 1,none,some 3]) fun HH=>?_;clear hK K
 refine dq [3] HT ?_
 refine dr1 4 HT fun K hK=>?_
 refine if_li q105 [] ([(⟨(⟨#[111,114,103]⟩:ByteArray),t7⟩:S105)]:List S105) ([.string (⟨#[111,114,103]⟩:ByteArray),.string t7]++ []) HS (MadeL.cons (js1:=[]) (c:=[.string (⟨#[111,114,103]⟩:ByteArray),.string t7]) rfl (made_flat (fun _=>q105_flat _ _ _)) MadeL.nil (by decide)) ?_;clear HS;intro v16 w16 HS F;obtain⟨B16,d16,rfl,m16⟩:=HS.formn 1 4 rfl rfl
 refine nra 16 hK (HS.ar [some 0,some 1,none,some 3]) fun HH=>?_;clear hK K
 refine dr1 5 HT fun K hK=>?_
 refine wp_ap q105 2 4 HS rfl rfl Tryz.underlying46 info105 (of_eq_true c17) ?_;clear HS;intro v20 w20 HS;rw [←e_y20.out] at HS;obtain⟨B20,d20,rfl,m20⟩:=HS.form 5 rfl
 (try simp only [hpn,hpm] at HS)
 have F:=HS.bx
 refine nra 17 hK (HS.ar [some 0,some 1,none,some 3]) fun HH=>?_;clear hK K
 refine dq [6] HT ?_
 refine dl 7 HT fun K hK=>?_
 refine if_st 3 2 HS (seg:=[.slice B20 y20.length d20]) ?_;clear HS;intro w21 HS F
 refine hK.out _ _ ?_
 clear hK K
 refine dn HT ?_
 (try clear F)
 have F:=HS.bx
 (try go_wp2)
 replace H:=zbind H;obtain⟨t22,ht22,H⟩:=H
 replace H:=zbind H;obtain⟨t26,ht26,H⟩:=H
 refine dr_start2 [.emp,.box g2 [.slice none 0 0,.slice none 0 0,.slice none 0 0] 48,.emp,.box g3 [.slice none 0 0,.slice none 0 0,.slice B20 y20.length d20] 48,.emp,.own (Zd.slice 105 q105) y20 [.slice B20 y20.length d20]] [7] HS (HS.ar [none,some 1,none,some 3,none,some 5]) #[false,false,false,false,false,false,false,false] (by kernel_rfl) rfl rfl spec_l13Store_0.tT4 (fun w18 HT HS HH=>?_)
 (try clear F)
 refine dqt [0,1] HT HH ?_
 refine dr1 2 HT fun K hK=>?_
 refine go_lb3 [0] HS (fun _ HL HA=>spec_l09Made_0.calls ht22.out gp1 lp1 (hV.lend HS HL) HA) Tryz.func110 ?_;clear HS;intro v23 v24 v25 wt22 HS F;obtain⟨B23,d23,rfl,m23⟩:=HS.form 6 rfl;obtain⟨B24,d24,rfl,m24⟩:=HS.form 7 rfl;obtain⟨B25,d25,rfl,m25⟩:=HS.form 8 rfl
 (try simp only [hpn,hpm] at HS)
 have F:=HS.bx
 refine nra 22 hK (HS.ar [none,some 1,none,some 3,none,some 5]) fun HH=>?_;clear hK K
 refine dr1 3 HT fun K hK=>?_
 refine go_cl3 HS (spec_AddCert.calls ht26.out (C_nil _ _) (Nat.le_refl 0) (C_nil _ _) (Nat.le_refl 0) (HS.rd 5 rfl) m20 (HS.rd 6 rfl) m23 (HS.rd 7 rfl) m24 (HS.rd 8 rfl) m25) Tryz.func109 ?_;clear HS;intro v27 v28 v29 wt26 HS F;obtain⟨B27,d27,rfl,m27⟩:=HS.form 9 rfl;obtain⟨B28,d28,rfl,m28⟩:=HS.form 10 rfl;obtain⟨B29,d29,rfl,m29⟩:=HS.form 11 rfl
 refine nra 23 hK (HS.ar [none,some 1,none,some 3,none,some 5]) fun HH=>?_;clear hK K
 refine dq [4,5,6] HT ?_
 refine dl 7 HT fun K hK=>?_
 refine if_st 3 0 HS (seg:=[.slice B27 t26.1.f0.length d27,.slice B28 t26.1.f1.length d28,.slice B29 t26.1.f2.length d29]) ?_;clear HS;intro w30 HS F
 refine hK.out _ _ ?_
 clear hK K
 refine dn HT ?_
 (try clear F)
 have F:=HS.bx
 go_wp2
 go_loopg [4] k (fun kq v_4 w'=>∃(l114:List S125) (v115:Value) (l116:List S103) (v117:Value) (l118:List S105) (v119:Value) (x120:Int) (x121:Int) (x122:Int),v_4=.int .i64 x120∧Aside0 (spec_l13Store_0.l0 kq l114 l116 l118 x120 x121 x122 a0=some (r1,r2))∧Aside0 (kq≤k)∧Hp A w w' [.box p0 [.slice Ap1 a0.f0.length cp1,.int .i64 x121,.int .i64 x122] 110,.box g2 [.slice none 0 0,.slice none 0 0,.slice none 0 0] 48,.emp,.box g3 [v115,v117,v119] 48,.emp,.own (Zd.slice 105 q105) y20 [.slice B20 y20.length d20],.own (Zd.slice 3 (Zd.int .i64)) t22.1.f9 [.slice B23 t22.1.f9.length d23],.own (Zd.slice 9 Zd.string) t22.1.f10 [.slice B24 t22.1.f10.length d24],.own (Zd.slice 9 Zd.string) t22.1.f11 [.slice B25 t22.1.f11.length d25],.own (Zd.slice 125 q125) l114 [v115],.own (Zd.slice 103 q103) l116 [v117],.own (Zd.slice 105 q105) l118 [v119]])
 case atStart=>exact⟨_,_,_,_,_,_,_,_,_,rfl,H,⟨Nat.le_refl _⟩,HS⟩
 case round=>
  clear HS H;(try clear F)
  obtain⟨l114,v115,l116,v117,l118,v119,x120,x121,x122,rfl,H,HKk113,HS⟩:=hrel
  obtain⟨B115,d115,rfl,m115⟩:=HS.form 9 rfl
  obtain⟨B117,d117,rfl,m117⟩:=HS.form 10 rfl
  obtain⟨B119,d119,rfl,m119⟩:=HS.form 11 rfl
  have F:=HS.bx
  cases gk with
  |zero=>exact absurd H.out (by simp [spec_l13Store_0.l0])
  | succ k113=>
   simp only [spec_l13Store_0.l0] at H
   replace H:=zbind H;obtain⟨t124,ht124,H⟩:=H
   go_upto_if 29 with((with_reducible refine gd 28 rfl ?_);refine ev_lb [0] HS (fun _ HL HA=>spec_l01Below_0.calls ht124.out gp1 lp1 (hV.lend HS HL) HA) Tryz.func45 ?_;clear HS;intro wt124 HS F)
   replace H:=znif H;rcases H with⟨c126,H⟩|⟨c126,H⟩
   ·
    (try simp only [c126,dcn])
    replace H:=zbind H;obtain⟨t144,ht144,H⟩:=H
    go_wp2_with ((with_reducible refine gd 67 rfl ?_);refine ev_lb1 [0] HS (fun _ HL HA=>spec_l12Lists_0.calls ht144.out gp1 lp1 (hV.lend HS HL) HA) Tryz.func111 ?_;clear HS;intro v145 wt144 HS F;obtain⟨B145,d145,rfl,m145⟩:=HS.form 12 rfl;(try simp only [hpn,hpm] at HS);have F:=HS.bx;refine HS.lend [0,1,3,9,10,11] (by decide) [.box p0 [.slice Ap1 a0.f0.length cp1,.int .i64 t144.2.f1,.int .i64 t144.2.f2] 110,.box g2 [.slice none 0 0,.slice none 0 0,.slice none 0 0] 48,.box g3 [.slice B115 l114.length d115,.slice B117 l116.length d117,.slice B119 l118.length d119] 48,.own (Zd.slice 125 q125) l114 [.slice B115 l114.length d115],.own (Zd.slice 103 q103) l116 [.slice B117 l116.length d117],.own (Zd.slice 105 q105) l118 [.slice B119 l118.length d119]] rfl (fun A147 HL HD HA HB147=>?_);have gb147_0:=hide_rd HD 5 rfl (by decide);have gb147_1:=hide_rd HD 6 rfl (by decide);have gb147_2:=hide_rd HD 7 rfl (by decide);have gb147_3:=hide_rd HD 8 rfl (by decide);have gb147_4:=hide_rd HD 12 rfl (by decide);have gb147_5:=hV.hideC up_int HS HL gp1;replace HS:=HA;replace hV:=hide_view A147 wt144;clear HA HD HL;(try clear F);replace HS:Hp A147 wt144 _ [.box p0 [.slice Ap1 a0.f0.length cp1,.int .i64 t144.2.f1,.int .i64 t144.2.f2] 110,.box g2 [.slice none 0 0,.slice none 0 0,.slice none 0 0] 48,.box g3 [.slice B115 l114.length d115,.slice B117 l116.length d117,.slice B119 l118.length d119] 48,.own (Zd.slice 125 q125) l114 [.slice B115 l114.length d115],.own (Zd.slice 103 q103) l116 [.slice B117 l116.length d117],.own (Zd.slice 105 q105) l118 [.slice B119 l118.length d119]]:=HS;have F:=HS.bx)
    (try obtain⟨wok190,rfl⟩:∃wo_:World,wo_=wr:=⟨_,rfl⟩)
    go_loopg [6] k113 (fun kq v_6 w'=>∃(l191:List S125) (v192:Value) (l193:List S103) (v194:Value) (l195:List S105) (v196:Value) (x197:Int),v_6=.int .i64 x197∧Aside0 (spec_l13Store_0.l1 kq l191 l193 l195 x197 a0 t144=some (r1,r2))∧Aside0 (kq≤k113)∧Hp A147 wt144 w' [.box p0 [.slice Ap1 a0.f0.length cp1,.int .i64 t144.2.f1,.int .i64 t144.2.f2] 110,.box g2 [.slice none 0 0,.slice none 0 0,.slice none 0 0] 48,.box g3 [v192,v194,v196] 48,.own (Zd.slice 125 q125) l191 [v192],.own (Zd.slice 103 q103) l193 [v194],.own (Zd.slice 105 q105) l195 [v196]])
    case atStart=>exact⟨_,_,_,_,_,_,_,rfl,H,⟨Nat.le_refl _⟩,HS⟩
    case round=>
     clear HS H;(try clear F)
     obtain⟨l191,v192,l193,v194,l195,v196,x197,rfl,H,HKk190,HS⟩:=hrel
     obtain⟨B192,d192,rfl,m192⟩:=HS.form 3 rfl
     obtain⟨B194,d194,rfl,m194⟩:=HS.form 4 rfl
     obtain⟨B196,d196,rfl,m196⟩:=HS.form 5 rfl
     have F:=HS.bx
     cases gk with
     |zero=>exact absurd H.out (by simp [spec_l13Store_0.l1])
     | succ k190=>
      simp only [spec_l13Store_0.l1] at H
      replace H:=znif H;rcases H with⟨c199,H⟩|⟨c199,H⟩
      ·
       obtain⟨rfl,rfl⟩:=zsome2 H
       go_wp2_with ((with_reducible refine gate_store (p:=2) rfl ?_);refine ev_st 1 0 HS (seg:=[.slice B192 l191.length d192,.slice B194 l193.length d194,.slice B196 l195.length d196]) ?_;clear HS;intro w203 HS F)
       have HS:=HB147 _ _ HS (Nat.le_of_ble_eq_true rfl)
       exact rc 1 HS Tryz.underlying48 ⟨_,_,_,rfl,HS.pi [0,9,10,11]⟩
      (try go_wp2)
      replace H:=zgo H;obtain⟨c1503001,H⟩:=H
      replace H:=zgo H;obtain⟨c1503002,H⟩:=H
      obtain⟨ad1503999,B1503999_5,d1503999_5,rfl,e1503999_0,e1503999_1,e1503999_2,e1503999_3,e1503999_4,e1503999_5,e1503999_6,m1503999_5,y1503999_5⟩:=at_T103 gb147_4 x197 (of_eq_true c1503001) (of_eq_true c1503002)
      replace H:=zbind H;obtain⟨t1505001,ht1505001,H⟩:=H
      refine dr_start [9] HS #[false,false,false,false,false,false,false,false,false,false] (by kernel_rfl) rfl rfl spec_l13Store_0.tT19 (fun w201 HT HS HH=>?_)
      (try clear F)
      refine dqt [0,1,2,3] HT HH ?_
      refine dtk 4 79 HT HH rfl (by rintro w' ⟨rs',HS'⟩;have e1503999_0:=(hV.keepc HS' e1503999_0);have e1503999_1:=(hV.keepc HS' e1503999_1);have e1503999_2:=(hV.keepc HS' e1503999_2);have e1503999_3:=(hV.keepc HS' e1503999_3);have e1503999_4:=(hV.keepc HS' e1503999_4);have e1503999_5:=(hV.keepc HS' e1503999_5);have e1503999_6:=(hV.keepc HS' e1503999_6);go_simp;with_reducible rfl) ?_
      refine dr1 5 HT fun K hK=>?_
      refine go_cl3 HS (spec_AddCrl.calls ht1505001.out (HS.rd 3 rfl) m192 (HS.rd 4 rfl) m194 (HS.rd 5 rfl) m196 (hV.ro km133 HS y1503999_5) m1503999_5) Tryz.func112 ?_;clear HS;intro v1505002 v1505003 v1505004 wt1505001 HS F;obtain⟨B1505002,d1505002,rfl,m1505002⟩:=HS.form 6 rfl;obtain⟨B1505003,d1505003,rfl,m1505003⟩:=HS.form 7 rfl;obtain⟨B1505004,d1505004,rfl,m1505004⟩:=HS.form 8 rfl
      refine hK.out _ _ ⟨_,HS⟩ (fun HH=>?_)
      clear hK K
      refine norm_ (a':=?_) ?_ ?_
      rotate_left
      · show Act.put _ (some 80) _=_;simp only [Act.put,ptn,c13];rfl
      refine dq [6,7,8] HT ?_
      refine dl 9 HT fun K hK=>?_
      refine if_st 2 0 HS (seg:=[.slice B1505002 t1505001.1.f0.length d1505002,.slice B1505003 t1505001.1.f1.length d1505003,.slice B1505004 t1505001.1.f2.length d1505004]) ?_;clear HS;intro w1509001 HS F
      refine hK.out _ _ ?_
      clear hK K
      refine dn HT ?_
      (try clear F)
      have F:=HS.bx
      go_wp2
      go_roundg k190
      case measure=>have:=HKk113.out;have:=HKk190.out;omega
      case rel=>exact⟨_,_,_,_,_,_,_,rfl,H,⟨by have:=HKk113.out;have:=HKk190.out;omega⟩,HS.pi [0,1,2,6,7,8]⟩
   (try simp only [c126,dcn])
   replace H:=zbind H;obtain⟨t127,ht127,H⟩:=H
   go_upto_if 43 with((with_reducible refine gd 33 rfl ?_);refine ev_lb [0] HS (fun _ HL HA=>spec_l01Below_0.calls ht127.out gp1 lp1 (hV.lend HS HL) HA) Tryz.func45 ?_;clear HS;intro wt127 HS F)
   replace H:=zif' H;rcases H with⟨c129,H⟩|⟨c129,H⟩
   ·
    obtain⟨c129a,c129b⟩:=bq c129;clear c129
    (try simp only [c129a,c129b,dcn])
    (try go_wp2)
    replace H:=zbind H;obtain⟨t31,ht31,H⟩:=H
    replace H:=zbind H;obtain⟨t35,ht35,H⟩:=H
    refine dr_start2 [.emp,.box g2 [.slice none 0 0,.slice none 0 0,.slice none 0 0] 48,.emp,.box g3 [.slice B115 l114.length d115,.slice B117 l116.length d117,.slice B119 l118.length d119] 48,.emp,.own (Zd.slice 105 q105) y20 [.slice B20 y20.length d20],.own (Zd.slice 3 (Zd.int .i64)) t22.1.f9 [.slice B23 t22.1.f9.length d23],.own (Zd.slice 9 Zd.string) t22.1.f10 [.slice B24 t22.1.f10.length d24],.own (Zd.slice 9 Zd.string) t22.1.f11 [.slice B25 t22.1.f11.length d25],.own (Zd.slice 125 q125) l114 [.slice B115 l114.length d115],.own (Zd.slice 103 q103) l116 [.slice B117 l116.length d117],.own (Zd.slice 105 q105) l118 [.slice B119 l118.length d119]] [9] HS (HS.ar [none,some 1,none,some 3,none,some 5,some 6,some 7,some 8,some 9,some 10,some 11]) #[false,false,false,false,false,false,false,false,false,false] (by kernel_rfl) rfl rfl spec_l13Store_0.tT12 (fun w131 HT HS HH=>?_)
    (try clear F)
    refine dqt [0,1,2,3] HT HH ?_
    refine dr1 4 HT fun K hK=>?_
    refine go_lb3 [0] HS (fun _ HL HA=>spec_l09Made_0.calls ht31.out gp1 lp1 (hV.lend HS HL) HA) Tryz.func110 ?_;clear HS;intro v32 v33 v34 wt31 HS F;obtain⟨B32,d32,rfl,m32⟩:=HS.form 12 rfl;obtain⟨B33,d33,rfl,m33⟩:=HS.form 13 rfl;obtain⟨B34,d34,rfl,m34⟩:=HS.form 14 rfl
    (try simp only [hpn,hpm] at HS)
    have F:=HS.bx
    refine nra 51 hK (HS.ar [none,some 1,none,some 3,none,some 5,some 6,some 7,some 8,some 9,some 10,some 11]) fun HH=>?_;clear hK K
    refine dr1 5 HT fun K hK=>?_
    refine go_cl3 HS (spec_AddCert.calls ht35.out (HS.rd 9 rfl) m115 (HS.rd 10 rfl) m117 (HS.rd 11 rfl) m119 (HS.rd 12 rfl) m32 (HS.rd 13 rfl) m33 (HS.rd 14 rfl) m34) Tryz.func109 ?_;clear HS;intro v36 v37 v38 wt35 HS F;obtain⟨B36,d36,rfl,m36⟩:=HS.form 15 rfl;obtain⟨B37,d37,rfl,m37⟩:=HS.form 16 rfl;obtain⟨B38,d38,rfl,m38⟩:=HS.form 17 rfl
    refine nra 52 hK (HS.ar [none,some 1,none,some 3,none,some 5,some 6,some 7,some 8,some 9,some 10,some 11]) fun HH=>?_;clear hK K
    refine dq [6,7,8] HT ?_
    refine dl 9 HT fun K hK=>?_
    refine if_st 3 0 HS (seg:=[.slice B36 t35.1.f0.length d36,.slice B37 t35.1.f1.length d37,.slice B38 t35.1.f2.length d38]) ?_;clear HS;intro w39 HS F
    refine hK.out _ _ ?_
    clear hK K
    refine dn HT ?_
    (try clear F)
    have F:=HS.bx
    go_wp2
    go_roundg k113
    case measure=>have:=HKk113.out;omega
    case rel=>exact⟨_,_,_,_,_,_,_,_,_,rfl,H,⟨by have:=HKk113.out;omega⟩,HS.pi [0,1,2,3,4,5,6,7,8,15,16,17]⟩
   obtain⟨c129a,c129b⟩:=nq c129;clear c129
   (try simp only [c129a,c129b,dcn])
   replace H:=zif' H;rcases H with⟨c133,H⟩|⟨c133,H⟩
   ·
    obtain⟨c133a,c133b⟩:=bq c133;clear c133
    (try go_wp2)
    replace H:=zbind H;obtain⟨t40,ht40,H⟩:=H
    replace H:=zbind H;obtain⟨t44,ht44,H⟩:=H
    refine dr_start2 [.emp,.box g2 [.slice none 0 0,.slice none 0 0,.slice none 0 0] 48,.emp,.box g3 [.slice B115 l114.length d115,.slice B117 l116.length d117,.slice B119 l118.length d119] 48,.emp,.own (Zd.slice 105 q105) y20 [.slice B20 y20.length d20],.own (Zd.slice 3 (Zd.int .i64)) t22.1.f9 [.slice B23 t22.1.f9.length d23],.own (Zd.slice 9 Zd.string) t22.1.f10 [.slice B24 t22.1.f10.length d24],.own (Zd.slice 9 Zd.string) t22.1.f11 [.slice B25 t22.1.f11.length d25],.own (Zd.slice 125 q125) l114 [.slice B115 l114.length d115],.own (Zd.slice 103 q103) l116 [.slice B117 l116.length d117],.own (Zd.slice 105 q105) l118 [.slice B119 l118.length d119]] [9] HS (HS.ar [none,some 1,none,some 3,none,some 5,some 6,some 7,some 8,some 9,some 10,some 11]) #[false,false,false,false,false,false,false,false,false,false] (by kernel_rfl) rfl rfl spec_l13Store_0.tT12 (fun w135 HT HS HH=>?_)
    (try clear F)
    refine dqt [0,1,2,3] HT HH ?_
    refine dr1 4 HT fun K hK=>?_
    refine go_lb3 [0] HS (fun _ HL HA=>spec_l09Made_0.calls ht40.out gp1 lp1 (hV.lend HS HL) HA) Tryz.func110 ?_;clear HS;intro v41 v42 v43 wt40 HS F;obtain⟨B41,d41,rfl,m41⟩:=HS.form 12 rfl;obtain⟨B42,d42,rfl,m42⟩:=HS.form 13 rfl;obtain⟨B43,d43,rfl,m43⟩:=HS.form 14 rfl
    (try simp only [hpn,hpm] at HS)
    have F:=HS.bx
    refine nra 51 hK (HS.ar [none,some 1,none,some 3,none,some 5,some 6,some 7,some 8,some 9,some 10,some 11]) fun HH=>?_;clear hK K
    refine dr1 5 HT fun K hK=>?_
    refine go_cl3 HS (spec_AddCert.calls ht44.out (HS.rd 9 rfl) m115 (HS.rd 10 rfl) m117 (HS.rd 11 rfl) m119 (HS.rd 12 rfl) m41 (HS.rd 13 rfl) m42 (HS.rd 14 rfl) m43) Tryz.func109 ?_;clear HS;intro v47 v49 v50 wt44 HS F;obtain⟨B47,d47,rfl,m47⟩:=HS.form 15 rfl;obtain⟨B49,d49,rfl,m49⟩:=HS.form 16 rfl;obtain⟨B50,d50,rfl,m50⟩:=HS.form 17 rfl
    refine nra 52 hK (HS.ar [none,some 1,none,some 3,none,some 5,some 6,some 7,some 8,some 9,some 10,some 11]) fun HH=>?_;clear hK K
    refine dq [6,7,8] HT ?_
    refine dl 9 HT fun K hK=>?_
    refine if_st 3 0 HS (seg:=[.slice B47 t44.1.f0.length d47,.slice B49 t44.1.f1.length d49,.slice B50 t44.1.f2.length d50]) ?_;clear HS;intro w51 HS F
    refine hK.out _ _ ?_
    clear hK K
    refine dn HT ?_
    (try clear F)
    have F:=HS.bx
    go_wp2
    go_roundg k113
    case measure=>have:=HKk113.out;omega
    case rel=>exact⟨_,_,_,_,_,_,_,_,_,rfl,H,⟨by have:=HKk113.out;omega⟩,HS.pi [0,1,2,3,4,5,6,7,8,15,16,17]⟩
   obtain⟨c133a,c133b⟩:=nq c133;clear c133
   replace H:=znif' H;rcases H with⟨c137,H⟩|⟨c137,H⟩
   ·
    obtain⟨c137a,c137b⟩:=nq c137;clear c137
    (try go_wp2)
    replace H:=zbind H;obtain⟨t1104001,ht1104001,H⟩:=H
    replace H:=zbind H;obtain⟨t1105001,ht1105001,H⟩:=H
    refine dr_start2 [.emp,.box g2 [.slice none 0 0,.slice none 0 0,.slice none 0 0] 48,.emp,.box g3 [.slice B115 l114.length d115,.slice B117 l116.length d117,.slice B119 l118.length d119] 48,.emp,.own (Zd.slice 105 q105) y20 [.slice B20 y20.length d20],.own (Zd.slice 3 (Zd.int .i64)) t22.1.f9 [.slice B23 t22.1.f9.length d23],.own (Zd.slice 9 Zd.string) t22.1.f10 [.slice B24 t22.1.f10.length d24],.own (Zd.slice 9 Zd.string) t22.1.f11 [.slice B25 t22.1.f11.length d25],.own (Zd.slice 125 q125) l114 [.slice B115 l114.length d115],.own (Zd.slice 103 q103) l116 [.slice B117 l116.length d117],.own (Zd.slice 105 q105) l118 [.slice B119 l118.length d119]] [9] HS (HS.ar [none,some 1,none,some 3,none,some 5,some 6,some 7,some 8,some 9,some 10,some 11]) #[false,false,false,false,false,false,false,false,false,false] (by kernel_rfl) rfl rfl spec_l13Store_0.tT9 (fun w142 HT HS HH=>?_)
    (try clear F)
    refine dqt [0,1,2,3] HT HH ?_
    refine dr1 4 HT fun K hK=>?_
    refine go_lb3 [0] HS (fun _ HL HA=>spec_l09Made_0.calls ht1104001.out gp1 lp1 (hV.lend HS HL) HA) Tryz.func110 ?_;clear HS;intro v1104002 v1104003 v1104004 wt1104001 HS F;obtain⟨B1104002,d1104002,rfl,m1104002⟩:=HS.form 12 rfl;obtain⟨B1104003,d1104003,rfl,m1104003⟩:=HS.form 13 rfl;obtain⟨B1104004,d1104004,rfl,m1104004⟩:=HS.form 14 rfl
    (try simp only [hpn,hpm] at HS)
    have F:=HS.bx
    refine nra 39 hK (HS.ar [none,some 1,none,some 3,none,some 5,some 6,some 7,some 8,some 9,some 10,some 11]) fun HH=>?_;clear hK K
    refine dr1 5 HT fun K hK=>?_
    refine go_cl3 HS (spec_AddCert.calls ht1105001.out (HS.rd 9 rfl) m115 (HS.rd 10 rfl) m117 (HS.rd 11 rfl) m119 (HS.rd 12 rfl) m1104002 (HS.rd 13 rfl) m1104003 (HS.rd 14 rfl) m1104004) Tryz.func109 ?_;clear HS;intro v1105002 v1105003 v1105004 wt1105001 HS F;obtain⟨B1105002,d1105002,rfl,m1105002⟩:=HS.form 15 rfl;obtain⟨B1105003,d1105003,rfl,m1105003⟩:=HS.form 16 rfl;obtain⟨B1105004,d1105004,rfl,m1105004⟩:=HS.form 17 rfl
    refine nra 40 hK (HS.ar [none,some 1,none,some 3,none,some 5,some 6,some 7,some 8,some 9,some 10,some 11]) fun HH=>?_;clear hK K
    refine dq [6,7,8] HT ?_
    refine dl 9 HT fun K hK=>?_
    refine if_st 3 0 HS (seg:=[.slice B1105002 t1105001.1.f0.length d1105002,.slice B1105003 t1105001.1.f1.length d1105003,.slice B1105004 t1105001.1.f2.length d1105004]) ?_;clear HS;intro w1109001 HS F
    refine hK.out _ _ ?_
    clear hK K
    refine dn HT ?_
    (try clear F)
    have F:=HS.bx
    go_wp2
    go_roundg k113
    case measure=>have:=HKk113.out;omega
    case rel=>exact⟨_,_,_,_,_,_,_,_,_,rfl,H,⟨by have:=HKk113.out;omega⟩,HS.pi [0,1,2,3,4,5,6,7,8,15,16,17]⟩
   obtain⟨c137a,c137b⟩:=bq c137;clear c137
   (try go_wp2)
   replace H:=zbind H;obtain⟨t1004001,ht1004001,H⟩:=H
   replace H:=zbind H;obtain⟨t1005001,ht1005001,H⟩:=H
   refine dr_start2 [.emp,.box g2 [.slice none 0 0,.slice none 0 0,.slice none 0 0] 48,.emp,.box g3 [.slice B115 l114.length d115,.slice B117 l116.length d117,.slice B119 l118.length d119] 48,.emp,.own (Zd.slice 105 q105) y20 [.slice B20 y20.length d20],.own (Zd.slice 3 (Zd.int .i64)) t22.1.f9 [.slice B23 t22.1.f9.length d23],.own (Zd.slice 9 Zd.string) t22.1.f10 [.slice B24 t22.1.f10.length d24],.own (Zd.slice 9 Zd.string) t22.1.f11 [.slice B25 t22.1.f11.length d25],.own (Zd.slice 125 q125) l114 [.slice B115 l114.length d115],.own (Zd.slice 103 q103) l116 [.slice B117 l116.length d117],.own (Zd.slice 105 q105) l118 [.slice B119 l118.length d119]] [9] HS (HS.ar [none,some 1,none,some 3,none,some 5,some 6,some 7,some 8,some 9,some 10,some 11]) #[false,false,false,false,false,false,false,false,false,false] (by kernel_rfl) rfl rfl spec_l13Store_0.tT14 (fun w139 HT HS HH=>?_)
   (try clear F)
   refine dqt [0,1,2,3] HT HH ?_
   refine dr1 4 HT fun K hK=>?_
   refine go_lb3 [0] HS (fun _ HL HA=>spec_l09Made_0.calls ht1004001.out gp1 lp1 (hV.lend HS HL) HA) Tryz.func110 ?_;clear HS;intro v1004002 v1004003 v1004004 wt1004001 HS F;obtain⟨B1004002,d1004002,rfl,m1004002⟩:=HS.form 12 rfl;obtain⟨B1004003,d1004003,rfl,m1004003⟩:=HS.form 13 rfl;obtain⟨B1004004,d1004004,rfl,m1004004⟩:=HS.form 14 rfl
   (try simp only [hpn,hpm] at HS)
   have F:=HS.bx
   refine nra 62 hK (HS.ar [none,some 1,none,some 3,none,some 5,some 6,some 7,some 8,some 9,some 10,some 11]) fun HH=>?_;clear hK K
   refine dr1 5 HT fun K hK=>?_
   refine go_cl3 HS (spec_AddCert.calls ht1005001.out (HS.rd 9 rfl) m115 (HS.rd 10 rfl) m117 (HS.rd 11 rfl) m119 (HS.rd 12 rfl) m1004002 (HS.rd 13 rfl) m1004003 (HS.rd 14 rfl) m1004004) Tryz.func109 ?_;clear HS;intro v1005002 v1005003 v1005004 wt1005001 HS F;obtain⟨B1005002,d1005002,rfl,m1005002⟩:=HS.form 15 rfl;obtain⟨B1005003,d1005003,rfl,m1005003⟩:=HS.form 16 rfl;obtain⟨B1005004,d1005004,rfl,m1005004⟩:=HS.form 17 rfl
   refine nra 63 hK (HS.ar [none,some 1,none,some 3,none,some 5,some 6,some 7,some 8,some 9,some 10,some 11]) fun HH=>?_;clear hK K
   refine dq [6,7,8] HT ?_
   refine dl 9 HT fun K hK=>?_
   refine if_st 3 0 HS (seg:=[.slice B1005002 t1005001.1.f0.length d1005002,.slice B1005003 t1005001.1.f1.length d1005003,.slice B1005004 t1005001.1.f2.length d1005004]) ?_;clear HS;intro w1009001 HS F
   refine hK.out _ _ ?_
   clear hK K
   refine dn HT ?_
   (try clear F)
   have F:=HS.bx
   go_wp2
   go_roundg k113
   case measure=>have:=HKk113.out;omega
   case rel=>exact⟨_,_,_,_,_,_,_,_,_,rfl,H,⟨by have:=HKk113.out;omega⟩,HS.pi [0,1,2,3,4,5,6,7,8,15,16,17]⟩
def spec_l01Pick_0.f (a0:S110)(a1:(List ByteArray)):Option (ByteArray×S110):=((spec_l01Below_0.f a0 (a1.length:Int)).bind fun t1=>(if 0≤t1.1 then(if t1.1<(a1.length:Int)then(some ((rdOf ByteArray.empty a1 t1.1),(⟨a0.f0,t1.2.f1,t1.2.f2⟩:S110)))else none)else none))
theorem spec_l01Pick_0.calls {a0:S110}{a1:(List ByteArray)}{A:FP}{p0:Nat}{Ap1 Ap2:Option Addr}{np1 cp1 np2 cp2:Nat}{wv:World}{r1:ByteArray}{r2:S110}{w:World}(h:spec_l01Pick_0.f a0 a1=some (r1,r2))(gp1:(Kd.int .u8).C wv Ap1 np1 a0.f0)(lp1:np1≤cp1)(gp2:Kd.string.C wv Ap2 np2 a1)(lp2:np2≤cp2)(hV:View A w wv)(HS:Hp A w w [.box p0 [.slice Ap1 np1 cp1,.int .i64 a0.f1,.int .i64 a0.f2] 110]):
    Calls Tryz.prog 132 #[.pointer (some ⟨p0,0,none⟩),.slice Ap2 np2 cp2] w (fun e w'=>e=.returned (.string r1)∧Hp A w w' [.box p0 [.slice Ap1 np1 cp1,.int .i64 r2.f1,.int .i64 r2.f2] 110]):=by
 obtain rfl:=C_len gp1
 obtain rfl:=C_len gp2
 have H:=Aside0.mk h
 clear h
 unfold spec_l01Pick_0.f at H
 go_enter Tryz.func132,Tryz.ntmps132
 have F:=HS.bx
 replace H:=zbind H;obtain⟨t1,ht1,H⟩:=H
 replace H:=zgo H;obtain⟨c3,H⟩:=H
 replace H:=zgo H;obtain⟨c4,H⟩:=H
 obtain⟨rfl,rfl⟩:=zsome2 H
 go_wp2_with ((with_reducible refine gd 9 rfl ?_);refine ev_lb [0] HS (fun _ HL HA=>spec_l01Below_0.calls ht1.out gp1 lp1 (hV.lend HS HL) HA) Tryz.func45 ?_;clear HS;intro wt1 HS F;obtain⟨ad5,rfl,e5_0⟩:=Kd.at_string gp2 t1.1 (of_eq_true c3) (of_eq_true c4);have e5_0_5:=(hV.keepc HS e5_0))
 go_ret
 exact⟨rfl,HS.pi [0]⟩
def spec_l08Name_0.f (a0:S110):Option (ByteArray×S110):=((spec_l01Pick_0.f a0 ([(⟨#[114,111,111,116]⟩:ByteArray),(⟨#[99,97,46,111,114,103]⟩:ByteArray),(⟨#[115,117,98,46,99,97,46,111,114,103]⟩:ByteArray),(⟨#[108,101,97,102,46,115,117,98,46,99,97,46,111,114,103]⟩:ByteArray),(⟨#[111,114,103]⟩:ByteArray),(⟨#[111,116,104,101,114,46,99,111,109]⟩:ByteArray),(⟨#[108,101,97,102,46,99,111,109]⟩:ByteArray)]:List ByteArray)).bind fun t5=>(some (t5.1,(⟨a0.f0,t5.2.f1,t5.2.f2⟩:S110))))
theorem spec_l08Name_0.calls {a0:S110}{A:FP}{p0:Nat}{Ap1:Option Addr}{np1 cp1:Nat}{wv:World}{r1:ByteArray}{r2:S110}{w:World}(h:spec_l08Name_0.f a0=some (r1,r2))(gp1:(Kd.int .u8).C wv Ap1 np1 a0.f0)(lp1:np1≤cp1)(hV:View A w wv)(HS:Hp A w w [.box p0 [.slice Ap1 np1 cp1,.int .i64 a0.f1,.int .i64 a0.f2] 110]):
    Calls Tryz.prog 116 #[.pointer (some ⟨p0,0,none⟩)] w (fun e w'=>e=.returned (.string r1)∧Hp A w w' [.box p0 [.slice Ap1 np1 cp1,.int .i64 r2.f1,.int .i64 r2.f2] 110]):=by
 obtain rfl:=C_len gp1
 have H:=Aside0.mk h
 clear h
 unfold spec_l08Name_0.f at H
 go_enter Tryz.func116,Tryz.ntmps116
 have F:=HS.bx
 replace H:=zbind H;obtain⟨t5,ht5,H⟩:=H
 obtain⟨rfl,rfl⟩:=zsome2 H
 go_wp2_with (first|((with_reducible refine gd 4 rfl ?_);refine ev_li Zd.string [] ([(⟨#[114,111,111,116]⟩:ByteArray),(⟨#[99,97,46,111,114,103]⟩:ByteArray),(⟨#[115,117,98,46,99,97,46,111,114,103]⟩:ByteArray),(⟨#[108,101,97,102,46,115,117,98,46,99,97,46,111,114,103]⟩:ByteArray),(⟨#[111,114,103]⟩:ByteArray),(⟨#[111,116,104,101,114,46,99,111,109]⟩:ByteArray),(⟨#[108,101,97,102,46,99,111,109]⟩:ByteArray)]:List ByteArray) ([.string (⟨#[114,111,111,116]⟩:ByteArray)]++([.string (⟨#[99,97,46,111,114,103]⟩:ByteArray)]++([.string (⟨#[115,117,98,46,99,97,46,111,114,103]⟩:ByteArray)]++([.string (⟨#[108,101,97,102,46,115,117,98,46,99,97,46,111,114,103]⟩:ByteArray)]++([.string (⟨#[111,114,103]⟩:ByteArray)]++([.string (⟨#[111,116,104,101,114,46,99,111,109]⟩:ByteArray)]++([.string (⟨#[108,101,97,102,46,99,111,109]⟩:ByteArray)]++ []))))))) HS (MadeL.cons (js1:=[]) (c:=[.string (⟨#[114,111,111,116]⟩:ByteArray)]) rfl (made_flat (fun _=>rfl)) (MadeL.cons (js1:=[]) (c:=[.string (⟨#[99,97,46,111,114,103]⟩:ByteArray)]) rfl (made_flat (fun _=>rfl)) (MadeL.cons (js1:=[]) (c:=[.string (⟨#[115,117,98,46,99,97,46,111,114,103]⟩:ByteArray)]) rfl (made_flat (fun _=>rfl)) (MadeL.cons (js1:=[]) (c:=[.string (⟨#[108,101,97,102,46,115,117,98,46,99,97,46,111,114,103]⟩:ByteArray)]) rfl (made_flat (fun _=>rfl)) (MadeL.cons (js1:=[]) (c:=[.string (⟨#[111,114,103]⟩:ByteArray)]) rfl (made_flat (fun _=>rfl)) (MadeL.cons (js1:=[]) (c:=[.string (⟨#[111,116,104,101,114,46,99,111,109]⟩:ByteArray)]) rfl (made_flat (fun _=>rfl)) (MadeL.cons (js1:=[]) (c:=[.string (⟨#[108,101,97,102,46,99,111,109]⟩:ByteArray)]) rfl (made_flat (fun _=>rfl)) MadeL.nil (by decide)) (by decide)) (by decide)) (by decide)) (by decide)) (by decide)) (by decide)) ?_;clear HS;intro v1 w1 HS F;obtain⟨B1,d1,rfl,m1⟩:=HS.formn 7 1 rfl rfl;refine HS.lend [0] (by decide) [.box p0 [.slice Ap1 a0.f0.length cp1,.int .i64 a0.f1,.int .i64 a0.f2] 110] rfl (fun A3 HL HD HA HB3=>?_);have gb3_0:=hide_rd HD 1 rfl (by decide);have gb3_1:=hV.hideC up_int HS HL gp1;replace HS:=HA;replace hV:=hide_view A3 w1;clear HA HD HL;(try clear F);replace HS:Hp A3 w1 _ [.box p0 [.slice Ap1 a0.f0.length cp1,.int .i64 a0.f1,.int .i64 a0.f2] 110]:=HS;have F:=HS.bx)|((with_reducible refine gd 5 rfl ?_);refine ev_lb [0] HS (fun _ HL HA=>spec_l01Pick_0.calls ht5.out gb3_1 lp1 gb3_0 m1 (hV.lend HS HL) HA) Tryz.func132 ?_;clear HS;intro wt5 HS F))
 have HS:=HB3 _ _ HS (Nat.le_of_ble_eq_true rfl)
 go_ret
 exact⟨rfl,HS.pi [0]⟩
def spec_l09Cert_0.f (k:Nat)(a0:S110):Option (S125×S110):=((spec_l01Below_0.f a0 6).bind fun t3=>((spec_l01Below_0.f (⟨a0.f0,t3.2.f1,t3.2.f2⟩:S110) 20).bind fun t5=>((spec_l08Name_0.f (⟨a0.f0,t5.2.f1,t5.2.f2⟩:S110)).bind fun t7=>((spec_l08Name_0.f (⟨a0.f0,t7.2.f1,t7.2.f2⟩:S110)).bind fun t9=>((spec_l01Below_0.f (⟨a0.f0,t9.2.f1,t9.2.f2⟩:S110) 6).bind fun t11=>((spec_l01Once_0.f (⟨a0.f0,t11.2.f1,t11.2.f2⟩:S110) 2).bind fun t13=>((spec_l09Made_0.f k (⟨a0.f0,t13.2.f1,t13.2.f2⟩:S110) t5.1 t7.1 t3.1 t9.1 t11.1 t13.1).bind fun t15=>(some ((⟨t15.1.f0,t15.1.f1,t15.1.f2,t15.1.f3,t15.1.f4,t15.1.f5,t15.1.f6,t15.1.f7,t15.1.f8,t15.1.f9,t15.1.f10,t15.1.f11,t15.1.f12⟩:S125),(⟨a0.f0,t15.2.f1,t15.2.f2⟩:S110))))))))))
theorem spec_l09Cert_0.calls {k:Nat}{a0:S110}{A:FP}{p0:Nat}{Ap1:Option Addr}{np1 cp1:Nat}{wv:World}{r1:S125}{r2:S110}{w:World}(h:spec_l09Cert_0.f k a0=some (r1,r2))(gp1:(Kd.int .u8).C wv Ap1 np1 a0.f0)(lp1:np1≤cp1)(hV:View A w wv)(HS:Hp A w w [.box p0 [.slice Ap1 np1 cp1,.int .i64 a0.f1,.int .i64 a0.f2] 110]):
    Calls Tryz.prog 114 #[.pointer (some ⟨p0,0,none⟩)] w (fun e w'=>∃v0_ v1_ v2_:Value,e=.returned (.agg #[.int .i64 r1.f0,.string r1.f1,.string r1.f2,.int .i64 r1.f3,.int .i64 r1.f4,.string r1.f5,.bool r1.f6,.int .i64 r1.f7,.int .i64 r1.f8,v0_,v1_,v2_,.string r1.f12])∧Hp A w w' [.box p0 [.slice Ap1 np1 cp1,.int .i64 r2.f1,.int .i64 r2.f2] 110,.own (Zd.slice 3 (Zd.int .i64)) r1.f9 [v0_],.own (Zd.slice 9 Zd.string) r1.f10 [v1_],.own (Zd.slice 9 Zd.string) r1.f11 [v2_]]):=by
 obtain rfl:=C_len gp1
 have H:=Aside0.mk h
 clear h
 unfold spec_l09Cert_0.f at H
 go_enter Tryz.func114,Tryz.ntmps114
 have F:=HS.bx
 replace H:=zbind H;obtain⟨t3,ht3,H⟩:=H
 replace H:=zbind H;obtain⟨t5,ht5,H⟩:=H
 replace H:=zbind H;obtain⟨t7,ht7,H⟩:=H
 replace H:=zbind H;obtain⟨t9,ht9,H⟩:=H
 replace H:=zbind H;obtain⟨t11,ht11,H⟩:=H
 replace H:=zbind H;obtain⟨t13,ht13,H⟩:=H
 replace H:=zbind H;obtain⟨t15,ht15,H⟩:=H
 obtain⟨rfl,rfl⟩:=zsome2 H
 go_wp2_with (first|((with_reducible refine gd 2 rfl ?_);refine ev_bx HS ?_;clear HS;intro g2 w2 HS F)|((with_reducible refine gd 5 rfl ?_);refine ev_lb [0] HS (fun _ HL HA=>spec_l01Below_0.calls ht3.out gp1 lp1 (hV.lend HS HL) HA) Tryz.func45 ?_;clear HS;intro wt3 HS F)|((with_reducible refine gd 8 rfl ?_);refine ev_lb [0] HS (fun _ HL HA=>spec_l01Below_0.calls ht5.out gp1 lp1 (hV.lend HS HL) HA) Tryz.func45 ?_;clear HS;intro wt5 HS F)|((with_reducible refine gd 10 rfl ?_);refine ev_lb [0] HS (fun _ HL HA=>spec_l08Name_0.calls ht7.out gp1 lp1 (hV.lend HS HL) HA) Tryz.func116 ?_;clear HS;intro wt7 HS F)|((with_reducible refine gd 13 rfl ?_);refine ev_lb [0] HS (fun _ HL HA=>spec_l08Name_0.calls ht9.out gp1 lp1 (hV.lend HS HL) HA) Tryz.func116 ?_;clear HS;intro wt9 HS F)|((with_reducible refine gd 15 rfl ?_);refine ev_lb [0] HS (fun _ HL HA=>spec_l01Below_0.calls ht11.out gp1 lp1 (hV.lend HS HL) HA) Tryz.func45 ?_;clear HS;intro wt11 HS F)|((with_reducible refine gd 17 rfl ?_);refine ev_lb [0] HS (fun _ HL HA=>spec_l01Once_0.calls ht13.out gp1 lp1 (hV.lend HS HL) HA) Tryz.func98 ?_;clear HS;intro wt13 HS F)|((with_reducible refine gd 18 rfl ?_);refine ev_lb3 [0] HS (fun _ HL HA=>spec_l09Made_0.calls ht15.out gp1 lp1 (hV.lend HS HL) HA) Tryz.func110 ?_;clear HS;intro v16 v17 v18 wt15 HS F;obtain⟨B16,d16,rfl,m16⟩:=HS.form 2 rfl;obtain⟨B17,d17,rfl,m17⟩:=HS.form 3 rfl;obtain⟨B18,d18,rfl,m18⟩:=HS.form 4 rfl;(try simp only [hpn,hpm] at HS);have F:=HS.bx)|((with_reducible refine gate_store (p:=2) rfl ?_);refine ev_st 1 0 HS (seg:=[.int .i64 t15.1.f0,.string t15.1.f1,.string t15.1.f2,.int .i64 t15.1.f3,.int .i64 t15.1.f4,.string t15.1.f5,.bool t15.1.f6,.int .i64 t15.1.f7,.int .i64 t15.1.f8,.slice B16 t15.1.f9.length d16,.slice B17 t15.1.f10.length d17,.slice B18 t15.1.f11.length d18,.string t15.1.f12]) ?_;clear HS;intro w20 HS F))
 exact rc 1 HS Tryz.underlying125 ⟨_,_,_,rfl,HS.pi [0,2,3,4]⟩
def spec_l09Any_0.f (k:Nat)(a0:S110):Option (S125×S110):=((spec_l01Below_0.f a0 14).bind fun t3=>((spec_l01Below_0.f (⟨a0.f0,t3.2.f1,t3.2.f2⟩:S110) 60).bind fun t5=>((spec_l09Cert_0.f k (⟨a0.f0,t5.2.f1,t5.2.f2⟩:S110)).bind fun t7=>((spec_l09Copy.f t7.1).bind fun t12=>(if t3.1=0 then(if 0≤(Int.tmod t5.1 3)then(if(Int.tmod t5.1 3)<(3:Int)then(some ((⟨(rd ([(-1),9999,10000]:List Int) (Int.tmod t5.1 3)),t12.f1,t12.f2,t12.f3,t12.f4,t12.f5,t12.f6,t12.f7,t12.f8,t12.f9,t12.f10,t12.f11,t12.f12⟩:S125),(⟨a0.f0,t7.2.f1,t7.2.f2⟩:S110)))else none)else none)else(if t3.1=1 then(if 0≤(Int.tmod t5.1 3)then(if(Int.tmod t5.1 3)<(3:Int)then(some ((⟨t12.f0,(rdOf ByteArray.empty ([(⟨#[]⟩:ByteArray),(⟨#[65]⟩:ByteArray),(⟨#[97,46]⟩:ByteArray)]:List ByteArray) (Int.tmod t5.1 3)),t12.f2,t12.f3,t12.f4,t12.f5,t12.f6,t12.f7,t12.f8,t12.f9,t12.f10,t12.f11,t12.f12⟩:S125),(⟨a0.f0,t7.2.f1,t7.2.f2⟩:S110)))else none)else none)else(if t3.1=2 then(if 1≤(t12.f5.size:Int)then(some ((⟨t12.f0,t12.f1,t12.f2,t12.f3,t12.f4,(t12.f5.extract 1 t12.f5.size),t12.f6,t12.f7,t12.f8,t12.f9,t12.f10,t12.f11,t12.f12⟩:S125),(⟨a0.f0,t7.2.f1,t7.2.f2⟩:S110)))else none)else(if t3.1=3 then(if 0≤(Int.tmod t5.1 3)then(if(Int.tmod t5.1 3)<(3:Int)then(some ((⟨t12.f0,t12.f1,t12.f2,t12.f3,t12.f4,t12.f5,t12.f6,(rd ([(-1),99,100]:List Int) (Int.tmod t5.1 3)),t12.f8,t12.f9,t12.f10,t12.f11,t12.f12⟩:S125),(⟨a0.f0,t7.2.f1,t7.2.f2⟩:S110)))else none)else none)else(if t3.1=4 then(if t12.f9.length+1≤17592186044416 then(lets (t12.f9++([(wrap64 (t5.1 * 2))]:List Int)) fun y61=>(some ((⟨t12.f0,t12.f1,t12.f2,t12.f3,t12.f4,t12.f5,t12.f6,t12.f7,t12.f8,y61,t12.f10,t12.f11,t12.f12⟩:S125),(⟨a0.f0,t7.2.f1,t7.2.f2⟩:S110))))else none)else(if t3.1=5 then(if t12.f10.length+2≤8796093022208 then(lets (t12.f10++([(⟨#[122]⟩:ByteArray),(⟨#[97]⟩:ByteArray)]:List ByteArray)) fun y71=>(some ((⟨t12.f0,t12.f1,t12.f2,t12.f3,t12.f4,t12.f5,t12.f6,t12.f7,t12.f8,t12.f9,y71,t12.f11,t12.f12⟩:S125),(⟨a0.f0,t7.2.f1,t7.2.f2⟩:S110))))else none)else(if t3.1=6 then(some ((⟨t12.f0,t12.f1,t12.f2,t12.f3,t12.f4,t12.f5,t12.f6,t12.f7,t12.f8,t12.f9,t12.f10,t12.f11,(⟨#[]⟩:ByteArray)⟩:S125),(⟨a0.f0,t7.2.f1,t7.2.f2⟩:S110)))else(some ((⟨t12.f0,t12.f1,t12.f2,t12.f3,t12.f4,t12.f5,t12.f6,t12.f7,t12.f8,t12.f9,t12.f10,t12.f11,t12.f12⟩:S125),(⟨a0.f0,t7.2.f1,t7.2.f2⟩:S110))))))))))))))
theorem spec_l09Any_0.calls {k:Nat}{a0:S110}{A:FP}{p0:Nat}{Ap1:Option Addr}{np1 cp1:Nat}{wv:World}{r1:S125}{r2:S110}{w:World}(h:spec_l09Any_0.f k a0=some (r1,r2))(gp1:(Kd.int .u8).C wv Ap1 np1 a0.f0)(lp1:np1≤cp1)(hV:View A w wv)(HS:Hp A w w [.box p0 [.slice Ap1 np1 cp1,.int .i64 a0.f1,.int .i64 a0.f2] 110]):
    Calls Tryz.prog 86 #[.pointer (some ⟨p0,0,none⟩)] w (fun e w'=>∃v0_ v1_ v2_:Value,e=.returned (.agg #[.int .i64 r1.f0,.string r1.f1,.string r1.f2,.int .i64 r1.f3,.int .i64 r1.f4,.string r1.f5,.bool r1.f6,.int .i64 r1.f7,.int .i64 r1.f8,v0_,v1_,v2_,.string r1.f12])∧Hp A w w' [.box p0 [.slice Ap1 np1 cp1,.int .i64 r2.f1,.int .i64 r2.f2] 110,.own (Zd.slice 3 (Zd.int .i64)) r1.f9 [v0_],.own (Zd.slice 9 Zd.string) r1.f10 [v1_],.own (Zd.slice 9 Zd.string) r1.f11 [v2_]]):=by
 obtain rfl:=C_len gp1
 have H:=Aside0.mk h
 clear h
 unfold spec_l09Any_0.f at H
 go_enter Tryz.func86,Tryz.ntmps86
 have F:=HS.bx
 replace H:=zbind H;obtain⟨t3,ht3,H⟩:=H
 replace H:=zbind H;obtain⟨t5,ht5,H⟩:=H
 replace H:=zbind H;obtain⟨t7,ht7,H⟩:=H
 replace H:=zbind H;obtain⟨t12,ht12,H⟩:=H
 go_upto_if 14 with(first|((with_reducible refine gd 2 rfl ?_);refine ev_bx HS ?_;clear HS;intro g2 w2 HS F)|((with_reducible refine gd 7 rfl ?_);refine ev_lb [0] HS (fun _ HL HA=>spec_l01Below_0.calls ht3.out gp1 lp1 (hV.lend HS HL) HA) Tryz.func45 ?_;clear HS;intro wt3 HS F)|((with_reducible refine gd 9 rfl ?_);refine ev_lb [0] HS (fun _ HL HA=>spec_l01Below_0.calls ht5.out gp1 lp1 (hV.lend HS HL) HA) Tryz.func45 ?_;clear HS;intro wt5 HS F)|((with_reducible refine gd 11 rfl ?_);refine ev_lb3 [0] HS (fun _ HL HA=>spec_l09Cert_0.calls ht7.out gp1 lp1 (hV.lend HS HL) HA) Tryz.func114 ?_;clear HS;intro v8 v9 v10 wt7 HS F;obtain⟨B8,d8,rfl,m8⟩:=HS.form 2 rfl;obtain⟨B9,d9,rfl,m9⟩:=HS.form 3 rfl;obtain⟨B10,d10,rfl,m10⟩:=HS.form 4 rfl;(try simp only [hpn,hpm] at HS);have F:=HS.bx)|((with_reducible refine gd 12 rfl ?_);refine ev_cl3 HS (spec_l09Copy.calls ht12.out (HS.rd 2 rfl) m8 (HS.rd 3 rfl) m9 (HS.rd 4 rfl) m10) Tryz.func113 ?_;clear HS;intro v13 v14 v15 wt12 HS F;obtain⟨B13,d13,rfl,m13⟩:=HS.form 5 rfl;obtain⟨B14,d14,rfl,m14⟩:=HS.form 6 rfl;obtain⟨B15,d15,rfl,m15⟩:=HS.form 7 rfl)|((with_reducible refine gd 5 rfl ?_);refine ev_bx HS ?_;clear HS;intro g5 w5 HS F)|((with_reducible refine gate_store (p:=5) rfl ?_);refine ev_st 8 0 HS (seg:=[.int .i64 t12.f0,.string t12.f1,.string t12.f2,.int .i64 t12.f3,.int .i64 t12.f4,.string t12.f5,.bool t12.f6,.int .i64 t12.f7,.int .i64 t12.f8,.slice B13 t12.f9.length d13,.slice B14 t12.f10.length d14,.slice B15 t12.f11.length d15,.string t12.f12]) ?_;clear HS;intro w19 HS F))
 replace H:=zif' H;rcases H with⟨c21,H⟩|⟨c21,H⟩
 ·
  obtain⟨c21a,c21b⟩:=bq c21;clear c21
  (try simp only [c21a,c21b,dcn])
  replace H:=zgo H;obtain⟨c24,H⟩:=H
  replace H:=zgo H;obtain⟨c25,H⟩:=H
  obtain⟨rfl,rfl⟩:=zsome2 H
  go_wp2_with (first|((with_reducible refine gd 16 rfl ?_);refine ev_li (Zd.int .i64) [] ([(-1),9999,10000]:List Int) ([.int .i64 (-1)]++([.int .i64 9999]++([.int .i64 10000]++ []))) HS (MadeL.cons (js1:=[]) (c:=[.int .i64 (-1)]) rfl (made_flat (fun _=>rfl)) (MadeL.cons (js1:=[]) (c:=[.int .i64 9999]) rfl (made_flat (fun _=>rfl)) (MadeL.cons (js1:=[]) (c:=[.int .i64 10000]) rfl (made_flat (fun _=>rfl)) MadeL.nil (by decide)) (by decide)) (by decide)) ?_;clear HS;intro v22 w22 HS F;obtain⟨B22,d22,rfl,m22⟩:=HS.formn 3 9 rfl rfl;obtain⟨ad26,rfl,e26_0⟩:=Kd.at_int (HS.rd 9 rfl) (Int.tmod t5.1 3) (of_eq_true c24) (of_eq_true c25))|((with_reducible refine gate_store (p:=21) rfl ?_);refine ev_st 8 0 HS (seg:=[.int .i64 (rd ([(-1),9999,10000]:List Int) (Int.tmod t5.1 3))]) ?_;clear HS;intro w27 HS F)|((with_reducible refine gate_store (p:=2) rfl ?_);refine ev_st 1 0 HS (seg:=[.int .i64 (rd ([(-1),9999,10000]:List Int) (Int.tmod t5.1 3)),.string t12.f1,.string t12.f2,.int .i64 t12.f3,.int .i64 t12.f4,.string t12.f5,.bool t12.f6,.int .i64 t12.f7,.int .i64 t12.f8,.slice B13 t12.f9.length d13,.slice B14 t12.f10.length d14,.slice B15 t12.f11.length d15,.string t12.f12]) ?_;clear HS;intro w29 HS F))
  exact rc 1 HS Tryz.underlying125 ⟨_,_,_,rfl,HS.pi [0,5,6,7]⟩
 obtain⟨c21a,c21b⟩:=nq c21;clear c21
 (try simp only [c21a,c21b,dcn])
 replace H:=zif' H;rcases H with⟨c31,H⟩|⟨c31,H⟩
 ·
  obtain⟨c31a,c31b⟩:=bq c31;clear c31
  replace H:=zgo H;obtain⟨c34,H⟩:=H
  replace H:=zgo H;obtain⟨c35,H⟩:=H
  obtain⟨rfl,rfl⟩:=zsome2 H
  go_wp2_with (first|((with_reducible refine gd 24 rfl ?_);refine ev_li Zd.string [] ([(⟨#[]⟩:ByteArray),(⟨#[65]⟩:ByteArray),(⟨#[97,46]⟩:ByteArray)]:List ByteArray) ([.string (⟨#[]⟩:ByteArray)]++([.string (⟨#[65]⟩:ByteArray)]++([.string (⟨#[97,46]⟩:ByteArray)]++ []))) HS (MadeL.cons (js1:=[]) (c:=[.string (⟨#[]⟩:ByteArray)]) rfl (made_flat (fun _=>rfl)) (MadeL.cons (js1:=[]) (c:=[.string (⟨#[65]⟩:ByteArray)]) rfl (made_flat (fun _=>rfl)) (MadeL.cons (js1:=[]) (c:=[.string (⟨#[97,46]⟩:ByteArray)]) rfl (made_flat (fun _=>rfl)) MadeL.nil (by decide)) (by decide)) (by decide)) ?_;clear HS;intro v32 w32 HS F;obtain⟨B32,d32,rfl,m32⟩:=HS.formn 3 9 rfl rfl;obtain⟨ad36,rfl,e36_0⟩:=Kd.at_string (HS.rd 9 rfl) (Int.tmod t5.1 3) (of_eq_true c34) (of_eq_true c35))|((with_reducible refine gate_store (p:=29) rfl ?_);refine ev_st 8 1 HS (seg:=[.string (rdOf ByteArray.empty ([(⟨#[]⟩:ByteArray),(⟨#[65]⟩:ByteArray),(⟨#[97,46]⟩:ByteArray)]:List ByteArray) (Int.tmod t5.1 3))]) ?_;clear HS;intro w37 HS F)|((with_reducible refine gate_store (p:=2) rfl ?_);refine ev_st 1 0 HS (seg:=[.int .i64 t12.f0,.string (rdOf ByteArray.empty ([(⟨#[]⟩:ByteArray),(⟨#[65]⟩:ByteArray),(⟨#[97,46]⟩:ByteArray)]:List ByteArray) (Int.tmod t5.1 3)),.string t12.f2,.int .i64 t12.f3,.int .i64 t12.f4,.string t12.f5,.bool t12.f6,.int .i64 t12.f7,.int .i64 t12.f8,.slice B13 t12.f9.length d13,.slice B14 t12.f10.length d14,.slice B15 t12.f11.length d15,.string t12.f12]) ?_;clear HS;intro w39 HS F))
  exact rc 1 HS Tryz.underlying125 ⟨_,_,_,rfl,HS.pi [0,5,6,7]⟩
 obtain⟨c31a,c31b⟩:=nq c31;clear c31
 replace H:=zif' H;rcases H with⟨c41,H⟩|⟨c41,H⟩
 ·
  obtain⟨c41a,c41b⟩:=bq c41;clear c41
  replace H:=zgo H;obtain⟨c42,H⟩:=H
  obtain⟨rfl,rfl⟩:=zsome2 H
  go_wp2_with (first|((with_reducible refine gd 34 rfl ?_);refine ev_val rfl (run_cut rfl rfl Tryz.underlying9 (.inr ⟨_,_,rfl,rfl,of_eq_true (eq_true (by decide:(0:Int)≤1))⟩) (.inl ⟨rfl,rfl⟩) (by have:=of_eq_true (eq_true (by decide:(0:Int)≤1));have:=of_eq_true c42;have:=of_eq_true (eq_true (Int.le_refl (t12.f5.size:Int)));omega) (by have:=of_eq_true (eq_true (by decide:(0:Int)≤1));have:=of_eq_true c42;have:=of_eq_true (eq_true (Int.le_refl (t12.f5.size:Int)));omega)) ?_)|((with_reducible refine gate_store (p:=35) rfl ?_);refine ev_st 8 5 HS (seg:=[.string (t12.f5.extract 1 t12.f5.size)]) ?_;clear HS;intro w43 HS F)|((with_reducible refine gate_store (p:=2) rfl ?_);refine ev_st 1 0 HS (seg:=[.int .i64 t12.f0,.string t12.f1,.string t12.f2,.int .i64 t12.f3,.int .i64 t12.f4,.string (t12.f5.extract 1 t12.f5.size),.bool t12.f6,.int .i64 t12.f7,.int .i64 t12.f8,.slice B13 t12.f9.length d13,.slice B14 t12.f10.length d14,.slice B15 t12.f11.length d15,.string t12.f12]) ?_;clear HS;intro w45 HS F))
  exact rc 1 HS Tryz.underlying125 ⟨_,_,_,rfl,HS.pi [0,5,6,7]⟩
 obtain⟨c41a,c41b⟩:=nq c41;clear c41
 replace H:=zif' H;rcases H with⟨c47,H⟩|⟨c47,H⟩
 ·
  obtain⟨c47a,c47b⟩:=bq c47;clear c47
  replace H:=zgo H;obtain⟨c50,H⟩:=H
  replace H:=zgo H;obtain⟨c51,H⟩:=H
  obtain⟨rfl,rfl⟩:=zsome2 H
  go_wp2_with (first|((with_reducible refine gd 38 rfl ?_);refine ev_li (Zd.int .i64) [] ([(-1),99,100]:List Int) ([.int .i64 (-1)]++([.int .i64 99]++([.int .i64 100]++ []))) HS (MadeL.cons (js1:=[]) (c:=[.int .i64 (-1)]) rfl (made_flat (fun _=>rfl)) (MadeL.cons (js1:=[]) (c:=[.int .i64 99]) rfl (made_flat (fun _=>rfl)) (MadeL.cons (js1:=[]) (c:=[.int .i64 100]) rfl (made_flat (fun _=>rfl)) MadeL.nil (by decide)) (by decide)) (by decide)) ?_;clear HS;intro v48 w48 HS F;obtain⟨B48,d48,rfl,m48⟩:=HS.formn 3 9 rfl rfl;obtain⟨ad52,rfl,e52_0⟩:=Kd.at_int (HS.rd 9 rfl) (Int.tmod t5.1 3) (of_eq_true c50) (of_eq_true c51))|((with_reducible refine gate_store (p:=43) rfl ?_);refine ev_st 8 7 HS (seg:=[.int .i64 (rd ([(-1),99,100]:List Int) (Int.tmod t5.1 3))]) ?_;clear HS;intro w53 HS F)|((with_reducible refine gate_store (p:=2) rfl ?_);refine ev_st 1 0 HS (seg:=[.int .i64 t12.f0,.string t12.f1,.string t12.f2,.int .i64 t12.f3,.int .i64 t12.f4,.string t12.f5,.bool t12.f6,.int .i64 (rd ([(-1),99,100]:List Int) (Int.tmod t5.1 3)),.int .i64 t12.f8,.slice B13 t12.f9.length d13,.slice B14 t12.f10.length d14,.slice B15 t12.f11.length d15,.string t12.f12]) ?_;clear HS;intro w55 HS F))
  exact rc 1 HS Tryz.underlying125 ⟨_,_,_,rfl,HS.pi [0,5,6,7]⟩
 obtain⟨c47a,c47b⟩:=nq c47;clear c47
 replace H:=zif' H;rcases H with⟨c57,H⟩|⟨c57,H⟩
 ·
  obtain⟨c57a,c57b⟩:=bq c57;clear c57
  replace H:=zgo H;obtain⟨c60,H⟩:=H
  replace H:=zlets H;obtain⟨y61,e_y61,H⟩:=H
  obtain⟨rfl,rfl⟩:=zsome2 H
  go_wp2_with (first|((with_reducible refine gd 50 rfl ?_);refine ev_li (Zd.int .i64) [] ([(wrap64 (t5.1 * 2))]:List Int) ([.int .i64 (wrap64 (t5.1 * 2))]++ []) HS (MadeL.cons (js1:=[]) (c:=[.int .i64 (wrap64 (t5.1 * 2))]) rfl (made_flat (fun _=>rfl)) MadeL.nil (by decide)) ?_;clear HS;intro v58 w58 HS F;obtain⟨B58,d58,rfl,m58⟩:=HS.formn 1 9 rfl rfl)|((with_reducible refine gd 51 rfl ?_);refine ev_ap (Zd.int .i64) 5 9 HS rfl rfl Tryz.underlying35 info3 (of_eq_true c60) ?_;clear HS;intro v61 w61 HS;rw [←e_y61.out] at HS;obtain⟨B61,d61,rfl,m61⟩:=HS.form 10 rfl;(try simp only [hpn,hpm] at HS);have F:=HS.bx)|((with_reducible refine gate_store (p:=52) rfl ?_);refine ev_st 8 9 HS (seg:=[.slice B61 y61.length d61]) ?_;clear HS;intro w63 HS F)|((with_reducible refine gate_store (p:=2) rfl ?_);refine ev_st 1 0 HS (seg:=[.int .i64 t12.f0,.string t12.f1,.string t12.f2,.int .i64 t12.f3,.int .i64 t12.f4,.string t12.f5,.bool t12.f6,.int .i64 t12.f7,.int .i64 t12.f8,.slice B61 y61.length d61,.slice B14 t12.f10.length d14,.slice B15 t12.f11.length d15,.string t12.f12]) ?_;clear HS;intro w65 HS F))
  exact rc 1 HS Tryz.underlying125 ⟨_,_,_,rfl,HS.pi [0,10,6,7]⟩
 obtain⟨c57a,c57b⟩:=nq c57;clear c57
 replace H:=znif' H;rcases H with⟨c67,H⟩|⟨c67,H⟩
 ·
  obtain⟨c67a,c67b⟩:=nq c67;clear c67
  replace H:=znif' H;rcases H with⟨c77,H⟩|⟨c77,H⟩
  ·
   obtain⟨c77a,c77b⟩:=nq c77;clear c77
   obtain⟨rfl,rfl⟩:=zsome2 H
   go_wp2_with ((with_reducible refine gate_store (p:=2) rfl ?_);refine ev_st 1 0 HS (seg:=[.int .i64 t12.f0,.string t12.f1,.string t12.f2,.int .i64 t12.f3,.int .i64 t12.f4,.string t12.f5,.bool t12.f6,.int .i64 t12.f7,.int .i64 t12.f8,.slice B13 t12.f9.length d13,.slice B14 t12.f10.length d14,.slice B15 t12.f11.length d15,.string t12.f12]) ?_;clear HS;intro w82 HS F)
   exact rc 1 HS Tryz.underlying125 ⟨_,_,_,rfl,HS.pi [0,5,6,7]⟩
  obtain⟨c77a,c77b⟩:=bq c77;clear c77
  obtain⟨rfl,rfl⟩:=zsome2 H
  go_wp2_with (first|((with_reducible refine gate_store (p:=62) rfl ?_);refine ev_st 8 12 HS (seg:=[.string (⟨#[]⟩:ByteArray)]) ?_;clear HS;intro w78 HS F)|((with_reducible refine gate_store (p:=2) rfl ?_);refine ev_st 1 0 HS (seg:=[.int .i64 t12.f0,.string t12.f1,.string t12.f2,.int .i64 t12.f3,.int .i64 t12.f4,.string t12.f5,.bool t12.f6,.int .i64 t12.f7,.int .i64 t12.f8,.slice B13 t12.f9.length d13,.slice B14 t12.f10.length d14,.slice B15 t12.f11.length d15,.string (⟨#[]⟩:ByteArray)]) ?_;clear HS;intro w80 HS F))
  exact rc 1 HS Tryz.underlying125 ⟨_,_,_,rfl,HS.pi [0,5,6,7]⟩
 obtain⟨c67a,c67b⟩:=bq c67;clear c67
 replace H:=zgo H;obtain⟨c70,H⟩:=H
 replace H:=zlets H;obtain⟨y71,e_y71,H⟩:=H
 obtain⟨rfl,rfl⟩:=zsome2 H
 go_wp2_with (first|((with_reducible refine gd 57 rfl ?_);refine ev_li Zd.string [] ([(⟨#[122]⟩:ByteArray),(⟨#[97]⟩:ByteArray)]:List ByteArray) ([.string (⟨#[122]⟩:ByteArray)]++([.string (⟨#[97]⟩:ByteArray)]++ [])) HS (MadeL.cons (js1:=[]) (c:=[.string (⟨#[122]⟩:ByteArray)]) rfl (made_flat (fun _=>rfl)) (MadeL.cons (js1:=[]) (c:=[.string (⟨#[97]⟩:ByteArray)]) rfl (made_flat (fun _=>rfl)) MadeL.nil (by decide)) (by decide)) ?_;clear HS;intro v68 w68 HS F;obtain⟨B68,d68,rfl,m68⟩:=HS.formn 2 9 rfl rfl)|((with_reducible refine gd 58 rfl ?_);refine ev_ap Zd.string 6 9 HS rfl rfl Tryz.underlying24 info9 (of_eq_true c70) ?_;clear HS;intro v71 w71 HS;rw [←e_y71.out] at HS;obtain⟨B71,d71,rfl,m71⟩:=HS.form 10 rfl;(try simp only [hpn,hpm] at HS);have F:=HS.bx)|((with_reducible refine gate_store (p:=59) rfl ?_);refine ev_st 8 10 HS (seg:=[.slice B71 y71.length d71]) ?_;clear HS;intro w73 HS F)|((with_reducible refine gate_store (p:=2) rfl ?_);refine ev_st 1 0 HS (seg:=[.int .i64 t12.f0,.string t12.f1,.string t12.f2,.int .i64 t12.f3,.int .i64 t12.f4,.string t12.f5,.bool t12.f6,.int .i64 t12.f7,.int .i64 t12.f8,.slice B13 t12.f9.length d13,.slice B71 y71.length d71,.slice B15 t12.f11.length d15,.string t12.f12]) ?_;clear HS;intro w75 HS F))
 exact rc 1 HS Tryz.underlying125 ⟨_,_,_,rfl,HS.pi [0,5,10,7]⟩
def spec_l10Any_0.f (k:Nat)(a0:S110):Option (S103×S110):=((spec_l01Below_0.f a0 12).bind fun t3=>((spec_l01Below_0.f (⟨a0.f0,t3.2.f1,t3.2.f2⟩:S110) 60).bind fun t5=>((spec_l01Below_0.f (⟨a0.f0,t5.2.f1,t5.2.f2⟩:S110) 6).bind fun t7=>((spec_l08Name_0.f (⟨a0.f0,t7.2.f1,t7.2.f2⟩:S110)).bind fun t9=>((spec_l10Made_0.f k (⟨a0.f0,t9.2.f1,t9.2.f2⟩:S110) t9.1 t7.1).bind fun t11=>((spec_l10Copy.f t11.1).bind fun t14=>(if t3.1=0 then(if 0≤(Int.tmod t5.1 3)then(if(Int.tmod t5.1 3)<(3:Int)then(some ((⟨t14.f0,(rd ([0,9999,10000]:List Int) (Int.tmod t5.1 3)),t14.f2,t14.f3,t14.f4,t14.f5,t14.f6⟩:S103),(⟨a0.f0,t11.2.f1,t11.2.f2⟩:S110)))else none)else none)else(if t3.1=1 then(some ((⟨t14.f0,t14.f1,t14.f2,t14.f3,(Int.tmod t5.1 6),t14.f5,t14.f6⟩:S103),(⟨a0.f0,t11.2.f1,t11.2.f2⟩:S110)))else(if t3.1=2 then(if t14.f5.length+1≤8796093022208 then(lets (t14.f5++([(⟨(Int.tmod t5.1 5),(Int.tmod t5.1 12)⟩:S133)]:List S133)) fun y40=>(some ((⟨t14.f0,t14.f1,t14.f2,t14.f3,t14.f4,y40,t14.f6⟩:S103),(⟨a0.f0,t11.2.f1,t11.2.f2⟩:S110))))else none)else(if t3.1=3 then(some ((⟨(⟨#[65]⟩:ByteArray),t14.f1,t14.f2,t14.f3,t14.f4,t14.f5,t14.f6⟩:S103),(⟨a0.f0,t11.2.f1,t11.2.f2⟩:S110)))else(if t3.1=4 then(if 1≤(t14.f6.size:Int)then(some ((⟨t14.f0,t14.f1,t14.f2,t14.f3,t14.f4,t14.f5,(t14.f6.extract 1 t14.f6.size)⟩:S103),(⟨a0.f0,t11.2.f1,t11.2.f2⟩:S110)))else none)else(some ((⟨t14.f0,t14.f1,t14.f2,t14.f3,t14.f4,t14.f5,t14.f6⟩:S103),(⟨a0.f0,t11.2.f1,t11.2.f2⟩:S110))))))))))))))
theorem spec_l10Any_0.calls {k:Nat}{a0:S110}{A:FP}{p0:Nat}{Ap1:Option Addr}{np1 cp1:Nat}{wv:World}{r1:S103}{r2:S110}{w:World}(h:spec_l10Any_0.f k a0=some (r1,r2))(gp1:(Kd.int .u8).C wv Ap1 np1 a0.f0)(lp1:np1≤cp1)(hV:View A w wv)(HS:Hp A w w [.box p0 [.slice Ap1 np1 cp1,.int .i64 a0.f1,.int .i64 a0.f2] 110]):
    Calls Tryz.prog 87 #[.pointer (some ⟨p0,0,none⟩)] w (fun e w'=>∃v0_:Value,e=.returned (.agg #[.string r1.f0,.int .i64 r1.f1,.int .i64 r1.f2,.int .i64 r1.f3,.int .i64 r1.f4,v0_,.string r1.f6])∧Hp A w w' [.box p0 [.slice Ap1 np1 cp1,.int .i64 r2.f1,.int .i64 r2.f2] 110,.own (Zd.slice 133 q133) r1.f5 [v0_]]):=by
 obtain rfl:=C_len gp1
 have H:=Aside0.mk h
 clear h
 unfold spec_l10Any_0.f at H
 go_enter Tryz.func87,Tryz.ntmps87
 have F:=HS.bx
 replace H:=zbind H;obtain⟨t3,ht3,H⟩:=H
 replace H:=zbind H;obtain⟨t5,ht5,H⟩:=H
 replace H:=zbind H;obtain⟨t7,ht7,H⟩:=H
 replace H:=zbind H;obtain⟨t9,ht9,H⟩:=H
 replace H:=zbind H;obtain⟨t11,ht11,H⟩:=H
 replace H:=zbind H;obtain⟨t14,ht14,H⟩:=H
 go_upto_if 20 with(first|((with_reducible refine gd 2 rfl ?_);refine ev_bx HS ?_;clear HS;intro g2 w2 HS F)|((with_reducible refine gd 8 rfl ?_);refine ev_lb [0] HS (fun _ HL HA=>spec_l01Below_0.calls ht3.out gp1 lp1 (hV.lend HS HL) HA) Tryz.func45 ?_;clear HS;intro wt3 HS F)|((with_reducible refine gd 10 rfl ?_);refine ev_lb [0] HS (fun _ HL HA=>spec_l01Below_0.calls ht5.out gp1 lp1 (hV.lend HS HL) HA) Tryz.func45 ?_;clear HS;intro wt5 HS F)|((with_reducible refine gd 12 rfl ?_);refine ev_lb [0] HS (fun _ HL HA=>spec_l01Below_0.calls ht7.out gp1 lp1 (hV.lend HS HL) HA) Tryz.func45 ?_;clear HS;intro wt7 HS F)|((with_reducible refine gd 15 rfl ?_);refine ev_lb [0] HS (fun _ HL HA=>spec_l08Name_0.calls ht9.out gp1 lp1 (hV.lend HS HL) HA) Tryz.func116 ?_;clear HS;intro wt9 HS F)|((with_reducible refine gd 17 rfl ?_);refine ev_lb1 [0] HS (fun _ HL HA=>spec_l10Made_0.calls ht11.out gp1 lp1 (hV.lend HS HL) HA) Tryz.func115 ?_;clear HS;intro v12 wt11 HS F;obtain⟨B12,d12,rfl,m12⟩:=HS.form 2 rfl;(try simp only [hpn,hpm] at HS);have F:=HS.bx)|((with_reducible refine gd 18 rfl ?_);refine ev_cl1 HS (spec_l10Copy.calls ht14.out (HS.rd 2 rfl) m12) Tryz.func96 ?_;clear HS;intro v15 wt14 HS F;obtain⟨B15,d15,rfl,m15⟩:=HS.form 3 rfl)|((with_reducible refine gd 6 rfl ?_);refine ev_bx HS ?_;clear HS;intro g6 w6 HS F)|((with_reducible refine gate_store (p:=6) rfl ?_);refine ev_st 4 0 HS (seg:=[.string t14.f0,.int .i64 t14.f1,.int .i64 t14.f2,.int .i64 t14.f3,.int .i64 t14.f4,.slice B15 t14.f5.length d15,.string t14.f6]) ?_;clear HS;intro w19 HS F))
 replace H:=zif' H;rcases H with⟨c21,H⟩|⟨c21,H⟩
 ·
  obtain⟨c21a,c21b⟩:=bq c21;clear c21
  (try simp only [c21a,c21b,dcn])
  replace H:=zgo H;obtain⟨c24,H⟩:=H
  replace H:=zgo H;obtain⟨c25,H⟩:=H
  obtain⟨rfl,rfl⟩:=zsome2 H
  go_wp2_with (first|((with_reducible refine gd 22 rfl ?_);refine ev_li (Zd.int .i64) [] ([0,9999,10000]:List Int) ([.int .i64 0]++([.int .i64 9999]++([.int .i64 10000]++ []))) HS (MadeL.cons (js1:=[]) (c:=[.int .i64 0]) rfl (made_flat (fun _=>rfl)) (MadeL.cons (js1:=[]) (c:=[.int .i64 9999]) rfl (made_flat (fun _=>rfl)) (MadeL.cons (js1:=[]) (c:=[.int .i64 10000]) rfl (made_flat (fun _=>rfl)) MadeL.nil (by decide)) (by decide)) (by decide)) ?_;clear HS;intro v22 w22 HS F;obtain⟨B22,d22,rfl,m22⟩:=HS.formn 3 5 rfl rfl;obtain⟨ad26,rfl,e26_0⟩:=Kd.at_int (HS.rd 5 rfl) (Int.tmod t5.1 3) (of_eq_true c24) (of_eq_true c25))|((with_reducible refine gate_store (p:=27) rfl ?_);refine ev_st 4 1 HS (seg:=[.int .i64 (rd ([0,9999,10000]:List Int) (Int.tmod t5.1 3))]) ?_;clear HS;intro w27 HS F)|((with_reducible refine gate_store (p:=2) rfl ?_);refine ev_st 1 0 HS (seg:=[.string t14.f0,.int .i64 (rd ([0,9999,10000]:List Int) (Int.tmod t5.1 3)),.int .i64 t14.f2,.int .i64 t14.f3,.int .i64 t14.f4,.slice B15 t14.f5.length d15,.string t14.f6]) ?_;clear HS;intro w29 HS F))
  exact rc 1 HS Tryz.underlying103 ⟨_,rfl,HS.pi [0,3]⟩
 obtain⟨c21a,c21b⟩:=nq c21;clear c21
 (try simp only [c21a,c21b,dcn])
 replace H:=zif' H;rcases H with⟨c31,H⟩|⟨c31,H⟩
 ·
  obtain⟨c31a,c31b⟩:=bq c31;clear c31
  obtain⟨rfl,rfl⟩:=zsome2 H
  go_wp2_with (first|((with_reducible refine gate_store (p:=32) rfl ?_);refine ev_st 4 4 HS (seg:=[.int .i64 (Int.tmod t5.1 6)]) ?_;clear HS;intro w32 HS F)|((with_reducible refine gate_store (p:=2) rfl ?_);refine ev_st 1 0 HS (seg:=[.string t14.f0,.int .i64 t14.f1,.int .i64 t14.f2,.int .i64 t14.f3,.int .i64 (Int.tmod t5.1 6),.slice B15 t14.f5.length d15,.string t14.f6]) ?_;clear HS;intro w34 HS F))
  exact rc 1 HS Tryz.underlying103 ⟨_,rfl,HS.pi [0,3]⟩
 obtain⟨c31a,c31b⟩:=nq c31;clear c31
 replace H:=zif' H;rcases H with⟨c36,H⟩|⟨c36,H⟩
 ·
  obtain⟨c36a,c36b⟩:=bq c36;clear c36
  replace H:=zgo H;obtain⟨c39,H⟩:=H
  replace H:=zlets H;obtain⟨y40,e_y40,H⟩:=H
  obtain⟨rfl,rfl⟩:=zsome2 H
  go_wp2_with (first|((with_reducible refine gd 42 rfl ?_);refine ev_li q133 [] ([(⟨(Int.tmod t5.1 5),(Int.tmod t5.1 12)⟩:S133)]:List S133) ([.int .i64 (Int.tmod t5.1 5),.int .i64 (Int.tmod t5.1 12)]++ []) HS (MadeL.cons (js1:=[]) (c:=[.int .i64 (Int.tmod t5.1 5),.int .i64 (Int.tmod t5.1 12)]) rfl (made_flat (fun _=>q133_flat _ _ _)) MadeL.nil (by decide)) ?_;clear HS;intro v37 w37 HS F;obtain⟨B37,d37,rfl,m37⟩:=HS.formn 1 5 rfl rfl)|((with_reducible refine gd 43 rfl ?_);refine ev_ap q133 3 5 HS rfl rfl Tryz.underlying101 info133 (of_eq_true c39) ?_;clear HS;intro v40 w40 HS;rw [←e_y40.out] at HS;obtain⟨B40,d40,rfl,m40⟩:=HS.form 6 rfl;(try simp only [hpn,hpm] at HS);have F:=HS.bx)|((with_reducible refine gate_store (p:=44) rfl ?_);refine ev_st 4 5 HS (seg:=[.slice B40 y40.length d40]) ?_;clear HS;intro w42 HS F)|((with_reducible refine gate_store (p:=2) rfl ?_);refine ev_st 1 0 HS (seg:=[.string t14.f0,.int .i64 t14.f1,.int .i64 t14.f2,.int .i64 t14.f3,.int .i64 t14.f4,.slice B40 y40.length d40,.string t14.f6]) ?_;clear HS;intro w44 HS F))
  exact rc 1 HS Tryz.underlying103 ⟨_,rfl,HS.pi [0,6]⟩
 obtain⟨c36a,c36b⟩:=nq c36;clear c36
 replace H:=zif' H;rcases H with⟨c46,H⟩|⟨c46,H⟩
 ·
  obtain⟨c46a,c46b⟩:=bq c46;clear c46
  obtain⟨rfl,rfl⟩:=zsome2 H
  go_wp2_with (first|((with_reducible refine gate_store (p:=47) rfl ?_);refine ev_st 4 0 HS (seg:=[.string (⟨#[65]⟩:ByteArray)]) ?_;clear HS;intro w47 HS F)|((with_reducible refine gate_store (p:=2) rfl ?_);refine ev_st 1 0 HS (seg:=[.string (⟨#[65]⟩:ByteArray),.int .i64 t14.f1,.int .i64 t14.f2,.int .i64 t14.f3,.int .i64 t14.f4,.slice B15 t14.f5.length d15,.string t14.f6]) ?_;clear HS;intro w49 HS F))
  exact rc 1 HS Tryz.underlying103 ⟨_,rfl,HS.pi [0,3]⟩
 obtain⟨c46a,c46b⟩:=nq c46;clear c46
 replace H:=znif' H;rcases H with⟨c51,H⟩|⟨c51,H⟩
 ·
  obtain⟨c51a,c51b⟩:=nq c51;clear c51
  obtain⟨rfl,rfl⟩:=zsome2 H
  go_wp2_with ((with_reducible refine gate_store (p:=2) rfl ?_);refine ev_st 1 0 HS (seg:=[.string t14.f0,.int .i64 t14.f1,.int .i64 t14.f2,.int .i64 t14.f3,.int .i64 t14.f4,.slice B15 t14.f5.length d15,.string t14.f6]) ?_;clear HS;intro w57 HS F)
  exact rc 1 HS Tryz.underlying103 ⟨_,rfl,HS.pi [0,3]⟩
 obtain⟨c51a,c51b⟩:=bq c51;clear c51
 replace H:=zgo H;obtain⟨c52,H⟩:=H
 obtain⟨rfl,rfl⟩:=zsome2 H
 go_wp2_with (first|((with_reducible refine gd 52 rfl ?_);refine ev_val rfl (run_cut rfl rfl Tryz.underlying9 (.inr ⟨_,_,rfl,rfl,of_eq_true (eq_true (by decide:(0:Int)≤1))⟩) (.inl ⟨rfl,rfl⟩) (by have:=of_eq_true (eq_true (by decide:(0:Int)≤1));have:=of_eq_true c52;have:=of_eq_true (eq_true (Int.le_refl (t14.f6.size:Int)));omega) (by have:=of_eq_true (eq_true (by decide:(0:Int)≤1));have:=of_eq_true c52;have:=of_eq_true (eq_true (Int.le_refl (t14.f6.size:Int)));omega)) ?_)|((with_reducible refine gate_store (p:=53) rfl ?_);refine ev_st 4 6 HS (seg:=[.string (t14.f6.extract 1 t14.f6.size)]) ?_;clear HS;intro w53 HS F)|((with_reducible refine gate_store (p:=2) rfl ?_);refine ev_st 1 0 HS (seg:=[.string t14.f0,.int .i64 t14.f1,.int .i64 t14.f2,.int .i64 t14.f3,.int .i64 t14.f4,.slice B15 t14.f5.length d15,.string (t14.f6.extract 1 t14.f6.size)]) ?_;clear HS;intro w55 HS F))
 exact rc 1 HS Tryz.underlying103 ⟨_,rfl,HS.pi [0,3]⟩
end Go.Proofs.YtfcpjeeeddjakaaGreat.F

/- Functions of the program and of the law, and that their calls do what is written here. -/
import Derived.Test.YtfcpjeeeddjakaaGreatZgFnPlansa
import Derived.Test.YtfcpjeeeddjakaaGreatZgFnPlanse
import Derived.Test.YtfcpjeeeddjakaaGreatZgFnPlansh
namespace Go.Proofs.YtfcpjeeeddjakaaGreat.F
open Go.RowKit YtfcpjeeeddjakaaGreatW.PrintWords YtfcpjeeeddjakaaGreatW.PrintLast YtfcpjeeeddjakaaGreatW.PrintMore Z
attribute [local go_sem] max2_int min2_int max_two min_two max_three min_three max_four min_four
set_option linter.unusedVariables false
set_option linter.unusedSimpArgs false
set_option maxRecDepth 100000
set_option maxHeartbeats 16000000
def laws_sameTexts.l0:Nat→Int→(List ByteArray)→(List ByteArray)→Option (Bool)
  |0,_,_,_=>none
  |k+1,x5,a0,a1=>(if x5<(a0.length:Int)then(if 0≤x5 then(if x5<(a0.length:Int)then(if x5<(a1.length:Int)then(if(rdOf ByteArray.empty a0 x5).toList=(rdOf ByteArray.empty a1 x5).toList then(laws_sameTexts.l0 k (wrap64 (x5+1)) a0 a1)else(some false))else none)else none)else none)else(some true))
def laws_sameTexts.f (k:Nat)(a0:(List ByteArray))(a1:(List ByteArray)):Option (Bool):=(if(a0.length:Int)=(a1.length:Int)then(laws_sameTexts.l0 k 0 a0 a1)else(some false))
def laws_sameTexts.T6:TT:=(true,[([],[]),([],[]),([0,1],[0,1]),([2],[2]),([],[]),([],[]),([4,5],[4,5]),([6],[6]),([3,7],[3,7])])
theorem laws_sameTexts.tT6:rtab .any (opsOf Tryz.f56 6)=laws_sameTexts.T6:=by kernel_rfl
theorem laws_sameTexts.calls {k:Nat}{a0:(List ByteArray)}{a1:(List ByteArray)}{Ap0 Ap1:Option Addr}{np0 cp0 np1 cp1:Nat}{r:Bool}{w:World}(h:laws_sameTexts.f k a0 a1=some r)(gp0:Kd.string.C w Ap0 np0 a0)(lp0:np0≤cp0)(gp1:Kd.string.C w Ap1 np1 a1)(lp1:np1≤cp1):
    Calls Tryz.prog 56 #[.slice Ap0 np0 cp0,.slice Ap1 np1 cp1] w (fun e w'=>e=.returned (.bool r)∧Hp noFP w w' []):=by
 obtain rfl:=C_len gp0
 obtain rfl:=C_len gp1
 have HS:=Hp.start w
 have H:=Aside0.mk h
 clear h
 unfold laws_sameTexts.f at H
 go_enter Tryz.func56,Tryz.ntmps56
 replace H:=znif' H;rcases H with⟨c1,H⟩|⟨c1,H⟩
 ·
  obtain⟨c1a,c1b⟩:=nq c1;clear c1
  obtain rfl:=zsome H
  go_wp2
  go_ret
  exact HS.pk
 obtain⟨c1a,c1b⟩:=bq c1;clear c1
 go_wp2
 go_loopg [5] k (fun kq v_5 w'=>∃(x5:Int),v_5=.int .i64 x5∧Aside0 (laws_sameTexts.l0 kq x5 a0 a1=some r)∧Aside0 (kq≤k)∧Hp noFP w w' [])
 case atStart=>exact⟨_,rfl,H,⟨Nat.le_refl _⟩,HS⟩
 case round=>
  clear HS H;(try clear F)
  obtain⟨x5,rfl,H,HKk4,HS⟩:=hrel
  cases gk with
  |zero=>exact absurd H.out (by simp [laws_sameTexts.l0])
  | succ k4=>
   simp only [laws_sameTexts.l0] at H
   replace H:=znif H;rcases H with⟨c7,H⟩|⟨c7,H⟩
   ·
    obtain rfl:=zsome H
    go_wp2
    go_ret
    exact HS.pk
   (try go_wp2)
   replace H:=zgo H;obtain⟨c3,H⟩:=H
   replace H:=zgo H;obtain⟨c8,H⟩:=H
   obtain⟨ad10,rfl,e10_0⟩:=Kd.at_string gp0 x5 (of_eq_true c3) (of_eq_true c8)
   replace H:=zgo H;obtain⟨c12,H⟩:=H
   obtain⟨ad13,rfl,e13_0⟩:=Kd.at_string gp1 x5 (of_eq_true c3) (of_eq_true c12)
   refine dr_start [] HS #[false,false,false,false,false,false,false,false,false] (by kernel_rfl) rfl rfl laws_sameTexts.tT6 (fun w9 HT HS HH=>?_)
   (try clear F)
   refine dq [0,1,2] HT ?_
   refine dtk 3 20 HT HH rfl (by rintro w' ⟨rs',HS'⟩;have e10_0:=HS'.keepc e10_0;go_simp;with_reducible rfl) ?_
   refine dq [4,5,6] HT ?_
   refine dtk 7 24 HT HH rfl (by rintro w' ⟨rs',HS'⟩;have e13_0:=HS'.keepc e13_0;go_simp;with_reducible rfl) ?_
   refine dq [8] HT ?_
   refine dn HT ?_
   replace H:=znif' H;rcases H with⟨c11,H⟩|⟨c11,H⟩
   ·
    obtain⟨c11a,c11b⟩:=nq c11;clear c11
    (try simp only [c11a,c11b,dcn])
    obtain rfl:=zsome H
    go_wp2
    go_ret
    exact HS.pk
   obtain⟨c11a,c11b⟩:=bq c11;clear c11
   (try simp only [c11a,c11b,dcn])
   go_wp2
   go_roundg k4
   case measure=>have:=HKk4.out;omega
   case rel=>exact⟨_,rfl,H,⟨by have:=HKk4.out;omega⟩,HS.pi []⟩
def laws_sameCert.f (k:Nat)(a0:S125)(a1:S125):Option (Bool):=(if a0.f0=a1.f0 then(if a0.f1.toList=a1.f1.toList then(if a0.f2.toList=a1.f2.toList then(if a0.f3=a1.f3 then(if a0.f4=a1.f4 then(if a0.f5.toList=a1.f5.toList then(if a0.f6=a1.f6 then(if a0.f7=a1.f7 then(if a0.f8=a1.f8 then((laws_sameInts.f k a0.f9 a1.f9).bind fun t14=>(if t14=true then((laws_sameTexts.f k a0.f10 a1.f10).bind fun t17=>(if t17=true then((laws_sameTexts.f k a0.f11 a1.f11).bind fun t20=>(if t20=true then(some (a0.f12.toList==a1.f12.toList))else(some false)))else(some false)))else(some false)))else(some false))else(some false))else(some false))else(some false))else(some false))else(some false))else(some false))else(some false))else(some false))
theorem laws_sameCert.calls {k:Nat}{a0:S125}{a1:S125}{Ap0 Ap1 Ap2 Ap3 Ap4 Ap5:Option Addr}{np0 cp0 np1 cp1 np2 cp2 np3 cp3 np4 cp4 np5 cp5:Nat}{r:Bool}{w:World}(h:laws_sameCert.f k a0 a1=some r)(gp0:(Kd.int .i64).C w Ap0 np0 a0.f9)(lp0:np0≤cp0)(gp1:Kd.string.C w Ap1 np1 a0.f10)(lp1:np1≤cp1)(gp2:Kd.string.C w Ap2 np2 a0.f11)(lp2:np2≤cp2)(gp3:(Kd.int .i64).C w Ap3 np3 a1.f9)(lp3:np3≤cp3)(gp4:Kd.string.C w Ap4 np4 a1.f10)(lp4:np4≤cp4)(gp5:Kd.string.C w Ap5 np5 a1.f11)(lp5:np5≤cp5):
    Calls Tryz.prog 92 #[.agg #[.int .i64 a0.f0,.string a0.f1,.string a0.f2,.int .i64 a0.f3,.int .i64 a0.f4,.string a0.f5,.bool a0.f6,.int .i64 a0.f7,.int .i64 a0.f8,.slice Ap0 np0 cp0,.slice Ap1 np1 cp1,.slice Ap2 np2 cp2,.string a0.f12],.agg #[.int .i64 a1.f0,.string a1.f1,.string a1.f2,.int .i64 a1.f3,.int .i64 a1.f4,.string a1.f5,.bool a1.f6,.int .i64 a1.f7,.int .i64 a1.f8,.slice Ap3 np3 cp3,.slice Ap4 np4 cp4,.slice Ap5 np5 cp5,.string a1.f12]] w (fun e w'=>e=.returned (.bool r)∧Hp noFP w w' []):=by
 obtain rfl:=C_len gp0
 obtain rfl:=C_len gp1
 obtain rfl:=C_len gp2
 obtain rfl:=C_len gp3
 obtain rfl:=C_len gp4
 obtain rfl:=C_len gp5
 have HS:=Hp.start w
 have H:=Aside0.mk h
 clear h
 unfold laws_sameCert.f at H
 go_enter Tryz.func92,Tryz.ntmps92
 replace H:=znif' H;rcases H with⟨c5,H⟩|⟨c5,H⟩
 ·
  obtain⟨c5a,c5b⟩:=nq c5;clear c5
  obtain rfl:=zsome H
  go_wp2_with (first|((with_reducible refine gd 2 rfl ?_);refine ev_bx HS ?_;clear HS;intro g2 w2 HS F)|((with_reducible refine gd 3 rfl ?_);refine ev_bx HS ?_;clear HS;intro g3 w3 HS F))
  go_ret
  exact HS.pk
 obtain⟨c5a,c5b⟩:=bq c5;clear c5
 replace H:=znif' H;rcases H with⟨c6,H⟩|⟨c6,H⟩
 ·
  obtain⟨c6a,c6b⟩:=nq c6;clear c6
  obtain rfl:=zsome H
  go_wp2_with (first|((with_reducible refine gd 2 rfl ?_);refine ev_bx HS ?_;clear HS;intro g2 w2 HS F)|((with_reducible refine gd 3 rfl ?_);refine ev_bx HS ?_;clear HS;intro g3 w3 HS F))
  go_ret
  exact HS.pk
 obtain⟨c6a,c6b⟩:=bq c6;clear c6
 replace H:=znif' H;rcases H with⟨c7,H⟩|⟨c7,H⟩
 ·
  obtain⟨c7a,c7b⟩:=nq c7;clear c7
  obtain rfl:=zsome H
  go_wp2_with (first|((with_reducible refine gd 2 rfl ?_);refine ev_bx HS ?_;clear HS;intro g2 w2 HS F)|((with_reducible refine gd 3 rfl ?_);refine ev_bx HS ?_;clear HS;intro g3 w3 HS F))
  go_ret
  exact HS.pk
 obtain⟨c7a,c7b⟩:=bq c7;clear c7
 replace H:=znif' H;rcases H with⟨c8,H⟩|⟨c8,H⟩
 ·
  obtain⟨c8a,c8b⟩:=nq c8;clear c8
  obtain rfl:=zsome H
  go_wp2_with (first|((with_reducible refine gd 2 rfl ?_);refine ev_bx HS ?_;clear HS;intro g2 w2 HS F)|((with_reducible refine gd 3 rfl ?_);refine ev_bx HS ?_;clear HS;intro g3 w3 HS F))
  go_ret
  exact HS.pk
 obtain⟨c8a,c8b⟩:=bq c8;clear c8
 replace H:=znif' H;rcases H with⟨c9,H⟩|⟨c9,H⟩
 ·
  obtain⟨c9a,c9b⟩:=nq c9;clear c9
  obtain rfl:=zsome H
  go_wp2_with (first|((with_reducible refine gd 2 rfl ?_);refine ev_bx HS ?_;clear HS;intro g2 w2 HS F)|((with_reducible refine gd 3 rfl ?_);refine ev_bx HS ?_;clear HS;intro g3 w3 HS F))
  go_ret
  exact HS.pk
 obtain⟨c9a,c9b⟩:=bq c9;clear c9
 replace H:=znif' H;rcases H with⟨c10,H⟩|⟨c10,H⟩
 ·
  obtain⟨c10a,c10b⟩:=nq c10;clear c10
  obtain rfl:=zsome H
  go_wp2_with (first|((with_reducible refine gd 2 rfl ?_);refine ev_bx HS ?_;clear HS;intro g2 w2 HS F)|((with_reducible refine gd 3 rfl ?_);refine ev_bx HS ?_;clear HS;intro g3 w3 HS F))
  go_ret
  exact HS.pk
 obtain⟨c10a,c10b⟩:=bq c10;clear c10
 replace H:=znif' H;rcases H with⟨c11,H⟩|⟨c11,H⟩
 ·
  obtain⟨c11a,c11b⟩:=nq c11;clear c11
  obtain rfl:=zsome H
  go_wp2_with (first|((with_reducible refine gd 2 rfl ?_);refine ev_bx HS ?_;clear HS;intro g2 w2 HS F)|((with_reducible refine gd 3 rfl ?_);refine ev_bx HS ?_;clear HS;intro g3 w3 HS F))
  go_ret
  exact HS.pk
 obtain⟨c11a,c11b⟩:=bq c11;clear c11
 replace H:=znif' H;rcases H with⟨c12,H⟩|⟨c12,H⟩
 ·
  obtain⟨c12a,c12b⟩:=nq c12;clear c12
  obtain rfl:=zsome H
  go_wp2_with (first|((with_reducible refine gd 2 rfl ?_);refine ev_bx HS ?_;clear HS;intro g2 w2 HS F)|((with_reducible refine gd 3 rfl ?_);refine ev_bx HS ?_;clear HS;intro g3 w3 HS F))
  go_ret
  exact HS.pk
 obtain⟨c12a,c12b⟩:=bq c12;clear c12
 replace H:=znif' H;rcases H with⟨c13,H⟩|⟨c13,H⟩
 ·
  obtain⟨c13a,c13b⟩:=nq c13;clear c13
  obtain rfl:=zsome H
  go_wp2_with (first|((with_reducible refine gd 2 rfl ?_);refine ev_bx HS ?_;clear HS;intro g2 w2 HS F)|((with_reducible refine gd 3 rfl ?_);refine ev_bx HS ?_;clear HS;intro g3 w3 HS F))
  go_ret
  exact HS.pk
 obtain⟨c13a,c13b⟩:=bq c13;clear c13
 replace H:=zbind H;obtain⟨t14,ht14,H⟩:=H
 replace H:=znifb H;rcases H with⟨c16,H⟩|⟨c16,H⟩
 ·
  subst c16
  obtain rfl:=zsome H
  go_wp2_with (first|((with_reducible refine gd 2 rfl ?_);refine ev_bx HS ?_;clear HS;intro g2 w2 HS F)|((with_reducible refine gd 3 rfl ?_);refine ev_bx HS ?_;clear HS;intro g3 w3 HS F)|((with_reducible refine gd 71 rfl ?_);refine gg ?_;refine ev_cl HS (laws_sameInts.calls ht14.out (HS.ro gp0) lp0 (HS.ro gp3) lp3) Tryz.func20 ?_;clear HS;intro wt14 HS F))
  go_ret
  exact HS.pk
 subst c16
 replace H:=zbind H;obtain⟨t17,ht17,H⟩:=H
 replace H:=znifb H;rcases H with⟨c19,H⟩|⟨c19,H⟩
 ·
  subst c19
  obtain rfl:=zsome H
  go_wp2_with (first|((with_reducible refine gd 2 rfl ?_);refine ev_bx HS ?_;clear HS;intro g2 w2 HS F)|((with_reducible refine gd 3 rfl ?_);refine ev_bx HS ?_;clear HS;intro g3 w3 HS F)|((with_reducible refine gd 71 rfl ?_);refine gg ?_;refine ev_cl HS (laws_sameInts.calls ht14.out (HS.ro gp0) lp0 (HS.ro gp3) lp3) Tryz.func20 ?_;clear HS;intro wt14 HS F)|((with_reducible refine gd 78 rfl ?_);refine gg ?_;refine ev_cl HS (laws_sameTexts.calls ht17.out (HS.ro gp1) lp1 (HS.ro gp4) lp4) Tryz.func56 ?_;clear HS;intro wt17 HS F))
  go_ret
  exact HS.pk
 subst c19
 replace H:=zbind H;obtain⟨t20,ht20,H⟩:=H
 replace H:=zifb H;rcases H with⟨c22,H⟩|⟨c22,H⟩
 ·
  subst c22
  obtain rfl:=zsome H
  go_wp2_with (first|((with_reducible refine gd 2 rfl ?_);refine ev_bx HS ?_;clear HS;intro g2 w2 HS F)|((with_reducible refine gd 3 rfl ?_);refine ev_bx HS ?_;clear HS;intro g3 w3 HS F)|((with_reducible refine gd 71 rfl ?_);refine gg ?_;refine ev_cl HS (laws_sameInts.calls ht14.out (HS.ro gp0) lp0 (HS.ro gp3) lp3) Tryz.func20 ?_;clear HS;intro wt14 HS F)|((with_reducible refine gd 78 rfl ?_);refine gg ?_;refine ev_cl HS (laws_sameTexts.calls ht17.out (HS.ro gp1) lp1 (HS.ro gp4) lp4) Tryz.func56 ?_;clear HS;intro wt17 HS F)|((with_reducible refine gd 85 rfl ?_);refine gg ?_;refine ev_cl HS (laws_sameTexts.calls ht20.out (HS.ro gp2) lp2 (HS.ro gp5) lp5) Tryz.func56 ?_;clear HS;intro wt20 HS F))
  go_ret
  exact HS.pk
 subst c22
 obtain rfl:=zsome H
 go_wp2_with (first|((with_reducible refine gd 2 rfl ?_);refine ev_bx HS ?_;clear HS;intro g2 w2 HS F)|((with_reducible refine gd 3 rfl ?_);refine ev_bx HS ?_;clear HS;intro g3 w3 HS F)|((with_reducible refine gd 71 rfl ?_);refine gg ?_;refine ev_cl HS (laws_sameInts.calls ht14.out (HS.ro gp0) lp0 (HS.ro gp3) lp3) Tryz.func20 ?_;clear HS;intro wt14 HS F)|((with_reducible refine gd 78 rfl ?_);refine gg ?_;refine ev_cl HS (laws_sameTexts.calls ht17.out (HS.ro gp1) lp1 (HS.ro gp4) lp4) Tryz.func56 ?_;clear HS;intro wt17 HS F)|((with_reducible refine gd 85 rfl ?_);refine gg ?_;refine ev_cl HS (laws_sameTexts.calls ht20.out (HS.ro gp2) lp2 (HS.ro gp5) lp5) Tryz.func56 ?_;clear HS;intro wt20 HS F))
 go_ret
 exact HS.pk
def laws_sameCerts.l0:Nat→Int→(List S125)→(List S125)→Option (Bool)
  |0,_,_,_=>none
  |k+1,x5,a0,a1=>(if x5<(a0.length:Int)then(if 0≤x5 then(if x5<(a0.length:Int)then(if x5<(a1.length:Int)then((laws_sameCert.f k (rd_T125 a0 x5) (rd_T125 a1 x5)).bind fun t14=>(if t14=true then(laws_sameCerts.l0 k (wrap64 (x5+1)) a0 a1)else(some false)))else none)else none)else none)else(some true))
def laws_sameCerts.f (k:Nat)(a0:(List S125))(a1:(List S125)):Option (Bool):=(if(a0.length:Int)=(a1.length:Int)then(laws_sameCerts.l0 k 0 a0 a1)else(some false))
def laws_sameCerts.T6:TT:=(true,[([],[]),([],[]),([0,1],[0,1]),([2],[2]),([],[]),([],[]),([4,5],[4,5]),([6],[6]),([3,7],[3,7]),([8],[8])])
theorem laws_sameCerts.tT6:rtab .any (opsOf Tryz.f63 6)=laws_sameCerts.T6:=by kernel_rfl
theorem laws_sameCerts.calls {k:Nat}{a0:(List S125)}{a1:(List S125)}{Ap0 Ap1:Option Addr}{np0 cp0 np1 cp1:Nat}{r:Bool}{w:World}(h:laws_sameCerts.f k a0 a1=some r)(gp0:k125.C w Ap0 np0 a0)(lp0:np0≤cp0)(gp1:k125.C w Ap1 np1 a1)(lp1:np1≤cp1):
    Calls Tryz.prog 63 #[.slice Ap0 np0 cp0,.slice Ap1 np1 cp1] w (fun e w'=>e=.returned (.bool r)∧Hp noFP w w' []):=by
 obtain rfl:=C_len gp0
 obtain rfl:=C_len gp1
 have HS:=Hp.start w
 have H:=Aside0.mk h
 clear h
 unfold laws_sameCerts.f at H
 go_enter Tryz.func63,Tryz.ntmps63
 replace H:=znif' H;rcases H with⟨c1,H⟩|⟨c1,H⟩
 ·
  obtain⟨c1a,c1b⟩:=nq c1;clear c1
  obtain rfl:=zsome H
  go_wp2
  go_ret
  exact HS.pk
 obtain⟨c1a,c1b⟩:=bq c1;clear c1
 go_wp2
 go_loopg [5] k (fun kq v_5 w'=>∃(x5:Int),v_5=.int .i64 x5∧Aside0 (laws_sameCerts.l0 kq x5 a0 a1=some r)∧Aside0 (kq≤k)∧Hp noFP w w' [])
 case atStart=>exact⟨_,rfl,H,⟨Nat.le_refl _⟩,HS⟩
 case round=>
  clear HS H;(try clear F)
  obtain⟨x5,rfl,H,HKk4,HS⟩:=hrel
  cases gk with
  |zero=>exact absurd H.out (by simp [laws_sameCerts.l0])
  | succ k4=>
   simp only [laws_sameCerts.l0] at H
   replace H:=znif H;rcases H with⟨c7,H⟩|⟨c7,H⟩
   ·
    obtain rfl:=zsome H
    go_wp2
    go_ret
    exact HS.pk
   (try go_wp2)
   replace H:=zgo H;obtain⟨c3,H⟩:=H
   replace H:=zgo H;obtain⟨c8,H⟩:=H
   obtain⟨ad10,B10_9,d10_9,B10_10,d10_10,B10_11,d10_11,rfl,e10_0,e10_1,e10_2,e10_3,e10_4,e10_5,e10_6,e10_7,e10_8,e10_9,e10_10,e10_11,e10_12,m10_9,y10_9,m10_10,y10_10,m10_11,y10_11⟩:=at_T125 gp0 x5 (of_eq_true c3) (of_eq_true c8)
   replace H:=zgo H;obtain⟨c12,H⟩:=H
   obtain⟨ad13,B13_9,d13_9,B13_10,d13_10,B13_11,d13_11,rfl,e13_0,e13_1,e13_2,e13_3,e13_4,e13_5,e13_6,e13_7,e13_8,e13_9,e13_10,e13_11,e13_12,m13_9,y13_9,m13_10,y13_10,m13_11,y13_11⟩:=at_T125 gp1 x5 (of_eq_true c3) (of_eq_true c12)
   replace H:=zbind H;obtain⟨t14,ht14,H⟩:=H
   refine dr_start [] HS #[false,false,false,false,false,false,false,false,false,false] (by kernel_rfl) rfl rfl laws_sameCerts.tT6 (fun w9 HT HS HH=>?_)
   (try clear F)
   refine dq [0,1,2] HT ?_
   refine dtk 3 20 HT HH rfl (by rintro w' ⟨rs',HS'⟩;have e10_0:=HS'.keepc e10_0;have e10_1:=HS'.keepc e10_1;have e10_2:=HS'.keepc e10_2;have e10_3:=HS'.keepc e10_3;have e10_4:=HS'.keepc e10_4;have e10_5:=HS'.keepc e10_5;have e10_6:=HS'.keepc e10_6;have e10_7:=HS'.keepc e10_7;have e10_8:=HS'.keepc e10_8;have e10_9:=HS'.keepc e10_9;have e10_10:=HS'.keepc e10_10;have e10_11:=HS'.keepc e10_11;have e10_12:=HS'.keepc e10_12;go_simp;with_reducible rfl) ?_
   refine dq [4,5,6] HT ?_
   refine dtk 7 24 HT HH rfl (by rintro w' ⟨rs',HS'⟩;have e13_0:=HS'.keepc e13_0;have e13_1:=HS'.keepc e13_1;have e13_2:=HS'.keepc e13_2;have e13_3:=HS'.keepc e13_3;have e13_4:=HS'.keepc e13_4;have e13_5:=HS'.keepc e13_5;have e13_6:=HS'.keepc e13_6;have e13_7:=HS'.keepc e13_7;have e13_8:=HS'.keepc e13_8;have e13_9:=HS'.keepc e13_9;have e13_10:=HS'.keepc e13_10;have e13_11:=HS'.keepc e13_11;have e13_12:=HS'.keepc e13_12;go_simp;with_reducible rfl) ?_
   refine dr1 8 HT fun K hK=>?_
   refine go_cl HS (laws_sameCert.calls ht14.out (HS.ro y10_9) m10_9 (HS.ro y10_10) m10_10 (HS.ro y10_11) m10_11 (HS.ro y13_9) m13_9 (HS.ro y13_10) m13_10 (HS.ro y13_11) m13_11) Tryz.func92 ?_;clear HS;intro wt14 HS F
   refine nrm 25 hK ⟨_,HS⟩ fun HH=>?_;clear hK K
   refine dq [9] HT ?_
   refine dn HT ?_
   replace H:=znifb H;rcases H with⟨c11,H⟩|⟨c11,H⟩
   ·
    subst c11
    (try simp only [dcn,dcu,dcf])
    obtain rfl:=zsome H
    go_wp2
    go_ret
    exact HS.pk
   subst c11
   (try simp only [dcn,dcu,dcf])
   go_wp2
   go_roundg k4
   case measure=>have:=HKk4.out;omega
   case rel=>exact⟨_,rfl,H,⟨by have:=HKk4.out;omega⟩,HS.pi []⟩
def laws_sameCrl.l0:Nat→Int→S103→S103→Option (Bool)
  |0,_,_,_=>none
  |k+1,x15,a0,a1=>(if x15<(a0.f5.length:Int)then(if 0≤x15 then(if x15<(a0.f5.length:Int)then(if x15<(a1.f5.length:Int)then(if(eqS133 ((rd_T133 a0.f5 x15).f0) ((rd_T133 a0.f5 x15).f1) ((rd_T133 a1.f5 x15).f0) ((rd_T133 a1.f5 x15).f1))=true then(laws_sameCrl.l0 k (wrap64 (x15+1)) a0 a1)else(some false))else none)else none)else none)else(some true))
def laws_sameCrl.f (k:Nat)(a0:S103)(a1:S103):Option (Bool):=(if a0.f0.toList=a1.f0.toList then(if a0.f1=a1.f1 then(if a0.f2=a1.f2 then(if a0.f3=a1.f3 then(if a0.f4=a1.f4 then(if a0.f6.toList=a1.f6.toList then(if(a0.f5.length:Int)=(a1.f5.length:Int)then(laws_sameCrl.l0 k 0 a0 a1)else(some false))else(some false))else(some false))else(some false))else(some false))else(some false))else(some false))
def laws_sameCrl.T6:TT:=(true,[([],[]),([0],[0]),([],[]),([1,2],[1,2]),([3],[3]),([],[]),([5],[5]),([],[]),([6,7],[6,7]),([8],[8]),([4,9],[4,9])])
theorem laws_sameCrl.tT6:rtab .any (opsOf Tryz.f64 6)=laws_sameCrl.T6:=by kernel_rfl
theorem laws_sameCrl.calls {k:Nat}{a0:S103}{a1:S103}{Ap0 Ap1:Option Addr}{np0 cp0 np1 cp1:Nat}{r:Bool}{w:World}(h:laws_sameCrl.f k a0 a1=some r)(gp0:k133.C w Ap0 np0 a0.f5)(lp0:np0≤cp0)(gp1:k133.C w Ap1 np1 a1.f5)(lp1:np1≤cp1):
    Calls Tryz.prog 64 #[.agg #[.string a0.f0,.int .i64 a0.f1,.int .i64 a0.f2,.int .i64 a0.f3,.int .i64 a0.f4,.slice Ap0 np0 cp0,.string a0.f6],.agg #[.string a1.f0,.int .i64 a1.f1,.int .i64 a1.f2,.int .i64 a1.f3,.int .i64 a1.f4,.slice Ap1 np1 cp1,.string a1.f6]] w (fun e w'=>e=.returned (.bool r)∧Hp noFP w w' []):=by
 obtain rfl:=C_len gp0
 obtain rfl:=C_len gp1
 have HS:=Hp.start w
 have H:=Aside0.mk h
 clear h
 unfold laws_sameCrl.f at H
 go_enter Tryz.func64,Tryz.ntmps64
 replace H:=znif' H;rcases H with⟨c5,H⟩|⟨c5,H⟩
 ·
  obtain⟨c5a,c5b⟩:=nq c5;clear c5
  obtain rfl:=zsome H
  go_wp2_with (first|((with_reducible refine gd 2 rfl ?_);refine ev_bx HS ?_;clear HS;intro g2 w2 HS F)|((with_reducible refine gd 3 rfl ?_);refine ev_bx HS ?_;clear HS;intro g3 w3 HS F))
  go_ret
  exact HS.pk
 obtain⟨c5a,c5b⟩:=bq c5;clear c5
 replace H:=znif' H;rcases H with⟨c6,H⟩|⟨c6,H⟩
 ·
  obtain⟨c6a,c6b⟩:=nq c6;clear c6
  obtain rfl:=zsome H
  go_wp2_with (first|((with_reducible refine gd 2 rfl ?_);refine ev_bx HS ?_;clear HS;intro g2 w2 HS F)|((with_reducible refine gd 3 rfl ?_);refine ev_bx HS ?_;clear HS;intro g3 w3 HS F))
  go_ret
  exact HS.pk
 obtain⟨c6a,c6b⟩:=bq c6;clear c6
 replace H:=znif' H;rcases H with⟨c7,H⟩|⟨c7,H⟩
 ·
  obtain⟨c7a,c7b⟩:=nq c7;clear c7
  obtain rfl:=zsome H
  go_wp2_with (first|((with_reducible refine gd 2 rfl ?_);refine ev_bx HS ?_;clear HS;intro g2 w2 HS F)|((with_reducible refine gd 3 rfl ?_);refine ev_bx HS ?_;clear HS;intro g3 w3 HS F))
  go_ret
  exact HS.pk
 obtain⟨c7a,c7b⟩:=bq c7;clear c7
 replace H:=znif' H;rcases H with⟨c8,H⟩|⟨c8,H⟩
 ·
  obtain⟨c8a,c8b⟩:=nq c8;clear c8
  obtain rfl:=zsome H
  go_wp2_with (first|((with_reducible refine gd 2 rfl ?_);refine ev_bx HS ?_;clear HS;intro g2 w2 HS F)|((with_reducible refine gd 3 rfl ?_);refine ev_bx HS ?_;clear HS;intro g3 w3 HS F))
  go_ret
  exact HS.pk
 obtain⟨c8a,c8b⟩:=bq c8;clear c8
 replace H:=znif' H;rcases H with⟨c9,H⟩|⟨c9,H⟩
 ·
  obtain⟨c9a,c9b⟩:=nq c9;clear c9
  obtain rfl:=zsome H
  go_wp2_with (first|((with_reducible refine gd 2 rfl ?_);refine ev_bx HS ?_;clear HS;intro g2 w2 HS F)|((with_reducible refine gd 3 rfl ?_);refine ev_bx HS ?_;clear HS;intro g3 w3 HS F))
  go_ret
  exact HS.pk
 obtain⟨c9a,c9b⟩:=bq c9;clear c9
 replace H:=znif' H;rcases H with⟨c10,H⟩|⟨c10,H⟩
 ·
  obtain⟨c10a,c10b⟩:=nq c10;clear c10
  obtain rfl:=zsome H
  go_wp2_with (first|((with_reducible refine gd 2 rfl ?_);refine ev_bx HS ?_;clear HS;intro g2 w2 HS F)|((with_reducible refine gd 3 rfl ?_);refine ev_bx HS ?_;clear HS;intro g3 w3 HS F))
  go_ret
  exact HS.pk
 obtain⟨c10a,c10b⟩:=bq c10;clear c10
 go_upto_if 54 with(first|((with_reducible refine gd 2 rfl ?_);refine ev_bx HS ?_;clear HS;intro g2 w2 HS F)|((with_reducible refine gd 3 rfl ?_);refine ev_bx HS ?_;clear HS;intro g3 w3 HS F))
 replace H:=znif' H;rcases H with⟨c11,H⟩|⟨c11,H⟩
 ·
  obtain⟨c11a,c11b⟩:=nq c11;clear c11
  (try simp only [c11a,c11b,dcn])
  obtain rfl:=zsome H
  go_wp2
  go_ret
  exact HS.pk
 obtain⟨c11a,c11b⟩:=bq c11;clear c11
 (try simp only [c11a,c11b,dcn])
 go_wp2
 go_loopg [5] k (fun kq v_5 w'=>∃(x15:Int),v_5=.int .i64 x15∧Aside0 (laws_sameCrl.l0 kq x15 a0 a1=some r)∧Aside0 (kq≤k)∧Hp noFP w w' [.box g2 [.string a0.f0,.int .i64 a0.f1,.int .i64 a0.f2,.int .i64 a0.f3,.int .i64 a0.f4,.slice Ap0 a0.f5.length cp0,.string a0.f6] 103,.box g3 [.string a1.f0,.int .i64 a1.f1,.int .i64 a1.f2,.int .i64 a1.f3,.int .i64 a1.f4,.slice Ap1 a1.f5.length cp1,.string a1.f6] 103])
 case atStart=>exact⟨_,rfl,H,⟨Nat.le_refl _⟩,HS⟩
 case round=>
  clear HS H;(try clear F)
  obtain⟨x15,rfl,H,HKk14,HS⟩:=hrel
  have F:=HS.bx
  cases gk with
  |zero=>exact absurd H.out (by simp [laws_sameCrl.l0])
  | succ k14=>
   simp only [laws_sameCrl.l0] at H
   replace H:=znif H;rcases H with⟨c17,H⟩|⟨c17,H⟩
   ·
    obtain rfl:=zsome H
    go_wp2
    go_ret
    exact HS.pk
   (try go_wp2)
   replace H:=zgo H;obtain⟨c12,H⟩:=H
   replace H:=zgo H;obtain⟨c13,H⟩:=H
   obtain⟨ad16,rfl,e16_0,e16_1⟩:=at_T133 gp0 x15 (of_eq_true c12) (of_eq_true c13)
   replace H:=zgo H;obtain⟨c18,H⟩:=H
   obtain⟨ad20,rfl,e20_0,e20_1⟩:=at_T133 gp1 x15 (of_eq_true c12) (of_eq_true c18)
   refine dr_start [] HS #[false,false,false,false,false,false,false,false,false,false,false] (by kernel_rfl) rfl rfl laws_sameCrl.tT6 (fun w19 HT HS HH=>?_)
   (try clear F)
   refine dqt [0,1,2,3] HT HH ?_
   refine dtk 4 66 HT HH rfl (by rintro w' ⟨rs',HS'⟩;have e16_0:=HS'.keepc e16_0;have e16_1:=HS'.keepc e16_1;go_simp;with_reducible rfl) ?_
   refine dqt [5,6,7,8] HT HH ?_
   refine dtk 9 71 HT HH rfl (by rintro w' ⟨rs',HS'⟩;have e20_0:=HS'.keepc e20_0;have e20_1:=HS'.keepc e20_1;go_simp;with_reducible rfl) ?_
   refine dr_pure 10 (some 72) HT (v:=.bool (!(eqS133 ((rd_T133 a0.f5 x15).f0) ((rd_T133 a0.f5 x15).f1) ((rd_T133 a1.f5 x15).f0) ((rd_T133 a1.f5 x15).f1)))) (a':=?_) rfl rfl (by kernel_rfl) (fun _ _ _ h=>h) (.inl ⟨by rfl,fun w'=>(run_neqA rfl rfl rfl (by kernel_rfl) (eqA133 _ _ _ _ _))⟩) ?_ ?_
   rotate_left
   · simp only [Act.put,ptn];rfl
   refine dn HT ?_
   (try clear F)
   have F:=HS.bx
   replace H:=znifb H;rcases H with⟨c21,H⟩|⟨c21,H⟩
   ·
    (try simp only [c21,dcn])
    obtain rfl:=zsome H
    go_wp2
    go_ret
    exact HS.pk
   (try simp only [c21,dcn])
   go_wp2
   go_roundg k14
   case measure=>have:=HKk14.out;omega
   case rel=>exact⟨_,rfl,H,⟨by have:=HKk14.out;omega⟩,HS.pi [0,1]⟩
mutual
def laws_sameStore.l0:Nat→Int→S48→S48→Option (Bool)
  |0,_,_,_=>none
  |k+1,x13,a0,a1=>(if x13<(a0.f1.length:Int)then(if 0≤x13 then(if x13<(a0.f1.length:Int)then(if x13<(a1.f1.length:Int)then((laws_sameCrl.f k (rd_T103 a0.f1 x13) (rd_T103 a1.f1 x13)).bind fun t21=>(if t21=true then(laws_sameStore.l0 k (wrap64 (x13+1)) a0 a1)else(some false)))else none)else none)else none)else(laws_sameStore.l1 k 0 a0 a1))
def laws_sameStore.l1:Nat→Int→S48→S48→Option (Bool)
  |0,_,_,_=>none
  |k+1,x23,a0,a1=>(if x23<(a0.f2.length:Int)then(if 0≤x23 then(if x23<(a0.f2.length:Int)then(if x23<(a1.f2.length:Int)then(if(eqS105 ((rd_T105 a0.f2 x23).f0) ((rd_T105 a0.f2 x23).f1) ((rd_T105 a1.f2 x23).f0) ((rd_T105 a1.f2 x23).f1))=true then(laws_sameStore.l1 k (wrap64 (x23+1)) a0 a1)else(some false))else none)else none)else none)else(some true))
end
def laws_sameStore.f (k:Nat)(a0:S48)(a1:S48):Option (Bool):=((laws_sameCerts.f k a0.f0 a1.f0).bind fun t5=>(if t5=true then(if(a0.f1.length:Int)=(a1.f1.length:Int)then(if(a0.f2.length:Int)=(a1.f2.length:Int)then(laws_sameStore.l0 k 0 a0 a1)else(some false))else(some false))else(some false)))
def laws_sameStore.T6:TT:=(true,[([],[]),([0],[0]),([],[]),([1,2],[1,2]),([3],[3]),([],[]),([5],[5]),([],[]),([6,7],[6,7]),([8],[8]),([4,9],[4,9]),([10],[10])])
theorem laws_sameStore.tT6:rtab .any (opsOf Tryz.f25 6)=laws_sameStore.T6:=by kernel_rfl
def laws_sameStore.T11:TT:=(true,[([],[]),([0],[0]),([],[]),([1,2],[1,2]),([3],[3]),([],[]),([5],[5]),([],[]),([6,7],[6,7]),([8],[8]),([4,9],[4,9])])
theorem laws_sameStore.tT11:rtab .any (opsOf Tryz.f25 11)=laws_sameStore.T11:=by kernel_rfl
theorem laws_sameStore.calls {k:Nat}{a0:S48}{a1:S48}{Ap0 Ap1 Ap2 Ap3 Ap4 Ap5:Option Addr}{np0 cp0 np1 cp1 np2 cp2 np3 cp3 np4 cp4 np5 cp5:Nat}{r:Bool}{w:World}(h:laws_sameStore.f k a0 a1=some r)(gp0:k125.C w Ap0 np0 a0.f0)(lp0:np0≤cp0)(gp1:k103.C w Ap1 np1 a0.f1)(lp1:np1≤cp1)(gp2:k105.C w Ap2 np2 a0.f2)(lp2:np2≤cp2)(gp3:k125.C w Ap3 np3 a1.f0)(lp3:np3≤cp3)(gp4:k103.C w Ap4 np4 a1.f1)(lp4:np4≤cp4)(gp5:k105.C w Ap5 np5 a1.f2)(lp5:np5≤cp5):
    Calls Tryz.prog 25 #[.agg #[.slice Ap0 np0 cp0,.slice Ap1 np1 cp1,.slice Ap2 np2 cp2],.agg #[.slice Ap3 np3 cp3,.slice Ap4 np4 cp4,.slice Ap5 np5 cp5]] w (fun e w'=>e=.returned (.bool r)∧Hp noFP w w' []):=by
 obtain rfl:=C_len gp0
 obtain rfl:=C_len gp1
 obtain rfl:=C_len gp2
 obtain rfl:=C_len gp3
 obtain rfl:=C_len gp4
 obtain rfl:=C_len gp5
 have HS:=Hp.start w
 have H:=Aside0.mk h
 clear h
 unfold laws_sameStore.f at H
 go_enter Tryz.func25,Tryz.ntmps25
 replace H:=zbind H;obtain⟨t5,ht5,H⟩:=H
 replace H:=znifb H;rcases H with⟨c7,H⟩|⟨c7,H⟩
 ·
  subst c7
  obtain rfl:=zsome H
  go_wp2_with (first|((with_reducible refine gd 2 rfl ?_);refine ev_bx HS ?_;clear HS;intro g2 w2 HS F)|((with_reducible refine gd 3 rfl ?_);refine ev_bx HS ?_;clear HS;intro g3 w3 HS F)|((with_reducible refine gd 11 rfl ?_);refine ev_cl HS (laws_sameCerts.calls ht5.out (HS.ro gp0) lp0 (HS.ro gp3) lp3) Tryz.func63 ?_;clear HS;intro wt5 HS F))
  go_ret
  exact HS.pk
 subst c7
 replace H:=znif' H;rcases H with⟨c8,H⟩|⟨c8,H⟩
 ·
  obtain⟨c8a,c8b⟩:=nq c8;clear c8
  obtain rfl:=zsome H
  go_wp2_with (first|((with_reducible refine gd 2 rfl ?_);refine ev_bx HS ?_;clear HS;intro g2 w2 HS F)|((with_reducible refine gd 3 rfl ?_);refine ev_bx HS ?_;clear HS;intro g3 w3 HS F)|((with_reducible refine gd 11 rfl ?_);refine ev_cl HS (laws_sameCerts.calls ht5.out (HS.ro gp0) lp0 (HS.ro gp3) lp3) Tryz.func63 ?_;clear HS;intro wt5 HS F))
  go_ret
  exact HS.pk
 obtain⟨c8a,c8b⟩:=bq c8;clear c8
 go_upto_if 30 with(first|((with_reducible refine gd 2 rfl ?_);refine ev_bx HS ?_;clear HS;intro g2 w2 HS F)|((with_reducible refine gd 3 rfl ?_);refine ev_bx HS ?_;clear HS;intro g3 w3 HS F)|((with_reducible refine gd 11 rfl ?_);refine ev_cl HS (laws_sameCerts.calls ht5.out (HS.ro gp0) lp0 (HS.ro gp3) lp3) Tryz.func63 ?_;clear HS;intro wt5 HS F))
 replace H:=znif' H;rcases H with⟨c9,H⟩|⟨c9,H⟩
 ·
  obtain⟨c9a,c9b⟩:=nq c9;clear c9
  (try simp only [c9a,c9b,dcn])
  obtain rfl:=zsome H
  go_wp2
  go_ret
  exact HS.pk
 obtain⟨c9a,c9b⟩:=bq c9;clear c9
 (try simp only [c9a,c9b,dcn])
 go_wp2
 go_loopg [5] k (fun kq v_5 w'=>∃(x13:Int),v_5=.int .i64 x13∧Aside0 (laws_sameStore.l0 kq x13 a0 a1=some r)∧Aside0 (kq≤k)∧Hp noFP w w' [.box g2 [.slice Ap0 a0.f0.length cp0,.slice Ap1 a0.f1.length cp1,.slice Ap2 a0.f2.length cp2] 48,.box g3 [.slice Ap3 a1.f0.length cp3,.slice Ap4 a1.f1.length cp4,.slice Ap5 a1.f2.length cp5] 48])
 case atStart=>exact⟨_,rfl,H,⟨Nat.le_refl _⟩,HS⟩
 case round=>
  clear HS H;(try clear F)
  obtain⟨x13,rfl,H,HKk12,HS⟩:=hrel
  have F:=HS.bx
  cases gk with
  |zero=>exact absurd H.out (by simp [laws_sameStore.l0])
  | succ k12=>
   simp only [laws_sameStore.l0] at H
   replace H:=znif H;rcases H with⟨c15,H⟩|⟨c15,H⟩
   ·
    go_wp2
    (try obtain⟨wok22,rfl⟩:∃wo_:World,wo_=wr:=⟨_,rfl⟩)
    go_loopg [6] k12 (fun kq v_6 w'=>∃(x23:Int),v_6=.int .i64 x23∧Aside0 (laws_sameStore.l1 kq x23 a0 a1=some r)∧Aside0 (kq≤k12)∧Hp noFP w w' [.box g2 [.slice Ap0 a0.f0.length cp0,.slice Ap1 a0.f1.length cp1,.slice Ap2 a0.f2.length cp2] 48,.box g3 [.slice Ap3 a1.f0.length cp3,.slice Ap4 a1.f1.length cp4,.slice Ap5 a1.f2.length cp5] 48])
    case atStart=>exact⟨_,rfl,H,⟨Nat.le_refl _⟩,HS⟩
    case round=>
     clear HS H;(try clear F)
     obtain⟨x23,rfl,H,HKk22,HS⟩:=hrel
     have F:=HS.bx
     cases gk with
     |zero=>exact absurd H.out (by simp [laws_sameStore.l1])
     | succ k22=>
      simp only [laws_sameStore.l1] at H
      replace H:=znif H;rcases H with⟨c25,H⟩|⟨c25,H⟩
      ·
       obtain rfl:=zsome H
       go_wp2
       go_ret
       exact HS.pk
      (try go_wp2)
      replace H:=zgo H;obtain⟨c24,H⟩:=H
      replace H:=zgo H;obtain⟨c26,H⟩:=H
      obtain⟨ad28,rfl,e28_0,e28_1⟩:=at_T105 gp2 x23 (of_eq_true c24) (of_eq_true c26)
      replace H:=zgo H;obtain⟨c30,H⟩:=H
      obtain⟨ad31,rfl,e31_0,e31_1⟩:=at_T105 gp5 x23 (of_eq_true c24) (of_eq_true c30)
      refine dr_start [] HS #[false,false,false,false,false,false,false,false,false,false,false] (by kernel_rfl) rfl rfl laws_sameStore.tT11 (fun w27 HT HS HH=>?_)
      (try clear F)
      refine dqt [0,1,2,3] HT HH ?_
      refine dtk 4 61 HT HH rfl (by rintro w' ⟨rs',HS'⟩;have e28_0:=HS'.keepc e28_0;have e28_1:=HS'.keepc e28_1;go_simp;with_reducible rfl) ?_
      refine dqt [5,6,7,8] HT HH ?_
      refine dtk 9 66 HT HH rfl (by rintro w' ⟨rs',HS'⟩;have e31_0:=HS'.keepc e31_0;have e31_1:=HS'.keepc e31_1;go_simp;with_reducible rfl) ?_
      refine dr_pure 10 (some 67) HT (v:=.bool (!(eqS105 ((rd_T105 a0.f2 x23).f0) ((rd_T105 a0.f2 x23).f1) ((rd_T105 a1.f2 x23).f0) ((rd_T105 a1.f2 x23).f1)))) (a':=?_) rfl rfl (by kernel_rfl) (fun _ _ _ h=>h) (.inl ⟨by rfl,fun w'=>(run_neqA rfl rfl rfl (by kernel_rfl) (eqA105 _ _ _ _ _))⟩) ?_ ?_
      rotate_left
      · simp only [Act.put,ptn];rfl
      refine dn HT ?_
      (try clear F)
      have F:=HS.bx
      replace H:=znifb H;rcases H with⟨c29,H⟩|⟨c29,H⟩
      ·
       (try simp only [c29,dcn])
       obtain rfl:=zsome H
       go_wp2
       go_ret
       exact HS.pk
      (try simp only [c29,dcn])
      go_wp2
      go_roundg k22
      case measure=>have:=HKk12.out;have:=HKk22.out;omega
      case rel=>exact⟨_,rfl,H,⟨by have:=HKk12.out;have:=HKk22.out;omega⟩,HS.pi [0,1]⟩
   (try go_wp2)
   replace H:=zgo H;obtain⟨c10,H⟩:=H
   replace H:=zgo H;obtain⟨c14,H⟩:=H
   obtain⟨ad16,B16_5,d16_5,rfl,e16_0,e16_1,e16_2,e16_3,e16_4,e16_5,e16_6,m16_5,y16_5⟩:=at_T103 gp1 x13 (of_eq_true c10) (of_eq_true c14)
   replace H:=zgo H;obtain⟨c18,H⟩:=H
   obtain⟨ad20,B20_5,d20_5,rfl,e20_0,e20_1,e20_2,e20_3,e20_4,e20_5,e20_6,m20_5,y20_5⟩:=at_T103 gp4 x13 (of_eq_true c10) (of_eq_true c18)
   replace H:=zbind H;obtain⟨t21,ht21,H⟩:=H
   refine dr_start [] HS #[false,false,false,false,false,false,false,false,false,false,false,false] (by kernel_rfl) rfl rfl laws_sameStore.tT6 (fun w17 HT HS HH=>?_)
   (try clear F)
   refine dqt [0,1,2,3] HT HH ?_
   refine dtk 4 42 HT HH rfl (by rintro w' ⟨rs',HS'⟩;have e16_0:=HS'.keepc e16_0;have e16_1:=HS'.keepc e16_1;have e16_2:=HS'.keepc e16_2;have e16_3:=HS'.keepc e16_3;have e16_4:=HS'.keepc e16_4;have e16_5:=HS'.keepc e16_5;have e16_6:=HS'.keepc e16_6;go_simp;with_reducible rfl) ?_
   refine dqt [5,6,7,8] HT HH ?_
   refine dtk 9 47 HT HH rfl (by rintro w' ⟨rs',HS'⟩;have e20_0:=HS'.keepc e20_0;have e20_1:=HS'.keepc e20_1;have e20_2:=HS'.keepc e20_2;have e20_3:=HS'.keepc e20_3;have e20_4:=HS'.keepc e20_4;have e20_5:=HS'.keepc e20_5;have e20_6:=HS'.keepc e20_6;go_simp;with_reducible rfl) ?_
   refine dr1 10 HT fun K hK=>?_
   refine go_cl HS (laws_sameCrl.calls ht21.out (HS.ro y16_5) m16_5 (HS.ro y20_5) m20_5) Tryz.func64 ?_;clear HS;intro wt21 HS F
   refine nrm 48 hK ⟨_,HS⟩ fun HH=>?_;clear hK K
   refine dq [11] HT ?_
   refine dn HT ?_
   (try clear F)
   have F:=HS.bx
   replace H:=znifb H;rcases H with⟨c19,H⟩|⟨c19,H⟩
   ·
    subst c19
    (try simp only [dcn,dcu,dcf])
    obtain rfl:=zsome H
    go_wp2
    go_ret
    exact HS.pk
   subst c19
   (try simp only [dcn,dcu,dcf])
   go_wp2
   go_roundg k12
   case measure=>have:=HKk12.out;omega
   case rel=>exact⟨_,rfl,H,⟨by have:=HKk12.out;omega⟩,HS.pi [0,1]⟩
def impl_copyCert.f (a0:S125):Option (S125):=(if 0+a0.f9.length≤17592186044416 then(lets (([]:List Int)++a0.f9) fun y6=>(if 0+a0.f10.length≤8796093022208 then(lets (([]:List ByteArray)++a0.f10) fun y11=>(if 0+a0.f11.length≤8796093022208 then(lets (([]:List ByteArray)++a0.f11) fun y16=>(some (⟨a0.f0,a0.f1,a0.f2,a0.f3,a0.f4,a0.f5,a0.f6,a0.f7,a0.f8,y6,y11,y16,a0.f12⟩:S125)))else none))else none))else none)
theorem impl_copyCert.calls {a0:S125}{Ap0 Ap1 Ap2:Option Addr}{np0 cp0 np1 cp1 np2 cp2:Nat}{r:S125}{w:World}(h:impl_copyCert.f a0=some r)(gp0:(Kd.int .i64).C w Ap0 np0 a0.f9)(lp0:np0≤cp0)(gp1:Kd.string.C w Ap1 np1 a0.f10)(lp1:np1≤cp1)(gp2:Kd.string.C w Ap2 np2 a0.f11)(lp2:np2≤cp2):
    Calls Tryz.prog 120 #[.agg #[.int .i64 a0.f0,.string a0.f1,.string a0.f2,.int .i64 a0.f3,.int .i64 a0.f4,.string a0.f5,.bool a0.f6,.int .i64 a0.f7,.int .i64 a0.f8,.slice Ap0 np0 cp0,.slice Ap1 np1 cp1,.slice Ap2 np2 cp2,.string a0.f12]] w (fun e w'=>∃v0_ v1_ v2_:Value,e=.returned (.agg #[.int .i64 r.f0,.string r.f1,.string r.f2,.int .i64 r.f3,.int .i64 r.f4,.string r.f5,.bool r.f6,.int .i64 r.f7,.int .i64 r.f8,v0_,v1_,v2_,.string r.f12])∧Hp noFP w w' [.own (Zd.slice 3 (Zd.int .i64)) r.f9 [v0_],.own (Zd.slice 9 Zd.string) r.f10 [v1_],.own (Zd.slice 9 Zd.string) r.f11 [v2_]]):=by
 obtain rfl:=C_len gp0
 obtain rfl:=C_len gp1
 obtain rfl:=C_len gp2
 have HS:=Hp.start w
 have H:=Aside0.mk h
 clear h
 unfold impl_copyCert.f at H
 go_enter Tryz.func120,Tryz.ntmps120
 replace H:=zgo H;obtain⟨c5,H⟩:=H
 replace H:=zlets H;obtain⟨y6,e_y6,H⟩:=H
 replace H:=zgo H;obtain⟨c10,H⟩:=H
 replace H:=zlets H;obtain⟨y11,e_y11,H⟩:=H
 replace H:=zgo H;obtain⟨c15,H⟩:=H
 replace H:=zlets H;obtain⟨y16,e_y16,H⟩:=H
 obtain rfl:=zsome H
 go_wp2_with (first|((with_reducible refine gd 1 rfl ?_);refine ev_bx HS ?_;clear HS;intro g1 w1 HS F)|((with_reducible refine gd 2 rfl ?_);refine ev_bx HS ?_;clear HS;intro g2 w2 HS F)|((with_reducible refine gd 5 rfl ?_);replace HS:=HS.nil 3 (Zd.int .i64);refine ev_apr (flat_int _) 2 HS rfl (HS.ro gp0) Tryz.underlying35 info3 (of_eq_true c5) ?_;clear HS;intro v6 w6 HS;rw [←e_y6.out] at HS;obtain⟨B6,d6,rfl,m6⟩:=HS.form 3 rfl;(try simp only [hpn,hpm] at HS);have F:=HS.bx)|((with_reducible refine gate_store (p:=6) rfl ?_);refine ev_st 0 9 HS (seg:=[.slice B6 y6.length d6]) ?_;clear HS;intro w8 HS F)|((with_reducible refine gd 9 rfl ?_);replace HS:=HS.nil 9 Zd.string;refine ev_apr flat_string 4 HS rfl (HS.ro gp1) Tryz.underlying24 info9 (of_eq_true c10) ?_;clear HS;intro v11 w11 HS;rw [←e_y11.out] at HS;obtain⟨B11,d11,rfl,m11⟩:=HS.form 5 rfl;(try simp only [hpn,hpm] at HS);have F:=HS.bx)|((with_reducible refine gate_store (p:=10) rfl ?_);refine ev_st 0 10 HS (seg:=[.slice B11 y11.length d11]) ?_;clear HS;intro w13 HS F)|((with_reducible refine gd 13 rfl ?_);replace HS:=HS.nil 9 Zd.string;refine ev_apr flat_string 6 HS rfl (HS.ro gp2) Tryz.underlying24 info9 (of_eq_true c15) ?_;clear HS;intro v16 w16 HS;rw [←e_y16.out] at HS;obtain⟨B16,d16,rfl,m16⟩:=HS.form 7 rfl;(try simp only [hpn,hpm] at HS);have F:=HS.bx)|((with_reducible refine gate_store (p:=14) rfl ?_);refine ev_st 0 11 HS (seg:=[.slice B16 y16.length d16]) ?_;clear HS;intro w18 HS F)|((with_reducible refine gate_store (p:=2) rfl ?_);refine ev_st 1 0 HS (seg:=[.int .i64 a0.f0,.string a0.f1,.string a0.f2,.int .i64 a0.f3,.int .i64 a0.f4,.string a0.f5,.bool a0.f6,.int .i64 a0.f7,.int .i64 a0.f8,.slice B6 y6.length d6,.slice B11 y11.length d11,.slice B16 y16.length d16,.string a0.f12]) ?_;clear HS;intro w20 HS F))
 exact rc 1 HS Tryz.underlying125 ⟨_,_,_,rfl,HS.pi [3,5,7]⟩
def impl_copyCerts.l0:Nat→(List S125)→Int→(List S125)→Option ((List S125))
  |0,_,_,_=>none
  |k+1,l16,x18,a0=>(if x18<(a0.length:Int)then(if 0≤x18 then(if x18<(a0.length:Int)then((impl_copyCert.f (rd_T125 a0 x18)).bind fun t28=>(if l16.length+1≤764877654105 then(lets (l16++([t28]:List S125)) fun y36=>(impl_copyCerts.l0 k y36 (wrap64 (x18+1)) a0))else none))else none)else none)else(some l16))
def impl_copyCerts.f (k:Nat)(a0:(List S125)):Option ((List S125)):=(impl_copyCerts.l0 k [] 0 a0)
theorem impl_copyCerts.calls {k:Nat}{a0:(List S125)}{Ap0:Option Addr}{np0 cp0:Nat}{r:(List S125)}{w:World}(h:impl_copyCerts.f k a0=some r)(gp0:k125.C w Ap0 np0 a0)(lp0:np0≤cp0):
    Calls Tryz.prog 93 #[.slice Ap0 np0 cp0] w (fun e w'=>∃v0_:Value,e=.returned (v0_)∧Hp noFP w w' [.own (Zd.slice 125 q125) r [v0_]]):=by
 obtain rfl:=C_len gp0
 have HS:=Hp.start w
 have H:=Aside0.mk h
 clear h
 unfold impl_copyCerts.f at H
 go_enter Tryz.func93,Tryz.ntmps93
 go_wp2
 replace HS:=HS.nil 125 q125
 go_loopg [3,8] k (fun kq v_3 v_8 w'=>∃(l16:List S125) (v17:Value) (x18:Int),v_3=v17∧v_8=.int .i64 x18∧Aside0 (impl_copyCerts.l0 kq l16 x18 a0=some r)∧Aside0 (kq≤k)∧Hp noFP w w' [.own (Zd.slice 125 q125) l16 [v17]])
 case atStart=>exact⟨_,_,_,rfl,rfl,H,⟨Nat.le_refl _⟩,HS⟩
 case round=>
  clear HS H;(try clear F)
  obtain⟨l16,v17,x18,rfl,rfl,H,HKk15,HS⟩:=hrel
  obtain⟨B17,d17,rfl,m17⟩:=HS.form 0 rfl
  cases gk with
  |zero=>exact absurd H.out (by simp [impl_copyCerts.l0])
  | succ k15=>
   simp only [impl_copyCerts.l0] at H
   replace H:=znif H;rcases H with⟨c20,H⟩|⟨c20,H⟩
   ·
    obtain rfl:=zsome H
    go_wp2
    exact r1 ⟨_,rfl,HS.pi [0]⟩
   replace H:=zgo H;obtain⟨c21,H⟩:=H
   replace H:=zgo H;obtain⟨c22,H⟩:=H
   obtain⟨ad23,B23_9,d23_9,B23_10,d23_10,B23_11,d23_11,rfl,e23_0,e23_1,e23_2,e23_3,e23_4,e23_5,e23_6,e23_7,e23_8,e23_9,e23_10,e23_11,e23_12,m23_9,y23_9,m23_10,y23_10,m23_11,y23_11⟩:=at_T125 gp0 x18 (of_eq_true c21) (of_eq_true c22)
   have e23_0_23:=HS.keepc e23_0
   have e23_1_23:=HS.keepc e23_1
   have e23_2_23:=HS.keepc e23_2
   have e23_3_23:=HS.keepc e23_3
   have e23_4_23:=HS.keepc e23_4
   have e23_5_23:=HS.keepc e23_5
   have e23_6_23:=HS.keepc e23_6
   have e23_7_23:=HS.keepc e23_7
   have e23_8_23:=HS.keepc e23_8
   have e23_9_23:=HS.keepc e23_9
   have e23_10_23:=HS.keepc e23_10
   have e23_11_23:=HS.keepc e23_11
   have e23_12_23:=HS.keepc e23_12
   replace H:=zbind H;obtain⟨t28,ht28,H⟩:=H
   replace H:=zgo H;obtain⟨c35,H⟩:=H
   replace H:=zlets H;obtain⟨y36,e_y36,H⟩:=H
   go_wp2_with (first|((with_reducible refine gd 5 rfl ?_);refine ev_bx HS ?_;clear HS;intro g5 w5 HS F)|((with_reducible refine gate_store (p:=5) rfl ?_);refine ev_st 1 0 HS (seg:=[.int .i64 ((rd_T125 a0 x18).f0),.string ((rd_T125 a0 x18).f1),.string ((rd_T125 a0 x18).f2),.int .i64 ((rd_T125 a0 x18).f3),.int .i64 ((rd_T125 a0 x18).f4),.string ((rd_T125 a0 x18).f5),.bool ((rd_T125 a0 x18).f6),.int .i64 ((rd_T125 a0 x18).f7),.int .i64 ((rd_T125 a0 x18).f8),.slice B23_9 (rd_T125 a0 x18).f9.length d23_9,.slice B23_10 (rd_T125 a0 x18).f10.length d23_10,.slice B23_11 (rd_T125 a0 x18).f11.length d23_11,.string ((rd_T125 a0 x18).f12)]) ?_;clear HS;intro w26 HS F)|((with_reducible refine gd 14 rfl ?_);refine ev_cl3 HS (impl_copyCert.calls ht28.out (HS.ro y23_9) m23_9 (HS.ro y23_10) m23_10 (HS.ro y23_11) m23_11) Tryz.func120 ?_;clear HS;intro v29 v30 v31 wt28 HS F;obtain⟨B29,d29,rfl,m29⟩:=HS.form 2 rfl;obtain⟨B30,d30,rfl,m30⟩:=HS.form 3 rfl;obtain⟨B31,d31,rfl,m31⟩:=HS.form 4 rfl)|((with_reducible refine gd 15 rfl ?_);refine ev_li q125 [2,3,4] ([t28]:List S125) ([.int .i64 t28.f0,.string t28.f1,.string t28.f2,.int .i64 t28.f3,.int .i64 t28.f4,.string t28.f5,.bool t28.f6,.int .i64 t28.f7,.int .i64 t28.f8,.slice B29 t28.f9.length d29,.slice B30 t28.f10.length d30,.slice B31 t28.f11.length d31,.string t28.f12]++ []) HS (MadeL.cons (js1:=[2,3,4]) (c:=[.int .i64 t28.f0,.string t28.f1,.string t28.f2,.int .i64 t28.f3,.int .i64 t28.f4,.string t28.f5,.bool t28.f6,.int .i64 t28.f7,.int .i64 t28.f8,.slice B29 t28.f9.length d29,.slice B30 t28.f10.length d30,.slice B31 t28.f11.length d31,.string t28.f12]) rfl (fun S hd hh=>q125_pack (x:=t28) hd (hh 2 (.own (Zd.slice 3 (Zd.int .i64)) t28.f9 [.slice B29 t28.f9.length d29]) rfl) (hh 3 (.own (Zd.slice 9 Zd.string) t28.f10 [.slice B30 t28.f10.length d30]) rfl) (hh 4 (.own (Zd.slice 9 Zd.string) t28.f11 [.slice B31 t28.f11.length d31]) rfl) (by decide)) MadeL.nil (by decide)) ?_;clear HS;intro v33 w33 HS F;obtain⟨B33,d33,rfl,m33⟩:=HS.formn 1 5 rfl rfl)|((with_reducible refine gd 16 rfl ?_);refine ev_ap q125 0 5 HS rfl rfl Tryz.underlying44 info125 (of_eq_true c35) ?_;clear HS;intro v36 w36 HS;rw [←e_y36.out] at HS;obtain⟨B36,d36,rfl,m36⟩:=HS.form 6 rfl;(try simp only [hpn,hpm] at HS);have F:=HS.bx))
   go_roundg k15
   case measure=>have:=HKk15.out;omega
   case rel=>exact⟨_,_,_,rfl,rfl,H,⟨by have:=HKk15.out;omega⟩,HS.pi [6]⟩
def impl_copyCrl.f (a0:S103):Option (S103):=(if 0+a0.f5.length≤8796093022208 then(lets (([]:List S133)++a0.f5) fun y6=>(some (⟨a0.f0,a0.f1,a0.f2,a0.f3,a0.f4,y6,a0.f6⟩:S103)))else none)
theorem impl_copyCrl.calls {a0:S103}{Ap0:Option Addr}{np0 cp0:Nat}{r:S103}{w:World}(h:impl_copyCrl.f a0=some r)(gp0:k133.C w Ap0 np0 a0.f5)(lp0:np0≤cp0):
    Calls Tryz.prog 121 #[.agg #[.string a0.f0,.int .i64 a0.f1,.int .i64 a0.f2,.int .i64 a0.f3,.int .i64 a0.f4,.slice Ap0 np0 cp0,.string a0.f6]] w (fun e w'=>∃v0_:Value,e=.returned (.agg #[.string r.f0,.int .i64 r.f1,.int .i64 r.f2,.int .i64 r.f3,.int .i64 r.f4,v0_,.string r.f6])∧Hp noFP w w' [.own (Zd.slice 133 q133) r.f5 [v0_]]):=by
 obtain rfl:=C_len gp0
 have HS:=Hp.start w
 have H:=Aside0.mk h
 clear h
 unfold impl_copyCrl.f at H
 go_enter Tryz.func121,Tryz.ntmps121
 replace H:=zgo H;obtain⟨c5,H⟩:=H
 replace H:=zlets H;obtain⟨y6,e_y6,H⟩:=H
 obtain rfl:=zsome H
 go_wp2_with (first|((with_reducible refine gd 1 rfl ?_);refine ev_bx HS ?_;clear HS;intro g1 w1 HS F)|((with_reducible refine gd 2 rfl ?_);refine ev_bx HS ?_;clear HS;intro g2 w2 HS F)|((with_reducible refine gd 5 rfl ?_);replace HS:=HS.nil 133 q133;refine ev_apr fl133 2 HS rfl (HS.ro gp0) Tryz.underlying101 info133 (of_eq_true c5) ?_;clear HS;intro v6 w6 HS;rw [←e_y6.out] at HS;obtain⟨B6,d6,rfl,m6⟩:=HS.form 3 rfl;(try simp only [hpn,hpm] at HS);have F:=HS.bx)|((with_reducible refine gate_store (p:=6) rfl ?_);refine ev_st 0 5 HS (seg:=[.slice B6 y6.length d6]) ?_;clear HS;intro w8 HS F)|((with_reducible refine gate_store (p:=2) rfl ?_);refine ev_st 1 0 HS (seg:=[.string a0.f0,.int .i64 a0.f1,.int .i64 a0.f2,.int .i64 a0.f3,.int .i64 a0.f4,.slice B6 y6.length d6,.string a0.f6]) ?_;clear HS;intro w10 HS F))
 exact rc 1 HS Tryz.underlying103 ⟨_,rfl,HS.pi [3]⟩
def impl_copyCrls.l0:Nat→(List S103)→Int→(List S103)→Option ((List S103))
  |0,_,_,_=>none
  |k+1,l16,x18,a0=>(if x18<(a0.length:Int)then(if 0≤x18 then(if x18<(a0.length:Int)then((impl_copyCrl.f (rd_T103 a0 x18)).bind fun t28=>(if l16.length+1≤1599289640401 then(lets (l16++([t28]:List S103)) fun y34=>(impl_copyCrls.l0 k y34 (wrap64 (x18+1)) a0))else none))else none)else none)else(some l16))
def impl_copyCrls.f (k:Nat)(a0:(List S103)):Option ((List S103)):=(impl_copyCrls.l0 k [] 0 a0)
theorem impl_copyCrls.calls {k:Nat}{a0:(List S103)}{Ap0:Option Addr}{np0 cp0:Nat}{r:(List S103)}{w:World}(h:impl_copyCrls.f k a0=some r)(gp0:k103.C w Ap0 np0 a0)(lp0:np0≤cp0):
    Calls Tryz.prog 94 #[.slice Ap0 np0 cp0] w (fun e w'=>∃v0_:Value,e=.returned (v0_)∧Hp noFP w w' [.own (Zd.slice 103 q103) r [v0_]]):=by
 obtain rfl:=C_len gp0
 have HS:=Hp.start w
 have H:=Aside0.mk h
 clear h
 unfold impl_copyCrls.f at H
 go_enter Tryz.func94,Tryz.ntmps94
 go_wp2
 replace HS:=HS.nil 103 q103
 go_loopg [3,8] k (fun kq v_3 v_8 w'=>∃(l16:List S103) (v17:Value) (x18:Int),v_3=v17∧v_8=.int .i64 x18∧Aside0 (impl_copyCrls.l0 kq l16 x18 a0=some r)∧Aside0 (kq≤k)∧Hp noFP w w' [.own (Zd.slice 103 q103) l16 [v17]])
 case atStart=>exact⟨_,_,_,rfl,rfl,H,⟨Nat.le_refl _⟩,HS⟩
 case round=>
  clear HS H;(try clear F)
  obtain⟨l16,v17,x18,rfl,rfl,H,HKk15,HS⟩:=hrel
  obtain⟨B17,d17,rfl,m17⟩:=HS.form 0 rfl
  cases gk with
  |zero=>exact absurd H.out (by simp [impl_copyCrls.l0])
  | succ k15=>
   simp only [impl_copyCrls.l0] at H
   replace H:=znif H;rcases H with⟨c20,H⟩|⟨c20,H⟩
   ·
    obtain rfl:=zsome H
    go_wp2
    exact r1 ⟨_,rfl,HS.pi [0]⟩
   replace H:=zgo H;obtain⟨c21,H⟩:=H
   replace H:=zgo H;obtain⟨c22,H⟩:=H
   obtain⟨ad23,B23_5,d23_5,rfl,e23_0,e23_1,e23_2,e23_3,e23_4,e23_5,e23_6,m23_5,y23_5⟩:=at_T103 gp0 x18 (of_eq_true c21) (of_eq_true c22)
   have e23_0_23:=HS.keepc e23_0
   have e23_1_23:=HS.keepc e23_1
   have e23_2_23:=HS.keepc e23_2
   have e23_3_23:=HS.keepc e23_3
   have e23_4_23:=HS.keepc e23_4
   have e23_5_23:=HS.keepc e23_5
   have e23_6_23:=HS.keepc e23_6
   replace H:=zbind H;obtain⟨t28,ht28,H⟩:=H
   replace H:=zgo H;obtain⟨c33,H⟩:=H
   replace H:=zlets H;obtain⟨y34,e_y34,H⟩:=H
   go_wp2_with (first|((with_reducible refine gd 5 rfl ?_);refine ev_bx HS ?_;clear HS;intro g5 w5 HS F)|((with_reducible refine gate_store (p:=5) rfl ?_);refine ev_st 1 0 HS (seg:=[.string ((rd_T103 a0 x18).f0),.int .i64 ((rd_T103 a0 x18).f1),.int .i64 ((rd_T103 a0 x18).f2),.int .i64 ((rd_T103 a0 x18).f3),.int .i64 ((rd_T103 a0 x18).f4),.slice B23_5 (rd_T103 a0 x18).f5.length d23_5,.string ((rd_T103 a0 x18).f6)]) ?_;clear HS;intro w26 HS F)|((with_reducible refine gd 14 rfl ?_);refine ev_cl1 HS (impl_copyCrl.calls ht28.out (HS.ro y23_5) m23_5) Tryz.func121 ?_;clear HS;intro v29 wt28 HS F;obtain⟨B29,d29,rfl,m29⟩:=HS.form 2 rfl)|((with_reducible refine gd 15 rfl ?_);refine ev_li q103 [2] ([t28]:List S103) ([.string t28.f0,.int .i64 t28.f1,.int .i64 t28.f2,.int .i64 t28.f3,.int .i64 t28.f4,.slice B29 t28.f5.length d29,.string t28.f6]++ []) HS (MadeL.cons (js1:=[2]) (c:=[.string t28.f0,.int .i64 t28.f1,.int .i64 t28.f2,.int .i64 t28.f3,.int .i64 t28.f4,.slice B29 t28.f5.length d29,.string t28.f6]) rfl (fun S hd hh=>q103_pack (x:=t28) hd (hh 2 (.own (Zd.slice 133 q133) t28.f5 [.slice B29 t28.f5.length d29]) rfl) (by decide)) MadeL.nil (by decide)) ?_;clear HS;intro v31 w31 HS F;obtain⟨B31,d31,rfl,m31⟩:=HS.formn 1 3 rfl rfl)|((with_reducible refine gd 16 rfl ?_);refine ev_ap q103 0 3 HS rfl rfl Tryz.underlying45 info103 (of_eq_true c33) ?_;clear HS;intro v34 w34 HS;rw [←e_y34.out] at HS;obtain⟨B34,d34,rfl,m34⟩:=HS.form 4 rfl;(try simp only [hpn,hpm] at HS);have F:=HS.bx))
   go_roundg k15
   case measure=>have:=HKk15.out;omega
   case rel=>exact⟨_,_,_,rfl,rfl,H,⟨by have:=HKk15.out;omega⟩,HS.pi [4]⟩
def impl_copyStore.f (k:Nat)(a0:S48):Option (S48):=((impl_copyCerts.f k a0.f0).bind fun t3=>((impl_copyCrls.f k a0.f1).bind fun t5=>(if 0+a0.f2.length≤4398046511104 then(lets (([]:List S105)++a0.f2) fun y9=>(some (⟨t3,t5,y9⟩:S48)))else none)))
def impl_copyStore.T1:TT:=(true,[([],[]),([0],[0]),([1],[1]),([],[]),([3],[3]),([4,2],[4]),([],[]),([6],[6]),([7,5],[7]),([2,5,8],[2,5,8]),([9,8,0,1,2,3,4,5,6,7,8,9],[9])])
theorem impl_copyStore.tT1:rtab .any (opsOf Tryz.f65 1)=impl_copyStore.T1:=by kernel_rfl
theorem impl_copyStore.calls {k:Nat}{a0:S48}{Ap0 Ap1 Ap2:Option Addr}{np0 cp0 np1 cp1 np2 cp2:Nat}{r:S48}{w:World}(h:impl_copyStore.f k a0=some r)(gp0:k125.C w Ap0 np0 a0.f0)(lp0:np0≤cp0)(gp1:k103.C w Ap1 np1 a0.f1)(lp1:np1≤cp1)(gp2:k105.C w Ap2 np2 a0.f2)(lp2:np2≤cp2):
    Calls Tryz.prog 65 #[.agg #[.slice Ap0 np0 cp0,.slice Ap1 np1 cp1,.slice Ap2 np2 cp2]] w (fun e w'=>∃v0_ v1_ v2_:Value,e=.returned (.agg #[v0_,v1_,v2_])∧Hp noFP w w' [.own (Zd.slice 125 q125) r.f0 [v0_],.own (Zd.slice 103 q103) r.f1 [v1_],.own (Zd.slice 105 q105) r.f2 [v2_]]):=by
 obtain rfl:=C_len gp0
 obtain rfl:=C_len gp1
 obtain rfl:=C_len gp2
 have HS:=Hp.start w
 have H:=Aside0.mk h
 clear h
 unfold impl_copyStore.f at H
 go_enter Tryz.func65,Tryz.ntmps65
 go_wp2_with (first|((with_reducible refine gd 1 rfl ?_);refine ev_bx HS ?_;clear HS;intro g1 w1 HS F)|((with_reducible refine gd 2 rfl ?_);refine ev_bx HS ?_;clear HS;intro g2 w2 HS F))
 replace H:=zbind H;obtain⟨t3,ht3,H⟩:=H
 replace H:=zbind H;obtain⟨t5,ht5,H⟩:=H
 replace H:=zgo H;obtain⟨c8,H⟩:=H
 replace H:=zlets H;obtain⟨y9,e_y9,H⟩:=H
 refine dr_start [10] HS #[false,false,false,false,false,false,false,false,false,false,false] (by kernel_rfl) rfl rfl impl_copyStore.tT1 (fun w6 HT HS HH=>?_)
 (try clear F)
 refine dqt [0,1,3,4,6,7] HT HH ?_
 refine dr1 2 HT fun K hK=>?_
 refine go_cl1 HS (impl_copyCerts.calls ht3.out (HS.ro gp0) lp0) Tryz.func93 ?_;clear HS;intro v4 wt3 HS F;obtain⟨B4,d4,rfl,m4⟩:=HS.form 2 rfl
 refine nrm 5 hK ⟨_,HS⟩ fun HH=>?_;clear hK K
 refine dr1 5 HT fun K hK=>?_
 refine go_cl1 HS (impl_copyCrls.calls ht5.out (HS.ro gp1) lp1) Tryz.func94 ?_;clear HS;intro v7 wt5 HS F;obtain⟨B7,d7,rfl,m7⟩:=HS.form 3 rfl
 refine nrm 8 hK ⟨_,HS⟩ fun HH=>?_;clear hK K
 refine dr1 8 HT fun K hK=>?_
 refine if_wp (by rfl) ?_;replace HS:=HS.nil 105 q105;refine wp_appendr q105 fl105 4 HS rfl (HS.ro gp2) rfl rfl rfl Tryz.underlying46 info105 rfl (by decide) (by decide) (by have:=of_eq_true c8;first|omega|(simp only [List.length_cons,List.length_nil,List.length_append,Nat.zero_add] at this⊢;omega)) ?_;clear HS;intro v9 w9 HS;rw [←e_y9.out] at HS;obtain⟨B9,d9,rfl,m9⟩:=HS.form 5 rfl
 (try simp only [hpn,hpm] at HS)
 have F:=HS.bx
 refine nrm 11 hK ⟨_,HS⟩ fun HH=>?_;clear hK K
 refine dq [9] HT ?_
 refine dl 10 HT fun K hK=>?_
 refine if_st 1 0 HS (seg:=[.slice B4 t3.length d4,.slice B7 t5.length d7,.slice B9 y9.length d9]) ?_;clear HS;intro w10 HS F
 refine hK.out _ _ ?_
 clear hK K
 refine dn HT ?_
 (try clear F)
 have F:=HS.bx
 obtain rfl:=zsome H
 go_wp2
 exact rc 1 HS Tryz.underlying48 ⟨_,_,_,rfl,HS.pi [2,3,5]⟩
def impl_Trusting.l0:Nat→(List S105)→Int→S48→S39→S48→Option (S48)
  |0,_,_,_,_,_=>none
  |k+1,l36,x38,a0,a1,t7=>(if x38<(a1.f1.length:Int)then(if 0≤x38 then(if x38<(a1.f1.length:Int)then((impl_within.f (rd a1.f1 x38) 0 (wrap64 ((a0.f2.length:Int) - 1))).bind fun t44=>(if t44=true then(if 0≤(rd a1.f1 x38)then(if(rd a1.f1 x38)<(a0.f2.length:Int)then(if l36.length+1≤4398046511104 then(lets (l36++([(rd_T105 a0.f2 (rd a1.f1 x38))]:List S105)) fun y17=>(impl_Trusting.l0 k y17 (wrap64 (x38+1)) a0 a1 t7))else none)else none)else none)else(impl_Trusting.l0 k l36 (wrap64 (x38+1)) a0 a1 t7)))else none)else none)else(some (⟨t7.f0,t7.f1,l36⟩:S48)))
def impl_Trusting.f (k:Nat)(a0:S48)(a1:S39):Option (S48):=((impl_copyStore.f k a0).bind fun t7=>(impl_Trusting.l0 k [] 0 a0 a1 t7))
def impl_Trusting.T7:TT:=(true,[([],[]),([0],[0]),([],[]),([2],[2]),([],[]),([3,4],[3,4]),([5],[5]),([6],[6]),([1,7],[1,7]),([0,1,2,3,4,5,6,7,8],[]),([9,8,8,0,1,2,3,4,5,6,7,8],[8,9])])
theorem impl_Trusting.tT7:rtab .any (opsOf Tryz.f26 7)=impl_Trusting.T7:=by kernel_rfl
theorem impl_Trusting.calls {k:Nat}{a0:S48}{a1:S39}{Ap0 Ap1 Ap2 Ap3 Ap4:Option Addr}{np0 cp0 np1 cp1 np2 cp2 np3 cp3 np4 cp4:Nat}{r:S48}{w:World}(h:impl_Trusting.f k a0 a1=some r)(gp0:k125.C w Ap0 np0 a0.f0)(lp0:np0≤cp0)(gp1:k103.C w Ap1 np1 a0.f1)(lp1:np1≤cp1)(gp2:k105.C w Ap2 np2 a0.f2)(lp2:np2≤cp2)(gp3:(Kd.int .i64).C w Ap3 np3 a1.f1)(lp3:np3≤cp3)(gp4:(Kd.int .i64).C w Ap4 np4 a1.f2.f1)(lp4:np4≤cp4):
    Calls Tryz.prog 26 #[.agg #[.slice Ap0 np0 cp0,.slice Ap1 np1 cp1,.slice Ap2 np2 cp2],.agg #[.int .i64 a1.f0,.slice Ap3 np3 cp3,.int .i64 a1.f2.f0,.slice Ap4 np4 cp4,.bool a1.f2.f2,.bool a1.f2.f3,.int .i64 a1.f2.f4]] w (fun e w'=>∃v0_ v1_ v2_:Value,e=.returned (.agg #[v0_,v1_,v2_])∧Hp noFP w w' [.own (Zd.slice 125 q125) r.f0 [v0_],.own (Zd.slice 103 q103) r.f1 [v1_],.own (Zd.slice 105 q105) r.f2 [v2_]]):=by
 obtain rfl:=C_len gp0
 obtain rfl:=C_len gp1
 obtain rfl:=C_len gp2
 obtain rfl:=C_len gp3
 obtain rfl:=C_len gp4
 have HS:=Hp.start w
 have H:=Aside0.mk h
 clear h
 unfold impl_Trusting.f at H
 go_enter Tryz.func26,Tryz.ntmps26
 replace H:=zbind H;obtain⟨t7,ht7,H⟩:=H
 go_wp2_with (first|((with_reducible refine gd 2 rfl ?_);refine ev_bx HS ?_;clear HS;intro g2 w2 HS F)|((with_reducible refine gd 3 rfl ?_);refine ev_bx HS ?_;clear HS;intro g3 w3 HS F)|((with_reducible refine gd 4 rfl ?_);refine ev_bx HS ?_;clear HS;intro g4 w4 HS F)|((with_reducible refine gd 9 rfl ?_);refine ev_cl3 HS (impl_copyStore.calls ht7.out (HS.ro gp0) lp0 (HS.ro gp1) lp1 (HS.ro gp2) lp2) Tryz.func65 ?_;clear HS;intro v8 v9 v10 wt7 HS F;obtain⟨B8,d8,rfl,m8⟩:=HS.form 3 rfl;obtain⟨B9,d9,rfl,m9⟩:=HS.form 4 rfl;obtain⟨B10,d10,rfl,m10⟩:=HS.form 5 rfl)|((with_reducible refine gd 5 rfl ?_);refine ev_bx HS ?_;clear HS;intro g5 w5 HS F)|((with_reducible refine gate_store (p:=5) rfl ?_);refine ev_st 6 0 HS (seg:=[.slice B8 t7.f0.length d8,.slice B9 t7.f1.length d9,.slice B10 t7.f2.length d10]) ?_;clear HS;intro w14 HS F)|((with_reducible refine gate_store (p:=10) rfl ?_);refine ev_st 6 2 HS (seg:=[.slice none 0 0]) ?_;clear HS;intro w16 HS F))
 replace HS:=HS.nil 105 q105
 go_loopg [14] k (fun kq v_14 w'=>∃(l36:List S105) (v37:Value) (x38:Int),v_14=.int .i64 x38∧Aside0 (impl_Trusting.l0 kq l36 x38 a0 a1 t7=some r)∧Aside0 (kq≤k)∧Hp noFP w w' [.box g2 [.slice Ap0 a0.f0.length cp0,.slice Ap1 a0.f1.length cp1,.slice Ap2 a0.f2.length cp2] 48,.box g3 [.int .i64 a1.f0,.slice Ap3 a1.f1.length cp3,.int .i64 a1.f2.f0,.slice Ap4 a1.f2.f1.length cp4,.bool a1.f2.f2,.bool a1.f2.f3,.int .i64 a1.f2.f4] 39,.box g4 [.slice none 0 0,.slice none 0 0,.slice none 0 0] 48,.own (Zd.slice 125 q125) t7.f0 [.slice B8 t7.f0.length d8],.own (Zd.slice 103 q103) t7.f1 [.slice B9 t7.f1.length d9],.own (Zd.slice 105 q105) t7.f2 [.slice B10 t7.f2.length d10],.box g5 [.slice B8 t7.f0.length d8,.slice B9 t7.f1.length d9,v37] 48,.own (Zd.slice 105 q105) l36 [v37]])
 case atStart=>exact⟨_,_,_,rfl,H,⟨Nat.le_refl _⟩,HS⟩
 case round=>
  clear HS H;(try clear F)
  obtain⟨l36,v37,x38,rfl,H,HKk35,HS⟩:=hrel
  obtain⟨B37,d37,rfl,m37⟩:=HS.form 7 rfl
  have F:=HS.bx
  cases gk with
  |zero=>exact absurd H.out (by simp [impl_Trusting.l0])
  | succ k35=>
   simp only [impl_Trusting.l0] at H
   replace H:=znif H;rcases H with⟨c40,H⟩|⟨c40,H⟩
   ·
    obtain rfl:=zsome H
    go_wp2_with ((with_reducible refine gate_store (p:=4) rfl ?_);refine ev_st 2 0 HS (seg:=[.slice B8 t7.f0.length d8,.slice B9 t7.f1.length d9,.slice B37 l36.length d37]) ?_;clear HS;intro w50 HS F)
    exact rc 2 HS Tryz.underlying48 ⟨_,_,_,rfl,HS.pi [3,4,7]⟩
   replace H:=zgo H;obtain⟨c41,H⟩:=H
   replace H:=zgo H;obtain⟨c42,H⟩:=H
   obtain⟨ad43,rfl,e43_0⟩:=Kd.at_int gp3 x38 (of_eq_true c41) (of_eq_true c42)
   have e43_0_43:=HS.keepc e43_0
   replace H:=zbind H;obtain⟨t44,ht44,H⟩:=H
   go_upto_if 23 with((with_reducible refine gd 23 rfl ?_);refine ev_cl HS (impl_within.calls ht44.out) Tryz.func52 ?_;clear HS;intro wt44 HS F)
   replace H:=znifb H;rcases H with⟨c46,H⟩|⟨c46,H⟩
   ·
    subst c46
    (try simp only [dcn,dcu,dcf])
    go_wp2
    go_roundg k35
    case measure=>have:=HKk35.out;omega
    case rel=>exact⟨_,_,_,rfl,H,⟨by have:=HKk35.out;omega⟩,HS.pi [0,1,2,3,4,5,6,7]⟩
   subst c46
   (try simp only [dcn,dcu,dcf])
   (try go_wp2)
   replace H:=zgo H;obtain⟨c6,H⟩:=H
   replace H:=zgo H;obtain⟨c11,H⟩:=H
   obtain⟨ad12,rfl,e12_0,e12_1⟩:=at_T105 gp2 (rd a1.f1 x38) (of_eq_true c6) (of_eq_true c11)
   replace H:=zgo H;obtain⟨c15,H⟩:=H
   replace H:=zlets H;obtain⟨y17,e_y17,H⟩:=H
   refine dr_start2 [.box g2 [.slice Ap0 a0.f0.length cp0,.slice Ap1 a0.f1.length cp1,.slice (some ad12) a0.f2.length cp2] 48,.box g3 [.int .i64 a1.f0,.slice (some ad43) a1.f1.length cp3,.int .i64 a1.f2.f0,.slice Ap4 a1.f2.f1.length cp4,.bool a1.f2.f2,.bool a1.f2.f3,.int .i64 a1.f2.f4] 39,.box g4 [.slice none 0 0,.slice none 0 0,.slice none 0 0] 48,.own (Zd.slice 125 q125) t7.f0 [.slice B8 t7.f0.length d8],.own (Zd.slice 103 q103) t7.f1 [.slice B9 t7.f1.length d9],.own (Zd.slice 105 q105) t7.f2 [.slice B10 t7.f2.length d10],.box g5 [.slice B8 t7.f0.length d8,.slice B9 t7.f1.length d9,.slice B37 l36.length d37] 48,.emp] [10] HS (HS.ar [some 0,some 1,some 2,some 3,some 4,some 5,some 6,none]) #[false,false,false,false,false,false,false,false,false,false,false] (by kernel_rfl) rfl rfl impl_Trusting.tT7 (fun w48 HT HS HH=>?_)
   (try clear F)
   refine dqt [0,1,2,3,4,5] HT HH ?_
   refine dtk 6 30 HT HH rfl (by rintro w' ⟨rs',HS'⟩;have e12_0:=HS'.keepc e12_0;have e12_1:=HS'.keepc e12_1;go_simp;with_reducible rfl) ?_
   refine dr1 7 HT fun K hK=>?_
   refine if_li q105 [] ([(rd_T105 a0.f2 (rd a1.f1 x38))]:List S105) ([.string ((rd_T105 a0.f2 (rd a1.f1 x38)).f0),.string ((rd_T105 a0.f2 (rd a1.f1 x38)).f1)]++ []) HS (MadeL.cons (js1:=[]) (c:=[.string ((rd_T105 a0.f2 (rd a1.f1 x38)).f0),.string ((rd_T105 a0.f2 (rd a1.f1 x38)).f1)]) rfl (made_flat (fun _=>q105_flat _ _ _)) MadeL.nil (by decide)) ?_;clear HS;intro v13 w13 HS F;obtain⟨B13,d13,rfl,m13⟩:=HS.formn 1 8 rfl rfl
   refine nra 31 hK (HS.ar [some 0,some 1,some 2,some 3,some 4,some 5,some 6,none]) fun HH=>?_;clear hK K
   refine dr1 8 HT fun K hK=>?_
   refine wp_ap q105 7 8 HS rfl rfl Tryz.underlying46 info105 (of_eq_true c15) ?_;clear HS;intro v17 w17 HS;rw [←e_y17.out] at HS;obtain⟨B17,d17,rfl,m17⟩:=HS.form 9 rfl
   (try simp only [hpn,hpm] at HS)
   have F:=HS.bx
   refine nra 32 hK (HS.ar [some 0,some 1,some 2,some 3,some 4,some 5,some 6,none]) fun HH=>?_;clear hK K
   refine dq [9] HT ?_
   refine dl 10 HT fun K hK=>?_
   refine if_st 6 2 HS (seg:=[.slice B17 y17.length d17]) ?_;clear HS;intro w18 HS F
   refine hK.out _ _ ?_
   clear hK K
   refine dn HT ?_
   (try clear F)
   have F:=HS.bx
   go_wp2
   go_roundg k35
   case measure=>have:=HKk35.out;omega
   case rel=>exact⟨_,_,_,rfl,H,⟨by have:=HKk35.out;omega⟩,HS.pi [0,1,2,3,4,5,6,9]⟩
def spec_Trusting.l0:Nat→(List S105)→Int→S48→S39→S48→Option (S48)
  |0,_,_,_,_,_=>none
  |k+1,l36,x38,a0,a1,t7=>(if x38<(a1.f1.length:Int)then(if 0≤x38 then(if x38<(a1.f1.length:Int)then((spec_l01In.f (rd a1.f1 x38) 0 (wrap64 ((a0.f2.length:Int) - 1))).bind fun t15=>(if t15=true then(if 0≤(rd a1.f1 x38)then(if(rd a1.f1 x38)<(a0.f2.length:Int)then(if l36.length+1≤4398046511104 then(lets (l36++([(rd_T105 a0.f2 (rd a1.f1 x38))]:List S105)) fun y23=>(spec_Trusting.l0 k y23 (wrap64 (x38+1)) a0 a1 t7))else none)else none)else none)else(spec_Trusting.l0 k l36 (wrap64 (x38+1)) a0 a1 t7)))else none)else none)else(some (⟨t7.f0,t7.f1,l36⟩:S48)))
def spec_Trusting.f (k:Nat)(a0:S48)(a1:S39):Option (S48):=((spec_l13Copy.f k a0).bind fun t7=>(spec_Trusting.l0 k ([]:List S105) 0 a0 a1 t7))
def spec_Trusting.T6:TT:=(true,[([],[]),([0],[0]),([],[]),([1,2],[1,2]),([3],[3]),([],[]),([5],[5]),([6],[6]),([7],[7]),([4,8],[4,8])])
theorem spec_Trusting.tT6:rtab .any (opsOf Tryz.f27 6)=spec_Trusting.T6:=by kernel_rfl
def spec_Trusting.T7:TT:=(true,[([],[]),([0],[0]),([],[]),([2],[2]),([],[]),([4],[4]),([],[]),([5,6],[5,6]),([7],[7]),([3,8],[3,8]),([9],[9]),([10],[10]),([1,11],[1,11]),([0,1,2,3,4,5,6,7,8,9,10,11,12],[]),([13,12,12,0,1,2,3,4,5,6,7,8,9,10,11,12],[12,13])])
theorem spec_Trusting.tT7:rtab .any (opsOf Tryz.f27 7)=spec_Trusting.T7:=by kernel_rfl
theorem spec_Trusting.calls {k:Nat}{a0:S48}{a1:S39}{Ap0 Ap1 Ap2 Ap3 Ap4:Option Addr}{np0 cp0 np1 cp1 np2 cp2 np3 cp3 np4 cp4:Nat}{r:S48}{w:World}(h:spec_Trusting.f k a0 a1=some r)(gp0:k125.C w Ap0 np0 a0.f0)(lp0:np0≤cp0)(gp1:k103.C w Ap1 np1 a0.f1)(lp1:np1≤cp1)(gp2:k105.C w Ap2 np2 a0.f2)(lp2:np2≤cp2)(gp3:(Kd.int .i64).C w Ap3 np3 a1.f1)(lp3:np3≤cp3)(gp4:(Kd.int .i64).C w Ap4 np4 a1.f2.f1)(lp4:np4≤cp4):
    Calls Tryz.prog 27 #[.agg #[.slice Ap0 np0 cp0,.slice Ap1 np1 cp1,.slice Ap2 np2 cp2],.agg #[.int .i64 a1.f0,.slice Ap3 np3 cp3,.int .i64 a1.f2.f0,.slice Ap4 np4 cp4,.bool a1.f2.f2,.bool a1.f2.f3,.int .i64 a1.f2.f4]] w (fun e w'=>∃v0_ v1_ v2_:Value,e=.returned (.agg #[v0_,v1_,v2_])∧Hp noFP w w' [.own (Zd.slice 125 q125) r.f0 [v0_],.own (Zd.slice 103 q103) r.f1 [v1_],.own (Zd.slice 105 q105) r.f2 [v2_]]):=by
 obtain rfl:=C_len gp0
 obtain rfl:=C_len gp1
 obtain rfl:=C_len gp2
 obtain rfl:=C_len gp3
 obtain rfl:=C_len gp4
 have HS:=Hp.start w
 have H:=Aside0.mk h
 clear h
 unfold spec_Trusting.f at H
 go_enter Tryz.func27,Tryz.ntmps27
 replace H:=zbind H;obtain⟨t7,ht7,H⟩:=H
 go_wp2_with (first|((with_reducible refine gd 2 rfl ?_);refine ev_bx HS ?_;clear HS;intro g2 w2 HS F)|((with_reducible refine gd 3 rfl ?_);refine ev_bx HS ?_;clear HS;intro g3 w3 HS F)|((with_reducible refine gd 4 rfl ?_);refine ev_bx HS ?_;clear HS;intro g4 w4 HS F)|((with_reducible refine gd 8 rfl ?_);refine ev_cl3 HS (spec_l13Copy.calls ht7.out (HS.ro gp0) lp0 (HS.ro gp1) lp1 (HS.ro gp2) lp2) Tryz.func66 ?_;clear HS;intro v8 v9 v10 wt7 HS F;obtain⟨B8,d8,rfl,m8⟩:=HS.form 3 rfl;obtain⟨B9,d9,rfl,m9⟩:=HS.form 4 rfl;obtain⟨B10,d10,rfl,m10⟩:=HS.form 5 rfl)|((with_reducible refine gd 5 rfl ?_);refine ev_bx HS ?_;clear HS;intro g5 w5 HS F)|((with_reducible refine gate_store (p:=5) rfl ?_);refine ev_st 6 0 HS (seg:=[.slice B8 t7.f0.length d8,.slice B9 t7.f1.length d9,.slice B10 t7.f2.length d10]) ?_;clear HS;intro w14 HS F)|((with_reducible refine gd 9 rfl ?_);refine ev_li q105 [] ([]:List S105) [] HS MadeL.nil ?_;clear HS;intro v16 w16 HS F;obtain⟨B16,d16,rfl,m16⟩:=HS.formn 0 7 rfl rfl)|((with_reducible refine gate_store (p:=10) rfl ?_);refine ev_st 6 2 HS (seg:=[.slice B16 0 d16]) ?_;clear HS;intro w18 HS F))
 go_loopg [6] k (fun kq v_6 w'=>∃(l36:List S105) (v37:Value) (x38:Int),v_6=.int .i64 x38∧Aside0 (spec_Trusting.l0 kq l36 x38 a0 a1 t7=some r)∧Aside0 (kq≤k)∧Hp noFP w w' [.box g2 [.slice Ap0 a0.f0.length cp0,.slice Ap1 a0.f1.length cp1,.slice Ap2 a0.f2.length cp2] 48,.box g3 [.int .i64 a1.f0,.slice Ap3 a1.f1.length cp3,.int .i64 a1.f2.f0,.slice Ap4 a1.f2.f1.length cp4,.bool a1.f2.f2,.bool a1.f2.f3,.int .i64 a1.f2.f4] 39,.box g4 [.slice none 0 0,.slice none 0 0,.slice none 0 0] 48,.own (Zd.slice 125 q125) t7.f0 [.slice B8 t7.f0.length d8],.own (Zd.slice 103 q103) t7.f1 [.slice B9 t7.f1.length d9],.own (Zd.slice 105 q105) t7.f2 [.slice B10 t7.f2.length d10],.box g5 [.slice B8 t7.f0.length d8,.slice B9 t7.f1.length d9,v37] 48,.own (Zd.slice 105 q105) l36 [v37]])
 case atStart=>exact⟨_,_,_,rfl,H,⟨Nat.le_refl _⟩,HS⟩
 case round=>
  clear HS H;(try clear F)
  obtain⟨l36,v37,x38,rfl,H,HKk35,HS⟩:=hrel
  obtain⟨B37,d37,rfl,m37⟩:=HS.form 7 rfl
  have F:=HS.bx
  cases gk with
  |zero=>exact absurd H.out (by simp [spec_Trusting.l0])
  | succ k35=>
   simp only [spec_Trusting.l0] at H
   replace H:=znif H;rcases H with⟨c40,H⟩|⟨c40,H⟩
   ·
    obtain rfl:=zsome H
    go_wp2_with ((with_reducible refine gate_store (p:=4) rfl ?_);refine ev_st 2 0 HS (seg:=[.slice B8 t7.f0.length d8,.slice B9 t7.f1.length d9,.slice B37 l36.length d37]) ?_;clear HS;intro w48 HS F)
    exact rc 2 HS Tryz.underlying48 ⟨_,_,_,rfl,HS.pi [3,4,7]⟩
   (try go_wp2)
   replace H:=zgo H;obtain⟨c11,H⟩:=H
   replace H:=zgo H;obtain⟨c12,H⟩:=H
   obtain⟨ad13,rfl,e13_0⟩:=Kd.at_int gp3 x38 (of_eq_true c11) (of_eq_true c12)
   replace H:=zbind H;obtain⟨t15,ht15,H⟩:=H
   refine dr_start [] HS #[false,false,false,false,false,false,false,false,false,false] (by kernel_rfl) rfl rfl spec_Trusting.tT6 (fun w42 HT HS HH=>?_)
   (try clear F)
   refine dqt [0,1,2,3] HT HH ?_
   refine dtk 4 22 HT HH rfl (by rintro w' ⟨rs',HS'⟩;have e13_0:=HS'.keepc e13_0;go_simp;with_reducible rfl) ?_
   refine dqt [5,6,7,8] HT HH ?_
   refine dr1 9 HT fun K hK=>?_
   refine go_cl HS (spec_l01In.calls ht15.out) Tryz.func54 ?_;clear HS;intro wt15 HS F
   refine nrm 27 hK ⟨_,HS⟩ fun HH=>?_;clear hK K
   refine dn HT ?_
   (try clear F)
   have F:=HS.bx
   replace H:=znifb H;rcases H with⟨c44,H⟩|⟨c44,H⟩
   ·
    subst c44
    (try simp only [dcn,dcu,dcf])
    go_wp2
    go_roundg k35
    case measure=>have:=HKk35.out;omega
    case rel=>exact⟨_,_,_,rfl,H,⟨by have:=HKk35.out;omega⟩,HS.pi [0,1,2,3,4,5,6,7]⟩
   subst c44
   (try simp only [dcn,dcu,dcf])
   (try go_wp2)
   replace H:=zgo H;obtain⟨c17,H⟩:=H
   replace H:=zgo H;obtain⟨c19,H⟩:=H
   obtain⟨ad20,rfl,e20_0,e20_1⟩:=at_T105 gp2 (rd a1.f1 x38) (of_eq_true c17) (of_eq_true c19)
   replace H:=zgo H;obtain⟨c22,H⟩:=H
   replace H:=zlets H;obtain⟨y23,e_y23,H⟩:=H
   refine dr_start2 [.box g2 [.slice Ap0 a0.f0.length cp0,.slice Ap1 a0.f1.length cp1,.slice (some ad20) a0.f2.length cp2] 48,.box g3 [.int .i64 a1.f0,.slice (some ad13) a1.f1.length cp3,.int .i64 a1.f2.f0,.slice Ap4 a1.f2.f1.length cp4,.bool a1.f2.f2,.bool a1.f2.f3,.int .i64 a1.f2.f4] 39,.box g4 [.slice none 0 0,.slice none 0 0,.slice none 0 0] 48,.own (Zd.slice 125 q125) t7.f0 [.slice B8 t7.f0.length d8],.own (Zd.slice 103 q103) t7.f1 [.slice B9 t7.f1.length d9],.own (Zd.slice 105 q105) t7.f2 [.slice B10 t7.f2.length d10],.box g5 [.slice B8 t7.f0.length d8,.slice B9 t7.f1.length d9,.slice B37 l36.length d37] 48,.emp] [14] HS (HS.ar [some 0,some 1,some 2,some 3,some 4,some 5,some 6,none]) #[false,false,false,false,false,false,false,false,false,false,false,false,false,false,false] (by kernel_rfl) rfl rfl spec_Trusting.tT7 (fun w46 HT HS HH=>?_)
   (try clear F)
   refine dqt [0,1,2,3,4,5,6,7] HT HH ?_
   refine dtk 8 36 HT HH rfl (by rintro w' ⟨rs',HS'⟩;have e13_0:=HS'.keepc e13_0;go_simp;with_reducible rfl) ?_
   refine dq [9] HT ?_
   refine dtk 10 38 HT HH rfl (by rintro w' ⟨rs',HS'⟩;have e20_0:=HS'.keepc e20_0;have e20_1:=HS'.keepc e20_1;go_simp;with_reducible rfl) ?_
   refine dr1 11 HT fun K hK=>?_
   refine if_li q105 [] ([(rd_T105 a0.f2 (rd a1.f1 x38))]:List S105) ([.string ((rd_T105 a0.f2 (rd a1.f1 x38)).f0),.string ((rd_T105 a0.f2 (rd a1.f1 x38)).f1)]++ []) HS (MadeL.cons (js1:=[]) (c:=[.string ((rd_T105 a0.f2 (rd a1.f1 x38)).f0),.string ((rd_T105 a0.f2 (rd a1.f1 x38)).f1)]) rfl (made_flat (fun _=>q105_flat _ _ _)) MadeL.nil (by decide)) ?_;clear HS;intro v21 w21 HS F;obtain⟨B21,d21,rfl,m21⟩:=HS.formn 1 8 rfl rfl
   refine nra 39 hK (HS.ar [some 0,some 1,some 2,some 3,some 4,some 5,some 6,none]) fun HH=>?_;clear hK K
   refine dr1 12 HT fun K hK=>?_
   refine wp_ap q105 7 8 HS rfl rfl Tryz.underlying46 info105 (of_eq_true c22) ?_;clear HS;intro v23 w23 HS;rw [←e_y23.out] at HS;obtain⟨B23,d23,rfl,m23⟩:=HS.form 9 rfl
   (try simp only [hpn,hpm] at HS)
   have F:=HS.bx
   refine nra 40 hK (HS.ar [some 0,some 1,some 2,some 3,some 4,some 5,some 6,none]) fun HH=>?_;clear hK K
   refine dq [13] HT ?_
   refine dl 14 HT fun K hK=>?_
   refine if_st 6 2 HS (seg:=[.slice B23 y23.length d23]) ?_;clear HS;intro w24 HS F
   refine hK.out _ _ ?_
   clear hK K
   refine dn HT ?_
   (try clear F)
   have F:=HS.bx
   go_wp2
   go_roundg k35
   case measure=>have:=HKk35.out;omega
   case rel=>exact⟨_,_,_,rfl,H,⟨by have:=HKk35.out;omega⟩,HS.pi [0,1,2,3,4,5,6,9]⟩
def laws_big.f (a0:(List Int)):Option (Bool):=(some (decide (1048576<(a0.length:Int))))
theorem laws_big.calls {a0:(List Int)}{Ap0:Option Addr}{np0 cp0:Nat}{r:Bool}{w:World}(h:laws_big.f a0=some r)(gp0:(Kd.int .u8).C w Ap0 np0 a0)(lp0:np0≤cp0):
    Calls Tryz.prog 5 #[.slice Ap0 np0 cp0] w (fun e w'=>e=.returned (.bool r)∧Hp noFP w w' []):=by
 obtain rfl:=C_len gp0
 have HS:=Hp.start w
 have H:=Aside0.mk h
 clear h
 unfold laws_big.f at H
 go_enter Tryz.func5,Tryz.ntmps5
 obtain rfl:=zsome H
 go_wp2
 go_ret
 exact HS.pk
end Go.Proofs.YtfcpjeeeddjakaaGreat.F

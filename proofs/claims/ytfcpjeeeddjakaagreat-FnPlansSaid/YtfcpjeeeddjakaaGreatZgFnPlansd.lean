/- Functions of the program and of the law, and that their calls do what is written here. -/
import Derived.Test.YtfcpjeeeddjakaaGreatZgFnPlansa
import Derived.Test.YtfcpjeeeddjakaaGreatZgFnPlansb
import Derived.Test.YtfcpjeeeddjakaaGreatZgFnPlansc
namespace Go.Proofs.YtfcpjeeeddjakaaGreat.F
open Go.RowKit YtfcpjeeeddjakaaGreatW.PrintWords YtfcpjeeeddjakaaGreatW.PrintLast YtfcpjeeeddjakaaGreatW.PrintMore Z
attribute [local go_sem] max2_int min2_int max_two min_two max_three min_three max_four min_four
set_option linter.unusedVariables false
set_option linter.unusedSimpArgs false
set_option maxRecDepth 100000
set_option maxHeartbeats 16000000
def spec_PoliciesOk.l0:Nat→Int→(List Int)→Option (Bool)
  |0,_,_=>none
  |k+1,x4,a0=>(if x4<(a0.length:Int)then(if 0≤x4 then(if x4<(a0.length:Int)then((spec_l01In.f (rd a0 x4) 0 99).bind fun t12=>(if t12=true then(if 0<x4 then(if 0≤(wrap64 (x4 - 1))then(if(wrap64 (x4 - 1))<(a0.length:Int)then(if(rd a0 x4)≤(rd a0 (wrap64 (x4 - 1)))then(some false)else(spec_PoliciesOk.l0 k (wrap64 (x4+1)) a0))else none)else none)else(spec_PoliciesOk.l0 k (wrap64 (x4+1)) a0))else(some false)))else none)else none)else(some (decide ((a0.length:Int)≤4))))
def spec_PoliciesOk.f (k:Nat)(a0:(List Int)):Option (Bool):=(spec_PoliciesOk.l0 k 0 a0)
def spec_PoliciesOk.T4:TT:=(true,[([],[]),([],[]),([0,1],[0,1]),([2],[2]),([3],[3]),([4],[4]),([5,4],[5]),([6],[6]),([7,6],[6,7]),([8,6,6],[6,8]),([9],[9]),([9],[9]),([11,9],[9,11]),([10,12,9],[9,10,12]),([13,9],[9,13]),([9],[9]),([9],[9]),([15,16,9],[9,15,16]),([17,9],[9,17]),([14,18,9],[9,14,18]),([9,19,6],[6,9,19]),([6,20],[6,20])])
theorem spec_PoliciesOk.tT4:rtab .any (opsOf Tryz.f91 4)=spec_PoliciesOk.T4:=by kernel_rfl
theorem spec_PoliciesOk.calls {k:Nat}{a0:(List Int)}{Ap0:Option Addr}{np0 cp0:Nat}{r:Bool}{w:World}(h:spec_PoliciesOk.f k a0=some r)(gp0:(Kd.int .i64).C w Ap0 np0 a0)(lp0:np0≤cp0):
    Calls Tryz.prog 91 #[.slice Ap0 np0 cp0] w (fun e w'=>e=.returned (.bool r)∧Hp noFP w w' []):=by
 obtain rfl:=C_len gp0
 have HS:=Hp.start w
 have H:=Aside0.mk h
 clear h
 unfold spec_PoliciesOk.f at H
 go_enter Tryz.func91,Tryz.ntmps91
 go_wp2
 go_loopg [3] k (fun kq v_3 w'=>∃(x4:Int),v_3=.int .i64 x4∧Aside0 (spec_PoliciesOk.l0 kq x4 a0=some r)∧Aside0 (kq≤k)∧Hp noFP w w' [])
 case atStart=>exact⟨_,rfl,H,⟨Nat.le_refl _⟩,HS⟩
 case round=>
  clear HS H;(try clear F)
  obtain⟨x4,rfl,H,HKk3,HS⟩:=hrel
  cases gk with
  |zero=>exact absurd H.out (by simp [spec_PoliciesOk.l0])
  | succ k3=>
   simp only [spec_PoliciesOk.l0] at H
   replace H:=znif H;rcases H with⟨c6,H⟩|⟨c6,H⟩
   ·
    obtain rfl:=zsome H
    go_wp2
    go_ret
    exact HS.pk
   (try go_wp2)
   replace H:=zgo H;obtain⟨c5,H⟩:=H
   replace H:=zgo H;obtain⟨c7,H⟩:=H
   obtain⟨ad9,rfl,e9_0⟩:=Kd.at_int gp0 x4 (of_eq_true c5) (of_eq_true c7)
   replace H:=zbind H;obtain⟨t12,ht12,H⟩:=H
   replace H:=znifb H;rcases H with⟨c14,H⟩|⟨c14,H⟩
   ·
    subst c14
    refine dr_start [] HS #[false,false,false,false,false,false,false,false,false,false,false,false,false,false,false,false,false,false,false,false,false,false] (by kernel_rfl) rfl rfl spec_PoliciesOk.tT4 (fun w13 HT HS HH=>?_)
    (try clear F)
    refine dq [0,1,2] HT ?_
    refine dtk 3 13 HT HH rfl (by rintro w' ⟨rs',HS'⟩;have e9_0:=HS'.keepc e9_0;go_simp;with_reducible rfl) ?_
    refine dr1 4 HT fun K hK=>?_
    refine go_cl HS (spec_l01In.calls ht12.out) Tryz.func54 ?_;clear HS;intro wt12 HS F
    refine nrm 14 hK ⟨_,HS⟩ fun HH=>?_;clear hK K
    refine dqo [5,6,7,8,9,10,11,12,13,14,15,16,17,18,19,20,21] HT ?_
    refine dn HT ?_
    obtain rfl:=zsome H
    go_wp2
    go_ret
    exact HS.pk
   subst c14
   replace H:=znif H;rcases H with⟨c15,H⟩|⟨c15,H⟩
   ·
    refine dr_start [] HS #[false,false,false,false,false,false,false,false,false,false,false,false,false,false,false,false,false,false,false,false,false,false] (by kernel_rfl) rfl rfl spec_PoliciesOk.tT4 (fun w11 HT HS HH=>?_)
    (try clear F)
    refine dq [0,1,2] HT ?_
    refine dtk 3 13 HT HH rfl (by rintro w' ⟨rs',HS'⟩;have e9_0:=HS'.keepc e9_0;go_simp;with_reducible rfl) ?_
    refine dr1 4 HT fun K hK=>?_
    refine go_cl HS (spec_l01In.calls ht12.out) Tryz.func54 ?_;clear HS;intro wt12 HS F
    refine nrm 14 hK ⟨_,HS⟩ fun HH=>?_;clear hK K
    refine dqo [5,6,7,8,9,10,11,12,13,14,15,16,17,18,19,20,21] HT ?_
    refine dn HT ?_
    go_wp2
    go_roundg k3
    case measure=>have:=HKk3.out;omega
    case rel=>exact⟨_,rfl,H,⟨by have:=HKk3.out;omega⟩,HS.pi []⟩
   replace H:=zgo H;obtain⟨c16,H⟩:=H
   replace H:=zgo H;obtain⟨c17,H⟩:=H
   obtain⟨ad18,hq18,e18_0⟩:=Kd.at_int gp0 (wrap64 (x4 - 1)) (of_eq_true c16) (of_eq_true c17);obtain rfl:=Option.some.inj hq18
   refine dr_start [] HS #[false,false,false,false,false,false,false,false,false,false,false,false,false,false,false,false,false,false,false,false,false,false] (by kernel_rfl) rfl rfl spec_PoliciesOk.tT4 (fun w8 HT HS HH=>?_)
   (try clear F)
   refine dq [0,1,2] HT ?_
   refine dtk 3 13 HT HH rfl (by rintro w' ⟨rs',HS'⟩;have e9_0:=HS'.keepc e9_0;go_simp;with_reducible rfl) ?_
   refine dr1 4 HT fun K hK=>?_
   refine go_cl HS (spec_l01In.calls ht12.out) Tryz.func54 ?_;clear HS;intro wt12 HS F
   refine nrm 14 hK ⟨_,HS⟩ fun HH=>?_;clear hK K
   refine dq [5,6,7,8,9,10,11,12,13] HT ?_
   refine dtk 14 24 HT HH rfl (by rintro w' ⟨rs',HS'⟩;have e18_0:=HS'.keepc e18_0;go_simp;with_reducible rfl) ?_
   refine dq [15,16,17] HT ?_
   refine dtk 18 28 HT HH rfl (by rintro w' ⟨rs',HS'⟩;have e9_0:=HS'.keepc e9_0;go_simp;with_reducible rfl) ?_
   refine dq [19,20,21] HT ?_
   refine dn HT ?_
   replace H:=zif H;rcases H with⟨c10,H⟩|⟨c10,H⟩
   ·
    (try simp only [c10,dcn])
    obtain rfl:=zsome H
    go_wp2
    go_ret
    exact HS.pk
   (try simp only [c10,dcn])
   go_wp2
   go_roundg k3
   case measure=>have:=HKk3.out;omega
   case rel=>exact⟨_,rfl,H,⟨by have:=HKk3.out;omega⟩,HS.pi []⟩
def spec_CertOk.f (k:Nat)(a0:S125):Option (Bool):=((spec_l09Num.f a0.f0).bind fun t3=>(if t3=true then((spec_l09Num.f a0.f3).bind fun t6=>(if t6=true then((spec_l09Num.f a0.f4).bind fun t9=>(if t9=true then((spec_NameOk.f k a0.f1).bind fun t12=>(if t12=true then((spec_NameOk.f k a0.f2).bind fun t15=>(if t15=true then(if(a0.f5.size:Int)=15 then((spec_l01In.f a0.f7 0 99).bind fun t19=>(if t19=true then((spec_l01In.f a0.f8 0 7).bind fun t22=>(if t22=true then((spec_PoliciesOk.f k a0.f9).bind fun t25=>(if t25=true then((spec_NamesOk.f k a0.f10).bind fun t28=>(if t28=true then((spec_NamesOk.f k a0.f11).bind fun t31=>(if t31=true then(some ((a0.f12.size:Int)==15))else(some false)))else(some false)))else(some false)))else(some false)))else(some false)))else(some false))else(some false)))else(some false)))else(some false)))else(some false)))else(some false)))
theorem spec_CertOk.calls {k:Nat}{a0:S125}{Ap0 Ap1 Ap2:Option Addr}{np0 cp0 np1 cp1 np2 cp2:Nat}{r:Bool}{w:World}(h:spec_CertOk.f k a0=some r)(gp0:(Kd.int .i64).C w Ap0 np0 a0.f9)(lp0:np0≤cp0)(gp1:Kd.string.C w Ap1 np1 a0.f10)(lp1:np1≤cp1)(gp2:Kd.string.C w Ap2 np2 a0.f11)(lp2:np2≤cp2):
    Calls Tryz.prog 122 #[.agg #[.int .i64 a0.f0,.string a0.f1,.string a0.f2,.int .i64 a0.f3,.int .i64 a0.f4,.string a0.f5,.bool a0.f6,.int .i64 a0.f7,.int .i64 a0.f8,.slice Ap0 np0 cp0,.slice Ap1 np1 cp1,.slice Ap2 np2 cp2,.string a0.f12]] w (fun e w'=>e=.returned (.bool r)∧Hp noFP w w' []):=by
 obtain rfl:=C_len gp0
 obtain rfl:=C_len gp1
 obtain rfl:=C_len gp2
 have HS:=Hp.start w
 have H:=Aside0.mk h
 clear h
 unfold spec_CertOk.f at H
 go_enter Tryz.func122,Tryz.ntmps122
 replace H:=zbind H;obtain⟨t3,ht3,H⟩:=H
 replace H:=znifb H;rcases H with⟨c5,H⟩|⟨c5,H⟩
 ·
  subst c5
  obtain rfl:=zsome H
  go_wp2_with (first|((with_reducible refine gd 1 rfl ?_);refine ev_bx HS ?_;clear HS;intro g1 w1 HS F)|((with_reducible refine gd 5 rfl ?_);refine ev_cl HS (spec_l09Num.calls ht3.out) Tryz.func55 ?_;clear HS;intro wt3 HS F))
  go_ret
  exact HS.pk
 subst c5
 replace H:=zbind H;obtain⟨t6,ht6,H⟩:=H
 replace H:=znifb H;rcases H with⟨c8,H⟩|⟨c8,H⟩
 ·
  subst c8
  obtain rfl:=zsome H
  go_wp2_with (first|((with_reducible refine gd 1 rfl ?_);refine ev_bx HS ?_;clear HS;intro g1 w1 HS F)|((with_reducible refine gd 5 rfl ?_);refine ev_cl HS (spec_l09Num.calls ht3.out) Tryz.func55 ?_;clear HS;intro wt3 HS F)|((with_reducible refine gd 9 rfl ?_);refine gg ?_;refine ev_cl HS (spec_l09Num.calls ht6.out) Tryz.func55 ?_;clear HS;intro wt6 HS F))
  go_ret
  exact HS.pk
 subst c8
 replace H:=zbind H;obtain⟨t9,ht9,H⟩:=H
 replace H:=znifb H;rcases H with⟨c11,H⟩|⟨c11,H⟩
 ·
  subst c11
  obtain rfl:=zsome H
  go_wp2_with (first|((with_reducible refine gd 1 rfl ?_);refine ev_bx HS ?_;clear HS;intro g1 w1 HS F)|((with_reducible refine gd 5 rfl ?_);refine ev_cl HS (spec_l09Num.calls ht3.out) Tryz.func55 ?_;clear HS;intro wt3 HS F)|((with_reducible refine gd 9 rfl ?_);refine gg ?_;refine ev_cl HS (spec_l09Num.calls ht6.out) Tryz.func55 ?_;clear HS;intro wt6 HS F)|((with_reducible refine gd 14 rfl ?_);refine gg ?_;refine ev_cl HS (spec_l09Num.calls ht9.out) Tryz.func55 ?_;clear HS;intro wt9 HS F))
  go_ret
  exact HS.pk
 subst c11
 replace H:=zbind H;obtain⟨t12,ht12,H⟩:=H
 replace H:=znifb H;rcases H with⟨c14,H⟩|⟨c14,H⟩
 ·
  subst c14
  obtain rfl:=zsome H
  go_wp2_with (first|((with_reducible refine gd 1 rfl ?_);refine ev_bx HS ?_;clear HS;intro g1 w1 HS F)|((with_reducible refine gd 5 rfl ?_);refine ev_cl HS (spec_l09Num.calls ht3.out) Tryz.func55 ?_;clear HS;intro wt3 HS F)|((with_reducible refine gd 9 rfl ?_);refine gg ?_;refine ev_cl HS (spec_l09Num.calls ht6.out) Tryz.func55 ?_;clear HS;intro wt6 HS F)|((with_reducible refine gd 14 rfl ?_);refine gg ?_;refine ev_cl HS (spec_l09Num.calls ht9.out) Tryz.func55 ?_;clear HS;intro wt9 HS F)|((with_reducible refine gd 19 rfl ?_);refine gg ?_;refine ev_cl HS (spec_NameOk.calls ht12.out) Tryz.func136 ?_;clear HS;intro wt12 HS F))
  go_ret
  exact HS.pk
 subst c14
 replace H:=zbind H;obtain⟨t15,ht15,H⟩:=H
 replace H:=znifb H;rcases H with⟨c17,H⟩|⟨c17,H⟩
 ·
  subst c17
  obtain rfl:=zsome H
  go_wp2_with (first|((with_reducible refine gd 1 rfl ?_);refine ev_bx HS ?_;clear HS;intro g1 w1 HS F)|((with_reducible refine gd 5 rfl ?_);refine ev_cl HS (spec_l09Num.calls ht3.out) Tryz.func55 ?_;clear HS;intro wt3 HS F)|((with_reducible refine gd 9 rfl ?_);refine gg ?_;refine ev_cl HS (spec_l09Num.calls ht6.out) Tryz.func55 ?_;clear HS;intro wt6 HS F)|((with_reducible refine gd 14 rfl ?_);refine gg ?_;refine ev_cl HS (spec_l09Num.calls ht9.out) Tryz.func55 ?_;clear HS;intro wt9 HS F)|((with_reducible refine gd 19 rfl ?_);refine gg ?_;refine ev_cl HS (spec_NameOk.calls ht12.out) Tryz.func136 ?_;clear HS;intro wt12 HS F)|((with_reducible refine gd 24 rfl ?_);refine gg ?_;refine ev_cl HS (spec_NameOk.calls ht15.out) Tryz.func136 ?_;clear HS;intro wt15 HS F))
  go_ret
  exact HS.pk
 subst c17
 replace H:=znif' H;rcases H with⟨c18,H⟩|⟨c18,H⟩
 ·
  obtain⟨c18a,c18b⟩:=nq c18;clear c18
  obtain rfl:=zsome H
  go_wp2_with (first|((with_reducible refine gd 1 rfl ?_);refine ev_bx HS ?_;clear HS;intro g1 w1 HS F)|((with_reducible refine gd 5 rfl ?_);refine ev_cl HS (spec_l09Num.calls ht3.out) Tryz.func55 ?_;clear HS;intro wt3 HS F)|((with_reducible refine gd 9 rfl ?_);refine gg ?_;refine ev_cl HS (spec_l09Num.calls ht6.out) Tryz.func55 ?_;clear HS;intro wt6 HS F)|((with_reducible refine gd 14 rfl ?_);refine gg ?_;refine ev_cl HS (spec_l09Num.calls ht9.out) Tryz.func55 ?_;clear HS;intro wt9 HS F)|((with_reducible refine gd 19 rfl ?_);refine gg ?_;refine ev_cl HS (spec_NameOk.calls ht12.out) Tryz.func136 ?_;clear HS;intro wt12 HS F)|((with_reducible refine gd 24 rfl ?_);refine gg ?_;refine ev_cl HS (spec_NameOk.calls ht15.out) Tryz.func136 ?_;clear HS;intro wt15 HS F))
  go_ret
  exact HS.pk
 obtain⟨c18a,c18b⟩:=bq c18;clear c18
 replace H:=zbind H;obtain⟨t19,ht19,H⟩:=H
 replace H:=znifb H;rcases H with⟨c21,H⟩|⟨c21,H⟩
 ·
  subst c21
  obtain rfl:=zsome H
  go_wp2_with (first|((with_reducible refine gd 1 rfl ?_);refine ev_bx HS ?_;clear HS;intro g1 w1 HS F)|((with_reducible refine gd 5 rfl ?_);refine ev_cl HS (spec_l09Num.calls ht3.out) Tryz.func55 ?_;clear HS;intro wt3 HS F)|((with_reducible refine gd 9 rfl ?_);refine gg ?_;refine ev_cl HS (spec_l09Num.calls ht6.out) Tryz.func55 ?_;clear HS;intro wt6 HS F)|((with_reducible refine gd 14 rfl ?_);refine gg ?_;refine ev_cl HS (spec_l09Num.calls ht9.out) Tryz.func55 ?_;clear HS;intro wt9 HS F)|((with_reducible refine gd 19 rfl ?_);refine gg ?_;refine ev_cl HS (spec_NameOk.calls ht12.out) Tryz.func136 ?_;clear HS;intro wt12 HS F)|((with_reducible refine gd 24 rfl ?_);refine gg ?_;refine ev_cl HS (spec_NameOk.calls ht15.out) Tryz.func136 ?_;clear HS;intro wt15 HS F)|((with_reducible refine gd 35 rfl ?_);refine gg ?_;refine ev_cl HS (spec_l01In.calls ht19.out) Tryz.func54 ?_;clear HS;intro wt19 HS F))
  go_ret
  exact HS.pk
 subst c21
 replace H:=zbind H;obtain⟨t22,ht22,H⟩:=H
 replace H:=znifb H;rcases H with⟨c24,H⟩|⟨c24,H⟩
 ·
  subst c24
  obtain rfl:=zsome H
  go_wp2_with (first|((with_reducible refine gd 1 rfl ?_);refine ev_bx HS ?_;clear HS;intro g1 w1 HS F)|((with_reducible refine gd 5 rfl ?_);refine ev_cl HS (spec_l09Num.calls ht3.out) Tryz.func55 ?_;clear HS;intro wt3 HS F)|((with_reducible refine gd 9 rfl ?_);refine gg ?_;refine ev_cl HS (spec_l09Num.calls ht6.out) Tryz.func55 ?_;clear HS;intro wt6 HS F)|((with_reducible refine gd 14 rfl ?_);refine gg ?_;refine ev_cl HS (spec_l09Num.calls ht9.out) Tryz.func55 ?_;clear HS;intro wt9 HS F)|((with_reducible refine gd 19 rfl ?_);refine gg ?_;refine ev_cl HS (spec_NameOk.calls ht12.out) Tryz.func136 ?_;clear HS;intro wt12 HS F)|((with_reducible refine gd 24 rfl ?_);refine gg ?_;refine ev_cl HS (spec_NameOk.calls ht15.out) Tryz.func136 ?_;clear HS;intro wt15 HS F)|((with_reducible refine gd 35 rfl ?_);refine gg ?_;refine ev_cl HS (spec_l01In.calls ht19.out) Tryz.func54 ?_;clear HS;intro wt19 HS F)|((with_reducible refine gd 40 rfl ?_);refine gg ?_;refine ev_cl HS (spec_l01In.calls ht22.out) Tryz.func54 ?_;clear HS;intro wt22 HS F))
  go_ret
  exact HS.pk
 subst c24
 replace H:=zbind H;obtain⟨t25,ht25,H⟩:=H
 replace H:=znifb H;rcases H with⟨c27,H⟩|⟨c27,H⟩
 ·
  subst c27
  obtain rfl:=zsome H
  go_wp2_with (first|((with_reducible refine gd 1 rfl ?_);refine ev_bx HS ?_;clear HS;intro g1 w1 HS F)|((with_reducible refine gd 5 rfl ?_);refine ev_cl HS (spec_l09Num.calls ht3.out) Tryz.func55 ?_;clear HS;intro wt3 HS F)|((with_reducible refine gd 9 rfl ?_);refine gg ?_;refine ev_cl HS (spec_l09Num.calls ht6.out) Tryz.func55 ?_;clear HS;intro wt6 HS F)|((with_reducible refine gd 14 rfl ?_);refine gg ?_;refine ev_cl HS (spec_l09Num.calls ht9.out) Tryz.func55 ?_;clear HS;intro wt9 HS F)|((with_reducible refine gd 19 rfl ?_);refine gg ?_;refine ev_cl HS (spec_NameOk.calls ht12.out) Tryz.func136 ?_;clear HS;intro wt12 HS F)|((with_reducible refine gd 24 rfl ?_);refine gg ?_;refine ev_cl HS (spec_NameOk.calls ht15.out) Tryz.func136 ?_;clear HS;intro wt15 HS F)|((with_reducible refine gd 35 rfl ?_);refine gg ?_;refine ev_cl HS (spec_l01In.calls ht19.out) Tryz.func54 ?_;clear HS;intro wt19 HS F)|((with_reducible refine gd 40 rfl ?_);refine gg ?_;refine ev_cl HS (spec_l01In.calls ht22.out) Tryz.func54 ?_;clear HS;intro wt22 HS F)|((with_reducible refine gd 45 rfl ?_);refine gg ?_;refine ev_cl HS (spec_PoliciesOk.calls ht25.out (HS.ro gp0) lp0) Tryz.func91 ?_;clear HS;intro wt25 HS F))
  go_ret
  exact HS.pk
 subst c27
 replace H:=zbind H;obtain⟨t28,ht28,H⟩:=H
 replace H:=znifb H;rcases H with⟨c30,H⟩|⟨c30,H⟩
 ·
  subst c30
  obtain rfl:=zsome H
  go_wp2_with (first|((with_reducible refine gd 1 rfl ?_);refine ev_bx HS ?_;clear HS;intro g1 w1 HS F)|((with_reducible refine gd 5 rfl ?_);refine ev_cl HS (spec_l09Num.calls ht3.out) Tryz.func55 ?_;clear HS;intro wt3 HS F)|((with_reducible refine gd 9 rfl ?_);refine gg ?_;refine ev_cl HS (spec_l09Num.calls ht6.out) Tryz.func55 ?_;clear HS;intro wt6 HS F)|((with_reducible refine gd 14 rfl ?_);refine gg ?_;refine ev_cl HS (spec_l09Num.calls ht9.out) Tryz.func55 ?_;clear HS;intro wt9 HS F)|((with_reducible refine gd 19 rfl ?_);refine gg ?_;refine ev_cl HS (spec_NameOk.calls ht12.out) Tryz.func136 ?_;clear HS;intro wt12 HS F)|((with_reducible refine gd 24 rfl ?_);refine gg ?_;refine ev_cl HS (spec_NameOk.calls ht15.out) Tryz.func136 ?_;clear HS;intro wt15 HS F)|((with_reducible refine gd 35 rfl ?_);refine gg ?_;refine ev_cl HS (spec_l01In.calls ht19.out) Tryz.func54 ?_;clear HS;intro wt19 HS F)|((with_reducible refine gd 40 rfl ?_);refine gg ?_;refine ev_cl HS (spec_l01In.calls ht22.out) Tryz.func54 ?_;clear HS;intro wt22 HS F)|((with_reducible refine gd 45 rfl ?_);refine gg ?_;refine ev_cl HS (spec_PoliciesOk.calls ht25.out (HS.ro gp0) lp0) Tryz.func91 ?_;clear HS;intro wt25 HS F)|((with_reducible refine gd 50 rfl ?_);refine gg ?_;refine ev_cl HS (spec_NamesOk.calls ht28.out (HS.ro gp1) lp1) Tryz.func137 ?_;clear HS;intro wt28 HS F))
  go_ret
  exact HS.pk
 subst c30
 replace H:=zbind H;obtain⟨t31,ht31,H⟩:=H
 replace H:=zifb H;rcases H with⟨c33,H⟩|⟨c33,H⟩
 ·
  subst c33
  obtain rfl:=zsome H
  go_wp2_with (first|((with_reducible refine gd 1 rfl ?_);refine ev_bx HS ?_;clear HS;intro g1 w1 HS F)|((with_reducible refine gd 5 rfl ?_);refine ev_cl HS (spec_l09Num.calls ht3.out) Tryz.func55 ?_;clear HS;intro wt3 HS F)|((with_reducible refine gd 9 rfl ?_);refine gg ?_;refine ev_cl HS (spec_l09Num.calls ht6.out) Tryz.func55 ?_;clear HS;intro wt6 HS F)|((with_reducible refine gd 14 rfl ?_);refine gg ?_;refine ev_cl HS (spec_l09Num.calls ht9.out) Tryz.func55 ?_;clear HS;intro wt9 HS F)|((with_reducible refine gd 19 rfl ?_);refine gg ?_;refine ev_cl HS (spec_NameOk.calls ht12.out) Tryz.func136 ?_;clear HS;intro wt12 HS F)|((with_reducible refine gd 24 rfl ?_);refine gg ?_;refine ev_cl HS (spec_NameOk.calls ht15.out) Tryz.func136 ?_;clear HS;intro wt15 HS F)|((with_reducible refine gd 35 rfl ?_);refine gg ?_;refine ev_cl HS (spec_l01In.calls ht19.out) Tryz.func54 ?_;clear HS;intro wt19 HS F)|((with_reducible refine gd 40 rfl ?_);refine gg ?_;refine ev_cl HS (spec_l01In.calls ht22.out) Tryz.func54 ?_;clear HS;intro wt22 HS F)|((with_reducible refine gd 45 rfl ?_);refine gg ?_;refine ev_cl HS (spec_PoliciesOk.calls ht25.out (HS.ro gp0) lp0) Tryz.func91 ?_;clear HS;intro wt25 HS F)|((with_reducible refine gd 50 rfl ?_);refine gg ?_;refine ev_cl HS (spec_NamesOk.calls ht28.out (HS.ro gp1) lp1) Tryz.func137 ?_;clear HS;intro wt28 HS F)|((with_reducible refine gd 55 rfl ?_);refine gg ?_;refine ev_cl HS (spec_NamesOk.calls ht31.out (HS.ro gp2) lp2) Tryz.func137 ?_;clear HS;intro wt31 HS F))
  go_ret
  exact HS.pk
 subst c33
 obtain rfl:=zsome H
 go_wp2_with (first|((with_reducible refine gd 1 rfl ?_);refine ev_bx HS ?_;clear HS;intro g1 w1 HS F)|((with_reducible refine gd 5 rfl ?_);refine ev_cl HS (spec_l09Num.calls ht3.out) Tryz.func55 ?_;clear HS;intro wt3 HS F)|((with_reducible refine gd 9 rfl ?_);refine gg ?_;refine ev_cl HS (spec_l09Num.calls ht6.out) Tryz.func55 ?_;clear HS;intro wt6 HS F)|((with_reducible refine gd 14 rfl ?_);refine gg ?_;refine ev_cl HS (spec_l09Num.calls ht9.out) Tryz.func55 ?_;clear HS;intro wt9 HS F)|((with_reducible refine gd 19 rfl ?_);refine gg ?_;refine ev_cl HS (spec_NameOk.calls ht12.out) Tryz.func136 ?_;clear HS;intro wt12 HS F)|((with_reducible refine gd 24 rfl ?_);refine gg ?_;refine ev_cl HS (spec_NameOk.calls ht15.out) Tryz.func136 ?_;clear HS;intro wt15 HS F)|((with_reducible refine gd 35 rfl ?_);refine gg ?_;refine ev_cl HS (spec_l01In.calls ht19.out) Tryz.func54 ?_;clear HS;intro wt19 HS F)|((with_reducible refine gd 40 rfl ?_);refine gg ?_;refine ev_cl HS (spec_l01In.calls ht22.out) Tryz.func54 ?_;clear HS;intro wt22 HS F)|((with_reducible refine gd 45 rfl ?_);refine gg ?_;refine ev_cl HS (spec_PoliciesOk.calls ht25.out (HS.ro gp0) lp0) Tryz.func91 ?_;clear HS;intro wt25 HS F)|((with_reducible refine gd 50 rfl ?_);refine gg ?_;refine ev_cl HS (spec_NamesOk.calls ht28.out (HS.ro gp1) lp1) Tryz.func137 ?_;clear HS;intro wt28 HS F)|((with_reducible refine gd 55 rfl ?_);refine gg ?_;refine ev_cl HS (spec_NamesOk.calls ht31.out (HS.ro gp2) lp2) Tryz.func137 ?_;clear HS;intro wt31 HS F))
 go_ret
 exact HS.pk
def spec_CertText.f (k:Nat)(a0:S125):Option (ByteArray×Bool):=((spec_CertOk.f k a0).bind fun t3=>(if t3=true then((spec_BodyItem.f k a0).bind fun t13=>((spec_l09Bytes.f a0.f12).bind fun t15=>((spec_ItemText.f k (⟨48,(⟨#[]⟩:ByteArray),([t13,t15]:List S66)⟩:S66)).bind fun t18=>(some (t18.1,t18.2)))))else(some ((⟨#[]⟩:ByteArray),false))))
def spec_CertText.T3:TT:=(true,[([],[]),([0],[0]),([],[]),([2],[2]),([3,1],[3]),([1,4],[1,4]),([5],[5]),([6,4],[6]),([7],[7]),([7],[7]),([8,7,0,1,2,3,4,5,6,7,8,9],[8]),([9,10,0,1,2,3,4,5,6,7,8,9,10],[9])])
theorem spec_CertText.tT3:rtab .any (opsOf Tryz.f99 3)=spec_CertText.T3:=by kernel_rfl
theorem spec_CertText.calls {k:Nat}{a0:S125}{Ap0 Ap1 Ap2:Option Addr}{np0 cp0 np1 cp1 np2 cp2:Nat}{r1:ByteArray}{r2:Bool}{w:World}(h:spec_CertText.f k a0=some (r1,r2))(gp0:(Kd.int .i64).C w Ap0 np0 a0.f9)(lp0:np0≤cp0)(gp1:Kd.string.C w Ap1 np1 a0.f10)(lp1:np1≤cp1)(gp2:Kd.string.C w Ap2 np2 a0.f11)(lp2:np2≤cp2):
    Calls Tryz.prog 99 #[.agg #[.int .i64 a0.f0,.string a0.f1,.string a0.f2,.int .i64 a0.f3,.int .i64 a0.f4,.string a0.f5,.bool a0.f6,.int .i64 a0.f7,.int .i64 a0.f8,.slice Ap0 np0 cp0,.slice Ap1 np1 cp1,.slice Ap2 np2 cp2,.string a0.f12]] w (fun e w'=>e=.returned (.tuple #[.string r1,.bool r2])∧Hp noFP w w' []):=by
 obtain rfl:=C_len gp0
 obtain rfl:=C_len gp1
 obtain rfl:=C_len gp2
 have HS:=Hp.start w
 have H:=Aside0.mk h
 clear h
 unfold spec_CertText.f at H
 go_enter Tryz.func99,Tryz.ntmps99
 replace H:=zbind H;obtain⟨t3,ht3,H⟩:=H
 go_upto_if 6 with(first|((with_reducible refine gd 1 rfl ?_);refine ev_bx HS ?_;clear HS;intro g1 w1 HS F)|((with_reducible refine gd 5 rfl ?_);refine ev_cl HS (spec_CertOk.calls ht3.out (HS.ro gp0) lp0 (HS.ro gp1) lp1 (HS.ro gp2) lp2) Tryz.func122 ?_;clear HS;intro wt3 HS F))
 replace H:=znifb H;rcases H with⟨c5,H⟩|⟨c5,H⟩
 ·
  subst c5
  (try simp only [dcn,dcu,dcf])
  obtain⟨rfl,rfl⟩:=zsome2 H
  go_wp2
  exact rl rfl (.tmp (.tmp .nil)) ⟨rfl,HS.pi []⟩
 subst c5
 (try simp only [dcn,dcu,dcf])
 (try go_wp2)
 replace H:=zbind H;obtain⟨t13,ht13,H⟩:=H
 replace H:=zbind H;obtain⟨t15,ht15,H⟩:=H
 replace H:=zbind H;obtain⟨t18,ht18,H⟩:=H
 refine dr_start [] HS #[false,false,false,false,false,false,false,false,false,false,false,false] (by kernel_rfl) rfl rfl spec_CertText.tT3 (fun w7 HT HS HH=>?_)
 (try clear F)
 refine dqt [0,2,3] HT HH ?_
 refine dr1 1 HT fun K hK=>?_
 refine go_cl1 HS (spec_BodyItem.calls ht13.out (HS.ro gp0) lp0 (HS.ro gp1) lp1 (HS.ro gp2) lp2) Tryz.func123 ?_;clear HS;intro v14 wt13 HS F;obtain⟨B14,d14,rfl,m14⟩:=HS.form 1 rfl
 refine nrm 8 hK ⟨_,HS⟩ fun HH=>?_;clear hK K
 refine dr1 4 HT fun K hK=>?_
 refine go_cl1 HS (spec_l09Bytes.calls ht15.out) Tryz.func75 ?_;clear HS;intro v16 wt15 HS F;obtain⟨B16,d16,rfl,m16⟩:=HS.form 2 rfl
 refine nrm 11 hK ⟨_,HS⟩ fun HH=>?_;clear hK K
 refine dr1 5 HT fun K hK=>?_
 refine if_li q66 [1,2] ([t13,t15]:List S66) ([.int .i64 t13.f0,.string t13.f1,.slice B14 t13.f2.length d14]++([.int .i64 t15.f0,.string t15.f1,.slice B16 t15.f2.length d16]++ [])) HS (MadeL.cons (js1:=[1]) (c:=[.int .i64 t13.f0,.string t13.f1,.slice B14 t13.f2.length d14]) rfl (fun S hd hh=>q66_pack (x:=t13) hd (hh 1 (.own (Zd.slice 66 q66) t13.f2 [.slice B14 t13.f2.length d14]) rfl) (by decide)) (MadeL.cons (js1:=[2]) (c:=[.int .i64 t15.f0,.string t15.f1,.slice B16 t15.f2.length d16]) rfl (fun S hd hh=>q66_pack (x:=t15) hd (hh 2 (.own (Zd.slice 66 q66) t15.f2 [.slice B16 t15.f2.length d16]) rfl) (by decide)) MadeL.nil (by decide)) (by decide)) ?_;clear HS;intro v17 w17 HS F;obtain⟨B17,d17,rfl,m17⟩:=HS.formn 2 3 rfl rfl
 refine nrm 12 hK ⟨_,HS⟩ fun HH=>?_;clear hK K
 refine dq [6] HT ?_
 refine dr1 7 HT fun K hK=>?_
 refine go_cl HS (spec_ItemText.calls ht18.out (HS.rd 3 rfl) m17) Tryz.func36 ?_;clear HS;intro wt18 HS F
 refine nrm 14 hK ⟨_,HS⟩ fun HH=>?_;clear hK K
 refine dq [8,9,10,11] HT ?_
 refine dn HT ?_
 (try clear F)
 have F:=HS.bx
 obtain⟨rfl,rfl⟩:=zsome2 H
 go_wp2
 exact rl rfl (.tmp (.tmp .nil)) ⟨rfl,HS.pi []⟩
def spec_l14Ask_0.l0:Nat→(List ByteArray)→Int→Int→Int→S110→Int×S110→Int×S110→Int×S110→Bool×S110→Int×S110→Option (S26×S110)
  |0,_,_,_,_,_,_,_,_,_,_=>none
  |k+1,l115,x117,x118,x119,a0,t3,t5,t11,t13,t23=>((spec_l01Below_0.f (⟨a0.f0,x118,x119⟩:S110) 2).bind fun t121=>(if x117<(wrap64 (1+t121.1))then((spec_l13Target_0.f k (⟨a0.f0,t121.2.f1,t121.2.f2⟩:S110)).bind fun t124=>((spec_CertText.f k t124.1).bind fun t129=>(if t129.2=true then((spec_l01Once_0.f (⟨a0.f0,t124.2.f1,t124.2.f2⟩:S110) 8).bind fun t132=>(if t132.1=true then((spec_l01Text_0.f k (⟨a0.f0,t132.2.f1,t132.2.f2⟩:S110) 5).bind fun t135=>(if l115.length+1≤8796093022208 then(lets (l115++([t135.1]:List ByteArray)) fun y140=>(spec_l14Ask_0.l0 k y140 (wrap64 (x117+1)) t135.2.f1 t135.2.f2 a0 t3 t5 t11 t13 t23))else none))else(if l115.length+1≤8796093022208 then(lets (l115++([t129.1]:List ByteArray)) fun y147=>(spec_l14Ask_0.l0 k y147 (wrap64 (x117+1)) t132.2.f1 t132.2.f2 a0 t3 t5 t11 t13 t23))else none)))else((spec_l01Text_0.f k (⟨a0.f0,t124.2.f1,t124.2.f2⟩:S110) 5).bind fun t151=>(if l115.length+1≤8796093022208 then(lets (l115++([t151.1]:List ByteArray)) fun y156=>(spec_l14Ask_0.l0 k y156 (wrap64 (x117+1)) t151.2.f1 t151.2.f2 a0 t3 t5 t11 t13 t23))else none)))))else(some ((⟨l115,t3.1,t5.1,t11.1,t23.1,t13.1⟩:S26),(⟨a0.f0,t121.2.f1,t121.2.f2⟩:S110)))))
def spec_l14Ask_0.f (k:Nat)(a0:S110):Option (S26×S110):=((spec_l01Below_0.f a0 3).bind fun t3=>((spec_l01Below_0.f (⟨a0.f0,t3.2.f1,t3.2.f2⟩:S110) 4).bind fun t5=>((spec_l01PickInt_0.f (⟨a0.f0,t5.2.f1,t5.2.f2⟩:S110) ([0,0,7,99]:List Int)).bind fun t11=>((spec_l01Once_0.f (⟨a0.f0,t11.2.f1,t11.2.f2⟩:S110) 2).bind fun t13=>((spec_l01PickInt_0.f (⟨a0.f0,t13.2.f1,t13.2.f2⟩:S110) ([0,0,20,50]:List Int)).bind fun t23=>(spec_l14Ask_0.l0 k [] 0 t23.2.f1 t23.2.f2 a0 t3 t5 t11 t13 t23))))))
theorem spec_l14Ask_0.calls {k:Nat}{a0:S110}{A:FP}{p0:Nat}{Ap1:Option Addr}{np1 cp1:Nat}{wv:World}{r1:S26}{r2:S110}{w:World}(h:spec_l14Ask_0.f k a0=some (r1,r2))(gp1:(Kd.int .u8).C wv Ap1 np1 a0.f0)(lp1:np1≤cp1)(hV:View A w wv)(HS:Hp A w w [.box p0 [.slice Ap1 np1 cp1,.int .i64 a0.f1,.int .i64 a0.f2] 110]):
    Calls Tryz.prog 68 #[.pointer (some ⟨p0,0,none⟩)] w (fun e w'=>∃v0_:Value,e=.returned (.agg #[v0_,.int .i64 r1.f1,.int .i64 r1.f2,.int .i64 r1.f3,.int .i64 r1.f4,.bool r1.f5])∧Hp A w w' [.box p0 [.slice Ap1 np1 cp1,.int .i64 r2.f1,.int .i64 r2.f2] 110,.own (Zd.slice 9 Zd.string) r1.f0 [v0_]]):=by
 obtain rfl:=C_len gp1
 have H:=Aside0.mk h
 clear h
 unfold spec_l14Ask_0.f at H
 go_enter Tryz.func68,Tryz.ntmps68
 have F:=HS.bx
 replace H:=zbind H;obtain⟨t3,ht3,H⟩:=H
 replace H:=zbind H;obtain⟨t5,ht5,H⟩:=H
 replace H:=zbind H;obtain⟨t11,ht11,H⟩:=H
 replace H:=zbind H;obtain⟨t13,ht13,H⟩:=H
 replace H:=zbind H;obtain⟨t23,ht23,H⟩:=H
 go_wp2_with (first|((with_reducible refine gd 2 rfl ?_);refine ev_bx HS ?_;clear HS;intro g2 w2 HS F)|((with_reducible refine gd 8 rfl ?_);refine ev_lb [0] HS (fun _ HL HA=>spec_l01Below_0.calls ht3.out gp1 lp1 (hV.lend HS HL) HA) Tryz.func45 ?_;clear HS;intro wt3 HS F)|((with_reducible refine gd 10 rfl ?_);refine ev_lb [0] HS (fun _ HL HA=>spec_l01Below_0.calls ht5.out gp1 lp1 (hV.lend HS HL) HA) Tryz.func45 ?_;clear HS;intro wt5 HS F)|((with_reducible refine gd 12 rfl ?_);refine ev_li (Zd.int .i64) [] ([0,0,7,99]:List Int) ([.int .i64 0]++([.int .i64 0]++([.int .i64 7]++([.int .i64 99]++ [])))) HS (MadeL.cons (js1:=[]) (c:=[.int .i64 0]) rfl (made_flat (fun _=>rfl)) (MadeL.cons (js1:=[]) (c:=[.int .i64 0]) rfl (made_flat (fun _=>rfl)) (MadeL.cons (js1:=[]) (c:=[.int .i64 7]) rfl (made_flat (fun _=>rfl)) (MadeL.cons (js1:=[]) (c:=[.int .i64 99]) rfl (made_flat (fun _=>rfl)) MadeL.nil (by decide)) (by decide)) (by decide)) (by decide)) ?_;clear HS;intro v7 w7 HS F;obtain⟨B7,d7,rfl,m7⟩:=HS.formn 4 2 rfl rfl;refine HS.lend [0,1] (by decide) [.box p0 [.slice Ap1 a0.f0.length cp1,.int .i64 t5.2.f1,.int .i64 t5.2.f2] 110,.box g2 [.slice none 0 0,.int .i64 0,.int .i64 0,.int .i64 0,.int .i64 0,.bool false] 26] rfl (fun A9 HL HD HA HB9=>?_);have gb9_0:=hide_rd HD 2 rfl (by decide);have gb9_1:=hV.hideC up_int HS HL gp1;replace HS:=HA;replace hV:=hide_view A9 w7;clear HA HD HL;(try clear F);replace HS:Hp A9 w7 _ [.box p0 [.slice Ap1 a0.f0.length cp1,.int .i64 t5.2.f1,.int .i64 t5.2.f2] 110,.box g2 [.slice none 0 0,.int .i64 0,.int .i64 0,.int .i64 0,.int .i64 0,.bool false] 26]:=HS;have F:=HS.bx)|((with_reducible refine gd 13 rfl ?_);refine ev_lb [0] HS (fun _ HL HA=>spec_l01PickInt_0.calls ht11.out gb9_1 lp1 gb9_0 m7 (hV.lend HS HL) HA) Tryz.func97 ?_;clear HS;intro wt11 HS F)|((with_reducible refine gd 15 rfl ?_);refine ev_lb [0] HS (fun _ HL HA=>spec_l01Once_0.calls ht13.out gb9_1 lp1 (hV.lend HS HL) HA) Tryz.func98 ?_;clear HS;intro wt13 HS F)|((with_reducible refine gd 3 rfl ?_);refine ev_bx HS ?_;clear HS;intro g3 w3 HS F)|((with_reducible refine gate_store (p:=3) rfl ?_);refine ev_st 2 0 HS (seg:=[.slice none 0 0,.int .i64 t3.1,.int .i64 t5.1,.int .i64 t11.1,.int .i64 0,.bool t13.1]) ?_;clear HS;intro w17 HS F)|((with_reducible refine gd 18 rfl ?_);refine ev_li (Zd.int .i64) [] ([0,0,20,50]:List Int) ([.int .i64 0]++([.int .i64 0]++([.int .i64 20]++([.int .i64 50]++ [])))) HS (MadeL.cons (js1:=[]) (c:=[.int .i64 0]) rfl (made_flat (fun _=>rfl)) (MadeL.cons (js1:=[]) (c:=[.int .i64 0]) rfl (made_flat (fun _=>rfl)) (MadeL.cons (js1:=[]) (c:=[.int .i64 20]) rfl (made_flat (fun _=>rfl)) (MadeL.cons (js1:=[]) (c:=[.int .i64 50]) rfl (made_flat (fun _=>rfl)) MadeL.nil (by decide)) (by decide)) (by decide)) (by decide)) ?_;clear HS;intro v19 w19 HS F;obtain⟨B19,d19,rfl,m19⟩:=HS.formn 4 3 rfl rfl;refine HS.lend [0,1,2] (by decide) [.box p0 [.slice Ap1 a0.f0.length cp1,.int .i64 t13.2.f1,.int .i64 t13.2.f2] 110,.box g2 [.slice none 0 0,.int .i64 0,.int .i64 0,.int .i64 0,.int .i64 0,.bool false] 26,.box g3 [.slice none 0 0,.int .i64 t3.1,.int .i64 t5.1,.int .i64 t11.1,.int .i64 0,.bool t13.1] 26] rfl (fun A21 HL HD HA HB21=>?_);have gb21_0:=hV.hideC up_int HS HL gb9_0;have gb21_1:=hide_rd HD 3 rfl (by decide);have gb21_2:=hV.hideC up_int HS HL gb9_1;replace HS:=HA;replace hV:=hide_view A21 w19;clear HA HD HL;(try clear F);replace HS:Hp A21 w19 _ [.box p0 [.slice Ap1 a0.f0.length cp1,.int .i64 t13.2.f1,.int .i64 t13.2.f2] 110,.box g2 [.slice none 0 0,.int .i64 0,.int .i64 0,.int .i64 0,.int .i64 0,.bool false] 26,.box g3 [.slice none 0 0,.int .i64 t3.1,.int .i64 t5.1,.int .i64 t11.1,.int .i64 0,.bool t13.1] 26]:=HS;have F:=HS.bx)|((with_reducible refine gd 19 rfl ?_);refine ev_lb [0] HS (fun _ HL HA=>spec_l01PickInt_0.calls ht23.out gb21_2 lp1 gb21_1 m19 (hV.lend HS HL) HA) Tryz.func97 ?_;clear HS;intro wt23 HS F)|((with_reducible refine gate_store (p:=20) rfl ?_);refine ev_st 2 4 HS (seg:=[.int .i64 t23.1]) ?_;clear HS;intro w25 HS F))
 replace HS:=HS.nil 9 Zd.string
 go_loopg [4] k (fun kq v_4 w'=>∃(l115:List ByteArray) (v116:Value) (x117:Int) (x118:Int) (x119:Int),v_4=.int .i64 x117∧Aside0 (spec_l14Ask_0.l0 kq l115 x117 x118 x119 a0 t3 t5 t11 t13 t23=some (r1,r2))∧Aside0 (kq≤k)∧Hp A21 w19 w' [.box p0 [.slice Ap1 a0.f0.length cp1,.int .i64 x118,.int .i64 x119] 110,.box g2 [.slice none 0 0,.int .i64 0,.int .i64 0,.int .i64 0,.int .i64 0,.bool false] 26,.box g3 [v116,.int .i64 t3.1,.int .i64 t5.1,.int .i64 t11.1,.int .i64 t23.1,.bool t13.1] 26,.own (Zd.slice 9 Zd.string) l115 [v116]])
 case atStart=>exact⟨_,_,_,_,_,rfl,H,⟨Nat.le_refl _⟩,HS⟩
 case round=>
  clear HS H;(try clear F)
  obtain⟨l115,v116,x117,x118,x119,rfl,H,HKk114,HS⟩:=hrel
  obtain⟨B116,d116,rfl,m116⟩:=HS.form 3 rfl
  have F:=HS.bx
  cases gk with
  |zero=>exact absurd H.out (by simp [spec_l14Ask_0.l0])
  | succ k114=>
   simp only [spec_l14Ask_0.l0] at H
   replace H:=zbind H;obtain⟨t121,ht121,H⟩:=H
   go_upto_if 25 with((with_reducible refine gd 23 rfl ?_);refine ev_lb [0] HS (fun _ HL HA=>spec_l01Below_0.calls ht121.out gb21_2 lp1 (hV.lend HS HL) HA) Tryz.func45 ?_;clear HS;intro wt121 HS F)
   replace H:=znif H;rcases H with⟨c123,H⟩|⟨c123,H⟩
   ·
    (try simp only [c123,dcn])
    obtain⟨rfl,rfl⟩:=zsome2 H
    go_wp2_with ((with_reducible refine gate_store (p:=2) rfl ?_);refine ev_st 1 0 HS (seg:=[.slice B116 l115.length d116,.int .i64 t3.1,.int .i64 t5.1,.int .i64 t11.1,.int .i64 t23.1,.bool t13.1]) ?_;clear HS;intro w160 HS F)
    have HS:=HB21 _ _ HS (Nat.le_of_ble_eq_true rfl)
    have HS:=HB9 _ _ HS (Nat.le_of_ble_eq_true rfl)
    exact rc 1 HS Tryz.underlying26 ⟨_,rfl,HS.pi [0,5]⟩
   (try simp only [c123,dcn])
   replace H:=zbind H;obtain⟨t124,ht124,H⟩:=H
   replace H:=zbind H;obtain⟨t129,ht129,H⟩:=H
   replace H:=znifb H;rcases H with⟨c131,H⟩|⟨c131,H⟩
   ·
    replace H:=zbind H;obtain⟨t151,ht151,H⟩:=H
    replace H:=zgo H;obtain⟨c155,H⟩:=H
    replace H:=zlets H;obtain⟨y156,e_y156,H⟩:=H
    go_wp2_with (first|((with_reducible refine gd 30 rfl ?_);refine ev_lb3 [0] HS (fun _ HL HA=>spec_l13Target_0.calls ht124.out gb21_2 lp1 (hV.lend HS HL) HA) Tryz.func100 ?_;clear HS;intro v125 v126 v127 wt124 HS F;obtain⟨B125,d125,rfl,m125⟩:=HS.form 4 rfl;obtain⟨B126,d126,rfl,m126⟩:=HS.form 5 rfl;obtain⟨B127,d127,rfl,m127⟩:=HS.form 6 rfl;(try simp only [hpn,hpm] at HS);have F:=HS.bx)|((with_reducible refine gd 31 rfl ?_);refine ev_cl HS (spec_CertText.calls ht129.out (HS.rd 4 rfl) m125 (HS.rd 5 rfl) m126 (HS.rd 6 rfl) m127) Tryz.func99 ?_;clear HS;intro wt129 HS F;(try simp only [c131]))|((with_reducible refine gd 41 rfl ?_);refine ev_lb [0] HS (fun _ HL HA=>spec_l01Text_0.calls ht151.out gb21_2 lp1 (hV.lend HS HL) HA) Tryz.func80 ?_;clear HS;intro wt151 HS F)|((with_reducible refine gd 45 rfl ?_);refine ev_li Zd.string [] ([t151.1]:List ByteArray) ([.string t151.1]++ []) HS (MadeL.cons (js1:=[]) (c:=[.string t151.1]) rfl (made_flat (fun _=>rfl)) MadeL.nil (by decide)) ?_;clear HS;intro v153 w153 HS F;obtain⟨B153,d153,rfl,m153⟩:=HS.formn 1 7 rfl rfl)|((with_reducible refine gd 46 rfl ?_);refine ev_ap Zd.string 3 7 HS rfl rfl Tryz.underlying24 info9 (of_eq_true c155) ?_;clear HS;intro v156 w156 HS;rw [←e_y156.out] at HS;obtain⟨B156,d156,rfl,m156⟩:=HS.form 8 rfl;(try simp only [hpn,hpm] at HS);have F:=HS.bx)|((with_reducible refine gate_store (p:=47) rfl ?_);refine ev_st 2 0 HS (seg:=[.slice B156 y156.length d156]) ?_;clear HS;intro w158 HS F))
    go_roundg k114
    case measure=>have:=HKk114.out;omega
    case rel=>exact⟨_,_,_,_,_,rfl,H,⟨by have:=HKk114.out;omega⟩,HS.pi [0,1,2,8]⟩
   replace H:=zbind H;obtain⟨t132,ht132,H⟩:=H
   go_upto_if 39 with(first|((with_reducible refine gd 30 rfl ?_);refine ev_lb3 [0] HS (fun _ HL HA=>spec_l13Target_0.calls ht124.out gb21_2 lp1 (hV.lend HS HL) HA) Tryz.func100 ?_;clear HS;intro v125 v126 v127 wt124 HS F;obtain⟨B125,d125,rfl,m125⟩:=HS.form 4 rfl;obtain⟨B126,d126,rfl,m126⟩:=HS.form 5 rfl;obtain⟨B127,d127,rfl,m127⟩:=HS.form 6 rfl;(try simp only [hpn,hpm] at HS);have F:=HS.bx)|((with_reducible refine gd 31 rfl ?_);refine ev_cl HS (spec_CertText.calls ht129.out (HS.rd 4 rfl) m125 (HS.rd 5 rfl) m126 (HS.rd 6 rfl) m127) Tryz.func99 ?_;clear HS;intro wt129 HS F;(try simp only [c131]))|((with_reducible refine gd 38 rfl ?_);refine HS.lend [0] (by decide) [.box p0 [.slice Ap1 a0.f0.length cp1,.int .i64 t124.2.f1,.int .i64 t124.2.f2] 110] rfl (fun A' HL HD HA HB=>?_);refine gg ?_;refine ev_lc (spec_l01Once_0.calls ht132.out gb21_2 lp1 (hV.lend HS HL) HA) (fun _ HQ=>HB _ _ HQ (Nat.le_of_ble_eq_true rfl)) Tryz.func98 ?_;clear HS HA HB HL HD;intro wt132 HS F))
   replace H:=znifb H;rcases H with⟨c134,H⟩|⟨c134,H⟩
   ·
    (try simp only [c134,dcn])
    replace H:=zgo H;obtain⟨c146,H⟩:=H
    replace H:=zlets H;obtain⟨y147,e_y147,H⟩:=H
    go_wp2_with (first|((with_reducible refine gd 45 rfl ?_);refine ev_li Zd.string [] ([t129.1]:List ByteArray) ([.string t129.1]++ []) HS (MadeL.cons (js1:=[]) (c:=[.string t129.1]) rfl (made_flat (fun _=>rfl)) MadeL.nil (by decide)) ?_;clear HS;intro v144 w144 HS F;obtain⟨B144,d144,rfl,m144⟩:=HS.formn 1 7 rfl rfl)|((with_reducible refine gd 46 rfl ?_);refine ev_ap Zd.string 3 7 HS rfl rfl Tryz.underlying24 info9 (of_eq_true c146) ?_;clear HS;intro v147 w147 HS;rw [←e_y147.out] at HS;obtain⟨B147,d147,rfl,m147⟩:=HS.form 8 rfl;(try simp only [hpn,hpm] at HS);have F:=HS.bx)|((with_reducible refine gate_store (p:=47) rfl ?_);refine ev_st 2 0 HS (seg:=[.slice B147 y147.length d147]) ?_;clear HS;intro w149 HS F))
    go_roundg k114
    case measure=>have:=HKk114.out;omega
    case rel=>exact⟨_,_,_,_,_,rfl,H,⟨by have:=HKk114.out;omega⟩,HS.pi [0,1,2,8]⟩
   (try simp only [c134,dcn])
   replace H:=zbind H;obtain⟨t135,ht135,H⟩:=H
   replace H:=zgo H;obtain⟨c139,H⟩:=H
   replace H:=zlets H;obtain⟨y140,e_y140,H⟩:=H
   go_wp2_with (first|((with_reducible refine gd 41 rfl ?_);refine ev_lb [0] HS (fun _ HL HA=>spec_l01Text_0.calls ht135.out gb21_2 lp1 (hV.lend HS HL) HA) Tryz.func80 ?_;clear HS;intro wt135 HS F)|((with_reducible refine gd 45 rfl ?_);refine ev_li Zd.string [] ([t135.1]:List ByteArray) ([.string t135.1]++ []) HS (MadeL.cons (js1:=[]) (c:=[.string t135.1]) rfl (made_flat (fun _=>rfl)) MadeL.nil (by decide)) ?_;clear HS;intro v137 w137 HS F;obtain⟨B137,d137,rfl,m137⟩:=HS.formn 1 7 rfl rfl)|((with_reducible refine gd 46 rfl ?_);refine ev_ap Zd.string 3 7 HS rfl rfl Tryz.underlying24 info9 (of_eq_true c139) ?_;clear HS;intro v140 w140 HS;rw [←e_y140.out] at HS;obtain⟨B140,d140,rfl,m140⟩:=HS.form 8 rfl;(try simp only [hpn,hpm] at HS);have F:=HS.bx)|((with_reducible refine gate_store (p:=47) rfl ?_);refine ev_st 2 0 HS (seg:=[.slice B140 y140.length d140]) ?_;clear HS;intro w142 HS F))
   go_roundg k114
   case measure=>have:=HKk114.out;omega
   case rel=>exact⟨_,_,_,_,_,rfl,H,⟨by have:=HKk114.out;omega⟩,HS.pi [0,1,2,8]⟩
def spec_l01Long.l0:Nat→(List Int)→Int→Int→Int→Nat→Option (ByteArray)
  |0,_,_,_,_,_=>none
  |k+1,l18,x20,a0,a1,y3=>(if x20<a0 then(if 0≤x20 then(if x20<(y3:Int)then(spec_l01Long.l0 k (l18.set (x20).toNat a1) (wrap64 (x20+1)) a0 a1 y3)else none)else none)else(some (strOfNums l18)))
def spec_l01Long.f (k:Nat)(a0:Int)(a1:Int):Option (ByteArray):=(if 0≤a0 then(if(a0).toNat≤281474976710656 then(lets (a0).toNat fun y3=>(spec_l01Long.l0 k (List.replicate y3 (0:Int)) 0 a0 a1 y3))else none)else none)
theorem spec_l01Long.calls {k:Nat}{a0:Int}{a1:Int}{r:ByteArray}{w:World}(h:spec_l01Long.f k a0 a1=some r):
    Calls Tryz.prog 69 #[.int .i64 a0,.int .u8 a1] w (fun e w'=>e=.returned (.string r)∧Hp noFP w w' []):=by
 have HS:=Hp.start w
 have H:=Aside0.mk h
 clear h
 unfold spec_l01Long.f at H
 go_enter Tryz.func69,Tryz.ntmps69
 replace H:=zgo H;obtain⟨c1,H⟩:=H
 replace H:=zgo H;obtain⟨c2,H⟩:=H
 replace H:=zlets H;obtain⟨y3,e_y3,H⟩:=H
 go_wp2_with ((with_reducible refine gd 8 rfl ?_);refine ev_make rfl (Zd.int .u8) (0:Int) HS rfl a0 rfl rfl Tryz.underlying22 info5 rfl (by decide) (by decide) (fun _ _=>rfl) (of_eq_true c1) (by have:=of_eq_true c2;omega) ?_;clear HS;intro v4 w4 HS;rw [←e_y3.out] at HS;obtain⟨B4,d4,rfl,m4⟩:=HS.formn y3 0 rfl (by first|rfl|simp);(try simp only [hpn,hpm] at HS))
 go_loopg [6] k (fun kq v_6 w'=>∃(l18:List Int) (x20:Int),v_6=.int .i64 x20∧Aside0 (spec_l01Long.l0 kq l18 x20 a0 a1 y3=some r)∧Aside0 (kq≤k)∧Hp noFP w w' [.own (Zd.slice 5 (Zd.int .u8)) l18 [.slice B4 y3 d4]])
 case atStart=>exact⟨_,_,rfl,H,⟨Nat.le_refl _⟩,HS⟩
 case round=>
  clear HS H;(try clear F)
  obtain⟨l18,x20,rfl,H,HKk17,HS⟩:=hrel
  cases gk with
  |zero=>exact absurd H.out (by simp [spec_l01Long.l0])
  | succ k17=>
   simp only [spec_l01Long.l0] at H
   replace H:=znif H;rcases H with⟨c22,H⟩|⟨c22,H⟩
   ·
    obtain rfl:=zsome H
    go_wp2_with ((with_reducible refine gd 19 rfl ?_);refine ev_val rfl (run_str rfl rfl Tryz.underlying22 Tryz.underlying5 Tryz.underlying9 (HS.rd 0 rfl)) ?_)
    go_ret
    exact HS.pk
   replace H:=zgo H;obtain⟨c23,H⟩:=H
   replace H:=zgo H;obtain⟨c24,H⟩:=H
   obtain⟨ad25,rfl,e25_0⟩:=Kd.at_int (HS.rd 0 rfl) x20 (of_eq_true c23) (of_eq_true c24)
   go_wp2_with ((with_reducible refine gate_store (p:=17) rfl ?_);refine ev_set rfl (Zd.int .u8) 0 [] x20 a1 HS (seg:=[.int .u8 a1]) rfl (by decide) rfl rfl rfl (by first|rfl|exact(Nat.mul_one _).symm) rfl rfl (by kernel_rfl) (by simp [Value.oneCell']) ⟨of_eq_true c23,of_eq_true c24⟩ rfl (made_flat (fun _=>rfl)) ?_;clear HS;intro w26 HS;(try simp only [hpn,hpm] at HS))
   go_roundg k17
   case measure=>have:=HKk17.out;omega
   case rel=>exact⟨_,_,rfl,H,⟨by have:=HKk17.out;omega⟩,HS.pi [0]⟩
def spec_l14Any_0.f (k:Nat)(a0:S110):Option (S26×S110):=((spec_l01Below_0.f a0 12).bind fun t3=>((spec_l01Below_0.f (⟨a0.f0,t3.2.f1,t3.2.f2⟩:S110) 60).bind fun t5=>((spec_l14Ask_0.f k (⟨a0.f0,t5.2.f1,t5.2.f2⟩:S110)).bind fun t7=>((spec_l14Copy.f t7.1).bind fun t10=>(if t3.1=0 then(some ((⟨([]:List ByteArray),t10.f1,t10.f2,t10.f3,t10.f4,t10.f5⟩:S26),(⟨a0.f0,t7.2.f1,t7.2.f2⟩:S110)))else(if t3.1=1 then((spec_l01Long.f k (wrap64 (400+(Int.tmod t5.1 2))) 97).bind fun t6=>(if t10.f0.length+1≤8796093022208 then(lets (t10.f0++([t6]:List ByteArray)) fun y14=>(some ((⟨y14,t10.f1,t10.f2,t10.f3,t10.f4,t10.f5⟩:S26),(⟨a0.f0,t7.2.f1,t7.2.f2⟩:S110))))else none))else(if t3.1=2 then(if 0≤(Int.tmod t5.1 3)then(if(Int.tmod t5.1 3)<(3:Int)then(some ((⟨t10.f0,(rd ([(-1),99,100]:List Int) (Int.tmod t5.1 3)),t10.f2,t10.f3,t10.f4,t10.f5⟩:S26),(⟨a0.f0,t7.2.f1,t7.2.f2⟩:S110)))else none)else none)else(if t3.1=3 then(some ((⟨t10.f0,t10.f1,(Int.tmod t5.1 6),t10.f3,t10.f4,t10.f5⟩:S26),(⟨a0.f0,t7.2.f1,t7.2.f2⟩:S110)))else(if t3.1=4 then(if 0≤(Int.tmod t5.1 3)then(if(Int.tmod t5.1 3)<(3:Int)then(some ((⟨t10.f0,t10.f1,t10.f2,(rd ([(-1),1000000000,1000000001]:List Int) (Int.tmod t5.1 3)),t10.f4,t10.f5⟩:S26),(⟨a0.f0,t7.2.f1,t7.2.f2⟩:S110)))else none)else none)else(some ((⟨t10.f0,t10.f1,t10.f2,t10.f3,t10.f4,t10.f5⟩:S26),(⟨a0.f0,t7.2.f1,t7.2.f2⟩:S110))))))))))))
def spec_l14Any_0.T8:TT:=(true,[([],[]),([0],[0]),([],[]),([2],[2]),([3],[3]),([4],[4]),([5],[5]),([1,6,5],[1,6]),([0,1,2,3,4,5,6,7],[]),([8,7,7,0,1,2,3,4,5,6,7],[7,8])])
theorem spec_l14Any_0.tT8:rtab .any (opsOf Tryz.f28 8)=spec_l14Any_0.T8:=by kernel_rfl
theorem spec_l14Any_0.calls {k:Nat}{a0:S110}{A:FP}{p0:Nat}{Ap1:Option Addr}{np1 cp1:Nat}{wv:World}{r1:S26}{r2:S110}{w:World}(h:spec_l14Any_0.f k a0=some (r1,r2))(gp1:(Kd.int .u8).C wv Ap1 np1 a0.f0)(lp1:np1≤cp1)(hV:View A w wv)(HS:Hp A w w [.box p0 [.slice Ap1 np1 cp1,.int .i64 a0.f1,.int .i64 a0.f2] 110]):
    Calls Tryz.prog 28 #[.pointer (some ⟨p0,0,none⟩)] w (fun e w'=>∃v0_:Value,e=.returned (.agg #[v0_,.int .i64 r1.f1,.int .i64 r1.f2,.int .i64 r1.f3,.int .i64 r1.f4,.bool r1.f5])∧Hp A w w' [.box p0 [.slice Ap1 np1 cp1,.int .i64 r2.f1,.int .i64 r2.f2] 110,.own (Zd.slice 9 Zd.string) r1.f0 [v0_]]):=by
 obtain rfl:=C_len gp1
 have H:=Aside0.mk h
 clear h
 unfold spec_l14Any_0.f at H
 go_enter Tryz.func28,Tryz.ntmps28
 have F:=HS.bx
 replace H:=zbind H;obtain⟨t3,ht3,H⟩:=H
 replace H:=zbind H;obtain⟨t5,ht5,H⟩:=H
 replace H:=zbind H;obtain⟨t7,ht7,H⟩:=H
 replace H:=zbind H;obtain⟨t10,ht10,H⟩:=H
 go_upto_if 14 with(first|((with_reducible refine gd 2 rfl ?_);refine ev_bx HS ?_;clear HS;intro g2 w2 HS F)|((with_reducible refine gd 7 rfl ?_);refine ev_lb [0] HS (fun _ HL HA=>spec_l01Below_0.calls ht3.out gp1 lp1 (hV.lend HS HL) HA) Tryz.func45 ?_;clear HS;intro wt3 HS F)|((with_reducible refine gd 9 rfl ?_);refine ev_lb [0] HS (fun _ HL HA=>spec_l01Below_0.calls ht5.out gp1 lp1 (hV.lend HS HL) HA) Tryz.func45 ?_;clear HS;intro wt5 HS F)|((with_reducible refine gd 11 rfl ?_);refine ev_lb1 [0] HS (fun _ HL HA=>spec_l14Ask_0.calls ht7.out gp1 lp1 (hV.lend HS HL) HA) Tryz.func68 ?_;clear HS;intro v8 wt7 HS F;obtain⟨B8,d8,rfl,m8⟩:=HS.form 2 rfl;(try simp only [hpn,hpm] at HS);have F:=HS.bx)|((with_reducible refine gd 12 rfl ?_);refine ev_cl1 HS (spec_l14Copy.calls ht10.out (HS.rd 2 rfl) m8) Tryz.func67 ?_;clear HS;intro v11 wt10 HS F;obtain⟨B11,d11,rfl,m11⟩:=HS.form 3 rfl)|((with_reducible refine gd 5 rfl ?_);refine ev_bx HS ?_;clear HS;intro g5 w5 HS F)|((with_reducible refine gate_store (p:=5) rfl ?_);refine ev_st 4 0 HS (seg:=[.slice B11 t10.f0.length d11,.int .i64 t10.f1,.int .i64 t10.f2,.int .i64 t10.f3,.int .i64 t10.f4,.bool t10.f5]) ?_;clear HS;intro w15 HS F))
 replace H:=zif' H;rcases H with⟨c17,H⟩|⟨c17,H⟩
 ·
  obtain⟨c17a,c17b⟩:=bq c17;clear c17
  (try simp only [c17a,c17b,dcn])
  obtain⟨rfl,rfl⟩:=zsome2 H
  go_wp2_with (first|((with_reducible refine gd 16 rfl ?_);refine ev_li Zd.string [] ([]:List ByteArray) [] HS MadeL.nil ?_;clear HS;intro v18 w18 HS F;obtain⟨B18,d18,rfl,m18⟩:=HS.formn 0 5 rfl rfl)|((with_reducible refine gate_store (p:=17) rfl ?_);refine ev_st 4 0 HS (seg:=[.slice B18 0 d18]) ?_;clear HS;intro w20 HS F)|((with_reducible refine gate_store (p:=2) rfl ?_);refine ev_st 1 0 HS (seg:=[.slice B18 0 d18,.int .i64 t10.f1,.int .i64 t10.f2,.int .i64 t10.f3,.int .i64 t10.f4,.bool t10.f5]) ?_;clear HS;intro w22 HS F))
  exact rc 1 HS Tryz.underlying26 ⟨_,rfl,HS.pi [0,5]⟩
 obtain⟨c17a,c17b⟩:=nq c17;clear c17
 (try simp only [c17a,c17b,dcn])
 replace H:=zif' H;rcases H with⟨c24,H⟩|⟨c24,H⟩
 ·
  obtain⟨c24a,c24b⟩:=bq c24;clear c24
  (try go_wp2)
  replace H:=zbind H;obtain⟨t6,ht6,H⟩:=H
  replace H:=zgo H;obtain⟨c13,H⟩:=H
  replace H:=zlets H;obtain⟨y14,e_y14,H⟩:=H
  refine dr_start2 [.box p0 [.slice Ap1 a0.f0.length cp1,.int .i64 t7.2.f1,.int .i64 t7.2.f2] 110,.box g2 [.slice none 0 0,.int .i64 0,.int .i64 0,.int .i64 0,.int .i64 0,.bool false] 26,.own (Zd.slice 9 Zd.string) t7.1.f0 [.slice B8 t7.1.f0.length d8],.emp,.box g5 [.slice B11 t10.f0.length d11,.int .i64 t10.f1,.int .i64 t10.f2,.int .i64 t10.f3,.int .i64 t10.f4,.bool t10.f5] 26] [9] HS (HS.ar [some 0,some 1,some 2,none,some 4]) #[false,false,false,false,false,false,false,false,false,false] (by kernel_rfl) rfl rfl spec_l14Any_0.tT8 (fun w26 HT HS HH=>?_)
  (try clear F)
  refine dqt [0,1,2,3,4] HT HH ?_
  refine dr1 5 HT fun K hK=>?_
  refine go_cl HS (spec_l01Long.calls ht6.out) Tryz.func69 ?_;clear HS;intro wt6 HS F
  refine nra 25 hK (HS.ar [some 0,some 1,some 2,none,some 4]) fun HH=>?_;clear hK K
  refine dr1 6 HT fun K hK=>?_
  refine if_li Zd.string [] ([t6]:List ByteArray) ([.string t6]++ []) HS (MadeL.cons (js1:=[]) (c:=[.string t6]) rfl (made_flat (fun _=>rfl)) MadeL.nil (by decide)) ?_;clear HS;intro v12 w12 HS F;obtain⟨B12,d12,rfl,m12⟩:=HS.formn 1 5 rfl rfl
  refine nra 26 hK (HS.ar [some 0,some 1,some 2,none,some 4]) fun HH=>?_;clear hK K
  refine dr1 7 HT fun K hK=>?_
  refine wp_ap Zd.string 3 5 HS rfl rfl Tryz.underlying24 info9 (of_eq_true c13) ?_;clear HS;intro v14 w14 HS;rw [←e_y14.out] at HS;obtain⟨B14,d14,rfl,m14⟩:=HS.form 6 rfl
  (try simp only [hpn,hpm] at HS)
  have F:=HS.bx
  refine nra 27 hK (HS.ar [some 0,some 1,some 2,none,some 4]) fun HH=>?_;clear hK K
  refine dq [8] HT ?_
  refine dl 9 HT fun K hK=>?_
  refine if_st 4 0 HS (seg:=[.slice B14 y14.length d14]) ?_;clear HS;intro w16 HS F
  refine hK.out _ _ ?_
  clear hK K
  refine dn HT ?_
  (try clear F)
  have F:=HS.bx
  obtain⟨rfl,rfl⟩:=zsome2 H
  go_wp2_with ((with_reducible refine gate_store (p:=2) rfl ?_);refine ev_st 1 0 HS (seg:=[.slice B14 y14.length d14,.int .i64 t10.f1,.int .i64 t10.f2,.int .i64 t10.f3,.int .i64 t10.f4,.bool t10.f5]) ?_;clear HS;intro w28 HS F)
  exact rc 1 HS Tryz.underlying26 ⟨_,rfl,HS.pi [0,6]⟩
 obtain⟨c24a,c24b⟩:=nq c24;clear c24
 replace H:=zif' H;rcases H with⟨c30,H⟩|⟨c30,H⟩
 ·
  obtain⟨c30a,c30b⟩:=bq c30;clear c30
  replace H:=zgo H;obtain⟨c33,H⟩:=H
  replace H:=zgo H;obtain⟨c34,H⟩:=H
  obtain⟨rfl,rfl⟩:=zsome2 H
  go_wp2_with (first|((with_reducible refine gd 31 rfl ?_);refine ev_li (Zd.int .i64) [] ([(-1),99,100]:List Int) ([.int .i64 (-1)]++([.int .i64 99]++([.int .i64 100]++ []))) HS (MadeL.cons (js1:=[]) (c:=[.int .i64 (-1)]) rfl (made_flat (fun _=>rfl)) (MadeL.cons (js1:=[]) (c:=[.int .i64 99]) rfl (made_flat (fun _=>rfl)) (MadeL.cons (js1:=[]) (c:=[.int .i64 100]) rfl (made_flat (fun _=>rfl)) MadeL.nil (by decide)) (by decide)) (by decide)) ?_;clear HS;intro v31 w31 HS F;obtain⟨B31,d31,rfl,m31⟩:=HS.formn 3 5 rfl rfl;obtain⟨ad35,rfl,e35_0⟩:=Kd.at_int (HS.rd 5 rfl) (Int.tmod t5.1 3) (of_eq_true c33) (of_eq_true c34))|((with_reducible refine gate_store (p:=36) rfl ?_);refine ev_st 4 1 HS (seg:=[.int .i64 (rd ([(-1),99,100]:List Int) (Int.tmod t5.1 3))]) ?_;clear HS;intro w36 HS F)|((with_reducible refine gate_store (p:=2) rfl ?_);refine ev_st 1 0 HS (seg:=[.slice B11 t10.f0.length d11,.int .i64 (rd ([(-1),99,100]:List Int) (Int.tmod t5.1 3)),.int .i64 t10.f2,.int .i64 t10.f3,.int .i64 t10.f4,.bool t10.f5]) ?_;clear HS;intro w38 HS F))
  exact rc 1 HS Tryz.underlying26 ⟨_,rfl,HS.pi [0,3]⟩
 obtain⟨c30a,c30b⟩:=nq c30;clear c30
 replace H:=zif' H;rcases H with⟨c40,H⟩|⟨c40,H⟩
 ·
  obtain⟨c40a,c40b⟩:=bq c40;clear c40
  obtain⟨rfl,rfl⟩:=zsome2 H
  go_wp2_with (first|((with_reducible refine gate_store (p:=41) rfl ?_);refine ev_st 4 2 HS (seg:=[.int .i64 (Int.tmod t5.1 6)]) ?_;clear HS;intro w41 HS F)|((with_reducible refine gate_store (p:=2) rfl ?_);refine ev_st 1 0 HS (seg:=[.slice B11 t10.f0.length d11,.int .i64 t10.f1,.int .i64 (Int.tmod t5.1 6),.int .i64 t10.f3,.int .i64 t10.f4,.bool t10.f5]) ?_;clear HS;intro w43 HS F))
  exact rc 1 HS Tryz.underlying26 ⟨_,rfl,HS.pi [0,3]⟩
 obtain⟨c40a,c40b⟩:=nq c40;clear c40
 replace H:=znif' H;rcases H with⟨c45,H⟩|⟨c45,H⟩
 ·
  obtain⟨c45a,c45b⟩:=nq c45;clear c45
  obtain⟨rfl,rfl⟩:=zsome2 H
  go_wp2_with ((with_reducible refine gate_store (p:=2) rfl ?_);refine ev_st 1 0 HS (seg:=[.slice B11 t10.f0.length d11,.int .i64 t10.f1,.int .i64 t10.f2,.int .i64 t10.f3,.int .i64 t10.f4,.bool t10.f5]) ?_;clear HS;intro w55 HS F)
  exact rc 1 HS Tryz.underlying26 ⟨_,rfl,HS.pi [0,3]⟩
 obtain⟨c45a,c45b⟩:=bq c45;clear c45
 replace H:=zgo H;obtain⟨c48,H⟩:=H
 replace H:=zgo H;obtain⟨c49,H⟩:=H
 obtain⟨rfl,rfl⟩:=zsome2 H
 go_wp2_with (first|((with_reducible refine gd 44 rfl ?_);refine ev_li (Zd.int .i64) [] ([(-1),1000000000,1000000001]:List Int) ([.int .i64 (-1)]++([.int .i64 1000000000]++([.int .i64 1000000001]++ []))) HS (MadeL.cons (js1:=[]) (c:=[.int .i64 (-1)]) rfl (made_flat (fun _=>rfl)) (MadeL.cons (js1:=[]) (c:=[.int .i64 1000000000]) rfl (made_flat (fun _=>rfl)) (MadeL.cons (js1:=[]) (c:=[.int .i64 1000000001]) rfl (made_flat (fun _=>rfl)) MadeL.nil (by decide)) (by decide)) (by decide)) ?_;clear HS;intro v46 w46 HS F;obtain⟨B46,d46,rfl,m46⟩:=HS.formn 3 5 rfl rfl;obtain⟨ad50,rfl,e50_0⟩:=Kd.at_int (HS.rd 5 rfl) (Int.tmod t5.1 3) (of_eq_true c48) (of_eq_true c49))|((with_reducible refine gate_store (p:=49) rfl ?_);refine ev_st 4 3 HS (seg:=[.int .i64 (rd ([(-1),1000000000,1000000001]:List Int) (Int.tmod t5.1 3))]) ?_;clear HS;intro w51 HS F)|((with_reducible refine gate_store (p:=2) rfl ?_);refine ev_st 1 0 HS (seg:=[.slice B11 t10.f0.length d11,.int .i64 t10.f1,.int .i64 t10.f2,.int .i64 (rd ([(-1),1000000000,1000000001]:List Int) (Int.tmod t5.1 3)),.int .i64 t10.f4,.bool t10.f5]) ?_;clear HS;intro w53 HS F))
 exact rc 1 HS Tryz.underlying26 ⟨_,rfl,HS.pi [0,3]⟩
def spec_l01New.l0:Nat→Int→Int→(List Int)→Option (S110)
  |0,_,_,_=>none
  |k+1,x9,x10,a0=>(if x10<(a0.length:Int)then(if x10<4000 then(if 0≤x10 then(if x10<(a0.length:Int)then(spec_l01New.l0 k (Go.bits .and .i64 (wrap64 ((wrap64 ((wrap64 (x9 * 131))+(wrap64 (rd a0 x10))))+7)) 1073741823) (wrap64 (x10+1)) a0)else none)else none)else(some (⟨a0,0,x9⟩:S110)))else(some (⟨a0,0,x9⟩:S110)))
def spec_l01New.f (k:Nat)(a0:(List Int)):Option (S110):=(spec_l01New.l0 k (wrap64 (78401+(a0.length:Int))) 0 a0)
theorem spec_l01New.calls {k:Nat}{a0:(List Int)}{Ap0:Option Addr}{np0 cp0:Nat}{r:S110}{w:World}(h:spec_l01New.f k a0=some r)(gp0:(Kd.int .u8).C w Ap0 np0 a0)(lp0:np0≤cp0):
    Calls Tryz.prog 29 #[.slice Ap0 np0 cp0] w (fun e w'=>∃gq_:Nat,e=.returned (.pointer (some ⟨gq_,0,none⟩))∧Hp noFP w w' [.box gq_ [.slice Ap0 np0 cp0,.int .i64 r.f1,.int .i64 r.f2] 110]):=by
 obtain rfl:=C_len gp0
 have HS:=Hp.start w
 have H:=Aside0.mk h
 clear h
 unfold spec_l01New.f at H
 go_enter Tryz.func29,Tryz.ntmps29
 go_wp2
 go_loopg [3,4] k (fun kq v_3 v_4 w'=>∃(x9:Int) (x10:Int),v_3=.int .i64 x9∧v_4=.int .i64 x10∧Aside0 (spec_l01New.l0 kq x9 x10 a0=some r)∧Aside0 (kq≤k)∧Hp noFP w w' [])
 case atStart=>exact⟨_,_,rfl,rfl,H,⟨Nat.le_refl _⟩,HS⟩
 case round=>
  clear HS H;(try clear F)
  obtain⟨x9,x10,rfl,rfl,H,HKk8,HS⟩:=hrel
  cases gk with
  |zero=>exact absurd H.out (by simp [spec_l01New.l0])
  | succ k8=>
   simp only [spec_l01New.l0] at H
   replace H:=znif H;rcases H with⟨c12,H⟩|⟨c12,H⟩
   ·
    obtain rfl:=zsome H
    go_wp2_with ((with_reducible refine gd 31 rfl ?_);refine ev_bx HS ?_;clear HS;intro g31 w31 HS F)
    exact r1 ⟨_,rfl,HS.pi [0]⟩
   replace H:=znif H;rcases H with⟨c13,H⟩|⟨c13,H⟩
   ·
    obtain rfl:=zsome H
    go_wp2_with ((with_reducible refine gd 31 rfl ?_);refine ev_bx HS ?_;clear HS;intro g31 w31 HS F)
    exact r1 ⟨_,rfl,HS.pi [0]⟩
   replace H:=zgo H;obtain⟨c14,H⟩:=H
   replace H:=zgo H;obtain⟨c15,H⟩:=H
   obtain⟨ad16,rfl,e16_0⟩:=Kd.at_int gp0 x10 (of_eq_true c14) (of_eq_true c15)
   have e16_0_16:=HS.keepc e16_0
   go_wp2
   go_roundg k8
   case measure=>have:=HKk8.out;omega
   case rel=>exact⟨_,_,rfl,rfl,H,⟨by have:=HKk8.out;omega⟩,HS.pi []⟩
def spec_l16Plans.f:Option ((List S39)):=(some ([(⟨0,([0]:List Int),(⟨0,([]:List Int),false,false,0⟩:S37)⟩:S39),(⟨1,([0]:List Int),(⟨0,([1]:List Int),true,true,0⟩:S37)⟩:S39)]:List S39))
theorem spec_l16Plans.calls {r:(List S39)}{w:World}(h:spec_l16Plans.f=some r):
    Calls Tryz.prog 84 #[] w (fun e w'=>∃v0_:Value,e=.returned (v0_)∧Hp noFP w w' [.own (Zd.slice 39 q39) r [v0_]]):=by
 have HS:=Hp.start w
 have H:=Aside0.mk h
 clear h
 unfold spec_l16Plans.f at H
 go_enter Tryz.func84,Tryz.ntmps84
 obtain rfl:=zsome H
 go_wp2_with (first|((with_reducible refine gd 1 rfl ?_);refine ev_li (Zd.int .i64) [] ([0]:List Int) ([.int .i64 0]++ []) HS (MadeL.cons (js1:=[]) (c:=[.int .i64 0]) rfl (made_flat (fun _=>rfl)) MadeL.nil (by decide)) ?_;clear HS;intro v1 w1 HS F;obtain⟨B1,d1,rfl,m1⟩:=HS.formn 1 0 rfl rfl)|((with_reducible refine gd 3 rfl ?_);refine ev_li (Zd.int .i64) [] ([0]:List Int) ([.int .i64 0]++ []) HS (MadeL.cons (js1:=[]) (c:=[.int .i64 0]) rfl (made_flat (fun _=>rfl)) MadeL.nil (by decide)) ?_;clear HS;intro v3 w3 HS F;obtain⟨B3,d3,rfl,m3⟩:=HS.formn 1 1 rfl rfl)|((with_reducible refine gd 4 rfl ?_);refine ev_li (Zd.int .i64) [] ([1]:List Int) ([.int .i64 1]++ []) HS (MadeL.cons (js1:=[]) (c:=[.int .i64 1]) rfl (made_flat (fun _=>rfl)) MadeL.nil (by decide)) ?_;clear HS;intro v5 w5 HS F;obtain⟨B5,d5,rfl,m5⟩:=HS.formn 1 2 rfl rfl)|((with_reducible refine gd 7 rfl ?_);replace HS:=HS.nil 3 (Zd.int .i64);refine ev_li q39 [0,3,1,2] ([(⟨0,([0]:List Int),(⟨0,([]:List Int),false,false,0⟩:S37)⟩:S39),(⟨1,([0]:List Int),(⟨0,([1]:List Int),true,true,0⟩:S37)⟩:S39)]:List S39) ([.int .i64 0,.slice B1 1 d1,.int .i64 0,.slice none 0 0,.bool false,.bool false,.int .i64 0]++([.int .i64 1,.slice B3 1 d3,.int .i64 0,.slice B5 1 d5,.bool true,.bool true,.int .i64 0]++ [])) HS (MadeL.cons (js1:=[0,3]) (c:=[.int .i64 0,.slice B1 1 d1,.int .i64 0,.slice none 0 0,.bool false,.bool false,.int .i64 0]) rfl (fun S hd hh=>q39_pack (x:=(⟨0,([0]:List Int),(⟨0,([]:List Int),false,false,0⟩:S37)⟩:S39)) hd (hh 0 (.own (Zd.slice 3 (Zd.int .i64)) ([0]:List Int) [.slice B1 1 d1]) rfl) (hh 3 (.own (Zd.slice 3 (Zd.int .i64)) [] [.slice none 0 0]) rfl) (by decide)) (MadeL.cons (js1:=[1,2]) (c:=[.int .i64 1,.slice B3 1 d3,.int .i64 0,.slice B5 1 d5,.bool true,.bool true,.int .i64 0]) rfl (fun S hd hh=>q39_pack (x:=(⟨1,([0]:List Int),(⟨0,([1]:List Int),true,true,0⟩:S37)⟩:S39)) hd (hh 1 (.own (Zd.slice 3 (Zd.int .i64)) ([0]:List Int) [.slice B3 1 d3]) rfl) (hh 2 (.own (Zd.slice 3 (Zd.int .i64)) ([1]:List Int) [.slice B5 1 d5]) rfl) (by decide)) MadeL.nil (by decide)) (by decide)) ?_;clear HS;intro v7 w7 HS F;obtain⟨B7,d7,rfl,m7⟩:=HS.formn 2 4 rfl rfl))
 exact r1 ⟨_,rfl,HS.pi [4]⟩
def spec_l16Any_0.f (k:Nat)(a0:S110):Option ((List S39)×S110):=((spec_l01Below_0.f a0 10).bind fun t1=>((spec_l01Below_0.f (⟨a0.f0,t1.2.f1,t1.2.f2⟩:S110) 60).bind fun t3=>((spec_l16Plans.f).bind fun t7=>(if(t7.length:Int)≤1000 then(if t1.1=0 then(if 0<(t7.length:Int)then(lets (t7.set (0:Int).toNat (u39_0_3 (rd_T39 t7 0) t3.1)) fun y17=>(some (y17,(⟨a0.f0,t3.2.f1,t3.2.f2⟩:S110))))else none)else(if t1.1=1 then(if 1<(t7.length:Int)then(lets (t7.set (1:Int).toNat (u39_1_35 (rd_T39 t7 1) ([0,(Int.tmod t3.1 4)]:List Int))) fun y25=>(some (y25,(⟨a0.f0,t3.2.f1,t3.2.f2⟩:S110))))else none)else(if t1.1=2 then(if 1<(t7.length:Int)then(lets (t7.set (1:Int).toNat (u39_6_3 (rd_T39 t7 1) (Int.tmod t3.1 10))) fun y31=>(some (y31,(⟨a0.f0,t3.2.f1,t3.2.f2⟩:S110))))else none)else(if t1.1=3 then(if t7.length+1≤1759218604441 then(lets (t7++([(⟨5,([]:List Int),(⟨0,([]:List Int),false,false,0⟩:S37)⟩:S39)]:List S39)) fun y37=>(some (y37,(⟨a0.f0,t3.2.f1,t3.2.f2⟩:S110))))else none)else(some (t7,(⟨a0.f0,t3.2.f1,t3.2.f2⟩:S110)))))))else none))))
theorem spec_l16Any_0.calls {k:Nat}{a0:S110}{A:FP}{p0:Nat}{Ap1:Option Addr}{np1 cp1:Nat}{wv:World}{r1:(List S39)}{r2:S110}{w:World}(h:spec_l16Any_0.f k a0=some (r1,r2))(gp1:(Kd.int .u8).C wv Ap1 np1 a0.f0)(lp1:np1≤cp1)(hV:View A w wv)(HS:Hp A w w [.box p0 [.slice Ap1 np1 cp1,.int .i64 a0.f1,.int .i64 a0.f2] 110]):
    Calls Tryz.prog 57 #[.pointer (some ⟨p0,0,none⟩)] w (fun e w'=>∃v0_:Value,e=.returned (v0_)∧Hp A w w' [.box p0 [.slice Ap1 np1 cp1,.int .i64 r2.f1,.int .i64 r2.f2] 110,.own (Zd.slice 39 q39) r1 [v0_]]):=by
 obtain rfl:=C_len gp1
 have H:=Aside0.mk h
 clear h
 unfold spec_l16Any_0.f at H
 go_enter Tryz.func57,Tryz.ntmps57
 have F:=HS.bx
 replace H:=zbind H;obtain⟨t1,ht1,H⟩:=H
 replace H:=zbind H;obtain⟨t3,ht3,H⟩:=H
 replace H:=zbind H;obtain⟨t7,ht7,H⟩:=H
 replace H:=zgo H;obtain⟨c11,H⟩:=H
 go_wp2_with (first|((with_reducible refine gd 9 rfl ?_);refine ev_lb [0] HS (fun _ HL HA=>spec_l01Below_0.calls ht1.out gp1 lp1 (hV.lend HS HL) HA) Tryz.func45 ?_;clear HS;intro wt1 HS F)|((with_reducible refine gd 11 rfl ?_);refine ev_lb [0] HS (fun _ HL HA=>spec_l01Below_0.calls ht3.out gp1 lp1 (hV.lend HS HL) HA) Tryz.func45 ?_;clear HS;intro wt3 HS F)|((with_reducible refine gd 12 rfl ?_);refine ev_li q39 [] ([]:List S39) [] HS MadeL.nil ?_;clear HS;intro v5 w5 HS F;obtain⟨B5,d5,rfl,m5⟩:=HS.formn 0 1 rfl rfl)|((with_reducible refine gd 13 rfl ?_);refine ev_call rfl Tryz.func84 (by kernel_rfl) rfl #[] rfl (by simp only [mpn]) ?_;refine(spec_l16Plans.calls ht7.out).mono ?_;rintro _ wt7 ⟨v8,rfl,HQ⟩;refine⟨_,rfl,?_⟩;replace HS:=HS.call HQ;clear HQ;(try clear F);obtain⟨B8,d8,rfl,m8⟩:=HS.form 2 rfl;(try simp only [hpn,hpm] at HS);have F:=HS.bx))
 obtain⟨in10,HS⟩:=HS.fix_row 2 rfl
 replace HS:=HS.raw_nil (n:=7) 1 rfl rfl
 (try simp only [hpn,hpm] at HS)
 (try clear F)
 go_loopg [5,7] t7.length (fun kq v_5 v_7 w'=>∃(x10:Int) (l10:List (List Value)),v_7=.int .i64 x10∧0≤x10∧x10+kq=(t7.length:Int)∧l10=chunks in10 7 x10.toNat∧Hp A w w' [.box p0 [.slice Ap1 a0.f0.length cp1,.int .i64 t3.2.f1,.int .i64 t3.2.f2] 110,.own (Zd.slice 39 (Zd.raw 7)) l10 [v_5],.own (Zd.fixed 39 q39 in10) t7 [.slice B8 t7.length d8]])
 case atStart=>exact⟨0,[],rfl,Int.le_refl _,by simp,rfl,HS⟩
 case round=>
  clear HS;(try clear F)
  obtain⟨x10,l10,rfl,h010,hk10,hl10,HS⟩:=hrel
  have F:=HS.bx
  have hc010:=of_eq_true c11
  by_cases c10:x10<(t7.length:Int)
  case pos=>
   cases gk with
   |zero=>exact absurd c10 (by omega)
   | succ gk=>
    obtain⟨Bl10,dl10,rfl,ml10⟩:=HS.form 1 rfl
    have hll10:Aside0 (l10.length=x10.toNat):=⟨by rw [hl10,chunks_len]⟩
    replace hl10:=Aside0.mk hl10
    obtain⟨ad10,A10_1,c10_1,A10_3,c10_3,hB10,e10_0,e10_1,e10_2,e10_3,e10_4,e10_5,e10_6,m10_1,g10_1,m10_3,g10_3⟩:=at_T39 (HS.rdf 2 rfl) x10 h010 c10
    subst hB10
    have hch10:=Aside0.mk <| HS.chunk (vs:=[.int .i64 (rd_T39 t7 x10).f0,.slice A10_1 (rd_T39 t7 x10).f1.length c10_1,.int .i64 (rd_T39 t7 x10).f2.f0,.slice A10_3 (rd_T39 t7 x10).f2.f1.length c10_3,.bool (rd_T39 t7 x10).f2.f2,.bool (rd_T39 t7 x10).f2.f3,.int .i64 (rd_T39 t7 x10).f2.f4]) (j:=x10.toNat) (m:=7) 2 rfl rfl (by omega) rfl (fun q hq=>match q,hq with|0,_=>e10_0|1,_=>(by rw [add_field _ _ 1 (by omega)];exact e10_1)|2,_=>(by rw [add_field _ _ 2 (by omega)];exact e10_2)|3,_=>(by rw [add_field _ _ 3 (by omega)];exact e10_3)|4,_=>(by rw [add_field _ _ 4 (by omega)];exact e10_4)|5,_=>(by rw [add_field _ _ 5 (by omega)];exact e10_5)|6,_=>(by rw [add_field _ _ 6 (by omega)];exact e10_6)|q+7,hq=>absurd hq (by omega))
    have hw10:wrap64 (x10+1)=x10+1:=by unfold wrap64;omega
    have c10a:=eq_true c10;have h010a:=eq_true h010
    obtain⟨ln10,eln10⟩:∃z,Aside0 (l10++ [[.int .i64 (rd_T39 t7 x10).f0,.slice A10_1 (rd_T39 t7 x10).f1.length c10_1,.int .i64 (rd_T39 t7 x10).f2.f0,.slice A10_3 (rd_T39 t7 x10).f2.f1.length c10_3,.bool (rd_T39 t7 x10).f2.f2,.bool (rd_T39 t7 x10).f2.f3,.int .i64 (rd_T39 t7 x10).f2.f4]]=z):=⟨_,⟨rfl⟩⟩
    go_wp2_with (first|((with_reducible refine gd 25 rfl ?_);refine ev_li (Zd.raw 7) [] [[.int .i64 (rd_T39 t7 x10).f0,.slice A10_1 (rd_T39 t7 x10).f1.length c10_1,.int .i64 (rd_T39 t7 x10).f2.f0,.slice A10_3 (rd_T39 t7 x10).f2.f1.length c10_3,.bool (rd_T39 t7 x10).f2.f2,.bool (rd_T39 t7 x10).f2.f3,.int .i64 (rd_T39 t7 x10).f2.f4]] ([.int .i64 (rd_T39 t7 x10).f0,.slice A10_1 (rd_T39 t7 x10).f1.length c10_1,.int .i64 (rd_T39 t7 x10).f2.f0,.slice A10_3 (rd_T39 t7 x10).f2.f1.length c10_3,.bool (rd_T39 t7 x10).f2.f2,.bool (rd_T39 t7 x10).f2.f3,.int .i64 (rd_T39 t7 x10).f2.f4]++ []) HS (MadeL.cons (js1:=[]) (c:=[.int .i64 (rd_T39 t7 x10).f0,.slice A10_1 (rd_T39 t7 x10).f1.length c10_1,.int .i64 (rd_T39 t7 x10).f2.f0,.slice A10_3 (rd_T39 t7 x10).f2.f1.length c10_3,.bool (rd_T39 t7 x10).f2.f2,.bool (rd_T39 t7 x10).f2.f3,.int .i64 (rd_T39 t7 x10).f2.f4]) rfl (made_flat (d:=Zd.raw 7) (x:=[.int .i64 (rd_T39 t7 x10).f0,.slice A10_1 (rd_T39 t7 x10).f1.length c10_1,.int .i64 (rd_T39 t7 x10).f2.f0,.slice A10_3 (rd_T39 t7 x10).f2.f1.length c10_3,.bool (rd_T39 t7 x10).f2.f2,.bool (rd_T39 t7 x10).f2.f3,.int .i64 (rd_T39 t7 x10).f2.f4]) (fun _=>raw_mk 7 _ _ [.int .i64 (rd_T39 t7 x10).f0,.slice A10_1 (rd_T39 t7 x10).f1.length c10_1,.int .i64 (rd_T39 t7 x10).f2.f0,.slice A10_3 (rd_T39 t7 x10).f2.f1.length c10_3,.bool (rd_T39 t7 x10).f2.f2,.bool (rd_T39 t7 x10).f2.f3,.int .i64 (rd_T39 t7 x10).f2.f4] rfl (by simp [Value.oneCell']))) MadeL.nil (by decide)) ?_;clear HS;intro va10 wa10 HS F;obtain⟨Ba10,da10,rfl,ma10⟩:=HS.formn 1 3 rfl rfl)|((with_reducible refine gd 26 rfl ?_);refine ev_append rfl (Zd.raw 7) 1 3 HS rfl rfl (by decide) rfl rfl rfl Tryz.underlying43 info39 rfl (by decide) (by decide) (by have:=of_eq_true c11;have:=hll10.out;simp only [List.length_cons,List.length_nil];omega) ?_;clear HS;intro vb10 wb10 HS;rw [eln10.out] at HS;obtain⟨Bb10,db10,rfl,mb10⟩:=HS.form 4 rfl;(try simp only [hpn,hpm] at HS);have F:=HS.bx))
    go_roundg gk
    case measure=>omega
    case rel=>
     refine⟨_,_,rfl,?_,?_,?_,HS.pi [0,4,2]⟩
     · (try rw [hw10]);omega
     · (try rw [hw10]);omega
     · rw [←eln10.out];(try rw [hw10]);rw [show(x10+1).toNat=x10.toNat+1 by omega,chunks_succ,hch10.out,←hl10.out]
  have hx10:x10.toNat=t7.length:=by omega
  rw [hx10] at hl10
  obtain⟨B10,d10,rfl,m10⟩:=HS.formn t7.length 1 rfl (by rw [hl10,chunks_len])
  replace HS:=HS.unraw (d:=q39) 1 2 (by decide) rfl rfl rfl hl10
  (try simp only [hpn,hpm] at HS)
  (try clear F)
  have F:=HS.bx
  clear h010 hk10 hl10 hx10 hc010;(try clear gk)
  replace c10:=eq_false c10
  replace H:=zif' H;rcases H with⟨c13,H⟩|⟨c13,H⟩
  ·
   obtain⟨c13a,c13b⟩:=bq c13;clear c13
   replace H:=zgo H;obtain⟨c14,H⟩:=H
   have c14n:(0<t7.length)=True:=eq_true (by have:=of_eq_true c14;omega)
   obtain⟨ad15,B15_1,d15_1,B15_3,d15_3,rfl,e15_0,e15_1,e15_2,e15_3,e15_4,e15_5,e15_6,m15_1,y15_1,m15_3,y15_3⟩:=at_T39 (HS.rd 1 rfl) 0 (of_eq_true (eq_true (by decide))) (of_eq_true c14)
   (try have e15_0':=ct e15_0)
   (try have e15_1':=ct e15_1)
   (try have e15_2':=ct e15_2)
   (try have e15_3':=ct e15_3)
   (try have e15_4':=ct e15_4)
   (try have e15_5':=ct e15_5)
   (try have e15_6':=ct e15_6)
   replace H:=zlets H;obtain⟨y17,e_y17,H⟩:=H
   obtain⟨rfl,rfl⟩:=zsome2 H
   go_wp2_with ((with_reducible refine gate_store (p:=33) rfl ?_);refine ev_sp lens39_0_3 1 [] 0 (rd_T39 t7 0) t3.1 HS (ad:=ad15) (seg:=[.int .i64 t3.1]) (of_eq_true (eq_true (by decide))) (of_eq_true c14) (fun hl=>rd_T39_get hl) (made_flat (fun _=>rfl)) (hoff:=by rintro g rfl;rfl) ?_;clear HS;intro w16 HS;rw [←e_y17.out] at HS;(try simp only [hpn,hpm] at HS);have F:=HS.bx)
   exact r1 ⟨_,rfl,HS.pi [0,1]⟩
  obtain⟨c13a,c13b⟩:=nq c13;clear c13
  replace H:=zif' H;rcases H with⟨c19,H⟩|⟨c19,H⟩
  ·
   obtain⟨c19a,c19b⟩:=bq c19;clear c19
   replace H:=zgo H;obtain⟨c22,H⟩:=H
   have c22n:(1<t7.length)=True:=eq_true (by have:=of_eq_true c22;omega)
   replace H:=zlets H;obtain⟨y25,e_y25,H⟩:=H
   obtain⟨rfl,rfl⟩:=zsome2 H
   go_wp2_with (first|((with_reducible refine gd 39 rfl ?_);refine ev_li (Zd.int .i64) [] ([0,(Int.tmod t3.1 4)]:List Int) ([.int .i64 0]++([.int .i64 (Int.tmod t3.1 4)]++ [])) HS (MadeL.cons (js1:=[]) (c:=[.int .i64 0]) rfl (made_flat (fun _=>rfl)) (MadeL.cons (js1:=[]) (c:=[.int .i64 (Int.tmod t3.1 4)]) rfl (made_flat (fun _=>rfl)) MadeL.nil (by decide)) (by decide)) ?_;clear HS;intro v20 w20 HS F;obtain⟨B20,d20,rfl,m20⟩:=HS.formn 2 3 rfl rfl;obtain⟨ad23,B23_1,d23_1,B23_3,d23_3,rfl,e23_0,e23_1,e23_2,e23_3,e23_4,e23_5,e23_6,m23_1,y23_1,m23_3,y23_3⟩:=at_T39 (HS.rd 1 rfl) 1 (of_eq_true (eq_true (by decide))) (of_eq_true c22);(try have e23_0':=ct e23_0);(try have e23_1':=ct e23_1);(try have e23_2':=ct e23_2);(try have e23_3':=ct e23_3);(try have e23_4':=ct e23_4);(try have e23_5':=ct e23_5);(try have e23_6':=ct e23_6))|((with_reducible refine gate_store (p:=41) rfl ?_);refine ev_sp lens39_1_35 1 [3] 1 (rd_T39 t7 1) ([0,(Int.tmod t3.1 4)]:List Int) HS (ad:=ad23) (seg:=[.slice B20 2 d20]) (of_eq_true (eq_true (by decide))) (of_eq_true c22) (fun hl=>rd_T39_get hl) (fun S hd hh=>made_one (hh 3 (.own (Zd.slice 3 (Zd.int .i64)) ([0,(Int.tmod t3.1 4)]:List Int) [.slice B20 2 d20]) rfl)) (hoff:=by rintro g rfl;rfl) ?_;clear HS;intro w24 HS;rw [←e_y25.out] at HS;(try simp only [hpn,hpm] at HS);have F:=HS.bx))
   exact r1 ⟨_,rfl,HS.pi [0,1]⟩
  obtain⟨c19a,c19b⟩:=nq c19;clear c19
  replace H:=znif' H;rcases H with⟨c27,H⟩|⟨c27,H⟩
  ·
   obtain⟨c27a,c27b⟩:=nq c27;clear c27
   replace H:=znif' H;rcases H with⟨c33,H⟩|⟨c33,H⟩
   ·
    obtain⟨c33a,c33b⟩:=nq c33;clear c33
    obtain⟨rfl,rfl⟩:=zsome2 H
    go_wp2
    exact r1 ⟨_,rfl,HS.pi [0,1]⟩
   obtain⟨c33a,c33b⟩:=bq c33;clear c33
   replace H:=zgo H;obtain⟨c36,H⟩:=H
   replace H:=zlets H;obtain⟨y37,e_y37,H⟩:=H
   obtain⟨rfl,rfl⟩:=zsome2 H
   go_wp2_with (first|((with_reducible refine gd 54 rfl ?_);replace HS:=HS.nil 3 (Zd.int .i64);replace HS:=HS.nil 3 (Zd.int .i64);refine ev_li q39 [3,4] ([(⟨5,([]:List Int),(⟨0,([]:List Int),false,false,0⟩:S37)⟩:S39)]:List S39) ([.int .i64 5,.slice none 0 0,.int .i64 0,.slice none 0 0,.bool false,.bool false,.int .i64 0]++ []) HS (MadeL.cons (js1:=[3,4]) (c:=[.int .i64 5,.slice none 0 0,.int .i64 0,.slice none 0 0,.bool false,.bool false,.int .i64 0]) rfl (fun S hd hh=>q39_pack (x:=(⟨5,([]:List Int),(⟨0,([]:List Int),false,false,0⟩:S37)⟩:S39)) hd (hh 3 (.own (Zd.slice 3 (Zd.int .i64)) [] [.slice none 0 0]) rfl) (hh 4 (.own (Zd.slice 3 (Zd.int .i64)) [] [.slice none 0 0]) rfl) (by decide)) MadeL.nil (by decide)) ?_;clear HS;intro v34 w34 HS F;obtain⟨B34,d34,rfl,m34⟩:=HS.formn 1 5 rfl rfl)|((with_reducible refine gd 55 rfl ?_);refine ev_ap q39 1 5 HS rfl rfl Tryz.underlying43 info39 (of_eq_true c36) ?_;clear HS;intro v37 w37 HS;rw [←e_y37.out] at HS;obtain⟨B37,d37,rfl,m37⟩:=HS.form 6 rfl;(try simp only [hpn,hpm] at HS);have F:=HS.bx))
   exact r1 ⟨_,rfl,HS.pi [0,6]⟩
  obtain⟨c27a,c27b⟩:=bq c27;clear c27
  replace H:=zgo H;obtain⟨c28,H⟩:=H
  have c28n:(1<t7.length)=True:=eq_true (by have:=of_eq_true c28;omega)
  obtain⟨ad29,B29_1,d29_1,B29_3,d29_3,rfl,e29_0,e29_1,e29_2,e29_3,e29_4,e29_5,e29_6,m29_1,y29_1,m29_3,y29_3⟩:=at_T39 (HS.rd 1 rfl) 1 (of_eq_true (eq_true (by decide))) (of_eq_true c28)
  (try have e29_0':=ct e29_0)
  (try have e29_1':=ct e29_1)
  (try have e29_2':=ct e29_2)
  (try have e29_3':=ct e29_3)
  (try have e29_4':=ct e29_4)
  (try have e29_5':=ct e29_5)
  (try have e29_6':=ct e29_6)
  replace H:=zlets H;obtain⟨y31,e_y31,H⟩:=H
  obtain⟨rfl,rfl⟩:=zsome2 H
  go_wp2_with ((with_reducible refine gate_store (p:=49) rfl ?_);refine ev_sp lens39_6_3 1 [] 1 (rd_T39 t7 1) (Int.tmod t3.1 10) HS (ad:=ad29) (seg:=[.int .i64 (Int.tmod t3.1 10)]) (of_eq_true (eq_true (by decide))) (of_eq_true c28) (fun hl=>rd_T39_get hl) (made_flat (fun _=>rfl)) (hoff:=by rintro g rfl;rfl) ?_;clear HS;intro w30 HS;rw [←e_y31.out] at HS;(try simp only [hpn,hpm] at HS);have F:=HS.bx)
  exact r1 ⟨_,rfl,HS.pi [0,1]⟩
def spec_DrawMerged.f (k:Nat)(a0:(List Int)):Option (S39×S26×Int):=((spec_l01New.f k a0).bind fun t5=>((spec_l01Below_0.f (⟨a0,t5.f1,t5.f2⟩:S110) 90).bind fun t8=>((spec_l16Any_0.f k (⟨a0,t8.2.f1,t8.2.f2⟩:S110)).bind fun t10=>(if 1<(t10.1.length:Int)then((spec_l14Any_0.f k (⟨a0,t10.2.f1,t10.2.f2⟩:S110)).bind fun t12=>(some ((⟨(rd_T39 t10.1 1).f0,(rd_T39 t10.1 1).f1,(⟨(rd_T39 t10.1 1).f2.f0,(rd_T39 t10.1 1).f2.f1,(rd_T39 t10.1 1).f2.f2,(rd_T39 t10.1 1).f2.f3,(rd_T39 t10.1 1).f2.f4⟩:S37)⟩:S39),(⟨t12.1.f0,t12.1.f1,t12.1.f2,t12.1.f3,t12.1.f4,t12.1.f5⟩:S26),t8.1)))else none))))
def spec_DrawMerged.T4:TT:=(true,[([],[]),([0],[0]),([1],[1]),([],[]),([3],[3]),([],[]),([2,4,0,1,2],[2]),([4,6,0,1,2,3,4,6],[4]),([5,7,0,1,2,3,4,5,6,7],[5])])
theorem spec_DrawMerged.tT4:rtab .any (opsOf Tryz.f15 4)=spec_DrawMerged.T4:=by kernel_rfl
theorem spec_DrawMerged.calls {k:Nat}{a0:(List Int)}{Ap0:Option Addr}{np0 cp0:Nat}{r1:S39}{r2:S26}{r3:Int}{w:World}(h:spec_DrawMerged.f k a0=some (r1,r2,r3))(gp0:(Kd.int .u8).C w Ap0 np0 a0)(lp0:np0≤cp0):
    Calls Tryz.prog 15 #[.slice Ap0 np0 cp0] w (fun e w'=>∃v0_ v1_ v2_:Value,e=.returned (.tuple #[.agg #[.int .i64 r1.f0,v0_,.int .i64 r1.f2.f0,v1_,.bool r1.f2.f2,.bool r1.f2.f3,.int .i64 r1.f2.f4],.agg #[v2_,.int .i64 r2.f1,.int .i64 r2.f2,.int .i64 r2.f3,.int .i64 r2.f4,.bool r2.f5],.int .i64 r3])∧Hp noFP w w' [.own (Zd.slice 3 (Zd.int .i64)) r1.f1 [v0_],.own (Zd.slice 3 (Zd.int .i64)) r1.f2.f1 [v1_],.own (Zd.slice 9 Zd.string) r2.f0 [v2_]]):=by
 obtain rfl:=C_len gp0
 have HS:=Hp.start w
 have H:=Aside0.mk h
 clear h
 unfold spec_DrawMerged.f at H
 go_enter Tryz.func15,Tryz.ntmps15
 replace H:=zbind H;obtain⟨t5,ht5,H⟩:=H
 replace H:=zbind H;obtain⟨t8,ht8,H⟩:=H
 replace H:=zbind H;obtain⟨t10,ht10,H⟩:=H
 go_wp2_with (first|((with_reducible refine gd 2 rfl ?_);refine ev_bx HS ?_;clear HS;intro g2 w2 HS F)|((with_reducible refine gd 3 rfl ?_);refine ev_bx HS ?_;clear HS;intro g3 w3 HS F)|((with_reducible refine gd 9 rfl ?_);refine ev_call rfl Tryz.func29 (by kernel_rfl) rfl #[.slice Ap0 a0.length cp0] rfl (by simp only [mpn];rfl) ?_;refine(spec_l01New.calls ht5.out (HS.ro gp0) lp0).mono ?_;rintro _ wt5 ⟨g6,rfl,HQ⟩;refine⟨_,rfl,?_⟩;replace HS:=HS.call HQ;clear HQ;(try clear F);(try simp only [hpn,hpm] at HS);have F:=HS.bx)|((with_reducible refine gd 11 rfl ?_);refine ev_lb [2] HS (fun _ HL HA=>spec_l01Below_0.calls ht8.out gp0 lp0 (HS.view HL) HA) Tryz.func45 ?_;clear HS;intro wt8 HS F)|((with_reducible refine gd 13 rfl ?_);refine ev_lb1 [2] HS (fun _ HL HA=>spec_l16Any_0.calls ht10.out gp0 lp0 (HS.view HL) HA) Tryz.func57 ?_;clear HS;intro v11 wt10 HS F;obtain⟨B11,d11,rfl,m11⟩:=HS.form 3 rfl;(try simp only [hpn,hpm] at HS);have F:=HS.bx))
 obtain⟨in13,HS⟩:=HS.fix_row 3 rfl
 (try simp only [hpn,hpm] at HS)
 (try clear F)
 have F:=HS.bx
 replace H:=zgo H;obtain⟨c7,H⟩:=H
 have c7n:(1<t10.1.length)=True:=eq_true (by have:=of_eq_true c7;omega)
 obtain⟨ad9,B9_1,d9_1,B9_3,d9_3,rfl,e9_0,e9_1,e9_2,e9_3,e9_4,e9_5,e9_6,m9_1,y9_1,m9_3,y9_3⟩:=at_T39 (HS.rdf 3 rfl) 1 (of_eq_true (eq_true (by decide))) (of_eq_true c7);(try have e9_0':=ct e9_0);(try have e9_1':=ct e9_1);(try have e9_2':=ct e9_2);(try have e9_3':=ct e9_3);(try have e9_4':=ct e9_4);(try have e9_5':=ct e9_5);(try have e9_6':=ct e9_6)
 have hch9:=Aside0.mk <| HS.chunk (vs:=[.int .i64 ((rd_T39 t10.1 1).f0),.slice B9_1 (rd_T39 t10.1 1).f1.length d9_1,.int .i64 ((rd_T39 t10.1 1).f2.f0),.slice B9_3 (rd_T39 t10.1 1).f2.f1.length d9_3,.bool ((rd_T39 t10.1 1).f2.f2),.bool ((rd_T39 t10.1 1).f2.f3),.int .i64 ((rd_T39 t10.1 1).f2.f4)]) (j:=((1:Int)).toNat) (m:=7) 3 rfl rfl (by have:=of_eq_true c7;omega) rfl (fun q hq=>match q,hq with|0,_=>e9_0|1,_=>(by rw [add_field _ _ 1 (by omega)];exact e9_1)|2,_=>(by rw [add_field _ _ 2 (by omega)];exact e9_2)|3,_=>(by rw [add_field _ _ 3 (by omega)];exact e9_3)|4,_=>(by rw [add_field _ _ 4 (by omega)];exact e9_4)|5,_=>(by rw [add_field _ _ 5 (by omega)];exact e9_5)|6,_=>(by rw [add_field _ _ 6 (by omega)];exact e9_6)|q+7,hq=>absurd hq (by omega))
 have hlx9:Aside0 (0<t10.1.length):=⟨by have:=of_eq_true c7;omega⟩
 replace H:=zbind H;obtain⟨t12,ht12,H⟩:=H
 refine dr_start2 [.box g2 [.int .i64 0,.slice none 0 0,.int .i64 0,.slice none 0 0,.bool false,.bool false,.int .i64 0] 39,.box g3 [.slice none 0 0,.int .i64 0,.int .i64 0,.int .i64 0,.int .i64 0,.bool false] 26,.emp,.own (Zd.fixed 39 q39 in13) t10.1 [.slice (some ad9) t10.1.length d11]] [6,7] HS (HS.ar [some 0,some 1,none,some 3]) #[false,false,false,false,false,false,false,false,false] (by kernel_rfl) rfl rfl spec_DrawMerged.tT4 (fun w15 HT HS HH=>?_)
 (try clear F)
 refine dq [0,1] HT ?_
 refine dtk 2 16 HT HH rfl (by rintro w' ⟨rs',HS'⟩;have e9_0:=HS'.fixat0 (j:=((1:Int)).toNat) (m:=7) 3 rfl hch9.out rfl hlx9.out;have e9_1:=HS'.fixatS (j:=((1:Int)).toNat) (m:=7) 3 1 rfl hch9.out rfl hlx9.out (by decide);have e9_2:=HS'.fixatS (j:=((1:Int)).toNat) (m:=7) 3 2 rfl hch9.out rfl hlx9.out (by decide);have e9_3:=HS'.fixatS (j:=((1:Int)).toNat) (m:=7) 3 3 rfl hch9.out rfl hlx9.out (by decide);have e9_4:=HS'.fixatS (j:=((1:Int)).toNat) (m:=7) 3 4 rfl hch9.out rfl hlx9.out (by decide);have e9_5:=HS'.fixatS (j:=((1:Int)).toNat) (m:=7) 3 5 rfl hch9.out rfl hlx9.out (by decide);have e9_6:=HS'.fixatS (j:=((1:Int)).toNat) (m:=7) 3 6 rfl hch9.out rfl hlx9.out (by decide);(try simp only [azn,Addr.add_zero',Addr.add_succ',Int.reduceToNat,Nat.reduceMul,Nat.reduceAdd] at e9_0 e9_1 e9_2 e9_3 e9_4 e9_5 e9_6);go_simp;with_reducible rfl) ?_
 refine dq [3,5] HT ?_
 refine dr1 4 HT fun K hK=>?_
 refine go_lb1 [2] HS (fun _ HL HA=>spec_l14Any_0.calls ht12.out gp0 lp0 (HS.view HL) HA) Tryz.func28 ?_;clear HS;intro v14 wt12 HS F;obtain⟨B14,d14,rfl,m14⟩:=HS.form 4 rfl
 (try simp only [hpn,hpm] at HS)
 have F:=HS.bx
 refine nra 18 hK (HS.ar [some 0,some 1,none,some 3]) fun HH=>?_;clear hK K
 refine dl 6 HT fun K hK=>?_
 refine if_st 0 0 HS (seg:=[.int .i64 ((rd_T39 t10.1 1).f0),.slice B9_1 (rd_T39 t10.1 1).f1.length d9_1,.int .i64 ((rd_T39 t10.1 1).f2.f0),.slice B9_3 (rd_T39 t10.1 1).f2.f1.length d9_3,.bool ((rd_T39 t10.1 1).f2.f2),.bool ((rd_T39 t10.1 1).f2.f3),.int .i64 ((rd_T39 t10.1 1).f2.f4)]) ?_;clear HS;intro w16 HS F
 refine hK.out _ _ ?_
 clear hK K
 refine dl 7 HT fun K hK=>?_
 refine if_st 1 0 HS (seg:=[.slice B14 t12.1.f0.length d14,.int .i64 t12.1.f1,.int .i64 t12.1.f2,.int .i64 t12.1.f3,.int .i64 t12.1.f4,.bool t12.1.f5]) ?_;clear HS;intro w17 HS F
 refine hK.out _ _ ?_
 clear hK K
 refine dq [8] HT ?_
 refine dn HT ?_
 (try clear F)
 have F:=HS.bx
 obtain⟨rfl,rfl,rfl⟩:=zsome3 H
 go_wp2
 replace HS:=HS.one_fixed (d:=q39) (j:=((1:Int)).toNat) (x:=(rd_T39 t10.1 1)) (vs:=[.int .i64 ((rd_T39 t10.1 1).f0),.slice B9_1 (rd_T39 t10.1 1).f1.length d9_1,.int .i64 ((rd_T39 t10.1 1).f2.f0),.slice B9_3 (rd_T39 t10.1 1).f2.f1.length d9_3,.bool ((rd_T39 t10.1 1).f2.f2),.bool ((rd_T39 t10.1 1).f2.f3),.int .i64 ((rd_T39 t10.1 1).f2.f4)]) 3 rfl rfl ((List.getElem?_eq_getElem (by have:=of_eq_true c7;omega)).trans (congrArg some (rd_T39_get (i:=(1:Int)) (by have:=of_eq_true c7;omega)))) hch9.out
 (try simp only [hpn,hpm] at HS)
 replace HS:=HS.un_iso 3 rfl
 replace HS:=HS.split_pair (n:=1) 3 rfl rfl
 (try simp only [hpn,hpm,List.take,List.drop] at HS)
 replace HS:=HS.split_pair (n:=1) 5 rfl rfl
 (try simp only [hpn,hpm,List.take,List.drop] at HS)
 (try simp only [hpn,hpm,List.take,List.drop] at HS)
 replace HS:=HS.un_iso 6 rfl
 replace HS:=HS.split_pair (n:=1) 6 rfl rfl
 (try simp only [hpn,hpm,List.take,List.drop] at HS)
 replace HS:=HS.split_pair (n:=1) 7 rfl rfl
 (try simp only [hpn,hpm,List.take,List.drop] at HS)
 replace HS:=HS.split_pair (n:=1) 8 rfl rfl
 (try simp only [hpn,hpm,List.take,List.drop] at HS)
 replace HS:=HS.split_pair (n:=1) 9 rfl rfl
 (try simp only [hpn,hpm,List.take,List.drop] at HS)
 (try simp only [hpn,hpm,List.take,List.drop] at HS)
 exact rl rfl (.cell _ _ _ _ _ rfl (HS.boxAt (i:=0) rfl) Tryz.underlying39 rfl (by kernel_rfl) (.cell _ _ _ _ _ rfl (HS.boxAt (i:=1) rfl) Tryz.underlying26 rfl (by kernel_rfl) (.tmp .nil))) ⟨_,_,_,rfl,HS.pi [5,7,4]⟩
def impl_Merged.f (a0:S39)(a1:S26)(a2:Int):Option (S37):=(if 0+a0.f2.f1.length≤17592186044416 then(lets (([]:List Int)++a0.f2.f1) fun y12=>(if a1.f4=0 then(some (⟨a2,y12,a0.f2.f2,a0.f2.f3,a0.f2.f4⟩:S37))else(some (⟨a1.f4,y12,a0.f2.f2,a0.f2.f3,a0.f2.f4⟩:S37))))else none)
theorem impl_Merged.calls {a0:S39}{a1:S26}{a2:Int}{Ap0 Ap1 Ap2:Option Addr}{np0 cp0 np1 cp1 np2 cp2:Nat}{r:S37}{w:World}(h:impl_Merged.f a0 a1 a2=some r)(gp0:(Kd.int .i64).C w Ap0 np0 a0.f1)(lp0:np0≤cp0)(gp1:(Kd.int .i64).C w Ap1 np1 a0.f2.f1)(lp1:np1≤cp1)(gp2:Kd.string.C w Ap2 np2 a1.f0)(lp2:np2≤cp2):
    Calls Tryz.prog 16 #[.agg #[.int .i64 a0.f0,.slice Ap0 np0 cp0,.int .i64 a0.f2.f0,.slice Ap1 np1 cp1,.bool a0.f2.f2,.bool a0.f2.f3,.int .i64 a0.f2.f4],.agg #[.slice Ap2 np2 cp2,.int .i64 a1.f1,.int .i64 a1.f2,.int .i64 a1.f3,.int .i64 a1.f4,.bool a1.f5],.int .i64 a2] w (fun e w'=>∃v0_:Value,e=.returned (.agg #[.int .i64 r.f0,v0_,.bool r.f2,.bool r.f3,.int .i64 r.f4])∧Hp noFP w w' [.own (Zd.slice 3 (Zd.int .i64)) r.f1 [v0_]]):=by
 obtain rfl:=C_len gp0
 obtain rfl:=C_len gp1
 obtain rfl:=C_len gp2
 have HS:=Hp.start w
 have H:=Aside0.mk h
 clear h
 unfold impl_Merged.f at H
 go_enter Tryz.func16,Tryz.ntmps16
 replace H:=zgo H;obtain⟨c11,H⟩:=H
 replace H:=zlets H;obtain⟨y12,e_y12,H⟩:=H
 go_upto_if 18 with(first|((with_reducible refine gd 3 rfl ?_);refine ev_bx HS ?_;clear HS;intro g3 w3 HS F)|((with_reducible refine gd 4 rfl ?_);refine ev_bx HS ?_;clear HS;intro g4 w4 HS F)|((with_reducible refine gd 6 rfl ?_);refine ev_bx HS ?_;clear HS;intro g6 w6 HS F)|((with_reducible refine gd 7 rfl ?_);refine ev_bx HS ?_;clear HS;intro g7 w7 HS F)|((with_reducible refine gate_store (p:=7) rfl ?_);refine ev_st 3 0 HS (seg:=[.int .i64 a0.f2.f0,.slice Ap1 a0.f2.f1.length cp1,.bool a0.f2.f2,.bool a0.f2.f3,.int .i64 a0.f2.f4]) ?_;clear HS;intro w9 HS F)|((with_reducible refine gd 12 rfl ?_);replace HS:=HS.nil 3 (Zd.int .i64);refine ev_apr (flat_int _) 4 HS rfl (HS.ro gp1) Tryz.underlying35 info3 (of_eq_true c11) ?_;clear HS;intro v12 w12 HS;rw [←e_y12.out] at HS;obtain⟨B12,d12,rfl,m12⟩:=HS.form 5 rfl;(try simp only [hpn,hpm] at HS);have F:=HS.bx)|((with_reducible refine gate_store (p:=13) rfl ?_);refine ev_st 3 1 HS (seg:=[.slice B12 y12.length d12]) ?_;clear HS;intro w14 HS F)|((with_reducible refine gate_store (p:=15) rfl ?_);refine ev_st 3 0 HS (seg:=[.int .i64 a2]) ?_;clear HS;intro w16 HS F))
 replace H:=zif' H;rcases H with⟨c18,H⟩|⟨c18,H⟩
 ·
  obtain⟨c18a,c18b⟩:=bq c18;clear c18
  (try simp only [c18a,c18b,dcn])
  obtain rfl:=zsome H
  go_wp2_with ((with_reducible refine gate_store (p:=6) rfl ?_);refine ev_st 2 0 HS (seg:=[.int .i64 a2,.slice B12 y12.length d12,.bool a0.f2.f2,.bool a0.f2.f3,.int .i64 a0.f2.f4]) ?_;clear HS;intro w19 HS F)
  exact rc 2 HS Tryz.underlying37 ⟨_,rfl,HS.pi [5]⟩
 obtain⟨c18a,c18b⟩:=nq c18;clear c18
 (try simp only [c18a,c18b,dcn])
 obtain rfl:=zsome H
 go_wp2_with (first|((with_reducible refine gate_store (p:=21) rfl ?_);refine ev_st 3 0 HS (seg:=[.int .i64 a1.f4]) ?_;clear HS;intro w21 HS F)|((with_reducible refine gate_store (p:=6) rfl ?_);refine ev_st 2 0 HS (seg:=[.int .i64 a1.f4,.slice B12 y12.length d12,.bool a0.f2.f2,.bool a0.f2.f3,.int .i64 a0.f2.f4]) ?_;clear HS;intro w23 HS F))
 exact rc 2 HS Tryz.underlying37 ⟨_,rfl,HS.pi [5]⟩
def spec_l13Certs.l0:Nat→(List S125)→Int→(List S125)→Option ((List S125))
  |0,_,_,_=>none
  |k+1,l11,x13,a0=>(if x13<(a0.length:Int)then(if 0≤x13 then(if x13<(a0.length:Int)then((spec_l09Copy.f (rd_T125 a0 x13)).bind fun t19=>(if l11.length+1≤764877654105 then(lets (l11++([t19]:List S125)) fun y27=>(spec_l13Certs.l0 k y27 (wrap64 (x13+1)) a0))else none))else none)else none)else(some l11))
def spec_l13Certs.f (k:Nat)(a0:(List S125)):Option ((List S125)):=(spec_l13Certs.l0 k ([]:List S125) 0 a0)
theorem spec_l13Certs.calls {k:Nat}{a0:(List S125)}{Ap0:Option Addr}{np0 cp0:Nat}{r:(List S125)}{w:World}(h:spec_l13Certs.f k a0=some r)(gp0:k125.C w Ap0 np0 a0)(lp0:np0≤cp0):
    Calls Tryz.prog 95 #[.slice Ap0 np0 cp0] w (fun e w'=>∃v0_:Value,e=.returned (v0_)∧Hp noFP w w' [.own (Zd.slice 125 q125) r [v0_]]):=by
 obtain rfl:=C_len gp0
 have HS:=Hp.start w
 have H:=Aside0.mk h
 clear h
 unfold spec_l13Certs.f at H
 go_enter Tryz.func95,Tryz.ntmps95
 go_wp2_with ((with_reducible refine gd 5 rfl ?_);refine ev_li q125 [] ([]:List S125) [] HS MadeL.nil ?_;clear HS;intro v1 w1 HS F;obtain⟨B1,d1,rfl,m1⟩:=HS.formn 0 0 rfl rfl)
 go_loopg [3,4] k (fun kq v_3 v_4 w'=>∃(l11:List S125) (v12:Value) (x13:Int),v_3=v12∧v_4=.int .i64 x13∧Aside0 (spec_l13Certs.l0 kq l11 x13 a0=some r)∧Aside0 (kq≤k)∧Hp noFP w w' [.own (Zd.slice 125 q125) l11 [v12]])
 case atStart=>exact⟨_,_,_,rfl,rfl,H,⟨Nat.le_refl _⟩,HS⟩
 case round=>
  clear HS H;(try clear F)
  obtain⟨l11,v12,x13,rfl,rfl,H,HKk10,HS⟩:=hrel
  obtain⟨B12,d12,rfl,m12⟩:=HS.form 0 rfl
  cases gk with
  |zero=>exact absurd H.out (by simp [spec_l13Certs.l0])
  | succ k10=>
   simp only [spec_l13Certs.l0] at H
   replace H:=znif H;rcases H with⟨c15,H⟩|⟨c15,H⟩
   ·
    obtain rfl:=zsome H
    go_wp2
    exact r1 ⟨_,rfl,HS.pi [0]⟩
   replace H:=zgo H;obtain⟨c16,H⟩:=H
   replace H:=zgo H;obtain⟨c17,H⟩:=H
   obtain⟨ad18,B18_9,d18_9,B18_10,d18_10,B18_11,d18_11,rfl,e18_0,e18_1,e18_2,e18_3,e18_4,e18_5,e18_6,e18_7,e18_8,e18_9,e18_10,e18_11,e18_12,m18_9,y18_9,m18_10,y18_10,m18_11,y18_11⟩:=at_T125 gp0 x13 (of_eq_true c16) (of_eq_true c17)
   have e18_0_18:=HS.keepc e18_0
   have e18_1_18:=HS.keepc e18_1
   have e18_2_18:=HS.keepc e18_2
   have e18_3_18:=HS.keepc e18_3
   have e18_4_18:=HS.keepc e18_4
   have e18_5_18:=HS.keepc e18_5
   have e18_6_18:=HS.keepc e18_6
   have e18_7_18:=HS.keepc e18_7
   have e18_8_18:=HS.keepc e18_8
   have e18_9_18:=HS.keepc e18_9
   have e18_10_18:=HS.keepc e18_10
   have e18_11_18:=HS.keepc e18_11
   have e18_12_18:=HS.keepc e18_12
   replace H:=zbind H;obtain⟨t19,ht19,H⟩:=H
   replace H:=zgo H;obtain⟨c26,H⟩:=H
   replace H:=zlets H;obtain⟨y27,e_y27,H⟩:=H
   go_wp2_with (first|((with_reducible refine gd 17 rfl ?_);refine ev_cl3 HS (spec_l09Copy.calls ht19.out (HS.ro y18_9) m18_9 (HS.ro y18_10) m18_10 (HS.ro y18_11) m18_11) Tryz.func113 ?_;clear HS;intro v20 v21 v22 wt19 HS F;obtain⟨B20,d20,rfl,m20⟩:=HS.form 1 rfl;obtain⟨B21,d21,rfl,m21⟩:=HS.form 2 rfl;obtain⟨B22,d22,rfl,m22⟩:=HS.form 3 rfl)|((with_reducible refine gd 18 rfl ?_);refine ev_li q125 [1,2,3] ([t19]:List S125) ([.int .i64 t19.f0,.string t19.f1,.string t19.f2,.int .i64 t19.f3,.int .i64 t19.f4,.string t19.f5,.bool t19.f6,.int .i64 t19.f7,.int .i64 t19.f8,.slice B20 t19.f9.length d20,.slice B21 t19.f10.length d21,.slice B22 t19.f11.length d22,.string t19.f12]++ []) HS (MadeL.cons (js1:=[1,2,3]) (c:=[.int .i64 t19.f0,.string t19.f1,.string t19.f2,.int .i64 t19.f3,.int .i64 t19.f4,.string t19.f5,.bool t19.f6,.int .i64 t19.f7,.int .i64 t19.f8,.slice B20 t19.f9.length d20,.slice B21 t19.f10.length d21,.slice B22 t19.f11.length d22,.string t19.f12]) rfl (fun S hd hh=>q125_pack (x:=t19) hd (hh 1 (.own (Zd.slice 3 (Zd.int .i64)) t19.f9 [.slice B20 t19.f9.length d20]) rfl) (hh 2 (.own (Zd.slice 9 Zd.string) t19.f10 [.slice B21 t19.f10.length d21]) rfl) (hh 3 (.own (Zd.slice 9 Zd.string) t19.f11 [.slice B22 t19.f11.length d22]) rfl) (by decide)) MadeL.nil (by decide)) ?_;clear HS;intro v24 w24 HS F;obtain⟨B24,d24,rfl,m24⟩:=HS.formn 1 4 rfl rfl)|((with_reducible refine gd 19 rfl ?_);refine ev_ap q125 0 4 HS rfl rfl Tryz.underlying44 info125 (of_eq_true c26) ?_;clear HS;intro v27 w27 HS;rw [←e_y27.out] at HS;obtain⟨B27,d27,rfl,m27⟩:=HS.form 5 rfl;(try simp only [hpn,hpm] at HS)))
   go_roundg k10
   case measure=>have:=HKk10.out;omega
   case rel=>exact⟨_,_,_,rfl,rfl,H,⟨by have:=HKk10.out;omega⟩,HS.pi [5]⟩
def spec_l10Copy.f (a0:S103):Option (S103):=(if 0+a0.f5.length≤8796093022208 then(lets (([]:List S133)++a0.f5) fun y12=>(some (⟨a0.f0,a0.f1,a0.f2,a0.f3,a0.f4,y12,a0.f6⟩:S103)))else none)
theorem spec_l10Copy.calls {a0:S103}{Ap0:Option Addr}{np0 cp0:Nat}{r:S103}{w:World}(h:spec_l10Copy.f a0=some r)(gp0:k133.C w Ap0 np0 a0.f5)(lp0:np0≤cp0):
    Calls Tryz.prog 96 #[.agg #[.string a0.f0,.int .i64 a0.f1,.int .i64 a0.f2,.int .i64 a0.f3,.int .i64 a0.f4,.slice Ap0 np0 cp0,.string a0.f6]] w (fun e w'=>∃v0_:Value,e=.returned (.agg #[.string r.f0,.int .i64 r.f1,.int .i64 r.f2,.int .i64 r.f3,.int .i64 r.f4,v0_,.string r.f6])∧Hp noFP w w' [.own (Zd.slice 133 q133) r.f5 [v0_]]):=by
 obtain rfl:=C_len gp0
 have HS:=Hp.start w
 have H:=Aside0.mk h
 clear h
 unfold spec_l10Copy.f at H
 go_enter Tryz.func96,Tryz.ntmps96
 replace H:=zgo H;obtain⟨c11,H⟩:=H
 replace H:=zlets H;obtain⟨y12,e_y12,H⟩:=H
 obtain rfl:=zsome H
 go_wp2_with (first|((with_reducible refine gd 1 rfl ?_);refine ev_bx HS ?_;clear HS;intro g1 w1 HS F)|((with_reducible refine gd 2 rfl ?_);refine ev_bx HS ?_;clear HS;intro g2 w2 HS F)|((with_reducible refine gd 3 rfl ?_);refine ev_bx HS ?_;clear HS;intro g3 w3 HS F)|((with_reducible refine gate_store (p:=3) rfl ?_);refine ev_st 2 0 HS (seg:=[.string a0.f0,.int .i64 a0.f1,.int .i64 a0.f2,.int .i64 a0.f3,.int .i64 a0.f4,.slice Ap0 a0.f5.length cp0,.string a0.f6]) ?_;clear HS;intro w7 HS F)|((with_reducible refine gd 5 rfl ?_);refine ev_li q133 [] ([]:List S133) [] HS MadeL.nil ?_;clear HS;intro v9 w9 HS F;obtain⟨B9,d9,rfl,m9⟩:=HS.formn 0 3 rfl rfl)|((with_reducible refine gd 8 rfl ?_);refine ev_apr fl133 3 HS rfl (HS.ro gp0) Tryz.underlying101 info133 (of_eq_true c11) ?_;clear HS;intro v12 w12 HS;rw [←e_y12.out] at HS;obtain⟨B12,d12,rfl,m12⟩:=HS.form 4 rfl;(try simp only [hpn,hpm] at HS);have F:=HS.bx)|((with_reducible refine gate_store (p:=9) rfl ?_);refine ev_st 2 5 HS (seg:=[.slice B12 y12.length d12]) ?_;clear HS;intro w14 HS F)|((with_reducible refine gate_store (p:=2) rfl ?_);refine ev_st 1 0 HS (seg:=[.string a0.f0,.int .i64 a0.f1,.int .i64 a0.f2,.int .i64 a0.f3,.int .i64 a0.f4,.slice B12 y12.length d12,.string a0.f6]) ?_;clear HS;intro w16 HS F))
 exact rc 1 HS Tryz.underlying103 ⟨_,rfl,HS.pi [4]⟩
end Go.Proofs.YtfcpjeeeddjakaaGreat.F

/- Functions of the program and of the law, and that their calls do what is written here. -/
import Derived.Test.YtncddikfafgklaaGreatDoorZgFnExactWaysToa
namespace Go.Proofs.YtncddikfafgklaaGreatDoor.F
open Go.RowKit YtncddikfafgklaaGreatDoorW.PrintWords YtncddikfafgklaaGreatDoorW.PrintLast YtncddikfafgklaaGreatDoorW.PrintMore Z
attribute [local go_sem] max2_int min2_int max_two min_two max_three min_three max_four min_four
set_option linter.unusedVariables false
set_option linter.unusedSimpArgs false
set_option maxRecDepth 100000
set_option maxHeartbeats 16000000
def impl_NameOk.l0:Nat→Int→ByteArray→(List ByteArray)→Option (Bool)
  |0,_,_,_=>none
  |k+1,x7,a0,t1=>(if x7<(t1.length:Int)then(if 0≤x7 then(if x7<(t1.length:Int)then(if(rdOf ByteArray.empty t1 x7).toList=([]:List UInt8)then(some false)else((impl_bytesIn.f k (rdOf ByteArray.empty t1 x7) 97 122).bind fun t14=>(if t14=true then(impl_NameOk.l0 k (wrap64 (x7+1)) a0 t1)else(some false))))else none)else none)else(some (decide ((a0.size:Int)≤20))))
def impl_NameOk.f (k:Nat)(a0:ByteArray):Option (Bool):=((strings_Split.f a0 (⟨#[46]⟩:ByteArray)).bind fun t1=>(impl_NameOk.l0 k 0 a0 t1))
theorem impl_NameOk.calls {k:Nat}{a0:ByteArray}{mG:Int}{r:Bool}{w:World}(h:impl_NameOk.f k a0=some r)(hgM:w.cell? ⟨0,0,none⟩=some (.int .i64 mG)):
    Calls Tryz.prog 71 #[.string a0] w (fun e w'=>e=.returned (.bool r)∧Hp noFP w w' []):=by
 have HS:=Hp.start w
 have H:=Aside0.mk h
 clear h
 unfold impl_NameOk.f at H
 go_enter Tryz.func71,Tryz.ntmps71
 replace H:=zbind H;obtain⟨t1,ht1,H⟩:=H
 go_wp2_with ((with_reducible refine gd 6 rfl ?_);refine ev_cl1 HS (strings_Split.calls ht1.out (HS.keepc hgM)) Tryz.func124 ?_;clear HS;intro v2 wt1 HS F;obtain⟨B2,d2,rfl,m2⟩:=HS.form 0 rfl)
 go_loopg [8] k (fun kq v_8 w'=>∃(x7:Int),v_8=.int .i64 x7∧Aside0 (impl_NameOk.l0 kq x7 a0 t1=some r)∧Aside0 (kq≤k)∧Hp noFP w w' [.own (Zd.slice 9 Zd.string) t1 [.slice B2 t1.length d2]])
 case atStart=>exact⟨_,rfl,H,⟨Nat.le_refl _⟩,HS⟩
 case round=>
  clear HS H;(try clear F)
  obtain⟨x7,rfl,H,HKk6,HS⟩:=hrel
  cases gk with
  |zero=>exact absurd H.out (by simp [impl_NameOk.l0])
  | succ k6=>
   simp only [impl_NameOk.l0] at H
   replace H:=znif H;rcases H with⟨c9,H⟩|⟨c9,H⟩
   ·
    obtain rfl:=zsome H
    go_wp2
    go_ret
    exact HS.pk
   replace H:=zgo H;obtain⟨c10,H⟩:=H
   replace H:=zgo H;obtain⟨c11,H⟩:=H
   obtain⟨ad12,rfl,e12_0⟩:=Kd.at_string (HS.rd 0 rfl) x7 (of_eq_true c10) (of_eq_true c11)
   replace H:=zif' H;rcases H with⟨c13,H⟩|⟨c13,H⟩
   ·
    have c13a:=beq_iff_eq.mpr c13
    have c13b:=bne_eq_false_iff_eq.mpr c13
    have c13e:=List.isEmpty_iff.mpr c13
    clear c13
    obtain rfl:=zsome H
    go_wp2
    go_ret
    exact HS.pk
   have c13a:=beq_eq_false_iff_ne.mpr c13
   have c13b:=bne_iff_ne.mpr c13
   have c13e:=List.isEmpty_eq_false_iff.mpr c13
   clear c13
   replace H:=zbind H;obtain⟨t14,ht14,H⟩:=H
   go_upto_if 18 with((with_reducible refine gd 16 rfl ?_);refine gg ?_;refine ev_cl HS (impl_bytesIn.calls ht14.out) Tryz.func125 ?_;clear HS;intro wt14 HS F)
   replace H:=znifb H;rcases H with⟨c16,H⟩|⟨c16,H⟩
   ·
    subst c16
    (try simp only [dcn,dcu,dcf])
    obtain rfl:=zsome H
    go_wp2
    go_ret
    exact HS.pk
   subst c16
   (try simp only [dcn,dcu,dcf])
   go_wp2
   go_roundg k6
   case measure=>have:=HKk6.out;omega
   case rel=>exact⟨_,rfl,H,⟨by have:=HKk6.out;omega⟩,HS.pi [0]⟩
def impl_NamesOk.l0:Nat→Int→(List ByteArray)→Option (Bool)
  |0,_,_=>none
  |k+1,x4,a0=>(if x4<(a0.length:Int)then(if 0≤x4 then(if x4<(a0.length:Int)then((impl_NameOk.f k (rdOf ByteArray.empty a0 x4)).bind fun t10=>(if t10=true then(if 0<x4 then(if 0≤(wrap64 (x4 - 1))then(if(wrap64 (x4 - 1))<(a0.length:Int)then(if(Op.bytesLess ((rdOf ByteArray.empty a0 (wrap64 (x4 - 1))).toList) ((rdOf ByteArray.empty a0 x4).toList))=true then(impl_NamesOk.l0 k (wrap64 (x4+1)) a0)else(some false))else none)else none)else(impl_NamesOk.l0 k (wrap64 (x4+1)) a0))else(some false)))else none)else none)else(some (decide ((a0.length:Int)≤4))))
def impl_NamesOk.f (k:Nat)(a0:(List ByteArray)):Option (Bool):=(impl_NamesOk.l0 k 0 a0)
theorem impl_NamesOk.calls {k:Nat}{a0:(List ByteArray)}{Ap0:Option Addr}{np0 cp0:Nat}{mG:Int}{r:Bool}{w:World}(h:impl_NamesOk.f k a0=some r)(gp0:Kd.string.C w Ap0 np0 a0)(lp0:np0≤cp0)(hgM:w.cell? ⟨0,0,none⟩=some (.int .i64 mG)):
    Calls Tryz.prog 107 #[.slice Ap0 np0 cp0] w (fun e w'=>e=.returned (.bool r)∧Hp noFP w w' []):=by
 obtain rfl:=C_len gp0
 have HS:=Hp.start w
 have H:=Aside0.mk h
 clear h
 unfold impl_NamesOk.f at H
 go_enter Tryz.func107,Tryz.ntmps107
 go_wp2
 go_loopg [7] k (fun kq v_7 w'=>∃(x4:Int),v_7=.int .i64 x4∧Aside0 (impl_NamesOk.l0 kq x4 a0=some r)∧Aside0 (kq≤k)∧Hp noFP w w' [])
 case atStart=>exact⟨_,rfl,H,⟨Nat.le_refl _⟩,HS⟩
 case round=>
  clear HS H;(try clear F)
  obtain⟨x4,rfl,H,HKk3,HS⟩:=hrel
  cases gk with
  |zero=>exact absurd H.out (by simp [impl_NamesOk.l0])
  | succ k3=>
   simp only [impl_NamesOk.l0] at H
   replace H:=znif H;rcases H with⟨c6,H⟩|⟨c6,H⟩
   ·
    obtain rfl:=zsome H
    go_wp2
    go_ret
    exact HS.pk
   replace H:=zgo H;obtain⟨c7,H⟩:=H
   replace H:=zgo H;obtain⟨c8,H⟩:=H
   obtain⟨ad9,rfl,e9_0⟩:=Kd.at_string gp0 x4 (of_eq_true c7) (of_eq_true c8)
   have e9_0_9:=HS.keepc e9_0
   replace H:=zbind H;obtain⟨t10,ht10,H⟩:=H
   replace H:=znifb H;rcases H with⟨c12,H⟩|⟨c12,H⟩
   ·
    subst c12
    obtain rfl:=zsome H
    go_wp2_with ((with_reducible refine gd 13 rfl ?_);refine ev_cl HS (impl_NameOk.calls ht10.out (HS.keepc hgM)) Tryz.func71 ?_;clear HS;intro wt10 HS F)
    go_ret
    exact HS.pk
   subst c12
   replace H:=znif H;rcases H with⟨c13,H⟩|⟨c13,H⟩
   ·
    go_wp2_with ((with_reducible refine gd 13 rfl ?_);refine ev_cl HS (impl_NameOk.calls ht10.out (HS.keepc hgM)) Tryz.func71 ?_;clear HS;intro wt10 HS F)
    go_roundg k3
    case measure=>have:=HKk3.out;omega
    case rel=>exact⟨_,rfl,H,⟨by have:=HKk3.out;omega⟩,HS.pi []⟩
   replace H:=zgo H;obtain⟨c14,H⟩:=H
   replace H:=zgo H;obtain⟨c15,H⟩:=H
   go_upto_if 27 with((with_reducible refine gd 13 rfl ?_);refine ev_cl HS (impl_NameOk.calls ht10.out (HS.keepc hgM)) Tryz.func71 ?_;clear HS;intro wt10 HS F;obtain⟨ad16,hq16,e16_0⟩:=Kd.at_string gp0 (wrap64 (x4 - 1)) (of_eq_true c14) (of_eq_true c15);obtain rfl:=Option.some.inj hq16;have e16_0_16:=HS.keepc e16_0)
   replace H:=znifb H;rcases H with⟨c17,H⟩|⟨c17,H⟩
   ·
    (try simp only [c17,dcn])
    obtain rfl:=zsome H
    go_wp2
    go_ret
    exact HS.pk
   (try simp only [c17,dcn])
   go_wp2
   go_roundg k3
   case measure=>have:=HKk3.out;omega
   case rel=>exact⟨_,rfl,H,⟨by have:=HKk3.out;omega⟩,HS.pi []⟩
def impl_CertOk.f (k:Nat)(a0:S41):Option (Bool):=((impl_timeOk.f a0.f0).bind fun t3=>(if t3=true then((impl_timeOk.f a0.f3).bind fun t6=>(if t6=true then((impl_timeOk.f a0.f4).bind fun t9=>(if t9=true then((impl_NameOk.f k a0.f1).bind fun t12=>(if t12=true then((impl_NameOk.f k a0.f2).bind fun t15=>(if t15=true then(if(a0.f5.size:Int)=15 then((impl_within.f a0.f7 0 99).bind fun t19=>(if t19=true then((impl_within.f a0.f8 0 7).bind fun t22=>(if t22=true then((impl_PoliciesOk.f k a0.f9).bind fun t25=>(if t25=true then((impl_NamesOk.f k a0.f10).bind fun t28=>(if t28=true then((impl_NamesOk.f k a0.f11).bind fun t31=>(if t31=true then(some ((a0.f12.size:Int)==15))else(some false)))else(some false)))else(some false)))else(some false)))else(some false)))else(some false))else(some false)))else(some false)))else(some false)))else(some false)))else(some false)))
theorem impl_CertOk.calls {k:Nat}{a0:S41}{Ap0 Ap1 Ap2:Option Addr}{np0 cp0 np1 cp1 np2 cp2:Nat}{mG:Int}{r:Bool}{w:World}(h:impl_CertOk.f k a0=some r)(gp0:(Kd.int .i64).C w Ap0 np0 a0.f9)(lp0:np0≤cp0)(gp1:Kd.string.C w Ap1 np1 a0.f10)(lp1:np1≤cp1)(gp2:Kd.string.C w Ap2 np2 a0.f11)(lp2:np2≤cp2)(hgM:w.cell? ⟨0,0,none⟩=some (.int .i64 mG)):
    Calls Tryz.prog 48 #[.agg #[.int .i64 a0.f0,.string a0.f1,.string a0.f2,.int .i64 a0.f3,.int .i64 a0.f4,.string a0.f5,.bool a0.f6,.int .i64 a0.f7,.int .i64 a0.f8,.slice Ap0 np0 cp0,.slice Ap1 np1 cp1,.slice Ap2 np2 cp2,.string a0.f12]] w (fun e w'=>e=.returned (.bool r)∧Hp noFP w w' []):=by
 obtain rfl:=C_len gp0
 obtain rfl:=C_len gp1
 obtain rfl:=C_len gp2
 have HS:=Hp.start w
 have H:=Aside0.mk h
 clear h
 unfold impl_CertOk.f at H
 go_enter Tryz.func48,Tryz.ntmps48
 replace H:=zbind H;obtain⟨t3,ht3,H⟩:=H
 replace H:=znifb H;rcases H with⟨c5,H⟩|⟨c5,H⟩
 ·
  subst c5
  obtain rfl:=zsome H
  go_wp2_with (first|((with_reducible refine gd 1 rfl ?_);refine ev_bx HS ?_;clear HS;intro g1 w1 HS F)|((with_reducible refine gd 5 rfl ?_);refine ev_cl HS (impl_timeOk.calls ht3.out) Tryz.func104 ?_;clear HS;intro wt3 HS F))
  go_ret
  exact HS.pk
 subst c5
 replace H:=zbind H;obtain⟨t6,ht6,H⟩:=H
 replace H:=znifb H;rcases H with⟨c8,H⟩|⟨c8,H⟩
 ·
  subst c8
  obtain rfl:=zsome H
  go_wp2_with (first|((with_reducible refine gd 1 rfl ?_);refine ev_bx HS ?_;clear HS;intro g1 w1 HS F)|((with_reducible refine gd 5 rfl ?_);refine ev_cl HS (impl_timeOk.calls ht3.out) Tryz.func104 ?_;clear HS;intro wt3 HS F)|((with_reducible refine gd 9 rfl ?_);refine gg ?_;refine ev_cl HS (impl_timeOk.calls ht6.out) Tryz.func104 ?_;clear HS;intro wt6 HS F))
  go_ret
  exact HS.pk
 subst c8
 replace H:=zbind H;obtain⟨t9,ht9,H⟩:=H
 replace H:=znifb H;rcases H with⟨c11,H⟩|⟨c11,H⟩
 ·
  subst c11
  obtain rfl:=zsome H
  go_wp2_with (first|((with_reducible refine gd 1 rfl ?_);refine ev_bx HS ?_;clear HS;intro g1 w1 HS F)|((with_reducible refine gd 5 rfl ?_);refine ev_cl HS (impl_timeOk.calls ht3.out) Tryz.func104 ?_;clear HS;intro wt3 HS F)|((with_reducible refine gd 9 rfl ?_);refine gg ?_;refine ev_cl HS (impl_timeOk.calls ht6.out) Tryz.func104 ?_;clear HS;intro wt6 HS F)|((with_reducible refine gd 14 rfl ?_);refine gg ?_;refine ev_cl HS (impl_timeOk.calls ht9.out) Tryz.func104 ?_;clear HS;intro wt9 HS F))
  go_ret
  exact HS.pk
 subst c11
 replace H:=zbind H;obtain⟨t12,ht12,H⟩:=H
 replace H:=znifb H;rcases H with⟨c14,H⟩|⟨c14,H⟩
 ·
  subst c14
  obtain rfl:=zsome H
  go_wp2_with (first|((with_reducible refine gd 1 rfl ?_);refine ev_bx HS ?_;clear HS;intro g1 w1 HS F)|((with_reducible refine gd 5 rfl ?_);refine ev_cl HS (impl_timeOk.calls ht3.out) Tryz.func104 ?_;clear HS;intro wt3 HS F)|((with_reducible refine gd 9 rfl ?_);refine gg ?_;refine ev_cl HS (impl_timeOk.calls ht6.out) Tryz.func104 ?_;clear HS;intro wt6 HS F)|((with_reducible refine gd 14 rfl ?_);refine gg ?_;refine ev_cl HS (impl_timeOk.calls ht9.out) Tryz.func104 ?_;clear HS;intro wt9 HS F)|((with_reducible refine gd 19 rfl ?_);refine gg ?_;refine ev_cl HS (impl_NameOk.calls ht12.out (HS.keepc hgM)) Tryz.func71 ?_;clear HS;intro wt12 HS F))
  go_ret
  exact HS.pk
 subst c14
 replace H:=zbind H;obtain⟨t15,ht15,H⟩:=H
 replace H:=znifb H;rcases H with⟨c17,H⟩|⟨c17,H⟩
 ·
  subst c17
  obtain rfl:=zsome H
  go_wp2_with (first|((with_reducible refine gd 1 rfl ?_);refine ev_bx HS ?_;clear HS;intro g1 w1 HS F)|((with_reducible refine gd 5 rfl ?_);refine ev_cl HS (impl_timeOk.calls ht3.out) Tryz.func104 ?_;clear HS;intro wt3 HS F)|((with_reducible refine gd 9 rfl ?_);refine gg ?_;refine ev_cl HS (impl_timeOk.calls ht6.out) Tryz.func104 ?_;clear HS;intro wt6 HS F)|((with_reducible refine gd 14 rfl ?_);refine gg ?_;refine ev_cl HS (impl_timeOk.calls ht9.out) Tryz.func104 ?_;clear HS;intro wt9 HS F)|((with_reducible refine gd 19 rfl ?_);refine gg ?_;refine ev_cl HS (impl_NameOk.calls ht12.out (HS.keepc hgM)) Tryz.func71 ?_;clear HS;intro wt12 HS F)|((with_reducible refine gd 24 rfl ?_);refine gg ?_;refine ev_cl HS (impl_NameOk.calls ht15.out (HS.keepc hgM)) Tryz.func71 ?_;clear HS;intro wt15 HS F))
  go_ret
  exact HS.pk
 subst c17
 replace H:=znif' H;rcases H with⟨c18,H⟩|⟨c18,H⟩
 ·
  obtain⟨c18a,c18b⟩:=nq c18;clear c18
  obtain rfl:=zsome H
  go_wp2_with (first|((with_reducible refine gd 1 rfl ?_);refine ev_bx HS ?_;clear HS;intro g1 w1 HS F)|((with_reducible refine gd 5 rfl ?_);refine ev_cl HS (impl_timeOk.calls ht3.out) Tryz.func104 ?_;clear HS;intro wt3 HS F)|((with_reducible refine gd 9 rfl ?_);refine gg ?_;refine ev_cl HS (impl_timeOk.calls ht6.out) Tryz.func104 ?_;clear HS;intro wt6 HS F)|((with_reducible refine gd 14 rfl ?_);refine gg ?_;refine ev_cl HS (impl_timeOk.calls ht9.out) Tryz.func104 ?_;clear HS;intro wt9 HS F)|((with_reducible refine gd 19 rfl ?_);refine gg ?_;refine ev_cl HS (impl_NameOk.calls ht12.out (HS.keepc hgM)) Tryz.func71 ?_;clear HS;intro wt12 HS F)|((with_reducible refine gd 24 rfl ?_);refine gg ?_;refine ev_cl HS (impl_NameOk.calls ht15.out (HS.keepc hgM)) Tryz.func71 ?_;clear HS;intro wt15 HS F))
  go_ret
  exact HS.pk
 obtain⟨c18a,c18b⟩:=bq c18;clear c18
 replace H:=zbind H;obtain⟨t19,ht19,H⟩:=H
 replace H:=znifb H;rcases H with⟨c21,H⟩|⟨c21,H⟩
 ·
  subst c21
  obtain rfl:=zsome H
  go_wp2_with (first|((with_reducible refine gd 1 rfl ?_);refine ev_bx HS ?_;clear HS;intro g1 w1 HS F)|((with_reducible refine gd 5 rfl ?_);refine ev_cl HS (impl_timeOk.calls ht3.out) Tryz.func104 ?_;clear HS;intro wt3 HS F)|((with_reducible refine gd 9 rfl ?_);refine gg ?_;refine ev_cl HS (impl_timeOk.calls ht6.out) Tryz.func104 ?_;clear HS;intro wt6 HS F)|((with_reducible refine gd 14 rfl ?_);refine gg ?_;refine ev_cl HS (impl_timeOk.calls ht9.out) Tryz.func104 ?_;clear HS;intro wt9 HS F)|((with_reducible refine gd 19 rfl ?_);refine gg ?_;refine ev_cl HS (impl_NameOk.calls ht12.out (HS.keepc hgM)) Tryz.func71 ?_;clear HS;intro wt12 HS F)|((with_reducible refine gd 24 rfl ?_);refine gg ?_;refine ev_cl HS (impl_NameOk.calls ht15.out (HS.keepc hgM)) Tryz.func71 ?_;clear HS;intro wt15 HS F)|((with_reducible refine gd 35 rfl ?_);refine gg ?_;refine ev_cl HS (impl_within.calls ht19.out) Tryz.func105 ?_;clear HS;intro wt19 HS F))
  go_ret
  exact HS.pk
 subst c21
 replace H:=zbind H;obtain⟨t22,ht22,H⟩:=H
 replace H:=znifb H;rcases H with⟨c24,H⟩|⟨c24,H⟩
 ·
  subst c24
  obtain rfl:=zsome H
  go_wp2_with (first|((with_reducible refine gd 1 rfl ?_);refine ev_bx HS ?_;clear HS;intro g1 w1 HS F)|((with_reducible refine gd 5 rfl ?_);refine ev_cl HS (impl_timeOk.calls ht3.out) Tryz.func104 ?_;clear HS;intro wt3 HS F)|((with_reducible refine gd 9 rfl ?_);refine gg ?_;refine ev_cl HS (impl_timeOk.calls ht6.out) Tryz.func104 ?_;clear HS;intro wt6 HS F)|((with_reducible refine gd 14 rfl ?_);refine gg ?_;refine ev_cl HS (impl_timeOk.calls ht9.out) Tryz.func104 ?_;clear HS;intro wt9 HS F)|((with_reducible refine gd 19 rfl ?_);refine gg ?_;refine ev_cl HS (impl_NameOk.calls ht12.out (HS.keepc hgM)) Tryz.func71 ?_;clear HS;intro wt12 HS F)|((with_reducible refine gd 24 rfl ?_);refine gg ?_;refine ev_cl HS (impl_NameOk.calls ht15.out (HS.keepc hgM)) Tryz.func71 ?_;clear HS;intro wt15 HS F)|((with_reducible refine gd 35 rfl ?_);refine gg ?_;refine ev_cl HS (impl_within.calls ht19.out) Tryz.func105 ?_;clear HS;intro wt19 HS F)|((with_reducible refine gd 40 rfl ?_);refine gg ?_;refine ev_cl HS (impl_within.calls ht22.out) Tryz.func105 ?_;clear HS;intro wt22 HS F))
  go_ret
  exact HS.pk
 subst c24
 replace H:=zbind H;obtain⟨t25,ht25,H⟩:=H
 replace H:=znifb H;rcases H with⟨c27,H⟩|⟨c27,H⟩
 ·
  subst c27
  obtain rfl:=zsome H
  go_wp2_with (first|((with_reducible refine gd 1 rfl ?_);refine ev_bx HS ?_;clear HS;intro g1 w1 HS F)|((with_reducible refine gd 5 rfl ?_);refine ev_cl HS (impl_timeOk.calls ht3.out) Tryz.func104 ?_;clear HS;intro wt3 HS F)|((with_reducible refine gd 9 rfl ?_);refine gg ?_;refine ev_cl HS (impl_timeOk.calls ht6.out) Tryz.func104 ?_;clear HS;intro wt6 HS F)|((with_reducible refine gd 14 rfl ?_);refine gg ?_;refine ev_cl HS (impl_timeOk.calls ht9.out) Tryz.func104 ?_;clear HS;intro wt9 HS F)|((with_reducible refine gd 19 rfl ?_);refine gg ?_;refine ev_cl HS (impl_NameOk.calls ht12.out (HS.keepc hgM)) Tryz.func71 ?_;clear HS;intro wt12 HS F)|((with_reducible refine gd 24 rfl ?_);refine gg ?_;refine ev_cl HS (impl_NameOk.calls ht15.out (HS.keepc hgM)) Tryz.func71 ?_;clear HS;intro wt15 HS F)|((with_reducible refine gd 35 rfl ?_);refine gg ?_;refine ev_cl HS (impl_within.calls ht19.out) Tryz.func105 ?_;clear HS;intro wt19 HS F)|((with_reducible refine gd 40 rfl ?_);refine gg ?_;refine ev_cl HS (impl_within.calls ht22.out) Tryz.func105 ?_;clear HS;intro wt22 HS F)|((with_reducible refine gd 45 rfl ?_);refine gg ?_;refine ev_cl HS (impl_PoliciesOk.calls ht25.out (HS.ro gp0) lp0) Tryz.func106 ?_;clear HS;intro wt25 HS F))
  go_ret
  exact HS.pk
 subst c27
 replace H:=zbind H;obtain⟨t28,ht28,H⟩:=H
 replace H:=znifb H;rcases H with⟨c30,H⟩|⟨c30,H⟩
 ·
  subst c30
  obtain rfl:=zsome H
  go_wp2_with (first|((with_reducible refine gd 1 rfl ?_);refine ev_bx HS ?_;clear HS;intro g1 w1 HS F)|((with_reducible refine gd 5 rfl ?_);refine ev_cl HS (impl_timeOk.calls ht3.out) Tryz.func104 ?_;clear HS;intro wt3 HS F)|((with_reducible refine gd 9 rfl ?_);refine gg ?_;refine ev_cl HS (impl_timeOk.calls ht6.out) Tryz.func104 ?_;clear HS;intro wt6 HS F)|((with_reducible refine gd 14 rfl ?_);refine gg ?_;refine ev_cl HS (impl_timeOk.calls ht9.out) Tryz.func104 ?_;clear HS;intro wt9 HS F)|((with_reducible refine gd 19 rfl ?_);refine gg ?_;refine ev_cl HS (impl_NameOk.calls ht12.out (HS.keepc hgM)) Tryz.func71 ?_;clear HS;intro wt12 HS F)|((with_reducible refine gd 24 rfl ?_);refine gg ?_;refine ev_cl HS (impl_NameOk.calls ht15.out (HS.keepc hgM)) Tryz.func71 ?_;clear HS;intro wt15 HS F)|((with_reducible refine gd 35 rfl ?_);refine gg ?_;refine ev_cl HS (impl_within.calls ht19.out) Tryz.func105 ?_;clear HS;intro wt19 HS F)|((with_reducible refine gd 40 rfl ?_);refine gg ?_;refine ev_cl HS (impl_within.calls ht22.out) Tryz.func105 ?_;clear HS;intro wt22 HS F)|((with_reducible refine gd 45 rfl ?_);refine gg ?_;refine ev_cl HS (impl_PoliciesOk.calls ht25.out (HS.ro gp0) lp0) Tryz.func106 ?_;clear HS;intro wt25 HS F)|((with_reducible refine gd 50 rfl ?_);refine gg ?_;refine ev_cl HS (impl_NamesOk.calls ht28.out (HS.ro gp1) lp1 (HS.keepc hgM)) Tryz.func107 ?_;clear HS;intro wt28 HS F))
  go_ret
  exact HS.pk
 subst c30
 replace H:=zbind H;obtain⟨t31,ht31,H⟩:=H
 replace H:=zifb H;rcases H with⟨c33,H⟩|⟨c33,H⟩
 ·
  subst c33
  obtain rfl:=zsome H
  go_wp2_with (first|((with_reducible refine gd 1 rfl ?_);refine ev_bx HS ?_;clear HS;intro g1 w1 HS F)|((with_reducible refine gd 5 rfl ?_);refine ev_cl HS (impl_timeOk.calls ht3.out) Tryz.func104 ?_;clear HS;intro wt3 HS F)|((with_reducible refine gd 9 rfl ?_);refine gg ?_;refine ev_cl HS (impl_timeOk.calls ht6.out) Tryz.func104 ?_;clear HS;intro wt6 HS F)|((with_reducible refine gd 14 rfl ?_);refine gg ?_;refine ev_cl HS (impl_timeOk.calls ht9.out) Tryz.func104 ?_;clear HS;intro wt9 HS F)|((with_reducible refine gd 19 rfl ?_);refine gg ?_;refine ev_cl HS (impl_NameOk.calls ht12.out (HS.keepc hgM)) Tryz.func71 ?_;clear HS;intro wt12 HS F)|((with_reducible refine gd 24 rfl ?_);refine gg ?_;refine ev_cl HS (impl_NameOk.calls ht15.out (HS.keepc hgM)) Tryz.func71 ?_;clear HS;intro wt15 HS F)|((with_reducible refine gd 35 rfl ?_);refine gg ?_;refine ev_cl HS (impl_within.calls ht19.out) Tryz.func105 ?_;clear HS;intro wt19 HS F)|((with_reducible refine gd 40 rfl ?_);refine gg ?_;refine ev_cl HS (impl_within.calls ht22.out) Tryz.func105 ?_;clear HS;intro wt22 HS F)|((with_reducible refine gd 45 rfl ?_);refine gg ?_;refine ev_cl HS (impl_PoliciesOk.calls ht25.out (HS.ro gp0) lp0) Tryz.func106 ?_;clear HS;intro wt25 HS F)|((with_reducible refine gd 50 rfl ?_);refine gg ?_;refine ev_cl HS (impl_NamesOk.calls ht28.out (HS.ro gp1) lp1 (HS.keepc hgM)) Tryz.func107 ?_;clear HS;intro wt28 HS F)|((with_reducible refine gd 55 rfl ?_);refine gg ?_;refine ev_cl HS (impl_NamesOk.calls ht31.out (HS.ro gp2) lp2 (HS.keepc hgM)) Tryz.func107 ?_;clear HS;intro wt31 HS F))
  go_ret
  exact HS.pk
 subst c33
 obtain rfl:=zsome H
 go_wp2_with (first|((with_reducible refine gd 1 rfl ?_);refine ev_bx HS ?_;clear HS;intro g1 w1 HS F)|((with_reducible refine gd 5 rfl ?_);refine ev_cl HS (impl_timeOk.calls ht3.out) Tryz.func104 ?_;clear HS;intro wt3 HS F)|((with_reducible refine gd 9 rfl ?_);refine gg ?_;refine ev_cl HS (impl_timeOk.calls ht6.out) Tryz.func104 ?_;clear HS;intro wt6 HS F)|((with_reducible refine gd 14 rfl ?_);refine gg ?_;refine ev_cl HS (impl_timeOk.calls ht9.out) Tryz.func104 ?_;clear HS;intro wt9 HS F)|((with_reducible refine gd 19 rfl ?_);refine gg ?_;refine ev_cl HS (impl_NameOk.calls ht12.out (HS.keepc hgM)) Tryz.func71 ?_;clear HS;intro wt12 HS F)|((with_reducible refine gd 24 rfl ?_);refine gg ?_;refine ev_cl HS (impl_NameOk.calls ht15.out (HS.keepc hgM)) Tryz.func71 ?_;clear HS;intro wt15 HS F)|((with_reducible refine gd 35 rfl ?_);refine gg ?_;refine ev_cl HS (impl_within.calls ht19.out) Tryz.func105 ?_;clear HS;intro wt19 HS F)|((with_reducible refine gd 40 rfl ?_);refine gg ?_;refine ev_cl HS (impl_within.calls ht22.out) Tryz.func105 ?_;clear HS;intro wt22 HS F)|((with_reducible refine gd 45 rfl ?_);refine gg ?_;refine ev_cl HS (impl_PoliciesOk.calls ht25.out (HS.ro gp0) lp0) Tryz.func106 ?_;clear HS;intro wt25 HS F)|((with_reducible refine gd 50 rfl ?_);refine gg ?_;refine ev_cl HS (impl_NamesOk.calls ht28.out (HS.ro gp1) lp1 (HS.keepc hgM)) Tryz.func107 ?_;clear HS;intro wt28 HS F)|((with_reducible refine gd 55 rfl ?_);refine gg ?_;refine ev_cl HS (impl_NamesOk.calls ht31.out (HS.ro gp2) lp2 (HS.keepc hgM)) Tryz.func107 ?_;clear HS;intro wt31 HS F))
 go_ret
 exact HS.pk
def impl_CertText.f (k:Nat)(a0:S41):Option (ByteArray×Bool):=((impl_CertOk.f k a0).bind fun t3=>(if t3=true then((impl_BodyItem.f k a0).bind fun t13=>((impl_bytesItem.f a0.f12).bind fun t15=>((impl_ListItem.f k ([t13,t15]:List S153)).bind fun t18=>((impl_ItemText.f k t18).bind fun t20=>(some (t20.1,t20.2))))))else(some ((⟨#[]⟩:ByteArray),false))))
def impl_CertText.T3:TT:=(true,[([],[]),([0],[0]),([],[]),([2],[2]),([3,1],[3]),([1,4],[1,4]),([5,4],[5]),([6,6],[6]),([7],[7]),([7],[7]),([8,7,0,1,2,3,4,5,6,7,8,9],[8]),([9,10,0,1,2,3,4,5,6,7,8,9,10],[9])])
theorem impl_CertText.tT3:rtab .any (opsOf Tryz.f73 3)=impl_CertText.T3:=by kernel_rfl
theorem impl_CertText.calls {k:Nat}{a0:S41}{Ap0 Ap1 Ap2:Option Addr}{np0 cp0 np1 cp1 np2 cp2:Nat}{mG:Int}{r1:ByteArray}{r2:Bool}{w:World}(h:impl_CertText.f k a0=some (r1,r2))(gp0:(Kd.int .i64).C w Ap0 np0 a0.f9)(lp0:np0≤cp0)(gp1:Kd.string.C w Ap1 np1 a0.f10)(lp1:np1≤cp1)(gp2:Kd.string.C w Ap2 np2 a0.f11)(lp2:np2≤cp2)(hgM:w.cell? ⟨0,0,none⟩=some (.int .i64 mG)):
    Calls Tryz.prog 73 #[.agg #[.int .i64 a0.f0,.string a0.f1,.string a0.f2,.int .i64 a0.f3,.int .i64 a0.f4,.string a0.f5,.bool a0.f6,.int .i64 a0.f7,.int .i64 a0.f8,.slice Ap0 np0 cp0,.slice Ap1 np1 cp1,.slice Ap2 np2 cp2,.string a0.f12]] w (fun e w'=>e=.returned (.tuple #[.string r1,.bool r2])∧Hp noFP w w' []):=by
 obtain rfl:=C_len gp0
 obtain rfl:=C_len gp1
 obtain rfl:=C_len gp2
 have HS:=Hp.start w
 have H:=Aside0.mk h
 clear h
 unfold impl_CertText.f at H
 go_enter Tryz.func73,Tryz.ntmps73
 replace H:=zbind H;obtain⟨t3,ht3,H⟩:=H
 go_upto_if 6 with(first|((with_reducible refine gd 1 rfl ?_);refine ev_bx HS ?_;clear HS;intro g1 w1 HS F)|((with_reducible refine gd 5 rfl ?_);refine ev_cl HS (impl_CertOk.calls ht3.out (HS.ro gp0) lp0 (HS.ro gp1) lp1 (HS.ro gp2) lp2 (HS.keepc hgM)) Tryz.func48 ?_;clear HS;intro wt3 HS F))
 replace H:=znifb H;rcases H with⟨c5,H⟩|⟨c5,H⟩
 ·
  subst c5
  (try simp only [dcn,dcu,dcf])
  obtain⟨rfl,rfl⟩:=zsome2 H
  go_wp2
  exact rl rfl (.tmp (.tmp .nil)) ⟨rfl,HS.pi []⟩
 subst c5
 (try simp only [dcn,dcu,dcf])
 (try go_wp2)
 replace H:=zbind H;obtain⟨t13,ht13,H⟩:=H
 replace H:=zbind H;obtain⟨t15,ht15,H⟩:=H
 replace H:=zbind H;obtain⟨t18,ht18,H⟩:=H
 replace H:=zbind H;obtain⟨t20,ht20,H⟩:=H
 refine dr_start [] HS #[false,false,false,false,false,false,false,false,false,false,false,false] (by kernel_rfl) rfl rfl impl_CertText.tT3 (fun w7 HT HS HH=>?_)
 (try clear F)
 refine dqt [0,2,3] HT HH ?_
 refine dr1 1 HT fun K hK=>?_
 refine go_cl1 HS (impl_BodyItem.calls ht13.out (HS.ro gp0) lp0 (HS.ro gp1) lp1 (HS.ro gp2) lp2) Tryz.func129 ?_;clear HS;intro v14 wt13 HS F;obtain⟨B14,d14,rfl,m14⟩:=HS.form 1 rfl
 refine nrm 8 hK ⟨_,HS⟩ fun HH=>?_;clear hK K
 refine dr1 4 HT fun K hK=>?_
 refine go_cl1 HS (impl_bytesItem.calls ht15.out) Tryz.func130 ?_;clear HS;intro v16 wt15 HS F;obtain⟨B16,d16,rfl,m16⟩:=HS.form 2 rfl
 refine nrm 11 hK ⟨_,HS⟩ fun HH=>?_;clear hK K
 refine dr1 5 HT fun K hK=>?_
 refine if_li q153 [1,2] ([t13,t15]:List S153) ([.int .i64 t13.f0,.string t13.f1,.slice B14 t13.f2.length d14]++([.int .i64 t15.f0,.string t15.f1,.slice B16 t15.f2.length d16]++ [])) HS (MadeL.cons (js1:=[1]) (c:=[.int .i64 t13.f0,.string t13.f1,.slice B14 t13.f2.length d14]) rfl (fun S hd hh=>q153_pack (x:=t13) hd (hh 1 (.own (Zd.slice 153 q153) t13.f2 [.slice B14 t13.f2.length d14]) rfl) (by decide)) (MadeL.cons (js1:=[2]) (c:=[.int .i64 t15.f0,.string t15.f1,.slice B16 t15.f2.length d16]) rfl (fun S hd hh=>q153_pack (x:=t15) hd (hh 2 (.own (Zd.slice 153 q153) t15.f2 [.slice B16 t15.f2.length d16]) rfl) (by decide)) MadeL.nil (by decide)) (by decide)) ?_;clear HS;intro v17 w17 HS F;obtain⟨B17,d17,rfl,m17⟩:=HS.formn 2 3 rfl rfl
 refine nrm 12 hK ⟨_,HS⟩ fun HH=>?_;clear hK K
 refine dr1 6 HT fun K hK=>?_
 refine go_cl1 HS (impl_ListItem.calls ht18.out (HS.rd 3 rfl) m17) Tryz.func128 ?_;clear HS;intro v19 wt18 HS F;obtain⟨B19,d19,rfl,m19⟩:=HS.form 4 rfl
 refine nrm 13 hK ⟨_,HS⟩ fun HH=>?_;clear hK K
 refine dr1 7 HT fun K hK=>?_
 refine go_cl HS (impl_ItemText.calls ht20.out (HS.rd 4 rfl) m19) Tryz.func127 ?_;clear HS;intro wt20 HS F
 refine nrm 14 hK ⟨_,HS⟩ fun HH=>?_;clear hK K
 refine dq [8,9,10,11] HT ?_
 refine dn HT ?_
 (try clear F)
 have F:=HS.bx
 obtain⟨rfl,rfl⟩:=zsome2 H
 go_wp2
 exact rl rfl (.tmp (.tmp .nil)) ⟨rfl,HS.pi []⟩
def impl_Cert_72_0.l0:Nat→(List ByteArray)→Int→(List S41)→Option (Bool)
  |0,_,_,_=>none
  |k+1,l19,x21,a0=>(if x21<(a0.length:Int)then(if 0≤x21 then(if x21<(a0.length:Int)then((impl_CertText.f k (rd_T41 a0 x21)).bind fun t31=>(if t31.2=true then((slices_Contains_string_string.f k l19 t31.1).bind fun t34=>(if t34=true then(some false)else(if l19.length+1≤8796093022208 then(lets (l19++([t31.1]:List ByteArray)) fun y40=>(impl_Cert_72_0.l0 k y40 (wrap64 (x21+1)) a0))else none)))else(some false)))else none)else none)else(some true))
def impl_Cert_72_0.f (k:Nat)(a0:(List S41)):Option (Bool):=(impl_Cert_72_0.l0 k [] 0 a0)
theorem impl_Cert_72_0.calls {k:Nat}{a0:(List S41)}{Ap0:Option Addr}{np0 cp0:Nat}{mG:Int}{r:Bool}{w:World}(h:impl_Cert_72_0.f k a0=some r)(gp0:k41.C w Ap0 np0 a0)(lp0:np0≤cp0)(hgM:w.cell? ⟨0,0,none⟩=some (.int .i64 mG)):
    Calls Tryz.prog 72 #[.slice Ap0 np0 cp0,.func (.func 73) #[] #[]] w (fun e w'=>e=.returned (.bool r)∧Hp noFP w w' []):=by
 obtain rfl:=C_len gp0
 have HS:=Hp.start w
 have H:=Aside0.mk h
 clear h
 unfold impl_Cert_72_0.f at H
 go_enter Tryz.func72,Tryz.ntmps72
 go_wp2
 replace HS:=HS.nil 9 Zd.string
 go_loopg [5,12] k (fun kq v_5 v_12 w'=>∃(l19:List ByteArray) (v20:Value) (x21:Int),v_5=v20∧v_12=.int .i64 x21∧Aside0 (impl_Cert_72_0.l0 kq l19 x21 a0=some r)∧Aside0 (kq≤k)∧Hp noFP w w' [.own (Zd.slice 9 Zd.string) l19 [v20]])
 case atStart=>exact⟨_,_,_,rfl,rfl,H,⟨Nat.le_refl _⟩,HS⟩
 case round=>
  clear HS H;(try clear F)
  obtain⟨l19,v20,x21,rfl,rfl,H,HKk18,HS⟩:=hrel
  obtain⟨B20,d20,rfl,m20⟩:=HS.form 0 rfl
  cases gk with
  |zero=>exact absurd H.out (by simp [impl_Cert_72_0.l0])
  | succ k18=>
   simp only [impl_Cert_72_0.l0] at H
   replace H:=znif H;rcases H with⟨c23,H⟩|⟨c23,H⟩
   ·
    obtain rfl:=zsome H
    go_wp2
    go_ret
    exact HS.pk
   replace H:=zgo H;obtain⟨c24,H⟩:=H
   replace H:=zgo H;obtain⟨c25,H⟩:=H
   obtain⟨ad26,B26_9,d26_9,B26_10,d26_10,B26_11,d26_11,rfl,e26_0,e26_1,e26_2,e26_3,e26_4,e26_5,e26_6,e26_7,e26_8,e26_9,e26_10,e26_11,e26_12,m26_9,y26_9,m26_10,y26_10,m26_11,y26_11⟩:=at_T41 gp0 x21 (of_eq_true c24) (of_eq_true c25)
   have e26_0_26:=HS.keepc e26_0
   have e26_1_26:=HS.keepc e26_1
   have e26_2_26:=HS.keepc e26_2
   have e26_3_26:=HS.keepc e26_3
   have e26_4_26:=HS.keepc e26_4
   have e26_5_26:=HS.keepc e26_5
   have e26_6_26:=HS.keepc e26_6
   have e26_7_26:=HS.keepc e26_7
   have e26_8_26:=HS.keepc e26_8
   have e26_9_26:=HS.keepc e26_9
   have e26_10_26:=HS.keepc e26_10
   have e26_11_26:=HS.keepc e26_11
   have e26_12_26:=HS.keepc e26_12
   replace H:=zbind H;obtain⟨t31,ht31,H⟩:=H
   replace H:=znifb H;rcases H with⟨c33,H⟩|⟨c33,H⟩
   ·
    obtain rfl:=zsome H
    go_wp2_with (first|((with_reducible refine gd 7 rfl ?_);refine ev_bx HS ?_;clear HS;intro g7 w7 HS F)|((with_reducible refine gate_store (p:=7) rfl ?_);refine ev_st 1 0 HS (seg:=[.int .i64 ((rd_T41 a0 x21).f0),.string ((rd_T41 a0 x21).f1),.string ((rd_T41 a0 x21).f2),.int .i64 ((rd_T41 a0 x21).f3),.int .i64 ((rd_T41 a0 x21).f4),.string ((rd_T41 a0 x21).f5),.bool ((rd_T41 a0 x21).f6),.int .i64 ((rd_T41 a0 x21).f7),.int .i64 ((rd_T41 a0 x21).f8),.slice B26_9 (rd_T41 a0 x21).f9.length d26_9,.slice B26_10 (rd_T41 a0 x21).f10.length d26_10,.slice B26_11 (rd_T41 a0 x21).f11.length d26_11,.string ((rd_T41 a0 x21).f12)]) ?_;clear HS;intro w29 HS F)|((with_reducible refine gd 19 rfl ?_);refine ev_callv rfl Tryz.func73 (by kernel_rfl) rfl #[.agg #[.int .i64 ((rd_T41 a0 x21).f0),.string ((rd_T41 a0 x21).f1),.string ((rd_T41 a0 x21).f2),.int .i64 ((rd_T41 a0 x21).f3),.int .i64 ((rd_T41 a0 x21).f4),.string ((rd_T41 a0 x21).f5),.bool ((rd_T41 a0 x21).f6),.int .i64 ((rd_T41 a0 x21).f7),.int .i64 ((rd_T41 a0 x21).f8),.slice B26_9 (rd_T41 a0 x21).f9.length d26_9,.slice B26_10 (rd_T41 a0 x21).f10.length d26_10,.slice B26_11 (rd_T41 a0 x21).f11.length d26_11,.string ((rd_T41 a0 x21).f12)]] #[.agg #[.int .i64 ((rd_T41 a0 x21).f0),.string ((rd_T41 a0 x21).f1),.string ((rd_T41 a0 x21).f2),.int .i64 ((rd_T41 a0 x21).f3),.int .i64 ((rd_T41 a0 x21).f4),.string ((rd_T41 a0 x21).f5),.bool ((rd_T41 a0 x21).f6),.int .i64 ((rd_T41 a0 x21).f7),.int .i64 ((rd_T41 a0 x21).f8),.slice B26_9 (rd_T41 a0 x21).f9.length d26_9,.slice B26_10 (rd_T41 a0 x21).f10.length d26_10,.slice B26_11 (rd_T41 a0 x21).f11.length d26_11,.string ((rd_T41 a0 x21).f12)]] rfl rfl (by simp only [mpn];rfl) (by first|rfl|simp) ?_;refine(impl_CertText.calls ht31.out (HS.ro y26_9) m26_9 (HS.ro y26_10) m26_10 (HS.ro y26_11) m26_11 (HS.keepc hgM)).mono ?_;rintro _ wt31 ⟨rfl,HQ⟩;refine⟨_,rfl,?_⟩;replace HS:=HS.call HQ;clear HQ;(try clear F);(try simp only [hpn,hpm] at HS);have F:=HS.bx;(try simp only [c33])))
    go_ret
    exact HS.pk
   replace H:=zbind H;obtain⟨t34,ht34,H⟩:=H
   go_upto_if 28 with(first|((with_reducible refine gd 7 rfl ?_);refine ev_bx HS ?_;clear HS;intro g7 w7 HS F)|((with_reducible refine gate_store (p:=7) rfl ?_);refine ev_st 1 0 HS (seg:=[.int .i64 ((rd_T41 a0 x21).f0),.string ((rd_T41 a0 x21).f1),.string ((rd_T41 a0 x21).f2),.int .i64 ((rd_T41 a0 x21).f3),.int .i64 ((rd_T41 a0 x21).f4),.string ((rd_T41 a0 x21).f5),.bool ((rd_T41 a0 x21).f6),.int .i64 ((rd_T41 a0 x21).f7),.int .i64 ((rd_T41 a0 x21).f8),.slice B26_9 (rd_T41 a0 x21).f9.length d26_9,.slice B26_10 (rd_T41 a0 x21).f10.length d26_10,.slice B26_11 (rd_T41 a0 x21).f11.length d26_11,.string ((rd_T41 a0 x21).f12)]) ?_;clear HS;intro w29 HS F)|((with_reducible refine gd 19 rfl ?_);refine ev_callv rfl Tryz.func73 (by kernel_rfl) rfl #[.agg #[.int .i64 ((rd_T41 a0 x21).f0),.string ((rd_T41 a0 x21).f1),.string ((rd_T41 a0 x21).f2),.int .i64 ((rd_T41 a0 x21).f3),.int .i64 ((rd_T41 a0 x21).f4),.string ((rd_T41 a0 x21).f5),.bool ((rd_T41 a0 x21).f6),.int .i64 ((rd_T41 a0 x21).f7),.int .i64 ((rd_T41 a0 x21).f8),.slice B26_9 (rd_T41 a0 x21).f9.length d26_9,.slice B26_10 (rd_T41 a0 x21).f10.length d26_10,.slice B26_11 (rd_T41 a0 x21).f11.length d26_11,.string ((rd_T41 a0 x21).f12)]] #[.agg #[.int .i64 ((rd_T41 a0 x21).f0),.string ((rd_T41 a0 x21).f1),.string ((rd_T41 a0 x21).f2),.int .i64 ((rd_T41 a0 x21).f3),.int .i64 ((rd_T41 a0 x21).f4),.string ((rd_T41 a0 x21).f5),.bool ((rd_T41 a0 x21).f6),.int .i64 ((rd_T41 a0 x21).f7),.int .i64 ((rd_T41 a0 x21).f8),.slice B26_9 (rd_T41 a0 x21).f9.length d26_9,.slice B26_10 (rd_T41 a0 x21).f10.length d26_10,.slice B26_11 (rd_T41 a0 x21).f11.length d26_11,.string ((rd_T41 a0 x21).f12)]] rfl rfl (by simp only [mpn];rfl) (by first|rfl|simp) ?_;refine(impl_CertText.calls ht31.out (HS.ro y26_9) m26_9 (HS.ro y26_10) m26_10 (HS.ro y26_11) m26_11 (HS.keepc hgM)).mono ?_;rintro _ wt31 ⟨rfl,HQ⟩;refine⟨_,rfl,?_⟩;replace HS:=HS.call HQ;clear HQ;(try clear F);(try simp only [hpn,hpm] at HS);have F:=HS.bx;(try simp only [c33]))|((with_reducible refine gd 27 rfl ?_);refine gg ?_;refine ev_cl HS (slices_Contains_string_string.calls ht34.out (HS.rd 0 rfl) m20) Tryz.func126 ?_;clear HS;intro wt34 HS F))
   replace H:=zifb H;rcases H with⟨c36,H⟩|⟨c36,H⟩
   ·
    subst c36
    (try simp only [dcn,dcu,dcf])
    obtain rfl:=zsome H
    go_wp2
    go_ret
    exact HS.pk
   subst c36
   (try simp only [dcn,dcu,dcf])
   replace H:=zgo H;obtain⟨c39,H⟩:=H
   replace H:=zlets H;obtain⟨y40,e_y40,H⟩:=H
   go_wp2_with (first|((with_reducible refine gd 31 rfl ?_);refine ev_li Zd.string [] ([t31.1]:List ByteArray) ([.string t31.1]++ []) HS (MadeL.cons (js1:=[]) (c:=[.string t31.1]) rfl (made_flat (fun _=>rfl)) MadeL.nil (by decide)) ?_;clear HS;intro v37 w37 HS F;obtain⟨B37,d37,rfl,m37⟩:=HS.formn 1 2 rfl rfl)|((with_reducible refine gd 32 rfl ?_);refine ev_ap Zd.string 0 2 HS rfl rfl Tryz.underlying28 info9 (of_eq_true c39) ?_;clear HS;intro v40 w40 HS;rw [←e_y40.out] at HS;obtain⟨B40,d40,rfl,m40⟩:=HS.form 3 rfl;(try simp only [hpn,hpm] at HS);have F:=HS.bx))
   go_roundg k18
   case measure=>have:=HKk18.out;omega
   case rel=>exact⟨_,_,_,rfl,rfl,H,⟨by have:=HKk18.out;omega⟩,HS.pi [3]⟩
def impl_CrlOk.l0:Nat→Int→S69→Option (Bool)
  |0,_,_=>none
  |k+1,x23,a0=>(if x23<(a0.f5.length:Int)then(if 0≤x23 then(if x23<(a0.f5.length:Int)then((impl_timeOk.f ((rd_T163 a0.f5 x23).f0)).bind fun t7=>(if t7=true then((impl_within.f ((rd_T163 a0.f5 x23).f1) 1 10).bind fun t13=>(if t13=true then(if(rd_T163 a0.f5 x23).f1=8 then(if a0.f4=0 then(some false)else(if 0<x23 then(if 0≤(wrap64 (x23 - 1))then(if(wrap64 (x23 - 1))<(a0.f5.length:Int)then(if(rd_T163 a0.f5 x23).f0≤(rd_T163 a0.f5 (wrap64 (x23 - 1))).f0 then(some false)else(impl_CrlOk.l0 k (wrap64 (x23+1)) a0))else none)else none)else(impl_CrlOk.l0 k (wrap64 (x23+1)) a0)))else(if 0<x23 then(if 0≤(wrap64 (x23 - 1))then(if(wrap64 (x23 - 1))<(a0.f5.length:Int)then(if(rd_T163 a0.f5 x23).f0≤(rd_T163 a0.f5 (wrap64 (x23 - 1))).f0 then(some false)else(impl_CrlOk.l0 k (wrap64 (x23+1)) a0))else none)else none)else(impl_CrlOk.l0 k (wrap64 (x23+1)) a0)))else(some false)))else(some false)))else none)else none)else(some true))
def impl_CrlOk.f (k:Nat)(a0:S69):Option (Bool):=((impl_NameOk.f k a0.f0).bind fun t3=>(if t3=true then((impl_within.f a0.f1 1 9999).bind fun t6=>(if t6=true then((impl_within.f a0.f4 0 (wrap64 (a0.f1 - 1))).bind fun t9=>(if t9=true then((impl_timeOk.f a0.f2).bind fun t12=>(if t12=true then((impl_timeOk.f a0.f3).bind fun t15=>(if t15=true then(if 8<(a0.f5.length:Int)then(some false)else(if(a0.f6.size:Int)=15 then(impl_CrlOk.l0 k 0 a0)else(some false)))else(some false)))else(some false)))else(some false)))else(some false)))else(some false)))
def impl_CrlOk.T6:TT:=(true,[([],[]),([0],[0]),([1],[1]),([2],[2]),([3,2],[3]),([4],[4]),([5,4],[4,5]),([6,4,4],[4,6]),([7,4],[4,7]),([4,8],[4,8]),([9,7],[9]),([10],[10]),([11,10],[10,11]),([12,10],[10,12]),([13,10,10],[10,13]),([14],[14]),([15,14],[14,15]),([16,14],[14,16]),([14,17,10],[10,14,17]),([10,18],[10,18]),([19,14],[19]),([20],[20]),([21,20],[20,21]),([22,20,20],[20,22]),([23],[23]),([24,23],[23,24]),([23],[23]),([26,23],[23,26]),([25,27,23],[23,25,27]),([28,23],[23,28]),([29,23],[23,29]),([23],[23]),([31,23],[23,31]),([30,32,23],[23,30,32]),([23,33,20],[20,23,33]),([20,34],[20,34])])
theorem impl_CrlOk.tT6:rtab .any (opsOf Tryz.f131 6)=impl_CrlOk.T6:=by kernel_rfl
theorem impl_CrlOk.calls {k:Nat}{a0:S69}{Ap0:Option Addr}{np0 cp0:Nat}{mG:Int}{r:Bool}{w:World}(h:impl_CrlOk.f k a0=some r)(gp0:k163.C w Ap0 np0 a0.f5)(lp0:np0≤cp0)(hgM:w.cell? ⟨0,0,none⟩=some (.int .i64 mG)):
    Calls Tryz.prog 131 #[.agg #[.string a0.f0,.int .i64 a0.f1,.int .i64 a0.f2,.int .i64 a0.f3,.int .i64 a0.f4,.slice Ap0 np0 cp0,.string a0.f6]] w (fun e w'=>e=.returned (.bool r)∧Hp noFP w w' []):=by
 obtain rfl:=C_len gp0
 have HS:=Hp.start w
 have H:=Aside0.mk h
 clear h
 unfold impl_CrlOk.f at H
 go_enter Tryz.func131,Tryz.ntmps131
 replace H:=zbind H;obtain⟨t3,ht3,H⟩:=H
 replace H:=znifb H;rcases H with⟨c5,H⟩|⟨c5,H⟩
 ·
  subst c5
  obtain rfl:=zsome H
  go_wp2_with (first|((with_reducible refine gd 1 rfl ?_);refine ev_bx HS ?_;clear HS;intro g1 w1 HS F)|((with_reducible refine gd 7 rfl ?_);refine ev_cl HS (impl_NameOk.calls ht3.out (HS.keepc hgM)) Tryz.func71 ?_;clear HS;intro wt3 HS F))
  go_ret
  exact HS.pk
 subst c5
 replace H:=zbind H;obtain⟨t6,ht6,H⟩:=H
 replace H:=znifb H;rcases H with⟨c8,H⟩|⟨c8,H⟩
 ·
  subst c8
  obtain rfl:=zsome H
  go_wp2_with (first|((with_reducible refine gd 1 rfl ?_);refine ev_bx HS ?_;clear HS;intro g1 w1 HS F)|((with_reducible refine gd 7 rfl ?_);refine ev_cl HS (impl_NameOk.calls ht3.out (HS.keepc hgM)) Tryz.func71 ?_;clear HS;intro wt3 HS F)|((with_reducible refine gd 12 rfl ?_);refine gg ?_;refine ev_cl HS (impl_within.calls ht6.out) Tryz.func105 ?_;clear HS;intro wt6 HS F))
  go_ret
  exact HS.pk
 subst c8
 replace H:=zbind H;obtain⟨t9,ht9,H⟩:=H
 replace H:=znifb H;rcases H with⟨c11,H⟩|⟨c11,H⟩
 ·
  subst c11
  obtain rfl:=zsome H
  go_wp2_with (first|((with_reducible refine gd 1 rfl ?_);refine ev_bx HS ?_;clear HS;intro g1 w1 HS F)|((with_reducible refine gd 7 rfl ?_);refine ev_cl HS (impl_NameOk.calls ht3.out (HS.keepc hgM)) Tryz.func71 ?_;clear HS;intro wt3 HS F)|((with_reducible refine gd 12 rfl ?_);refine gg ?_;refine ev_cl HS (impl_within.calls ht6.out) Tryz.func105 ?_;clear HS;intro wt6 HS F)|((with_reducible refine gd 21 rfl ?_);refine gg ?_;refine ev_cl HS (impl_within.calls ht9.out) Tryz.func105 ?_;clear HS;intro wt9 HS F))
  go_ret
  exact HS.pk
 subst c11
 replace H:=zbind H;obtain⟨t12,ht12,H⟩:=H
 replace H:=znifb H;rcases H with⟨c14,H⟩|⟨c14,H⟩
 ·
  subst c14
  obtain rfl:=zsome H
  go_wp2_with (first|((with_reducible refine gd 1 rfl ?_);refine ev_bx HS ?_;clear HS;intro g1 w1 HS F)|((with_reducible refine gd 7 rfl ?_);refine ev_cl HS (impl_NameOk.calls ht3.out (HS.keepc hgM)) Tryz.func71 ?_;clear HS;intro wt3 HS F)|((with_reducible refine gd 12 rfl ?_);refine gg ?_;refine ev_cl HS (impl_within.calls ht6.out) Tryz.func105 ?_;clear HS;intro wt6 HS F)|((with_reducible refine gd 21 rfl ?_);refine gg ?_;refine ev_cl HS (impl_within.calls ht9.out) Tryz.func105 ?_;clear HS;intro wt9 HS F)|((with_reducible refine gd 27 rfl ?_);refine gg ?_;refine ev_cl HS (impl_timeOk.calls ht12.out) Tryz.func104 ?_;clear HS;intro wt12 HS F))
  go_ret
  exact HS.pk
 subst c14
 replace H:=zbind H;obtain⟨t15,ht15,H⟩:=H
 replace H:=znifb H;rcases H with⟨c17,H⟩|⟨c17,H⟩
 ·
  subst c17
  obtain rfl:=zsome H
  go_wp2_with (first|((with_reducible refine gd 1 rfl ?_);refine ev_bx HS ?_;clear HS;intro g1 w1 HS F)|((with_reducible refine gd 7 rfl ?_);refine ev_cl HS (impl_NameOk.calls ht3.out (HS.keepc hgM)) Tryz.func71 ?_;clear HS;intro wt3 HS F)|((with_reducible refine gd 12 rfl ?_);refine gg ?_;refine ev_cl HS (impl_within.calls ht6.out) Tryz.func105 ?_;clear HS;intro wt6 HS F)|((with_reducible refine gd 21 rfl ?_);refine gg ?_;refine ev_cl HS (impl_within.calls ht9.out) Tryz.func105 ?_;clear HS;intro wt9 HS F)|((with_reducible refine gd 27 rfl ?_);refine gg ?_;refine ev_cl HS (impl_timeOk.calls ht12.out) Tryz.func104 ?_;clear HS;intro wt12 HS F)|((with_reducible refine gd 33 rfl ?_);refine gg ?_;refine ev_cl HS (impl_timeOk.calls ht15.out) Tryz.func104 ?_;clear HS;intro wt15 HS F))
  go_ret
  exact HS.pk
 subst c17
 replace H:=zif H;rcases H with⟨c18,H⟩|⟨c18,H⟩
 ·
  obtain rfl:=zsome H
  go_wp2_with (first|((with_reducible refine gd 1 rfl ?_);refine ev_bx HS ?_;clear HS;intro g1 w1 HS F)|((with_reducible refine gd 7 rfl ?_);refine ev_cl HS (impl_NameOk.calls ht3.out (HS.keepc hgM)) Tryz.func71 ?_;clear HS;intro wt3 HS F)|((with_reducible refine gd 12 rfl ?_);refine gg ?_;refine ev_cl HS (impl_within.calls ht6.out) Tryz.func105 ?_;clear HS;intro wt6 HS F)|((with_reducible refine gd 21 rfl ?_);refine gg ?_;refine ev_cl HS (impl_within.calls ht9.out) Tryz.func105 ?_;clear HS;intro wt9 HS F)|((with_reducible refine gd 27 rfl ?_);refine gg ?_;refine ev_cl HS (impl_timeOk.calls ht12.out) Tryz.func104 ?_;clear HS;intro wt12 HS F)|((with_reducible refine gd 33 rfl ?_);refine gg ?_;refine ev_cl HS (impl_timeOk.calls ht15.out) Tryz.func104 ?_;clear HS;intro wt15 HS F))
  go_ret
  exact HS.pk
 go_upto_if 47 with(first|((with_reducible refine gd 1 rfl ?_);refine ev_bx HS ?_;clear HS;intro g1 w1 HS F)|((with_reducible refine gd 7 rfl ?_);refine ev_cl HS (impl_NameOk.calls ht3.out (HS.keepc hgM)) Tryz.func71 ?_;clear HS;intro wt3 HS F)|((with_reducible refine gd 12 rfl ?_);refine gg ?_;refine ev_cl HS (impl_within.calls ht6.out) Tryz.func105 ?_;clear HS;intro wt6 HS F)|((with_reducible refine gd 21 rfl ?_);refine gg ?_;refine ev_cl HS (impl_within.calls ht9.out) Tryz.func105 ?_;clear HS;intro wt9 HS F)|((with_reducible refine gd 27 rfl ?_);refine gg ?_;refine ev_cl HS (impl_timeOk.calls ht12.out) Tryz.func104 ?_;clear HS;intro wt12 HS F)|((with_reducible refine gd 33 rfl ?_);refine gg ?_;refine ev_cl HS (impl_timeOk.calls ht15.out) Tryz.func104 ?_;clear HS;intro wt15 HS F))
 replace H:=znif' H;rcases H with⟨c19,H⟩|⟨c19,H⟩
 ·
  obtain⟨c19a,c19b⟩:=nq c19;clear c19
  (try simp only [c19a,c19b,dcn])
  obtain rfl:=zsome H
  go_wp2
  go_ret
  exact HS.pk
 obtain⟨c19a,c19b⟩:=bq c19;clear c19
 (try simp only [c19a,c19b,dcn])
 go_wp2
 go_loopg [51] k (fun kq v_51 w'=>∃(x23:Int),v_51=.int .i64 x23∧Aside0 (impl_CrlOk.l0 kq x23 a0=some r)∧Aside0 (kq≤k)∧Hp noFP w w' [.box g1 [.string a0.f0,.int .i64 a0.f1,.int .i64 a0.f2,.int .i64 a0.f3,.int .i64 a0.f4,.slice Ap0 a0.f5.length cp0,.string a0.f6] 69])
 case atStart=>exact⟨_,rfl,H,⟨Nat.le_refl _⟩,HS⟩
 case round=>
  clear HS H;(try clear F)
  obtain⟨x23,rfl,H,HKk22,HS⟩:=hrel
  have F:=HS.bx
  cases gk with
  |zero=>exact absurd H.out (by simp [impl_CrlOk.l0])
  | succ k22=>
   simp only [impl_CrlOk.l0] at H
   replace H:=znif H;rcases H with⟨c25,H⟩|⟨c25,H⟩
   ·
    obtain rfl:=zsome H
    go_wp2
    go_ret
    exact HS.pk
   replace H:=zgo H;obtain⟨c26,H⟩:=H
   replace H:=zgo H;obtain⟨c27,H⟩:=H
   obtain⟨ad28,rfl,e28_0,e28_1⟩:=at_T163 gp0 x23 (of_eq_true c26) (of_eq_true c27)
   have e28_0_28:=HS.keepc e28_0
   have e28_1_28:=HS.keepc e28_1
   go_wp2_with (first|((with_reducible refine gd 4 rfl ?_);refine ev_bx HS ?_;clear HS;intro g4 w4 HS F)|((with_reducible refine gate_store (p:=4) rfl ?_);refine ev_st 1 0 HS (seg:=[.int .i64 ((rd_T163 a0.f5 x23).f0),.int .i64 ((rd_T163 a0.f5 x23).f1)]) ?_;clear HS;intro w31 HS F))
   replace H:=zbind H;obtain⟨t7,ht7,H⟩:=H
   replace H:=znifb H;rcases H with⟨c10,H⟩|⟨c10,H⟩
   ·
    subst c10
    refine dr_start [] HS #[false,false,false,false,false,false,false,false,false,false,false,false,false,false,false,false,false,false,false,false,false,false,false,false,false,false,false,false,false,false,false,false,false,false,false,false] (by kernel_rfl) rfl rfl impl_CrlOk.tT6 (fun w48 HT HS HH=>?_)
    (try clear F)
    refine dqt [0,1] HT HH ?_
    refine dr1 2 HT fun K hK=>?_
    refine go_cl HS (impl_timeOk.calls ht7.out) Tryz.func104 ?_;clear HS;intro wt7 HS F
    refine nrm 58 hK ⟨_,HS⟩ fun HH=>?_;clear hK K
    refine dqo [3,4,5,6,7,8,9,10,11,12,13,14,15,16,17,18,19,20,21,22,23,24,25,26,27,28,29,30,31,32,33,34,35] HT ?_
    refine dn HT ?_
    (try clear F)
    have F:=HS.bx
    obtain rfl:=zsome H
    go_wp2
    go_ret
    exact HS.pk
   subst c10
   replace H:=zbind H;obtain⟨t13,ht13,H⟩:=H
   replace H:=znifb H;rcases H with⟨c16,H⟩|⟨c16,H⟩
   ·
    subst c16
    refine dr_start [] HS #[false,false,false,false,false,false,false,false,false,false,false,false,false,false,false,false,false,false,false,false,false,false,false,false,false,false,false,false,false,false,false,false,false,false,false,false] (by kernel_rfl) rfl rfl impl_CrlOk.tT6 (fun w46 HT HS HH=>?_)
    (try clear F)
    refine dqt [0,1] HT HH ?_
    refine dr1 2 HT fun K hK=>?_
    refine go_cl HS (impl_timeOk.calls ht7.out) Tryz.func104 ?_;clear HS;intro wt7 HS F
    refine nrm 58 hK ⟨_,HS⟩ fun HH=>?_;clear hK K
    refine dqt [3,4,5,6] HT HH ?_
    refine dr1 7 HT fun K hK=>?_
    refine go_cl HS (impl_within.calls ht13.out) Tryz.func105 ?_;clear HS;intro wt13 HS F
    refine nrm 63 hK ⟨_,HS⟩ fun HH=>?_;clear hK K
    refine dqo [8,9,10,11,12,13,14,15,16,17,18,19,20,21,22,23,24,25,26,27,28,29,30,31,32,33,34,35] HT ?_
    refine dn HT ?_
    (try clear F)
    have F:=HS.bx
    obtain rfl:=zsome H
    go_wp2
    go_ret
    exact HS.pk
   subst c16
   replace H:=znif' H;rcases H with⟨c20,H⟩|⟨c20,H⟩
   ·
    obtain⟨c20a,c20b⟩:=nq c20;clear c20
    replace H:=znif H;rcases H with⟨c24,H⟩|⟨c24,H⟩
    ·
     refine dr_start [] HS #[false,false,false,false,false,false,false,false,false,false,false,false,false,false,false,false,false,false,false,false,false,false,false,false,false,false,false,false,false,false,false,false,false,false,false,false] (by kernel_rfl) rfl rfl impl_CrlOk.tT6 (fun w44 HT HS HH=>?_)
     (try clear F)
     refine dqt [0,1] HT HH ?_
     refine dr1 2 HT fun K hK=>?_
     refine go_cl HS (impl_timeOk.calls ht7.out) Tryz.func104 ?_;clear HS;intro wt7 HS F
     refine nrm 58 hK ⟨_,HS⟩ fun HH=>?_;clear hK K
     refine dqt [3,4,5,6] HT HH ?_
     refine dr1 7 HT fun K hK=>?_
     refine go_cl HS (impl_within.calls ht13.out) Tryz.func105 ?_;clear HS;intro wt13 HS F
     refine nrm 63 hK ⟨_,HS⟩ fun HH=>?_;clear hK K
     refine dqto [8,9,10,11,12,13,14,15,16,17,18,19,20,21,22,23,24,25,26,27,28,29,30,31,32,33,34,35] HT HH ?_
     refine dn HT ?_
     (try clear F)
     have F:=HS.bx
     go_wp2
     go_roundg k22
     case measure=>have:=HKk22.out;omega
     case rel=>exact⟨_,rfl,H,⟨by have:=HKk22.out;omega⟩,HS.pi [0]⟩
    replace H:=zgo H;obtain⟨c29,H⟩:=H
    replace H:=zgo H;obtain⟨c30,H⟩:=H
    obtain⟨ad32,hq32,e32_0,e32_1⟩:=at_T163 gp0 (wrap64 (x23 - 1)) (of_eq_true c29) (of_eq_true c30);obtain rfl:=Option.some.inj hq32
    refine dr_start [] HS #[false,false,false,false,false,false,false,false,false,false,false,false,false,false,false,false,false,false,false,false,false,false,false,false,false,false,false,false,false,false,false,false,false,false,false,false] (by kernel_rfl) rfl rfl impl_CrlOk.tT6 (fun w41 HT HS HH=>?_)
    (try clear F)
    refine dqt [0,1] HT HH ?_
    refine dr1 2 HT fun K hK=>?_
    refine go_cl HS (impl_timeOk.calls ht7.out) Tryz.func104 ?_;clear HS;intro wt7 HS F
    refine nrm 58 hK ⟨_,HS⟩ fun HH=>?_;clear hK K
    refine dqt [3,4,5,6] HT HH ?_
    refine dr1 7 HT fun K hK=>?_
    refine go_cl HS (impl_within.calls ht13.out) Tryz.func105 ?_;clear HS;intro wt13 HS F
    refine nrm 63 hK ⟨_,HS⟩ fun HH=>?_;clear hK K
    refine dqto [8,9,10,11,12,13,14,15,16,17,18,19,20,21,22,23,24,25,26,27,28,29] HT HH ?_
    refine dtk 30 86 HT HH rfl (by rintro w' ⟨rs',HS'⟩;have e32_0:=HS'.keepc e32_0;have e32_1:=HS'.keepc e32_1;go_simp;with_reducible rfl) ?_
    refine dqt [31,32,33,34,35] HT HH ?_
    refine dn HT ?_
    (try clear F)
    have F:=HS.bx
    replace H:=zif H;rcases H with⟨c43,H⟩|⟨c43,H⟩
    ·
     (try simp only [c43,dcn])
     obtain rfl:=zsome H
     go_wp2
     go_ret
     exact HS.pk
    (try simp only [c43,dcn])
    go_wp2
    go_roundg k22
    case measure=>have:=HKk22.out;omega
    case rel=>exact⟨_,rfl,H,⟨by have:=HKk22.out;omega⟩,HS.pi [0]⟩
   obtain⟨c20a,c20b⟩:=bq c20;clear c20
   replace H:=zif' H;rcases H with⟨c21,H⟩|⟨c21,H⟩
   ·
    obtain⟨c21a,c21b⟩:=bq c21;clear c21
    refine dr_start [] HS #[false,false,false,false,false,false,false,false,false,false,false,false,false,false,false,false,false,false,false,false,false,false,false,false,false,false,false,false,false,false,false,false,false,false,false,false] (by kernel_rfl) rfl rfl impl_CrlOk.tT6 (fun w34 HT HS HH=>?_)
    (try clear F)
    refine dqt [0,1] HT HH ?_
    refine dr1 2 HT fun K hK=>?_
    refine go_cl HS (impl_timeOk.calls ht7.out) Tryz.func104 ?_;clear HS;intro wt7 HS F
    refine nrm 58 hK ⟨_,HS⟩ fun HH=>?_;clear hK K
    refine dqt [3,4,5,6] HT HH ?_
    refine dr1 7 HT fun K hK=>?_
    refine go_cl HS (impl_within.calls ht13.out) Tryz.func105 ?_;clear HS;intro wt13 HS F
    refine nrm 63 hK ⟨_,HS⟩ fun HH=>?_;clear hK K
    refine dqto [8,9,10,11,12,13,14,15,16,17,18,19,20,21,22,23,24,25,26,27,28,29,30,31,32,33,34,35] HT HH ?_
    refine dn HT ?_
    (try clear F)
    have F:=HS.bx
    obtain rfl:=zsome H
    go_wp2
    go_ret
    exact HS.pk
   obtain⟨c21a,c21b⟩:=nq c21;clear c21
   replace H:=znif H;rcases H with⟨c24,H⟩|⟨c24,H⟩
   ·
    refine dr_start [] HS #[false,false,false,false,false,false,false,false,false,false,false,false,false,false,false,false,false,false,false,false,false,false,false,false,false,false,false,false,false,false,false,false,false,false,false,false] (by kernel_rfl) rfl rfl impl_CrlOk.tT6 (fun w39 HT HS HH=>?_)
    (try clear F)
    refine dqt [0,1] HT HH ?_
    refine dr1 2 HT fun K hK=>?_
    refine go_cl HS (impl_timeOk.calls ht7.out) Tryz.func104 ?_;clear HS;intro wt7 HS F
    refine nrm 58 hK ⟨_,HS⟩ fun HH=>?_;clear hK K
    refine dqt [3,4,5,6] HT HH ?_
    refine dr1 7 HT fun K hK=>?_
    refine go_cl HS (impl_within.calls ht13.out) Tryz.func105 ?_;clear HS;intro wt13 HS F
    refine nrm 63 hK ⟨_,HS⟩ fun HH=>?_;clear hK K
    refine dqto [8,9,10,11,12,13,14,15,16,17,18,19,20,21,22,23,24,25,26,27,28,29,30,31,32,33,34,35] HT HH ?_
    refine dn HT ?_
    (try clear F)
    have F:=HS.bx
    go_wp2
    go_roundg k22
    case measure=>have:=HKk22.out;omega
    case rel=>exact⟨_,rfl,H,⟨by have:=HKk22.out;omega⟩,HS.pi [0]⟩
   replace H:=zgo H;obtain⟨c29,H⟩:=H
   replace H:=zgo H;obtain⟨c30,H⟩:=H
   obtain⟨ad32,hq32,e32_0,e32_1⟩:=at_T163 gp0 (wrap64 (x23 - 1)) (of_eq_true c29) (of_eq_true c30);obtain rfl:=Option.some.inj hq32
   refine dr_start [] HS #[false,false,false,false,false,false,false,false,false,false,false,false,false,false,false,false,false,false,false,false,false,false,false,false,false,false,false,false,false,false,false,false,false,false,false,false] (by kernel_rfl) rfl rfl impl_CrlOk.tT6 (fun w36 HT HS HH=>?_)
   (try clear F)
   refine dqt [0,1] HT HH ?_
   refine dr1 2 HT fun K hK=>?_
   refine go_cl HS (impl_timeOk.calls ht7.out) Tryz.func104 ?_;clear HS;intro wt7 HS F
   refine nrm 58 hK ⟨_,HS⟩ fun HH=>?_;clear hK K
   refine dqt [3,4,5,6] HT HH ?_
   refine dr1 7 HT fun K hK=>?_
   refine go_cl HS (impl_within.calls ht13.out) Tryz.func105 ?_;clear HS;intro wt13 HS F
   refine nrm 63 hK ⟨_,HS⟩ fun HH=>?_;clear hK K
   refine dqt [8,9,10,11,12,13,14,15,16,17,18,19,20,21,22,23,24,25,26,27,28,29] HT HH ?_
   refine dtk 30 86 HT HH rfl (by rintro w' ⟨rs',HS'⟩;have e32_0:=HS'.keepc e32_0;have e32_1:=HS'.keepc e32_1;go_simp;with_reducible rfl) ?_
   refine dqt [31,32,33,34,35] HT HH ?_
   refine dn HT ?_
   (try clear F)
   have F:=HS.bx
   replace H:=zif H;rcases H with⟨c38,H⟩|⟨c38,H⟩
   ·
    (try simp only [c38,dcn])
    obtain rfl:=zsome H
    go_wp2
    go_ret
    exact HS.pk
   (try simp only [c38,dcn])
   go_wp2
   go_roundg k22
   case measure=>have:=HKk22.out;omega
   case rel=>exact⟨_,rfl,H,⟨by have:=HKk22.out;omega⟩,HS.pi [0]⟩
def impl_crlItem_1.f (k:Nat)(a0:S163):Option (S153):=((impl_IntItem.f k a0.f0).bind fun t3=>((impl_IntItem.f k a0.f1).bind fun t5=>((impl_ListItem.f k ([t3,t5]:List S153)).bind fun t9=>(some (⟨t9.f0,t9.f1,t9.f2⟩:S153)))))
def impl_crlItem_1.T1:TT:=(true,[([],[]),([0],[0]),([1],[1]),([],[]),([3],[3]),([4,2],[4]),([2,5],[2,5]),([6,5],[6]),([7,7,0,1,2,3,4,5,6,7],[7])])
theorem impl_crlItem_1.tT1:rtab .any (opsOf Tryz.f161 1)=impl_crlItem_1.T1:=by kernel_rfl
theorem impl_crlItem_1.calls {k:Nat}{a0:S163}{r:S153}{w:World}(h:impl_crlItem_1.f k a0=some r):
    Calls Tryz.prog 161 #[.agg #[.int .i64 a0.f0,.int .i64 a0.f1]] w (fun e w'=>∃v0_:Value,e=.returned (.agg #[.int .i64 r.f0,.string r.f1,v0_])∧Hp noFP w w' [.own (Zd.slice 153 q153) r.f2 [v0_]]):=by
 have HS:=Hp.start w
 have H:=Aside0.mk h
 clear h
 unfold impl_crlItem_1.f at H
 go_enter Tryz.func161,Tryz.ntmps161
 go_wp2_with (first|((with_reducible refine gd 1 rfl ?_);refine ev_bx HS ?_;clear HS;intro g1 w1 HS F)|((with_reducible refine gd 2 rfl ?_);refine ev_bx HS ?_;clear HS;intro g2 w2 HS F))
 replace H:=zbind H;obtain⟨t3,ht3,H⟩:=H
 replace H:=zbind H;obtain⟨t5,ht5,H⟩:=H
 replace H:=zbind H;obtain⟨t9,ht9,H⟩:=H
 refine dr_start [8] HS #[false,false,false,false,false,false,false,false,false] (by kernel_rfl) rfl rfl impl_crlItem_1.tT1 (fun w6 HT HS HH=>?_)
 (try clear F)
 refine dqt [0,1,3,4] HT HH ?_
 refine dr1 2 HT fun K hK=>?_
 refine go_cl1 HS (impl_IntItem.calls ht3.out) Tryz.func156 ?_;clear HS;intro v4 wt3 HS F;obtain⟨B4,d4,rfl,m4⟩:=HS.form 2 rfl
 refine nrm 5 hK ⟨_,HS⟩ fun HH=>?_;clear hK K
 refine dr1 5 HT fun K hK=>?_
 refine go_cl1 HS (impl_IntItem.calls ht5.out) Tryz.func156 ?_;clear HS;intro v7 wt5 HS F;obtain⟨B7,d7,rfl,m7⟩:=HS.form 3 rfl
 refine nrm 8 hK ⟨_,HS⟩ fun HH=>?_;clear hK K
 refine dr1 6 HT fun K hK=>?_
 refine if_li q153 [2,3] ([t3,t5]:List S153) ([.int .i64 t3.f0,.string t3.f1,.slice B4 t3.f2.length d4]++([.int .i64 t5.f0,.string t5.f1,.slice B7 t5.f2.length d7]++ [])) HS (MadeL.cons (js1:=[2]) (c:=[.int .i64 t3.f0,.string t3.f1,.slice B4 t3.f2.length d4]) rfl (fun S hd hh=>q153_pack (x:=t3) hd (hh 2 (.own (Zd.slice 153 q153) t3.f2 [.slice B4 t3.f2.length d4]) rfl) (by decide)) (MadeL.cons (js1:=[3]) (c:=[.int .i64 t5.f0,.string t5.f1,.slice B7 t5.f2.length d7]) rfl (fun S hd hh=>q153_pack (x:=t5) hd (hh 3 (.own (Zd.slice 153 q153) t5.f2 [.slice B7 t5.f2.length d7]) rfl) (by decide)) MadeL.nil (by decide)) (by decide)) ?_;clear HS;intro v8 w8 HS F;obtain⟨B8,d8,rfl,m8⟩:=HS.formn 2 4 rfl rfl
 refine nrm 9 hK ⟨_,HS⟩ fun HH=>?_;clear hK K
 refine dr1 7 HT fun K hK=>?_
 refine go_cl1 HS (impl_ListItem.calls ht9.out (HS.rd 4 rfl) m8) Tryz.func128 ?_;clear HS;intro v10 wt9 HS F;obtain⟨B10,d10,rfl,m10⟩:=HS.form 5 rfl
 refine nrm 10 hK ⟨_,HS⟩ fun HH=>?_;clear hK K
 refine dl 8 HT fun K hK=>?_
 refine if_st 1 0 HS (seg:=[.int .i64 t9.f0,.string t9.f1,.slice B10 t9.f2.length d10]) ?_;clear HS;intro w11 HS F
 refine hK.out _ _ ?_
 clear hK K
 refine dn HT ?_
 (try clear F)
 have F:=HS.bx
 obtain rfl:=zsome H
 go_wp2
 exact rc 1 HS Tryz.underlying153 ⟨_,rfl,HS.pi [5]⟩
def impl_Rev_0.l0:Nat→(List S153)→Int→(List S163)→Option (S153)
  |0,_,_,_=>none
  |k+1,l26,x28,a0=>(if x28<(a0.length:Int)then(if 0≤x28 then(if x28<(a0.length:Int)then((impl_crlItem_1.f k (rd_T163 a0 x28)).bind fun t3=>(if l26.length+1≤2932031007402 then(lets (l26++([t3]:List S153)) fun y10=>(impl_Rev_0.l0 k y10 (wrap64 (x28+1)) a0))else none))else none)else none)else(some (⟨48,(⟨#[]⟩:ByteArray),l26⟩:S153)))
def impl_Rev_0.f (k:Nat)(a0:(List S163)):Option (S153):=(impl_Rev_0.l0 k [] 0 a0)
def impl_Rev_0.T5:TT:=(true,[([],[]),([0],[0]),([],[]),([],[]),([2,3],[2,3]),([4],[4]),([1,5,4],[1,5]),([0,1,2,3,4,5,6],[]),([7,6,6,0,1,2,3,4,5,6],[6,7])])
theorem impl_Rev_0.tT5:rtab .any (opsOf Tryz.f162 5)=impl_Rev_0.T5:=by kernel_rfl
theorem impl_Rev_0.calls {k:Nat}{a0:(List S163)}{Ap0:Option Addr}{np0 cp0:Nat}{r:S153}{w:World}(h:impl_Rev_0.f k a0=some r)(gp0:k163.C w Ap0 np0 a0)(lp0:np0≤cp0):
    Calls Tryz.prog 162 #[.slice Ap0 np0 cp0,.func (.func 161) #[] #[]] w (fun e w'=>∃v0_:Value,e=.returned (.agg #[.int .i64 r.f0,.string r.f1,v0_])∧Hp noFP w w' [.own (Zd.slice 153 q153) r.f2 [v0_]]):=by
 obtain rfl:=C_len gp0
 have HS:=Hp.start w
 have H:=Aside0.mk h
 clear h
 unfold impl_Rev_0.f at H
 go_enter Tryz.func162,Tryz.ntmps162
 go_wp2_with (first|((with_reducible refine gd 4 rfl ?_);refine ev_bx HS ?_;clear HS;intro g4 w4 HS F)|((with_reducible refine gd 5 rfl ?_);refine ev_bx HS ?_;clear HS;intro g5 w5 HS F)|((with_reducible refine gate_store (p:=5) rfl ?_);refine ev_st 1 0 HS (seg:=[.int .i64 48,.string (⟨#[]⟩:ByteArray),.slice none 0 0]) ?_;clear HS;intro w5 HS F))
 replace HS:=HS.nil 153 q153
 go_loopg [11] k (fun kq v_11 w'=>∃(l26:List S153) (v27:Value) (x28:Int),v_11=.int .i64 x28∧Aside0 (impl_Rev_0.l0 kq l26 x28 a0=some r)∧Aside0 (kq≤k)∧Hp noFP w w' [.box g4 [.int .i64 0,.string (⟨#[]⟩:ByteArray),.slice none 0 0] 153,.box g5 [.int .i64 48,.string (⟨#[]⟩:ByteArray),v27] 153,.own (Zd.slice 153 q153) l26 [v27]])
 case atStart=>exact⟨_,_,_,rfl,H,⟨Nat.le_refl _⟩,HS⟩
 case round=>
  clear HS H;(try clear F)
  obtain⟨l26,v27,x28,rfl,H,HKk25,HS⟩:=hrel
  obtain⟨B27,d27,rfl,m27⟩:=HS.form 2 rfl
  have F:=HS.bx
  cases gk with
  |zero=>exact absurd H.out (by simp [impl_Rev_0.l0])
  | succ k25=>
   simp only [impl_Rev_0.l0] at H
   replace H:=znif H;rcases H with⟨c30,H⟩|⟨c30,H⟩
   ·
    obtain rfl:=zsome H
    go_wp2_with ((with_reducible refine gate_store (p:=4) rfl ?_);refine ev_st 0 0 HS (seg:=[.int .i64 48,.string (⟨#[]⟩:ByteArray),.slice B27 l26.length d27]) ?_;clear HS;intro w41 HS F)
    exact rc 0 HS Tryz.underlying153 ⟨_,rfl,HS.pi [2]⟩
   replace H:=zgo H;obtain⟨c31,H⟩:=H
   replace H:=zgo H;obtain⟨c32,H⟩:=H
   obtain⟨ad33,rfl,e33_0,e33_1⟩:=at_T163 gp0 x28 (of_eq_true c31) (of_eq_true c32)
   have e33_0_33:=HS.keepc e33_0
   have e33_1_33:=HS.keepc e33_1
   go_wp2_with (first|((with_reducible refine gd 7 rfl ?_);refine ev_bx HS ?_;clear HS;intro g7 w7 HS F)|((with_reducible refine gate_store (p:=7) rfl ?_);refine ev_st 3 0 HS (seg:=[.int .i64 ((rd_T163 a0 x28).f0),.int .i64 ((rd_T163 a0 x28).f1)]) ?_;clear HS;intro w36 HS F))
   replace H:=zbind H;obtain⟨t3,ht3,H⟩:=H
   replace H:=zgo H;obtain⟨c9,H⟩:=H
   replace H:=zlets H;obtain⟨y10,e_y10,H⟩:=H
   refine dr_start2 [.box g4 [.int .i64 0,.string (⟨#[]⟩:ByteArray),.slice none 0 0] 153,.box g5 [.int .i64 48,.string (⟨#[]⟩:ByteArray),.slice B27 l26.length d27] 153,.emp,.box g7 [.int .i64 ((rd_T163 a0 x28).f0),.int .i64 ((rd_T163 a0 x28).f1)] 163] [8] HS (HS.ar [some 0,some 1,none,some 3]) #[false,false,false,false,false,false,false,false,false] (by kernel_rfl) rfl rfl impl_Rev_0.tT5 (fun w39 HT HS HH=>?_)
   (try clear F)
   refine dqt [0,1,2,3] HT HH ?_
   refine dr1 4 HT fun K hK=>?_
   refine if_wp (by rfl) ?_;refine wp_callv Tryz.func161 (by kernel_rfl) rfl #[.agg #[.int .i64 ((rd_T163 a0 x28).f0),.int .i64 ((rd_T163 a0 x28).f1)]] #[.agg #[.int .i64 ((rd_T163 a0 x28).f0),.int .i64 ((rd_T163 a0 x28).f1)]] rfl rfl (by simp only [mpn];rfl) (by first|rfl|simp) ?_;refine(impl_crlItem_1.calls ht3.out).mono ?_;rintro _ wt3 ⟨v6,rfl,HQ⟩;refine⟨_,rfl,?_⟩;replace HS:=HS.call HQ;clear HQ;(try clear F);obtain⟨B6,d6,rfl,m6⟩:=HS.form 4 rfl
   (try simp only [hpn,hpm] at HS)
   have F:=HS.bx
   refine nra 19 hK (HS.ar [some 0,some 1,none,some 3]) fun HH=>?_;clear hK K
   refine dr1 5 HT fun K hK=>?_
   refine if_li q153 [4] ([t3]:List S153) ([.int .i64 t3.f0,.string t3.f1,.slice B6 t3.f2.length d6]++ []) HS (MadeL.cons (js1:=[4]) (c:=[.int .i64 t3.f0,.string t3.f1,.slice B6 t3.f2.length d6]) rfl (fun S hd hh=>q153_pack (x:=t3) hd (hh 4 (.own (Zd.slice 153 q153) t3.f2 [.slice B6 t3.f2.length d6]) rfl) (by decide)) MadeL.nil (by decide)) ?_;clear HS;intro v8 w8 HS F;obtain⟨B8,d8,rfl,m8⟩:=HS.formn 1 5 rfl rfl
   refine nra 20 hK (HS.ar [some 0,some 1,none,some 3]) fun HH=>?_;clear hK K
   refine dr1 6 HT fun K hK=>?_
   refine wp_ap q153 2 5 HS rfl rfl Tryz.underlying151 info153 (of_eq_true c9) ?_;clear HS;intro v10 w10 HS;rw [←e_y10.out] at HS;obtain⟨B10,d10,rfl,m10⟩:=HS.form 6 rfl
   (try simp only [hpn,hpm] at HS)
   have F:=HS.bx
   refine nra 21 hK (HS.ar [some 0,some 1,none,some 3]) fun HH=>?_;clear hK K
   refine dq [7] HT ?_
   refine dl 8 HT fun K hK=>?_
   refine if_st 1 2 HS (seg:=[.slice B10 y10.length d10]) ?_;clear HS;intro w12 HS F
   refine hK.out _ _ ?_
   clear hK K
   refine dn HT ?_
   (try clear F)
   have F:=HS.bx
   go_wp2
   go_roundg k25
   case measure=>have:=HKk25.out;omega
   case rel=>exact⟨_,_,_,rfl,H,⟨by have:=HKk25.out;omega⟩,HS.pi [0,1,6]⟩
def impl_crlItem.f (k:Nat)(a0:S69):Option (S153):=((impl_TextItem.f a0.f0).bind fun t7=>((impl_IntItem.f k a0.f1).bind fun t9=>((impl_IntItem.f k a0.f2).bind fun t11=>((impl_IntItem.f k a0.f3).bind fun t13=>((impl_IntItem.f k a0.f4).bind fun t15=>((impl_Rev_0.f k a0.f5).bind fun t17=>((impl_ListItem.f k ([t7,t9,t11,t13,t15,t17]:List S153)).bind fun t20=>(some (⟨t20.f0,t20.f1,t20.f2⟩:S153)))))))))
def impl_crlItem.T2:TT:=(true,[([],[]),([0],[0]),([1],[1]),([],[]),([3],[3]),([4,2],[4]),([],[]),([6],[6]),([7,5],[7]),([],[]),([9],[9]),([10,8],[10]),([],[]),([12],[12]),([13,11],[13]),([],[]),([15],[15]),([],[]),([16,17,14],[16,17]),([2,5,8,11,14,18],[2,5,8,11,14,18]),([19,18],[19]),([20,20,0,1,2,3,4,5,6,7,8,9,10,11,12,13,14,15,16,17,18,19,20],[20])])
theorem impl_crlItem.tT2:rtab .any (opsOf Tryz.f132 2)=impl_crlItem.T2:=by kernel_rfl
theorem impl_crlItem.calls {k:Nat}{a0:S69}{Ap0:Option Addr}{np0 cp0:Nat}{r:S153}{w:World}(h:impl_crlItem.f k a0=some r)(gp0:k163.C w Ap0 np0 a0.f5)(lp0:np0≤cp0):
    Calls Tryz.prog 132 #[.agg #[.string a0.f0,.int .i64 a0.f1,.int .i64 a0.f2,.int .i64 a0.f3,.int .i64 a0.f4,.slice Ap0 np0 cp0,.string a0.f6]] w (fun e w'=>∃v0_:Value,e=.returned (.agg #[.int .i64 r.f0,.string r.f1,v0_])∧Hp noFP w w' [.own (Zd.slice 153 q153) r.f2 [v0_]]):=by
 obtain rfl:=C_len gp0
 have HS:=Hp.start w
 have H:=Aside0.mk h
 clear h
 unfold impl_crlItem.f at H
 go_enter Tryz.func132,Tryz.ntmps132
 go_wp2_with (first|((with_reducible refine gd 1 rfl ?_);refine ev_bx HS ?_;clear HS;intro g1 w1 HS F)|((with_reducible refine gd 2 rfl ?_);refine ev_bx HS ?_;clear HS;intro g2 w2 HS F))
 replace H:=zbind H;obtain⟨t7,ht7,H⟩:=H
 replace H:=zbind H;obtain⟨t9,ht9,H⟩:=H
 replace H:=zbind H;obtain⟨t11,ht11,H⟩:=H
 replace H:=zbind H;obtain⟨t13,ht13,H⟩:=H
 replace H:=zbind H;obtain⟨t15,ht15,H⟩:=H
 replace H:=zbind H;obtain⟨t17,ht17,H⟩:=H
 replace H:=zbind H;obtain⟨t20,ht20,H⟩:=H
 refine dr_start [21] HS #[false,false,false,false,false,false,false,false,false,false,false,false,false,false,false,false,false,false,false,false,false,false] (by kernel_rfl) rfl rfl impl_crlItem.tT2 (fun w6 HT HS HH=>?_)
 (try clear F)
 refine dqt [0,1,3,4,6,7,9,10,12,13,15,16,17] HT HH ?_
 refine dr1 2 HT fun K hK=>?_
 refine go_cl1 HS (impl_TextItem.calls ht7.out) Tryz.func157 ?_;clear HS;intro v8 wt7 HS F;obtain⟨B8,d8,rfl,m8⟩:=HS.form 2 rfl
 refine nrm 6 hK ⟨_,HS⟩ fun HH=>?_;clear hK K
 refine dr1 5 HT fun K hK=>?_
 refine go_cl1 HS (impl_IntItem.calls ht9.out) Tryz.func156 ?_;clear HS;intro v10 wt9 HS F;obtain⟨B10,d10,rfl,m10⟩:=HS.form 3 rfl
 refine nrm 9 hK ⟨_,HS⟩ fun HH=>?_;clear hK K
 refine dr1 8 HT fun K hK=>?_
 refine go_cl1 HS (impl_IntItem.calls ht11.out) Tryz.func156 ?_;clear HS;intro v12 wt11 HS F;obtain⟨B12,d12,rfl,m12⟩:=HS.form 4 rfl
 refine nrm 12 hK ⟨_,HS⟩ fun HH=>?_;clear hK K
 refine dr1 11 HT fun K hK=>?_
 refine go_cl1 HS (impl_IntItem.calls ht13.out) Tryz.func156 ?_;clear HS;intro v14 wt13 HS F;obtain⟨B14,d14,rfl,m14⟩:=HS.form 5 rfl
 refine nrm 15 hK ⟨_,HS⟩ fun HH=>?_;clear hK K
 refine dr1 14 HT fun K hK=>?_
 refine go_cl1 HS (impl_IntItem.calls ht15.out) Tryz.func156 ?_;clear HS;intro v16 wt15 HS F;obtain⟨B16,d16,rfl,m16⟩:=HS.form 6 rfl
 refine nrm 18 hK ⟨_,HS⟩ fun HH=>?_;clear hK K
 refine dr1 18 HT fun K hK=>?_
 refine go_cl1 HS (impl_Rev_0.calls ht17.out (HS.ro gp0) lp0) Tryz.func162 ?_;clear HS;intro v18 wt17 HS F;obtain⟨B18,d18,rfl,m18⟩:=HS.form 7 rfl
 refine nrm 22 hK ⟨_,HS⟩ fun HH=>?_;clear hK K
 refine dr1 19 HT fun K hK=>?_
 refine if_li q153 [2,3,4,5,6,7] ([t7,t9,t11,t13,t15,t17]:List S153) ([.int .i64 t7.f0,.string t7.f1,.slice B8 t7.f2.length d8]++([.int .i64 t9.f0,.string t9.f1,.slice B10 t9.f2.length d10]++([.int .i64 t11.f0,.string t11.f1,.slice B12 t11.f2.length d12]++([.int .i64 t13.f0,.string t13.f1,.slice B14 t13.f2.length d14]++([.int .i64 t15.f0,.string t15.f1,.slice B16 t15.f2.length d16]++([.int .i64 t17.f0,.string t17.f1,.slice B18 t17.f2.length d18]++ [])))))) HS (MadeL.cons (js1:=[2]) (c:=[.int .i64 t7.f0,.string t7.f1,.slice B8 t7.f2.length d8]) rfl (fun S hd hh=>q153_pack (x:=t7) hd (hh 2 (.own (Zd.slice 153 q153) t7.f2 [.slice B8 t7.f2.length d8]) rfl) (by decide)) (MadeL.cons (js1:=[3]) (c:=[.int .i64 t9.f0,.string t9.f1,.slice B10 t9.f2.length d10]) rfl (fun S hd hh=>q153_pack (x:=t9) hd (hh 3 (.own (Zd.slice 153 q153) t9.f2 [.slice B10 t9.f2.length d10]) rfl) (by decide)) (MadeL.cons (js1:=[4]) (c:=[.int .i64 t11.f0,.string t11.f1,.slice B12 t11.f2.length d12]) rfl (fun S hd hh=>q153_pack (x:=t11) hd (hh 4 (.own (Zd.slice 153 q153) t11.f2 [.slice B12 t11.f2.length d12]) rfl) (by decide)) (MadeL.cons (js1:=[5]) (c:=[.int .i64 t13.f0,.string t13.f1,.slice B14 t13.f2.length d14]) rfl (fun S hd hh=>q153_pack (x:=t13) hd (hh 5 (.own (Zd.slice 153 q153) t13.f2 [.slice B14 t13.f2.length d14]) rfl) (by decide)) (MadeL.cons (js1:=[6]) (c:=[.int .i64 t15.f0,.string t15.f1,.slice B16 t15.f2.length d16]) rfl (fun S hd hh=>q153_pack (x:=t15) hd (hh 6 (.own (Zd.slice 153 q153) t15.f2 [.slice B16 t15.f2.length d16]) rfl) (by decide)) (MadeL.cons (js1:=[7]) (c:=[.int .i64 t17.f0,.string t17.f1,.slice B18 t17.f2.length d18]) rfl (fun S hd hh=>q153_pack (x:=t17) hd (hh 7 (.own (Zd.slice 153 q153) t17.f2 [.slice B18 t17.f2.length d18]) rfl) (by decide)) MadeL.nil (by decide)) (by decide)) (by decide)) (by decide)) (by decide)) (by decide)) ?_;clear HS;intro v19 w19 HS F;obtain⟨B19,d19,rfl,m19⟩:=HS.formn 6 8 rfl rfl
 refine nrm 23 hK ⟨_,HS⟩ fun HH=>?_;clear hK K
 refine dr1 20 HT fun K hK=>?_
 refine go_cl1 HS (impl_ListItem.calls ht20.out (HS.rd 8 rfl) m19) Tryz.func128 ?_;clear HS;intro v21 wt20 HS F;obtain⟨B21,d21,rfl,m21⟩:=HS.form 9 rfl
 refine nrm 24 hK ⟨_,HS⟩ fun HH=>?_;clear hK K
 refine dl 21 HT fun K hK=>?_
 refine if_st 1 0 HS (seg:=[.int .i64 t20.f0,.string t20.f1,.slice B21 t20.f2.length d21]) ?_;clear HS;intro w22 HS F
 refine hK.out _ _ ?_
 clear hK K
 refine dn HT ?_
 (try clear F)
 have F:=HS.bx
 obtain rfl:=zsome H
 go_wp2
 exact rc 1 HS Tryz.underlying153 ⟨_,rfl,HS.pi [9]⟩
def impl_CrlText.f (k:Nat)(a0:S69):Option (ByteArray×Bool):=((impl_CrlOk.f k a0).bind fun t3=>(if t3=true then((impl_crlItem.f k a0).bind fun t8=>((impl_bytesItem.f a0.f6).bind fun t10=>((impl_ListItem.f k ([t8,t10]:List S153)).bind fun t13=>((impl_ItemText.f k t13).bind fun t15=>(some (t15.1,t15.2))))))else(some ((⟨#[]⟩:ByteArray),false))))
def impl_CrlText.T3:TT:=(true,[([],[]),([0],[0]),([],[]),([2],[2]),([3,1],[3]),([1,4],[1,4]),([5,4],[5]),([6,6],[6]),([7],[7]),([7],[7]),([8,7,0,1,2,3,4,5,6,7,8,9],[8]),([9,10,0,1,2,3,4,5,6,7,8,9,10],[9])])
theorem impl_CrlText.tT3:rtab .any (opsOf Tryz.f75 3)=impl_CrlText.T3:=by kernel_rfl
theorem impl_CrlText.calls {k:Nat}{a0:S69}{Ap0:Option Addr}{np0 cp0:Nat}{mG:Int}{r1:ByteArray}{r2:Bool}{w:World}(h:impl_CrlText.f k a0=some (r1,r2))(gp0:k163.C w Ap0 np0 a0.f5)(lp0:np0≤cp0)(hgM:w.cell? ⟨0,0,none⟩=some (.int .i64 mG)):
    Calls Tryz.prog 75 #[.agg #[.string a0.f0,.int .i64 a0.f1,.int .i64 a0.f2,.int .i64 a0.f3,.int .i64 a0.f4,.slice Ap0 np0 cp0,.string a0.f6]] w (fun e w'=>e=.returned (.tuple #[.string r1,.bool r2])∧Hp noFP w w' []):=by
 obtain rfl:=C_len gp0
 have HS:=Hp.start w
 have H:=Aside0.mk h
 clear h
 unfold impl_CrlText.f at H
 go_enter Tryz.func75,Tryz.ntmps75
 replace H:=zbind H;obtain⟨t3,ht3,H⟩:=H
 go_upto_if 6 with(first|((with_reducible refine gd 1 rfl ?_);refine ev_bx HS ?_;clear HS;intro g1 w1 HS F)|((with_reducible refine gd 5 rfl ?_);refine ev_cl HS (impl_CrlOk.calls ht3.out (HS.ro gp0) lp0 (HS.keepc hgM)) Tryz.func131 ?_;clear HS;intro wt3 HS F))
 replace H:=znifb H;rcases H with⟨c5,H⟩|⟨c5,H⟩
 ·
  subst c5
  (try simp only [dcn,dcu,dcf])
  obtain⟨rfl,rfl⟩:=zsome2 H
  go_wp2
  exact rl rfl (.tmp (.tmp .nil)) ⟨rfl,HS.pi []⟩
 subst c5
 (try simp only [dcn,dcu,dcf])
 (try go_wp2)
 replace H:=zbind H;obtain⟨t8,ht8,H⟩:=H
 replace H:=zbind H;obtain⟨t10,ht10,H⟩:=H
 replace H:=zbind H;obtain⟨t13,ht13,H⟩:=H
 replace H:=zbind H;obtain⟨t15,ht15,H⟩:=H
 refine dr_start [] HS #[false,false,false,false,false,false,false,false,false,false,false,false] (by kernel_rfl) rfl rfl impl_CrlText.tT3 (fun w7 HT HS HH=>?_)
 (try clear F)
 refine dqt [0,2,3] HT HH ?_
 refine dr1 1 HT fun K hK=>?_
 refine go_cl1 HS (impl_crlItem.calls ht8.out (HS.ro gp0) lp0) Tryz.func132 ?_;clear HS;intro v9 wt8 HS F;obtain⟨B9,d9,rfl,m9⟩:=HS.form 1 rfl
 refine nrm 8 hK ⟨_,HS⟩ fun HH=>?_;clear hK K
 refine dr1 4 HT fun K hK=>?_
 refine go_cl1 HS (impl_bytesItem.calls ht10.out) Tryz.func130 ?_;clear HS;intro v11 wt10 HS F;obtain⟨B11,d11,rfl,m11⟩:=HS.form 2 rfl
 refine nrm 11 hK ⟨_,HS⟩ fun HH=>?_;clear hK K
 refine dr1 5 HT fun K hK=>?_
 refine if_li q153 [1,2] ([t8,t10]:List S153) ([.int .i64 t8.f0,.string t8.f1,.slice B9 t8.f2.length d9]++([.int .i64 t10.f0,.string t10.f1,.slice B11 t10.f2.length d11]++ [])) HS (MadeL.cons (js1:=[1]) (c:=[.int .i64 t8.f0,.string t8.f1,.slice B9 t8.f2.length d9]) rfl (fun S hd hh=>q153_pack (x:=t8) hd (hh 1 (.own (Zd.slice 153 q153) t8.f2 [.slice B9 t8.f2.length d9]) rfl) (by decide)) (MadeL.cons (js1:=[2]) (c:=[.int .i64 t10.f0,.string t10.f1,.slice B11 t10.f2.length d11]) rfl (fun S hd hh=>q153_pack (x:=t10) hd (hh 2 (.own (Zd.slice 153 q153) t10.f2 [.slice B11 t10.f2.length d11]) rfl) (by decide)) MadeL.nil (by decide)) (by decide)) ?_;clear HS;intro v12 w12 HS F;obtain⟨B12,d12,rfl,m12⟩:=HS.formn 2 3 rfl rfl
 refine nrm 12 hK ⟨_,HS⟩ fun HH=>?_;clear hK K
 refine dr1 6 HT fun K hK=>?_
 refine go_cl1 HS (impl_ListItem.calls ht13.out (HS.rd 3 rfl) m12) Tryz.func128 ?_;clear HS;intro v14 wt13 HS F;obtain⟨B14,d14,rfl,m14⟩:=HS.form 4 rfl
 refine nrm 13 hK ⟨_,HS⟩ fun HH=>?_;clear hK K
 refine dr1 7 HT fun K hK=>?_
 refine go_cl HS (impl_ItemText.calls ht15.out (HS.rd 4 rfl) m14) Tryz.func127 ?_;clear HS;intro wt15 HS F
 refine nrm 14 hK ⟨_,HS⟩ fun HH=>?_;clear hK K
 refine dq [8,9,10,11] HT ?_
 refine dn HT ?_
 (try clear F)
 have F:=HS.bx
 obtain⟨rfl,rfl⟩:=zsome2 H
 go_wp2
 exact rl rfl (.tmp (.tmp .nil)) ⟨rfl,HS.pi []⟩
def impl_Crl_0.l0:Nat→(List ByteArray)→Int→(List S69)→Option (Bool)
  |0,_,_,_=>none
  |k+1,l19,x21,a0=>(if x21<(a0.length:Int)then(if 0≤x21 then(if x21<(a0.length:Int)then((impl_CrlText.f k (rd_T69 a0 x21)).bind fun t31=>(if t31.2=true then((slices_Contains_string_string.f k l19 t31.1).bind fun t34=>(if t34=true then(some false)else(if l19.length+1≤8796093022208 then(lets (l19++([t31.1]:List ByteArray)) fun y40=>(impl_Crl_0.l0 k y40 (wrap64 (x21+1)) a0))else none)))else(some false)))else none)else none)else(some true))
def impl_Crl_0.f (k:Nat)(a0:(List S69)):Option (Bool):=(impl_Crl_0.l0 k [] 0 a0)
theorem impl_Crl_0.calls {k:Nat}{a0:(List S69)}{Ap0:Option Addr}{np0 cp0:Nat}{mG:Int}{r:Bool}{w:World}(h:impl_Crl_0.f k a0=some r)(gp0:k69.C w Ap0 np0 a0)(lp0:np0≤cp0)(hgM:w.cell? ⟨0,0,none⟩=some (.int .i64 mG)):
    Calls Tryz.prog 74 #[.slice Ap0 np0 cp0,.func (.func 75) #[] #[]] w (fun e w'=>e=.returned (.bool r)∧Hp noFP w w' []):=by
 obtain rfl:=C_len gp0
 have HS:=Hp.start w
 have H:=Aside0.mk h
 clear h
 unfold impl_Crl_0.f at H
 go_enter Tryz.func74,Tryz.ntmps74
 go_wp2
 replace HS:=HS.nil 9 Zd.string
 go_loopg [5,12] k (fun kq v_5 v_12 w'=>∃(l19:List ByteArray) (v20:Value) (x21:Int),v_5=v20∧v_12=.int .i64 x21∧Aside0 (impl_Crl_0.l0 kq l19 x21 a0=some r)∧Aside0 (kq≤k)∧Hp noFP w w' [.own (Zd.slice 9 Zd.string) l19 [v20]])
 case atStart=>exact⟨_,_,_,rfl,rfl,H,⟨Nat.le_refl _⟩,HS⟩
 case round=>
  clear HS H;(try clear F)
  obtain⟨l19,v20,x21,rfl,rfl,H,HKk18,HS⟩:=hrel
  obtain⟨B20,d20,rfl,m20⟩:=HS.form 0 rfl
  cases gk with
  |zero=>exact absurd H.out (by simp [impl_Crl_0.l0])
  | succ k18=>
   simp only [impl_Crl_0.l0] at H
   replace H:=znif H;rcases H with⟨c23,H⟩|⟨c23,H⟩
   ·
    obtain rfl:=zsome H
    go_wp2
    go_ret
    exact HS.pk
   replace H:=zgo H;obtain⟨c24,H⟩:=H
   replace H:=zgo H;obtain⟨c25,H⟩:=H
   obtain⟨ad26,B26_5,d26_5,rfl,e26_0,e26_1,e26_2,e26_3,e26_4,e26_5,e26_6,m26_5,y26_5⟩:=at_T69 gp0 x21 (of_eq_true c24) (of_eq_true c25)
   have e26_0_26:=HS.keepc e26_0
   have e26_1_26:=HS.keepc e26_1
   have e26_2_26:=HS.keepc e26_2
   have e26_3_26:=HS.keepc e26_3
   have e26_4_26:=HS.keepc e26_4
   have e26_5_26:=HS.keepc e26_5
   have e26_6_26:=HS.keepc e26_6
   replace H:=zbind H;obtain⟨t31,ht31,H⟩:=H
   replace H:=znifb H;rcases H with⟨c33,H⟩|⟨c33,H⟩
   ·
    obtain rfl:=zsome H
    go_wp2_with (first|((with_reducible refine gd 7 rfl ?_);refine ev_bx HS ?_;clear HS;intro g7 w7 HS F)|((with_reducible refine gate_store (p:=7) rfl ?_);refine ev_st 1 0 HS (seg:=[.string ((rd_T69 a0 x21).f0),.int .i64 ((rd_T69 a0 x21).f1),.int .i64 ((rd_T69 a0 x21).f2),.int .i64 ((rd_T69 a0 x21).f3),.int .i64 ((rd_T69 a0 x21).f4),.slice B26_5 (rd_T69 a0 x21).f5.length d26_5,.string ((rd_T69 a0 x21).f6)]) ?_;clear HS;intro w29 HS F)|((with_reducible refine gd 19 rfl ?_);refine ev_callv rfl Tryz.func75 (by kernel_rfl) rfl #[.agg #[.string ((rd_T69 a0 x21).f0),.int .i64 ((rd_T69 a0 x21).f1),.int .i64 ((rd_T69 a0 x21).f2),.int .i64 ((rd_T69 a0 x21).f3),.int .i64 ((rd_T69 a0 x21).f4),.slice B26_5 (rd_T69 a0 x21).f5.length d26_5,.string ((rd_T69 a0 x21).f6)]] #[.agg #[.string ((rd_T69 a0 x21).f0),.int .i64 ((rd_T69 a0 x21).f1),.int .i64 ((rd_T69 a0 x21).f2),.int .i64 ((rd_T69 a0 x21).f3),.int .i64 ((rd_T69 a0 x21).f4),.slice B26_5 (rd_T69 a0 x21).f5.length d26_5,.string ((rd_T69 a0 x21).f6)]] rfl rfl (by simp only [mpn];rfl) (by first|rfl|simp) ?_;refine(impl_CrlText.calls ht31.out (HS.ro y26_5) m26_5 (HS.keepc hgM)).mono ?_;rintro _ wt31 ⟨rfl,HQ⟩;refine⟨_,rfl,?_⟩;replace HS:=HS.call HQ;clear HQ;(try clear F);(try simp only [hpn,hpm] at HS);have F:=HS.bx;(try simp only [c33])))
    go_ret
    exact HS.pk
   replace H:=zbind H;obtain⟨t34,ht34,H⟩:=H
   go_upto_if 28 with(first|((with_reducible refine gd 7 rfl ?_);refine ev_bx HS ?_;clear HS;intro g7 w7 HS F)|((with_reducible refine gate_store (p:=7) rfl ?_);refine ev_st 1 0 HS (seg:=[.string ((rd_T69 a0 x21).f0),.int .i64 ((rd_T69 a0 x21).f1),.int .i64 ((rd_T69 a0 x21).f2),.int .i64 ((rd_T69 a0 x21).f3),.int .i64 ((rd_T69 a0 x21).f4),.slice B26_5 (rd_T69 a0 x21).f5.length d26_5,.string ((rd_T69 a0 x21).f6)]) ?_;clear HS;intro w29 HS F)|((with_reducible refine gd 19 rfl ?_);refine ev_callv rfl Tryz.func75 (by kernel_rfl) rfl #[.agg #[.string ((rd_T69 a0 x21).f0),.int .i64 ((rd_T69 a0 x21).f1),.int .i64 ((rd_T69 a0 x21).f2),.int .i64 ((rd_T69 a0 x21).f3),.int .i64 ((rd_T69 a0 x21).f4),.slice B26_5 (rd_T69 a0 x21).f5.length d26_5,.string ((rd_T69 a0 x21).f6)]] #[.agg #[.string ((rd_T69 a0 x21).f0),.int .i64 ((rd_T69 a0 x21).f1),.int .i64 ((rd_T69 a0 x21).f2),.int .i64 ((rd_T69 a0 x21).f3),.int .i64 ((rd_T69 a0 x21).f4),.slice B26_5 (rd_T69 a0 x21).f5.length d26_5,.string ((rd_T69 a0 x21).f6)]] rfl rfl (by simp only [mpn];rfl) (by first|rfl|simp) ?_;refine(impl_CrlText.calls ht31.out (HS.ro y26_5) m26_5 (HS.keepc hgM)).mono ?_;rintro _ wt31 ⟨rfl,HQ⟩;refine⟨_,rfl,?_⟩;replace HS:=HS.call HQ;clear HQ;(try clear F);(try simp only [hpn,hpm] at HS);have F:=HS.bx;(try simp only [c33]))|((with_reducible refine gd 27 rfl ?_);refine gg ?_;refine ev_cl HS (slices_Contains_string_string.calls ht34.out (HS.rd 0 rfl) m20) Tryz.func126 ?_;clear HS;intro wt34 HS F))
   replace H:=zifb H;rcases H with⟨c36,H⟩|⟨c36,H⟩
   ·
    subst c36
    (try simp only [dcn,dcu,dcf])
    obtain rfl:=zsome H
    go_wp2
    go_ret
    exact HS.pk
   subst c36
   (try simp only [dcn,dcu,dcf])
   replace H:=zgo H;obtain⟨c39,H⟩:=H
   replace H:=zlets H;obtain⟨y40,e_y40,H⟩:=H
   go_wp2_with (first|((with_reducible refine gd 31 rfl ?_);refine ev_li Zd.string [] ([t31.1]:List ByteArray) ([.string t31.1]++ []) HS (MadeL.cons (js1:=[]) (c:=[.string t31.1]) rfl (made_flat (fun _=>rfl)) MadeL.nil (by decide)) ?_;clear HS;intro v37 w37 HS F;obtain⟨B37,d37,rfl,m37⟩:=HS.formn 1 2 rfl rfl)|((with_reducible refine gd 32 rfl ?_);refine ev_ap Zd.string 0 2 HS rfl rfl Tryz.underlying28 info9 (of_eq_true c39) ?_;clear HS;intro v40 w40 HS;rw [←e_y40.out] at HS;obtain⟨B40,d40,rfl,m40⟩:=HS.form 3 rfl;(try simp only [hpn,hpm] at HS);have F:=HS.bx))
   go_roundg k18
   case measure=>have:=HKk18.out;omega
   case rel=>exact⟨_,_,_,rfl,rfl,H,⟨by have:=HKk18.out;omega⟩,HS.pi [3]⟩
def impl_StoreOk_1.f (k:Nat)(a0:S57):Option (ByteArray×Bool):=((impl_NameOk.f k a0.f0).bind fun t3=>(if t3=true then(some (a0.f0,((a0.f1.size:Int)==15)))else(some (a0.f0,false))))
def impl_StoreOk_1.T1:TT:=(true,[([],[]),([0],[0]),([],[]),([2],[2]),([3],[3]),([4,4],[4]),([5],[5]),([6,5],[5,6]),([7,5],[5,7]),([8,5],[5,8]),([5,9],[5,9]),([1,5,0,1],[1]),([10,11,0,1,2,3,4,5,6,7,8,9,10,11],[10])])
theorem impl_StoreOk_1.tT1:rtab .any (opsOf Tryz.f70 1)=impl_StoreOk_1.T1:=by kernel_rfl
theorem impl_StoreOk_1.calls {k:Nat}{a0:S57}{mG:Int}{r1:ByteArray}{r2:Bool}{w:World}(h:impl_StoreOk_1.f k a0=some (r1,r2))(hgM:w.cell? ⟨0,0,none⟩=some (.int .i64 mG)):
    Calls Tryz.prog 70 #[.agg #[.string a0.f0,.string a0.f1]] w (fun e w'=>e=.returned (.tuple #[.string r1,.bool r2])∧Hp noFP w w' []):=by
 have HS:=Hp.start w
 have H:=Aside0.mk h
 clear h
 unfold impl_StoreOk_1.f at H
 go_enter Tryz.func70,Tryz.ntmps70
 go_wp2_with ((with_reducible refine gd 1 rfl ?_);refine ev_bx HS ?_;clear HS;intro g1 w1 HS F)
 replace H:=zbind H;obtain⟨t3,ht3,H⟩:=H
 replace H:=znifb H;rcases H with⟨c5,H⟩|⟨c5,H⟩
 ·
  subst c5
  refine dr_start [] HS #[false,false,false,false,false,false,false,false,false,false,false,false,false] (by kernel_rfl) rfl rfl impl_StoreOk_1.tT1 (fun w6 HT HS HH=>?_)
  (try clear F)
  refine dqt [0,1,2,3] HT HH ?_
  refine dr1 4 HT fun K hK=>?_
  refine go_cl HS (impl_NameOk.calls ht3.out (HS.keepc hgM)) Tryz.func71 ?_;clear HS;intro wt3 HS F
  refine nrm 8 hK ⟨_,HS⟩ fun HH=>?_;clear hK K
  refine dqo [5,6,7,8,9,10,11,12] HT ?_
  refine dn HT ?_
  (try clear F)
  have F:=HS.bx
  obtain⟨rfl,rfl⟩:=zsome2 H
  go_wp2
  exact rl rfl (.tmp (.tmp .nil)) ⟨rfl,HS.pi []⟩
 subst c5
 refine dr_start [] HS #[false,false,false,false,false,false,false,false,false,false,false,false,false] (by kernel_rfl) rfl rfl impl_StoreOk_1.tT1 (fun w4 HT HS HH=>?_)
 (try clear F)
 refine dqt [0,1,2,3] HT HH ?_
 refine dr1 4 HT fun K hK=>?_
 refine go_cl HS (impl_NameOk.calls ht3.out (HS.keepc hgM)) Tryz.func71 ?_;clear HS;intro wt3 HS F
 refine nrm 8 hK ⟨_,HS⟩ fun HH=>?_;clear hK K
 refine dqt [5,6,7,8,9,10,11,12] HT HH ?_
 refine dn HT ?_
 (try clear F)
 have F:=HS.bx
 obtain⟨rfl,rfl⟩:=zsome2 H
 go_wp2
 exact rl rfl (.tmp (.tmp .nil)) ⟨rfl,HS.pi []⟩
def impl_Anchor_0.l0:Nat→(List ByteArray)→Int→(List S57)→Option (Bool)
  |0,_,_,_=>none
  |k+1,l19,x21,a0=>(if x21<(a0.length:Int)then(if 0≤x21 then(if x21<(a0.length:Int)then((impl_StoreOk_1.f k (rd_T57 a0 x21)).bind fun t31=>(if t31.2=true then((slices_Contains_string_string.f k l19 t31.1).bind fun t34=>(if t34=true then(some false)else(if l19.length+1≤8796093022208 then(lets (l19++([t31.1]:List ByteArray)) fun y40=>(impl_Anchor_0.l0 k y40 (wrap64 (x21+1)) a0))else none)))else(some false)))else none)else none)else(some true))
def impl_Anchor_0.f (k:Nat)(a0:(List S57)):Option (Bool):=(impl_Anchor_0.l0 k [] 0 a0)
theorem impl_Anchor_0.calls {k:Nat}{a0:(List S57)}{Ap0:Option Addr}{np0 cp0:Nat}{mG:Int}{r:Bool}{w:World}(h:impl_Anchor_0.f k a0=some r)(gp0:k57.C w Ap0 np0 a0)(lp0:np0≤cp0)(hgM:w.cell? ⟨0,0,none⟩=some (.int .i64 mG)):
    Calls Tryz.prog 76 #[.slice Ap0 np0 cp0,.func (.func 70) #[] #[]] w (fun e w'=>e=.returned (.bool r)∧Hp noFP w w' []):=by
 obtain rfl:=C_len gp0
 have HS:=Hp.start w
 have H:=Aside0.mk h
 clear h
 unfold impl_Anchor_0.f at H
 go_enter Tryz.func76,Tryz.ntmps76
 go_wp2
 replace HS:=HS.nil 9 Zd.string
 go_loopg [5,12] k (fun kq v_5 v_12 w'=>∃(l19:List ByteArray) (v20:Value) (x21:Int),v_5=v20∧v_12=.int .i64 x21∧Aside0 (impl_Anchor_0.l0 kq l19 x21 a0=some r)∧Aside0 (kq≤k)∧Hp noFP w w' [.own (Zd.slice 9 Zd.string) l19 [v20]])
 case atStart=>exact⟨_,_,_,rfl,rfl,H,⟨Nat.le_refl _⟩,HS⟩
 case round=>
  clear HS H;(try clear F)
  obtain⟨l19,v20,x21,rfl,rfl,H,HKk18,HS⟩:=hrel
  obtain⟨B20,d20,rfl,m20⟩:=HS.form 0 rfl
  cases gk with
  |zero=>exact absurd H.out (by simp [impl_Anchor_0.l0])
  | succ k18=>
   simp only [impl_Anchor_0.l0] at H
   replace H:=znif H;rcases H with⟨c23,H⟩|⟨c23,H⟩
   ·
    obtain rfl:=zsome H
    go_wp2
    go_ret
    exact HS.pk
   replace H:=zgo H;obtain⟨c24,H⟩:=H
   replace H:=zgo H;obtain⟨c25,H⟩:=H
   obtain⟨ad26,rfl,e26_0,e26_1⟩:=at_T57 gp0 x21 (of_eq_true c24) (of_eq_true c25)
   have e26_0_26:=HS.keepc e26_0
   have e26_1_26:=HS.keepc e26_1
   replace H:=zbind H;obtain⟨t31,ht31,H⟩:=H
   replace H:=znifb H;rcases H with⟨c33,H⟩|⟨c33,H⟩
   ·
    obtain rfl:=zsome H
    go_wp2_with (first|((with_reducible refine gd 7 rfl ?_);refine ev_bx HS ?_;clear HS;intro g7 w7 HS F)|((with_reducible refine gate_store (p:=7) rfl ?_);refine ev_st 1 0 HS (seg:=[.string ((rd_T57 a0 x21).f0),.string ((rd_T57 a0 x21).f1)]) ?_;clear HS;intro w29 HS F)|((with_reducible refine gd 19 rfl ?_);refine ev_callv rfl Tryz.func70 (by kernel_rfl) rfl #[.agg #[.string ((rd_T57 a0 x21).f0),.string ((rd_T57 a0 x21).f1)]] #[.agg #[.string ((rd_T57 a0 x21).f0),.string ((rd_T57 a0 x21).f1)]] rfl rfl (by simp only [mpn];rfl) (by first|rfl|simp) ?_;refine(impl_StoreOk_1.calls ht31.out (HS.keepc hgM)).mono ?_;rintro _ wt31 ⟨rfl,HQ⟩;refine⟨_,rfl,?_⟩;replace HS:=HS.call HQ;clear HQ;(try clear F);(try simp only [hpn,hpm] at HS);have F:=HS.bx;(try simp only [c33])))
    go_ret
    exact HS.pk
   replace H:=zbind H;obtain⟨t34,ht34,H⟩:=H
   go_upto_if 28 with(first|((with_reducible refine gd 7 rfl ?_);refine ev_bx HS ?_;clear HS;intro g7 w7 HS F)|((with_reducible refine gate_store (p:=7) rfl ?_);refine ev_st 1 0 HS (seg:=[.string ((rd_T57 a0 x21).f0),.string ((rd_T57 a0 x21).f1)]) ?_;clear HS;intro w29 HS F)|((with_reducible refine gd 19 rfl ?_);refine ev_callv rfl Tryz.func70 (by kernel_rfl) rfl #[.agg #[.string ((rd_T57 a0 x21).f0),.string ((rd_T57 a0 x21).f1)]] #[.agg #[.string ((rd_T57 a0 x21).f0),.string ((rd_T57 a0 x21).f1)]] rfl rfl (by simp only [mpn];rfl) (by first|rfl|simp) ?_;refine(impl_StoreOk_1.calls ht31.out (HS.keepc hgM)).mono ?_;rintro _ wt31 ⟨rfl,HQ⟩;refine⟨_,rfl,?_⟩;replace HS:=HS.call HQ;clear HQ;(try clear F);(try simp only [hpn,hpm] at HS);have F:=HS.bx;(try simp only [c33]))|((with_reducible refine gd 27 rfl ?_);refine gg ?_;refine ev_cl HS (slices_Contains_string_string.calls ht34.out (HS.rd 0 rfl) m20) Tryz.func126 ?_;clear HS;intro wt34 HS F))
   replace H:=zifb H;rcases H with⟨c36,H⟩|⟨c36,H⟩
   ·
    subst c36
    (try simp only [dcn,dcu,dcf])
    obtain rfl:=zsome H
    go_wp2
    go_ret
    exact HS.pk
   subst c36
   (try simp only [dcn,dcu,dcf])
   replace H:=zgo H;obtain⟨c39,H⟩:=H
   replace H:=zlets H;obtain⟨y40,e_y40,H⟩:=H
   go_wp2_with (first|((with_reducible refine gd 31 rfl ?_);refine ev_li Zd.string [] ([t31.1]:List ByteArray) ([.string t31.1]++ []) HS (MadeL.cons (js1:=[]) (c:=[.string t31.1]) rfl (made_flat (fun _=>rfl)) MadeL.nil (by decide)) ?_;clear HS;intro v37 w37 HS F;obtain⟨B37,d37,rfl,m37⟩:=HS.formn 1 2 rfl rfl)|((with_reducible refine gd 32 rfl ?_);refine ev_ap Zd.string 0 2 HS rfl rfl Tryz.underlying28 info9 (of_eq_true c39) ?_;clear HS;intro v40 w40 HS;rw [←e_y40.out] at HS;obtain⟨B40,d40,rfl,m40⟩:=HS.form 3 rfl;(try simp only [hpn,hpm] at HS);have F:=HS.bx))
   go_roundg k18
   case measure=>have:=HKk18.out;omega
   case rel=>exact⟨_,_,_,rfl,rfl,H,⟨by have:=HKk18.out;omega⟩,HS.pi [3]⟩
def impl_StoreOk.f (k:Nat)(a0:S39):Option (Bool):=(if(a0.f0.length:Int)≤12 then(if(a0.f1.length:Int)≤8 then(if(a0.f2.length:Int)≤3 then((impl_Cert_72_0.f k a0.f0).bind fun t6=>(if t6=true then((impl_Crl_0.f k a0.f1).bind fun t9=>(if t9=true then((impl_Anchor_0.f k a0.f2).bind fun t12=>(some t12))else(some false)))else(some false)))else(some false))else(some false))else(some false))
theorem impl_StoreOk.calls {k:Nat}{a0:S39}{Ap0 Ap1 Ap2:Option Addr}{np0 cp0 np1 cp1 np2 cp2:Nat}{mG:Int}{r:Bool}{w:World}(h:impl_StoreOk.f k a0=some r)(gp0:k41.C w Ap0 np0 a0.f0)(lp0:np0≤cp0)(gp1:k69.C w Ap1 np1 a0.f1)(lp1:np1≤cp1)(gp2:k57.C w Ap2 np2 a0.f2)(lp2:np2≤cp2)(hgM:w.cell? ⟨0,0,none⟩=some (.int .i64 mG)):
    Calls Tryz.prog 24 #[.agg #[.slice Ap0 np0 cp0,.slice Ap1 np1 cp1,.slice Ap2 np2 cp2]] w (fun e w'=>e=.returned (.bool r)∧Hp noFP w w' []):=by
 obtain rfl:=C_len gp0
 obtain rfl:=C_len gp1
 obtain rfl:=C_len gp2
 have HS:=Hp.start w
 have H:=Aside0.mk h
 clear h
 unfold impl_StoreOk.f at H
 go_enter Tryz.func24,Tryz.ntmps24
 replace H:=znif H;rcases H with⟨c3,H⟩|⟨c3,H⟩
 ·
  obtain rfl:=zsome H
  go_wp2_with ((with_reducible refine gd 1 rfl ?_);refine ev_bx HS ?_;clear HS;intro g1 w1 HS F)
  go_ret
  exact HS.pk
 replace H:=znif H;rcases H with⟨c4,H⟩|⟨c4,H⟩
 ·
  obtain rfl:=zsome H
  go_wp2_with ((with_reducible refine gd 1 rfl ?_);refine ev_bx HS ?_;clear HS;intro g1 w1 HS F)
  go_ret
  exact HS.pk
 replace H:=znif H;rcases H with⟨c5,H⟩|⟨c5,H⟩
 ·
  obtain rfl:=zsome H
  go_wp2_with ((with_reducible refine gd 1 rfl ?_);refine ev_bx HS ?_;clear HS;intro g1 w1 HS F)
  go_ret
  exact HS.pk
 replace H:=zbind H;obtain⟨t6,ht6,H⟩:=H
 replace H:=znifb H;rcases H with⟨c8,H⟩|⟨c8,H⟩
 ·
  subst c8
  obtain rfl:=zsome H
  go_wp2_with (first|((with_reducible refine gd 1 rfl ?_);refine ev_bx HS ?_;clear HS;intro g1 w1 HS F)|((with_reducible refine gd 23 rfl ?_);refine gg ?_;refine ev_cl HS (impl_Cert_72_0.calls ht6.out (HS.ro gp0) lp0 (HS.keepc hgM)) Tryz.func72 ?_;clear HS;intro wt6 HS F))
  go_ret
  exact HS.pk
 subst c8
 replace H:=zbind H;obtain⟨t9,ht9,H⟩:=H
 replace H:=znifb H;rcases H with⟨c11,H⟩|⟨c11,H⟩
 ·
  subst c11
  obtain rfl:=zsome H
  go_wp2_with (first|((with_reducible refine gd 1 rfl ?_);refine ev_bx HS ?_;clear HS;intro g1 w1 HS F)|((with_reducible refine gd 23 rfl ?_);refine gg ?_;refine ev_cl HS (impl_Cert_72_0.calls ht6.out (HS.ro gp0) lp0 (HS.keepc hgM)) Tryz.func72 ?_;clear HS;intro wt6 HS F)|((with_reducible refine gd 28 rfl ?_);refine gg ?_;refine ev_cl HS (impl_Crl_0.calls ht9.out (HS.ro gp1) lp1 (HS.keepc hgM)) Tryz.func74 ?_;clear HS;intro wt9 HS F))
  go_ret
  exact HS.pk
 subst c11
 replace H:=zbind H;obtain⟨t12,ht12,H⟩:=H
 obtain rfl:=zsome H
 go_wp2_with (first|((with_reducible refine gd 1 rfl ?_);refine ev_bx HS ?_;clear HS;intro g1 w1 HS F)|((with_reducible refine gd 23 rfl ?_);refine gg ?_;refine ev_cl HS (impl_Cert_72_0.calls ht6.out (HS.ro gp0) lp0 (HS.keepc hgM)) Tryz.func72 ?_;clear HS;intro wt6 HS F)|((with_reducible refine gd 28 rfl ?_);refine gg ?_;refine ev_cl HS (impl_Crl_0.calls ht9.out (HS.ro gp1) lp1 (HS.keepc hgM)) Tryz.func74 ?_;clear HS;intro wt9 HS F)|((with_reducible refine gd 34 rfl ?_);refine gg ?_;refine ev_cl HS (impl_Anchor_0.calls ht12.out (HS.ro gp2) lp2 (HS.keepc hgM)) Tryz.func76 ?_;clear HS;intro wt12 HS F))
 go_ret
 exact HS.pk
def impl_seeker_mayFollow_1_0.f (a0:S41)(a1:S41):Option (Bool):=(some (a0.f2.toList==a1.f2.toList))
theorem impl_seeker_mayFollow_1_0.calls {a0:S41}{a1:S41}{Ap0 Ap1 Ap2:Option Addr}{np0 cp0 np1 cp1 np2 cp2:Nat}{p3:Nat}{Ap4 Ap5 Ap6:Option Addr}{np4 cp4 np5 cp5 np6 cp6:Nat}{r:Bool}{w:World}(h:impl_seeker_mayFollow_1_0.f a0 a1=some r)(gp0:(Kd.int .i64).C w Ap0 np0 a0.f9)(lp0:np0≤cp0)(gp1:Kd.string.C w Ap1 np1 a0.f10)(lp1:np1≤cp1)(gp2:Kd.string.C w Ap2 np2 a0.f11)(lp2:np2≤cp2)(gp4:(Kd.int .i64).C w Ap4 np4 a1.f9)(lp4:np4≤cp4)(gp5:Kd.string.C w Ap5 np5 a1.f10)(lp5:np5≤cp5)(gp6:Kd.string.C w Ap6 np6 a1.f11)(lp6:np6≤cp6)(zp3_0:w.cell? ⟨p3,0,none⟩=some (.int .i64 a1.f0))(zp3_1:w.cell? ⟨p3,1,none⟩=some (.string a1.f1))(zp3_2:w.cell? ⟨p3,2,none⟩=some (.string a1.f2))(zp3_3:w.cell? ⟨p3,3,none⟩=some (.int .i64 a1.f3))(zp3_4:w.cell? ⟨p3,4,none⟩=some (.int .i64 a1.f4))(zp3_5:w.cell? ⟨p3,5,none⟩=some (.string a1.f5))(zp3_6:w.cell? ⟨p3,6,none⟩=some (.bool a1.f6))(zp3_7:w.cell? ⟨p3,7,none⟩=some (.int .i64 a1.f7))(zp3_8:w.cell? ⟨p3,8,none⟩=some (.int .i64 a1.f8))(zp3_9:w.cell? ⟨p3,9,none⟩=some (.slice Ap4 np4 cp4))(zp3_10:w.cell? ⟨p3,10,none⟩=some (.slice Ap5 np5 cp5))(zp3_11:w.cell? ⟨p3,11,none⟩=some (.slice Ap6 np6 cp6))(zp3_12:w.cell? ⟨p3,12,none⟩=some (.string a1.f12)):
    Calls Tryz.prog 144 #[.agg #[.int .i64 a0.f0,.string a0.f1,.string a0.f2,.int .i64 a0.f3,.int .i64 a0.f4,.string a0.f5,.bool a0.f6,.int .i64 a0.f7,.int .i64 a0.f8,.slice Ap0 np0 cp0,.slice Ap1 np1 cp1,.slice Ap2 np2 cp2,.string a0.f12],.pointer (some ⟨p3,0,none⟩)] w (fun e w'=>e=.returned (.bool r)∧Hp noFP w w' []):=by
 obtain rfl:=C_len gp0
 obtain rfl:=C_len gp1
 obtain rfl:=C_len gp2
 obtain rfl:=C_len gp4
 obtain rfl:=C_len gp5
 obtain rfl:=C_len gp6
 have HS:=Hp.start w
 have H:=Aside0.mk h
 clear h
 unfold impl_seeker_mayFollow_1_0.f at H
 go_enter Tryz.func144,Tryz.ntmps144
 obtain rfl:=zsome H
 go_wp2_with ((with_reducible refine gd 2 rfl ?_);refine ev_bx HS ?_;clear HS;intro g2 w2 HS F;have zp3_2_:=(HS.keepc zp3_2))
 go_ret
 exact HS.pk
def impl_Cert_173_0.l0:Nat→Int→(List S41)→S41→Option (Int)
  |0,_,_,_=>none
  |k+1,x4,a0,a1=>(if x4<(a0.length:Int)then(if 0≤x4 then(if x4<(a0.length:Int)then((impl_seeker_mayFollow_1_0.f (rd_T41 a0 x4) a1).bind fun t10=>(if t10=true then(some x4)else(impl_Cert_173_0.l0 k (wrap64 (x4+1)) a0 a1)))else none)else none)else(some (-1)))
def impl_Cert_173_0.f (k:Nat)(a0:(List S41))(a1:S41):Option (Int):=(impl_Cert_173_0.l0 k 0 a0 a1)
theorem impl_Cert_173_0.calls {k:Nat}{a0:(List S41)}{a1:S41}{Ap0:Option Addr}{np0 cp0:Nat}{p1:Nat}{Ap2 Ap3 Ap4:Option Addr}{np2 cp2 np3 cp3 np4 cp4:Nat}{r:Int}{w:World}(h:impl_Cert_173_0.f k a0 a1=some r)(gp0:k41.C w Ap0 np0 a0)(lp0:np0≤cp0)(gp2:(Kd.int .i64).C w Ap2 np2 a1.f9)(lp2:np2≤cp2)(gp3:Kd.string.C w Ap3 np3 a1.f10)(lp3:np3≤cp3)(gp4:Kd.string.C w Ap4 np4 a1.f11)(lp4:np4≤cp4)(zp1_0:w.cell? ⟨p1,0,none⟩=some (.int .i64 a1.f0))(zp1_1:w.cell? ⟨p1,1,none⟩=some (.string a1.f1))(zp1_2:w.cell? ⟨p1,2,none⟩=some (.string a1.f2))(zp1_3:w.cell? ⟨p1,3,none⟩=some (.int .i64 a1.f3))(zp1_4:w.cell? ⟨p1,4,none⟩=some (.int .i64 a1.f4))(zp1_5:w.cell? ⟨p1,5,none⟩=some (.string a1.f5))(zp1_6:w.cell? ⟨p1,6,none⟩=some (.bool a1.f6))(zp1_7:w.cell? ⟨p1,7,none⟩=some (.int .i64 a1.f7))(zp1_8:w.cell? ⟨p1,8,none⟩=some (.int .i64 a1.f8))(zp1_9:w.cell? ⟨p1,9,none⟩=some (.slice Ap2 np2 cp2))(zp1_10:w.cell? ⟨p1,10,none⟩=some (.slice Ap3 np3 cp3))(zp1_11:w.cell? ⟨p1,11,none⟩=some (.slice Ap4 np4 cp4))(zp1_12:w.cell? ⟨p1,12,none⟩=some (.string a1.f12)):
    Calls Tryz.prog 173 #[.slice Ap0 np0 cp0,.func (.func 144) #[] #[.pointer (some ⟨p1,0,none⟩)]] w (fun e w'=>e=.returned (.int .i64 r)∧Hp noFP w w' []):=by
 obtain rfl:=C_len gp0
 obtain rfl:=C_len gp2
 obtain rfl:=C_len gp3
 obtain rfl:=C_len gp4
 have HS:=Hp.start w
 have H:=Aside0.mk h
 clear h
 unfold impl_Cert_173_0.f at H
 go_enter Tryz.func173,Tryz.ntmps173
 go_wp2
 go_loopg [8] k (fun kq v_8 w'=>∃(x4:Int),v_8=.int .i64 x4∧Aside0 (impl_Cert_173_0.l0 kq x4 a0 a1=some r)∧Aside0 (kq≤k)∧Hp noFP w w' [])
 case atStart=>exact⟨_,rfl,H,⟨Nat.le_refl _⟩,HS⟩
 case round=>
  clear HS H;(try clear F)
  obtain⟨x4,rfl,H,HKk3,HS⟩:=hrel
  cases gk with
  |zero=>exact absurd H.out (by simp [impl_Cert_173_0.l0])
  | succ k3=>
   simp only [impl_Cert_173_0.l0] at H
   replace H:=znif H;rcases H with⟨c6,H⟩|⟨c6,H⟩
   ·
    obtain rfl:=zsome H
    go_wp2
    go_ret
    exact HS.pk
   replace H:=zgo H;obtain⟨c7,H⟩:=H
   replace H:=zgo H;obtain⟨c8,H⟩:=H
   obtain⟨ad9,B9_9,d9_9,B9_10,d9_10,B9_11,d9_11,rfl,e9_0,e9_1,e9_2,e9_3,e9_4,e9_5,e9_6,e9_7,e9_8,e9_9,e9_10,e9_11,e9_12,m9_9,y9_9,m9_10,y9_10,m9_11,y9_11⟩:=at_T41 gp0 x4 (of_eq_true c7) (of_eq_true c8)
   have e9_0_9:=HS.keepc e9_0
   have e9_1_9:=HS.keepc e9_1
   have e9_2_9:=HS.keepc e9_2
   have e9_3_9:=HS.keepc e9_3
   have e9_4_9:=HS.keepc e9_4
   have e9_5_9:=HS.keepc e9_5
   have e9_6_9:=HS.keepc e9_6
   have e9_7_9:=HS.keepc e9_7
   have e9_8_9:=HS.keepc e9_8
   have e9_9_9:=HS.keepc e9_9
   have e9_10_9:=HS.keepc e9_10
   have e9_11_9:=HS.keepc e9_11
   have e9_12_9:=HS.keepc e9_12
   replace H:=zbind H;obtain⟨t10,ht10,H⟩:=H
   go_upto_if 16 with((with_reducible refine gd 16 rfl ?_);refine ev_callv rfl Tryz.func144 (by kernel_rfl) rfl #[.agg #[.int .i64 ((rd_T41 a0 x4).f0),.string ((rd_T41 a0 x4).f1),.string ((rd_T41 a0 x4).f2),.int .i64 ((rd_T41 a0 x4).f3),.int .i64 ((rd_T41 a0 x4).f4),.string ((rd_T41 a0 x4).f5),.bool ((rd_T41 a0 x4).f6),.int .i64 ((rd_T41 a0 x4).f7),.int .i64 ((rd_T41 a0 x4).f8),.slice B9_9 (rd_T41 a0 x4).f9.length d9_9,.slice B9_10 (rd_T41 a0 x4).f10.length d9_10,.slice B9_11 (rd_T41 a0 x4).f11.length d9_11,.string ((rd_T41 a0 x4).f12)]] #[.agg #[.int .i64 ((rd_T41 a0 x4).f0),.string ((rd_T41 a0 x4).f1),.string ((rd_T41 a0 x4).f2),.int .i64 ((rd_T41 a0 x4).f3),.int .i64 ((rd_T41 a0 x4).f4),.string ((rd_T41 a0 x4).f5),.bool ((rd_T41 a0 x4).f6),.int .i64 ((rd_T41 a0 x4).f7),.int .i64 ((rd_T41 a0 x4).f8),.slice B9_9 (rd_T41 a0 x4).f9.length d9_9,.slice B9_10 (rd_T41 a0 x4).f10.length d9_10,.slice B9_11 (rd_T41 a0 x4).f11.length d9_11,.string ((rd_T41 a0 x4).f12)],.pointer (some ⟨p1,0,none⟩)] rfl rfl (by simp only [mpn];rfl) (by first|rfl|simp) ?_;refine(impl_seeker_mayFollow_1_0.calls ht10.out (HS.ro y9_9) m9_9 (HS.ro y9_10) m9_10 (HS.ro y9_11) m9_11 (HS.ro gp2) lp2 (HS.ro gp3) lp3 (HS.ro gp4) lp4 (HS.keepc zp1_0) (HS.keepc zp1_1) (HS.keepc zp1_2) (HS.keepc zp1_3) (HS.keepc zp1_4) (HS.keepc zp1_5) (HS.keepc zp1_6) (HS.keepc zp1_7) (HS.keepc zp1_8) (HS.keepc zp1_9) (HS.keepc zp1_10) (HS.keepc zp1_11) (HS.keepc zp1_12)).mono ?_;rintro _ wt10 ⟨rfl,HQ⟩;refine⟨_,rfl,?_⟩;replace HS:=HS.call HQ;clear HQ;(try clear F);(try simp only [hpn,hpm] at HS))
   replace H:=zifb H;rcases H with⟨c12,H⟩|⟨c12,H⟩
   ·
    subst c12
    (try simp only [dcn,dcu,dcf])
    obtain rfl:=zsome H
    go_wp2
    go_ret
    exact HS.pk
   subst c12
   (try simp only [dcn,dcu,dcf])
   go_wp2
   go_roundg k3
   case measure=>have:=HKk3.out;omega
   case rel=>exact⟨_,rfl,H,⟨by have:=HKk3.out;omega⟩,HS.pi []⟩
def impl_Cert_143_0.f (k:Nat)(a0:(List S41))(a1:S41):Option (Bool):=((impl_Cert_173_0.f k a0 a1).bind fun t1=>(some (decide (0≤t1))))
theorem impl_Cert_143_0.calls {k:Nat}{a0:(List S41)}{a1:S41}{Ap0:Option Addr}{np0 cp0:Nat}{p1:Nat}{Ap2 Ap3 Ap4:Option Addr}{np2 cp2 np3 cp3 np4 cp4:Nat}{r:Bool}{w:World}(h:impl_Cert_143_0.f k a0 a1=some r)(gp0:k41.C w Ap0 np0 a0)(lp0:np0≤cp0)(gp2:(Kd.int .i64).C w Ap2 np2 a1.f9)(lp2:np2≤cp2)(gp3:Kd.string.C w Ap3 np3 a1.f10)(lp3:np3≤cp3)(gp4:Kd.string.C w Ap4 np4 a1.f11)(lp4:np4≤cp4)(zp1_0:w.cell? ⟨p1,0,none⟩=some (.int .i64 a1.f0))(zp1_1:w.cell? ⟨p1,1,none⟩=some (.string a1.f1))(zp1_2:w.cell? ⟨p1,2,none⟩=some (.string a1.f2))(zp1_3:w.cell? ⟨p1,3,none⟩=some (.int .i64 a1.f3))(zp1_4:w.cell? ⟨p1,4,none⟩=some (.int .i64 a1.f4))(zp1_5:w.cell? ⟨p1,5,none⟩=some (.string a1.f5))(zp1_6:w.cell? ⟨p1,6,none⟩=some (.bool a1.f6))(zp1_7:w.cell? ⟨p1,7,none⟩=some (.int .i64 a1.f7))(zp1_8:w.cell? ⟨p1,8,none⟩=some (.int .i64 a1.f8))(zp1_9:w.cell? ⟨p1,9,none⟩=some (.slice Ap2 np2 cp2))(zp1_10:w.cell? ⟨p1,10,none⟩=some (.slice Ap3 np3 cp3))(zp1_11:w.cell? ⟨p1,11,none⟩=some (.slice Ap4 np4 cp4))(zp1_12:w.cell? ⟨p1,12,none⟩=some (.string a1.f12)):
    Calls Tryz.prog 143 #[.slice Ap0 np0 cp0,.func (.func 144) #[] #[.pointer (some ⟨p1,0,none⟩)]] w (fun e w'=>e=.returned (.bool r)∧Hp noFP w w' []):=by
 obtain rfl:=C_len gp0
 obtain rfl:=C_len gp2
 obtain rfl:=C_len gp3
 obtain rfl:=C_len gp4
 have HS:=Hp.start w
 have H:=Aside0.mk h
 clear h
 unfold impl_Cert_143_0.f at H
 go_enter Tryz.func143,Tryz.ntmps143
 replace H:=zbind H;obtain⟨t1,ht1,H⟩:=H
 obtain rfl:=zsome H
 go_wp2_with ((with_reducible refine gd 7 rfl ?_);refine ev_cl HS (impl_Cert_173_0.calls ht1.out (HS.ro gp0) lp0 (HS.ro gp2) lp2 (HS.ro gp3) lp3 (HS.ro gp4) lp4 (HS.keepc zp1_0) (HS.keepc zp1_1) (HS.keepc zp1_2) (HS.keepc zp1_3) (HS.keepc zp1_4) (HS.keepc zp1_5) (HS.keepc zp1_6) (HS.keepc zp1_7) (HS.keepc zp1_8) (HS.keepc zp1_9) (HS.keepc zp1_10) (HS.keepc zp1_11) (HS.keepc zp1_12)) Tryz.func173 ?_;clear HS;intro wt1 HS F)
 go_ret
 exact HS.pk
def impl_seeker_mayFollow_0.f (k:Nat)(a0:S91)(a1:(List S41))(a2:S41):Option (Bool):=(if 0≤a0.f2 then(if a0.f2<(a0.f0.f2.length:Int)then(if 0<(a1.length:Int)then(if 0≤(wrap64 ((a1.length:Int) - 1))then(if(wrap64 ((a1.length:Int) - 1))<(a1.length:Int)then((impl_Cert_143_0.f k a1 a2).bind fun t10=>(if a2.f1.toList=((rd_T41 a1 (wrap64 ((a1.length:Int) - 1))).f2).toList then(if a2.f2.toList=((rd_T57 a0.f0.f2 a0.f2).f0).toList then(some false)else(some (!t10)))else(some false)))else none)else none)else((impl_Cert_143_0.f k a1 a2).bind fun t14=>(if a2.f1.toList=((rd_T57 a0.f0.f2 a0.f2).f0).toList then(if a2.f2.toList=((rd_T57 a0.f0.f2 a0.f2).f0).toList then(some false)else(some (!t14)))else(some false))))else none)else none)
def impl_seeker_mayFollow_0.T1:TT:=(true,[([],[]),([0],[0]),([1],[1]),([2],[2]),([3],[3]),([],[]),([5],[5]),([6],[6]),([7],[7]),([4,8],[4,8]),([9],[9]),([10],[10]),([11,0,1,2,3,4,5,6,7,8,9,10,11],[11])])
theorem impl_seeker_mayFollow_0.tT1:rtab .any (opsOf Tryz.f108 1)=impl_seeker_mayFollow_0.T1:=by kernel_rfl
theorem impl_seeker_mayFollow_0.calls {k:Nat}{a0:S91}{a1:(List S41)}{a2:S41}{p0:Nat}{Ap1 Ap2 Ap3 Ap4 Ap5 Ap6 Ap7 Ap8 Ap9 Ap10 Ap11:Option Addr}{np1 cp1 np2 cp2 np3 cp3 np4 cp4 np5 cp5 np6 cp6 np7 cp7 np8 cp8 np9 cp9 np10 cp10 np11 cp11:Nat}{r:Bool}{w:World}(h:impl_seeker_mayFollow_0.f k a0 a1 a2=some r)(gp1:k41.C w Ap1 np1 a0.f0.f0)(lp1:np1≤cp1)(gp2:k69.C w Ap2 np2 a0.f0.f1)(lp2:np2≤cp2)(gp3:k57.C w Ap3 np3 a0.f0.f2)(lp3:np3≤cp3)(gp4:(Kd.int .i64).C w Ap4 np4 a0.f1.f9)(lp4:np4≤cp4)(gp5:Kd.string.C w Ap5 np5 a0.f1.f10)(lp5:np5≤cp5)(gp6:Kd.string.C w Ap6 np6 a0.f1.f11)(lp6:np6≤cp6)(gp7:k59.C w Ap7 np7 a0.f3)(lp7:np7≤cp7)(zp0_0:w.cell? ⟨p0,0,none⟩=some (.slice Ap1 np1 cp1))(zp0_1:w.cell? ⟨p0,1,none⟩=some (.slice Ap2 np2 cp2))(zp0_2:w.cell? ⟨p0,2,none⟩=some (.slice Ap3 np3 cp3))(zp0_3:w.cell? ⟨p0,3,none⟩=some (.int .i64 a0.f1.f0))(zp0_4:w.cell? ⟨p0,4,none⟩=some (.string a0.f1.f1))(zp0_5:w.cell? ⟨p0,5,none⟩=some (.string a0.f1.f2))(zp0_6:w.cell? ⟨p0,6,none⟩=some (.int .i64 a0.f1.f3))(zp0_7:w.cell? ⟨p0,7,none⟩=some (.int .i64 a0.f1.f4))(zp0_8:w.cell? ⟨p0,8,none⟩=some (.string a0.f1.f5))(zp0_9:w.cell? ⟨p0,9,none⟩=some (.bool a0.f1.f6))(zp0_10:w.cell? ⟨p0,10,none⟩=some (.int .i64 a0.f1.f7))(zp0_11:w.cell? ⟨p0,11,none⟩=some (.int .i64 a0.f1.f8))(zp0_12:w.cell? ⟨p0,12,none⟩=some (.slice Ap4 np4 cp4))(zp0_13:w.cell? ⟨p0,13,none⟩=some (.slice Ap5 np5 cp5))(zp0_14:w.cell? ⟨p0,14,none⟩=some (.slice Ap6 np6 cp6))(zp0_15:w.cell? ⟨p0,15,none⟩=some (.string a0.f1.f12))(zp0_16:w.cell? ⟨p0,16,none⟩=some (.int .i64 a0.f2))(zp0_17:w.cell? ⟨p0,17,none⟩=some (.slice Ap7 np7 cp7))(gp8:k41.C w Ap8 np8 a1)(lp8:np8≤cp8)(gp9:(Kd.int .i64).C w Ap9 np9 a2.f9)(lp9:np9≤cp9)(gp10:Kd.string.C w Ap10 np10 a2.f10)(lp10:np10≤cp10)(gp11:Kd.string.C w Ap11 np11 a2.f11)(lp11:np11≤cp11):
    Calls Tryz.prog 108 #[.pointer (some ⟨p0,0,none⟩),.slice Ap8 np8 cp8,.agg #[.int .i64 a2.f0,.string a2.f1,.string a2.f2,.int .i64 a2.f3,.int .i64 a2.f4,.string a2.f5,.bool a2.f6,.int .i64 a2.f7,.int .i64 a2.f8,.slice Ap9 np9 cp9,.slice Ap10 np10 cp10,.slice Ap11 np11 cp11,.string a2.f12]] w (fun e w'=>e=.returned (.bool r)∧Hp noFP w w' []):=by
 obtain rfl:=C_len gp1
 obtain rfl:=C_len gp2
 obtain rfl:=C_len gp3
 obtain rfl:=C_len gp4
 obtain rfl:=C_len gp5
 obtain rfl:=C_len gp6
 obtain rfl:=C_len gp7
 obtain rfl:=C_len gp8
 obtain rfl:=C_len gp9
 obtain rfl:=C_len gp10
 obtain rfl:=C_len gp11
 have HS:=Hp.start w
 have H:=Aside0.mk h
 clear h
 unfold impl_seeker_mayFollow_0.f at H
 go_enter Tryz.func108,Tryz.ntmps108
 go_wp2_with ((with_reducible refine gd 5 rfl ?_);refine ev_bx HS ?_;clear HS;intro g5 w5 HS F)
 replace H:=zgo H;obtain⟨c15,H⟩:=H
 replace H:=zgo H;obtain⟨c18,H⟩:=H
 obtain⟨ad19,rfl,e19_0,e19_1⟩:=at_T57 gp3 a0.f2 (of_eq_true c15) (of_eq_true c18)
 refine dr_start [] HS #[false,false,false,false,false,false,false,false,false,false,false,false,false] (by kernel_rfl) rfl rfl impl_seeker_mayFollow_0.tT1 (fun w4 HT HS HH=>?_)
 (try clear F)
 refine dq [0,1,2,3] HT ?_
 refine dtk 4 14 HT HH rfl (by rintro w' ⟨rs',HS'⟩;have zp0_2:=(HS'.keepc zp0_2);go_simp;with_reducible rfl) ?_
 refine dq [5,6,7] HT ?_
 refine dtk 8 18 HT HH rfl (by rintro w' ⟨rs',HS'⟩;have zp0_16:=(HS'.keepc zp0_16);go_simp;with_reducible rfl) ?_
 refine dq [9,10] HT ?_
 refine dtk 11 21 HT HH rfl (by rintro w' ⟨rs',HS'⟩;have e19_0:=HS'.keepc e19_0;have e19_1:=HS'.keepc e19_1;go_simp;with_reducible rfl) ?_
 refine dq [12] HT ?_
 refine dn HT ?_
 (try clear F)
 have F:=HS.bx
 replace H:=znif H;rcases H with⟨c6,H⟩|⟨c6,H⟩
 ·
  have c6n:=(propext (Int.natCast_pos (n:=a1.length))).symm.trans c6
  (try simp only [c6,c6n,dcn])
  replace H:=zbind H;obtain⟨t14,ht14,H⟩:=H
  replace H:=znif' H;rcases H with⟨c16,H⟩|⟨c16,H⟩
  ·
   obtain⟨c16a,c16b⟩:=nq c16;clear c16
   obtain rfl:=zsome H
   go_wp2_with ((with_reducible refine gd 35 rfl ?_);refine ev_cl HS (impl_Cert_143_0.calls ht14.out (HS.ro gp8) lp8 (HS.ro gp9) lp9 (HS.ro gp10) lp10 (HS.ro gp11) lp11 (HS.cellAt 0 rfl (j:=0) rfl) (HS.cellAt 0 rfl (j:=1) rfl) (HS.cellAt 0 rfl (j:=2) rfl) (HS.cellAt 0 rfl (j:=3) rfl) (HS.cellAt 0 rfl (j:=4) rfl) (HS.cellAt 0 rfl (j:=5) rfl) (HS.cellAt 0 rfl (j:=6) rfl) (HS.cellAt 0 rfl (j:=7) rfl) (HS.cellAt 0 rfl (j:=8) rfl) (HS.cellAt 0 rfl (j:=9) rfl) (HS.cellAt 0 rfl (j:=10) rfl) (HS.cellAt 0 rfl (j:=11) rfl) (HS.cellAt 0 rfl (j:=12) rfl)) Tryz.func143 ?_;clear HS;intro wt14 HS F)
   go_ret
   exact HS.pk
  obtain⟨c16a,c16b⟩:=bq c16;clear c16
  replace H:=znif' H;rcases H with⟨c17,H⟩|⟨c17,H⟩
  ·
   obtain⟨c17a,c17b⟩:=nq c17;clear c17
   obtain rfl:=zsome H
   go_wp2_with ((with_reducible refine gd 35 rfl ?_);refine ev_cl HS (impl_Cert_143_0.calls ht14.out (HS.ro gp8) lp8 (HS.ro gp9) lp9 (HS.ro gp10) lp10 (HS.ro gp11) lp11 (HS.cellAt 0 rfl (j:=0) rfl) (HS.cellAt 0 rfl (j:=1) rfl) (HS.cellAt 0 rfl (j:=2) rfl) (HS.cellAt 0 rfl (j:=3) rfl) (HS.cellAt 0 rfl (j:=4) rfl) (HS.cellAt 0 rfl (j:=5) rfl) (HS.cellAt 0 rfl (j:=6) rfl) (HS.cellAt 0 rfl (j:=7) rfl) (HS.cellAt 0 rfl (j:=8) rfl) (HS.cellAt 0 rfl (j:=9) rfl) (HS.cellAt 0 rfl (j:=10) rfl) (HS.cellAt 0 rfl (j:=11) rfl) (HS.cellAt 0 rfl (j:=12) rfl)) Tryz.func143 ?_;clear HS;intro wt14 HS F)
   go_ret
   exact HS.pk
  obtain⟨c17a,c17b⟩:=bq c17;clear c17
  obtain rfl:=zsome H
  go_wp2_with ((with_reducible refine gd 35 rfl ?_);refine ev_cl HS (impl_Cert_143_0.calls ht14.out (HS.ro gp8) lp8 (HS.ro gp9) lp9 (HS.ro gp10) lp10 (HS.ro gp11) lp11 (HS.cellAt 0 rfl (j:=0) rfl) (HS.cellAt 0 rfl (j:=1) rfl) (HS.cellAt 0 rfl (j:=2) rfl) (HS.cellAt 0 rfl (j:=3) rfl) (HS.cellAt 0 rfl (j:=4) rfl) (HS.cellAt 0 rfl (j:=5) rfl) (HS.cellAt 0 rfl (j:=6) rfl) (HS.cellAt 0 rfl (j:=7) rfl) (HS.cellAt 0 rfl (j:=8) rfl) (HS.cellAt 0 rfl (j:=9) rfl) (HS.cellAt 0 rfl (j:=10) rfl) (HS.cellAt 0 rfl (j:=11) rfl) (HS.cellAt 0 rfl (j:=12) rfl)) Tryz.func143 ?_;clear HS;intro wt14 HS F)
  go_ret
  exact HS.pk
 have c6n:=(propext (Int.natCast_pos (n:=a1.length))).symm.trans c6
 (try simp only [c6,c6n,dcn])
 replace H:=zgo H;obtain⟨c7,H⟩:=H
 replace H:=zgo H;obtain⟨c8,H⟩:=H
 obtain⟨ad9,B9_9,d9_9,B9_10,d9_10,B9_11,d9_11,rfl,e9_0,e9_1,e9_2,e9_3,e9_4,e9_5,e9_6,e9_7,e9_8,e9_9,e9_10,e9_11,e9_12,m9_9,y9_9,m9_10,y9_10,m9_11,y9_11⟩:=at_T41 gp8 (wrap64 ((a1.length:Int) - 1)) (of_eq_true c7) (of_eq_true c8)
 have e9_0_9:=HS.keepc e9_0
 have e9_1_9:=HS.keepc e9_1
 have e9_2_9:=HS.keepc e9_2
 have e9_3_9:=HS.keepc e9_3
 have e9_4_9:=HS.keepc e9_4
 have e9_5_9:=HS.keepc e9_5
 have e9_6_9:=HS.keepc e9_6
 have e9_7_9:=HS.keepc e9_7
 have e9_8_9:=HS.keepc e9_8
 have e9_9_9:=HS.keepc e9_9
 have e9_10_9:=HS.keepc e9_10
 have e9_11_9:=HS.keepc e9_11
 have e9_12_9:=HS.keepc e9_12
 replace H:=zbind H;obtain⟨t10,ht10,H⟩:=H
 replace H:=znif' H;rcases H with⟨c12,H⟩|⟨c12,H⟩
 ·
  obtain⟨c12a,c12b⟩:=nq c12;clear c12
  obtain rfl:=zsome H
  go_wp2_with ((with_reducible refine gd 35 rfl ?_);refine ev_cl HS (impl_Cert_143_0.calls ht10.out (HS.ro gp8) lp8 (HS.ro gp9) lp9 (HS.ro gp10) lp10 (HS.ro gp11) lp11 (HS.cellAt 0 rfl (j:=0) rfl) (HS.cellAt 0 rfl (j:=1) rfl) (HS.cellAt 0 rfl (j:=2) rfl) (HS.cellAt 0 rfl (j:=3) rfl) (HS.cellAt 0 rfl (j:=4) rfl) (HS.cellAt 0 rfl (j:=5) rfl) (HS.cellAt 0 rfl (j:=6) rfl) (HS.cellAt 0 rfl (j:=7) rfl) (HS.cellAt 0 rfl (j:=8) rfl) (HS.cellAt 0 rfl (j:=9) rfl) (HS.cellAt 0 rfl (j:=10) rfl) (HS.cellAt 0 rfl (j:=11) rfl) (HS.cellAt 0 rfl (j:=12) rfl)) Tryz.func143 ?_;clear HS;intro wt10 HS F)
  go_ret
  exact HS.pk
 obtain⟨c12a,c12b⟩:=bq c12;clear c12
 replace H:=znif' H;rcases H with⟨c13,H⟩|⟨c13,H⟩
 ·
  obtain⟨c13a,c13b⟩:=nq c13;clear c13
  obtain rfl:=zsome H
  go_wp2_with ((with_reducible refine gd 35 rfl ?_);refine ev_cl HS (impl_Cert_143_0.calls ht10.out (HS.ro gp8) lp8 (HS.ro gp9) lp9 (HS.ro gp10) lp10 (HS.ro gp11) lp11 (HS.cellAt 0 rfl (j:=0) rfl) (HS.cellAt 0 rfl (j:=1) rfl) (HS.cellAt 0 rfl (j:=2) rfl) (HS.cellAt 0 rfl (j:=3) rfl) (HS.cellAt 0 rfl (j:=4) rfl) (HS.cellAt 0 rfl (j:=5) rfl) (HS.cellAt 0 rfl (j:=6) rfl) (HS.cellAt 0 rfl (j:=7) rfl) (HS.cellAt 0 rfl (j:=8) rfl) (HS.cellAt 0 rfl (j:=9) rfl) (HS.cellAt 0 rfl (j:=10) rfl) (HS.cellAt 0 rfl (j:=11) rfl) (HS.cellAt 0 rfl (j:=12) rfl)) Tryz.func143 ?_;clear HS;intro wt10 HS F)
  go_ret
  exact HS.pk
 obtain⟨c13a,c13b⟩:=bq c13;clear c13
 obtain rfl:=zsome H
 go_wp2_with ((with_reducible refine gd 35 rfl ?_);refine ev_cl HS (impl_Cert_143_0.calls ht10.out (HS.ro gp8) lp8 (HS.ro gp9) lp9 (HS.ro gp10) lp10 (HS.ro gp11) lp11 (HS.cellAt 0 rfl (j:=0) rfl) (HS.cellAt 0 rfl (j:=1) rfl) (HS.cellAt 0 rfl (j:=2) rfl) (HS.cellAt 0 rfl (j:=3) rfl) (HS.cellAt 0 rfl (j:=4) rfl) (HS.cellAt 0 rfl (j:=5) rfl) (HS.cellAt 0 rfl (j:=6) rfl) (HS.cellAt 0 rfl (j:=7) rfl) (HS.cellAt 0 rfl (j:=8) rfl) (HS.cellAt 0 rfl (j:=9) rfl) (HS.cellAt 0 rfl (j:=10) rfl) (HS.cellAt 0 rfl (j:=11) rfl) (HS.cellAt 0 rfl (j:=12) rfl)) Tryz.func143 ?_;clear HS;intro wt10 HS F)
 go_ret
 exact HS.pk
end Go.Proofs.YtncddikfafgklaaGreatDoor.F

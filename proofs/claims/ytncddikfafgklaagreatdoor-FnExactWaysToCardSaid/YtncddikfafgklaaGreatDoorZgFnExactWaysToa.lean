/- Functions of the program and of the law, and that their calls do what is written here. -/
import Derived.Test.YtncddikfafgklaaGreatDoorZT
import Derived.Test.YtncddikfafgklaaGreatDoorZS
namespace Go.Proofs.YtncddikfafgklaaGreatDoor.F
open Go.RowKit YtncddikfafgklaaGreatDoorW.PrintWords YtncddikfafgklaaGreatDoorW.PrintLast YtncddikfafgklaaGreatDoorW.PrintMore Z
attribute [local go_sem] max2_int min2_int max_two min_two max_three min_three max_four min_four
set_option linter.unusedVariables false
set_option linter.unusedSimpArgs false
set_option maxRecDepth 100000
set_option maxHeartbeats 16000000
def laws_toIntS.l0:Nat→(List Int)→Int→(List Int)→Option ((List Int))
  |0,_,_,_=>none
  |k+1,l18,x20,a0=>(if x20<(a0.length:Int)then(if 0≤x20 then(if x20<(a0.length:Int)then(laws_toIntS.l0 k (l18.set (x20).toNat (rd a0 x20)) (wrap64 (x20+1)) a0)else none)else none)else(some l18))
def laws_toIntS.f (k:Nat)(a0:(List Int)):Option ((List Int)):=(if 0≤(a0.length:Int)then(if((a0.length:Int)).toNat≤35184372088832 then(laws_toIntS.l0 k (List.replicate a0.length (0:Int)) 0 a0)else none)else none)
theorem laws_toIntS.calls {k:Nat}{a0:(List Int)}{Ap0:Option Addr}{np0 cp0:Nat}{r:(List Int)}{w:World}(h:laws_toIntS.f k a0=some r)(gp0:(Kd.int .i64).C w Ap0 np0 a0)(lp0:np0≤cp0):
    Calls Tryz.prog 46 #[.slice Ap0 np0 cp0] w (fun e w'=>∃v0_:Value,e=.returned (v0_)∧Hp noFP w w' [.own (Zd.slice 3 (Zd.int .i64)) r [v0_]]):=by
 obtain rfl:=C_len gp0
 have HS:=Hp.start w
 have H:=Aside0.mk h
 clear h
 unfold laws_toIntS.f at H
 go_enter Tryz.func46,Tryz.ntmps46
 replace H:=zgo H;obtain⟨c1,H⟩:=H
 replace H:=zgo H;obtain⟨c2,H⟩:=H
 go_wp2_with ((with_reducible refine gd 7 rfl ?_);refine ev_make rfl (Zd.int .i64) (0:Int) HS rfl (a0.length:Int) rfl rfl Tryz.underlying27 info3 rfl (by decide) (by decide) (fun _ _=>rfl) (of_eq_true c1) (by have:=of_eq_true c2;omega) ?_;clear HS;intro v3 w3 HS;obtain⟨B3,d3,rfl,m3⟩:=HS.formn a0.length 0 rfl (by first|rfl|simp);(try simp only [hpn,hpm] at HS))
 go_loopg [4] k (fun kq v_4 w'=>∃(l18:List Int) (x20:Int),v_4=.int .i64 x20∧Aside0 (laws_toIntS.l0 kq l18 x20 a0=some r)∧Aside0 (kq≤k)∧Hp noFP w w' [.own (Zd.slice 3 (Zd.int .i64)) l18 [.slice B3 a0.length d3]])
 case atStart=>exact⟨_,_,rfl,H,⟨Nat.le_refl _⟩,HS⟩
 case round=>
  clear HS H;(try clear F)
  obtain⟨l18,x20,rfl,H,HKk17,HS⟩:=hrel
  cases gk with
  |zero=>exact absurd H.out (by simp [laws_toIntS.l0])
  | succ k17=>
   simp only [laws_toIntS.l0] at H
   replace H:=znif H;rcases H with⟨c22,H⟩|⟨c22,H⟩
   ·
    obtain rfl:=zsome H
    go_wp2
    exact r1 ⟨_,rfl,HS.pi [0]⟩
   replace H:=zgo H;obtain⟨c23,H⟩:=H
   replace H:=zgo H;obtain⟨c24,H⟩:=H
   obtain⟨ad25,rfl,e25_0⟩:=Kd.at_int gp0 x20 (of_eq_true c23) (of_eq_true c24)
   have e25_0_25:=HS.keepc e25_0
   obtain⟨ad26,rfl,e26_0⟩:=Kd.at_int (HS.rd 0 rfl) x20 (of_eq_true c23) (of_eq_true c24)
   go_wp2_with ((with_reducible refine gate_store (p:=20) rfl ?_);refine ev_set rfl (Zd.int .i64) 0 [] x20 (rd a0 x20) HS (seg:=[.int .i64 (rd a0 x20)]) rfl (by decide) rfl rfl rfl (by first|rfl|exact(Nat.mul_one _).symm) rfl rfl (by kernel_rfl) (by simp [Value.oneCell']) ⟨of_eq_true c23,of_eq_true c24⟩ rfl (made_flat (fun _=>rfl)) ?_;clear HS;intro w27 HS;(try simp only [hpn,hpm] at HS))
   go_roundg k17
   case measure=>have:=HKk17.out;omega
   case rel=>exact⟨_,_,rfl,H,⟨by have:=HKk17.out;omega⟩,HS.pi [0]⟩
def laws_toStringS.l0:Nat→(List ByteArray)→Int→(List ByteArray)→Option ((List ByteArray))
  |0,_,_,_=>none
  |k+1,l18,x20,a0=>(if x20<(a0.length:Int)then(if 0≤x20 then(if x20<(a0.length:Int)then(laws_toStringS.l0 k (l18.set (x20).toNat (rdOf ByteArray.empty a0 x20)) (wrap64 (x20+1)) a0)else none)else none)else(some l18))
def laws_toStringS.f (k:Nat)(a0:(List ByteArray)):Option ((List ByteArray)):=(if 0≤(a0.length:Int)then(if((a0.length:Int)).toNat≤17592186044416 then(laws_toStringS.l0 k (List.replicate a0.length (⟨#[]⟩:ByteArray)) 0 a0)else none)else none)
theorem laws_toStringS.calls {k:Nat}{a0:(List ByteArray)}{Ap0:Option Addr}{np0 cp0:Nat}{r:(List ByteArray)}{w:World}(h:laws_toStringS.f k a0=some r)(gp0:Kd.string.C w Ap0 np0 a0)(lp0:np0≤cp0):
    Calls Tryz.prog 47 #[.slice Ap0 np0 cp0] w (fun e w'=>∃v0_:Value,e=.returned (v0_)∧Hp noFP w w' [.own (Zd.slice 9 Zd.string) r [v0_]]):=by
 obtain rfl:=C_len gp0
 have HS:=Hp.start w
 have H:=Aside0.mk h
 clear h
 unfold laws_toStringS.f at H
 go_enter Tryz.func47,Tryz.ntmps47
 replace H:=zgo H;obtain⟨c1,H⟩:=H
 replace H:=zgo H;obtain⟨c2,H⟩:=H
 go_wp2_with ((with_reducible refine gd 7 rfl ?_);refine ev_make rfl Zd.string (⟨#[]⟩:ByteArray) HS rfl (a0.length:Int) rfl rfl Tryz.underlying28 info9 rfl (by decide) (by decide) (fun _ _=>rfl) (of_eq_true c1) (by have:=of_eq_true c2;omega) ?_;clear HS;intro v3 w3 HS;obtain⟨B3,d3,rfl,m3⟩:=HS.formn a0.length 0 rfl (by first|rfl|simp);(try simp only [hpn,hpm] at HS))
 go_loopg [4] k (fun kq v_4 w'=>∃(l18:List ByteArray) (x20:Int),v_4=.int .i64 x20∧Aside0 (laws_toStringS.l0 kq l18 x20 a0=some r)∧Aside0 (kq≤k)∧Hp noFP w w' [.own (Zd.slice 9 Zd.string) l18 [.slice B3 a0.length d3]])
 case atStart=>exact⟨_,_,rfl,H,⟨Nat.le_refl _⟩,HS⟩
 case round=>
  clear HS H;(try clear F)
  obtain⟨l18,x20,rfl,H,HKk17,HS⟩:=hrel
  cases gk with
  |zero=>exact absurd H.out (by simp [laws_toStringS.l0])
  | succ k17=>
   simp only [laws_toStringS.l0] at H
   replace H:=znif H;rcases H with⟨c22,H⟩|⟨c22,H⟩
   ·
    obtain rfl:=zsome H
    go_wp2
    exact r1 ⟨_,rfl,HS.pi [0]⟩
   replace H:=zgo H;obtain⟨c23,H⟩:=H
   replace H:=zgo H;obtain⟨c24,H⟩:=H
   obtain⟨ad25,rfl,e25_0⟩:=Kd.at_string gp0 x20 (of_eq_true c23) (of_eq_true c24)
   have e25_0_25:=HS.keepc e25_0
   obtain⟨ad26,rfl,e26_0⟩:=Kd.at_string (HS.rd 0 rfl) x20 (of_eq_true c23) (of_eq_true c24)
   go_wp2_with ((with_reducible refine gate_store (p:=20) rfl ?_);refine ev_set rfl Zd.string 0 [] x20 (rdOf ByteArray.empty a0 x20) HS (seg:=[.string (rdOf ByteArray.empty a0 x20)]) rfl (by decide) rfl rfl rfl (by first|rfl|exact(Nat.mul_one _).symm) rfl rfl (by kernel_rfl) (by simp [Value.oneCell']) ⟨of_eq_true c23,of_eq_true c24⟩ rfl (made_flat (fun _=>rfl)) ?_;clear HS;intro w27 HS;(try simp only [hpn,hpm] at HS))
   go_roundg k17
   case measure=>have:=HKk17.out;omega
   case rel=>exact⟨_,_,rfl,H,⟨by have:=HKk17.out;omega⟩,HS.pi [0]⟩
def laws_toCert.f (k:Nat)(a0:S30):Option (S41):=((laws_toIntS.f k a0.f9).bind fun t25=>((laws_toStringS.f k a0.f10).bind fun t30=>((laws_toStringS.f k a0.f11).bind fun t35=>(some (⟨a0.f0,a0.f1,a0.f2,a0.f3,a0.f4,a0.f5,a0.f6,a0.f7,a0.f8,t25,t30,t35,a0.f12⟩:S41)))))
theorem laws_toCert.calls {k:Nat}{a0:S30}{Ap0 Ap1 Ap2:Option Addr}{np0 cp0 np1 cp1 np2 cp2:Nat}{r:S41}{w:World}(h:laws_toCert.f k a0=some r)(gp0:(Kd.int .i64).C w Ap0 np0 a0.f9)(lp0:np0≤cp0)(gp1:Kd.string.C w Ap1 np1 a0.f10)(lp1:np1≤cp1)(gp2:Kd.string.C w Ap2 np2 a0.f11)(lp2:np2≤cp2):
    Calls Tryz.prog 10 #[.agg #[.int .i64 a0.f0,.string a0.f1,.string a0.f2,.int .i64 a0.f3,.int .i64 a0.f4,.string a0.f5,.bool a0.f6,.int .i64 a0.f7,.int .i64 a0.f8,.slice Ap0 np0 cp0,.slice Ap1 np1 cp1,.slice Ap2 np2 cp2,.string a0.f12]] w (fun e w'=>∃v0_ v1_ v2_:Value,e=.returned (.agg #[.int .i64 r.f0,.string r.f1,.string r.f2,.int .i64 r.f3,.int .i64 r.f4,.string r.f5,.bool r.f6,.int .i64 r.f7,.int .i64 r.f8,v0_,v1_,v2_,.string r.f12])∧Hp noFP w w' [.own (Zd.slice 3 (Zd.int .i64)) r.f9 [v0_],.own (Zd.slice 9 Zd.string) r.f10 [v1_],.own (Zd.slice 9 Zd.string) r.f11 [v2_]]):=by
 obtain rfl:=C_len gp0
 obtain rfl:=C_len gp1
 obtain rfl:=C_len gp2
 have HS:=Hp.start w
 have H:=Aside0.mk h
 clear h
 unfold laws_toCert.f at H
 go_enter Tryz.func10,Tryz.ntmps10
 replace H:=zbind H;obtain⟨t25,ht25,H⟩:=H
 replace H:=zbind H;obtain⟨t30,ht30,H⟩:=H
 replace H:=zbind H;obtain⟨t35,ht35,H⟩:=H
 obtain rfl:=zsome H
 go_wp2_with (first|((with_reducible refine gd 1 rfl ?_);refine ev_bx HS ?_;clear HS;intro g1 w1 HS F)|((with_reducible refine gd 2 rfl ?_);refine ev_bx HS ?_;clear HS;intro g2 w2 HS F)|((with_reducible refine gd 3 rfl ?_);refine ev_bx HS ?_;clear HS;intro g3 w3 HS F)|((with_reducible refine gate_store (p:=6) rfl ?_);refine ev_st 2 0 HS (seg:=[.int .i64 a0.f0]) ?_;clear HS;intro w7 HS F)|((with_reducible refine gate_store (p:=9) rfl ?_);refine ev_st 2 1 HS (seg:=[.string a0.f1]) ?_;clear HS;intro w9 HS F)|((with_reducible refine gate_store (p:=12) rfl ?_);refine ev_st 2 2 HS (seg:=[.string a0.f2]) ?_;clear HS;intro w11 HS F)|((with_reducible refine gate_store (p:=15) rfl ?_);refine ev_st 2 3 HS (seg:=[.int .i64 a0.f3]) ?_;clear HS;intro w13 HS F)|((with_reducible refine gate_store (p:=18) rfl ?_);refine ev_st 2 4 HS (seg:=[.int .i64 a0.f4]) ?_;clear HS;intro w15 HS F)|((with_reducible refine gate_store (p:=21) rfl ?_);refine ev_st 2 5 HS (seg:=[.string a0.f5]) ?_;clear HS;intro w17 HS F)|((with_reducible refine gate_store (p:=24) rfl ?_);refine ev_st 2 6 HS (seg:=[.bool a0.f6]) ?_;clear HS;intro w19 HS F)|((with_reducible refine gate_store (p:=27) rfl ?_);refine ev_st 2 7 HS (seg:=[.int .i64 a0.f7]) ?_;clear HS;intro w21 HS F)|((with_reducible refine gate_store (p:=30) rfl ?_);refine ev_st 2 8 HS (seg:=[.int .i64 a0.f8]) ?_;clear HS;intro w23 HS F)|((with_reducible refine gd 33 rfl ?_);refine ev_cl1 HS (laws_toIntS.calls ht25.out (HS.ro gp0) lp0) Tryz.func46 ?_;clear HS;intro v26 wt25 HS F;obtain⟨B26,d26,rfl,m26⟩:=HS.form 3 rfl)|((with_reducible refine gate_store (p:=34) rfl ?_);refine ev_st 2 9 HS (seg:=[.slice B26 t25.length d26]) ?_;clear HS;intro w28 HS F)|((with_reducible refine gd 37 rfl ?_);refine ev_cl1 HS (laws_toStringS.calls ht30.out (HS.ro gp1) lp1) Tryz.func47 ?_;clear HS;intro v31 wt30 HS F;obtain⟨B31,d31,rfl,m31⟩:=HS.form 4 rfl)|((with_reducible refine gate_store (p:=38) rfl ?_);refine ev_st 2 10 HS (seg:=[.slice B31 t30.length d31]) ?_;clear HS;intro w33 HS F)|((with_reducible refine gd 41 rfl ?_);refine ev_cl1 HS (laws_toStringS.calls ht35.out (HS.ro gp2) lp2) Tryz.func47 ?_;clear HS;intro v36 wt35 HS F;obtain⟨B36,d36,rfl,m36⟩:=HS.form 5 rfl)|((with_reducible refine gate_store (p:=42) rfl ?_);refine ev_st 2 11 HS (seg:=[.slice B36 t35.length d36]) ?_;clear HS;intro w38 HS F)|((with_reducible refine gate_store (p:=45) rfl ?_);refine ev_st 2 12 HS (seg:=[.string a0.f12]) ?_;clear HS;intro w40 HS F)|((with_reducible refine gate_store (p:=2) rfl ?_);refine ev_st 1 0 HS (seg:=[.int .i64 a0.f0,.string a0.f1,.string a0.f2,.int .i64 a0.f3,.int .i64 a0.f4,.string a0.f5,.bool a0.f6,.int .i64 a0.f7,.int .i64 a0.f8,.slice B26 t25.length d26,.slice B31 t30.length d31,.slice B36 t35.length d36,.string a0.f12]) ?_;clear HS;intro w42 HS F))
 exact rc 1 HS Tryz.underlying41 ⟨_,_,_,rfl,HS.pi [3,4,5]⟩
def slices_Index_string_string.l0:Nat→Int→(List ByteArray)→ByteArray→Option (Int)
  |0,_,_,_=>none
  |k+1,x4,a0,a1=>(if x4<(a0.length:Int)then(if 0≤x4 then(if x4<(a0.length:Int)then(if a1.toList=(rdOf ByteArray.empty a0 x4).toList then(some x4)else(slices_Index_string_string.l0 k (wrap64 (x4+1)) a0 a1))else none)else none)else(some (-1)))
def slices_Index_string_string.f (k:Nat)(a0:(List ByteArray))(a1:ByteArray):Option (Int):=(slices_Index_string_string.l0 k 0 a0 a1)
theorem slices_Index_string_string.calls {k:Nat}{a0:(List ByteArray)}{a1:ByteArray}{Ap0:Option Addr}{np0 cp0:Nat}{r:Int}{w:World}(h:slices_Index_string_string.f k a0 a1=some r)(gp0:Kd.string.C w Ap0 np0 a0)(lp0:np0≤cp0):
    Calls Tryz.prog 152 #[.slice Ap0 np0 cp0,.string a1] w (fun e w'=>e=.returned (.int .i64 r)∧Hp noFP w w' []):=by
 obtain rfl:=C_len gp0
 have HS:=Hp.start w
 have H:=Aside0.mk h
 clear h
 unfold slices_Index_string_string.f at H
 go_enter Tryz.func152,Tryz.ntmps152
 go_wp2
 go_loopg [8] k (fun kq v_8 w'=>∃(x4:Int),v_8=.int .i64 x4∧Aside0 (slices_Index_string_string.l0 kq x4 a0 a1=some r)∧Aside0 (kq≤k)∧Hp noFP w w' [])
 case atStart=>exact⟨_,rfl,H,⟨Nat.le_refl _⟩,HS⟩
 case round=>
  clear HS H;(try clear F)
  obtain⟨x4,rfl,H,HKk3,HS⟩:=hrel
  cases gk with
  |zero=>exact absurd H.out (by simp [slices_Index_string_string.l0])
  | succ k3=>
   simp only [slices_Index_string_string.l0] at H
   replace H:=znif H;rcases H with⟨c6,H⟩|⟨c6,H⟩
   ·
    obtain rfl:=zsome H
    go_wp2
    go_ret
    exact HS.pk
   replace H:=zgo H;obtain⟨c7,H⟩:=H
   replace H:=zgo H;obtain⟨c8,H⟩:=H
   obtain⟨ad9,rfl,e9_0⟩:=Kd.at_string gp0 x4 (of_eq_true c7) (of_eq_true c8)
   have e9_0_9:=HS.keepc e9_0
   replace H:=zif' H;rcases H with⟨c10,H⟩|⟨c10,H⟩
   ·
    obtain⟨c10a,c10b⟩:=bq c10;clear c10
    obtain rfl:=zsome H
    go_wp2
    go_ret
    exact HS.pk
   obtain⟨c10a,c10b⟩:=nq c10;clear c10
   go_wp2
   go_roundg k3
   case measure=>have:=HKk3.out;omega
   case rel=>exact⟨_,rfl,H,⟨by have:=HKk3.out;omega⟩,HS.pi []⟩
def slices_Contains_string_string.f (k:Nat)(a0:(List ByteArray))(a1:ByteArray):Option (Bool):=((slices_Index_string_string.f k a0 a1).bind fun t1=>(some (decide (0≤t1))))
theorem slices_Contains_string_string.calls {k:Nat}{a0:(List ByteArray)}{a1:ByteArray}{Ap0:Option Addr}{np0 cp0:Nat}{r:Bool}{w:World}(h:slices_Contains_string_string.f k a0 a1=some r)(gp0:Kd.string.C w Ap0 np0 a0)(lp0:np0≤cp0):
    Calls Tryz.prog 126 #[.slice Ap0 np0 cp0,.string a1] w (fun e w'=>e=.returned (.bool r)∧Hp noFP w w' []):=by
 obtain rfl:=C_len gp0
 have HS:=Hp.start w
 have H:=Aside0.mk h
 clear h
 unfold slices_Contains_string_string.f at H
 go_enter Tryz.func126,Tryz.ntmps126
 replace H:=zbind H;obtain⟨t1,ht1,H⟩:=H
 obtain rfl:=zsome H
 go_wp2_with ((with_reducible refine gd 7 rfl ?_);refine ev_cl HS (slices_Index_string_string.calls ht1.out (HS.ro gp0) lp0) Tryz.func152 ?_;clear HS;intro wt1 HS F)
 go_ret
 exact HS.pk
def impl_within.f (a0:Int)(a1:Int)(a2:Int):Option (Bool):=(if a1≤a0 then(some (decide (a0≤a2)))else(some false))
theorem impl_within.calls {a0:Int}{a1:Int}{a2:Int}{r:Bool}{w:World}(h:impl_within.f a0 a1 a2=some r):
    Calls Tryz.prog 105 #[.int .i64 a0,.int .i64 a1,.int .i64 a2] w (fun e w'=>e=.returned (.bool r)∧Hp noFP w w' []):=by
 have HS:=Hp.start w
 have H:=Aside0.mk h
 clear h
 unfold impl_within.f at H
 go_enter Tryz.func105,Tryz.ntmps105
 replace H:=zif H;rcases H with⟨c1,H⟩|⟨c1,H⟩
 ·
  obtain rfl:=zsome H
  go_wp2
  go_ret
  exact HS.pk
 obtain rfl:=zsome H
 go_wp2
 go_ret
 exact HS.pk
def impl_bytesIn.l0:Nat→Int→ByteArray→Int→Int→Option (Bool)
  |0,_,_,_,_=>none
  |k+1,x4,a0,a1,a2=>(if x4<(a0.size:Int)then(if 0≤x4 then(if x4<(a0.size:Int)then((impl_within.f (wrap64 (bt a0 x4)) a1 a2).bind fun t10=>(if t10=true then(impl_bytesIn.l0 k (wrap64 (x4+1)) a0 a1 a2)else(some false)))else none)else none)else(some true))
def impl_bytesIn.f (k:Nat)(a0:ByteArray)(a1:Int)(a2:Int):Option (Bool):=(impl_bytesIn.l0 k 0 a0 a1 a2)
theorem impl_bytesIn.calls {k:Nat}{a0:ByteArray}{a1:Int}{a2:Int}{r:Bool}{w:World}(h:impl_bytesIn.f k a0 a1 a2=some r):
    Calls Tryz.prog 125 #[.string a0,.int .i64 a1,.int .i64 a2] w (fun e w'=>e=.returned (.bool r)∧Hp noFP w w' []):=by
 have HS:=Hp.start w
 have H:=Aside0.mk h
 clear h
 unfold impl_bytesIn.f at H
 go_enter Tryz.func125,Tryz.ntmps125
 go_wp2
 go_loopg [7] k (fun kq v_7 w'=>∃(x4:Int),v_7=.int .i64 x4∧Aside0 (impl_bytesIn.l0 kq x4 a0 a1 a2=some r)∧Aside0 (kq≤k)∧Hp noFP w w' [])
 case atStart=>exact⟨_,rfl,H,⟨Nat.le_refl _⟩,HS⟩
 case round=>
  clear HS H;(try clear F)
  obtain⟨x4,rfl,H,HKk3,HS⟩:=hrel
  cases gk with
  |zero=>exact absurd H.out (by simp [impl_bytesIn.l0])
  | succ k3=>
   simp only [impl_bytesIn.l0] at H
   replace H:=znif H;rcases H with⟨c6,H⟩|⟨c6,H⟩
   ·
    obtain rfl:=zsome H
    go_wp2
    go_ret
    exact HS.pk
   replace H:=zgo H;obtain⟨c7,H⟩:=H
   replace H:=zgo H;obtain⟨c8,H⟩:=H
   have hx9:=bt_at a0 x4
   replace H:=zbind H;obtain⟨t10,ht10,H⟩:=H
   go_upto_if 21 with((with_reducible refine gd 20 rfl ?_);refine ev_cl HS (impl_within.calls ht10.out) Tryz.func105 ?_;clear HS;intro wt10 HS F)
   replace H:=znifb H;rcases H with⟨c12,H⟩|⟨c12,H⟩
   ·
    subst c12
    (try simp only [dcn,dcu,dcf])
    obtain rfl:=zsome H
    go_wp2
    go_ret
    exact HS.pk
   subst c12
   (try simp only [dcn,dcu,dcf])
   go_wp2
   go_roundg k3
   case measure=>have:=HKk3.out;omega
   case rel=>exact⟨_,rfl,H,⟨by have:=HKk3.out;omega⟩,HS.pi []⟩
mutual
def impl_itemOk.l0:Nat→Int→S153→Int→Option (Bool)
  |0,_,_,_=>none
  |k+1,x10,a0,a1=>(if x10<(a0.f2.length:Int)then(if 0≤x10 then(if x10<(a0.f2.length:Int)then((impl_itemOk.f k (rd_T153 a0.f2 x10) (wrap64 (a1+1))).bind fun t20=>(if t20=true then(impl_itemOk.l0 k (wrap64 (x10+1)) a0 a1)else(some false)))else none)else none)else(some true))
def impl_itemOk.f:Nat→S153→Int→Option (Bool)
  |0,_,_=>none
  |k+1,a0,a1=>(if a0.f0=48 then(if a0.f1.toList=([]:List UInt8)then(if 40<(a0.f2.length:Int)then(some false)else(if 6≤a1 then(some false)else(impl_itemOk.l0 k 0 a0 a1)))else(some false))else(if 0<(a0.f2.length:Int)then(some false)else(if a0.f0=1 then(if a0.f1.toList=([0]:List UInt8)then(some true)else(some (a0.f1.toList==([255]:List UInt8))))else(if a0.f0=2 then((impl_within.f (a0.f1.size:Int) 1 5).bind fun t27=>(if t27=true then(if 0<(a0.f1.size:Int)then(if(bt a0.f1 0)<128 then(if(bt a0.f1 0)=0 then(if(a0.f1.size:Int)=1 then(some true)else(if 1<(a0.f1.size:Int)then(some (decide (128≤(bt a0.f1 1))))else none))else(some true))else(some false))else none)else(some false)))else(if a0.f0=4 then(some true)else(if a0.f0=12 then((impl_bytesIn.f k a0.f1 32 126).bind fun t43=>(some t43))else(some false)))))))
end
theorem impl_itemOk.calls_ (K:Nat):∀ {k:Nat} (hK:k≤K) {a0:S153} {a1:Int} {Ap0:Option Addr} {np0 cp0:Nat} {r:Bool} {w:World} (h:impl_itemOk.f k a0 a1=some r) (gp0:k153.C w Ap0 np0 a0.f2) (lp0:np0≤cp0),
    Calls Tryz.prog 183 #[.agg #[.int .i64 a0.f0,.string a0.f1,.slice Ap0 np0 cp0],.int .i64 a1] w (fun e w'=>e=.returned (.bool r)∧Hp noFP w w' []):=by
  induction K with
  | zero=>
    intro k hK a0 a1 Ap0 np0 cp0 r w h gp0 lp0
    obtain rfl:k=0:=by omega
    exact absurd h (by simp [impl_itemOk.f])
  | succ K IH=>
    intro k hK a0 a1 Ap0 np0 cp0 r w h gp0 lp0
    cases k with
    |zero=>exact absurd h (by simp [impl_itemOk.f])
    |succ k=>
    have HK0:Aside0 (k≤K):=⟨by omega⟩
    clear hK
    obtain rfl:=C_len gp0
    have HS:=Hp.start w
    have H:=Aside0.mk h
    clear h
    simp only [impl_itemOk.f] at H
    go_enter Tryz.func183,Tryz.ntmps183
    go_upto_if 10 with((with_reducible refine gd 2 rfl ?_);refine ev_bx HS ?_;clear HS;intro g2 w2 HS F)
    replace H:=zif' H;rcases H with⟨c3,H⟩|⟨c3,H⟩
    ·
     obtain⟨c3a,c3b⟩:=bq c3;clear c3
     (try simp only [c3a,c3b,dcn])
     replace H:=znif' H;rcases H with⟨c4,H⟩|⟨c4,H⟩
     ·
      have c4a:=beq_eq_false_iff_ne.mpr c4
      have c4b:=bne_iff_ne.mpr c4
      have c4e:=List.isEmpty_eq_false_iff.mpr c4
      clear c4
      obtain rfl:=zsome H
      go_wp2
      go_ret
      exact HS.pk
     have c4a:=beq_iff_eq.mpr c4
     have c4b:=bne_eq_false_iff_eq.mpr c4
     have c4e:=List.isEmpty_iff.mpr c4
     clear c4
     replace H:=zif H;rcases H with⟨c5,H⟩|⟨c5,H⟩
     ·
      obtain rfl:=zsome H
      go_wp2
      go_ret
      exact HS.pk
     replace H:=zif H;rcases H with⟨c6,H⟩|⟨c6,H⟩
     ·
      obtain rfl:=zsome H
      go_wp2
      go_ret
      exact HS.pk
     go_wp2
     go_loopg [27] k (fun kq v_27 w'=>∃(x10:Int),v_27=.int .i64 x10∧Aside0 (impl_itemOk.l0 kq x10 a0 a1=some r)∧Aside0 (kq≤k)∧Hp noFP w w' [.box g2 [.int .i64 a0.f0,.string a0.f1,.slice Ap0 a0.f2.length cp0] 153])
     case atStart=>exact⟨_,rfl,H,⟨Nat.le_refl _⟩,HS⟩
     case round=>
      clear HS H;(try clear F)
      obtain⟨x10,rfl,H,HKk9,HS⟩:=hrel
      have F:=HS.bx
      cases gk with
      |zero=>exact absurd H.out (by simp [impl_itemOk.l0])
      | succ k9=>
       simp only [impl_itemOk.l0] at H
       replace H:=znif H;rcases H with⟨c12,H⟩|⟨c12,H⟩
       ·
        obtain rfl:=zsome H
        go_wp2
        go_ret
        exact HS.pk
       replace H:=zgo H;obtain⟨c13,H⟩:=H
       replace H:=zgo H;obtain⟨c14,H⟩:=H
       obtain⟨ad15,B15_2,d15_2,rfl,e15_0,e15_1,e15_2,m15_2,y15_2⟩:=at_T153 gp0 x10 (of_eq_true c13) (of_eq_true c14)
       have e15_0_15:=HS.keepc e15_0
       have e15_1_15:=HS.keepc e15_1
       have e15_2_15:=HS.keepc e15_2
       replace H:=zbind H;obtain⟨t20,ht20,H⟩:=H
       go_upto_if 35 with(first|((with_reducible refine gd 6 rfl ?_);refine ev_bx HS ?_;clear HS;intro g6 w6 HS F)|((with_reducible refine gate_store (p:=6) rfl ?_);refine ev_st 1 0 HS (seg:=[.int .i64 ((rd_T153 a0.f2 x10).f0),.string ((rd_T153 a0.f2 x10).f1),.slice B15_2 (rd_T153 a0.f2 x10).f2.length d15_2]) ?_;clear HS;intro w18 HS F)|((with_reducible refine gd 34 rfl ?_);refine ev_cl HS (IH (by have:=HK0.out;have:=HKk9.out;omega) ht20.out (HS.ro y15_2) m15_2) Tryz.func183 ?_;clear HS;intro wt20 HS F))
       replace H:=znifb H;rcases H with⟨c22,H⟩|⟨c22,H⟩
       ·
        subst c22
        (try simp only [dcn,dcu,dcf])
        obtain rfl:=zsome H
        go_wp2
        go_ret
        exact HS.pk
       subst c22
       (try simp only [dcn,dcu,dcf])
       go_wp2
       go_roundg k9
       case measure=>have:=HK0.out;have:=HKk9.out;omega
       case rel=>exact⟨_,rfl,H,⟨by have:=HK0.out;have:=HKk9.out;omega⟩,HS.pi [0]⟩
    obtain⟨c3a,c3b⟩:=nq c3;clear c3
    (try simp only [c3a,c3b,dcn])
    replace H:=zif H;rcases H with⟨c23,H⟩|⟨c23,H⟩
    ·
     have c23n:=(propext (Int.natCast_pos (n:=a0.f2.length))).symm.trans c23
     obtain rfl:=zsome H
     go_wp2
     go_ret
     exact HS.pk
    have c23n:=(propext (Int.natCast_pos (n:=a0.f2.length))).symm.trans c23
    replace H:=zif' H;rcases H with⟨c24,H⟩|⟨c24,H⟩
    ·
     obtain⟨c24a,c24b⟩:=bq c24;clear c24
     replace H:=znif' H;rcases H with⟨c25,H⟩|⟨c25,H⟩
     ·
      obtain⟨c25a,c25b⟩:=nq c25;clear c25
      obtain rfl:=zsome H
      go_wp2
      go_ret
      exact HS.pk
     obtain⟨c25a,c25b⟩:=bq c25;clear c25
     obtain rfl:=zsome H
     go_wp2
     go_ret
     exact HS.pk
    obtain⟨c24a,c24b⟩:=nq c24;clear c24
    replace H:=znif' H;rcases H with⟨c26,H⟩|⟨c26,H⟩
    ·
     obtain⟨c26a,c26b⟩:=nq c26;clear c26
     replace H:=zif' H;rcases H with⟨c41,H⟩|⟨c41,H⟩
     ·
      obtain⟨c41a,c41b⟩:=bq c41;clear c41
      obtain rfl:=zsome H
      go_wp2
      go_ret
      exact HS.pk
     obtain⟨c41a,c41b⟩:=nq c41;clear c41
     replace H:=znif' H;rcases H with⟨c42,H⟩|⟨c42,H⟩
     ·
      obtain⟨c42a,c42b⟩:=nq c42;clear c42
      obtain rfl:=zsome H
      go_wp2
      go_ret
      exact HS.pk
     obtain⟨c42a,c42b⟩:=bq c42;clear c42
     replace H:=zbind H;obtain⟨t43,ht43,H⟩:=H
     obtain rfl:=zsome H
     go_wp2_with ((with_reducible refine gd 88 rfl ?_);refine ev_cl HS (impl_bytesIn.calls ht43.out) Tryz.func125 ?_;clear HS;intro wt43 HS F)
     go_ret
     exact HS.pk
    obtain⟨c26a,c26b⟩:=bq c26;clear c26
    replace H:=zbind H;obtain⟨t27,ht27,H⟩:=H
    replace H:=znifb H;rcases H with⟨c29,H⟩|⟨c29,H⟩
    ·
     subst c29
     obtain rfl:=zsome H
     go_wp2_with ((with_reducible refine gd 59 rfl ?_);refine ev_cl HS (impl_within.calls ht27.out) Tryz.func105 ?_;clear HS;intro wt27 HS F)
     go_ret
     exact HS.pk
    subst c29
    replace H:=zgo H;obtain⟨c30,H⟩:=H
    have c30n:(0<a0.f1.size)=True:=eq_true (by have:=of_eq_true c30;omega)
    replace H:=znif H;rcases H with⟨c33,H⟩|⟨c33,H⟩
    ·
     obtain rfl:=zsome H
     go_wp2_with ((with_reducible refine gd 59 rfl ?_);refine ev_cl HS (impl_within.calls ht27.out) Tryz.func105 ?_;clear HS;intro wt27 HS F;have hx31:∀h:0<a0.f1.size,((a0.f1[0]'h).toNat:Int)=bt a0.f1 0:=bt_at a0.f1 0;have hz32:0<a0.f1.size:=(by have:=of_eq_true c30;omega))
     go_ret
     exact HS.pk
    replace H:=znif' H;rcases H with⟨c36,H⟩|⟨c36,H⟩
    ·
     obtain⟨c36a,c36b⟩:=nq c36;clear c36
     obtain rfl:=zsome H
     go_wp2_with ((with_reducible refine gd 59 rfl ?_);refine ev_cl HS (impl_within.calls ht27.out) Tryz.func105 ?_;clear HS;intro wt27 HS F;have hx31:∀h:0<a0.f1.size,((a0.f1[0]'h).toNat:Int)=bt a0.f1 0:=bt_at a0.f1 0;have hz32:0<a0.f1.size:=(by have:=of_eq_true c30;omega);have hx34:∀h:0<a0.f1.size,((a0.f1[0]'h).toNat:Int)=bt a0.f1 0:=bt_at a0.f1 0;have hz35:0<a0.f1.size:=(by have:=of_eq_true c30;omega))
     go_ret
     exact HS.pk
    obtain⟨c36a,c36b⟩:=bq c36;clear c36
    replace H:=zif' H;rcases H with⟨c37,H⟩|⟨c37,H⟩
    ·
     obtain⟨c37a,c37b⟩:=bq c37;clear c37
     obtain rfl:=zsome H
     go_wp2_with ((with_reducible refine gd 59 rfl ?_);refine ev_cl HS (impl_within.calls ht27.out) Tryz.func105 ?_;clear HS;intro wt27 HS F;have hx31:∀h:0<a0.f1.size,((a0.f1[0]'h).toNat:Int)=bt a0.f1 0:=bt_at a0.f1 0;have hz32:0<a0.f1.size:=(by have:=of_eq_true c30;omega);have hx34:∀h:0<a0.f1.size,((a0.f1[0]'h).toNat:Int)=bt a0.f1 0:=bt_at a0.f1 0;have hz35:0<a0.f1.size:=(by have:=of_eq_true c30;omega))
     go_ret
     exact HS.pk
    obtain⟨c37a,c37b⟩:=nq c37;clear c37
    replace H:=zgo H;obtain⟨c38,H⟩:=H
    have c38n:(1<a0.f1.size)=True:=eq_true (by have:=of_eq_true c38;omega)
    obtain rfl:=zsome H
    go_wp2_with ((with_reducible refine gd 59 rfl ?_);refine ev_cl HS (impl_within.calls ht27.out) Tryz.func105 ?_;clear HS;intro wt27 HS F;have hx31:∀h:0<a0.f1.size,((a0.f1[0]'h).toNat:Int)=bt a0.f1 0:=bt_at a0.f1 0;have hz32:0<a0.f1.size:=(by have:=of_eq_true c30;omega);have hx34:∀h:0<a0.f1.size,((a0.f1[0]'h).toNat:Int)=bt a0.f1 0:=bt_at a0.f1 0;have hz35:0<a0.f1.size:=(by have:=of_eq_true c30;omega);have hx39:∀h:1<a0.f1.size,((a0.f1[1]'h).toNat:Int)=bt a0.f1 1:=bt_at a0.f1 1;have hz40:1<a0.f1.size:=(by have:=of_eq_true c38;omega))
    go_ret
    exact HS.pk
theorem impl_itemOk.calls {k:Nat}{a0:S153}{a1:Int}{Ap0:Option Addr}{np0 cp0:Nat}{r:Bool}{w:World}(h:impl_itemOk.f k a0 a1=some r)(gp0:k153.C w Ap0 np0 a0.f2)(lp0:np0≤cp0):
    Calls Tryz.prog 183 #[.agg #[.int .i64 a0.f0,.string a0.f1,.slice Ap0 np0 cp0],.int .i64 a1] w (fun e w'=>e=.returned (.bool r)∧Hp noFP w w' []):=impl_itemOk.calls_ k (Nat.le_refl k) h gp0 lp0
def impl_ItemOk.f (k:Nat)(a0:S153):Option (Bool):=((impl_itemOk.f k a0 0).bind fun t3=>(some t3))
theorem impl_ItemOk.calls {k:Nat}{a0:S153}{Ap0:Option Addr}{np0 cp0:Nat}{r:Bool}{w:World}(h:impl_ItemOk.f k a0=some r)(gp0:k153.C w Ap0 np0 a0.f2)(lp0:np0≤cp0):
    Calls Tryz.prog 153 #[.agg #[.int .i64 a0.f0,.string a0.f1,.slice Ap0 np0 cp0]] w (fun e w'=>e=.returned (.bool r)∧Hp noFP w w' []):=by
 obtain rfl:=C_len gp0
 have HS:=Hp.start w
 have H:=Aside0.mk h
 clear h
 unfold impl_ItemOk.f at H
 go_enter Tryz.func153,Tryz.ntmps153
 replace H:=zbind H;obtain⟨t3,ht3,H⟩:=H
 obtain rfl:=zsome H
 go_wp2_with (first|((with_reducible refine gd 1 rfl ?_);refine ev_bx HS ?_;clear HS;intro g1 w1 HS F)|((with_reducible refine gd 4 rfl ?_);refine ev_cl HS (impl_itemOk.calls ht3.out (HS.ro gp0) lp0) Tryz.func183 ?_;clear HS;intro wt3 HS F))
 go_ret
 exact HS.pk
def impl_lengthText.l0:Nat→(List Int)→Int→Option (ByteArray)
  |0,_,_=>none
  |k+1,l14,x16=>(if 0<x16 then(if 1+l14.length≤140737488355328 then(lets (([(x16 % 256)]:List Int)++l14) fun y22=>(impl_lengthText.l0 k y22 (x16 / 256)))else none)else(if 1+l14.length≤140737488355328 then(lets (([((wrap64 (128+(l14.length:Int))) % 256)]:List Int)++l14) fun y27=>(some (strOfNums y27)))else none))
def impl_lengthText.f (k:Nat)(a0:Int):Option (ByteArray):=(if a0<128 then(some (strOfNums ([(a0 % 256)]:List Int)))else(impl_lengthText.l0 k [] a0))
theorem impl_lengthText.calls {k:Nat}{a0:Int}{r:ByteArray}{w:World}(h:impl_lengthText.f k a0=some r):
    Calls Tryz.prog 184 #[.int .i64 a0] w (fun e w'=>e=.returned (.string r)∧Hp noFP w w' []):=by
 have HS:=Hp.start w
 have H:=Aside0.mk h
 clear h
 unfold impl_lengthText.f at H
 go_enter Tryz.func184,Tryz.ntmps184
 replace H:=zif H;rcases H with⟨c1,H⟩|⟨c1,H⟩
 ·
  obtain rfl:=zsome H
  go_wp2_with (first|((with_reducible refine gd 9 rfl ?_);refine ev_li (Zd.int .u8) [] ([(a0 % 256)]:List Int) ([.int .u8 (a0 % 256)]++ []) HS (MadeL.cons (js1:=[]) (c:=[.int .u8 (a0 % 256)]) rfl (made_flat (fun _=>rfl)) MadeL.nil (by decide)) ?_;clear HS;intro v2 w2 HS F;obtain⟨B2,d2,rfl,m2⟩:=HS.formn 1 0 rfl rfl)|((with_reducible refine gd 10 rfl ?_);refine ev_val rfl (run_str rfl rfl Tryz.underlying50 Tryz.underlying5 Tryz.underlying9 (HS.rd 0 rfl)) ?_))
  go_ret
  exact HS.pk
 go_wp2
 replace HS:=HS.nil 5 (Zd.int .u8)
 go_loopg [3,4] k (fun kq v_3 v_4 w'=>∃(l14:List Int) (v15:Value) (x16:Int),v_3=v15∧v_4=.int .i64 x16∧Aside0 (impl_lengthText.l0 kq l14 x16=some r)∧Aside0 (kq≤k)∧Hp noFP w w' [.own (Zd.slice 5 (Zd.int .u8)) l14 [v15]])
 case atStart=>exact⟨_,_,_,rfl,rfl,H,⟨Nat.le_refl _⟩,HS⟩
 case round=>
  clear HS H;(try clear F)
  obtain⟨l14,v15,x16,rfl,rfl,H,HKk13,HS⟩:=hrel
  obtain⟨B15,d15,rfl,m15⟩:=HS.form 0 rfl
  cases gk with
  |zero=>exact absurd H.out (by simp [impl_lengthText.l0])
  | succ k13=>
   simp only [impl_lengthText.l0] at H
   replace H:=zif H;rcases H with⟨c18,H⟩|⟨c18,H⟩
   ·
    replace H:=zgo H;obtain⟨c21,H⟩:=H
    replace H:=zlets H;obtain⟨y22,e_y22,H⟩:=H
    go_wp2_with (first|((with_reducible refine gd 18 rfl ?_);refine ev_li (Zd.int .u8) [] ([(x16 % 256)]:List Int) ([.int .u8 (x16 % 256)]++ []) HS (MadeL.cons (js1:=[]) (c:=[.int .u8 (x16 % 256)]) rfl (made_flat (fun _=>rfl)) MadeL.nil (by decide)) ?_;clear HS;intro v19 w19 HS F;obtain⟨B19,d19,rfl,m19⟩:=HS.formn 1 1 rfl rfl)|((with_reducible refine gd 20 rfl ?_);refine ev_apr (flat_int _) 1 HS rfl (HS.rd 0 rfl) Tryz.underlying50 info5 (of_eq_true c21) ?_;clear HS;intro v22 w22 HS;rw [←e_y22.out] at HS;obtain⟨B22,d22,rfl,m22⟩:=HS.form 2 rfl;(try simp only [hpn,hpm] at HS)))
    go_roundg k13
    case measure=>have:=HKk13.out;omega
    case rel=>exact⟨_,_,_,rfl,rfl,H,⟨by have:=HKk13.out;omega⟩,HS.pi [2]⟩
   replace H:=zgo H;obtain⟨c26,H⟩:=H
   replace H:=zlets H;obtain⟨y27,e_y27,H⟩:=H
   obtain rfl:=zsome H
   go_wp2_with (first|((with_reducible refine gd 25 rfl ?_);refine ev_li (Zd.int .u8) [] ([((wrap64 (128+(l14.length:Int))) % 256)]:List Int) ([.int .u8 ((wrap64 (128+(l14.length:Int))) % 256)]++ []) HS (MadeL.cons (js1:=[]) (c:=[.int .u8 ((wrap64 (128+(l14.length:Int))) % 256)]) rfl (made_flat (fun _=>rfl)) MadeL.nil (by decide)) ?_;clear HS;intro v24 w24 HS F;obtain⟨B24,d24,rfl,m24⟩:=HS.formn 1 1 rfl rfl)|((with_reducible refine gd 27 rfl ?_);refine ev_apr (flat_int _) 1 HS rfl (HS.rd 0 rfl) Tryz.underlying50 info5 (of_eq_true c26) ?_;clear HS;intro v27 w27 HS;rw [←e_y27.out] at HS;obtain⟨B27,d27,rfl,m27⟩:=HS.form 2 rfl;(try simp only [hpn,hpm] at HS))|((with_reducible refine gd 28 rfl ?_);refine ev_val rfl (run_str rfl rfl Tryz.underlying50 Tryz.underlying5 Tryz.underlying9 (HS.rd 2 rfl)) ?_))
   go_ret
   exact HS.pk
mutual
def impl_itemText.l0:Nat→(List Int)→Int→S153→Option (ByteArray)
  |0,_,_,_=>none
  |k+1,l19,x21,a0=>(if x21<(a0.f2.length:Int)then(if 0≤x21 then(if x21<(a0.f2.length:Int)then((impl_itemText.f k (rd_T153 a0.f2 x21)).bind fun t31=>(if l19.length+t31.size≤140737488355328 then(lets (l19++bytesOf t31) fun y34=>(impl_itemText.l0 k y34 (wrap64 (x21+1)) a0))else none))else none)else none)else((impl_lengthText.f k ((strOfNums l19).size:Int)).bind fun t11=>(if(strOfNums ([(a0.f0 % 256)]:List Int)).size+t11.size≤9223372036854775807 then(if((strOfNums ([(a0.f0 % 256)]:List Int))++t11).size+(strOfNums l19).size≤9223372036854775807 then(some (((strOfNums ([(a0.f0 % 256)]:List Int))++t11)++(strOfNums l19)))else none)else none)))
def impl_itemText.f:Nat→S153→Option (ByteArray)
  |0,_=>none
  |k+1,a0=>(if a0.f0=48 then(impl_itemText.l0 k [] 0 a0)else((impl_lengthText.f k (a0.f1.size:Int)).bind fun t17=>(if(strOfNums ([(a0.f0 % 256)]:List Int)).size+t17.size≤9223372036854775807 then(if((strOfNums ([(a0.f0 % 256)]:List Int))++t17).size+a0.f1.size≤9223372036854775807 then(some (((strOfNums ([(a0.f0 % 256)]:List Int))++t17)++a0.f1))else none)else none)))
end
def impl_itemText.T10:TT:=(true,[([],[]),([0],[0]),([1],[1]),([2],[2]),([3],[3]),([],[]),([5],[5]),([6],[6]),([4,7],[4,7]),([],[]),([8,9],[8,9]),([10,7,0,1,2,3,4,5,6,7,8,9,10],[10])])
theorem impl_itemText.tT10:rtab .any (opsOf Tryz.f154 10)=impl_itemText.T10:=by kernel_rfl
theorem impl_itemText.calls_ (K:Nat):∀ {k:Nat} (hK:k≤K) {a0:S153} {Ap0:Option Addr} {np0 cp0:Nat} {r:ByteArray} {w:World} (h:impl_itemText.f k a0=some r) (gp0:k153.C w Ap0 np0 a0.f2) (lp0:np0≤cp0),
    Calls Tryz.prog 154 #[.agg #[.int .i64 a0.f0,.string a0.f1,.slice Ap0 np0 cp0]] w (fun e w'=>e=.returned (.string r)∧Hp noFP w w' []):=by
  induction K with
  | zero=>
    intro k hK a0 Ap0 np0 cp0 r w h gp0 lp0
    obtain rfl:k=0:=by omega
    exact absurd h (by simp [impl_itemText.f])
  | succ K IH=>
    intro k hK a0 Ap0 np0 cp0 r w h gp0 lp0
    cases k with
    |zero=>exact absurd h (by simp [impl_itemText.f])
    |succ k=>
    have HK0:Aside0 (k≤K):=⟨by omega⟩
    clear hK
    obtain rfl:=C_len gp0
    have HS:=Hp.start w
    have H:=Aside0.mk h
    clear h
    simp only [impl_itemText.f] at H
    go_enter Tryz.func154,Tryz.ntmps154
    go_upto_if 11 with((with_reducible refine gd 1 rfl ?_);refine ev_bx HS ?_;clear HS;intro g1 w1 HS F)
    replace H:=znif' H;rcases H with⟨c3,H⟩|⟨c3,H⟩
    ·
     obtain⟨c3a,c3b⟩:=nq c3;clear c3
     (try simp only [c3a,c3b,dcn])
     (try go_wp2)
     replace H:=zbind H;obtain⟨t17,ht17,H⟩:=H
     replace H:=zgo H;obtain⟨c22,H⟩:=H
     replace H:=zgo H;obtain⟨c27,H⟩:=H
     refine dr_start [] HS #[false,false,false,false,false,false,false,false,false,false,false,false] (by kernel_rfl) rfl rfl impl_itemText.tT10 (fun w40 HT HS HH=>?_)
     (try clear F)
     refine join_ 0 #[true,true,true,true,true,true,true,true,true,true,true,true] (fun(v16:Value)=>([(26,.pointer (some ⟨g1,0,none⟩)),(27,.int .i64 a0.f0),(28,.int .u8 (a0.f0 % 256)),(29,v16),(30,.string (strOfNums ([(a0.f0 % 256)]:List Int))),(31,.string a0.f1),(32,.int .i64 (a0.f1.size:Int)),(33,.string t17),(34,.string ((strOfNums ([(a0.f0 % 256)]:List Int))++t17)),(35,.string a0.f1),(36,.string (((strOfNums ([(a0.f0 % 256)]:List Int))++t17)++a0.f1)),(2,.string (((strOfNums ([(a0.f0 % 256)]:List Int))++t17)++a0.f1))]:List (Tmp×Value))) (fun(v16:Value) w'=>Hp noFP w w' [.box g1 [.int .i64 a0.f0,.string a0.f1,.slice Ap0 a0.f2.length cp0] 153,.own (Zd.slice 5 (Zd.int .u8)) ([(a0.f0 % 256)]:List Int) [v16]]) ?_ ?_
     rotate_left
     · intro hJ
       refine dqt [0,1,2,5,6,9] HT HH ?_
       refine dr_any [3,7] HT (by kernel_rfl) (by decide) (AllReadyL.cons rfl (by decide) (fun K hK=>?_) (AllReadyL.cons rfl (by decide) (fun K hK=>?_) AllReadyL.nil))
       · refine if_li (Zd.int .u8) [] ([(a0.f0 % 256)]:List Int) ([.int .u8 (a0.f0 % 256)]++ []) HS (MadeL.cons (js1:=[]) (c:=[.int .u8 (a0.f0 % 256)]) rfl (made_flat (fun _=>rfl)) MadeL.nil (by decide)) ?_;clear HS;intro v16 w16 HS F;obtain⟨B16,d16,rfl,m16⟩:=HS.formn 1 1 rfl rfl
         refine nrm 29 hK ⟨_,HS⟩ fun HH=>?_;clear hK K
         refine dr_any [4,7] HT (by kernel_rfl) (by decide) (AllReadyL.cons rfl (by decide) (fun K hK=>?_) (AllReadyL.cons rfl (by decide) (fun K hK=>?_) AllReadyL.nil))
         · refine if_wp (by rfl) ?_;refine wp_run (run_str rfl rfl Tryz.underlying50 Tryz.underlying5 Tryz.underlying9 (HS.rd 1 rfl)) ?_
           (try simp only [hpn,hpm] at HS)
           have F:=HS.bx
           refine nrm 30 hK ⟨_,HS⟩ fun HH=>?_;clear hK K
           refine dr1 7 HT fun K hK=>?_
           refine go_cl HS (impl_lengthText.calls ht17.out) Tryz.func184 ?_;clear HS;intro wt17 HS F
           refine nrm 33 hK ⟨_,HS⟩ fun HH=>?_;clear hK K
           refine dr_pure 8 (some 34) HT (v:=.string ((strOfNums ([(a0.f0 % 256)]:List Int))++t17)) (a':=?_) rfl rfl (by kernel_rfl) (fun _ _ _ h=>h) (.inl ⟨by rfl,fun w'=>(run_cat rfl rfl rfl (of_eq_true c22))⟩) ?_ ?_
           rotate_left
           · simp only [Act.put,ptn];rfl
           refine dr_pure 10 (some 36) HT (v:=.string (((strOfNums ([(a0.f0 % 256)]:List Int))++t17)++a0.f1)) (a':=?_) rfl rfl (by kernel_rfl) (fun _ _ _ h=>h) (.inl ⟨by rfl,fun w'=>(run_cat rfl rfl rfl (of_eq_true c27))⟩) ?_ ?_
           rotate_left
           · simp only [Act.put,ptn];rfl
           refine dq [11] HT ?_
           refine norm_ ?_ (hJ (.slice B16 1 d16) _ (HS.ar [some 0,some 1]))
           simp only [putAll,Act.put,ptn]
           (try rfl)
         · refine go_cl HS (impl_lengthText.calls ht17.out) Tryz.func184 ?_;clear HS;intro wt17 HS F
           refine nrm 33 hK ⟨_,HS⟩ fun HH=>?_;clear hK K
           refine dr1 4 HT fun K hK=>?_
           refine if_wp (by rfl) ?_;refine wp_run (run_str rfl rfl Tryz.underlying50 Tryz.underlying5 Tryz.underlying9 (HS.rd 1 rfl)) ?_
           (try simp only [hpn,hpm] at HS)
           have F:=HS.bx
           refine nrm 30 hK ⟨_,HS⟩ fun HH=>?_;clear hK K
           refine dr_pure 8 (some 34) HT (v:=.string ((strOfNums ([(a0.f0 % 256)]:List Int))++t17)) (a':=?_) rfl rfl (by kernel_rfl) (fun _ _ _ h=>h) (.inl ⟨by rfl,fun w'=>(run_cat rfl rfl rfl (of_eq_true c22))⟩) ?_ ?_
           rotate_left
           · simp only [Act.put,ptn];rfl
           refine dr_pure 10 (some 36) HT (v:=.string (((strOfNums ([(a0.f0 % 256)]:List Int))++t17)++a0.f1)) (a':=?_) rfl rfl (by kernel_rfl) (fun _ _ _ h=>h) (.inl ⟨by rfl,fun w'=>(run_cat rfl rfl rfl (of_eq_true c27))⟩) ?_ ?_
           rotate_left
           · simp only [Act.put,ptn];rfl
           refine dq [11] HT ?_
           refine norm_ ?_ (hJ (.slice B16 1 d16) _ (HS.ar [some 0,some 1]))
           simp only [putAll,Act.put,ptn]
           (try rfl)
       · refine go_cl HS (impl_lengthText.calls ht17.out) Tryz.func184 ?_;clear HS;intro wt17 HS F
         refine nrm 33 hK ⟨_,HS⟩ fun HH=>?_;clear hK K
         refine dr1 3 HT fun K hK=>?_
         refine if_li (Zd.int .u8) [] ([(a0.f0 % 256)]:List Int) ([.int .u8 (a0.f0 % 256)]++ []) HS (MadeL.cons (js1:=[]) (c:=[.int .u8 (a0.f0 % 256)]) rfl (made_flat (fun _=>rfl)) MadeL.nil (by decide)) ?_;clear HS;intro v16 w16 HS F;obtain⟨B16,d16,rfl,m16⟩:=HS.formn 1 1 rfl rfl
         refine nrm 29 hK ⟨_,HS⟩ fun HH=>?_;clear hK K
         refine dr1 4 HT fun K hK=>?_
         refine if_wp (by rfl) ?_;refine wp_run (run_str rfl rfl Tryz.underlying50 Tryz.underlying5 Tryz.underlying9 (HS.rd 1 rfl)) ?_
         (try simp only [hpn,hpm] at HS)
         have F:=HS.bx
         refine nrm 30 hK ⟨_,HS⟩ fun HH=>?_;clear hK K
         refine dr_pure 8 (some 34) HT (v:=.string ((strOfNums ([(a0.f0 % 256)]:List Int))++t17)) (a':=?_) rfl rfl (by kernel_rfl) (fun _ _ _ h=>h) (.inl ⟨by rfl,fun w'=>(run_cat rfl rfl rfl (of_eq_true c22))⟩) ?_ ?_
         rotate_left
         · simp only [Act.put,ptn];rfl
         refine dr_pure 10 (some 36) HT (v:=.string (((strOfNums ([(a0.f0 % 256)]:List Int))++t17)++a0.f1)) (a':=?_) rfl rfl (by kernel_rfl) (fun _ _ _ h=>h) (.inl ⟨by rfl,fun w'=>(run_cat rfl rfl rfl (of_eq_true c27))⟩) ?_ ?_
         rotate_left
         · simp only [Act.put,ptn];rfl
         refine dq [11] HT ?_
         refine norm_ ?_ (hJ (.slice B16 1 d16) _ (HS.ar [some 0,some 1]))
         simp only [putAll,Act.put,ptn]
         (try rfl)
     rintro v16 w28 HS
     obtain⟨B16,d16,rfl,m16⟩:=HS.formn 1 1 rfl (by first|rfl|simp)
     have F:=HS.bx
     refine norm_ (a':=?_) ?_ ?_
     rotate_left
     · simp only [putAll,Act.put,ptn];rfl
     refine dn HT ?_
     obtain rfl:=zsome H
     go_wp2
     go_ret
     exact HS.pk
    obtain⟨c3a,c3b⟩:=bq c3;clear c3
    (try simp only [c3a,c3b,dcn])
    go_wp2
    replace HS:=HS.nil 5 (Zd.int .u8)
    go_loopg [4,15] k (fun kq v_4 v_15 w'=>∃(l19:List Int) (v20:Value) (x21:Int),v_4=v20∧v_15=.int .i64 x21∧Aside0 (impl_itemText.l0 kq l19 x21 a0=some r)∧Aside0 (kq≤k)∧Hp noFP w w' [.box g1 [.int .i64 a0.f0,.string a0.f1,.slice Ap0 a0.f2.length cp0] 153,.own (Zd.slice 5 (Zd.int .u8)) l19 [v20]])
    case atStart=>exact⟨_,_,_,rfl,rfl,H,⟨Nat.le_refl _⟩,HS⟩
    case round=>
     clear HS H;(try clear F)
     obtain⟨l19,v20,x21,rfl,rfl,H,HKk18,HS⟩:=hrel
     obtain⟨B20,d20,rfl,m20⟩:=HS.form 1 rfl
     have F:=HS.bx
     cases gk with
     |zero=>exact absurd H.out (by simp [impl_itemText.l0])
     | succ k18=>
      simp only [impl_itemText.l0] at H
      replace H:=zif H;rcases H with⟨c23,H⟩|⟨c23,H⟩
      ·
       replace H:=zgo H;obtain⟨c24,H⟩:=H
       replace H:=zgo H;obtain⟨c25,H⟩:=H
       obtain⟨ad26,B26_2,d26_2,rfl,e26_0,e26_1,e26_2,m26_2,y26_2⟩:=at_T153 gp0 x21 (of_eq_true c24) (of_eq_true c25)
       have e26_0_26:=HS.keepc e26_0
       have e26_1_26:=HS.keepc e26_1
       have e26_2_26:=HS.keepc e26_2
       replace H:=zbind H;obtain⟨t31,ht31,H⟩:=H
       replace H:=zgo H;obtain⟨c33,H⟩:=H
       replace H:=zlets H;obtain⟨y34,e_y34,H⟩:=H
       go_wp2_with (first|((with_reducible refine gd 6 rfl ?_);refine ev_bx HS ?_;clear HS;intro g6 w6 HS F)|((with_reducible refine gate_store (p:=6) rfl ?_);refine ev_st 2 0 HS (seg:=[.int .i64 ((rd_T153 a0.f2 x21).f0),.string ((rd_T153 a0.f2 x21).f1),.slice B26_2 (rd_T153 a0.f2 x21).f2.length d26_2]) ?_;clear HS;intro w29 HS F)|((with_reducible refine gd 21 rfl ?_);refine ev_cl HS (IH (by have:=HK0.out;have:=HKk18.out;omega) ht31.out (HS.ro y26_2) m26_2) Tryz.func154 ?_;clear HS;intro wt31 HS F)|((with_reducible refine gd 22 rfl ?_);refine ev_appends rfl 1 HS rfl rfl rfl rfl Tryz.underlying50 Tryz.underlying9 info5 (by have:=of_eq_true c33;first|omega|(simp only [List.length_cons,List.length_nil,List.length_append,Nat.zero_add] at this⊢;omega)) ?_;clear HS;intro v34 w34 HS;rw [←e_y34.out] at HS;obtain⟨B34,d34,rfl,m34⟩:=HS.form 3 rfl;(try simp only [hpn,hpm] at HS);have F:=HS.bx))
       go_roundg k18
       case measure=>have:=HK0.out;have:=HKk18.out;omega
       case rel=>exact⟨_,_,_,rfl,rfl,H,⟨by have:=HK0.out;have:=HKk18.out;omega⟩,HS.pi [0,3]⟩
      go_wp2_with ((with_reducible refine gd 25 rfl ?_);refine ev_val rfl (run_str rfl rfl Tryz.underlying50 Tryz.underlying5 Tryz.underlying9 (HS.rd 1 rfl)) ?_)
      replace H:=zbind H;obtain⟨t11,ht11,H⟩:=H
      replace H:=zgo H;obtain⟨c12,H⟩:=H
      replace H:=zgo H;obtain⟨c13,H⟩:=H
      refine dr_start [] HS #[false,false,false,false,false,false,false,false,false,false,false,false] (by kernel_rfl) rfl rfl impl_itemText.tT10 (fun w37 HT HS HH=>?_)
      (try clear F)
      refine join_ 0 #[true,true,true,true,true,true,true,true,true,true,true,true] (fun(v7:Value)=>([(26,.pointer (some ⟨g1,0,none⟩)),(27,.int .i64 a0.f0),(28,.int .u8 (a0.f0 % 256)),(29,v7),(30,.string (strOfNums ([(a0.f0 % 256)]:List Int))),(31,.string (strOfNums l19)),(32,.int .i64 ((strOfNums l19).size:Int)),(33,.string t11),(34,.string ((strOfNums ([(a0.f0 % 256)]:List Int))++t11)),(35,.string (strOfNums l19)),(36,.string (((strOfNums ([(a0.f0 % 256)]:List Int))++t11)++(strOfNums l19))),(2,.string (((strOfNums ([(a0.f0 % 256)]:List Int))++t11)++(strOfNums l19)))]:List (Tmp×Value))) (fun(v7:Value) w'=>Hp noFP w w' [.box g1 [.int .i64 a0.f0,.string a0.f1,.slice Ap0 a0.f2.length cp0] 153,.own (Zd.slice 5 (Zd.int .u8)) l19 [.slice B20 l19.length d20],.own (Zd.slice 5 (Zd.int .u8)) ([(a0.f0 % 256)]:List Int) [v7]]) ?_ ?_
      rotate_left
      · intro hJ
        refine dqt [0,1,2,5,6,9] HT HH ?_
        refine dr_any [3,7] HT (by kernel_rfl) (by decide) (AllReadyL.cons rfl (by decide) (fun K hK=>?_) (AllReadyL.cons rfl (by decide) (fun K hK=>?_) AllReadyL.nil))
        · refine if_li (Zd.int .u8) [] ([(a0.f0 % 256)]:List Int) ([.int .u8 (a0.f0 % 256)]++ []) HS (MadeL.cons (js1:=[]) (c:=[.int .u8 (a0.f0 % 256)]) rfl (made_flat (fun _=>rfl)) MadeL.nil (by decide)) ?_;clear HS;intro v7 w7 HS F;obtain⟨B7,d7,rfl,m7⟩:=HS.formn 1 2 rfl rfl
          refine nrm 29 hK ⟨_,HS⟩ fun HH=>?_;clear hK K
          refine dr_any [4,7] HT (by kernel_rfl) (by decide) (AllReadyL.cons rfl (by decide) (fun K hK=>?_) (AllReadyL.cons rfl (by decide) (fun K hK=>?_) AllReadyL.nil))
          · refine if_wp (by rfl) ?_;refine wp_run (run_str rfl rfl Tryz.underlying50 Tryz.underlying5 Tryz.underlying9 (HS.rd 2 rfl)) ?_
            (try simp only [hpn,hpm] at HS)
            have F:=HS.bx
            refine nrm 30 hK ⟨_,HS⟩ fun HH=>?_;clear hK K
            refine dr1 7 HT fun K hK=>?_
            refine go_cl HS (impl_lengthText.calls ht11.out) Tryz.func184 ?_;clear HS;intro wt11 HS F
            refine nrm 33 hK ⟨_,HS⟩ fun HH=>?_;clear hK K
            refine dr_pure 8 (some 34) HT (v:=.string ((strOfNums ([(a0.f0 % 256)]:List Int))++t11)) (a':=?_) rfl rfl (by kernel_rfl) (fun _ _ _ h=>h) (.inl ⟨by rfl,fun w'=>(run_cat rfl rfl rfl (of_eq_true c12))⟩) ?_ ?_
            rotate_left
            · simp only [Act.put,ptn];rfl
            refine dr_pure 10 (some 36) HT (v:=.string (((strOfNums ([(a0.f0 % 256)]:List Int))++t11)++(strOfNums l19))) (a':=?_) rfl rfl (by kernel_rfl) (fun _ _ _ h=>h) (.inl ⟨by rfl,fun w'=>(run_cat rfl rfl rfl (of_eq_true c13))⟩) ?_ ?_
            rotate_left
            · simp only [Act.put,ptn];rfl
            refine dq [11] HT ?_
            refine norm_ ?_ (hJ (.slice B7 1 d7) _ (HS.ar [some 0,some 1,some 2]))
            simp only [putAll,Act.put,ptn]
            (try rfl)
          · refine go_cl HS (impl_lengthText.calls ht11.out) Tryz.func184 ?_;clear HS;intro wt11 HS F
            refine nrm 33 hK ⟨_,HS⟩ fun HH=>?_;clear hK K
            refine dr1 4 HT fun K hK=>?_
            refine if_wp (by rfl) ?_;refine wp_run (run_str rfl rfl Tryz.underlying50 Tryz.underlying5 Tryz.underlying9 (HS.rd 2 rfl)) ?_
            (try simp only [hpn,hpm] at HS)
            have F:=HS.bx
            refine nrm 30 hK ⟨_,HS⟩ fun HH=>?_;clear hK K
            refine dr_pure 8 (some 34) HT (v:=.string ((strOfNums ([(a0.f0 % 256)]:List Int))++t11)) (a':=?_) rfl rfl (by kernel_rfl) (fun _ _ _ h=>h) (.inl ⟨by rfl,fun w'=>(run_cat rfl rfl rfl (of_eq_true c12))⟩) ?_ ?_
            rotate_left
            · simp only [Act.put,ptn];rfl
            refine dr_pure 10 (some 36) HT (v:=.string (((strOfNums ([(a0.f0 % 256)]:List Int))++t11)++(strOfNums l19))) (a':=?_) rfl rfl (by kernel_rfl) (fun _ _ _ h=>h) (.inl ⟨by rfl,fun w'=>(run_cat rfl rfl rfl (of_eq_true c13))⟩) ?_ ?_
            rotate_left
            · simp only [Act.put,ptn];rfl
            refine dq [11] HT ?_
            refine norm_ ?_ (hJ (.slice B7 1 d7) _ (HS.ar [some 0,some 1,some 2]))
            simp only [putAll,Act.put,ptn]
            (try rfl)
        · refine go_cl HS (impl_lengthText.calls ht11.out) Tryz.func184 ?_;clear HS;intro wt11 HS F
          refine nrm 33 hK ⟨_,HS⟩ fun HH=>?_;clear hK K
          refine dr1 3 HT fun K hK=>?_
          refine if_li (Zd.int .u8) [] ([(a0.f0 % 256)]:List Int) ([.int .u8 (a0.f0 % 256)]++ []) HS (MadeL.cons (js1:=[]) (c:=[.int .u8 (a0.f0 % 256)]) rfl (made_flat (fun _=>rfl)) MadeL.nil (by decide)) ?_;clear HS;intro v7 w7 HS F;obtain⟨B7,d7,rfl,m7⟩:=HS.formn 1 2 rfl rfl
          refine nrm 29 hK ⟨_,HS⟩ fun HH=>?_;clear hK K
          refine dr1 4 HT fun K hK=>?_
          refine if_wp (by rfl) ?_;refine wp_run (run_str rfl rfl Tryz.underlying50 Tryz.underlying5 Tryz.underlying9 (HS.rd 2 rfl)) ?_
          (try simp only [hpn,hpm] at HS)
          have F:=HS.bx
          refine nrm 30 hK ⟨_,HS⟩ fun HH=>?_;clear hK K
          refine dr_pure 8 (some 34) HT (v:=.string ((strOfNums ([(a0.f0 % 256)]:List Int))++t11)) (a':=?_) rfl rfl (by kernel_rfl) (fun _ _ _ h=>h) (.inl ⟨by rfl,fun w'=>(run_cat rfl rfl rfl (of_eq_true c12))⟩) ?_ ?_
          rotate_left
          · simp only [Act.put,ptn];rfl
          refine dr_pure 10 (some 36) HT (v:=.string (((strOfNums ([(a0.f0 % 256)]:List Int))++t11)++(strOfNums l19))) (a':=?_) rfl rfl (by kernel_rfl) (fun _ _ _ h=>h) (.inl ⟨by rfl,fun w'=>(run_cat rfl rfl rfl (of_eq_true c13))⟩) ?_ ?_
          rotate_left
          · simp only [Act.put,ptn];rfl
          refine dq [11] HT ?_
          refine norm_ ?_ (hJ (.slice B7 1 d7) _ (HS.ar [some 0,some 1,some 2]))
          simp only [putAll,Act.put,ptn]
          (try rfl)
      rintro v7 w14 HS
      obtain⟨B7,d7,rfl,m7⟩:=HS.formn 1 2 rfl (by first|rfl|simp)
      have F:=HS.bx
      refine norm_ (a':=?_) ?_ ?_
      rotate_left
      · simp only [putAll,Act.put,ptn];rfl
      refine dn HT ?_
      obtain rfl:=zsome H
      go_wp2
      go_ret
      exact HS.pk
theorem impl_itemText.calls {k:Nat}{a0:S153}{Ap0:Option Addr}{np0 cp0:Nat}{r:ByteArray}{w:World}(h:impl_itemText.f k a0=some r)(gp0:k153.C w Ap0 np0 a0.f2)(lp0:np0≤cp0):
    Calls Tryz.prog 154 #[.agg #[.int .i64 a0.f0,.string a0.f1,.slice Ap0 np0 cp0]] w (fun e w'=>e=.returned (.string r)∧Hp noFP w w' []):=impl_itemText.calls_ k (Nat.le_refl k) h gp0 lp0
def impl_ItemText.f (k:Nat)(a0:S153):Option (ByteArray×Bool):=((impl_ItemOk.f k a0).bind fun t3=>(if t3=true then((impl_itemText.f k a0).bind fun t6=>(if 4000<(t6.size:Int)then(some ((⟨#[]⟩:ByteArray),false))else(some (t6,true))))else(some ((⟨#[]⟩:ByteArray),false))))
theorem impl_ItemText.calls {k:Nat}{a0:S153}{Ap0:Option Addr}{np0 cp0:Nat}{r1:ByteArray}{r2:Bool}{w:World}(h:impl_ItemText.f k a0=some (r1,r2))(gp0:k153.C w Ap0 np0 a0.f2)(lp0:np0≤cp0):
    Calls Tryz.prog 127 #[.agg #[.int .i64 a0.f0,.string a0.f1,.slice Ap0 np0 cp0]] w (fun e w'=>e=.returned (.tuple #[.string r1,.bool r2])∧Hp noFP w w' []):=by
 obtain rfl:=C_len gp0
 have HS:=Hp.start w
 have H:=Aside0.mk h
 clear h
 unfold impl_ItemText.f at H
 go_enter Tryz.func127,Tryz.ntmps127
 replace H:=zbind H;obtain⟨t3,ht3,H⟩:=H
 go_upto_if 7 with(first|((with_reducible refine gd 1 rfl ?_);refine ev_bx HS ?_;clear HS;intro g1 w1 HS F)|((with_reducible refine gd 6 rfl ?_);refine ev_cl HS (impl_ItemOk.calls ht3.out (HS.ro gp0) lp0) Tryz.func153 ?_;clear HS;intro wt3 HS F))
 replace H:=znifb H;rcases H with⟨c5,H⟩|⟨c5,H⟩
 ·
  subst c5
  (try simp only [dcn,dcu,dcf])
  obtain⟨rfl,rfl⟩:=zsome2 H
  go_wp2
  exact rl rfl (.tmp (.tmp .nil)) ⟨rfl,HS.pi []⟩
 subst c5
 (try simp only [dcn,dcu,dcf])
 replace H:=zbind H;obtain⟨t6,ht6,H⟩:=H
 go_upto_if 12 with((with_reducible refine gd 9 rfl ?_);refine ev_cl HS (impl_itemText.calls ht6.out (HS.ro gp0) lp0) Tryz.func154 ?_;clear HS;intro wt6 HS F)
 replace H:=zif H;rcases H with⟨c8,H⟩|⟨c8,H⟩
 ·
  (try simp only [c8,dcn])
  obtain⟨rfl,rfl⟩:=zsome2 H
  go_wp2
  exact rl rfl (.tmp (.tmp .nil)) ⟨rfl,HS.pi []⟩
 (try simp only [c8,dcn])
 obtain⟨rfl,rfl⟩:=zsome2 H
 go_wp2
 exact rl rfl (.tmp (.tmp .nil)) ⟨rfl,HS.pi []⟩
mutual
def impl_copyItem.l0:Nat→(List S153)→Int→S153→Option (S153)
  |0,_,_,_=>none
  |k+1,l28,x30,a0=>(if x30<(a0.f2.length:Int)then(if 0≤x30 then(if x30<(a0.f2.length:Int)then((impl_copyItem.f k (rd_T153 a0.f2 x30)).bind fun t4=>(if l28.length+1≤2932031007402 then(lets (l28++([t4]:List S153)) fun y10=>(impl_copyItem.l0 k y10 (wrap64 (x30+1)) a0))else none))else none)else none)else(some (⟨a0.f0,a0.f1,l28⟩:S153)))
def impl_copyItem.f:Nat→S153→Option (S153)
  |0,_=>none
  |k+1,a0=>(impl_copyItem.l0 k [] 0 a0)
end
def impl_copyItem.T5:TT:=(true,[([],[]),([0],[0]),([],[]),([2],[2]),([3],[3]),([1,4,3],[1,4]),([0,1,2,3,4,5],[]),([6,5,5,0,1,2,3,4,5],[5,6])])
theorem impl_copyItem.tT5:rtab .any (opsOf Tryz.f155 5)=impl_copyItem.T5:=by kernel_rfl
theorem impl_copyItem.calls_ (K:Nat):∀ {k:Nat} (hK:k≤K) {a0:S153} {Ap0:Option Addr} {np0 cp0:Nat} {r:S153} {w:World} (h:impl_copyItem.f k a0=some r) (gp0:k153.C w Ap0 np0 a0.f2) (lp0:np0≤cp0),
    Calls Tryz.prog 155 #[.agg #[.int .i64 a0.f0,.string a0.f1,.slice Ap0 np0 cp0]] w (fun e w'=>∃v0_:Value,e=.returned (.agg #[.int .i64 r.f0,.string r.f1,v0_])∧Hp noFP w w' [.own (Zd.slice 153 q153) r.f2 [v0_]]):=by
  induction K with
  | zero=>
    intro k hK a0 Ap0 np0 cp0 r w h gp0 lp0
    obtain rfl:k=0:=by omega
    exact absurd h (by simp [impl_copyItem.f])
  | succ K IH=>
    intro k hK a0 Ap0 np0 cp0 r w h gp0 lp0
    cases k with
    |zero=>exact absurd h (by simp [impl_copyItem.f])
    |succ k=>
    have HK0:Aside0 (k≤K):=⟨by omega⟩
    clear hK
    obtain rfl:=C_len gp0
    have HS:=Hp.start w
    have H:=Aside0.mk h
    clear h
    simp only [impl_copyItem.f] at H
    go_enter Tryz.func155,Tryz.ntmps155
    go_wp2_with (first|((with_reducible refine gd 1 rfl ?_);refine ev_bx HS ?_;clear HS;intro g1 w1 HS F)|((with_reducible refine gd 2 rfl ?_);refine ev_bx HS ?_;clear HS;intro g2 w2 HS F)|((with_reducible refine gd 3 rfl ?_);refine ev_bx HS ?_;clear HS;intro g3 w3 HS F)|((with_reducible refine gate_store (p:=3) rfl ?_);refine ev_st 2 0 HS (seg:=[.int .i64 a0.f0,.string a0.f1,.slice none 0 0]) ?_;clear HS;intro w7 HS F))
    replace HS:=HS.nil 153 q153
    go_loopg [14] k (fun kq v_14 w'=>∃(l28:List S153) (v29:Value) (x30:Int),v_14=.int .i64 x30∧Aside0 (impl_copyItem.l0 kq l28 x30 a0=some r)∧Aside0 (kq≤k)∧Hp noFP w w' [.box g1 [.int .i64 a0.f0,.string a0.f1,.slice Ap0 a0.f2.length cp0] 153,.box g2 [.int .i64 0,.string (⟨#[]⟩:ByteArray),.slice none 0 0] 153,.box g3 [.int .i64 a0.f0,.string a0.f1,v29] 153,.own (Zd.slice 153 q153) l28 [v29]])
    case atStart=>exact⟨_,_,_,rfl,H,⟨Nat.le_refl _⟩,HS⟩
    case round=>
     clear HS H;(try clear F)
     obtain⟨l28,v29,x30,rfl,H,HKk27,HS⟩:=hrel
     obtain⟨B29,d29,rfl,m29⟩:=HS.form 3 rfl
     have F:=HS.bx
     cases gk with
     |zero=>exact absurd H.out (by simp [impl_copyItem.l0])
     | succ k27=>
      simp only [impl_copyItem.l0] at H
      replace H:=znif H;rcases H with⟨c32,H⟩|⟨c32,H⟩
      ·
       obtain rfl:=zsome H
       go_wp2_with ((with_reducible refine gate_store (p:=2) rfl ?_);refine ev_st 1 0 HS (seg:=[.int .i64 a0.f0,.string a0.f1,.slice B29 l28.length d29]) ?_;clear HS;intro w43 HS F)
       exact rc 1 HS Tryz.underlying153 ⟨_,rfl,HS.pi [3]⟩
      replace H:=zgo H;obtain⟨c33,H⟩:=H
      replace H:=zgo H;obtain⟨c34,H⟩:=H
      obtain⟨ad35,B35_2,d35_2,rfl,e35_0,e35_1,e35_2,m35_2,y35_2⟩:=at_T153 gp0 x30 (of_eq_true c33) (of_eq_true c34)
      have e35_0_35:=HS.keepc e35_0
      have e35_1_35:=HS.keepc e35_1
      have e35_2_35:=HS.keepc e35_2
      go_wp2_with (first|((with_reducible refine gd 5 rfl ?_);refine ev_bx HS ?_;clear HS;intro g5 w5 HS F)|((with_reducible refine gate_store (p:=5) rfl ?_);refine ev_st 4 0 HS (seg:=[.int .i64 ((rd_T153 a0.f2 x30).f0),.string ((rd_T153 a0.f2 x30).f1),.slice B35_2 (rd_T153 a0.f2 x30).f2.length d35_2]) ?_;clear HS;intro w38 HS F))
      replace H:=zbind H;obtain⟨t4,ht4,H⟩:=H
      replace H:=zgo H;obtain⟨c9,H⟩:=H
      replace H:=zlets H;obtain⟨y10,e_y10,H⟩:=H
      refine dr_start2 [.box g1 [.int .i64 a0.f0,.string a0.f1,.slice (some ad35) a0.f2.length cp0] 153,.box g2 [.int .i64 0,.string (⟨#[]⟩:ByteArray),.slice none 0 0] 153,.box g3 [.int .i64 a0.f0,.string a0.f1,.slice B29 l28.length d29] 153,.emp,.box g5 [.int .i64 ((rd_T153 a0.f2 x30).f0),.string ((rd_T153 a0.f2 x30).f1),.slice B35_2 (rd_T153 a0.f2 x30).f2.length d35_2] 153] [7] HS (HS.ar [some 0,some 1,some 2,none,some 4]) #[false,false,false,false,false,false,false,false] (by kernel_rfl) rfl rfl impl_copyItem.tT5 (fun w41 HT HS HH=>?_)
      (try clear F)
      refine dqt [0,1,2] HT HH ?_
      refine dr1 3 HT fun K hK=>?_
      refine go_cl1 HS (IH (by have:=HK0.out;have:=HKk27.out;omega) ht4.out (HS.ro y35_2) m35_2) Tryz.func155 ?_;clear HS;intro v6 wt4 HS F;obtain⟨B6,d6,rfl,m6⟩:=HS.form 5 rfl
      refine nra 21 hK (HS.ar [some 0,some 1,some 2,none,some 4]) fun HH=>?_;clear hK K
      refine dr1 4 HT fun K hK=>?_
      refine if_li q153 [5] ([t4]:List S153) ([.int .i64 t4.f0,.string t4.f1,.slice B6 t4.f2.length d6]++ []) HS (MadeL.cons (js1:=[5]) (c:=[.int .i64 t4.f0,.string t4.f1,.slice B6 t4.f2.length d6]) rfl (fun S hd hh=>q153_pack (x:=t4) hd (hh 5 (.own (Zd.slice 153 q153) t4.f2 [.slice B6 t4.f2.length d6]) rfl) (by decide)) MadeL.nil (by decide)) ?_;clear HS;intro v8 w8 HS F;obtain⟨B8,d8,rfl,m8⟩:=HS.formn 1 6 rfl rfl
      refine nra 22 hK (HS.ar [some 0,some 1,some 2,none,some 4]) fun HH=>?_;clear hK K
      refine dr1 5 HT fun K hK=>?_
      refine wp_ap q153 3 6 HS rfl rfl Tryz.underlying151 info153 (of_eq_true c9) ?_;clear HS;intro v10 w10 HS;rw [←e_y10.out] at HS;obtain⟨B10,d10,rfl,m10⟩:=HS.form 7 rfl
      (try simp only [hpn,hpm] at HS)
      have F:=HS.bx
      refine nra 23 hK (HS.ar [some 0,some 1,some 2,none,some 4]) fun HH=>?_;clear hK K
      refine dq [6] HT ?_
      refine dl 7 HT fun K hK=>?_
      refine if_st 2 2 HS (seg:=[.slice B10 y10.length d10]) ?_;clear HS;intro w11 HS F
      refine hK.out _ _ ?_
      clear hK K
      refine dn HT ?_
      (try clear F)
      have F:=HS.bx
      go_wp2
      go_roundg k27
      case measure=>have:=HK0.out;have:=HKk27.out;omega
      case rel=>exact⟨_,_,_,rfl,H,⟨by have:=HK0.out;have:=HKk27.out;omega⟩,HS.pi [0,1,2,7]⟩
theorem impl_copyItem.calls {k:Nat}{a0:S153}{Ap0:Option Addr}{np0 cp0:Nat}{r:S153}{w:World}(h:impl_copyItem.f k a0=some r)(gp0:k153.C w Ap0 np0 a0.f2)(lp0:np0≤cp0):
    Calls Tryz.prog 155 #[.agg #[.int .i64 a0.f0,.string a0.f1,.slice Ap0 np0 cp0]] w (fun e w'=>∃v0_:Value,e=.returned (.agg #[.int .i64 r.f0,.string r.f1,v0_])∧Hp noFP w w' [.own (Zd.slice 153 q153) r.f2 [v0_]]):=impl_copyItem.calls_ k (Nat.le_refl k) h gp0 lp0
def impl_ListItem.l0:Nat→(List S153)→Int→(List S153)→Option (S153)
  |0,_,_,_=>none
  |k+1,l26,x28,a0=>(if x28<(a0.length:Int)then(if 0≤x28 then(if x28<(a0.length:Int)then((impl_copyItem.f k (rd_T153 a0 x28)).bind fun t4=>(if l26.length+1≤2932031007402 then(lets (l26++([t4]:List S153)) fun y10=>(impl_ListItem.l0 k y10 (wrap64 (x28+1)) a0))else none))else none)else none)else(some (⟨48,(⟨#[]⟩:ByteArray),l26⟩:S153)))
def impl_ListItem.f (k:Nat)(a0:(List S153)):Option (S153):=(impl_ListItem.l0 k [] 0 a0)
def impl_ListItem.T5:TT:=(true,[([],[]),([0],[0]),([],[]),([2],[2]),([3],[3]),([1,4,3],[1,4]),([0,1,2,3,4,5],[]),([6,5,5,0,1,2,3,4,5],[5,6])])
theorem impl_ListItem.tT5:rtab .any (opsOf Tryz.f128 5)=impl_ListItem.T5:=by kernel_rfl
theorem impl_ListItem.calls {k:Nat}{a0:(List S153)}{Ap0:Option Addr}{np0 cp0:Nat}{r:S153}{w:World}(h:impl_ListItem.f k a0=some r)(gp0:k153.C w Ap0 np0 a0)(lp0:np0≤cp0):
    Calls Tryz.prog 128 #[.slice Ap0 np0 cp0] w (fun e w'=>∃v0_:Value,e=.returned (.agg #[.int .i64 r.f0,.string r.f1,v0_])∧Hp noFP w w' [.own (Zd.slice 153 q153) r.f2 [v0_]]):=by
 obtain rfl:=C_len gp0
 have HS:=Hp.start w
 have H:=Aside0.mk h
 clear h
 unfold impl_ListItem.f at H
 go_enter Tryz.func128,Tryz.ntmps128
 go_wp2_with (first|((with_reducible refine gd 2 rfl ?_);refine ev_bx HS ?_;clear HS;intro g2 w2 HS F)|((with_reducible refine gd 3 rfl ?_);refine ev_bx HS ?_;clear HS;intro g3 w3 HS F)|((with_reducible refine gate_store (p:=3) rfl ?_);refine ev_st 1 0 HS (seg:=[.int .i64 48,.string (⟨#[]⟩:ByteArray),.slice none 0 0]) ?_;clear HS;intro w5 HS F))
 replace HS:=HS.nil 153 q153
 go_loopg [9] k (fun kq v_9 w'=>∃(l26:List S153) (v27:Value) (x28:Int),v_9=.int .i64 x28∧Aside0 (impl_ListItem.l0 kq l26 x28 a0=some r)∧Aside0 (kq≤k)∧Hp noFP w w' [.box g2 [.int .i64 0,.string (⟨#[]⟩:ByteArray),.slice none 0 0] 153,.box g3 [.int .i64 48,.string (⟨#[]⟩:ByteArray),v27] 153,.own (Zd.slice 153 q153) l26 [v27]])
 case atStart=>exact⟨_,_,_,rfl,H,⟨Nat.le_refl _⟩,HS⟩
 case round=>
  clear HS H;(try clear F)
  obtain⟨l26,v27,x28,rfl,H,HKk25,HS⟩:=hrel
  obtain⟨B27,d27,rfl,m27⟩:=HS.form 2 rfl
  have F:=HS.bx
  cases gk with
  |zero=>exact absurd H.out (by simp [impl_ListItem.l0])
  | succ k25=>
   simp only [impl_ListItem.l0] at H
   replace H:=znif H;rcases H with⟨c30,H⟩|⟨c30,H⟩
   ·
    obtain rfl:=zsome H
    go_wp2_with ((with_reducible refine gate_store (p:=2) rfl ?_);refine ev_st 0 0 HS (seg:=[.int .i64 48,.string (⟨#[]⟩:ByteArray),.slice B27 l26.length d27]) ?_;clear HS;intro w41 HS F)
    exact rc 0 HS Tryz.underlying153 ⟨_,rfl,HS.pi [2]⟩
   replace H:=zgo H;obtain⟨c31,H⟩:=H
   replace H:=zgo H;obtain⟨c32,H⟩:=H
   obtain⟨ad33,B33_2,d33_2,rfl,e33_0,e33_1,e33_2,m33_2,y33_2⟩:=at_T153 gp0 x28 (of_eq_true c31) (of_eq_true c32)
   have e33_0_33:=HS.keepc e33_0
   have e33_1_33:=HS.keepc e33_1
   have e33_2_33:=HS.keepc e33_2
   go_wp2_with (first|((with_reducible refine gd 5 rfl ?_);refine ev_bx HS ?_;clear HS;intro g5 w5 HS F)|((with_reducible refine gate_store (p:=5) rfl ?_);refine ev_st 3 0 HS (seg:=[.int .i64 ((rd_T153 a0 x28).f0),.string ((rd_T153 a0 x28).f1),.slice B33_2 (rd_T153 a0 x28).f2.length d33_2]) ?_;clear HS;intro w36 HS F))
   replace H:=zbind H;obtain⟨t4,ht4,H⟩:=H
   replace H:=zgo H;obtain⟨c8,H⟩:=H
   replace H:=zlets H;obtain⟨y10,e_y10,H⟩:=H
   refine dr_start2 [.box g2 [.int .i64 0,.string (⟨#[]⟩:ByteArray),.slice none 0 0] 153,.box g3 [.int .i64 48,.string (⟨#[]⟩:ByteArray),.slice B27 l26.length d27] 153,.emp,.box g5 [.int .i64 ((rd_T153 a0 x28).f0),.string ((rd_T153 a0 x28).f1),.slice B33_2 (rd_T153 a0 x28).f2.length d33_2] 153] [7] HS (HS.ar [some 0,some 1,none,some 3]) #[false,false,false,false,false,false,false,false] (by kernel_rfl) rfl rfl impl_ListItem.tT5 (fun w39 HT HS HH=>?_)
   (try clear F)
   refine dqt [0,1,2] HT HH ?_
   refine dr1 3 HT fun K hK=>?_
   refine go_cl1 HS (impl_copyItem.calls ht4.out (HS.ro y33_2) m33_2) Tryz.func155 ?_;clear HS;intro v6 wt4 HS F;obtain⟨B6,d6,rfl,m6⟩:=HS.form 4 rfl
   refine nra 16 hK (HS.ar [some 0,some 1,none,some 3]) fun HH=>?_;clear hK K
   refine dr1 4 HT fun K hK=>?_
   refine if_li q153 [4] ([t4]:List S153) ([.int .i64 t4.f0,.string t4.f1,.slice B6 t4.f2.length d6]++ []) HS (MadeL.cons (js1:=[4]) (c:=[.int .i64 t4.f0,.string t4.f1,.slice B6 t4.f2.length d6]) rfl (fun S hd hh=>q153_pack (x:=t4) hd (hh 4 (.own (Zd.slice 153 q153) t4.f2 [.slice B6 t4.f2.length d6]) rfl) (by decide)) MadeL.nil (by decide)) ?_;clear HS;intro v7 w7 HS F;obtain⟨B7,d7,rfl,m7⟩:=HS.formn 1 5 rfl rfl
   refine nra 17 hK (HS.ar [some 0,some 1,none,some 3]) fun HH=>?_;clear hK K
   refine dr1 5 HT fun K hK=>?_
   refine wp_ap q153 2 5 HS rfl rfl Tryz.underlying151 info153 (of_eq_true c8) ?_;clear HS;intro v10 w10 HS;rw [←e_y10.out] at HS;obtain⟨B10,d10,rfl,m10⟩:=HS.form 6 rfl
   (try simp only [hpn,hpm] at HS)
   have F:=HS.bx
   refine nra 18 hK (HS.ar [some 0,some 1,none,some 3]) fun HH=>?_;clear hK K
   refine dq [6] HT ?_
   refine dl 7 HT fun K hK=>?_
   refine if_st 1 2 HS (seg:=[.slice B10 y10.length d10]) ?_;clear HS;intro w11 HS F
   refine hK.out _ _ ?_
   clear hK K
   refine dn HT ?_
   (try clear F)
   have F:=HS.bx
   go_wp2
   go_roundg k25
   case measure=>have:=HKk25.out;omega
   case rel=>exact⟨_,_,_,rfl,H,⟨by have:=HKk25.out;omega⟩,HS.pi [0,1,6]⟩
def impl_bytesItem.f (a0:ByteArray):Option (S153):=(some (⟨4,a0,([]:List S153)⟩:S153))
theorem impl_bytesItem.calls {a0:ByteArray}{r:S153}{w:World}(h:impl_bytesItem.f a0=some r):
    Calls Tryz.prog 130 #[.string a0] w (fun e w'=>∃v0_:Value,e=.returned (.agg #[.int .i64 r.f0,.string r.f1,v0_])∧Hp noFP w w' [.own (Zd.slice 153 q153) r.f2 [v0_]]):=by
 have HS:=Hp.start w
 have H:=Aside0.mk h
 clear h
 unfold impl_bytesItem.f at H
 go_enter Tryz.func130,Tryz.ntmps130
 obtain rfl:=zsome H
 go_wp2_with (first|((with_reducible refine gd 2 rfl ?_);refine ev_bx HS ?_;clear HS;intro g2 w2 HS F)|((with_reducible refine gate_store (p:=2) rfl ?_);refine ev_st 0 0 HS (seg:=[.int .i64 4,.string a0,.slice none 0 0]) ?_;clear HS;intro w3 HS F))
 replace HS:=HS.nil 153 q153
 exact rc 0 HS Tryz.underlying153 ⟨_,rfl,HS.pi [1]⟩
mutual
def impl_IntItem.l0:Nat→(List Int)→Int→Option (S153)
  |0,_,_=>none
  |k+1,l19,x21=>(if 0<x21 then(if 1+l19.length≤140737488355328 then(lets (([(x21 % 256)]:List Int)++l19) fun y27=>(impl_IntItem.l0 k y27 (x21 / 256)))else none)else(if 0<(l19.length:Int)then(if 128≤(rd l19 0)then(if 1+l19.length≤140737488355328 then(lets (([0]:List Int)++l19) fun y35=>(some (⟨2,(strOfNums y35),([]:List S153)⟩:S153)))else none)else(some (⟨2,(strOfNums l19),([]:List S153)⟩:S153)))else none))
def impl_IntItem.l1:Nat→(List Int)→Int→Option (S153)
  |0,_,_=>none
  |k+1,l54,x56=>(if 0<x56 then(if 1+l54.length≤140737488355328 then(lets (([(x56 % 256)]:List Int)++l54) fun y62=>(impl_IntItem.l1 k y62 (x56 / 256)))else none)else(if 0<(l54.length:Int)then(if 128≤(rd l54 0)then(if 1+l54.length≤140737488355328 then(lets (([0]:List Int)++l54) fun y70=>(some (⟨2,(strOfNums y70),([]:List S153)⟩:S153)))else none)else(some (⟨2,(strOfNums l54),([]:List S153)⟩:S153)))else none))
end
def impl_IntItem.f (k:Nat)(a0:Int):Option (S153):=((impl_within.f a0 0 1000000000).bind fun t3=>(if t3=true then(impl_IntItem.l0 k ([(a0 % 256)]:List Int) (a0 / 256))else(impl_IntItem.l1 k ([0]:List Int) (0 / 256))))
theorem impl_IntItem.calls {k:Nat}{a0:Int}{r:S153}{w:World}(h:impl_IntItem.f k a0=some r):
    Calls Tryz.prog 156 #[.int .i64 a0] w (fun e w'=>∃v0_:Value,e=.returned (.agg #[.int .i64 r.f0,.string r.f1,v0_])∧Hp noFP w w' [.own (Zd.slice 153 q153) r.f2 [v0_]]):=by
 have HS:=Hp.start w
 have H:=Aside0.mk h
 clear h
 unfold impl_IntItem.f at H
 go_enter Tryz.func156,Tryz.ntmps156
 replace H:=zbind H;obtain⟨t3,ht3,H⟩:=H
 go_upto_if 6 with(first|((with_reducible refine gd 2 rfl ?_);refine ev_bx HS ?_;clear HS;intro g2 w2 HS F)|((with_reducible refine gd 5 rfl ?_);refine ev_cl HS (impl_within.calls ht3.out) Tryz.func105 ?_;clear HS;intro wt3 HS F))
 replace H:=zifb H;rcases H with⟨c5,H⟩|⟨c5,H⟩
 ·
  subst c5
  (try simp only [dcn,dcu,dcf])
  go_wp2_with ((with_reducible refine gd 9 rfl ?_);refine ev_li (Zd.int .u8) [] ([(a0 % 256)]:List Int) ([.int .u8 (a0 % 256)]++ []) HS (MadeL.cons (js1:=[]) (c:=[.int .u8 (a0 % 256)]) rfl (made_flat (fun _=>rfl)) MadeL.nil (by decide)) ?_;clear HS;intro v6 w6 HS F;obtain⟨B6,d6,rfl,m6⟩:=HS.formn 1 1 rfl rfl)
  go_loopg [0,3] k (fun kq v_0 v_3 w'=>∃(l19:List Int) (v20:Value) (x21:Int),v_0=.int .i64 x21∧v_3=v20∧Aside0 (impl_IntItem.l0 kq l19 x21=some r)∧Aside0 (kq≤k)∧Hp noFP w w' [.box g2 [.int .i64 0,.string (⟨#[]⟩:ByteArray),.slice none 0 0] 153,.own (Zd.slice 5 (Zd.int .u8)) l19 [v20]])
  case atStart=>exact⟨_,_,_,rfl,rfl,H,⟨Nat.le_refl _⟩,HS⟩
  case round=>
   clear HS H;(try clear F)
   obtain⟨l19,v20,x21,rfl,rfl,H,HKk18,HS⟩:=hrel
   obtain⟨B20,d20,rfl,m20⟩:=HS.form 1 rfl
   have F:=HS.bx
   cases gk with
   |zero=>exact absurd H.out (by simp [impl_IntItem.l0])
   | succ k18=>
    simp only [impl_IntItem.l0] at H
    replace H:=zif H;rcases H with⟨c23,H⟩|⟨c23,H⟩
    ·
     replace H:=zgo H;obtain⟨c26,H⟩:=H
     replace H:=zlets H;obtain⟨y27,e_y27,H⟩:=H
     go_wp2_with (first|((with_reducible refine gd 18 rfl ?_);refine ev_li (Zd.int .u8) [] ([(x21 % 256)]:List Int) ([.int .u8 (x21 % 256)]++ []) HS (MadeL.cons (js1:=[]) (c:=[.int .u8 (x21 % 256)]) rfl (made_flat (fun _=>rfl)) MadeL.nil (by decide)) ?_;clear HS;intro v24 w24 HS F;obtain⟨B24,d24,rfl,m24⟩:=HS.formn 1 2 rfl rfl)|((with_reducible refine gd 20 rfl ?_);refine ev_apr (flat_int _) 2 HS rfl (HS.rd 1 rfl) Tryz.underlying50 info5 (of_eq_true c26) ?_;clear HS;intro v27 w27 HS;rw [←e_y27.out] at HS;obtain⟨B27,d27,rfl,m27⟩:=HS.form 3 rfl;(try simp only [hpn,hpm] at HS);have F:=HS.bx))
     go_roundg k18
     case measure=>have:=HKk18.out;omega
     case rel=>exact⟨_,_,_,rfl,rfl,H,⟨by have:=HKk18.out;omega⟩,HS.pi [0,3]⟩
    replace H:=zgo H;obtain⟨c29,H⟩:=H
    have c29n:(0<l19.length)=True:=eq_true (by have:=of_eq_true c29;omega)
    obtain⟨ad30,rfl,e30_0⟩:=Kd.at_int (HS.rd 1 rfl) 0 (of_eq_true (eq_true (by decide))) (of_eq_true c29)
    (try have e30_0':=ct e30_0)
    replace H:=znif H;rcases H with⟨c31,H⟩|⟨c31,H⟩
    ·
     obtain rfl:=zsome H
     go_wp2_with (first|((with_reducible refine gd 29 rfl ?_);refine ev_val rfl (run_str rfl rfl Tryz.underlying50 Tryz.underlying5 Tryz.underlying9 (HS.rd 1 rfl)) ?_)|((with_reducible refine gate_store (p:=2) rfl ?_);refine ev_st 0 0 HS (seg:=[.int .i64 2,.string (strOfNums l19),.slice none 0 0]) ?_;clear HS;intro w39 HS F))
     replace HS:=HS.nil 153 q153
     exact rc 0 HS Tryz.underlying153 ⟨_,rfl,HS.pi [2]⟩
    replace H:=zgo H;obtain⟨c34,H⟩:=H
    replace H:=zlets H;obtain⟨y35,e_y35,H⟩:=H
    obtain rfl:=zsome H
    go_wp2_with (first|((with_reducible refine gd 25 rfl ?_);refine ev_li (Zd.int .u8) [] ([0]:List Int) ([.int .u8 0]++ []) HS (MadeL.cons (js1:=[]) (c:=[.int .u8 0]) rfl (made_flat (fun _=>rfl)) MadeL.nil (by decide)) ?_;clear HS;intro v32 w32 HS F;obtain⟨B32,d32,rfl,m32⟩:=HS.formn 1 2 rfl rfl)|((with_reducible refine gd 27 rfl ?_);refine ev_apr (flat_int _) 2 HS rfl (HS.rd 1 rfl) Tryz.underlying50 info5 (of_eq_true c34) ?_;clear HS;intro v35 w35 HS;rw [←e_y35.out] at HS;obtain⟨B35,d35,rfl,m35⟩:=HS.form 3 rfl;(try simp only [hpn,hpm] at HS);have F:=HS.bx)|((with_reducible refine gd 29 rfl ?_);refine ev_val rfl (run_str rfl rfl Tryz.underlying50 Tryz.underlying5 Tryz.underlying9 (HS.rd 3 rfl)) ?_)|((with_reducible refine gate_store (p:=2) rfl ?_);refine ev_st 0 0 HS (seg:=[.int .i64 2,.string (strOfNums y35),.slice none 0 0]) ?_;clear HS;intro w37 HS F))
    replace HS:=HS.nil 153 q153
    exact rc 0 HS Tryz.underlying153 ⟨_,rfl,HS.pi [4]⟩
 subst c5
 (try simp only [dcn,dcu,dcf])
 go_wp2_with ((with_reducible refine gd 9 rfl ?_);refine ev_li (Zd.int .u8) [] ([0]:List Int) ([.int .u8 0]++ []) HS (MadeL.cons (js1:=[]) (c:=[.int .u8 0]) rfl (made_flat (fun _=>rfl)) MadeL.nil (by decide)) ?_;clear HS;intro v41 w41 HS F;obtain⟨B41,d41,rfl,m41⟩:=HS.formn 1 1 rfl rfl)
 go_loopg [0,3] k (fun kq v_0 v_3 w'=>∃(l54:List Int) (v55:Value) (x56:Int),v_0=.int .i64 x56∧v_3=v55∧Aside0 (impl_IntItem.l1 kq l54 x56=some r)∧Aside0 (kq≤k)∧Hp noFP w w' [.box g2 [.int .i64 0,.string (⟨#[]⟩:ByteArray),.slice none 0 0] 153,.own (Zd.slice 5 (Zd.int .u8)) l54 [v55]])
 case atStart=>exact⟨_,_,_,rfl,rfl,H,⟨Nat.le_refl _⟩,HS⟩
 case round=>
  clear HS H;(try clear F)
  obtain⟨l54,v55,x56,rfl,rfl,H,HKk53,HS⟩:=hrel
  obtain⟨B55,d55,rfl,m55⟩:=HS.form 1 rfl
  have F:=HS.bx
  cases gk with
  |zero=>exact absurd H.out (by simp [impl_IntItem.l1])
  | succ k53=>
   simp only [impl_IntItem.l1] at H
   replace H:=zif H;rcases H with⟨c58,H⟩|⟨c58,H⟩
   ·
    replace H:=zgo H;obtain⟨c61,H⟩:=H
    replace H:=zlets H;obtain⟨y62,e_y62,H⟩:=H
    go_wp2_with (first|((with_reducible refine gd 18 rfl ?_);refine ev_li (Zd.int .u8) [] ([(x56 % 256)]:List Int) ([.int .u8 (x56 % 256)]++ []) HS (MadeL.cons (js1:=[]) (c:=[.int .u8 (x56 % 256)]) rfl (made_flat (fun _=>rfl)) MadeL.nil (by decide)) ?_;clear HS;intro v59 w59 HS F;obtain⟨B59,d59,rfl,m59⟩:=HS.formn 1 2 rfl rfl)|((with_reducible refine gd 20 rfl ?_);refine ev_apr (flat_int _) 2 HS rfl (HS.rd 1 rfl) Tryz.underlying50 info5 (of_eq_true c61) ?_;clear HS;intro v62 w62 HS;rw [←e_y62.out] at HS;obtain⟨B62,d62,rfl,m62⟩:=HS.form 3 rfl;(try simp only [hpn,hpm] at HS);have F:=HS.bx))
    go_roundg k53
    case measure=>have:=HKk53.out;omega
    case rel=>exact⟨_,_,_,rfl,rfl,H,⟨by have:=HKk53.out;omega⟩,HS.pi [0,3]⟩
   replace H:=zgo H;obtain⟨c64,H⟩:=H
   have c64n:(0<l54.length)=True:=eq_true (by have:=of_eq_true c64;omega)
   obtain⟨ad65,rfl,e65_0⟩:=Kd.at_int (HS.rd 1 rfl) 0 (of_eq_true (eq_true (by decide))) (of_eq_true c64)
   (try have e65_0':=ct e65_0)
   replace H:=znif H;rcases H with⟨c66,H⟩|⟨c66,H⟩
   ·
    obtain rfl:=zsome H
    go_wp2_with (first|((with_reducible refine gd 29 rfl ?_);refine ev_val rfl (run_str rfl rfl Tryz.underlying50 Tryz.underlying5 Tryz.underlying9 (HS.rd 1 rfl)) ?_)|((with_reducible refine gate_store (p:=2) rfl ?_);refine ev_st 0 0 HS (seg:=[.int .i64 2,.string (strOfNums l54),.slice none 0 0]) ?_;clear HS;intro w74 HS F))
    replace HS:=HS.nil 153 q153
    exact rc 0 HS Tryz.underlying153 ⟨_,rfl,HS.pi [2]⟩
   replace H:=zgo H;obtain⟨c69,H⟩:=H
   replace H:=zlets H;obtain⟨y70,e_y70,H⟩:=H
   obtain rfl:=zsome H
   go_wp2_with (first|((with_reducible refine gd 25 rfl ?_);refine ev_li (Zd.int .u8) [] ([0]:List Int) ([.int .u8 0]++ []) HS (MadeL.cons (js1:=[]) (c:=[.int .u8 0]) rfl (made_flat (fun _=>rfl)) MadeL.nil (by decide)) ?_;clear HS;intro v67 w67 HS F;obtain⟨B67,d67,rfl,m67⟩:=HS.formn 1 2 rfl rfl)|((with_reducible refine gd 27 rfl ?_);refine ev_apr (flat_int _) 2 HS rfl (HS.rd 1 rfl) Tryz.underlying50 info5 (of_eq_true c69) ?_;clear HS;intro v70 w70 HS;rw [←e_y70.out] at HS;obtain⟨B70,d70,rfl,m70⟩:=HS.form 3 rfl;(try simp only [hpn,hpm] at HS);have F:=HS.bx)|((with_reducible refine gd 29 rfl ?_);refine ev_val rfl (run_str rfl rfl Tryz.underlying50 Tryz.underlying5 Tryz.underlying9 (HS.rd 3 rfl)) ?_)|((with_reducible refine gate_store (p:=2) rfl ?_);refine ev_st 0 0 HS (seg:=[.int .i64 2,.string (strOfNums y70),.slice none 0 0]) ?_;clear HS;intro w72 HS F))
   replace HS:=HS.nil 153 q153
   exact rc 0 HS Tryz.underlying153 ⟨_,rfl,HS.pi [4]⟩
def impl_TextItem.f (a0:ByteArray):Option (S153):=(some (⟨12,a0,([]:List S153)⟩:S153))
theorem impl_TextItem.calls {a0:ByteArray}{r:S153}{w:World}(h:impl_TextItem.f a0=some r):
    Calls Tryz.prog 157 #[.string a0] w (fun e w'=>∃v0_:Value,e=.returned (.agg #[.int .i64 r.f0,.string r.f1,v0_])∧Hp noFP w w' [.own (Zd.slice 153 q153) r.f2 [v0_]]):=by
 have HS:=Hp.start w
 have H:=Aside0.mk h
 clear h
 unfold impl_TextItem.f at H
 go_enter Tryz.func157,Tryz.ntmps157
 obtain rfl:=zsome H
 go_wp2_with (first|((with_reducible refine gd 2 rfl ?_);refine ev_bx HS ?_;clear HS;intro g2 w2 HS F)|((with_reducible refine gate_store (p:=2) rfl ?_);refine ev_st 0 0 HS (seg:=[.int .i64 12,.string a0,.slice none 0 0]) ?_;clear HS;intro w3 HS F))
 replace HS:=HS.nil 153 q153
 exact rc 0 HS Tryz.underlying153 ⟨_,rfl,HS.pi [1]⟩
def impl_boolItem.f (a0:Bool):Option (S153):=(if a0=true then(some (⟨1,(⟨#[255]⟩:ByteArray),([]:List S153)⟩:S153))else(some (⟨1,(⟨#[0]⟩:ByteArray),([]:List S153)⟩:S153)))
theorem impl_boolItem.calls {a0:Bool}{r:S153}{w:World}(h:impl_boolItem.f a0=some r):
    Calls Tryz.prog 158 #[.bool a0] w (fun e w'=>∃v0_:Value,e=.returned (.agg #[.int .i64 r.f0,.string r.f1,v0_])∧Hp noFP w w' [.own (Zd.slice 153 q153) r.f2 [v0_]]):=by
 have HS:=Hp.start w
 have H:=Aside0.mk h
 clear h
 unfold impl_boolItem.f at H
 go_enter Tryz.func158,Tryz.ntmps158
 go_upto_if 3 with((with_reducible refine gd 2 rfl ?_);refine ev_bx HS ?_;clear HS;intro g2 w2 HS F)
 replace H:=zifb H;rcases H with⟨c3,H⟩|⟨c3,H⟩
 ·
  subst c3
  (try simp only [dcn,dcu,dcf])
  obtain rfl:=zsome H
  go_wp2_with ((with_reducible refine gate_store (p:=2) rfl ?_);refine ev_st 0 0 HS (seg:=[.int .i64 1,.string (⟨#[255]⟩:ByteArray),.slice none 0 0]) ?_;clear HS;intro w4 HS F)
  replace HS:=HS.nil 153 q153
  exact rc 0 HS Tryz.underlying153 ⟨_,rfl,HS.pi [1]⟩
 subst c3
 (try simp only [dcn,dcu,dcf])
 obtain rfl:=zsome H
 go_wp2_with ((with_reducible refine gate_store (p:=2) rfl ?_);refine ev_st 0 0 HS (seg:=[.int .i64 1,.string (⟨#[0]⟩:ByteArray),.slice none 0 0]) ?_;clear HS;intro w6 HS F)
 replace HS:=HS.nil 153 q153
 exact rc 0 HS Tryz.underlying153 ⟨_,rfl,HS.pi [1]⟩
def impl_each_int_0.l0:Nat→(List S153)→Int→(List Int)→Option (S153)
  |0,_,_,_=>none
  |k+1,l22,x24,a0=>(if x24<(a0.length:Int)then(if 0≤x24 then(if x24<(a0.length:Int)then((impl_IntItem.f k (rd a0 x24)).bind fun t3=>(if l22.length+1≤2932031007402 then(lets (l22++([t3]:List S153)) fun y9=>(impl_each_int_0.l0 k y9 (wrap64 (x24+1)) a0))else none))else none)else none)else(some (⟨48,(⟨#[]⟩:ByteArray),l22⟩:S153)))
def impl_each_int_0.f (k:Nat)(a0:(List Int)):Option (S153):=(impl_each_int_0.l0 k [] 0 a0)
def impl_each_int_0.T5:TT:=(true,[([],[]),([0],[0]),([],[]),([],[]),([2,3],[2,3]),([4],[4]),([1,5,4],[1,5]),([0,1,2,3,4,5,6],[]),([7,6,6,0,1,2,3,4,5,6],[6,7])])
theorem impl_each_int_0.tT5:rtab .any (opsOf Tryz.f159 5)=impl_each_int_0.T5:=by kernel_rfl
theorem impl_each_int_0.calls {k:Nat}{a0:(List Int)}{Ap0:Option Addr}{np0 cp0:Nat}{r:S153}{w:World}(h:impl_each_int_0.f k a0=some r)(gp0:(Kd.int .i64).C w Ap0 np0 a0)(lp0:np0≤cp0):
    Calls Tryz.prog 159 #[.slice Ap0 np0 cp0,.func (.func 156) #[] #[]] w (fun e w'=>∃v0_:Value,e=.returned (.agg #[.int .i64 r.f0,.string r.f1,v0_])∧Hp noFP w w' [.own (Zd.slice 153 q153) r.f2 [v0_]]):=by
 obtain rfl:=C_len gp0
 have HS:=Hp.start w
 have H:=Aside0.mk h
 clear h
 unfold impl_each_int_0.f at H
 go_enter Tryz.func159,Tryz.ntmps159
 go_wp2_with (first|((with_reducible refine gd 4 rfl ?_);refine ev_bx HS ?_;clear HS;intro g4 w4 HS F)|((with_reducible refine gd 5 rfl ?_);refine ev_bx HS ?_;clear HS;intro g5 w5 HS F)|((with_reducible refine gate_store (p:=5) rfl ?_);refine ev_st 1 0 HS (seg:=[.int .i64 48,.string (⟨#[]⟩:ByteArray),.slice none 0 0]) ?_;clear HS;intro w5 HS F))
 replace HS:=HS.nil 153 q153
 go_loopg [11] k (fun kq v_11 w'=>∃(l22:List S153) (v23:Value) (x24:Int),v_11=.int .i64 x24∧Aside0 (impl_each_int_0.l0 kq l22 x24 a0=some r)∧Aside0 (kq≤k)∧Hp noFP w w' [.box g4 [.int .i64 0,.string (⟨#[]⟩:ByteArray),.slice none 0 0] 153,.box g5 [.int .i64 48,.string (⟨#[]⟩:ByteArray),v23] 153,.own (Zd.slice 153 q153) l22 [v23]])
 case atStart=>exact⟨_,_,_,rfl,H,⟨Nat.le_refl _⟩,HS⟩
 case round=>
  clear HS H;(try clear F)
  obtain⟨l22,v23,x24,rfl,H,HKk21,HS⟩:=hrel
  obtain⟨B23,d23,rfl,m23⟩:=HS.form 2 rfl
  have F:=HS.bx
  cases gk with
  |zero=>exact absurd H.out (by simp [impl_each_int_0.l0])
  | succ k21=>
   simp only [impl_each_int_0.l0] at H
   replace H:=znif H;rcases H with⟨c26,H⟩|⟨c26,H⟩
   ·
    obtain rfl:=zsome H
    go_wp2_with ((with_reducible refine gate_store (p:=4) rfl ?_);refine ev_st 0 0 HS (seg:=[.int .i64 48,.string (⟨#[]⟩:ByteArray),.slice B23 l22.length d23]) ?_;clear HS;intro w33 HS F)
    exact rc 0 HS Tryz.underlying153 ⟨_,rfl,HS.pi [2]⟩
   replace H:=zgo H;obtain⟨c27,H⟩:=H
   replace H:=zgo H;obtain⟨c28,H⟩:=H
   obtain⟨ad29,rfl,e29_0⟩:=Kd.at_int gp0 x24 (of_eq_true c27) (of_eq_true c28)
   have e29_0_29:=HS.keepc e29_0
   (try go_wp2)
   replace H:=zbind H;obtain⟨t3,ht3,H⟩:=H
   replace H:=zgo H;obtain⟨c8,H⟩:=H
   replace H:=zlets H;obtain⟨y9,e_y9,H⟩:=H
   refine dr_start2 [.box g4 [.int .i64 0,.string (⟨#[]⟩:ByteArray),.slice none 0 0] 153,.box g5 [.int .i64 48,.string (⟨#[]⟩:ByteArray),.slice B23 l22.length d23] 153,.emp] [8] HS (HS.ar [some 0,some 1,none]) #[false,false,false,false,false,false,false,false,false] (by kernel_rfl) rfl rfl impl_each_int_0.tT5 (fun w31 HT HS HH=>?_)
   (try clear F)
   refine dqt [0,1,2,3] HT HH ?_
   refine dr1 4 HT fun K hK=>?_
   refine if_wp (by rfl) ?_;refine wp_callv Tryz.func156 (by kernel_rfl) rfl #[.int .i64 (rd a0 x24)] #[.int .i64 (rd a0 x24)] rfl rfl (by simp only [mpn];rfl) (by first|rfl|simp) ?_;refine(impl_IntItem.calls ht3.out).mono ?_;rintro _ wt3 ⟨v6,rfl,HQ⟩;refine⟨_,rfl,?_⟩;replace HS:=HS.call HQ;clear HQ;(try clear F);obtain⟨B6,d6,rfl,m6⟩:=HS.form 3 rfl
   (try simp only [hpn,hpm] at HS)
   have F:=HS.bx
   refine nra 19 hK (HS.ar [some 0,some 1,none]) fun HH=>?_;clear hK K
   refine dr1 5 HT fun K hK=>?_
   refine if_li q153 [3] ([t3]:List S153) ([.int .i64 t3.f0,.string t3.f1,.slice B6 t3.f2.length d6]++ []) HS (MadeL.cons (js1:=[3]) (c:=[.int .i64 t3.f0,.string t3.f1,.slice B6 t3.f2.length d6]) rfl (fun S hd hh=>q153_pack (x:=t3) hd (hh 3 (.own (Zd.slice 153 q153) t3.f2 [.slice B6 t3.f2.length d6]) rfl) (by decide)) MadeL.nil (by decide)) ?_;clear HS;intro v7 w7 HS F;obtain⟨B7,d7,rfl,m7⟩:=HS.formn 1 4 rfl rfl
   refine nra 20 hK (HS.ar [some 0,some 1,none]) fun HH=>?_;clear hK K
   refine dr1 6 HT fun K hK=>?_
   refine wp_ap q153 2 4 HS rfl rfl Tryz.underlying151 info153 (of_eq_true c8) ?_;clear HS;intro v9 w9 HS;rw [←e_y9.out] at HS;obtain⟨B9,d9,rfl,m9⟩:=HS.form 5 rfl
   (try simp only [hpn,hpm] at HS)
   have F:=HS.bx
   refine nra 21 hK (HS.ar [some 0,some 1,none]) fun HH=>?_;clear hK K
   refine dq [7] HT ?_
   refine dl 8 HT fun K hK=>?_
   refine if_st 1 2 HS (seg:=[.slice B9 y9.length d9]) ?_;clear HS;intro w10 HS F
   refine hK.out _ _ ?_
   clear hK K
   refine dn HT ?_
   (try clear F)
   have F:=HS.bx
   go_wp2
   go_roundg k21
   case measure=>have:=HKk21.out;omega
   case rel=>exact⟨_,_,_,rfl,H,⟨by have:=HKk21.out;omega⟩,HS.pi [0,1,5]⟩
def impl_each_string_0.l0:Nat→(List S153)→Int→(List ByteArray)→Option (S153)
  |0,_,_,_=>none
  |k+1,l22,x24,a0=>(if x24<(a0.length:Int)then(if 0≤x24 then(if x24<(a0.length:Int)then((impl_TextItem.f (rdOf ByteArray.empty a0 x24)).bind fun t3=>(if l22.length+1≤2932031007402 then(lets (l22++([t3]:List S153)) fun y9=>(impl_each_string_0.l0 k y9 (wrap64 (x24+1)) a0))else none))else none)else none)else(some (⟨48,(⟨#[]⟩:ByteArray),l22⟩:S153)))
def impl_each_string_0.f (k:Nat)(a0:(List ByteArray)):Option (S153):=(impl_each_string_0.l0 k [] 0 a0)
def impl_each_string_0.T5:TT:=(true,[([],[]),([0],[0]),([],[]),([],[]),([2,3],[2,3]),([4],[4]),([1,5,4],[1,5]),([0,1,2,3,4,5,6],[]),([7,6,6,0,1,2,3,4,5,6],[6,7])])
theorem impl_each_string_0.tT5:rtab .any (opsOf Tryz.f160 5)=impl_each_string_0.T5:=by kernel_rfl
theorem impl_each_string_0.calls {k:Nat}{a0:(List ByteArray)}{Ap0:Option Addr}{np0 cp0:Nat}{r:S153}{w:World}(h:impl_each_string_0.f k a0=some r)(gp0:Kd.string.C w Ap0 np0 a0)(lp0:np0≤cp0):
    Calls Tryz.prog 160 #[.slice Ap0 np0 cp0,.func (.func 157) #[] #[]] w (fun e w'=>∃v0_:Value,e=.returned (.agg #[.int .i64 r.f0,.string r.f1,v0_])∧Hp noFP w w' [.own (Zd.slice 153 q153) r.f2 [v0_]]):=by
 obtain rfl:=C_len gp0
 have HS:=Hp.start w
 have H:=Aside0.mk h
 clear h
 unfold impl_each_string_0.f at H
 go_enter Tryz.func160,Tryz.ntmps160
 go_wp2_with (first|((with_reducible refine gd 4 rfl ?_);refine ev_bx HS ?_;clear HS;intro g4 w4 HS F)|((with_reducible refine gd 5 rfl ?_);refine ev_bx HS ?_;clear HS;intro g5 w5 HS F)|((with_reducible refine gate_store (p:=5) rfl ?_);refine ev_st 1 0 HS (seg:=[.int .i64 48,.string (⟨#[]⟩:ByteArray),.slice none 0 0]) ?_;clear HS;intro w5 HS F))
 replace HS:=HS.nil 153 q153
 go_loopg [11] k (fun kq v_11 w'=>∃(l22:List S153) (v23:Value) (x24:Int),v_11=.int .i64 x24∧Aside0 (impl_each_string_0.l0 kq l22 x24 a0=some r)∧Aside0 (kq≤k)∧Hp noFP w w' [.box g4 [.int .i64 0,.string (⟨#[]⟩:ByteArray),.slice none 0 0] 153,.box g5 [.int .i64 48,.string (⟨#[]⟩:ByteArray),v23] 153,.own (Zd.slice 153 q153) l22 [v23]])
 case atStart=>exact⟨_,_,_,rfl,H,⟨Nat.le_refl _⟩,HS⟩
 case round=>
  clear HS H;(try clear F)
  obtain⟨l22,v23,x24,rfl,H,HKk21,HS⟩:=hrel
  obtain⟨B23,d23,rfl,m23⟩:=HS.form 2 rfl
  have F:=HS.bx
  cases gk with
  |zero=>exact absurd H.out (by simp [impl_each_string_0.l0])
  | succ k21=>
   simp only [impl_each_string_0.l0] at H
   replace H:=znif H;rcases H with⟨c26,H⟩|⟨c26,H⟩
   ·
    obtain rfl:=zsome H
    go_wp2_with ((with_reducible refine gate_store (p:=4) rfl ?_);refine ev_st 0 0 HS (seg:=[.int .i64 48,.string (⟨#[]⟩:ByteArray),.slice B23 l22.length d23]) ?_;clear HS;intro w33 HS F)
    exact rc 0 HS Tryz.underlying153 ⟨_,rfl,HS.pi [2]⟩
   replace H:=zgo H;obtain⟨c27,H⟩:=H
   replace H:=zgo H;obtain⟨c28,H⟩:=H
   obtain⟨ad29,rfl,e29_0⟩:=Kd.at_string gp0 x24 (of_eq_true c27) (of_eq_true c28)
   have e29_0_29:=HS.keepc e29_0
   (try go_wp2)
   replace H:=zbind H;obtain⟨t3,ht3,H⟩:=H
   replace H:=zgo H;obtain⟨c8,H⟩:=H
   replace H:=zlets H;obtain⟨y9,e_y9,H⟩:=H
   refine dr_start2 [.box g4 [.int .i64 0,.string (⟨#[]⟩:ByteArray),.slice none 0 0] 153,.box g5 [.int .i64 48,.string (⟨#[]⟩:ByteArray),.slice B23 l22.length d23] 153,.emp] [8] HS (HS.ar [some 0,some 1,none]) #[false,false,false,false,false,false,false,false,false] (by kernel_rfl) rfl rfl impl_each_string_0.tT5 (fun w31 HT HS HH=>?_)
   (try clear F)
   refine dqt [0,1,2,3] HT HH ?_
   refine dr1 4 HT fun K hK=>?_
   refine if_wp (by rfl) ?_;refine wp_callv Tryz.func157 (by kernel_rfl) rfl #[.string (rdOf ByteArray.empty a0 x24)] #[.string (rdOf ByteArray.empty a0 x24)] rfl rfl (by simp only [mpn];rfl) (by first|rfl|simp) ?_;refine(impl_TextItem.calls ht3.out).mono ?_;rintro _ wt3 ⟨v6,rfl,HQ⟩;refine⟨_,rfl,?_⟩;replace HS:=HS.call HQ;clear HQ;(try clear F);obtain⟨B6,d6,rfl,m6⟩:=HS.form 3 rfl
   (try simp only [hpn,hpm] at HS)
   have F:=HS.bx
   refine nra 19 hK (HS.ar [some 0,some 1,none]) fun HH=>?_;clear hK K
   refine dr1 5 HT fun K hK=>?_
   refine if_li q153 [3] ([t3]:List S153) ([.int .i64 t3.f0,.string t3.f1,.slice B6 t3.f2.length d6]++ []) HS (MadeL.cons (js1:=[3]) (c:=[.int .i64 t3.f0,.string t3.f1,.slice B6 t3.f2.length d6]) rfl (fun S hd hh=>q153_pack (x:=t3) hd (hh 3 (.own (Zd.slice 153 q153) t3.f2 [.slice B6 t3.f2.length d6]) rfl) (by decide)) MadeL.nil (by decide)) ?_;clear HS;intro v7 w7 HS F;obtain⟨B7,d7,rfl,m7⟩:=HS.formn 1 4 rfl rfl
   refine nra 20 hK (HS.ar [some 0,some 1,none]) fun HH=>?_;clear hK K
   refine dr1 6 HT fun K hK=>?_
   refine wp_ap q153 2 4 HS rfl rfl Tryz.underlying151 info153 (of_eq_true c8) ?_;clear HS;intro v9 w9 HS;rw [←e_y9.out] at HS;obtain⟨B9,d9,rfl,m9⟩:=HS.form 5 rfl
   (try simp only [hpn,hpm] at HS)
   have F:=HS.bx
   refine nra 21 hK (HS.ar [some 0,some 1,none]) fun HH=>?_;clear hK K
   refine dq [7] HT ?_
   refine dl 8 HT fun K hK=>?_
   refine if_st 1 2 HS (seg:=[.slice B9 y9.length d9]) ?_;clear HS;intro w10 HS F
   refine hK.out _ _ ?_
   clear hK K
   refine dn HT ?_
   (try clear F)
   have F:=HS.bx
   go_wp2
   go_roundg k21
   case measure=>have:=HKk21.out;omega
   case rel=>exact⟨_,_,_,rfl,H,⟨by have:=HKk21.out;omega⟩,HS.pi [0,1,5]⟩
def impl_BodyItem.f (k:Nat)(a0:S41):Option (S153):=((impl_IntItem.f k a0.f3).bind fun t13=>((impl_IntItem.f k a0.f4).bind fun t15=>((impl_ListItem.f k ([t13,t15]:List S153)).bind fun t18=>((impl_IntItem.f k a0.f0).bind fun t22=>((impl_TextItem.f a0.f1).bind fun t24=>((impl_TextItem.f a0.f2).bind fun t26=>((impl_bytesItem.f a0.f5).bind fun t28=>((impl_boolItem.f a0.f6).bind fun t30=>((impl_IntItem.f k a0.f7).bind fun t32=>((impl_IntItem.f k a0.f8).bind fun t34=>((impl_each_int_0.f k a0.f9).bind fun t36=>((impl_each_string_0.f k a0.f10).bind fun t38=>((impl_each_string_0.f k a0.f11).bind fun t40=>((impl_ListItem.f k ([t22,t24,t18,t26,t28,t30,t32,t34,t36,t38,t40]:List S153)).bind fun t44=>(some (⟨t44.f0,t44.f1,t44.f2⟩:S153))))))))))))))))
def impl_BodyItem.T1:TT:=(true,[([],[]),([0],[0]),([1],[1]),([],[]),([3],[3]),([4,2],[4]),([2,5],[2,5]),([6,5],[6]),([],[]),([8,7,7,0,1,2,3,4,5,6,7,8],[7,8])])
theorem impl_BodyItem.tT1:rtab .any (opsOf Tryz.f129 1)=impl_BodyItem.T1:=by kernel_rfl
def impl_BodyItem.T2:TT:=(true,[([],[]),([0],[0]),([1],[1]),([],[]),([3],[3]),([4,2],[4]),([],[]),([],[]),([7],[7]),([8,5],[8]),([],[]),([10],[10]),([11,9],[11]),([],[]),([13],[13]),([14,12],[14]),([],[]),([16],[16]),([17,15],[17]),([],[]),([19],[19]),([20,18],[20]),([],[]),([22],[22]),([23,21],[23]),([],[]),([25],[25]),([26,24],[26]),([],[]),([28],[28]),([29,27],[29]),([2,5,6,9,12,15,18,21,24,27,30],[2,5,6,9,12,15,18,21,24,27,30]),([31,30],[31]),([32,32,0,1,2,3,4,5,6,7,8,9,10,11,12,13,14,15,16,17,18,19,20,21,22,23,24,25,26,27,28,29,30,31,32],[32])])
theorem impl_BodyItem.tT2:rtab .any (opsOf Tryz.f129 2)=impl_BodyItem.T2:=by kernel_rfl
theorem impl_BodyItem.calls {k:Nat}{a0:S41}{Ap0 Ap1 Ap2:Option Addr}{np0 cp0 np1 cp1 np2 cp2:Nat}{r:S153}{w:World}(h:impl_BodyItem.f k a0=some r)(gp0:(Kd.int .i64).C w Ap0 np0 a0.f9)(lp0:np0≤cp0)(gp1:Kd.string.C w Ap1 np1 a0.f10)(lp1:np1≤cp1)(gp2:Kd.string.C w Ap2 np2 a0.f11)(lp2:np2≤cp2):
    Calls Tryz.prog 129 #[.agg #[.int .i64 a0.f0,.string a0.f1,.string a0.f2,.int .i64 a0.f3,.int .i64 a0.f4,.string a0.f5,.bool a0.f6,.int .i64 a0.f7,.int .i64 a0.f8,.slice Ap0 np0 cp0,.slice Ap1 np1 cp1,.slice Ap2 np2 cp2,.string a0.f12]] w (fun e w'=>∃v0_:Value,e=.returned (.agg #[.int .i64 r.f0,.string r.f1,v0_])∧Hp noFP w w' [.own (Zd.slice 153 q153) r.f2 [v0_]]):=by
 obtain rfl:=C_len gp0
 obtain rfl:=C_len gp1
 obtain rfl:=C_len gp2
 have HS:=Hp.start w
 have H:=Aside0.mk h
 clear h
 unfold impl_BodyItem.f at H
 go_enter Tryz.func129,Tryz.ntmps129
 go_wp2_with (first|((with_reducible refine gd 1 rfl ?_);refine ev_bx HS ?_;clear HS;intro g1 w1 HS F)|((with_reducible refine gd 2 rfl ?_);refine ev_bx HS ?_;clear HS;intro g2 w2 HS F))
 replace H:=zbind H;obtain⟨t13,ht13,H⟩:=H
 replace H:=zbind H;obtain⟨t15,ht15,H⟩:=H
 replace H:=zbind H;obtain⟨t18,ht18,H⟩:=H
 refine dr_start [9] HS #[false,false,false,false,false,false,false,false,false,false] (by kernel_rfl) rfl rfl impl_BodyItem.tT1 (fun w6 HT HS HH=>?_)
 (try clear F)
 refine join_ 0 #[true,true,true,true,true,true,true,true,true,true] (fun((v14,v16,v17,v19,g3):Value×Value×Value×Value×Nat)=>([(4,.pointer (some ⟨g1,3,none⟩)),(5,.int .i64 a0.f3),(6,.agg #[.int .i64 t13.f0,.string t13.f1,v14]),(7,.pointer (some ⟨g1,4,none⟩)),(8,.int .i64 a0.f4),(9,.agg #[.int .i64 t15.f0,.string t15.f1,v16]),(10,v17),(11,.agg #[.int .i64 t18.f0,.string t18.f1,v19]),(3,.pointer (some ⟨g3,0,none⟩))]:List (Tmp×Value))) (fun((v14,v16,v17,v19,g3):Value×Value×Value×Value×Nat) w'=>Hp noFP w w' [.box g1 [.int .i64 a0.f0,.string a0.f1,.string a0.f2,.int .i64 a0.f3,.int .i64 a0.f4,.string a0.f5,.bool a0.f6,.int .i64 a0.f7,.int .i64 a0.f8,.slice Ap0 a0.f9.length cp0,.slice Ap1 a0.f10.length cp1,.slice Ap2 a0.f11.length cp2,.string a0.f12] 41,.box g2 [.int .i64 0,.string (⟨#[]⟩:ByteArray),.slice none 0 0] 153,.emp,.emp,.own (Zd.slice 153 q153) ([t13,t15]:List S153) [v17],.own (Zd.slice 153 q153) t18.f2 [v19],.box g3 [.int .i64 t18.f0,.string t18.f1,v19] 153]) ?_ ?_
 rotate_left
 · intro hJ
   refine dqt [0,1,3,4] HT HH ?_
   refine dr_any [2,8] HT (by kernel_rfl) (by decide) (AllReadyL.cons rfl (by decide) (fun K hK=>?_) (AllReadyL.cons rfl (by decide) (fun K hK=>?_) AllReadyL.nil))
   · refine go_cl1 HS (impl_IntItem.calls ht13.out) Tryz.func156 ?_;clear HS;intro v14 wt13 HS F;obtain⟨B14,d14,rfl,m14⟩:=HS.form 2 rfl
     refine nrm 6 hK ⟨_,HS⟩ fun HH=>?_;clear hK K
     refine dr_any [5,8] HT (by kernel_rfl) (by decide) (AllReadyL.cons rfl (by decide) (fun K hK=>?_) (AllReadyL.cons rfl (by decide) (fun K hK=>?_) AllReadyL.nil))
     · refine go_cl1 HS (impl_IntItem.calls ht15.out) Tryz.func156 ?_;clear HS;intro v16 wt15 HS F;obtain⟨B16,d16,rfl,m16⟩:=HS.form 3 rfl
       refine nrm 9 hK ⟨_,HS⟩ fun HH=>?_;clear hK K
       refine dr_any [6,8] HT (by kernel_rfl) (by decide) (AllReadyL.cons rfl (by decide) (fun K hK=>?_) (AllReadyL.cons rfl (by decide) (fun K hK=>?_) AllReadyL.nil))
       · refine if_li q153 [2,3] ([t13,t15]:List S153) ([.int .i64 t13.f0,.string t13.f1,.slice B14 t13.f2.length d14]++([.int .i64 t15.f0,.string t15.f1,.slice B16 t15.f2.length d16]++ [])) HS (MadeL.cons (js1:=[2]) (c:=[.int .i64 t13.f0,.string t13.f1,.slice B14 t13.f2.length d14]) rfl (fun S hd hh=>q153_pack (x:=t13) hd (hh 2 (.own (Zd.slice 153 q153) t13.f2 [.slice B14 t13.f2.length d14]) rfl) (by decide)) (MadeL.cons (js1:=[3]) (c:=[.int .i64 t15.f0,.string t15.f1,.slice B16 t15.f2.length d16]) rfl (fun S hd hh=>q153_pack (x:=t15) hd (hh 3 (.own (Zd.slice 153 q153) t15.f2 [.slice B16 t15.f2.length d16]) rfl) (by decide)) MadeL.nil (by decide)) (by decide)) ?_;clear HS;intro v17 w17 HS F;obtain⟨B17,d17,rfl,m17⟩:=HS.formn 2 4 rfl rfl
         refine nrm 10 hK ⟨_,HS⟩ fun HH=>?_;clear hK K
         refine dr_any [7,8] HT (by kernel_rfl) (by decide) (AllReadyL.cons rfl (by decide) (fun K hK=>?_) (AllReadyL.cons rfl (by decide) (fun K hK=>?_) AllReadyL.nil))
         · refine go_cl1 HS (impl_ListItem.calls ht18.out (HS.rd 4 rfl) m17) Tryz.func128 ?_;clear HS;intro v19 wt18 HS F;obtain⟨B19,d19,rfl,m19⟩:=HS.form 5 rfl
           refine nrm 11 hK ⟨_,HS⟩ fun HH=>?_;clear hK K
           refine dr1 8 HT fun K hK=>?_
           refine if_bx HS ?_;clear HS;intro g3 w3 HS F
           refine nrm 3 hK ⟨_,HS⟩ fun HH=>?_;clear hK K
           refine dl 9 HT fun K hK=>?_
           refine if_st 6 0 HS (seg:=[.int .i64 t18.f0,.string t18.f1,.slice B19 t18.f2.length d19]) ?_;clear HS;intro w20 HS F
           refine hK.out _ _ ?_
           clear hK K
           refine norm_ ?_ (hJ (.slice B14 t13.f2.length d14,.slice B16 t15.f2.length d16,.slice B17 2 d17,.slice B19 t18.f2.length d19,g3) _ (HS.ar [some 0,some 1,none,none,some 4,some 5,some 6]))
           simp only [putAll,Act.put,ptn]
           (try rfl)
         · refine if_bx HS ?_;clear HS;intro g3 w3 HS F
           refine nrm 3 hK ⟨_,HS⟩ fun HH=>?_;clear hK K
           refine dr1 7 HT fun K hK=>?_
           refine go_cl1 HS (impl_ListItem.calls ht18.out (HS.rd 4 rfl) m17) Tryz.func128 ?_;clear HS;intro v19 wt18 HS F;obtain⟨B19,d19,rfl,m19⟩:=HS.form 6 rfl
           refine nrm 11 hK ⟨_,HS⟩ fun HH=>?_;clear hK K
           refine dl 9 HT fun K hK=>?_
           refine if_st 5 0 HS (seg:=[.int .i64 t18.f0,.string t18.f1,.slice B19 t18.f2.length d19]) ?_;clear HS;intro w20 HS F
           refine hK.out _ _ ?_
           clear hK K
           refine norm_ ?_ (hJ (.slice B14 t13.f2.length d14,.slice B16 t15.f2.length d16,.slice B17 2 d17,.slice B19 t18.f2.length d19,g3) _ (HS.ar [some 0,some 1,none,none,some 4,some 6,some 5]))
           simp only [putAll,Act.put,ptn]
           (try rfl)
       · refine if_bx HS ?_;clear HS;intro g3 w3 HS F
         refine nrm 3 hK ⟨_,HS⟩ fun HH=>?_;clear hK K
         refine dr1 6 HT fun K hK=>?_
         refine if_li q153 [2,3] ([t13,t15]:List S153) ([.int .i64 t13.f0,.string t13.f1,.slice B14 t13.f2.length d14]++([.int .i64 t15.f0,.string t15.f1,.slice B16 t15.f2.length d16]++ [])) HS (MadeL.cons (js1:=[2]) (c:=[.int .i64 t13.f0,.string t13.f1,.slice B14 t13.f2.length d14]) rfl (fun S hd hh=>q153_pack (x:=t13) hd (hh 2 (.own (Zd.slice 153 q153) t13.f2 [.slice B14 t13.f2.length d14]) rfl) (by decide)) (MadeL.cons (js1:=[3]) (c:=[.int .i64 t15.f0,.string t15.f1,.slice B16 t15.f2.length d16]) rfl (fun S hd hh=>q153_pack (x:=t15) hd (hh 3 (.own (Zd.slice 153 q153) t15.f2 [.slice B16 t15.f2.length d16]) rfl) (by decide)) MadeL.nil (by decide)) (by decide)) ?_;clear HS;intro v17 w17 HS F;obtain⟨B17,d17,rfl,m17⟩:=HS.formn 2 5 rfl rfl
         refine nrm 10 hK ⟨_,HS⟩ fun HH=>?_;clear hK K
         refine dr1 7 HT fun K hK=>?_
         refine go_cl1 HS (impl_ListItem.calls ht18.out (HS.rd 5 rfl) m17) Tryz.func128 ?_;clear HS;intro v19 wt18 HS F;obtain⟨B19,d19,rfl,m19⟩:=HS.form 6 rfl
         refine nrm 11 hK ⟨_,HS⟩ fun HH=>?_;clear hK K
         refine dl 9 HT fun K hK=>?_
         refine if_st 4 0 HS (seg:=[.int .i64 t18.f0,.string t18.f1,.slice B19 t18.f2.length d19]) ?_;clear HS;intro w20 HS F
         refine hK.out _ _ ?_
         clear hK K
         refine norm_ ?_ (hJ (.slice B14 t13.f2.length d14,.slice B16 t15.f2.length d16,.slice B17 2 d17,.slice B19 t18.f2.length d19,g3) _ (HS.ar [some 0,some 1,none,none,some 5,some 6,some 4]))
         simp only [putAll,Act.put,ptn]
         (try rfl)
     · refine if_bx HS ?_;clear HS;intro g3 w3 HS F
       refine nrm 3 hK ⟨_,HS⟩ fun HH=>?_;clear hK K
       refine dr1 5 HT fun K hK=>?_
       refine go_cl1 HS (impl_IntItem.calls ht15.out) Tryz.func156 ?_;clear HS;intro v16 wt15 HS F;obtain⟨B16,d16,rfl,m16⟩:=HS.form 4 rfl
       refine nrm 9 hK ⟨_,HS⟩ fun HH=>?_;clear hK K
       refine dr1 6 HT fun K hK=>?_
       refine if_li q153 [2,4] ([t13,t15]:List S153) ([.int .i64 t13.f0,.string t13.f1,.slice B14 t13.f2.length d14]++([.int .i64 t15.f0,.string t15.f1,.slice B16 t15.f2.length d16]++ [])) HS (MadeL.cons (js1:=[2]) (c:=[.int .i64 t13.f0,.string t13.f1,.slice B14 t13.f2.length d14]) rfl (fun S hd hh=>q153_pack (x:=t13) hd (hh 2 (.own (Zd.slice 153 q153) t13.f2 [.slice B14 t13.f2.length d14]) rfl) (by decide)) (MadeL.cons (js1:=[4]) (c:=[.int .i64 t15.f0,.string t15.f1,.slice B16 t15.f2.length d16]) rfl (fun S hd hh=>q153_pack (x:=t15) hd (hh 4 (.own (Zd.slice 153 q153) t15.f2 [.slice B16 t15.f2.length d16]) rfl) (by decide)) MadeL.nil (by decide)) (by decide)) ?_;clear HS;intro v17 w17 HS F;obtain⟨B17,d17,rfl,m17⟩:=HS.formn 2 5 rfl rfl
       refine nrm 10 hK ⟨_,HS⟩ fun HH=>?_;clear hK K
       refine dr1 7 HT fun K hK=>?_
       refine go_cl1 HS (impl_ListItem.calls ht18.out (HS.rd 5 rfl) m17) Tryz.func128 ?_;clear HS;intro v19 wt18 HS F;obtain⟨B19,d19,rfl,m19⟩:=HS.form 6 rfl
       refine nrm 11 hK ⟨_,HS⟩ fun HH=>?_;clear hK K
       refine dl 9 HT fun K hK=>?_
       refine if_st 3 0 HS (seg:=[.int .i64 t18.f0,.string t18.f1,.slice B19 t18.f2.length d19]) ?_;clear HS;intro w20 HS F
       refine hK.out _ _ ?_
       clear hK K
       refine norm_ ?_ (hJ (.slice B14 t13.f2.length d14,.slice B16 t15.f2.length d16,.slice B17 2 d17,.slice B19 t18.f2.length d19,g3) _ (HS.ar [some 0,some 1,none,none,some 5,some 6,some 3]))
       simp only [putAll,Act.put,ptn]
       (try rfl)
   · refine if_bx HS ?_;clear HS;intro g3 w3 HS F
     refine nrm 3 hK ⟨_,HS⟩ fun HH=>?_;clear hK K
     refine dr1 2 HT fun K hK=>?_
     refine go_cl1 HS (impl_IntItem.calls ht13.out) Tryz.func156 ?_;clear HS;intro v14 wt13 HS F;obtain⟨B14,d14,rfl,m14⟩:=HS.form 3 rfl
     refine nrm 6 hK ⟨_,HS⟩ fun HH=>?_;clear hK K
     refine dr1 5 HT fun K hK=>?_
     refine go_cl1 HS (impl_IntItem.calls ht15.out) Tryz.func156 ?_;clear HS;intro v16 wt15 HS F;obtain⟨B16,d16,rfl,m16⟩:=HS.form 4 rfl
     refine nrm 9 hK ⟨_,HS⟩ fun HH=>?_;clear hK K
     refine dr1 6 HT fun K hK=>?_
     refine if_li q153 [3,4] ([t13,t15]:List S153) ([.int .i64 t13.f0,.string t13.f1,.slice B14 t13.f2.length d14]++([.int .i64 t15.f0,.string t15.f1,.slice B16 t15.f2.length d16]++ [])) HS (MadeL.cons (js1:=[3]) (c:=[.int .i64 t13.f0,.string t13.f1,.slice B14 t13.f2.length d14]) rfl (fun S hd hh=>q153_pack (x:=t13) hd (hh 3 (.own (Zd.slice 153 q153) t13.f2 [.slice B14 t13.f2.length d14]) rfl) (by decide)) (MadeL.cons (js1:=[4]) (c:=[.int .i64 t15.f0,.string t15.f1,.slice B16 t15.f2.length d16]) rfl (fun S hd hh=>q153_pack (x:=t15) hd (hh 4 (.own (Zd.slice 153 q153) t15.f2 [.slice B16 t15.f2.length d16]) rfl) (by decide)) MadeL.nil (by decide)) (by decide)) ?_;clear HS;intro v17 w17 HS F;obtain⟨B17,d17,rfl,m17⟩:=HS.formn 2 5 rfl rfl
     refine nrm 10 hK ⟨_,HS⟩ fun HH=>?_;clear hK K
     refine dr1 7 HT fun K hK=>?_
     refine go_cl1 HS (impl_ListItem.calls ht18.out (HS.rd 5 rfl) m17) Tryz.func128 ?_;clear HS;intro v19 wt18 HS F;obtain⟨B19,d19,rfl,m19⟩:=HS.form 6 rfl
     refine nrm 11 hK ⟨_,HS⟩ fun HH=>?_;clear hK K
     refine dl 9 HT fun K hK=>?_
     refine if_st 2 0 HS (seg:=[.int .i64 t18.f0,.string t18.f1,.slice B19 t18.f2.length d19]) ?_;clear HS;intro w20 HS F
     refine hK.out _ _ ?_
     clear hK K
     refine norm_ ?_ (hJ (.slice B14 t13.f2.length d14,.slice B16 t15.f2.length d16,.slice B17 2 d17,.slice B19 t18.f2.length d19,g3) _ (HS.ar [some 0,some 1,none,none,some 5,some 6,some 2]))
     simp only [putAll,Act.put,ptn]
     (try rfl)
 rintro⟨v14,v16,v17,v19,g3⟩ w21 HS
 obtain⟨B17,d17,rfl,m17⟩:=HS.formn 2 4 rfl (by first|rfl|simp)
 obtain⟨B19,d19,rfl,m19⟩:=HS.form 5 rfl
 have F:=HS.bx
 refine norm_ (a':=?_) ?_ ?_
 rotate_left
 · simp only [putAll,Act.put,ptn];rfl
 refine dn HT ?_
 (try go_wp2)
 replace H:=zbind H;obtain⟨t22,ht22,H⟩:=H
 replace H:=zbind H;obtain⟨t24,ht24,H⟩:=H
 replace H:=zbind H;obtain⟨t26,ht26,H⟩:=H
 replace H:=zbind H;obtain⟨t28,ht28,H⟩:=H
 replace H:=zbind H;obtain⟨t30,ht30,H⟩:=H
 replace H:=zbind H;obtain⟨t32,ht32,H⟩:=H
 replace H:=zbind H;obtain⟨t34,ht34,H⟩:=H
 replace H:=zbind H;obtain⟨t36,ht36,H⟩:=H
 replace H:=zbind H;obtain⟨t38,ht38,H⟩:=H
 replace H:=zbind H;obtain⟨t40,ht40,H⟩:=H
 replace H:=zbind H;obtain⟨t44,ht44,H⟩:=H
 refine dr_start2 [.box g1 [.int .i64 a0.f0,.string a0.f1,.string a0.f2,.int .i64 a0.f3,.int .i64 a0.f4,.string a0.f5,.bool a0.f6,.int .i64 a0.f7,.int .i64 a0.f8,.slice Ap0 a0.f9.length cp0,.slice Ap1 a0.f10.length cp1,.slice Ap2 a0.f11.length cp2,.string a0.f12] 41,.box g2 [.int .i64 0,.string (⟨#[]⟩:ByteArray),.slice none 0 0] 153,.emp,.emp,.own (Zd.slice 153 q153) ([t13,t15]:List S153) [.slice B17 2 d17],.emp,.box g3 [.int .i64 t18.f0,.string t18.f1,.slice B19 t18.f2.length d19] 153] [33] HS (HS.ar [some 0,some 1,none,none,some 4,none,some 6]) #[false,false,false,false,false,false,false,false,false,false,false,false,false,false,false,false,false,false,false,false,false,false,false,false,false,false,false,false,false,false,false,false,false,false] (by kernel_rfl) rfl rfl impl_BodyItem.tT2 (fun w9 HT HS HH=>?_)
 (try clear F)
 refine dqt [0,1,3,4,6,7,8,10,11,13,14,16,17,19,20,22,23,25,26,28,29] HT HH ?_
 refine dr1 2 HT fun K hK=>?_
 refine go_cl1 HS (impl_IntItem.calls ht22.out) Tryz.func156 ?_;clear HS;intro v23 wt22 HS F;obtain⟨B23,d23,rfl,m23⟩:=HS.form 7 rfl
 refine nra 14 hK (HS.ar [some 0,some 1,none,none,some 4,none,some 6]) fun HH=>?_;clear hK K
 refine dr1 5 HT fun K hK=>?_
 refine go_cl1 HS (impl_TextItem.calls ht24.out) Tryz.func157 ?_;clear HS;intro v25 wt24 HS F;obtain⟨B25,d25,rfl,m25⟩:=HS.form 8 rfl
 refine nra 17 hK (HS.ar [some 0,some 1,none,none,some 4,none,some 6]) fun HH=>?_;clear hK K
 refine dr1 9 HT fun K hK=>?_
 refine go_cl1 HS (impl_TextItem.calls ht26.out) Tryz.func157 ?_;clear HS;intro v27 wt26 HS F;obtain⟨B27,d27,rfl,m27⟩:=HS.form 9 rfl
 refine nra 21 hK (HS.ar [some 0,some 1,none,none,some 4,none,some 6]) fun HH=>?_;clear hK K
 refine dr1 12 HT fun K hK=>?_
 refine go_cl1 HS (impl_bytesItem.calls ht28.out) Tryz.func130 ?_;clear HS;intro v29 wt28 HS F;obtain⟨B29,d29,rfl,m29⟩:=HS.form 10 rfl
 refine nra 24 hK (HS.ar [some 0,some 1,none,none,some 4,none,some 6]) fun HH=>?_;clear hK K
 refine dr1 15 HT fun K hK=>?_
 refine go_cl1 HS (impl_boolItem.calls ht30.out) Tryz.func158 ?_;clear HS;intro v31 wt30 HS F;obtain⟨B31,d31,rfl,m31⟩:=HS.form 11 rfl
 refine nra 27 hK (HS.ar [some 0,some 1,none,none,some 4,none,some 6]) fun HH=>?_;clear hK K
 refine dr1 18 HT fun K hK=>?_
 refine go_cl1 HS (impl_IntItem.calls ht32.out) Tryz.func156 ?_;clear HS;intro v33 wt32 HS F;obtain⟨B33,d33,rfl,m33⟩:=HS.form 12 rfl
 refine nra 30 hK (HS.ar [some 0,some 1,none,none,some 4,none,some 6]) fun HH=>?_;clear hK K
 refine dr1 21 HT fun K hK=>?_
 refine go_cl1 HS (impl_IntItem.calls ht34.out) Tryz.func156 ?_;clear HS;intro v35 wt34 HS F;obtain⟨B35,d35,rfl,m35⟩:=HS.form 13 rfl
 refine nra 33 hK (HS.ar [some 0,some 1,none,none,some 4,none,some 6]) fun HH=>?_;clear hK K
 refine dr1 24 HT fun K hK=>?_
 refine go_cl1 HS (impl_each_int_0.calls ht36.out (HS.ro gp0) lp0) Tryz.func159 ?_;clear HS;intro v37 wt36 HS F;obtain⟨B37,d37,rfl,m37⟩:=HS.form 14 rfl
 refine nra 36 hK (HS.ar [some 0,some 1,none,none,some 4,none,some 6]) fun HH=>?_;clear hK K
 refine dr1 27 HT fun K hK=>?_
 refine go_cl1 HS (impl_each_string_0.calls ht38.out (HS.ro gp1) lp1) Tryz.func160 ?_;clear HS;intro v39 wt38 HS F;obtain⟨B39,d39,rfl,m39⟩:=HS.form 15 rfl
 refine nra 39 hK (HS.ar [some 0,some 1,none,none,some 4,none,some 6]) fun HH=>?_;clear hK K
 refine dr1 30 HT fun K hK=>?_
 refine go_cl1 HS (impl_each_string_0.calls ht40.out (HS.ro gp2) lp2) Tryz.func160 ?_;clear HS;intro v42 wt40 HS F;obtain⟨B42,d42,rfl,m42⟩:=HS.form 16 rfl
 refine nra 42 hK (HS.ar [some 0,some 1,none,none,some 4,none,some 6]) fun HH=>?_;clear hK K
 refine dr1 31 HT fun K hK=>?_
 refine if_li q153 [7,8,5,9,10,11,12,13,14,15,16] ([t22,t24,t18,t26,t28,t30,t32,t34,t36,t38,t40]:List S153) ([.int .i64 t22.f0,.string t22.f1,.slice B23 t22.f2.length d23]++([.int .i64 t24.f0,.string t24.f1,.slice B25 t24.f2.length d25]++([.int .i64 t18.f0,.string t18.f1,.slice B19 t18.f2.length d19]++([.int .i64 t26.f0,.string t26.f1,.slice B27 t26.f2.length d27]++([.int .i64 t28.f0,.string t28.f1,.slice B29 t28.f2.length d29]++([.int .i64 t30.f0,.string t30.f1,.slice B31 t30.f2.length d31]++([.int .i64 t32.f0,.string t32.f1,.slice B33 t32.f2.length d33]++([.int .i64 t34.f0,.string t34.f1,.slice B35 t34.f2.length d35]++([.int .i64 t36.f0,.string t36.f1,.slice B37 t36.f2.length d37]++([.int .i64 t38.f0,.string t38.f1,.slice B39 t38.f2.length d39]++([.int .i64 t40.f0,.string t40.f1,.slice B42 t40.f2.length d42]++ []))))))))))) HS (MadeL.cons (js1:=[7]) (c:=[.int .i64 t22.f0,.string t22.f1,.slice B23 t22.f2.length d23]) rfl (fun S hd hh=>q153_pack (x:=t22) hd (hh 7 (.own (Zd.slice 153 q153) t22.f2 [.slice B23 t22.f2.length d23]) rfl) (by decide)) (MadeL.cons (js1:=[8]) (c:=[.int .i64 t24.f0,.string t24.f1,.slice B25 t24.f2.length d25]) rfl (fun S hd hh=>q153_pack (x:=t24) hd (hh 8 (.own (Zd.slice 153 q153) t24.f2 [.slice B25 t24.f2.length d25]) rfl) (by decide)) (MadeL.cons (js1:=[5]) (c:=[.int .i64 t18.f0,.string t18.f1,.slice B19 t18.f2.length d19]) rfl (fun S hd hh=>q153_pack (x:=t18) hd (hh 5 (.own (Zd.slice 153 q153) t18.f2 [.slice B19 t18.f2.length d19]) rfl) (by decide)) (MadeL.cons (js1:=[9]) (c:=[.int .i64 t26.f0,.string t26.f1,.slice B27 t26.f2.length d27]) rfl (fun S hd hh=>q153_pack (x:=t26) hd (hh 9 (.own (Zd.slice 153 q153) t26.f2 [.slice B27 t26.f2.length d27]) rfl) (by decide)) (MadeL.cons (js1:=[10]) (c:=[.int .i64 t28.f0,.string t28.f1,.slice B29 t28.f2.length d29]) rfl (fun S hd hh=>q153_pack (x:=t28) hd (hh 10 (.own (Zd.slice 153 q153) t28.f2 [.slice B29 t28.f2.length d29]) rfl) (by decide)) (MadeL.cons (js1:=[11]) (c:=[.int .i64 t30.f0,.string t30.f1,.slice B31 t30.f2.length d31]) rfl (fun S hd hh=>q153_pack (x:=t30) hd (hh 11 (.own (Zd.slice 153 q153) t30.f2 [.slice B31 t30.f2.length d31]) rfl) (by decide)) (MadeL.cons (js1:=[12]) (c:=[.int .i64 t32.f0,.string t32.f1,.slice B33 t32.f2.length d33]) rfl (fun S hd hh=>q153_pack (x:=t32) hd (hh 12 (.own (Zd.slice 153 q153) t32.f2 [.slice B33 t32.f2.length d33]) rfl) (by decide)) (MadeL.cons (js1:=[13]) (c:=[.int .i64 t34.f0,.string t34.f1,.slice B35 t34.f2.length d35]) rfl (fun S hd hh=>q153_pack (x:=t34) hd (hh 13 (.own (Zd.slice 153 q153) t34.f2 [.slice B35 t34.f2.length d35]) rfl) (by decide)) (MadeL.cons (js1:=[14]) (c:=[.int .i64 t36.f0,.string t36.f1,.slice B37 t36.f2.length d37]) rfl (fun S hd hh=>q153_pack (x:=t36) hd (hh 14 (.own (Zd.slice 153 q153) t36.f2 [.slice B37 t36.f2.length d37]) rfl) (by decide)) (MadeL.cons (js1:=[15]) (c:=[.int .i64 t38.f0,.string t38.f1,.slice B39 t38.f2.length d39]) rfl (fun S hd hh=>q153_pack (x:=t38) hd (hh 15 (.own (Zd.slice 153 q153) t38.f2 [.slice B39 t38.f2.length d39]) rfl) (by decide)) (MadeL.cons (js1:=[16]) (c:=[.int .i64 t40.f0,.string t40.f1,.slice B42 t40.f2.length d42]) rfl (fun S hd hh=>q153_pack (x:=t40) hd (hh 16 (.own (Zd.slice 153 q153) t40.f2 [.slice B42 t40.f2.length d42]) rfl) (by decide)) MadeL.nil (by decide)) (by decide)) (by decide)) (by decide)) (by decide)) (by decide)) (by decide)) (by decide)) (by decide)) (by decide)) (by decide)) ?_;clear HS;intro v43 w43 HS F;obtain⟨B43,d43,rfl,m43⟩:=HS.formn 11 17 rfl rfl
 refine nra 43 hK (HS.ar [some 0,some 1,none,none,some 4,none,some 6]) fun HH=>?_;clear hK K
 refine dr1 32 HT fun K hK=>?_
 refine go_cl1 HS (impl_ListItem.calls ht44.out (HS.rd 17 rfl) m43) Tryz.func128 ?_;clear HS;intro v45 wt44 HS F;obtain⟨B45,d45,rfl,m45⟩:=HS.form 18 rfl
 refine nra 44 hK (HS.ar [some 0,some 1,none,none,some 4,none,some 6]) fun HH=>?_;clear hK K
 refine dl 33 HT fun K hK=>?_
 refine if_st 1 0 HS (seg:=[.int .i64 t44.f0,.string t44.f1,.slice B45 t44.f2.length d45]) ?_;clear HS;intro w46 HS F
 refine hK.out _ _ ?_
 clear hK K
 refine dn HT ?_
 (try clear F)
 have F:=HS.bx
 obtain rfl:=zsome H
 go_wp2
 exact rc 1 HS Tryz.underlying153 ⟨_,rfl,HS.pi [18]⟩
def impl_timeOk.f (a0:Int):Option (Bool):=((impl_within.f a0 0 9999).bind fun t1=>(some t1))
theorem impl_timeOk.calls {a0:Int}{r:Bool}{w:World}(h:impl_timeOk.f a0=some r):
    Calls Tryz.prog 104 #[.int .i64 a0] w (fun e w'=>e=.returned (.bool r)∧Hp noFP w w' []):=by
 have HS:=Hp.start w
 have H:=Aside0.mk h
 clear h
 unfold impl_timeOk.f at H
 go_enter Tryz.func104,Tryz.ntmps104
 replace H:=zbind H;obtain⟨t1,ht1,H⟩:=H
 obtain rfl:=zsome H
 go_wp2_with ((with_reducible refine gd 4 rfl ?_);refine ev_cl HS (impl_within.calls ht1.out) Tryz.func105 ?_;clear HS;intro wt1 HS F)
 go_ret
 exact HS.pk
def impl_PoliciesOk.l0:Nat→Int→(List Int)→Option (Bool)
  |0,_,_=>none
  |k+1,x4,a0=>(if x4<(a0.length:Int)then(if 0≤x4 then(if x4<(a0.length:Int)then((impl_within.f (rd a0 x4) 0 99).bind fun t10=>(if t10=true then(if 0<x4 then(if 0≤(wrap64 (x4 - 1))then(if(wrap64 (x4 - 1))<(a0.length:Int)then(if(rd a0 x4)≤(rd a0 (wrap64 (x4 - 1)))then(some false)else(impl_PoliciesOk.l0 k (wrap64 (x4+1)) a0))else none)else none)else(impl_PoliciesOk.l0 k (wrap64 (x4+1)) a0))else(some false)))else none)else none)else(some (decide ((a0.length:Int)≤4))))
def impl_PoliciesOk.f (k:Nat)(a0:(List Int)):Option (Bool):=(impl_PoliciesOk.l0 k 0 a0)
theorem impl_PoliciesOk.calls {k:Nat}{a0:(List Int)}{Ap0:Option Addr}{np0 cp0:Nat}{r:Bool}{w:World}(h:impl_PoliciesOk.f k a0=some r)(gp0:(Kd.int .i64).C w Ap0 np0 a0)(lp0:np0≤cp0):
    Calls Tryz.prog 106 #[.slice Ap0 np0 cp0] w (fun e w'=>e=.returned (.bool r)∧Hp noFP w w' []):=by
 obtain rfl:=C_len gp0
 have HS:=Hp.start w
 have H:=Aside0.mk h
 clear h
 unfold impl_PoliciesOk.f at H
 go_enter Tryz.func106,Tryz.ntmps106
 go_wp2
 go_loopg [7] k (fun kq v_7 w'=>∃(x4:Int),v_7=.int .i64 x4∧Aside0 (impl_PoliciesOk.l0 kq x4 a0=some r)∧Aside0 (kq≤k)∧Hp noFP w w' [])
 case atStart=>exact⟨_,rfl,H,⟨Nat.le_refl _⟩,HS⟩
 case round=>
  clear HS H;(try clear F)
  obtain⟨x4,rfl,H,HKk3,HS⟩:=hrel
  cases gk with
  |zero=>exact absurd H.out (by simp [impl_PoliciesOk.l0])
  | succ k3=>
   simp only [impl_PoliciesOk.l0] at H
   replace H:=znif H;rcases H with⟨c6,H⟩|⟨c6,H⟩
   ·
    obtain rfl:=zsome H
    go_wp2
    go_ret
    exact HS.pk
   replace H:=zgo H;obtain⟨c7,H⟩:=H
   replace H:=zgo H;obtain⟨c8,H⟩:=H
   obtain⟨ad9,rfl,e9_0⟩:=Kd.at_int gp0 x4 (of_eq_true c7) (of_eq_true c8)
   have e9_0_9:=HS.keepc e9_0
   replace H:=zbind H;obtain⟨t10,ht10,H⟩:=H
   replace H:=znifb H;rcases H with⟨c12,H⟩|⟨c12,H⟩
   ·
    subst c12
    obtain rfl:=zsome H
    go_wp2_with ((with_reducible refine gd 13 rfl ?_);refine ev_cl HS (impl_within.calls ht10.out) Tryz.func105 ?_;clear HS;intro wt10 HS F)
    go_ret
    exact HS.pk
   subst c12
   replace H:=znif H;rcases H with⟨c13,H⟩|⟨c13,H⟩
   ·
    go_wp2_with ((with_reducible refine gd 13 rfl ?_);refine ev_cl HS (impl_within.calls ht10.out) Tryz.func105 ?_;clear HS;intro wt10 HS F)
    go_roundg k3
    case measure=>have:=HKk3.out;omega
    case rel=>exact⟨_,rfl,H,⟨by have:=HKk3.out;omega⟩,HS.pi []⟩
   replace H:=zgo H;obtain⟨c14,H⟩:=H
   replace H:=zgo H;obtain⟨c15,H⟩:=H
   go_upto_if 27 with((with_reducible refine gd 13 rfl ?_);refine ev_cl HS (impl_within.calls ht10.out) Tryz.func105 ?_;clear HS;intro wt10 HS F;obtain⟨ad16,hq16,e16_0⟩:=Kd.at_int gp0 (wrap64 (x4 - 1)) (of_eq_true c14) (of_eq_true c15);obtain rfl:=Option.some.inj hq16;have e16_0_16:=HS.keepc e16_0)
   replace H:=zif H;rcases H with⟨c17,H⟩|⟨c17,H⟩
   ·
    (try simp only [c17,dcn])
    obtain rfl:=zsome H
    go_wp2
    go_ret
    exact HS.pk
   (try simp only [c17,dcn])
   go_wp2
   go_roundg k3
   case measure=>have:=HKk3.out;omega
   case rel=>exact⟨_,rfl,H,⟨by have:=HKk3.out;omega⟩,HS.pi []⟩
end Go.Proofs.YtncddikfafgklaaGreatDoor.F

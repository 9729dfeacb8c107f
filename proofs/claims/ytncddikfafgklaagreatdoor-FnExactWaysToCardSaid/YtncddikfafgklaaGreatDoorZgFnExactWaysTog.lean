/- Functions of the program and of the law, and that their calls do what is written here. -/
import Derived.Test.YtncddikfafgklaaGreatDoorZgFnExactWaysToa
import Derived.Test.YtncddikfafgklaaGreatDoorZgFnExactWaysToc
import Derived.Test.YtncddikfafgklaaGreatDoorZgFnExactWaysTod
import Derived.Test.YtncddikfafgklaaGreatDoorZgFnExactWaysTof
namespace Go.Proofs.YtncddikfafgklaaGreatDoor.F
open Go.RowKit YtncddikfafgklaaGreatDoorW.PrintWords YtncddikfafgklaaGreatDoorW.PrintLast YtncddikfafgklaaGreatDoorW.PrintMore Z
attribute [local go_sem] max2_int min2_int max_two min_two max_three min_three max_four min_four
set_option linter.unusedVariables false
set_option linter.unusedSimpArgs false
set_option maxRecDepth 100000
set_option maxHeartbeats 16000000
def laws_toCrl.f (k:Nat)(a0:S124):Option (S69):=((laws_toRevS.f k a0.f5).bind fun t17=>(some (⟨a0.f0,a0.f1,a0.f2,a0.f3,a0.f4,t17,a0.f6⟩:S69)))
theorem laws_toCrl.calls {k:Nat}{a0:S124}{Ap0:Option Addr}{np0 cp0:Nat}{r:S69}{w:World}(h:laws_toCrl.f k a0=some r)(gp0:k189.C w Ap0 np0 a0.f5)(lp0:np0≤cp0):
    Calls Tryz.prog 102 #[.agg #[.string a0.f0,.int .i64 a0.f1,.int .i64 a0.f2,.int .i64 a0.f3,.int .i64 a0.f4,.slice Ap0 np0 cp0,.string a0.f6]] w (fun e w'=>∃v0_:Value,e=.returned (.agg #[.string r.f0,.int .i64 r.f1,.int .i64 r.f2,.int .i64 r.f3,.int .i64 r.f4,v0_,.string r.f6])∧Hp noFP w w' [.own (Zd.slice 163 q163) r.f5 [v0_]]):=by
 obtain rfl:=C_len gp0
 have HS:=Hp.start w
 have H:=Aside0.mk h
 clear h
 unfold laws_toCrl.f at H
 go_enter Tryz.func102,Tryz.ntmps102
 replace H:=zbind H;obtain⟨t17,ht17,H⟩:=H
 obtain rfl:=zsome H
 go_wp2_with (first|((with_reducible refine gd 1 rfl ?_);refine ev_bx HS ?_;clear HS;intro g1 w1 HS F)|((with_reducible refine gd 2 rfl ?_);refine ev_bx HS ?_;clear HS;intro g2 w2 HS F)|((with_reducible refine gd 3 rfl ?_);refine ev_bx HS ?_;clear HS;intro g3 w3 HS F)|((with_reducible refine gate_store (p:=6) rfl ?_);refine ev_st 2 0 HS (seg:=[.string a0.f0]) ?_;clear HS;intro w7 HS F)|((with_reducible refine gate_store (p:=9) rfl ?_);refine ev_st 2 1 HS (seg:=[.int .i64 a0.f1]) ?_;clear HS;intro w9 HS F)|((with_reducible refine gate_store (p:=12) rfl ?_);refine ev_st 2 2 HS (seg:=[.int .i64 a0.f2]) ?_;clear HS;intro w11 HS F)|((with_reducible refine gate_store (p:=15) rfl ?_);refine ev_st 2 3 HS (seg:=[.int .i64 a0.f3]) ?_;clear HS;intro w13 HS F)|((with_reducible refine gate_store (p:=18) rfl ?_);refine ev_st 2 4 HS (seg:=[.int .i64 a0.f4]) ?_;clear HS;intro w15 HS F)|((with_reducible refine gd 21 rfl ?_);refine ev_cl1 HS (laws_toRevS.calls ht17.out (HS.ro gp0) lp0) Tryz.func142 ?_;clear HS;intro v18 wt17 HS F;obtain⟨B18,d18,rfl,m18⟩:=HS.form 3 rfl)|((with_reducible refine gate_store (p:=22) rfl ?_);refine ev_st 2 5 HS (seg:=[.slice B18 t17.length d18]) ?_;clear HS;intro w20 HS F)|((with_reducible refine gate_store (p:=25) rfl ?_);refine ev_st 2 6 HS (seg:=[.string a0.f6]) ?_;clear HS;intro w22 HS F)|((with_reducible refine gate_store (p:=2) rfl ?_);refine ev_st 1 0 HS (seg:=[.string a0.f0,.int .i64 a0.f1,.int .i64 a0.f2,.int .i64 a0.f3,.int .i64 a0.f4,.slice B18 t17.length d18,.string a0.f6]) ?_;clear HS;intro w24 HS F))
 exact rc 1 HS Tryz.underlying69 ⟨_,rfl,HS.pi [3]⟩
def laws_toCrlS.l0:Nat→(List S69)→Int→(List S124)→Option ((List S69))
  |0,_,_,_=>none
  |k+1,l21,x23,a0=>(if x23<(a0.length:Int)then(if 0≤x23 then(if x23<(a0.length:Int)then((laws_toCrl.f k (rd_T124 a0 x23)).bind fun t29=>(laws_toCrlS.l0 k (l21.set (x23).toNat t29) (wrap64 (x23+1)) a0))else none)else none)else(some l21))
def laws_toCrlS.f (k:Nat)(a0:(List S124)):Option ((List S69)):=(if 0≤(a0.length:Int)then(if((a0.length:Int)).toNat≤3198579280802 then(laws_toCrlS.l0 k (List.replicate a0.length z69) 0 a0)else none)else none)
theorem laws_toCrlS.calls {k:Nat}{a0:(List S124)}{Ap0:Option Addr}{np0 cp0:Nat}{r:(List S69)}{w:World}(h:laws_toCrlS.f k a0=some r)(gp0:k124.C w Ap0 np0 a0)(lp0:np0≤cp0):
    Calls Tryz.prog 44 #[.slice Ap0 np0 cp0] w (fun e w'=>∃v0_:Value,e=.returned (v0_)∧Hp noFP w w' [.own (Zd.slice 69 q69) r [v0_]]):=by
 obtain rfl:=C_len gp0
 have HS:=Hp.start w
 have H:=Aside0.mk h
 clear h
 unfold laws_toCrlS.f at H
 go_enter Tryz.func44,Tryz.ntmps44
 replace H:=zgo H;obtain⟨c1,H⟩:=H
 replace H:=zgo H;obtain⟨c2,H⟩:=H
 go_wp2_with ((with_reducible refine gd 7 rfl ?_);refine ev_make rfl q69 z69 HS rfl (a0.length:Int) rfl rfl Tryz.underlying36 info69 rfl (by decide) (by decide) q69_zero (of_eq_true c1) (by have:=of_eq_true c2;omega) ?_;clear HS;intro v3 w3 HS;obtain⟨B3,d3,rfl,m3⟩:=HS.formn a0.length 0 rfl (by first|rfl|simp);(try simp only [hpn,hpm] at HS))
 go_loopg [4] k (fun kq v_4 w'=>∃(l21:List S69) (x23:Int),v_4=.int .i64 x23∧Aside0 (laws_toCrlS.l0 kq l21 x23 a0=some r)∧Aside0 (kq≤k)∧Hp noFP w w' [.own (Zd.slice 69 q69) l21 [.slice B3 a0.length d3]])
 case atStart=>exact⟨_,_,rfl,H,⟨Nat.le_refl _⟩,HS⟩
 case round=>
  clear HS H;(try clear F)
  obtain⟨l21,x23,rfl,H,HKk20,HS⟩:=hrel
  cases gk with
  |zero=>exact absurd H.out (by simp [laws_toCrlS.l0])
  | succ k20=>
   simp only [laws_toCrlS.l0] at H
   replace H:=znif H;rcases H with⟨c25,H⟩|⟨c25,H⟩
   ·
    obtain rfl:=zsome H
    go_wp2
    exact r1 ⟨_,rfl,HS.pi [0]⟩
   replace H:=zgo H;obtain⟨c26,H⟩:=H
   replace H:=zgo H;obtain⟨c27,H⟩:=H
   obtain⟨ad28,B28_5,d28_5,rfl,e28_0,e28_1,e28_2,e28_3,e28_4,e28_5,e28_6,m28_5,y28_5⟩:=at_T124 gp0 x23 (of_eq_true c26) (of_eq_true c27)
   have e28_0_28:=HS.keepc e28_0
   have e28_1_28:=HS.keepc e28_1
   have e28_2_28:=HS.keepc e28_2
   have e28_3_28:=HS.keepc e28_3
   have e28_4_28:=HS.keepc e28_4
   have e28_5_28:=HS.keepc e28_5
   have e28_6_28:=HS.keepc e28_6
   replace H:=zbind H;obtain⟨t29,ht29,H⟩:=H
   go_wp2_with (first|((with_reducible refine gd 20 rfl ?_);refine ev_cl1 HS (laws_toCrl.calls ht29.out (HS.ro y28_5) m28_5) Tryz.func102 ?_;clear HS;intro v30 wt29 HS F;obtain⟨B30,d30,rfl,m30⟩:=HS.form 1 rfl;obtain⟨ad32,B32_5,d32_5,rfl,e32_0,e32_1,e32_2,e32_3,e32_4,e32_5,e32_6,m32_5,y32_5⟩:=at_T69 (HS.rd 0 rfl) x23 (of_eq_true c26) (of_eq_true c27))|((with_reducible refine gate_store (p:=21) rfl ?_);refine ev_set rfl q69 0 [1] x23 t29 HS (seg:=[.string t29.f0,.int .i64 t29.f1,.int .i64 t29.f2,.int .i64 t29.f3,.int .i64 t29.f4,.slice B30 t29.f5.length d30,.string t29.f6]) rfl (by decide) rfl rfl rfl (by first|rfl|exact(Nat.mul_one _).symm) rfl rfl (by kernel_rfl) (by simp [Value.oneCell']) ⟨of_eq_true c26,of_eq_true c27⟩ rfl (fun S hd hh=>q69_pack (x:=t29) hd (hh 1 (.own (Zd.slice 163 q163) t29.f5 [.slice B30 t29.f5.length d30]) rfl) (by decide)) ?_;clear HS;intro w33 HS;(try simp only [hpn,hpm] at HS)))
   go_roundg k20
   case measure=>have:=HKk20.out;omega
   case rel=>exact⟨_,_,rfl,H,⟨by have:=HKk20.out;omega⟩,HS.pi [0]⟩
def laws_toAnchor.f (a0:S126):Option (S57):=(some (⟨a0.f0,a0.f1⟩:S57))
theorem laws_toAnchor.calls {a0:S126}{r:S57}{w:World}(h:laws_toAnchor.f a0=some r):
    Calls Tryz.prog 103 #[.agg #[.string a0.f0,.string a0.f1]] w (fun e w'=>e=.returned (.agg #[.string r.f0,.string r.f1])∧Hp noFP w w' []):=by
 have HS:=Hp.start w
 have H:=Aside0.mk h
 clear h
 unfold laws_toAnchor.f at H
 go_enter Tryz.func103,Tryz.ntmps103
 obtain rfl:=zsome H
 go_wp2_with (first|((with_reducible refine gd 1 rfl ?_);refine ev_bx HS ?_;clear HS;intro g1 w1 HS F)|((with_reducible refine gd 2 rfl ?_);refine ev_bx HS ?_;clear HS;intro g2 w2 HS F)|((with_reducible refine gd 3 rfl ?_);refine ev_bx HS ?_;clear HS;intro g3 w3 HS F)|((with_reducible refine gate_store (p:=6) rfl ?_);refine ev_st 2 0 HS (seg:=[.string a0.f0]) ?_;clear HS;intro w7 HS F)|((with_reducible refine gate_store (p:=9) rfl ?_);refine ev_st 2 1 HS (seg:=[.string a0.f1]) ?_;clear HS;intro w9 HS F)|((with_reducible refine gate_store (p:=2) rfl ?_);refine ev_st 1 0 HS (seg:=[.string a0.f0,.string a0.f1]) ?_;clear HS;intro w11 HS F))
 exact rc 1 HS Tryz.underlying57 ⟨rfl,HS.pi []⟩
def laws_toAnchorS.l0:Nat→(List S57)→Int→(List S126)→Option ((List S57))
  |0,_,_,_=>none
  |k+1,l20,x22,a0=>(if x22<(a0.length:Int)then(if 0≤x22 then(if x22<(a0.length:Int)then((laws_toAnchor.f (rd_T126 a0 x22)).bind fun t28=>(laws_toAnchorS.l0 k (l20.set (x22).toNat t28) (wrap64 (x22+1)) a0))else none)else none)else(some l20))
def laws_toAnchorS.f (k:Nat)(a0:(List S126)):Option ((List S57)):=(if 0≤(a0.length:Int)then(if((a0.length:Int)).toNat≤8796093022208 then(laws_toAnchorS.l0 k (List.replicate a0.length z57) 0 a0)else none)else none)
theorem laws_toAnchorS.calls {k:Nat}{a0:(List S126)}{Ap0:Option Addr}{np0 cp0:Nat}{r:(List S57)}{w:World}(h:laws_toAnchorS.f k a0=some r)(gp0:k126.C w Ap0 np0 a0)(lp0:np0≤cp0):
    Calls Tryz.prog 45 #[.slice Ap0 np0 cp0] w (fun e w'=>∃v0_:Value,e=.returned (v0_)∧Hp noFP w w' [.own (Zd.slice 57 q57) r [v0_]]):=by
 obtain rfl:=C_len gp0
 have HS:=Hp.start w
 have H:=Aside0.mk h
 clear h
 unfold laws_toAnchorS.f at H
 go_enter Tryz.func45,Tryz.ntmps45
 replace H:=zgo H;obtain⟨c1,H⟩:=H
 replace H:=zgo H;obtain⟨c2,H⟩:=H
 go_wp2_with ((with_reducible refine gd 7 rfl ?_);refine ev_make rfl q57 z57 HS rfl (a0.length:Int) rfl rfl Tryz.underlying37 info57 rfl (by decide) (by decide) q57_zero (of_eq_true c1) (by have:=of_eq_true c2;omega) ?_;clear HS;intro v3 w3 HS;obtain⟨B3,d3,rfl,m3⟩:=HS.formn a0.length 0 rfl (by first|rfl|simp);(try simp only [hpn,hpm] at HS))
 go_loopg [4] k (fun kq v_4 w'=>∃(l20:List S57) (x22:Int),v_4=.int .i64 x22∧Aside0 (laws_toAnchorS.l0 kq l20 x22 a0=some r)∧Aside0 (kq≤k)∧Hp noFP w w' [.own (Zd.slice 57 q57) l20 [.slice B3 a0.length d3]])
 case atStart=>exact⟨_,_,rfl,H,⟨Nat.le_refl _⟩,HS⟩
 case round=>
  clear HS H;(try clear F)
  obtain⟨l20,x22,rfl,H,HKk19,HS⟩:=hrel
  cases gk with
  |zero=>exact absurd H.out (by simp [laws_toAnchorS.l0])
  | succ k19=>
   simp only [laws_toAnchorS.l0] at H
   replace H:=znif H;rcases H with⟨c24,H⟩|⟨c24,H⟩
   ·
    obtain rfl:=zsome H
    go_wp2
    exact r1 ⟨_,rfl,HS.pi [0]⟩
   replace H:=zgo H;obtain⟨c25,H⟩:=H
   replace H:=zgo H;obtain⟨c26,H⟩:=H
   obtain⟨ad27,rfl,e27_0,e27_1⟩:=at_T126 gp0 x22 (of_eq_true c25) (of_eq_true c26)
   have e27_0_27:=HS.keepc e27_0
   have e27_1_27:=HS.keepc e27_1
   replace H:=zbind H;obtain⟨t28,ht28,H⟩:=H
   go_wp2_with (first|((with_reducible refine gd 20 rfl ?_);refine ev_cl HS (laws_toAnchor.calls ht28.out) Tryz.func103 ?_;clear HS;intro wt28 HS F;obtain⟨ad30,rfl,e30_0,e30_1⟩:=at_T57 (HS.rd 0 rfl) x22 (of_eq_true c25) (of_eq_true c26))|((with_reducible refine gate_store (p:=21) rfl ?_);refine ev_set rfl q57 0 [] x22 t28 HS (seg:=[.string t28.f0,.string t28.f1]) rfl (by decide) rfl rfl rfl (by first|rfl|exact(Nat.mul_one _).symm) rfl rfl (by kernel_rfl) (by simp [Value.oneCell']) ⟨of_eq_true c25,of_eq_true c26⟩ rfl (made_flat (fun _=>q57_flat _ _ _)) ?_;clear HS;intro w31 HS;(try simp only [hpn,hpm] at HS)))
   go_roundg k19
   case measure=>have:=HKk19.out;omega
   case rel=>exact⟨_,_,rfl,H,⟨by have:=HKk19.out;omega⟩,HS.pi [0]⟩
def laws_toStore.f (k:Nat)(a0:S26):Option (S39):=((laws_toCertS.f k a0.f0).bind fun t7=>((laws_toCrlS.f k a0.f1).bind fun t12=>((laws_toAnchorS.f k a0.f2).bind fun t17=>(some (⟨t7,t12,t17⟩:S39)))))
theorem laws_toStore.calls {k:Nat}{a0:S26}{Ap0 Ap1 Ap2:Option Addr}{np0 cp0 np1 cp1 np2 cp2:Nat}{r:S39}{w:World}(h:laws_toStore.f k a0=some r)(gp0:k30.C w Ap0 np0 a0.f0)(lp0:np0≤cp0)(gp1:k124.C w Ap1 np1 a0.f1)(lp1:np1≤cp1)(gp2:k126.C w Ap2 np2 a0.f2)(lp2:np2≤cp2):
    Calls Tryz.prog 9 #[.agg #[.slice Ap0 np0 cp0,.slice Ap1 np1 cp1,.slice Ap2 np2 cp2]] w (fun e w'=>∃v0_ v1_ v2_:Value,e=.returned (.agg #[v0_,v1_,v2_])∧Hp noFP w w' [.own (Zd.slice 41 q41) r.f0 [v0_],.own (Zd.slice 69 q69) r.f1 [v1_],.own (Zd.slice 57 q57) r.f2 [v2_]]):=by
 obtain rfl:=C_len gp0
 obtain rfl:=C_len gp1
 obtain rfl:=C_len gp2
 have HS:=Hp.start w
 have H:=Aside0.mk h
 clear h
 unfold laws_toStore.f at H
 go_enter Tryz.func9,Tryz.ntmps9
 replace H:=zbind H;obtain⟨t7,ht7,H⟩:=H
 replace H:=zbind H;obtain⟨t12,ht12,H⟩:=H
 replace H:=zbind H;obtain⟨t17,ht17,H⟩:=H
 obtain rfl:=zsome H
 go_wp2_with (first|((with_reducible refine gd 1 rfl ?_);refine ev_bx HS ?_;clear HS;intro g1 w1 HS F)|((with_reducible refine gd 2 rfl ?_);refine ev_bx HS ?_;clear HS;intro g2 w2 HS F)|((with_reducible refine gd 3 rfl ?_);refine ev_bx HS ?_;clear HS;intro g3 w3 HS F)|((with_reducible refine gd 6 rfl ?_);refine ev_cl1 HS (laws_toCertS.calls ht7.out (HS.ro gp0) lp0) Tryz.func43 ?_;clear HS;intro v8 wt7 HS F;obtain⟨B8,d8,rfl,m8⟩:=HS.form 3 rfl)|((with_reducible refine gate_store (p:=7) rfl ?_);refine ev_st 2 0 HS (seg:=[.slice B8 t7.length d8]) ?_;clear HS;intro w10 HS F)|((with_reducible refine gd 10 rfl ?_);refine ev_cl1 HS (laws_toCrlS.calls ht12.out (HS.ro gp1) lp1) Tryz.func44 ?_;clear HS;intro v13 wt12 HS F;obtain⟨B13,d13,rfl,m13⟩:=HS.form 4 rfl)|((with_reducible refine gate_store (p:=11) rfl ?_);refine ev_st 2 1 HS (seg:=[.slice B13 t12.length d13]) ?_;clear HS;intro w15 HS F)|((with_reducible refine gd 14 rfl ?_);refine ev_cl1 HS (laws_toAnchorS.calls ht17.out (HS.ro gp2) lp2) Tryz.func45 ?_;clear HS;intro v18 wt17 HS F;obtain⟨B18,d18,rfl,m18⟩:=HS.form 5 rfl)|((with_reducible refine gate_store (p:=15) rfl ?_);refine ev_st 2 2 HS (seg:=[.slice B18 t17.length d18]) ?_;clear HS;intro w20 HS F)|((with_reducible refine gate_store (p:=2) rfl ?_);refine ev_st 1 0 HS (seg:=[.slice B8 t7.length d8,.slice B13 t12.length d13,.slice B18 t17.length d18]) ?_;clear HS;intro w22 HS F))
 exact rc 1 HS Tryz.underlying39 ⟨_,_,_,rfl,HS.pi [3,4,5]⟩
def laws_FnExactWaysTo.f (k:Nat)(a0:S26)(a1:S30):Option (Bool):=((laws_szStore.f k a0 1048576).bind fun t5=>(if t5<0 then(some true)else((laws_szCert.f k a1 t5).bind fun t8=>(if t8<0 then(some true)else((laws_toStore.f k a0).bind fun t19=>((laws_toCert.f k a1).bind fun t28=>((spec_WaysTo.f k t19 t28).bind fun t38=>((laws_toStore.f k a0).bind fun t14=>((laws_toCert.f k a1).bind fun t23=>((impl_WaysTo.f k t14 t23).bind fun t32=>((laws_eqWayS.f k t32 t38).bind fun t35=>(if t35=true then((laws_toStore.f k a0).bind fun t42=>((laws_eqStore.f k t14 t42).bind fun t52=>(if t52=true then((laws_toCert.f k a1).bind fun t55=>((laws_eqCert.f k t23 t55).bind fun t70=>(if t70=true then((laws_markStore.f k t14 1).bind fun t46=>((laws_markCert.f k t23 t46.1).bind fun t48=>(if t48.1<0 then(some false)else((laws_eqWayS.f k t32 t38).bind fun t51=>(if t51=true then((laws_markWayS.f k t32 1).bind fun t54=>((laws_heldWayS.f k t54.2 1).bind fun t56=>(if t56<0 then(some false)else(if t56=t54.1 then((laws_toStore.f k a0).bind fun t71=>((laws_toCert.f k a1).bind fun t75=>((impl_WaysTo.f k t71 t75).bind fun t79=>((laws_eqWayS.f k t79 t38).bind fun t63=>(if t63=true then((laws_heldWayS.f k t54.2 1).bind fun t66=>(if t66<0 then(some false)else(if t66=t54.1 then(some true)else(some false))))else(some false))))))else(some false)))))else(some false))))))else(some false))))else(some false))))else(some false)))))))))))))
def laws_FnExactWaysTo.T8:TT:=(true,[([],[]),([0],[0]),([],[]),([2,1],[2]),([1,3,3],[1,3]),([4,4,0,1,2,3,4],[4])])
theorem laws_FnExactWaysTo.tT8:rtab .any (opsOf Tryz.f3 8)=laws_FnExactWaysTo.T8:=by kernel_rfl
def laws_FnExactWaysTo.T14:TT:=(true,[([],[]),([],[]),([1],[1]),([0,2,2],[0,2]),([3],[3])])
theorem laws_FnExactWaysTo.tT14:rtab .any (opsOf Tryz.f3 14)=laws_FnExactWaysTo.T14:=by kernel_rfl
def laws_FnExactWaysTo.T16:TT:=(true,[([],[]),([],[]),([1],[1]),([0,2,2],[0,2]),([3],[3])])
theorem laws_FnExactWaysTo.tT16:rtab .any (opsOf Tryz.f3 16)=laws_FnExactWaysTo.T16:=by kernel_rfl
def laws_FnExactWaysTo.T31:TT:=(true,[([],[]),([0],[0]),([],[]),([2,1],[2]),([1,3,3],[1,3]),([4,4,0,1,2,3,4],[4])])
theorem laws_FnExactWaysTo.tT31:rtab .any (opsOf Tryz.f3 31)=laws_FnExactWaysTo.T31:=by kernel_rfl
theorem laws_FnExactWaysTo.calls {k:Nat}{a0:S26}{a1:S30}{Ap0 Ap1 Ap2 Ap3 Ap4 Ap5:Option Addr}{np0 cp0 np1 cp1 np2 cp2 np3 cp3 np4 cp4 np5 cp5:Nat}{mG:Int}{r:Bool}{w:World}(h:laws_FnExactWaysTo.f k a0 a1=some r)(gp0:k30.C w Ap0 np0 a0.f0)(lp0:np0≤cp0)(gp1:k124.C w Ap1 np1 a0.f1)(lp1:np1≤cp1)(gp2:k126.C w Ap2 np2 a0.f2)(lp2:np2≤cp2)(gp3:(Kd.int .i64).C w Ap3 np3 a1.f9)(lp3:np3≤cp3)(gp4:Kd.string.C w Ap4 np4 a1.f10)(lp4:np4≤cp4)(gp5:Kd.string.C w Ap5 np5 a1.f11)(lp5:np5≤cp5)(hgM:w.cell? ⟨0,0,none⟩=some (.int .i64 mG)):
    Calls Tryz.prog 3 #[.agg #[.slice Ap0 np0 cp0,.slice Ap1 np1 cp1,.slice Ap2 np2 cp2],.agg #[.int .i64 a1.f0,.string a1.f1,.string a1.f2,.int .i64 a1.f3,.int .i64 a1.f4,.string a1.f5,.bool a1.f6,.int .i64 a1.f7,.int .i64 a1.f8,.slice Ap3 np3 cp3,.slice Ap4 np4 cp4,.slice Ap5 np5 cp5,.string a1.f12]] w (fun e w'=>e=.returned (.bool r)∧Hp noFP w w' []):=by
 obtain rfl:=C_len gp0
 obtain rfl:=C_len gp1
 obtain rfl:=C_len gp2
 obtain rfl:=C_len gp3
 obtain rfl:=C_len gp4
 obtain rfl:=C_len gp5
 have HS:=Hp.start w
 have H:=Aside0.mk h
 clear h
 unfold laws_FnExactWaysTo.f at H
 go_enter Tryz.func3,Tryz.ntmps3
 replace H:=zbind H;obtain⟨t5,ht5,H⟩:=H
 go_upto_if 18 with(first|((with_reducible refine gd 2 rfl ?_);refine ev_bx HS ?_;clear HS;intro g2 w2 HS F)|((with_reducible refine gd 3 rfl ?_);refine ev_bx HS ?_;clear HS;intro g3 w3 HS F)|((with_reducible refine gd 16 rfl ?_);refine ev_cl HS (laws_szStore.calls ht5.out (HS.ro gp0) lp0 (HS.ro gp1) lp1 (HS.ro gp2) lp2) Tryz.func6 ?_;clear HS;intro wt5 HS F))
 replace H:=zif H;rcases H with⟨c7,H⟩|⟨c7,H⟩
 ·
  (try simp only [c7,dcn])
  obtain rfl:=zsome H
  go_wp2
  go_ret
  exact HS.pk
 (try simp only [c7,dcn])
 replace H:=zbind H;obtain⟨t8,ht8,H⟩:=H
 go_upto_if 23 with((with_reducible refine gd 21 rfl ?_);refine ev_cl HS (laws_szCert.calls ht8.out (HS.ro gp3) lp3 (HS.ro gp4) lp4 (HS.ro gp5) lp5) Tryz.func7 ?_;clear HS;intro wt8 HS F)
 replace H:=zif H;rcases H with⟨c10,H⟩|⟨c10,H⟩
 ·
  (try simp only [c10,dcn])
  obtain rfl:=zsome H
  go_wp2
  go_ret
  exact HS.pk
 (try simp only [c10,dcn])
 (try go_wp2)
 replace H:=zbind H;obtain⟨t19,ht19,H⟩:=H
 replace H:=zbind H;obtain⟨t28,ht28,H⟩:=H
 replace H:=zbind H;obtain⟨t38,ht38,H⟩:=H
 refine dr_start [] HS #[false,false,false,false,false,false] (by kernel_rfl) rfl rfl laws_FnExactWaysTo.tT8 (fun w12 HT HS HH=>?_)
 (try clear F)
 refine dqt [0,2] HT HH ?_
 refine dr1 1 HT fun K hK=>?_
 refine go_cl3 HS (laws_toStore.calls ht19.out (HS.ro gp0) lp0 (HS.ro gp1) lp1 (HS.ro gp2) lp2) Tryz.func9 ?_;clear HS;intro v20 v22 v27 wt19 HS F;obtain⟨B20,d20,rfl,m20⟩:=HS.form 2 rfl;obtain⟨B22,d22,rfl,m22⟩:=HS.form 3 rfl;obtain⟨B27,d27,rfl,m27⟩:=HS.form 4 rfl
 refine nrm 25 hK ⟨_,HS⟩ fun HH=>?_;clear hK K
 refine dr1 3 HT fun K hK=>?_
 refine go_cl3 HS (laws_toCert.calls ht28.out (HS.ro gp3) lp3 (HS.ro gp4) lp4 (HS.ro gp5) lp5) Tryz.func10 ?_;clear HS;intro v29 v34 v36 wt28 HS F;obtain⟨B29,d29,rfl,m29⟩:=HS.form 5 rfl;obtain⟨B34,d34,rfl,m34⟩:=HS.form 6 rfl;obtain⟨B36,d36,rfl,m36⟩:=HS.form 7 rfl
 refine nrm 27 hK ⟨_,HS⟩ fun HH=>?_;clear hK K
 refine dr1 4 HT fun K hK=>?_
 refine go_cl1 HS (spec_WaysTo.calls ht38.out (HS.rd 2 rfl) m20 (HS.rd 3 rfl) m22 (HS.rd 4 rfl) m27 (HS.rd 5 rfl) m29 (HS.rd 6 rfl) m34 (HS.rd 7 rfl) m36) Tryz.func8 ?_;clear HS;intro v40 wt38 HS F;obtain⟨B40,d40,rfl,m40⟩:=HS.form 8 rfl
 refine nrm 28 hK ⟨_,HS⟩ fun HH=>?_;clear hK K
 refine dq [5] HT ?_
 refine dn HT ?_
 (try clear F)
 have F:=HS.bx
 replace H:=zbind H;obtain⟨t14,ht14,H⟩:=H
 replace H:=zbind H;obtain⟨t23,ht23,H⟩:=H
 replace H:=zbind H;obtain⟨t32,ht32,H⟩:=H
 replace H:=zbind H;obtain⟨t35,ht35,H⟩:=H
 go_upto_if 39 with(first|((with_reducible refine gd 30 rfl ?_);refine ev_cl3 HS (laws_toStore.calls ht14.out (HS.ro gp0) lp0 (HS.ro gp1) lp1 (HS.ro gp2) lp2) Tryz.func9 ?_;clear HS;intro v15 v16 v17 wt14 HS F;obtain⟨B15,d15,rfl,m15⟩:=HS.form 9 rfl;obtain⟨B16,d16,rfl,m16⟩:=HS.form 10 rfl;obtain⟨B17,d17,rfl,m17⟩:=HS.form 11 rfl)|((with_reducible refine gd 7 rfl ?_);refine ev_bx HS ?_;clear HS;intro g7 w7 HS F)|((with_reducible refine gate_store (p:=7) rfl ?_);refine ev_st 12 0 HS (seg:=[.slice B15 t14.f0.length d15,.slice B16 t14.f1.length d16,.slice B17 t14.f2.length d17]) ?_;clear HS;intro w21 HS F)|((with_reducible refine gd 32 rfl ?_);refine ev_cl3 HS (laws_toCert.calls ht23.out (HS.ro gp3) lp3 (HS.ro gp4) lp4 (HS.ro gp5) lp5) Tryz.func10 ?_;clear HS;intro v24 v25 v26 wt23 HS F;obtain⟨B24,d24,rfl,m24⟩:=HS.form 13 rfl;obtain⟨B25,d25,rfl,m25⟩:=HS.form 14 rfl;obtain⟨B26,d26,rfl,m26⟩:=HS.form 15 rfl)|((with_reducible refine gd 8 rfl ?_);refine ev_bx HS ?_;clear HS;intro g8 w8 HS F)|((with_reducible refine gate_store (p:=8) rfl ?_);refine ev_st 16 0 HS (seg:=[.int .i64 t23.f0,.string t23.f1,.string t23.f2,.int .i64 t23.f3,.int .i64 t23.f4,.string t23.f5,.bool t23.f6,.int .i64 t23.f7,.int .i64 t23.f8,.slice B24 t23.f9.length d24,.slice B25 t23.f10.length d25,.slice B26 t23.f11.length d26,.string t23.f12]) ?_;clear HS;intro w30 HS F)|((with_reducible refine gd 35 rfl ?_);refine ev_cl1 HS (impl_WaysTo.calls ht32.out (HS.rd 9 rfl) m15 (HS.rd 10 rfl) m16 (HS.rd 11 rfl) m17 (HS.rd 13 rfl) m24 (HS.rd 14 rfl) m25 (HS.rd 15 rfl) m26 (HS.keepc hgM)) Tryz.func11 ?_;clear HS;intro v33 wt32 HS F;obtain⟨B33,d33,rfl,m33⟩:=HS.form 17 rfl)|((with_reducible refine gd 38 rfl ?_);refine ev_cl HS (laws_eqWayS.calls ht35.out (HS.rd 17 rfl) m33 (HS.rd 8 rfl) m40) Tryz.func12 ?_;clear HS;intro wt35 HS F))
 replace H:=znifb H;rcases H with⟨c37,H⟩|⟨c37,H⟩
 ·
  subst c37
  (try simp only [dcn,dcu,dcf])
  obtain rfl:=zsome H
  go_wp2
  go_ret
  exact HS.pk
 subst c37
 (try simp only [dcn,dcu,dcf])
 (try go_wp2)
 replace H:=zbind H;obtain⟨t42,ht42,H⟩:=H
 replace H:=zbind H;obtain⟨t52,ht52,H⟩:=H
 refine dr_start [] HS #[false,false,false,false,false] (by kernel_rfl) rfl rfl laws_FnExactWaysTo.tT14 (fun w39 HT HS HH=>?_)
 (try clear F)
 refine dqt [0,1] HT HH ?_
 refine dr1 2 HT fun K hK=>?_
 refine go_cl3 HS (laws_toStore.calls ht42.out (HS.ro gp0) lp0 (HS.ro gp1) lp1 (HS.ro gp2) lp2) Tryz.func9 ?_;clear HS;intro v44 v47 v49 wt42 HS F;obtain⟨B44,d44,rfl,m44⟩:=HS.form 18 rfl;obtain⟨B47,d47,rfl,m47⟩:=HS.form 19 rfl;obtain⟨B49,d49,rfl,m49⟩:=HS.form 20 rfl
 refine nrm 42 hK ⟨_,HS⟩ fun HH=>?_;clear hK K
 refine dr1 3 HT fun K hK=>?_
 refine go_cl HS (laws_eqStore.calls ht52.out (HS.rd 9 rfl) m15 (HS.rd 10 rfl) m16 (HS.rd 11 rfl) m17 (HS.rd 18 rfl) m44 (HS.rd 19 rfl) m47 (HS.rd 20 rfl) m49) Tryz.func13 ?_;clear HS;intro wt52 HS F
 refine nrm 43 hK ⟨_,HS⟩ fun HH=>?_;clear hK K
 refine dq [4] HT ?_
 refine dn HT ?_
 (try clear F)
 have F:=HS.bx
 replace H:=znifb H;rcases H with⟨c41,H⟩|⟨c41,H⟩
 ·
  subst c41
  (try simp only [dcn,dcu,dcf])
  obtain rfl:=zsome H
  go_wp2
  go_ret
  exact HS.pk
 subst c41
 (try simp only [dcn,dcu,dcf])
 (try go_wp2)
 replace H:=zbind H;obtain⟨t55,ht55,H⟩:=H
 replace H:=zbind H;obtain⟨t70,ht70,H⟩:=H
 refine dr_start [] HS #[false,false,false,false,false] (by kernel_rfl) rfl rfl laws_FnExactWaysTo.tT16 (fun w43 HT HS HH=>?_)
 (try clear F)
 refine dqt [0,1] HT HH ?_
 refine dr1 2 HT fun K hK=>?_
 refine go_cl3 HS (laws_toCert.calls ht55.out (HS.ro gp3) lp3 (HS.ro gp4) lp4 (HS.ro gp5) lp5) Tryz.func10 ?_;clear HS;intro v60 v62 v67 wt55 HS F;obtain⟨B60,d60,rfl,m60⟩:=HS.form 21 rfl;obtain⟨B62,d62,rfl,m62⟩:=HS.form 22 rfl;obtain⟨B67,d67,rfl,m67⟩:=HS.form 23 rfl
 refine nrm 47 hK ⟨_,HS⟩ fun HH=>?_;clear hK K
 refine dr1 3 HT fun K hK=>?_
 refine go_cl HS (laws_eqCert.calls ht70.out (HS.rd 13 rfl) m24 (HS.rd 14 rfl) m25 (HS.rd 15 rfl) m26 (HS.rd 21 rfl) m60 (HS.rd 22 rfl) m62 (HS.rd 23 rfl) m67) Tryz.func14 ?_;clear HS;intro wt70 HS F
 refine nrm 48 hK ⟨_,HS⟩ fun HH=>?_;clear hK K
 refine dq [4] HT ?_
 refine dn HT ?_
 (try clear F)
 have F:=HS.bx
 replace H:=znifb H;rcases H with⟨c45,H⟩|⟨c45,H⟩
 ·
  subst c45
  (try simp only [dcn,dcu,dcf])
  obtain rfl:=zsome H
  go_wp2
  go_ret
  exact HS.pk
 subst c45
 (try simp only [dcn,dcu,dcf])
 replace H:=zbind H;obtain⟨t46,ht46,H⟩:=H
 replace H:=zbind H;obtain⟨t48,ht48,H⟩:=H
 replace H:=zif H;rcases H with⟨c50,H⟩|⟨c50,H⟩
 ·
  obtain rfl:=zsome H
  go_wp2_with (first|((with_reducible refine gd 52 rfl ?_);refine ev_lb [9,10,11] HS (fun _ _ HA=>laws_markStore.calls ht46.out HA) Tryz.func15 ?_;clear HS;intro wt46 HS F)|((with_reducible refine gd 55 rfl ?_);refine ev_lb [13,14,15] HS (fun _ _ HA=>laws_markCert.calls ht48.out HA) Tryz.func16 ?_;clear HS;intro wt48 HS F))
  go_ret
  exact HS.pk
 replace H:=zbind H;obtain⟨t51,ht51,H⟩:=H
 go_upto_if 63 with(first|((with_reducible refine gd 52 rfl ?_);refine ev_lb [9,10,11] HS (fun _ _ HA=>laws_markStore.calls ht46.out HA) Tryz.func15 ?_;clear HS;intro wt46 HS F)|((with_reducible refine gd 55 rfl ?_);refine ev_lb [13,14,15] HS (fun _ _ HA=>laws_markCert.calls ht48.out HA) Tryz.func16 ?_;clear HS;intro wt48 HS F)|((with_reducible refine gd 61 rfl ?_);refine gg ?_;refine ev_cl HS (laws_eqWayS.calls ht51.out (HS.rd 17 rfl) m33 (HS.rd 8 rfl) m40) Tryz.func12 ?_;clear HS;intro wt51 HS F))
 replace H:=znifb H;rcases H with⟨c53,H⟩|⟨c53,H⟩
 ·
  subst c53
  (try simp only [dcn,dcu,dcf])
  obtain rfl:=zsome H
  go_wp2
  go_ret
  exact HS.pk
 subst c53
 (try simp only [dcn,dcu,dcf])
 replace H:=zbind H;obtain⟨t54,ht54,H⟩:=H
 replace H:=zbind H;obtain⟨t56,ht56,H⟩:=H
 go_upto_if 71 with(first|((with_reducible refine gd 66 rfl ?_);refine ev_lb [17] HS (fun _ _ HA=>laws_markWayS.calls ht54.out HA) Tryz.func17 ?_;clear HS;intro wt54 HS F)|((with_reducible refine gd 69 rfl ?_);refine ev_cl HS (laws_heldWayS.calls ht56.out (HS.rd 17 rfl) m33) Tryz.func18 ?_;clear HS;intro wt56 HS F))
 replace H:=zif H;rcases H with⟨c58,H⟩|⟨c58,H⟩
 ·
  (try simp only [c58,dcn])
  obtain rfl:=zsome H
  go_wp2
  go_ret
  exact HS.pk
 (try simp only [c58,dcn])
 replace H:=znif' H;rcases H with⟨c59,H⟩|⟨c59,H⟩
 ·
  obtain⟨c59a,c59b⟩:=nq c59;clear c59
  (try simp only [c59a,c59b,dcn])
  obtain rfl:=zsome H
  go_wp2
  go_ret
  exact HS.pk
 obtain⟨c59a,c59b⟩:=bq c59;clear c59
 (try simp only [c59a,c59b,dcn])
 (try go_wp2)
 replace H:=zbind H;obtain⟨t71,ht71,H⟩:=H
 replace H:=zbind H;obtain⟨t75,ht75,H⟩:=H
 replace H:=zbind H;obtain⟨t79,ht79,H⟩:=H
 refine dr_start [] HS #[false,false,false,false,false,false] (by kernel_rfl) rfl rfl laws_FnExactWaysTo.tT31 (fun w61 HT HS HH=>?_)
 (try clear F)
 refine dqt [0,2] HT HH ?_
 refine dr1 1 HT fun K hK=>?_
 refine go_cl3 HS (laws_toStore.calls ht71.out (HS.ro gp0) lp0 (HS.ro gp1) lp1 (HS.ro gp2) lp2) Tryz.func9 ?_;clear HS;intro v72 v73 v74 wt71 HS F;obtain⟨B72,d72,rfl,m72⟩:=HS.form 24 rfl;obtain⟨B73,d73,rfl,m73⟩:=HS.form 25 rfl;obtain⟨B74,d74,rfl,m74⟩:=HS.form 26 rfl
 refine nrm 76 hK ⟨_,HS⟩ fun HH=>?_;clear hK K
 refine dr1 3 HT fun K hK=>?_
 refine go_cl3 HS (laws_toCert.calls ht75.out (HS.ro gp3) lp3 (HS.ro gp4) lp4 (HS.ro gp5) lp5) Tryz.func10 ?_;clear HS;intro v76 v77 v78 wt75 HS F;obtain⟨B76,d76,rfl,m76⟩:=HS.form 27 rfl;obtain⟨B77,d77,rfl,m77⟩:=HS.form 28 rfl;obtain⟨B78,d78,rfl,m78⟩:=HS.form 29 rfl
 refine nrm 78 hK ⟨_,HS⟩ fun HH=>?_;clear hK K
 refine dr1 4 HT fun K hK=>?_
 refine go_cl1 HS (impl_WaysTo.calls ht79.out (HS.rd 24 rfl) m72 (HS.rd 25 rfl) m73 (HS.rd 26 rfl) m74 (HS.rd 27 rfl) m76 (HS.rd 28 rfl) m77 (HS.rd 29 rfl) m78 (HS.keepc hgM)) Tryz.func11 ?_;clear HS;intro v80 wt79 HS F;obtain⟨B80,d80,rfl,m80⟩:=HS.form 30 rfl
 refine nrm 79 hK ⟨_,HS⟩ fun HH=>?_;clear hK K
 refine dq [5] HT ?_
 refine dn HT ?_
 (try clear F)
 have F:=HS.bx
 replace H:=zbind H;obtain⟨t63,ht63,H⟩:=H
 go_upto_if 83 with((with_reducible refine gd 82 rfl ?_);refine ev_cl HS (laws_eqWayS.calls ht63.out (HS.rd 30 rfl) m80 (HS.rd 8 rfl) m40) Tryz.func12 ?_;clear HS;intro wt63 HS F)
 replace H:=znifb H;rcases H with⟨c65,H⟩|⟨c65,H⟩
 ·
  subst c65
  (try simp only [dcn,dcu,dcf])
  obtain rfl:=zsome H
  go_wp2
  go_ret
  exact HS.pk
 subst c65
 (try simp only [dcn,dcu,dcf])
 replace H:=zbind H;obtain⟨t66,ht66,H⟩:=H
 go_upto_if 88 with((with_reducible refine gd 86 rfl ?_);refine ev_cl HS (laws_heldWayS.calls ht66.out (HS.rd 17 rfl) m33) Tryz.func18 ?_;clear HS;intro wt66 HS F)
 replace H:=zif H;rcases H with⟨c68,H⟩|⟨c68,H⟩
 ·
  (try simp only [c68,dcn])
  obtain rfl:=zsome H
  go_wp2
  go_ret
  exact HS.pk
 (try simp only [c68,dcn])
 replace H:=znif' H;rcases H with⟨c69,H⟩|⟨c69,H⟩
 ·
  obtain⟨c69a,c69b⟩:=nq c69;clear c69
  (try simp only [c69a,c69b,dcn])
  obtain rfl:=zsome H
  go_wp2
  go_ret
  exact HS.pk
 obtain⟨c69a,c69b⟩:=bq c69;clear c69
 (try simp only [c69a,c69b,dcn])
 obtain rfl:=zsome H
 go_wp2
 go_ret
 exact HS.pk
end Go.Proofs.YtncddikfafgklaaGreatDoor.F

/- Functions of the program and of the law, and that their calls do what is written here. -/
import Derived.Test.YtncddikfafgklaaGreatDoorZgFnExactWaysTob
namespace Go.Proofs.YtncddikfafgklaaGreatDoor.F
open Go.RowKit YtncddikfafgklaaGreatDoorW.PrintWords YtncddikfafgklaaGreatDoorW.PrintLast YtncddikfafgklaaGreatDoorW.PrintMore Z
attribute [local go_sem] max2_int min2_int max_two min_two max_three min_three max_four min_four
set_option linter.unusedVariables false
set_option linter.unusedSimpArgs false
set_option maxRecDepth 100000
set_option maxHeartbeats 16000000
def impl_copyCert.f (a0:S41):Option (S41):=(if 0+a0.f9.length≤17592186044416 then(lets (([]:List Int)++a0.f9) fun y6=>(if 0+a0.f10.length≤8796093022208 then(lets (([]:List ByteArray)++a0.f10) fun y11=>(if 0+a0.f11.length≤8796093022208 then(lets (([]:List ByteArray)++a0.f11) fun y16=>(some (⟨a0.f0,a0.f1,a0.f2,a0.f3,a0.f4,a0.f5,a0.f6,a0.f7,a0.f8,y6,y11,y16,a0.f12⟩:S41)))else none))else none))else none)
theorem impl_copyCert.calls {a0:S41}{Ap0 Ap1 Ap2:Option Addr}{np0 cp0 np1 cp1 np2 cp2:Nat}{r:S41}{w:World}(h:impl_copyCert.f a0=some r)(gp0:(Kd.int .i64).C w Ap0 np0 a0.f9)(lp0:np0≤cp0)(gp1:Kd.string.C w Ap1 np1 a0.f10)(lp1:np1≤cp1)(gp2:Kd.string.C w Ap2 np2 a0.f11)(lp2:np2≤cp2):
    Calls Tryz.prog 79 #[.agg #[.int .i64 a0.f0,.string a0.f1,.string a0.f2,.int .i64 a0.f3,.int .i64 a0.f4,.string a0.f5,.bool a0.f6,.int .i64 a0.f7,.int .i64 a0.f8,.slice Ap0 np0 cp0,.slice Ap1 np1 cp1,.slice Ap2 np2 cp2,.string a0.f12]] w (fun e w'=>∃v0_ v1_ v2_:Value,e=.returned (.agg #[.int .i64 r.f0,.string r.f1,.string r.f2,.int .i64 r.f3,.int .i64 r.f4,.string r.f5,.bool r.f6,.int .i64 r.f7,.int .i64 r.f8,v0_,v1_,v2_,.string r.f12])∧Hp noFP w w' [.own (Zd.slice 3 (Zd.int .i64)) r.f9 [v0_],.own (Zd.slice 9 Zd.string) r.f10 [v1_],.own (Zd.slice 9 Zd.string) r.f11 [v2_]]):=by
 obtain rfl:=C_len gp0
 obtain rfl:=C_len gp1
 obtain rfl:=C_len gp2
 have HS:=Hp.start w
 have H:=Aside0.mk h
 clear h
 unfold impl_copyCert.f at H
 go_enter Tryz.func79,Tryz.ntmps79
 replace H:=zgo H;obtain⟨c5,H⟩:=H
 replace H:=zlets H;obtain⟨y6,e_y6,H⟩:=H
 replace H:=zgo H;obtain⟨c10,H⟩:=H
 replace H:=zlets H;obtain⟨y11,e_y11,H⟩:=H
 replace H:=zgo H;obtain⟨c15,H⟩:=H
 replace H:=zlets H;obtain⟨y16,e_y16,H⟩:=H
 obtain rfl:=zsome H
 go_wp2_with (first|((with_reducible refine gd 1 rfl ?_);refine ev_bx HS ?_;clear HS;intro g1 w1 HS F)|((with_reducible refine gd 2 rfl ?_);refine ev_bx HS ?_;clear HS;intro g2 w2 HS F)|((with_reducible refine gd 5 rfl ?_);replace HS:=HS.nil 3 (Zd.int .i64);refine ev_apr (flat_int _) 2 HS rfl (HS.ro gp0) Tryz.underlying27 info3 (of_eq_true c5) ?_;clear HS;intro v6 w6 HS;rw [←e_y6.out] at HS;obtain⟨B6,d6,rfl,m6⟩:=HS.form 3 rfl;(try simp only [hpn,hpm] at HS);have F:=HS.bx)|((with_reducible refine gate_store (p:=6) rfl ?_);refine ev_st 0 9 HS (seg:=[.slice B6 y6.length d6]) ?_;clear HS;intro w8 HS F)|((with_reducible refine gd 9 rfl ?_);replace HS:=HS.nil 9 Zd.string;refine ev_apr flat_string 4 HS rfl (HS.ro gp1) Tryz.underlying28 info9 (of_eq_true c10) ?_;clear HS;intro v11 w11 HS;rw [←e_y11.out] at HS;obtain⟨B11,d11,rfl,m11⟩:=HS.form 5 rfl;(try simp only [hpn,hpm] at HS);have F:=HS.bx)|((with_reducible refine gate_store (p:=10) rfl ?_);refine ev_st 0 10 HS (seg:=[.slice B11 y11.length d11]) ?_;clear HS;intro w13 HS F)|((with_reducible refine gd 13 rfl ?_);replace HS:=HS.nil 9 Zd.string;refine ev_apr flat_string 6 HS rfl (HS.ro gp2) Tryz.underlying28 info9 (of_eq_true c15) ?_;clear HS;intro v16 w16 HS;rw [←e_y16.out] at HS;obtain⟨B16,d16,rfl,m16⟩:=HS.form 7 rfl;(try simp only [hpn,hpm] at HS);have F:=HS.bx)|((with_reducible refine gate_store (p:=14) rfl ?_);refine ev_st 0 11 HS (seg:=[.slice B16 y16.length d16]) ?_;clear HS;intro w18 HS F)|((with_reducible refine gate_store (p:=2) rfl ?_);refine ev_st 1 0 HS (seg:=[.int .i64 a0.f0,.string a0.f1,.string a0.f2,.int .i64 a0.f3,.int .i64 a0.f4,.string a0.f5,.bool a0.f6,.int .i64 a0.f7,.int .i64 a0.f8,.slice B6 y6.length d6,.slice B11 y11.length d11,.slice B16 y16.length d16,.string a0.f12]) ?_;clear HS;intro w20 HS F))
 exact rc 1 HS Tryz.underlying41 ⟨_,_,_,rfl,HS.pi [3,5,7]⟩
def impl_copyCerts.l0:Nat→(List S41)→Int→(List S41)→Option ((List S41))
  |0,_,_,_=>none
  |k+1,l16,x18,a0=>(if x18<(a0.length:Int)then(if 0≤x18 then(if x18<(a0.length:Int)then((impl_copyCert.f (rd_T41 a0 x18)).bind fun t28=>(if l16.length+1≤764877654105 then(lets (l16++([t28]:List S41)) fun y36=>(impl_copyCerts.l0 k y36 (wrap64 (x18+1)) a0))else none))else none)else none)else(some l16))
def impl_copyCerts.f (k:Nat)(a0:(List S41)):Option ((List S41)):=(impl_copyCerts.l0 k [] 0 a0)
theorem impl_copyCerts.calls {k:Nat}{a0:(List S41)}{Ap0:Option Addr}{np0 cp0:Nat}{r:(List S41)}{w:World}(h:impl_copyCerts.f k a0=some r)(gp0:k41.C w Ap0 np0 a0)(lp0:np0≤cp0):
    Calls Tryz.prog 109 #[.slice Ap0 np0 cp0] w (fun e w'=>∃v0_:Value,e=.returned (v0_)∧Hp noFP w w' [.own (Zd.slice 41 q41) r [v0_]]):=by
 obtain rfl:=C_len gp0
 have HS:=Hp.start w
 have H:=Aside0.mk h
 clear h
 unfold impl_copyCerts.f at H
 go_enter Tryz.func109,Tryz.ntmps109
 go_wp2
 replace HS:=HS.nil 41 q41
 go_loopg [3,8] k (fun kq v_3 v_8 w'=>∃(l16:List S41) (v17:Value) (x18:Int),v_3=v17∧v_8=.int .i64 x18∧Aside0 (impl_copyCerts.l0 kq l16 x18 a0=some r)∧Aside0 (kq≤k)∧Hp noFP w w' [.own (Zd.slice 41 q41) l16 [v17]])
 case atStart=>exact⟨_,_,_,rfl,rfl,H,⟨Nat.le_refl _⟩,HS⟩
 case round=>
  clear HS H;(try clear F)
  obtain⟨l16,v17,x18,rfl,rfl,H,HKk15,HS⟩:=hrel
  obtain⟨B17,d17,rfl,m17⟩:=HS.form 0 rfl
  cases gk with
  |zero=>exact absurd H.out (by simp [impl_copyCerts.l0])
  | succ k15=>
   simp only [impl_copyCerts.l0] at H
   replace H:=znif H;rcases H with⟨c20,H⟩|⟨c20,H⟩
   ·
    obtain rfl:=zsome H
    go_wp2
    exact r1 ⟨_,rfl,HS.pi [0]⟩
   replace H:=zgo H;obtain⟨c21,H⟩:=H
   replace H:=zgo H;obtain⟨c22,H⟩:=H
   obtain⟨ad23,B23_9,d23_9,B23_10,d23_10,B23_11,d23_11,rfl,e23_0,e23_1,e23_2,e23_3,e23_4,e23_5,e23_6,e23_7,e23_8,e23_9,e23_10,e23_11,e23_12,m23_9,y23_9,m23_10,y23_10,m23_11,y23_11⟩:=at_T41 gp0 x18 (of_eq_true c21) (of_eq_true c22)
   have e23_0_23:=HS.keepc e23_0
   have e23_1_23:=HS.keepc e23_1
   have e23_2_23:=HS.keepc e23_2
   have e23_3_23:=HS.keepc e23_3
   have e23_4_23:=HS.keepc e23_4
   have e23_5_23:=HS.keepc e23_5
   have e23_6_23:=HS.keepc e23_6
   have e23_7_23:=HS.keepc e23_7
   have e23_8_23:=HS.keepc e23_8
   have e23_9_23:=HS.keepc e23_9
   have e23_10_23:=HS.keepc e23_10
   have e23_11_23:=HS.keepc e23_11
   have e23_12_23:=HS.keepc e23_12
   replace H:=zbind H;obtain⟨t28,ht28,H⟩:=H
   replace H:=zgo H;obtain⟨c35,H⟩:=H
   replace H:=zlets H;obtain⟨y36,e_y36,H⟩:=H
   go_wp2_with (first|((with_reducible refine gd 5 rfl ?_);refine ev_bx HS ?_;clear HS;intro g5 w5 HS F)|((with_reducible refine gate_store (p:=5) rfl ?_);refine ev_st 1 0 HS (seg:=[.int .i64 ((rd_T41 a0 x18).f0),.string ((rd_T41 a0 x18).f1),.string ((rd_T41 a0 x18).f2),.int .i64 ((rd_T41 a0 x18).f3),.int .i64 ((rd_T41 a0 x18).f4),.string ((rd_T41 a0 x18).f5),.bool ((rd_T41 a0 x18).f6),.int .i64 ((rd_T41 a0 x18).f7),.int .i64 ((rd_T41 a0 x18).f8),.slice B23_9 (rd_T41 a0 x18).f9.length d23_9,.slice B23_10 (rd_T41 a0 x18).f10.length d23_10,.slice B23_11 (rd_T41 a0 x18).f11.length d23_11,.string ((rd_T41 a0 x18).f12)]) ?_;clear HS;intro w26 HS F)|((with_reducible refine gd 14 rfl ?_);refine ev_cl3 HS (impl_copyCert.calls ht28.out (HS.ro y23_9) m23_9 (HS.ro y23_10) m23_10 (HS.ro y23_11) m23_11) Tryz.func79 ?_;clear HS;intro v29 v30 v31 wt28 HS F;obtain⟨B29,d29,rfl,m29⟩:=HS.form 2 rfl;obtain⟨B30,d30,rfl,m30⟩:=HS.form 3 rfl;obtain⟨B31,d31,rfl,m31⟩:=HS.form 4 rfl)|((with_reducible refine gd 15 rfl ?_);refine ev_li q41 [2,3,4] ([t28]:List S41) ([.int .i64 t28.f0,.string t28.f1,.string t28.f2,.int .i64 t28.f3,.int .i64 t28.f4,.string t28.f5,.bool t28.f6,.int .i64 t28.f7,.int .i64 t28.f8,.slice B29 t28.f9.length d29,.slice B30 t28.f10.length d30,.slice B31 t28.f11.length d31,.string t28.f12]++ []) HS (MadeL.cons (js1:=[2,3,4]) (c:=[.int .i64 t28.f0,.string t28.f1,.string t28.f2,.int .i64 t28.f3,.int .i64 t28.f4,.string t28.f5,.bool t28.f6,.int .i64 t28.f7,.int .i64 t28.f8,.slice B29 t28.f9.length d29,.slice B30 t28.f10.length d30,.slice B31 t28.f11.length d31,.string t28.f12]) rfl (fun S hd hh=>q41_pack (x:=t28) hd (hh 2 (.own (Zd.slice 3 (Zd.int .i64)) t28.f9 [.slice B29 t28.f9.length d29]) rfl) (hh 3 (.own (Zd.slice 9 Zd.string) t28.f10 [.slice B30 t28.f10.length d30]) rfl) (hh 4 (.own (Zd.slice 9 Zd.string) t28.f11 [.slice B31 t28.f11.length d31]) rfl) (by decide)) MadeL.nil (by decide)) ?_;clear HS;intro v33 w33 HS F;obtain⟨B33,d33,rfl,m33⟩:=HS.formn 1 5 rfl rfl)|((with_reducible refine gd 16 rfl ?_);refine ev_ap q41 0 5 HS rfl rfl Tryz.underlying35 info41 (of_eq_true c35) ?_;clear HS;intro v36 w36 HS;rw [←e_y36.out] at HS;obtain⟨B36,d36,rfl,m36⟩:=HS.form 6 rfl;(try simp only [hpn,hpm] at HS);have F:=HS.bx))
   go_roundg k15
   case measure=>have:=HKk15.out;omega
   case rel=>exact⟨_,_,_,rfl,rfl,H,⟨by have:=HKk15.out;omega⟩,HS.pi [6]⟩
mutual
def impl_seeker_seek_0.l0:Nat→(List S59)→Int→S91→(List S41)→Option ((List S59))
  |0,_,_,_,_=>none
  |k+1,l33,x35,a0,a1=>(if x35<(a0.f0.f0.length:Int)then(if 0≤x35 then(if x35<(a0.f0.f0.length:Int)then((impl_seeker_mayFollow_0.f k (⟨(⟨a0.f0.f0,a0.f0.f1,a0.f0.f2⟩:S39),(⟨a0.f1.f0,a0.f1.f1,a0.f1.f2,a0.f1.f3,a0.f1.f4,a0.f1.f5,a0.f1.f6,a0.f1.f7,a0.f1.f8,a0.f1.f9,a0.f1.f10,a0.f1.f11,a0.f1.f12⟩:S41),a0.f2,l33⟩:S91) a1 (rd_T41 a0.f0.f0 x35)).bind fun t26=>(if t26=true then(if((rd_T41 a0.f0.f0 x35).f2).toList=a0.f1.f2.toList then(impl_seeker_seek_0.l0 k l33 (wrap64 (x35+1)) a0 a1)else(if 0+a1.length≤764877654105 then(lets (([]:List S41)++a1) fun y29=>(if y29.length+1≤764877654105 then(lets (y29++([(rd_T41 a0.f0.f0 x35)]:List S41)) fun y36=>((impl_seeker_seek_0.f k (⟨(⟨a0.f0.f0,a0.f0.f1,a0.f0.f2⟩:S39),(⟨a0.f1.f0,a0.f1.f1,a0.f1.f2,a0.f1.f3,a0.f1.f4,a0.f1.f5,a0.f1.f6,a0.f1.f7,a0.f1.f8,a0.f1.f9,a0.f1.f10,a0.f1.f11,a0.f1.f12⟩:S41),a0.f2,l33⟩:S91) y36).bind fun t42=>(impl_seeker_seek_0.l0 k t42 (wrap64 (x35+1)) a0 a1)))else none))else none))else(impl_seeker_seek_0.l0 k l33 (wrap64 (x35+1)) a0 a1)))else none)else none)else(some l33))
def impl_seeker_seek_0.l1:Nat→(List S59)→Int→S91→(List S41)→Option ((List S59))
  |0,_,_,_,_=>none
  |k+1,l77,x79,a0,a1=>(if x79<(a0.f0.f0.length:Int)then(if 0≤x79 then(if x79<(a0.f0.f0.length:Int)then((impl_seeker_mayFollow_0.f k (⟨(⟨a0.f0.f0,a0.f0.f1,a0.f0.f2⟩:S39),(⟨a0.f1.f0,a0.f1.f1,a0.f1.f2,a0.f1.f3,a0.f1.f4,a0.f1.f5,a0.f1.f6,a0.f1.f7,a0.f1.f8,a0.f1.f9,a0.f1.f10,a0.f1.f11,a0.f1.f12⟩:S41),a0.f2,l77⟩:S91) a1 (rd_T41 a0.f0.f0 x79)).bind fun t47=>(if t47=true then(if((rd_T41 a0.f0.f0 x79).f2).toList=a0.f1.f2.toList then(impl_seeker_seek_0.l1 k l77 (wrap64 (x79+1)) a0 a1)else(if 0+a1.length≤764877654105 then(lets (([]:List S41)++a1) fun y55=>(if y55.length+1≤764877654105 then(lets (y55++([(rd_T41 a0.f0.f0 x79)]:List S41)) fun y60=>((impl_seeker_seek_0.f k (⟨(⟨a0.f0.f0,a0.f0.f1,a0.f0.f2⟩:S39),(⟨a0.f1.f0,a0.f1.f1,a0.f1.f2,a0.f1.f3,a0.f1.f4,a0.f1.f5,a0.f1.f6,a0.f1.f7,a0.f1.f8,a0.f1.f9,a0.f1.f10,a0.f1.f11,a0.f1.f12⟩:S41),a0.f2,l77⟩:S91) y60).bind fun t61=>(impl_seeker_seek_0.l1 k t61 (wrap64 (x79+1)) a0 a1)))else none))else none))else(impl_seeker_seek_0.l1 k l77 (wrap64 (x79+1)) a0 a1)))else none)else none)else(some l77))
def impl_seeker_seek_0.f:Nat→S91→(List S41)→Option ((List S59))
  |0,_,_=>none
  |k+1,a0,a1=>(if 5≤(a1.length:Int)then(some a0.f3)else(if(a0.f3.length:Int)=60 then(some a0.f3)else((impl_seeker_mayFollow_0.f k a0 a1 a0.f1).bind fun t4=>(if t4=true then((impl_copyCerts.f k a1).bind fun t13=>((impl_copyCert.f a0.f1).bind fun t15=>(if t13.length+1≤764877654105 then(lets (t13++([t15]:List S41)) fun y21=>(if a0.f3.length+1≤4398046511104 then(lets (a0.f3++([(⟨a0.f2,y21⟩:S59)]:List S59)) fun y24=>(impl_seeker_seek_0.l0 k y24 0 a0 a1))else none))else none)))else(impl_seeker_seek_0.l1 k a0.f3 0 a0 a1)))))
end
def impl_seeker_seek_0.T2:TT:=(true,[([],[]),([],[]),([1],[1]),([2],[2]),([3],[3]),([],[]),([5],[5]),([6],[6]),([7],[7]),([],[]),([9],[9]),([],[]),([11],[11]),([12],[12]),([13],[13]),([14,10],[14]),([15],[15]),([10,16,15],[10,16]),([8,17],[8,17]),([18],[18]),([4,19,17],[4,19]),([0,0,1,2,3,4,5,6,7,8,9,10,11,12,13,14,15,16,17,18,19,20],[0]),([21,0,1,2,3,4,5,6,7,8,9,10,11,12,13,14,15,16,17,18,19,20],[21]),([22,20,20,0,1,2,3,4,5,6,7,8,9,10,11,12,13,14,15,16,17,18,19,20],[20,22])])
theorem impl_seeker_seek_0.tT2:rtab .any (opsOf Tryz.f49 2)=impl_seeker_seek_0.T2:=by kernel_rfl
def impl_seeker_seek_0.T6:TT:=(true,[([],[]),([],[]),([],[]),([0,1,2],[0,1,2]),([3,3],[3]),([4],[4]),([5,4],[4,5]),([4],[4]),([7,4],[4,7]),([8,4],[4,8]),([9,4],[4,9]),([10,4],[4,10]),([6,11,4],[4,6,11]),([4,12],[4,12])])
theorem impl_seeker_seek_0.tT6:rtab .any (opsOf Tryz.f49 6)=impl_seeker_seek_0.T6:=by kernel_rfl
def impl_seeker_seek_0.T7:TT:=(true,[([],[]),([],[]),([1],[1]),([],[]),([3],[3]),([2,4,2],[2,4]),([0,5,5],[0,5])])
theorem impl_seeker_seek_0.tT7:rtab .any (opsOf Tryz.f49 7)=impl_seeker_seek_0.T7:=by kernel_rfl
theorem impl_seeker_seek_0.calls_ (K:Nat):∀ {k:Nat} (hK:k≤K) {a0:S91} {a1:(List S41)} {A:FP} {p0:Nat} {Ap1:Option Addr} {np1 cp1:Nat} {Ap2:Option Addr} {np2 cp2:Nat} {Ap3:Option Addr} {np3 cp3:Nat} {Ap4:Option Addr} {np4 cp4:Nat} {Ap5:Option Addr} {np5 cp5:Nat} {Ap6:Option Addr} {np6 cp6:Nat} {vp1:Value} {Ap8:Option Addr} {np8 cp8:Nat} {wv:World} {r:(List S59)} {w:World} (h:impl_seeker_seek_0.f k a0 a1=some r) (gp1:k41.C wv Ap1 np1 a0.f0.f0) (lp1:np1≤cp1) (gp2:k69.C wv Ap2 np2 a0.f0.f1) (lp2:np2≤cp2) (gp3:k57.C wv Ap3 np3 a0.f0.f2) (lp3:np3≤cp3) (gp4:(Kd.int .i64).C wv Ap4 np4 a0.f1.f9) (lp4:np4≤cp4) (gp5:Kd.string.C wv Ap5 np5 a0.f1.f10) (lp5:np5≤cp5) (gp6:Kd.string.C wv Ap6 np6 a0.f1.f11) (lp6:np6≤cp6) (gp8:k41.C wv Ap8 np8 a1) (lp8:np8≤cp8) (hV:View A w wv) (HS:Hp A w w [.box p0 [.slice Ap1 np1 cp1,.slice Ap2 np2 cp2,.slice Ap3 np3 cp3,.int .i64 a0.f1.f0,.string a0.f1.f1,.string a0.f1.f2,.int .i64 a0.f1.f3,.int .i64 a0.f1.f4,.string a0.f1.f5,.bool a0.f1.f6,.int .i64 a0.f1.f7,.int .i64 a0.f1.f8,.slice Ap4 np4 cp4,.slice Ap5 np5 cp5,.slice Ap6 np6 cp6,.string a0.f1.f12,.int .i64 a0.f2,vp1] 91,.own (Zd.slice 59 q59) a0.f3 [vp1]]),
    Calls Tryz.prog 49 #[.pointer (some ⟨p0,0,none⟩),.slice Ap8 np8 cp8] w (fun e w'=>∃u0_:Value,e=.returned (.tuple #[])∧Hp A w w' [.box p0 [.slice Ap1 np1 cp1,.slice Ap2 np2 cp2,.slice Ap3 np3 cp3,.int .i64 a0.f1.f0,.string a0.f1.f1,.string a0.f1.f2,.int .i64 a0.f1.f3,.int .i64 a0.f1.f4,.string a0.f1.f5,.bool a0.f1.f6,.int .i64 a0.f1.f7,.int .i64 a0.f1.f8,.slice Ap4 np4 cp4,.slice Ap5 np5 cp5,.slice Ap6 np6 cp6,.string a0.f1.f12,.int .i64 a0.f2,u0_] 91,.own (Zd.slice 59 q59) r [u0_]]):=by
  induction K with
  | zero=>
    intro k hK a0 a1 A p0 Ap1 np1 cp1 Ap2 np2 cp2 Ap3 np3 cp3 Ap4 np4 cp4 Ap5 np5 cp5 Ap6 np6 cp6 vp1 Ap8 np8 cp8 wv r w h gp1 lp1 gp2 lp2 gp3 lp3 gp4 lp4 gp5 lp5 gp6 lp6 gp8 lp8 hV HS
    obtain rfl:k=0:=by omega
    exact absurd h (by simp [impl_seeker_seek_0.f])
  | succ K IH=>
    intro k hK a0 a1 A p0 Ap1 np1 cp1 Ap2 np2 cp2 Ap3 np3 cp3 Ap4 np4 cp4 Ap5 np5 cp5 Ap6 np6 cp6 vp1 Ap8 np8 cp8 wv r w h gp1 lp1 gp2 lp2 gp3 lp3 gp4 lp4 gp5 lp5 gp6 lp6 gp8 lp8 hV HS
    cases k with
    |zero=>exact absurd h (by simp [impl_seeker_seek_0.f])
    |succ k=>
    have HK0:Aside0 (k≤K):=⟨by omega⟩
    clear hK
    obtain rfl:=C_len gp1
    obtain rfl:=C_len gp2
    obtain rfl:=C_len gp3
    obtain rfl:=C_len gp4
    obtain rfl:=C_len gp5
    obtain rfl:=C_len gp6
    obtain⟨B1,d1,rfl,m1⟩:=HS.form 1 rfl
    obtain rfl:=C_len gp8
    have H:=Aside0.mk h
    clear h
    simp only [impl_seeker_seek_0.f] at H
    go_enter Tryz.func49,Tryz.ntmps49
    have F:=HS.bx
    replace H:=zif H;rcases H with⟨c2,H⟩|⟨c2,H⟩
    ·
     obtain rfl:=zsome H
     go_wp2
     first|exact bodyPost_ret (results_none rfl _ _ _) rfl ⟨rfl,_,HS.pi [0,1]⟩|exact bodyPost_end (results_none rfl _ _ _) rfl ⟨rfl,_,HS.pi [0,1]⟩
    replace H:=zif' H;rcases H with⟨c3,H⟩|⟨c3,H⟩
    ·
     obtain⟨c3a,c3b⟩:=bq c3;clear c3
     obtain rfl:=zsome H
     go_wp2
     first|exact bodyPost_ret (results_none rfl _ _ _) rfl ⟨rfl,_,HS.pi [0,1]⟩|exact bodyPost_end (results_none rfl _ _ _) rfl ⟨rfl,_,HS.pi [0,1]⟩
    obtain⟨c3a,c3b⟩:=nq c3;clear c3
    replace H:=zbind H;obtain⟨t4,ht4,H⟩:=H
    go_upto_if 23 with((with_reducible refine gd 23 rfl ?_);refine ev_cl HS (impl_seeker_mayFollow_0.calls ht4.out (hV.ro km41 HS gp1) lp1 (hV.ro km69 HS gp2) lp2 (hV.ro km57 HS gp3) lp3 (hV.ro up_int HS gp4) lp4 (hV.ro up_string HS gp5) lp5 (hV.ro up_string HS gp6) lp6 (HS.rd 1 rfl) m1 (HS.cellAt 0 rfl (j:=0) rfl) (HS.cellAt 0 rfl (j:=1) rfl) (HS.cellAt 0 rfl (j:=2) rfl) (HS.cellAt 0 rfl (j:=3) rfl) (HS.cellAt 0 rfl (j:=4) rfl) (HS.cellAt 0 rfl (j:=5) rfl) (HS.cellAt 0 rfl (j:=6) rfl) (HS.cellAt 0 rfl (j:=7) rfl) (HS.cellAt 0 rfl (j:=8) rfl) (HS.cellAt 0 rfl (j:=9) rfl) (HS.cellAt 0 rfl (j:=10) rfl) (HS.cellAt 0 rfl (j:=11) rfl) (HS.cellAt 0 rfl (j:=12) rfl) (HS.cellAt 0 rfl (j:=13) rfl) (HS.cellAt 0 rfl (j:=14) rfl) (HS.cellAt 0 rfl (j:=15) rfl) (HS.cellAt 0 rfl (j:=16) rfl) (HS.cellAt 0 rfl (j:=17) rfl) (hV.ro km41 HS gp8) lp8 (hV.ro up_int HS gp4) lp4 (hV.ro up_string HS gp5) lp5 (hV.ro up_string HS gp6) lp6) Tryz.func108 ?_;clear HS;intro wt4 HS F)
    replace H:=znifb H;rcases H with⟨c6,H⟩|⟨c6,H⟩
    ·
     subst c6
     (try simp only [dcn,dcu,dcf])
     go_wp2
     go_loopg [53] k (fun kq v_53 w'=>∃(l77:List S59) (v78:Value) (x79:Int),v_53=.int .i64 x79∧Aside0 (impl_seeker_seek_0.l1 kq l77 x79 a0 a1=some r)∧Aside0 (kq≤k)∧Hp A w w' [.box p0 [.slice Ap1 a0.f0.f0.length cp1,.slice Ap2 a0.f0.f1.length cp2,.slice Ap3 a0.f0.f2.length cp3,.int .i64 a0.f1.f0,.string a0.f1.f1,.string a0.f1.f2,.int .i64 a0.f1.f3,.int .i64 a0.f1.f4,.string a0.f1.f5,.bool a0.f1.f6,.int .i64 a0.f1.f7,.int .i64 a0.f1.f8,.slice Ap4 a0.f1.f9.length cp4,.slice Ap5 a0.f1.f10.length cp5,.slice Ap6 a0.f1.f11.length cp6,.string a0.f1.f12,.int .i64 a0.f2,v78] 91,.own (Zd.slice 59 q59) l77 [v78]])
     case atStart=>exact⟨_,_,_,rfl,H,⟨Nat.le_refl _⟩,HS⟩
     case round=>
      clear HS H;(try clear F)
      obtain⟨l77,v78,x79,rfl,H,HKk76,HS⟩:=hrel
      obtain⟨B78,d78,rfl,m78⟩:=HS.form 1 rfl
      have F:=HS.bx
      cases gk with
      |zero=>exact absurd H.out (by simp [impl_seeker_seek_0.l1])
      | succ k76=>
       simp only [impl_seeker_seek_0.l1] at H
       replace H:=znif H;rcases H with⟨c81,H⟩|⟨c81,H⟩
       ·
        obtain rfl:=zsome H
        go_wp2
        first|exact bodyPost_ret (results_none rfl _ _ _) rfl ⟨rfl,_,HS.pi [0,1]⟩|exact bodyPost_end (results_none rfl _ _ _) rfl ⟨rfl,_,HS.pi [0,1]⟩
       replace H:=zgo H;obtain⟨c82,H⟩:=H
       replace H:=zgo H;obtain⟨c83,H⟩:=H
       obtain⟨ad84,B84_9,d84_9,B84_10,d84_10,B84_11,d84_11,rfl,e84_0,e84_1,e84_2,e84_3,e84_4,e84_5,e84_6,e84_7,e84_8,e84_9,e84_10,e84_11,e84_12,m84_9,y84_9,m84_10,y84_10,m84_11,y84_11⟩:=at_T41 gp1 x79 (of_eq_true c82) (of_eq_true c83)
       have e84_0_84:=(hV.keepc HS e84_0)
       have e84_1_84:=(hV.keepc HS e84_1)
       have e84_2_84:=(hV.keepc HS e84_2)
       have e84_3_84:=(hV.keepc HS e84_3)
       have e84_4_84:=(hV.keepc HS e84_4)
       have e84_5_84:=(hV.keepc HS e84_5)
       have e84_6_84:=(hV.keepc HS e84_6)
       have e84_7_84:=(hV.keepc HS e84_7)
       have e84_8_84:=(hV.keepc HS e84_8)
       have e84_9_84:=(hV.keepc HS e84_9)
       have e84_10_84:=(hV.keepc HS e84_10)
       have e84_11_84:=(hV.keepc HS e84_11)
       have e84_12_84:=(hV.keepc HS e84_12)
       go_wp2_with (first|((with_reducible refine gd 5 rfl ?_);refine ev_bx HS ?_;clear HS;intro g5 w5 HS F)|((with_reducible refine gate_store (p:=5) rfl ?_);refine ev_st 2 0 HS (seg:=[.int .i64 ((rd_T41 a0.f0.f0 x79).f0),.string ((rd_T41 a0.f0.f0 x79).f1),.string ((rd_T41 a0.f0.f0 x79).f2),.int .i64 ((rd_T41 a0.f0.f0 x79).f3),.int .i64 ((rd_T41 a0.f0.f0 x79).f4),.string ((rd_T41 a0.f0.f0 x79).f5),.bool ((rd_T41 a0.f0.f0 x79).f6),.int .i64 ((rd_T41 a0.f0.f0 x79).f7),.int .i64 ((rd_T41 a0.f0.f0 x79).f8),.slice B84_9 (rd_T41 a0.f0.f0 x79).f9.length d84_9,.slice B84_10 (rd_T41 a0.f0.f0 x79).f10.length d84_10,.slice B84_11 (rd_T41 a0.f0.f0 x79).f11.length d84_11,.string ((rd_T41 a0.f0.f0 x79).f12)]) ?_;clear HS;intro w87 HS F))
       replace H:=zbind H;obtain⟨t47,ht47,H⟩:=H
       replace H:=znifb H;rcases H with⟨c51,H⟩|⟨c51,H⟩
       ·
        subst c51
        refine dr_start [] HS #[false,false,false,false,false,false,false,false,false,false,false,false,false,false] (by kernel_rfl) rfl rfl impl_seeker_seek_0.tT6 (fun w96 HT HS HH=>?_)
        (try clear F)
        refine dqt [0,1,2] HT HH ?_
        refine dr1 3 HT fun K hK=>?_
        refine go_cl HS (impl_seeker_mayFollow_0.calls ht47.out (hV.ro km41 HS gp1) lp1 (hV.ro km69 HS gp2) lp2 (hV.ro km57 HS gp3) lp3 (hV.ro up_int HS gp4) lp4 (hV.ro up_string HS gp5) lp5 (hV.ro up_string HS gp6) lp6 (HS.rd 1 rfl) m78 (HS.cellAt 0 rfl (j:=0) rfl) (HS.cellAt 0 rfl (j:=1) rfl) (HS.cellAt 0 rfl (j:=2) rfl) (HS.cellAt 0 rfl (j:=3) rfl) (HS.cellAt 0 rfl (j:=4) rfl) (HS.cellAt 0 rfl (j:=5) rfl) (HS.cellAt 0 rfl (j:=6) rfl) (HS.cellAt 0 rfl (j:=7) rfl) (HS.cellAt 0 rfl (j:=8) rfl) (HS.cellAt 0 rfl (j:=9) rfl) (HS.cellAt 0 rfl (j:=10) rfl) (HS.cellAt 0 rfl (j:=11) rfl) (HS.cellAt 0 rfl (j:=12) rfl) (HS.cellAt 0 rfl (j:=13) rfl) (HS.cellAt 0 rfl (j:=14) rfl) (HS.cellAt 0 rfl (j:=15) rfl) (HS.cellAt 0 rfl (j:=16) rfl) (HS.cellAt 0 rfl (j:=17) rfl) (hV.ro km41 HS gp8) lp8 (hV.ro up_int HS y84_9) m84_9 (hV.ro up_string HS y84_10) m84_10 (hV.ro up_string HS y84_11) m84_11) Tryz.func108 ?_;clear HS;intro wt47 HS F
        refine nrm 60 hK ⟨_,HS⟩ fun HH=>?_;clear hK K
        refine dqo [4,5,6,7,8,9,10,11,12,13] HT ?_
        refine dn HT ?_
        (try clear F)
        have F:=HS.bx
        go_wp2
        go_roundg k76
        case measure=>have:=HK0.out;have:=HKk76.out;omega
        case rel=>exact⟨_,_,_,rfl,H,⟨by have:=HK0.out;have:=HKk76.out;omega⟩,HS.pi [0,1]⟩
       subst c51
       refine dr_start [] HS #[false,false,false,false,false,false,false,false,false,false,false,false,false,false] (by kernel_rfl) rfl rfl impl_seeker_seek_0.tT6 (fun w90 HT HS HH=>?_)
       (try clear F)
       refine dqt [0,1,2] HT HH ?_
       refine dr1 3 HT fun K hK=>?_
       refine go_cl HS (impl_seeker_mayFollow_0.calls ht47.out (hV.ro km41 HS gp1) lp1 (hV.ro km69 HS gp2) lp2 (hV.ro km57 HS gp3) lp3 (hV.ro up_int HS gp4) lp4 (hV.ro up_string HS gp5) lp5 (hV.ro up_string HS gp6) lp6 (HS.rd 1 rfl) m78 (HS.cellAt 0 rfl (j:=0) rfl) (HS.cellAt 0 rfl (j:=1) rfl) (HS.cellAt 0 rfl (j:=2) rfl) (HS.cellAt 0 rfl (j:=3) rfl) (HS.cellAt 0 rfl (j:=4) rfl) (HS.cellAt 0 rfl (j:=5) rfl) (HS.cellAt 0 rfl (j:=6) rfl) (HS.cellAt 0 rfl (j:=7) rfl) (HS.cellAt 0 rfl (j:=8) rfl) (HS.cellAt 0 rfl (j:=9) rfl) (HS.cellAt 0 rfl (j:=10) rfl) (HS.cellAt 0 rfl (j:=11) rfl) (HS.cellAt 0 rfl (j:=12) rfl) (HS.cellAt 0 rfl (j:=13) rfl) (HS.cellAt 0 rfl (j:=14) rfl) (HS.cellAt 0 rfl (j:=15) rfl) (HS.cellAt 0 rfl (j:=16) rfl) (HS.cellAt 0 rfl (j:=17) rfl) (hV.ro km41 HS gp8) lp8 (hV.ro up_int HS y84_9) m84_9 (hV.ro up_string HS y84_10) m84_10 (hV.ro up_string HS y84_11) m84_11) Tryz.func108 ?_;clear HS;intro wt47 HS F
       refine nrm 60 hK ⟨_,HS⟩ fun HH=>?_;clear hK K
       refine dqt [4,5,6,7,8,9,10,11,12,13] HT HH ?_
       refine dn HT ?_
       (try clear F)
       have F:=HS.bx
       replace H:=zif' H;rcases H with⟨c92,H⟩|⟨c92,H⟩
       ·
        obtain⟨c92a,c92b⟩:=bq c92;clear c92
        (try simp only [c92a,c92b,dcn])
        go_wp2
        go_roundg k76
        case measure=>have:=HK0.out;have:=HKk76.out;omega
        case rel=>exact⟨_,_,_,rfl,H,⟨by have:=HK0.out;have:=HKk76.out;omega⟩,HS.pi [0,1]⟩
       obtain⟨c92a,c92b⟩:=nq c92;clear c92
       (try simp only [c92a,c92b,dcn])
       (try go_wp2)
       replace H:=zgo H;obtain⟨c54,H⟩:=H
       replace H:=zlets H;obtain⟨y55,e_y55,H⟩:=H
       replace H:=zgo H;obtain⟨c58,H⟩:=H
       replace H:=zlets H;obtain⟨y60,e_y60,H⟩:=H
       replace H:=zbind H;obtain⟨t61,ht61,H⟩:=H
       refine dr_start [6] HS #[false,false,false,false,false,false,false] (by kernel_rfl) rfl rfl impl_seeker_seek_0.tT7 (fun w94 HT HS HH=>?_)
       (try clear F)
       refine join_ 0 #[true,true,true,true,true,true,true] (fun((v55,v56,v60,v62):Value×Value×Value×Value)=>([(71,.pointer (some ⟨p0,0,none⟩)),(72,.slice Ap8 a1.length cp8),(73,v55),(74,.agg #[.int .i64 ((rd_T41 a0.f0.f0 x79).f0),.string ((rd_T41 a0.f0.f0 x79).f1),.string ((rd_T41 a0.f0.f0 x79).f2),.int .i64 ((rd_T41 a0.f0.f0 x79).f3),.int .i64 ((rd_T41 a0.f0.f0 x79).f4),.string ((rd_T41 a0.f0.f0 x79).f5),.bool ((rd_T41 a0.f0.f0 x79).f6),.int .i64 ((rd_T41 a0.f0.f0 x79).f7),.int .i64 ((rd_T41 a0.f0.f0 x79).f8),.slice B84_9 (rd_T41 a0.f0.f0 x79).f9.length d84_9,.slice B84_10 (rd_T41 a0.f0.f0 x79).f10.length d84_10,.slice B84_11 (rd_T41 a0.f0.f0 x79).f11.length d84_11,.string ((rd_T41 a0.f0.f0 x79).f12)]),(75,v56),(76,v60),(77,.tuple #[])]:List (Tmp×Value))) (fun((v55,v56,v60,v62):Value×Value×Value×Value) w'=>Hp A w w' [.box p0 [.slice (some ad84) a0.f0.f0.length cp1,.slice Ap2 a0.f0.f1.length cp2,.slice Ap3 a0.f0.f2.length cp3,.int .i64 a0.f1.f0,.string a0.f1.f1,.string a0.f1.f2,.int .i64 a0.f1.f3,.int .i64 a0.f1.f4,.string a0.f1.f5,.bool a0.f1.f6,.int .i64 a0.f1.f7,.int .i64 a0.f1.f8,.slice Ap4 a0.f1.f9.length cp4,.slice Ap5 a0.f1.f10.length cp5,.slice Ap6 a0.f1.f11.length cp6,.string a0.f1.f12,.int .i64 a0.f2,v62] 91,.own (Zd.slice 59 q59) t61 [v62],.box g5 [.int .i64 ((rd_T41 a0.f0.f0 x79).f0),.string ((rd_T41 a0.f0.f0 x79).f1),.string ((rd_T41 a0.f0.f0 x79).f2),.int .i64 ((rd_T41 a0.f0.f0 x79).f3),.int .i64 ((rd_T41 a0.f0.f0 x79).f4),.string ((rd_T41 a0.f0.f0 x79).f5),.bool ((rd_T41 a0.f0.f0 x79).f6),.int .i64 ((rd_T41 a0.f0.f0 x79).f7),.int .i64 ((rd_T41 a0.f0.f0 x79).f8),.slice B84_9 (rd_T41 a0.f0.f0 x79).f9.length d84_9,.slice B84_10 (rd_T41 a0.f0.f0 x79).f10.length d84_10,.slice B84_11 (rd_T41 a0.f0.f0 x79).f11.length d84_11,.string ((rd_T41 a0.f0.f0 x79).f12)] 41,.emp,.emp,.emp,.own (Zd.slice 41 (Zd.at_ k41 wv)) y60 [v60]]) ?_ ?_
       rotate_left
       · intro hJ
         refine dqt [0,1,3] HT HH ?_
         refine dr_any [2,4] HT (by kernel_rfl) (by decide) (AllReadyL.cons rfl (by decide) (fun K hK=>?_) (AllReadyL.cons rfl (by decide) (fun K hK=>?_) AllReadyL.nil))
         · refine if_wp (by rfl) ?_;replace HS:=HS.nil 41 (Zd.at_ k41 wv);refine wp_appendr (Zd.at_ k41 wv) flat_at 3 HS rfl (at_C gp8 (fun e_=>hV.keepc HS e_)) rfl rfl rfl Tryz.underlying35 info41 rfl (Nat.zero_lt_succ _) (by decide) (by have:=of_eq_true c54;first|omega|(simp only [List.length_cons,List.length_nil,List.length_append,Nat.zero_add] at this⊢;omega)) ?_;clear HS;intro v55 w55 HS;rw [←e_y55.out] at HS;obtain⟨B55,d55,rfl,m55⟩:=HS.form 4 rfl
           (try simp only [hpn,hpm] at HS)
           have F:=HS.bx
           refine nrm 73 hK ⟨_,HS⟩ fun HH=>?_;clear hK K
           refine dr1 4 HT fun K hK=>?_
           refine if_li (Zd.at_ k41 wv) [] ([(rd_T41 a0.f0.f0 x79)]:List S41) ([.int .i64 ((rd_T41 a0.f0.f0 x79).f0),.string ((rd_T41 a0.f0.f0 x79).f1),.string ((rd_T41 a0.f0.f0 x79).f2),.int .i64 ((rd_T41 a0.f0.f0 x79).f3),.int .i64 ((rd_T41 a0.f0.f0 x79).f4),.string ((rd_T41 a0.f0.f0 x79).f5),.bool ((rd_T41 a0.f0.f0 x79).f6),.int .i64 ((rd_T41 a0.f0.f0 x79).f7),.int .i64 ((rd_T41 a0.f0.f0 x79).f8),.slice B84_9 (rd_T41 a0.f0.f0 x79).f9.length d84_9,.slice B84_10 (rd_T41 a0.f0.f0 x79).f10.length d84_10,.slice B84_11 (rd_T41 a0.f0.f0 x79).f11.length d84_11,.string ((rd_T41 a0.f0.f0 x79).f12)]++ []) HS (MadeL.cons (js1:=[]) (c:=[.int .i64 ((rd_T41 a0.f0.f0 x79).f0),.string ((rd_T41 a0.f0.f0 x79).f1),.string ((rd_T41 a0.f0.f0 x79).f2),.int .i64 ((rd_T41 a0.f0.f0 x79).f3),.int .i64 ((rd_T41 a0.f0.f0 x79).f4),.string ((rd_T41 a0.f0.f0 x79).f5),.bool ((rd_T41 a0.f0.f0 x79).f6),.int .i64 ((rd_T41 a0.f0.f0 x79).f7),.int .i64 ((rd_T41 a0.f0.f0 x79).f8),.slice B84_9 (rd_T41 a0.f0.f0 x79).f9.length d84_9,.slice B84_10 (rd_T41 a0.f0.f0 x79).f10.length d84_10,.slice B84_11 (rd_T41 a0.f0.f0 x79).f11.length d84_11,.string ((rd_T41 a0.f0.f0 x79).f12)]) rfl (made_flat (d:=Zd.at_ k41 wv) (fun _=>k41_mk _ _ m84_9 y84_9 m84_10 y84_10 m84_11 y84_11)) MadeL.nil (by decide)) ?_;clear HS;intro v56 w56 HS F;obtain⟨B56,d56,rfl,m56⟩:=HS.formn 1 5 rfl rfl
           refine nrm 75 hK ⟨_,HS⟩ fun HH=>?_;clear hK K
           refine dr1 5 HT fun K hK=>?_
           refine wp_ap (Zd.at_ k41 wv) 4 5 HS rfl rfl Tryz.underlying35 info41 (of_eq_true c58) ?_;clear HS;intro v60 w60 HS;rw [←e_y60.out] at HS;obtain⟨B60,d60,rfl,m60⟩:=HS.form 6 rfl
           (try simp only [hpn,hpm] at HS)
           have F:=HS.bx
           refine nrm 76 hK ⟨_,HS⟩ fun HH=>?_;clear hK K
           refine dl 6 HT fun K hK=>?_
           refine HS.lend [0,1] (by decide) [.box p0 [.slice (some ad84) a0.f0.f0.length cp1,.slice Ap2 a0.f0.f1.length cp2,.slice Ap3 a0.f0.f2.length cp3,.int .i64 a0.f1.f0,.string a0.f1.f1,.string a0.f1.f2,.int .i64 a0.f1.f3,.int .i64 a0.f1.f4,.string a0.f1.f5,.bool a0.f1.f6,.int .i64 a0.f1.f7,.int .i64 a0.f1.f8,.slice Ap4 a0.f1.f9.length cp4,.slice Ap5 a0.f1.f10.length cp5,.slice Ap6 a0.f1.f11.length cp6,.string a0.f1.f12,.int .i64 a0.f2,.slice B78 l77.length d78] 91,.own (Zd.slice 59 q59) l77 [.slice B78 l77.length d78]] rfl (fun A' HL HD HA HB=>?_);refine goes_ Tryz.func49 (by kernel_rfl) rfl #[.pointer (some ⟨p0,0,none⟩),.slice B60 y60.length d60] (by rfl) rfl rfl (by simp only [mpn];rfl) ?_;refine(IH (by have:=HK0.out;have:=HKk76.out;omega) ht61.out (hV.hideC km41 HS HL gp1) lp1 (hV.hideC km69 HS HL gp2) lp2 (hV.hideC km57 HS HL gp3) lp3 (hV.hideC up_int HS HL gp4) lp4 (hV.hideC up_string HS HL gp5) lp5 (hV.hideC up_string HS HL gp6) lp6 (C_at km41 (fun e_=>hV.hidec HS HL e_) (hide_rd HD 6 rfl (by decide))) m60 (hide_view A' _) HA).mono ?_;rintro _ wt61 ⟨v62,rfl,HQ⟩;refine⟨_,rfl,?_⟩;replace HS:=HB _ _ HQ (Nat.le_of_ble_eq_true rfl);clear HQ HA HB HL HD;(try simp only [hpn,hpm] at HS);(try clear F);obtain⟨B62,d62,rfl,m62⟩:=HS.form 1 rfl
           (try simp only [hpn,hpm] at HS)
           have F:=HS.bx
           refine hK.out _ _ ?_
           clear hK K
           refine norm_ (a':=?_) ?_ ?_
           rotate_left
           · show Act.put _ (some 77) _=_;simp only [Act.put,ptn];rfl
           refine norm_ ?_ (hJ (.slice B55 y55.length d55,.slice B56 1 d56,.slice B60 y60.length d60,.slice B62 t61.length d62) _ (HS.ar [some 0,some 1,some 2,none,none,none,some 6]))
           simp only [putAll,Act.put,ptn]
           (try rfl)
         · refine if_li (Zd.at_ k41 wv) [] ([(rd_T41 a0.f0.f0 x79)]:List S41) ([.int .i64 ((rd_T41 a0.f0.f0 x79).f0),.string ((rd_T41 a0.f0.f0 x79).f1),.string ((rd_T41 a0.f0.f0 x79).f2),.int .i64 ((rd_T41 a0.f0.f0 x79).f3),.int .i64 ((rd_T41 a0.f0.f0 x79).f4),.string ((rd_T41 a0.f0.f0 x79).f5),.bool ((rd_T41 a0.f0.f0 x79).f6),.int .i64 ((rd_T41 a0.f0.f0 x79).f7),.int .i64 ((rd_T41 a0.f0.f0 x79).f8),.slice B84_9 (rd_T41 a0.f0.f0 x79).f9.length d84_9,.slice B84_10 (rd_T41 a0.f0.f0 x79).f10.length d84_10,.slice B84_11 (rd_T41 a0.f0.f0 x79).f11.length d84_11,.string ((rd_T41 a0.f0.f0 x79).f12)]++ []) HS (MadeL.cons (js1:=[]) (c:=[.int .i64 ((rd_T41 a0.f0.f0 x79).f0),.string ((rd_T41 a0.f0.f0 x79).f1),.string ((rd_T41 a0.f0.f0 x79).f2),.int .i64 ((rd_T41 a0.f0.f0 x79).f3),.int .i64 ((rd_T41 a0.f0.f0 x79).f4),.string ((rd_T41 a0.f0.f0 x79).f5),.bool ((rd_T41 a0.f0.f0 x79).f6),.int .i64 ((rd_T41 a0.f0.f0 x79).f7),.int .i64 ((rd_T41 a0.f0.f0 x79).f8),.slice B84_9 (rd_T41 a0.f0.f0 x79).f9.length d84_9,.slice B84_10 (rd_T41 a0.f0.f0 x79).f10.length d84_10,.slice B84_11 (rd_T41 a0.f0.f0 x79).f11.length d84_11,.string ((rd_T41 a0.f0.f0 x79).f12)]) rfl (made_flat (d:=Zd.at_ k41 wv) (fun _=>k41_mk _ _ m84_9 y84_9 m84_10 y84_10 m84_11 y84_11)) MadeL.nil (by decide)) ?_;clear HS;intro v56 w56 HS F;obtain⟨B56,d56,rfl,m56⟩:=HS.formn 1 3 rfl rfl
           refine nrm 75 hK ⟨_,HS⟩ fun HH=>?_;clear hK K
           refine dr1 2 HT fun K hK=>?_
           refine if_wp (by rfl) ?_;replace HS:=HS.nil 41 (Zd.at_ k41 wv);refine wp_appendr (Zd.at_ k41 wv) flat_at 4 HS rfl (at_C gp8 (fun e_=>hV.keepc HS e_)) rfl rfl rfl Tryz.underlying35 info41 rfl (Nat.zero_lt_succ _) (by decide) (by have:=of_eq_true c54;first|omega|(simp only [List.length_cons,List.length_nil,List.length_append,Nat.zero_add] at this⊢;omega)) ?_;clear HS;intro v55 w55 HS;rw [←e_y55.out] at HS;obtain⟨B55,d55,rfl,m55⟩:=HS.form 5 rfl
           (try simp only [hpn,hpm] at HS)
           have F:=HS.bx
           refine nrm 73 hK ⟨_,HS⟩ fun HH=>?_;clear hK K
           refine dr1 5 HT fun K hK=>?_
           refine wp_ap (Zd.at_ k41 wv) 5 3 HS rfl rfl Tryz.underlying35 info41 (of_eq_true c58) ?_;clear HS;intro v60 w60 HS;rw [←e_y60.out] at HS;obtain⟨B60,d60,rfl,m60⟩:=HS.form 6 rfl
           (try simp only [hpn,hpm] at HS)
           have F:=HS.bx
           refine nrm 76 hK ⟨_,HS⟩ fun HH=>?_;clear hK K
           refine dl 6 HT fun K hK=>?_
           refine HS.lend [0,1] (by decide) [.box p0 [.slice (some ad84) a0.f0.f0.length cp1,.slice Ap2 a0.f0.f1.length cp2,.slice Ap3 a0.f0.f2.length cp3,.int .i64 a0.f1.f0,.string a0.f1.f1,.string a0.f1.f2,.int .i64 a0.f1.f3,.int .i64 a0.f1.f4,.string a0.f1.f5,.bool a0.f1.f6,.int .i64 a0.f1.f7,.int .i64 a0.f1.f8,.slice Ap4 a0.f1.f9.length cp4,.slice Ap5 a0.f1.f10.length cp5,.slice Ap6 a0.f1.f11.length cp6,.string a0.f1.f12,.int .i64 a0.f2,.slice B78 l77.length d78] 91,.own (Zd.slice 59 q59) l77 [.slice B78 l77.length d78]] rfl (fun A' HL HD HA HB=>?_);refine goes_ Tryz.func49 (by kernel_rfl) rfl #[.pointer (some ⟨p0,0,none⟩),.slice B60 y60.length d60] (by rfl) rfl rfl (by simp only [mpn];rfl) ?_;refine(IH (by have:=HK0.out;have:=HKk76.out;omega) ht61.out (hV.hideC km41 HS HL gp1) lp1 (hV.hideC km69 HS HL gp2) lp2 (hV.hideC km57 HS HL gp3) lp3 (hV.hideC up_int HS HL gp4) lp4 (hV.hideC up_string HS HL gp5) lp5 (hV.hideC up_string HS HL gp6) lp6 (C_at km41 (fun e_=>hV.hidec HS HL e_) (hide_rd HD 6 rfl (by decide))) m60 (hide_view A' _) HA).mono ?_;rintro _ wt61 ⟨v62,rfl,HQ⟩;refine⟨_,rfl,?_⟩;replace HS:=HB _ _ HQ (Nat.le_of_ble_eq_true rfl);clear HQ HA HB HL HD;(try simp only [hpn,hpm] at HS);(try clear F);obtain⟨B62,d62,rfl,m62⟩:=HS.form 1 rfl
           (try simp only [hpn,hpm] at HS)
           have F:=HS.bx
           refine hK.out _ _ ?_
           clear hK K
           refine norm_ (a':=?_) ?_ ?_
           rotate_left
           · show Act.put _ (some 77) _=_;simp only [Act.put,ptn];rfl
           refine norm_ ?_ (hJ (.slice B55 y55.length d55,.slice B56 1 d56,.slice B60 y60.length d60,.slice B62 t61.length d62) _ (HS.ar [some 0,some 1,some 2,none,none,none,some 6]))
           simp only [putAll,Act.put,ptn]
           (try rfl)
       rintro⟨v55,v56,v60,v62⟩ w63 HS
       obtain⟨B60,d60,rfl,m60⟩:=HS.form 6 rfl
       obtain⟨B62,d62,rfl,m62⟩:=HS.form 1 rfl
       have F:=HS.bx
       refine norm_ (a':=?_) ?_ ?_
       rotate_left
       · simp only [putAll,Act.put,ptn];rfl
       refine dn HT ?_
       go_wp2
       go_roundg k76
       case measure=>have:=HK0.out;have:=HKk76.out;omega
       case rel=>exact⟨_,_,_,rfl,H,⟨by have:=HK0.out;have:=HKk76.out;omega⟩,HS.pi [0,1]⟩
    subst c6
    (try simp only [dcn,dcu,dcf])
    (try go_wp2)
    replace H:=zbind H;obtain⟨t13,ht13,H⟩:=H
    replace H:=zbind H;obtain⟨t15,ht15,H⟩:=H
    replace H:=zgo H;obtain⟨c20,H⟩:=H
    replace H:=zlets H;obtain⟨y21,e_y21,H⟩:=H
    replace H:=zgo H;obtain⟨c23,H⟩:=H
    replace H:=zlets H;obtain⟨y24,e_y24,H⟩:=H
    refine dr_start2 [.box p0 [.slice Ap1 a0.f0.f0.length cp1,.slice Ap2 a0.f0.f1.length cp2,.slice Ap3 a0.f0.f2.length cp3,.int .i64 a0.f1.f0,.string a0.f1.f1,.string a0.f1.f2,.int .i64 a0.f1.f3,.int .i64 a0.f1.f4,.string a0.f1.f5,.bool a0.f1.f6,.int .i64 a0.f1.f7,.int .i64 a0.f1.f8,.slice Ap4 a0.f1.f9.length cp4,.slice Ap5 a0.f1.f10.length cp5,.slice Ap6 a0.f1.f11.length cp6,.string a0.f1.f12,.int .i64 a0.f2,.slice B1 a0.f3.length d1] 91,.emp] [23] HS (HS.ar [some 0,none]) #[false,false,false,false,false,false,false,false,false,false,false,false,false,false,false,false,false,false,false,false,false,false,false,false] (by kernel_rfl) rfl rfl impl_seeker_seek_0.tT2 (fun w8 HT HS HH=>?_)
    (try clear F)
    refine dqt [0,1,2,3,4,5,6,7,8,9,11,12,13,14] HT HH ?_
    refine dr1 10 HT fun K hK=>?_
    refine go_cl1 HS (impl_copyCerts.calls ht13.out (hV.ro km41 HS gp8) lp8) Tryz.func109 ?_;clear HS;intro v14 wt13 HS F;obtain⟨B14,d14,rfl,m14⟩:=HS.form 2 rfl
    refine nra 34 hK (HS.ar [some 0,none]) fun HH=>?_;clear hK K
    refine dr1 15 HT fun K hK=>?_
    refine go_cl3 HS (impl_copyCert.calls ht15.out (hV.ro up_int HS gp4) lp4 (hV.ro up_string HS gp5) lp5 (hV.ro up_string HS gp6) lp6) Tryz.func79 ?_;clear HS;intro v16 v17 v18 wt15 HS F;obtain⟨B16,d16,rfl,m16⟩:=HS.form 3 rfl;obtain⟨B17,d17,rfl,m17⟩:=HS.form 4 rfl;obtain⟨B18,d18,rfl,m18⟩:=HS.form 5 rfl
    refine nra 39 hK (HS.ar [some 0,none]) fun HH=>?_;clear hK K
    refine dr1 16 HT fun K hK=>?_
    refine if_li q41 [3,4,5] ([t15]:List S41) ([.int .i64 t15.f0,.string t15.f1,.string t15.f2,.int .i64 t15.f3,.int .i64 t15.f4,.string t15.f5,.bool t15.f6,.int .i64 t15.f7,.int .i64 t15.f8,.slice B16 t15.f9.length d16,.slice B17 t15.f10.length d17,.slice B18 t15.f11.length d18,.string t15.f12]++ []) HS (MadeL.cons (js1:=[3,4,5]) (c:=[.int .i64 t15.f0,.string t15.f1,.string t15.f2,.int .i64 t15.f3,.int .i64 t15.f4,.string t15.f5,.bool t15.f6,.int .i64 t15.f7,.int .i64 t15.f8,.slice B16 t15.f9.length d16,.slice B17 t15.f10.length d17,.slice B18 t15.f11.length d18,.string t15.f12]) rfl (fun S hd hh=>q41_pack (x:=t15) hd (hh 3 (.own (Zd.slice 3 (Zd.int .i64)) t15.f9 [.slice B16 t15.f9.length d16]) rfl) (hh 4 (.own (Zd.slice 9 Zd.string) t15.f10 [.slice B17 t15.f10.length d17]) rfl) (hh 5 (.own (Zd.slice 9 Zd.string) t15.f11 [.slice B18 t15.f11.length d18]) rfl) (by decide)) MadeL.nil (by decide)) ?_;clear HS;intro v19 w19 HS F;obtain⟨B19,d19,rfl,m19⟩:=HS.formn 1 6 rfl rfl
    refine nra 40 hK (HS.ar [some 0,none]) fun HH=>?_;clear hK K
    refine dr1 17 HT fun K hK=>?_
    refine wp_ap q41 2 6 HS rfl rfl Tryz.underlying35 info41 (of_eq_true c20) ?_;clear HS;intro v21 w21 HS;rw [←e_y21.out] at HS;obtain⟨B21,d21,rfl,m21⟩:=HS.form 7 rfl
    (try simp only [hpn,hpm] at HS)
    have F:=HS.bx
    refine nra 41 hK (HS.ar [some 0,none]) fun HH=>?_;clear hK K
    refine dq [18] HT ?_
    refine dr1 19 HT fun K hK=>?_
    refine if_li q59 [7] ([(⟨a0.f2,y21⟩:S59)]:List S59) ([.int .i64 a0.f2,.slice B21 y21.length d21]++ []) HS (MadeL.cons (js1:=[7]) (c:=[.int .i64 a0.f2,.slice B21 y21.length d21]) rfl (fun S hd hh=>q59_pack (x:=(⟨a0.f2,y21⟩:S59)) hd (hh 7 (.own (Zd.slice 41 q41) y21 [.slice B21 y21.length d21]) rfl) (by decide)) MadeL.nil (by decide)) ?_;clear HS;intro v22 w22 HS F;obtain⟨B22,d22,rfl,m22⟩:=HS.formn 1 8 rfl rfl
    refine nra 43 hK (HS.ar [some 0,none]) fun HH=>?_;clear hK K
    refine dr1 20 HT fun K hK=>?_
    refine wp_ap q59 1 8 HS rfl rfl Tryz.underlying33 info59 (of_eq_true c23) ?_;clear HS;intro v24 w24 HS;rw [←e_y24.out] at HS;obtain⟨B24,d24,rfl,m24⟩:=HS.form 9 rfl
    (try simp only [hpn,hpm] at HS)
    have F:=HS.bx
    refine nra 44 hK (HS.ar [some 0,none]) fun HH=>?_;clear hK K
    refine dq [21,22] HT ?_
    refine dl 23 HT fun K hK=>?_
    refine if_st 0 17 HS (seg:=[.slice B24 y24.length d24]) ?_;clear HS;intro w25 HS F
    refine hK.out _ _ ?_
    clear hK K
    refine dn HT ?_
    (try clear F)
    have F:=HS.bx
    go_wp2
    go_loopg [53] k (fun kq v_53 w'=>∃(l33:List S59) (v34:Value) (x35:Int),v_53=.int .i64 x35∧Aside0 (impl_seeker_seek_0.l0 kq l33 x35 a0 a1=some r)∧Aside0 (kq≤k)∧Hp A w w' [.box p0 [.slice Ap1 a0.f0.f0.length cp1,.slice Ap2 a0.f0.f1.length cp2,.slice Ap3 a0.f0.f2.length cp3,.int .i64 a0.f1.f0,.string a0.f1.f1,.string a0.f1.f2,.int .i64 a0.f1.f3,.int .i64 a0.f1.f4,.string a0.f1.f5,.bool a0.f1.f6,.int .i64 a0.f1.f7,.int .i64 a0.f1.f8,.slice Ap4 a0.f1.f9.length cp4,.slice Ap5 a0.f1.f10.length cp5,.slice Ap6 a0.f1.f11.length cp6,.string a0.f1.f12,.int .i64 a0.f2,v34] 91,.emp,.emp,.emp,.emp,.emp,.emp,.emp,.emp,.own (Zd.slice 59 q59) l33 [v34]])
    case atStart=>exact⟨_,_,_,rfl,H,⟨Nat.le_refl _⟩,HS⟩
    case round=>
     clear HS H;(try clear F)
     obtain⟨l33,v34,x35,rfl,H,HKk32,HS⟩:=hrel
     obtain⟨B34,d34,rfl,m34⟩:=HS.form 9 rfl
     have F:=HS.bx
     cases gk with
     |zero=>exact absurd H.out (by simp [impl_seeker_seek_0.l0])
     | succ k32=>
      simp only [impl_seeker_seek_0.l0] at H
      replace H:=znif H;rcases H with⟨c37,H⟩|⟨c37,H⟩
      ·
       obtain rfl:=zsome H
       go_wp2
       first|exact bodyPost_ret (results_none rfl _ _ _) rfl ⟨rfl,_,HS.pi [0,9]⟩|exact bodyPost_end (results_none rfl _ _ _) rfl ⟨rfl,_,HS.pi [0,9]⟩
      replace H:=zgo H;obtain⟨c38,H⟩:=H
      replace H:=zgo H;obtain⟨c39,H⟩:=H
      obtain⟨ad40,B40_9,d40_9,B40_10,d40_10,B40_11,d40_11,rfl,e40_0,e40_1,e40_2,e40_3,e40_4,e40_5,e40_6,e40_7,e40_8,e40_9,e40_10,e40_11,e40_12,m40_9,y40_9,m40_10,y40_10,m40_11,y40_11⟩:=at_T41 gp1 x35 (of_eq_true c38) (of_eq_true c39)
      have e40_0_40:=(hV.keepc HS e40_0)
      have e40_1_40:=(hV.keepc HS e40_1)
      have e40_2_40:=(hV.keepc HS e40_2)
      have e40_3_40:=(hV.keepc HS e40_3)
      have e40_4_40:=(hV.keepc HS e40_4)
      have e40_5_40:=(hV.keepc HS e40_5)
      have e40_6_40:=(hV.keepc HS e40_6)
      have e40_7_40:=(hV.keepc HS e40_7)
      have e40_8_40:=(hV.keepc HS e40_8)
      have e40_9_40:=(hV.keepc HS e40_9)
      have e40_10_40:=(hV.keepc HS e40_10)
      have e40_11_40:=(hV.keepc HS e40_11)
      have e40_12_40:=(hV.keepc HS e40_12)
      go_wp2_with (first|((with_reducible refine gd 5 rfl ?_);refine ev_bx HS ?_;clear HS;intro g5 w5 HS F)|((with_reducible refine gate_store (p:=5) rfl ?_);refine ev_st 10 0 HS (seg:=[.int .i64 ((rd_T41 a0.f0.f0 x35).f0),.string ((rd_T41 a0.f0.f0 x35).f1),.string ((rd_T41 a0.f0.f0 x35).f2),.int .i64 ((rd_T41 a0.f0.f0 x35).f3),.int .i64 ((rd_T41 a0.f0.f0 x35).f4),.string ((rd_T41 a0.f0.f0 x35).f5),.bool ((rd_T41 a0.f0.f0 x35).f6),.int .i64 ((rd_T41 a0.f0.f0 x35).f7),.int .i64 ((rd_T41 a0.f0.f0 x35).f8),.slice B40_9 (rd_T41 a0.f0.f0 x35).f9.length d40_9,.slice B40_10 (rd_T41 a0.f0.f0 x35).f10.length d40_10,.slice B40_11 (rd_T41 a0.f0.f0 x35).f11.length d40_11,.string ((rd_T41 a0.f0.f0 x35).f12)]) ?_;clear HS;intro w43 HS F))
      replace H:=zbind H;obtain⟨t26,ht26,H⟩:=H
      replace H:=znifb H;rcases H with⟨c27,H⟩|⟨c27,H⟩
      ·
       subst c27
       refine dr_start [] HS #[false,false,false,false,false,false,false,false,false,false,false,false,false,false] (by kernel_rfl) rfl rfl impl_seeker_seek_0.tT6 (fun w52 HT HS HH=>?_)
       (try clear F)
       refine dqt [0,1,2] HT HH ?_
       refine dr1 3 HT fun K hK=>?_
       refine go_cl HS (impl_seeker_mayFollow_0.calls ht26.out (hV.ro km41 HS gp1) lp1 (hV.ro km69 HS gp2) lp2 (hV.ro km57 HS gp3) lp3 (hV.ro up_int HS gp4) lp4 (hV.ro up_string HS gp5) lp5 (hV.ro up_string HS gp6) lp6 (HS.rd 9 rfl) m34 (HS.cellAt 0 rfl (j:=0) rfl) (HS.cellAt 0 rfl (j:=1) rfl) (HS.cellAt 0 rfl (j:=2) rfl) (HS.cellAt 0 rfl (j:=3) rfl) (HS.cellAt 0 rfl (j:=4) rfl) (HS.cellAt 0 rfl (j:=5) rfl) (HS.cellAt 0 rfl (j:=6) rfl) (HS.cellAt 0 rfl (j:=7) rfl) (HS.cellAt 0 rfl (j:=8) rfl) (HS.cellAt 0 rfl (j:=9) rfl) (HS.cellAt 0 rfl (j:=10) rfl) (HS.cellAt 0 rfl (j:=11) rfl) (HS.cellAt 0 rfl (j:=12) rfl) (HS.cellAt 0 rfl (j:=13) rfl) (HS.cellAt 0 rfl (j:=14) rfl) (HS.cellAt 0 rfl (j:=15) rfl) (HS.cellAt 0 rfl (j:=16) rfl) (HS.cellAt 0 rfl (j:=17) rfl) (hV.ro km41 HS gp8) lp8 (hV.ro up_int HS y40_9) m40_9 (hV.ro up_string HS y40_10) m40_10 (hV.ro up_string HS y40_11) m40_11) Tryz.func108 ?_;clear HS;intro wt26 HS F
       refine nrm 60 hK ⟨_,HS⟩ fun HH=>?_;clear hK K
       refine dqo [4,5,6,7,8,9,10,11,12,13] HT ?_
       refine dn HT ?_
       (try clear F)
       have F:=HS.bx
       go_wp2
       go_roundg k32
       case measure=>have:=HK0.out;have:=HKk32.out;omega
       case rel=>exact⟨_,_,_,rfl,H,⟨by have:=HK0.out;have:=HKk32.out;omega⟩,HS.pi [0,1,2,3,4,5,6,7,8,9]⟩
      subst c27
      refine dr_start [] HS #[false,false,false,false,false,false,false,false,false,false,false,false,false,false] (by kernel_rfl) rfl rfl impl_seeker_seek_0.tT6 (fun w46 HT HS HH=>?_)
      (try clear F)
      refine dqt [0,1,2] HT HH ?_
      refine dr1 3 HT fun K hK=>?_
      refine go_cl HS (impl_seeker_mayFollow_0.calls ht26.out (hV.ro km41 HS gp1) lp1 (hV.ro km69 HS gp2) lp2 (hV.ro km57 HS gp3) lp3 (hV.ro up_int HS gp4) lp4 (hV.ro up_string HS gp5) lp5 (hV.ro up_string HS gp6) lp6 (HS.rd 9 rfl) m34 (HS.cellAt 0 rfl (j:=0) rfl) (HS.cellAt 0 rfl (j:=1) rfl) (HS.cellAt 0 rfl (j:=2) rfl) (HS.cellAt 0 rfl (j:=3) rfl) (HS.cellAt 0 rfl (j:=4) rfl) (HS.cellAt 0 rfl (j:=5) rfl) (HS.cellAt 0 rfl (j:=6) rfl) (HS.cellAt 0 rfl (j:=7) rfl) (HS.cellAt 0 rfl (j:=8) rfl) (HS.cellAt 0 rfl (j:=9) rfl) (HS.cellAt 0 rfl (j:=10) rfl) (HS.cellAt 0 rfl (j:=11) rfl) (HS.cellAt 0 rfl (j:=12) rfl) (HS.cellAt 0 rfl (j:=13) rfl) (HS.cellAt 0 rfl (j:=14) rfl) (HS.cellAt 0 rfl (j:=15) rfl) (HS.cellAt 0 rfl (j:=16) rfl) (HS.cellAt 0 rfl (j:=17) rfl) (hV.ro km41 HS gp8) lp8 (hV.ro up_int HS y40_9) m40_9 (hV.ro up_string HS y40_10) m40_10 (hV.ro up_string HS y40_11) m40_11) Tryz.func108 ?_;clear HS;intro wt26 HS F
      refine nrm 60 hK ⟨_,HS⟩ fun HH=>?_;clear hK K
      refine dqt [4,5,6,7,8,9,10,11,12,13] HT HH ?_
      refine dn HT ?_
      (try clear F)
      have F:=HS.bx
      replace H:=zif' H;rcases H with⟨c48,H⟩|⟨c48,H⟩
      ·
       obtain⟨c48a,c48b⟩:=bq c48;clear c48
       (try simp only [c48a,c48b,dcn])
       go_wp2
       go_roundg k32
       case measure=>have:=HK0.out;have:=HKk32.out;omega
       case rel=>exact⟨_,_,_,rfl,H,⟨by have:=HK0.out;have:=HKk32.out;omega⟩,HS.pi [0,1,2,3,4,5,6,7,8,9]⟩
      obtain⟨c48a,c48b⟩:=nq c48;clear c48
      (try simp only [c48a,c48b,dcn])
      (try go_wp2)
      replace H:=zgo H;obtain⟨c28,H⟩:=H
      replace H:=zlets H;obtain⟨y29,e_y29,H⟩:=H
      replace H:=zgo H;obtain⟨c31,H⟩:=H
      replace H:=zlets H;obtain⟨y36,e_y36,H⟩:=H
      replace H:=zbind H;obtain⟨t42,ht42,H⟩:=H
      refine dr_start [6] HS #[false,false,false,false,false,false,false] (by kernel_rfl) rfl rfl impl_seeker_seek_0.tT7 (fun w50 HT HS HH=>?_)
      (try clear F)
      refine join_ 0 #[true,true,true,true,true,true,true] (fun((v29,v30,v36,v44):Value×Value×Value×Value)=>([(71,.pointer (some ⟨p0,0,none⟩)),(72,.slice Ap8 a1.length cp8),(73,v29),(74,.agg #[.int .i64 ((rd_T41 a0.f0.f0 x35).f0),.string ((rd_T41 a0.f0.f0 x35).f1),.string ((rd_T41 a0.f0.f0 x35).f2),.int .i64 ((rd_T41 a0.f0.f0 x35).f3),.int .i64 ((rd_T41 a0.f0.f0 x35).f4),.string ((rd_T41 a0.f0.f0 x35).f5),.bool ((rd_T41 a0.f0.f0 x35).f6),.int .i64 ((rd_T41 a0.f0.f0 x35).f7),.int .i64 ((rd_T41 a0.f0.f0 x35).f8),.slice B40_9 (rd_T41 a0.f0.f0 x35).f9.length d40_9,.slice B40_10 (rd_T41 a0.f0.f0 x35).f10.length d40_10,.slice B40_11 (rd_T41 a0.f0.f0 x35).f11.length d40_11,.string ((rd_T41 a0.f0.f0 x35).f12)]),(75,v30),(76,v36),(77,.tuple #[])]:List (Tmp×Value))) (fun((v29,v30,v36,v44):Value×Value×Value×Value) w'=>Hp A w w' [.box p0 [.slice (some ad40) a0.f0.f0.length cp1,.slice Ap2 a0.f0.f1.length cp2,.slice Ap3 a0.f0.f2.length cp3,.int .i64 a0.f1.f0,.string a0.f1.f1,.string a0.f1.f2,.int .i64 a0.f1.f3,.int .i64 a0.f1.f4,.string a0.f1.f5,.bool a0.f1.f6,.int .i64 a0.f1.f7,.int .i64 a0.f1.f8,.slice Ap4 a0.f1.f9.length cp4,.slice Ap5 a0.f1.f10.length cp5,.slice Ap6 a0.f1.f11.length cp6,.string a0.f1.f12,.int .i64 a0.f2,v44] 91,.emp,.emp,.emp,.emp,.emp,.emp,.emp,.emp,.own (Zd.slice 59 q59) t42 [v44],.box g5 [.int .i64 ((rd_T41 a0.f0.f0 x35).f0),.string ((rd_T41 a0.f0.f0 x35).f1),.string ((rd_T41 a0.f0.f0 x35).f2),.int .i64 ((rd_T41 a0.f0.f0 x35).f3),.int .i64 ((rd_T41 a0.f0.f0 x35).f4),.string ((rd_T41 a0.f0.f0 x35).f5),.bool ((rd_T41 a0.f0.f0 x35).f6),.int .i64 ((rd_T41 a0.f0.f0 x35).f7),.int .i64 ((rd_T41 a0.f0.f0 x35).f8),.slice B40_9 (rd_T41 a0.f0.f0 x35).f9.length d40_9,.slice B40_10 (rd_T41 a0.f0.f0 x35).f10.length d40_10,.slice B40_11 (rd_T41 a0.f0.f0 x35).f11.length d40_11,.string ((rd_T41 a0.f0.f0 x35).f12)] 41,.emp,.emp,.emp,.own (Zd.slice 41 (Zd.at_ k41 wv)) y36 [v36]]) ?_ ?_
      rotate_left
      · intro hJ
        refine dqt [0,1,3] HT HH ?_
        refine dr_any [2,4] HT (by kernel_rfl) (by decide) (AllReadyL.cons rfl (by decide) (fun K hK=>?_) (AllReadyL.cons rfl (by decide) (fun K hK=>?_) AllReadyL.nil))
        · refine if_wp (by rfl) ?_;replace HS:=HS.nil 41 (Zd.at_ k41 wv);refine wp_appendr (Zd.at_ k41 wv) flat_at 11 HS rfl (at_C gp8 (fun e_=>hV.keepc HS e_)) rfl rfl rfl Tryz.underlying35 info41 rfl (Nat.zero_lt_succ _) (by decide) (by have:=of_eq_true c28;first|omega|(simp only [List.length_cons,List.length_nil,List.length_append,Nat.zero_add] at this⊢;omega)) ?_;clear HS;intro v29 w29 HS;rw [←e_y29.out] at HS;obtain⟨B29,d29,rfl,m29⟩:=HS.form 12 rfl
          (try simp only [hpn,hpm] at HS)
          have F:=HS.bx
          refine nrm 73 hK ⟨_,HS⟩ fun HH=>?_;clear hK K
          refine dr1 4 HT fun K hK=>?_
          refine if_li (Zd.at_ k41 wv) [] ([(rd_T41 a0.f0.f0 x35)]:List S41) ([.int .i64 ((rd_T41 a0.f0.f0 x35).f0),.string ((rd_T41 a0.f0.f0 x35).f1),.string ((rd_T41 a0.f0.f0 x35).f2),.int .i64 ((rd_T41 a0.f0.f0 x35).f3),.int .i64 ((rd_T41 a0.f0.f0 x35).f4),.string ((rd_T41 a0.f0.f0 x35).f5),.bool ((rd_T41 a0.f0.f0 x35).f6),.int .i64 ((rd_T41 a0.f0.f0 x35).f7),.int .i64 ((rd_T41 a0.f0.f0 x35).f8),.slice B40_9 (rd_T41 a0.f0.f0 x35).f9.length d40_9,.slice B40_10 (rd_T41 a0.f0.f0 x35).f10.length d40_10,.slice B40_11 (rd_T41 a0.f0.f0 x35).f11.length d40_11,.string ((rd_T41 a0.f0.f0 x35).f12)]++ []) HS (MadeL.cons (js1:=[]) (c:=[.int .i64 ((rd_T41 a0.f0.f0 x35).f0),.string ((rd_T41 a0.f0.f0 x35).f1),.string ((rd_T41 a0.f0.f0 x35).f2),.int .i64 ((rd_T41 a0.f0.f0 x35).f3),.int .i64 ((rd_T41 a0.f0.f0 x35).f4),.string ((rd_T41 a0.f0.f0 x35).f5),.bool ((rd_T41 a0.f0.f0 x35).f6),.int .i64 ((rd_T41 a0.f0.f0 x35).f7),.int .i64 ((rd_T41 a0.f0.f0 x35).f8),.slice B40_9 (rd_T41 a0.f0.f0 x35).f9.length d40_9,.slice B40_10 (rd_T41 a0.f0.f0 x35).f10.length d40_10,.slice B40_11 (rd_T41 a0.f0.f0 x35).f11.length d40_11,.string ((rd_T41 a0.f0.f0 x35).f12)]) rfl (made_flat (d:=Zd.at_ k41 wv) (fun _=>k41_mk _ _ m40_9 y40_9 m40_10 y40_10 m40_11 y40_11)) MadeL.nil (by decide)) ?_;clear HS;intro v30 w30 HS F;obtain⟨B30,d30,rfl,m30⟩:=HS.formn 1 13 rfl rfl
          refine nrm 75 hK ⟨_,HS⟩ fun HH=>?_;clear hK K
          refine dr1 5 HT fun K hK=>?_
          refine wp_ap (Zd.at_ k41 wv) 12 13 HS rfl rfl Tryz.underlying35 info41 (of_eq_true c31) ?_;clear HS;intro v36 w36 HS;rw [←e_y36.out] at HS;obtain⟨B36,d36,rfl,m36⟩:=HS.form 14 rfl
          (try simp only [hpn,hpm] at HS)
          have F:=HS.bx
          refine nrm 76 hK ⟨_,HS⟩ fun HH=>?_;clear hK K
          refine dl 6 HT fun K hK=>?_
          refine HS.lend [0,9] (by decide) [.box p0 [.slice (some ad40) a0.f0.f0.length cp1,.slice Ap2 a0.f0.f1.length cp2,.slice Ap3 a0.f0.f2.length cp3,.int .i64 a0.f1.f0,.string a0.f1.f1,.string a0.f1.f2,.int .i64 a0.f1.f3,.int .i64 a0.f1.f4,.string a0.f1.f5,.bool a0.f1.f6,.int .i64 a0.f1.f7,.int .i64 a0.f1.f8,.slice Ap4 a0.f1.f9.length cp4,.slice Ap5 a0.f1.f10.length cp5,.slice Ap6 a0.f1.f11.length cp6,.string a0.f1.f12,.int .i64 a0.f2,.slice B34 l33.length d34] 91,.own (Zd.slice 59 q59) l33 [.slice B34 l33.length d34]] rfl (fun A' HL HD HA HB=>?_);refine goes_ Tryz.func49 (by kernel_rfl) rfl #[.pointer (some ⟨p0,0,none⟩),.slice B36 y36.length d36] (by rfl) rfl rfl (by simp only [mpn];rfl) ?_;refine(IH (by have:=HK0.out;have:=HKk32.out;omega) ht42.out (hV.hideC km41 HS HL gp1) lp1 (hV.hideC km69 HS HL gp2) lp2 (hV.hideC km57 HS HL gp3) lp3 (hV.hideC up_int HS HL gp4) lp4 (hV.hideC up_string HS HL gp5) lp5 (hV.hideC up_string HS HL gp6) lp6 (C_at km41 (fun e_=>hV.hidec HS HL e_) (hide_rd HD 14 rfl (by decide))) m36 (hide_view A' _) HA).mono ?_;rintro _ wt42 ⟨v44,rfl,HQ⟩;refine⟨_,rfl,?_⟩;replace HS:=HB _ _ HQ (Nat.le_of_ble_eq_true rfl);clear HQ HA HB HL HD;(try simp only [hpn,hpm] at HS);(try clear F);obtain⟨B44,d44,rfl,m44⟩:=HS.form 9 rfl
          (try simp only [hpn,hpm] at HS)
          have F:=HS.bx
          refine hK.out _ _ ?_
          clear hK K
          refine norm_ (a':=?_) ?_ ?_
          rotate_left
          · show Act.put _ (some 77) _=_;simp only [Act.put,ptn];rfl
          refine norm_ ?_ (hJ (.slice B29 y29.length d29,.slice B30 1 d30,.slice B36 y36.length d36,.slice B44 t42.length d44) _ (HS.ar [some 0,none,none,none,none,none,none,none,none,some 9,some 10,none,none,none,some 14]))
          simp only [putAll,Act.put,ptn]
          (try rfl)
        · refine if_li (Zd.at_ k41 wv) [] ([(rd_T41 a0.f0.f0 x35)]:List S41) ([.int .i64 ((rd_T41 a0.f0.f0 x35).f0),.string ((rd_T41 a0.f0.f0 x35).f1),.string ((rd_T41 a0.f0.f0 x35).f2),.int .i64 ((rd_T41 a0.f0.f0 x35).f3),.int .i64 ((rd_T41 a0.f0.f0 x35).f4),.string ((rd_T41 a0.f0.f0 x35).f5),.bool ((rd_T41 a0.f0.f0 x35).f6),.int .i64 ((rd_T41 a0.f0.f0 x35).f7),.int .i64 ((rd_T41 a0.f0.f0 x35).f8),.slice B40_9 (rd_T41 a0.f0.f0 x35).f9.length d40_9,.slice B40_10 (rd_T41 a0.f0.f0 x35).f10.length d40_10,.slice B40_11 (rd_T41 a0.f0.f0 x35).f11.length d40_11,.string ((rd_T41 a0.f0.f0 x35).f12)]++ []) HS (MadeL.cons (js1:=[]) (c:=[.int .i64 ((rd_T41 a0.f0.f0 x35).f0),.string ((rd_T41 a0.f0.f0 x35).f1),.string ((rd_T41 a0.f0.f0 x35).f2),.int .i64 ((rd_T41 a0.f0.f0 x35).f3),.int .i64 ((rd_T41 a0.f0.f0 x35).f4),.string ((rd_T41 a0.f0.f0 x35).f5),.bool ((rd_T41 a0.f0.f0 x35).f6),.int .i64 ((rd_T41 a0.f0.f0 x35).f7),.int .i64 ((rd_T41 a0.f0.f0 x35).f8),.slice B40_9 (rd_T41 a0.f0.f0 x35).f9.length d40_9,.slice B40_10 (rd_T41 a0.f0.f0 x35).f10.length d40_10,.slice B40_11 (rd_T41 a0.f0.f0 x35).f11.length d40_11,.string ((rd_T41 a0.f0.f0 x35).f12)]) rfl (made_flat (d:=Zd.at_ k41 wv) (fun _=>k41_mk _ _ m40_9 y40_9 m40_10 y40_10 m40_11 y40_11)) MadeL.nil (by decide)) ?_;clear HS;intro v30 w30 HS F;obtain⟨B30,d30,rfl,m30⟩:=HS.formn 1 11 rfl rfl
          refine nrm 75 hK ⟨_,HS⟩ fun HH=>?_;clear hK K
          refine dr1 2 HT fun K hK=>?_
          refine if_wp (by rfl) ?_;replace HS:=HS.nil 41 (Zd.at_ k41 wv);refine wp_appendr (Zd.at_ k41 wv) flat_at 12 HS rfl (at_C gp8 (fun e_=>hV.keepc HS e_)) rfl rfl rfl Tryz.underlying35 info41 rfl (Nat.zero_lt_succ _) (by decide) (by have:=of_eq_true c28;first|omega|(simp only [List.length_cons,List.length_nil,List.length_append,Nat.zero_add] at this⊢;omega)) ?_;clear HS;intro v29 w29 HS;rw [←e_y29.out] at HS;obtain⟨B29,d29,rfl,m29⟩:=HS.form 13 rfl
          (try simp only [hpn,hpm] at HS)
          have F:=HS.bx
          refine nrm 73 hK ⟨_,HS⟩ fun HH=>?_;clear hK K
          refine dr1 5 HT fun K hK=>?_
          refine wp_ap (Zd.at_ k41 wv) 13 11 HS rfl rfl Tryz.underlying35 info41 (of_eq_true c31) ?_;clear HS;intro v36 w36 HS;rw [←e_y36.out] at HS;obtain⟨B36,d36,rfl,m36⟩:=HS.form 14 rfl
          (try simp only [hpn,hpm] at HS)
          have F:=HS.bx
          refine nrm 76 hK ⟨_,HS⟩ fun HH=>?_;clear hK K
          refine dl 6 HT fun K hK=>?_
          refine HS.lend [0,9] (by decide) [.box p0 [.slice (some ad40) a0.f0.f0.length cp1,.slice Ap2 a0.f0.f1.length cp2,.slice Ap3 a0.f0.f2.length cp3,.int .i64 a0.f1.f0,.string a0.f1.f1,.string a0.f1.f2,.int .i64 a0.f1.f3,.int .i64 a0.f1.f4,.string a0.f1.f5,.bool a0.f1.f6,.int .i64 a0.f1.f7,.int .i64 a0.f1.f8,.slice Ap4 a0.f1.f9.length cp4,.slice Ap5 a0.f1.f10.length cp5,.slice Ap6 a0.f1.f11.length cp6,.string a0.f1.f12,.int .i64 a0.f2,.slice B34 l33.length d34] 91,.own (Zd.slice 59 q59) l33 [.slice B34 l33.length d34]] rfl (fun A' HL HD HA HB=>?_);refine goes_ Tryz.func49 (by kernel_rfl) rfl #[.pointer (some ⟨p0,0,none⟩),.slice B36 y36.length d36] (by rfl) rfl rfl (by simp only [mpn];rfl) ?_;refine(IH (by have:=HK0.out;have:=HKk32.out;omega) ht42.out (hV.hideC km41 HS HL gp1) lp1 (hV.hideC km69 HS HL gp2) lp2 (hV.hideC km57 HS HL gp3) lp3 (hV.hideC up_int HS HL gp4) lp4 (hV.hideC up_string HS HL gp5) lp5 (hV.hideC up_string HS HL gp6) lp6 (C_at km41 (fun e_=>hV.hidec HS HL e_) (hide_rd HD 14 rfl (by decide))) m36 (hide_view A' _) HA).mono ?_;rintro _ wt42 ⟨v44,rfl,HQ⟩;refine⟨_,rfl,?_⟩;replace HS:=HB _ _ HQ (Nat.le_of_ble_eq_true rfl);clear HQ HA HB HL HD;(try simp only [hpn,hpm] at HS);(try clear F);obtain⟨B44,d44,rfl,m44⟩:=HS.form 9 rfl
          (try simp only [hpn,hpm] at HS)
          have F:=HS.bx
          refine hK.out _ _ ?_
          clear hK K
          refine norm_ (a':=?_) ?_ ?_
          rotate_left
          · show Act.put _ (some 77) _=_;simp only [Act.put,ptn];rfl
          refine norm_ ?_ (hJ (.slice B29 y29.length d29,.slice B30 1 d30,.slice B36 y36.length d36,.slice B44 t42.length d44) _ (HS.ar [some 0,none,none,none,none,none,none,none,none,some 9,some 10,none,none,none,some 14]))
          simp only [putAll,Act.put,ptn]
          (try rfl)
      rintro⟨v29,v30,v36,v44⟩ w45 HS
      obtain⟨B36,d36,rfl,m36⟩:=HS.form 14 rfl
      obtain⟨B44,d44,rfl,m44⟩:=HS.form 9 rfl
      have F:=HS.bx
      refine norm_ (a':=?_) ?_ ?_
      rotate_left
      · simp only [putAll,Act.put,ptn];rfl
      refine dn HT ?_
      go_wp2
      go_roundg k32
      case measure=>have:=HK0.out;have:=HKk32.out;omega
      case rel=>exact⟨_,_,_,rfl,H,⟨by have:=HK0.out;have:=HKk32.out;omega⟩,HS.pi [0,1,2,3,4,5,6,7,8,9]⟩
theorem impl_seeker_seek_0.calls {k:Nat}{a0:S91}{a1:(List S41)}{A:FP}{p0:Nat}{Ap1 Ap2 Ap3 Ap4 Ap5 Ap6:Option Addr}{np1 cp1 np2 cp2 np3 cp3 np4 cp4 np5 cp5 np6 cp6:Nat}{vp1:Value}{Ap8:Option Addr}{np8 cp8:Nat}{wv:World}{r:(List S59)}{w:World}(h:impl_seeker_seek_0.f k a0 a1=some r)(gp1:k41.C wv Ap1 np1 a0.f0.f0)(lp1:np1≤cp1)(gp2:k69.C wv Ap2 np2 a0.f0.f1)(lp2:np2≤cp2)(gp3:k57.C wv Ap3 np3 a0.f0.f2)(lp3:np3≤cp3)(gp4:(Kd.int .i64).C wv Ap4 np4 a0.f1.f9)(lp4:np4≤cp4)(gp5:Kd.string.C wv Ap5 np5 a0.f1.f10)(lp5:np5≤cp5)(gp6:Kd.string.C wv Ap6 np6 a0.f1.f11)(lp6:np6≤cp6)(gp8:k41.C wv Ap8 np8 a1)(lp8:np8≤cp8)(hV:View A w wv)(HS:Hp A w w [.box p0 [.slice Ap1 np1 cp1,.slice Ap2 np2 cp2,.slice Ap3 np3 cp3,.int .i64 a0.f1.f0,.string a0.f1.f1,.string a0.f1.f2,.int .i64 a0.f1.f3,.int .i64 a0.f1.f4,.string a0.f1.f5,.bool a0.f1.f6,.int .i64 a0.f1.f7,.int .i64 a0.f1.f8,.slice Ap4 np4 cp4,.slice Ap5 np5 cp5,.slice Ap6 np6 cp6,.string a0.f1.f12,.int .i64 a0.f2,vp1] 91,.own (Zd.slice 59 q59) a0.f3 [vp1]]):
    Calls Tryz.prog 49 #[.pointer (some ⟨p0,0,none⟩),.slice Ap8 np8 cp8] w (fun e w'=>∃u0_:Value,e=.returned (.tuple #[])∧Hp A w w' [.box p0 [.slice Ap1 np1 cp1,.slice Ap2 np2 cp2,.slice Ap3 np3 cp3,.int .i64 a0.f1.f0,.string a0.f1.f1,.string a0.f1.f2,.int .i64 a0.f1.f3,.int .i64 a0.f1.f4,.string a0.f1.f5,.bool a0.f1.f6,.int .i64 a0.f1.f7,.int .i64 a0.f1.f8,.slice Ap4 np4 cp4,.slice Ap5 np5 cp5,.slice Ap6 np6 cp6,.string a0.f1.f12,.int .i64 a0.f2,u0_] 91,.own (Zd.slice 59 q59) r [u0_]]):=impl_seeker_seek_0.calls_ k (Nat.le_refl k) h gp1 lp1 gp2 lp2 gp3 lp3 gp4 lp4 gp5 lp5 gp6 lp6 gp8 lp8 hV HS
def impl_WaysTo.l0:Nat→(List S59)→Int→Int→S39→S41→Option ((List S59))
  |0,_,_,_,_,_=>none
  |k+1,l38,x40,x41,a0,a1=>(if x40<(a0.f2.length:Int)then((impl_seeker_seek_0.f k (⟨(⟨a0.f0,a0.f1,a0.f2⟩:S39),(⟨a1.f0,a1.f1,a1.f2,a1.f3,a1.f4,a1.f5,a1.f6,a1.f7,a1.f8,a1.f9,a1.f10,a1.f11,a1.f12⟩:S41),x40,l38⟩:S91) []).bind fun t46=>(impl_WaysTo.l0 k t46 (wrap64 (x40+1)) x40 a0 a1))else(some l38))
def impl_WaysTo.f (k:Nat)(a0:S39)(a1:S41):Option ((List S59)):=((impl_StoreOk.f k a0).bind fun t5=>(if t5=true then((impl_CertOk.f k a1).bind fun t8=>(if t8=true then(impl_WaysTo.l0 k [] 0 0 a0 a1)else(some ([]:List S59))))else(some ([]:List S59))))
theorem impl_WaysTo.calls {k:Nat}{a0:S39}{a1:S41}{Ap0 Ap1 Ap2 Ap3 Ap4 Ap5:Option Addr}{np0 cp0 np1 cp1 np2 cp2 np3 cp3 np4 cp4 np5 cp5:Nat}{mG:Int}{r:(List S59)}{w:World}(h:impl_WaysTo.f k a0 a1=some r)(gp0:k41.C w Ap0 np0 a0.f0)(lp0:np0≤cp0)(gp1:k69.C w Ap1 np1 a0.f1)(lp1:np1≤cp1)(gp2:k57.C w Ap2 np2 a0.f2)(lp2:np2≤cp2)(gp3:(Kd.int .i64).C w Ap3 np3 a1.f9)(lp3:np3≤cp3)(gp4:Kd.string.C w Ap4 np4 a1.f10)(lp4:np4≤cp4)(gp5:Kd.string.C w Ap5 np5 a1.f11)(lp5:np5≤cp5)(hgM:w.cell? ⟨0,0,none⟩=some (.int .i64 mG)):
    Calls Tryz.prog 11 #[.agg #[.slice Ap0 np0 cp0,.slice Ap1 np1 cp1,.slice Ap2 np2 cp2],.agg #[.int .i64 a1.f0,.string a1.f1,.string a1.f2,.int .i64 a1.f3,.int .i64 a1.f4,.string a1.f5,.bool a1.f6,.int .i64 a1.f7,.int .i64 a1.f8,.slice Ap3 np3 cp3,.slice Ap4 np4 cp4,.slice Ap5 np5 cp5,.string a1.f12]] w (fun e w'=>∃v0_:Value,e=.returned (v0_)∧Hp noFP w w' [.own (Zd.slice 59 q59) r [v0_]]):=by
 obtain rfl:=C_len gp0
 obtain rfl:=C_len gp1
 obtain rfl:=C_len gp2
 obtain rfl:=C_len gp3
 obtain rfl:=C_len gp4
 obtain rfl:=C_len gp5
 have HS:=Hp.start w
 have H:=Aside0.mk h
 clear h
 unfold impl_WaysTo.f at H
 go_enter Tryz.func11,Tryz.ntmps11
 replace H:=zbind H;obtain⟨t5,ht5,H⟩:=H
 replace H:=znifb H;rcases H with⟨c7,H⟩|⟨c7,H⟩
 ·
  subst c7
  obtain rfl:=zsome H
  go_wp2_with (first|((with_reducible refine gd 2 rfl ?_);refine ev_bx HS ?_;clear HS;intro g2 w2 HS F)|((with_reducible refine gd 3 rfl ?_);refine ev_bx HS ?_;clear HS;intro g3 w3 HS F)|((with_reducible refine gd 7 rfl ?_);refine ev_cl HS (impl_StoreOk.calls ht5.out (HS.ro gp0) lp0 (HS.ro gp1) lp1 (HS.ro gp2) lp2 (HS.keepc hgM)) Tryz.func24 ?_;clear HS;intro wt5 HS F))
  replace HS:=HS.nil 59 q59
  exact r1 ⟨_,rfl,HS.pi [2]⟩
 subst c7
 replace H:=zbind H;obtain⟨t8,ht8,H⟩:=H
 go_upto_if 13 with(first|((with_reducible refine gd 2 rfl ?_);refine ev_bx HS ?_;clear HS;intro g2 w2 HS F)|((with_reducible refine gd 3 rfl ?_);refine ev_bx HS ?_;clear HS;intro g3 w3 HS F)|((with_reducible refine gd 7 rfl ?_);refine ev_cl HS (impl_StoreOk.calls ht5.out (HS.ro gp0) lp0 (HS.ro gp1) lp1 (HS.ro gp2) lp2 (HS.keepc hgM)) Tryz.func24 ?_;clear HS;intro wt5 HS F)|((with_reducible refine gd 11 rfl ?_);refine gg ?_;refine ev_cl HS (impl_CertOk.calls ht8.out (HS.ro gp3) lp3 (HS.ro gp4) lp4 (HS.ro gp5) lp5 (HS.keepc hgM)) Tryz.func48 ?_;clear HS;intro wt8 HS F))
 replace H:=znifb H;rcases H with⟨c10,H⟩|⟨c10,H⟩
 ·
  subst c10
  (try simp only [dcn,dcu,dcf])
  obtain rfl:=zsome H
  go_wp2
  replace HS:=HS.nil 59 q59
  exact r1 ⟨_,rfl,HS.pi [2]⟩
 subst c10
 (try simp only [dcn,dcu,dcf])
 go_wp2_with ((with_reducible refine gd 17 rfl ?_);refine ev_bx HS ?_;clear HS;intro g17 w17 HS F)
 replace HS:=HS.nil 59 q59
 go_loopg [21] k (fun kq v_21 w'=>∃(l38:List S59) (v39:Value) (x40:Int) (x41:Int),v_21=.int .i64 x40∧Aside0 (impl_WaysTo.l0 kq l38 x40 x41 a0 a1=some r)∧Aside0 (kq≤k)∧Hp noFP w w' [.box g2 [.slice Ap0 a0.f0.length cp0,.slice Ap1 a0.f1.length cp1,.slice Ap2 a0.f2.length cp2] 39,.box g3 [.int .i64 a1.f0,.string a1.f1,.string a1.f2,.int .i64 a1.f3,.int .i64 a1.f4,.string a1.f5,.bool a1.f6,.int .i64 a1.f7,.int .i64 a1.f8,.slice Ap3 a1.f9.length cp3,.slice Ap4 a1.f10.length cp4,.slice Ap5 a1.f11.length cp5,.string a1.f12] 41,.box g17 [.slice Ap0 a0.f0.length cp0,.slice Ap1 a0.f1.length cp1,.slice Ap2 a0.f2.length cp2,.int .i64 a1.f0,.string a1.f1,.string a1.f2,.int .i64 a1.f3,.int .i64 a1.f4,.string a1.f5,.bool a1.f6,.int .i64 a1.f7,.int .i64 a1.f8,.slice Ap3 a1.f9.length cp3,.slice Ap4 a1.f10.length cp4,.slice Ap5 a1.f11.length cp5,.string a1.f12,.int .i64 x41,v39] 91,.own (Zd.slice 59 q59) l38 [v39]])
 case atStart=>exact⟨_,_,_,_,rfl,H,⟨Nat.le_refl _⟩,HS⟩
 case round=>
  clear HS H;(try clear F)
  obtain⟨l38,v39,x40,x41,rfl,H,HKk37,HS⟩:=hrel
  obtain⟨B39,d39,rfl,m39⟩:=HS.form 3 rfl
  have F:=HS.bx
  cases gk with
  |zero=>exact absurd H.out (by simp [impl_WaysTo.l0])
  | succ k37=>
   simp only [impl_WaysTo.l0] at H
   replace H:=znif H;rcases H with⟨c43,H⟩|⟨c43,H⟩
   ·
    obtain rfl:=zsome H
    go_wp2
    exact r1 ⟨_,rfl,HS.pi [3]⟩
   replace H:=zbind H;obtain⟨t46,ht46,H⟩:=H
   go_wp2_with (first|((with_reducible refine gate_store (p:=26) rfl ?_);refine ev_st 2 16 HS (seg:=[.int .i64 x40]) ?_;clear HS;intro w44 HS F)|((with_reducible refine gd 28 rfl ?_);refine HS.lend [2,3] (by decide) [.box g17 [.slice Ap0 a0.f0.length cp0,.slice Ap1 a0.f1.length cp1,.slice Ap2 a0.f2.length cp2,.int .i64 a1.f0,.string a1.f1,.string a1.f2,.int .i64 a1.f3,.int .i64 a1.f4,.string a1.f5,.bool a1.f6,.int .i64 a1.f7,.int .i64 a1.f8,.slice Ap3 a1.f9.length cp3,.slice Ap4 a1.f10.length cp4,.slice Ap5 a1.f11.length cp5,.string a1.f12,.int .i64 x40,.slice B39 l38.length d39] 91,.own (Zd.slice 59 q59) l38 [.slice B39 l38.length d39]] rfl (fun A' HL HD HA HB=>?_);refine ev_call rfl Tryz.func49 (by kernel_rfl) rfl #[.pointer (some ⟨g17,0,none⟩),.slice none 0 0] rfl (by simp only [mpn];rfl) ?_;refine(impl_seeker_seek_0.calls ht46.out (HS.hideC km41 HL gp0) lp0 (HS.hideC km69 HL gp1) lp1 (HS.hideC km57 HL gp2) lp2 (HS.hideC up_int HL gp3) lp3 (HS.hideC up_string HL gp4) lp4 (HS.hideC up_string HL gp5) lp5 (C_nil _ _) (Nat.le_refl 0) (hide_view A' _) HA).mono ?_;rintro _ wt46 ⟨v47,rfl,HQ⟩;refine⟨_,rfl,?_⟩;replace HS:=HB _ _ HQ (Nat.le_of_ble_eq_true rfl);clear HQ HA HB HL HD;(try simp only [hpn,hpm] at HS);(try clear F);obtain⟨B47,d47,rfl,m47⟩:=HS.form 3 rfl;(try simp only [hpn,hpm] at HS);have F:=HS.bx))
   go_roundg k37
   case measure=>have:=HKk37.out;omega
   case rel=>exact⟨_,_,_,_,rfl,H,⟨by have:=HKk37.out;omega⟩,HS.pi [0,1,2,3]⟩
def laws_eqIntS.l0:Nat→Int→(List Int)→(List Int)→Option (Bool)
  |0,_,_,_=>none
  |k+1,x5,a0,a1=>(if x5<(a0.length:Int)then(if 0≤x5 then(if x5<(a0.length:Int)then(if x5<(a1.length:Int)then(if(rd a0 x5)=(rd a1 x5)then(laws_eqIntS.l0 k (wrap64 (x5+1)) a0 a1)else(some false))else none)else none)else none)else(some true))
def laws_eqIntS.f (k:Nat)(a0:(List Int))(a1:(List Int)):Option (Bool):=(if(a0.length:Int)=(a1.length:Int)then(laws_eqIntS.l0 k 0 a0 a1)else(some false))
def laws_eqIntS.T6:TT:=(true,[([],[]),([],[]),([0,1],[0,1]),([2],[2]),([],[]),([],[]),([4,5],[4,5]),([6],[6]),([3,7],[3,7])])
theorem laws_eqIntS.tT6:rtab .any (opsOf Tryz.f54 6)=laws_eqIntS.T6:=by kernel_rfl
theorem laws_eqIntS.calls {k:Nat}{a0:(List Int)}{a1:(List Int)}{Ap0 Ap1:Option Addr}{np0 cp0 np1 cp1:Nat}{r:Bool}{w:World}(h:laws_eqIntS.f k a0 a1=some r)(gp0:(Kd.int .i64).C w Ap0 np0 a0)(lp0:np0≤cp0)(gp1:(Kd.int .i64).C w Ap1 np1 a1)(lp1:np1≤cp1):
    Calls Tryz.prog 54 #[.slice Ap0 np0 cp0,.slice Ap1 np1 cp1] w (fun e w'=>e=.returned (.bool r)∧Hp noFP w w' []):=by
 obtain rfl:=C_len gp0
 obtain rfl:=C_len gp1
 have HS:=Hp.start w
 have H:=Aside0.mk h
 clear h
 unfold laws_eqIntS.f at H
 go_enter Tryz.func54,Tryz.ntmps54
 replace H:=znif' H;rcases H with⟨c1,H⟩|⟨c1,H⟩
 ·
  obtain⟨c1a,c1b⟩:=nq c1;clear c1
  obtain rfl:=zsome H
  go_wp2
  go_ret
  exact HS.pk
 obtain⟨c1a,c1b⟩:=bq c1;clear c1
 go_wp2
 go_loopg [5] k (fun kq v_5 w'=>∃(x5:Int),v_5=.int .i64 x5∧Aside0 (laws_eqIntS.l0 kq x5 a0 a1=some r)∧Aside0 (kq≤k)∧Hp noFP w w' [])
 case atStart=>exact⟨_,rfl,H,⟨Nat.le_refl _⟩,HS⟩
 case round=>
  clear HS H;(try clear F)
  obtain⟨x5,rfl,H,HKk4,HS⟩:=hrel
  cases gk with
  |zero=>exact absurd H.out (by simp [laws_eqIntS.l0])
  | succ k4=>
   simp only [laws_eqIntS.l0] at H
   replace H:=znif H;rcases H with⟨c7,H⟩|⟨c7,H⟩
   ·
    obtain rfl:=zsome H
    go_wp2
    go_ret
    exact HS.pk
   (try go_wp2)
   replace H:=zgo H;obtain⟨c3,H⟩:=H
   replace H:=zgo H;obtain⟨c8,H⟩:=H
   obtain⟨ad10,rfl,e10_0⟩:=Kd.at_int gp0 x5 (of_eq_true c3) (of_eq_true c8)
   replace H:=zgo H;obtain⟨c12,H⟩:=H
   obtain⟨ad13,rfl,e13_0⟩:=Kd.at_int gp1 x5 (of_eq_true c3) (of_eq_true c12)
   refine dr_start [] HS #[false,false,false,false,false,false,false,false,false] (by kernel_rfl) rfl rfl laws_eqIntS.tT6 (fun w9 HT HS HH=>?_)
   (try clear F)
   refine dq [0,1,2] HT ?_
   refine dtk 3 20 HT HH rfl (by rintro w' ⟨rs',HS'⟩;have e10_0:=HS'.keepc e10_0;go_simp;with_reducible rfl) ?_
   refine dq [4,5,6] HT ?_
   refine dtk 7 24 HT HH rfl (by rintro w' ⟨rs',HS'⟩;have e13_0:=HS'.keepc e13_0;go_simp;with_reducible rfl) ?_
   refine dq [8] HT ?_
   refine dn HT ?_
   replace H:=znif' H;rcases H with⟨c11,H⟩|⟨c11,H⟩
   ·
    obtain⟨c11a,c11b⟩:=nq c11;clear c11
    (try simp only [c11a,c11b,dcn])
    obtain rfl:=zsome H
    go_wp2
    go_ret
    exact HS.pk
   obtain⟨c11a,c11b⟩:=bq c11;clear c11
   (try simp only [c11a,c11b,dcn])
   go_wp2
   go_roundg k4
   case measure=>have:=HKk4.out;omega
   case rel=>exact⟨_,rfl,H,⟨by have:=HKk4.out;omega⟩,HS.pi []⟩
def laws_eqStringS.l0:Nat→Int→(List ByteArray)→(List ByteArray)→Option (Bool)
  |0,_,_,_=>none
  |k+1,x5,a0,a1=>(if x5<(a0.length:Int)then(if 0≤x5 then(if x5<(a0.length:Int)then(if x5<(a1.length:Int)then(if(rdOf ByteArray.empty a0 x5).toList=(rdOf ByteArray.empty a1 x5).toList then(laws_eqStringS.l0 k (wrap64 (x5+1)) a0 a1)else(some false))else none)else none)else none)else(some true))
def laws_eqStringS.f (k:Nat)(a0:(List ByteArray))(a1:(List ByteArray)):Option (Bool):=(if(a0.length:Int)=(a1.length:Int)then(laws_eqStringS.l0 k 0 a0 a1)else(some false))
def laws_eqStringS.T6:TT:=(true,[([],[]),([],[]),([0,1],[0,1]),([2],[2]),([],[]),([],[]),([4,5],[4,5]),([6],[6]),([3,7],[3,7])])
theorem laws_eqStringS.tT6:rtab .any (opsOf Tryz.f55 6)=laws_eqStringS.T6:=by kernel_rfl
theorem laws_eqStringS.calls {k:Nat}{a0:(List ByteArray)}{a1:(List ByteArray)}{Ap0 Ap1:Option Addr}{np0 cp0 np1 cp1:Nat}{r:Bool}{w:World}(h:laws_eqStringS.f k a0 a1=some r)(gp0:Kd.string.C w Ap0 np0 a0)(lp0:np0≤cp0)(gp1:Kd.string.C w Ap1 np1 a1)(lp1:np1≤cp1):
    Calls Tryz.prog 55 #[.slice Ap0 np0 cp0,.slice Ap1 np1 cp1] w (fun e w'=>e=.returned (.bool r)∧Hp noFP w w' []):=by
 obtain rfl:=C_len gp0
 obtain rfl:=C_len gp1
 have HS:=Hp.start w
 have H:=Aside0.mk h
 clear h
 unfold laws_eqStringS.f at H
 go_enter Tryz.func55,Tryz.ntmps55
 replace H:=znif' H;rcases H with⟨c1,H⟩|⟨c1,H⟩
 ·
  obtain⟨c1a,c1b⟩:=nq c1;clear c1
  obtain rfl:=zsome H
  go_wp2
  go_ret
  exact HS.pk
 obtain⟨c1a,c1b⟩:=bq c1;clear c1
 go_wp2
 go_loopg [5] k (fun kq v_5 w'=>∃(x5:Int),v_5=.int .i64 x5∧Aside0 (laws_eqStringS.l0 kq x5 a0 a1=some r)∧Aside0 (kq≤k)∧Hp noFP w w' [])
 case atStart=>exact⟨_,rfl,H,⟨Nat.le_refl _⟩,HS⟩
 case round=>
  clear HS H;(try clear F)
  obtain⟨x5,rfl,H,HKk4,HS⟩:=hrel
  cases gk with
  |zero=>exact absurd H.out (by simp [laws_eqStringS.l0])
  | succ k4=>
   simp only [laws_eqStringS.l0] at H
   replace H:=znif H;rcases H with⟨c7,H⟩|⟨c7,H⟩
   ·
    obtain rfl:=zsome H
    go_wp2
    go_ret
    exact HS.pk
   (try go_wp2)
   replace H:=zgo H;obtain⟨c3,H⟩:=H
   replace H:=zgo H;obtain⟨c8,H⟩:=H
   obtain⟨ad10,rfl,e10_0⟩:=Kd.at_string gp0 x5 (of_eq_true c3) (of_eq_true c8)
   replace H:=zgo H;obtain⟨c12,H⟩:=H
   obtain⟨ad13,rfl,e13_0⟩:=Kd.at_string gp1 x5 (of_eq_true c3) (of_eq_true c12)
   refine dr_start [] HS #[false,false,false,false,false,false,false,false,false] (by kernel_rfl) rfl rfl laws_eqStringS.tT6 (fun w9 HT HS HH=>?_)
   (try clear F)
   refine dq [0,1,2] HT ?_
   refine dtk 3 20 HT HH rfl (by rintro w' ⟨rs',HS'⟩;have e10_0:=HS'.keepc e10_0;go_simp;with_reducible rfl) ?_
   refine dq [4,5,6] HT ?_
   refine dtk 7 24 HT HH rfl (by rintro w' ⟨rs',HS'⟩;have e13_0:=HS'.keepc e13_0;go_simp;with_reducible rfl) ?_
   refine dq [8] HT ?_
   refine dn HT ?_
   replace H:=znif' H;rcases H with⟨c11,H⟩|⟨c11,H⟩
   ·
    obtain⟨c11a,c11b⟩:=nq c11;clear c11
    (try simp only [c11a,c11b,dcn])
    obtain rfl:=zsome H
    go_wp2
    go_ret
    exact HS.pk
   obtain⟨c11a,c11b⟩:=bq c11;clear c11
   (try simp only [c11a,c11b,dcn])
   go_wp2
   go_roundg k4
   case measure=>have:=HKk4.out;omega
   case rel=>exact⟨_,rfl,H,⟨by have:=HKk4.out;omega⟩,HS.pi []⟩
def laws_eqCert.f (k:Nat)(a0:S41)(a1:S41):Option (Bool):=(if a0.f0=a1.f0 then(if a0.f1.toList=a1.f1.toList then(if a0.f2.toList=a1.f2.toList then(if a0.f3=a1.f3 then(if a0.f4=a1.f4 then(if a0.f5.toList=a1.f5.toList then(if a0.f6=a1.f6 then(if a0.f7=a1.f7 then(if a0.f8=a1.f8 then((laws_eqIntS.f k a0.f9 a1.f9).bind fun t14=>(if t14=true then((laws_eqStringS.f k a0.f10 a1.f10).bind fun t17=>(if t17=true then((laws_eqStringS.f k a0.f11 a1.f11).bind fun t20=>(if t20=true then(if a0.f12.toList=a1.f12.toList then(some true)else(some false))else(some false)))else(some false)))else(some false)))else(some false))else(some false))else(some false))else(some false))else(some false))else(some false))else(some false))else(some false))else(some false))
theorem laws_eqCert.calls {k:Nat}{a0:S41}{a1:S41}{Ap0 Ap1 Ap2 Ap3 Ap4 Ap5:Option Addr}{np0 cp0 np1 cp1 np2 cp2 np3 cp3 np4 cp4 np5 cp5:Nat}{r:Bool}{w:World}(h:laws_eqCert.f k a0 a1=some r)(gp0:(Kd.int .i64).C w Ap0 np0 a0.f9)(lp0:np0≤cp0)(gp1:Kd.string.C w Ap1 np1 a0.f10)(lp1:np1≤cp1)(gp2:Kd.string.C w Ap2 np2 a0.f11)(lp2:np2≤cp2)(gp3:(Kd.int .i64).C w Ap3 np3 a1.f9)(lp3:np3≤cp3)(gp4:Kd.string.C w Ap4 np4 a1.f10)(lp4:np4≤cp4)(gp5:Kd.string.C w Ap5 np5 a1.f11)(lp5:np5≤cp5):
    Calls Tryz.prog 14 #[.agg #[.int .i64 a0.f0,.string a0.f1,.string a0.f2,.int .i64 a0.f3,.int .i64 a0.f4,.string a0.f5,.bool a0.f6,.int .i64 a0.f7,.int .i64 a0.f8,.slice Ap0 np0 cp0,.slice Ap1 np1 cp1,.slice Ap2 np2 cp2,.string a0.f12],.agg #[.int .i64 a1.f0,.string a1.f1,.string a1.f2,.int .i64 a1.f3,.int .i64 a1.f4,.string a1.f5,.bool a1.f6,.int .i64 a1.f7,.int .i64 a1.f8,.slice Ap3 np3 cp3,.slice Ap4 np4 cp4,.slice Ap5 np5 cp5,.string a1.f12]] w (fun e w'=>e=.returned (.bool r)∧Hp noFP w w' []):=by
 obtain rfl:=C_len gp0
 obtain rfl:=C_len gp1
 obtain rfl:=C_len gp2
 obtain rfl:=C_len gp3
 obtain rfl:=C_len gp4
 obtain rfl:=C_len gp5
 have HS:=Hp.start w
 have H:=Aside0.mk h
 clear h
 unfold laws_eqCert.f at H
 go_enter Tryz.func14,Tryz.ntmps14
 go_upto_if 9 with(first|((with_reducible refine gd 2 rfl ?_);refine ev_bx HS ?_;clear HS;intro g2 w2 HS F)|((with_reducible refine gd 3 rfl ?_);refine ev_bx HS ?_;clear HS;intro g3 w3 HS F))
 replace H:=znif' H;rcases H with⟨c5,H⟩|⟨c5,H⟩
 ·
  obtain⟨c5a,c5b⟩:=nq c5;clear c5
  (try simp only [c5a,c5b,dcn])
  obtain rfl:=zsome H
  go_wp2
  go_ret
  exact HS.pk
 obtain⟨c5a,c5b⟩:=bq c5;clear c5
 (try simp only [c5a,c5b,dcn])
 replace H:=znif' H;rcases H with⟨c6,H⟩|⟨c6,H⟩
 ·
  obtain⟨c6a,c6b⟩:=nq c6;clear c6
  obtain rfl:=zsome H
  go_wp2
  go_ret
  exact HS.pk
 obtain⟨c6a,c6b⟩:=bq c6;clear c6
 replace H:=znif' H;rcases H with⟨c7,H⟩|⟨c7,H⟩
 ·
  obtain⟨c7a,c7b⟩:=nq c7;clear c7
  obtain rfl:=zsome H
  go_wp2
  go_ret
  exact HS.pk
 obtain⟨c7a,c7b⟩:=bq c7;clear c7
 replace H:=znif' H;rcases H with⟨c8,H⟩|⟨c8,H⟩
 ·
  obtain⟨c8a,c8b⟩:=nq c8;clear c8
  obtain rfl:=zsome H
  go_wp2
  go_ret
  exact HS.pk
 obtain⟨c8a,c8b⟩:=bq c8;clear c8
 replace H:=znif' H;rcases H with⟨c9,H⟩|⟨c9,H⟩
 ·
  obtain⟨c9a,c9b⟩:=nq c9;clear c9
  obtain rfl:=zsome H
  go_wp2
  go_ret
  exact HS.pk
 obtain⟨c9a,c9b⟩:=bq c9;clear c9
 replace H:=znif' H;rcases H with⟨c10,H⟩|⟨c10,H⟩
 ·
  obtain⟨c10a,c10b⟩:=nq c10;clear c10
  obtain rfl:=zsome H
  go_wp2
  go_ret
  exact HS.pk
 obtain⟨c10a,c10b⟩:=bq c10;clear c10
 replace H:=znif' H;rcases H with⟨c11,H⟩|⟨c11,H⟩
 ·
  obtain⟨c11a,c11b⟩:=nq c11;clear c11
  obtain rfl:=zsome H
  go_wp2
  go_ret
  exact HS.pk
 obtain⟨c11a,c11b⟩:=bq c11;clear c11
 replace H:=znif' H;rcases H with⟨c12,H⟩|⟨c12,H⟩
 ·
  obtain⟨c12a,c12b⟩:=nq c12;clear c12
  obtain rfl:=zsome H
  go_wp2
  go_ret
  exact HS.pk
 obtain⟨c12a,c12b⟩:=bq c12;clear c12
 replace H:=znif' H;rcases H with⟨c13,H⟩|⟨c13,H⟩
 ·
  obtain⟨c13a,c13b⟩:=nq c13;clear c13
  obtain rfl:=zsome H
  go_wp2
  go_ret
  exact HS.pk
 obtain⟨c13a,c13b⟩:=bq c13;clear c13
 replace H:=zbind H;obtain⟨t14,ht14,H⟩:=H
 go_upto_if 55 with((with_reducible refine gd 54 rfl ?_);refine ev_cl HS (laws_eqIntS.calls ht14.out (HS.ro gp0) lp0 (HS.ro gp3) lp3) Tryz.func54 ?_;clear HS;intro wt14 HS F)
 replace H:=znifb H;rcases H with⟨c16,H⟩|⟨c16,H⟩
 ·
  subst c16
  (try simp only [dcn,dcu,dcf])
  obtain rfl:=zsome H
  go_wp2
  go_ret
  exact HS.pk
 subst c16
 (try simp only [dcn,dcu,dcf])
 replace H:=zbind H;obtain⟨t17,ht17,H⟩:=H
 go_upto_if 61 with((with_reducible refine gd 60 rfl ?_);refine ev_cl HS (laws_eqStringS.calls ht17.out (HS.ro gp1) lp1 (HS.ro gp4) lp4) Tryz.func55 ?_;clear HS;intro wt17 HS F)
 replace H:=znifb H;rcases H with⟨c19,H⟩|⟨c19,H⟩
 ·
  subst c19
  (try simp only [dcn,dcu,dcf])
  obtain rfl:=zsome H
  go_wp2
  go_ret
  exact HS.pk
 subst c19
 (try simp only [dcn,dcu,dcf])
 replace H:=zbind H;obtain⟨t20,ht20,H⟩:=H
 go_upto_if 67 with((with_reducible refine gd 66 rfl ?_);refine ev_cl HS (laws_eqStringS.calls ht20.out (HS.ro gp2) lp2 (HS.ro gp5) lp5) Tryz.func55 ?_;clear HS;intro wt20 HS F)
 replace H:=znifb H;rcases H with⟨c22,H⟩|⟨c22,H⟩
 ·
  subst c22
  (try simp only [dcn,dcu,dcf])
  obtain rfl:=zsome H
  go_wp2
  go_ret
  exact HS.pk
 subst c22
 (try simp only [dcn,dcu,dcf])
 replace H:=znif' H;rcases H with⟨c23,H⟩|⟨c23,H⟩
 ·
  obtain⟨c23a,c23b⟩:=nq c23;clear c23
  obtain rfl:=zsome H
  go_wp2
  go_ret
  exact HS.pk
 obtain⟨c23a,c23b⟩:=bq c23;clear c23
 obtain rfl:=zsome H
 go_wp2
 go_ret
 exact HS.pk
def laws_eqCertS.l0:Nat→Int→(List S41)→(List S41)→Option (Bool)
  |0,_,_,_=>none
  |k+1,x5,a0,a1=>(if x5<(a0.length:Int)then(if 0≤x5 then(if x5<(a0.length:Int)then(if x5<(a1.length:Int)then((laws_eqCert.f k (rd_T41 a0 x5) (rd_T41 a1 x5)).bind fun t15=>(if t15=true then(laws_eqCertS.l0 k (wrap64 (x5+1)) a0 a1)else(some false)))else none)else none)else none)else(some true))
def laws_eqCertS.f (k:Nat)(a0:(List S41))(a1:(List S41)):Option (Bool):=(if(a0.length:Int)=(a1.length:Int)then(laws_eqCertS.l0 k 0 a0 a1)else(some false))
def laws_eqCertS.T6:TT:=(true,[([],[]),([],[]),([0,1],[0,1]),([2],[2]),([],[]),([],[]),([4,5],[4,5]),([6],[6]),([3,7],[3,7]),([8],[8])])
theorem laws_eqCertS.tT6:rtab .any (opsOf Tryz.f51 6)=laws_eqCertS.T6:=by kernel_rfl
theorem laws_eqCertS.calls {k:Nat}{a0:(List S41)}{a1:(List S41)}{Ap0 Ap1:Option Addr}{np0 cp0 np1 cp1:Nat}{r:Bool}{w:World}(h:laws_eqCertS.f k a0 a1=some r)(gp0:k41.C w Ap0 np0 a0)(lp0:np0≤cp0)(gp1:k41.C w Ap1 np1 a1)(lp1:np1≤cp1):
    Calls Tryz.prog 51 #[.slice Ap0 np0 cp0,.slice Ap1 np1 cp1] w (fun e w'=>e=.returned (.bool r)∧Hp noFP w w' []):=by
 obtain rfl:=C_len gp0
 obtain rfl:=C_len gp1
 have HS:=Hp.start w
 have H:=Aside0.mk h
 clear h
 unfold laws_eqCertS.f at H
 go_enter Tryz.func51,Tryz.ntmps51
 replace H:=znif' H;rcases H with⟨c1,H⟩|⟨c1,H⟩
 ·
  obtain⟨c1a,c1b⟩:=nq c1;clear c1
  obtain rfl:=zsome H
  go_wp2
  go_ret
  exact HS.pk
 obtain⟨c1a,c1b⟩:=bq c1;clear c1
 go_wp2
 go_loopg [5] k (fun kq v_5 w'=>∃(x5:Int),v_5=.int .i64 x5∧Aside0 (laws_eqCertS.l0 kq x5 a0 a1=some r)∧Aside0 (kq≤k)∧Hp noFP w w' [])
 case atStart=>exact⟨_,rfl,H,⟨Nat.le_refl _⟩,HS⟩
 case round=>
  clear HS H;(try clear F)
  obtain⟨x5,rfl,H,HKk4,HS⟩:=hrel
  cases gk with
  |zero=>exact absurd H.out (by simp [laws_eqCertS.l0])
  | succ k4=>
   simp only [laws_eqCertS.l0] at H
   replace H:=znif H;rcases H with⟨c7,H⟩|⟨c7,H⟩
   ·
    obtain rfl:=zsome H
    go_wp2
    go_ret
    exact HS.pk
   (try go_wp2)
   replace H:=zgo H;obtain⟨c3,H⟩:=H
   replace H:=zgo H;obtain⟨c8,H⟩:=H
   obtain⟨ad10,B10_9,d10_9,B10_10,d10_10,B10_11,d10_11,rfl,e10_0,e10_1,e10_2,e10_3,e10_4,e10_5,e10_6,e10_7,e10_8,e10_9,e10_10,e10_11,e10_12,m10_9,y10_9,m10_10,y10_10,m10_11,y10_11⟩:=at_T41 gp0 x5 (of_eq_true c3) (of_eq_true c8)
   replace H:=zgo H;obtain⟨c12,H⟩:=H
   obtain⟨ad13,B13_9,d13_9,B13_10,d13_10,B13_11,d13_11,rfl,e13_0,e13_1,e13_2,e13_3,e13_4,e13_5,e13_6,e13_7,e13_8,e13_9,e13_10,e13_11,e13_12,m13_9,y13_9,m13_10,y13_10,m13_11,y13_11⟩:=at_T41 gp1 x5 (of_eq_true c3) (of_eq_true c12)
   replace H:=zbind H;obtain⟨t15,ht15,H⟩:=H
   refine dr_start [] HS #[false,false,false,false,false,false,false,false,false,false] (by kernel_rfl) rfl rfl laws_eqCertS.tT6 (fun w9 HT HS HH=>?_)
   (try clear F)
   refine dq [0,1,2] HT ?_
   refine dtk 3 20 HT HH rfl (by rintro w' ⟨rs',HS'⟩;have e10_0:=HS'.keepc e10_0;have e10_1:=HS'.keepc e10_1;have e10_2:=HS'.keepc e10_2;have e10_3:=HS'.keepc e10_3;have e10_4:=HS'.keepc e10_4;have e10_5:=HS'.keepc e10_5;have e10_6:=HS'.keepc e10_6;have e10_7:=HS'.keepc e10_7;have e10_8:=HS'.keepc e10_8;have e10_9:=HS'.keepc e10_9;have e10_10:=HS'.keepc e10_10;have e10_11:=HS'.keepc e10_11;have e10_12:=HS'.keepc e10_12;go_simp;with_reducible rfl) ?_
   refine dq [4,5,6] HT ?_
   refine dtk 7 24 HT HH rfl (by rintro w' ⟨rs',HS'⟩;have e13_0:=HS'.keepc e13_0;have e13_1:=HS'.keepc e13_1;have e13_2:=HS'.keepc e13_2;have e13_3:=HS'.keepc e13_3;have e13_4:=HS'.keepc e13_4;have e13_5:=HS'.keepc e13_5;have e13_6:=HS'.keepc e13_6;have e13_7:=HS'.keepc e13_7;have e13_8:=HS'.keepc e13_8;have e13_9:=HS'.keepc e13_9;have e13_10:=HS'.keepc e13_10;have e13_11:=HS'.keepc e13_11;have e13_12:=HS'.keepc e13_12;go_simp;with_reducible rfl) ?_
   refine dr1 8 HT fun K hK=>?_
   refine go_cl HS (laws_eqCert.calls ht15.out (HS.ro y10_9) m10_9 (HS.ro y10_10) m10_10 (HS.ro y10_11) m10_11 (HS.ro y13_9) m13_9 (HS.ro y13_10) m13_10 (HS.ro y13_11) m13_11) Tryz.func14 ?_;clear HS;intro wt15 HS F
   refine nrm 25 hK ⟨_,HS⟩ fun HH=>?_;clear hK K
   refine dq [9] HT ?_
   refine dn HT ?_
   replace H:=znifb H;rcases H with⟨c11,H⟩|⟨c11,H⟩
   ·
    subst c11
    (try simp only [dcn,dcu,dcf])
    obtain rfl:=zsome H
    go_wp2
    go_ret
    exact HS.pk
   subst c11
   (try simp only [dcn,dcu,dcf])
   go_wp2
   go_roundg k4
   case measure=>have:=HKk4.out;omega
   case rel=>exact⟨_,rfl,H,⟨by have:=HKk4.out;omega⟩,HS.pi []⟩
def laws_eqWay.f (k:Nat)(a0:S59)(a1:S59):Option (Bool):=(if a0.f0=a1.f0 then((laws_eqCertS.f k a0.f1 a1.f1).bind fun t6=>(if t6=true then(some true)else(some false)))else(some false))
theorem laws_eqWay.calls {k:Nat}{a0:S59}{a1:S59}{Ap0 Ap1:Option Addr}{np0 cp0 np1 cp1:Nat}{r:Bool}{w:World}(h:laws_eqWay.f k a0 a1=some r)(gp0:k41.C w Ap0 np0 a0.f1)(lp0:np0≤cp0)(gp1:k41.C w Ap1 np1 a1.f1)(lp1:np1≤cp1):
    Calls Tryz.prog 50 #[.agg #[.int .i64 a0.f0,.slice Ap0 np0 cp0],.agg #[.int .i64 a1.f0,.slice Ap1 np1 cp1]] w (fun e w'=>e=.returned (.bool r)∧Hp noFP w w' []):=by
 obtain rfl:=C_len gp0
 obtain rfl:=C_len gp1
 have HS:=Hp.start w
 have H:=Aside0.mk h
 clear h
 unfold laws_eqWay.f at H
 go_enter Tryz.func50,Tryz.ntmps50
 go_upto_if 9 with(first|((with_reducible refine gd 2 rfl ?_);refine ev_bx HS ?_;clear HS;intro g2 w2 HS F)|((with_reducible refine gd 3 rfl ?_);refine ev_bx HS ?_;clear HS;intro g3 w3 HS F))
 replace H:=znif' H;rcases H with⟨c5,H⟩|⟨c5,H⟩
 ·
  obtain⟨c5a,c5b⟩:=nq c5;clear c5
  (try simp only [c5a,c5b,dcn])
  obtain rfl:=zsome H
  go_wp2
  go_ret
  exact HS.pk
 obtain⟨c5a,c5b⟩:=bq c5;clear c5
 (try simp only [c5a,c5b,dcn])
 replace H:=zbind H;obtain⟨t6,ht6,H⟩:=H
 go_upto_if 15 with((with_reducible refine gd 14 rfl ?_);refine ev_cl HS (laws_eqCertS.calls ht6.out (HS.ro gp0) lp0 (HS.ro gp1) lp1) Tryz.func51 ?_;clear HS;intro wt6 HS F)
 replace H:=zifb H;rcases H with⟨c8,H⟩|⟨c8,H⟩
 ·
  subst c8
  (try simp only [dcn,dcu,dcf])
  obtain rfl:=zsome H
  go_wp2
  go_ret
  exact HS.pk
 subst c8
 (try simp only [dcn,dcu,dcf])
 obtain rfl:=zsome H
 go_wp2
 go_ret
 exact HS.pk
def laws_eqWayS.l0:Nat→Int→(List S59)→(List S59)→Option (Bool)
  |0,_,_,_=>none
  |k+1,x5,a0,a1=>(if x5<(a0.length:Int)then(if 0≤x5 then(if x5<(a0.length:Int)then(if x5<(a1.length:Int)then((laws_eqWay.f k (rd_T59 a0 x5) (rd_T59 a1 x5)).bind fun t15=>(if t15=true then(laws_eqWayS.l0 k (wrap64 (x5+1)) a0 a1)else(some false)))else none)else none)else none)else(some true))
def laws_eqWayS.f (k:Nat)(a0:(List S59))(a1:(List S59)):Option (Bool):=(if(a0.length:Int)=(a1.length:Int)then(laws_eqWayS.l0 k 0 a0 a1)else(some false))
def laws_eqWayS.T6:TT:=(true,[([],[]),([],[]),([0,1],[0,1]),([2],[2]),([],[]),([],[]),([4,5],[4,5]),([6],[6]),([3,7],[3,7]),([8],[8])])
theorem laws_eqWayS.tT6:rtab .any (opsOf Tryz.f12 6)=laws_eqWayS.T6:=by kernel_rfl
theorem laws_eqWayS.calls {k:Nat}{a0:(List S59)}{a1:(List S59)}{Ap0 Ap1:Option Addr}{np0 cp0 np1 cp1:Nat}{r:Bool}{w:World}(h:laws_eqWayS.f k a0 a1=some r)(gp0:k59.C w Ap0 np0 a0)(lp0:np0≤cp0)(gp1:k59.C w Ap1 np1 a1)(lp1:np1≤cp1):
    Calls Tryz.prog 12 #[.slice Ap0 np0 cp0,.slice Ap1 np1 cp1] w (fun e w'=>e=.returned (.bool r)∧Hp noFP w w' []):=by
 obtain rfl:=C_len gp0
 obtain rfl:=C_len gp1
 have HS:=Hp.start w
 have H:=Aside0.mk h
 clear h
 unfold laws_eqWayS.f at H
 go_enter Tryz.func12,Tryz.ntmps12
 replace H:=znif' H;rcases H with⟨c1,H⟩|⟨c1,H⟩
 ·
  obtain⟨c1a,c1b⟩:=nq c1;clear c1
  obtain rfl:=zsome H
  go_wp2
  go_ret
  exact HS.pk
 obtain⟨c1a,c1b⟩:=bq c1;clear c1
 go_wp2
 go_loopg [5] k (fun kq v_5 w'=>∃(x5:Int),v_5=.int .i64 x5∧Aside0 (laws_eqWayS.l0 kq x5 a0 a1=some r)∧Aside0 (kq≤k)∧Hp noFP w w' [])
 case atStart=>exact⟨_,rfl,H,⟨Nat.le_refl _⟩,HS⟩
 case round=>
  clear HS H;(try clear F)
  obtain⟨x5,rfl,H,HKk4,HS⟩:=hrel
  cases gk with
  |zero=>exact absurd H.out (by simp [laws_eqWayS.l0])
  | succ k4=>
   simp only [laws_eqWayS.l0] at H
   replace H:=znif H;rcases H with⟨c7,H⟩|⟨c7,H⟩
   ·
    obtain rfl:=zsome H
    go_wp2
    go_ret
    exact HS.pk
   (try go_wp2)
   replace H:=zgo H;obtain⟨c3,H⟩:=H
   replace H:=zgo H;obtain⟨c8,H⟩:=H
   obtain⟨ad10,B10_1,d10_1,rfl,e10_0,e10_1,m10_1,y10_1⟩:=at_T59 gp0 x5 (of_eq_true c3) (of_eq_true c8)
   replace H:=zgo H;obtain⟨c13,H⟩:=H
   obtain⟨ad14,B14_1,d14_1,rfl,e14_0,e14_1,m14_1,y14_1⟩:=at_T59 gp1 x5 (of_eq_true c3) (of_eq_true c13)
   replace H:=zbind H;obtain⟨t15,ht15,H⟩:=H
   refine dr_start [] HS #[false,false,false,false,false,false,false,false,false,false] (by kernel_rfl) rfl rfl laws_eqWayS.tT6 (fun w9 HT HS HH=>?_)
   (try clear F)
   refine dq [0,1,2] HT ?_
   refine dtk 3 20 HT HH rfl (by rintro w' ⟨rs',HS'⟩;have e10_0:=HS'.keepc e10_0;have e10_1:=HS'.keepc e10_1;go_simp;with_reducible rfl) ?_
   refine dq [4,5,6] HT ?_
   refine dtk 7 24 HT HH rfl (by rintro w' ⟨rs',HS'⟩;have e14_0:=HS'.keepc e14_0;have e14_1:=HS'.keepc e14_1;go_simp;with_reducible rfl) ?_
   refine dr1 8 HT fun K hK=>?_
   refine go_cl HS (laws_eqWay.calls ht15.out (HS.ro y10_1) m10_1 (HS.ro y14_1) m14_1) Tryz.func50 ?_;clear HS;intro wt15 HS F
   refine nrm 25 hK ⟨_,HS⟩ fun HH=>?_;clear hK K
   refine dq [9] HT ?_
   refine dn HT ?_
   replace H:=znifb H;rcases H with⟨c11,H⟩|⟨c11,H⟩
   ·
    subst c11
    (try simp only [dcn,dcu,dcf])
    obtain rfl:=zsome H
    go_wp2
    go_ret
    exact HS.pk
   subst c11
   (try simp only [dcn,dcu,dcf])
   go_wp2
   go_roundg k4
   case measure=>have:=HKk4.out;omega
   case rel=>exact⟨_,rfl,H,⟨by have:=HKk4.out;omega⟩,HS.pi []⟩
def laws_eqRev.f (a0:S163)(a1:S163):Option (Bool):=(if a0.f0=a1.f0 then(if a0.f1=a1.f1 then(some true)else(some false))else(some false))
theorem laws_eqRev.calls {a0:S163}{a1:S163}{r:Bool}{w:World}(h:laws_eqRev.f a0 a1=some r):
    Calls Tryz.prog 174 #[.agg #[.int .i64 a0.f0,.int .i64 a0.f1],.agg #[.int .i64 a1.f0,.int .i64 a1.f1]] w (fun e w'=>e=.returned (.bool r)∧Hp noFP w w' []):=by
 have HS:=Hp.start w
 have H:=Aside0.mk h
 clear h
 unfold laws_eqRev.f at H
 go_enter Tryz.func174,Tryz.ntmps174
 go_upto_if 9 with(first|((with_reducible refine gd 2 rfl ?_);refine ev_bx HS ?_;clear HS;intro g2 w2 HS F)|((with_reducible refine gd 3 rfl ?_);refine ev_bx HS ?_;clear HS;intro g3 w3 HS F))
 replace H:=znif' H;rcases H with⟨c5,H⟩|⟨c5,H⟩
 ·
  obtain⟨c5a,c5b⟩:=nq c5;clear c5
  (try simp only [c5a,c5b,dcn])
  obtain rfl:=zsome H
  go_wp2
  go_ret
  exact HS.pk
 obtain⟨c5a,c5b⟩:=bq c5;clear c5
 (try simp only [c5a,c5b,dcn])
 replace H:=znif' H;rcases H with⟨c6,H⟩|⟨c6,H⟩
 ·
  obtain⟨c6a,c6b⟩:=nq c6;clear c6
  obtain rfl:=zsome H
  go_wp2
  go_ret
  exact HS.pk
 obtain⟨c6a,c6b⟩:=bq c6;clear c6
 obtain rfl:=zsome H
 go_wp2
 go_ret
 exact HS.pk
def laws_eqRevS.l0:Nat→Int→(List S163)→(List S163)→Option (Bool)
  |0,_,_,_=>none
  |k+1,x5,a0,a1=>(if x5<(a0.length:Int)then(if 0≤x5 then(if x5<(a0.length:Int)then(if x5<(a1.length:Int)then((laws_eqRev.f (rd_T163 a0 x5) (rd_T163 a1 x5)).bind fun t14=>(if t14=true then(laws_eqRevS.l0 k (wrap64 (x5+1)) a0 a1)else(some false)))else none)else none)else none)else(some true))
def laws_eqRevS.f (k:Nat)(a0:(List S163))(a1:(List S163)):Option (Bool):=(if(a0.length:Int)=(a1.length:Int)then(laws_eqRevS.l0 k 0 a0 a1)else(some false))
def laws_eqRevS.T6:TT:=(true,[([],[]),([],[]),([0,1],[0,1]),([2],[2]),([],[]),([],[]),([4,5],[4,5]),([6],[6]),([3,7],[3,7]),([8],[8])])
theorem laws_eqRevS.tT6:rtab .any (opsOf Tryz.f145 6)=laws_eqRevS.T6:=by kernel_rfl
theorem laws_eqRevS.calls {k:Nat}{a0:(List S163)}{a1:(List S163)}{Ap0 Ap1:Option Addr}{np0 cp0 np1 cp1:Nat}{r:Bool}{w:World}(h:laws_eqRevS.f k a0 a1=some r)(gp0:k163.C w Ap0 np0 a0)(lp0:np0≤cp0)(gp1:k163.C w Ap1 np1 a1)(lp1:np1≤cp1):
    Calls Tryz.prog 145 #[.slice Ap0 np0 cp0,.slice Ap1 np1 cp1] w (fun e w'=>e=.returned (.bool r)∧Hp noFP w w' []):=by
 obtain rfl:=C_len gp0
 obtain rfl:=C_len gp1
 have HS:=Hp.start w
 have H:=Aside0.mk h
 clear h
 unfold laws_eqRevS.f at H
 go_enter Tryz.func145,Tryz.ntmps145
 replace H:=znif' H;rcases H with⟨c1,H⟩|⟨c1,H⟩
 ·
  obtain⟨c1a,c1b⟩:=nq c1;clear c1
  obtain rfl:=zsome H
  go_wp2
  go_ret
  exact HS.pk
 obtain⟨c1a,c1b⟩:=bq c1;clear c1
 go_wp2
 go_loopg [5] k (fun kq v_5 w'=>∃(x5:Int),v_5=.int .i64 x5∧Aside0 (laws_eqRevS.l0 kq x5 a0 a1=some r)∧Aside0 (kq≤k)∧Hp noFP w w' [])
 case atStart=>exact⟨_,rfl,H,⟨Nat.le_refl _⟩,HS⟩
 case round=>
  clear HS H;(try clear F)
  obtain⟨x5,rfl,H,HKk4,HS⟩:=hrel
  cases gk with
  |zero=>exact absurd H.out (by simp [laws_eqRevS.l0])
  | succ k4=>
   simp only [laws_eqRevS.l0] at H
   replace H:=znif H;rcases H with⟨c7,H⟩|⟨c7,H⟩
   ·
    obtain rfl:=zsome H
    go_wp2
    go_ret
    exact HS.pk
   (try go_wp2)
   replace H:=zgo H;obtain⟨c3,H⟩:=H
   replace H:=zgo H;obtain⟨c8,H⟩:=H
   obtain⟨ad10,rfl,e10_0,e10_1⟩:=at_T163 gp0 x5 (of_eq_true c3) (of_eq_true c8)
   replace H:=zgo H;obtain⟨c12,H⟩:=H
   obtain⟨ad13,rfl,e13_0,e13_1⟩:=at_T163 gp1 x5 (of_eq_true c3) (of_eq_true c12)
   replace H:=zbind H;obtain⟨t14,ht14,H⟩:=H
   refine dr_start [] HS #[false,false,false,false,false,false,false,false,false,false] (by kernel_rfl) rfl rfl laws_eqRevS.tT6 (fun w9 HT HS HH=>?_)
   (try clear F)
   refine dq [0,1,2] HT ?_
   refine dtk 3 20 HT HH rfl (by rintro w' ⟨rs',HS'⟩;have e10_0:=HS'.keepc e10_0;have e10_1:=HS'.keepc e10_1;go_simp;with_reducible rfl) ?_
   refine dq [4,5,6] HT ?_
   refine dtk 7 24 HT HH rfl (by rintro w' ⟨rs',HS'⟩;have e13_0:=HS'.keepc e13_0;have e13_1:=HS'.keepc e13_1;go_simp;with_reducible rfl) ?_
   refine dr1 8 HT fun K hK=>?_
   refine go_cl HS (laws_eqRev.calls ht14.out) Tryz.func174 ?_;clear HS;intro wt14 HS F
   refine nrm 25 hK ⟨_,HS⟩ fun HH=>?_;clear hK K
   refine dq [9] HT ?_
   refine dn HT ?_
   replace H:=znifb H;rcases H with⟨c11,H⟩|⟨c11,H⟩
   ·
    subst c11
    (try simp only [dcn,dcu,dcf])
    obtain rfl:=zsome H
    go_wp2
    go_ret
    exact HS.pk
   subst c11
   (try simp only [dcn,dcu,dcf])
   go_wp2
   go_roundg k4
   case measure=>have:=HKk4.out;omega
   case rel=>exact⟨_,rfl,H,⟨by have:=HKk4.out;omega⟩,HS.pi []⟩
def laws_eqCrl.f (k:Nat)(a0:S69)(a1:S69):Option (Bool):=(if a0.f0.toList=a1.f0.toList then(if a0.f1=a1.f1 then(if a0.f2=a1.f2 then(if a0.f3=a1.f3 then(if a0.f4=a1.f4 then((laws_eqRevS.f k a0.f5 a1.f5).bind fun t10=>(if t10=true then(if a0.f6.toList=a1.f6.toList then(some true)else(some false))else(some false)))else(some false))else(some false))else(some false))else(some false))else(some false))
theorem laws_eqCrl.calls {k:Nat}{a0:S69}{a1:S69}{Ap0 Ap1:Option Addr}{np0 cp0 np1 cp1:Nat}{r:Bool}{w:World}(h:laws_eqCrl.f k a0 a1=some r)(gp0:k163.C w Ap0 np0 a0.f5)(lp0:np0≤cp0)(gp1:k163.C w Ap1 np1 a1.f5)(lp1:np1≤cp1):
    Calls Tryz.prog 110 #[.agg #[.string a0.f0,.int .i64 a0.f1,.int .i64 a0.f2,.int .i64 a0.f3,.int .i64 a0.f4,.slice Ap0 np0 cp0,.string a0.f6],.agg #[.string a1.f0,.int .i64 a1.f1,.int .i64 a1.f2,.int .i64 a1.f3,.int .i64 a1.f4,.slice Ap1 np1 cp1,.string a1.f6]] w (fun e w'=>e=.returned (.bool r)∧Hp noFP w w' []):=by
 obtain rfl:=C_len gp0
 obtain rfl:=C_len gp1
 have HS:=Hp.start w
 have H:=Aside0.mk h
 clear h
 unfold laws_eqCrl.f at H
 go_enter Tryz.func110,Tryz.ntmps110
 go_upto_if 9 with(first|((with_reducible refine gd 2 rfl ?_);refine ev_bx HS ?_;clear HS;intro g2 w2 HS F)|((with_reducible refine gd 3 rfl ?_);refine ev_bx HS ?_;clear HS;intro g3 w3 HS F))
 replace H:=znif' H;rcases H with⟨c5,H⟩|⟨c5,H⟩
 ·
  obtain⟨c5a,c5b⟩:=nq c5;clear c5
  (try simp only [c5a,c5b,dcn])
  obtain rfl:=zsome H
  go_wp2
  go_ret
  exact HS.pk
 obtain⟨c5a,c5b⟩:=bq c5;clear c5
 (try simp only [c5a,c5b,dcn])
 replace H:=znif' H;rcases H with⟨c6,H⟩|⟨c6,H⟩
 ·
  obtain⟨c6a,c6b⟩:=nq c6;clear c6
  obtain rfl:=zsome H
  go_wp2
  go_ret
  exact HS.pk
 obtain⟨c6a,c6b⟩:=bq c6;clear c6
 replace H:=znif' H;rcases H with⟨c7,H⟩|⟨c7,H⟩
 ·
  obtain⟨c7a,c7b⟩:=nq c7;clear c7
  obtain rfl:=zsome H
  go_wp2
  go_ret
  exact HS.pk
 obtain⟨c7a,c7b⟩:=bq c7;clear c7
 replace H:=znif' H;rcases H with⟨c8,H⟩|⟨c8,H⟩
 ·
  obtain⟨c8a,c8b⟩:=nq c8;clear c8
  obtain rfl:=zsome H
  go_wp2
  go_ret
  exact HS.pk
 obtain⟨c8a,c8b⟩:=bq c8;clear c8
 replace H:=znif' H;rcases H with⟨c9,H⟩|⟨c9,H⟩
 ·
  obtain⟨c9a,c9b⟩:=nq c9;clear c9
  obtain rfl:=zsome H
  go_wp2
  go_ret
  exact HS.pk
 obtain⟨c9a,c9b⟩:=bq c9;clear c9
 replace H:=zbind H;obtain⟨t10,ht10,H⟩:=H
 go_upto_if 35 with((with_reducible refine gd 34 rfl ?_);refine ev_cl HS (laws_eqRevS.calls ht10.out (HS.ro gp0) lp0 (HS.ro gp1) lp1) Tryz.func145 ?_;clear HS;intro wt10 HS F)
 replace H:=znifb H;rcases H with⟨c12,H⟩|⟨c12,H⟩
 ·
  subst c12
  (try simp only [dcn,dcu,dcf])
  obtain rfl:=zsome H
  go_wp2
  go_ret
  exact HS.pk
 subst c12
 (try simp only [dcn,dcu,dcf])
 replace H:=znif' H;rcases H with⟨c13,H⟩|⟨c13,H⟩
 ·
  obtain⟨c13a,c13b⟩:=nq c13;clear c13
  obtain rfl:=zsome H
  go_wp2
  go_ret
  exact HS.pk
 obtain⟨c13a,c13b⟩:=bq c13;clear c13
 obtain rfl:=zsome H
 go_wp2
 go_ret
 exact HS.pk
def laws_eqCrlS.l0:Nat→Int→(List S69)→(List S69)→Option (Bool)
  |0,_,_,_=>none
  |k+1,x5,a0,a1=>(if x5<(a0.length:Int)then(if 0≤x5 then(if x5<(a0.length:Int)then(if x5<(a1.length:Int)then((laws_eqCrl.f k (rd_T69 a0 x5) (rd_T69 a1 x5)).bind fun t14=>(if t14=true then(laws_eqCrlS.l0 k (wrap64 (x5+1)) a0 a1)else(some false)))else none)else none)else none)else(some true))
def laws_eqCrlS.f (k:Nat)(a0:(List S69))(a1:(List S69)):Option (Bool):=(if(a0.length:Int)=(a1.length:Int)then(laws_eqCrlS.l0 k 0 a0 a1)else(some false))
def laws_eqCrlS.T6:TT:=(true,[([],[]),([],[]),([0,1],[0,1]),([2],[2]),([],[]),([],[]),([4,5],[4,5]),([6],[6]),([3,7],[3,7]),([8],[8])])
theorem laws_eqCrlS.tT6:rtab .any (opsOf Tryz.f52 6)=laws_eqCrlS.T6:=by kernel_rfl
theorem laws_eqCrlS.calls {k:Nat}{a0:(List S69)}{a1:(List S69)}{Ap0 Ap1:Option Addr}{np0 cp0 np1 cp1:Nat}{r:Bool}{w:World}(h:laws_eqCrlS.f k a0 a1=some r)(gp0:k69.C w Ap0 np0 a0)(lp0:np0≤cp0)(gp1:k69.C w Ap1 np1 a1)(lp1:np1≤cp1):
    Calls Tryz.prog 52 #[.slice Ap0 np0 cp0,.slice Ap1 np1 cp1] w (fun e w'=>e=.returned (.bool r)∧Hp noFP w w' []):=by
 obtain rfl:=C_len gp0
 obtain rfl:=C_len gp1
 have HS:=Hp.start w
 have H:=Aside0.mk h
 clear h
 unfold laws_eqCrlS.f at H
 go_enter Tryz.func52,Tryz.ntmps52
 replace H:=znif' H;rcases H with⟨c1,H⟩|⟨c1,H⟩
 ·
  obtain⟨c1a,c1b⟩:=nq c1;clear c1
  obtain rfl:=zsome H
  go_wp2
  go_ret
  exact HS.pk
 obtain⟨c1a,c1b⟩:=bq c1;clear c1
 go_wp2
 go_loopg [5] k (fun kq v_5 w'=>∃(x5:Int),v_5=.int .i64 x5∧Aside0 (laws_eqCrlS.l0 kq x5 a0 a1=some r)∧Aside0 (kq≤k)∧Hp noFP w w' [])
 case atStart=>exact⟨_,rfl,H,⟨Nat.le_refl _⟩,HS⟩
 case round=>
  clear HS H;(try clear F)
  obtain⟨x5,rfl,H,HKk4,HS⟩:=hrel
  cases gk with
  |zero=>exact absurd H.out (by simp [laws_eqCrlS.l0])
  | succ k4=>
   simp only [laws_eqCrlS.l0] at H
   replace H:=znif H;rcases H with⟨c7,H⟩|⟨c7,H⟩
   ·
    obtain rfl:=zsome H
    go_wp2
    go_ret
    exact HS.pk
   (try go_wp2)
   replace H:=zgo H;obtain⟨c3,H⟩:=H
   replace H:=zgo H;obtain⟨c8,H⟩:=H
   obtain⟨ad10,B10_5,d10_5,rfl,e10_0,e10_1,e10_2,e10_3,e10_4,e10_5,e10_6,m10_5,y10_5⟩:=at_T69 gp0 x5 (of_eq_true c3) (of_eq_true c8)
   replace H:=zgo H;obtain⟨c12,H⟩:=H
   obtain⟨ad13,B13_5,d13_5,rfl,e13_0,e13_1,e13_2,e13_3,e13_4,e13_5,e13_6,m13_5,y13_5⟩:=at_T69 gp1 x5 (of_eq_true c3) (of_eq_true c12)
   replace H:=zbind H;obtain⟨t14,ht14,H⟩:=H
   refine dr_start [] HS #[false,false,false,false,false,false,false,false,false,false] (by kernel_rfl) rfl rfl laws_eqCrlS.tT6 (fun w9 HT HS HH=>?_)
   (try clear F)
   refine dq [0,1,2] HT ?_
   refine dtk 3 20 HT HH rfl (by rintro w' ⟨rs',HS'⟩;have e10_0:=HS'.keepc e10_0;have e10_1:=HS'.keepc e10_1;have e10_2:=HS'.keepc e10_2;have e10_3:=HS'.keepc e10_3;have e10_4:=HS'.keepc e10_4;have e10_5:=HS'.keepc e10_5;have e10_6:=HS'.keepc e10_6;go_simp;with_reducible rfl) ?_
   refine dq [4,5,6] HT ?_
   refine dtk 7 24 HT HH rfl (by rintro w' ⟨rs',HS'⟩;have e13_0:=HS'.keepc e13_0;have e13_1:=HS'.keepc e13_1;have e13_2:=HS'.keepc e13_2;have e13_3:=HS'.keepc e13_3;have e13_4:=HS'.keepc e13_4;have e13_5:=HS'.keepc e13_5;have e13_6:=HS'.keepc e13_6;go_simp;with_reducible rfl) ?_
   refine dr1 8 HT fun K hK=>?_
   refine go_cl HS (laws_eqCrl.calls ht14.out (HS.ro y10_5) m10_5 (HS.ro y13_5) m13_5) Tryz.func110 ?_;clear HS;intro wt14 HS F
   refine nrm 25 hK ⟨_,HS⟩ fun HH=>?_;clear hK K
   refine dq [9] HT ?_
   refine dn HT ?_
   replace H:=znifb H;rcases H with⟨c11,H⟩|⟨c11,H⟩
   ·
    subst c11
    (try simp only [dcn,dcu,dcf])
    obtain rfl:=zsome H
    go_wp2
    go_ret
    exact HS.pk
   subst c11
   (try simp only [dcn,dcu,dcf])
   go_wp2
   go_roundg k4
   case measure=>have:=HKk4.out;omega
   case rel=>exact⟨_,rfl,H,⟨by have:=HKk4.out;omega⟩,HS.pi []⟩
def laws_eqAnchor.f (a0:S57)(a1:S57):Option (Bool):=(if a0.f0.toList=a1.f0.toList then(if a0.f1.toList=a1.f1.toList then(some true)else(some false))else(some false))
theorem laws_eqAnchor.calls {a0:S57}{a1:S57}{r:Bool}{w:World}(h:laws_eqAnchor.f a0 a1=some r):
    Calls Tryz.prog 111 #[.agg #[.string a0.f0,.string a0.f1],.agg #[.string a1.f0,.string a1.f1]] w (fun e w'=>e=.returned (.bool r)∧Hp noFP w w' []):=by
 have HS:=Hp.start w
 have H:=Aside0.mk h
 clear h
 unfold laws_eqAnchor.f at H
 go_enter Tryz.func111,Tryz.ntmps111
 go_upto_if 9 with(first|((with_reducible refine gd 2 rfl ?_);refine ev_bx HS ?_;clear HS;intro g2 w2 HS F)|((with_reducible refine gd 3 rfl ?_);refine ev_bx HS ?_;clear HS;intro g3 w3 HS F))
 replace H:=znif' H;rcases H with⟨c5,H⟩|⟨c5,H⟩
 ·
  obtain⟨c5a,c5b⟩:=nq c5;clear c5
  (try simp only [c5a,c5b,dcn])
  obtain rfl:=zsome H
  go_wp2
  go_ret
  exact HS.pk
 obtain⟨c5a,c5b⟩:=bq c5;clear c5
 (try simp only [c5a,c5b,dcn])
 replace H:=znif' H;rcases H with⟨c6,H⟩|⟨c6,H⟩
 ·
  obtain⟨c6a,c6b⟩:=nq c6;clear c6
  obtain rfl:=zsome H
  go_wp2
  go_ret
  exact HS.pk
 obtain⟨c6a,c6b⟩:=bq c6;clear c6
 obtain rfl:=zsome H
 go_wp2
 go_ret
 exact HS.pk
def laws_eqAnchorS.l0:Nat→Int→(List S57)→(List S57)→Option (Bool)
  |0,_,_,_=>none
  |k+1,x5,a0,a1=>(if x5<(a0.length:Int)then(if 0≤x5 then(if x5<(a0.length:Int)then(if x5<(a1.length:Int)then((laws_eqAnchor.f (rd_T57 a0 x5) (rd_T57 a1 x5)).bind fun t14=>(if t14=true then(laws_eqAnchorS.l0 k (wrap64 (x5+1)) a0 a1)else(some false)))else none)else none)else none)else(some true))
def laws_eqAnchorS.f (k:Nat)(a0:(List S57))(a1:(List S57)):Option (Bool):=(if(a0.length:Int)=(a1.length:Int)then(laws_eqAnchorS.l0 k 0 a0 a1)else(some false))
def laws_eqAnchorS.T6:TT:=(true,[([],[]),([],[]),([0,1],[0,1]),([2],[2]),([],[]),([],[]),([4,5],[4,5]),([6],[6]),([3,7],[3,7]),([8],[8])])
theorem laws_eqAnchorS.tT6:rtab .any (opsOf Tryz.f53 6)=laws_eqAnchorS.T6:=by kernel_rfl
theorem laws_eqAnchorS.calls {k:Nat}{a0:(List S57)}{a1:(List S57)}{Ap0 Ap1:Option Addr}{np0 cp0 np1 cp1:Nat}{r:Bool}{w:World}(h:laws_eqAnchorS.f k a0 a1=some r)(gp0:k57.C w Ap0 np0 a0)(lp0:np0≤cp0)(gp1:k57.C w Ap1 np1 a1)(lp1:np1≤cp1):
    Calls Tryz.prog 53 #[.slice Ap0 np0 cp0,.slice Ap1 np1 cp1] w (fun e w'=>e=.returned (.bool r)∧Hp noFP w w' []):=by
 obtain rfl:=C_len gp0
 obtain rfl:=C_len gp1
 have HS:=Hp.start w
 have H:=Aside0.mk h
 clear h
 unfold laws_eqAnchorS.f at H
 go_enter Tryz.func53,Tryz.ntmps53
 replace H:=znif' H;rcases H with⟨c1,H⟩|⟨c1,H⟩
 ·
  obtain⟨c1a,c1b⟩:=nq c1;clear c1
  obtain rfl:=zsome H
  go_wp2
  go_ret
  exact HS.pk
 obtain⟨c1a,c1b⟩:=bq c1;clear c1
 go_wp2
 go_loopg [5] k (fun kq v_5 w'=>∃(x5:Int),v_5=.int .i64 x5∧Aside0 (laws_eqAnchorS.l0 kq x5 a0 a1=some r)∧Aside0 (kq≤k)∧Hp noFP w w' [])
 case atStart=>exact⟨_,rfl,H,⟨Nat.le_refl _⟩,HS⟩
 case round=>
  clear HS H;(try clear F)
  obtain⟨x5,rfl,H,HKk4,HS⟩:=hrel
  cases gk with
  |zero=>exact absurd H.out (by simp [laws_eqAnchorS.l0])
  | succ k4=>
   simp only [laws_eqAnchorS.l0] at H
   replace H:=znif H;rcases H with⟨c7,H⟩|⟨c7,H⟩
   ·
    obtain rfl:=zsome H
    go_wp2
    go_ret
    exact HS.pk
   (try go_wp2)
   replace H:=zgo H;obtain⟨c3,H⟩:=H
   replace H:=zgo H;obtain⟨c8,H⟩:=H
   obtain⟨ad10,rfl,e10_0,e10_1⟩:=at_T57 gp0 x5 (of_eq_true c3) (of_eq_true c8)
   replace H:=zgo H;obtain⟨c12,H⟩:=H
   obtain⟨ad13,rfl,e13_0,e13_1⟩:=at_T57 gp1 x5 (of_eq_true c3) (of_eq_true c12)
   replace H:=zbind H;obtain⟨t14,ht14,H⟩:=H
   refine dr_start [] HS #[false,false,false,false,false,false,false,false,false,false] (by kernel_rfl) rfl rfl laws_eqAnchorS.tT6 (fun w9 HT HS HH=>?_)
   (try clear F)
   refine dq [0,1,2] HT ?_
   refine dtk 3 20 HT HH rfl (by rintro w' ⟨rs',HS'⟩;have e10_0:=HS'.keepc e10_0;have e10_1:=HS'.keepc e10_1;go_simp;with_reducible rfl) ?_
   refine dq [4,5,6] HT ?_
   refine dtk 7 24 HT HH rfl (by rintro w' ⟨rs',HS'⟩;have e13_0:=HS'.keepc e13_0;have e13_1:=HS'.keepc e13_1;go_simp;with_reducible rfl) ?_
   refine dr1 8 HT fun K hK=>?_
   refine go_cl HS (laws_eqAnchor.calls ht14.out) Tryz.func111 ?_;clear HS;intro wt14 HS F
   refine nrm 25 hK ⟨_,HS⟩ fun HH=>?_;clear hK K
   refine dq [9] HT ?_
   refine dn HT ?_
   replace H:=znifb H;rcases H with⟨c11,H⟩|⟨c11,H⟩
   ·
    subst c11
    (try simp only [dcn,dcu,dcf])
    obtain rfl:=zsome H
    go_wp2
    go_ret
    exact HS.pk
   subst c11
   (try simp only [dcn,dcu,dcf])
   go_wp2
   go_roundg k4
   case measure=>have:=HKk4.out;omega
   case rel=>exact⟨_,rfl,H,⟨by have:=HKk4.out;omega⟩,HS.pi []⟩
def laws_eqStore.f (k:Nat)(a0:S39)(a1:S39):Option (Bool):=((laws_eqCertS.f k a0.f0 a1.f0).bind fun t5=>(if t5=true then((laws_eqCrlS.f k a0.f1 a1.f1).bind fun t8=>(if t8=true then((laws_eqAnchorS.f k a0.f2 a1.f2).bind fun t11=>(if t11=true then(some true)else(some false)))else(some false)))else(some false)))
theorem laws_eqStore.calls {k:Nat}{a0:S39}{a1:S39}{Ap0 Ap1 Ap2 Ap3 Ap4 Ap5:Option Addr}{np0 cp0 np1 cp1 np2 cp2 np3 cp3 np4 cp4 np5 cp5:Nat}{r:Bool}{w:World}(h:laws_eqStore.f k a0 a1=some r)(gp0:k41.C w Ap0 np0 a0.f0)(lp0:np0≤cp0)(gp1:k69.C w Ap1 np1 a0.f1)(lp1:np1≤cp1)(gp2:k57.C w Ap2 np2 a0.f2)(lp2:np2≤cp2)(gp3:k41.C w Ap3 np3 a1.f0)(lp3:np3≤cp3)(gp4:k69.C w Ap4 np4 a1.f1)(lp4:np4≤cp4)(gp5:k57.C w Ap5 np5 a1.f2)(lp5:np5≤cp5):
    Calls Tryz.prog 13 #[.agg #[.slice Ap0 np0 cp0,.slice Ap1 np1 cp1,.slice Ap2 np2 cp2],.agg #[.slice Ap3 np3 cp3,.slice Ap4 np4 cp4,.slice Ap5 np5 cp5]] w (fun e w'=>e=.returned (.bool r)∧Hp noFP w w' []):=by
 obtain rfl:=C_len gp0
 obtain rfl:=C_len gp1
 obtain rfl:=C_len gp2
 obtain rfl:=C_len gp3
 obtain rfl:=C_len gp4
 obtain rfl:=C_len gp5
 have HS:=Hp.start w
 have H:=Aside0.mk h
 clear h
 unfold laws_eqStore.f at H
 go_enter Tryz.func13,Tryz.ntmps13
 replace H:=zbind H;obtain⟨t5,ht5,H⟩:=H
 go_upto_if 10 with(first|((with_reducible refine gd 2 rfl ?_);refine ev_bx HS ?_;clear HS;intro g2 w2 HS F)|((with_reducible refine gd 3 rfl ?_);refine ev_bx HS ?_;clear HS;intro g3 w3 HS F)|((with_reducible refine gd 9 rfl ?_);refine ev_cl HS (laws_eqCertS.calls ht5.out (HS.ro gp0) lp0 (HS.ro gp3) lp3) Tryz.func51 ?_;clear HS;intro wt5 HS F))
 replace H:=znifb H;rcases H with⟨c7,H⟩|⟨c7,H⟩
 ·
  subst c7
  (try simp only [dcn,dcu,dcf])
  obtain rfl:=zsome H
  go_wp2
  go_ret
  exact HS.pk
 subst c7
 (try simp only [dcn,dcu,dcf])
 replace H:=zbind H;obtain⟨t8,ht8,H⟩:=H
 go_upto_if 16 with((with_reducible refine gd 15 rfl ?_);refine ev_cl HS (laws_eqCrlS.calls ht8.out (HS.ro gp1) lp1 (HS.ro gp4) lp4) Tryz.func52 ?_;clear HS;intro wt8 HS F)
 replace H:=znifb H;rcases H with⟨c10,H⟩|⟨c10,H⟩
 ·
  subst c10
  (try simp only [dcn,dcu,dcf])
  obtain rfl:=zsome H
  go_wp2
  go_ret
  exact HS.pk
 subst c10
 (try simp only [dcn,dcu,dcf])
 replace H:=zbind H;obtain⟨t11,ht11,H⟩:=H
 go_upto_if 22 with((with_reducible refine gd 21 rfl ?_);refine ev_cl HS (laws_eqAnchorS.calls ht11.out (HS.ro gp2) lp2 (HS.ro gp5) lp5) Tryz.func53 ?_;clear HS;intro wt11 HS F)
 replace H:=zifb H;rcases H with⟨c13,H⟩|⟨c13,H⟩
 ·
  subst c13
  (try simp only [dcn,dcu,dcf])
  obtain rfl:=zsome H
  go_wp2
  go_ret
  exact HS.pk
 subst c13
 (try simp only [dcn,dcu,dcf])
 obtain rfl:=zsome H
 go_wp2
 go_ret
 exact HS.pk
def laws_markText.l0:Nat→Int→ByteArray→Option (ByteArray)
  |0,_,_=>none
  |k+1,x11,x12=>(if 0<x11 then(if(strOfNums ([((wrap64 (48+(Int.tmod x11 10))) % 256)]:List Int)).size+x12.size≤9223372036854775807 then(laws_markText.l0 k (wrap64 (Int.tdiv x11 10)) ((strOfNums ([((wrap64 (48+(Int.tmod x11 10))) % 256)]:List Int))++x12))else none)else(if(⟨#[109]⟩:ByteArray).size+x12.size≤9223372036854775807 then(some ((⟨#[109]⟩:ByteArray)++x12))else none))
def laws_markText.f (k:Nat)(a0:Int):Option (ByteArray):=(if a0≤0 then(some (⟨#[109,48]⟩:ByteArray))else(laws_markText.l0 k a0 (⟨#[]⟩:ByteArray)))
theorem laws_markText.calls {k:Nat}{a0:Int}{r:ByteArray}{w:World}(h:laws_markText.f k a0=some r):
    Calls Tryz.prog 112 #[.int .i64 a0] w (fun e w'=>e=.returned (.string r)∧Hp noFP w w' []):=by
 have HS:=Hp.start w
 have H:=Aside0.mk h
 clear h
 unfold laws_markText.f at H
 go_enter Tryz.func112,Tryz.ntmps112
 replace H:=zif H;rcases H with⟨c1,H⟩|⟨c1,H⟩
 ·
  obtain rfl:=zsome H
  go_wp2
  go_ret
  exact HS.pk
 go_wp2
 go_loopg [0,3] k (fun kq v_0 v_3 w'=>∃(x11:Int) (x12:ByteArray),v_0=.int .i64 x11∧v_3=.string x12∧Aside0 (laws_markText.l0 kq x11 x12=some r)∧Aside0 (kq≤k)∧Hp noFP w w' [])
 case atStart=>exact⟨_,_,rfl,rfl,H,⟨Nat.le_refl _⟩,HS⟩
 case round=>
  clear HS H;(try clear F)
  obtain⟨x11,x12,rfl,rfl,H,HKk10,HS⟩:=hrel
  cases gk with
  |zero=>exact absurd H.out (by simp [laws_markText.l0])
  | succ k10=>
   simp only [laws_markText.l0] at H
   replace H:=znif H;rcases H with⟨c14,H⟩|⟨c14,H⟩
   ·
    replace H:=zgo H;obtain⟨c18,H⟩:=H
    obtain rfl:=zsome H
    go_wp2_with ((with_reducible refine gd 19 rfl ?_);refine ev_val rfl (run_cat rfl rfl rfl (of_eq_true c18)) ?_)
    go_ret
    exact HS.pk
   replace H:=zgo H;obtain⟨c17,H⟩:=H
   go_wp2_with (first|((with_reducible refine gd 12 rfl ?_);refine ev_li (Zd.int .u8) [] ([((wrap64 (48+(Int.tmod x11 10))) % 256)]:List Int) ([.int .u8 ((wrap64 (48+(Int.tmod x11 10))) % 256)]++ []) HS (MadeL.cons (js1:=[]) (c:=[.int .u8 ((wrap64 (48+(Int.tmod x11 10))) % 256)]) rfl (made_flat (fun _=>rfl)) MadeL.nil (by decide)) ?_;clear HS;intro v15 w15 HS F;obtain⟨B15,d15,rfl,m15⟩:=HS.formn 1 0 rfl rfl)|((with_reducible refine gd 13 rfl ?_);refine ev_val rfl (run_str rfl rfl Tryz.underlying50 Tryz.underlying5 Tryz.underlying9 (HS.rd 0 rfl)) ?_)|((with_reducible refine gd 15 rfl ?_);refine ev_val rfl (run_cat rfl rfl rfl (of_eq_true c17)) ?_))
   go_roundg k10
   case measure=>have:=HKk10.out;omega
   case rel=>exact⟨_,_,rfl,rfl,H,⟨by have:=HKk10.out;omega⟩,HS.pi []⟩
def laws_markIntS.l0:Nat→(List Int)→Int→Int→(List Int)→Option (Int×(List Int))
  |0,_,_,_,_=>none
  |k+1,l19,x21,x22,a0=>(if x22<(a0.length:Int)then(if 0≤x22 then(if x22<(a0.length:Int)then(laws_markIntS.l0 k (l19.set (x22).toNat x21) (wrap64 (x21+1)) (wrap64 (x22+1)) a0)else none)else none)else(some (x21,l19)))
def laws_markIntS.f (k:Nat)(a0:(List Int))(a1:Int):Option (Int×(List Int)):=(laws_markIntS.l0 k a0 a1 0 a0)
theorem laws_markIntS.calls {k:Nat}{a0:(List Int)}{a1:Int}{A:FP}{vp0:Value}{r1:Int}{r2:(List Int)}{w:World}(h:laws_markIntS.f k a0 a1=some (r1,r2))(HS:Hp A w w [.own (Zd.slice 3 (Zd.int .i64)) a0 [vp0]]):
    Calls Tryz.prog 59 #[vp0,.int .i64 a1] w (fun e w'=>e=.returned (.int .i64 r1)∧Hp A w w' [.own (Zd.slice 3 (Zd.int .i64)) r2 [vp0]]):=by
 obtain⟨B1,d1,rfl,m1⟩:=HS.form 0 rfl
 have H:=Aside0.mk h
 clear h
 unfold laws_markIntS.f at H
 go_enter Tryz.func59,Tryz.ntmps59
 go_wp2
 go_loopg [1,5] k (fun kq v_1 v_5 w'=>∃(l19:List Int) (x21:Int) (x22:Int),v_1=.int .i64 x21∧v_5=.int .i64 x22∧Aside0 (laws_markIntS.l0 kq l19 x21 x22 a0=some (r1,r2))∧Aside0 (kq≤k)∧Hp A w w' [.own (Zd.slice 3 (Zd.int .i64)) l19 [.slice B1 a0.length d1]])
 case atStart=>exact⟨_,_,_,rfl,rfl,H,⟨Nat.le_refl _⟩,HS⟩
 case round=>
  clear HS H;(try clear F)
  obtain⟨l19,x21,x22,rfl,rfl,H,HKk18,HS⟩:=hrel
  cases gk with
  |zero=>exact absurd H.out (by simp [laws_markIntS.l0])
  | succ k18=>
   simp only [laws_markIntS.l0] at H
   replace H:=znif H;rcases H with⟨c24,H⟩|⟨c24,H⟩
   ·
    obtain⟨rfl,rfl⟩:=zsome2 H
    go_wp2
    go_ret
    exact⟨rfl,HS.pi [0]⟩
   replace H:=zgo H;obtain⟨c25,H⟩:=H
   replace H:=zgo H;obtain⟨c26,H⟩:=H
   obtain⟨ad27,rfl,e27_0⟩:=Kd.at_int (HS.rd 0 rfl) x22 (of_eq_true c25) (of_eq_true c26)
   go_wp2_with ((with_reducible refine gate_store (p:=15) rfl ?_);refine ev_set rfl (Zd.int .i64) 0 [] x22 x21 HS (seg:=[.int .i64 x21]) rfl (by decide) rfl rfl rfl (by first|rfl|exact(Nat.mul_one _).symm) rfl rfl (by kernel_rfl) (by simp [Value.oneCell']) ⟨of_eq_true c25,of_eq_true c26⟩ rfl (made_flat (fun _=>rfl)) ?_;clear HS;intro w28 HS;(try simp only [hpn,hpm] at HS))
   go_roundg k18
   case measure=>have:=HKk18.out;omega
   case rel=>exact⟨_,_,_,rfl,rfl,H,⟨by have:=HKk18.out;omega⟩,HS.pi [0]⟩
end Go.Proofs.YtncddikfafgklaaGreatDoor.F

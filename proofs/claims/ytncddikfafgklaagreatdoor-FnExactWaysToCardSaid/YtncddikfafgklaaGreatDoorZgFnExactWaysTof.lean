/- Functions of the program and of the law, and that their calls do what is written here. -/
import Derived.Test.YtncddikfafgklaaGreatDoorZgFnExactWaysToa
import Derived.Test.YtncddikfafgklaaGreatDoorZgFnExactWaysTod
import Derived.Test.YtncddikfafgklaaGreatDoorZgFnExactWaysToe
namespace Go.Proofs.YtncddikfafgklaaGreatDoor.F
open Go.RowKit YtncddikfafgklaaGreatDoorW.PrintWords YtncddikfafgklaaGreatDoorW.PrintLast YtncddikfafgklaaGreatDoorW.PrintMore Z
attribute [local go_sem] max2_int min2_int max_two min_two max_three min_three max_four min_four
set_option linter.unusedVariables false
set_option linter.unusedSimpArgs false
set_option maxRecDepth 100000
set_option maxHeartbeats 16000000
def spec_l10Item.l0:Nat→(List S153)→Int→S69→Option (S153)
  |0,_,_,_=>none
  |k+1,l21,x23,a0=>(if x23<(a0.f5.length:Int)then(if 0≤x23 then(if x23<(a0.f5.length:Int)then((spec_l09Ints.f k ([(rd_T163 a0.f5 x23).f0,(rd_T163 a0.f5 x23).f1]:List Int)).bind fun t12=>(if l21.length+1≤2932031007402 then(lets (l21++([t12]:List S153)) fun y16=>(spec_l10Item.l0 k y16 (wrap64 (x23+1)) a0))else none))else none)else none)else((spec_TextItem.f a0.f0).bind fun t18=>((spec_IntItem.f k a0.f1).bind fun t24=>((spec_IntItem.f k a0.f2).bind fun t28=>((spec_IntItem.f k a0.f3).bind fun t31=>((spec_IntItem.f k a0.f4).bind fun t33=>(some (⟨48,(⟨#[]⟩:ByteArray),([t18,t24,t28,t31,t33,(⟨48,(⟨#[]⟩:ByteArray),l21⟩:S153)]:List S153)⟩:S153))))))))
def spec_l10Item.f (k:Nat)(a0:S69):Option (S153):=(spec_l10Item.l0 k [] 0 a0)
def spec_l10Item.T5:TT:=(true,[([],[]),([0],[0]),([],[]),([2],[2]),([],[]),([3,4],[3,4]),([5],[5]),([6],[6]),([],[]),([8],[8]),([],[]),([9,10],[9,10]),([11],[11]),([12],[12]),([7,13],[7,13]),([14],[14]),([15],[15]),([1,16,15],[1,16]),([0,1,2,3,4,5,6,7,8,9,10,11,12,13,14,15,16,17],[]),([18,17,17,0,1,2,3,4,5,6,7,8,9,10,11,12,13,14,15,16,17],[17,18])])
theorem spec_l10Item.tT5:rtab .any (opsOf Tryz.f140 5)=spec_l10Item.T5:=by kernel_rfl
def spec_l10Item.T6:TT:=(true,[([],[]),([0],[0]),([1],[1]),([],[]),([3],[3]),([4,2],[4]),([],[]),([6],[6]),([7,5],[7]),([],[]),([9],[9]),([10,8],[10]),([],[]),([12],[12]),([13,11],[13]),([],[]),([2,5,8,11,14,15],[2,5,8,11,14,15]),([16],[16]),([17,14,0,1,2,3,4,5,6,7,8,9,10,11,12,13,14,15,16,17],[17])])
theorem spec_l10Item.tT6:rtab .any (opsOf Tryz.f140 6)=spec_l10Item.T6:=by kernel_rfl
theorem spec_l10Item.calls {k:Nat}{a0:S69}{Ap0:Option Addr}{np0 cp0:Nat}{r:S153}{w:World}(h:spec_l10Item.f k a0=some r)(gp0:k163.C w Ap0 np0 a0.f5)(lp0:np0≤cp0):
    Calls Tryz.prog 140 #[.agg #[.string a0.f0,.int .i64 a0.f1,.int .i64 a0.f2,.int .i64 a0.f3,.int .i64 a0.f4,.slice Ap0 np0 cp0,.string a0.f6]] w (fun e w'=>∃v0_:Value,e=.returned (.agg #[.int .i64 r.f0,.string r.f1,v0_])∧Hp noFP w w' [.own (Zd.slice 153 q153) r.f2 [v0_]]):=by
 obtain rfl:=C_len gp0
 have HS:=Hp.start w
 have H:=Aside0.mk h
 clear h
 unfold spec_l10Item.f at H
 go_enter Tryz.func140,Tryz.ntmps140
 go_wp2_with (first|((with_reducible refine gd 1 rfl ?_);refine ev_bx HS ?_;clear HS;intro g1 w1 HS F)|((with_reducible refine gd 2 rfl ?_);refine ev_bx HS ?_;clear HS;intro g2 w2 HS F)|((with_reducible refine gd 3 rfl ?_);refine ev_bx HS ?_;clear HS;intro g3 w3 HS F)|((with_reducible refine gate_store (p:=3) rfl ?_);refine ev_st 2 0 HS (seg:=[.int .i64 48,.string (⟨#[]⟩:ByteArray),.slice none 0 0]) ?_;clear HS;intro w7 HS F))
 replace HS:=HS.nil 153 q153
 go_loopg [4] k (fun kq v_4 w'=>∃(l21:List S153) (v22:Value) (x23:Int),v_4=.int .i64 x23∧Aside0 (spec_l10Item.l0 kq l21 x23 a0=some r)∧Aside0 (kq≤k)∧Hp noFP w w' [.box g1 [.string a0.f0,.int .i64 a0.f1,.int .i64 a0.f2,.int .i64 a0.f3,.int .i64 a0.f4,.slice Ap0 a0.f5.length cp0,.string a0.f6] 69,.box g2 [.int .i64 0,.string (⟨#[]⟩:ByteArray),.slice none 0 0] 153,.box g3 [.int .i64 48,.string (⟨#[]⟩:ByteArray),v22] 153,.own (Zd.slice 153 q153) l21 [v22]])
 case atStart=>exact⟨_,_,_,rfl,H,⟨Nat.le_refl _⟩,HS⟩
 case round=>
  clear HS H;(try clear F)
  obtain⟨l21,v22,x23,rfl,H,HKk20,HS⟩:=hrel
  obtain⟨B22,d22,rfl,m22⟩:=HS.form 3 rfl
  have F:=HS.bx
  cases gk with
  |zero=>exact absurd H.out (by simp [spec_l10Item.l0])
  | succ k20=>
   simp only [spec_l10Item.l0] at H
   replace H:=zif H;rcases H with⟨c25,H⟩|⟨c25,H⟩
   ·
    (try go_wp2)
    replace H:=zgo H;obtain⟨c8,H⟩:=H
    replace H:=zgo H;obtain⟨c9,H⟩:=H
    obtain⟨ad10,rfl,e10_0,e10_1⟩:=at_T163 gp0 x23 (of_eq_true c8) (of_eq_true c9)
    replace H:=zbind H;obtain⟨t12,ht12,H⟩:=H
    replace H:=zgo H;obtain⟨c15,H⟩:=H
    replace H:=zlets H;obtain⟨y16,e_y16,H⟩:=H
    refine dr_start2 [.box g1 [.string a0.f0,.int .i64 a0.f1,.int .i64 a0.f2,.int .i64 a0.f3,.int .i64 a0.f4,.slice (some ad10) a0.f5.length cp0,.string a0.f6] 69,.box g2 [.int .i64 0,.string (⟨#[]⟩:ByteArray),.slice none 0 0] 153,.box g3 [.int .i64 48,.string (⟨#[]⟩:ByteArray),.slice B22 l21.length d22] 153,.emp] [19] HS (HS.ar [some 0,some 1,some 2,none]) #[false,false,false,false,false,false,false,false,false,false,false,false,false,false,false,false,false,false,false,false] (by kernel_rfl) rfl rfl spec_l10Item.tT5 (fun w27 HT HS HH=>?_)
    (try clear F)
    refine dqt [0,1,2,3,4,5,6] HT HH ?_
    refine dtk 7 20 HT HH rfl (by rintro w' ⟨rs',HS'⟩;have e10_0:=HS'.keepc e10_0;have e10_1:=HS'.keepc e10_1;go_simp;with_reducible rfl) ?_
    refine dqt [8,9,10,11,12] HT HH ?_
    refine dtk 13 26 HT HH rfl (by rintro w' ⟨rs',HS'⟩;have e10_0:=HS'.keepc e10_0;have e10_1:=HS'.keepc e10_1;go_simp;with_reducible rfl) ?_
    refine dr1 14 HT fun K hK=>?_
    refine if_li (Zd.int .i64) [] ([(rd_T163 a0.f5 x23).f0,(rd_T163 a0.f5 x23).f1]:List Int) ([.int .i64 ((rd_T163 a0.f5 x23).f0)]++([.int .i64 ((rd_T163 a0.f5 x23).f1)]++ [])) HS (MadeL.cons (js1:=[]) (c:=[.int .i64 ((rd_T163 a0.f5 x23).f0)]) rfl (made_flat (fun _=>rfl)) (MadeL.cons (js1:=[]) (c:=[.int .i64 ((rd_T163 a0.f5 x23).f1)]) rfl (made_flat (fun _=>rfl)) MadeL.nil (by decide)) (by decide)) ?_;clear HS;intro v11 w11 HS F;obtain⟨B11,d11,rfl,m11⟩:=HS.formn 2 4 rfl rfl
    refine nra 27 hK (HS.ar [some 0,some 1,some 2,none]) fun HH=>?_;clear hK K
    refine dr1 15 HT fun K hK=>?_
    refine go_cl1 HS (spec_l09Ints.calls ht12.out (HS.rd 4 rfl) m11) Tryz.func170 ?_;clear HS;intro v13 wt12 HS F;obtain⟨B13,d13,rfl,m13⟩:=HS.form 5 rfl
    refine nra 28 hK (HS.ar [some 0,some 1,some 2,none]) fun HH=>?_;clear hK K
    refine dr1 16 HT fun K hK=>?_
    refine if_li q153 [5] ([t12]:List S153) ([.int .i64 t12.f0,.string t12.f1,.slice B13 t12.f2.length d13]++ []) HS (MadeL.cons (js1:=[5]) (c:=[.int .i64 t12.f0,.string t12.f1,.slice B13 t12.f2.length d13]) rfl (fun S hd hh=>q153_pack (x:=t12) hd (hh 5 (.own (Zd.slice 153 q153) t12.f2 [.slice B13 t12.f2.length d13]) rfl) (by decide)) MadeL.nil (by decide)) ?_;clear HS;intro v14 w14 HS F;obtain⟨B14,d14,rfl,m14⟩:=HS.formn 1 6 rfl rfl
    refine nra 29 hK (HS.ar [some 0,some 1,some 2,none]) fun HH=>?_;clear hK K
    refine dr1 17 HT fun K hK=>?_
    refine wp_ap q153 3 6 HS rfl rfl Tryz.underlying151 info153 (of_eq_true c15) ?_;clear HS;intro v16 w16 HS;rw [←e_y16.out] at HS;obtain⟨B16,d16,rfl,m16⟩:=HS.form 7 rfl
    (try simp only [hpn,hpm] at HS)
    have F:=HS.bx
    refine nra 30 hK (HS.ar [some 0,some 1,some 2,none]) fun HH=>?_;clear hK K
    refine dq [18] HT ?_
    refine dl 19 HT fun K hK=>?_
    refine if_st 2 2 HS (seg:=[.slice B16 y16.length d16]) ?_;clear HS;intro w17 HS F
    refine hK.out _ _ ?_
    clear hK K
    refine dn HT ?_
    (try clear F)
    have F:=HS.bx
    go_wp2
    go_roundg k20
    case measure=>have:=HKk20.out;omega
    case rel=>exact⟨_,_,_,rfl,H,⟨by have:=HKk20.out;omega⟩,HS.pi [0,1,2,7]⟩
   (try go_wp2)
   replace H:=zbind H;obtain⟨t18,ht18,H⟩:=H
   replace H:=zbind H;obtain⟨t24,ht24,H⟩:=H
   replace H:=zbind H;obtain⟨t28,ht28,H⟩:=H
   replace H:=zbind H;obtain⟨t31,ht31,H⟩:=H
   replace H:=zbind H;obtain⟨t33,ht33,H⟩:=H
   refine dr_start2 [.box g1 [.string a0.f0,.int .i64 a0.f1,.int .i64 a0.f2,.int .i64 a0.f3,.int .i64 a0.f4,.slice Ap0 a0.f5.length cp0,.string a0.f6] 69,.box g2 [.int .i64 0,.string (⟨#[]⟩:ByteArray),.slice none 0 0] 153,.box g3 [.int .i64 48,.string (⟨#[]⟩:ByteArray),.slice B22 l21.length d22] 153,.emp] [18] HS (HS.ar [some 0,some 1,some 2,none]) #[false,false,false,false,false,false,false,false,false,false,false,false,false,false,false,false,false,false,false] (by kernel_rfl) rfl rfl spec_l10Item.tT6 (fun w30 HT HS HH=>?_)
   (try clear F)
   refine dqt [0,1,3,4,6,7,9,10,12,13,15] HT HH ?_
   refine dr1 2 HT fun K hK=>?_
   refine go_cl1 HS (spec_TextItem.calls ht18.out) Tryz.func168 ?_;clear HS;intro v19 wt18 HS F;obtain⟨B19,d19,rfl,m19⟩:=HS.form 4 rfl
   refine nra 34 hK (HS.ar [some 0,some 1,some 2,none]) fun HH=>?_;clear hK K
   refine dr1 5 HT fun K hK=>?_
   refine go_cl1 HS (spec_IntItem.calls ht24.out) Tryz.func167 ?_;clear HS;intro v26 wt24 HS F;obtain⟨B26,d26,rfl,m26⟩:=HS.form 5 rfl
   refine nra 37 hK (HS.ar [some 0,some 1,some 2,none]) fun HH=>?_;clear hK K
   refine dr1 8 HT fun K hK=>?_
   refine go_cl1 HS (spec_IntItem.calls ht28.out) Tryz.func167 ?_;clear HS;intro v29 wt28 HS F;obtain⟨B29,d29,rfl,m29⟩:=HS.form 6 rfl
   refine nra 40 hK (HS.ar [some 0,some 1,some 2,none]) fun HH=>?_;clear hK K
   refine dr1 11 HT fun K hK=>?_
   refine go_cl1 HS (spec_IntItem.calls ht31.out) Tryz.func167 ?_;clear HS;intro v32 wt31 HS F;obtain⟨B32,d32,rfl,m32⟩:=HS.form 7 rfl
   refine nra 43 hK (HS.ar [some 0,some 1,some 2,none]) fun HH=>?_;clear hK K
   refine dr1 14 HT fun K hK=>?_
   refine go_cl1 HS (spec_IntItem.calls ht33.out) Tryz.func167 ?_;clear HS;intro v34 wt33 HS F;obtain⟨B34,d34,rfl,m34⟩:=HS.form 8 rfl
   refine nra 46 hK (HS.ar [some 0,some 1,some 2,none]) fun HH=>?_;clear hK K
   refine dr1 16 HT fun K hK=>?_
   refine if_li q153 [4,5,6,7,8,3] ([t18,t24,t28,t31,t33,(⟨48,(⟨#[]⟩:ByteArray),l21⟩:S153)]:List S153) ([.int .i64 t18.f0,.string t18.f1,.slice B19 t18.f2.length d19]++([.int .i64 t24.f0,.string t24.f1,.slice B26 t24.f2.length d26]++([.int .i64 t28.f0,.string t28.f1,.slice B29 t28.f2.length d29]++([.int .i64 t31.f0,.string t31.f1,.slice B32 t31.f2.length d32]++([.int .i64 t33.f0,.string t33.f1,.slice B34 t33.f2.length d34]++([.int .i64 48,.string (⟨#[]⟩:ByteArray),.slice B22 l21.length d22]++ [])))))) HS (MadeL.cons (js1:=[4]) (c:=[.int .i64 t18.f0,.string t18.f1,.slice B19 t18.f2.length d19]) rfl (fun S hd hh=>q153_pack (x:=t18) hd (hh 4 (.own (Zd.slice 153 q153) t18.f2 [.slice B19 t18.f2.length d19]) rfl) (by decide)) (MadeL.cons (js1:=[5]) (c:=[.int .i64 t24.f0,.string t24.f1,.slice B26 t24.f2.length d26]) rfl (fun S hd hh=>q153_pack (x:=t24) hd (hh 5 (.own (Zd.slice 153 q153) t24.f2 [.slice B26 t24.f2.length d26]) rfl) (by decide)) (MadeL.cons (js1:=[6]) (c:=[.int .i64 t28.f0,.string t28.f1,.slice B29 t28.f2.length d29]) rfl (fun S hd hh=>q153_pack (x:=t28) hd (hh 6 (.own (Zd.slice 153 q153) t28.f2 [.slice B29 t28.f2.length d29]) rfl) (by decide)) (MadeL.cons (js1:=[7]) (c:=[.int .i64 t31.f0,.string t31.f1,.slice B32 t31.f2.length d32]) rfl (fun S hd hh=>q153_pack (x:=t31) hd (hh 7 (.own (Zd.slice 153 q153) t31.f2 [.slice B32 t31.f2.length d32]) rfl) (by decide)) (MadeL.cons (js1:=[8]) (c:=[.int .i64 t33.f0,.string t33.f1,.slice B34 t33.f2.length d34]) rfl (fun S hd hh=>q153_pack (x:=t33) hd (hh 8 (.own (Zd.slice 153 q153) t33.f2 [.slice B34 t33.f2.length d34]) rfl) (by decide)) (MadeL.cons (js1:=[3]) (c:=[.int .i64 48,.string (⟨#[]⟩:ByteArray),.slice B22 l21.length d22]) rfl (fun S hd hh=>q153_pack (x:=(⟨48,(⟨#[]⟩:ByteArray),l21⟩:S153)) hd (hh 3 (.own (Zd.slice 153 q153) l21 [.slice B22 l21.length d22]) rfl) (by decide)) MadeL.nil (by decide)) (by decide)) (by decide)) (by decide)) (by decide)) (by decide)) ?_;clear HS;intro v35 w35 HS F;obtain⟨B35,d35,rfl,m35⟩:=HS.formn 6 9 rfl rfl
   refine nra 48 hK (HS.ar [some 0,some 1,some 2,none]) fun HH=>?_;clear hK K
   refine dq [17] HT ?_
   refine dl 18 HT fun K hK=>?_
   refine if_st 1 0 HS (seg:=[.int .i64 48,.string (⟨#[]⟩:ByteArray),.slice B35 6 d35]) ?_;clear HS;intro w36 HS F
   refine hK.out _ _ ?_
   clear hK K
   refine dn HT ?_
   (try clear F)
   have F:=HS.bx
   obtain rfl:=zsome H
   go_wp2
   exact rc 1 HS Tryz.underlying153 ⟨_,rfl,HS.pi [9]⟩
def spec_CrlText.f (k:Nat)(a0:S69):Option (ByteArray×Bool):=((spec_CrlOk.f k a0).bind fun t3=>(if t3=true then((spec_l10Item.f k a0).bind fun t8=>((spec_l09Bytes.f a0.f6).bind fun t10=>((spec_ItemText.f k (⟨48,(⟨#[]⟩:ByteArray),([t8,t10]:List S153)⟩:S153)).bind fun t13=>(some (t13.1,t13.2)))))else(some ((⟨#[]⟩:ByteArray),false))))
def spec_CrlText.T3:TT:=(true,[([],[]),([0],[0]),([],[]),([2],[2]),([3,1],[3]),([1,4],[1,4]),([5],[5]),([6,4],[6]),([7],[7]),([7],[7]),([8,7,0,1,2,3,4,5,6,7,8,9],[8]),([9,10,0,1,2,3,4,5,6,7,8,9,10],[9])])
theorem spec_CrlText.tT3:rtab .any (opsOf Tryz.f91 3)=spec_CrlText.T3:=by kernel_rfl
theorem spec_CrlText.calls {k:Nat}{a0:S69}{Ap0:Option Addr}{np0 cp0:Nat}{r1:ByteArray}{r2:Bool}{w:World}(h:spec_CrlText.f k a0=some (r1,r2))(gp0:k163.C w Ap0 np0 a0.f5)(lp0:np0≤cp0):
    Calls Tryz.prog 91 #[.agg #[.string a0.f0,.int .i64 a0.f1,.int .i64 a0.f2,.int .i64 a0.f3,.int .i64 a0.f4,.slice Ap0 np0 cp0,.string a0.f6]] w (fun e w'=>e=.returned (.tuple #[.string r1,.bool r2])∧Hp noFP w w' []):=by
 obtain rfl:=C_len gp0
 have HS:=Hp.start w
 have H:=Aside0.mk h
 clear h
 unfold spec_CrlText.f at H
 go_enter Tryz.func91,Tryz.ntmps91
 replace H:=zbind H;obtain⟨t3,ht3,H⟩:=H
 go_upto_if 6 with(first|((with_reducible refine gd 1 rfl ?_);refine ev_bx HS ?_;clear HS;intro g1 w1 HS F)|((with_reducible refine gd 5 rfl ?_);refine ev_cl HS (spec_CrlOk.calls ht3.out (HS.ro gp0) lp0) Tryz.func139 ?_;clear HS;intro wt3 HS F))
 replace H:=znifb H;rcases H with⟨c5,H⟩|⟨c5,H⟩
 ·
  subst c5
  (try simp only [dcn,dcu,dcf])
  obtain⟨rfl,rfl⟩:=zsome2 H
  go_wp2
  exact rl rfl (.tmp (.tmp .nil)) ⟨rfl,HS.pi []⟩
 subst c5
 (try simp only [dcn,dcu,dcf])
 (try go_wp2)
 replace H:=zbind H;obtain⟨t8,ht8,H⟩:=H
 replace H:=zbind H;obtain⟨t10,ht10,H⟩:=H
 replace H:=zbind H;obtain⟨t13,ht13,H⟩:=H
 refine dr_start [] HS #[false,false,false,false,false,false,false,false,false,false,false,false] (by kernel_rfl) rfl rfl spec_CrlText.tT3 (fun w7 HT HS HH=>?_)
 (try clear F)
 refine dqt [0,2,3] HT HH ?_
 refine dr1 1 HT fun K hK=>?_
 refine go_cl1 HS (spec_l10Item.calls ht8.out (HS.ro gp0) lp0) Tryz.func140 ?_;clear HS;intro v9 wt8 HS F;obtain⟨B9,d9,rfl,m9⟩:=HS.form 1 rfl
 refine nrm 8 hK ⟨_,HS⟩ fun HH=>?_;clear hK K
 refine dr1 4 HT fun K hK=>?_
 refine go_cl1 HS (spec_l09Bytes.calls ht10.out) Tryz.func138 ?_;clear HS;intro v11 wt10 HS F;obtain⟨B11,d11,rfl,m11⟩:=HS.form 2 rfl
 refine nrm 11 hK ⟨_,HS⟩ fun HH=>?_;clear hK K
 refine dr1 5 HT fun K hK=>?_
 refine if_li q153 [1,2] ([t8,t10]:List S153) ([.int .i64 t8.f0,.string t8.f1,.slice B9 t8.f2.length d9]++([.int .i64 t10.f0,.string t10.f1,.slice B11 t10.f2.length d11]++ [])) HS (MadeL.cons (js1:=[1]) (c:=[.int .i64 t8.f0,.string t8.f1,.slice B9 t8.f2.length d9]) rfl (fun S hd hh=>q153_pack (x:=t8) hd (hh 1 (.own (Zd.slice 153 q153) t8.f2 [.slice B9 t8.f2.length d9]) rfl) (by decide)) (MadeL.cons (js1:=[2]) (c:=[.int .i64 t10.f0,.string t10.f1,.slice B11 t10.f2.length d11]) rfl (fun S hd hh=>q153_pack (x:=t10) hd (hh 2 (.own (Zd.slice 153 q153) t10.f2 [.slice B11 t10.f2.length d11]) rfl) (by decide)) MadeL.nil (by decide)) (by decide)) ?_;clear HS;intro v12 w12 HS F;obtain⟨B12,d12,rfl,m12⟩:=HS.formn 2 3 rfl rfl
 refine nrm 12 hK ⟨_,HS⟩ fun HH=>?_;clear hK K
 refine dq [6] HT ?_
 refine dr1 7 HT fun K hK=>?_
 refine go_cl HS (spec_ItemText.calls ht13.out (HS.rd 3 rfl) m12) Tryz.func136 ?_;clear HS;intro wt13 HS F
 refine nrm 14 hK ⟨_,HS⟩ fun HH=>?_;clear hK K
 refine dq [8,9,10,11] HT ?_
 refine dn HT ?_
 (try clear F)
 have F:=HS.bx
 obtain⟨rfl,rfl⟩:=zsome2 H
 go_wp2
 exact rl rfl (.tmp (.tmp .nil)) ⟨rfl,HS.pi []⟩
def spec_l13Anchor.f (k:Nat)(a0:S57):Option (Bool):=((spec_NameOk.f k a0.f0).bind fun t3=>(if t3=true then(some ((a0.f1.size:Int)==15))else(some false)))
theorem spec_l13Anchor.calls {k:Nat}{a0:S57}{r:Bool}{w:World}(h:spec_l13Anchor.f k a0=some r):
    Calls Tryz.prog 92 #[.agg #[.string a0.f0,.string a0.f1]] w (fun e w'=>e=.returned (.bool r)∧Hp noFP w w' []):=by
 have HS:=Hp.start w
 have H:=Aside0.mk h
 clear h
 unfold spec_l13Anchor.f at H
 go_enter Tryz.func92,Tryz.ntmps92
 replace H:=zbind H;obtain⟨t3,ht3,H⟩:=H
 replace H:=zifb H;rcases H with⟨c5,H⟩|⟨c5,H⟩
 ·
  subst c5
  obtain rfl:=zsome H
  go_wp2_with (first|((with_reducible refine gd 1 rfl ?_);refine ev_bx HS ?_;clear HS;intro g1 w1 HS F)|((with_reducible refine gd 5 rfl ?_);refine ev_cl HS (spec_NameOk.calls ht3.out) Tryz.func96 ?_;clear HS;intro wt3 HS F))
  go_ret
  exact HS.pk
 subst c5
 obtain rfl:=zsome H
 go_wp2_with (first|((with_reducible refine gd 1 rfl ?_);refine ev_bx HS ?_;clear HS;intro g1 w1 HS F)|((with_reducible refine gd 5 rfl ?_);refine ev_cl HS (spec_NameOk.calls ht3.out) Tryz.func96 ?_;clear HS;intro wt3 HS F))
 go_ret
 exact HS.pk
mutual
def spec_StoreOk.l0:Nat→(List ByteArray)→Int→S39→Option (Bool)
  |0,_,_,_=>none
  |k+1,l22,x24,a0=>(if x24<(a0.f0.length:Int)then(if 0≤x24 then(if x24<(a0.f0.length:Int)then((spec_CertText.f k (rd_T41 a0.f0 x24)).bind fun t30=>(if t30.2=true then((spec_l13In.f k l22 t30.1).bind fun t33=>(if t33=true then(some false)else(if l22.length+1≤8796093022208 then(lets (l22++([t30.1]:List ByteArray)) fun y39=>(spec_StoreOk.l0 k y39 (wrap64 (x24+1)) a0))else none)))else(some false)))else none)else none)else(spec_StoreOk.l1 k ([]:List ByteArray) 0 a0))
def spec_StoreOk.l1:Nat→(List ByteArray)→Int→S39→Option (Bool)
  |0,_,_,_=>none
  |k+1,l57,x59,a0=>(if x59<(a0.f1.length:Int)then(if 0≤x59 then(if x59<(a0.f1.length:Int)then((spec_CrlText.f k (rd_T69 a0.f1 x59)).bind fun t65=>(if t65.2=true then((spec_l13In.f k l57 t65.1).bind fun t68=>(if t68=true then(some false)else(if l57.length+1≤8796093022208 then(lets (l57++([t65.1]:List ByteArray)) fun y74=>(spec_StoreOk.l1 k y74 (wrap64 (x59+1)) a0))else none)))else(some false)))else none)else none)else(spec_StoreOk.l2 k 0 a0))
def spec_StoreOk.l2:Nat→Int→S39→Option (Bool)
  |0,_,_=>none
  |k+1,x79,a0=>(if x79<(a0.f2.length:Int)then(if 0≤x79 then(if x79<(a0.f2.length:Int)then((spec_l13Anchor.f k (rd_T57 a0.f2 x79)).bind fun t85=>(if t85=true then(spec_StoreOk.l3 k 0 a0 x79)else(some false)))else none)else none)else(some true))
def spec_StoreOk.l3:Nat→Int→S39→Int→Option (Bool)
  |0,_,_,_=>none
  |k+1,x91,a0,x79=>(if x91<x79 then(if 0≤x91 then(if x91<(a0.f2.length:Int)then(if((rd_T57 a0.f2 x91).f0).toList=((rd_T57 a0.f2 x79).f0).toList then(some false)else(spec_StoreOk.l3 k (wrap64 (x91+1)) a0 x79))else none)else none)else(spec_StoreOk.l2 k (wrap64 (x79+1)) a0))
end
def spec_StoreOk.f (k:Nat)(a0:S39):Option (Bool):=(if 12<(a0.f0.length:Int)then(some false)else(if 8<(a0.f1.length:Int)then(some false)else(if 3<(a0.f2.length:Int)then(some false)else(spec_StoreOk.l0 k ([]:List ByteArray) 0 a0))))
def spec_StoreOk.T27:TT:=(true,[([],[]),([0],[0]),([],[]),([1,2],[1,2]),([3],[3]),([4],[4]),([],[]),([6],[6]),([],[]),([7,8],[7,8]),([9],[9]),([10],[10]),([5,11],[5,11])])
theorem spec_StoreOk.tT27:rtab .any (opsOf Tryz.f35 27)=spec_StoreOk.T27:=by kernel_rfl
theorem spec_StoreOk.calls {k:Nat}{a0:S39}{Ap0 Ap1 Ap2:Option Addr}{np0 cp0 np1 cp1 np2 cp2:Nat}{r:Bool}{w:World}(h:spec_StoreOk.f k a0=some r)(gp0:k41.C w Ap0 np0 a0.f0)(lp0:np0≤cp0)(gp1:k69.C w Ap1 np1 a0.f1)(lp1:np1≤cp1)(gp2:k57.C w Ap2 np2 a0.f2)(lp2:np2≤cp2):
    Calls Tryz.prog 35 #[.agg #[.slice Ap0 np0 cp0,.slice Ap1 np1 cp1,.slice Ap2 np2 cp2]] w (fun e w'=>e=.returned (.bool r)∧Hp noFP w w' []):=by
 obtain rfl:=C_len gp0
 obtain rfl:=C_len gp1
 obtain rfl:=C_len gp2
 have HS:=Hp.start w
 have H:=Aside0.mk h
 clear h
 unfold spec_StoreOk.f at H
 go_enter Tryz.func35,Tryz.ntmps35
 replace H:=zif H;rcases H with⟨c3,H⟩|⟨c3,H⟩
 ·
  obtain rfl:=zsome H
  go_wp2_with ((with_reducible refine gd 1 rfl ?_);refine ev_bx HS ?_;clear HS;intro g1 w1 HS F)
  go_ret
  exact HS.pk
 replace H:=zif H;rcases H with⟨c4,H⟩|⟨c4,H⟩
 ·
  obtain rfl:=zsome H
  go_wp2_with ((with_reducible refine gd 1 rfl ?_);refine ev_bx HS ?_;clear HS;intro g1 w1 HS F)
  go_ret
  exact HS.pk
 go_upto_if 28 with((with_reducible refine gd 1 rfl ?_);refine ev_bx HS ?_;clear HS;intro g1 w1 HS F)
 replace H:=zif H;rcases H with⟨c5,H⟩|⟨c5,H⟩
 ·
  (try simp only [c5,dcn])
  obtain rfl:=zsome H
  go_wp2
  go_ret
  exact HS.pk
 (try simp only [c5,dcn])
 go_wp2_with ((with_reducible refine gd 29 rfl ?_);refine ev_li Zd.string [] ([]:List ByteArray) [] HS MadeL.nil ?_;clear HS;intro v6 w6 HS F;obtain⟨B6,d6,rfl,m6⟩:=HS.formn 0 1 rfl rfl)
 go_loopg [3,4] k (fun kq v_3 v_4 w'=>∃(l22:List ByteArray) (v23:Value) (x24:Int),v_3=v23∧v_4=.int .i64 x24∧Aside0 (spec_StoreOk.l0 kq l22 x24 a0=some r)∧Aside0 (kq≤k)∧Hp noFP w w' [.box g1 [.slice Ap0 a0.f0.length cp0,.slice Ap1 a0.f1.length cp1,.slice Ap2 a0.f2.length cp2] 39,.own (Zd.slice 9 Zd.string) l22 [v23]])
 case atStart=>exact⟨_,_,_,rfl,rfl,H,⟨Nat.le_refl _⟩,HS⟩
 case round=>
  clear HS H;(try clear F)
  obtain⟨l22,v23,x24,rfl,rfl,H,HKk21,HS⟩:=hrel
  obtain⟨B23,d23,rfl,m23⟩:=HS.form 1 rfl
  have F:=HS.bx
  cases gk with
  |zero=>exact absurd H.out (by simp [spec_StoreOk.l0])
  | succ k21=>
   simp only [spec_StoreOk.l0] at H
   replace H:=zif H;rcases H with⟨c26,H⟩|⟨c26,H⟩
   ·
    replace H:=zgo H;obtain⟨c27,H⟩:=H
    replace H:=zgo H;obtain⟨c28,H⟩:=H
    obtain⟨ad29,B29_9,d29_9,B29_10,d29_10,B29_11,d29_11,rfl,e29_0,e29_1,e29_2,e29_3,e29_4,e29_5,e29_6,e29_7,e29_8,e29_9,e29_10,e29_11,e29_12,m29_9,y29_9,m29_10,y29_10,m29_11,y29_11⟩:=at_T41 gp0 x24 (of_eq_true c27) (of_eq_true c28)
    have e29_0_29:=HS.keepc e29_0
    have e29_1_29:=HS.keepc e29_1
    have e29_2_29:=HS.keepc e29_2
    have e29_3_29:=HS.keepc e29_3
    have e29_4_29:=HS.keepc e29_4
    have e29_5_29:=HS.keepc e29_5
    have e29_6_29:=HS.keepc e29_6
    have e29_7_29:=HS.keepc e29_7
    have e29_8_29:=HS.keepc e29_8
    have e29_9_29:=HS.keepc e29_9
    have e29_10_29:=HS.keepc e29_10
    have e29_11_29:=HS.keepc e29_11
    have e29_12_29:=HS.keepc e29_12
    replace H:=zbind H;obtain⟨t30,ht30,H⟩:=H
    replace H:=znifb H;rcases H with⟨c32,H⟩|⟨c32,H⟩
    ·
     obtain rfl:=zsome H
     go_wp2_with ((with_reducible refine gd 43 rfl ?_);refine ev_cl HS (spec_CertText.calls ht30.out (HS.ro y29_9) m29_9 (HS.ro y29_10) m29_10 (HS.ro y29_11) m29_11) Tryz.func89 ?_;clear HS;intro wt30 HS F;(try simp only [c32]))
     go_ret
     exact HS.pk
    replace H:=zbind H;obtain⟨t33,ht33,H⟩:=H
    go_upto_if 52 with(first|((with_reducible refine gd 43 rfl ?_);refine ev_cl HS (spec_CertText.calls ht30.out (HS.ro y29_9) m29_9 (HS.ro y29_10) m29_10 (HS.ro y29_11) m29_11) Tryz.func89 ?_;clear HS;intro wt30 HS F;(try simp only [c32]))|((with_reducible refine gd 51 rfl ?_);refine gg ?_;refine ev_cl HS (spec_l13In.calls ht33.out (HS.rd 1 rfl) m23) Tryz.func90 ?_;clear HS;intro wt33 HS F))
    replace H:=zifb H;rcases H with⟨c35,H⟩|⟨c35,H⟩
    ·
     subst c35
     (try simp only [dcn,dcu,dcf])
     obtain rfl:=zsome H
     go_wp2
     go_ret
     exact HS.pk
    subst c35
    (try simp only [dcn,dcu,dcf])
    replace H:=zgo H;obtain⟨c38,H⟩:=H
    replace H:=zlets H;obtain⟨y39,e_y39,H⟩:=H
    go_wp2_with (first|((with_reducible refine gd 55 rfl ?_);refine ev_li Zd.string [] ([t30.1]:List ByteArray) ([.string t30.1]++ []) HS (MadeL.cons (js1:=[]) (c:=[.string t30.1]) rfl (made_flat (fun _=>rfl)) MadeL.nil (by decide)) ?_;clear HS;intro v36 w36 HS F;obtain⟨B36,d36,rfl,m36⟩:=HS.formn 1 2 rfl rfl)|((with_reducible refine gd 56 rfl ?_);refine ev_ap Zd.string 1 2 HS rfl rfl Tryz.underlying28 info9 (of_eq_true c38) ?_;clear HS;intro v39 w39 HS;rw [←e_y39.out] at HS;obtain⟨B39,d39,rfl,m39⟩:=HS.form 3 rfl;(try simp only [hpn,hpm] at HS);have F:=HS.bx))
    go_roundg k21
    case measure=>have:=HKk21.out;omega
    case rel=>exact⟨_,_,_,rfl,rfl,H,⟨by have:=HKk21.out;omega⟩,HS.pi [0,3]⟩
   go_wp2_with ((with_reducible refine gd 57 rfl ?_);refine ev_li Zd.string [] ([]:List ByteArray) [] HS MadeL.nil ?_;clear HS;intro v41 w41 HS F;obtain⟨B41,d41,rfl,m41⟩:=HS.formn 0 2 rfl rfl)
   (try obtain⟨wok56,rfl⟩:∃wo_:World,wo_=wr:=⟨_,rfl⟩)
   go_loopg [7,8] k21 (fun kq v_7 v_8 w'=>∃(l57:List ByteArray) (v58:Value) (x59:Int),v_7=v58∧v_8=.int .i64 x59∧Aside0 (spec_StoreOk.l1 kq l57 x59 a0=some r)∧Aside0 (kq≤k21)∧Hp noFP w w' [.box g1 [.slice Ap0 a0.f0.length cp0,.slice Ap1 a0.f1.length cp1,.slice Ap2 a0.f2.length cp2] 39,.own (Zd.slice 9 Zd.string) l22 [.slice B23 l22.length d23],.own (Zd.slice 9 Zd.string) l57 [v58]])
   case atStart=>exact⟨_,_,_,rfl,rfl,H,⟨Nat.le_refl _⟩,HS⟩
   case round=>
    clear HS H;(try clear F)
    obtain⟨l57,v58,x59,rfl,rfl,H,HKk56,HS⟩:=hrel
    obtain⟨B58,d58,rfl,m58⟩:=HS.form 2 rfl
    have F:=HS.bx
    cases gk with
    |zero=>exact absurd H.out (by simp [spec_StoreOk.l1])
    | succ k56=>
     simp only [spec_StoreOk.l1] at H
     replace H:=zif H;rcases H with⟨c61,H⟩|⟨c61,H⟩
     ·
      replace H:=zgo H;obtain⟨c62,H⟩:=H
      replace H:=zgo H;obtain⟨c63,H⟩:=H
      obtain⟨ad64,B64_5,d64_5,rfl,e64_0,e64_1,e64_2,e64_3,e64_4,e64_5,e64_6,m64_5,y64_5⟩:=at_T69 gp1 x59 (of_eq_true c62) (of_eq_true c63)
      have e64_0_64:=HS.keepc e64_0
      have e64_1_64:=HS.keepc e64_1
      have e64_2_64:=HS.keepc e64_2
      have e64_3_64:=HS.keepc e64_3
      have e64_4_64:=HS.keepc e64_4
      have e64_5_64:=HS.keepc e64_5
      have e64_6_64:=HS.keepc e64_6
      replace H:=zbind H;obtain⟨t65,ht65,H⟩:=H
      replace H:=znifb H;rcases H with⟨c67,H⟩|⟨c67,H⟩
      ·
       obtain rfl:=zsome H
       go_wp2_with ((with_reducible refine gd 71 rfl ?_);refine ev_cl HS (spec_CrlText.calls ht65.out (HS.ro y64_5) m64_5) Tryz.func91 ?_;clear HS;intro wt65 HS F;(try simp only [c67]))
       go_ret
       exact HS.pk
      replace H:=zbind H;obtain⟨t68,ht68,H⟩:=H
      go_upto_if 80 with(first|((with_reducible refine gd 71 rfl ?_);refine ev_cl HS (spec_CrlText.calls ht65.out (HS.ro y64_5) m64_5) Tryz.func91 ?_;clear HS;intro wt65 HS F;(try simp only [c67]))|((with_reducible refine gd 79 rfl ?_);refine gg ?_;refine ev_cl HS (spec_l13In.calls ht68.out (HS.rd 2 rfl) m58) Tryz.func90 ?_;clear HS;intro wt68 HS F))
      replace H:=zifb H;rcases H with⟨c70,H⟩|⟨c70,H⟩
      ·
       subst c70
       (try simp only [dcn,dcu,dcf])
       obtain rfl:=zsome H
       go_wp2
       go_ret
       exact HS.pk
      subst c70
      (try simp only [dcn,dcu,dcf])
      replace H:=zgo H;obtain⟨c73,H⟩:=H
      replace H:=zlets H;obtain⟨y74,e_y74,H⟩:=H
      go_wp2_with (first|((with_reducible refine gd 83 rfl ?_);refine ev_li Zd.string [] ([t65.1]:List ByteArray) ([.string t65.1]++ []) HS (MadeL.cons (js1:=[]) (c:=[.string t65.1]) rfl (made_flat (fun _=>rfl)) MadeL.nil (by decide)) ?_;clear HS;intro v71 w71 HS F;obtain⟨B71,d71,rfl,m71⟩:=HS.formn 1 3 rfl rfl)|((with_reducible refine gd 84 rfl ?_);refine ev_ap Zd.string 2 3 HS rfl rfl Tryz.underlying28 info9 (of_eq_true c73) ?_;clear HS;intro v74 w74 HS;rw [←e_y74.out] at HS;obtain⟨B74,d74,rfl,m74⟩:=HS.form 4 rfl;(try simp only [hpn,hpm] at HS);have F:=HS.bx))
      go_roundg k56
      case measure=>have:=HKk21.out;have:=HKk56.out;omega
      case rel=>exact⟨_,_,_,rfl,rfl,H,⟨by have:=HKk21.out;have:=HKk56.out;omega⟩,HS.pi [0,1,4]⟩
     go_wp2
     (try obtain⟨wok78,rfl⟩:∃wo_:World,wo_=wr:=⟨_,rfl⟩)
     go_loopg [11] k56 (fun kq v_11 w'=>∃(x79:Int),v_11=.int .i64 x79∧Aside0 (spec_StoreOk.l2 kq x79 a0=some r)∧Aside0 (kq≤k56)∧Hp noFP w w' [.box g1 [.slice Ap0 a0.f0.length cp0,.slice Ap1 a0.f1.length cp1,.slice Ap2 a0.f2.length cp2] 39,.own (Zd.slice 9 Zd.string) l22 [.slice B23 l22.length d23],.own (Zd.slice 9 Zd.string) l57 [.slice B58 l57.length d58]])
     case atStart=>exact⟨_,rfl,H,⟨Nat.le_refl _⟩,HS⟩
     case round=>
      clear HS H;(try clear F)
      obtain⟨x79,rfl,H,HKk78,HS⟩:=hrel
      have F:=HS.bx
      cases gk with
      |zero=>exact absurd H.out (by simp [spec_StoreOk.l2])
      | succ k78=>
       simp only [spec_StoreOk.l2] at H
       replace H:=znif H;rcases H with⟨c81,H⟩|⟨c81,H⟩
       ·
        obtain rfl:=zsome H
        go_wp2
        go_ret
        exact HS.pk
       replace H:=zgo H;obtain⟨c82,H⟩:=H
       replace H:=zgo H;obtain⟨c83,H⟩:=H
       obtain⟨ad84,rfl,e84_0,e84_1⟩:=at_T57 gp2 x79 (of_eq_true c82) (of_eq_true c83)
       have e84_0_84:=HS.keepc e84_0
       have e84_1_84:=HS.keepc e84_1
       replace H:=zbind H;obtain⟨t85,ht85,H⟩:=H
       go_upto_if 98 with((with_reducible refine gd 97 rfl ?_);refine ev_cl HS (spec_l13Anchor.calls ht85.out) Tryz.func92 ?_;clear HS;intro wt85 HS F)
       replace H:=znifb H;rcases H with⟨c87,H⟩|⟨c87,H⟩
       ·
        subst c87
        (try simp only [dcn,dcu,dcf])
        obtain rfl:=zsome H
        go_wp2
        go_ret
        exact HS.pk
       subst c87
       (try simp only [dcn,dcu,dcf])
       go_wp2
       (try obtain⟨wok90,rfl⟩:∃wo_:World,wo_=wr:=⟨_,rfl⟩)
       go_loopg [12] k78 (fun kq v_12 w'=>∃(x91:Int),v_12=.int .i64 x91∧Aside0 (spec_StoreOk.l3 kq x91 a0 x79=some r)∧Aside0 (kq≤k78)∧Hp noFP w w' [.box g1 [.slice Ap0 a0.f0.length cp0,.slice Ap1 a0.f1.length cp1,.slice (some ad84) a0.f2.length cp2] 39,.own (Zd.slice 9 Zd.string) l22 [.slice B23 l22.length d23],.own (Zd.slice 9 Zd.string) l57 [.slice B58 l57.length d58]])
       case atStart=>exact⟨_,rfl,H,⟨Nat.le_refl _⟩,HS⟩
       case round=>
        clear HS H;(try clear F)
        obtain⟨x91,rfl,H,HKk90,HS⟩:=hrel
        have F:=HS.bx
        cases gk with
        |zero=>exact absurd H.out (by simp [spec_StoreOk.l3])
        | succ k90=>
         simp only [spec_StoreOk.l3] at H
         replace H:=znif H;rcases H with⟨c93,H⟩|⟨c93,H⟩
         ·
          go_wp2
          go_roundg k90
          case measure=>have:=HKk21.out;have:=HKk56.out;have:=HKk78.out;have:=HKk90.out;omega
          case rel=>exact⟨_,rfl,H,⟨by have:=HKk21.out;have:=HKk56.out;have:=HKk78.out;have:=HKk90.out;omega⟩,HS.pi [0,1,2]⟩
         (try go_wp2)
         replace H:=zgo H;obtain⟨c10,H⟩:=H
         replace H:=zgo H;obtain⟨c13,H⟩:=H
         obtain⟨ad14,hq14,e14_0,e14_1⟩:=at_T57 gp2 x91 (of_eq_true c10) (of_eq_true c13);obtain rfl:=Option.some.inj hq14
         obtain⟨ad15,hq15,e15_0,e15_1⟩:=at_T57 gp2 x79 (of_eq_true c82) (of_eq_true c83);obtain rfl:=Option.some.inj hq15
         refine dr_start [] HS #[false,false,false,false,false,false,false,false,false,false,false,false,false] (by kernel_rfl) rfl rfl spec_StoreOk.tT27 (fun w95 HT HS HH=>?_)
         (try clear F)
         refine dqt [0,1,2,3,4] HT HH ?_
         refine dtk 5 109 HT HH rfl (by rintro w' ⟨rs',HS'⟩;have e14_0:=HS'.keepc e14_0;have e14_1:=HS'.keepc e14_1;go_simp;with_reducible rfl) ?_
         refine dqt [6,7,8,9,10] HT HH ?_
         refine dtk 11 115 HT HH rfl (by rintro w' ⟨rs',HS'⟩;have e15_0:=HS'.keepc e15_0;have e15_1:=HS'.keepc e15_1;go_simp;with_reducible rfl) ?_
         refine dq [12] HT ?_
         refine dn HT ?_
         (try clear F)
         have F:=HS.bx
         replace H:=zif' H;rcases H with⟨c97,H⟩|⟨c97,H⟩
         ·
          obtain⟨c97a,c97b⟩:=bq c97;clear c97
          (try simp only [c97a,c97b,dcn])
          obtain rfl:=zsome H
          go_wp2
          go_ret
          exact HS.pk
         obtain⟨c97a,c97b⟩:=nq c97;clear c97
         (try simp only [c97a,c97b,dcn])
         go_wp2
         go_roundg k90
         case measure=>have:=HKk21.out;have:=HKk56.out;have:=HKk78.out;have:=HKk90.out;omega
         case rel=>exact⟨_,rfl,H,⟨by have:=HKk21.out;have:=HKk56.out;have:=HKk78.out;have:=HKk90.out;omega⟩,HS.pi [0,1,2]⟩
mutual
def spec_l13Fits.l0:Nat→Int→(List S41)→S41→Option (Bool)
  |0,_,_,_=>none
  |k+1,x14,a1,a2=>(if x14<(a1.length:Int)then(if 0≤x14 then(if x14<(a1.length:Int)then(if((rd_T41 a1 x14).f2).toList=a2.f2.toList then(some false)else(spec_l13Fits.l0 k (wrap64 (x14+1)) a1 a2))else none)else none)else(some true))
def spec_l13Fits.l1:Nat→Int→(List S41)→S41→Option (Bool)
  |0,_,_,_=>none
  |k+1,x26,a1,a2=>(if x26<(a1.length:Int)then(if 0≤x26 then(if x26<(a1.length:Int)then(if((rd_T41 a1 x26).f2).toList=a2.f2.toList then(some false)else(spec_l13Fits.l1 k (wrap64 (x26+1)) a1 a2))else none)else none)else(some true))
end
def spec_l13Fits.f (k:Nat)(a0:S57)(a1:(List S41))(a2:S41):Option (Bool):=(if 0<(a1.length:Int)then(if 0≤(wrap64 ((a1.length:Int) - 1))then(if(wrap64 ((a1.length:Int) - 1))<(a1.length:Int)then(if a2.f1.toList=((rd_T41 a1 (wrap64 ((a1.length:Int) - 1))).f2).toList then(if a2.f2.toList=a0.f0.toList then(some false)else(spec_l13Fits.l0 k 0 a1 a2))else(some false))else none)else none)else(if a2.f1.toList=a0.f0.toList then(if a2.f2.toList=a0.f0.toList then(some false)else(spec_l13Fits.l1 k 0 a1 a2))else(some false)))
def spec_l13Fits.T9:TT:=(true,[([],[]),([],[]),([0,1],[0,1]),([2],[2]),([3],[3]),([],[]),([5],[5]),([4,6],[4,6])])
theorem spec_l13Fits.tT9:rtab .any (opsOf Tryz.f100 9)=spec_l13Fits.T9:=by kernel_rfl
theorem spec_l13Fits.calls {k:Nat}{a0:S57}{a1:(List S41)}{a2:S41}{Ap0 Ap1 Ap2 Ap3:Option Addr}{np0 cp0 np1 cp1 np2 cp2 np3 cp3:Nat}{r:Bool}{w:World}(h:spec_l13Fits.f k a0 a1 a2=some r)(gp0:k41.C w Ap0 np0 a1)(lp0:np0≤cp0)(gp1:(Kd.int .i64).C w Ap1 np1 a2.f9)(lp1:np1≤cp1)(gp2:Kd.string.C w Ap2 np2 a2.f10)(lp2:np2≤cp2)(gp3:Kd.string.C w Ap3 np3 a2.f11)(lp3:np3≤cp3):
    Calls Tryz.prog 100 #[.agg #[.string a0.f0,.string a0.f1],.slice Ap0 np0 cp0,.agg #[.int .i64 a2.f0,.string a2.f1,.string a2.f2,.int .i64 a2.f3,.int .i64 a2.f4,.string a2.f5,.bool a2.f6,.int .i64 a2.f7,.int .i64 a2.f8,.slice Ap1 np1 cp1,.slice Ap2 np2 cp2,.slice Ap3 np3 cp3,.string a2.f12]] w (fun e w'=>e=.returned (.bool r)∧Hp noFP w w' []):=by
 obtain rfl:=C_len gp0
 obtain rfl:=C_len gp1
 obtain rfl:=C_len gp2
 obtain rfl:=C_len gp3
 have HS:=Hp.start w
 have H:=Aside0.mk h
 clear h
 unfold spec_l13Fits.f at H
 go_enter Tryz.func100,Tryz.ntmps100
 go_upto_if 13 with(first|((with_reducible refine gd 3 rfl ?_);refine ev_bx HS ?_;clear HS;intro g3 w3 HS F)|((with_reducible refine gd 5 rfl ?_);refine ev_bx HS ?_;clear HS;intro g5 w5 HS F))
 replace H:=znif H;rcases H with⟨c5,H⟩|⟨c5,H⟩
 ·
  have c5n:=(propext (Int.natCast_pos (n:=a1.length))).symm.trans c5
  (try simp only [c5,c5n,dcn])
  replace H:=znif' H;rcases H with⟨c21,H⟩|⟨c21,H⟩
  ·
   obtain⟨c21a,c21b⟩:=nq c21;clear c21
   obtain rfl:=zsome H
   go_wp2
   go_ret
   exact HS.pk
  obtain⟨c21a,c21b⟩:=bq c21;clear c21
  replace H:=zif' H;rcases H with⟨c22,H⟩|⟨c22,H⟩
  ·
   obtain⟨c22a,c22b⟩:=bq c22;clear c22
   obtain rfl:=zsome H
   go_wp2
   go_ret
   exact HS.pk
  obtain⟨c22a,c22b⟩:=nq c22;clear c22
  go_wp2
  go_loopg [8] k (fun kq v_8 w'=>∃(x26:Int),v_8=.int .i64 x26∧Aside0 (spec_l13Fits.l1 kq x26 a1 a2=some r)∧Aside0 (kq≤k)∧Hp noFP w w' [.box g3 [.string a0.f0,.string a0.f1] 57,.box g5 [.int .i64 a2.f0,.string a2.f1,.string a2.f2,.int .i64 a2.f3,.int .i64 a2.f4,.string a2.f5,.bool a2.f6,.int .i64 a2.f7,.int .i64 a2.f8,.slice Ap1 a2.f9.length cp1,.slice Ap2 a2.f10.length cp2,.slice Ap3 a2.f11.length cp3,.string a2.f12] 41])
  case atStart=>exact⟨_,rfl,H,⟨Nat.le_refl _⟩,HS⟩
  case round=>
   clear HS H;(try clear F)
   obtain⟨x26,rfl,H,HKk25,HS⟩:=hrel
   have F:=HS.bx
   cases gk with
   |zero=>exact absurd H.out (by simp [spec_l13Fits.l1])
   | succ k25=>
    simp only [spec_l13Fits.l1] at H
    replace H:=znif H;rcases H with⟨c28,H⟩|⟨c28,H⟩
    ·
     obtain rfl:=zsome H
     go_wp2
     go_ret
     exact HS.pk
    (try go_wp2)
    replace H:=zgo H;obtain⟨c23,H⟩:=H
    replace H:=zgo H;obtain⟨c24,H⟩:=H
    obtain⟨ad27,B27_9,d27_9,B27_10,d27_10,B27_11,d27_11,rfl,e27_0,e27_1,e27_2,e27_3,e27_4,e27_5,e27_6,e27_7,e27_8,e27_9,e27_10,e27_11,e27_12,m27_9,y27_9,m27_10,y27_10,m27_11,y27_11⟩:=at_T41 gp0 x26 (of_eq_true c23) (of_eq_true c24)
    refine dr_start [] HS #[false,false,false,false,false,false,false,false] (by kernel_rfl) rfl rfl spec_l13Fits.tT9 (fun w30 HT HS HH=>?_)
    (try clear F)
    refine dq [0,1,2,3] HT ?_
    refine dtk 4 42 HT HH rfl (by rintro w' ⟨rs',HS'⟩;have e27_0:=HS'.keepc e27_0;have e27_1:=HS'.keepc e27_1;have e27_2:=HS'.keepc e27_2;have e27_3:=HS'.keepc e27_3;have e27_4:=HS'.keepc e27_4;have e27_5:=HS'.keepc e27_5;have e27_6:=HS'.keepc e27_6;have e27_7:=HS'.keepc e27_7;have e27_8:=HS'.keepc e27_8;have e27_9:=HS'.keepc e27_9;have e27_10:=HS'.keepc e27_10;have e27_11:=HS'.keepc e27_11;have e27_12:=HS'.keepc e27_12;go_simp;with_reducible rfl) ?_
    refine dqt [5,6,7] HT HH ?_
    refine dn HT ?_
    (try clear F)
    have F:=HS.bx
    replace H:=zif' H;rcases H with⟨c32,H⟩|⟨c32,H⟩
    ·
     obtain⟨c32a,c32b⟩:=bq c32;clear c32
     (try simp only [c32a,c32b,dcn])
     obtain rfl:=zsome H
     go_wp2
     go_ret
     exact HS.pk
    obtain⟨c32a,c32b⟩:=nq c32;clear c32
    (try simp only [c32a,c32b,dcn])
    go_wp2
    go_roundg k25
    case measure=>have:=HKk25.out;omega
    case rel=>exact⟨_,rfl,H,⟨by have:=HKk25.out;omega⟩,HS.pi [0,1]⟩
 have c5n:=(propext (Int.natCast_pos (n:=a1.length))).symm.trans c5
 (try simp only [c5,c5n,dcn])
 replace H:=zgo H;obtain⟨c6,H⟩:=H
 replace H:=zgo H;obtain⟨c7,H⟩:=H
 obtain⟨ad8,B8_9,d8_9,B8_10,d8_10,B8_11,d8_11,rfl,e8_0,e8_1,e8_2,e8_3,e8_4,e8_5,e8_6,e8_7,e8_8,e8_9,e8_10,e8_11,e8_12,m8_9,y8_9,m8_10,y8_10,m8_11,y8_11⟩:=at_T41 gp0 (wrap64 ((a1.length:Int) - 1)) (of_eq_true c6) (of_eq_true c7)
 have e8_0_8:=HS.keepc e8_0
 have e8_1_8:=HS.keepc e8_1
 have e8_2_8:=HS.keepc e8_2
 have e8_3_8:=HS.keepc e8_3
 have e8_4_8:=HS.keepc e8_4
 have e8_5_8:=HS.keepc e8_5
 have e8_6_8:=HS.keepc e8_6
 have e8_7_8:=HS.keepc e8_7
 have e8_8_8:=HS.keepc e8_8
 have e8_9_8:=HS.keepc e8_9
 have e8_10_8:=HS.keepc e8_10
 have e8_11_8:=HS.keepc e8_11
 have e8_12_8:=HS.keepc e8_12
 replace H:=znif' H;rcases H with⟨c9,H⟩|⟨c9,H⟩
 ·
  obtain⟨c9a,c9b⟩:=nq c9;clear c9
  obtain rfl:=zsome H
  go_wp2
  go_ret
  exact HS.pk
 obtain⟨c9a,c9b⟩:=bq c9;clear c9
 replace H:=zif' H;rcases H with⟨c10,H⟩|⟨c10,H⟩
 ·
  obtain⟨c10a,c10b⟩:=bq c10;clear c10
  obtain rfl:=zsome H
  go_wp2
  go_ret
  exact HS.pk
 obtain⟨c10a,c10b⟩:=nq c10;clear c10
 go_wp2
 go_loopg [8] k (fun kq v_8 w'=>∃(x14:Int),v_8=.int .i64 x14∧Aside0 (spec_l13Fits.l0 kq x14 a1 a2=some r)∧Aside0 (kq≤k)∧Hp noFP w w' [.box g3 [.string a0.f0,.string a0.f1] 57,.box g5 [.int .i64 a2.f0,.string a2.f1,.string a2.f2,.int .i64 a2.f3,.int .i64 a2.f4,.string a2.f5,.bool a2.f6,.int .i64 a2.f7,.int .i64 a2.f8,.slice Ap1 a2.f9.length cp1,.slice Ap2 a2.f10.length cp2,.slice Ap3 a2.f11.length cp3,.string a2.f12] 41])
 case atStart=>exact⟨_,rfl,H,⟨Nat.le_refl _⟩,HS⟩
 case round=>
  clear HS H;(try clear F)
  obtain⟨x14,rfl,H,HKk13,HS⟩:=hrel
  have F:=HS.bx
  cases gk with
  |zero=>exact absurd H.out (by simp [spec_l13Fits.l0])
  | succ k13=>
   simp only [spec_l13Fits.l0] at H
   replace H:=znif H;rcases H with⟨c16,H⟩|⟨c16,H⟩
   ·
    obtain rfl:=zsome H
    go_wp2
    go_ret
    exact HS.pk
   (try go_wp2)
   replace H:=zgo H;obtain⟨c15,H⟩:=H
   replace H:=zgo H;obtain⟨c17,H⟩:=H
   obtain⟨ad19,B19_9,d19_9,B19_10,d19_10,B19_11,d19_11,hq19,e19_0,e19_1,e19_2,e19_3,e19_4,e19_5,e19_6,e19_7,e19_8,e19_9,e19_10,e19_11,e19_12,m19_9,y19_9,m19_10,y19_10,m19_11,y19_11⟩:=at_T41 gp0 x14 (of_eq_true c15) (of_eq_true c17);obtain rfl:=Option.some.inj hq19
   refine dr_start [] HS #[false,false,false,false,false,false,false,false] (by kernel_rfl) rfl rfl spec_l13Fits.tT9 (fun w18 HT HS HH=>?_)
   (try clear F)
   refine dq [0,1,2,3] HT ?_
   refine dtk 4 42 HT HH rfl (by rintro w' ⟨rs',HS'⟩;have e19_0:=HS'.keepc e19_0;have e19_1:=HS'.keepc e19_1;have e19_2:=HS'.keepc e19_2;have e19_3:=HS'.keepc e19_3;have e19_4:=HS'.keepc e19_4;have e19_5:=HS'.keepc e19_5;have e19_6:=HS'.keepc e19_6;have e19_7:=HS'.keepc e19_7;have e19_8:=HS'.keepc e19_8;have e19_9:=HS'.keepc e19_9;have e19_10:=HS'.keepc e19_10;have e19_11:=HS'.keepc e19_11;have e19_12:=HS'.keepc e19_12;go_simp;with_reducible rfl) ?_
   refine dqt [5,6,7] HT HH ?_
   refine dn HT ?_
   (try clear F)
   have F:=HS.bx
   replace H:=zif' H;rcases H with⟨c20,H⟩|⟨c20,H⟩
   ·
    obtain⟨c20a,c20b⟩:=bq c20;clear c20
    (try simp only [c20a,c20b,dcn])
    obtain rfl:=zsome H
    go_wp2
    go_ret
    exact HS.pk
   obtain⟨c20a,c20b⟩:=nq c20;clear c20
   (try simp only [c20a,c20b,dcn])
   go_wp2
   go_roundg k13
   case measure=>have:=HKk13.out;omega
   case rel=>exact⟨_,rfl,H,⟨by have:=HKk13.out;omega⟩,HS.pi [0,1]⟩
def spec_l09Copy.f (a0:S41):Option (S41):=(if 0+a0.f9.length≤17592186044416 then(lets (([]:List Int)++a0.f9) fun y12=>(if 0+a0.f10.length≤8796093022208 then(lets (([]:List ByteArray)++a0.f10) fun y19=>(if 0+a0.f11.length≤8796093022208 then(lets (([]:List ByteArray)++a0.f11) fun y26=>(some (⟨a0.f0,a0.f1,a0.f2,a0.f3,a0.f4,a0.f5,a0.f6,a0.f7,a0.f8,y12,y19,y26,a0.f12⟩:S41)))else none))else none))else none)
theorem spec_l09Copy.calls {a0:S41}{Ap0 Ap1 Ap2:Option Addr}{np0 cp0 np1 cp1 np2 cp2:Nat}{r:S41}{w:World}(h:spec_l09Copy.f a0=some r)(gp0:(Kd.int .i64).C w Ap0 np0 a0.f9)(lp0:np0≤cp0)(gp1:Kd.string.C w Ap1 np1 a0.f10)(lp1:np1≤cp1)(gp2:Kd.string.C w Ap2 np2 a0.f11)(lp2:np2≤cp2):
    Calls Tryz.prog 83 #[.agg #[.int .i64 a0.f0,.string a0.f1,.string a0.f2,.int .i64 a0.f3,.int .i64 a0.f4,.string a0.f5,.bool a0.f6,.int .i64 a0.f7,.int .i64 a0.f8,.slice Ap0 np0 cp0,.slice Ap1 np1 cp1,.slice Ap2 np2 cp2,.string a0.f12]] w (fun e w'=>∃v0_ v1_ v2_:Value,e=.returned (.agg #[.int .i64 r.f0,.string r.f1,.string r.f2,.int .i64 r.f3,.int .i64 r.f4,.string r.f5,.bool r.f6,.int .i64 r.f7,.int .i64 r.f8,v0_,v1_,v2_,.string r.f12])∧Hp noFP w w' [.own (Zd.slice 3 (Zd.int .i64)) r.f9 [v0_],.own (Zd.slice 9 Zd.string) r.f10 [v1_],.own (Zd.slice 9 Zd.string) r.f11 [v2_]]):=by
 obtain rfl:=C_len gp0
 obtain rfl:=C_len gp1
 obtain rfl:=C_len gp2
 have HS:=Hp.start w
 have H:=Aside0.mk h
 clear h
 unfold spec_l09Copy.f at H
 go_enter Tryz.func83,Tryz.ntmps83
 replace H:=zgo H;obtain⟨c11,H⟩:=H
 replace H:=zlets H;obtain⟨y12,e_y12,H⟩:=H
 replace H:=zgo H;obtain⟨c18,H⟩:=H
 replace H:=zlets H;obtain⟨y19,e_y19,H⟩:=H
 replace H:=zgo H;obtain⟨c25,H⟩:=H
 replace H:=zlets H;obtain⟨y26,e_y26,H⟩:=H
 obtain rfl:=zsome H
 go_wp2_with (first|((with_reducible refine gd 1 rfl ?_);refine ev_bx HS ?_;clear HS;intro g1 w1 HS F)|((with_reducible refine gd 2 rfl ?_);refine ev_bx HS ?_;clear HS;intro g2 w2 HS F)|((with_reducible refine gd 3 rfl ?_);refine ev_bx HS ?_;clear HS;intro g3 w3 HS F)|((with_reducible refine gate_store (p:=3) rfl ?_);refine ev_st 2 0 HS (seg:=[.int .i64 a0.f0,.string a0.f1,.string a0.f2,.int .i64 a0.f3,.int .i64 a0.f4,.string a0.f5,.bool a0.f6,.int .i64 a0.f7,.int .i64 a0.f8,.slice Ap0 a0.f9.length cp0,.slice Ap1 a0.f10.length cp1,.slice Ap2 a0.f11.length cp2,.string a0.f12]) ?_;clear HS;intro w7 HS F)|((with_reducible refine gd 5 rfl ?_);refine ev_li (Zd.int .i64) [] ([]:List Int) [] HS MadeL.nil ?_;clear HS;intro v9 w9 HS F;obtain⟨B9,d9,rfl,m9⟩:=HS.formn 0 3 rfl rfl)|((with_reducible refine gd 8 rfl ?_);refine ev_apr (flat_int _) 3 HS rfl (HS.ro gp0) Tryz.underlying27 info3 (of_eq_true c11) ?_;clear HS;intro v12 w12 HS;rw [←e_y12.out] at HS;obtain⟨B12,d12,rfl,m12⟩:=HS.form 4 rfl;(try simp only [hpn,hpm] at HS);have F:=HS.bx)|((with_reducible refine gate_store (p:=9) rfl ?_);refine ev_st 2 9 HS (seg:=[.slice B12 y12.length d12]) ?_;clear HS;intro w14 HS F)|((with_reducible refine gd 10 rfl ?_);refine ev_li Zd.string [] ([]:List ByteArray) [] HS MadeL.nil ?_;clear HS;intro v16 w16 HS F;obtain⟨B16,d16,rfl,m16⟩:=HS.formn 0 5 rfl rfl)|((with_reducible refine gd 13 rfl ?_);refine ev_apr flat_string 5 HS rfl (HS.ro gp1) Tryz.underlying28 info9 (of_eq_true c18) ?_;clear HS;intro v19 w19 HS;rw [←e_y19.out] at HS;obtain⟨B19,d19,rfl,m19⟩:=HS.form 6 rfl;(try simp only [hpn,hpm] at HS);have F:=HS.bx)|((with_reducible refine gate_store (p:=14) rfl ?_);refine ev_st 2 10 HS (seg:=[.slice B19 y19.length d19]) ?_;clear HS;intro w21 HS F)|((with_reducible refine gd 15 rfl ?_);refine ev_li Zd.string [] ([]:List ByteArray) [] HS MadeL.nil ?_;clear HS;intro v23 w23 HS F;obtain⟨B23,d23,rfl,m23⟩:=HS.formn 0 7 rfl rfl)|((with_reducible refine gd 18 rfl ?_);refine ev_apr flat_string 7 HS rfl (HS.ro gp2) Tryz.underlying28 info9 (of_eq_true c25) ?_;clear HS;intro v26 w26 HS;rw [←e_y26.out] at HS;obtain⟨B26,d26,rfl,m26⟩:=HS.form 8 rfl;(try simp only [hpn,hpm] at HS);have F:=HS.bx)|((with_reducible refine gate_store (p:=19) rfl ?_);refine ev_st 2 11 HS (seg:=[.slice B26 y26.length d26]) ?_;clear HS;intro w28 HS F)|((with_reducible refine gate_store (p:=2) rfl ?_);refine ev_st 1 0 HS (seg:=[.int .i64 a0.f0,.string a0.f1,.string a0.f2,.int .i64 a0.f3,.int .i64 a0.f4,.string a0.f5,.bool a0.f6,.int .i64 a0.f7,.int .i64 a0.f8,.slice B12 y12.length d12,.slice B19 y19.length d19,.slice B26 y26.length d26,.string a0.f12]) ?_;clear HS;intro w30 HS F))
 exact rc 1 HS Tryz.underlying41 ⟨_,_,_,rfl,HS.pi [4,6,8]⟩
def spec_l13Certs.l0:Nat→(List S41)→Int→(List S41)→Option ((List S41))
  |0,_,_,_=>none
  |k+1,l11,x13,a0=>(if x13<(a0.length:Int)then(if 0≤x13 then(if x13<(a0.length:Int)then((spec_l09Copy.f (rd_T41 a0 x13)).bind fun t19=>(if l11.length+1≤764877654105 then(lets (l11++([t19]:List S41)) fun y27=>(spec_l13Certs.l0 k y27 (wrap64 (x13+1)) a0))else none))else none)else none)else(some l11))
def spec_l13Certs.f (k:Nat)(a0:(List S41)):Option ((List S41)):=(spec_l13Certs.l0 k ([]:List S41) 0 a0)
theorem spec_l13Certs.calls {k:Nat}{a0:(List S41)}{Ap0:Option Addr}{np0 cp0:Nat}{r:(List S41)}{w:World}(h:spec_l13Certs.f k a0=some r)(gp0:k41.C w Ap0 np0 a0)(lp0:np0≤cp0):
    Calls Tryz.prog 101 #[.slice Ap0 np0 cp0] w (fun e w'=>∃v0_:Value,e=.returned (v0_)∧Hp noFP w w' [.own (Zd.slice 41 q41) r [v0_]]):=by
 obtain rfl:=C_len gp0
 have HS:=Hp.start w
 have H:=Aside0.mk h
 clear h
 unfold spec_l13Certs.f at H
 go_enter Tryz.func101,Tryz.ntmps101
 go_wp2_with ((with_reducible refine gd 5 rfl ?_);refine ev_li q41 [] ([]:List S41) [] HS MadeL.nil ?_;clear HS;intro v1 w1 HS F;obtain⟨B1,d1,rfl,m1⟩:=HS.formn 0 0 rfl rfl)
 go_loopg [3,4] k (fun kq v_3 v_4 w'=>∃(l11:List S41) (v12:Value) (x13:Int),v_3=v12∧v_4=.int .i64 x13∧Aside0 (spec_l13Certs.l0 kq l11 x13 a0=some r)∧Aside0 (kq≤k)∧Hp noFP w w' [.own (Zd.slice 41 q41) l11 [v12]])
 case atStart=>exact⟨_,_,_,rfl,rfl,H,⟨Nat.le_refl _⟩,HS⟩
 case round=>
  clear HS H;(try clear F)
  obtain⟨l11,v12,x13,rfl,rfl,H,HKk10,HS⟩:=hrel
  obtain⟨B12,d12,rfl,m12⟩:=HS.form 0 rfl
  cases gk with
  |zero=>exact absurd H.out (by simp [spec_l13Certs.l0])
  | succ k10=>
   simp only [spec_l13Certs.l0] at H
   replace H:=znif H;rcases H with⟨c15,H⟩|⟨c15,H⟩
   ·
    obtain rfl:=zsome H
    go_wp2
    exact r1 ⟨_,rfl,HS.pi [0]⟩
   replace H:=zgo H;obtain⟨c16,H⟩:=H
   replace H:=zgo H;obtain⟨c17,H⟩:=H
   obtain⟨ad18,B18_9,d18_9,B18_10,d18_10,B18_11,d18_11,rfl,e18_0,e18_1,e18_2,e18_3,e18_4,e18_5,e18_6,e18_7,e18_8,e18_9,e18_10,e18_11,e18_12,m18_9,y18_9,m18_10,y18_10,m18_11,y18_11⟩:=at_T41 gp0 x13 (of_eq_true c16) (of_eq_true c17)
   have e18_0_18:=HS.keepc e18_0
   have e18_1_18:=HS.keepc e18_1
   have e18_2_18:=HS.keepc e18_2
   have e18_3_18:=HS.keepc e18_3
   have e18_4_18:=HS.keepc e18_4
   have e18_5_18:=HS.keepc e18_5
   have e18_6_18:=HS.keepc e18_6
   have e18_7_18:=HS.keepc e18_7
   have e18_8_18:=HS.keepc e18_8
   have e18_9_18:=HS.keepc e18_9
   have e18_10_18:=HS.keepc e18_10
   have e18_11_18:=HS.keepc e18_11
   have e18_12_18:=HS.keepc e18_12
   replace H:=zbind H;obtain⟨t19,ht19,H⟩:=H
   replace H:=zgo H;obtain⟨c26,H⟩:=H
   replace H:=zlets H;obtain⟨y27,e_y27,H⟩:=H
   go_wp2_with (first|((with_reducible refine gd 17 rfl ?_);refine ev_cl3 HS (spec_l09Copy.calls ht19.out (HS.ro y18_9) m18_9 (HS.ro y18_10) m18_10 (HS.ro y18_11) m18_11) Tryz.func83 ?_;clear HS;intro v20 v21 v22 wt19 HS F;obtain⟨B20,d20,rfl,m20⟩:=HS.form 1 rfl;obtain⟨B21,d21,rfl,m21⟩:=HS.form 2 rfl;obtain⟨B22,d22,rfl,m22⟩:=HS.form 3 rfl)|((with_reducible refine gd 18 rfl ?_);refine ev_li q41 [1,2,3] ([t19]:List S41) ([.int .i64 t19.f0,.string t19.f1,.string t19.f2,.int .i64 t19.f3,.int .i64 t19.f4,.string t19.f5,.bool t19.f6,.int .i64 t19.f7,.int .i64 t19.f8,.slice B20 t19.f9.length d20,.slice B21 t19.f10.length d21,.slice B22 t19.f11.length d22,.string t19.f12]++ []) HS (MadeL.cons (js1:=[1,2,3]) (c:=[.int .i64 t19.f0,.string t19.f1,.string t19.f2,.int .i64 t19.f3,.int .i64 t19.f4,.string t19.f5,.bool t19.f6,.int .i64 t19.f7,.int .i64 t19.f8,.slice B20 t19.f9.length d20,.slice B21 t19.f10.length d21,.slice B22 t19.f11.length d22,.string t19.f12]) rfl (fun S hd hh=>q41_pack (x:=t19) hd (hh 1 (.own (Zd.slice 3 (Zd.int .i64)) t19.f9 [.slice B20 t19.f9.length d20]) rfl) (hh 2 (.own (Zd.slice 9 Zd.string) t19.f10 [.slice B21 t19.f10.length d21]) rfl) (hh 3 (.own (Zd.slice 9 Zd.string) t19.f11 [.slice B22 t19.f11.length d22]) rfl) (by decide)) MadeL.nil (by decide)) ?_;clear HS;intro v24 w24 HS F;obtain⟨B24,d24,rfl,m24⟩:=HS.formn 1 4 rfl rfl)|((with_reducible refine gd 19 rfl ?_);refine ev_ap q41 0 4 HS rfl rfl Tryz.underlying35 info41 (of_eq_true c26) ?_;clear HS;intro v27 w27 HS;rw [←e_y27.out] at HS;obtain⟨B27,d27,rfl,m27⟩:=HS.form 5 rfl;(try simp only [hpn,hpm] at HS)))
   go_roundg k10
   case measure=>have:=HKk10.out;omega
   case rel=>exact⟨_,_,_,rfl,rfl,H,⟨by have:=HKk10.out;omega⟩,HS.pi [5]⟩
mutual
def spec_l13Seek_from_0.l0:Nat→(List S59)→Int→S82→(List S41)→Option ((List S59))
  |0,_,_,_,_=>none
  |k+1,l30,x32,a0,a1=>(if x32<(a0.f0.f0.length:Int)then(if 0≤x32 then(if x32<(a0.f0.f0.length:Int)then((spec_l13Fits.f k (rd_T57 a0.f0.f2 a0.f2) a1 (rd_T41 a0.f0.f0 x32)).bind fun t47=>(if t47=true then((spec_l13Certs.f k a1).bind fun t48=>(if t48.length+1≤764877654105 then(lets (t48++([(rd_T41 a0.f0.f0 x32)]:List S41)) fun y52=>((spec_l13Seek_from_0.f k (⟨(⟨a0.f0.f0,a0.f0.f1,a0.f0.f2⟩:S39),(⟨a0.f1.f0,a0.f1.f1,a0.f1.f2,a0.f1.f3,a0.f1.f4,a0.f1.f5,a0.f1.f6,a0.f1.f7,a0.f1.f8,a0.f1.f9,a0.f1.f10,a0.f1.f11,a0.f1.f12⟩:S41),a0.f2,l30⟩:S82) y52).bind fun t53=>(spec_l13Seek_from_0.l0 k t53 (wrap64 (x32+1)) a0 a1)))else none))else(spec_l13Seek_from_0.l0 k l30 (wrap64 (x32+1)) a0 a1)))else none)else none)else(some l30))
def spec_l13Seek_from_0.l1:Nat→(List S59)→Int→S82→(List S41)→Option ((List S59))
  |0,_,_,_,_=>none
  |k+1,l58,x60,a0,a1=>(if x60<(a0.f0.f0.length:Int)then(if 0≤x60 then(if x60<(a0.f0.f0.length:Int)then((spec_l13Fits.f k (rd_T57 a0.f0.f2 a0.f2) a1 (rd_T41 a0.f0.f0 x60)).bind fun t1010001=>(if t1010001=true then((spec_l13Certs.f k a1).bind fun t1102001=>(if t1102001.length+1≤764877654105 then(lets (t1102001++([(rd_T41 a0.f0.f0 x60)]:List S41)) fun y1112999=>((spec_l13Seek_from_0.f k (⟨(⟨a0.f0.f0,a0.f0.f1,a0.f0.f2⟩:S39),(⟨a0.f1.f0,a0.f1.f1,a0.f1.f2,a0.f1.f3,a0.f1.f4,a0.f1.f5,a0.f1.f6,a0.f1.f7,a0.f1.f8,a0.f1.f9,a0.f1.f10,a0.f1.f11,a0.f1.f12⟩:S41),a0.f2,l58⟩:S82) y1112999).bind fun t1113001=>(spec_l13Seek_from_0.l1 k t1113001 (wrap64 (x60+1)) a0 a1)))else none))else(spec_l13Seek_from_0.l1 k l58 (wrap64 (x60+1)) a0 a1)))else none)else none)else(some l58))
def spec_l13Seek_from_0.f:Nat→S82→(List S41)→Option ((List S59))
  |0,_,_=>none
  |k+1,a0,a1=>(if 0≤a0.f2 then(if a0.f2<(a0.f0.f2.length:Int)then(if 60≤(a0.f3.length:Int)then(some a0.f3)else(if 5≤(a1.length:Int)then(some a0.f3)else((spec_l13Fits.f k (rd_T57 a0.f0.f2 a0.f2) a1 a0.f1).bind fun t17=>(if t17=true then((spec_l13Certs.f k a1).bind fun t18=>((spec_l09Copy.f a0.f1).bind fun t20=>(if t18.length+1≤764877654105 then(lets (t18++([t20]:List S41)) fun y26=>(if a0.f3.length+1≤4398046511104 then(lets (a0.f3++([(⟨a0.f2,y26⟩:S59)]:List S59)) fun y37=>(spec_l13Seek_from_0.l0 k y37 0 a0 a1))else none))else none)))else(spec_l13Seek_from_0.l1 k a0.f3 0 a0 a1)))))else none)else none)
end
def spec_l13Seek_from_0.T0:TT:=(true,[([],[]),([0],[0]),([1],[1]),([2],[2]),([3],[3]),([],[]),([5],[5]),([6],[6]),([7],[7]),([4,8],[4,8]),([9],[9]),([],[]),([11,10,0,1,2,3,4,5,6,7,8,9,10,11],[10,11])])
theorem spec_l13Seek_from_0.tT0:rtab .any (opsOf Tryz.f42 0)=spec_l13Seek_from_0.T0:=by kernel_rfl
def spec_l13Seek_from_0.T2:TT:=(true,[([],[]),([],[]),([],[]),([2],[2]),([3],[3]),([4],[4]),([0,1,5],[0,1,5])])
theorem spec_l13Seek_from_0.tT2:rtab .any (opsOf Tryz.f42 2)=spec_l13Seek_from_0.T2:=by kernel_rfl
def spec_l13Seek_from_0.T3:TT:=(true,[([],[]),([],[]),([1],[1]),([2],[2]),([3],[3]),([],[]),([5],[5]),([6],[6]),([7],[7]),([],[]),([9],[9]),([],[]),([11],[11]),([12],[12]),([13],[13]),([14,10],[14]),([15],[15]),([10,16,15],[10,16]),([8,17],[8,17]),([18],[18]),([4,19,17],[4,19]),([0,0,1,2,3,4,5,6,7,8,9,10,11,12,13,14,15,16,17,18,19,20],[0]),([21,0,1,2,3,4,5,6,7,8,9,10,11,12,13,14,15,16,17,18,19,20],[21]),([22,20,20,0,1,2,3,4,5,6,7,8,9,10,11,12,13,14,15,16,17,18,19,20],[20,22])])
theorem spec_l13Seek_from_0.tT3:rtab .any (opsOf Tryz.f42 3)=spec_l13Seek_from_0.T3:=by kernel_rfl
def spec_l13Seek_from_0.T7:TT:=(true,[([],[]),([],[]),([],[]),([2],[2]),([3],[3]),([4],[4]),([5],[5]),([],[]),([6,7],[6,7]),([8],[8]),([0,1,9],[0,1,9])])
theorem spec_l13Seek_from_0.tT7:rtab .any (opsOf Tryz.f42 7)=spec_l13Seek_from_0.T7:=by kernel_rfl
def spec_l13Seek_from_0.T8:TT:=(true,[([],[]),([],[]),([1],[1]),([],[]),([3],[3]),([4],[4]),([5],[5]),([6],[6]),([],[]),([7,8],[7,8]),([9],[9]),([10],[10]),([2,11,2],[2,11]),([0,12,12],[0,12])])
theorem spec_l13Seek_from_0.tT8:rtab .any (opsOf Tryz.f42 8)=spec_l13Seek_from_0.T8:=by kernel_rfl
theorem spec_l13Seek_from_0.calls_ (K:Nat):∀ {k:Nat} (hK:k≤K) {a0:S82} {a1:(List S41)} {A:FP} {p0:Nat} {Ap1:Option Addr} {np1 cp1:Nat} {Ap2:Option Addr} {np2 cp2:Nat} {Ap3:Option Addr} {np3 cp3:Nat} {Ap4:Option Addr} {np4 cp4:Nat} {Ap5:Option Addr} {np5 cp5:Nat} {Ap6:Option Addr} {np6 cp6:Nat} {vp1:Value} {Ap8:Option Addr} {np8 cp8:Nat} {wv:World} {r:(List S59)} {w:World} (h:spec_l13Seek_from_0.f k a0 a1=some r) (gp1:k41.C wv Ap1 np1 a0.f0.f0) (lp1:np1≤cp1) (gp2:k69.C wv Ap2 np2 a0.f0.f1) (lp2:np2≤cp2) (gp3:k57.C wv Ap3 np3 a0.f0.f2) (lp3:np3≤cp3) (gp4:(Kd.int .i64).C wv Ap4 np4 a0.f1.f9) (lp4:np4≤cp4) (gp5:Kd.string.C wv Ap5 np5 a0.f1.f10) (lp5:np5≤cp5) (gp6:Kd.string.C wv Ap6 np6 a0.f1.f11) (lp6:np6≤cp6) (gp8:k41.C wv Ap8 np8 a1) (lp8:np8≤cp8) (hV:View A w wv) (HS:Hp A w w [.box p0 [.slice Ap1 np1 cp1,.slice Ap2 np2 cp2,.slice Ap3 np3 cp3,.int .i64 a0.f1.f0,.string a0.f1.f1,.string a0.f1.f2,.int .i64 a0.f1.f3,.int .i64 a0.f1.f4,.string a0.f1.f5,.bool a0.f1.f6,.int .i64 a0.f1.f7,.int .i64 a0.f1.f8,.slice Ap4 np4 cp4,.slice Ap5 np5 cp5,.slice Ap6 np6 cp6,.string a0.f1.f12,.int .i64 a0.f2,vp1] 82,.own (Zd.slice 59 q59) a0.f3 [vp1]]),
    Calls Tryz.prog 42 #[.pointer (some ⟨p0,0,none⟩),.slice Ap8 np8 cp8] w (fun e w'=>∃u0_:Value,e=.returned (.tuple #[])∧Hp A w w' [.box p0 [.slice Ap1 np1 cp1,.slice Ap2 np2 cp2,.slice Ap3 np3 cp3,.int .i64 a0.f1.f0,.string a0.f1.f1,.string a0.f1.f2,.int .i64 a0.f1.f3,.int .i64 a0.f1.f4,.string a0.f1.f5,.bool a0.f1.f6,.int .i64 a0.f1.f7,.int .i64 a0.f1.f8,.slice Ap4 np4 cp4,.slice Ap5 np5 cp5,.slice Ap6 np6 cp6,.string a0.f1.f12,.int .i64 a0.f2,u0_] 82,.own (Zd.slice 59 q59) r [u0_]]):=by
  induction K with
  | zero=>
    intro k hK a0 a1 A p0 Ap1 np1 cp1 Ap2 np2 cp2 Ap3 np3 cp3 Ap4 np4 cp4 Ap5 np5 cp5 Ap6 np6 cp6 vp1 Ap8 np8 cp8 wv r w h gp1 lp1 gp2 lp2 gp3 lp3 gp4 lp4 gp5 lp5 gp6 lp6 gp8 lp8 hV HS
    obtain rfl:k=0:=by omega
    exact absurd h (by simp [spec_l13Seek_from_0.f])
  | succ K IH=>
    intro k hK a0 a1 A p0 Ap1 np1 cp1 Ap2 np2 cp2 Ap3 np3 cp3 Ap4 np4 cp4 Ap5 np5 cp5 Ap6 np6 cp6 vp1 Ap8 np8 cp8 wv r w h gp1 lp1 gp2 lp2 gp3 lp3 gp4 lp4 gp5 lp5 gp6 lp6 gp8 lp8 hV HS
    cases k with
    |zero=>exact absurd h (by simp [spec_l13Seek_from_0.f])
    |succ k=>
    have HK0:Aside0 (k≤K):=⟨by omega⟩
    clear hK
    obtain rfl:=C_len gp1
    obtain rfl:=C_len gp2
    obtain rfl:=C_len gp3
    obtain rfl:=C_len gp4
    obtain rfl:=C_len gp5
    obtain rfl:=C_len gp6
    obtain⟨B1,d1,rfl,m1⟩:=HS.form 1 rfl
    obtain rfl:=C_len gp8
    have H:=Aside0.mk h
    clear h
    simp only [spec_l13Seek_from_0.f] at H
    go_enter Tryz.func42,Tryz.ntmps42
    have F:=HS.bx
    (try go_wp2)
    replace H:=zgo H;obtain⟨c13,H⟩:=H
    replace H:=zgo H;obtain⟨c14,H⟩:=H
    obtain⟨ad15,rfl,e15_0,e15_1⟩:=at_T57 gp3 a0.f2 (of_eq_true c13) (of_eq_true c14)
    refine dr_start [12] HS #[false,false,false,false,false,false,false,false,false,false,false,false,false] (by kernel_rfl) rfl rfl spec_l13Seek_from_0.tT0 (fun w3 HT HS HH=>?_)
    (try clear F)
    refine dqt [0,1,2,3,4,5,6,7,8,9] HT HH ?_
    refine dtk 10 16 HT HH rfl (by rintro w' ⟨rs',HS'⟩;have e15_0:=(hV.keepc HS' e15_0);have e15_1:=(hV.keepc HS' e15_1);go_simp;with_reducible rfl) ?_
    refine dr1 11 HT fun K hK=>?_
    refine if_bx HS ?_;clear HS;intro g4 w4 HS F
    refine nrm 4 hK ⟨_,HS⟩ fun HH=>?_;clear hK K
    refine dl 12 HT fun K hK=>?_
    refine if_st 2 0 HS (seg:=[.string ((rd_T57 a0.f0.f2 a0.f2).f0),.string ((rd_T57 a0.f0.f2 a0.f2).f1)]) ?_;clear HS;intro w16 HS F
    refine hK.out _ _ ?_
    clear hK K
    refine dn HT ?_
    (try clear F)
    have F:=HS.bx
    replace H:=zif H;rcases H with⟨c5,H⟩|⟨c5,H⟩
    ·
     obtain rfl:=zsome H
     go_wp2
     first|exact bodyPost_ret (results_none rfl _ _ _) rfl ⟨rfl,_,HS.pi [0,1]⟩|exact bodyPost_end (results_none rfl _ _ _) rfl ⟨rfl,_,HS.pi [0,1]⟩
    replace H:=zif H;rcases H with⟨c6,H⟩|⟨c6,H⟩
    ·
     (try simp only [c6,dcn])
     obtain rfl:=zsome H
     go_wp2
     first|exact bodyPost_ret (results_none rfl _ _ _) rfl ⟨rfl,_,HS.pi [0,1]⟩|exact bodyPost_end (results_none rfl _ _ _) rfl ⟨rfl,_,HS.pi [0,1]⟩
    (try simp only [c6,dcn])
    (try go_wp2)
    replace H:=zbind H;obtain⟨t17,ht17,H⟩:=H
    refine dr_start [] HS #[false,false,false,false,false,false,false] (by kernel_rfl) rfl rfl spec_l13Seek_from_0.tT2 (fun w8 HT HS HH=>?_)
    (try clear F)
    refine dqt [0,1,2,3,4,5] HT HH ?_
    refine dr1 6 HT fun K hK=>?_
    refine go_cl HS (spec_l13Fits.calls ht17.out (hV.ro km41 HS gp8) lp8 (hV.ro up_int HS gp4) lp4 (hV.ro up_string HS gp5) lp5 (hV.ro up_string HS gp6) lp6) Tryz.func100 ?_;clear HS;intro wt17 HS F
    refine nrm 34 hK ⟨_,HS⟩ fun HH=>?_;clear hK K
    refine dn HT ?_
    (try clear F)
    have F:=HS.bx
    replace H:=znifb H;rcases H with⟨c10,H⟩|⟨c10,H⟩
    ·
     subst c10
     (try simp only [dcn,dcu,dcf])
     go_wp2
     go_loopg [5] k (fun kq v_5 w'=>∃(l58:List S59) (v59:Value) (x60:Int),v_5=.int .i64 x60∧Aside0 (spec_l13Seek_from_0.l1 kq l58 x60 a0 a1=some r)∧Aside0 (kq≤k)∧Hp A w w' [.box p0 [.slice Ap1 a0.f0.f0.length cp1,.slice Ap2 a0.f0.f1.length cp2,.slice (some ad15) a0.f0.f2.length cp3,.int .i64 a0.f1.f0,.string a0.f1.f1,.string a0.f1.f2,.int .i64 a0.f1.f3,.int .i64 a0.f1.f4,.string a0.f1.f5,.bool a0.f1.f6,.int .i64 a0.f1.f7,.int .i64 a0.f1.f8,.slice Ap4 a0.f1.f9.length cp4,.slice Ap5 a0.f1.f10.length cp5,.slice Ap6 a0.f1.f11.length cp6,.string a0.f1.f12,.int .i64 a0.f2,v59] 82,.own (Zd.slice 59 q59) l58 [v59],.box g4 [.string ((rd_T57 a0.f0.f2 a0.f2).f0),.string ((rd_T57 a0.f0.f2 a0.f2).f1)] 57])
     case atStart=>exact⟨_,_,_,rfl,H,⟨Nat.le_refl _⟩,HS⟩
     case round=>
      clear HS H;(try clear F)
      obtain⟨l58,v59,x60,rfl,H,HKk57,HS⟩:=hrel
      obtain⟨B59,d59,rfl,m59⟩:=HS.form 1 rfl
      have F:=HS.bx
      cases gk with
      |zero=>exact absurd H.out (by simp [spec_l13Seek_from_0.l1])
      | succ k57=>
       simp only [spec_l13Seek_from_0.l1] at H
       replace H:=znif H;rcases H with⟨c62,H⟩|⟨c62,H⟩
       ·
        obtain rfl:=zsome H
        go_wp2
        first|exact bodyPost_ret (results_none rfl _ _ _) rfl ⟨rfl,_,HS.pi [0,1]⟩|exact bodyPost_end (results_none rfl _ _ _) rfl ⟨rfl,_,HS.pi [0,1]⟩
       (try go_wp2)
       replace H:=zgo H;obtain⟨c1008001,H⟩:=H
       replace H:=zgo H;obtain⟨c1008002,H⟩:=H
       obtain⟨ad1008999,B1008999_9,d1008999_9,B1008999_10,d1008999_10,B1008999_11,d1008999_11,rfl,e1008999_0,e1008999_1,e1008999_2,e1008999_3,e1008999_4,e1008999_5,e1008999_6,e1008999_7,e1008999_8,e1008999_9,e1008999_10,e1008999_11,e1008999_12,m1008999_9,y1008999_9,m1008999_10,y1008999_10,m1008999_11,y1008999_11⟩:=at_T41 gp1 x60 (of_eq_true c1008001) (of_eq_true c1008002)
       replace H:=zbind H;obtain⟨t1010001,ht1010001,H⟩:=H
       refine dr_start [] HS #[false,false,false,false,false,false,false,false,false,false,false] (by kernel_rfl) rfl rfl spec_l13Seek_from_0.tT7 (fun w64 HT HS HH=>?_)
       (try clear F)
       refine dqt [0,1,2,3,4,5,6,7,8] HT HH ?_
       refine dtk 9 77 HT HH rfl (by rintro w' ⟨rs',HS'⟩;have e1008999_0:=(hV.keepc HS' e1008999_0);have e1008999_1:=(hV.keepc HS' e1008999_1);have e1008999_2:=(hV.keepc HS' e1008999_2);have e1008999_3:=(hV.keepc HS' e1008999_3);have e1008999_4:=(hV.keepc HS' e1008999_4);have e1008999_5:=(hV.keepc HS' e1008999_5);have e1008999_6:=(hV.keepc HS' e1008999_6);have e1008999_7:=(hV.keepc HS' e1008999_7);have e1008999_8:=(hV.keepc HS' e1008999_8);have e1008999_9:=(hV.keepc HS' e1008999_9);have e1008999_10:=(hV.keepc HS' e1008999_10);have e1008999_11:=(hV.keepc HS' e1008999_11);have e1008999_12:=(hV.keepc HS' e1008999_12);go_simp;with_reducible rfl) ?_
       refine dr1 10 HT fun K hK=>?_
       refine go_cl HS (spec_l13Fits.calls ht1010001.out (hV.ro km41 HS gp8) lp8 (hV.ro up_int HS y1008999_9) m1008999_9 (hV.ro up_string HS y1008999_10) m1008999_10 (hV.ro up_string HS y1008999_11) m1008999_11) Tryz.func100 ?_;clear HS;intro wt1010001 HS F
       refine nrm 78 hK ⟨_,HS⟩ fun HH=>?_;clear hK K
       refine dn HT ?_
       (try clear F)
       have F:=HS.bx
       replace H:=znifb H;rcases H with⟨c66,H⟩|⟨c66,H⟩
       ·
        subst c66
        (try simp only [dcn,dcu,dcf])
        go_wp2
        go_roundg k57
        case measure=>have:=HK0.out;have:=HKk57.out;omega
        case rel=>exact⟨_,_,_,rfl,H,⟨by have:=HK0.out;have:=HKk57.out;omega⟩,HS.pi [0,1,2]⟩
       subst c66
       (try simp only [dcn,dcu,dcf])
       (try go_wp2)
       replace H:=zbind H;obtain⟨t1102001,ht1102001,H⟩:=H
       replace H:=zgo H;obtain⟨c1112001,H⟩:=H
       replace H:=zlets H;obtain⟨y1112999,e_y1112999,H⟩:=H
       replace H:=zbind H;obtain⟨t1113001,ht1113001,H⟩:=H
       refine dr_start [13] HS #[false,false,false,false,false,false,false,false,false,false,false,false,false,false] (by kernel_rfl) rfl rfl spec_l13Seek_from_0.tT8 (fun w68 HT HS HH=>?_)
       (try clear F)
       refine join_ 0 #[true,true,true,true,true,true,true,true,true,true,true,true,true,true] (fun((v1102002,v1111001,v1112999,v1113002,pe88):Value×Value×Value×Value×Value)=>([(79,.pointer (some ⟨p0,0,none⟩)),(80,.slice Ap8 a1.length cp8),(81,v1102002),(82,.pointer (some ⟨p0,0,none⟩)),(83,.pointer (some ⟨p0,0,none⟩)),(84,.pointer (some ⟨p0,0,none⟩)),(85,.pointer (some ⟨p0,0,none⟩)),(86,.slice (some ad1008999) a0.f0.f0.length cp1),(87,.int .i64 x60),(88,pe88),(89,.agg #[.int .i64 ((rd_T41 a0.f0.f0 x60).f0),.string ((rd_T41 a0.f0.f0 x60).f1),.string ((rd_T41 a0.f0.f0 x60).f2),.int .i64 ((rd_T41 a0.f0.f0 x60).f3),.int .i64 ((rd_T41 a0.f0.f0 x60).f4),.string ((rd_T41 a0.f0.f0 x60).f5),.bool ((rd_T41 a0.f0.f0 x60).f6),.int .i64 ((rd_T41 a0.f0.f0 x60).f7),.int .i64 ((rd_T41 a0.f0.f0 x60).f8),.slice B1008999_9 (rd_T41 a0.f0.f0 x60).f9.length d1008999_9,.slice B1008999_10 (rd_T41 a0.f0.f0 x60).f10.length d1008999_10,.slice B1008999_11 (rd_T41 a0.f0.f0 x60).f11.length d1008999_11,.string ((rd_T41 a0.f0.f0 x60).f12)]),(90,v1111001),(91,v1112999),(92,.tuple #[])]:List (Tmp×Value))) (fun((v1102002,v1111001,v1112999,v1113002,pe88):Value×Value×Value×Value×Value) w'=>Hp A w w' [.box p0 [.slice (some ad1008999) a0.f0.f0.length cp1,.slice Ap2 a0.f0.f1.length cp2,.slice (some ad15) a0.f0.f2.length cp3,.int .i64 a0.f1.f0,.string a0.f1.f1,.string a0.f1.f2,.int .i64 a0.f1.f3,.int .i64 a0.f1.f4,.string a0.f1.f5,.bool a0.f1.f6,.int .i64 a0.f1.f7,.int .i64 a0.f1.f8,.slice Ap4 a0.f1.f9.length cp4,.slice Ap5 a0.f1.f10.length cp5,.slice Ap6 a0.f1.f11.length cp6,.string a0.f1.f12,.int .i64 a0.f2,v1113002] 82,.own (Zd.slice 59 q59) t1113001 [v1113002],.box g4 [.string ((rd_T57 a0.f0.f2 a0.f2).f0),.string ((rd_T57 a0.f0.f2 a0.f2).f1)] 57,.emp,.emp,.own (Zd.slice 41 (Zd.mix q41 wv)) y1112999 [v1112999]]) ?_ ?_
       rotate_left
       · intro hJ
         refine dqt [0,1,3,4,5,6,7,8,9] HT HH ?_
         refine dtk 10 89 HT HH rfl (by rintro w' ⟨rs',HS'⟩;have e1008999_0:=(hV.keepc HS' e1008999_0);have e1008999_1:=(hV.keepc HS' e1008999_1);have e1008999_2:=(hV.keepc HS' e1008999_2);have e1008999_3:=(hV.keepc HS' e1008999_3);have e1008999_4:=(hV.keepc HS' e1008999_4);have e1008999_5:=(hV.keepc HS' e1008999_5);have e1008999_6:=(hV.keepc HS' e1008999_6);have e1008999_7:=(hV.keepc HS' e1008999_7);have e1008999_8:=(hV.keepc HS' e1008999_8);have e1008999_9:=(hV.keepc HS' e1008999_9);have e1008999_10:=(hV.keepc HS' e1008999_10);have e1008999_11:=(hV.keepc HS' e1008999_11);have e1008999_12:=(hV.keepc HS' e1008999_12);go_simp;with_reducible rfl) ?_
         refine dr_any [2,11] HT (by kernel_rfl) (by decide) (AllReadyL.cons rfl (by decide) (fun K hK=>?_) (AllReadyL.cons rfl (by decide) (fun K hK=>?_) AllReadyL.nil))
         · refine go_cl1 HS (spec_l13Certs.calls ht1102001.out (hV.ro km41 HS gp8) lp8) Tryz.func101 ?_;clear HS;intro v1102002 wt1102001 HS F;obtain⟨B1102002,d1102002,rfl,m1102002⟩:=HS.form 3 rfl
           refine nrm 81 hK ⟨_,HS⟩ fun HH=>?_;clear hK K
           refine dr1 11 HT fun K hK=>?_
           refine if_li (Zd.at_ k41 wv) [] ([(rd_T41 a0.f0.f0 x60)]:List S41) ([.int .i64 ((rd_T41 a0.f0.f0 x60).f0),.string ((rd_T41 a0.f0.f0 x60).f1),.string ((rd_T41 a0.f0.f0 x60).f2),.int .i64 ((rd_T41 a0.f0.f0 x60).f3),.int .i64 ((rd_T41 a0.f0.f0 x60).f4),.string ((rd_T41 a0.f0.f0 x60).f5),.bool ((rd_T41 a0.f0.f0 x60).f6),.int .i64 ((rd_T41 a0.f0.f0 x60).f7),.int .i64 ((rd_T41 a0.f0.f0 x60).f8),.slice B1008999_9 (rd_T41 a0.f0.f0 x60).f9.length d1008999_9,.slice B1008999_10 (rd_T41 a0.f0.f0 x60).f10.length d1008999_10,.slice B1008999_11 (rd_T41 a0.f0.f0 x60).f11.length d1008999_11,.string ((rd_T41 a0.f0.f0 x60).f12)]++ []) HS (MadeL.cons (js1:=[]) (c:=[.int .i64 ((rd_T41 a0.f0.f0 x60).f0),.string ((rd_T41 a0.f0.f0 x60).f1),.string ((rd_T41 a0.f0.f0 x60).f2),.int .i64 ((rd_T41 a0.f0.f0 x60).f3),.int .i64 ((rd_T41 a0.f0.f0 x60).f4),.string ((rd_T41 a0.f0.f0 x60).f5),.bool ((rd_T41 a0.f0.f0 x60).f6),.int .i64 ((rd_T41 a0.f0.f0 x60).f7),.int .i64 ((rd_T41 a0.f0.f0 x60).f8),.slice B1008999_9 (rd_T41 a0.f0.f0 x60).f9.length d1008999_9,.slice B1008999_10 (rd_T41 a0.f0.f0 x60).f10.length d1008999_10,.slice B1008999_11 (rd_T41 a0.f0.f0 x60).f11.length d1008999_11,.string ((rd_T41 a0.f0.f0 x60).f12)]) rfl (made_flat (d:=Zd.at_ k41 wv) (fun _=>k41_mk _ _ m1008999_9 y1008999_9 m1008999_10 y1008999_10 m1008999_11 y1008999_11)) MadeL.nil (by decide)) ?_;clear HS;intro v1111001 w1111001 HS F;obtain⟨B1111001,d1111001,rfl,m1111001⟩:=HS.formn 1 4 rfl rfl
           refine nrm 90 hK ⟨_,HS⟩ fun HH=>?_;clear hK K
           refine dr1 12 HT fun K hK=>?_
           refine if_wp (by rfl) ?_;replace HS:=HS.to_mix wv 3 rfl;replace HS:=HS.at_mix (d:=q41) wv 4 rfl;(try simp only [hpn,hpm] at HS);refine wp_append (Zd.mix q41 wv) 3 4 HS rfl rfl (by decide) rfl rfl rfl Tryz.underlying35 info41 rfl (Nat.zero_lt_succ _) (by decide) (by have:=of_eq_true c1112001;first|omega|(simp only [List.length_cons,List.length_nil,List.length_append,Nat.zero_add] at this⊢;omega)) ?_;clear HS;intro v1112999 w1112999 HS;rw [←e_y1112999.out] at HS;obtain⟨B1112999,d1112999,rfl,m1112999⟩:=HS.form 5 rfl
           (try simp only [hpn,hpm] at HS)
           have F:=HS.bx
           refine nrm 91 hK ⟨_,HS⟩ fun HH=>?_;clear hK K
           refine dl 13 HT fun K hK=>?_
           refine HS.lend [0,1] (by decide) [.box p0 [.slice (some ad1008999) a0.f0.f0.length cp1,.slice Ap2 a0.f0.f1.length cp2,.slice (some ad15) a0.f0.f2.length cp3,.int .i64 a0.f1.f0,.string a0.f1.f1,.string a0.f1.f2,.int .i64 a0.f1.f3,.int .i64 a0.f1.f4,.string a0.f1.f5,.bool a0.f1.f6,.int .i64 a0.f1.f7,.int .i64 a0.f1.f8,.slice Ap4 a0.f1.f9.length cp4,.slice Ap5 a0.f1.f10.length cp5,.slice Ap6 a0.f1.f11.length cp6,.string a0.f1.f12,.int .i64 a0.f2,.slice B59 l58.length d59] 82,.own (Zd.slice 59 q59) l58 [.slice B59 l58.length d59]] rfl (fun A' HL HD HA HB=>?_);refine goes_ Tryz.func42 (by kernel_rfl) rfl #[.pointer (some ⟨p0,0,none⟩),.slice B1112999 y1112999.length d1112999] (by rfl) rfl rfl (by simp only [mpn];rfl) ?_;refine(IH (by have:=HK0.out;have:=HKk57.out;omega) ht1113001.out (hV.hideC km41 HS HL gp1) lp1 (hV.hideC km69 HS HL gp2) lp2 (hV.hideC km57 HS HL gp3) lp3 (hV.hideC up_int HS HL gp4) lp4 (hV.hideC up_string HS HL gp5) lp5 (hV.hideC up_string HS HL gp6) lp6 (C_mix km41 (fun e_=>hV.hidec HS HL e_) (hide_rd HD 5 rfl (by decide))) m1112999 (hide_view A' _) HA).mono ?_;rintro _ wt1113001 ⟨v1113002,rfl,HQ⟩;refine⟨_,rfl,?_⟩;replace HS:=HB _ _ HQ (Nat.le_of_ble_eq_true rfl);clear HQ HA HB HL HD;(try simp only [hpn,hpm] at HS);(try clear F);obtain⟨B1113002,d1113002,rfl,m1113002⟩:=HS.form 1 rfl
           (try simp only [hpn,hpm] at HS)
           have F:=HS.bx
           refine hK.out _ _ ?_
           clear hK K
           refine norm_ (a':=?_) ?_ ?_
           rotate_left
           · show Act.put _ (some 92) _=_;simp only [Act.put,ptn];rfl
           refine norm_ ?_ (hJ (.slice B1102002 t1102001.length d1102002,.slice B1111001 1 d1111001,.slice B1112999 y1112999.length d1112999,.slice B1113002 t1113001.length d1113002,.pointer (some (ad1008999.add ((x60).toNat * 13+0)))) _ (HS.ar [some 0,some 1,some 2,none,none,some 5]))
           simp only [putAll,Act.put,ptn]
           (try rfl)
         · refine if_li (Zd.at_ k41 wv) [] ([(rd_T41 a0.f0.f0 x60)]:List S41) ([.int .i64 ((rd_T41 a0.f0.f0 x60).f0),.string ((rd_T41 a0.f0.f0 x60).f1),.string ((rd_T41 a0.f0.f0 x60).f2),.int .i64 ((rd_T41 a0.f0.f0 x60).f3),.int .i64 ((rd_T41 a0.f0.f0 x60).f4),.string ((rd_T41 a0.f0.f0 x60).f5),.bool ((rd_T41 a0.f0.f0 x60).f6),.int .i64 ((rd_T41 a0.f0.f0 x60).f7),.int .i64 ((rd_T41 a0.f0.f0 x60).f8),.slice B1008999_9 (rd_T41 a0.f0.f0 x60).f9.length d1008999_9,.slice B1008999_10 (rd_T41 a0.f0.f0 x60).f10.length d1008999_10,.slice B1008999_11 (rd_T41 a0.f0.f0 x60).f11.length d1008999_11,.string ((rd_T41 a0.f0.f0 x60).f12)]++ []) HS (MadeL.cons (js1:=[]) (c:=[.int .i64 ((rd_T41 a0.f0.f0 x60).f0),.string ((rd_T41 a0.f0.f0 x60).f1),.string ((rd_T41 a0.f0.f0 x60).f2),.int .i64 ((rd_T41 a0.f0.f0 x60).f3),.int .i64 ((rd_T41 a0.f0.f0 x60).f4),.string ((rd_T41 a0.f0.f0 x60).f5),.bool ((rd_T41 a0.f0.f0 x60).f6),.int .i64 ((rd_T41 a0.f0.f0 x60).f7),.int .i64 ((rd_T41 a0.f0.f0 x60).f8),.slice B1008999_9 (rd_T41 a0.f0.f0 x60).f9.length d1008999_9,.slice B1008999_10 (rd_T41 a0.f0.f0 x60).f10.length d1008999_10,.slice B1008999_11 (rd_T41 a0.f0.f0 x60).f11.length d1008999_11,.string ((rd_T41 a0.f0.f0 x60).f12)]) rfl (made_flat (d:=Zd.at_ k41 wv) (fun _=>k41_mk _ _ m1008999_9 y1008999_9 m1008999_10 y1008999_10 m1008999_11 y1008999_11)) MadeL.nil (by decide)) ?_;clear HS;intro v1111001 w1111001 HS F;obtain⟨B1111001,d1111001,rfl,m1111001⟩:=HS.formn 1 3 rfl rfl
           refine nrm 90 hK ⟨_,HS⟩ fun HH=>?_;clear hK K
           refine dr1 2 HT fun K hK=>?_
           refine go_cl1 HS (spec_l13Certs.calls ht1102001.out (hV.ro km41 HS gp8) lp8) Tryz.func101 ?_;clear HS;intro v1102002 wt1102001 HS F;obtain⟨B1102002,d1102002,rfl,m1102002⟩:=HS.form 4 rfl
           refine nrm 81 hK ⟨_,HS⟩ fun HH=>?_;clear hK K
           refine dr1 12 HT fun K hK=>?_
           refine if_wp (by rfl) ?_;replace HS:=HS.to_mix wv 4 rfl;replace HS:=HS.at_mix (d:=q41) wv 3 rfl;(try simp only [hpn,hpm] at HS);refine wp_append (Zd.mix q41 wv) 4 3 HS rfl rfl (by decide) rfl rfl rfl Tryz.underlying35 info41 rfl (Nat.zero_lt_succ _) (by decide) (by have:=of_eq_true c1112001;first|omega|(simp only [List.length_cons,List.length_nil,List.length_append,Nat.zero_add] at this⊢;omega)) ?_;clear HS;intro v1112999 w1112999 HS;rw [←e_y1112999.out] at HS;obtain⟨B1112999,d1112999,rfl,m1112999⟩:=HS.form 5 rfl
           (try simp only [hpn,hpm] at HS)
           have F:=HS.bx
           refine nrm 91 hK ⟨_,HS⟩ fun HH=>?_;clear hK K
           refine dl 13 HT fun K hK=>?_
           refine HS.lend [0,1] (by decide) [.box p0 [.slice (some ad1008999) a0.f0.f0.length cp1,.slice Ap2 a0.f0.f1.length cp2,.slice (some ad15) a0.f0.f2.length cp3,.int .i64 a0.f1.f0,.string a0.f1.f1,.string a0.f1.f2,.int .i64 a0.f1.f3,.int .i64 a0.f1.f4,.string a0.f1.f5,.bool a0.f1.f6,.int .i64 a0.f1.f7,.int .i64 a0.f1.f8,.slice Ap4 a0.f1.f9.length cp4,.slice Ap5 a0.f1.f10.length cp5,.slice Ap6 a0.f1.f11.length cp6,.string a0.f1.f12,.int .i64 a0.f2,.slice B59 l58.length d59] 82,.own (Zd.slice 59 q59) l58 [.slice B59 l58.length d59]] rfl (fun A' HL HD HA HB=>?_);refine goes_ Tryz.func42 (by kernel_rfl) rfl #[.pointer (some ⟨p0,0,none⟩),.slice B1112999 y1112999.length d1112999] (by rfl) rfl rfl (by simp only [mpn];rfl) ?_;refine(IH (by have:=HK0.out;have:=HKk57.out;omega) ht1113001.out (hV.hideC km41 HS HL gp1) lp1 (hV.hideC km69 HS HL gp2) lp2 (hV.hideC km57 HS HL gp3) lp3 (hV.hideC up_int HS HL gp4) lp4 (hV.hideC up_string HS HL gp5) lp5 (hV.hideC up_string HS HL gp6) lp6 (C_mix km41 (fun e_=>hV.hidec HS HL e_) (hide_rd HD 5 rfl (by decide))) m1112999 (hide_view A' _) HA).mono ?_;rintro _ wt1113001 ⟨v1113002,rfl,HQ⟩;refine⟨_,rfl,?_⟩;replace HS:=HB _ _ HQ (Nat.le_of_ble_eq_true rfl);clear HQ HA HB HL HD;(try simp only [hpn,hpm] at HS);(try clear F);obtain⟨B1113002,d1113002,rfl,m1113002⟩:=HS.form 1 rfl
           (try simp only [hpn,hpm] at HS)
           have F:=HS.bx
           refine hK.out _ _ ?_
           clear hK K
           refine norm_ (a':=?_) ?_ ?_
           rotate_left
           · show Act.put _ (some 92) _=_;simp only [Act.put,ptn];rfl
           refine norm_ ?_ (hJ (.slice B1102002 t1102001.length d1102002,.slice B1111001 1 d1111001,.slice B1112999 y1112999.length d1112999,.slice B1113002 t1113001.length d1113002,.pointer (some (ad1008999.add ((x60).toNat * 13+0)))) _ (HS.ar [some 0,some 1,some 2,none,none,some 5]))
           simp only [putAll,Act.put,ptn]
           (try rfl)
       rintro⟨v1102002,v1111001,v1112999,v1113002,pe88⟩ w1199999 HS
       obtain⟨B1112999,d1112999,rfl,m1112999⟩:=HS.form 5 rfl
       obtain⟨B1113002,d1113002,rfl,m1113002⟩:=HS.form 1 rfl
       have F:=HS.bx
       refine norm_ (a':=?_) ?_ ?_
       rotate_left
       · simp only [putAll,Act.put,ptn];rfl
       refine dn HT ?_
       go_wp2
       go_roundg k57
       case measure=>have:=HK0.out;have:=HKk57.out;omega
       case rel=>exact⟨_,_,_,rfl,H,⟨by have:=HK0.out;have:=HKk57.out;omega⟩,HS.pi [0,1,2]⟩
    subst c10
    (try simp only [dcn,dcu,dcf])
    (try go_wp2)
    replace H:=zbind H;obtain⟨t18,ht18,H⟩:=H
    replace H:=zbind H;obtain⟨t20,ht20,H⟩:=H
    replace H:=zgo H;obtain⟨c25,H⟩:=H
    replace H:=zlets H;obtain⟨y26,e_y26,H⟩:=H
    replace H:=zgo H;obtain⟨c28,H⟩:=H
    replace H:=zlets H;obtain⟨y37,e_y37,H⟩:=H
    refine dr_start2 [.box p0 [.slice Ap1 a0.f0.f0.length cp1,.slice Ap2 a0.f0.f1.length cp2,.slice (some ad15) a0.f0.f2.length cp3,.int .i64 a0.f1.f0,.string a0.f1.f1,.string a0.f1.f2,.int .i64 a0.f1.f3,.int .i64 a0.f1.f4,.string a0.f1.f5,.bool a0.f1.f6,.int .i64 a0.f1.f7,.int .i64 a0.f1.f8,.slice Ap4 a0.f1.f9.length cp4,.slice Ap5 a0.f1.f10.length cp5,.slice Ap6 a0.f1.f11.length cp6,.string a0.f1.f12,.int .i64 a0.f2,.slice B1 a0.f3.length d1] 82,.emp,.box g4 [.string ((rd_T57 a0.f0.f2 a0.f2).f0),.string ((rd_T57 a0.f0.f2 a0.f2).f1)] 57] [23] HS (HS.ar [some 0,none,some 2]) #[false,false,false,false,false,false,false,false,false,false,false,false,false,false,false,false,false,false,false,false,false,false,false,false] (by kernel_rfl) rfl rfl spec_l13Seek_from_0.tT3 (fun w12 HT HS HH=>?_)
    (try clear F)
    refine dqt [0,1,2,3,4,5,6,7,8,9,11,12,13,14] HT HH ?_
    refine dr1 10 HT fun K hK=>?_
    refine go_cl1 HS (spec_l13Certs.calls ht18.out (hV.ro km41 HS gp8) lp8) Tryz.func101 ?_;clear HS;intro v19 wt18 HS F;obtain⟨B19,d19,rfl,m19⟩:=HS.form 3 rfl
    refine nra 45 hK (HS.ar [some 0,none,some 2]) fun HH=>?_;clear hK K
    refine dr1 15 HT fun K hK=>?_
    refine go_cl3 HS (spec_l09Copy.calls ht20.out (hV.ro up_int HS gp4) lp4 (hV.ro up_string HS gp5) lp5 (hV.ro up_string HS gp6) lp6) Tryz.func83 ?_;clear HS;intro v21 v22 v23 wt20 HS F;obtain⟨B21,d21,rfl,m21⟩:=HS.form 4 rfl;obtain⟨B22,d22,rfl,m22⟩:=HS.form 5 rfl;obtain⟨B23,d23,rfl,m23⟩:=HS.form 6 rfl
    refine nra 50 hK (HS.ar [some 0,none,some 2]) fun HH=>?_;clear hK K
    refine dr1 16 HT fun K hK=>?_
    refine if_li q41 [4,5,6] ([t20]:List S41) ([.int .i64 t20.f0,.string t20.f1,.string t20.f2,.int .i64 t20.f3,.int .i64 t20.f4,.string t20.f5,.bool t20.f6,.int .i64 t20.f7,.int .i64 t20.f8,.slice B21 t20.f9.length d21,.slice B22 t20.f10.length d22,.slice B23 t20.f11.length d23,.string t20.f12]++ []) HS (MadeL.cons (js1:=[4,5,6]) (c:=[.int .i64 t20.f0,.string t20.f1,.string t20.f2,.int .i64 t20.f3,.int .i64 t20.f4,.string t20.f5,.bool t20.f6,.int .i64 t20.f7,.int .i64 t20.f8,.slice B21 t20.f9.length d21,.slice B22 t20.f10.length d22,.slice B23 t20.f11.length d23,.string t20.f12]) rfl (fun S hd hh=>q41_pack (x:=t20) hd (hh 4 (.own (Zd.slice 3 (Zd.int .i64)) t20.f9 [.slice B21 t20.f9.length d21]) rfl) (hh 5 (.own (Zd.slice 9 Zd.string) t20.f10 [.slice B22 t20.f10.length d22]) rfl) (hh 6 (.own (Zd.slice 9 Zd.string) t20.f11 [.slice B23 t20.f11.length d23]) rfl) (by decide)) MadeL.nil (by decide)) ?_;clear HS;intro v24 w24 HS F;obtain⟨B24,d24,rfl,m24⟩:=HS.formn 1 7 rfl rfl
    refine nra 51 hK (HS.ar [some 0,none,some 2]) fun HH=>?_;clear hK K
    refine dr1 17 HT fun K hK=>?_
    refine wp_ap q41 3 7 HS rfl rfl Tryz.underlying35 info41 (of_eq_true c25) ?_;clear HS;intro v26 w26 HS;rw [←e_y26.out] at HS;obtain⟨B26,d26,rfl,m26⟩:=HS.form 8 rfl
    (try simp only [hpn,hpm] at HS)
    have F:=HS.bx
    refine nra 52 hK (HS.ar [some 0,none,some 2]) fun HH=>?_;clear hK K
    refine dq [18] HT ?_
    refine dr1 19 HT fun K hK=>?_
    refine if_li q59 [8] ([(⟨a0.f2,y26⟩:S59)]:List S59) ([.int .i64 a0.f2,.slice B26 y26.length d26]++ []) HS (MadeL.cons (js1:=[8]) (c:=[.int .i64 a0.f2,.slice B26 y26.length d26]) rfl (fun S hd hh=>q59_pack (x:=(⟨a0.f2,y26⟩:S59)) hd (hh 8 (.own (Zd.slice 41 q41) y26 [.slice B26 y26.length d26]) rfl) (by decide)) MadeL.nil (by decide)) ?_;clear HS;intro v27 w27 HS F;obtain⟨B27,d27,rfl,m27⟩:=HS.formn 1 9 rfl rfl
    refine nra 54 hK (HS.ar [some 0,none,some 2]) fun HH=>?_;clear hK K
    refine dr1 20 HT fun K hK=>?_
    refine wp_ap q59 1 9 HS rfl rfl Tryz.underlying33 info59 (of_eq_true c28) ?_;clear HS;intro v37 w37 HS;rw [←e_y37.out] at HS;obtain⟨B37,d37,rfl,m37⟩:=HS.form 10 rfl
    (try simp only [hpn,hpm] at HS)
    have F:=HS.bx
    refine nra 55 hK (HS.ar [some 0,none,some 2]) fun HH=>?_;clear hK K
    refine dq [21,22] HT ?_
    refine dl 23 HT fun K hK=>?_
    refine if_st 0 17 HS (seg:=[.slice B37 y37.length d37]) ?_;clear HS;intro w43 HS F
    refine hK.out _ _ ?_
    clear hK K
    refine dn HT ?_
    (try clear F)
    have F:=HS.bx
    go_wp2
    go_loopg [5] k (fun kq v_5 w'=>∃(l30:List S59) (v31:Value) (x32:Int),v_5=.int .i64 x32∧Aside0 (spec_l13Seek_from_0.l0 kq l30 x32 a0 a1=some r)∧Aside0 (kq≤k)∧Hp A w w' [.box p0 [.slice Ap1 a0.f0.f0.length cp1,.slice Ap2 a0.f0.f1.length cp2,.slice (some ad15) a0.f0.f2.length cp3,.int .i64 a0.f1.f0,.string a0.f1.f1,.string a0.f1.f2,.int .i64 a0.f1.f3,.int .i64 a0.f1.f4,.string a0.f1.f5,.bool a0.f1.f6,.int .i64 a0.f1.f7,.int .i64 a0.f1.f8,.slice Ap4 a0.f1.f9.length cp4,.slice Ap5 a0.f1.f10.length cp5,.slice Ap6 a0.f1.f11.length cp6,.string a0.f1.f12,.int .i64 a0.f2,v31] 82,.emp,.box g4 [.string ((rd_T57 a0.f0.f2 a0.f2).f0),.string ((rd_T57 a0.f0.f2 a0.f2).f1)] 57,.emp,.emp,.emp,.emp,.emp,.emp,.emp,.own (Zd.slice 59 q59) l30 [v31]])
    case atStart=>exact⟨_,_,_,rfl,H,⟨Nat.le_refl _⟩,HS⟩
    case round=>
     clear HS H;(try clear F)
     obtain⟨l30,v31,x32,rfl,H,HKk29,HS⟩:=hrel
     obtain⟨B31,d31,rfl,m31⟩:=HS.form 10 rfl
     have F:=HS.bx
     cases gk with
     |zero=>exact absurd H.out (by simp [spec_l13Seek_from_0.l0])
     | succ k29=>
      simp only [spec_l13Seek_from_0.l0] at H
      replace H:=znif H;rcases H with⟨c34,H⟩|⟨c34,H⟩
      ·
       obtain rfl:=zsome H
       go_wp2
       first|exact bodyPost_ret (results_none rfl _ _ _) rfl ⟨rfl,_,HS.pi [0,10]⟩|exact bodyPost_end (results_none rfl _ _ _) rfl ⟨rfl,_,HS.pi [0,10]⟩
      (try go_wp2)
      replace H:=zgo H;obtain⟨c44,H⟩:=H
      replace H:=zgo H;obtain⟨c45,H⟩:=H
      obtain⟨ad46,B46_9,d46_9,B46_10,d46_10,B46_11,d46_11,rfl,e46_0,e46_1,e46_2,e46_3,e46_4,e46_5,e46_6,e46_7,e46_8,e46_9,e46_10,e46_11,e46_12,m46_9,y46_9,m46_10,y46_10,m46_11,y46_11⟩:=at_T41 gp1 x32 (of_eq_true c44) (of_eq_true c45)
      replace H:=zbind H;obtain⟨t47,ht47,H⟩:=H
      refine dr_start [] HS #[false,false,false,false,false,false,false,false,false,false,false] (by kernel_rfl) rfl rfl spec_l13Seek_from_0.tT7 (fun w36 HT HS HH=>?_)
      (try clear F)
      refine dqt [0,1,2,3,4,5,6,7,8] HT HH ?_
      refine dtk 9 77 HT HH rfl (by rintro w' ⟨rs',HS'⟩;have e46_0:=(hV.keepc HS' e46_0);have e46_1:=(hV.keepc HS' e46_1);have e46_2:=(hV.keepc HS' e46_2);have e46_3:=(hV.keepc HS' e46_3);have e46_4:=(hV.keepc HS' e46_4);have e46_5:=(hV.keepc HS' e46_5);have e46_6:=(hV.keepc HS' e46_6);have e46_7:=(hV.keepc HS' e46_7);have e46_8:=(hV.keepc HS' e46_8);have e46_9:=(hV.keepc HS' e46_9);have e46_10:=(hV.keepc HS' e46_10);have e46_11:=(hV.keepc HS' e46_11);have e46_12:=(hV.keepc HS' e46_12);go_simp;with_reducible rfl) ?_
      refine dr1 10 HT fun K hK=>?_
      refine go_cl HS (spec_l13Fits.calls ht47.out (hV.ro km41 HS gp8) lp8 (hV.ro up_int HS y46_9) m46_9 (hV.ro up_string HS y46_10) m46_10 (hV.ro up_string HS y46_11) m46_11) Tryz.func100 ?_;clear HS;intro wt47 HS F
      refine nrm 78 hK ⟨_,HS⟩ fun HH=>?_;clear hK K
      refine dn HT ?_
      (try clear F)
      have F:=HS.bx
      replace H:=znifb H;rcases H with⟨c38,H⟩|⟨c38,H⟩
      ·
       subst c38
       (try simp only [dcn,dcu,dcf])
       go_wp2
       go_roundg k29
       case measure=>have:=HK0.out;have:=HKk29.out;omega
       case rel=>exact⟨_,_,_,rfl,H,⟨by have:=HK0.out;have:=HKk29.out;omega⟩,HS.pi [0,1,2,3,4,5,6,7,8,9,10]⟩
      subst c38
      (try simp only [dcn,dcu,dcf])
      (try go_wp2)
      replace H:=zbind H;obtain⟨t48,ht48,H⟩:=H
      replace H:=zgo H;obtain⟨c51,H⟩:=H
      replace H:=zlets H;obtain⟨y52,e_y52,H⟩:=H
      replace H:=zbind H;obtain⟨t53,ht53,H⟩:=H
      refine dr_start [13] HS #[false,false,false,false,false,false,false,false,false,false,false,false,false,false] (by kernel_rfl) rfl rfl spec_l13Seek_from_0.tT8 (fun w40 HT HS HH=>?_)
      (try clear F)
      refine join_ 0 #[true,true,true,true,true,true,true,true,true,true,true,true,true,true] (fun((v49,v50,v52,v54,pe88):Value×Value×Value×Value×Value)=>([(79,.pointer (some ⟨p0,0,none⟩)),(80,.slice Ap8 a1.length cp8),(81,v49),(82,.pointer (some ⟨p0,0,none⟩)),(83,.pointer (some ⟨p0,0,none⟩)),(84,.pointer (some ⟨p0,0,none⟩)),(85,.pointer (some ⟨p0,0,none⟩)),(86,.slice (some ad46) a0.f0.f0.length cp1),(87,.int .i64 x32),(88,pe88),(89,.agg #[.int .i64 ((rd_T41 a0.f0.f0 x32).f0),.string ((rd_T41 a0.f0.f0 x32).f1),.string ((rd_T41 a0.f0.f0 x32).f2),.int .i64 ((rd_T41 a0.f0.f0 x32).f3),.int .i64 ((rd_T41 a0.f0.f0 x32).f4),.string ((rd_T41 a0.f0.f0 x32).f5),.bool ((rd_T41 a0.f0.f0 x32).f6),.int .i64 ((rd_T41 a0.f0.f0 x32).f7),.int .i64 ((rd_T41 a0.f0.f0 x32).f8),.slice B46_9 (rd_T41 a0.f0.f0 x32).f9.length d46_9,.slice B46_10 (rd_T41 a0.f0.f0 x32).f10.length d46_10,.slice B46_11 (rd_T41 a0.f0.f0 x32).f11.length d46_11,.string ((rd_T41 a0.f0.f0 x32).f12)]),(90,v50),(91,v52),(92,.tuple #[])]:List (Tmp×Value))) (fun((v49,v50,v52,v54,pe88):Value×Value×Value×Value×Value) w'=>Hp A w w' [.box p0 [.slice (some ad46) a0.f0.f0.length cp1,.slice Ap2 a0.f0.f1.length cp2,.slice (some ad15) a0.f0.f2.length cp3,.int .i64 a0.f1.f0,.string a0.f1.f1,.string a0.f1.f2,.int .i64 a0.f1.f3,.int .i64 a0.f1.f4,.string a0.f1.f5,.bool a0.f1.f6,.int .i64 a0.f1.f7,.int .i64 a0.f1.f8,.slice Ap4 a0.f1.f9.length cp4,.slice Ap5 a0.f1.f10.length cp5,.slice Ap6 a0.f1.f11.length cp6,.string a0.f1.f12,.int .i64 a0.f2,v54] 82,.emp,.box g4 [.string ((rd_T57 a0.f0.f2 a0.f2).f0),.string ((rd_T57 a0.f0.f2 a0.f2).f1)] 57,.emp,.emp,.emp,.emp,.emp,.emp,.emp,.own (Zd.slice 59 q59) t53 [v54],.emp,.emp,.own (Zd.slice 41 (Zd.mix q41 wv)) y52 [v52]]) ?_ ?_
      rotate_left
      · intro hJ
        refine dqt [0,1,3,4,5,6,7,8,9] HT HH ?_
        refine dtk 10 89 HT HH rfl (by rintro w' ⟨rs',HS'⟩;have e46_0:=(hV.keepc HS' e46_0);have e46_1:=(hV.keepc HS' e46_1);have e46_2:=(hV.keepc HS' e46_2);have e46_3:=(hV.keepc HS' e46_3);have e46_4:=(hV.keepc HS' e46_4);have e46_5:=(hV.keepc HS' e46_5);have e46_6:=(hV.keepc HS' e46_6);have e46_7:=(hV.keepc HS' e46_7);have e46_8:=(hV.keepc HS' e46_8);have e46_9:=(hV.keepc HS' e46_9);have e46_10:=(hV.keepc HS' e46_10);have e46_11:=(hV.keepc HS' e46_11);have e46_12:=(hV.keepc HS' e46_12);go_simp;with_reducible rfl) ?_
        refine dr_any [2,11] HT (by kernel_rfl) (by decide) (AllReadyL.cons rfl (by decide) (fun K hK=>?_) (AllReadyL.cons rfl (by decide) (fun K hK=>?_) AllReadyL.nil))
        · refine go_cl1 HS (spec_l13Certs.calls ht48.out (hV.ro km41 HS gp8) lp8) Tryz.func101 ?_;clear HS;intro v49 wt48 HS F;obtain⟨B49,d49,rfl,m49⟩:=HS.form 11 rfl
          refine nrm 81 hK ⟨_,HS⟩ fun HH=>?_;clear hK K
          refine dr1 11 HT fun K hK=>?_
          refine if_li (Zd.at_ k41 wv) [] ([(rd_T41 a0.f0.f0 x32)]:List S41) ([.int .i64 ((rd_T41 a0.f0.f0 x32).f0),.string ((rd_T41 a0.f0.f0 x32).f1),.string ((rd_T41 a0.f0.f0 x32).f2),.int .i64 ((rd_T41 a0.f0.f0 x32).f3),.int .i64 ((rd_T41 a0.f0.f0 x32).f4),.string ((rd_T41 a0.f0.f0 x32).f5),.bool ((rd_T41 a0.f0.f0 x32).f6),.int .i64 ((rd_T41 a0.f0.f0 x32).f7),.int .i64 ((rd_T41 a0.f0.f0 x32).f8),.slice B46_9 (rd_T41 a0.f0.f0 x32).f9.length d46_9,.slice B46_10 (rd_T41 a0.f0.f0 x32).f10.length d46_10,.slice B46_11 (rd_T41 a0.f0.f0 x32).f11.length d46_11,.string ((rd_T41 a0.f0.f0 x32).f12)]++ []) HS (MadeL.cons (js1:=[]) (c:=[.int .i64 ((rd_T41 a0.f0.f0 x32).f0),.string ((rd_T41 a0.f0.f0 x32).f1),.string ((rd_T41 a0.f0.f0 x32).f2),.int .i64 ((rd_T41 a0.f0.f0 x32).f3),.int .i64 ((rd_T41 a0.f0.f0 x32).f4),.string ((rd_T41 a0.f0.f0 x32).f5),.bool ((rd_T41 a0.f0.f0 x32).f6),.int .i64 ((rd_T41 a0.f0.f0 x32).f7),.int .i64 ((rd_T41 a0.f0.f0 x32).f8),.slice B46_9 (rd_T41 a0.f0.f0 x32).f9.length d46_9,.slice B46_10 (rd_T41 a0.f0.f0 x32).f10.length d46_10,.slice B46_11 (rd_T41 a0.f0.f0 x32).f11.length d46_11,.string ((rd_T41 a0.f0.f0 x32).f12)]) rfl (made_flat (d:=Zd.at_ k41 wv) (fun _=>k41_mk _ _ m46_9 y46_9 m46_10 y46_10 m46_11 y46_11)) MadeL.nil (by decide)) ?_;clear HS;intro v50 w50 HS F;obtain⟨B50,d50,rfl,m50⟩:=HS.formn 1 12 rfl rfl
          refine nrm 90 hK ⟨_,HS⟩ fun HH=>?_;clear hK K
          refine dr1 12 HT fun K hK=>?_
          refine if_wp (by rfl) ?_;replace HS:=HS.to_mix wv 11 rfl;replace HS:=HS.at_mix (d:=q41) wv 12 rfl;(try simp only [hpn,hpm] at HS);refine wp_append (Zd.mix q41 wv) 11 12 HS rfl rfl (by decide) rfl rfl rfl Tryz.underlying35 info41 rfl (Nat.zero_lt_succ _) (by decide) (by have:=of_eq_true c51;first|omega|(simp only [List.length_cons,List.length_nil,List.length_append,Nat.zero_add] at this⊢;omega)) ?_;clear HS;intro v52 w52 HS;rw [←e_y52.out] at HS;obtain⟨B52,d52,rfl,m52⟩:=HS.form 13 rfl
          (try simp only [hpn,hpm] at HS)
          have F:=HS.bx
          refine nrm 91 hK ⟨_,HS⟩ fun HH=>?_;clear hK K
          refine dl 13 HT fun K hK=>?_
          refine HS.lend [0,10] (by decide) [.box p0 [.slice (some ad46) a0.f0.f0.length cp1,.slice Ap2 a0.f0.f1.length cp2,.slice (some ad15) a0.f0.f2.length cp3,.int .i64 a0.f1.f0,.string a0.f1.f1,.string a0.f1.f2,.int .i64 a0.f1.f3,.int .i64 a0.f1.f4,.string a0.f1.f5,.bool a0.f1.f6,.int .i64 a0.f1.f7,.int .i64 a0.f1.f8,.slice Ap4 a0.f1.f9.length cp4,.slice Ap5 a0.f1.f10.length cp5,.slice Ap6 a0.f1.f11.length cp6,.string a0.f1.f12,.int .i64 a0.f2,.slice B31 l30.length d31] 82,.own (Zd.slice 59 q59) l30 [.slice B31 l30.length d31]] rfl (fun A' HL HD HA HB=>?_);refine goes_ Tryz.func42 (by kernel_rfl) rfl #[.pointer (some ⟨p0,0,none⟩),.slice B52 y52.length d52] (by rfl) rfl rfl (by simp only [mpn];rfl) ?_;refine(IH (by have:=HK0.out;have:=HKk29.out;omega) ht53.out (hV.hideC km41 HS HL gp1) lp1 (hV.hideC km69 HS HL gp2) lp2 (hV.hideC km57 HS HL gp3) lp3 (hV.hideC up_int HS HL gp4) lp4 (hV.hideC up_string HS HL gp5) lp5 (hV.hideC up_string HS HL gp6) lp6 (C_mix km41 (fun e_=>hV.hidec HS HL e_) (hide_rd HD 13 rfl (by decide))) m52 (hide_view A' _) HA).mono ?_;rintro _ wt53 ⟨v54,rfl,HQ⟩;refine⟨_,rfl,?_⟩;replace HS:=HB _ _ HQ (Nat.le_of_ble_eq_true rfl);clear HQ HA HB HL HD;(try simp only [hpn,hpm] at HS);(try clear F);obtain⟨B54,d54,rfl,m54⟩:=HS.form 10 rfl
          (try simp only [hpn,hpm] at HS)
          have F:=HS.bx
          refine hK.out _ _ ?_
          clear hK K
          refine norm_ (a':=?_) ?_ ?_
          rotate_left
          · show Act.put _ (some 92) _=_;simp only [Act.put,ptn];rfl
          refine norm_ ?_ (hJ (.slice B49 t48.length d49,.slice B50 1 d50,.slice B52 y52.length d52,.slice B54 t53.length d54,.pointer (some (ad46.add ((x32).toNat * 13+0)))) _ (HS.ar [some 0,none,some 2,none,none,none,none,none,none,none,some 10,none,none,some 13]))
          simp only [putAll,Act.put,ptn]
          (try rfl)
        · refine if_li (Zd.at_ k41 wv) [] ([(rd_T41 a0.f0.f0 x32)]:List S41) ([.int .i64 ((rd_T41 a0.f0.f0 x32).f0),.string ((rd_T41 a0.f0.f0 x32).f1),.string ((rd_T41 a0.f0.f0 x32).f2),.int .i64 ((rd_T41 a0.f0.f0 x32).f3),.int .i64 ((rd_T41 a0.f0.f0 x32).f4),.string ((rd_T41 a0.f0.f0 x32).f5),.bool ((rd_T41 a0.f0.f0 x32).f6),.int .i64 ((rd_T41 a0.f0.f0 x32).f7),.int .i64 ((rd_T41 a0.f0.f0 x32).f8),.slice B46_9 (rd_T41 a0.f0.f0 x32).f9.length d46_9,.slice B46_10 (rd_T41 a0.f0.f0 x32).f10.length d46_10,.slice B46_11 (rd_T41 a0.f0.f0 x32).f11.length d46_11,.string ((rd_T41 a0.f0.f0 x32).f12)]++ []) HS (MadeL.cons (js1:=[]) (c:=[.int .i64 ((rd_T41 a0.f0.f0 x32).f0),.string ((rd_T41 a0.f0.f0 x32).f1),.string ((rd_T41 a0.f0.f0 x32).f2),.int .i64 ((rd_T41 a0.f0.f0 x32).f3),.int .i64 ((rd_T41 a0.f0.f0 x32).f4),.string ((rd_T41 a0.f0.f0 x32).f5),.bool ((rd_T41 a0.f0.f0 x32).f6),.int .i64 ((rd_T41 a0.f0.f0 x32).f7),.int .i64 ((rd_T41 a0.f0.f0 x32).f8),.slice B46_9 (rd_T41 a0.f0.f0 x32).f9.length d46_9,.slice B46_10 (rd_T41 a0.f0.f0 x32).f10.length d46_10,.slice B46_11 (rd_T41 a0.f0.f0 x32).f11.length d46_11,.string ((rd_T41 a0.f0.f0 x32).f12)]) rfl (made_flat (d:=Zd.at_ k41 wv) (fun _=>k41_mk _ _ m46_9 y46_9 m46_10 y46_10 m46_11 y46_11)) MadeL.nil (by decide)) ?_;clear HS;intro v50 w50 HS F;obtain⟨B50,d50,rfl,m50⟩:=HS.formn 1 11 rfl rfl
          refine nrm 90 hK ⟨_,HS⟩ fun HH=>?_;clear hK K
          refine dr1 2 HT fun K hK=>?_
          refine go_cl1 HS (spec_l13Certs.calls ht48.out (hV.ro km41 HS gp8) lp8) Tryz.func101 ?_;clear HS;intro v49 wt48 HS F;obtain⟨B49,d49,rfl,m49⟩:=HS.form 12 rfl
          refine nrm 81 hK ⟨_,HS⟩ fun HH=>?_;clear hK K
          refine dr1 12 HT fun K hK=>?_
          refine if_wp (by rfl) ?_;replace HS:=HS.to_mix wv 12 rfl;replace HS:=HS.at_mix (d:=q41) wv 11 rfl;(try simp only [hpn,hpm] at HS);refine wp_append (Zd.mix q41 wv) 12 11 HS rfl rfl (by decide) rfl rfl rfl Tryz.underlying35 info41 rfl (Nat.zero_lt_succ _) (by decide) (by have:=of_eq_true c51;first|omega|(simp only [List.length_cons,List.length_nil,List.length_append,Nat.zero_add] at this⊢;omega)) ?_;clear HS;intro v52 w52 HS;rw [←e_y52.out] at HS;obtain⟨B52,d52,rfl,m52⟩:=HS.form 13 rfl
          (try simp only [hpn,hpm] at HS)
          have F:=HS.bx
          refine nrm 91 hK ⟨_,HS⟩ fun HH=>?_;clear hK K
          refine dl 13 HT fun K hK=>?_
          refine HS.lend [0,10] (by decide) [.box p0 [.slice (some ad46) a0.f0.f0.length cp1,.slice Ap2 a0.f0.f1.length cp2,.slice (some ad15) a0.f0.f2.length cp3,.int .i64 a0.f1.f0,.string a0.f1.f1,.string a0.f1.f2,.int .i64 a0.f1.f3,.int .i64 a0.f1.f4,.string a0.f1.f5,.bool a0.f1.f6,.int .i64 a0.f1.f7,.int .i64 a0.f1.f8,.slice Ap4 a0.f1.f9.length cp4,.slice Ap5 a0.f1.f10.length cp5,.slice Ap6 a0.f1.f11.length cp6,.string a0.f1.f12,.int .i64 a0.f2,.slice B31 l30.length d31] 82,.own (Zd.slice 59 q59) l30 [.slice B31 l30.length d31]] rfl (fun A' HL HD HA HB=>?_);refine goes_ Tryz.func42 (by kernel_rfl) rfl #[.pointer (some ⟨p0,0,none⟩),.slice B52 y52.length d52] (by rfl) rfl rfl (by simp only [mpn];rfl) ?_;refine(IH (by have:=HK0.out;have:=HKk29.out;omega) ht53.out (hV.hideC km41 HS HL gp1) lp1 (hV.hideC km69 HS HL gp2) lp2 (hV.hideC km57 HS HL gp3) lp3 (hV.hideC up_int HS HL gp4) lp4 (hV.hideC up_string HS HL gp5) lp5 (hV.hideC up_string HS HL gp6) lp6 (C_mix km41 (fun e_=>hV.hidec HS HL e_) (hide_rd HD 13 rfl (by decide))) m52 (hide_view A' _) HA).mono ?_;rintro _ wt53 ⟨v54,rfl,HQ⟩;refine⟨_,rfl,?_⟩;replace HS:=HB _ _ HQ (Nat.le_of_ble_eq_true rfl);clear HQ HA HB HL HD;(try simp only [hpn,hpm] at HS);(try clear F);obtain⟨B54,d54,rfl,m54⟩:=HS.form 10 rfl
          (try simp only [hpn,hpm] at HS)
          have F:=HS.bx
          refine hK.out _ _ ?_
          clear hK K
          refine norm_ (a':=?_) ?_ ?_
          rotate_left
          · show Act.put _ (some 92) _=_;simp only [Act.put,ptn];rfl
          refine norm_ ?_ (hJ (.slice B49 t48.length d49,.slice B50 1 d50,.slice B52 y52.length d52,.slice B54 t53.length d54,.pointer (some (ad46.add ((x32).toNat * 13+0)))) _ (HS.ar [some 0,none,some 2,none,none,none,none,none,none,none,some 10,none,none,some 13]))
          simp only [putAll,Act.put,ptn]
          (try rfl)
      rintro⟨v49,v50,v52,v54,pe88⟩ w55 HS
      obtain⟨B52,d52,rfl,m52⟩:=HS.form 13 rfl
      obtain⟨B54,d54,rfl,m54⟩:=HS.form 10 rfl
      have F:=HS.bx
      refine norm_ (a':=?_) ?_ ?_
      rotate_left
      · simp only [putAll,Act.put,ptn];rfl
      refine dn HT ?_
      go_wp2
      go_roundg k29
      case measure=>have:=HK0.out;have:=HKk29.out;omega
      case rel=>exact⟨_,_,_,rfl,H,⟨by have:=HK0.out;have:=HKk29.out;omega⟩,HS.pi [0,1,2,3,4,5,6,7,8,9,10]⟩
theorem spec_l13Seek_from_0.calls {k:Nat}{a0:S82}{a1:(List S41)}{A:FP}{p0:Nat}{Ap1 Ap2 Ap3 Ap4 Ap5 Ap6:Option Addr}{np1 cp1 np2 cp2 np3 cp3 np4 cp4 np5 cp5 np6 cp6:Nat}{vp1:Value}{Ap8:Option Addr}{np8 cp8:Nat}{wv:World}{r:(List S59)}{w:World}(h:spec_l13Seek_from_0.f k a0 a1=some r)(gp1:k41.C wv Ap1 np1 a0.f0.f0)(lp1:np1≤cp1)(gp2:k69.C wv Ap2 np2 a0.f0.f1)(lp2:np2≤cp2)(gp3:k57.C wv Ap3 np3 a0.f0.f2)(lp3:np3≤cp3)(gp4:(Kd.int .i64).C wv Ap4 np4 a0.f1.f9)(lp4:np4≤cp4)(gp5:Kd.string.C wv Ap5 np5 a0.f1.f10)(lp5:np5≤cp5)(gp6:Kd.string.C wv Ap6 np6 a0.f1.f11)(lp6:np6≤cp6)(gp8:k41.C wv Ap8 np8 a1)(lp8:np8≤cp8)(hV:View A w wv)(HS:Hp A w w [.box p0 [.slice Ap1 np1 cp1,.slice Ap2 np2 cp2,.slice Ap3 np3 cp3,.int .i64 a0.f1.f0,.string a0.f1.f1,.string a0.f1.f2,.int .i64 a0.f1.f3,.int .i64 a0.f1.f4,.string a0.f1.f5,.bool a0.f1.f6,.int .i64 a0.f1.f7,.int .i64 a0.f1.f8,.slice Ap4 np4 cp4,.slice Ap5 np5 cp5,.slice Ap6 np6 cp6,.string a0.f1.f12,.int .i64 a0.f2,vp1] 82,.own (Zd.slice 59 q59) a0.f3 [vp1]]):
    Calls Tryz.prog 42 #[.pointer (some ⟨p0,0,none⟩),.slice Ap8 np8 cp8] w (fun e w'=>∃u0_:Value,e=.returned (.tuple #[])∧Hp A w w' [.box p0 [.slice Ap1 np1 cp1,.slice Ap2 np2 cp2,.slice Ap3 np3 cp3,.int .i64 a0.f1.f0,.string a0.f1.f1,.string a0.f1.f2,.int .i64 a0.f1.f3,.int .i64 a0.f1.f4,.string a0.f1.f5,.bool a0.f1.f6,.int .i64 a0.f1.f7,.int .i64 a0.f1.f8,.slice Ap4 np4 cp4,.slice Ap5 np5 cp5,.slice Ap6 np6 cp6,.string a0.f1.f12,.int .i64 a0.f2,u0_] 82,.own (Zd.slice 59 q59) r [u0_]]):=spec_l13Seek_from_0.calls_ k (Nat.le_refl k) h gp1 lp1 gp2 lp2 gp3 lp3 gp4 lp4 gp5 lp5 gp6 lp6 gp8 lp8 hV HS
def spec_WaysTo.l0:Nat→(List S59)→Int→Int→S39→S41→Option ((List S59))
  |0,_,_,_,_,_=>none
  |k+1,l42,x44,x45,a0,a1=>(if x44<(a0.f2.length:Int)then((spec_l13Seek_from_0.f k (⟨(⟨a0.f0,a0.f1,a0.f2⟩:S39),(⟨a1.f0,a1.f1,a1.f2,a1.f3,a1.f4,a1.f5,a1.f6,a1.f7,a1.f8,a1.f9,a1.f10,a1.f11,a1.f12⟩:S41),x44,l42⟩:S82) ([]:List S41)).bind fun t52=>(spec_WaysTo.l0 k t52 (wrap64 (x44+1)) x44 a0 a1))else(if 60<(l42.length:Int)then(if 0≤(60:Int)then(if(60:Int)≤(l42.length:Int)then(if 0+60≤4398046511104 then(lets (([]:List S59)++(l42.take 60)) fun y62=>(some y62))else none)else none)else none)else(if 0+l42.length≤4398046511104 then(lets (([]:List S59)++l42) fun y67=>(some y67))else none)))
def spec_WaysTo.f (k:Nat)(a0:S39)(a1:S41):Option ((List S59)):=((spec_StoreOk.f k a0).bind fun t5=>(if t5=true then((spec_CertOk.f k a1).bind fun t8=>(if t8=true then(spec_WaysTo.l0 k [] 0 0 a0 a1)else(some ([]:List S59))))else(some ([]:List S59))))
theorem spec_WaysTo.calls {k:Nat}{a0:S39}{a1:S41}{Ap0 Ap1 Ap2 Ap3 Ap4 Ap5:Option Addr}{np0 cp0 np1 cp1 np2 cp2 np3 cp3 np4 cp4 np5 cp5:Nat}{r:(List S59)}{w:World}(h:spec_WaysTo.f k a0 a1=some r)(gp0:k41.C w Ap0 np0 a0.f0)(lp0:np0≤cp0)(gp1:k69.C w Ap1 np1 a0.f1)(lp1:np1≤cp1)(gp2:k57.C w Ap2 np2 a0.f2)(lp2:np2≤cp2)(gp3:(Kd.int .i64).C w Ap3 np3 a1.f9)(lp3:np3≤cp3)(gp4:Kd.string.C w Ap4 np4 a1.f10)(lp4:np4≤cp4)(gp5:Kd.string.C w Ap5 np5 a1.f11)(lp5:np5≤cp5):
    Calls Tryz.prog 8 #[.agg #[.slice Ap0 np0 cp0,.slice Ap1 np1 cp1,.slice Ap2 np2 cp2],.agg #[.int .i64 a1.f0,.string a1.f1,.string a1.f2,.int .i64 a1.f3,.int .i64 a1.f4,.string a1.f5,.bool a1.f6,.int .i64 a1.f7,.int .i64 a1.f8,.slice Ap3 np3 cp3,.slice Ap4 np4 cp4,.slice Ap5 np5 cp5,.string a1.f12]] w (fun e w'=>∃v0_:Value,e=.returned (v0_)∧Hp noFP w w' [.own (Zd.slice 59 q59) r [v0_]]):=by
 obtain rfl:=C_len gp0
 obtain rfl:=C_len gp1
 obtain rfl:=C_len gp2
 obtain rfl:=C_len gp3
 obtain rfl:=C_len gp4
 obtain rfl:=C_len gp5
 have HS:=Hp.start w
 have H:=Aside0.mk h
 clear h
 unfold spec_WaysTo.f at H
 go_enter Tryz.func8,Tryz.ntmps8
 replace H:=zbind H;obtain⟨t5,ht5,H⟩:=H
 replace H:=znifb H;rcases H with⟨c7,H⟩|⟨c7,H⟩
 ·
  subst c7
  obtain rfl:=zsome H
  go_wp2_with (first|((with_reducible refine gd 2 rfl ?_);refine ev_bx HS ?_;clear HS;intro g2 w2 HS F)|((with_reducible refine gd 3 rfl ?_);refine ev_bx HS ?_;clear HS;intro g3 w3 HS F)|((with_reducible refine gd 9 rfl ?_);refine ev_cl HS (spec_StoreOk.calls ht5.out (HS.ro gp0) lp0 (HS.ro gp1) lp1 (HS.ro gp2) lp2) Tryz.func35 ?_;clear HS;intro wt5 HS F)|((with_reducible refine gd 16 rfl ?_);refine ev_li q59 [] ([]:List S59) [] HS MadeL.nil ?_;clear HS;intro v71 w71 HS F;obtain⟨B71,d71,rfl,m71⟩:=HS.formn 0 2 rfl rfl))
  exact r1 ⟨_,rfl,HS.pi [2]⟩
 subst c7
 replace H:=zbind H;obtain⟨t8,ht8,H⟩:=H
 go_upto_if 15 with(first|((with_reducible refine gd 2 rfl ?_);refine ev_bx HS ?_;clear HS;intro g2 w2 HS F)|((with_reducible refine gd 3 rfl ?_);refine ev_bx HS ?_;clear HS;intro g3 w3 HS F)|((with_reducible refine gd 9 rfl ?_);refine ev_cl HS (spec_StoreOk.calls ht5.out (HS.ro gp0) lp0 (HS.ro gp1) lp1 (HS.ro gp2) lp2) Tryz.func35 ?_;clear HS;intro wt5 HS F)|((with_reducible refine gd 13 rfl ?_);refine gg ?_;refine ev_cl HS (spec_CertOk.calls ht8.out (HS.ro gp3) lp3 (HS.ro gp4) lp4 (HS.ro gp5) lp5) Tryz.func41 ?_;clear HS;intro wt8 HS F))
 replace H:=znifb H;rcases H with⟨c10,H⟩|⟨c10,H⟩
 ·
  subst c10
  (try simp only [dcn,dcu,dcf])
  obtain rfl:=zsome H
  go_wp2_with ((with_reducible refine gd 16 rfl ?_);refine ev_li q59 [] ([]:List S59) [] HS MadeL.nil ?_;clear HS;intro v69 w69 HS F;obtain⟨B69,d69,rfl,m69⟩:=HS.formn 0 2 rfl rfl)
  exact r1 ⟨_,rfl,HS.pi [2]⟩
 subst c10
 (try simp only [dcn,dcu,dcf])
 go_wp2_with ((with_reducible refine gd 20 rfl ?_);refine ev_bx HS ?_;clear HS;intro g20 w20 HS F)
 replace HS:=HS.nil 59 q59
 go_loopg [6] k (fun kq v_6 w'=>∃(l42:List S59) (v43:Value) (x44:Int) (x45:Int),v_6=.int .i64 x44∧Aside0 (spec_WaysTo.l0 kq l42 x44 x45 a0 a1=some r)∧Aside0 (kq≤k)∧Hp noFP w w' [.box g2 [.slice Ap0 a0.f0.length cp0,.slice Ap1 a0.f1.length cp1,.slice Ap2 a0.f2.length cp2] 39,.box g3 [.int .i64 a1.f0,.string a1.f1,.string a1.f2,.int .i64 a1.f3,.int .i64 a1.f4,.string a1.f5,.bool a1.f6,.int .i64 a1.f7,.int .i64 a1.f8,.slice Ap3 a1.f9.length cp3,.slice Ap4 a1.f10.length cp4,.slice Ap5 a1.f11.length cp5,.string a1.f12] 41,.box g20 [.slice Ap0 a0.f0.length cp0,.slice Ap1 a0.f1.length cp1,.slice Ap2 a0.f2.length cp2,.int .i64 a1.f0,.string a1.f1,.string a1.f2,.int .i64 a1.f3,.int .i64 a1.f4,.string a1.f5,.bool a1.f6,.int .i64 a1.f7,.int .i64 a1.f8,.slice Ap3 a1.f9.length cp3,.slice Ap4 a1.f10.length cp4,.slice Ap5 a1.f11.length cp5,.string a1.f12,.int .i64 x45,v43] 82,.own (Zd.slice 59 q59) l42 [v43]])
 case atStart=>exact⟨_,_,_,_,rfl,H,⟨Nat.le_refl _⟩,HS⟩
 case round=>
  clear HS H;(try clear F)
  obtain⟨l42,v43,x44,x45,rfl,H,HKk41,HS⟩:=hrel
  obtain⟨B43,d43,rfl,m43⟩:=HS.form 3 rfl
  have F:=HS.bx
  cases gk with
  |zero=>exact absurd H.out (by simp [spec_WaysTo.l0])
  | succ k41=>
   simp only [spec_WaysTo.l0] at H
   replace H:=zif H;rcases H with⟨c47,H⟩|⟨c47,H⟩
   ·
    replace H:=zbind H;obtain⟨t52,ht52,H⟩:=H
    go_wp2_with (first|((with_reducible refine gate_store (p:=31) rfl ?_);refine ev_st 2 16 HS (seg:=[.int .i64 x44]) ?_;clear HS;intro w48 HS F)|((with_reducible refine gd 33 rfl ?_);refine ev_li q41 [] ([]:List S41) [] HS MadeL.nil ?_;clear HS;intro v50 w50 HS F;obtain⟨B50,d50,rfl,m50⟩:=HS.formn 0 4 rfl rfl)|((with_reducible refine gd 34 rfl ?_);refine HS.lend [2,3] (by decide) [.box g20 [.slice Ap0 a0.f0.length cp0,.slice Ap1 a0.f1.length cp1,.slice Ap2 a0.f2.length cp2,.int .i64 a1.f0,.string a1.f1,.string a1.f2,.int .i64 a1.f3,.int .i64 a1.f4,.string a1.f5,.bool a1.f6,.int .i64 a1.f7,.int .i64 a1.f8,.slice Ap3 a1.f9.length cp3,.slice Ap4 a1.f10.length cp4,.slice Ap5 a1.f11.length cp5,.string a1.f12,.int .i64 x44,.slice B43 l42.length d43] 82,.own (Zd.slice 59 q59) l42 [.slice B43 l42.length d43]] rfl (fun A' HL HD HA HB=>?_);refine ev_call rfl Tryz.func42 (by kernel_rfl) rfl #[.pointer (some ⟨g20,0,none⟩),.slice B50 0 d50] rfl (by simp only [mpn];rfl) ?_;refine(spec_l13Seek_from_0.calls ht52.out (HS.hideC km41 HL gp0) lp0 (HS.hideC km69 HL gp1) lp1 (HS.hideC km57 HL gp2) lp2 (HS.hideC up_int HL gp3) lp3 (HS.hideC up_string HL gp4) lp4 (HS.hideC up_string HL gp5) lp5 (hide_rd HD 4 rfl (by decide)) m50 (hide_view A' _) HA).mono ?_;rintro _ wt52 ⟨v53,rfl,HQ⟩;refine⟨_,rfl,?_⟩;replace HS:=HB _ _ HQ (Nat.le_of_ble_eq_true rfl);clear HQ HA HB HL HD;(try simp only [hpn,hpm] at HS);(try clear F);obtain⟨B53,d53,rfl,m53⟩:=HS.form 3 rfl;(try simp only [hpn,hpm] at HS);have F:=HS.bx))
    go_roundg k41
    case measure=>have:=HKk41.out;omega
    case rel=>exact⟨_,_,_,_,rfl,H,⟨by have:=HKk41.out;omega⟩,HS.pi [0,1,2,3]⟩
   replace H:=znif H;rcases H with⟨c55,H⟩|⟨c55,H⟩
   ·
    replace H:=zgo H;obtain⟨c66,H⟩:=H
    replace H:=zlets H;obtain⟨y67,e_y67,H⟩:=H
    obtain rfl:=zsome H
    go_wp2_with (first|((with_reducible refine gd 44 rfl ?_);refine ev_li q59 [] ([]:List S59) [] HS MadeL.nil ?_;clear HS;intro v64 w64 HS F;obtain⟨B64,d64,rfl,m64⟩:=HS.formn 0 4 rfl rfl)|((with_reducible refine gd 46 rfl ?_);refine ev_ap q59 4 3 HS rfl rfl Tryz.underlying33 info59 (of_eq_true c66) ?_;clear HS;intro v67 w67 HS;rw [←e_y67.out] at HS;obtain⟨B67,d67,rfl,m67⟩:=HS.form 5 rfl;(try simp only [hpn,hpm] at HS);have F:=HS.bx))
    exact r1 ⟨_,rfl,HS.pi [5]⟩
   replace H:=zgo H;obtain⟨c56,H⟩:=H
   replace H:=zgo H;obtain⟨c57,H⟩:=H
   have cd58:((60:Int)≤(d43:Int))=True:=eq_true (by have:=of_eq_true c57;have:=m43;omega)
   replace HS:=HS.cutrow 3 (60:Int) rfl (of_eq_true c56) (of_eq_true c57)
   replace HS:Hp noFP w _ [.box g2 [.slice Ap0 a0.f0.length cp0,.slice Ap1 a0.f1.length cp1,.slice Ap2 a0.f2.length cp2] 39,.box g3 [.int .i64 a1.f0,.string a1.f1,.string a1.f2,.int .i64 a1.f3,.int .i64 a1.f4,.string a1.f5,.bool a1.f6,.int .i64 a1.f7,.int .i64 a1.f8,.slice Ap3 a1.f9.length cp3,.slice Ap4 a1.f10.length cp4,.slice Ap5 a1.f11.length cp5,.string a1.f12] 41,.box g20 [.slice Ap0 a0.f0.length cp0,.slice Ap1 a0.f1.length cp1,.slice Ap2 a0.f2.length cp2,.int .i64 a1.f0,.string a1.f1,.string a1.f2,.int .i64 a1.f3,.int .i64 a1.f4,.string a1.f5,.bool a1.f6,.int .i64 a1.f7,.int .i64 a1.f8,.slice Ap3 a1.f9.length cp3,.slice Ap4 a1.f10.length cp4,.slice Ap5 a1.f11.length cp5,.string a1.f12,.int .i64 x45,.slice B43 l42.length d43] 82,.own (Zd.slice 59 q59) (l42.take 60) [.slice B43 60 d43]]:=HS
   replace H:=zgo H;obtain⟨c61,H⟩:=H
   replace H:=zlets H;obtain⟨y62,e_y62,H⟩:=H
   obtain rfl:=zsome H
   go_wp2_with (first|((with_reducible refine gd 43 rfl ?_);refine ev_val rfl (run_cuth rfl rfl rfl Tryz.underlying33 info59 (of_eq_true c56) (of_eq_true cd58)) ?_)|((with_reducible refine gd 44 rfl ?_);refine ev_li q59 [] ([]:List S59) [] HS MadeL.nil ?_;clear HS;intro v59 w59 HS F;obtain⟨B59,d59,rfl,m59⟩:=HS.formn 0 4 rfl rfl)|((with_reducible refine gd 46 rfl ?_);refine ev_append rfl q59 4 3 HS rfl rfl (by decide) rfl rfl rfl Tryz.underlying33 info59 rfl (by decide) (by decide) (by have:=of_eq_true c61;first|omega|(simp only [List.length_cons,List.length_nil,List.length_take,List.length_append,Nat.zero_add] at this⊢;omega)) ?_;clear HS;intro v62 w62 HS;rw [←e_y62.out] at HS;obtain⟨B62,d62,rfl,m62⟩:=HS.form 5 rfl;(try simp only [hpn,hpm] at HS);have F:=HS.bx))
   exact r1 ⟨_,rfl,HS.pi [5]⟩
def laws_toCertS.l0:Nat→(List S41)→Int→(List S30)→Option ((List S41))
  |0,_,_,_=>none
  |k+1,l23,x25,a0=>(if x25<(a0.length:Int)then(if 0≤x25 then(if x25<(a0.length:Int)then((laws_toCert.f k (rd_T30 a0 x25)).bind fun t31=>(laws_toCertS.l0 k (l23.set (x25).toNat t31) (wrap64 (x25+1)) a0))else none)else none)else(some l23))
def laws_toCertS.f (k:Nat)(a0:(List S30)):Option ((List S41)):=(if 0≤(a0.length:Int)then(if((a0.length:Int)).toNat≤1529755308210 then(laws_toCertS.l0 k (List.replicate a0.length z41) 0 a0)else none)else none)
theorem laws_toCertS.calls {k:Nat}{a0:(List S30)}{Ap0:Option Addr}{np0 cp0:Nat}{r:(List S41)}{w:World}(h:laws_toCertS.f k a0=some r)(gp0:k30.C w Ap0 np0 a0)(lp0:np0≤cp0):
    Calls Tryz.prog 43 #[.slice Ap0 np0 cp0] w (fun e w'=>∃v0_:Value,e=.returned (v0_)∧Hp noFP w w' [.own (Zd.slice 41 q41) r [v0_]]):=by
 obtain rfl:=C_len gp0
 have HS:=Hp.start w
 have H:=Aside0.mk h
 clear h
 unfold laws_toCertS.f at H
 go_enter Tryz.func43,Tryz.ntmps43
 replace H:=zgo H;obtain⟨c1,H⟩:=H
 replace H:=zgo H;obtain⟨c2,H⟩:=H
 go_wp2_with ((with_reducible refine gd 7 rfl ?_);refine ev_make rfl q41 z41 HS rfl (a0.length:Int) rfl rfl Tryz.underlying35 info41 rfl (by decide) (by decide) q41_zero (of_eq_true c1) (by have:=of_eq_true c2;omega) ?_;clear HS;intro v3 w3 HS;obtain⟨B3,d3,rfl,m3⟩:=HS.formn a0.length 0 rfl (by first|rfl|simp);(try simp only [hpn,hpm] at HS))
 go_loopg [4] k (fun kq v_4 w'=>∃(l23:List S41) (x25:Int),v_4=.int .i64 x25∧Aside0 (laws_toCertS.l0 kq l23 x25 a0=some r)∧Aside0 (kq≤k)∧Hp noFP w w' [.own (Zd.slice 41 q41) l23 [.slice B3 a0.length d3]])
 case atStart=>exact⟨_,_,rfl,H,⟨Nat.le_refl _⟩,HS⟩
 case round=>
  clear HS H;(try clear F)
  obtain⟨l23,x25,rfl,H,HKk22,HS⟩:=hrel
  cases gk with
  |zero=>exact absurd H.out (by simp [laws_toCertS.l0])
  | succ k22=>
   simp only [laws_toCertS.l0] at H
   replace H:=znif H;rcases H with⟨c27,H⟩|⟨c27,H⟩
   ·
    obtain rfl:=zsome H
    go_wp2
    exact r1 ⟨_,rfl,HS.pi [0]⟩
   replace H:=zgo H;obtain⟨c28,H⟩:=H
   replace H:=zgo H;obtain⟨c29,H⟩:=H
   obtain⟨ad30,B30_9,d30_9,B30_10,d30_10,B30_11,d30_11,rfl,e30_0,e30_1,e30_2,e30_3,e30_4,e30_5,e30_6,e30_7,e30_8,e30_9,e30_10,e30_11,e30_12,m30_9,y30_9,m30_10,y30_10,m30_11,y30_11⟩:=at_T30 gp0 x25 (of_eq_true c28) (of_eq_true c29)
   have e30_0_30:=HS.keepc e30_0
   have e30_1_30:=HS.keepc e30_1
   have e30_2_30:=HS.keepc e30_2
   have e30_3_30:=HS.keepc e30_3
   have e30_4_30:=HS.keepc e30_4
   have e30_5_30:=HS.keepc e30_5
   have e30_6_30:=HS.keepc e30_6
   have e30_7_30:=HS.keepc e30_7
   have e30_8_30:=HS.keepc e30_8
   have e30_9_30:=HS.keepc e30_9
   have e30_10_30:=HS.keepc e30_10
   have e30_11_30:=HS.keepc e30_11
   have e30_12_30:=HS.keepc e30_12
   replace H:=zbind H;obtain⟨t31,ht31,H⟩:=H
   go_wp2_with (first|((with_reducible refine gd 20 rfl ?_);refine ev_cl3 HS (laws_toCert.calls ht31.out (HS.ro y30_9) m30_9 (HS.ro y30_10) m30_10 (HS.ro y30_11) m30_11) Tryz.func10 ?_;clear HS;intro v32 v33 v34 wt31 HS F;obtain⟨B32,d32,rfl,m32⟩:=HS.form 1 rfl;obtain⟨B33,d33,rfl,m33⟩:=HS.form 2 rfl;obtain⟨B34,d34,rfl,m34⟩:=HS.form 3 rfl;obtain⟨ad36,B36_9,d36_9,B36_10,d36_10,B36_11,d36_11,rfl,e36_0,e36_1,e36_2,e36_3,e36_4,e36_5,e36_6,e36_7,e36_8,e36_9,e36_10,e36_11,e36_12,m36_9,y36_9,m36_10,y36_10,m36_11,y36_11⟩:=at_T41 (HS.rd 0 rfl) x25 (of_eq_true c28) (of_eq_true c29))|((with_reducible refine gate_store (p:=21) rfl ?_);refine ev_set rfl q41 0 [1,2,3] x25 t31 HS (seg:=[.int .i64 t31.f0,.string t31.f1,.string t31.f2,.int .i64 t31.f3,.int .i64 t31.f4,.string t31.f5,.bool t31.f6,.int .i64 t31.f7,.int .i64 t31.f8,.slice B32 t31.f9.length d32,.slice B33 t31.f10.length d33,.slice B34 t31.f11.length d34,.string t31.f12]) rfl (by decide) rfl rfl rfl (by first|rfl|exact(Nat.mul_one _).symm) rfl rfl (by kernel_rfl) (by simp [Value.oneCell']) ⟨of_eq_true c28,of_eq_true c29⟩ rfl (fun S hd hh=>q41_pack (x:=t31) hd (hh 1 (.own (Zd.slice 3 (Zd.int .i64)) t31.f9 [.slice B32 t31.f9.length d32]) rfl) (hh 2 (.own (Zd.slice 9 Zd.string) t31.f10 [.slice B33 t31.f10.length d33]) rfl) (hh 3 (.own (Zd.slice 9 Zd.string) t31.f11 [.slice B34 t31.f11.length d34]) rfl) (by decide)) ?_;clear HS;intro w37 HS;(try simp only [hpn,hpm] at HS)))
   go_roundg k22
   case measure=>have:=HKk22.out;omega
   case rel=>exact⟨_,_,rfl,H,⟨by have:=HKk22.out;omega⟩,HS.pi [0]⟩
def laws_toRev.f (a0:S189):Option (S163):=(some (⟨a0.f0,a0.f1⟩:S163))
theorem laws_toRev.calls {a0:S189}{r:S163}{w:World}(h:laws_toRev.f a0=some r):
    Calls Tryz.prog 172 #[.agg #[.int .i64 a0.f0,.int .i64 a0.f1]] w (fun e w'=>e=.returned (.agg #[.int .i64 r.f0,.int .i64 r.f1])∧Hp noFP w w' []):=by
 have HS:=Hp.start w
 have H:=Aside0.mk h
 clear h
 unfold laws_toRev.f at H
 go_enter Tryz.func172,Tryz.ntmps172
 obtain rfl:=zsome H
 go_wp2_with (first|((with_reducible refine gd 1 rfl ?_);refine ev_bx HS ?_;clear HS;intro g1 w1 HS F)|((with_reducible refine gd 2 rfl ?_);refine ev_bx HS ?_;clear HS;intro g2 w2 HS F)|((with_reducible refine gd 3 rfl ?_);refine ev_bx HS ?_;clear HS;intro g3 w3 HS F)|((with_reducible refine gate_store (p:=6) rfl ?_);refine ev_st 2 0 HS (seg:=[.int .i64 a0.f0]) ?_;clear HS;intro w7 HS F)|((with_reducible refine gate_store (p:=9) rfl ?_);refine ev_st 2 1 HS (seg:=[.int .i64 a0.f1]) ?_;clear HS;intro w9 HS F)|((with_reducible refine gate_store (p:=2) rfl ?_);refine ev_st 1 0 HS (seg:=[.int .i64 a0.f0,.int .i64 a0.f1]) ?_;clear HS;intro w11 HS F))
 exact rc 1 HS Tryz.underlying163 ⟨rfl,HS.pi []⟩
def laws_toRevS.l0:Nat→(List S163)→Int→(List S189)→Option ((List S163))
  |0,_,_,_=>none
  |k+1,l20,x22,a0=>(if x22<(a0.length:Int)then(if 0≤x22 then(if x22<(a0.length:Int)then((laws_toRev.f (rd_T189 a0 x22)).bind fun t28=>(laws_toRevS.l0 k (l20.set (x22).toNat t28) (wrap64 (x22+1)) a0))else none)else none)else(some l20))
def laws_toRevS.f (k:Nat)(a0:(List S189)):Option ((List S163)):=(if 0≤(a0.length:Int)then(if((a0.length:Int)).toNat≤17592186044416 then(laws_toRevS.l0 k (List.replicate a0.length z163) 0 a0)else none)else none)
theorem laws_toRevS.calls {k:Nat}{a0:(List S189)}{Ap0:Option Addr}{np0 cp0:Nat}{r:(List S163)}{w:World}(h:laws_toRevS.f k a0=some r)(gp0:k189.C w Ap0 np0 a0)(lp0:np0≤cp0):
    Calls Tryz.prog 142 #[.slice Ap0 np0 cp0] w (fun e w'=>∃v0_:Value,e=.returned (v0_)∧Hp noFP w w' [.own (Zd.slice 163 q163) r [v0_]]):=by
 obtain rfl:=C_len gp0
 have HS:=Hp.start w
 have H:=Aside0.mk h
 clear h
 unfold laws_toRevS.f at H
 go_enter Tryz.func142,Tryz.ntmps142
 replace H:=zgo H;obtain⟨c1,H⟩:=H
 replace H:=zgo H;obtain⟨c2,H⟩:=H
 go_wp2_with ((with_reducible refine gd 7 rfl ?_);refine ev_make rfl q163 z163 HS rfl (a0.length:Int) rfl rfl Tryz.underlying67 info163 rfl (by decide) (by decide) q163_zero (of_eq_true c1) (by have:=of_eq_true c2;omega) ?_;clear HS;intro v3 w3 HS;obtain⟨B3,d3,rfl,m3⟩:=HS.formn a0.length 0 rfl (by first|rfl|simp);(try simp only [hpn,hpm] at HS))
 go_loopg [4] k (fun kq v_4 w'=>∃(l20:List S163) (x22:Int),v_4=.int .i64 x22∧Aside0 (laws_toRevS.l0 kq l20 x22 a0=some r)∧Aside0 (kq≤k)∧Hp noFP w w' [.own (Zd.slice 163 q163) l20 [.slice B3 a0.length d3]])
 case atStart=>exact⟨_,_,rfl,H,⟨Nat.le_refl _⟩,HS⟩
 case round=>
  clear HS H;(try clear F)
  obtain⟨l20,x22,rfl,H,HKk19,HS⟩:=hrel
  cases gk with
  |zero=>exact absurd H.out (by simp [laws_toRevS.l0])
  | succ k19=>
   simp only [laws_toRevS.l0] at H
   replace H:=znif H;rcases H with⟨c24,H⟩|⟨c24,H⟩
   ·
    obtain rfl:=zsome H
    go_wp2
    exact r1 ⟨_,rfl,HS.pi [0]⟩
   replace H:=zgo H;obtain⟨c25,H⟩:=H
   replace H:=zgo H;obtain⟨c26,H⟩:=H
   obtain⟨ad27,rfl,e27_0,e27_1⟩:=at_T189 gp0 x22 (of_eq_true c25) (of_eq_true c26)
   have e27_0_27:=HS.keepc e27_0
   have e27_1_27:=HS.keepc e27_1
   replace H:=zbind H;obtain⟨t28,ht28,H⟩:=H
   go_wp2_with (first|((with_reducible refine gd 20 rfl ?_);refine ev_cl HS (laws_toRev.calls ht28.out) Tryz.func172 ?_;clear HS;intro wt28 HS F;obtain⟨ad30,rfl,e30_0,e30_1⟩:=at_T163 (HS.rd 0 rfl) x22 (of_eq_true c25) (of_eq_true c26))|((with_reducible refine gate_store (p:=21) rfl ?_);refine ev_set rfl q163 0 [] x22 t28 HS (seg:=[.int .i64 t28.f0,.int .i64 t28.f1]) rfl (by decide) rfl rfl rfl (by first|rfl|exact(Nat.mul_one _).symm) rfl rfl (by kernel_rfl) (by simp [Value.oneCell']) ⟨of_eq_true c25,of_eq_true c26⟩ rfl (made_flat (fun _=>q163_flat _ _ _)) ?_;clear HS;intro w31 HS;(try simp only [hpn,hpm] at HS)))
   go_roundg k19
   case measure=>have:=HKk19.out;omega
   case rel=>exact⟨_,_,rfl,H,⟨by have:=HKk19.out;omega⟩,HS.pi [0]⟩
end Go.Proofs.YtncddikfafgklaaGreatDoor.F

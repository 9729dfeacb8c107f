/- Functions of the program and of the law, and that their calls do what is written here. -/
import Derived.Test.YtfcpjeeeddjakaaGreatZgFnPlansa
import Derived.Test.YtfcpjeeeddjakaaGreatZgFnPlansc
import Derived.Test.YtfcpjeeeddjakaaGreatZgFnPlansd
import Derived.Test.YtfcpjeeeddjakaaGreatZgFnPlanse
namespace Go.Proofs.YtfcpjeeeddjakaaGreat.F
open Go.RowKit YtfcpjeeeddjakaaGreatW.PrintWords YtfcpjeeeddjakaaGreatW.PrintLast YtfcpjeeeddjakaaGreatW.PrintMore Z
attribute [local go_sem] max2_int min2_int max_two min_two max_three min_three max_four min_four
set_option linter.unusedVariables false
set_option linter.unusedSimpArgs false
set_option maxRecDepth 100000
set_option maxHeartbeats 16000000
mutual
def spec_l10Made_0.l0:Nat→(List S133)→Int→Int→Int→Int→S110→ByteArray→Int→Int×S110→Option (S103×S110)
  |0,_,_,_,_,_,_,_,_,_=>none
  |k+1,l106,x108,x109,x110,x111,a0,a1,a2,t14=>((spec_l01Below_0.f (⟨a0.f0,x110,x111⟩:S110) 4).bind fun t113=>(if x109<t113.1 then((spec_l01Below_0.f (⟨a0.f0,t113.2.f1,t113.2.f2⟩:S110) 3).bind fun t116=>((spec_l01Below_0.f (⟨a0.f0,t116.2.f1,t116.2.f2⟩:S110) 3).bind fun t118=>(if 0<(wrap64 (1+t14.1))then((spec_l01Once_0.f (⟨a0.f0,t118.2.f1,t118.2.f2⟩:S110) 2).bind fun t121=>(if t121.1=true then(if l106.length+1≤8796093022208 then(lets (l106++([(⟨(wrap64 ((wrap64 (x108+1))+t116.1)),8⟩:S133)]:List S133)) fun y127=>(spec_l10Made_0.l0 k y127 (wrap64 ((wrap64 (x108+1))+t116.1)) (wrap64 (x109+1)) t121.2.f1 t121.2.f2 a0 a1 a2 t14))else none)else(if l106.length+1≤8796093022208 then(lets (l106++([(⟨(wrap64 ((wrap64 (x108+1))+t116.1)),(wrap64 (1+t118.1))⟩:S133)]:List S133)) fun y134=>(spec_l10Made_0.l0 k y134 (wrap64 ((wrap64 (x108+1))+t116.1)) (wrap64 (x109+1)) t121.2.f1 t121.2.f2 a0 a1 a2 t14))else none)))else(if l106.length+1≤8796093022208 then(lets (l106++([(⟨(wrap64 ((wrap64 (x108+1))+t116.1)),(wrap64 (1+t118.1))⟩:S133)]:List S133)) fun y141=>(spec_l10Made_0.l0 k y141 (wrap64 ((wrap64 (x108+1))+t116.1)) (wrap64 (x109+1)) t118.2.f1 t118.2.f2 a0 a1 a2 t14))else none))))else((spec_SignedCrl.f k (⟨a1,4,10,40,(wrap64 (1+t14.1)),l106,(⟨#[]⟩:ByteArray)⟩:S103) a2).bind fun t145=>(some ((⟨t145.f0,t145.f1,t145.f2,t145.f3,t145.f4,t145.f5,t145.f6⟩:S103),(⟨a0.f0,t113.2.f1,t113.2.f2⟩:S110))))))
def spec_l10Made_0.l1:Nat→(List S133)→Int→Int→Int→Int→S110→ByteArray→Int→Int×S110→Option (S103×S110)
  |0,_,_,_,_,_,_,_,_,_=>none
  |k+1,l233,x235,x236,x237,x238,a0,a1,a2,t14=>((spec_l01Below_0.f (⟨a0.f0,x237,x238⟩:S110) 4).bind fun t240=>(if x236<t240.1 then((spec_l01Below_0.f (⟨a0.f0,t240.2.f1,t240.2.f2⟩:S110) 3).bind fun t243=>((spec_l01Below_0.f (⟨a0.f0,t243.2.f1,t243.2.f2⟩:S110) 3).bind fun t245=>(if 0<(wrap64 (1+t14.1))then((spec_l01Once_0.f (⟨a0.f0,t245.2.f1,t245.2.f2⟩:S110) 2).bind fun t248=>(if t248.1=true then(if l233.length+1≤8796093022208 then(lets (l233++([(⟨(wrap64 ((wrap64 (x235+1))+t243.1)),8⟩:S133)]:List S133)) fun y254=>(spec_l10Made_0.l1 k y254 (wrap64 ((wrap64 (x235+1))+t243.1)) (wrap64 (x236+1)) t248.2.f1 t248.2.f2 a0 a1 a2 t14))else none)else(if l233.length+1≤8796093022208 then(lets (l233++([(⟨(wrap64 ((wrap64 (x235+1))+t243.1)),(wrap64 (1+t245.1))⟩:S133)]:List S133)) fun y261=>(spec_l10Made_0.l1 k y261 (wrap64 ((wrap64 (x235+1))+t243.1)) (wrap64 (x236+1)) t248.2.f1 t248.2.f2 a0 a1 a2 t14))else none)))else(if l233.length+1≤8796093022208 then(lets (l233++([(⟨(wrap64 ((wrap64 (x235+1))+t243.1)),(wrap64 (1+t245.1))⟩:S133)]:List S133)) fun y268=>(spec_l10Made_0.l1 k y268 (wrap64 ((wrap64 (x235+1))+t243.1)) (wrap64 (x236+1)) t245.2.f1 t245.2.f2 a0 a1 a2 t14))else none))))else((spec_SignedCrl.f k (⟨a1,4,10,90,(wrap64 (1+t14.1)),l233,(⟨#[]⟩:ByteArray)⟩:S103) a2).bind fun t272=>(some ((⟨t272.f0,t272.f1,t272.f2,t272.f3,t272.f4,t272.f5,t272.f6⟩:S103),(⟨a0.f0,t240.2.f1,t240.2.f2⟩:S110))))))
def spec_l10Made_0.l2:Nat→(List S133)→Int→Int→Int→Int→S110→ByteArray→Int→Int×S110→Option (S103×S110)
  |0,_,_,_,_,_,_,_,_,_=>none
  |k+1,l353,x355,x356,x357,x358,a0,a1,a2,t3=>((spec_l01Below_0.f (⟨a0.f0,x357,x358⟩:S110) 4).bind fun t360=>(if x356<t360.1 then((spec_l01Below_0.f (⟨a0.f0,t360.2.f1,t360.2.f2⟩:S110) 3).bind fun t363=>((spec_l01Below_0.f (⟨a0.f0,t363.2.f1,t363.2.f2⟩:S110) 3).bind fun t365=>(if l353.length+1≤8796093022208 then(lets (l353++([(⟨(wrap64 ((wrap64 (x355+1))+t363.1)),(wrap64 (1+t365.1))⟩:S133)]:List S133)) fun y370=>(spec_l10Made_0.l2 k y370 (wrap64 ((wrap64 (x355+1))+t363.1)) (wrap64 (x356+1)) t365.2.f1 t365.2.f2 a0 a1 a2 t3))else none)))else((spec_SignedCrl.f k (⟨a1,(wrap64 (1+t3.1)),10,40,0,l353,(⟨#[]⟩:ByteArray)⟩:S103) a2).bind fun t374=>(some ((⟨t374.f0,t374.f1,t374.f2,t374.f3,t374.f4,t374.f5,t374.f6⟩:S103),(⟨a0.f0,t360.2.f1,t360.2.f2⟩:S110))))))
def spec_l10Made_0.l3:Nat→(List S133)→Int→Int→Int→Int→S110→ByteArray→Int→Int×S110→Option (S103×S110)
  |0,_,_,_,_,_,_,_,_,_=>none
  |k+1,l450,x452,x453,x454,x455,a0,a1,a2,t3=>((spec_l01Below_0.f (⟨a0.f0,x454,x455⟩:S110) 4).bind fun t457=>(if x453<t457.1 then((spec_l01Below_0.f (⟨a0.f0,t457.2.f1,t457.2.f2⟩:S110) 3).bind fun t460=>((spec_l01Below_0.f (⟨a0.f0,t460.2.f1,t460.2.f2⟩:S110) 3).bind fun t462=>(if l450.length+1≤8796093022208 then(lets (l450++([(⟨(wrap64 ((wrap64 (x452+1))+t460.1)),(wrap64 (1+t462.1))⟩:S133)]:List S133)) fun y467=>(spec_l10Made_0.l3 k y467 (wrap64 ((wrap64 (x452+1))+t460.1)) (wrap64 (x453+1)) t462.2.f1 t462.2.f2 a0 a1 a2 t3))else none)))else((spec_SignedCrl.f k (⟨a1,(wrap64 (1+t3.1)),10,90,0,l450,(⟨#[]⟩:ByteArray)⟩:S103) a2).bind fun t471=>(some ((⟨t471.f0,t471.f1,t471.f2,t471.f3,t471.f4,t471.f5,t471.f6⟩:S103),(⟨a0.f0,t457.2.f1,t457.2.f2⟩:S110))))))
end
def spec_l10Made_0.f (k:Nat)(a0:S110)(a1:ByteArray)(a2:Int):Option (S103×S110):=((spec_l01Below_0.f a0 3).bind fun t3=>((spec_l01Once_0.f (⟨a0.f0,t3.2.f1,t3.2.f2⟩:S110) 3).bind fun t9=>(if t9.1=true then((spec_l01Below_0.f (⟨a0.f0,t9.2.f1,t9.2.f2⟩:S110) 2).bind fun t14=>((spec_l01Once_0.f (⟨a0.f0,t14.2.f1,t14.2.f2⟩:S110) 6).bind fun t18=>(if t18.1=true then(spec_l10Made_0.l0 k [] 0 0 t18.2.f1 t18.2.f2 a0 a1 a2 t14)else(spec_l10Made_0.l1 k [] 0 0 t18.2.f1 t18.2.f2 a0 a1 a2 t14))))else((spec_l01Once_0.f (⟨a0.f0,t9.2.f1,t9.2.f2⟩:S110) 6).bind fun t277=>(if t277.1=true then(spec_l10Made_0.l2 k [] 0 0 t277.2.f1 t277.2.f2 a0 a1 a2 t3)else(spec_l10Made_0.l3 k [] 0 0 t277.2.f1 t277.2.f2 a0 a1 a2 t3))))))
theorem spec_l10Made_0.calls {k:Nat}{a0:S110}{a1:ByteArray}{a2:Int}{A:FP}{p0:Nat}{Ap1:Option Addr}{np1 cp1:Nat}{wv:World}{r1:S103}{r2:S110}{w:World}(h:spec_l10Made_0.f k a0 a1 a2=some (r1,r2))(gp1:(Kd.int .u8).C wv Ap1 np1 a0.f0)(lp1:np1≤cp1)(hV:View A w wv)(HS:Hp A w w [.box p0 [.slice Ap1 np1 cp1,.int .i64 a0.f1,.int .i64 a0.f2] 110]):
    Calls Tryz.prog 115 #[.pointer (some ⟨p0,0,none⟩),.string a1,.int .i64 a2] w (fun e w'=>∃v0_:Value,e=.returned (.agg #[.string r1.f0,.int .i64 r1.f1,.int .i64 r1.f2,.int .i64 r1.f3,.int .i64 r1.f4,v0_,.string r1.f6])∧Hp A w w' [.box p0 [.slice Ap1 np1 cp1,.int .i64 r2.f1,.int .i64 r2.f2] 110,.own (Zd.slice 133 q133) r1.f5 [v0_]]):=by
 obtain rfl:=C_len gp1
 have H:=Aside0.mk h
 clear h
 unfold spec_l10Made_0.f at H
 go_enter Tryz.func115,Tryz.ntmps115
 have F:=HS.bx
 replace H:=zbind H;obtain⟨t3,ht3,H⟩:=H
 replace H:=zbind H;obtain⟨t9,ht9,H⟩:=H
 go_upto_if 17 with(first|((with_reducible refine gd 6 rfl ?_);refine ev_bx HS ?_;clear HS;intro g6 w6 HS F)|((with_reducible refine gd 13 rfl ?_);refine ev_lb [0] HS (fun _ HL HA=>spec_l01Below_0.calls ht3.out gp1 lp1 (hV.lend HS HL) HA) Tryz.func45 ?_;clear HS;intro wt3 HS F)|((with_reducible refine gd 7 rfl ?_);refine ev_bx HS ?_;clear HS;intro g7 w7 HS F)|((with_reducible refine gate_store (p:=7) rfl ?_);refine ev_st 2 0 HS (seg:=[.string a1,.int .i64 (wrap64 (1+t3.1)),.int .i64 10,.int .i64 90,.int .i64 0,.slice none 0 0,.string (⟨#[]⟩:ByteArray)]) ?_;clear HS;intro w7 HS F)|((with_reducible refine gd 17 rfl ?_);refine ev_lb [0] HS (fun _ HL HA=>spec_l01Once_0.calls ht9.out gp1 lp1 (hV.lend HS HL) HA) Tryz.func98 ?_;clear HS;intro wt9 HS F))
 replace H:=znifb H;rcases H with⟨c11,H⟩|⟨c11,H⟩
 ·
  (try simp only [c11,dcn])
  replace H:=zbind H;obtain⟨t277,ht277,H⟩:=H
  go_upto_if 24 with((with_reducible refine gd 24 rfl ?_);refine ev_lb [0] HS (fun _ HL HA=>spec_l01Once_0.calls ht277.out gp1 lp1 (hV.lend HS HL) HA) Tryz.func98 ?_;clear HS;intro wt277 HS F)
  replace H:=znifb H;rcases H with⟨c279,H⟩|⟨c279,H⟩
  ·
   (try simp only [c279,dcn])
   go_wp2
   replace HS:=HS.nil 133 q133
   go_loopg [8,9] k (fun kq v_8 v_9 w'=>∃(l450:List S133) (v451:Value) (x452:Int) (x453:Int) (x454:Int) (x455:Int),v_8=.int .i64 x452∧v_9=.int .i64 x453∧Aside0 (spec_l10Made_0.l3 kq l450 x452 x453 x454 x455 a0 a1 a2 t3=some (r1,r2))∧Aside0 (kq≤k)∧Hp A w w' [.box p0 [.slice Ap1 a0.f0.length cp1,.int .i64 x454,.int .i64 x455] 110,.box g6 [.string (⟨#[]⟩:ByteArray),.int .i64 0,.int .i64 0,.int .i64 0,.int .i64 0,.slice none 0 0,.string (⟨#[]⟩:ByteArray)] 103,.box g7 [.string a1,.int .i64 (wrap64 (1+t3.1)),.int .i64 10,.int .i64 90,.int .i64 0,v451,.string (⟨#[]⟩:ByteArray)] 103,.own (Zd.slice 133 q133) l450 [v451]])
   case atStart=>exact⟨_,_,_,_,_,_,rfl,rfl,H,⟨Nat.le_refl _⟩,HS⟩
   case round=>
    clear HS H;(try clear F)
    obtain⟨l450,v451,x452,x453,x454,x455,rfl,rfl,H,HKk449,HS⟩:=hrel
    obtain⟨B451,d451,rfl,m451⟩:=HS.form 3 rfl
    have F:=HS.bx
    cases gk with
    |zero=>exact absurd H.out (by simp [spec_l10Made_0.l3])
    | succ k449=>
     simp only [spec_l10Made_0.l3] at H
     replace H:=zbind H;obtain⟨t457,ht457,H⟩:=H
     go_upto_if 29 with((with_reducible refine gd 28 rfl ?_);refine ev_lb [0] HS (fun _ HL HA=>spec_l01Below_0.calls ht457.out gp1 lp1 (hV.lend HS HL) HA) Tryz.func45 ?_;clear HS;intro wt457 HS F)
     replace H:=znif H;rcases H with⟨c459,H⟩|⟨c459,H⟩
     ·
      (try simp only [c459,dcn])
      replace H:=zbind H;obtain⟨t471,ht471,H⟩:=H
      obtain⟨rfl,rfl⟩:=zsome2 H
      go_wp2_with (first|((with_reducible refine gd 57 rfl ?_);refine ev_cl1 HS (spec_SignedCrl.calls ht471.out (HS.rd 3 rfl) m451) Tryz.func131 ?_;clear HS;intro v472 wt471 HS F;obtain⟨B472,d472,rfl,m472⟩:=HS.form 4 rfl)|((with_reducible refine gate_store (p:=6) rfl ?_);refine ev_st 1 0 HS (seg:=[.string t471.f0,.int .i64 t471.f1,.int .i64 t471.f2,.int .i64 t471.f3,.int .i64 t471.f4,.slice B472 t471.f5.length d472,.string t471.f6]) ?_;clear HS;intro w474 HS F))
      exact rc 1 HS Tryz.underlying103 ⟨_,rfl,HS.pi [0,4]⟩
     (try simp only [c459,dcn])
     replace H:=zbind H;obtain⟨t460,ht460,H⟩:=H
     replace H:=zbind H;obtain⟨t462,ht462,H⟩:=H
     replace H:=zgo H;obtain⟨c466,H⟩:=H
     replace H:=zlets H;obtain⟨y467,e_y467,H⟩:=H
     go_wp2_with (first|((with_reducible refine gd 35 rfl ?_);refine ev_lb [0] HS (fun _ HL HA=>spec_l01Below_0.calls ht460.out gp1 lp1 (hV.lend HS HL) HA) Tryz.func45 ?_;clear HS;intro wt460 HS F)|((with_reducible refine gd 38 rfl ?_);refine ev_lb [0] HS (fun _ HL HA=>spec_l01Below_0.calls ht462.out gp1 lp1 (hV.lend HS HL) HA) Tryz.func45 ?_;clear HS;intro wt462 HS F)|((with_reducible refine gd 52 rfl ?_);refine ev_li q133 [] ([(⟨(wrap64 ((wrap64 (x452+1))+t460.1)),(wrap64 (1+t462.1))⟩:S133)]:List S133) ([.int .i64 (wrap64 ((wrap64 (x452+1))+t460.1)),.int .i64 (wrap64 (1+t462.1))]++ []) HS (MadeL.cons (js1:=[]) (c:=[.int .i64 (wrap64 ((wrap64 (x452+1))+t460.1)),.int .i64 (wrap64 (1+t462.1))]) rfl (made_flat (fun _=>q133_flat _ _ _)) MadeL.nil (by decide)) ?_;clear HS;intro v464 w464 HS F;obtain⟨B464,d464,rfl,m464⟩:=HS.formn 1 4 rfl rfl)|((with_reducible refine gd 53 rfl ?_);refine ev_ap q133 3 4 HS rfl rfl Tryz.underlying101 info133 (of_eq_true c466) ?_;clear HS;intro v467 w467 HS;rw [←e_y467.out] at HS;obtain⟨B467,d467,rfl,m467⟩:=HS.form 5 rfl;(try simp only [hpn,hpm] at HS);have F:=HS.bx)|((with_reducible refine gate_store (p:=54) rfl ?_);refine ev_st 2 5 HS (seg:=[.slice B467 y467.length d467]) ?_;clear HS;intro w469 HS F))
     go_roundg k449
     case measure=>have:=HKk449.out;omega
     case rel=>exact⟨_,_,_,_,_,_,rfl,rfl,H,⟨by have:=HKk449.out;omega⟩,HS.pi [0,1,2,5]⟩
  (try simp only [c279,dcn])
  go_wp2_with ((with_reducible refine gate_store (p:=25) rfl ?_);refine ev_st 2 3 HS (seg:=[.int .i64 40]) ?_;clear HS;intro w280 HS F)
  replace HS:=HS.nil 133 q133
  go_loopg [8,9] k (fun kq v_8 v_9 w'=>∃(l353:List S133) (v354:Value) (x355:Int) (x356:Int) (x357:Int) (x358:Int),v_8=.int .i64 x355∧v_9=.int .i64 x356∧Aside0 (spec_l10Made_0.l2 kq l353 x355 x356 x357 x358 a0 a1 a2 t3=some (r1,r2))∧Aside0 (kq≤k)∧Hp A w w' [.box p0 [.slice Ap1 a0.f0.length cp1,.int .i64 x357,.int .i64 x358] 110,.box g6 [.string (⟨#[]⟩:ByteArray),.int .i64 0,.int .i64 0,.int .i64 0,.int .i64 0,.slice none 0 0,.string (⟨#[]⟩:ByteArray)] 103,.box g7 [.string a1,.int .i64 (wrap64 (1+t3.1)),.int .i64 10,.int .i64 40,.int .i64 0,v354,.string (⟨#[]⟩:ByteArray)] 103,.own (Zd.slice 133 q133) l353 [v354]])
  case atStart=>exact⟨_,_,_,_,_,_,rfl,rfl,H,⟨Nat.le_refl _⟩,HS⟩
  case round=>
   clear HS H;(try clear F)
   obtain⟨l353,v354,x355,x356,x357,x358,rfl,rfl,H,HKk352,HS⟩:=hrel
   obtain⟨B354,d354,rfl,m354⟩:=HS.form 3 rfl
   have F:=HS.bx
   cases gk with
   |zero=>exact absurd H.out (by simp [spec_l10Made_0.l2])
   | succ k352=>
    simp only [spec_l10Made_0.l2] at H
    replace H:=zbind H;obtain⟨t360,ht360,H⟩:=H
    go_upto_if 29 with((with_reducible refine gd 28 rfl ?_);refine ev_lb [0] HS (fun _ HL HA=>spec_l01Below_0.calls ht360.out gp1 lp1 (hV.lend HS HL) HA) Tryz.func45 ?_;clear HS;intro wt360 HS F)
    replace H:=znif H;rcases H with⟨c362,H⟩|⟨c362,H⟩
    ·
     (try simp only [c362,dcn])
     replace H:=zbind H;obtain⟨t374,ht374,H⟩:=H
     obtain⟨rfl,rfl⟩:=zsome2 H
     go_wp2_with (first|((with_reducible refine gd 57 rfl ?_);refine ev_cl1 HS (spec_SignedCrl.calls ht374.out (HS.rd 3 rfl) m354) Tryz.func131 ?_;clear HS;intro v375 wt374 HS F;obtain⟨B375,d375,rfl,m375⟩:=HS.form 4 rfl)|((with_reducible refine gate_store (p:=6) rfl ?_);refine ev_st 1 0 HS (seg:=[.string t374.f0,.int .i64 t374.f1,.int .i64 t374.f2,.int .i64 t374.f3,.int .i64 t374.f4,.slice B375 t374.f5.length d375,.string t374.f6]) ?_;clear HS;intro w377 HS F))
     exact rc 1 HS Tryz.underlying103 ⟨_,rfl,HS.pi [0,4]⟩
    (try simp only [c362,dcn])
    replace H:=zbind H;obtain⟨t363,ht363,H⟩:=H
    replace H:=zbind H;obtain⟨t365,ht365,H⟩:=H
    replace H:=zgo H;obtain⟨c369,H⟩:=H
    replace H:=zlets H;obtain⟨y370,e_y370,H⟩:=H
    go_wp2_with (first|((with_reducible refine gd 35 rfl ?_);refine ev_lb [0] HS (fun _ HL HA=>spec_l01Below_0.calls ht363.out gp1 lp1 (hV.lend HS HL) HA) Tryz.func45 ?_;clear HS;intro wt363 HS F)|((with_reducible refine gd 38 rfl ?_);refine ev_lb [0] HS (fun _ HL HA=>spec_l01Below_0.calls ht365.out gp1 lp1 (hV.lend HS HL) HA) Tryz.func45 ?_;clear HS;intro wt365 HS F)|((with_reducible refine gd 52 rfl ?_);refine ev_li q133 [] ([(⟨(wrap64 ((wrap64 (x355+1))+t363.1)),(wrap64 (1+t365.1))⟩:S133)]:List S133) ([.int .i64 (wrap64 ((wrap64 (x355+1))+t363.1)),.int .i64 (wrap64 (1+t365.1))]++ []) HS (MadeL.cons (js1:=[]) (c:=[.int .i64 (wrap64 ((wrap64 (x355+1))+t363.1)),.int .i64 (wrap64 (1+t365.1))]) rfl (made_flat (fun _=>q133_flat _ _ _)) MadeL.nil (by decide)) ?_;clear HS;intro v367 w367 HS F;obtain⟨B367,d367,rfl,m367⟩:=HS.formn 1 4 rfl rfl)|((with_reducible refine gd 53 rfl ?_);refine ev_ap q133 3 4 HS rfl rfl Tryz.underlying101 info133 (of_eq_true c369) ?_;clear HS;intro v370 w370 HS;rw [←e_y370.out] at HS;obtain⟨B370,d370,rfl,m370⟩:=HS.form 5 rfl;(try simp only [hpn,hpm] at HS);have F:=HS.bx)|((with_reducible refine gate_store (p:=54) rfl ?_);refine ev_st 2 5 HS (seg:=[.slice B370 y370.length d370]) ?_;clear HS;intro w372 HS F))
    go_roundg k352
    case measure=>have:=HKk352.out;omega
    case rel=>exact⟨_,_,_,_,_,_,rfl,rfl,H,⟨by have:=HKk352.out;omega⟩,HS.pi [0,1,2,5]⟩
 (try simp only [c11,dcn])
 replace H:=zbind H;obtain⟨t14,ht14,H⟩:=H
 replace H:=zbind H;obtain⟨t18,ht18,H⟩:=H
 go_upto_if 24 with(first|((with_reducible refine gate_store (p:=18) rfl ?_);refine ev_st 2 1 HS (seg:=[.int .i64 4]) ?_;clear HS;intro w12 HS F)|((with_reducible refine gd 20 rfl ?_);refine ev_lb [0] HS (fun _ HL HA=>spec_l01Below_0.calls ht14.out gp1 lp1 (hV.lend HS HL) HA) Tryz.func45 ?_;clear HS;intro wt14 HS F)|((with_reducible refine gate_store (p:=22) rfl ?_);refine ev_st 2 4 HS (seg:=[.int .i64 (wrap64 (1+t14.1))]) ?_;clear HS;intro w16 HS F)|((with_reducible refine gd 24 rfl ?_);refine ev_lb [0] HS (fun _ HL HA=>spec_l01Once_0.calls ht18.out gp1 lp1 (hV.lend HS HL) HA) Tryz.func98 ?_;clear HS;intro wt18 HS F))
 replace H:=znifb H;rcases H with⟨c20,H⟩|⟨c20,H⟩
 ·
  (try simp only [c20,dcn])
  go_wp2
  replace HS:=HS.nil 133 q133
  go_loopg [8,9] k (fun kq v_8 v_9 w'=>∃(l233:List S133) (v234:Value) (x235:Int) (x236:Int) (x237:Int) (x238:Int),v_8=.int .i64 x235∧v_9=.int .i64 x236∧Aside0 (spec_l10Made_0.l1 kq l233 x235 x236 x237 x238 a0 a1 a2 t14=some (r1,r2))∧Aside0 (kq≤k)∧Hp A w w' [.box p0 [.slice Ap1 a0.f0.length cp1,.int .i64 x237,.int .i64 x238] 110,.box g6 [.string (⟨#[]⟩:ByteArray),.int .i64 0,.int .i64 0,.int .i64 0,.int .i64 0,.slice none 0 0,.string (⟨#[]⟩:ByteArray)] 103,.box g7 [.string a1,.int .i64 4,.int .i64 10,.int .i64 90,.int .i64 (wrap64 (1+t14.1)),v234,.string (⟨#[]⟩:ByteArray)] 103,.own (Zd.slice 133 q133) l233 [v234]])
  case atStart=>exact⟨_,_,_,_,_,_,rfl,rfl,H,⟨Nat.le_refl _⟩,HS⟩
  case round=>
   clear HS H;(try clear F)
   obtain⟨l233,v234,x235,x236,x237,x238,rfl,rfl,H,HKk232,HS⟩:=hrel
   obtain⟨B234,d234,rfl,m234⟩:=HS.form 3 rfl
   have F:=HS.bx
   cases gk with
   |zero=>exact absurd H.out (by simp [spec_l10Made_0.l1])
   | succ k232=>
    simp only [spec_l10Made_0.l1] at H
    replace H:=zbind H;obtain⟨t240,ht240,H⟩:=H
    go_upto_if 29 with((with_reducible refine gd 28 rfl ?_);refine ev_lb [0] HS (fun _ HL HA=>spec_l01Below_0.calls ht240.out gp1 lp1 (hV.lend HS HL) HA) Tryz.func45 ?_;clear HS;intro wt240 HS F)
    replace H:=znif H;rcases H with⟨c242,H⟩|⟨c242,H⟩
    ·
     (try simp only [c242,dcn])
     replace H:=zbind H;obtain⟨t272,ht272,H⟩:=H
     obtain⟨rfl,rfl⟩:=zsome2 H
     go_wp2_with (first|((with_reducible refine gd 57 rfl ?_);refine ev_cl1 HS (spec_SignedCrl.calls ht272.out (HS.rd 3 rfl) m234) Tryz.func131 ?_;clear HS;intro v273 wt272 HS F;obtain⟨B273,d273,rfl,m273⟩:=HS.form 4 rfl)|((with_reducible refine gate_store (p:=6) rfl ?_);refine ev_st 1 0 HS (seg:=[.string t272.f0,.int .i64 t272.f1,.int .i64 t272.f2,.int .i64 t272.f3,.int .i64 t272.f4,.slice B273 t272.f5.length d273,.string t272.f6]) ?_;clear HS;intro w275 HS F))
     exact rc 1 HS Tryz.underlying103 ⟨_,rfl,HS.pi [0,4]⟩
    (try simp only [c242,dcn])
    replace H:=zbind H;obtain⟨t243,ht243,H⟩:=H
    replace H:=zbind H;obtain⟨t245,ht245,H⟩:=H
    replace H:=znif H;rcases H with⟨c247,H⟩|⟨c247,H⟩
    ·
     replace H:=zgo H;obtain⟨c267,H⟩:=H
     replace H:=zlets H;obtain⟨y268,e_y268,H⟩:=H
     go_wp2_with (first|((with_reducible refine gd 35 rfl ?_);refine ev_lb [0] HS (fun _ HL HA=>spec_l01Below_0.calls ht243.out gp1 lp1 (hV.lend HS HL) HA) Tryz.func45 ?_;clear HS;intro wt243 HS F)|((with_reducible refine gd 38 rfl ?_);refine ev_lb [0] HS (fun _ HL HA=>spec_l01Below_0.calls ht245.out gp1 lp1 (hV.lend HS HL) HA) Tryz.func45 ?_;clear HS;intro wt245 HS F)|((with_reducible refine gd 52 rfl ?_);refine ev_li q133 [] ([(⟨(wrap64 ((wrap64 (x235+1))+t243.1)),(wrap64 (1+t245.1))⟩:S133)]:List S133) ([.int .i64 (wrap64 ((wrap64 (x235+1))+t243.1)),.int .i64 (wrap64 (1+t245.1))]++ []) HS (MadeL.cons (js1:=[]) (c:=[.int .i64 (wrap64 ((wrap64 (x235+1))+t243.1)),.int .i64 (wrap64 (1+t245.1))]) rfl (made_flat (fun _=>q133_flat _ _ _)) MadeL.nil (by decide)) ?_;clear HS;intro v265 w265 HS F;obtain⟨B265,d265,rfl,m265⟩:=HS.formn 1 4 rfl rfl)|((with_reducible refine gd 53 rfl ?_);refine ev_ap q133 3 4 HS rfl rfl Tryz.underlying101 info133 (of_eq_true c267) ?_;clear HS;intro v268 w268 HS;rw [←e_y268.out] at HS;obtain⟨B268,d268,rfl,m268⟩:=HS.form 5 rfl;(try simp only [hpn,hpm] at HS);have F:=HS.bx)|((with_reducible refine gate_store (p:=54) rfl ?_);refine ev_st 2 5 HS (seg:=[.slice B268 y268.length d268]) ?_;clear HS;intro w270 HS F))
     go_roundg k232
     case measure=>have:=HKk232.out;omega
     case rel=>exact⟨_,_,_,_,_,_,rfl,rfl,H,⟨by have:=HKk232.out;omega⟩,HS.pi [0,1,2,5]⟩
    replace H:=zbind H;obtain⟨t248,ht248,H⟩:=H
    go_upto_if 46 with(first|((with_reducible refine gd 35 rfl ?_);refine ev_lb [0] HS (fun _ HL HA=>spec_l01Below_0.calls ht243.out gp1 lp1 (hV.lend HS HL) HA) Tryz.func45 ?_;clear HS;intro wt243 HS F)|((with_reducible refine gd 38 rfl ?_);refine ev_lb [0] HS (fun _ HL HA=>spec_l01Below_0.calls ht245.out gp1 lp1 (hV.lend HS HL) HA) Tryz.func45 ?_;clear HS;intro wt245 HS F)|((with_reducible refine gd 45 rfl ?_);refine HS.lend [0] (by decide) [.box p0 [.slice Ap1 a0.f0.length cp1,.int .i64 t245.2.f1,.int .i64 t245.2.f2] 110] rfl (fun A' HL HD HA HB=>?_);refine gg ?_;refine ev_lc (spec_l01Once_0.calls ht248.out gp1 lp1 (hV.lend HS HL) HA) (fun _ HQ=>HB _ _ HQ (Nat.le_of_ble_eq_true rfl)) Tryz.func98 ?_;clear HS HA HB HL HD;intro wt248 HS F))
    replace H:=zifb H;rcases H with⟨c250,H⟩|⟨c250,H⟩
    ·
     (try simp only [c250,dcn])
     replace H:=zgo H;obtain⟨c253,H⟩:=H
     replace H:=zlets H;obtain⟨y254,e_y254,H⟩:=H
     go_wp2_with (first|((with_reducible refine gd 52 rfl ?_);refine ev_li q133 [] ([(⟨(wrap64 ((wrap64 (x235+1))+t243.1)),8⟩:S133)]:List S133) ([.int .i64 (wrap64 ((wrap64 (x235+1))+t243.1)),.int .i64 8]++ []) HS (MadeL.cons (js1:=[]) (c:=[.int .i64 (wrap64 ((wrap64 (x235+1))+t243.1)),.int .i64 8]) rfl (made_flat (fun _=>q133_flat _ _ _)) MadeL.nil (by decide)) ?_;clear HS;intro v251 w251 HS F;obtain⟨B251,d251,rfl,m251⟩:=HS.formn 1 4 rfl rfl)|((with_reducible refine gd 53 rfl ?_);refine ev_ap q133 3 4 HS rfl rfl Tryz.underlying101 info133 (of_eq_true c253) ?_;clear HS;intro v254 w254 HS;rw [←e_y254.out] at HS;obtain⟨B254,d254,rfl,m254⟩:=HS.form 5 rfl;(try simp only [hpn,hpm] at HS);have F:=HS.bx)|((with_reducible refine gate_store (p:=54) rfl ?_);refine ev_st 2 5 HS (seg:=[.slice B254 y254.length d254]) ?_;clear HS;intro w256 HS F))
     go_roundg k232
     case measure=>have:=HKk232.out;omega
     case rel=>exact⟨_,_,_,_,_,_,rfl,rfl,H,⟨by have:=HKk232.out;omega⟩,HS.pi [0,1,2,5]⟩
    (try simp only [c250,dcn])
    replace H:=zgo H;obtain⟨c260,H⟩:=H
    replace H:=zlets H;obtain⟨y261,e_y261,H⟩:=H
    go_wp2_with (first|((with_reducible refine gd 52 rfl ?_);refine ev_li q133 [] ([(⟨(wrap64 ((wrap64 (x235+1))+t243.1)),(wrap64 (1+t245.1))⟩:S133)]:List S133) ([.int .i64 (wrap64 ((wrap64 (x235+1))+t243.1)),.int .i64 (wrap64 (1+t245.1))]++ []) HS (MadeL.cons (js1:=[]) (c:=[.int .i64 (wrap64 ((wrap64 (x235+1))+t243.1)),.int .i64 (wrap64 (1+t245.1))]) rfl (made_flat (fun _=>q133_flat _ _ _)) MadeL.nil (by decide)) ?_;clear HS;intro v258 w258 HS F;obtain⟨B258,d258,rfl,m258⟩:=HS.formn 1 4 rfl rfl)|((with_reducible refine gd 53 rfl ?_);refine ev_ap q133 3 4 HS rfl rfl Tryz.underlying101 info133 (of_eq_true c260) ?_;clear HS;intro v261 w261 HS;rw [←e_y261.out] at HS;obtain⟨B261,d261,rfl,m261⟩:=HS.form 5 rfl;(try simp only [hpn,hpm] at HS);have F:=HS.bx)|((with_reducible refine gate_store (p:=54) rfl ?_);refine ev_st 2 5 HS (seg:=[.slice B261 y261.length d261]) ?_;clear HS;intro w263 HS F))
    go_roundg k232
    case measure=>have:=HKk232.out;omega
    case rel=>exact⟨_,_,_,_,_,_,rfl,rfl,H,⟨by have:=HKk232.out;omega⟩,HS.pi [0,1,2,5]⟩
 (try simp only [c20,dcn])
 go_wp2_with ((with_reducible refine gate_store (p:=25) rfl ?_);refine ev_st 2 3 HS (seg:=[.int .i64 40]) ?_;clear HS;intro w21 HS F)
 replace HS:=HS.nil 133 q133
 go_loopg [8,9] k (fun kq v_8 v_9 w'=>∃(l106:List S133) (v107:Value) (x108:Int) (x109:Int) (x110:Int) (x111:Int),v_8=.int .i64 x108∧v_9=.int .i64 x109∧Aside0 (spec_l10Made_0.l0 kq l106 x108 x109 x110 x111 a0 a1 a2 t14=some (r1,r2))∧Aside0 (kq≤k)∧Hp A w w' [.box p0 [.slice Ap1 a0.f0.length cp1,.int .i64 x110,.int .i64 x111] 110,.box g6 [.string (⟨#[]⟩:ByteArray),.int .i64 0,.int .i64 0,.int .i64 0,.int .i64 0,.slice none 0 0,.string (⟨#[]⟩:ByteArray)] 103,.box g7 [.string a1,.int .i64 4,.int .i64 10,.int .i64 40,.int .i64 (wrap64 (1+t14.1)),v107,.string (⟨#[]⟩:ByteArray)] 103,.own (Zd.slice 133 q133) l106 [v107]])
 case atStart=>exact⟨_,_,_,_,_,_,rfl,rfl,H,⟨Nat.le_refl _⟩,HS⟩
 case round=>
  clear HS H;(try clear F)
  obtain⟨l106,v107,x108,x109,x110,x111,rfl,rfl,H,HKk105,HS⟩:=hrel
  obtain⟨B107,d107,rfl,m107⟩:=HS.form 3 rfl
  have F:=HS.bx
  cases gk with
  |zero=>exact absurd H.out (by simp [spec_l10Made_0.l0])
  | succ k105=>
   simp only [spec_l10Made_0.l0] at H
   replace H:=zbind H;obtain⟨t113,ht113,H⟩:=H
   go_upto_if 29 with((with_reducible refine gd 28 rfl ?_);refine ev_lb [0] HS (fun _ HL HA=>spec_l01Below_0.calls ht113.out gp1 lp1 (hV.lend HS HL) HA) Tryz.func45 ?_;clear HS;intro wt113 HS F)
   replace H:=znif H;rcases H with⟨c115,H⟩|⟨c115,H⟩
   ·
    (try simp only [c115,dcn])
    replace H:=zbind H;obtain⟨t145,ht145,H⟩:=H
    obtain⟨rfl,rfl⟩:=zsome2 H
    go_wp2_with (first|((with_reducible refine gd 57 rfl ?_);refine ev_cl1 HS (spec_SignedCrl.calls ht145.out (HS.rd 3 rfl) m107) Tryz.func131 ?_;clear HS;intro v146 wt145 HS F;obtain⟨B146,d146,rfl,m146⟩:=HS.form 4 rfl)|((with_reducible refine gate_store (p:=6) rfl ?_);refine ev_st 1 0 HS (seg:=[.string t145.f0,.int .i64 t145.f1,.int .i64 t145.f2,.int .i64 t145.f3,.int .i64 t145.f4,.slice B146 t145.f5.length d146,.string t145.f6]) ?_;clear HS;intro w148 HS F))
    exact rc 1 HS Tryz.underlying103 ⟨_,rfl,HS.pi [0,4]⟩
   (try simp only [c115,dcn])
   replace H:=zbind H;obtain⟨t116,ht116,H⟩:=H
   replace H:=zbind H;obtain⟨t118,ht118,H⟩:=H
   replace H:=znif H;rcases H with⟨c120,H⟩|⟨c120,H⟩
   ·
    replace H:=zgo H;obtain⟨c140,H⟩:=H
    replace H:=zlets H;obtain⟨y141,e_y141,H⟩:=H
    go_wp2_with (first|((with_reducible refine gd 35 rfl ?_);refine ev_lb [0] HS (fun _ HL HA=>spec_l01Below_0.calls ht116.out gp1 lp1 (hV.lend HS HL) HA) Tryz.func45 ?_;clear HS;intro wt116 HS F)|((with_reducible refine gd 38 rfl ?_);refine ev_lb [0] HS (fun _ HL HA=>spec_l01Below_0.calls ht118.out gp1 lp1 (hV.lend HS HL) HA) Tryz.func45 ?_;clear HS;intro wt118 HS F)|((with_reducible refine gd 52 rfl ?_);refine ev_li q133 [] ([(⟨(wrap64 ((wrap64 (x108+1))+t116.1)),(wrap64 (1+t118.1))⟩:S133)]:List S133) ([.int .i64 (wrap64 ((wrap64 (x108+1))+t116.1)),.int .i64 (wrap64 (1+t118.1))]++ []) HS (MadeL.cons (js1:=[]) (c:=[.int .i64 (wrap64 ((wrap64 (x108+1))+t116.1)),.int .i64 (wrap64 (1+t118.1))]) rfl (made_flat (fun _=>q133_flat _ _ _)) MadeL.nil (by decide)) ?_;clear HS;intro v138 w138 HS F;obtain⟨B138,d138,rfl,m138⟩:=HS.formn 1 4 rfl rfl)|((with_reducible refine gd 53 rfl ?_);refine ev_ap q133 3 4 HS rfl rfl Tryz.underlying101 info133 (of_eq_true c140) ?_;clear HS;intro v141 w141 HS;rw [←e_y141.out] at HS;obtain⟨B141,d141,rfl,m141⟩:=HS.form 5 rfl;(try simp only [hpn,hpm] at HS);have F:=HS.bx)|((with_reducible refine gate_store (p:=54) rfl ?_);refine ev_st 2 5 HS (seg:=[.slice B141 y141.length d141]) ?_;clear HS;intro w143 HS F))
    go_roundg k105
    case measure=>have:=HKk105.out;omega
    case rel=>exact⟨_,_,_,_,_,_,rfl,rfl,H,⟨by have:=HKk105.out;omega⟩,HS.pi [0,1,2,5]⟩
   replace H:=zbind H;obtain⟨t121,ht121,H⟩:=H
   go_upto_if 46 with(first|((with_reducible refine gd 35 rfl ?_);refine ev_lb [0] HS (fun _ HL HA=>spec_l01Below_0.calls ht116.out gp1 lp1 (hV.lend HS HL) HA) Tryz.func45 ?_;clear HS;intro wt116 HS F)|((with_reducible refine gd 38 rfl ?_);refine ev_lb [0] HS (fun _ HL HA=>spec_l01Below_0.calls ht118.out gp1 lp1 (hV.lend HS HL) HA) Tryz.func45 ?_;clear HS;intro wt118 HS F)|((with_reducible refine gd 45 rfl ?_);refine HS.lend [0] (by decide) [.box p0 [.slice Ap1 a0.f0.length cp1,.int .i64 t118.2.f1,.int .i64 t118.2.f2] 110] rfl (fun A' HL HD HA HB=>?_);refine gg ?_;refine ev_lc (spec_l01Once_0.calls ht121.out gp1 lp1 (hV.lend HS HL) HA) (fun _ HQ=>HB _ _ HQ (Nat.le_of_ble_eq_true rfl)) Tryz.func98 ?_;clear HS HA HB HL HD;intro wt121 HS F))
   replace H:=zifb H;rcases H with⟨c123,H⟩|⟨c123,H⟩
   ·
    (try simp only [c123,dcn])
    replace H:=zgo H;obtain⟨c126,H⟩:=H
    replace H:=zlets H;obtain⟨y127,e_y127,H⟩:=H
    go_wp2_with (first|((with_reducible refine gd 52 rfl ?_);refine ev_li q133 [] ([(⟨(wrap64 ((wrap64 (x108+1))+t116.1)),8⟩:S133)]:List S133) ([.int .i64 (wrap64 ((wrap64 (x108+1))+t116.1)),.int .i64 8]++ []) HS (MadeL.cons (js1:=[]) (c:=[.int .i64 (wrap64 ((wrap64 (x108+1))+t116.1)),.int .i64 8]) rfl (made_flat (fun _=>q133_flat _ _ _)) MadeL.nil (by decide)) ?_;clear HS;intro v124 w124 HS F;obtain⟨B124,d124,rfl,m124⟩:=HS.formn 1 4 rfl rfl)|((with_reducible refine gd 53 rfl ?_);refine ev_ap q133 3 4 HS rfl rfl Tryz.underlying101 info133 (of_eq_true c126) ?_;clear HS;intro v127 w127 HS;rw [←e_y127.out] at HS;obtain⟨B127,d127,rfl,m127⟩:=HS.form 5 rfl;(try simp only [hpn,hpm] at HS);have F:=HS.bx)|((with_reducible refine gate_store (p:=54) rfl ?_);refine ev_st 2 5 HS (seg:=[.slice B127 y127.length d127]) ?_;clear HS;intro w129 HS F))
    go_roundg k105
    case measure=>have:=HKk105.out;omega
    case rel=>exact⟨_,_,_,_,_,_,rfl,rfl,H,⟨by have:=HKk105.out;omega⟩,HS.pi [0,1,2,5]⟩
   (try simp only [c123,dcn])
   replace H:=zgo H;obtain⟨c133,H⟩:=H
   replace H:=zlets H;obtain⟨y134,e_y134,H⟩:=H
   go_wp2_with (first|((with_reducible refine gd 52 rfl ?_);refine ev_li q133 [] ([(⟨(wrap64 ((wrap64 (x108+1))+t116.1)),(wrap64 (1+t118.1))⟩:S133)]:List S133) ([.int .i64 (wrap64 ((wrap64 (x108+1))+t116.1)),.int .i64 (wrap64 (1+t118.1))]++ []) HS (MadeL.cons (js1:=[]) (c:=[.int .i64 (wrap64 ((wrap64 (x108+1))+t116.1)),.int .i64 (wrap64 (1+t118.1))]) rfl (made_flat (fun _=>q133_flat _ _ _)) MadeL.nil (by decide)) ?_;clear HS;intro v131 w131 HS F;obtain⟨B131,d131,rfl,m131⟩:=HS.formn 1 4 rfl rfl)|((with_reducible refine gd 53 rfl ?_);refine ev_ap q133 3 4 HS rfl rfl Tryz.underlying101 info133 (of_eq_true c133) ?_;clear HS;intro v134 w134 HS;rw [←e_y134.out] at HS;obtain⟨B134,d134,rfl,m134⟩:=HS.form 5 rfl;(try simp only [hpn,hpm] at HS);have F:=HS.bx)|((with_reducible refine gate_store (p:=54) rfl ?_);refine ev_st 2 5 HS (seg:=[.slice B134 y134.length d134]) ?_;clear HS;intro w136 HS F))
   go_roundg k105
   case measure=>have:=HKk105.out;omega
   case rel=>exact⟨_,_,_,_,_,_,rfl,rfl,H,⟨by have:=HKk105.out;omega⟩,HS.pi [0,1,2,5]⟩
def spec_l12Lists_0.f (k:Nat)(a0:S110):Option ((List S103)×S110):=((spec_l01Once_0.f a0 5).bind fun t3=>(if t3.1=true then((spec_l01Once_0.f (⟨a0.f0,t3.2.f1,t3.2.f2⟩:S110) 5).bind fun t6=>(if t6.1=true then((spec_l01Once_0.f (⟨a0.f0,t6.2.f1,t6.2.f2⟩:S110) 5).bind fun t9=>(if t9.1=true then((spec_l01Once_0.f (⟨a0.f0,t9.2.f1,t9.2.f2⟩:S110) 3).bind fun t12=>(if t12.1=true then((spec_l10Made_0.f k (⟨a0.f0,t12.2.f1,t12.2.f2⟩:S110) (⟨#[99,97,46,111,114,103]⟩:ByteArray) 1).bind fun t15=>(if 0+1≤1599289640401 then(lets (([]:List S103)++([t15.1]:List S103)) fun y21=>(some (y21,(⟨a0.f0,t15.2.f1,t15.2.f2⟩:S110))))else none))else(some (([]:List S103),(⟨a0.f0,t12.2.f1,t12.2.f2⟩:S110)))))else((spec_l10Made_0.f k (⟨a0.f0,t9.2.f1,t9.2.f2⟩:S110) (⟨#[115,117,98,46,99,97,46,111,114,103]⟩:ByteArray) 2).bind fun t23=>(if 0+1≤1599289640401 then(lets (([]:List S103)++([t23.1]:List S103)) fun y29=>((spec_l01Once_0.f (⟨a0.f0,t23.2.f1,t23.2.f2⟩:S110) 3).bind fun t31=>(if t31.1=true then((spec_l10Made_0.f k (⟨a0.f0,t31.2.f1,t31.2.f2⟩:S110) (⟨#[99,97,46,111,114,103]⟩:ByteArray) 1).bind fun t34=>(if y29.length+1≤1599289640401 then(lets (y29++([t34.1]:List S103)) fun y40=>(some (y40,(⟨a0.f0,t34.2.f1,t34.2.f2⟩:S110))))else none))else(some (y29,(⟨a0.f0,t31.2.f1,t31.2.f2⟩:S110))))))else none))))else((spec_l10Made_0.f k (⟨a0.f0,t6.2.f1,t6.2.f2⟩:S110) (⟨#[99,97,46,111,114,103]⟩:ByteArray) 1).bind fun t42=>(if 0+1≤1599289640401 then(lets (([]:List S103)++([t42.1]:List S103)) fun y48=>((spec_l01Once_0.f (⟨a0.f0,t42.2.f1,t42.2.f2⟩:S110) 5).bind fun t50=>(if t50.1=true then((spec_l01Once_0.f (⟨a0.f0,t50.2.f1,t50.2.f2⟩:S110) 3).bind fun t53=>(if t53.1=true then((spec_l10Made_0.f k (⟨a0.f0,t53.2.f1,t53.2.f2⟩:S110) (⟨#[99,97,46,111,114,103]⟩:ByteArray) 1).bind fun t56=>(if y48.length+1≤1599289640401 then(lets (y48++([t56.1]:List S103)) fun y62=>(some (y62,(⟨a0.f0,t56.2.f1,t56.2.f2⟩:S110))))else none))else(some (y48,(⟨a0.f0,t53.2.f1,t53.2.f2⟩:S110)))))else((spec_l10Made_0.f k (⟨a0.f0,t50.2.f1,t50.2.f2⟩:S110) (⟨#[115,117,98,46,99,97,46,111,114,103]⟩:ByteArray) 2).bind fun t64=>(if y48.length+1≤1599289640401 then(lets (y48++([t64.1]:List S103)) fun y70=>((spec_l01Once_0.f (⟨a0.f0,t64.2.f1,t64.2.f2⟩:S110) 3).bind fun t72=>(if t72.1=true then((spec_l10Made_0.f k (⟨a0.f0,t72.2.f1,t72.2.f2⟩:S110) (⟨#[99,97,46,111,114,103]⟩:ByteArray) 1).bind fun t75=>(if y70.length+1≤1599289640401 then(lets (y70++([t75.1]:List S103)) fun y81=>(some (y81,(⟨a0.f0,t75.2.f1,t75.2.f2⟩:S110))))else none))else(some (y70,(⟨a0.f0,t72.2.f1,t72.2.f2⟩:S110))))))else none)))))else none))))else((spec_l10Made_0.f k (⟨a0.f0,t3.2.f1,t3.2.f2⟩:S110) (⟨#[114,111,111,116]⟩:ByteArray) 0).bind fun t83=>(if 0+1≤1599289640401 then(lets (([]:List S103)++([t83.1]:List S103)) fun y89=>((spec_l01Once_0.f (⟨a0.f0,t83.2.f1,t83.2.f2⟩:S110) 5).bind fun t91=>(if t91.1=true then((spec_l01Once_0.f (⟨a0.f0,t91.2.f1,t91.2.f2⟩:S110) 5).bind fun t94=>(if t94.1=true then((spec_l01Once_0.f (⟨a0.f0,t94.2.f1,t94.2.f2⟩:S110) 3).bind fun t97=>(if t97.1=true then((spec_l10Made_0.f k (⟨a0.f0,t97.2.f1,t97.2.f2⟩:S110) (⟨#[99,97,46,111,114,103]⟩:ByteArray) 1).bind fun t100=>(if y89.length+1≤1599289640401 then(lets (y89++([t100.1]:List S103)) fun y106=>(some (y106,(⟨a0.f0,t100.2.f1,t100.2.f2⟩:S110))))else none))else(some (y89,(⟨a0.f0,t97.2.f1,t97.2.f2⟩:S110)))))else((spec_l10Made_0.f k (⟨a0.f0,t94.2.f1,t94.2.f2⟩:S110) (⟨#[115,117,98,46,99,97,46,111,114,103]⟩:ByteArray) 2).bind fun t108=>(if y89.length+1≤1599289640401 then(lets (y89++([t108.1]:List S103)) fun y114=>((spec_l01Once_0.f (⟨a0.f0,t108.2.f1,t108.2.f2⟩:S110) 3).bind fun t116=>(if t116.1=true then((spec_l10Made_0.f k (⟨a0.f0,t116.2.f1,t116.2.f2⟩:S110) (⟨#[99,97,46,111,114,103]⟩:ByteArray) 1).bind fun t119=>(if y114.length+1≤1599289640401 then(lets (y114++([t119.1]:List S103)) fun y125=>(some (y125,(⟨a0.f0,t119.2.f1,t119.2.f2⟩:S110))))else none))else(some (y114,(⟨a0.f0,t116.2.f1,t116.2.f2⟩:S110))))))else none))))else((spec_l10Made_0.f k (⟨a0.f0,t91.2.f1,t91.2.f2⟩:S110) (⟨#[99,97,46,111,114,103]⟩:ByteArray) 1).bind fun t127=>(if y89.length+1≤1599289640401 then(lets (y89++([t127.1]:List S103)) fun y133=>((spec_l01Once_0.f (⟨a0.f0,t127.2.f1,t127.2.f2⟩:S110) 5).bind fun t135=>(if t135.1=true then((spec_l01Once_0.f (⟨a0.f0,t135.2.f1,t135.2.f2⟩:S110) 3).bind fun t138=>(if t138.1=true then((spec_l10Made_0.f k (⟨a0.f0,t138.2.f1,t138.2.f2⟩:S110) (⟨#[99,97,46,111,114,103]⟩:ByteArray) 1).bind fun t141=>(if y133.length+1≤1599289640401 then(lets (y133++([t141.1]:List S103)) fun y147=>(some (y147,(⟨a0.f0,t141.2.f1,t141.2.f2⟩:S110))))else none))else(some (y133,(⟨a0.f0,t138.2.f1,t138.2.f2⟩:S110)))))else((spec_l10Made_0.f k (⟨a0.f0,t135.2.f1,t135.2.f2⟩:S110) (⟨#[115,117,98,46,99,97,46,111,114,103]⟩:ByteArray) 2).bind fun t149=>(if y133.length+1≤1599289640401 then(lets (y133++([t149.1]:List S103)) fun y155=>((spec_l01Once_0.f (⟨a0.f0,t149.2.f1,t149.2.f2⟩:S110) 3).bind fun t157=>(if t157.1=true then((spec_l10Made_0.f k (⟨a0.f0,t157.2.f1,t157.2.f2⟩:S110) (⟨#[99,97,46,111,114,103]⟩:ByteArray) 1).bind fun t160=>(if y155.length+1≤1599289640401 then(lets (y155++([t160.1]:List S103)) fun y166=>(some (y166,(⟨a0.f0,t160.2.f1,t160.2.f2⟩:S110))))else none))else(some (y155,(⟨a0.f0,t157.2.f1,t157.2.f2⟩:S110))))))else none)))))else none)))))else none))))
theorem spec_l12Lists_0.calls {k:Nat}{a0:S110}{A:FP}{p0:Nat}{Ap1:Option Addr}{np1 cp1:Nat}{wv:World}{r1:(List S103)}{r2:S110}{w:World}(h:spec_l12Lists_0.f k a0=some (r1,r2))(gp1:(Kd.int .u8).C wv Ap1 np1 a0.f0)(lp1:np1≤cp1)(hV:View A w wv)(HS:Hp A w w [.box p0 [.slice Ap1 np1 cp1,.int .i64 a0.f1,.int .i64 a0.f2] 110]):
    Calls Tryz.prog 111 #[.pointer (some ⟨p0,0,none⟩)] w (fun e w'=>∃v0_:Value,e=.returned (v0_)∧Hp A w w' [.box p0 [.slice Ap1 np1 cp1,.int .i64 r2.f1,.int .i64 r2.f2] 110,.own (Zd.slice 103 q103) r1 [v0_]]):=by
 obtain rfl:=C_len gp1
 have H:=Aside0.mk h
 clear h
 unfold spec_l12Lists_0.f at H
 go_enter Tryz.func111,Tryz.ntmps111
 have F:=HS.bx
 replace H:=zbind H;obtain⟨t3,ht3,H⟩:=H
 go_upto_if 7 with(first|((with_reducible refine gd 4 rfl ?_);refine ev_li q103 [] ([]:List S103) [] HS MadeL.nil ?_;clear HS;intro v1 w1 HS F;obtain⟨B1,d1,rfl,m1⟩:=HS.formn 0 1 rfl rfl)|((with_reducible refine gd 6 rfl ?_);refine ev_lb [0] HS (fun _ HL HA=>spec_l01Once_0.calls ht3.out gp1 lp1 (hV.lend HS HL) HA) Tryz.func98 ?_;clear HS;intro wt3 HS F))
 replace H:=zifb H;rcases H with⟨c5,H⟩|⟨c5,H⟩
 ·
  (try simp only [c5,dcn])
  replace H:=zbind H;obtain⟨t6,ht6,H⟩:=H
  go_upto_if 15 with((with_reducible refine gd 14 rfl ?_);refine ev_lb [0] HS (fun _ HL HA=>spec_l01Once_0.calls ht6.out gp1 lp1 (hV.lend HS HL) HA) Tryz.func98 ?_;clear HS;intro wt6 HS F)
  replace H:=zifb H;rcases H with⟨c8,H⟩|⟨c8,H⟩
  ·
   (try simp only [c8,dcn])
   replace H:=zbind H;obtain⟨t9,ht9,H⟩:=H
   go_upto_if 23 with((with_reducible refine gd 22 rfl ?_);refine ev_lb [0] HS (fun _ HL HA=>spec_l01Once_0.calls ht9.out gp1 lp1 (hV.lend HS HL) HA) Tryz.func98 ?_;clear HS;intro wt9 HS F)
   replace H:=zifb H;rcases H with⟨c11,H⟩|⟨c11,H⟩
   ·
    (try simp only [c11,dcn])
    replace H:=zbind H;obtain⟨t12,ht12,H⟩:=H
    go_upto_if 30 with((with_reducible refine gd 30 rfl ?_);refine ev_lb [0] HS (fun _ HL HA=>spec_l01Once_0.calls ht12.out gp1 lp1 (hV.lend HS HL) HA) Tryz.func98 ?_;clear HS;intro wt12 HS F)
    replace H:=znifb H;rcases H with⟨c14,H⟩|⟨c14,H⟩
    ·
     (try simp only [c14,dcn])
     obtain⟨rfl,rfl⟩:=zsome2 H
     go_wp2
     exact r1 ⟨_,rfl,HS.pi [0,1]⟩
    (try simp only [c14,dcn])
    replace H:=zbind H;obtain⟨t15,ht15,H⟩:=H
    replace H:=zgo H;obtain⟨c20,H⟩:=H
    replace H:=zlets H;obtain⟨y21,e_y21,H⟩:=H
    obtain⟨rfl,rfl⟩:=zsome2 H
    go_wp2_with (first|((with_reducible refine gd 33 rfl ?_);refine ev_lb1 [0] HS (fun _ HL HA=>spec_l10Made_0.calls ht15.out gp1 lp1 (hV.lend HS HL) HA) Tryz.func115 ?_;clear HS;intro v16 wt15 HS F;obtain⟨B16,d16,rfl,m16⟩:=HS.form 2 rfl;(try simp only [hpn,hpm] at HS);have F:=HS.bx)|((with_reducible refine gd 34 rfl ?_);refine ev_li q103 [2] ([t15.1]:List S103) ([.string t15.1.f0,.int .i64 t15.1.f1,.int .i64 t15.1.f2,.int .i64 t15.1.f3,.int .i64 t15.1.f4,.slice B16 t15.1.f5.length d16,.string t15.1.f6]++ []) HS (MadeL.cons (js1:=[2]) (c:=[.string t15.1.f0,.int .i64 t15.1.f1,.int .i64 t15.1.f2,.int .i64 t15.1.f3,.int .i64 t15.1.f4,.slice B16 t15.1.f5.length d16,.string t15.1.f6]) rfl (fun S hd hh=>q103_pack (x:=t15.1) hd (hh 2 (.own (Zd.slice 133 q133) t15.1.f5 [.slice B16 t15.1.f5.length d16]) rfl) (by decide)) MadeL.nil (by decide)) ?_;clear HS;intro v18 w18 HS F;obtain⟨B18,d18,rfl,m18⟩:=HS.formn 1 3 rfl rfl)|((with_reducible refine gd 35 rfl ?_);refine ev_ap q103 1 3 HS rfl rfl Tryz.underlying45 info103 (of_eq_true c20) ?_;clear HS;intro v21 w21 HS;rw [←e_y21.out] at HS;obtain⟨B21,d21,rfl,m21⟩:=HS.form 4 rfl;(try simp only [hpn,hpm] at HS);have F:=HS.bx))
    exact r1 ⟨_,rfl,HS.pi [0,4]⟩
   (try simp only [c11,dcn])
   replace H:=zbind H;obtain⟨t23,ht23,H⟩:=H
   replace H:=zgo H;obtain⟨c28,H⟩:=H
   replace H:=zlets H;obtain⟨y29,e_y29,H⟩:=H
   replace H:=zbind H;obtain⟨t31,ht31,H⟩:=H
   go_upto_if 30 with(first|((with_reducible refine gd 26 rfl ?_);refine ev_lb1 [0] HS (fun _ HL HA=>spec_l10Made_0.calls ht23.out gp1 lp1 (hV.lend HS HL) HA) Tryz.func115 ?_;clear HS;intro v24 wt23 HS F;obtain⟨B24,d24,rfl,m24⟩:=HS.form 2 rfl;(try simp only [hpn,hpm] at HS);have F:=HS.bx)|((with_reducible refine gd 27 rfl ?_);refine ev_li q103 [2] ([t23.1]:List S103) ([.string t23.1.f0,.int .i64 t23.1.f1,.int .i64 t23.1.f2,.int .i64 t23.1.f3,.int .i64 t23.1.f4,.slice B24 t23.1.f5.length d24,.string t23.1.f6]++ []) HS (MadeL.cons (js1:=[2]) (c:=[.string t23.1.f0,.int .i64 t23.1.f1,.int .i64 t23.1.f2,.int .i64 t23.1.f3,.int .i64 t23.1.f4,.slice B24 t23.1.f5.length d24,.string t23.1.f6]) rfl (fun S hd hh=>q103_pack (x:=t23.1) hd (hh 2 (.own (Zd.slice 133 q133) t23.1.f5 [.slice B24 t23.1.f5.length d24]) rfl) (by decide)) MadeL.nil (by decide)) ?_;clear HS;intro v26 w26 HS F;obtain⟨B26,d26,rfl,m26⟩:=HS.formn 1 3 rfl rfl)|((with_reducible refine gd 28 rfl ?_);refine ev_ap q103 1 3 HS rfl rfl Tryz.underlying45 info103 (of_eq_true c28) ?_;clear HS;intro v29 w29 HS;rw [←e_y29.out] at HS;obtain⟨B29,d29,rfl,m29⟩:=HS.form 4 rfl;(try simp only [hpn,hpm] at HS);have F:=HS.bx)|((with_reducible refine gd 30 rfl ?_);refine ev_lb [0] HS (fun _ HL HA=>spec_l01Once_0.calls ht31.out gp1 lp1 (hV.lend HS HL) HA) Tryz.func98 ?_;clear HS;intro wt31 HS F))
   replace H:=znifb H;rcases H with⟨c33,H⟩|⟨c33,H⟩
   ·
    (try simp only [c33,dcn])
    obtain⟨rfl,rfl⟩:=zsome2 H
    go_wp2
    exact r1 ⟨_,rfl,HS.pi [0,4]⟩
   (try simp only [c33,dcn])
   replace H:=zbind H;obtain⟨t34,ht34,H⟩:=H
   replace H:=zgo H;obtain⟨c39,H⟩:=H
   replace H:=zlets H;obtain⟨y40,e_y40,H⟩:=H
   obtain⟨rfl,rfl⟩:=zsome2 H
   go_wp2_with (first|((with_reducible refine gd 33 rfl ?_);refine ev_lb1 [0] HS (fun _ HL HA=>spec_l10Made_0.calls ht34.out gp1 lp1 (hV.lend HS HL) HA) Tryz.func115 ?_;clear HS;intro v35 wt34 HS F;obtain⟨B35,d35,rfl,m35⟩:=HS.form 5 rfl;(try simp only [hpn,hpm] at HS);have F:=HS.bx)|((with_reducible refine gd 34 rfl ?_);refine ev_li q103 [5] ([t34.1]:List S103) ([.string t34.1.f0,.int .i64 t34.1.f1,.int .i64 t34.1.f2,.int .i64 t34.1.f3,.int .i64 t34.1.f4,.slice B35 t34.1.f5.length d35,.string t34.1.f6]++ []) HS (MadeL.cons (js1:=[5]) (c:=[.string t34.1.f0,.int .i64 t34.1.f1,.int .i64 t34.1.f2,.int .i64 t34.1.f3,.int .i64 t34.1.f4,.slice B35 t34.1.f5.length d35,.string t34.1.f6]) rfl (fun S hd hh=>q103_pack (x:=t34.1) hd (hh 5 (.own (Zd.slice 133 q133) t34.1.f5 [.slice B35 t34.1.f5.length d35]) rfl) (by decide)) MadeL.nil (by decide)) ?_;clear HS;intro v37 w37 HS F;obtain⟨B37,d37,rfl,m37⟩:=HS.formn 1 6 rfl rfl)|((with_reducible refine gd 35 rfl ?_);refine ev_ap q103 4 6 HS rfl rfl Tryz.underlying45 info103 (of_eq_true c39) ?_;clear HS;intro v40 w40 HS;rw [←e_y40.out] at HS;obtain⟨B40,d40,rfl,m40⟩:=HS.form 7 rfl;(try simp only [hpn,hpm] at HS);have F:=HS.bx))
   exact r1 ⟨_,rfl,HS.pi [0,7]⟩
  (try simp only [c8,dcn])
  replace H:=zbind H;obtain⟨t42,ht42,H⟩:=H
  replace H:=zgo H;obtain⟨c47,H⟩:=H
  replace H:=zlets H;obtain⟨y48,e_y48,H⟩:=H
  replace H:=zbind H;obtain⟨t50,ht50,H⟩:=H
  go_upto_if 23 with(first|((with_reducible refine gd 18 rfl ?_);refine ev_lb1 [0] HS (fun _ HL HA=>spec_l10Made_0.calls ht42.out gp1 lp1 (hV.lend HS HL) HA) Tryz.func115 ?_;clear HS;intro v43 wt42 HS F;obtain⟨B43,d43,rfl,m43⟩:=HS.form 2 rfl;(try simp only [hpn,hpm] at HS);have F:=HS.bx)|((with_reducible refine gd 19 rfl ?_);refine ev_li q103 [2] ([t42.1]:List S103) ([.string t42.1.f0,.int .i64 t42.1.f1,.int .i64 t42.1.f2,.int .i64 t42.1.f3,.int .i64 t42.1.f4,.slice B43 t42.1.f5.length d43,.string t42.1.f6]++ []) HS (MadeL.cons (js1:=[2]) (c:=[.string t42.1.f0,.int .i64 t42.1.f1,.int .i64 t42.1.f2,.int .i64 t42.1.f3,.int .i64 t42.1.f4,.slice B43 t42.1.f5.length d43,.string t42.1.f6]) rfl (fun S hd hh=>q103_pack (x:=t42.1) hd (hh 2 (.own (Zd.slice 133 q133) t42.1.f5 [.slice B43 t42.1.f5.length d43]) rfl) (by decide)) MadeL.nil (by decide)) ?_;clear HS;intro v45 w45 HS F;obtain⟨B45,d45,rfl,m45⟩:=HS.formn 1 3 rfl rfl)|((with_reducible refine gd 20 rfl ?_);refine ev_ap q103 1 3 HS rfl rfl Tryz.underlying45 info103 (of_eq_true c47) ?_;clear HS;intro v48 w48 HS;rw [←e_y48.out] at HS;obtain⟨B48,d48,rfl,m48⟩:=HS.form 4 rfl;(try simp only [hpn,hpm] at HS);have F:=HS.bx)|((with_reducible refine gd 22 rfl ?_);refine ev_lb [0] HS (fun _ HL HA=>spec_l01Once_0.calls ht50.out gp1 lp1 (hV.lend HS HL) HA) Tryz.func98 ?_;clear HS;intro wt50 HS F))
  replace H:=zifb H;rcases H with⟨c52,H⟩|⟨c52,H⟩
  ·
   (try simp only [c52,dcn])
   replace H:=zbind H;obtain⟨t53,ht53,H⟩:=H
   go_upto_if 30 with((with_reducible refine gd 30 rfl ?_);refine ev_lb [0] HS (fun _ HL HA=>spec_l01Once_0.calls ht53.out gp1 lp1 (hV.lend HS HL) HA) Tryz.func98 ?_;clear HS;intro wt53 HS F)
   replace H:=znifb H;rcases H with⟨c55,H⟩|⟨c55,H⟩
   ·
    (try simp only [c55,dcn])
    obtain⟨rfl,rfl⟩:=zsome2 H
    go_wp2
    exact r1 ⟨_,rfl,HS.pi [0,4]⟩
   (try simp only [c55,dcn])
   replace H:=zbind H;obtain⟨t56,ht56,H⟩:=H
   replace H:=zgo H;obtain⟨c61,H⟩:=H
   replace H:=zlets H;obtain⟨y62,e_y62,H⟩:=H
   obtain⟨rfl,rfl⟩:=zsome2 H
   go_wp2_with (first|((with_reducible refine gd 33 rfl ?_);refine ev_lb1 [0] HS (fun _ HL HA=>spec_l10Made_0.calls ht56.out gp1 lp1 (hV.lend HS HL) HA) Tryz.func115 ?_;clear HS;intro v57 wt56 HS F;obtain⟨B57,d57,rfl,m57⟩:=HS.form 5 rfl;(try simp only [hpn,hpm] at HS);have F:=HS.bx)|((with_reducible refine gd 34 rfl ?_);refine ev_li q103 [5] ([t56.1]:List S103) ([.string t56.1.f0,.int .i64 t56.1.f1,.int .i64 t56.1.f2,.int .i64 t56.1.f3,.int .i64 t56.1.f4,.slice B57 t56.1.f5.length d57,.string t56.1.f6]++ []) HS (MadeL.cons (js1:=[5]) (c:=[.string t56.1.f0,.int .i64 t56.1.f1,.int .i64 t56.1.f2,.int .i64 t56.1.f3,.int .i64 t56.1.f4,.slice B57 t56.1.f5.length d57,.string t56.1.f6]) rfl (fun S hd hh=>q103_pack (x:=t56.1) hd (hh 5 (.own (Zd.slice 133 q133) t56.1.f5 [.slice B57 t56.1.f5.length d57]) rfl) (by decide)) MadeL.nil (by decide)) ?_;clear HS;intro v59 w59 HS F;obtain⟨B59,d59,rfl,m59⟩:=HS.formn 1 6 rfl rfl)|((with_reducible refine gd 35 rfl ?_);refine ev_ap q103 4 6 HS rfl rfl Tryz.underlying45 info103 (of_eq_true c61) ?_;clear HS;intro v62 w62 HS;rw [←e_y62.out] at HS;obtain⟨B62,d62,rfl,m62⟩:=HS.form 7 rfl;(try simp only [hpn,hpm] at HS);have F:=HS.bx))
   exact r1 ⟨_,rfl,HS.pi [0,7]⟩
  (try simp only [c52,dcn])
  replace H:=zbind H;obtain⟨t64,ht64,H⟩:=H
  replace H:=zgo H;obtain⟨c69,H⟩:=H
  replace H:=zlets H;obtain⟨y70,e_y70,H⟩:=H
  replace H:=zbind H;obtain⟨t72,ht72,H⟩:=H
  go_upto_if 30 with(first|((with_reducible refine gd 26 rfl ?_);refine ev_lb1 [0] HS (fun _ HL HA=>spec_l10Made_0.calls ht64.out gp1 lp1 (hV.lend HS HL) HA) Tryz.func115 ?_;clear HS;intro v65 wt64 HS F;obtain⟨B65,d65,rfl,m65⟩:=HS.form 5 rfl;(try simp only [hpn,hpm] at HS);have F:=HS.bx)|((with_reducible refine gd 27 rfl ?_);refine ev_li q103 [5] ([t64.1]:List S103) ([.string t64.1.f0,.int .i64 t64.1.f1,.int .i64 t64.1.f2,.int .i64 t64.1.f3,.int .i64 t64.1.f4,.slice B65 t64.1.f5.length d65,.string t64.1.f6]++ []) HS (MadeL.cons (js1:=[5]) (c:=[.string t64.1.f0,.int .i64 t64.1.f1,.int .i64 t64.1.f2,.int .i64 t64.1.f3,.int .i64 t64.1.f4,.slice B65 t64.1.f5.length d65,.string t64.1.f6]) rfl (fun S hd hh=>q103_pack (x:=t64.1) hd (hh 5 (.own (Zd.slice 133 q133) t64.1.f5 [.slice B65 t64.1.f5.length d65]) rfl) (by decide)) MadeL.nil (by decide)) ?_;clear HS;intro v67 w67 HS F;obtain⟨B67,d67,rfl,m67⟩:=HS.formn 1 6 rfl rfl)|((with_reducible refine gd 28 rfl ?_);refine ev_ap q103 4 6 HS rfl rfl Tryz.underlying45 info103 (of_eq_true c69) ?_;clear HS;intro v70 w70 HS;rw [←e_y70.out] at HS;obtain⟨B70,d70,rfl,m70⟩:=HS.form 7 rfl;(try simp only [hpn,hpm] at HS);have F:=HS.bx)|((with_reducible refine gd 30 rfl ?_);refine ev_lb [0] HS (fun _ HL HA=>spec_l01Once_0.calls ht72.out gp1 lp1 (hV.lend HS HL) HA) Tryz.func98 ?_;clear HS;intro wt72 HS F))
  replace H:=znifb H;rcases H with⟨c74,H⟩|⟨c74,H⟩
  ·
   (try simp only [c74,dcn])
   obtain⟨rfl,rfl⟩:=zsome2 H
   go_wp2
   exact r1 ⟨_,rfl,HS.pi [0,7]⟩
  (try simp only [c74,dcn])
  replace H:=zbind H;obtain⟨t75,ht75,H⟩:=H
  replace H:=zgo H;obtain⟨c80,H⟩:=H
  replace H:=zlets H;obtain⟨y81,e_y81,H⟩:=H
  obtain⟨rfl,rfl⟩:=zsome2 H
  go_wp2_with (first|((with_reducible refine gd 33 rfl ?_);refine ev_lb1 [0] HS (fun _ HL HA=>spec_l10Made_0.calls ht75.out gp1 lp1 (hV.lend HS HL) HA) Tryz.func115 ?_;clear HS;intro v76 wt75 HS F;obtain⟨B76,d76,rfl,m76⟩:=HS.form 8 rfl;(try simp only [hpn,hpm] at HS);have F:=HS.bx)|((with_reducible refine gd 34 rfl ?_);refine ev_li q103 [8] ([t75.1]:List S103) ([.string t75.1.f0,.int .i64 t75.1.f1,.int .i64 t75.1.f2,.int .i64 t75.1.f3,.int .i64 t75.1.f4,.slice B76 t75.1.f5.length d76,.string t75.1.f6]++ []) HS (MadeL.cons (js1:=[8]) (c:=[.string t75.1.f0,.int .i64 t75.1.f1,.int .i64 t75.1.f2,.int .i64 t75.1.f3,.int .i64 t75.1.f4,.slice B76 t75.1.f5.length d76,.string t75.1.f6]) rfl (fun S hd hh=>q103_pack (x:=t75.1) hd (hh 8 (.own (Zd.slice 133 q133) t75.1.f5 [.slice B76 t75.1.f5.length d76]) rfl) (by decide)) MadeL.nil (by decide)) ?_;clear HS;intro v78 w78 HS F;obtain⟨B78,d78,rfl,m78⟩:=HS.formn 1 9 rfl rfl)|((with_reducible refine gd 35 rfl ?_);refine ev_ap q103 7 9 HS rfl rfl Tryz.underlying45 info103 (of_eq_true c80) ?_;clear HS;intro v81 w81 HS;rw [←e_y81.out] at HS;obtain⟨B81,d81,rfl,m81⟩:=HS.form 10 rfl;(try simp only [hpn,hpm] at HS);have F:=HS.bx))
  exact r1 ⟨_,rfl,HS.pi [0,10]⟩
 (try simp only [c5,dcn])
 replace H:=zbind H;obtain⟨t83,ht83,H⟩:=H
 replace H:=zgo H;obtain⟨c88,H⟩:=H
 replace H:=zlets H;obtain⟨y89,e_y89,H⟩:=H
 replace H:=zbind H;obtain⟨t91,ht91,H⟩:=H
 go_upto_if 15 with(first|((with_reducible refine gd 10 rfl ?_);refine ev_lb1 [0] HS (fun _ HL HA=>spec_l10Made_0.calls ht83.out gp1 lp1 (hV.lend HS HL) HA) Tryz.func115 ?_;clear HS;intro v84 wt83 HS F;obtain⟨B84,d84,rfl,m84⟩:=HS.form 2 rfl;(try simp only [hpn,hpm] at HS);have F:=HS.bx)|((with_reducible refine gd 11 rfl ?_);refine ev_li q103 [2] ([t83.1]:List S103) ([.string t83.1.f0,.int .i64 t83.1.f1,.int .i64 t83.1.f2,.int .i64 t83.1.f3,.int .i64 t83.1.f4,.slice B84 t83.1.f5.length d84,.string t83.1.f6]++ []) HS (MadeL.cons (js1:=[2]) (c:=[.string t83.1.f0,.int .i64 t83.1.f1,.int .i64 t83.1.f2,.int .i64 t83.1.f3,.int .i64 t83.1.f4,.slice B84 t83.1.f5.length d84,.string t83.1.f6]) rfl (fun S hd hh=>q103_pack (x:=t83.1) hd (hh 2 (.own (Zd.slice 133 q133) t83.1.f5 [.slice B84 t83.1.f5.length d84]) rfl) (by decide)) MadeL.nil (by decide)) ?_;clear HS;intro v86 w86 HS F;obtain⟨B86,d86,rfl,m86⟩:=HS.formn 1 3 rfl rfl)|((with_reducible refine gd 12 rfl ?_);refine ev_ap q103 1 3 HS rfl rfl Tryz.underlying45 info103 (of_eq_true c88) ?_;clear HS;intro v89 w89 HS;rw [←e_y89.out] at HS;obtain⟨B89,d89,rfl,m89⟩:=HS.form 4 rfl;(try simp only [hpn,hpm] at HS);have F:=HS.bx)|((with_reducible refine gd 14 rfl ?_);refine ev_lb [0] HS (fun _ HL HA=>spec_l01Once_0.calls ht91.out gp1 lp1 (hV.lend HS HL) HA) Tryz.func98 ?_;clear HS;intro wt91 HS F))
 replace H:=zifb H;rcases H with⟨c93,H⟩|⟨c93,H⟩
 ·
  (try simp only [c93,dcn])
  replace H:=zbind H;obtain⟨t94,ht94,H⟩:=H
  go_upto_if 23 with((with_reducible refine gd 22 rfl ?_);refine ev_lb [0] HS (fun _ HL HA=>spec_l01Once_0.calls ht94.out gp1 lp1 (hV.lend HS HL) HA) Tryz.func98 ?_;clear HS;intro wt94 HS F)
  replace H:=zifb H;rcases H with⟨c96,H⟩|⟨c96,H⟩
  ·
   (try simp only [c96,dcn])
   replace H:=zbind H;obtain⟨t97,ht97,H⟩:=H
   go_upto_if 30 with((with_reducible refine gd 30 rfl ?_);refine ev_lb [0] HS (fun _ HL HA=>spec_l01Once_0.calls ht97.out gp1 lp1 (hV.lend HS HL) HA) Tryz.func98 ?_;clear HS;intro wt97 HS F)
   replace H:=znifb H;rcases H with⟨c99,H⟩|⟨c99,H⟩
   ·
    (try simp only [c99,dcn])
    obtain⟨rfl,rfl⟩:=zsome2 H
    go_wp2
    exact r1 ⟨_,rfl,HS.pi [0,4]⟩
   (try simp only [c99,dcn])
   replace H:=zbind H;obtain⟨t100,ht100,H⟩:=H
   replace H:=zgo H;obtain⟨c105,H⟩:=H
   replace H:=zlets H;obtain⟨y106,e_y106,H⟩:=H
   obtain⟨rfl,rfl⟩:=zsome2 H
   go_wp2_with (first|((with_reducible refine gd 33 rfl ?_);refine ev_lb1 [0] HS (fun _ HL HA=>spec_l10Made_0.calls ht100.out gp1 lp1 (hV.lend HS HL) HA) Tryz.func115 ?_;clear HS;intro v101 wt100 HS F;obtain⟨B101,d101,rfl,m101⟩:=HS.form 5 rfl;(try simp only [hpn,hpm] at HS);have F:=HS.bx)|((with_reducible refine gd 34 rfl ?_);refine ev_li q103 [5] ([t100.1]:List S103) ([.string t100.1.f0,.int .i64 t100.1.f1,.int .i64 t100.1.f2,.int .i64 t100.1.f3,.int .i64 t100.1.f4,.slice B101 t100.1.f5.length d101,.string t100.1.f6]++ []) HS (MadeL.cons (js1:=[5]) (c:=[.string t100.1.f0,.int .i64 t100.1.f1,.int .i64 t100.1.f2,.int .i64 t100.1.f3,.int .i64 t100.1.f4,.slice B101 t100.1.f5.length d101,.string t100.1.f6]) rfl (fun S hd hh=>q103_pack (x:=t100.1) hd (hh 5 (.own (Zd.slice 133 q133) t100.1.f5 [.slice B101 t100.1.f5.length d101]) rfl) (by decide)) MadeL.nil (by decide)) ?_;clear HS;intro v103 w103 HS F;obtain⟨B103,d103,rfl,m103⟩:=HS.formn 1 6 rfl rfl)|((with_reducible refine gd 35 rfl ?_);refine ev_ap q103 4 6 HS rfl rfl Tryz.underlying45 info103 (of_eq_true c105) ?_;clear HS;intro v106 w106 HS;rw [←e_y106.out] at HS;obtain⟨B106,d106,rfl,m106⟩:=HS.form 7 rfl;(try simp only [hpn,hpm] at HS);have F:=HS.bx))
   exact r1 ⟨_,rfl,HS.pi [0,7]⟩
  (try simp only [c96,dcn])
  replace H:=zbind H;obtain⟨t108,ht108,H⟩:=H
  replace H:=zgo H;obtain⟨c113,H⟩:=H
  replace H:=zlets H;obtain⟨y114,e_y114,H⟩:=H
  replace H:=zbind H;obtain⟨t116,ht116,H⟩:=H
  go_upto_if 30 with(first|((with_reducible refine gd 26 rfl ?_);refine ev_lb1 [0] HS (fun _ HL HA=>spec_l10Made_0.calls ht108.out gp1 lp1 (hV.lend HS HL) HA) Tryz.func115 ?_;clear HS;intro v109 wt108 HS F;obtain⟨B109,d109,rfl,m109⟩:=HS.form 5 rfl;(try simp only [hpn,hpm] at HS);have F:=HS.bx)|((with_reducible refine gd 27 rfl ?_);refine ev_li q103 [5] ([t108.1]:List S103) ([.string t108.1.f0,.int .i64 t108.1.f1,.int .i64 t108.1.f2,.int .i64 t108.1.f3,.int .i64 t108.1.f4,.slice B109 t108.1.f5.length d109,.string t108.1.f6]++ []) HS (MadeL.cons (js1:=[5]) (c:=[.string t108.1.f0,.int .i64 t108.1.f1,.int .i64 t108.1.f2,.int .i64 t108.1.f3,.int .i64 t108.1.f4,.slice B109 t108.1.f5.length d109,.string t108.1.f6]) rfl (fun S hd hh=>q103_pack (x:=t108.1) hd (hh 5 (.own (Zd.slice 133 q133) t108.1.f5 [.slice B109 t108.1.f5.length d109]) rfl) (by decide)) MadeL.nil (by decide)) ?_;clear HS;intro v111 w111 HS F;obtain⟨B111,d111,rfl,m111⟩:=HS.formn 1 6 rfl rfl)|((with_reducible refine gd 28 rfl ?_);refine ev_ap q103 4 6 HS rfl rfl Tryz.underlying45 info103 (of_eq_true c113) ?_;clear HS;intro v114 w114 HS;rw [←e_y114.out] at HS;obtain⟨B114,d114,rfl,m114⟩:=HS.form 7 rfl;(try simp only [hpn,hpm] at HS);have F:=HS.bx)|((with_reducible refine gd 30 rfl ?_);refine ev_lb [0] HS (fun _ HL HA=>spec_l01Once_0.calls ht116.out gp1 lp1 (hV.lend HS HL) HA) Tryz.func98 ?_;clear HS;intro wt116 HS F))
  replace H:=znifb H;rcases H with⟨c118,H⟩|⟨c118,H⟩
  ·
   (try simp only [c118,dcn])
   obtain⟨rfl,rfl⟩:=zsome2 H
   go_wp2
   exact r1 ⟨_,rfl,HS.pi [0,7]⟩
  (try simp only [c118,dcn])
  replace H:=zbind H;obtain⟨t119,ht119,H⟩:=H
  replace H:=zgo H;obtain⟨c124,H⟩:=H
  replace H:=zlets H;obtain⟨y125,e_y125,H⟩:=H
  obtain⟨rfl,rfl⟩:=zsome2 H
  go_wp2_with (first|((with_reducible refine gd 33 rfl ?_);refine ev_lb1 [0] HS (fun _ HL HA=>spec_l10Made_0.calls ht119.out gp1 lp1 (hV.lend HS HL) HA) Tryz.func115 ?_;clear HS;intro v120 wt119 HS F;obtain⟨B120,d120,rfl,m120⟩:=HS.form 8 rfl;(try simp only [hpn,hpm] at HS);have F:=HS.bx)|((with_reducible refine gd 34 rfl ?_);refine ev_li q103 [8] ([t119.1]:List S103) ([.string t119.1.f0,.int .i64 t119.1.f1,.int .i64 t119.1.f2,.int .i64 t119.1.f3,.int .i64 t119.1.f4,.slice B120 t119.1.f5.length d120,.string t119.1.f6]++ []) HS (MadeL.cons (js1:=[8]) (c:=[.string t119.1.f0,.int .i64 t119.1.f1,.int .i64 t119.1.f2,.int .i64 t119.1.f3,.int .i64 t119.1.f4,.slice B120 t119.1.f5.length d120,.string t119.1.f6]) rfl (fun S hd hh=>q103_pack (x:=t119.1) hd (hh 8 (.own (Zd.slice 133 q133) t119.1.f5 [.slice B120 t119.1.f5.length d120]) rfl) (by decide)) MadeL.nil (by decide)) ?_;clear HS;intro v122 w122 HS F;obtain⟨B122,d122,rfl,m122⟩:=HS.formn 1 9 rfl rfl)|((with_reducible refine gd 35 rfl ?_);refine ev_ap q103 7 9 HS rfl rfl Tryz.underlying45 info103 (of_eq_true c124) ?_;clear HS;intro v125 w125 HS;rw [←e_y125.out] at HS;obtain⟨B125,d125,rfl,m125⟩:=HS.form 10 rfl;(try simp only [hpn,hpm] at HS);have F:=HS.bx))
  exact r1 ⟨_,rfl,HS.pi [0,10]⟩
 (try simp only [c93,dcn])
 replace H:=zbind H;obtain⟨t127,ht127,H⟩:=H
 replace H:=zgo H;obtain⟨c132,H⟩:=H
 replace H:=zlets H;obtain⟨y133,e_y133,H⟩:=H
 replace H:=zbind H;obtain⟨t135,ht135,H⟩:=H
 go_upto_if 23 with(first|((with_reducible refine gd 18 rfl ?_);refine ev_lb1 [0] HS (fun _ HL HA=>spec_l10Made_0.calls ht127.out gp1 lp1 (hV.lend HS HL) HA) Tryz.func115 ?_;clear HS;intro v128 wt127 HS F;obtain⟨B128,d128,rfl,m128⟩:=HS.form 5 rfl;(try simp only [hpn,hpm] at HS);have F:=HS.bx)|((with_reducible refine gd 19 rfl ?_);refine ev_li q103 [5] ([t127.1]:List S103) ([.string t127.1.f0,.int .i64 t127.1.f1,.int .i64 t127.1.f2,.int .i64 t127.1.f3,.int .i64 t127.1.f4,.slice B128 t127.1.f5.length d128,.string t127.1.f6]++ []) HS (MadeL.cons (js1:=[5]) (c:=[.string t127.1.f0,.int .i64 t127.1.f1,.int .i64 t127.1.f2,.int .i64 t127.1.f3,.int .i64 t127.1.f4,.slice B128 t127.1.f5.length d128,.string t127.1.f6]) rfl (fun S hd hh=>q103_pack (x:=t127.1) hd (hh 5 (.own (Zd.slice 133 q133) t127.1.f5 [.slice B128 t127.1.f5.length d128]) rfl) (by decide)) MadeL.nil (by decide)) ?_;clear HS;intro v130 w130 HS F;obtain⟨B130,d130,rfl,m130⟩:=HS.formn 1 6 rfl rfl)|((with_reducible refine gd 20 rfl ?_);refine ev_ap q103 4 6 HS rfl rfl Tryz.underlying45 info103 (of_eq_true c132) ?_;clear HS;intro v133 w133 HS;rw [←e_y133.out] at HS;obtain⟨B133,d133,rfl,m133⟩:=HS.form 7 rfl;(try simp only [hpn,hpm] at HS);have F:=HS.bx)|((with_reducible refine gd 22 rfl ?_);refine ev_lb [0] HS (fun _ HL HA=>spec_l01Once_0.calls ht135.out gp1 lp1 (hV.lend HS HL) HA) Tryz.func98 ?_;clear HS;intro wt135 HS F))
 replace H:=zifb H;rcases H with⟨c137,H⟩|⟨c137,H⟩
 ·
  (try simp only [c137,dcn])
  replace H:=zbind H;obtain⟨t138,ht138,H⟩:=H
  go_upto_if 30 with((with_reducible refine gd 30 rfl ?_);refine ev_lb [0] HS (fun _ HL HA=>spec_l01Once_0.calls ht138.out gp1 lp1 (hV.lend HS HL) HA) Tryz.func98 ?_;clear HS;intro wt138 HS F)
  replace H:=znifb H;rcases H with⟨c140,H⟩|⟨c140,H⟩
  ·
   (try simp only [c140,dcn])
   obtain⟨rfl,rfl⟩:=zsome2 H
   go_wp2
   exact r1 ⟨_,rfl,HS.pi [0,7]⟩
  (try simp only [c140,dcn])
  replace H:=zbind H;obtain⟨t141,ht141,H⟩:=H
  replace H:=zgo H;obtain⟨c146,H⟩:=H
  replace H:=zlets H;obtain⟨y147,e_y147,H⟩:=H
  obtain⟨rfl,rfl⟩:=zsome2 H
  go_wp2_with (first|((with_reducible refine gd 33 rfl ?_);refine ev_lb1 [0] HS (fun _ HL HA=>spec_l10Made_0.calls ht141.out gp1 lp1 (hV.lend HS HL) HA) Tryz.func115 ?_;clear HS;intro v142 wt141 HS F;obtain⟨B142,d142,rfl,m142⟩:=HS.form 8 rfl;(try simp only [hpn,hpm] at HS);have F:=HS.bx)|((with_reducible refine gd 34 rfl ?_);refine ev_li q103 [8] ([t141.1]:List S103) ([.string t141.1.f0,.int .i64 t141.1.f1,.int .i64 t141.1.f2,.int .i64 t141.1.f3,.int .i64 t141.1.f4,.slice B142 t141.1.f5.length d142,.string t141.1.f6]++ []) HS (MadeL.cons (js1:=[8]) (c:=[.string t141.1.f0,.int .i64 t141.1.f1,.int .i64 t141.1.f2,.int .i64 t141.1.f3,.int .i64 t141.1.f4,.slice B142 t141.1.f5.length d142,.string t141.1.f6]) rfl (fun S hd hh=>q103_pack (x:=t141.1) hd (hh 8 (.own (Zd.slice 133 q133) t141.1.f5 [.slice B142 t141.1.f5.length d142]) rfl) (by decide)) MadeL.nil (by decide)) ?_;clear HS;intro v144 w144 HS F;obtain⟨B144,d144,rfl,m144⟩:=HS.formn 1 9 rfl rfl)|((with_reducible refine gd 35 rfl ?_);refine ev_ap q103 7 9 HS rfl rfl Tryz.underlying45 info103 (of_eq_true c146) ?_;clear HS;intro v147 w147 HS;rw [←e_y147.out] at HS;obtain⟨B147,d147,rfl,m147⟩:=HS.form 10 rfl;(try simp only [hpn,hpm] at HS);have F:=HS.bx))
  exact r1 ⟨_,rfl,HS.pi [0,10]⟩
 (try simp only [c137,dcn])
 replace H:=zbind H;obtain⟨t149,ht149,H⟩:=H
 replace H:=zgo H;obtain⟨c154,H⟩:=H
 replace H:=zlets H;obtain⟨y155,e_y155,H⟩:=H
 replace H:=zbind H;obtain⟨t157,ht157,H⟩:=H
 go_upto_if 30 with(first|((with_reducible refine gd 26 rfl ?_);refine ev_lb1 [0] HS (fun _ HL HA=>spec_l10Made_0.calls ht149.out gp1 lp1 (hV.lend HS HL) HA) Tryz.func115 ?_;clear HS;intro v150 wt149 HS F;obtain⟨B150,d150,rfl,m150⟩:=HS.form 8 rfl;(try simp only [hpn,hpm] at HS);have F:=HS.bx)|((with_reducible refine gd 27 rfl ?_);refine ev_li q103 [8] ([t149.1]:List S103) ([.string t149.1.f0,.int .i64 t149.1.f1,.int .i64 t149.1.f2,.int .i64 t149.1.f3,.int .i64 t149.1.f4,.slice B150 t149.1.f5.length d150,.string t149.1.f6]++ []) HS (MadeL.cons (js1:=[8]) (c:=[.string t149.1.f0,.int .i64 t149.1.f1,.int .i64 t149.1.f2,.int .i64 t149.1.f3,.int .i64 t149.1.f4,.slice B150 t149.1.f5.length d150,.string t149.1.f6]) rfl (fun S hd hh=>q103_pack (x:=t149.1) hd (hh 8 (.own (Zd.slice 133 q133) t149.1.f5 [.slice B150 t149.1.f5.length d150]) rfl) (by decide)) MadeL.nil (by decide)) ?_;clear HS;intro v152 w152 HS F;obtain⟨B152,d152,rfl,m152⟩:=HS.formn 1 9 rfl rfl)|((with_reducible refine gd 28 rfl ?_);refine ev_ap q103 7 9 HS rfl rfl Tryz.underlying45 info103 (of_eq_true c154) ?_;clear HS;intro v155 w155 HS;rw [←e_y155.out] at HS;obtain⟨B155,d155,rfl,m155⟩:=HS.form 10 rfl;(try simp only [hpn,hpm] at HS);have F:=HS.bx)|((with_reducible refine gd 30 rfl ?_);refine ev_lb [0] HS (fun _ HL HA=>spec_l01Once_0.calls ht157.out gp1 lp1 (hV.lend HS HL) HA) Tryz.func98 ?_;clear HS;intro wt157 HS F))
 replace H:=znifb H;rcases H with⟨c159,H⟩|⟨c159,H⟩
 ·
  (try simp only [c159,dcn])
  obtain⟨rfl,rfl⟩:=zsome2 H
  go_wp2
  exact r1 ⟨_,rfl,HS.pi [0,10]⟩
 (try simp only [c159,dcn])
 replace H:=zbind H;obtain⟨t160,ht160,H⟩:=H
 replace H:=zgo H;obtain⟨c165,H⟩:=H
 replace H:=zlets H;obtain⟨y166,e_y166,H⟩:=H
 obtain⟨rfl,rfl⟩:=zsome2 H
 go_wp2_with (first|((with_reducible refine gd 33 rfl ?_);refine ev_lb1 [0] HS (fun _ HL HA=>spec_l10Made_0.calls ht160.out gp1 lp1 (hV.lend HS HL) HA) Tryz.func115 ?_;clear HS;intro v161 wt160 HS F;obtain⟨B161,d161,rfl,m161⟩:=HS.form 11 rfl;(try simp only [hpn,hpm] at HS);have F:=HS.bx)|((with_reducible refine gd 34 rfl ?_);refine ev_li q103 [11] ([t160.1]:List S103) ([.string t160.1.f0,.int .i64 t160.1.f1,.int .i64 t160.1.f2,.int .i64 t160.1.f3,.int .i64 t160.1.f4,.slice B161 t160.1.f5.length d161,.string t160.1.f6]++ []) HS (MadeL.cons (js1:=[11]) (c:=[.string t160.1.f0,.int .i64 t160.1.f1,.int .i64 t160.1.f2,.int .i64 t160.1.f3,.int .i64 t160.1.f4,.slice B161 t160.1.f5.length d161,.string t160.1.f6]) rfl (fun S hd hh=>q103_pack (x:=t160.1) hd (hh 11 (.own (Zd.slice 133 q133) t160.1.f5 [.slice B161 t160.1.f5.length d161]) rfl) (by decide)) MadeL.nil (by decide)) ?_;clear HS;intro v163 w163 HS F;obtain⟨B163,d163,rfl,m163⟩:=HS.formn 1 12 rfl rfl)|((with_reducible refine gd 35 rfl ?_);refine ev_ap q103 10 12 HS rfl rfl Tryz.underlying45 info103 (of_eq_true c165) ?_;clear HS;intro v166 w166 HS;rw [←e_y166.out] at HS;obtain⟨B166,d166,rfl,m166⟩:=HS.form 13 rfl;(try simp only [hpn,hpm] at HS);have F:=HS.bx))
 exact r1 ⟨_,rfl,HS.pi [0,13]⟩
def spec_AddCrl.f (k:Nat)(a0:S48)(a1:S103):Option (S48×Bool):=((spec_l13Copy.f k a0).bind fun t7=>((spec_l10Copy.f a1).bind fun t11=>(if t7.f1.length+1≤1599289640401 then(lets (t7.f1++([t11]:List S103)) fun y16=>((spec_StoreOk.f k (⟨t7.f0,y16,t7.f2⟩:S48)).bind fun t19=>(if t19=true then(some ((⟨t7.f0,y16,t7.f2⟩:S48),true))else((spec_l13Copy.f k a0).bind fun t24=>(some ((⟨t24.f0,t24.f1,t24.f2⟩:S48),false))))))else none)))
def spec_AddCrl.T2:TT:=(true,[([],[]),([0],[0]),([],[]),([2],[2]),([3],[3]),([1,4,3],[1,4]),([0,1,2,3,4,5],[]),([6,5,5,0,1,2,3,4,5],[5,6])])
theorem spec_AddCrl.tT2:rtab .any (opsOf Tryz.f112 2)=spec_AddCrl.T2:=by kernel_rfl
theorem spec_AddCrl.calls {k:Nat}{a0:S48}{a1:S103}{Ap0 Ap1 Ap2 Ap3:Option Addr}{np0 cp0 np1 cp1 np2 cp2 np3 cp3:Nat}{r1:S48}{r2:Bool}{w:World}(h:spec_AddCrl.f k a0 a1=some (r1,r2))(gp0:k125.C w Ap0 np0 a0.f0)(lp0:np0≤cp0)(gp1:k103.C w Ap1 np1 a0.f1)(lp1:np1≤cp1)(gp2:k105.C w Ap2 np2 a0.f2)(lp2:np2≤cp2)(gp3:k133.C w Ap3 np3 a1.f5)(lp3:np3≤cp3):
    Calls Tryz.prog 112 #[.agg #[.slice Ap0 np0 cp0,.slice Ap1 np1 cp1,.slice Ap2 np2 cp2],.agg #[.string a1.f0,.int .i64 a1.f1,.int .i64 a1.f2,.int .i64 a1.f3,.int .i64 a1.f4,.slice Ap3 np3 cp3,.string a1.f6]] w (fun e w'=>∃v0_ v1_ v2_:Value,e=.returned (.tuple #[.agg #[v0_,v1_,v2_],.bool r2])∧Hp noFP w w' [.own (Zd.slice 125 q125) r1.f0 [v0_],.own (Zd.slice 103 q103) r1.f1 [v1_],.own (Zd.slice 105 q105) r1.f2 [v2_]]):=by
 obtain rfl:=C_len gp0
 obtain rfl:=C_len gp1
 obtain rfl:=C_len gp2
 obtain rfl:=C_len gp3
 have HS:=Hp.start w
 have H:=Aside0.mk h
 clear h
 unfold spec_AddCrl.f at H
 go_enter Tryz.func112,Tryz.ntmps112
 replace H:=zbind H;obtain⟨t7,ht7,H⟩:=H
 go_wp2_with (first|((with_reducible refine gd 2 rfl ?_);refine ev_bx HS ?_;clear HS;intro g2 w2 HS F)|((with_reducible refine gd 3 rfl ?_);refine ev_bx HS ?_;clear HS;intro g3 w3 HS F)|((with_reducible refine gd 4 rfl ?_);refine ev_bx HS ?_;clear HS;intro g4 w4 HS F)|((with_reducible refine gd 8 rfl ?_);refine ev_cl3 HS (spec_l13Copy.calls ht7.out (HS.ro gp0) lp0 (HS.ro gp1) lp1 (HS.ro gp2) lp2) Tryz.func66 ?_;clear HS;intro v8 v9 v10 wt7 HS F;obtain⟨B8,d8,rfl,m8⟩:=HS.form 3 rfl;obtain⟨B9,d9,rfl,m9⟩:=HS.form 4 rfl;obtain⟨B10,d10,rfl,m10⟩:=HS.form 5 rfl)|((with_reducible refine gd 6 rfl ?_);refine ev_bx HS ?_;clear HS;intro g6 w6 HS F)|((with_reducible refine gate_store (p:=6) rfl ?_);refine ev_st 6 0 HS (seg:=[.slice B8 t7.f0.length d8,.slice B9 t7.f1.length d9,.slice B10 t7.f2.length d10]) ?_;clear HS;intro w14 HS F))
 replace H:=zbind H;obtain⟨t11,ht11,H⟩:=H
 replace H:=zgo H;obtain⟨c15,H⟩:=H
 replace H:=zlets H;obtain⟨y16,e_y16,H⟩:=H
 refine dr_start2 [.box g2 [.slice Ap0 a0.f0.length cp0,.slice Ap1 a0.f1.length cp1,.slice Ap2 a0.f2.length cp2] 48,.box g3 [.string a1.f0,.int .i64 a1.f1,.int .i64 a1.f2,.int .i64 a1.f3,.int .i64 a1.f4,.slice Ap3 a1.f5.length cp3,.string a1.f6] 103,.box g4 [.slice none 0 0,.slice none 0 0,.slice none 0 0] 48,.own (Zd.slice 125 q125) t7.f0 [.slice B8 t7.f0.length d8],.emp,.own (Zd.slice 105 q105) t7.f2 [.slice B10 t7.f2.length d10],.box g6 [.slice B8 t7.f0.length d8,.slice B9 t7.f1.length d9,.slice B10 t7.f2.length d10] 48] [7] HS (HS.ar [some 0,some 1,some 2,some 3,none,some 5,some 6]) #[false,false,false,false,false,false,false,false] (by kernel_rfl) rfl rfl spec_AddCrl.tT2 (fun w17 HT HS HH=>?_)
 (try clear F)
 refine dqt [0,1,2] HT HH ?_
 refine dr1 3 HT fun K hK=>?_
 refine go_cl1 HS (spec_l10Copy.calls ht11.out (HS.ro gp3) lp3) Tryz.func96 ?_;clear HS;intro v12 wt11 HS F;obtain⟨B12,d12,rfl,m12⟩:=HS.form 7 rfl
 refine nra 12 hK (HS.ar [some 0,some 1,some 2,some 3,none,some 5,some 6]) fun HH=>?_;clear hK K
 refine dr1 4 HT fun K hK=>?_
 refine if_li q103 [7] ([t11]:List S103) ([.string t11.f0,.int .i64 t11.f1,.int .i64 t11.f2,.int .i64 t11.f3,.int .i64 t11.f4,.slice B12 t11.f5.length d12,.string t11.f6]++ []) HS (MadeL.cons (js1:=[7]) (c:=[.string t11.f0,.int .i64 t11.f1,.int .i64 t11.f2,.int .i64 t11.f3,.int .i64 t11.f4,.slice B12 t11.f5.length d12,.string t11.f6]) rfl (fun S hd hh=>q103_pack (x:=t11) hd (hh 7 (.own (Zd.slice 133 q133) t11.f5 [.slice B12 t11.f5.length d12]) rfl) (by decide)) MadeL.nil (by decide)) ?_;clear HS;intro v13 w13 HS F;obtain⟨B13,d13,rfl,m13⟩:=HS.formn 1 8 rfl rfl
 refine nra 13 hK (HS.ar [some 0,some 1,some 2,some 3,none,some 5,some 6]) fun HH=>?_;clear hK K
 refine dr1 5 HT fun K hK=>?_
 refine wp_ap q103 4 8 HS rfl rfl Tryz.underlying45 info103 (of_eq_true c15) ?_;clear HS;intro v16 w16 HS;rw [←e_y16.out] at HS;obtain⟨B16,d16,rfl,m16⟩:=HS.form 9 rfl
 (try simp only [hpn,hpm] at HS)
 have F:=HS.bx
 refine nra 14 hK (HS.ar [some 0,some 1,some 2,some 3,none,some 5,some 6]) fun HH=>?_;clear hK K
 refine dq [6] HT ?_
 refine dl 7 HT fun K hK=>?_
 refine if_st 6 1 HS (seg:=[.slice B16 y16.length d16]) ?_;clear HS;intro w18 HS F
 refine hK.out _ _ ?_
 clear hK K
 refine dn HT ?_
 (try clear F)
 have F:=HS.bx
 replace H:=zbind H;obtain⟨t19,ht19,H⟩:=H
 go_upto_if 18 with((with_reducible refine gd 17 rfl ?_);refine ev_cl HS (spec_StoreOk.calls ht19.out (HS.rd 3 rfl) m8 (HS.rd 9 rfl) m16 (HS.rd 5 rfl) m10) Tryz.func127 ?_;clear HS;intro wt19 HS F)
 replace H:=zifb H;rcases H with⟨c21,H⟩|⟨c21,H⟩
 ·
  subst c21
  (try simp only [dcn,dcu,dcf])
  obtain⟨rfl,rfl⟩:=zsome2 H
  go_wp2_with ((with_reducible refine gate_store (p:=4) rfl ?_);refine ev_st 2 0 HS (seg:=[.slice B8 t7.f0.length d8,.slice B16 y16.length d16,.slice B10 t7.f2.length d10]) ?_;clear HS;intro w22 HS F)
  exact rl rfl (.cell _ _ _ _ _ rfl (HS.boxAt (i:=2) rfl) Tryz.underlying48 rfl (by kernel_rfl) (.tmp .nil)) ⟨_,_,_,rfl,HS.pi [3,9,5]⟩
 subst c21
 (try simp only [dcn,dcu,dcf])
 replace H:=zbind H;obtain⟨t24,ht24,H⟩:=H
 obtain⟨rfl,rfl⟩:=zsome2 H
 go_wp2_with (first|((with_reducible refine gd 20 rfl ?_);refine ev_cl3 HS (spec_l13Copy.calls ht24.out (HS.ro gp0) lp0 (HS.ro gp1) lp1 (HS.ro gp2) lp2) Tryz.func66 ?_;clear HS;intro v25 v26 v27 wt24 HS F;obtain⟨B25,d25,rfl,m25⟩:=HS.form 10 rfl;obtain⟨B26,d26,rfl,m26⟩:=HS.form 11 rfl;obtain⟨B27,d27,rfl,m27⟩:=HS.form 12 rfl)|((with_reducible refine gate_store (p:=4) rfl ?_);refine ev_st 2 0 HS (seg:=[.slice B25 t24.f0.length d25,.slice B26 t24.f1.length d26,.slice B27 t24.f2.length d27]) ?_;clear HS;intro w29 HS F))
 exact rl rfl (.cell _ _ _ _ _ rfl (HS.boxAt (i:=2) rfl) Tryz.underlying48 rfl (by kernel_rfl) (.tmp .nil)) ⟨_,_,_,rfl,HS.pi [10,11,12]⟩
def spec_l12Anchor.f (k:Nat):Option (S105):=((spec_PublicAt.f k 0).bind fun t3=>(some (⟨(⟨#[114,111,111,116]⟩:ByteArray),t3⟩:S105)))
theorem spec_l12Anchor.calls {k:Nat}{r:S105}{w:World}(h:spec_l12Anchor.f k=some r):
    Calls Tryz.prog 88 #[] w (fun e w'=>e=.returned (.agg #[.string r.f0,.string r.f1])∧Hp noFP w w' []):=by
 have HS:=Hp.start w
 have H:=Aside0.mk h
 clear h
 unfold spec_l12Anchor.f at H
 go_enter Tryz.func88,Tryz.ntmps88
 replace H:=zbind H;obtain⟨t3,ht3,H⟩:=H
 obtain rfl:=zsome H
 go_wp2_with (first|((with_reducible refine gd 0 rfl ?_);refine ev_bx HS ?_;clear HS;intro g0 w0 HS F)|((with_reducible refine gd 1 rfl ?_);refine ev_cl HS (spec_PublicAt.calls ht3.out) Tryz.func89 ?_;clear HS;intro wt3 HS F)|((with_reducible refine gate_store (p:=0) rfl ?_);refine ev_st 0 0 HS (seg:=[.string (⟨#[114,111,111,116]⟩:ByteArray),.string t3]) ?_;clear HS;intro w5 HS F))
 exact rc 0 HS Tryz.underlying105 ⟨rfl,HS.pi []⟩
end Go.Proofs.YtfcpjeeeddjakaaGreat.F

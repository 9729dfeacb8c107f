/- Functions of the program and of the law, and that their calls do what is written here. -/
import Derived.Test.YtncddikfafgklaaGreatDoorZgFnExactWaysToc
namespace Go.Proofs.YtncddikfafgklaaGreatDoor.F
open Go.RowKit YtncddikfafgklaaGreatDoorW.PrintWords YtncddikfafgklaaGreatDoorW.PrintLast YtncddikfafgklaaGreatDoorW.PrintMore Z
attribute [local go_sem] max2_int min2_int max_two min_two max_three min_three max_four min_four
set_option linter.unusedVariables false
set_option linter.unusedSimpArgs false
set_option maxRecDepth 100000
set_option maxHeartbeats 16000000
def laws_markStringS.l0:Nat→(List ByteArray)→Int→Int→(List ByteArray)→Option (Int×(List ByteArray))
  |0,_,_,_,_=>none
  |k+1,l21,x23,x24,a0=>(if x24<(a0.length:Int)then((laws_markText.f k x23).bind fun t27=>(if 0≤x24 then(if x24<(a0.length:Int)then(laws_markStringS.l0 k (l21.set (x24).toNat t27) (wrap64 (x23+1)) (wrap64 (x24+1)) a0)else none)else none))else(some (x23,l21)))
def laws_markStringS.f (k:Nat)(a0:(List ByteArray))(a1:Int):Option (Int×(List ByteArray)):=(laws_markStringS.l0 k a0 a1 0 a0)
theorem laws_markStringS.calls {k:Nat}{a0:(List ByteArray)}{a1:Int}{A:FP}{vp0:Value}{r1:Int}{r2:(List ByteArray)}{w:World}(h:laws_markStringS.f k a0 a1=some (r1,r2))(HS:Hp A w w [.own (Zd.slice 9 Zd.string) a0 [vp0]]):
    Calls Tryz.prog 60 #[vp0,.int .i64 a1] w (fun e w'=>e=.returned (.int .i64 r1)∧Hp A w w' [.own (Zd.slice 9 Zd.string) r2 [vp0]]):=by
 obtain⟨B1,d1,rfl,m1⟩:=HS.form 0 rfl
 have H:=Aside0.mk h
 clear h
 unfold laws_markStringS.f at H
 go_enter Tryz.func60,Tryz.ntmps60
 go_wp2
 go_loopg [1,5] k (fun kq v_1 v_5 w'=>∃(l21:List ByteArray) (x23:Int) (x24:Int),v_1=.int .i64 x23∧v_5=.int .i64 x24∧Aside0 (laws_markStringS.l0 kq l21 x23 x24 a0=some (r1,r2))∧Aside0 (kq≤k)∧Hp A w w' [.own (Zd.slice 9 Zd.string) l21 [.slice B1 a0.length d1]])
 case atStart=>exact⟨_,_,_,rfl,rfl,H,⟨Nat.le_refl _⟩,HS⟩
 case round=>
  clear HS H;(try clear F)
  obtain⟨l21,x23,x24,rfl,rfl,H,HKk20,HS⟩:=hrel
  cases gk with
  |zero=>exact absurd H.out (by simp [laws_markStringS.l0])
  | succ k20=>
   simp only [laws_markStringS.l0] at H
   replace H:=znif H;rcases H with⟨c26,H⟩|⟨c26,H⟩
   ·
    obtain⟨rfl,rfl⟩:=zsome2 H
    go_wp2
    go_ret
    exact⟨rfl,HS.pi [0]⟩
   replace H:=zbind H;obtain⟨t27,ht27,H⟩:=H
   replace H:=zgo H;obtain⟨c29,H⟩:=H
   replace H:=zgo H;obtain⟨c30,H⟩:=H
   go_wp2_with (first|((with_reducible refine gd 15 rfl ?_);refine ev_cl HS (laws_markText.calls ht27.out) Tryz.func112 ?_;clear HS;intro wt27 HS F;obtain⟨ad31,rfl,e31_0⟩:=Kd.at_string (HS.rd 0 rfl) x24 (of_eq_true c29) (of_eq_true c30))|((with_reducible refine gate_store (p:=16) rfl ?_);refine ev_set rfl Zd.string 0 [] x24 t27 HS (seg:=[.string t27]) rfl (by decide) rfl rfl rfl (by first|rfl|exact(Nat.mul_one _).symm) rfl rfl (by kernel_rfl) (by simp [Value.oneCell']) ⟨of_eq_true c29,of_eq_true c30⟩ rfl (made_flat (fun _=>rfl)) ?_;clear HS;intro w32 HS;(try simp only [hpn,hpm] at HS)))
   go_roundg k20
   case measure=>have:=HKk20.out;omega
   case rel=>exact⟨_,_,_,rfl,rfl,H,⟨by have:=HKk20.out;omega⟩,HS.pi [0]⟩
def laws_markCertS.l0:Nat→(List S41)→Int→Int→(List S41)→Option (Int×(List S41))
  |0,_,_,_,_=>none
  |k+1,l76,x78,x79,a0=>(if x79<(a0.length:Int)then(if 0≤x79 then(if x79<(a0.length:Int)then(lets (l76.set (x79).toNat (u41_0_3 (rd_T41 l76 x79) x78)) fun y86=>((laws_markText.f k (wrap64 (x78+1))).bind fun t88=>(lets (y86.set (x79).toNat (u41_1_9 (rd_T41 y86 x79) t88)) fun y92=>((laws_markText.f k (wrap64 ((wrap64 (x78+1))+1))).bind fun t94=>(lets (y92.set (x79).toNat (u41_2_9 (rd_T41 y92 x79) t94)) fun y98=>(lets (y98.set (x79).toNat (u41_3_3 (rd_T41 y98 x79) (wrap64 ((wrap64 ((wrap64 (x78+1))+1))+1)))) fun y102=>(lets (y102.set (x79).toNat (u41_4_3 (rd_T41 y102 x79) (wrap64 ((wrap64 ((wrap64 ((wrap64 (x78+1))+1))+1))+1)))) fun y106=>((laws_markText.f k (wrap64 ((wrap64 ((wrap64 ((wrap64 ((wrap64 (x78+1))+1))+1))+1))+1))).bind fun t108=>(lets (y106.set (x79).toNat (u41_5_9 (rd_T41 y106 x79) t108)) fun y112=>(lets (y112.set (x79).toNat (u41_6_4 (rd_T41 y112 x79) ((Int.tmod (wrap64 ((wrap64 ((wrap64 ((wrap64 ((wrap64 ((wrap64 (x78+1))+1))+1))+1))+1))+1)) 3)==0))) fun y116=>(lets (y116.set (x79).toNat (u41_7_3 (rd_T41 y116 x79) (wrap64 ((wrap64 ((wrap64 ((wrap64 ((wrap64 ((wrap64 ((wrap64 (x78+1))+1))+1))+1))+1))+1))+1)))) fun y120=>(lets (y120.set (x79).toNat (u41_8_3 (rd_T41 y120 x79) (wrap64 ((wrap64 ((wrap64 ((wrap64 ((wrap64 ((wrap64 ((wrap64 ((wrap64 (x78+1))+1))+1))+1))+1))+1))+1))+1)))) fun y124=>((laws_markIntS.f k ((rd_T41 y124 x79).f9) (wrap64 ((wrap64 ((wrap64 ((wrap64 ((wrap64 ((wrap64 ((wrap64 ((wrap64 ((wrap64 (x78+1))+1))+1))+1))+1))+1))+1))+1))+1))).bind fun t127=>(lets (y124.set (x79).toNat (u41_9_27 (rd_T41 y124 x79) t127.2)) fun y128=>((laws_markStringS.f k ((rd_T41 y128 x79).f10) t127.1).bind fun t131=>(lets (y128.set (x79).toNat (u41_10_28 (rd_T41 y128 x79) t131.2)) fun y132=>((laws_markStringS.f k ((rd_T41 y132 x79).f11) t131.1).bind fun t135=>(lets (y132.set (x79).toNat (u41_11_28 (rd_T41 y132 x79) t135.2)) fun y136=>((laws_markText.f k t135.1).bind fun t138=>(lets (y136.set (x79).toNat (u41_12_9 (rd_T41 y136 x79) t138)) fun y142=>(laws_markCertS.l0 k y142 (wrap64 (t135.1+1)) (wrap64 (x79+1)) a0)))))))))))))))))))))else none)else none)else(some (x78,l76)))
def laws_markCertS.f (k:Nat)(a0:(List S41))(a1:Int):Option (Int×(List S41)):=(laws_markCertS.l0 k a0 a1 0 a0)
theorem laws_markCertS.calls {k:Nat}{a0:(List S41)}{a1:Int}{A:FP}{vp0:Value}{r1:Int}{r2:(List S41)}{w:World}(h:laws_markCertS.f k a0 a1=some (r1,r2))(HS:Hp A w w [.own (Zd.slice 41 q41) a0 [vp0]]):
    Calls Tryz.prog 56 #[vp0,.int .i64 a1] w (fun e w'=>e=.returned (.int .i64 r1)∧Hp A w w' [.own (Zd.slice 41 q41) r2 [vp0]]):=by
 obtain⟨B1,d1,rfl,m1⟩:=HS.form 0 rfl
 have H:=Aside0.mk h
 clear h
 unfold laws_markCertS.f at H
 go_enter Tryz.func56,Tryz.ntmps56
 go_wp2
 go_loopg [1,5] k (fun kq v_1 v_5 w'=>∃(l76:List S41) (x78:Int) (x79:Int),v_1=.int .i64 x78∧v_5=.int .i64 x79∧Aside0 (laws_markCertS.l0 kq l76 x78 x79 a0=some (r1,r2))∧Aside0 (kq≤k)∧Hp A w w' [.own (Zd.slice 41 q41) l76 [.slice B1 a0.length d1]])
 case atStart=>exact⟨_,_,_,rfl,rfl,H,⟨Nat.le_refl _⟩,HS⟩
 case round=>
  clear HS H;(try clear F)
  obtain⟨l76,x78,x79,rfl,rfl,H,HKk75,HS⟩:=hrel
  cases gk with
  |zero=>exact absurd H.out (by simp [laws_markCertS.l0])
  | succ k75=>
   simp only [laws_markCertS.l0] at H
   replace H:=znif H;rcases H with⟨c81,H⟩|⟨c81,H⟩
   ·
    obtain⟨rfl,rfl⟩:=zsome2 H
    go_wp2
    go_ret
    exact⟨rfl,HS.pi [0]⟩
   replace H:=zgo H;obtain⟨c82,H⟩:=H
   replace H:=zgo H;obtain⟨c83,H⟩:=H
   obtain⟨ad84,B84_9,d84_9,B84_10,d84_10,B84_11,d84_11,rfl,e84_0,e84_1,e84_2,e84_3,e84_4,e84_5,e84_6,e84_7,e84_8,e84_9,e84_10,e84_11,e84_12,m84_9,y84_9,m84_10,y84_10,m84_11,y84_11⟩:=at_T41 (HS.rd 0 rfl) x79 (of_eq_true c82) (of_eq_true c83)
   replace H:=zlets H;obtain⟨y86,e_y86,H⟩:=H
   replace H:=zbind H;obtain⟨t88,ht88,H⟩:=H
   replace H:=zlets H;obtain⟨y92,e_y92,H⟩:=H
   replace H:=zbind H;obtain⟨t94,ht94,H⟩:=H
   replace H:=zlets H;obtain⟨y98,e_y98,H⟩:=H
   replace H:=zlets H;obtain⟨y102,e_y102,H⟩:=H
   replace H:=zlets H;obtain⟨y106,e_y106,H⟩:=H
   replace H:=zbind H;obtain⟨t108,ht108,H⟩:=H
   replace H:=zlets H;obtain⟨y112,e_y112,H⟩:=H
   replace H:=zlets H;obtain⟨y116,e_y116,H⟩:=H
   replace H:=zlets H;obtain⟨y120,e_y120,H⟩:=H
   replace H:=zlets H;obtain⟨y124,e_y124,H⟩:=H
   replace H:=zbind H;obtain⟨t127,ht127,H⟩:=H
   replace H:=zlets H;obtain⟨y128,e_y128,H⟩:=H
   replace H:=zbind H;obtain⟨t131,ht131,H⟩:=H
   replace H:=zlets H;obtain⟨y132,e_y132,H⟩:=H
   replace H:=zbind H;obtain⟨t135,ht135,H⟩:=H
   replace H:=zlets H;obtain⟨y136,e_y136,H⟩:=H
   replace H:=zbind H;obtain⟨t138,ht138,H⟩:=H
   replace H:=zlets H;obtain⟨y142,e_y142,H⟩:=H
   go_wp2_with (first|((with_reducible refine gate_store (p:=16) rfl ?_);refine ev_sp lens41_0_3 0 [] x79 (rd_T41 l76 x79) x78 HS (ad:=ad84) (seg:=[.int .i64 x78]) (of_eq_true c82) (of_eq_true c83) (fun hl=>rd_T41_get hl) (made_flat (fun _=>rfl)) ?_;clear HS;intro w85 HS;rw [←e_y86.out] at HS;(try simp only [hpn,hpm] at HS))|((with_reducible refine gd 22 rfl ?_);refine ev_cl HS (laws_markText.calls ht88.out) Tryz.func112 ?_;clear HS;intro wt88 HS F;obtain⟨ad90,B90_9,d90_9,B90_10,d90_10,B90_11,d90_11,hq90,e90_0,e90_1,e90_2,e90_3,e90_4,e90_5,e90_6,e90_7,e90_8,e90_9,e90_10,e90_11,e90_12,m90_9,y90_9,m90_10,y90_10,m90_11,y90_11⟩:=at_T41 (HS.rd 0 rfl) x79 (of_eq_true c82) (of_eq_true c83);obtain rfl:=Option.some.inj hq90)|((with_reducible refine gate_store (p:=24) rfl ?_);refine ev_sp lens41_1_9 0 [] x79 (rd_T41 y86 x79) t88 HS (ad:=ad84) (seg:=[.string t88]) (of_eq_true c82) (of_eq_true c83) (fun hl=>rd_T41_get hl) (made_flat (fun _=>rfl)) ?_;clear HS;intro w91 HS;rw [←e_y92.out] at HS;(try simp only [hpn,hpm] at HS))|((with_reducible refine gd 30 rfl ?_);refine ev_cl HS (laws_markText.calls ht94.out) Tryz.func112 ?_;clear HS;intro wt94 HS F;obtain⟨ad96,B96_9,d96_9,B96_10,d96_10,B96_11,d96_11,hq96,e96_0,e96_1,e96_2,e96_3,e96_4,e96_5,e96_6,e96_7,e96_8,e96_9,e96_10,e96_11,e96_12,m96_9,y96_9,m96_10,y96_10,m96_11,y96_11⟩:=at_T41 (HS.rd 0 rfl) x79 (of_eq_true c82) (of_eq_true c83);obtain rfl:=Option.some.inj hq96)|((with_reducible refine gate_store (p:=32) rfl ?_);refine ev_sp lens41_2_9 0 [] x79 (rd_T41 y92 x79) t94 HS (ad:=ad84) (seg:=[.string t94]) (of_eq_true c82) (of_eq_true c83) (fun hl=>rd_T41_get hl) (made_flat (fun _=>rfl)) ?_;clear HS;intro w97 HS;rw [←e_y98.out] at HS;(try simp only [hpn,hpm] at HS);obtain⟨ad100,B100_9,d100_9,B100_10,d100_10,B100_11,d100_11,hq100,e100_0,e100_1,e100_2,e100_3,e100_4,e100_5,e100_6,e100_7,e100_8,e100_9,e100_10,e100_11,e100_12,m100_9,y100_9,m100_10,y100_10,m100_11,y100_11⟩:=at_T41 (HS.rd 0 rfl) x79 (of_eq_true c82) (of_eq_true c83);obtain rfl:=Option.some.inj hq100)|((with_reducible refine gate_store (p:=39) rfl ?_);refine ev_sp lens41_3_3 0 [] x79 (rd_T41 y98 x79) (wrap64 ((wrap64 ((wrap64 (x78+1))+1))+1)) HS (ad:=ad84) (seg:=[.int .i64 (wrap64 ((wrap64 ((wrap64 (x78+1))+1))+1))]) (of_eq_true c82) (of_eq_true c83) (fun hl=>rd_T41_get hl) (made_flat (fun _=>rfl)) ?_;clear HS;intro w101 HS;rw [←e_y102.out] at HS;(try simp only [hpn,hpm] at HS);obtain⟨ad104,B104_9,d104_9,B104_10,d104_10,B104_11,d104_11,hq104,e104_0,e104_1,e104_2,e104_3,e104_4,e104_5,e104_6,e104_7,e104_8,e104_9,e104_10,e104_11,e104_12,m104_9,y104_9,m104_10,y104_10,m104_11,y104_11⟩:=at_T41 (HS.rd 0 rfl) x79 (of_eq_true c82) (of_eq_true c83);obtain rfl:=Option.some.inj hq104)|((with_reducible refine gate_store (p:=46) rfl ?_);refine ev_sp lens41_4_3 0 [] x79 (rd_T41 y102 x79) (wrap64 ((wrap64 ((wrap64 ((wrap64 (x78+1))+1))+1))+1)) HS (ad:=ad84) (seg:=[.int .i64 (wrap64 ((wrap64 ((wrap64 ((wrap64 (x78+1))+1))+1))+1))]) (of_eq_true c82) (of_eq_true c83) (fun hl=>rd_T41_get hl) (made_flat (fun _=>rfl)) ?_;clear HS;intro w105 HS;rw [←e_y106.out] at HS;(try simp only [hpn,hpm] at HS))|((with_reducible refine gd 52 rfl ?_);refine ev_cl HS (laws_markText.calls ht108.out) Tryz.func112 ?_;clear HS;intro wt108 HS F;obtain⟨ad110,B110_9,d110_9,B110_10,d110_10,B110_11,d110_11,hq110,e110_0,e110_1,e110_2,e110_3,e110_4,e110_5,e110_6,e110_7,e110_8,e110_9,e110_10,e110_11,e110_12,m110_9,y110_9,m110_10,y110_10,m110_11,y110_11⟩:=at_T41 (HS.rd 0 rfl) x79 (of_eq_true c82) (of_eq_true c83);obtain rfl:=Option.some.inj hq110)|((with_reducible refine gate_store (p:=54) rfl ?_);refine ev_sp lens41_5_9 0 [] x79 (rd_T41 y106 x79) t108 HS (ad:=ad84) (seg:=[.string t108]) (of_eq_true c82) (of_eq_true c83) (fun hl=>rd_T41_get hl) (made_flat (fun _=>rfl)) ?_;clear HS;intro w111 HS;rw [←e_y112.out] at HS;(try simp only [hpn,hpm] at HS);obtain⟨ad114,B114_9,d114_9,B114_10,d114_10,B114_11,d114_11,hq114,e114_0,e114_1,e114_2,e114_3,e114_4,e114_5,e114_6,e114_7,e114_8,e114_9,e114_10,e114_11,e114_12,m114_9,y114_9,m114_10,y114_10,m114_11,y114_11⟩:=at_T41 (HS.rd 0 rfl) x79 (of_eq_true c82) (of_eq_true c83);obtain rfl:=Option.some.inj hq114)|((with_reducible refine gate_store (p:=63) rfl ?_);refine ev_sp lens41_6_4 0 [] x79 (rd_T41 y112 x79) ((Int.tmod (wrap64 ((wrap64 ((wrap64 ((wrap64 ((wrap64 ((wrap64 (x78+1))+1))+1))+1))+1))+1)) 3)==0) HS (ad:=ad84) (seg:=[.bool ((Int.tmod (wrap64 ((wrap64 ((wrap64 ((wrap64 ((wrap64 ((wrap64 (x78+1))+1))+1))+1))+1))+1)) 3)==0)]) (of_eq_true c82) (of_eq_true c83) (fun hl=>rd_T41_get hl) (made_flat (fun _=>rfl)) ?_;clear HS;intro w115 HS;rw [←e_y116.out] at HS;(try simp only [hpn,hpm] at HS);obtain⟨ad118,B118_9,d118_9,B118_10,d118_10,B118_11,d118_11,hq118,e118_0,e118_1,e118_2,e118_3,e118_4,e118_5,e118_6,e118_7,e118_8,e118_9,e118_10,e118_11,e118_12,m118_9,y118_9,m118_10,y118_10,m118_11,y118_11⟩:=at_T41 (HS.rd 0 rfl) x79 (of_eq_true c82) (of_eq_true c83);obtain rfl:=Option.some.inj hq118)|((with_reducible refine gate_store (p:=70) rfl ?_);refine ev_sp lens41_7_3 0 [] x79 (rd_T41 y116 x79) (wrap64 ((wrap64 ((wrap64 ((wrap64 ((wrap64 ((wrap64 ((wrap64 (x78+1))+1))+1))+1))+1))+1))+1)) HS (ad:=ad84) (seg:=[.int .i64 (wrap64 ((wrap64 ((wrap64 ((wrap64 ((wrap64 ((wrap64 ((wrap64 (x78+1))+1))+1))+1))+1))+1))+1))]) (of_eq_true c82) (of_eq_true c83) (fun hl=>rd_T41_get hl) (made_flat (fun _=>rfl)) ?_;clear HS;intro w119 HS;rw [←e_y120.out] at HS;(try simp only [hpn,hpm] at HS);obtain⟨ad122,B122_9,d122_9,B122_10,d122_10,B122_11,d122_11,hq122,e122_0,e122_1,e122_2,e122_3,e122_4,e122_5,e122_6,e122_7,e122_8,e122_9,e122_10,e122_11,e122_12,m122_9,y122_9,m122_10,y122_10,m122_11,y122_11⟩:=at_T41 (HS.rd 0 rfl) x79 (of_eq_true c82) (of_eq_true c83);obtain rfl:=Option.some.inj hq122)|((with_reducible refine gate_store (p:=77) rfl ?_);refine ev_sp lens41_8_3 0 [] x79 (rd_T41 y120 x79) (wrap64 ((wrap64 ((wrap64 ((wrap64 ((wrap64 ((wrap64 ((wrap64 ((wrap64 (x78+1))+1))+1))+1))+1))+1))+1))+1)) HS (ad:=ad84) (seg:=[.int .i64 (wrap64 ((wrap64 ((wrap64 ((wrap64 ((wrap64 ((wrap64 ((wrap64 ((wrap64 (x78+1))+1))+1))+1))+1))+1))+1))+1))]) (of_eq_true c82) (of_eq_true c83) (fun hl=>rd_T41_get hl) (made_flat (fun _=>rfl)) ?_;clear HS;intro w123 HS;rw [←e_y124.out] at HS;(try simp only [hpn,hpm] at HS);obtain⟨ad126,B126_9,d126_9,B126_10,d126_10,B126_11,d126_11,hq126,e126_0,e126_1,e126_2,e126_3,e126_4,e126_5,e126_6,e126_7,e126_8,e126_9,e126_10,e126_11,e126_12,m126_9,y126_9,m126_10,y126_10,m126_11,y126_11⟩:=at_T41 (HS.rd 0 rfl) x79 (of_eq_true c82) (of_eq_true c83);obtain rfl:=Option.some.inj hq126)|((with_reducible refine gd 86 rfl ?_);refine HS.lend_el 0 x79 rfl lens41_9_27 (of_eq_true c82) (of_eq_true c83) e126_9 (by rintro g rfl;simp only [add_plain];refine congrArg (fun n=>(⟨g,n,none⟩:Addr)) ?_;first|rfl|omega) (fun hl=>rd_T41_get hl) (fun A' HL HA HB=>?_);refine ev_lc (laws_markIntS.calls ht127.out HA) (fun _ HQ=>HB _ _ _ HQ) Tryz.func59 ?_;clear HS HA HB HL;intro wt127 HS F;rw [←e_y128.out] at HS;(try simp only [hpn,hpm] at HS);obtain⟨ad130,B130_9,d130_9,B130_10,d130_10,B130_11,d130_11,hq130,e130_0,e130_1,e130_2,e130_3,e130_4,e130_5,e130_6,e130_7,e130_8,e130_9,e130_10,e130_11,e130_12,m130_9,y130_9,m130_10,y130_10,m130_11,y130_11⟩:=at_T41 (HS.rd 0 rfl) x79 (of_eq_true c82) (of_eq_true c83);obtain rfl:=Option.some.inj hq130)|((with_reducible refine gd 93 rfl ?_);refine HS.lend_el 0 x79 rfl lens41_10_28 (of_eq_true c82) (of_eq_true c83) e130_10 (by rintro g rfl;simp only [add_plain];refine congrArg (fun n=>(⟨g,n,none⟩:Addr)) ?_;first|rfl|omega) (fun hl=>rd_T41_get hl) (fun A' HL HA HB=>?_);refine ev_lc (laws_markStringS.calls ht131.out HA) (fun _ HQ=>HB _ _ _ HQ) Tryz.func60 ?_;clear HS HA HB HL;intro wt131 HS F;rw [←e_y132.out] at HS;(try simp only [hpn,hpm] at HS);obtain⟨ad134,B134_9,d134_9,B134_10,d134_10,B134_11,d134_11,hq134,e134_0,e134_1,e134_2,e134_3,e134_4,e134_5,e134_6,e134_7,e134_8,e134_9,e134_10,e134_11,e134_12,m134_9,y134_9,m134_10,y134_10,m134_11,y134_11⟩:=at_T41 (HS.rd 0 rfl) x79 (of_eq_true c82) (of_eq_true c83);obtain rfl:=Option.some.inj hq134)|((with_reducible refine gd 100 rfl ?_);refine HS.lend_el 0 x79 rfl lens41_11_28 (of_eq_true c82) (of_eq_true c83) e134_11 (by rintro g rfl;simp only [add_plain];refine congrArg (fun n=>(⟨g,n,none⟩:Addr)) ?_;first|rfl|omega) (fun hl=>rd_T41_get hl) (fun A' HL HA HB=>?_);refine ev_lc (laws_markStringS.calls ht135.out HA) (fun _ HQ=>HB _ _ _ HQ) Tryz.func60 ?_;clear HS HA HB HL;intro wt135 HS F;rw [←e_y136.out] at HS;(try simp only [hpn,hpm] at HS))|((with_reducible refine gd 104 rfl ?_);refine ev_cl HS (laws_markText.calls ht138.out) Tryz.func112 ?_;clear HS;intro wt138 HS F;obtain⟨ad140,B140_9,d140_9,B140_10,d140_10,B140_11,d140_11,hq140,e140_0,e140_1,e140_2,e140_3,e140_4,e140_5,e140_6,e140_7,e140_8,e140_9,e140_10,e140_11,e140_12,m140_9,y140_9,m140_10,y140_10,m140_11,y140_11⟩:=at_T41 (HS.rd 0 rfl) x79 (of_eq_true c82) (of_eq_true c83);obtain rfl:=Option.some.inj hq140)|((with_reducible refine gate_store (p:=106) rfl ?_);refine ev_sp lens41_12_9 0 [] x79 (rd_T41 y136 x79) t138 HS (ad:=ad84) (seg:=[.string t138]) (of_eq_true c82) (of_eq_true c83) (fun hl=>rd_T41_get hl) (made_flat (fun _=>rfl)) ?_;clear HS;intro w141 HS;rw [←e_y142.out] at HS;(try simp only [hpn,hpm] at HS)))
   go_roundg k75
   case measure=>have:=HKk75.out;omega
   case rel=>exact⟨_,_,_,rfl,rfl,H,⟨by have:=HKk75.out;omega⟩,HS.pi [0]⟩
def laws_markRevS.l0:Nat→(List S163)→Int→Int→(List S163)→Option (Int×(List S163))
  |0,_,_,_,_=>none
  |k+1,l24,x26,x27,a0=>(if x27<(a0.length:Int)then(if 0≤x27 then(if x27<(a0.length:Int)then(lets (l24.set (x27).toNat (u163_0_3 (rd_T163 l24 x27) x26)) fun y34=>(lets (y34.set (x27).toNat (u163_1_3 (rd_T163 y34 x27) (wrap64 (x26+1)))) fun y38=>(laws_markRevS.l0 k y38 (wrap64 ((wrap64 (x26+1))+1)) (wrap64 (x27+1)) a0)))else none)else none)else(some (x26,l24)))
def laws_markRevS.f (k:Nat)(a0:(List S163))(a1:Int):Option (Int×(List S163)):=(laws_markRevS.l0 k a0 a1 0 a0)
theorem laws_markRevS.calls {k:Nat}{a0:(List S163)}{a1:Int}{A:FP}{vp0:Value}{r1:Int}{r2:(List S163)}{w:World}(h:laws_markRevS.f k a0 a1=some (r1,r2))(HS:Hp A w w [.own (Zd.slice 163 q163) a0 [vp0]]):
    Calls Tryz.prog 113 #[vp0,.int .i64 a1] w (fun e w'=>e=.returned (.int .i64 r1)∧Hp A w w' [.own (Zd.slice 163 q163) r2 [vp0]]):=by
 obtain⟨B1,d1,rfl,m1⟩:=HS.form 0 rfl
 have H:=Aside0.mk h
 clear h
 unfold laws_markRevS.f at H
 go_enter Tryz.func113,Tryz.ntmps113
 go_wp2
 go_loopg [1,5] k (fun kq v_1 v_5 w'=>∃(l24:List S163) (x26:Int) (x27:Int),v_1=.int .i64 x26∧v_5=.int .i64 x27∧Aside0 (laws_markRevS.l0 kq l24 x26 x27 a0=some (r1,r2))∧Aside0 (kq≤k)∧Hp A w w' [.own (Zd.slice 163 q163) l24 [.slice B1 a0.length d1]])
 case atStart=>exact⟨_,_,_,rfl,rfl,H,⟨Nat.le_refl _⟩,HS⟩
 case round=>
  clear HS H;(try clear F)
  obtain⟨l24,x26,x27,rfl,rfl,H,HKk23,HS⟩:=hrel
  cases gk with
  |zero=>exact absurd H.out (by simp [laws_markRevS.l0])
  | succ k23=>
   simp only [laws_markRevS.l0] at H
   replace H:=znif H;rcases H with⟨c29,H⟩|⟨c29,H⟩
   ·
    obtain⟨rfl,rfl⟩:=zsome2 H
    go_wp2
    go_ret
    exact⟨rfl,HS.pi [0]⟩
   replace H:=zgo H;obtain⟨c30,H⟩:=H
   replace H:=zgo H;obtain⟨c31,H⟩:=H
   obtain⟨ad32,rfl,e32_0,e32_1⟩:=at_T163 (HS.rd 0 rfl) x27 (of_eq_true c30) (of_eq_true c31)
   replace H:=zlets H;obtain⟨y34,e_y34,H⟩:=H
   replace H:=zlets H;obtain⟨y38,e_y38,H⟩:=H
   go_wp2_with (first|((with_reducible refine gate_store (p:=16) rfl ?_);refine ev_sp lens163_0_3 0 [] x27 (rd_T163 l24 x27) x26 HS (ad:=ad32) (seg:=[.int .i64 x26]) (of_eq_true c30) (of_eq_true c31) (fun hl=>rd_T163_get hl) (made_flat (fun _=>rfl)) ?_;clear HS;intro w33 HS;rw [←e_y34.out] at HS;(try simp only [hpn,hpm] at HS);obtain⟨ad36,hq36,e36_0,e36_1⟩:=at_T163 (HS.rd 0 rfl) x27 (of_eq_true c30) (of_eq_true c31);obtain rfl:=Option.some.inj hq36)|((with_reducible refine gate_store (p:=23) rfl ?_);refine ev_sp lens163_1_3 0 [] x27 (rd_T163 y34 x27) (wrap64 (x26+1)) HS (ad:=ad32) (seg:=[.int .i64 (wrap64 (x26+1))]) (of_eq_true c30) (of_eq_true c31) (fun hl=>rd_T163_get hl) (made_flat (fun _=>rfl)) ?_;clear HS;intro w37 HS;rw [←e_y38.out] at HS;(try simp only [hpn,hpm] at HS)))
   go_roundg k23
   case measure=>have:=HKk23.out;omega
   case rel=>exact⟨_,_,_,rfl,rfl,H,⟨by have:=HKk23.out;omega⟩,HS.pi [0]⟩
def laws_markCrlS.l0:Nat→(List S69)→Int→Int→(List S69)→Option (Int×(List S69))
  |0,_,_,_,_=>none
  |k+1,l48,x50,x51,a0=>(if x51<(a0.length:Int)then((laws_markText.f k x50).bind fun t54=>(if 0≤x51 then(if x51<(a0.length:Int)then(lets (l48.set (x51).toNat (u69_0_9 (rd_T69 l48 x51) t54)) fun y60=>(lets (y60.set (x51).toNat (u69_1_3 (rd_T69 y60 x51) (wrap64 (x50+1)))) fun y64=>(lets (y64.set (x51).toNat (u69_2_3 (rd_T69 y64 x51) (wrap64 ((wrap64 (x50+1))+1)))) fun y68=>(lets (y68.set (x51).toNat (u69_3_3 (rd_T69 y68 x51) (wrap64 ((wrap64 ((wrap64 (x50+1))+1))+1)))) fun y72=>(lets (y72.set (x51).toNat (u69_4_3 (rd_T69 y72 x51) (wrap64 ((wrap64 ((wrap64 ((wrap64 (x50+1))+1))+1))+1)))) fun y76=>((laws_markRevS.f k ((rd_T69 y76 x51).f5) (wrap64 ((wrap64 ((wrap64 ((wrap64 ((wrap64 (x50+1))+1))+1))+1))+1))).bind fun t79=>(lets (y76.set (x51).toNat (u69_5_67 (rd_T69 y76 x51) t79.2)) fun y80=>((laws_markText.f k t79.1).bind fun t82=>(lets (y80.set (x51).toNat (u69_6_9 (rd_T69 y80 x51) t82)) fun y86=>(laws_markCrlS.l0 k y86 (wrap64 (t79.1+1)) (wrap64 (x51+1)) a0))))))))))else none)else none))else(some (x50,l48)))
def laws_markCrlS.f (k:Nat)(a0:(List S69))(a1:Int):Option (Int×(List S69)):=(laws_markCrlS.l0 k a0 a1 0 a0)
theorem laws_markCrlS.calls {k:Nat}{a0:(List S69)}{a1:Int}{A:FP}{vp0:Value}{r1:Int}{r2:(List S69)}{w:World}(h:laws_markCrlS.f k a0 a1=some (r1,r2))(HS:Hp A w w [.own (Zd.slice 69 q69) a0 [vp0]]):
    Calls Tryz.prog 57 #[vp0,.int .i64 a1] w (fun e w'=>e=.returned (.int .i64 r1)∧Hp A w w' [.own (Zd.slice 69 q69) r2 [vp0]]):=by
 obtain⟨B1,d1,rfl,m1⟩:=HS.form 0 rfl
 have H:=Aside0.mk h
 clear h
 unfold laws_markCrlS.f at H
 go_enter Tryz.func57,Tryz.ntmps57
 go_wp2
 go_loopg [1,5] k (fun kq v_1 v_5 w'=>∃(l48:List S69) (x50:Int) (x51:Int),v_1=.int .i64 x50∧v_5=.int .i64 x51∧Aside0 (laws_markCrlS.l0 kq l48 x50 x51 a0=some (r1,r2))∧Aside0 (kq≤k)∧Hp A w w' [.own (Zd.slice 69 q69) l48 [.slice B1 a0.length d1]])
 case atStart=>exact⟨_,_,_,rfl,rfl,H,⟨Nat.le_refl _⟩,HS⟩
 case round=>
  clear HS H;(try clear F)
  obtain⟨l48,x50,x51,rfl,rfl,H,HKk47,HS⟩:=hrel
  cases gk with
  |zero=>exact absurd H.out (by simp [laws_markCrlS.l0])
  | succ k47=>
   simp only [laws_markCrlS.l0] at H
   replace H:=znif H;rcases H with⟨c53,H⟩|⟨c53,H⟩
   ·
    obtain⟨rfl,rfl⟩:=zsome2 H
    go_wp2
    go_ret
    exact⟨rfl,HS.pi [0]⟩
   replace H:=zbind H;obtain⟨t54,ht54,H⟩:=H
   replace H:=zgo H;obtain⟨c56,H⟩:=H
   replace H:=zgo H;obtain⟨c57,H⟩:=H
   replace H:=zlets H;obtain⟨y60,e_y60,H⟩:=H
   replace H:=zlets H;obtain⟨y64,e_y64,H⟩:=H
   replace H:=zlets H;obtain⟨y68,e_y68,H⟩:=H
   replace H:=zlets H;obtain⟨y72,e_y72,H⟩:=H
   replace H:=zlets H;obtain⟨y76,e_y76,H⟩:=H
   replace H:=zbind H;obtain⟨t79,ht79,H⟩:=H
   replace H:=zlets H;obtain⟨y80,e_y80,H⟩:=H
   replace H:=zbind H;obtain⟨t82,ht82,H⟩:=H
   replace H:=zlets H;obtain⟨y86,e_y86,H⟩:=H
   go_wp2_with (first|((with_reducible refine gd 15 rfl ?_);refine ev_cl HS (laws_markText.calls ht54.out) Tryz.func112 ?_;clear HS;intro wt54 HS F;obtain⟨ad58,B58_5,d58_5,rfl,e58_0,e58_1,e58_2,e58_3,e58_4,e58_5,e58_6,m58_5,y58_5⟩:=at_T69 (HS.rd 0 rfl) x51 (of_eq_true c56) (of_eq_true c57))|((with_reducible refine gate_store (p:=17) rfl ?_);refine ev_sp lens69_0_9 0 [] x51 (rd_T69 l48 x51) t54 HS (ad:=ad58) (seg:=[.string t54]) (of_eq_true c56) (of_eq_true c57) (fun hl=>rd_T69_get hl) (made_flat (fun _=>rfl)) ?_;clear HS;intro w59 HS;rw [←e_y60.out] at HS;(try simp only [hpn,hpm] at HS);obtain⟨ad62,B62_5,d62_5,hq62,e62_0,e62_1,e62_2,e62_3,e62_4,e62_5,e62_6,m62_5,y62_5⟩:=at_T69 (HS.rd 0 rfl) x51 (of_eq_true c56) (of_eq_true c57);obtain rfl:=Option.some.inj hq62)|((with_reducible refine gate_store (p:=24) rfl ?_);refine ev_sp lens69_1_3 0 [] x51 (rd_T69 y60 x51) (wrap64 (x50+1)) HS (ad:=ad58) (seg:=[.int .i64 (wrap64 (x50+1))]) (of_eq_true c56) (of_eq_true c57) (fun hl=>rd_T69_get hl) (made_flat (fun _=>rfl)) ?_;clear HS;intro w63 HS;rw [←e_y64.out] at HS;(try simp only [hpn,hpm] at HS);obtain⟨ad66,B66_5,d66_5,hq66,e66_0,e66_1,e66_2,e66_3,e66_4,e66_5,e66_6,m66_5,y66_5⟩:=at_T69 (HS.rd 0 rfl) x51 (of_eq_true c56) (of_eq_true c57);obtain rfl:=Option.some.inj hq66)|((with_reducible refine gate_store (p:=31) rfl ?_);refine ev_sp lens69_2_3 0 [] x51 (rd_T69 y64 x51) (wrap64 ((wrap64 (x50+1))+1)) HS (ad:=ad58) (seg:=[.int .i64 (wrap64 ((wrap64 (x50+1))+1))]) (of_eq_true c56) (of_eq_true c57) (fun hl=>rd_T69_get hl) (made_flat (fun _=>rfl)) ?_;clear HS;intro w67 HS;rw [←e_y68.out] at HS;(try simp only [hpn,hpm] at HS);obtain⟨ad70,B70_5,d70_5,hq70,e70_0,e70_1,e70_2,e70_3,e70_4,e70_5,e70_6,m70_5,y70_5⟩:=at_T69 (HS.rd 0 rfl) x51 (of_eq_true c56) (of_eq_true c57);obtain rfl:=Option.some.inj hq70)|((with_reducible refine gate_store (p:=38) rfl ?_);refine ev_sp lens69_3_3 0 [] x51 (rd_T69 y68 x51) (wrap64 ((wrap64 ((wrap64 (x50+1))+1))+1)) HS (ad:=ad58) (seg:=[.int .i64 (wrap64 ((wrap64 ((wrap64 (x50+1))+1))+1))]) (of_eq_true c56) (of_eq_true c57) (fun hl=>rd_T69_get hl) (made_flat (fun _=>rfl)) ?_;clear HS;intro w71 HS;rw [←e_y72.out] at HS;(try simp only [hpn,hpm] at HS);obtain⟨ad74,B74_5,d74_5,hq74,e74_0,e74_1,e74_2,e74_3,e74_4,e74_5,e74_6,m74_5,y74_5⟩:=at_T69 (HS.rd 0 rfl) x51 (of_eq_true c56) (of_eq_true c57);obtain rfl:=Option.some.inj hq74)|((with_reducible refine gate_store (p:=45) rfl ?_);refine ev_sp lens69_4_3 0 [] x51 (rd_T69 y72 x51) (wrap64 ((wrap64 ((wrap64 ((wrap64 (x50+1))+1))+1))+1)) HS (ad:=ad58) (seg:=[.int .i64 (wrap64 ((wrap64 ((wrap64 ((wrap64 (x50+1))+1))+1))+1))]) (of_eq_true c56) (of_eq_true c57) (fun hl=>rd_T69_get hl) (made_flat (fun _=>rfl)) ?_;clear HS;intro w75 HS;rw [←e_y76.out] at HS;(try simp only [hpn,hpm] at HS);obtain⟨ad78,B78_5,d78_5,hq78,e78_0,e78_1,e78_2,e78_3,e78_4,e78_5,e78_6,m78_5,y78_5⟩:=at_T69 (HS.rd 0 rfl) x51 (of_eq_true c56) (of_eq_true c57);obtain rfl:=Option.some.inj hq78)|((with_reducible refine gd 54 rfl ?_);refine HS.lend_el 0 x51 rfl lens69_5_67 (of_eq_true c56) (of_eq_true c57) e78_5 (by rintro g rfl;simp only [add_plain];refine congrArg (fun n=>(⟨g,n,none⟩:Addr)) ?_;first|rfl|omega) (fun hl=>rd_T69_get hl) (fun A' HL HA HB=>?_);refine ev_lc (laws_markRevS.calls ht79.out HA) (fun _ HQ=>HB _ _ _ HQ) Tryz.func113 ?_;clear HS HA HB HL;intro wt79 HS F;rw [←e_y80.out] at HS;(try simp only [hpn,hpm] at HS))|((with_reducible refine gd 58 rfl ?_);refine ev_cl HS (laws_markText.calls ht82.out) Tryz.func112 ?_;clear HS;intro wt82 HS F;obtain⟨ad84,B84_5,d84_5,hq84,e84_0,e84_1,e84_2,e84_3,e84_4,e84_5,e84_6,m84_5,y84_5⟩:=at_T69 (HS.rd 0 rfl) x51 (of_eq_true c56) (of_eq_true c57);obtain rfl:=Option.some.inj hq84)|((with_reducible refine gate_store (p:=60) rfl ?_);refine ev_sp lens69_6_9 0 [] x51 (rd_T69 y80 x51) t82 HS (ad:=ad58) (seg:=[.string t82]) (of_eq_true c56) (of_eq_true c57) (fun hl=>rd_T69_get hl) (made_flat (fun _=>rfl)) ?_;clear HS;intro w85 HS;rw [←e_y86.out] at HS;(try simp only [hpn,hpm] at HS)))
   go_roundg k47
   case measure=>have:=HKk47.out;omega
   case rel=>exact⟨_,_,_,rfl,rfl,H,⟨by have:=HKk47.out;omega⟩,HS.pi [0]⟩
def laws_markAnchorS.l0:Nat→(List S57)→Int→Int→(List S57)→Option (Int×(List S57))
  |0,_,_,_,_=>none
  |k+1,l28,x30,x31,a0=>(if x31<(a0.length:Int)then((laws_markText.f k x30).bind fun t34=>(if 0≤x31 then(if x31<(a0.length:Int)then(lets (l28.set (x31).toNat (u57_0_9 (rd_T57 l28 x31) t34)) fun y40=>((laws_markText.f k (wrap64 (x30+1))).bind fun t42=>(lets (y40.set (x31).toNat (u57_1_9 (rd_T57 y40 x31) t42)) fun y46=>(laws_markAnchorS.l0 k y46 (wrap64 ((wrap64 (x30+1))+1)) (wrap64 (x31+1)) a0))))else none)else none))else(some (x30,l28)))
def laws_markAnchorS.f (k:Nat)(a0:(List S57))(a1:Int):Option (Int×(List S57)):=(laws_markAnchorS.l0 k a0 a1 0 a0)
theorem laws_markAnchorS.calls {k:Nat}{a0:(List S57)}{a1:Int}{A:FP}{vp0:Value}{r1:Int}{r2:(List S57)}{w:World}(h:laws_markAnchorS.f k a0 a1=some (r1,r2))(HS:Hp A w w [.own (Zd.slice 57 q57) a0 [vp0]]):
    Calls Tryz.prog 58 #[vp0,.int .i64 a1] w (fun e w'=>e=.returned (.int .i64 r1)∧Hp A w w' [.own (Zd.slice 57 q57) r2 [vp0]]):=by
 obtain⟨B1,d1,rfl,m1⟩:=HS.form 0 rfl
 have H:=Aside0.mk h
 clear h
 unfold laws_markAnchorS.f at H
 go_enter Tryz.func58,Tryz.ntmps58
 go_wp2
 go_loopg [1,5] k (fun kq v_1 v_5 w'=>∃(l28:List S57) (x30:Int) (x31:Int),v_1=.int .i64 x30∧v_5=.int .i64 x31∧Aside0 (laws_markAnchorS.l0 kq l28 x30 x31 a0=some (r1,r2))∧Aside0 (kq≤k)∧Hp A w w' [.own (Zd.slice 57 q57) l28 [.slice B1 a0.length d1]])
 case atStart=>exact⟨_,_,_,rfl,rfl,H,⟨Nat.le_refl _⟩,HS⟩
 case round=>
  clear HS H;(try clear F)
  obtain⟨l28,x30,x31,rfl,rfl,H,HKk27,HS⟩:=hrel
  cases gk with
  |zero=>exact absurd H.out (by simp [laws_markAnchorS.l0])
  | succ k27=>
   simp only [laws_markAnchorS.l0] at H
   replace H:=znif H;rcases H with⟨c33,H⟩|⟨c33,H⟩
   ·
    obtain⟨rfl,rfl⟩:=zsome2 H
    go_wp2
    go_ret
    exact⟨rfl,HS.pi [0]⟩
   replace H:=zbind H;obtain⟨t34,ht34,H⟩:=H
   replace H:=zgo H;obtain⟨c36,H⟩:=H
   replace H:=zgo H;obtain⟨c37,H⟩:=H
   replace H:=zlets H;obtain⟨y40,e_y40,H⟩:=H
   replace H:=zbind H;obtain⟨t42,ht42,H⟩:=H
   replace H:=zlets H;obtain⟨y46,e_y46,H⟩:=H
   go_wp2_with (first|((with_reducible refine gd 15 rfl ?_);refine ev_cl HS (laws_markText.calls ht34.out) Tryz.func112 ?_;clear HS;intro wt34 HS F;obtain⟨ad38,rfl,e38_0,e38_1⟩:=at_T57 (HS.rd 0 rfl) x31 (of_eq_true c36) (of_eq_true c37))|((with_reducible refine gate_store (p:=17) rfl ?_);refine ev_sp lens57_0_9 0 [] x31 (rd_T57 l28 x31) t34 HS (ad:=ad38) (seg:=[.string t34]) (of_eq_true c36) (of_eq_true c37) (fun hl=>rd_T57_get hl) (made_flat (fun _=>rfl)) ?_;clear HS;intro w39 HS;rw [←e_y40.out] at HS;(try simp only [hpn,hpm] at HS))|((with_reducible refine gd 23 rfl ?_);refine ev_cl HS (laws_markText.calls ht42.out) Tryz.func112 ?_;clear HS;intro wt42 HS F;obtain⟨ad44,hq44,e44_0,e44_1⟩:=at_T57 (HS.rd 0 rfl) x31 (of_eq_true c36) (of_eq_true c37);obtain rfl:=Option.some.inj hq44)|((with_reducible refine gate_store (p:=25) rfl ?_);refine ev_sp lens57_1_9 0 [] x31 (rd_T57 y40 x31) t42 HS (ad:=ad38) (seg:=[.string t42]) (of_eq_true c36) (of_eq_true c37) (fun hl=>rd_T57_get hl) (made_flat (fun _=>rfl)) ?_;clear HS;intro w45 HS;rw [←e_y46.out] at HS;(try simp only [hpn,hpm] at HS)))
   go_roundg k27
   case measure=>have:=HKk27.out;omega
   case rel=>exact⟨_,_,_,rfl,rfl,H,⟨by have:=HKk27.out;omega⟩,HS.pi [0]⟩
def laws_markStore.f (k:Nat)(a0:S39)(a1:Int):Option (Int×(List S41)×(List S69)×(List S57)):=((laws_markCertS.f k a0.f0 a1).bind fun t6=>((laws_markCrlS.f k a0.f1 t6.1).bind fun t8=>((laws_markAnchorS.f k a0.f2 t8.1).bind fun t10=>(some (t10.1,t6.2,t8.2,t10.2)))))
theorem laws_markStore.calls {k:Nat}{a0:S39}{a1:Int}{A:FP}{vp0:Value}{vp1:Value}{vp2:Value}{r1:Int}{r2:(List S41)}{r3:(List S69)}{r4:(List S57)}{w:World}(h:laws_markStore.f k a0 a1=some (r1,r2,r3,r4))(HS:Hp A w w [.own (Zd.slice 41 q41) a0.f0 [vp0],.own (Zd.slice 69 q69) a0.f1 [vp1],.own (Zd.slice 57 q57) a0.f2 [vp2]]):
    Calls Tryz.prog 15 #[.agg #[vp0,vp1,vp2],.int .i64 a1] w (fun e w'=>e=.returned (.int .i64 r1)∧Hp A w w' [.own (Zd.slice 41 q41) r2 [vp0],.own (Zd.slice 69 q69) r3 [vp1],.own (Zd.slice 57 q57) r4 [vp2]]):=by
 obtain⟨B1,d1,rfl,m1⟩:=HS.form 0 rfl
 obtain⟨B2,d2,rfl,m2⟩:=HS.form 1 rfl
 obtain⟨B3,d3,rfl,m3⟩:=HS.form 2 rfl
 have H:=Aside0.mk h
 clear h
 unfold laws_markStore.f at H
 go_enter Tryz.func15,Tryz.ntmps15
 replace H:=zbind H;obtain⟨t6,ht6,H⟩:=H
 replace H:=zbind H;obtain⟨t8,ht8,H⟩:=H
 replace H:=zbind H;obtain⟨t10,ht10,H⟩:=H
 have H:=zsome H;simp only [Prod.mk.injEq] at H;obtain⟨rfl,rfl,rfl,rfl⟩:=H
 go_wp2_with (first|((with_reducible refine gd 2 rfl ?_);refine ev_bx HS ?_;clear HS;intro g2 w2 HS F)|((with_reducible refine gd 8 rfl ?_);refine ev_lb [0] HS (fun _ _ HA=>laws_markCertS.calls ht6.out HA) Tryz.func56 ?_;clear HS;intro wt6 HS F)|((with_reducible refine gd 12 rfl ?_);refine ev_lb [1] HS (fun _ _ HA=>laws_markCrlS.calls ht8.out HA) Tryz.func57 ?_;clear HS;intro wt8 HS F)|((with_reducible refine gd 16 rfl ?_);refine ev_lb [2] HS (fun _ _ HA=>laws_markAnchorS.calls ht10.out HA) Tryz.func58 ?_;clear HS;intro wt10 HS F))
 go_ret
 exact⟨rfl,HS.pi [0,1,2]⟩
def laws_markCert.f (k:Nat)(a0:S41)(a1:Int):Option (Int×(List Int)×(List ByteArray)×(List ByteArray)):=((laws_markIntS.f k a0.f9 a1).bind fun t6=>((laws_markStringS.f k a0.f10 t6.1).bind fun t8=>((laws_markStringS.f k a0.f11 t8.1).bind fun t10=>(some (t10.1,t6.2,t8.2,t10.2)))))
theorem laws_markCert.calls {k:Nat}{a0:S41}{a1:Int}{A:FP}{vp0:Value}{vp1:Value}{vp2:Value}{r1:Int}{r2:(List Int)}{r3:(List ByteArray)}{r4:(List ByteArray)}{w:World}(h:laws_markCert.f k a0 a1=some (r1,r2,r3,r4))(HS:Hp A w w [.own (Zd.slice 3 (Zd.int .i64)) a0.f9 [vp0],.own (Zd.slice 9 Zd.string) a0.f10 [vp1],.own (Zd.slice 9 Zd.string) a0.f11 [vp2]]):
    Calls Tryz.prog 16 #[.agg #[.int .i64 a0.f0,.string a0.f1,.string a0.f2,.int .i64 a0.f3,.int .i64 a0.f4,.string a0.f5,.bool a0.f6,.int .i64 a0.f7,.int .i64 a0.f8,vp0,vp1,vp2,.string a0.f12],.int .i64 a1] w (fun e w'=>e=.returned (.int .i64 r1)∧Hp A w w' [.own (Zd.slice 3 (Zd.int .i64)) r2 [vp0],.own (Zd.slice 9 Zd.string) r3 [vp1],.own (Zd.slice 9 Zd.string) r4 [vp2]]):=by
 obtain⟨B1,d1,rfl,m1⟩:=HS.form 0 rfl
 obtain⟨B2,d2,rfl,m2⟩:=HS.form 1 rfl
 obtain⟨B3,d3,rfl,m3⟩:=HS.form 2 rfl
 have H:=Aside0.mk h
 clear h
 unfold laws_markCert.f at H
 go_enter Tryz.func16,Tryz.ntmps16
 replace H:=zbind H;obtain⟨t6,ht6,H⟩:=H
 replace H:=zbind H;obtain⟨t8,ht8,H⟩:=H
 replace H:=zbind H;obtain⟨t10,ht10,H⟩:=H
 have H:=zsome H;simp only [Prod.mk.injEq] at H;obtain⟨rfl,rfl,rfl,rfl⟩:=H
 go_wp2_with (first|((with_reducible refine gd 2 rfl ?_);refine ev_bx HS ?_;clear HS;intro g2 w2 HS F)|((with_reducible refine gd 8 rfl ?_);refine ev_lb [0] HS (fun _ _ HA=>laws_markIntS.calls ht6.out HA) Tryz.func59 ?_;clear HS;intro wt6 HS F)|((with_reducible refine gd 12 rfl ?_);refine ev_lb [1] HS (fun _ _ HA=>laws_markStringS.calls ht8.out HA) Tryz.func60 ?_;clear HS;intro wt8 HS F)|((with_reducible refine gd 16 rfl ?_);refine ev_lb [2] HS (fun _ _ HA=>laws_markStringS.calls ht10.out HA) Tryz.func60 ?_;clear HS;intro wt10 HS F))
 go_ret
 exact⟨rfl,HS.pi [0,1,2]⟩
def laws_markWayS.l0:Nat→(List S59)→Int→Int→(List S59)→Option (Int×(List S59))
  |0,_,_,_,_=>none
  |k+1,l24,x26,x27,a0=>(if x27<(a0.length:Int)then(if 0≤x27 then(if x27<(a0.length:Int)then(lets (l24.set (x27).toNat (u59_0_3 (rd_T59 l24 x27) x26)) fun y34=>((laws_markCertS.f k ((rd_T59 y34 x27).f1) (wrap64 (x26+1))).bind fun t37=>(lets (y34.set (x27).toNat (u59_1_35 (rd_T59 y34 x27) t37.2)) fun y38=>(laws_markWayS.l0 k y38 t37.1 (wrap64 (x27+1)) a0))))else none)else none)else(some (x26,l24)))
def laws_markWayS.f (k:Nat)(a0:(List S59))(a1:Int):Option (Int×(List S59)):=(laws_markWayS.l0 k a0 a1 0 a0)
theorem laws_markWayS.calls {k:Nat}{a0:(List S59)}{a1:Int}{A:FP}{vp0:Value}{r1:Int}{r2:(List S59)}{w:World}(h:laws_markWayS.f k a0 a1=some (r1,r2))(HS:Hp A w w [.own (Zd.slice 59 q59) a0 [vp0]]):
    Calls Tryz.prog 17 #[vp0,.int .i64 a1] w (fun e w'=>e=.returned (.int .i64 r1)∧Hp A w w' [.own (Zd.slice 59 q59) r2 [vp0]]):=by
 obtain⟨B1,d1,rfl,m1⟩:=HS.form 0 rfl
 have H:=Aside0.mk h
 clear h
 unfold laws_markWayS.f at H
 go_enter Tryz.func17,Tryz.ntmps17
 go_wp2
 go_loopg [1,5] k (fun kq v_1 v_5 w'=>∃(l24:List S59) (x26:Int) (x27:Int),v_1=.int .i64 x26∧v_5=.int .i64 x27∧Aside0 (laws_markWayS.l0 kq l24 x26 x27 a0=some (r1,r2))∧Aside0 (kq≤k)∧Hp A w w' [.own (Zd.slice 59 q59) l24 [.slice B1 a0.length d1]])
 case atStart=>exact⟨_,_,_,rfl,rfl,H,⟨Nat.le_refl _⟩,HS⟩
 case round=>
  clear HS H;(try clear F)
  obtain⟨l24,x26,x27,rfl,rfl,H,HKk23,HS⟩:=hrel
  cases gk with
  |zero=>exact absurd H.out (by simp [laws_markWayS.l0])
  | succ k23=>
   simp only [laws_markWayS.l0] at H
   replace H:=znif H;rcases H with⟨c29,H⟩|⟨c29,H⟩
   ·
    obtain⟨rfl,rfl⟩:=zsome2 H
    go_wp2
    go_ret
    exact⟨rfl,HS.pi [0]⟩
   replace H:=zgo H;obtain⟨c30,H⟩:=H
   replace H:=zgo H;obtain⟨c31,H⟩:=H
   obtain⟨ad32,B32_1,d32_1,rfl,e32_0,e32_1,m32_1,y32_1⟩:=at_T59 (HS.rd 0 rfl) x27 (of_eq_true c30) (of_eq_true c31)
   replace H:=zlets H;obtain⟨y34,e_y34,H⟩:=H
   replace H:=zbind H;obtain⟨t37,ht37,H⟩:=H
   replace H:=zlets H;obtain⟨y38,e_y38,H⟩:=H
   go_wp2_with (first|((with_reducible refine gate_store (p:=16) rfl ?_);refine ev_sp lens59_0_3 0 [] x27 (rd_T59 l24 x27) x26 HS (ad:=ad32) (seg:=[.int .i64 x26]) (of_eq_true c30) (of_eq_true c31) (fun hl=>rd_T59_get hl) (made_flat (fun _=>rfl)) ?_;clear HS;intro w33 HS;rw [←e_y34.out] at HS;(try simp only [hpn,hpm] at HS);obtain⟨ad36,B36_1,d36_1,hq36,e36_0,e36_1,m36_1,y36_1⟩:=at_T59 (HS.rd 0 rfl) x27 (of_eq_true c30) (of_eq_true c31);obtain rfl:=Option.some.inj hq36)|((with_reducible refine gd 25 rfl ?_);refine HS.lend_el 0 x27 rfl lens59_1_35 (of_eq_true c30) (of_eq_true c31) e36_1 (by rintro g rfl;simp only [add_plain];refine congrArg (fun n=>(⟨g,n,none⟩:Addr)) ?_;first|rfl|omega) (fun hl=>rd_T59_get hl) (fun A' HL HA HB=>?_);refine ev_lc (laws_markCertS.calls ht37.out HA) (fun _ HQ=>HB _ _ _ HQ) Tryz.func56 ?_;clear HS HA HB HL;intro wt37 HS F;rw [←e_y38.out] at HS;(try simp only [hpn,hpm] at HS)))
   go_roundg k23
   case measure=>have:=HKk23.out;omega
   case rel=>exact⟨_,_,_,rfl,rfl,H,⟨by have:=HKk23.out;omega⟩,HS.pi [0]⟩
def laws_heldIntS.l0:Nat→Int→Int→(List Int)→Option (Int)
  |0,_,_,_=>none
  |k+1,x11,x12,a0=>(if x12<(a0.length:Int)then(if 0≤x12 then(if x12<(a0.length:Int)then(if(rd a0 x12)=x11 then(laws_heldIntS.l0 k (wrap64 (x11+1)) (wrap64 (x12+1)) a0)else(some (-1)))else none)else none)else(some x11))
def laws_heldIntS.f (k:Nat)(a0:(List Int))(a1:Int):Option (Int):=(laws_heldIntS.l0 k a1 0 a0)
theorem laws_heldIntS.calls {k:Nat}{a0:(List Int)}{a1:Int}{Ap0:Option Addr}{np0 cp0:Nat}{r:Int}{w:World}(h:laws_heldIntS.f k a0 a1=some r)(gp0:(Kd.int .i64).C w Ap0 np0 a0)(lp0:np0≤cp0):
    Calls Tryz.prog 114 #[.slice Ap0 np0 cp0,.int .i64 a1] w (fun e w'=>e=.returned (.int .i64 r)∧Hp noFP w w' []):=by
 obtain rfl:=C_len gp0
 have HS:=Hp.start w
 have H:=Aside0.mk h
 clear h
 unfold laws_heldIntS.f at H
 go_enter Tryz.func114,Tryz.ntmps114
 go_wp2
 go_loopg [1,5] k (fun kq v_1 v_5 w'=>∃(x11:Int) (x12:Int),v_1=.int .i64 x11∧v_5=.int .i64 x12∧Aside0 (laws_heldIntS.l0 kq x11 x12 a0=some r)∧Aside0 (kq≤k)∧Hp noFP w w' [])
 case atStart=>exact⟨_,_,rfl,rfl,H,⟨Nat.le_refl _⟩,HS⟩
 case round=>
  clear HS H;(try clear F)
  obtain⟨x11,x12,rfl,rfl,H,HKk10,HS⟩:=hrel
  cases gk with
  |zero=>exact absurd H.out (by simp [laws_heldIntS.l0])
  | succ k10=>
   simp only [laws_heldIntS.l0] at H
   replace H:=znif H;rcases H with⟨c14,H⟩|⟨c14,H⟩
   ·
    obtain rfl:=zsome H
    go_wp2
    go_ret
    exact HS.pk
   replace H:=zgo H;obtain⟨c15,H⟩:=H
   replace H:=zgo H;obtain⟨c16,H⟩:=H
   obtain⟨ad17,rfl,e17_0⟩:=Kd.at_int gp0 x12 (of_eq_true c15) (of_eq_true c16)
   have e17_0_17:=HS.keepc e17_0
   replace H:=znif' H;rcases H with⟨c18,H⟩|⟨c18,H⟩
   ·
    obtain⟨c18a,c18b⟩:=nq c18;clear c18
    obtain rfl:=zsome H
    go_wp2
    go_ret
    exact HS.pk
   obtain⟨c18a,c18b⟩:=bq c18;clear c18
   go_wp2
   go_roundg k10
   case measure=>have:=HKk10.out;omega
   case rel=>exact⟨_,_,rfl,rfl,H,⟨by have:=HKk10.out;omega⟩,HS.pi []⟩
def laws_heldStringS.l0:Nat→Int→Int→(List ByteArray)→Option (Int)
  |0,_,_,_=>none
  |k+1,x9,x10,a0=>(if x10<(a0.length:Int)then(if 0≤x10 then(if x10<(a0.length:Int)then((laws_markText.f k x9).bind fun t11=>(if(rdOf ByteArray.empty a0 x10).toList=t11.toList then(laws_heldStringS.l0 k (wrap64 (x9+1)) (wrap64 (x10+1)) a0)else(some (-1))))else none)else none)else(some x9))
def laws_heldStringS.f (k:Nat)(a0:(List ByteArray))(a1:Int):Option (Int):=(laws_heldStringS.l0 k a1 0 a0)
def laws_heldStringS.T4:TT:=(true,[([],[]),([],[]),([0,1],[0,1]),([2],[2]),([],[]),([4],[4]),([3,5],[3,5])])
theorem laws_heldStringS.tT4:rtab .any (opsOf Tryz.f115 4)=laws_heldStringS.T4:=by kernel_rfl
theorem laws_heldStringS.calls {k:Nat}{a0:(List ByteArray)}{a1:Int}{Ap0:Option Addr}{np0 cp0:Nat}{r:Int}{w:World}(h:laws_heldStringS.f k a0 a1=some r)(gp0:Kd.string.C w Ap0 np0 a0)(lp0:np0≤cp0):
    Calls Tryz.prog 115 #[.slice Ap0 np0 cp0,.int .i64 a1] w (fun e w'=>e=.returned (.int .i64 r)∧Hp noFP w w' []):=by
 obtain rfl:=C_len gp0
 have HS:=Hp.start w
 have H:=Aside0.mk h
 clear h
 unfold laws_heldStringS.f at H
 go_enter Tryz.func115,Tryz.ntmps115
 go_wp2
 go_loopg [1,5] k (fun kq v_1 v_5 w'=>∃(x9:Int) (x10:Int),v_1=.int .i64 x9∧v_5=.int .i64 x10∧Aside0 (laws_heldStringS.l0 kq x9 x10 a0=some r)∧Aside0 (kq≤k)∧Hp noFP w w' [])
 case atStart=>exact⟨_,_,rfl,rfl,H,⟨Nat.le_refl _⟩,HS⟩
 case round=>
  clear HS H;(try clear F)
  obtain⟨x9,x10,rfl,rfl,H,HKk8,HS⟩:=hrel
  cases gk with
  |zero=>exact absurd H.out (by simp [laws_heldStringS.l0])
  | succ k8=>
   simp only [laws_heldStringS.l0] at H
   replace H:=znif H;rcases H with⟨c12,H⟩|⟨c12,H⟩
   ·
    obtain rfl:=zsome H
    go_wp2
    go_ret
    exact HS.pk
   (try go_wp2)
   replace H:=zgo H;obtain⟨c3,H⟩:=H
   replace H:=zgo H;obtain⟨c6,H⟩:=H
   obtain⟨ad7,rfl,e7_0⟩:=Kd.at_string gp0 x10 (of_eq_true c3) (of_eq_true c6)
   replace H:=zbind H;obtain⟨t11,ht11,H⟩:=H
   refine dr_start [] HS #[false,false,false,false,false,false,false] (by kernel_rfl) rfl rfl laws_heldStringS.tT4 (fun w14 HT HS HH=>?_)
   (try clear F)
   refine dq [0,1,2] HT ?_
   refine dtk 3 15 HT HH rfl (by rintro w' ⟨rs',HS'⟩;have e7_0:=HS'.keepc e7_0;go_simp;with_reducible rfl) ?_
   refine dq [4] HT ?_
   refine dr1 5 HT fun K hK=>?_
   refine go_cl HS (laws_markText.calls ht11.out) Tryz.func112 ?_;clear HS;intro wt11 HS F
   refine nrm 17 hK ⟨_,HS⟩ fun HH=>?_;clear hK K
   refine dq [6] HT ?_
   refine dn HT ?_
   replace H:=znif' H;rcases H with⟨c16,H⟩|⟨c16,H⟩
   ·
    obtain⟨c16a,c16b⟩:=nq c16;clear c16
    (try simp only [c16a,c16b,dcn])
    obtain rfl:=zsome H
    go_wp2
    go_ret
    exact HS.pk
   obtain⟨c16a,c16b⟩:=bq c16;clear c16
   (try simp only [c16a,c16b,dcn])
   go_wp2
   go_roundg k8
   case measure=>have:=HKk8.out;omega
   case rel=>exact⟨_,_,rfl,rfl,H,⟨by have:=HKk8.out;omega⟩,HS.pi []⟩
def laws_heldCertS.l0:Nat→Int→Int→(List S41)→Option (Int)
  |0,_,_,_=>none
  |k+1,x11,x12,a0=>(if x12<(a0.length:Int)then(if 0≤x12 then(if x12<(a0.length:Int)then(if(rd_T41 a0 x12).f0=x11 then((laws_markText.f k (wrap64 (x11+1))).bind fun t13=>(if((rd_T41 a0 x12).f1).toList=t13.toList then((laws_markText.f k (wrap64 ((wrap64 (x11+1))+1))).bind fun t21=>(if((rd_T41 a0 x12).f2).toList=t21.toList then(if(rd_T41 a0 x12).f3=(wrap64 ((wrap64 ((wrap64 (x11+1))+1))+1))then(if(rd_T41 a0 x12).f4=(wrap64 ((wrap64 ((wrap64 ((wrap64 (x11+1))+1))+1))+1))then((laws_markText.f k (wrap64 ((wrap64 ((wrap64 ((wrap64 ((wrap64 (x11+1))+1))+1))+1))+1))).bind fun t23=>(if((rd_T41 a0 x12).f5).toList=t23.toList then(if(rd_T41 a0 x12).f6=((Int.tmod (wrap64 ((wrap64 ((wrap64 ((wrap64 ((wrap64 ((wrap64 (x11+1))+1))+1))+1))+1))+1)) 3)==0)then(if(rd_T41 a0 x12).f7=(wrap64 ((wrap64 ((wrap64 ((wrap64 ((wrap64 ((wrap64 ((wrap64 (x11+1))+1))+1))+1))+1))+1))+1))then(if(rd_T41 a0 x12).f8=(wrap64 ((wrap64 ((wrap64 ((wrap64 ((wrap64 ((wrap64 ((wrap64 ((wrap64 (x11+1))+1))+1))+1))+1))+1))+1))+1))then((laws_heldIntS.f k ((rd_T41 a0 x12).f9) (wrap64 ((wrap64 ((wrap64 ((wrap64 ((wrap64 ((wrap64 ((wrap64 ((wrap64 ((wrap64 (x11+1))+1))+1))+1))+1))+1))+1))+1))+1))).bind fun t42=>(if t42<0 then(some (-1))else((laws_heldStringS.f k ((rd_T41 a0 x12).f10) t42).bind fun t46=>(if t46<0 then(some (-1))else((laws_heldStringS.f k ((rd_T41 a0 x12).f11) t46).bind fun t50=>(if t50<0 then(some (-1))else((laws_markText.f k t50).bind fun t25=>(if((rd_T41 a0 x12).f12).toList=t25.toList then(laws_heldCertS.l0 k (wrap64 (t50+1)) (wrap64 (x12+1)) a0)else(some (-1))))))))))else(some (-1)))else(some (-1)))else(some (-1)))else(some (-1))))else(some (-1)))else(some (-1)))else(some (-1))))else(some (-1))))else(some (-1)))else none)else none)else(some x11))
def laws_heldCertS.f (k:Nat)(a0:(List S41))(a1:Int):Option (Int):=(laws_heldCertS.l0 k a1 0 a0)
def laws_heldCertS.T7:TT:=(true,[([],[]),([],[]),([0,1],[0,1]),([2],[2]),([3],[3]),([],[]),([5],[5]),([4,6],[4,6])])
theorem laws_heldCertS.tT7:rtab .any (opsOf Tryz.f61 7)=laws_heldCertS.T7:=by kernel_rfl
def laws_heldCertS.T10:TT:=(true,[([],[]),([],[]),([0,1],[0,1]),([2],[2]),([3],[3]),([],[]),([5],[5]),([4,6],[4,6])])
theorem laws_heldCertS.tT10:rtab .any (opsOf Tryz.f61 10)=laws_heldCertS.T10:=by kernel_rfl
def laws_heldCertS.T19:TT:=(true,[([],[]),([],[]),([0,1],[0,1]),([2],[2]),([3],[3]),([],[]),([5],[5]),([4,6],[4,6])])
theorem laws_heldCertS.tT19:rtab .any (opsOf Tryz.f61 19)=laws_heldCertS.T19:=by kernel_rfl
def laws_heldCertS.T40:TT:=(true,[([],[]),([],[]),([0,1],[0,1]),([2],[2]),([3],[3]),([],[]),([5],[5]),([4,6],[4,6])])
theorem laws_heldCertS.tT40:rtab .any (opsOf Tryz.f61 40)=laws_heldCertS.T40:=by kernel_rfl
theorem laws_heldCertS.calls {k:Nat}{a0:(List S41)}{a1:Int}{Ap0:Option Addr}{np0 cp0:Nat}{r:Int}{w:World}(h:laws_heldCertS.f k a0 a1=some r)(gp0:k41.C w Ap0 np0 a0)(lp0:np0≤cp0):
    Calls Tryz.prog 61 #[.slice Ap0 np0 cp0,.int .i64 a1] w (fun e w'=>e=.returned (.int .i64 r)∧Hp noFP w w' []):=by
 obtain rfl:=C_len gp0
 have HS:=Hp.start w
 have H:=Aside0.mk h
 clear h
 unfold laws_heldCertS.f at H
 go_enter Tryz.func61,Tryz.ntmps61
 go_wp2
 go_loopg [1,5] k (fun kq v_1 v_5 w'=>∃(x11:Int) (x12:Int),v_1=.int .i64 x11∧v_5=.int .i64 x12∧Aside0 (laws_heldCertS.l0 kq x11 x12 a0=some r)∧Aside0 (kq≤k)∧Hp noFP w w' [])
 case atStart=>exact⟨_,_,rfl,rfl,H,⟨Nat.le_refl _⟩,HS⟩
 case round=>
  clear HS H;(try clear F)
  obtain⟨x11,x12,rfl,rfl,H,HKk10,HS⟩:=hrel
  cases gk with
  |zero=>exact absurd H.out (by simp [laws_heldCertS.l0])
  | succ k10=>
   simp only [laws_heldCertS.l0] at H
   replace H:=znif H;rcases H with⟨c14,H⟩|⟨c14,H⟩
   ·
    obtain rfl:=zsome H
    go_wp2
    go_ret
    exact HS.pk
   replace H:=zgo H;obtain⟨c15,H⟩:=H
   replace H:=zgo H;obtain⟨c16,H⟩:=H
   obtain⟨ad17,B17_9,d17_9,B17_10,d17_10,B17_11,d17_11,rfl,e17_0,e17_1,e17_2,e17_3,e17_4,e17_5,e17_6,e17_7,e17_8,e17_9,e17_10,e17_11,e17_12,m17_9,y17_9,m17_10,y17_10,m17_11,y17_11⟩:=at_T41 gp0 x12 (of_eq_true c15) (of_eq_true c16)
   have e17_0_17:=HS.keepc e17_0
   have e17_1_17:=HS.keepc e17_1
   have e17_2_17:=HS.keepc e17_2
   have e17_3_17:=HS.keepc e17_3
   have e17_4_17:=HS.keepc e17_4
   have e17_5_17:=HS.keepc e17_5
   have e17_6_17:=HS.keepc e17_6
   have e17_7_17:=HS.keepc e17_7
   have e17_8_17:=HS.keepc e17_8
   have e17_9_17:=HS.keepc e17_9
   have e17_10_17:=HS.keepc e17_10
   have e17_11_17:=HS.keepc e17_11
   have e17_12_17:=HS.keepc e17_12
   replace H:=znif' H;rcases H with⟨c18,H⟩|⟨c18,H⟩
   ·
    obtain⟨c18a,c18b⟩:=nq c18;clear c18
    obtain rfl:=zsome H
    go_wp2
    go_ret
    exact HS.pk
   obtain⟨c18a,c18b⟩:=bq c18;clear c18
   (try go_wp2)
   replace H:=zbind H;obtain⟨t13,ht13,H⟩:=H
   refine dr_start [] HS #[false,false,false,false,false,false,false,false] (by kernel_rfl) rfl rfl laws_heldCertS.tT7 (fun w20 HT HS HH=>?_)
   (try clear F)
   refine dq [0,1,2,3] HT ?_
   refine dtk 4 25 HT HH rfl (by rintro w' ⟨rs',HS'⟩;have e17_0:=HS'.keepc e17_0;have e17_1:=HS'.keepc e17_1;have e17_2:=HS'.keepc e17_2;have e17_3:=HS'.keepc e17_3;have e17_4:=HS'.keepc e17_4;have e17_5:=HS'.keepc e17_5;have e17_6:=HS'.keepc e17_6;have e17_7:=HS'.keepc e17_7;have e17_8:=HS'.keepc e17_8;have e17_9:=HS'.keepc e17_9;have e17_10:=HS'.keepc e17_10;have e17_11:=HS'.keepc e17_11;have e17_12:=HS'.keepc e17_12;go_simp;with_reducible rfl) ?_
   refine dq [5] HT ?_
   refine dr1 6 HT fun K hK=>?_
   refine go_cl HS (laws_markText.calls ht13.out) Tryz.func112 ?_;clear HS;intro wt13 HS F
   refine nrm 27 hK ⟨_,HS⟩ fun HH=>?_;clear hK K
   refine dq [7] HT ?_
   refine dn HT ?_
   replace H:=znif' H;rcases H with⟨c22,H⟩|⟨c22,H⟩
   ·
    obtain⟨c22a,c22b⟩:=nq c22;clear c22
    (try simp only [c22a,c22b,dcn])
    obtain rfl:=zsome H
    go_wp2
    go_ret
    exact HS.pk
   obtain⟨c22a,c22b⟩:=bq c22;clear c22
   (try simp only [c22a,c22b,dcn])
   (try go_wp2)
   replace H:=zbind H;obtain⟨t21,ht21,H⟩:=H
   refine dr_start [] HS #[false,false,false,false,false,false,false,false] (by kernel_rfl) rfl rfl laws_heldCertS.tT10 (fun w24 HT HS HH=>?_)
   (try clear F)
   refine dq [0,1,2,3] HT ?_
   refine dtk 4 35 HT HH rfl (by rintro w' ⟨rs',HS'⟩;have e17_0:=HS'.keepc e17_0;have e17_1:=HS'.keepc e17_1;have e17_2:=HS'.keepc e17_2;have e17_3:=HS'.keepc e17_3;have e17_4:=HS'.keepc e17_4;have e17_5:=HS'.keepc e17_5;have e17_6:=HS'.keepc e17_6;have e17_7:=HS'.keepc e17_7;have e17_8:=HS'.keepc e17_8;have e17_9:=HS'.keepc e17_9;have e17_10:=HS'.keepc e17_10;have e17_11:=HS'.keepc e17_11;have e17_12:=HS'.keepc e17_12;go_simp;with_reducible rfl) ?_
   refine dq [5] HT ?_
   refine dr1 6 HT fun K hK=>?_
   refine go_cl HS (laws_markText.calls ht21.out) Tryz.func112 ?_;clear HS;intro wt21 HS F
   refine nrm 37 hK ⟨_,HS⟩ fun HH=>?_;clear hK K
   refine dq [7] HT ?_
   refine dn HT ?_
   replace H:=znif' H;rcases H with⟨c26,H⟩|⟨c26,H⟩
   ·
    obtain⟨c26a,c26b⟩:=nq c26;clear c26
    (try simp only [c26a,c26b,dcn])
    obtain rfl:=zsome H
    go_wp2
    go_ret
    exact HS.pk
   obtain⟨c26a,c26b⟩:=bq c26;clear c26
   (try simp only [c26a,c26b,dcn])
   have e17_0_27:=HS.keepc e17_0
   have e17_1_27:=HS.keepc e17_1
   have e17_2_27:=HS.keepc e17_2
   have e17_3_27:=HS.keepc e17_3
   have e17_4_27:=HS.keepc e17_4
   have e17_5_27:=HS.keepc e17_5
   have e17_6_27:=HS.keepc e17_6
   have e17_7_27:=HS.keepc e17_7
   have e17_8_27:=HS.keepc e17_8
   have e17_9_27:=HS.keepc e17_9
   have e17_10_27:=HS.keepc e17_10
   have e17_11_27:=HS.keepc e17_11
   have e17_12_27:=HS.keepc e17_12
   replace H:=znif' H;rcases H with⟨c28,H⟩|⟨c28,H⟩
   ·
    obtain⟨c28a,c28b⟩:=nq c28;clear c28
    (try simp only [c28a,c28b,dcn])
    obtain rfl:=zsome H
    go_wp2
    go_ret
    exact HS.pk
   obtain⟨c28a,c28b⟩:=bq c28;clear c28
   (try simp only [c28a,c28b,dcn])
   have e17_0_29:=HS.keepc e17_0
   have e17_1_29:=HS.keepc e17_1
   have e17_2_29:=HS.keepc e17_2
   have e17_3_29:=HS.keepc e17_3
   have e17_4_29:=HS.keepc e17_4
   have e17_5_29:=HS.keepc e17_5
   have e17_6_29:=HS.keepc e17_6
   have e17_7_29:=HS.keepc e17_7
   have e17_8_29:=HS.keepc e17_8
   have e17_9_29:=HS.keepc e17_9
   have e17_10_29:=HS.keepc e17_10
   have e17_11_29:=HS.keepc e17_11
   have e17_12_29:=HS.keepc e17_12
   replace H:=znif' H;rcases H with⟨c30,H⟩|⟨c30,H⟩
   ·
    obtain⟨c30a,c30b⟩:=nq c30;clear c30
    (try simp only [c30a,c30b,dcn])
    obtain rfl:=zsome H
    go_wp2
    go_ret
    exact HS.pk
   obtain⟨c30a,c30b⟩:=bq c30;clear c30
   (try simp only [c30a,c30b,dcn])
   (try go_wp2)
   replace H:=zbind H;obtain⟨t23,ht23,H⟩:=H
   refine dr_start [] HS #[false,false,false,false,false,false,false,false] (by kernel_rfl) rfl rfl laws_heldCertS.tT19 (fun w32 HT HS HH=>?_)
   (try clear F)
   refine dq [0,1,2,3] HT ?_
   refine dtk 4 63 HT HH rfl (by rintro w' ⟨rs',HS'⟩;have e17_0:=HS'.keepc e17_0;have e17_1:=HS'.keepc e17_1;have e17_2:=HS'.keepc e17_2;have e17_3:=HS'.keepc e17_3;have e17_4:=HS'.keepc e17_4;have e17_5:=HS'.keepc e17_5;have e17_6:=HS'.keepc e17_6;have e17_7:=HS'.keepc e17_7;have e17_8:=HS'.keepc e17_8;have e17_9:=HS'.keepc e17_9;have e17_10:=HS'.keepc e17_10;have e17_11:=HS'.keepc e17_11;have e17_12:=HS'.keepc e17_12;go_simp;with_reducible rfl) ?_
   refine dq [5] HT ?_
   refine dr1 6 HT fun K hK=>?_
   refine go_cl HS (laws_markText.calls ht23.out) Tryz.func112 ?_;clear HS;intro wt23 HS F
   refine nrm 65 hK ⟨_,HS⟩ fun HH=>?_;clear hK K
   refine dq [7] HT ?_
   refine dn HT ?_
   replace H:=znif' H;rcases H with⟨c34,H⟩|⟨c34,H⟩
   ·
    obtain⟨c34a,c34b⟩:=nq c34;clear c34
    (try simp only [c34a,c34b,dcn])
    obtain rfl:=zsome H
    go_wp2
    go_ret
    exact HS.pk
   obtain⟨c34a,c34b⟩:=bq c34;clear c34
   (try simp only [c34a,c34b,dcn])
   have e17_0_35:=HS.keepc e17_0
   have e17_1_35:=HS.keepc e17_1
   have e17_2_35:=HS.keepc e17_2
   have e17_3_35:=HS.keepc e17_3
   have e17_4_35:=HS.keepc e17_4
   have e17_5_35:=HS.keepc e17_5
   have e17_6_35:=HS.keepc e17_6
   have e17_7_35:=HS.keepc e17_7
   have e17_8_35:=HS.keepc e17_8
   have e17_9_35:=HS.keepc e17_9
   have e17_10_35:=HS.keepc e17_10
   have e17_11_35:=HS.keepc e17_11
   have e17_12_35:=HS.keepc e17_12
   replace H:=znif' H;rcases H with⟨c36,H⟩|⟨c36,H⟩
   ·
    obtain⟨c36a,c36b⟩:=nq c36;clear c36
    (try simp only [c36a,c36b,dcn])
    obtain rfl:=zsome H
    go_wp2
    go_ret
    exact HS.pk
   obtain⟨c36a,c36b⟩:=bq c36;clear c36
   (try simp only [c36a,c36b,dcn])
   have e17_0_37:=HS.keepc e17_0
   have e17_1_37:=HS.keepc e17_1
   have e17_2_37:=HS.keepc e17_2
   have e17_3_37:=HS.keepc e17_3
   have e17_4_37:=HS.keepc e17_4
   have e17_5_37:=HS.keepc e17_5
   have e17_6_37:=HS.keepc e17_6
   have e17_7_37:=HS.keepc e17_7
   have e17_8_37:=HS.keepc e17_8
   have e17_9_37:=HS.keepc e17_9
   have e17_10_37:=HS.keepc e17_10
   have e17_11_37:=HS.keepc e17_11
   have e17_12_37:=HS.keepc e17_12
   replace H:=znif' H;rcases H with⟨c38,H⟩|⟨c38,H⟩
   ·
    obtain⟨c38a,c38b⟩:=nq c38;clear c38
    (try simp only [c38a,c38b,dcn])
    obtain rfl:=zsome H
    go_wp2
    go_ret
    exact HS.pk
   obtain⟨c38a,c38b⟩:=bq c38;clear c38
   (try simp only [c38a,c38b,dcn])
   have e17_0_39:=HS.keepc e17_0
   have e17_1_39:=HS.keepc e17_1
   have e17_2_39:=HS.keepc e17_2
   have e17_3_39:=HS.keepc e17_3
   have e17_4_39:=HS.keepc e17_4
   have e17_5_39:=HS.keepc e17_5
   have e17_6_39:=HS.keepc e17_6
   have e17_7_39:=HS.keepc e17_7
   have e17_8_39:=HS.keepc e17_8
   have e17_9_39:=HS.keepc e17_9
   have e17_10_39:=HS.keepc e17_10
   have e17_11_39:=HS.keepc e17_11
   have e17_12_39:=HS.keepc e17_12
   replace H:=znif' H;rcases H with⟨c40,H⟩|⟨c40,H⟩
   ·
    obtain⟨c40a,c40b⟩:=nq c40;clear c40
    (try simp only [c40a,c40b,dcn])
    obtain rfl:=zsome H
    go_wp2
    go_ret
    exact HS.pk
   obtain⟨c40a,c40b⟩:=bq c40;clear c40
   (try simp only [c40a,c40b,dcn])
   have e17_0_41:=HS.keepc e17_0
   have e17_1_41:=HS.keepc e17_1
   have e17_2_41:=HS.keepc e17_2
   have e17_3_41:=HS.keepc e17_3
   have e17_4_41:=HS.keepc e17_4
   have e17_5_41:=HS.keepc e17_5
   have e17_6_41:=HS.keepc e17_6
   have e17_7_41:=HS.keepc e17_7
   have e17_8_41:=HS.keepc e17_8
   have e17_9_41:=HS.keepc e17_9
   have e17_10_41:=HS.keepc e17_10
   have e17_11_41:=HS.keepc e17_11
   have e17_12_41:=HS.keepc e17_12
   replace H:=zbind H;obtain⟨t42,ht42,H⟩:=H
   go_upto_if 106 with((with_reducible refine gd 104 rfl ?_);refine ev_cl HS (laws_heldIntS.calls ht42.out (HS.ro y17_9) m17_9) Tryz.func114 ?_;clear HS;intro wt42 HS F)
   replace H:=zif H;rcases H with⟨c44,H⟩|⟨c44,H⟩
   ·
    (try simp only [c44,dcn])
    obtain rfl:=zsome H
    go_wp2
    go_ret
    exact HS.pk
   (try simp only [c44,dcn])
   have e17_0_45:=HS.keepc e17_0
   have e17_1_45:=HS.keepc e17_1
   have e17_2_45:=HS.keepc e17_2
   have e17_3_45:=HS.keepc e17_3
   have e17_4_45:=HS.keepc e17_4
   have e17_5_45:=HS.keepc e17_5
   have e17_6_45:=HS.keepc e17_6
   have e17_7_45:=HS.keepc e17_7
   have e17_8_45:=HS.keepc e17_8
   have e17_9_45:=HS.keepc e17_9
   have e17_10_45:=HS.keepc e17_10
   have e17_11_45:=HS.keepc e17_11
   have e17_12_45:=HS.keepc e17_12
   replace H:=zbind H;obtain⟨t46,ht46,H⟩:=H
   go_upto_if 115 with((with_reducible refine gd 113 rfl ?_);refine ev_cl HS (laws_heldStringS.calls ht46.out (HS.ro y17_10) m17_10) Tryz.func115 ?_;clear HS;intro wt46 HS F)
   replace H:=zif H;rcases H with⟨c48,H⟩|⟨c48,H⟩
   ·
    (try simp only [c48,dcn])
    obtain rfl:=zsome H
    go_wp2
    go_ret
    exact HS.pk
   (try simp only [c48,dcn])
   have e17_0_49:=HS.keepc e17_0
   have e17_1_49:=HS.keepc e17_1
   have e17_2_49:=HS.keepc e17_2
   have e17_3_49:=HS.keepc e17_3
   have e17_4_49:=HS.keepc e17_4
   have e17_5_49:=HS.keepc e17_5
   have e17_6_49:=HS.keepc e17_6
   have e17_7_49:=HS.keepc e17_7
   have e17_8_49:=HS.keepc e17_8
   have e17_9_49:=HS.keepc e17_9
   have e17_10_49:=HS.keepc e17_10
   have e17_11_49:=HS.keepc e17_11
   have e17_12_49:=HS.keepc e17_12
   replace H:=zbind H;obtain⟨t50,ht50,H⟩:=H
   go_upto_if 124 with((with_reducible refine gd 122 rfl ?_);refine ev_cl HS (laws_heldStringS.calls ht50.out (HS.ro y17_11) m17_11) Tryz.func115 ?_;clear HS;intro wt50 HS F)
   replace H:=zif H;rcases H with⟨c52,H⟩|⟨c52,H⟩
   ·
    (try simp only [c52,dcn])
    obtain rfl:=zsome H
    go_wp2
    go_ret
    exact HS.pk
   (try simp only [c52,dcn])
   (try go_wp2)
   replace H:=zbind H;obtain⟨t25,ht25,H⟩:=H
   refine dr_start [] HS #[false,false,false,false,false,false,false,false] (by kernel_rfl) rfl rfl laws_heldCertS.tT40 (fun w54 HT HS HH=>?_)
   (try clear F)
   refine dq [0,1,2,3] HT ?_
   refine dtk 4 129 HT HH rfl (by rintro w' ⟨rs',HS'⟩;have e17_0:=HS'.keepc e17_0;have e17_1:=HS'.keepc e17_1;have e17_2:=HS'.keepc e17_2;have e17_3:=HS'.keepc e17_3;have e17_4:=HS'.keepc e17_4;have e17_5:=HS'.keepc e17_5;have e17_6:=HS'.keepc e17_6;have e17_7:=HS'.keepc e17_7;have e17_8:=HS'.keepc e17_8;have e17_9:=HS'.keepc e17_9;have e17_10:=HS'.keepc e17_10;have e17_11:=HS'.keepc e17_11;have e17_12:=HS'.keepc e17_12;go_simp;with_reducible rfl) ?_
   refine dq [5] HT ?_
   refine dr1 6 HT fun K hK=>?_
   refine go_cl HS (laws_markText.calls ht25.out) Tryz.func112 ?_;clear HS;intro wt25 HS F
   refine nrm 131 hK ⟨_,HS⟩ fun HH=>?_;clear hK K
   refine dq [7] HT ?_
   refine dn HT ?_
   replace H:=znif' H;rcases H with⟨c56,H⟩|⟨c56,H⟩
   ·
    obtain⟨c56a,c56b⟩:=nq c56;clear c56
    (try simp only [c56a,c56b,dcn])
    obtain rfl:=zsome H
    go_wp2
    go_ret
    exact HS.pk
   obtain⟨c56a,c56b⟩:=bq c56;clear c56
   (try simp only [c56a,c56b,dcn])
   go_wp2
   go_roundg k10
   case measure=>have:=HKk10.out;omega
   case rel=>exact⟨_,_,rfl,rfl,H,⟨by have:=HKk10.out;omega⟩,HS.pi []⟩
def laws_heldWayS.l0:Nat→Int→Int→(List S59)→Option (Int)
  |0,_,_,_=>none
  |k+1,x11,x12,a0=>(if x12<(a0.length:Int)then(if 0≤x12 then(if x12<(a0.length:Int)then(if(rd_T59 a0 x12).f0=x11 then((laws_heldCertS.f k ((rd_T59 a0 x12).f1) (wrap64 (x11+1))).bind fun t20=>(if t20<0 then(some (-1))else(laws_heldWayS.l0 k t20 (wrap64 (x12+1)) a0)))else(some (-1)))else none)else none)else(some x11))
def laws_heldWayS.f (k:Nat)(a0:(List S59))(a1:Int):Option (Int):=(laws_heldWayS.l0 k a1 0 a0)
theorem laws_heldWayS.calls {k:Nat}{a0:(List S59)}{a1:Int}{Ap0:Option Addr}{np0 cp0:Nat}{r:Int}{w:World}(h:laws_heldWayS.f k a0 a1=some r)(gp0:k59.C w Ap0 np0 a0)(lp0:np0≤cp0):
    Calls Tryz.prog 18 #[.slice Ap0 np0 cp0,.int .i64 a1] w (fun e w'=>e=.returned (.int .i64 r)∧Hp noFP w w' []):=by
 obtain rfl:=C_len gp0
 have HS:=Hp.start w
 have H:=Aside0.mk h
 clear h
 unfold laws_heldWayS.f at H
 go_enter Tryz.func18,Tryz.ntmps18
 go_wp2
 go_loopg [1,5] k (fun kq v_1 v_5 w'=>∃(x11:Int) (x12:Int),v_1=.int .i64 x11∧v_5=.int .i64 x12∧Aside0 (laws_heldWayS.l0 kq x11 x12 a0=some r)∧Aside0 (kq≤k)∧Hp noFP w w' [])
 case atStart=>exact⟨_,_,rfl,rfl,H,⟨Nat.le_refl _⟩,HS⟩
 case round=>
  clear HS H;(try clear F)
  obtain⟨x11,x12,rfl,rfl,H,HKk10,HS⟩:=hrel
  cases gk with
  |zero=>exact absurd H.out (by simp [laws_heldWayS.l0])
  | succ k10=>
   simp only [laws_heldWayS.l0] at H
   replace H:=znif H;rcases H with⟨c14,H⟩|⟨c14,H⟩
   ·
    obtain rfl:=zsome H
    go_wp2
    go_ret
    exact HS.pk
   replace H:=zgo H;obtain⟨c15,H⟩:=H
   replace H:=zgo H;obtain⟨c16,H⟩:=H
   obtain⟨ad17,B17_1,d17_1,rfl,e17_0,e17_1,m17_1,y17_1⟩:=at_T59 gp0 x12 (of_eq_true c15) (of_eq_true c16)
   have e17_0_17:=HS.keepc e17_0
   have e17_1_17:=HS.keepc e17_1
   replace H:=znif' H;rcases H with⟨c18,H⟩|⟨c18,H⟩
   ·
    obtain⟨c18a,c18b⟩:=nq c18;clear c18
    obtain rfl:=zsome H
    go_wp2
    go_ret
    exact HS.pk
   obtain⟨c18a,c18b⟩:=bq c18;clear c18
   have e17_0_19:=HS.keepc e17_0
   have e17_1_19:=HS.keepc e17_1
   replace H:=zbind H;obtain⟨t20,ht20,H⟩:=H
   go_upto_if 29 with((with_reducible refine gd 27 rfl ?_);refine ev_cl HS (laws_heldCertS.calls ht20.out (HS.ro y17_1) m17_1) Tryz.func61 ?_;clear HS;intro wt20 HS F)
   replace H:=zif H;rcases H with⟨c22,H⟩|⟨c22,H⟩
   ·
    (try simp only [c22,dcn])
    obtain rfl:=zsome H
    go_wp2
    go_ret
    exact HS.pk
   (try simp only [c22,dcn])
   go_wp2
   go_roundg k10
   case measure=>have:=HKk10.out;omega
   case rel=>exact⟨_,_,rfl,rfl,H,⟨by have:=HKk10.out;omega⟩,HS.pi []⟩
def laws_szIntS.f (a0:(List Int))(a1:Int):Option (Int):=(if(wrap64 (a1 - (a0.length:Int)))<0 then(some (-1))else(some (wrap64 (a1 - (a0.length:Int)))))
theorem laws_szIntS.calls {a0:(List Int)}{a1:Int}{Ap0:Option Addr}{np0 cp0:Nat}{r:Int}{w:World}(h:laws_szIntS.f a0 a1=some r)(gp0:(Kd.int .i64).C w Ap0 np0 a0)(lp0:np0≤cp0):
    Calls Tryz.prog 39 #[.slice Ap0 np0 cp0,.int .i64 a1] w (fun e w'=>e=.returned (.int .i64 r)∧Hp noFP w w' []):=by
 obtain rfl:=C_len gp0
 have HS:=Hp.start w
 have H:=Aside0.mk h
 clear h
 unfold laws_szIntS.f at H
 go_enter Tryz.func39,Tryz.ntmps39
 replace H:=zif H;rcases H with⟨c1,H⟩|⟨c1,H⟩
 ·
  obtain rfl:=zsome H
  go_wp2
  go_ret
  exact HS.pk
 obtain rfl:=zsome H
 go_wp2
 go_ret
 exact HS.pk
def laws_szStringS.l0:Nat→Int→Int→(List ByteArray)→Option (Int)
  |0,_,_,_=>none
  |k+1,x9,x10,a0=>(if x10<(a0.length:Int)then(if 0≤x10 then(if x10<(a0.length:Int)then(if(wrap64 (x9 - ((rdOf ByteArray.empty a0 x10).size:Int)))<0 then(some (-1))else(laws_szStringS.l0 k (wrap64 (x9 - ((rdOf ByteArray.empty a0 x10).size:Int))) (wrap64 (x10+1)) a0))else none)else none)else(some x9))
def laws_szStringS.f (k:Nat)(a0:(List ByteArray))(a1:Int):Option (Int):=(if(wrap64 (a1 - (a0.length:Int)))<0 then(some (-1))else(laws_szStringS.l0 k (wrap64 (a1 - (a0.length:Int))) 0 a0))
theorem laws_szStringS.calls {k:Nat}{a0:(List ByteArray)}{a1:Int}{Ap0:Option Addr}{np0 cp0:Nat}{r:Int}{w:World}(h:laws_szStringS.f k a0 a1=some r)(gp0:Kd.string.C w Ap0 np0 a0)(lp0:np0≤cp0):
    Calls Tryz.prog 40 #[.slice Ap0 np0 cp0,.int .i64 a1] w (fun e w'=>e=.returned (.int .i64 r)∧Hp noFP w w' []):=by
 obtain rfl:=C_len gp0
 have HS:=Hp.start w
 have H:=Aside0.mk h
 clear h
 unfold laws_szStringS.f at H
 go_enter Tryz.func40,Tryz.ntmps40
 replace H:=zif H;rcases H with⟨c1,H⟩|⟨c1,H⟩
 ·
  obtain rfl:=zsome H
  go_wp2
  go_ret
  exact HS.pk
 go_wp2
 go_loopg [1,5] k (fun kq v_1 v_5 w'=>∃(x9:Int) (x10:Int),v_1=.int .i64 x9∧v_5=.int .i64 x10∧Aside0 (laws_szStringS.l0 kq x9 x10 a0=some r)∧Aside0 (kq≤k)∧Hp noFP w w' [])
 case atStart=>exact⟨_,_,rfl,rfl,H,⟨Nat.le_refl _⟩,HS⟩
 case round=>
  clear HS H;(try clear F)
  obtain⟨x9,x10,rfl,rfl,H,HKk8,HS⟩:=hrel
  cases gk with
  |zero=>exact absurd H.out (by simp [laws_szStringS.l0])
  | succ k8=>
   simp only [laws_szStringS.l0] at H
   replace H:=znif H;rcases H with⟨c12,H⟩|⟨c12,H⟩
   ·
    obtain rfl:=zsome H
    go_wp2
    go_ret
    exact HS.pk
   replace H:=zgo H;obtain⟨c13,H⟩:=H
   replace H:=zgo H;obtain⟨c14,H⟩:=H
   obtain⟨ad15,rfl,e15_0⟩:=Kd.at_string gp0 x10 (of_eq_true c13) (of_eq_true c14)
   have e15_0_15:=HS.keepc e15_0
   replace H:=zif H;rcases H with⟨c16,H⟩|⟨c16,H⟩
   ·
    obtain rfl:=zsome H
    go_wp2
    go_ret
    exact HS.pk
   go_wp2
   go_roundg k8
   case measure=>have:=HKk8.out;omega
   case rel=>exact⟨_,_,rfl,rfl,H,⟨by have:=HKk8.out;omega⟩,HS.pi []⟩
def laws_szCert.f (k:Nat)(a0:S30)(a1:Int):Option (Int):=(if(wrap64 (a1 - (a0.f1.size:Int)))<0 then(some (-1))else(if(wrap64 ((wrap64 (a1 - (a0.f1.size:Int))) - (a0.f2.size:Int)))<0 then(some (-1))else(if(wrap64 ((wrap64 ((wrap64 (a1 - (a0.f1.size:Int))) - (a0.f2.size:Int))) - (a0.f5.size:Int)))<0 then(some (-1))else((laws_szIntS.f a0.f9 (wrap64 ((wrap64 ((wrap64 (a1 - (a0.f1.size:Int))) - (a0.f2.size:Int))) - (a0.f5.size:Int)))).bind fun t6=>(if t6<0 then(some (-1))else((laws_szStringS.f k a0.f10 t6).bind fun t9=>(if t9<0 then(some (-1))else((laws_szStringS.f k a0.f11 t9).bind fun t12=>(if t12<0 then(some (-1))else(if(wrap64 (t12 - (a0.f12.size:Int)))<0 then(some (-1))else(some (wrap64 (t12 - (a0.f12.size:Int))))))))))))))
theorem laws_szCert.calls {k:Nat}{a0:S30}{a1:Int}{Ap0 Ap1 Ap2:Option Addr}{np0 cp0 np1 cp1 np2 cp2:Nat}{r:Int}{w:World}(h:laws_szCert.f k a0 a1=some r)(gp0:(Kd.int .i64).C w Ap0 np0 a0.f9)(lp0:np0≤cp0)(gp1:Kd.string.C w Ap1 np1 a0.f10)(lp1:np1≤cp1)(gp2:Kd.string.C w Ap2 np2 a0.f11)(lp2:np2≤cp2):
    Calls Tryz.prog 7 #[.agg #[.int .i64 a0.f0,.string a0.f1,.string a0.f2,.int .i64 a0.f3,.int .i64 a0.f4,.string a0.f5,.bool a0.f6,.int .i64 a0.f7,.int .i64 a0.f8,.slice Ap0 np0 cp0,.slice Ap1 np1 cp1,.slice Ap2 np2 cp2,.string a0.f12],.int .i64 a1] w (fun e w'=>e=.returned (.int .i64 r)∧Hp noFP w w' []):=by
 obtain rfl:=C_len gp0
 obtain rfl:=C_len gp1
 obtain rfl:=C_len gp2
 have HS:=Hp.start w
 have H:=Aside0.mk h
 clear h
 unfold laws_szCert.f at H
 go_enter Tryz.func7,Tryz.ntmps7
 go_upto_if 11 with((with_reducible refine gd 2 rfl ?_);refine ev_bx HS ?_;clear HS;intro g2 w2 HS F)
 replace H:=zif H;rcases H with⟨c3,H⟩|⟨c3,H⟩
 ·
  (try simp only [c3,dcn])
  obtain rfl:=zsome H
  go_wp2
  go_ret
  exact HS.pk
 (try simp only [c3,dcn])
 replace H:=zif H;rcases H with⟨c4,H⟩|⟨c4,H⟩
 ·
  obtain rfl:=zsome H
  go_wp2
  go_ret
  exact HS.pk
 replace H:=zif H;rcases H with⟨c5,H⟩|⟨c5,H⟩
 ·
  obtain rfl:=zsome H
  go_wp2
  go_ret
  exact HS.pk
 replace H:=zbind H;obtain⟨t6,ht6,H⟩:=H
 go_upto_if 31 with((with_reducible refine gd 29 rfl ?_);refine ev_cl HS (laws_szIntS.calls ht6.out (HS.ro gp0) lp0) Tryz.func39 ?_;clear HS;intro wt6 HS F)
 replace H:=zif H;rcases H with⟨c8,H⟩|⟨c8,H⟩
 ·
  (try simp only [c8,dcn])
  obtain rfl:=zsome H
  go_wp2
  go_ret
  exact HS.pk
 (try simp only [c8,dcn])
 replace H:=zbind H;obtain⟨t9,ht9,H⟩:=H
 go_upto_if 37 with((with_reducible refine gd 35 rfl ?_);refine ev_cl HS (laws_szStringS.calls ht9.out (HS.ro gp1) lp1) Tryz.func40 ?_;clear HS;intro wt9 HS F)
 replace H:=zif H;rcases H with⟨c11,H⟩|⟨c11,H⟩
 ·
  (try simp only [c11,dcn])
  obtain rfl:=zsome H
  go_wp2
  go_ret
  exact HS.pk
 (try simp only [c11,dcn])
 replace H:=zbind H;obtain⟨t12,ht12,H⟩:=H
 go_upto_if 43 with((with_reducible refine gd 41 rfl ?_);refine ev_cl HS (laws_szStringS.calls ht12.out (HS.ro gp2) lp2) Tryz.func40 ?_;clear HS;intro wt12 HS F)
 replace H:=zif H;rcases H with⟨c14,H⟩|⟨c14,H⟩
 ·
  (try simp only [c14,dcn])
  obtain rfl:=zsome H
  go_wp2
  go_ret
  exact HS.pk
 (try simp only [c14,dcn])
 replace H:=zif H;rcases H with⟨c15,H⟩|⟨c15,H⟩
 ·
  obtain rfl:=zsome H
  go_wp2
  go_ret
  exact HS.pk
 obtain rfl:=zsome H
 go_wp2
 go_ret
 exact HS.pk
def laws_szCertS.l0:Nat→Int→Int→(List S30)→Option (Int)
  |0,_,_,_=>none
  |k+1,x12,x13,a0=>(if x13<(a0.length:Int)then(if 0≤x13 then(if x13<(a0.length:Int)then((laws_szCert.f k (rd_T30 a0 x13) x12).bind fun t19=>(if t19<0 then(some (-1))else(laws_szCertS.l0 k t19 (wrap64 (x13+1)) a0)))else none)else none)else(some x12))
def laws_szCertS.f (k:Nat)(a0:(List S30))(a1:Int):Option (Int):=(if(wrap64 (a1 - (a0.length:Int)))<0 then(some (-1))else(laws_szCertS.l0 k (wrap64 (a1 - (a0.length:Int))) 0 a0))
theorem laws_szCertS.calls {k:Nat}{a0:(List S30)}{a1:Int}{Ap0:Option Addr}{np0 cp0:Nat}{r:Int}{w:World}(h:laws_szCertS.f k a0 a1=some r)(gp0:k30.C w Ap0 np0 a0)(lp0:np0≤cp0):
    Calls Tryz.prog 36 #[.slice Ap0 np0 cp0,.int .i64 a1] w (fun e w'=>e=.returned (.int .i64 r)∧Hp noFP w w' []):=by
 obtain rfl:=C_len gp0
 have HS:=Hp.start w
 have H:=Aside0.mk h
 clear h
 unfold laws_szCertS.f at H
 go_enter Tryz.func36,Tryz.ntmps36
 replace H:=zif H;rcases H with⟨c1,H⟩|⟨c1,H⟩
 ·
  obtain rfl:=zsome H
  go_wp2
  go_ret
  exact HS.pk
 go_wp2
 go_loopg [1,5] k (fun kq v_1 v_5 w'=>∃(x12:Int) (x13:Int),v_1=.int .i64 x12∧v_5=.int .i64 x13∧Aside0 (laws_szCertS.l0 kq x12 x13 a0=some r)∧Aside0 (kq≤k)∧Hp noFP w w' [])
 case atStart=>exact⟨_,_,rfl,rfl,H,⟨Nat.le_refl _⟩,HS⟩
 case round=>
  clear HS H;(try clear F)
  obtain⟨x12,x13,rfl,rfl,H,HKk11,HS⟩:=hrel
  cases gk with
  |zero=>exact absurd H.out (by simp [laws_szCertS.l0])
  | succ k11=>
   simp only [laws_szCertS.l0] at H
   replace H:=znif H;rcases H with⟨c15,H⟩|⟨c15,H⟩
   ·
    obtain rfl:=zsome H
    go_wp2
    go_ret
    exact HS.pk
   replace H:=zgo H;obtain⟨c16,H⟩:=H
   replace H:=zgo H;obtain⟨c17,H⟩:=H
   obtain⟨ad18,B18_9,d18_9,B18_10,d18_10,B18_11,d18_11,rfl,e18_0,e18_1,e18_2,e18_3,e18_4,e18_5,e18_6,e18_7,e18_8,e18_9,e18_10,e18_11,e18_12,m18_9,y18_9,m18_10,y18_10,m18_11,y18_11⟩:=at_T30 gp0 x13 (of_eq_true c16) (of_eq_true c17)
   have e18_0_18:=HS.keepc e18_0
   have e18_1_18:=HS.keepc e18_1
   have e18_2_18:=HS.keepc e18_2
   have e18_3_18:=HS.keepc e18_3
   have e18_4_18:=HS.keepc e18_4
   have e18_5_18:=HS.keepc e18_5
   have e18_6_18:=HS.keepc e18_6
   have e18_7_18:=HS.keepc e18_7
   have e18_8_18:=HS.keepc e18_8
   have e18_9_18:=HS.keepc e18_9
   have e18_10_18:=HS.keepc e18_10
   have e18_11_18:=HS.keepc e18_11
   have e18_12_18:=HS.keepc e18_12
   replace H:=zbind H;obtain⟨t19,ht19,H⟩:=H
   go_upto_if 25 with((with_reducible refine gd 23 rfl ?_);refine ev_cl HS (laws_szCert.calls ht19.out (HS.ro y18_9) m18_9 (HS.ro y18_10) m18_10 (HS.ro y18_11) m18_11) Tryz.func7 ?_;clear HS;intro wt19 HS F)
   replace H:=zif H;rcases H with⟨c21,H⟩|⟨c21,H⟩
   ·
    (try simp only [c21,dcn])
    obtain rfl:=zsome H
    go_wp2
    go_ret
    exact HS.pk
   (try simp only [c21,dcn])
   go_wp2
   go_roundg k11
   case measure=>have:=HKk11.out;omega
   case rel=>exact⟨_,_,rfl,rfl,H,⟨by have:=HKk11.out;omega⟩,HS.pi []⟩
def laws_szRevS.f (a0:(List S189))(a1:Int):Option (Int):=(if(wrap64 (a1 - (a0.length:Int)))<0 then(some (-1))else(some (wrap64 (a1 - (a0.length:Int)))))
theorem laws_szRevS.calls {a0:(List S189)}{a1:Int}{Ap0:Option Addr}{np0 cp0:Nat}{r:Int}{w:World}(h:laws_szRevS.f a0 a1=some r)(gp0:k189.C w Ap0 np0 a0)(lp0:np0≤cp0):
    Calls Tryz.prog 141 #[.slice Ap0 np0 cp0,.int .i64 a1] w (fun e w'=>e=.returned (.int .i64 r)∧Hp noFP w w' []):=by
 obtain rfl:=C_len gp0
 have HS:=Hp.start w
 have H:=Aside0.mk h
 clear h
 unfold laws_szRevS.f at H
 go_enter Tryz.func141,Tryz.ntmps141
 replace H:=zif H;rcases H with⟨c1,H⟩|⟨c1,H⟩
 ·
  obtain rfl:=zsome H
  go_wp2
  go_ret
  exact HS.pk
 obtain rfl:=zsome H
 go_wp2
 go_ret
 exact HS.pk
def laws_szCrl.f (a0:S124)(a1:Int):Option (Int):=(if(wrap64 (a1 - (a0.f0.size:Int)))<0 then(some (-1))else((laws_szRevS.f a0.f5 (wrap64 (a1 - (a0.f0.size:Int)))).bind fun t4=>(if t4<0 then(some (-1))else(if(wrap64 (t4 - (a0.f6.size:Int)))<0 then(some (-1))else(some (wrap64 (t4 - (a0.f6.size:Int))))))))
theorem laws_szCrl.calls {a0:S124}{a1:Int}{Ap0:Option Addr}{np0 cp0:Nat}{r:Int}{w:World}(h:laws_szCrl.f a0 a1=some r)(gp0:k189.C w Ap0 np0 a0.f5)(lp0:np0≤cp0):
    Calls Tryz.prog 93 #[.agg #[.string a0.f0,.int .i64 a0.f1,.int .i64 a0.f2,.int .i64 a0.f3,.int .i64 a0.f4,.slice Ap0 np0 cp0,.string a0.f6],.int .i64 a1] w (fun e w'=>e=.returned (.int .i64 r)∧Hp noFP w w' []):=by
 obtain rfl:=C_len gp0
 have HS:=Hp.start w
 have H:=Aside0.mk h
 clear h
 unfold laws_szCrl.f at H
 go_enter Tryz.func93,Tryz.ntmps93
 go_upto_if 11 with((with_reducible refine gd 2 rfl ?_);refine ev_bx HS ?_;clear HS;intro g2 w2 HS F)
 replace H:=zif H;rcases H with⟨c3,H⟩|⟨c3,H⟩
 ·
  (try simp only [c3,dcn])
  obtain rfl:=zsome H
  go_wp2
  go_ret
  exact HS.pk
 (try simp only [c3,dcn])
 replace H:=zbind H;obtain⟨t4,ht4,H⟩:=H
 go_upto_if 17 with((with_reducible refine gd 15 rfl ?_);refine ev_cl HS (laws_szRevS.calls ht4.out (HS.ro gp0) lp0) Tryz.func141 ?_;clear HS;intro wt4 HS F)
 replace H:=zif H;rcases H with⟨c6,H⟩|⟨c6,H⟩
 ·
  (try simp only [c6,dcn])
  obtain rfl:=zsome H
  go_wp2
  go_ret
  exact HS.pk
 (try simp only [c6,dcn])
 replace H:=zif H;rcases H with⟨c7,H⟩|⟨c7,H⟩
 ·
  obtain rfl:=zsome H
  go_wp2
  go_ret
  exact HS.pk
 obtain rfl:=zsome H
 go_wp2
 go_ret
 exact HS.pk
def laws_szCrlS.l0:Nat→Int→Int→(List S124)→Option (Int)
  |0,_,_,_=>none
  |k+1,x12,x13,a0=>(if x13<(a0.length:Int)then(if 0≤x13 then(if x13<(a0.length:Int)then((laws_szCrl.f (rd_T124 a0 x13) x12).bind fun t19=>(if t19<0 then(some (-1))else(laws_szCrlS.l0 k t19 (wrap64 (x13+1)) a0)))else none)else none)else(some x12))
def laws_szCrlS.f (k:Nat)(a0:(List S124))(a1:Int):Option (Int):=(if(wrap64 (a1 - (a0.length:Int)))<0 then(some (-1))else(laws_szCrlS.l0 k (wrap64 (a1 - (a0.length:Int))) 0 a0))
theorem laws_szCrlS.calls {k:Nat}{a0:(List S124)}{a1:Int}{Ap0:Option Addr}{np0 cp0:Nat}{r:Int}{w:World}(h:laws_szCrlS.f k a0 a1=some r)(gp0:k124.C w Ap0 np0 a0)(lp0:np0≤cp0):
    Calls Tryz.prog 37 #[.slice Ap0 np0 cp0,.int .i64 a1] w (fun e w'=>e=.returned (.int .i64 r)∧Hp noFP w w' []):=by
 obtain rfl:=C_len gp0
 have HS:=Hp.start w
 have H:=Aside0.mk h
 clear h
 unfold laws_szCrlS.f at H
 go_enter Tryz.func37,Tryz.ntmps37
 replace H:=zif H;rcases H with⟨c1,H⟩|⟨c1,H⟩
 ·
  obtain rfl:=zsome H
  go_wp2
  go_ret
  exact HS.pk
 go_wp2
 go_loopg [1,5] k (fun kq v_1 v_5 w'=>∃(x12:Int) (x13:Int),v_1=.int .i64 x12∧v_5=.int .i64 x13∧Aside0 (laws_szCrlS.l0 kq x12 x13 a0=some r)∧Aside0 (kq≤k)∧Hp noFP w w' [])
 case atStart=>exact⟨_,_,rfl,rfl,H,⟨Nat.le_refl _⟩,HS⟩
 case round=>
  clear HS H;(try clear F)
  obtain⟨x12,x13,rfl,rfl,H,HKk11,HS⟩:=hrel
  cases gk with
  |zero=>exact absurd H.out (by simp [laws_szCrlS.l0])
  | succ k11=>
   simp only [laws_szCrlS.l0] at H
   replace H:=znif H;rcases H with⟨c15,H⟩|⟨c15,H⟩
   ·
    obtain rfl:=zsome H
    go_wp2
    go_ret
    exact HS.pk
   replace H:=zgo H;obtain⟨c16,H⟩:=H
   replace H:=zgo H;obtain⟨c17,H⟩:=H
   obtain⟨ad18,B18_5,d18_5,rfl,e18_0,e18_1,e18_2,e18_3,e18_4,e18_5,e18_6,m18_5,y18_5⟩:=at_T124 gp0 x13 (of_eq_true c16) (of_eq_true c17)
   have e18_0_18:=HS.keepc e18_0
   have e18_1_18:=HS.keepc e18_1
   have e18_2_18:=HS.keepc e18_2
   have e18_3_18:=HS.keepc e18_3
   have e18_4_18:=HS.keepc e18_4
   have e18_5_18:=HS.keepc e18_5
   have e18_6_18:=HS.keepc e18_6
   replace H:=zbind H;obtain⟨t19,ht19,H⟩:=H
   go_upto_if 25 with((with_reducible refine gd 23 rfl ?_);refine ev_cl HS (laws_szCrl.calls ht19.out (HS.ro y18_5) m18_5) Tryz.func93 ?_;clear HS;intro wt19 HS F)
   replace H:=zif H;rcases H with⟨c21,H⟩|⟨c21,H⟩
   ·
    (try simp only [c21,dcn])
    obtain rfl:=zsome H
    go_wp2
    go_ret
    exact HS.pk
   (try simp only [c21,dcn])
   go_wp2
   go_roundg k11
   case measure=>have:=HKk11.out;omega
   case rel=>exact⟨_,_,rfl,rfl,H,⟨by have:=HKk11.out;omega⟩,HS.pi []⟩
def laws_szAnchor.f (a0:S126)(a1:Int):Option (Int):=(if(wrap64 (a1 - (a0.f0.size:Int)))<0 then(some (-1))else(if(wrap64 ((wrap64 (a1 - (a0.f0.size:Int))) - (a0.f1.size:Int)))<0 then(some (-1))else(some (wrap64 ((wrap64 (a1 - (a0.f0.size:Int))) - (a0.f1.size:Int))))))
theorem laws_szAnchor.calls {a0:S126}{a1:Int}{r:Int}{w:World}(h:laws_szAnchor.f a0 a1=some r):
    Calls Tryz.prog 94 #[.agg #[.string a0.f0,.string a0.f1],.int .i64 a1] w (fun e w'=>e=.returned (.int .i64 r)∧Hp noFP w w' []):=by
 have HS:=Hp.start w
 have H:=Aside0.mk h
 clear h
 unfold laws_szAnchor.f at H
 go_enter Tryz.func94,Tryz.ntmps94
 go_upto_if 11 with((with_reducible refine gd 2 rfl ?_);refine ev_bx HS ?_;clear HS;intro g2 w2 HS F)
 replace H:=zif H;rcases H with⟨c3,H⟩|⟨c3,H⟩
 ·
  (try simp only [c3,dcn])
  obtain rfl:=zsome H
  go_wp2
  go_ret
  exact HS.pk
 (try simp only [c3,dcn])
 replace H:=zif H;rcases H with⟨c4,H⟩|⟨c4,H⟩
 ·
  obtain rfl:=zsome H
  go_wp2
  go_ret
  exact HS.pk
 obtain rfl:=zsome H
 go_wp2
 go_ret
 exact HS.pk
def laws_szAnchorS.l0:Nat→Int→Int→(List S126)→Option (Int)
  |0,_,_,_=>none
  |k+1,x12,x13,a0=>(if x13<(a0.length:Int)then(if 0≤x13 then(if x13<(a0.length:Int)then((laws_szAnchor.f (rd_T126 a0 x13) x12).bind fun t19=>(if t19<0 then(some (-1))else(laws_szAnchorS.l0 k t19 (wrap64 (x13+1)) a0)))else none)else none)else(some x12))
def laws_szAnchorS.f (k:Nat)(a0:(List S126))(a1:Int):Option (Int):=(if(wrap64 (a1 - (a0.length:Int)))<0 then(some (-1))else(laws_szAnchorS.l0 k (wrap64 (a1 - (a0.length:Int))) 0 a0))
theorem laws_szAnchorS.calls {k:Nat}{a0:(List S126)}{a1:Int}{Ap0:Option Addr}{np0 cp0:Nat}{r:Int}{w:World}(h:laws_szAnchorS.f k a0 a1=some r)(gp0:k126.C w Ap0 np0 a0)(lp0:np0≤cp0):
    Calls Tryz.prog 38 #[.slice Ap0 np0 cp0,.int .i64 a1] w (fun e w'=>e=.returned (.int .i64 r)∧Hp noFP w w' []):=by
 obtain rfl:=C_len gp0
 have HS:=Hp.start w
 have H:=Aside0.mk h
 clear h
 unfold laws_szAnchorS.f at H
 go_enter Tryz.func38,Tryz.ntmps38
 replace H:=zif H;rcases H with⟨c1,H⟩|⟨c1,H⟩
 ·
  obtain rfl:=zsome H
  go_wp2
  go_ret
  exact HS.pk
 go_wp2
 go_loopg [1,5] k (fun kq v_1 v_5 w'=>∃(x12:Int) (x13:Int),v_1=.int .i64 x12∧v_5=.int .i64 x13∧Aside0 (laws_szAnchorS.l0 kq x12 x13 a0=some r)∧Aside0 (kq≤k)∧Hp noFP w w' [])
 case atStart=>exact⟨_,_,rfl,rfl,H,⟨Nat.le_refl _⟩,HS⟩
 case round=>
  clear HS H;(try clear F)
  obtain⟨x12,x13,rfl,rfl,H,HKk11,HS⟩:=hrel
  cases gk with
  |zero=>exact absurd H.out (by simp [laws_szAnchorS.l0])
  | succ k11=>
   simp only [laws_szAnchorS.l0] at H
   replace H:=znif H;rcases H with⟨c15,H⟩|⟨c15,H⟩
   ·
    obtain rfl:=zsome H
    go_wp2
    go_ret
    exact HS.pk
   replace H:=zgo H;obtain⟨c16,H⟩:=H
   replace H:=zgo H;obtain⟨c17,H⟩:=H
   obtain⟨ad18,rfl,e18_0,e18_1⟩:=at_T126 gp0 x13 (of_eq_true c16) (of_eq_true c17)
   have e18_0_18:=HS.keepc e18_0
   have e18_1_18:=HS.keepc e18_1
   replace H:=zbind H;obtain⟨t19,ht19,H⟩:=H
   go_upto_if 25 with((with_reducible refine gd 23 rfl ?_);refine ev_cl HS (laws_szAnchor.calls ht19.out) Tryz.func94 ?_;clear HS;intro wt19 HS F)
   replace H:=zif H;rcases H with⟨c21,H⟩|⟨c21,H⟩
   ·
    (try simp only [c21,dcn])
    obtain rfl:=zsome H
    go_wp2
    go_ret
    exact HS.pk
   (try simp only [c21,dcn])
   go_wp2
   go_roundg k11
   case measure=>have:=HKk11.out;omega
   case rel=>exact⟨_,_,rfl,rfl,H,⟨by have:=HKk11.out;omega⟩,HS.pi []⟩
def laws_szStore.f (k:Nat)(a0:S26)(a1:Int):Option (Int):=((laws_szCertS.f k a0.f0 a1).bind fun t3=>(if t3<0 then(some (-1))else((laws_szCrlS.f k a0.f1 t3).bind fun t6=>(if t6<0 then(some (-1))else((laws_szAnchorS.f k a0.f2 t6).bind fun t9=>(if t9<0 then(some (-1))else(some t9)))))))
theorem laws_szStore.calls {k:Nat}{a0:S26}{a1:Int}{Ap0 Ap1 Ap2:Option Addr}{np0 cp0 np1 cp1 np2 cp2:Nat}{r:Int}{w:World}(h:laws_szStore.f k a0 a1=some r)(gp0:k30.C w Ap0 np0 a0.f0)(lp0:np0≤cp0)(gp1:k124.C w Ap1 np1 a0.f1)(lp1:np1≤cp1)(gp2:k126.C w Ap2 np2 a0.f2)(lp2:np2≤cp2):
    Calls Tryz.prog 6 #[.agg #[.slice Ap0 np0 cp0,.slice Ap1 np1 cp1,.slice Ap2 np2 cp2],.int .i64 a1] w (fun e w'=>e=.returned (.int .i64 r)∧Hp noFP w w' []):=by
 obtain rfl:=C_len gp0
 obtain rfl:=C_len gp1
 obtain rfl:=C_len gp2
 have HS:=Hp.start w
 have H:=Aside0.mk h
 clear h
 unfold laws_szStore.f at H
 go_enter Tryz.func6,Tryz.ntmps6
 replace H:=zbind H;obtain⟨t3,ht3,H⟩:=H
 go_upto_if 10 with(first|((with_reducible refine gd 2 rfl ?_);refine ev_bx HS ?_;clear HS;intro g2 w2 HS F)|((with_reducible refine gd 8 rfl ?_);refine ev_cl HS (laws_szCertS.calls ht3.out (HS.ro gp0) lp0) Tryz.func36 ?_;clear HS;intro wt3 HS F))
 replace H:=zif H;rcases H with⟨c5,H⟩|⟨c5,H⟩
 ·
  (try simp only [c5,dcn])
  obtain rfl:=zsome H
  go_wp2
  go_ret
  exact HS.pk
 (try simp only [c5,dcn])
 replace H:=zbind H;obtain⟨t6,ht6,H⟩:=H
 go_upto_if 16 with((with_reducible refine gd 14 rfl ?_);refine ev_cl HS (laws_szCrlS.calls ht6.out (HS.ro gp1) lp1) Tryz.func37 ?_;clear HS;intro wt6 HS F)
 replace H:=zif H;rcases H with⟨c8,H⟩|⟨c8,H⟩
 ·
  (try simp only [c8,dcn])
  obtain rfl:=zsome H
  go_wp2
  go_ret
  exact HS.pk
 (try simp only [c8,dcn])
 replace H:=zbind H;obtain⟨t9,ht9,H⟩:=H
 go_upto_if 22 with((with_reducible refine gd 20 rfl ?_);refine ev_cl HS (laws_szAnchorS.calls ht9.out (HS.ro gp2) lp2) Tryz.func38 ?_;clear HS;intro wt9 HS F)
 replace H:=zif H;rcases H with⟨c11,H⟩|⟨c11,H⟩
 ·
  (try simp only [c11,dcn])
  obtain rfl:=zsome H
  go_wp2
  go_ret
  exact HS.pk
 (try simp only [c11,dcn])
 obtain rfl:=zsome H
 go_wp2
 go_ret
 exact HS.pk
def spec_l01In.f (a0:Int)(a1:Int)(a2:Int):Option (Bool):=(if a1≤a0 then(some (decide (a0≤a2)))else(some false))
theorem spec_l01In.calls {a0:Int}{a1:Int}{a2:Int}{r:Bool}{w:World}(h:spec_l01In.f a0 a1 a2=some r):
    Calls Tryz.prog 97 #[.int .i64 a0,.int .i64 a1,.int .i64 a2] w (fun e w'=>e=.returned (.bool r)∧Hp noFP w w' []):=by
 have HS:=Hp.start w
 have H:=Aside0.mk h
 clear h
 unfold spec_l01In.f at H
 go_enter Tryz.func97,Tryz.ntmps97
 replace H:=zif H;rcases H with⟨c1,H⟩|⟨c1,H⟩
 ·
  obtain rfl:=zsome H
  go_wp2
  go_ret
  exact HS.pk
 obtain rfl:=zsome H
 go_wp2
 go_ret
 exact HS.pk
def spec_l07Plain.l0:Nat→Int→S153→Option (Bool)
  |0,_,_=>none
  |k+1,x24,a0=>(if x24<(a0.f1.size:Int)then(if 0≤x24 then(if x24<(a0.f1.size:Int)then(if(bt a0.f1 x24)<32 then(some false)else(if 126<(bt a0.f1 x24)then(some false)else(spec_l07Plain.l0 k (wrap64 (x24+1)) a0)))else none)else none)else(some true))
def spec_l07Plain.f (k:Nat)(a0:S153):Option (Bool):=(if a0.f0=1 then(if a0.f1.toList=([0]:List UInt8)then(some true)else(some (a0.f1.toList==([255]:List UInt8))))else(if a0.f0=2 then((spec_l01In.f (a0.f1.size:Int) 1 5).bind fun t6=>(if t6=true then(if 0<(a0.f1.size:Int)then(if 128≤(bt a0.f1 0)then(some false)else(if(bt a0.f1 0)=0 then(if(a0.f1.size:Int)=1 then(some true)else(if 1<(a0.f1.size:Int)then(some (decide (128≤(bt a0.f1 1))))else none))else(some true)))else none)else(some false)))else(if a0.f0=12 then(spec_l07Plain.l0 k 0 a0)else(some (a0.f0==4)))))
theorem spec_l07Plain.calls {k:Nat}{a0:S153}{Ap0:Option Addr}{np0 cp0:Nat}{r:Bool}{w:World}(h:spec_l07Plain.f k a0=some r)(gp0:k153.C w Ap0 np0 a0.f2)(lp0:np0≤cp0):
    Calls Tryz.prog 204 #[.agg #[.int .i64 a0.f0,.string a0.f1,.slice Ap0 np0 cp0]] w (fun e w'=>e=.returned (.bool r)∧Hp noFP w w' []):=by
 obtain rfl:=C_len gp0
 have HS:=Hp.start w
 have H:=Aside0.mk h
 clear h
 unfold spec_l07Plain.f at H
 go_enter Tryz.func204,Tryz.ntmps204
 go_upto_if 6 with((with_reducible refine gd 1 rfl ?_);refine ev_bx HS ?_;clear HS;intro g1 w1 HS F)
 replace H:=zif' H;rcases H with⟨c3,H⟩|⟨c3,H⟩
 ·
  obtain⟨c3a,c3b⟩:=bq c3;clear c3
  (try simp only [c3a,c3b,dcn])
  replace H:=znif' H;rcases H with⟨c4,H⟩|⟨c4,H⟩
  ·
   obtain⟨c4a,c4b⟩:=nq c4;clear c4
   obtain rfl:=zsome H
   go_wp2
   go_ret
   exact HS.pk
  obtain⟨c4a,c4b⟩:=bq c4;clear c4
  obtain rfl:=zsome H
  go_wp2
  go_ret
  exact HS.pk
 obtain⟨c3a,c3b⟩:=nq c3;clear c3
 (try simp only [c3a,c3b,dcn])
 replace H:=znif' H;rcases H with⟨c5,H⟩|⟨c5,H⟩
 ·
  obtain⟨c5a,c5b⟩:=nq c5;clear c5
  replace H:=znif' H;rcases H with⟨c20,H⟩|⟨c20,H⟩
  ·
   obtain⟨c20a,c20b⟩:=nq c20;clear c20
   obtain rfl:=zsome H
   go_wp2
   go_ret
   exact HS.pk
  obtain⟨c20a,c20b⟩:=bq c20;clear c20
  go_wp2
  go_loopg [3] k (fun kq v_3 w'=>∃(x24:Int),v_3=.int .i64 x24∧Aside0 (spec_l07Plain.l0 kq x24 a0=some r)∧Aside0 (kq≤k)∧Hp noFP w w' [.box g1 [.int .i64 a0.f0,.string a0.f1,.slice Ap0 a0.f2.length cp0] 153])
  case atStart=>exact⟨_,rfl,H,⟨Nat.le_refl _⟩,HS⟩
  case round=>
   clear HS H;(try clear F)
   obtain⟨x24,rfl,H,HKk23,HS⟩:=hrel
   have F:=HS.bx
   cases gk with
   |zero=>exact absurd H.out (by simp [spec_l07Plain.l0])
   | succ k23=>
    simp only [spec_l07Plain.l0] at H
    replace H:=znif H;rcases H with⟨c26,H⟩|⟨c26,H⟩
    ·
     obtain rfl:=zsome H
     go_wp2
     go_ret
     exact HS.pk
    replace H:=zgo H;obtain⟨c27,H⟩:=H
    replace H:=zgo H;obtain⟨c28,H⟩:=H
    have hx29:=bt_at a0.f1 x24
    replace H:=zif H;rcases H with⟨c30,H⟩|⟨c30,H⟩
    ·
     obtain rfl:=zsome H
     go_wp2
     go_ret
     exact HS.pk
    have hx31:=bt_at a0.f1 x24
    replace H:=zif H;rcases H with⟨c32,H⟩|⟨c32,H⟩
    ·
     obtain rfl:=zsome H
     go_wp2
     go_ret
     exact HS.pk
    go_wp2
    go_roundg k23
    case measure=>have:=HKk23.out;omega
    case rel=>exact⟨_,rfl,H,⟨by have:=HKk23.out;omega⟩,HS.pi [0]⟩
 obtain⟨c5a,c5b⟩:=bq c5;clear c5
 replace H:=zbind H;obtain⟨t6,ht6,H⟩:=H
 replace H:=znifb H;rcases H with⟨c8,H⟩|⟨c8,H⟩
 ·
  subst c8
  obtain rfl:=zsome H
  go_wp2_with ((with_reducible refine gd 21 rfl ?_);refine ev_cl HS (spec_l01In.calls ht6.out) Tryz.func97 ?_;clear HS;intro wt6 HS F)
  go_ret
  exact HS.pk
 subst c8
 replace H:=zgo H;obtain⟨c9,H⟩:=H
 have c9n:(0<a0.f1.size)=True:=eq_true (by have:=of_eq_true c9;omega)
 go_upto_if 28 with((with_reducible refine gd 21 rfl ?_);refine ev_cl HS (spec_l01In.calls ht6.out) Tryz.func97 ?_;clear HS;intro wt6 HS F;have hx10:∀h:0<a0.f1.size,((a0.f1[0]'h).toNat:Int)=bt a0.f1 0:=bt_at a0.f1 0;have hz11:0<a0.f1.size:=(by have:=of_eq_true c9;omega))
 replace H:=zif H;rcases H with⟨c12,H⟩|⟨c12,H⟩
 ·
  (try simp only [c12,dcn])
  obtain rfl:=zsome H
  go_wp2
  go_ret
  exact HS.pk
 (try simp only [c12,dcn])
 have hx13:∀h:0<a0.f1.size,((a0.f1[0]'h).toNat:Int)=bt a0.f1 0:=bt_at a0.f1 0
 have hz14:0<a0.f1.size:=(by have:=of_eq_true c9;omega)
 replace H:=znif' H;rcases H with⟨c15,H⟩|⟨c15,H⟩
 ·
  obtain⟨c15a,c15b⟩:=nq c15;clear c15
  obtain rfl:=zsome H
  go_wp2
  go_ret
  exact HS.pk
 obtain⟨c15a,c15b⟩:=bq c15;clear c15
 replace H:=zif' H;rcases H with⟨c16,H⟩|⟨c16,H⟩
 ·
  obtain⟨c16a,c16b⟩:=bq c16;clear c16
  obtain rfl:=zsome H
  go_wp2
  go_ret
  exact HS.pk
 obtain⟨c16a,c16b⟩:=nq c16;clear c16
 replace H:=zgo H;obtain⟨c17,H⟩:=H
 have c17n:(1<a0.f1.size)=True:=eq_true (by have:=of_eq_true c17;omega)
 have hx18:∀h:1<a0.f1.size,((a0.f1[1]'h).toNat:Int)=bt a0.f1 1:=bt_at a0.f1 1
 have hz19:1<a0.f1.size:=(by have:=of_eq_true c17;omega)
 obtain rfl:=zsome H
 go_wp2
 go_ret
 exact HS.pk
mutual
def spec_l07Right.l0:Nat→Int→S153→Int→Option (Bool)
  |0,_,_,_=>none
  |k+1,x10,a0,a1=>(if x10<(a0.f2.length:Int)then(if 0≤x10 then(if x10<(a0.f2.length:Int)then((spec_l07Right.f k (rd_T153 a0.f2 x10) (wrap64 (a1+1))).bind fun t16=>(if t16=true then(spec_l07Right.l0 k (wrap64 (x10+1)) a0 a1)else(some false)))else none)else none)else(some true))
def spec_l07Right.f:Nat→S153→Int→Option (Bool)
  |0,_,_=>none
  |k+1,a0,a1=>(if a0.f0=48 then(if a0.f1.toList=([]:List UInt8)then(if 40<(a0.f2.length:Int)then(some false)else(if 6≤a1 then(some false)else(spec_l07Right.l0 k 0 a0 a1)))else(some false))else(if(a0.f2.length:Int)=0 then((spec_l07Plain.f k a0).bind fun t20=>(some t20))else(some false)))
end
theorem spec_l07Right.calls_ (K:Nat):∀ {k:Nat} (hK:k≤K) {a0:S153} {a1:Int} {Ap0:Option Addr} {np0 cp0:Nat} {r:Bool} {w:World} (h:spec_l07Right.f k a0 a1=some r) (gp0:k153.C w Ap0 np0 a0.f2) (lp0:np0≤cp0),
    Calls Tryz.prog 186 #[.agg #[.int .i64 a0.f0,.string a0.f1,.slice Ap0 np0 cp0],.int .i64 a1] w (fun e w'=>e=.returned (.bool r)∧Hp noFP w w' []):=by
  induction K with
  | zero=>
    intro k hK a0 a1 Ap0 np0 cp0 r w h gp0 lp0
    obtain rfl:k=0:=by omega
    exact absurd h (by simp [spec_l07Right.f])
  | succ K IH=>
    intro k hK a0 a1 Ap0 np0 cp0 r w h gp0 lp0
    cases k with
    |zero=>exact absurd h (by simp [spec_l07Right.f])
    |succ k=>
    have HK0:Aside0 (k≤K):=⟨by omega⟩
    clear hK
    obtain rfl:=C_len gp0
    have HS:=Hp.start w
    have H:=Aside0.mk h
    clear h
    simp only [spec_l07Right.f] at H
    go_enter Tryz.func186,Tryz.ntmps186
    go_upto_if 8 with((with_reducible refine gd 2 rfl ?_);refine ev_bx HS ?_;clear HS;intro g2 w2 HS F)
    replace H:=znif' H;rcases H with⟨c3,H⟩|⟨c3,H⟩
    ·
     obtain⟨c3a,c3b⟩:=nq c3;clear c3
     (try simp only [c3a,c3b,dcn])
     replace H:=znif' H;rcases H with⟨c19,H⟩|⟨c19,H⟩
     ·
      obtain⟨c19a,c19b⟩:=nq c19;clear c19
      obtain rfl:=zsome H
      go_wp2
      go_ret
      exact HS.pk
     obtain⟨c19a,c19b⟩:=bq c19;clear c19
     replace H:=zbind H;obtain⟨t20,ht20,H⟩:=H
     obtain rfl:=zsome H
     go_wp2_with ((with_reducible refine gd 15 rfl ?_);refine gg ?_;refine ev_cl HS (spec_l07Plain.calls ht20.out (HS.ro gp0) lp0) Tryz.func204 ?_;clear HS;intro wt20 HS F)
     go_ret
     exact HS.pk
    obtain⟨c3a,c3b⟩:=bq c3;clear c3
    (try simp only [c3a,c3b,dcn])
    replace H:=znif' H;rcases H with⟨c4,H⟩|⟨c4,H⟩
    ·
     have c4a:=beq_eq_false_iff_ne.mpr c4
     have c4b:=bne_iff_ne.mpr c4
     have c4e:=List.isEmpty_eq_false_iff.mpr c4
     clear c4
     obtain rfl:=zsome H
     go_wp2
     go_ret
     exact HS.pk
    have c4a:=beq_iff_eq.mpr c4
    have c4b:=bne_eq_false_iff_eq.mpr c4
    have c4e:=List.isEmpty_iff.mpr c4
    clear c4
    replace H:=zif H;rcases H with⟨c5,H⟩|⟨c5,H⟩
    ·
     obtain rfl:=zsome H
     go_wp2
     go_ret
     exact HS.pk
    replace H:=zif H;rcases H with⟨c6,H⟩|⟨c6,H⟩
    ·
     obtain rfl:=zsome H
     go_wp2
     go_ret
     exact HS.pk
    go_wp2
    go_loopg [5] k (fun kq v_5 w'=>∃(x10:Int),v_5=.int .i64 x10∧Aside0 (spec_l07Right.l0 kq x10 a0 a1=some r)∧Aside0 (kq≤k)∧Hp noFP w w' [.box g2 [.int .i64 a0.f0,.string a0.f1,.slice Ap0 a0.f2.length cp0] 153])
    case atStart=>exact⟨_,rfl,H,⟨Nat.le_refl _⟩,HS⟩
    case round=>
     clear HS H;(try clear F)
     obtain⟨x10,rfl,H,HKk9,HS⟩:=hrel
     have F:=HS.bx
     cases gk with
     |zero=>exact absurd H.out (by simp [spec_l07Right.l0])
     | succ k9=>
      simp only [spec_l07Right.l0] at H
      replace H:=znif H;rcases H with⟨c12,H⟩|⟨c12,H⟩
      ·
       obtain rfl:=zsome H
       go_wp2
       go_ret
       exact HS.pk
      replace H:=zgo H;obtain⟨c13,H⟩:=H
      replace H:=zgo H;obtain⟨c14,H⟩:=H
      obtain⟨ad15,B15_2,d15_2,rfl,e15_0,e15_1,e15_2,m15_2,y15_2⟩:=at_T153 gp0 x10 (of_eq_true c13) (of_eq_true c14)
      have e15_0_15:=HS.keepc e15_0
      have e15_1_15:=HS.keepc e15_1
      have e15_2_15:=HS.keepc e15_2
      replace H:=zbind H;obtain⟨t16,ht16,H⟩:=H
      go_upto_if 45 with((with_reducible refine gd 44 rfl ?_);refine ev_cl HS (IH (by have:=HK0.out;have:=HKk9.out;omega) ht16.out (HS.ro y15_2) m15_2) Tryz.func186 ?_;clear HS;intro wt16 HS F)
      replace H:=znifb H;rcases H with⟨c18,H⟩|⟨c18,H⟩
      ·
       subst c18
       (try simp only [dcn,dcu,dcf])
       obtain rfl:=zsome H
       go_wp2
       go_ret
       exact HS.pk
      subst c18
      (try simp only [dcn,dcu,dcf])
      go_wp2
      go_roundg k9
      case measure=>have:=HK0.out;have:=HKk9.out;omega
      case rel=>exact⟨_,rfl,H,⟨by have:=HK0.out;have:=HKk9.out;omega⟩,HS.pi [0]⟩
theorem spec_l07Right.calls {k:Nat}{a0:S153}{a1:Int}{Ap0:Option Addr}{np0 cp0:Nat}{r:Bool}{w:World}(h:spec_l07Right.f k a0 a1=some r)(gp0:k153.C w Ap0 np0 a0.f2)(lp0:np0≤cp0):
    Calls Tryz.prog 186 #[.agg #[.int .i64 a0.f0,.string a0.f1,.slice Ap0 np0 cp0],.int .i64 a1] w (fun e w'=>e=.returned (.bool r)∧Hp noFP w w' []):=spec_l07Right.calls_ k (Nat.le_refl k) h gp0 lp0
def spec_ItemOk.f (k:Nat)(a0:S153):Option (Bool):=((spec_l07Right.f k a0 0).bind fun t3=>(some t3))
theorem spec_ItemOk.calls {k:Nat}{a0:S153}{Ap0:Option Addr}{np0 cp0:Nat}{r:Bool}{w:World}(h:spec_ItemOk.f k a0=some r)(gp0:k153.C w Ap0 np0 a0.f2)(lp0:np0≤cp0):
    Calls Tryz.prog 165 #[.agg #[.int .i64 a0.f0,.string a0.f1,.slice Ap0 np0 cp0]] w (fun e w'=>e=.returned (.bool r)∧Hp noFP w w' []):=by
 obtain rfl:=C_len gp0
 have HS:=Hp.start w
 have H:=Aside0.mk h
 clear h
 unfold spec_ItemOk.f at H
 go_enter Tryz.func165,Tryz.ntmps165
 replace H:=zbind H;obtain⟨t3,ht3,H⟩:=H
 obtain rfl:=zsome H
 go_wp2_with (first|((with_reducible refine gd 1 rfl ?_);refine ev_bx HS ?_;clear HS;intro g1 w1 HS F)|((with_reducible refine gd 4 rfl ?_);refine ev_cl HS (spec_l07Right.calls ht3.out (HS.ro gp0) lp0) Tryz.func186 ?_;clear HS;intro wt3 HS F))
 go_ret
 exact HS.pk
def spec_l07Length.l0:Nat→Int→ByteArray→Option (ByteArray)
  |0,_,_=>none
  |k+1,x13,x14=>(if 0<x13 then(if(strOfNums ([((Int.tmod x13 256) % 256)]:List Int)).size+x14.size≤9223372036854775807 then(spec_l07Length.l0 k (wrap64 (Int.tdiv x13 256)) ((strOfNums ([((Int.tmod x13 256) % 256)]:List Int))++x14))else none)else(if(strOfNums ([((wrap64 (128+(x14.size:Int))) % 256)]:List Int)).size+x14.size≤9223372036854775807 then(some ((strOfNums ([((wrap64 (128+(x14.size:Int))) % 256)]:List Int))++x14))else none))
def spec_l07Length.f (k:Nat)(a0:Int):Option (ByteArray):=(if a0<128 then(some (strOfNums ([(a0 % 256)]:List Int)))else(spec_l07Length.l0 k a0 (⟨#[]⟩:ByteArray)))
theorem spec_l07Length.calls {k:Nat}{a0:Int}{r:ByteArray}{w:World}(h:spec_l07Length.f k a0=some r):
    Calls Tryz.prog 187 #[.int .i64 a0] w (fun e w'=>e=.returned (.string r)∧Hp noFP w w' []):=by
 have HS:=Hp.start w
 have H:=Aside0.mk h
 clear h
 unfold spec_l07Length.f at H
 go_enter Tryz.func187,Tryz.ntmps187
 replace H:=zif H;rcases H with⟨c1,H⟩|⟨c1,H⟩
 ·
  obtain rfl:=zsome H
  go_wp2_with (first|((with_reducible refine gd 8 rfl ?_);refine ev_li (Zd.int .u8) [] ([(a0 % 256)]:List Int) ([.int .u8 (a0 % 256)]++ []) HS (MadeL.cons (js1:=[]) (c:=[.int .u8 (a0 % 256)]) rfl (made_flat (fun _=>rfl)) MadeL.nil (by decide)) ?_;clear HS;intro v2 w2 HS F;obtain⟨B2,d2,rfl,m2⟩:=HS.formn 1 0 rfl rfl)|((with_reducible refine gd 9 rfl ?_);refine ev_val rfl (run_str rfl rfl Tryz.underlying50 Tryz.underlying5 Tryz.underlying9 (HS.rd 0 rfl)) ?_))
  go_ret
  exact HS.pk
 go_wp2
 go_loopg [0,3] k (fun kq v_0 v_3 w'=>∃(x13:Int) (x14:ByteArray),v_0=.int .i64 x13∧v_3=.string x14∧Aside0 (spec_l07Length.l0 kq x13 x14=some r)∧Aside0 (kq≤k)∧Hp noFP w w' [])
 case atStart=>exact⟨_,_,rfl,rfl,H,⟨Nat.le_refl _⟩,HS⟩
 case round=>
  clear HS H;(try clear F)
  obtain⟨x13,x14,rfl,rfl,H,HKk12,HS⟩:=hrel
  cases gk with
  |zero=>exact absurd H.out (by simp [spec_l07Length.l0])
  | succ k12=>
   simp only [spec_l07Length.l0] at H
   replace H:=znif H;rcases H with⟨c16,H⟩|⟨c16,H⟩
   ·
    replace H:=zgo H;obtain⟨c22,H⟩:=H
    obtain rfl:=zsome H
    go_wp2_with (first|((with_reducible refine gd 25 rfl ?_);refine ev_li (Zd.int .u8) [] ([((wrap64 (128+(x14.size:Int))) % 256)]:List Int) ([.int .u8 ((wrap64 (128+(x14.size:Int))) % 256)]++ []) HS (MadeL.cons (js1:=[]) (c:=[.int .u8 ((wrap64 (128+(x14.size:Int))) % 256)]) rfl (made_flat (fun _=>rfl)) MadeL.nil (by decide)) ?_;clear HS;intro v20 w20 HS F;obtain⟨B20,d20,rfl,m20⟩:=HS.formn 1 0 rfl rfl)|((with_reducible refine gd 26 rfl ?_);refine ev_val rfl (run_str rfl rfl Tryz.underlying50 Tryz.underlying5 Tryz.underlying9 (HS.rd 0 rfl)) ?_)|((with_reducible refine gd 28 rfl ?_);refine ev_val rfl (run_cat rfl rfl rfl (of_eq_true c22)) ?_))
    go_ret
    exact HS.pk
   replace H:=zgo H;obtain⟨c19,H⟩:=H
   go_wp2_with (first|((with_reducible refine gd 15 rfl ?_);refine ev_li (Zd.int .u8) [] ([((Int.tmod x13 256) % 256)]:List Int) ([.int .u8 ((Int.tmod x13 256) % 256)]++ []) HS (MadeL.cons (js1:=[]) (c:=[.int .u8 ((Int.tmod x13 256) % 256)]) rfl (made_flat (fun _=>rfl)) MadeL.nil (by decide)) ?_;clear HS;intro v17 w17 HS F;obtain⟨B17,d17,rfl,m17⟩:=HS.formn 1 0 rfl rfl)|((with_reducible refine gd 16 rfl ?_);refine ev_val rfl (run_str rfl rfl Tryz.underlying50 Tryz.underlying5 Tryz.underlying9 (HS.rd 0 rfl)) ?_)|((with_reducible refine gd 18 rfl ?_);refine ev_val rfl (run_cat rfl rfl rfl (of_eq_true c19)) ?_))
   go_roundg k12
   case measure=>have:=HKk12.out;omega
   case rel=>exact⟨_,_,rfl,rfl,H,⟨by have:=HKk12.out;omega⟩,HS.pi []⟩
mutual
def spec_l07Text.l0:Nat→ByteArray→Int→S153→Option (ByteArray)
  |0,_,_,_=>none
  |k+1,x11,x12,a0=>(if x12<(a0.f2.length:Int)then(if 0≤x12 then(if x12<(a0.f2.length:Int)then((spec_l07Text.f k (rd_T153 a0.f2 x12)).bind fun t18=>(if x11.size+t18.size≤9223372036854775807 then(spec_l07Text.l0 k (x11++t18) (wrap64 (x12+1)) a0)else none))else none)else none)else((spec_l07Length.f k (x11.size:Int)).bind fun t13=>(if(strOfNums ([(a0.f0 % 256)]:List Int)).size+t13.size≤9223372036854775807 then(if((strOfNums ([(a0.f0 % 256)]:List Int))++t13).size+x11.size≤9223372036854775807 then(some (((strOfNums ([(a0.f0 % 256)]:List Int))++t13)++x11))else none)else none)))
def spec_l07Text.f:Nat→S153→Option (ByteArray)
  |0,_=>none
  |k+1,a0=>(if a0.f0=48 then(spec_l07Text.l0 k a0.f1 0 a0)else((spec_l07Length.f k (a0.f1.size:Int)).bind fun t26=>(if(strOfNums ([(a0.f0 % 256)]:List Int)).size+t26.size≤9223372036854775807 then(if((strOfNums ([(a0.f0 % 256)]:List Int))++t26).size+a0.f1.size≤9223372036854775807 then(some (((strOfNums ([(a0.f0 % 256)]:List Int))++t26)++a0.f1))else none)else none)))
end
def spec_l07Text.T7:TT:=(true,[([],[]),([0],[0]),([1],[1]),([2],[2]),([3],[3]),([],[]),([5],[5]),([6],[6]),([4,7],[4,7]),([],[]),([8,9],[8,9]),([10,7,0,1,2,3,4,5,6,7,8,9,10],[10])])
theorem spec_l07Text.tT7:rtab .any (opsOf Tryz.f166 7)=spec_l07Text.T7:=by kernel_rfl
theorem spec_l07Text.calls_ (K:Nat):∀ {k:Nat} (hK:k≤K) {a0:S153} {Ap0:Option Addr} {np0 cp0:Nat} {r:ByteArray} {w:World} (h:spec_l07Text.f k a0=some r) (gp0:k153.C w Ap0 np0 a0.f2) (lp0:np0≤cp0),
    Calls Tryz.prog 166 #[.agg #[.int .i64 a0.f0,.string a0.f1,.slice Ap0 np0 cp0]] w (fun e w'=>e=.returned (.string r)∧Hp noFP w w' []):=by
  induction K with
  | zero=>
    intro k hK a0 Ap0 np0 cp0 r w h gp0 lp0
    obtain rfl:k=0:=by omega
    exact absurd h (by simp [spec_l07Text.f])
  | succ K IH=>
    intro k hK a0 Ap0 np0 cp0 r w h gp0 lp0
    cases k with
    |zero=>exact absurd h (by simp [spec_l07Text.f])
    |succ k=>
    have HK0:Aside0 (k≤K):=⟨by omega⟩
    clear hK
    obtain rfl:=C_len gp0
    have HS:=Hp.start w
    have H:=Aside0.mk h
    clear h
    simp only [spec_l07Text.f] at H
    go_enter Tryz.func166,Tryz.ntmps166
    go_upto_if 9 with((with_reducible refine gd 1 rfl ?_);refine ev_bx HS ?_;clear HS;intro g1 w1 HS F)
    replace H:=znif' H;rcases H with⟨c3,H⟩|⟨c3,H⟩
    ·
     obtain⟨c3a,c3b⟩:=nq c3;clear c3
     (try simp only [c3a,c3b,dcn])
     (try go_wp2)
     replace H:=zbind H;obtain⟨t26,ht26,H⟩:=H
     replace H:=zgo H;obtain⟨c27,H⟩:=H
     replace H:=zgo H;obtain⟨c28,H⟩:=H
     refine dr_start [] HS #[false,false,false,false,false,false,false,false,false,false,false,false] (by kernel_rfl) rfl rfl spec_l07Text.tT7 (fun w25 HT HS HH=>?_)
     (try clear F)
     refine join_ 0 #[true,true,true,true,true,true,true,true,true,true,true,true] (fun(v24:Value)=>([(25,.pointer (some ⟨g1,0,none⟩)),(26,.int .i64 a0.f0),(27,.int .u8 (a0.f0 % 256)),(28,v24),(29,.string (strOfNums ([(a0.f0 % 256)]:List Int))),(30,.string a0.f1),(31,.int .i64 (a0.f1.size:Int)),(32,.string t26),(33,.string ((strOfNums ([(a0.f0 % 256)]:List Int))++t26)),(34,.string a0.f1),(35,.string (((strOfNums ([(a0.f0 % 256)]:List Int))++t26)++a0.f1)),(2,.string (((strOfNums ([(a0.f0 % 256)]:List Int))++t26)++a0.f1))]:List (Tmp×Value))) (fun(v24:Value) w'=>Hp noFP w w' [.box g1 [.int .i64 a0.f0,.string a0.f1,.slice Ap0 a0.f2.length cp0] 153,.own (Zd.slice 5 (Zd.int .u8)) ([(a0.f0 % 256)]:List Int) [v24]]) ?_ ?_
     rotate_left
     · intro hJ
       refine dqt [0,1,2,5,6,9] HT HH ?_
       refine dr_any [3,7] HT (by kernel_rfl) (by decide) (AllReadyL.cons rfl (by decide) (fun K hK=>?_) (AllReadyL.cons rfl (by decide) (fun K hK=>?_) AllReadyL.nil))
       · refine if_li (Zd.int .u8) [] ([(a0.f0 % 256)]:List Int) ([.int .u8 (a0.f0 % 256)]++ []) HS (MadeL.cons (js1:=[]) (c:=[.int .u8 (a0.f0 % 256)]) rfl (made_flat (fun _=>rfl)) MadeL.nil (by decide)) ?_;clear HS;intro v24 w24 HS F;obtain⟨B24,d24,rfl,m24⟩:=HS.formn 1 1 rfl rfl
         refine nrm 28 hK ⟨_,HS⟩ fun HH=>?_;clear hK K
         refine dr_any [4,7] HT (by kernel_rfl) (by decide) (AllReadyL.cons rfl (by decide) (fun K hK=>?_) (AllReadyL.cons rfl (by decide) (fun K hK=>?_) AllReadyL.nil))
         · refine if_wp (by rfl) ?_;refine wp_run (run_str rfl rfl Tryz.underlying50 Tryz.underlying5 Tryz.underlying9 (HS.rd 1 rfl)) ?_
           (try simp only [hpn,hpm] at HS)
           have F:=HS.bx
           refine nrm 29 hK ⟨_,HS⟩ fun HH=>?_;clear hK K
           refine dr1 7 HT fun K hK=>?_
           refine go_cl HS (spec_l07Length.calls ht26.out) Tryz.func187 ?_;clear HS;intro wt26 HS F
           refine nrm 32 hK ⟨_,HS⟩ fun HH=>?_;clear hK K
           refine dr_pure 8 (some 33) HT (v:=.string ((strOfNums ([(a0.f0 % 256)]:List Int))++t26)) (a':=?_) rfl rfl (by kernel_rfl) (fun _ _ _ h=>h) (.inl ⟨by rfl,fun w'=>(run_cat rfl rfl rfl (of_eq_true c27))⟩) ?_ ?_
           rotate_left
           · simp only [Act.put,ptn];rfl
           refine dr_pure 10 (some 35) HT (v:=.string (((strOfNums ([(a0.f0 % 256)]:List Int))++t26)++a0.f1)) (a':=?_) rfl rfl (by kernel_rfl) (fun _ _ _ h=>h) (.inl ⟨by rfl,fun w'=>(run_cat rfl rfl rfl (of_eq_true c28))⟩) ?_ ?_
           rotate_left
           · simp only [Act.put,ptn];rfl
           refine dq [11] HT ?_
           refine norm_ ?_ (hJ (.slice B24 1 d24) _ (HS.ar [some 0,some 1]))
           simp only [putAll,Act.put,ptn]
           (try rfl)
         · refine go_cl HS (spec_l07Length.calls ht26.out) Tryz.func187 ?_;clear HS;intro wt26 HS F
           refine nrm 32 hK ⟨_,HS⟩ fun HH=>?_;clear hK K
           refine dr1 4 HT fun K hK=>?_
           refine if_wp (by rfl) ?_;refine wp_run (run_str rfl rfl Tryz.underlying50 Tryz.underlying5 Tryz.underlying9 (HS.rd 1 rfl)) ?_
           (try simp only [hpn,hpm] at HS)
           have F:=HS.bx
           refine nrm 29 hK ⟨_,HS⟩ fun HH=>?_;clear hK K
           refine dr_pure 8 (some 33) HT (v:=.string ((strOfNums ([(a0.f0 % 256)]:List Int))++t26)) (a':=?_) rfl rfl (by kernel_rfl) (fun _ _ _ h=>h) (.inl ⟨by rfl,fun w'=>(run_cat rfl rfl rfl (of_eq_true c27))⟩) ?_ ?_
           rotate_left
           · simp only [Act.put,ptn];rfl
           refine dr_pure 10 (some 35) HT (v:=.string (((strOfNums ([(a0.f0 % 256)]:List Int))++t26)++a0.f1)) (a':=?_) rfl rfl (by kernel_rfl) (fun _ _ _ h=>h) (.inl ⟨by rfl,fun w'=>(run_cat rfl rfl rfl (of_eq_true c28))⟩) ?_ ?_
           rotate_left
           · simp only [Act.put,ptn];rfl
           refine dq [11] HT ?_
           refine norm_ ?_ (hJ (.slice B24 1 d24) _ (HS.ar [some 0,some 1]))
           simp only [putAll,Act.put,ptn]
           (try rfl)
       · refine go_cl HS (spec_l07Length.calls ht26.out) Tryz.func187 ?_;clear HS;intro wt26 HS F
         refine nrm 32 hK ⟨_,HS⟩ fun HH=>?_;clear hK K
         refine dr1 3 HT fun K hK=>?_
         refine if_li (Zd.int .u8) [] ([(a0.f0 % 256)]:List Int) ([.int .u8 (a0.f0 % 256)]++ []) HS (MadeL.cons (js1:=[]) (c:=[.int .u8 (a0.f0 % 256)]) rfl (made_flat (fun _=>rfl)) MadeL.nil (by decide)) ?_;clear HS;intro v24 w24 HS F;obtain⟨B24,d24,rfl,m24⟩:=HS.formn 1 1 rfl rfl
         refine nrm 28 hK ⟨_,HS⟩ fun HH=>?_;clear hK K
         refine dr1 4 HT fun K hK=>?_
         refine if_wp (by rfl) ?_;refine wp_run (run_str rfl rfl Tryz.underlying50 Tryz.underlying5 Tryz.underlying9 (HS.rd 1 rfl)) ?_
         (try simp only [hpn,hpm] at HS)
         have F:=HS.bx
         refine nrm 29 hK ⟨_,HS⟩ fun HH=>?_;clear hK K
         refine dr_pure 8 (some 33) HT (v:=.string ((strOfNums ([(a0.f0 % 256)]:List Int))++t26)) (a':=?_) rfl rfl (by kernel_rfl) (fun _ _ _ h=>h) (.inl ⟨by rfl,fun w'=>(run_cat rfl rfl rfl (of_eq_true c27))⟩) ?_ ?_
         rotate_left
         · simp only [Act.put,ptn];rfl
         refine dr_pure 10 (some 35) HT (v:=.string (((strOfNums ([(a0.f0 % 256)]:List Int))++t26)++a0.f1)) (a':=?_) rfl rfl (by kernel_rfl) (fun _ _ _ h=>h) (.inl ⟨by rfl,fun w'=>(run_cat rfl rfl rfl (of_eq_true c28))⟩) ?_ ?_
         rotate_left
         · simp only [Act.put,ptn];rfl
         refine dq [11] HT ?_
         refine norm_ ?_ (hJ (.slice B24 1 d24) _ (HS.ar [some 0,some 1]))
         simp only [putAll,Act.put,ptn]
         (try rfl)
     rintro v24 w29 HS
     obtain⟨B24,d24,rfl,m24⟩:=HS.formn 1 1 rfl (by first|rfl|simp)
     have F:=HS.bx
     refine norm_ (a':=?_) ?_ ?_
     rotate_left
     · simp only [putAll,Act.put,ptn];rfl
     refine dn HT ?_
     obtain rfl:=zsome H
     go_wp2
     go_ret
     exact HS.pk
    obtain⟨c3a,c3b⟩:=bq c3;clear c3
    (try simp only [c3a,c3b,dcn])
    go_wp2
    go_loopg [3,4] k (fun kq v_3 v_4 w'=>∃(x11:ByteArray) (x12:Int),v_3=.string x11∧v_4=.int .i64 x12∧Aside0 (spec_l07Text.l0 kq x11 x12 a0=some r)∧Aside0 (kq≤k)∧Hp noFP w w' [.box g1 [.int .i64 a0.f0,.string a0.f1,.slice Ap0 a0.f2.length cp0] 153])
    case atStart=>exact⟨_,_,rfl,rfl,H,⟨Nat.le_refl _⟩,HS⟩
    case round=>
     clear HS H;(try clear F)
     obtain⟨x11,x12,rfl,rfl,H,HKk10,HS⟩:=hrel
     have F:=HS.bx
     cases gk with
     |zero=>exact absurd H.out (by simp [spec_l07Text.l0])
     | succ k10=>
      simp only [spec_l07Text.l0] at H
      replace H:=zif H;rcases H with⟨c14,H⟩|⟨c14,H⟩
      ·
       replace H:=zgo H;obtain⟨c15,H⟩:=H
       replace H:=zgo H;obtain⟨c16,H⟩:=H
       obtain⟨ad17,B17_2,d17_2,rfl,e17_0,e17_1,e17_2,m17_2,y17_2⟩:=at_T153 gp0 x12 (of_eq_true c15) (of_eq_true c16)
       have e17_0_17:=HS.keepc e17_0
       have e17_1_17:=HS.keepc e17_1
       have e17_2_17:=HS.keepc e17_2
       replace H:=zbind H;obtain⟨t18,ht18,H⟩:=H
       replace H:=zgo H;obtain⟨c20,H⟩:=H
       go_wp2_with (first|((with_reducible refine gd 23 rfl ?_);refine ev_cl HS (IH (by have:=HK0.out;have:=HKk10.out;omega) ht18.out (HS.ro y17_2) m17_2) Tryz.func166 ?_;clear HS;intro wt18 HS F)|((with_reducible refine gd 24 rfl ?_);refine ev_val rfl (run_cat rfl rfl rfl (of_eq_true c20)) ?_))
       go_roundg k10
       case measure=>have:=HK0.out;have:=HKk10.out;omega
       case rel=>exact⟨_,_,rfl,rfl,H,⟨by have:=HK0.out;have:=HKk10.out;omega⟩,HS.pi [0]⟩
      (try go_wp2)
      replace H:=zbind H;obtain⟨t13,ht13,H⟩:=H
      replace H:=zgo H;obtain⟨c19,H⟩:=H
      replace H:=zgo H;obtain⟨c21,H⟩:=H
      refine dr_start [] HS #[false,false,false,false,false,false,false,false,false,false,false,false] (by kernel_rfl) rfl rfl spec_l07Text.tT7 (fun w22 HT HS HH=>?_)
      (try clear F)
      refine join_ 0 #[true,true,true,true,true,true,true,true,true,true,true,true] (fun(v6:Value)=>([(25,.pointer (some ⟨g1,0,none⟩)),(26,.int .i64 a0.f0),(27,.int .u8 (a0.f0 % 256)),(28,v6),(29,.string (strOfNums ([(a0.f0 % 256)]:List Int))),(30,.string x11),(31,.int .i64 (x11.size:Int)),(32,.string t13),(33,.string ((strOfNums ([(a0.f0 % 256)]:List Int))++t13)),(34,.string x11),(35,.string (((strOfNums ([(a0.f0 % 256)]:List Int))++t13)++x11)),(2,.string (((strOfNums ([(a0.f0 % 256)]:List Int))++t13)++x11))]:List (Tmp×Value))) (fun(v6:Value) w'=>Hp noFP w w' [.box g1 [.int .i64 a0.f0,.string a0.f1,.slice Ap0 a0.f2.length cp0] 153,.own (Zd.slice 5 (Zd.int .u8)) ([(a0.f0 % 256)]:List Int) [v6]]) ?_ ?_
      rotate_left
      · intro hJ
        refine dqt [0,1,2,5,6,9] HT HH ?_
        refine dr_any [3,7] HT (by kernel_rfl) (by decide) (AllReadyL.cons rfl (by decide) (fun K hK=>?_) (AllReadyL.cons rfl (by decide) (fun K hK=>?_) AllReadyL.nil))
        · refine if_li (Zd.int .u8) [] ([(a0.f0 % 256)]:List Int) ([.int .u8 (a0.f0 % 256)]++ []) HS (MadeL.cons (js1:=[]) (c:=[.int .u8 (a0.f0 % 256)]) rfl (made_flat (fun _=>rfl)) MadeL.nil (by decide)) ?_;clear HS;intro v6 w6 HS F;obtain⟨B6,d6,rfl,m6⟩:=HS.formn 1 1 rfl rfl
          refine nrm 28 hK ⟨_,HS⟩ fun HH=>?_;clear hK K
          refine dr_any [4,7] HT (by kernel_rfl) (by decide) (AllReadyL.cons rfl (by decide) (fun K hK=>?_) (AllReadyL.cons rfl (by decide) (fun K hK=>?_) AllReadyL.nil))
          · refine if_wp (by rfl) ?_;refine wp_run (run_str rfl rfl Tryz.underlying50 Tryz.underlying5 Tryz.underlying9 (HS.rd 1 rfl)) ?_
            (try simp only [hpn,hpm] at HS)
            have F:=HS.bx
            refine nrm 29 hK ⟨_,HS⟩ fun HH=>?_;clear hK K
            refine dr1 7 HT fun K hK=>?_
            refine go_cl HS (spec_l07Length.calls ht13.out) Tryz.func187 ?_;clear HS;intro wt13 HS F
            refine nrm 32 hK ⟨_,HS⟩ fun HH=>?_;clear hK K
            refine dr_pure 8 (some 33) HT (v:=.string ((strOfNums ([(a0.f0 % 256)]:List Int))++t13)) (a':=?_) rfl rfl (by kernel_rfl) (fun _ _ _ h=>h) (.inl ⟨by rfl,fun w'=>(run_cat rfl rfl rfl (of_eq_true c19))⟩) ?_ ?_
            rotate_left
            · simp only [Act.put,ptn];rfl
            refine dr_pure 10 (some 35) HT (v:=.string (((strOfNums ([(a0.f0 % 256)]:List Int))++t13)++x11)) (a':=?_) rfl rfl (by kernel_rfl) (fun _ _ _ h=>h) (.inl ⟨by rfl,fun w'=>(run_cat rfl rfl rfl (of_eq_true c21))⟩) ?_ ?_
            rotate_left
            · simp only [Act.put,ptn];rfl
            refine dq [11] HT ?_
            refine norm_ ?_ (hJ (.slice B6 1 d6) _ (HS.ar [some 0,some 1]))
            simp only [putAll,Act.put,ptn]
            (try rfl)
          · refine go_cl HS (spec_l07Length.calls ht13.out) Tryz.func187 ?_;clear HS;intro wt13 HS F
            refine nrm 32 hK ⟨_,HS⟩ fun HH=>?_;clear hK K
            refine dr1 4 HT fun K hK=>?_
            refine if_wp (by rfl) ?_;refine wp_run (run_str rfl rfl Tryz.underlying50 Tryz.underlying5 Tryz.underlying9 (HS.rd 1 rfl)) ?_
            (try simp only [hpn,hpm] at HS)
            have F:=HS.bx
            refine nrm 29 hK ⟨_,HS⟩ fun HH=>?_;clear hK K
            refine dr_pure 8 (some 33) HT (v:=.string ((strOfNums ([(a0.f0 % 256)]:List Int))++t13)) (a':=?_) rfl rfl (by kernel_rfl) (fun _ _ _ h=>h) (.inl ⟨by rfl,fun w'=>(run_cat rfl rfl rfl (of_eq_true c19))⟩) ?_ ?_
            rotate_left
            · simp only [Act.put,ptn];rfl
            refine dr_pure 10 (some 35) HT (v:=.string (((strOfNums ([(a0.f0 % 256)]:List Int))++t13)++x11)) (a':=?_) rfl rfl (by kernel_rfl) (fun _ _ _ h=>h) (.inl ⟨by rfl,fun w'=>(run_cat rfl rfl rfl (of_eq_true c21))⟩) ?_ ?_
            rotate_left
            · simp only [Act.put,ptn];rfl
            refine dq [11] HT ?_
            refine norm_ ?_ (hJ (.slice B6 1 d6) _ (HS.ar [some 0,some 1]))
            simp only [putAll,Act.put,ptn]
            (try rfl)
        · refine go_cl HS (spec_l07Length.calls ht13.out) Tryz.func187 ?_;clear HS;intro wt13 HS F
          refine nrm 32 hK ⟨_,HS⟩ fun HH=>?_;clear hK K
          refine dr1 3 HT fun K hK=>?_
          refine if_li (Zd.int .u8) [] ([(a0.f0 % 256)]:List Int) ([.int .u8 (a0.f0 % 256)]++ []) HS (MadeL.cons (js1:=[]) (c:=[.int .u8 (a0.f0 % 256)]) rfl (made_flat (fun _=>rfl)) MadeL.nil (by decide)) ?_;clear HS;intro v6 w6 HS F;obtain⟨B6,d6,rfl,m6⟩:=HS.formn 1 1 rfl rfl
          refine nrm 28 hK ⟨_,HS⟩ fun HH=>?_;clear hK K
          refine dr1 4 HT fun K hK=>?_
          refine if_wp (by rfl) ?_;refine wp_run (run_str rfl rfl Tryz.underlying50 Tryz.underlying5 Tryz.underlying9 (HS.rd 1 rfl)) ?_
          (try simp only [hpn,hpm] at HS)
          have F:=HS.bx
          refine nrm 29 hK ⟨_,HS⟩ fun HH=>?_;clear hK K
          refine dr_pure 8 (some 33) HT (v:=.string ((strOfNums ([(a0.f0 % 256)]:List Int))++t13)) (a':=?_) rfl rfl (by kernel_rfl) (fun _ _ _ h=>h) (.inl ⟨by rfl,fun w'=>(run_cat rfl rfl rfl (of_eq_true c19))⟩) ?_ ?_
          rotate_left
          · simp only [Act.put,ptn];rfl
          refine dr_pure 10 (some 35) HT (v:=.string (((strOfNums ([(a0.f0 % 256)]:List Int))++t13)++x11)) (a':=?_) rfl rfl (by kernel_rfl) (fun _ _ _ h=>h) (.inl ⟨by rfl,fun w'=>(run_cat rfl rfl rfl (of_eq_true c21))⟩) ?_ ?_
          rotate_left
          · simp only [Act.put,ptn];rfl
          refine dq [11] HT ?_
          refine norm_ ?_ (hJ (.slice B6 1 d6) _ (HS.ar [some 0,some 1]))
          simp only [putAll,Act.put,ptn]
          (try rfl)
      rintro v6 w23 HS
      obtain⟨B6,d6,rfl,m6⟩:=HS.formn 1 1 rfl (by first|rfl|simp)
      have F:=HS.bx
      refine norm_ (a':=?_) ?_ ?_
      rotate_left
      · simp only [putAll,Act.put,ptn];rfl
      refine dn HT ?_
      obtain rfl:=zsome H
      go_wp2
      go_ret
      exact HS.pk
theorem spec_l07Text.calls {k:Nat}{a0:S153}{Ap0:Option Addr}{np0 cp0:Nat}{r:ByteArray}{w:World}(h:spec_l07Text.f k a0=some r)(gp0:k153.C w Ap0 np0 a0.f2)(lp0:np0≤cp0):
    Calls Tryz.prog 166 #[.agg #[.int .i64 a0.f0,.string a0.f1,.slice Ap0 np0 cp0]] w (fun e w'=>e=.returned (.string r)∧Hp noFP w w' []):=spec_l07Text.calls_ k (Nat.le_refl k) h gp0 lp0
def spec_ItemText.f (k:Nat)(a0:S153):Option (ByteArray×Bool):=((spec_ItemOk.f k a0).bind fun t3=>(if t3=true then((spec_l07Text.f k a0).bind fun t6=>(if 4000<(t6.size:Int)then(some ((⟨#[]⟩:ByteArray),false))else(some (t6,true))))else(some ((⟨#[]⟩:ByteArray),false))))
theorem spec_ItemText.calls {k:Nat}{a0:S153}{Ap0:Option Addr}{np0 cp0:Nat}{r1:ByteArray}{r2:Bool}{w:World}(h:spec_ItemText.f k a0=some (r1,r2))(gp0:k153.C w Ap0 np0 a0.f2)(lp0:np0≤cp0):
    Calls Tryz.prog 136 #[.agg #[.int .i64 a0.f0,.string a0.f1,.slice Ap0 np0 cp0]] w (fun e w'=>e=.returned (.tuple #[.string r1,.bool r2])∧Hp noFP w w' []):=by
 obtain rfl:=C_len gp0
 have HS:=Hp.start w
 have H:=Aside0.mk h
 clear h
 unfold spec_ItemText.f at H
 go_enter Tryz.func136,Tryz.ntmps136
 replace H:=zbind H;obtain⟨t3,ht3,H⟩:=H
 go_upto_if 7 with(first|((with_reducible refine gd 1 rfl ?_);refine ev_bx HS ?_;clear HS;intro g1 w1 HS F)|((with_reducible refine gd 6 rfl ?_);refine ev_cl HS (spec_ItemOk.calls ht3.out (HS.ro gp0) lp0) Tryz.func165 ?_;clear HS;intro wt3 HS F))
 replace H:=znifb H;rcases H with⟨c5,H⟩|⟨c5,H⟩
 ·
  subst c5
  (try simp only [dcn,dcu,dcf])
  obtain⟨rfl,rfl⟩:=zsome2 H
  go_wp2
  exact rl rfl (.tmp (.tmp .nil)) ⟨rfl,HS.pi []⟩
 subst c5
 (try simp only [dcn,dcu,dcf])
 replace H:=zbind H;obtain⟨t6,ht6,H⟩:=H
 go_upto_if 12 with((with_reducible refine gd 9 rfl ?_);refine ev_cl HS (spec_l07Text.calls ht6.out (HS.ro gp0) lp0) Tryz.func166 ?_;clear HS;intro wt6 HS F)
 replace H:=zif H;rcases H with⟨c8,H⟩|⟨c8,H⟩
 ·
  (try simp only [c8,dcn])
  obtain⟨rfl,rfl⟩:=zsome2 H
  go_wp2
  exact rl rfl (.tmp (.tmp .nil)) ⟨rfl,HS.pi []⟩
 (try simp only [c8,dcn])
 obtain⟨rfl,rfl⟩:=zsome2 H
 go_wp2
 exact rl rfl (.tmp (.tmp .nil)) ⟨rfl,HS.pi []⟩
def spec_l09Bytes.f (a0:ByteArray):Option (S153):=(some (⟨4,a0,([]:List S153)⟩:S153))
theorem spec_l09Bytes.calls {a0:ByteArray}{r:S153}{w:World}(h:spec_l09Bytes.f a0=some r):
    Calls Tryz.prog 138 #[.string a0] w (fun e w'=>∃v0_:Value,e=.returned (.agg #[.int .i64 r.f0,.string r.f1,v0_])∧Hp noFP w w' [.own (Zd.slice 153 q153) r.f2 [v0_]]):=by
 have HS:=Hp.start w
 have H:=Aside0.mk h
 clear h
 unfold spec_l09Bytes.f at H
 go_enter Tryz.func138,Tryz.ntmps138
 obtain rfl:=zsome H
 go_wp2_with (first|((with_reducible refine gd 2 rfl ?_);refine ev_bx HS ?_;clear HS;intro g2 w2 HS F)|((with_reducible refine gate_store (p:=2) rfl ?_);refine ev_st 0 0 HS (seg:=[.int .i64 4,.string a0,.slice none 0 0]) ?_;clear HS;intro w3 HS F))
 replace HS:=HS.nil 153 q153
 exact rc 0 HS Tryz.underlying153 ⟨_,rfl,HS.pi [1]⟩
end Go.Proofs.YtncddikfafgklaaGreatDoor.F

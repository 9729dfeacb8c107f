/- Functions of the program and of the law, and that their calls do what is written here. -/
import Derived.Test.YtncddikfafgklaaGreatDoorZgFnExactWaysTod
namespace Go.Proofs.YtncddikfafgklaaGreatDoor.F
open Go.RowKit YtncddikfafgklaaGreatDoorW.PrintWords YtncddikfafgklaaGreatDoorW.PrintLast YtncddikfafgklaaGreatDoorW.PrintMore Z
attribute [local go_sem] max2_int min2_int max_two min_two max_three min_three max_four min_four
set_option linter.unusedVariables false
set_option linter.unusedSimpArgs false
set_option maxRecDepth 100000
set_option maxHeartbeats 16000000
mutual
def spec_IntItem.l0:Nat→Int→ByteArray→Option (S153)
  |0,_,_=>none
  |k+1,x15,x16=>(if 0<x15 then(if(strOfNums ([((Int.tmod x15 256) % 256)]:List Int)).size+x16.size≤9223372036854775807 then(spec_IntItem.l0 k (wrap64 (Int.tdiv x15 256)) ((strOfNums ([((Int.tmod x15 256) % 256)]:List Int))++x16))else none)else(if x16.toList=([]:List UInt8)then(if(⟨#[0]⟩:ByteArray).size+x16.size≤9223372036854775807 then(some (⟨2,((⟨#[0]⟩:ByteArray)++x16),([]:List S153)⟩:S153))else none)else(if 0<(x16.size:Int)then(if 128≤(bt x16 0)then(if(⟨#[0]⟩:ByteArray).size+x16.size≤9223372036854775807 then(some (⟨2,((⟨#[0]⟩:ByteArray)++x16),([]:List S153)⟩:S153))else none)else(some (⟨2,x16,([]:List S153)⟩:S153)))else none)))
def spec_IntItem.l1:Nat→Int→ByteArray→Option (S153)
  |0,_,_=>none
  |k+1,x44,x45=>(if 0<x44 then(if(strOfNums ([((Int.tmod x44 256) % 256)]:List Int)).size+x45.size≤9223372036854775807 then(spec_IntItem.l1 k (wrap64 (Int.tdiv x44 256)) ((strOfNums ([((Int.tmod x44 256) % 256)]:List Int))++x45))else none)else(if x45.toList=([]:List UInt8)then(if(⟨#[0]⟩:ByteArray).size+x45.size≤9223372036854775807 then(some (⟨2,((⟨#[0]⟩:ByteArray)++x45),([]:List S153)⟩:S153))else none)else(if 0<(x45.size:Int)then(if 128≤(bt x45 0)then(if(⟨#[0]⟩:ByteArray).size+x45.size≤9223372036854775807 then(some (⟨2,((⟨#[0]⟩:ByteArray)++x45),([]:List S153)⟩:S153))else none)else(some (⟨2,x45,([]:List S153)⟩:S153)))else none)))
end
def spec_IntItem.f (k:Nat)(a0:Int):Option (S153):=((spec_l01In.f a0 0 1000000000).bind fun t3=>(if t3=true then(spec_IntItem.l0 k a0 (⟨#[]⟩:ByteArray))else(spec_IntItem.l1 k 0 (⟨#[]⟩:ByteArray))))
theorem spec_IntItem.calls {k:Nat}{a0:Int}{r:S153}{w:World}(h:spec_IntItem.f k a0=some r):
    Calls Tryz.prog 167 #[.int .i64 a0] w (fun e w'=>∃v0_:Value,e=.returned (.agg #[.int .i64 r.f0,.string r.f1,v0_])∧Hp noFP w w' [.own (Zd.slice 153 q153) r.f2 [v0_]]):=by
 have HS:=Hp.start w
 have H:=Aside0.mk h
 clear h
 unfold spec_IntItem.f at H
 go_enter Tryz.func167,Tryz.ntmps167
 replace H:=zbind H;obtain⟨t3,ht3,H⟩:=H
 go_upto_if 6 with(first|((with_reducible refine gd 2 rfl ?_);refine ev_bx HS ?_;clear HS;intro g2 w2 HS F)|((with_reducible refine gd 5 rfl ?_);refine ev_cl HS (spec_l01In.calls ht3.out) Tryz.func97 ?_;clear HS;intro wt3 HS F))
 replace H:=zifb H;rcases H with⟨c5,H⟩|⟨c5,H⟩
 ·
  subst c5
  (try simp only [dcn,dcu,dcf])
  go_wp2
  go_loopg [0,3] k (fun kq v_0 v_3 w'=>∃(x15:Int) (x16:ByteArray),v_0=.int .i64 x15∧v_3=.string x16∧Aside0 (spec_IntItem.l0 kq x15 x16=some r)∧Aside0 (kq≤k)∧Hp noFP w w' [.box g2 [.int .i64 0,.string (⟨#[]⟩:ByteArray),.slice none 0 0] 153])
  case atStart=>exact⟨_,_,rfl,rfl,H,⟨Nat.le_refl _⟩,HS⟩
  case round=>
   clear HS H;(try clear F)
   obtain⟨x15,x16,rfl,rfl,H,HKk14,HS⟩:=hrel
   have F:=HS.bx
   cases gk with
   |zero=>exact absurd H.out (by simp [spec_IntItem.l0])
   | succ k14=>
    simp only [spec_IntItem.l0] at H
    replace H:=zif H;rcases H with⟨c18,H⟩|⟨c18,H⟩
    ·
     replace H:=zgo H;obtain⟨c21,H⟩:=H
     go_wp2_with (first|((with_reducible refine gd 12 rfl ?_);refine ev_li (Zd.int .u8) [] ([((Int.tmod x15 256) % 256)]:List Int) ([.int .u8 ((Int.tmod x15 256) % 256)]++ []) HS (MadeL.cons (js1:=[]) (c:=[.int .u8 ((Int.tmod x15 256) % 256)]) rfl (made_flat (fun _=>rfl)) MadeL.nil (by decide)) ?_;clear HS;intro v19 w19 HS F;obtain⟨B19,d19,rfl,m19⟩:=HS.formn 1 1 rfl rfl)|((with_reducible refine gd 13 rfl ?_);refine ev_val rfl (run_str rfl rfl Tryz.underlying50 Tryz.underlying5 Tryz.underlying9 (HS.rd 1 rfl)) ?_)|((with_reducible refine gd 15 rfl ?_);refine ev_val rfl (run_cat rfl rfl rfl (of_eq_true c21)) ?_))
     go_roundg k14
     case measure=>have:=HKk14.out;omega
     case rel=>exact⟨_,_,rfl,rfl,H,⟨by have:=HKk14.out;omega⟩,HS.pi [0]⟩
    replace H:=zif' H;rcases H with⟨c22,H⟩|⟨c22,H⟩
    ·
     have c22a:=beq_iff_eq.mpr c22
     have c22b:=bne_eq_false_iff_eq.mpr c22
     have c22e:=List.isEmpty_iff.mpr c22
     clear c22
     replace H:=zgo H;obtain⟨c23,H⟩:=H
     obtain rfl:=zsome H
     go_wp2_with (first|((with_reducible refine gd 26 rfl ?_);refine ev_val rfl (run_cat rfl rfl rfl (of_eq_true c23)) ?_)|((with_reducible refine gate_store (p:=2) rfl ?_);refine ev_st 0 0 HS (seg:=[.int .i64 2,.string ((⟨#[0]⟩:ByteArray)++x16),.slice none 0 0]) ?_;clear HS;intro w24 HS F))
     replace HS:=HS.nil 153 q153
     exact rc 0 HS Tryz.underlying153 ⟨_,rfl,HS.pi [1]⟩
    have c22a:=beq_eq_false_iff_ne.mpr c22
    have c22b:=bne_iff_ne.mpr c22
    have c22e:=List.isEmpty_eq_false_iff.mpr c22
    clear c22
    replace H:=zgo H;obtain⟨c26,H⟩:=H
    have c26n:(0<x16.size)=True:=eq_true (by have:=of_eq_true c26;omega)
    have hx27:∀h:0<x16.size,((x16[0]'h).toNat:Int)=bt x16 0:=bt_at x16 0
    have hz28:0<x16.size:=(by have:=of_eq_true c26;omega)
    replace H:=znif H;rcases H with⟨c29,H⟩|⟨c29,H⟩
    ·
     obtain rfl:=zsome H
     go_wp2_with ((with_reducible refine gate_store (p:=2) rfl ?_);refine ev_st 0 0 HS (seg:=[.int .i64 2,.string x16,.slice none 0 0]) ?_;clear HS;intro w33 HS F)
     replace HS:=HS.nil 153 q153
     exact rc 0 HS Tryz.underlying153 ⟨_,rfl,HS.pi [1]⟩
    replace H:=zgo H;obtain⟨c30,H⟩:=H
    obtain rfl:=zsome H
    go_wp2_with (first|((with_reducible refine gd 26 rfl ?_);refine ev_val rfl (run_cat rfl rfl rfl (of_eq_true c30)) ?_)|((with_reducible refine gate_store (p:=2) rfl ?_);refine ev_st 0 0 HS (seg:=[.int .i64 2,.string ((⟨#[0]⟩:ByteArray)++x16),.slice none 0 0]) ?_;clear HS;intro w31 HS F))
    replace HS:=HS.nil 153 q153
    exact rc 0 HS Tryz.underlying153 ⟨_,rfl,HS.pi [1]⟩
 subst c5
 (try simp only [dcn,dcu,dcf])
 go_wp2
 go_loopg [0,3] k (fun kq v_0 v_3 w'=>∃(x44:Int) (x45:ByteArray),v_0=.int .i64 x44∧v_3=.string x45∧Aside0 (spec_IntItem.l1 kq x44 x45=some r)∧Aside0 (kq≤k)∧Hp noFP w w' [.box g2 [.int .i64 0,.string (⟨#[]⟩:ByteArray),.slice none 0 0] 153])
 case atStart=>exact⟨_,_,rfl,rfl,H,⟨Nat.le_refl _⟩,HS⟩
 case round=>
  clear HS H;(try clear F)
  obtain⟨x44,x45,rfl,rfl,H,HKk43,HS⟩:=hrel
  have F:=HS.bx
  cases gk with
  |zero=>exact absurd H.out (by simp [spec_IntItem.l1])
  | succ k43=>
   simp only [spec_IntItem.l1] at H
   replace H:=zif H;rcases H with⟨c47,H⟩|⟨c47,H⟩
   ·
    replace H:=zgo H;obtain⟨c50,H⟩:=H
    go_wp2_with (first|((with_reducible refine gd 12 rfl ?_);refine ev_li (Zd.int .u8) [] ([((Int.tmod x44 256) % 256)]:List Int) ([.int .u8 ((Int.tmod x44 256) % 256)]++ []) HS (MadeL.cons (js1:=[]) (c:=[.int .u8 ((Int.tmod x44 256) % 256)]) rfl (made_flat (fun _=>rfl)) MadeL.nil (by decide)) ?_;clear HS;intro v48 w48 HS F;obtain⟨B48,d48,rfl,m48⟩:=HS.formn 1 1 rfl rfl)|((with_reducible refine gd 13 rfl ?_);refine ev_val rfl (run_str rfl rfl Tryz.underlying50 Tryz.underlying5 Tryz.underlying9 (HS.rd 1 rfl)) ?_)|((with_reducible refine gd 15 rfl ?_);refine ev_val rfl (run_cat rfl rfl rfl (of_eq_true c50)) ?_))
    go_roundg k43
    case measure=>have:=HKk43.out;omega
    case rel=>exact⟨_,_,rfl,rfl,H,⟨by have:=HKk43.out;omega⟩,HS.pi [0]⟩
   replace H:=zif' H;rcases H with⟨c51,H⟩|⟨c51,H⟩
   ·
    have c51a:=beq_iff_eq.mpr c51
    have c51b:=bne_eq_false_iff_eq.mpr c51
    have c51e:=List.isEmpty_iff.mpr c51
    clear c51
    replace H:=zgo H;obtain⟨c52,H⟩:=H
    obtain rfl:=zsome H
    go_wp2_with (first|((with_reducible refine gd 26 rfl ?_);refine ev_val rfl (run_cat rfl rfl rfl (of_eq_true c52)) ?_)|((with_reducible refine gate_store (p:=2) rfl ?_);refine ev_st 0 0 HS (seg:=[.int .i64 2,.string ((⟨#[0]⟩:ByteArray)++x45),.slice none 0 0]) ?_;clear HS;intro w53 HS F))
    replace HS:=HS.nil 153 q153
    exact rc 0 HS Tryz.underlying153 ⟨_,rfl,HS.pi [1]⟩
   have c51a:=beq_eq_false_iff_ne.mpr c51
   have c51b:=bne_iff_ne.mpr c51
   have c51e:=List.isEmpty_eq_false_iff.mpr c51
   clear c51
   replace H:=zgo H;obtain⟨c55,H⟩:=H
   have c55n:(0<x45.size)=True:=eq_true (by have:=of_eq_true c55;omega)
   have hx56:∀h:0<x45.size,((x45[0]'h).toNat:Int)=bt x45 0:=bt_at x45 0
   have hz57:0<x45.size:=(by have:=of_eq_true c55;omega)
   replace H:=znif H;rcases H with⟨c58,H⟩|⟨c58,H⟩
   ·
    obtain rfl:=zsome H
    go_wp2_with ((with_reducible refine gate_store (p:=2) rfl ?_);refine ev_st 0 0 HS (seg:=[.int .i64 2,.string x45,.slice none 0 0]) ?_;clear HS;intro w62 HS F)
    replace HS:=HS.nil 153 q153
    exact rc 0 HS Tryz.underlying153 ⟨_,rfl,HS.pi [1]⟩
   replace H:=zgo H;obtain⟨c59,H⟩:=H
   obtain rfl:=zsome H
   go_wp2_with (first|((with_reducible refine gd 26 rfl ?_);refine ev_val rfl (run_cat rfl rfl rfl (of_eq_true c59)) ?_)|((with_reducible refine gate_store (p:=2) rfl ?_);refine ev_st 0 0 HS (seg:=[.int .i64 2,.string ((⟨#[0]⟩:ByteArray)++x45),.slice none 0 0]) ?_;clear HS;intro w60 HS F))
   replace HS:=HS.nil 153 q153
   exact rc 0 HS Tryz.underlying153 ⟨_,rfl,HS.pi [1]⟩
def spec_TextItem.f (a0:ByteArray):Option (S153):=(some (⟨12,a0,([]:List S153)⟩:S153))
theorem spec_TextItem.calls {a0:ByteArray}{r:S153}{w:World}(h:spec_TextItem.f a0=some r):
    Calls Tryz.prog 168 #[.string a0] w (fun e w'=>∃v0_:Value,e=.returned (.agg #[.int .i64 r.f0,.string r.f1,v0_])∧Hp noFP w w' [.own (Zd.slice 153 q153) r.f2 [v0_]]):=by
 have HS:=Hp.start w
 have H:=Aside0.mk h
 clear h
 unfold spec_TextItem.f at H
 go_enter Tryz.func168,Tryz.ntmps168
 obtain rfl:=zsome H
 go_wp2_with (first|((with_reducible refine gd 2 rfl ?_);refine ev_bx HS ?_;clear HS;intro g2 w2 HS F)|((with_reducible refine gate_store (p:=2) rfl ?_);refine ev_st 0 0 HS (seg:=[.int .i64 12,.string a0,.slice none 0 0]) ?_;clear HS;intro w3 HS F))
 replace HS:=HS.nil 153 q153
 exact rc 0 HS Tryz.underlying153 ⟨_,rfl,HS.pi [1]⟩
def spec_l09Bool.f (a0:Bool):Option (S153):=(if a0=true then(some (⟨1,(⟨#[255]⟩:ByteArray),([]:List S153)⟩:S153))else(some (⟨1,(⟨#[0]⟩:ByteArray),([]:List S153)⟩:S153)))
theorem spec_l09Bool.calls {a0:Bool}{r:S153}{w:World}(h:spec_l09Bool.f a0=some r):
    Calls Tryz.prog 169 #[.bool a0] w (fun e w'=>∃v0_:Value,e=.returned (.agg #[.int .i64 r.f0,.string r.f1,v0_])∧Hp noFP w w' [.own (Zd.slice 153 q153) r.f2 [v0_]]):=by
 have HS:=Hp.start w
 have H:=Aside0.mk h
 clear h
 unfold spec_l09Bool.f at H
 go_enter Tryz.func169,Tryz.ntmps169
 go_upto_if 3 with((with_reducible refine gd 2 rfl ?_);refine ev_bx HS ?_;clear HS;intro g2 w2 HS F)
 replace H:=zifb H;rcases H with⟨c3,H⟩|⟨c3,H⟩
 ·
  subst c3
  (try simp only [dcn,dcu,dcf])
  obtain rfl:=zsome H
  go_wp2_with ((with_reducible refine gate_store (p:=2) rfl ?_);refine ev_st 0 0 HS (seg:=[.int .i64 1,.string (⟨#[255]⟩:ByteArray),.slice none 0 0]) ?_;clear HS;intro w4 HS F)
  replace HS:=HS.nil 153 q153
  exact rc 0 HS Tryz.underlying153 ⟨_,rfl,HS.pi [1]⟩
 subst c3
 (try simp only [dcn,dcu,dcf])
 obtain rfl:=zsome H
 go_wp2_with ((with_reducible refine gate_store (p:=2) rfl ?_);refine ev_st 0 0 HS (seg:=[.int .i64 1,.string (⟨#[0]⟩:ByteArray),.slice none 0 0]) ?_;clear HS;intro w6 HS F)
 replace HS:=HS.nil 153 q153
 exact rc 0 HS Tryz.underlying153 ⟨_,rfl,HS.pi [1]⟩
def spec_l09Ints.l0:Nat→(List S153)→Int→(List Int)→Option (S153)
  |0,_,_,_=>none
  |k+1,l19,x21,a0=>(if x21<(a0.length:Int)then(if 0≤x21 then(if x21<(a0.length:Int)then((spec_IntItem.f k (rd a0 x21)).bind fun t9=>(if l19.length+1≤2932031007402 then(lets (l19++([t9]:List S153)) fun y13=>(spec_l09Ints.l0 k y13 (wrap64 (x21+1)) a0))else none))else none)else none)else(some (⟨48,(⟨#[]⟩:ByteArray),l19⟩:S153)))
def spec_l09Ints.f (k:Nat)(a0:(List Int)):Option (S153):=(spec_l09Ints.l0 k [] 0 a0)
def spec_l09Ints.T5:TT:=(true,[([],[]),([0],[0]),([],[]),([],[]),([2,3],[2,3]),([4],[4]),([5],[5]),([6],[6]),([1,7,6],[1,7]),([0,1,2,3,4,5,6,7,8],[]),([9,8,8,0,1,2,3,4,5,6,7,8],[8,9])])
theorem spec_l09Ints.tT5:rtab .any (opsOf Tryz.f170 5)=spec_l09Ints.T5:=by kernel_rfl
theorem spec_l09Ints.calls {k:Nat}{a0:(List Int)}{Ap0:Option Addr}{np0 cp0:Nat}{r:S153}{w:World}(h:spec_l09Ints.f k a0=some r)(gp0:(Kd.int .i64).C w Ap0 np0 a0)(lp0:np0≤cp0):
    Calls Tryz.prog 170 #[.slice Ap0 np0 cp0] w (fun e w'=>∃v0_:Value,e=.returned (.agg #[.int .i64 r.f0,.string r.f1,v0_])∧Hp noFP w w' [.own (Zd.slice 153 q153) r.f2 [v0_]]):=by
 obtain rfl:=C_len gp0
 have HS:=Hp.start w
 have H:=Aside0.mk h
 clear h
 unfold spec_l09Ints.f at H
 go_enter Tryz.func170,Tryz.ntmps170
 go_wp2_with (first|((with_reducible refine gd 2 rfl ?_);refine ev_bx HS ?_;clear HS;intro g2 w2 HS F)|((with_reducible refine gd 3 rfl ?_);refine ev_bx HS ?_;clear HS;intro g3 w3 HS F)|((with_reducible refine gate_store (p:=3) rfl ?_);refine ev_st 1 0 HS (seg:=[.int .i64 48,.string (⟨#[]⟩:ByteArray),.slice none 0 0]) ?_;clear HS;intro w5 HS F))
 replace HS:=HS.nil 153 q153
 go_loopg [4] k (fun kq v_4 w'=>∃(l19:List S153) (v20:Value) (x21:Int),v_4=.int .i64 x21∧Aside0 (spec_l09Ints.l0 kq l19 x21 a0=some r)∧Aside0 (kq≤k)∧Hp noFP w w' [.box g2 [.int .i64 0,.string (⟨#[]⟩:ByteArray),.slice none 0 0] 153,.box g3 [.int .i64 48,.string (⟨#[]⟩:ByteArray),v20] 153,.own (Zd.slice 153 q153) l19 [v20]])
 case atStart=>exact⟨_,_,_,rfl,H,⟨Nat.le_refl _⟩,HS⟩
 case round=>
  clear HS H;(try clear F)
  obtain⟨l19,v20,x21,rfl,H,HKk18,HS⟩:=hrel
  obtain⟨B20,d20,rfl,m20⟩:=HS.form 2 rfl
  have F:=HS.bx
  cases gk with
  |zero=>exact absurd H.out (by simp [spec_l09Ints.l0])
  | succ k18=>
   simp only [spec_l09Ints.l0] at H
   replace H:=znif H;rcases H with⟨c23,H⟩|⟨c23,H⟩
   ·
    obtain rfl:=zsome H
    go_wp2_with ((with_reducible refine gate_store (p:=2) rfl ?_);refine ev_st 0 0 HS (seg:=[.int .i64 48,.string (⟨#[]⟩:ByteArray),.slice B20 l19.length d20]) ?_;clear HS;intro w27 HS F)
    exact rc 0 HS Tryz.underlying153 ⟨_,rfl,HS.pi [2]⟩
   (try go_wp2)
   replace H:=zgo H;obtain⟨c6,H⟩:=H
   replace H:=zgo H;obtain⟨c7,H⟩:=H
   obtain⟨ad8,rfl,e8_0⟩:=Kd.at_int gp0 x21 (of_eq_true c6) (of_eq_true c7)
   replace H:=zbind H;obtain⟨t9,ht9,H⟩:=H
   replace H:=zgo H;obtain⟨c12,H⟩:=H
   replace H:=zlets H;obtain⟨y13,e_y13,H⟩:=H
   refine dr_start2 [.box g2 [.int .i64 0,.string (⟨#[]⟩:ByteArray),.slice none 0 0] 153,.box g3 [.int .i64 48,.string (⟨#[]⟩:ByteArray),.slice B20 l19.length d20] 153,.emp] [10] HS (HS.ar [some 0,some 1,none]) #[false,false,false,false,false,false,false,false,false,false,false] (by kernel_rfl) rfl rfl spec_l09Ints.tT5 (fun w25 HT HS HH=>?_)
   (try clear F)
   refine dqt [0,1,2,3,4] HT HH ?_
   refine dtk 5 17 HT HH rfl (by rintro w' ⟨rs',HS'⟩;have e8_0:=HS'.keepc e8_0;go_simp;with_reducible rfl) ?_
   refine dr1 6 HT fun K hK=>?_
   refine go_cl1 HS (spec_IntItem.calls ht9.out) Tryz.func167 ?_;clear HS;intro v10 wt9 HS F;obtain⟨B10,d10,rfl,m10⟩:=HS.form 3 rfl
   refine nra 18 hK (HS.ar [some 0,some 1,none]) fun HH=>?_;clear hK K
   refine dr1 7 HT fun K hK=>?_
   refine if_li q153 [3] ([t9]:List S153) ([.int .i64 t9.f0,.string t9.f1,.slice B10 t9.f2.length d10]++ []) HS (MadeL.cons (js1:=[3]) (c:=[.int .i64 t9.f0,.string t9.f1,.slice B10 t9.f2.length d10]) rfl (fun S hd hh=>q153_pack (x:=t9) hd (hh 3 (.own (Zd.slice 153 q153) t9.f2 [.slice B10 t9.f2.length d10]) rfl) (by decide)) MadeL.nil (by decide)) ?_;clear HS;intro v11 w11 HS F;obtain⟨B11,d11,rfl,m11⟩:=HS.formn 1 4 rfl rfl
   refine nra 19 hK (HS.ar [some 0,some 1,none]) fun HH=>?_;clear hK K
   refine dr1 8 HT fun K hK=>?_
   refine wp_ap q153 2 4 HS rfl rfl Tryz.underlying151 info153 (of_eq_true c12) ?_;clear HS;intro v13 w13 HS;rw [←e_y13.out] at HS;obtain⟨B13,d13,rfl,m13⟩:=HS.form 5 rfl
   (try simp only [hpn,hpm] at HS)
   have F:=HS.bx
   refine nra 20 hK (HS.ar [some 0,some 1,none]) fun HH=>?_;clear hK K
   refine dq [9] HT ?_
   refine dl 10 HT fun K hK=>?_
   refine if_st 1 2 HS (seg:=[.slice B13 y13.length d13]) ?_;clear HS;intro w14 HS F
   refine hK.out _ _ ?_
   clear hK K
   refine dn HT ?_
   (try clear F)
   have F:=HS.bx
   go_wp2
   go_roundg k18
   case measure=>have:=HKk18.out;omega
   case rel=>exact⟨_,_,_,rfl,H,⟨by have:=HKk18.out;omega⟩,HS.pi [0,1,5]⟩
def spec_l09Texts.l0:Nat→(List S153)→Int→(List ByteArray)→Option (S153)
  |0,_,_,_=>none
  |k+1,l19,x21,a0=>(if x21<(a0.length:Int)then(if 0≤x21 then(if x21<(a0.length:Int)then((spec_TextItem.f (rdOf ByteArray.empty a0 x21)).bind fun t9=>(if l19.length+1≤2932031007402 then(lets (l19++([t9]:List S153)) fun y13=>(spec_l09Texts.l0 k y13 (wrap64 (x21+1)) a0))else none))else none)else none)else(some (⟨48,(⟨#[]⟩:ByteArray),l19⟩:S153)))
def spec_l09Texts.f (k:Nat)(a0:(List ByteArray)):Option (S153):=(spec_l09Texts.l0 k [] 0 a0)
def spec_l09Texts.T5:TT:=(true,[([],[]),([0],[0]),([],[]),([],[]),([2,3],[2,3]),([4],[4]),([5],[5]),([6],[6]),([1,7,6],[1,7]),([0,1,2,3,4,5,6,7,8],[]),([9,8,8,0,1,2,3,4,5,6,7,8],[8,9])])
theorem spec_l09Texts.tT5:rtab .any (opsOf Tryz.f171 5)=spec_l09Texts.T5:=by kernel_rfl
theorem spec_l09Texts.calls {k:Nat}{a0:(List ByteArray)}{Ap0:Option Addr}{np0 cp0:Nat}{r:S153}{w:World}(h:spec_l09Texts.f k a0=some r)(gp0:Kd.string.C w Ap0 np0 a0)(lp0:np0≤cp0):
    Calls Tryz.prog 171 #[.slice Ap0 np0 cp0] w (fun e w'=>∃v0_:Value,e=.returned (.agg #[.int .i64 r.f0,.string r.f1,v0_])∧Hp noFP w w' [.own (Zd.slice 153 q153) r.f2 [v0_]]):=by
 obtain rfl:=C_len gp0
 have HS:=Hp.start w
 have H:=Aside0.mk h
 clear h
 unfold spec_l09Texts.f at H
 go_enter Tryz.func171,Tryz.ntmps171
 go_wp2_with (first|((with_reducible refine gd 2 rfl ?_);refine ev_bx HS ?_;clear HS;intro g2 w2 HS F)|((with_reducible refine gd 3 rfl ?_);refine ev_bx HS ?_;clear HS;intro g3 w3 HS F)|((with_reducible refine gate_store (p:=3) rfl ?_);refine ev_st 1 0 HS (seg:=[.int .i64 48,.string (⟨#[]⟩:ByteArray),.slice none 0 0]) ?_;clear HS;intro w5 HS F))
 replace HS:=HS.nil 153 q153
 go_loopg [4] k (fun kq v_4 w'=>∃(l19:List S153) (v20:Value) (x21:Int),v_4=.int .i64 x21∧Aside0 (spec_l09Texts.l0 kq l19 x21 a0=some r)∧Aside0 (kq≤k)∧Hp noFP w w' [.box g2 [.int .i64 0,.string (⟨#[]⟩:ByteArray),.slice none 0 0] 153,.box g3 [.int .i64 48,.string (⟨#[]⟩:ByteArray),v20] 153,.own (Zd.slice 153 q153) l19 [v20]])
 case atStart=>exact⟨_,_,_,rfl,H,⟨Nat.le_refl _⟩,HS⟩
 case round=>
  clear HS H;(try clear F)
  obtain⟨l19,v20,x21,rfl,H,HKk18,HS⟩:=hrel
  obtain⟨B20,d20,rfl,m20⟩:=HS.form 2 rfl
  have F:=HS.bx
  cases gk with
  |zero=>exact absurd H.out (by simp [spec_l09Texts.l0])
  | succ k18=>
   simp only [spec_l09Texts.l0] at H
   replace H:=znif H;rcases H with⟨c23,H⟩|⟨c23,H⟩
   ·
    obtain rfl:=zsome H
    go_wp2_with ((with_reducible refine gate_store (p:=2) rfl ?_);refine ev_st 0 0 HS (seg:=[.int .i64 48,.string (⟨#[]⟩:ByteArray),.slice B20 l19.length d20]) ?_;clear HS;intro w27 HS F)
    exact rc 0 HS Tryz.underlying153 ⟨_,rfl,HS.pi [2]⟩
   (try go_wp2)
   replace H:=zgo H;obtain⟨c6,H⟩:=H
   replace H:=zgo H;obtain⟨c7,H⟩:=H
   obtain⟨ad8,rfl,e8_0⟩:=Kd.at_string gp0 x21 (of_eq_true c6) (of_eq_true c7)
   replace H:=zbind H;obtain⟨t9,ht9,H⟩:=H
   replace H:=zgo H;obtain⟨c12,H⟩:=H
   replace H:=zlets H;obtain⟨y13,e_y13,H⟩:=H
   refine dr_start2 [.box g2 [.int .i64 0,.string (⟨#[]⟩:ByteArray),.slice none 0 0] 153,.box g3 [.int .i64 48,.string (⟨#[]⟩:ByteArray),.slice B20 l19.length d20] 153,.emp] [10] HS (HS.ar [some 0,some 1,none]) #[false,false,false,false,false,false,false,false,false,false,false] (by kernel_rfl) rfl rfl spec_l09Texts.tT5 (fun w25 HT HS HH=>?_)
   (try clear F)
   refine dqt [0,1,2,3,4] HT HH ?_
   refine dtk 5 17 HT HH rfl (by rintro w' ⟨rs',HS'⟩;have e8_0:=HS'.keepc e8_0;go_simp;with_reducible rfl) ?_
   refine dr1 6 HT fun K hK=>?_
   refine go_cl1 HS (spec_TextItem.calls ht9.out) Tryz.func168 ?_;clear HS;intro v10 wt9 HS F;obtain⟨B10,d10,rfl,m10⟩:=HS.form 3 rfl
   refine nra 18 hK (HS.ar [some 0,some 1,none]) fun HH=>?_;clear hK K
   refine dr1 7 HT fun K hK=>?_
   refine if_li q153 [3] ([t9]:List S153) ([.int .i64 t9.f0,.string t9.f1,.slice B10 t9.f2.length d10]++ []) HS (MadeL.cons (js1:=[3]) (c:=[.int .i64 t9.f0,.string t9.f1,.slice B10 t9.f2.length d10]) rfl (fun S hd hh=>q153_pack (x:=t9) hd (hh 3 (.own (Zd.slice 153 q153) t9.f2 [.slice B10 t9.f2.length d10]) rfl) (by decide)) MadeL.nil (by decide)) ?_;clear HS;intro v11 w11 HS F;obtain⟨B11,d11,rfl,m11⟩:=HS.formn 1 4 rfl rfl
   refine nra 19 hK (HS.ar [some 0,some 1,none]) fun HH=>?_;clear hK K
   refine dr1 8 HT fun K hK=>?_
   refine wp_ap q153 2 4 HS rfl rfl Tryz.underlying151 info153 (of_eq_true c12) ?_;clear HS;intro v13 w13 HS;rw [←e_y13.out] at HS;obtain⟨B13,d13,rfl,m13⟩:=HS.form 5 rfl
   (try simp only [hpn,hpm] at HS)
   have F:=HS.bx
   refine nra 20 hK (HS.ar [some 0,some 1,none]) fun HH=>?_;clear hK K
   refine dq [9] HT ?_
   refine dl 10 HT fun K hK=>?_
   refine if_st 1 2 HS (seg:=[.slice B13 y13.length d13]) ?_;clear HS;intro w14 HS F
   refine hK.out _ _ ?_
   clear hK K
   refine dn HT ?_
   (try clear F)
   have F:=HS.bx
   go_wp2
   go_roundg k18
   case measure=>have:=HKk18.out;omega
   case rel=>exact⟨_,_,_,rfl,H,⟨by have:=HKk18.out;omega⟩,HS.pi [0,1,5]⟩
def spec_BodyItem.f (k:Nat)(a0:S41):Option (S153):=((spec_IntItem.f k a0.f3).bind fun t13=>((spec_IntItem.f k a0.f4).bind fun t15=>((spec_IntItem.f k a0.f0).bind fun t20=>((spec_TextItem.f a0.f1).bind fun t22=>((spec_TextItem.f a0.f2).bind fun t24=>((spec_l09Bytes.f a0.f5).bind fun t26=>((spec_l09Bool.f a0.f6).bind fun t28=>((spec_IntItem.f k a0.f7).bind fun t30=>((spec_IntItem.f k a0.f8).bind fun t32=>((spec_l09Ints.f k a0.f9).bind fun t34=>((spec_l09Texts.f k a0.f10).bind fun t36=>((spec_l09Texts.f k a0.f11).bind fun t38=>(some (⟨48,(⟨#[]⟩:ByteArray),([t20,t22,(⟨48,(⟨#[]⟩:ByteArray),([t13,t15]:List S153)⟩:S153),t24,t26,t28,t30,t32,t34,t36,t38]:List S153)⟩:S153))))))))))))))
def spec_BodyItem.T1:TT:=(true,[([],[]),([0],[0]),([1],[1]),([],[]),([3],[3]),([4,2],[4]),([2,5],[2,5]),([6],[6]),([],[]),([8,7,5,0,1,2,3,4,5,6,7,8],[7,8])])
theorem spec_BodyItem.tT1:rtab .any (opsOf Tryz.f137 1)=spec_BodyItem.T1:=by kernel_rfl
def spec_BodyItem.T2:TT:=(true,[([],[]),([0],[0]),([1],[1]),([],[]),([3],[3]),([4,2],[4]),([],[]),([],[]),([7],[7]),([8,5],[8]),([],[]),([10],[10]),([11,9],[11]),([],[]),([13],[13]),([14,12],[14]),([],[]),([16],[16]),([17,15],[17]),([],[]),([19],[19]),([20,18],[20]),([],[]),([22],[22]),([23,21],[23]),([],[]),([25],[25]),([26,24],[26]),([],[]),([28],[28]),([29,27],[29]),([2,5,6,9,12,15,18,21,24,27,30],[2,5,6,9,12,15,18,21,24,27,30]),([31],[31]),([32,30,0,1,2,3,4,5,6,7,8,9,10,11,12,13,14,15,16,17,18,19,20,21,22,23,24,25,26,27,28,29,30,31,32],[32])])
theorem spec_BodyItem.tT2:rtab .any (opsOf Tryz.f137 2)=spec_BodyItem.T2:=by kernel_rfl
theorem spec_BodyItem.calls {k:Nat}{a0:S41}{Ap0 Ap1 Ap2:Option Addr}{np0 cp0 np1 cp1 np2 cp2:Nat}{r:S153}{w:World}(h:spec_BodyItem.f k a0=some r)(gp0:(Kd.int .i64).C w Ap0 np0 a0.f9)(lp0:np0≤cp0)(gp1:Kd.string.C w Ap1 np1 a0.f10)(lp1:np1≤cp1)(gp2:Kd.string.C w Ap2 np2 a0.f11)(lp2:np2≤cp2):
    Calls Tryz.prog 137 #[.agg #[.int .i64 a0.f0,.string a0.f1,.string a0.f2,.int .i64 a0.f3,.int .i64 a0.f4,.string a0.f5,.bool a0.f6,.int .i64 a0.f7,.int .i64 a0.f8,.slice Ap0 np0 cp0,.slice Ap1 np1 cp1,.slice Ap2 np2 cp2,.string a0.f12]] w (fun e w'=>∃v0_:Value,e=.returned (.agg #[.int .i64 r.f0,.string r.f1,v0_])∧Hp noFP w w' [.own (Zd.slice 153 q153) r.f2 [v0_]]):=by
 obtain rfl:=C_len gp0
 obtain rfl:=C_len gp1
 obtain rfl:=C_len gp2
 have HS:=Hp.start w
 have H:=Aside0.mk h
 clear h
 unfold spec_BodyItem.f at H
 go_enter Tryz.func137,Tryz.ntmps137
 go_wp2_with (first|((with_reducible refine gd 1 rfl ?_);refine ev_bx HS ?_;clear HS;intro g1 w1 HS F)|((with_reducible refine gd 2 rfl ?_);refine ev_bx HS ?_;clear HS;intro g2 w2 HS F))
 replace H:=zbind H;obtain⟨t13,ht13,H⟩:=H
 replace H:=zbind H;obtain⟨t15,ht15,H⟩:=H
 refine dr_start [9] HS #[false,false,false,false,false,false,false,false,false,false] (by kernel_rfl) rfl rfl spec_BodyItem.tT1 (fun w6 HT HS HH=>?_)
 (try clear F)
 refine join_ 0 #[true,true,true,true,true,true,true,true,true,true] (fun((v14,v16,v17,g3):Value×Value×Value×Nat)=>([(4,.pointer (some ⟨g1,3,none⟩)),(5,.int .i64 a0.f3),(6,.agg #[.int .i64 t13.f0,.string t13.f1,v14]),(7,.pointer (some ⟨g1,4,none⟩)),(8,.int .i64 a0.f4),(9,.agg #[.int .i64 t15.f0,.string t15.f1,v16]),(10,v17),(11,.agg #[.int .i64 48,.string (⟨#[]⟩:ByteArray),v17]),(3,.pointer (some ⟨g3,0,none⟩))]:List (Tmp×Value))) (fun((v14,v16,v17,g3):Value×Value×Value×Nat) w'=>Hp noFP w w' [.box g1 [.int .i64 a0.f0,.string a0.f1,.string a0.f2,.int .i64 a0.f3,.int .i64 a0.f4,.string a0.f5,.bool a0.f6,.int .i64 a0.f7,.int .i64 a0.f8,.slice Ap0 a0.f9.length cp0,.slice Ap1 a0.f10.length cp1,.slice Ap2 a0.f11.length cp2,.string a0.f12] 41,.box g2 [.int .i64 0,.string (⟨#[]⟩:ByteArray),.slice none 0 0] 153,.emp,.emp,.own (Zd.slice 153 q153) ([t13,t15]:List S153) [v17],.box g3 [.int .i64 48,.string (⟨#[]⟩:ByteArray),v17] 153]) ?_ ?_
 rotate_left
 · intro hJ
   refine dqt [0,1,3,4] HT HH ?_
   refine dr_any [2,8] HT (by kernel_rfl) (by decide) (AllReadyL.cons rfl (by decide) (fun K hK=>?_) (AllReadyL.cons rfl (by decide) (fun K hK=>?_) AllReadyL.nil))
   · refine go_cl1 HS (spec_IntItem.calls ht13.out) Tryz.func167 ?_;clear HS;intro v14 wt13 HS F;obtain⟨B14,d14,rfl,m14⟩:=HS.form 2 rfl
     refine nrm 6 hK ⟨_,HS⟩ fun HH=>?_;clear hK K
     refine dr_any [5,8] HT (by kernel_rfl) (by decide) (AllReadyL.cons rfl (by decide) (fun K hK=>?_) (AllReadyL.cons rfl (by decide) (fun K hK=>?_) AllReadyL.nil))
     · refine go_cl1 HS (spec_IntItem.calls ht15.out) Tryz.func167 ?_;clear HS;intro v16 wt15 HS F;obtain⟨B16,d16,rfl,m16⟩:=HS.form 3 rfl
       refine nrm 9 hK ⟨_,HS⟩ fun HH=>?_;clear hK K
       refine dr_any [6,8] HT (by kernel_rfl) (by decide) (AllReadyL.cons rfl (by decide) (fun K hK=>?_) (AllReadyL.cons rfl (by decide) (fun K hK=>?_) AllReadyL.nil))
       · refine if_li q153 [2,3] ([t13,t15]:List S153) ([.int .i64 t13.f0,.string t13.f1,.slice B14 t13.f2.length d14]++([.int .i64 t15.f0,.string t15.f1,.slice B16 t15.f2.length d16]++ [])) HS (MadeL.cons (js1:=[2]) (c:=[.int .i64 t13.f0,.string t13.f1,.slice B14 t13.f2.length d14]) rfl (fun S hd hh=>q153_pack (x:=t13) hd (hh 2 (.own (Zd.slice 153 q153) t13.f2 [.slice B14 t13.f2.length d14]) rfl) (by decide)) (MadeL.cons (js1:=[3]) (c:=[.int .i64 t15.f0,.string t15.f1,.slice B16 t15.f2.length d16]) rfl (fun S hd hh=>q153_pack (x:=t15) hd (hh 3 (.own (Zd.slice 153 q153) t15.f2 [.slice B16 t15.f2.length d16]) rfl) (by decide)) MadeL.nil (by decide)) (by decide)) ?_;clear HS;intro v17 w17 HS F;obtain⟨B17,d17,rfl,m17⟩:=HS.formn 2 4 rfl rfl
         refine nrm 10 hK ⟨_,HS⟩ fun HH=>?_;clear hK K
         refine dq [7] HT ?_
         refine dr1 8 HT fun K hK=>?_
         refine if_bx HS ?_;clear HS;intro g3 w3 HS F
         refine nrm 3 hK ⟨_,HS⟩ fun HH=>?_;clear hK K
         refine dl 9 HT fun K hK=>?_
         refine if_st 5 0 HS (seg:=[.int .i64 48,.string (⟨#[]⟩:ByteArray),.slice B17 2 d17]) ?_;clear HS;intro w18 HS F
         refine hK.out _ _ ?_
         clear hK K
         refine norm_ ?_ (hJ (.slice B14 t13.f2.length d14,.slice B16 t15.f2.length d16,.slice B17 2 d17,g3) _ (HS.ar [some 0,some 1,none,none,some 4,some 5]))
         simp only [putAll,Act.put,ptn]
         (try rfl)
       · refine if_bx HS ?_;clear HS;intro g3 w3 HS F
         refine nrm 3 hK ⟨_,HS⟩ fun HH=>?_;clear hK K
         refine dr1 6 HT fun K hK=>?_
         refine if_li q153 [2,3] ([t13,t15]:List S153) ([.int .i64 t13.f0,.string t13.f1,.slice B14 t13.f2.length d14]++([.int .i64 t15.f0,.string t15.f1,.slice B16 t15.f2.length d16]++ [])) HS (MadeL.cons (js1:=[2]) (c:=[.int .i64 t13.f0,.string t13.f1,.slice B14 t13.f2.length d14]) rfl (fun S hd hh=>q153_pack (x:=t13) hd (hh 2 (.own (Zd.slice 153 q153) t13.f2 [.slice B14 t13.f2.length d14]) rfl) (by decide)) (MadeL.cons (js1:=[3]) (c:=[.int .i64 t15.f0,.string t15.f1,.slice B16 t15.f2.length d16]) rfl (fun S hd hh=>q153_pack (x:=t15) hd (hh 3 (.own (Zd.slice 153 q153) t15.f2 [.slice B16 t15.f2.length d16]) rfl) (by decide)) MadeL.nil (by decide)) (by decide)) ?_;clear HS;intro v17 w17 HS F;obtain⟨B17,d17,rfl,m17⟩:=HS.formn 2 5 rfl rfl
         refine nrm 10 hK ⟨_,HS⟩ fun HH=>?_;clear hK K
         refine dq [7] HT ?_
         refine dl 9 HT fun K hK=>?_
         refine if_st 4 0 HS (seg:=[.int .i64 48,.string (⟨#[]⟩:ByteArray),.slice B17 2 d17]) ?_;clear HS;intro w18 HS F
         refine hK.out _ _ ?_
         clear hK K
         refine norm_ ?_ (hJ (.slice B14 t13.f2.length d14,.slice B16 t15.f2.length d16,.slice B17 2 d17,g3) _ (HS.ar [some 0,some 1,none,none,some 5,some 4]))
         simp only [putAll,Act.put,ptn]
         (try rfl)
     · refine if_bx HS ?_;clear HS;intro g3 w3 HS F
       refine nrm 3 hK ⟨_,HS⟩ fun HH=>?_;clear hK K
       refine dr1 5 HT fun K hK=>?_
       refine go_cl1 HS (spec_IntItem.calls ht15.out) Tryz.func167 ?_;clear HS;intro v16 wt15 HS F;obtain⟨B16,d16,rfl,m16⟩:=HS.form 4 rfl
       refine nrm 9 hK ⟨_,HS⟩ fun HH=>?_;clear hK K
       refine dr1 6 HT fun K hK=>?_
       refine if_li q153 [2,4] ([t13,t15]:List S153) ([.int .i64 t13.f0,.string t13.f1,.slice B14 t13.f2.length d14]++([.int .i64 t15.f0,.string t15.f1,.slice B16 t15.f2.length d16]++ [])) HS (MadeL.cons (js1:=[2]) (c:=[.int .i64 t13.f0,.string t13.f1,.slice B14 t13.f2.length d14]) rfl (fun S hd hh=>q153_pack (x:=t13) hd (hh 2 (.own (Zd.slice 153 q153) t13.f2 [.slice B14 t13.f2.length d14]) rfl) (by decide)) (MadeL.cons (js1:=[4]) (c:=[.int .i64 t15.f0,.string t15.f1,.slice B16 t15.f2.length d16]) rfl (fun S hd hh=>q153_pack (x:=t15) hd (hh 4 (.own (Zd.slice 153 q153) t15.f2 [.slice B16 t15.f2.length d16]) rfl) (by decide)) MadeL.nil (by decide)) (by decide)) ?_;clear HS;intro v17 w17 HS F;obtain⟨B17,d17,rfl,m17⟩:=HS.formn 2 5 rfl rfl
       refine nrm 10 hK ⟨_,HS⟩ fun HH=>?_;clear hK K
       refine dq [7] HT ?_
       refine dl 9 HT fun K hK=>?_
       refine if_st 3 0 HS (seg:=[.int .i64 48,.string (⟨#[]⟩:ByteArray),.slice B17 2 d17]) ?_;clear HS;intro w18 HS F
       refine hK.out _ _ ?_
       clear hK K
       refine norm_ ?_ (hJ (.slice B14 t13.f2.length d14,.slice B16 t15.f2.length d16,.slice B17 2 d17,g3) _ (HS.ar [some 0,some 1,none,none,some 5,some 3]))
       simp only [putAll,Act.put,ptn]
       (try rfl)
   · refine if_bx HS ?_;clear HS;intro g3 w3 HS F
     refine nrm 3 hK ⟨_,HS⟩ fun HH=>?_;clear hK K
     refine dr1 2 HT fun K hK=>?_
     refine go_cl1 HS (spec_IntItem.calls ht13.out) Tryz.func167 ?_;clear HS;intro v14 wt13 HS F;obtain⟨B14,d14,rfl,m14⟩:=HS.form 3 rfl
     refine nrm 6 hK ⟨_,HS⟩ fun HH=>?_;clear hK K
     refine dr1 5 HT fun K hK=>?_
     refine go_cl1 HS (spec_IntItem.calls ht15.out) Tryz.func167 ?_;clear HS;intro v16 wt15 HS F;obtain⟨B16,d16,rfl,m16⟩:=HS.form 4 rfl
     refine nrm 9 hK ⟨_,HS⟩ fun HH=>?_;clear hK K
     refine dr1 6 HT fun K hK=>?_
     refine if_li q153 [3,4] ([t13,t15]:List S153) ([.int .i64 t13.f0,.string t13.f1,.slice B14 t13.f2.length d14]++([.int .i64 t15.f0,.string t15.f1,.slice B16 t15.f2.length d16]++ [])) HS (MadeL.cons (js1:=[3]) (c:=[.int .i64 t13.f0,.string t13.f1,.slice B14 t13.f2.length d14]) rfl (fun S hd hh=>q153_pack (x:=t13) hd (hh 3 (.own (Zd.slice 153 q153) t13.f2 [.slice B14 t13.f2.length d14]) rfl) (by decide)) (MadeL.cons (js1:=[4]) (c:=[.int .i64 t15.f0,.string t15.f1,.slice B16 t15.f2.length d16]) rfl (fun S hd hh=>q153_pack (x:=t15) hd (hh 4 (.own (Zd.slice 153 q153) t15.f2 [.slice B16 t15.f2.length d16]) rfl) (by decide)) MadeL.nil (by decide)) (by decide)) ?_;clear HS;intro v17 w17 HS F;obtain⟨B17,d17,rfl,m17⟩:=HS.formn 2 5 rfl rfl
     refine nrm 10 hK ⟨_,HS⟩ fun HH=>?_;clear hK K
     refine dq [7] HT ?_
     refine dl 9 HT fun K hK=>?_
     refine if_st 2 0 HS (seg:=[.int .i64 48,.string (⟨#[]⟩:ByteArray),.slice B17 2 d17]) ?_;clear HS;intro w18 HS F
     refine hK.out _ _ ?_
     clear hK K
     refine norm_ ?_ (hJ (.slice B14 t13.f2.length d14,.slice B16 t15.f2.length d16,.slice B17 2 d17,g3) _ (HS.ar [some 0,some 1,none,none,some 5,some 2]))
     simp only [putAll,Act.put,ptn]
     (try rfl)
 rintro⟨v14,v16,v17,g3⟩ w19 HS
 obtain⟨B17,d17,rfl,m17⟩:=HS.formn 2 4 rfl (by first|rfl|simp)
 have F:=HS.bx
 refine norm_ (a':=?_) ?_ ?_
 rotate_left
 · simp only [putAll,Act.put,ptn];rfl
 refine dn HT ?_
 (try go_wp2)
 replace H:=zbind H;obtain⟨t20,ht20,H⟩:=H
 replace H:=zbind H;obtain⟨t22,ht22,H⟩:=H
 replace H:=zbind H;obtain⟨t24,ht24,H⟩:=H
 replace H:=zbind H;obtain⟨t26,ht26,H⟩:=H
 replace H:=zbind H;obtain⟨t28,ht28,H⟩:=H
 replace H:=zbind H;obtain⟨t30,ht30,H⟩:=H
 replace H:=zbind H;obtain⟨t32,ht32,H⟩:=H
 replace H:=zbind H;obtain⟨t34,ht34,H⟩:=H
 replace H:=zbind H;obtain⟨t36,ht36,H⟩:=H
 replace H:=zbind H;obtain⟨t38,ht38,H⟩:=H
 refine dr_start2 [.box g1 [.int .i64 a0.f0,.string a0.f1,.string a0.f2,.int .i64 a0.f3,.int .i64 a0.f4,.string a0.f5,.bool a0.f6,.int .i64 a0.f7,.int .i64 a0.f8,.slice Ap0 a0.f9.length cp0,.slice Ap1 a0.f10.length cp1,.slice Ap2 a0.f11.length cp2,.string a0.f12] 41,.box g2 [.int .i64 0,.string (⟨#[]⟩:ByteArray),.slice none 0 0] 153,.emp,.emp,.emp,.box g3 [.int .i64 48,.string (⟨#[]⟩:ByteArray),.slice B17 2 d17] 153] [33] HS (HS.ar [some 0,some 1,none,none,none,some 5]) #[false,false,false,false,false,false,false,false,false,false,false,false,false,false,false,false,false,false,false,false,false,false,false,false,false,false,false,false,false,false,false,false,false,false] (by kernel_rfl) rfl rfl spec_BodyItem.tT2 (fun w9 HT HS HH=>?_)
 (try clear F)
 refine dqt [0,1,3,4,6,7,8,10,11,13,14,16,17,19,20,22,23,25,26,28,29] HT HH ?_
 refine dr1 2 HT fun K hK=>?_
 refine go_cl1 HS (spec_IntItem.calls ht20.out) Tryz.func167 ?_;clear HS;intro v21 wt20 HS F;obtain⟨B21,d21,rfl,m21⟩:=HS.form 6 rfl
 refine nra 14 hK (HS.ar [some 0,some 1,none,none,none,some 5]) fun HH=>?_;clear hK K
 refine dr1 5 HT fun K hK=>?_
 refine go_cl1 HS (spec_TextItem.calls ht22.out) Tryz.func168 ?_;clear HS;intro v23 wt22 HS F;obtain⟨B23,d23,rfl,m23⟩:=HS.form 7 rfl
 refine nra 17 hK (HS.ar [some 0,some 1,none,none,none,some 5]) fun HH=>?_;clear hK K
 refine dr1 9 HT fun K hK=>?_
 refine go_cl1 HS (spec_TextItem.calls ht24.out) Tryz.func168 ?_;clear HS;intro v25 wt24 HS F;obtain⟨B25,d25,rfl,m25⟩:=HS.form 8 rfl
 refine nra 21 hK (HS.ar [some 0,some 1,none,none,none,some 5]) fun HH=>?_;clear hK K
 refine dr1 12 HT fun K hK=>?_
 refine go_cl1 HS (spec_l09Bytes.calls ht26.out) Tryz.func138 ?_;clear HS;intro v27 wt26 HS F;obtain⟨B27,d27,rfl,m27⟩:=HS.form 9 rfl
 refine nra 24 hK (HS.ar [some 0,some 1,none,none,none,some 5]) fun HH=>?_;clear hK K
 refine dr1 15 HT fun K hK=>?_
 refine go_cl1 HS (spec_l09Bool.calls ht28.out) Tryz.func169 ?_;clear HS;intro v29 wt28 HS F;obtain⟨B29,d29,rfl,m29⟩:=HS.form 10 rfl
 refine nra 27 hK (HS.ar [some 0,some 1,none,none,none,some 5]) fun HH=>?_;clear hK K
 refine dr1 18 HT fun K hK=>?_
 refine go_cl1 HS (spec_IntItem.calls ht30.out) Tryz.func167 ?_;clear HS;intro v31 wt30 HS F;obtain⟨B31,d31,rfl,m31⟩:=HS.form 11 rfl
 refine nra 30 hK (HS.ar [some 0,some 1,none,none,none,some 5]) fun HH=>?_;clear hK K
 refine dr1 21 HT fun K hK=>?_
 refine go_cl1 HS (spec_IntItem.calls ht32.out) Tryz.func167 ?_;clear HS;intro v33 wt32 HS F;obtain⟨B33,d33,rfl,m33⟩:=HS.form 12 rfl
 refine nra 33 hK (HS.ar [some 0,some 1,none,none,none,some 5]) fun HH=>?_;clear hK K
 refine dr1 24 HT fun K hK=>?_
 refine go_cl1 HS (spec_l09Ints.calls ht34.out (HS.ro gp0) lp0) Tryz.func170 ?_;clear HS;intro v35 wt34 HS F;obtain⟨B35,d35,rfl,m35⟩:=HS.form 13 rfl
 refine nra 36 hK (HS.ar [some 0,some 1,none,none,none,some 5]) fun HH=>?_;clear hK K
 refine dr1 27 HT fun K hK=>?_
 refine go_cl1 HS (spec_l09Texts.calls ht36.out (HS.ro gp1) lp1) Tryz.func171 ?_;clear HS;intro v37 wt36 HS F;obtain⟨B37,d37,rfl,m37⟩:=HS.form 14 rfl
 refine nra 39 hK (HS.ar [some 0,some 1,none,none,none,some 5]) fun HH=>?_;clear hK K
 refine dr1 30 HT fun K hK=>?_
 refine go_cl1 HS (spec_l09Texts.calls ht38.out (HS.ro gp2) lp2) Tryz.func171 ?_;clear HS;intro v39 wt38 HS F;obtain⟨B39,d39,rfl,m39⟩:=HS.form 15 rfl
 refine nra 42 hK (HS.ar [some 0,some 1,none,none,none,some 5]) fun HH=>?_;clear hK K
 refine dr1 31 HT fun K hK=>?_
 refine if_li q153 [6,7,4,8,9,10,11,12,13,14,15] ([t20,t22,(⟨48,(⟨#[]⟩:ByteArray),([t13,t15]:List S153)⟩:S153),t24,t26,t28,t30,t32,t34,t36,t38]:List S153) ([.int .i64 t20.f0,.string t20.f1,.slice B21 t20.f2.length d21]++([.int .i64 t22.f0,.string t22.f1,.slice B23 t22.f2.length d23]++([.int .i64 48,.string (⟨#[]⟩:ByteArray),.slice B17 2 d17]++([.int .i64 t24.f0,.string t24.f1,.slice B25 t24.f2.length d25]++([.int .i64 t26.f0,.string t26.f1,.slice B27 t26.f2.length d27]++([.int .i64 t28.f0,.string t28.f1,.slice B29 t28.f2.length d29]++([.int .i64 t30.f0,.string t30.f1,.slice B31 t30.f2.length d31]++([.int .i64 t32.f0,.string t32.f1,.slice B33 t32.f2.length d33]++([.int .i64 t34.f0,.string t34.f1,.slice B35 t34.f2.length d35]++([.int .i64 t36.f0,.string t36.f1,.slice B37 t36.f2.length d37]++([.int .i64 t38.f0,.string t38.f1,.slice B39 t38.f2.length d39]++ []))))))))))) HS (MadeL.cons (js1:=[6]) (c:=[.int .i64 t20.f0,.string t20.f1,.slice B21 t20.f2.length d21]) rfl (fun S hd hh=>q153_pack (x:=t20) hd (hh 6 (.own (Zd.slice 153 q153) t20.f2 [.slice B21 t20.f2.length d21]) rfl) (by decide)) (MadeL.cons (js1:=[7]) (c:=[.int .i64 t22.f0,.string t22.f1,.slice B23 t22.f2.length d23]) rfl (fun S hd hh=>q153_pack (x:=t22) hd (hh 7 (.own (Zd.slice 153 q153) t22.f2 [.slice B23 t22.f2.length d23]) rfl) (by decide)) (MadeL.cons (js1:=[4]) (c:=[.int .i64 48,.string (⟨#[]⟩:ByteArray),.slice B17 2 d17]) rfl (fun S hd hh=>q153_pack (x:=(⟨48,(⟨#[]⟩:ByteArray),([t13,t15]:List S153)⟩:S153)) hd (hh 4 (.own (Zd.slice 153 q153) ([t13,t15]:List S153) [.slice B17 2 d17]) rfl) (by decide)) (MadeL.cons (js1:=[8]) (c:=[.int .i64 t24.f0,.string t24.f1,.slice B25 t24.f2.length d25]) rfl (fun S hd hh=>q153_pack (x:=t24) hd (hh 8 (.own (Zd.slice 153 q153) t24.f2 [.slice B25 t24.f2.length d25]) rfl) (by decide)) (MadeL.cons (js1:=[9]) (c:=[.int .i64 t26.f0,.string t26.f1,.slice B27 t26.f2.length d27]) rfl (fun S hd hh=>q153_pack (x:=t26) hd (hh 9 (.own (Zd.slice 153 q153) t26.f2 [.slice B27 t26.f2.length d27]) rfl) (by decide)) (MadeL.cons (js1:=[10]) (c:=[.int .i64 t28.f0,.string t28.f1,.slice B29 t28.f2.length d29]) rfl (fun S hd hh=>q153_pack (x:=t28) hd (hh 10 (.own (Zd.slice 153 q153) t28.f2 [.slice B29 t28.f2.length d29]) rfl) (by decide)) (MadeL.cons (js1:=[11]) (c:=[.int .i64 t30.f0,.string t30.f1,.slice B31 t30.f2.length d31]) rfl (fun S hd hh=>q153_pack (x:=t30) hd (hh 11 (.own (Zd.slice 153 q153) t30.f2 [.slice B31 t30.f2.length d31]) rfl) (by decide)) (MadeL.cons (js1:=[12]) (c:=[.int .i64 t32.f0,.string t32.f1,.slice B33 t32.f2.length d33]) rfl (fun S hd hh=>q153_pack (x:=t32) hd (hh 12 (.own (Zd.slice 153 q153) t32.f2 [.slice B33 t32.f2.length d33]) rfl) (by decide)) (MadeL.cons (js1:=[13]) (c:=[.int .i64 t34.f0,.string t34.f1,.slice B35 t34.f2.length d35]) rfl (fun S hd hh=>q153_pack (x:=t34) hd (hh 13 (.own (Zd.slice 153 q153) t34.f2 [.slice B35 t34.f2.length d35]) rfl) (by decide)) (MadeL.cons (js1:=[14]) (c:=[.int .i64 t36.f0,.string t36.f1,.slice B37 t36.f2.length d37]) rfl (fun S hd hh=>q153_pack (x:=t36) hd (hh 14 (.own (Zd.slice 153 q153) t36.f2 [.slice B37 t36.f2.length d37]) rfl) (by decide)) (MadeL.cons (js1:=[15]) (c:=[.int .i64 t38.f0,.string t38.f1,.slice B39 t38.f2.length d39]) rfl (fun S hd hh=>q153_pack (x:=t38) hd (hh 15 (.own (Zd.slice 153 q153) t38.f2 [.slice B39 t38.f2.length d39]) rfl) (by decide)) MadeL.nil (by decide)) (by decide)) (by decide)) (by decide)) (by decide)) (by decide)) (by decide)) (by decide)) (by decide)) (by decide)) (by decide)) ?_;clear HS;intro v40 w40 HS F;obtain⟨B40,d40,rfl,m40⟩:=HS.formn 11 16 rfl rfl
 refine nra 43 hK (HS.ar [some 0,some 1,none,none,none,some 5]) fun HH=>?_;clear hK K
 refine dq [32] HT ?_
 refine dl 33 HT fun K hK=>?_
 refine if_st 1 0 HS (seg:=[.int .i64 48,.string (⟨#[]⟩:ByteArray),.slice B40 11 d40]) ?_;clear HS;intro w42 HS F
 refine hK.out _ _ ?_
 clear hK K
 refine dn HT ?_
 (try clear F)
 have F:=HS.bx
 obtain rfl:=zsome H
 go_wp2
 exact rc 1 HS Tryz.underlying153 ⟨_,rfl,HS.pi [16]⟩
def spec_l09Num.f (a0:Int):Option (Bool):=((spec_l01In.f a0 0 9999).bind fun t1=>(some t1))
theorem spec_l09Num.calls {a0:Int}{r:Bool}{w:World}(h:spec_l09Num.f a0=some r):
    Calls Tryz.prog 95 #[.int .i64 a0] w (fun e w'=>e=.returned (.bool r)∧Hp noFP w w' []):=by
 have HS:=Hp.start w
 have H:=Aside0.mk h
 clear h
 unfold spec_l09Num.f at H
 go_enter Tryz.func95,Tryz.ntmps95
 replace H:=zbind H;obtain⟨t1,ht1,H⟩:=H
 obtain rfl:=zsome H
 go_wp2_with ((with_reducible refine gd 4 rfl ?_);refine ev_cl HS (spec_l01In.calls ht1.out) Tryz.func97 ?_;clear HS;intro wt1 HS F)
 go_ret
 exact HS.pk
def spec_NameOk.l0:Nat→Int→Int→ByteArray→Option (Bool)
  |0,_,_,_=>none
  |k+1,x14,x15,a0=>(if x15<(a0.size:Int)then(if 0≤x15 then(if x15<(a0.size:Int)then(if 97≤(bt a0 x15)then(if(bt a0 x15)≤122 then(spec_NameOk.l0 k (wrap64 (x14+1)) (wrap64 (x15+1)) a0)else(if(bt a0 x15)=46 then(if 0<x14 then(spec_NameOk.l0 k 0 (wrap64 (x15+1)) a0)else(some false))else(some false)))else(if(bt a0 x15)=46 then(if 0<x14 then(spec_NameOk.l0 k 0 (wrap64 (x15+1)) a0)else(some false))else(some false)))else none)else none)else((spec_l01In.f (a0.size:Int) 1 20).bind fun t30=>(if t30=true then(some (decide (0<x14)))else(some false))))
def spec_NameOk.f (k:Nat)(a0:ByteArray):Option (Bool):=(spec_NameOk.l0 k 0 0 a0)
theorem spec_NameOk.calls {k:Nat}{a0:ByteArray}{r:Bool}{w:World}(h:spec_NameOk.f k a0=some r):
    Calls Tryz.prog 96 #[.string a0] w (fun e w'=>e=.returned (.bool r)∧Hp noFP w w' []):=by
 have HS:=Hp.start w
 have H:=Aside0.mk h
 clear h
 unfold spec_NameOk.f at H
 go_enter Tryz.func96,Tryz.ntmps96
 go_wp2
 go_loopg [3,4] k (fun kq v_3 v_4 w'=>∃(x14:Int) (x15:Int),v_3=.int .i64 x14∧v_4=.int .i64 x15∧Aside0 (spec_NameOk.l0 kq x14 x15 a0=some r)∧Aside0 (kq≤k)∧Hp noFP w w' [])
 case atStart=>exact⟨_,_,rfl,rfl,H,⟨Nat.le_refl _⟩,HS⟩
 case round=>
  clear HS H;(try clear F)
  obtain⟨x14,x15,rfl,rfl,H,HKk13,HS⟩:=hrel
  cases gk with
  |zero=>exact absurd H.out (by simp [spec_NameOk.l0])
  | succ k13=>
   simp only [spec_NameOk.l0] at H
   replace H:=znif H;rcases H with⟨c17,H⟩|⟨c17,H⟩
   ·
    replace H:=zbind H;obtain⟨t30,ht30,H⟩:=H
    replace H:=zifb H;rcases H with⟨c32,H⟩|⟨c32,H⟩
    ·
     subst c32
     obtain rfl:=zsome H
     go_wp2_with ((with_reducible refine gd 35 rfl ?_);refine ev_cl HS (spec_l01In.calls ht30.out) Tryz.func97 ?_;clear HS;intro wt30 HS F)
     go_ret
     exact HS.pk
    subst c32
    obtain rfl:=zsome H
    go_wp2_with ((with_reducible refine gd 35 rfl ?_);refine ev_cl HS (spec_l01In.calls ht30.out) Tryz.func97 ?_;clear HS;intro wt30 HS F)
    go_ret
    exact HS.pk
   replace H:=zgo H;obtain⟨c18,H⟩:=H
   replace H:=zgo H;obtain⟨c19,H⟩:=H
   have hx20:=bt_at a0 x15
   replace H:=znif H;rcases H with⟨c21,H⟩|⟨c21,H⟩
   ·
    have hx27:=bt_at a0 x15
    replace H:=znif' H;rcases H with⟨c28,H⟩|⟨c28,H⟩
    ·
     obtain⟨c28a,c28b⟩:=nq c28;clear c28
     obtain rfl:=zsome H
     go_wp2
     go_ret
     exact HS.pk
    obtain⟨c28a,c28b⟩:=bq c28;clear c28
    replace H:=znif H;rcases H with⟨c29,H⟩|⟨c29,H⟩
    ·
     obtain rfl:=zsome H
     go_wp2
     go_ret
     exact HS.pk
    go_wp2
    go_roundg k13
    case measure=>have:=HKk13.out;omega
    case rel=>exact⟨_,_,rfl,rfl,H,⟨by have:=HKk13.out;omega⟩,HS.pi []⟩
   have hx22:=bt_at a0 x15
   replace H:=zif H;rcases H with⟨c23,H⟩|⟨c23,H⟩
   ·
    go_wp2
    go_roundg k13
    case measure=>have:=HKk13.out;omega
    case rel=>exact⟨_,_,rfl,rfl,H,⟨by have:=HKk13.out;omega⟩,HS.pi []⟩
   have hx24:=bt_at a0 x15
   replace H:=znif' H;rcases H with⟨c25,H⟩|⟨c25,H⟩
   ·
    obtain⟨c25a,c25b⟩:=nq c25;clear c25
    obtain rfl:=zsome H
    go_wp2
    go_ret
    exact HS.pk
   obtain⟨c25a,c25b⟩:=bq c25;clear c25
   replace H:=znif H;rcases H with⟨c26,H⟩|⟨c26,H⟩
   ·
    obtain rfl:=zsome H
    go_wp2
    go_ret
    exact HS.pk
   go_wp2
   go_roundg k13
   case measure=>have:=HKk13.out;omega
   case rel=>exact⟨_,_,rfl,rfl,H,⟨by have:=HKk13.out;omega⟩,HS.pi []⟩
def spec_PoliciesOk.l0:Nat→Int→(List Int)→Option (Bool)
  |0,_,_=>none
  |k+1,x4,a0=>(if x4<(a0.length:Int)then(if 0≤x4 then(if x4<(a0.length:Int)then((spec_l01In.f (rd a0 x4) 0 99).bind fun t12=>(if t12=true then(if 0<x4 then(if 0≤(wrap64 (x4 - 1))then(if(wrap64 (x4 - 1))<(a0.length:Int)then(if(rd a0 x4)≤(rd a0 (wrap64 (x4 - 1)))then(some false)else(spec_PoliciesOk.l0 k (wrap64 (x4+1)) a0))else none)else none)else(spec_PoliciesOk.l0 k (wrap64 (x4+1)) a0))else(some false)))else none)else none)else(some (decide ((a0.length:Int)≤4))))
def spec_PoliciesOk.f (k:Nat)(a0:(List Int)):Option (Bool):=(spec_PoliciesOk.l0 k 0 a0)
def spec_PoliciesOk.T4:TT:=(true,[([],[]),([],[]),([0,1],[0,1]),([2],[2]),([3],[3]),([4],[4]),([5,4],[5]),([6],[6]),([7,6],[6,7]),([8,6,6],[6,8]),([9],[9]),([9],[9]),([11,9],[9,11]),([10,12,9],[9,10,12]),([13,9],[9,13]),([9],[9]),([9],[9]),([15,16,9],[9,15,16]),([17,9],[9,17]),([14,18,9],[9,14,18]),([9,19,6],[6,9,19]),([6,20],[6,20])])
theorem spec_PoliciesOk.tT4:rtab .any (opsOf Tryz.f98 4)=spec_PoliciesOk.T4:=by kernel_rfl
theorem spec_PoliciesOk.calls {k:Nat}{a0:(List Int)}{Ap0:Option Addr}{np0 cp0:Nat}{r:Bool}{w:World}(h:spec_PoliciesOk.f k a0=some r)(gp0:(Kd.int .i64).C w Ap0 np0 a0)(lp0:np0≤cp0):
    Calls Tryz.prog 98 #[.slice Ap0 np0 cp0] w (fun e w'=>e=.returned (.bool r)∧Hp noFP w w' []):=by
 obtain rfl:=C_len gp0
 have HS:=Hp.start w
 have H:=Aside0.mk h
 clear h
 unfold spec_PoliciesOk.f at H
 go_enter Tryz.func98,Tryz.ntmps98
 go_wp2
 go_loopg [3] k (fun kq v_3 w'=>∃(x4:Int),v_3=.int .i64 x4∧Aside0 (spec_PoliciesOk.l0 kq x4 a0=some r)∧Aside0 (kq≤k)∧Hp noFP w w' [])
 case atStart=>exact⟨_,rfl,H,⟨Nat.le_refl _⟩,HS⟩
 case round=>
  clear HS H;(try clear F)
  obtain⟨x4,rfl,H,HKk3,HS⟩:=hrel
  cases gk with
  |zero=>exact absurd H.out (by simp [spec_PoliciesOk.l0])
  | succ k3=>
   simp only [spec_PoliciesOk.l0] at H
   replace H:=znif H;rcases H with⟨c6,H⟩|⟨c6,H⟩
   ·
    obtain rfl:=zsome H
    go_wp2
    go_ret
    exact HS.pk
   (try go_wp2)
   replace H:=zgo H;obtain⟨c5,H⟩:=H
   replace H:=zgo H;obtain⟨c7,H⟩:=H
   obtain⟨ad9,rfl,e9_0⟩:=Kd.at_int gp0 x4 (of_eq_true c5) (of_eq_true c7)
   replace H:=zbind H;obtain⟨t12,ht12,H⟩:=H
   replace H:=znifb H;rcases H with⟨c14,H⟩|⟨c14,H⟩
   ·
    subst c14
    refine dr_start [] HS #[false,false,false,false,false,false,false,false,false,false,false,false,false,false,false,false,false,false,false,false,false,false] (by kernel_rfl) rfl rfl spec_PoliciesOk.tT4 (fun w13 HT HS HH=>?_)
    (try clear F)
    refine dq [0,1,2] HT ?_
    refine dtk 3 13 HT HH rfl (by rintro w' ⟨rs',HS'⟩;have e9_0:=HS'.keepc e9_0;go_simp;with_reducible rfl) ?_
    refine dr1 4 HT fun K hK=>?_
    refine go_cl HS (spec_l01In.calls ht12.out) Tryz.func97 ?_;clear HS;intro wt12 HS F
    refine nrm 14 hK ⟨_,HS⟩ fun HH=>?_;clear hK K
    refine dqo [5,6,7,8,9,10,11,12,13,14,15,16,17,18,19,20,21] HT ?_
    refine dn HT ?_
    obtain rfl:=zsome H
    go_wp2
    go_ret
    exact HS.pk
   subst c14
   replace H:=znif H;rcases H with⟨c15,H⟩|⟨c15,H⟩
   ·
    refine dr_start [] HS #[false,false,false,false,false,false,false,false,false,false,false,false,false,false,false,false,false,false,false,false,false,false] (by kernel_rfl) rfl rfl spec_PoliciesOk.tT4 (fun w11 HT HS HH=>?_)
    (try clear F)
    refine dq [0,1,2] HT ?_
    refine dtk 3 13 HT HH rfl (by rintro w' ⟨rs',HS'⟩;have e9_0:=HS'.keepc e9_0;go_simp;with_reducible rfl) ?_
    refine dr1 4 HT fun K hK=>?_
    refine go_cl HS (spec_l01In.calls ht12.out) Tryz.func97 ?_;clear HS;intro wt12 HS F
    refine nrm 14 hK ⟨_,HS⟩ fun HH=>?_;clear hK K
    refine dqo [5,6,7,8,9,10,11,12,13,14,15,16,17,18,19,20,21] HT ?_
    refine dn HT ?_
    go_wp2
    go_roundg k3
    case measure=>have:=HKk3.out;omega
    case rel=>exact⟨_,rfl,H,⟨by have:=HKk3.out;omega⟩,HS.pi []⟩
   replace H:=zgo H;obtain⟨c16,H⟩:=H
   replace H:=zgo H;obtain⟨c17,H⟩:=H
   obtain⟨ad18,hq18,e18_0⟩:=Kd.at_int gp0 (wrap64 (x4 - 1)) (of_eq_true c16) (of_eq_true c17);obtain rfl:=Option.some.inj hq18
   refine dr_start [] HS #[false,false,false,false,false,false,false,false,false,false,false,false,false,false,false,false,false,false,false,false,false,false] (by kernel_rfl) rfl rfl spec_PoliciesOk.tT4 (fun w8 HT HS HH=>?_)
   (try clear F)
   refine dq [0,1,2] HT ?_
   refine dtk 3 13 HT HH rfl (by rintro w' ⟨rs',HS'⟩;have e9_0:=HS'.keepc e9_0;go_simp;with_reducible rfl) ?_
   refine dr1 4 HT fun K hK=>?_
   refine go_cl HS (spec_l01In.calls ht12.out) Tryz.func97 ?_;clear HS;intro wt12 HS F
   refine nrm 14 hK ⟨_,HS⟩ fun HH=>?_;clear hK K
   refine dq [5,6,7,8,9,10,11,12,13] HT ?_
   refine dtk 14 24 HT HH rfl (by rintro w' ⟨rs',HS'⟩;have e18_0:=HS'.keepc e18_0;go_simp;with_reducible rfl) ?_
   refine dq [15,16,17] HT ?_
   refine dtk 18 28 HT HH rfl (by rintro w' ⟨rs',HS'⟩;have e9_0:=HS'.keepc e9_0;go_simp;with_reducible rfl) ?_
   refine dq [19,20,21] HT ?_
   refine dn HT ?_
   replace H:=zif H;rcases H with⟨c10,H⟩|⟨c10,H⟩
   ·
    (try simp only [c10,dcn])
    obtain rfl:=zsome H
    go_wp2
    go_ret
    exact HS.pk
   (try simp only [c10,dcn])
   go_wp2
   go_roundg k3
   case measure=>have:=HKk3.out;omega
   case rel=>exact⟨_,rfl,H,⟨by have:=HKk3.out;omega⟩,HS.pi []⟩
def spec_NamesOk.l0:Nat→Int→(List ByteArray)→Option (Bool)
  |0,_,_=>none
  |k+1,x4,a0=>(if x4<(a0.length:Int)then(if 0≤x4 then(if x4<(a0.length:Int)then((spec_NameOk.f k (rdOf ByteArray.empty a0 x4)).bind fun t12=>(if t12=true then(if 0<x4 then(if 0≤(wrap64 (x4 - 1))then(if(wrap64 (x4 - 1))<(a0.length:Int)then(if(Op.bytesLess ((rdOf ByteArray.empty a0 (wrap64 (x4 - 1))).toList) ((rdOf ByteArray.empty a0 x4).toList))=true then(spec_NamesOk.l0 k (wrap64 (x4+1)) a0)else(some false))else none)else none)else(spec_NamesOk.l0 k (wrap64 (x4+1)) a0))else(some false)))else none)else none)else(some (decide ((a0.length:Int)≤4))))
def spec_NamesOk.f (k:Nat)(a0:(List ByteArray)):Option (Bool):=(spec_NamesOk.l0 k 0 a0)
def spec_NamesOk.T4:TT:=(true,[([],[]),([],[]),([0,1],[0,1]),([2],[2]),([3],[3]),([4],[4]),([5,4],[5]),([6],[6]),([7,6],[6,7]),([8,6,6],[6,8]),([9],[9]),([9],[9]),([11,9],[9,11]),([10,12,9],[9,10,12]),([13,9],[9,13]),([9],[9]),([9],[9]),([15,16,9],[9,15,16]),([17,9],[9,17]),([14,18,9],[9,14,18]),([9,19,6],[6,9,19]),([6,20],[6,20])])
theorem spec_NamesOk.tT4:rtab .any (opsOf Tryz.f99 4)=spec_NamesOk.T4:=by kernel_rfl
theorem spec_NamesOk.calls {k:Nat}{a0:(List ByteArray)}{Ap0:Option Addr}{np0 cp0:Nat}{r:Bool}{w:World}(h:spec_NamesOk.f k a0=some r)(gp0:Kd.string.C w Ap0 np0 a0)(lp0:np0≤cp0):
    Calls Tryz.prog 99 #[.slice Ap0 np0 cp0] w (fun e w'=>e=.returned (.bool r)∧Hp noFP w w' []):=by
 obtain rfl:=C_len gp0
 have HS:=Hp.start w
 have H:=Aside0.mk h
 clear h
 unfold spec_NamesOk.f at H
 go_enter Tryz.func99,Tryz.ntmps99
 go_wp2
 go_loopg [3] k (fun kq v_3 w'=>∃(x4:Int),v_3=.int .i64 x4∧Aside0 (spec_NamesOk.l0 kq x4 a0=some r)∧Aside0 (kq≤k)∧Hp noFP w w' [])
 case atStart=>exact⟨_,rfl,H,⟨Nat.le_refl _⟩,HS⟩
 case round=>
  clear HS H;(try clear F)
  obtain⟨x4,rfl,H,HKk3,HS⟩:=hrel
  cases gk with
  |zero=>exact absurd H.out (by simp [spec_NamesOk.l0])
  | succ k3=>
   simp only [spec_NamesOk.l0] at H
   replace H:=znif H;rcases H with⟨c6,H⟩|⟨c6,H⟩
   ·
    obtain rfl:=zsome H
    go_wp2
    go_ret
    exact HS.pk
   (try go_wp2)
   replace H:=zgo H;obtain⟨c5,H⟩:=H
   replace H:=zgo H;obtain⟨c7,H⟩:=H
   obtain⟨ad9,rfl,e9_0⟩:=Kd.at_string gp0 x4 (of_eq_true c5) (of_eq_true c7)
   replace H:=zbind H;obtain⟨t12,ht12,H⟩:=H
   replace H:=znifb H;rcases H with⟨c14,H⟩|⟨c14,H⟩
   ·
    subst c14
    refine dr_start [] HS #[false,false,false,false,false,false,false,false,false,false,false,false,false,false,false,false,false,false,false,false,false,false] (by kernel_rfl) rfl rfl spec_NamesOk.tT4 (fun w13 HT HS HH=>?_)
    (try clear F)
    refine dq [0,1,2] HT ?_
    refine dtk 3 13 HT HH rfl (by rintro w' ⟨rs',HS'⟩;have e9_0:=HS'.keepc e9_0;go_simp;with_reducible rfl) ?_
    refine dr1 4 HT fun K hK=>?_
    refine go_cl HS (spec_NameOk.calls ht12.out) Tryz.func96 ?_;clear HS;intro wt12 HS F
    refine nrm 14 hK ⟨_,HS⟩ fun HH=>?_;clear hK K
    refine dqo [5,6,7,8,9,10,11,12,13,14,15,16,17,18,19,20,21] HT ?_
    refine dn HT ?_
    obtain rfl:=zsome H
    go_wp2
    go_ret
    exact HS.pk
   subst c14
   replace H:=znif H;rcases H with⟨c15,H⟩|⟨c15,H⟩
   ·
    refine dr_start [] HS #[false,false,false,false,false,false,false,false,false,false,false,false,false,false,false,false,false,false,false,false,false,false] (by kernel_rfl) rfl rfl spec_NamesOk.tT4 (fun w11 HT HS HH=>?_)
    (try clear F)
    refine dq [0,1,2] HT ?_
    refine dtk 3 13 HT HH rfl (by rintro w' ⟨rs',HS'⟩;have e9_0:=HS'.keepc e9_0;go_simp;with_reducible rfl) ?_
    refine dr1 4 HT fun K hK=>?_
    refine go_cl HS (spec_NameOk.calls ht12.out) Tryz.func96 ?_;clear HS;intro wt12 HS F
    refine nrm 14 hK ⟨_,HS⟩ fun HH=>?_;clear hK K
    refine dqo [5,6,7,8,9,10,11,12,13,14,15,16,17,18,19,20,21] HT ?_
    refine dn HT ?_
    go_wp2
    go_roundg k3
    case measure=>have:=HKk3.out;omega
    case rel=>exact⟨_,rfl,H,⟨by have:=HKk3.out;omega⟩,HS.pi []⟩
   replace H:=zgo H;obtain⟨c16,H⟩:=H
   replace H:=zgo H;obtain⟨c17,H⟩:=H
   obtain⟨ad18,hq18,e18_0⟩:=Kd.at_string gp0 (wrap64 (x4 - 1)) (of_eq_true c16) (of_eq_true c17);obtain rfl:=Option.some.inj hq18
   refine dr_start [] HS #[false,false,false,false,false,false,false,false,false,false,false,false,false,false,false,false,false,false,false,false,false,false] (by kernel_rfl) rfl rfl spec_NamesOk.tT4 (fun w8 HT HS HH=>?_)
   (try clear F)
   refine dq [0,1,2] HT ?_
   refine dtk 3 13 HT HH rfl (by rintro w' ⟨rs',HS'⟩;have e9_0:=HS'.keepc e9_0;go_simp;with_reducible rfl) ?_
   refine dr1 4 HT fun K hK=>?_
   refine go_cl HS (spec_NameOk.calls ht12.out) Tryz.func96 ?_;clear HS;intro wt12 HS F
   refine nrm 14 hK ⟨_,HS⟩ fun HH=>?_;clear hK K
   refine dq [5,6,7,8,9,10,11,12,13] HT ?_
   refine dtk 14 24 HT HH rfl (by rintro w' ⟨rs',HS'⟩;have e18_0:=HS'.keepc e18_0;go_simp;with_reducible rfl) ?_
   refine dq [15,16,17] HT ?_
   refine dtk 18 28 HT HH rfl (by rintro w' ⟨rs',HS'⟩;have e9_0:=HS'.keepc e9_0;go_simp;with_reducible rfl) ?_
   refine dq [19,20,21] HT ?_
   refine dn HT ?_
   replace H:=znifb H;rcases H with⟨c10,H⟩|⟨c10,H⟩
   ·
    (try simp only [c10,dcn])
    obtain rfl:=zsome H
    go_wp2
    go_ret
    exact HS.pk
   (try simp only [c10,dcn])
   go_wp2
   go_roundg k3
   case measure=>have:=HKk3.out;omega
   case rel=>exact⟨_,rfl,H,⟨by have:=HKk3.out;omega⟩,HS.pi []⟩
def spec_CertOk.f (k:Nat)(a0:S41):Option (Bool):=((spec_l09Num.f a0.f0).bind fun t3=>(if t3=true then((spec_l09Num.f a0.f3).bind fun t6=>(if t6=true then((spec_l09Num.f a0.f4).bind fun t9=>(if t9=true then((spec_NameOk.f k a0.f1).bind fun t12=>(if t12=true then((spec_NameOk.f k a0.f2).bind fun t15=>(if t15=true then(if(a0.f5.size:Int)=15 then((spec_l01In.f a0.f7 0 99).bind fun t19=>(if t19=true then((spec_l01In.f a0.f8 0 7).bind fun t22=>(if t22=true then((spec_PoliciesOk.f k a0.f9).bind fun t25=>(if t25=true then((spec_NamesOk.f k a0.f10).bind fun t28=>(if t28=true then((spec_NamesOk.f k a0.f11).bind fun t31=>(if t31=true then(some ((a0.f12.size:Int)==15))else(some false)))else(some false)))else(some false)))else(some false)))else(some false)))else(some false))else(some false)))else(some false)))else(some false)))else(some false)))else(some false)))
theorem spec_CertOk.calls {k:Nat}{a0:S41}{Ap0 Ap1 Ap2:Option Addr}{np0 cp0 np1 cp1 np2 cp2:Nat}{r:Bool}{w:World}(h:spec_CertOk.f k a0=some r)(gp0:(Kd.int .i64).C w Ap0 np0 a0.f9)(lp0:np0≤cp0)(gp1:Kd.string.C w Ap1 np1 a0.f10)(lp1:np1≤cp1)(gp2:Kd.string.C w Ap2 np2 a0.f11)(lp2:np2≤cp2):
    Calls Tryz.prog 41 #[.agg #[.int .i64 a0.f0,.string a0.f1,.string a0.f2,.int .i64 a0.f3,.int .i64 a0.f4,.string a0.f5,.bool a0.f6,.int .i64 a0.f7,.int .i64 a0.f8,.slice Ap0 np0 cp0,.slice Ap1 np1 cp1,.slice Ap2 np2 cp2,.string a0.f12]] w (fun e w'=>e=.returned (.bool r)∧Hp noFP w w' []):=by
 obtain rfl:=C_len gp0
 obtain rfl:=C_len gp1
 obtain rfl:=C_len gp2
 have HS:=Hp.start w
 have H:=Aside0.mk h
 clear h
 unfold spec_CertOk.f at H
 go_enter Tryz.func41,Tryz.ntmps41
 replace H:=zbind H;obtain⟨t3,ht3,H⟩:=H
 replace H:=znifb H;rcases H with⟨c5,H⟩|⟨c5,H⟩
 ·
  subst c5
  obtain rfl:=zsome H
  go_wp2_with (first|((with_reducible refine gd 1 rfl ?_);refine ev_bx HS ?_;clear HS;intro g1 w1 HS F)|((with_reducible refine gd 5 rfl ?_);refine ev_cl HS (spec_l09Num.calls ht3.out) Tryz.func95 ?_;clear HS;intro wt3 HS F))
  go_ret
  exact HS.pk
 subst c5
 replace H:=zbind H;obtain⟨t6,ht6,H⟩:=H
 replace H:=znifb H;rcases H with⟨c8,H⟩|⟨c8,H⟩
 ·
  subst c8
  obtain rfl:=zsome H
  go_wp2_with (first|((with_reducible refine gd 1 rfl ?_);refine ev_bx HS ?_;clear HS;intro g1 w1 HS F)|((with_reducible refine gd 5 rfl ?_);refine ev_cl HS (spec_l09Num.calls ht3.out) Tryz.func95 ?_;clear HS;intro wt3 HS F)|((with_reducible refine gd 9 rfl ?_);refine gg ?_;refine ev_cl HS (spec_l09Num.calls ht6.out) Tryz.func95 ?_;clear HS;intro wt6 HS F))
  go_ret
  exact HS.pk
 subst c8
 replace H:=zbind H;obtain⟨t9,ht9,H⟩:=H
 replace H:=znifb H;rcases H with⟨c11,H⟩|⟨c11,H⟩
 ·
  subst c11
  obtain rfl:=zsome H
  go_wp2_with (first|((with_reducible refine gd 1 rfl ?_);refine ev_bx HS ?_;clear HS;intro g1 w1 HS F)|((with_reducible refine gd 5 rfl ?_);refine ev_cl HS (spec_l09Num.calls ht3.out) Tryz.func95 ?_;clear HS;intro wt3 HS F)|((with_reducible refine gd 9 rfl ?_);refine gg ?_;refine ev_cl HS (spec_l09Num.calls ht6.out) Tryz.func95 ?_;clear HS;intro wt6 HS F)|((with_reducible refine gd 14 rfl ?_);refine gg ?_;refine ev_cl HS (spec_l09Num.calls ht9.out) Tryz.func95 ?_;clear HS;intro wt9 HS F))
  go_ret
  exact HS.pk
 subst c11
 replace H:=zbind H;obtain⟨t12,ht12,H⟩:=H
 replace H:=znifb H;rcases H with⟨c14,H⟩|⟨c14,H⟩
 ·
  subst c14
  obtain rfl:=zsome H
  go_wp2_with (first|((with_reducible refine gd 1 rfl ?_);refine ev_bx HS ?_;clear HS;intro g1 w1 HS F)|((with_reducible refine gd 5 rfl ?_);refine ev_cl HS (spec_l09Num.calls ht3.out) Tryz.func95 ?_;clear HS;intro wt3 HS F)|((with_reducible refine gd 9 rfl ?_);refine gg ?_;refine ev_cl HS (spec_l09Num.calls ht6.out) Tryz.func95 ?_;clear HS;intro wt6 HS F)|((with_reducible refine gd 14 rfl ?_);refine gg ?_;refine ev_cl HS (spec_l09Num.calls ht9.out) Tryz.func95 ?_;clear HS;intro wt9 HS F)|((with_reducible refine gd 19 rfl ?_);refine gg ?_;refine ev_cl HS (spec_NameOk.calls ht12.out) Tryz.func96 ?_;clear HS;intro wt12 HS F))
  go_ret
  exact HS.pk
 subst c14
 replace H:=zbind H;obtain⟨t15,ht15,H⟩:=H
 replace H:=znifb H;rcases H with⟨c17,H⟩|⟨c17,H⟩
 ·
  subst c17
  obtain rfl:=zsome H
  go_wp2_with (first|((with_reducible refine gd 1 rfl ?_);refine ev_bx HS ?_;clear HS;intro g1 w1 HS F)|((with_reducible refine gd 5 rfl ?_);refine ev_cl HS (spec_l09Num.calls ht3.out) Tryz.func95 ?_;clear HS;intro wt3 HS F)|((with_reducible refine gd 9 rfl ?_);refine gg ?_;refine ev_cl HS (spec_l09Num.calls ht6.out) Tryz.func95 ?_;clear HS;intro wt6 HS F)|((with_reducible refine gd 14 rfl ?_);refine gg ?_;refine ev_cl HS (spec_l09Num.calls ht9.out) Tryz.func95 ?_;clear HS;intro wt9 HS F)|((with_reducible refine gd 19 rfl ?_);refine gg ?_;refine ev_cl HS (spec_NameOk.calls ht12.out) Tryz.func96 ?_;clear HS;intro wt12 HS F)|((with_reducible refine gd 24 rfl ?_);refine gg ?_;refine ev_cl HS (spec_NameOk.calls ht15.out) Tryz.func96 ?_;clear HS;intro wt15 HS F))
  go_ret
  exact HS.pk
 subst c17
 replace H:=znif' H;rcases H with⟨c18,H⟩|⟨c18,H⟩
 ·
  obtain⟨c18a,c18b⟩:=nq c18;clear c18
  obtain rfl:=zsome H
  go_wp2_with (first|((with_reducible refine gd 1 rfl ?_);refine ev_bx HS ?_;clear HS;intro g1 w1 HS F)|((with_reducible refine gd 5 rfl ?_);refine ev_cl HS (spec_l09Num.calls ht3.out) Tryz.func95 ?_;clear HS;intro wt3 HS F)|((with_reducible refine gd 9 rfl ?_);refine gg ?_;refine ev_cl HS (spec_l09Num.calls ht6.out) Tryz.func95 ?_;clear HS;intro wt6 HS F)|((with_reducible refine gd 14 rfl ?_);refine gg ?_;refine ev_cl HS (spec_l09Num.calls ht9.out) Tryz.func95 ?_;clear HS;intro wt9 HS F)|((with_reducible refine gd 19 rfl ?_);refine gg ?_;refine ev_cl HS (spec_NameOk.calls ht12.out) Tryz.func96 ?_;clear HS;intro wt12 HS F)|((with_reducible refine gd 24 rfl ?_);refine gg ?_;refine ev_cl HS (spec_NameOk.calls ht15.out) Tryz.func96 ?_;clear HS;intro wt15 HS F))
  go_ret
  exact HS.pk
 obtain⟨c18a,c18b⟩:=bq c18;clear c18
 replace H:=zbind H;obtain⟨t19,ht19,H⟩:=H
 replace H:=znifb H;rcases H with⟨c21,H⟩|⟨c21,H⟩
 ·
  subst c21
  obtain rfl:=zsome H
  go_wp2_with (first|((with_reducible refine gd 1 rfl ?_);refine ev_bx HS ?_;clear HS;intro g1 w1 HS F)|((with_reducible refine gd 5 rfl ?_);refine ev_cl HS (spec_l09Num.calls ht3.out) Tryz.func95 ?_;clear HS;intro wt3 HS F)|((with_reducible refine gd 9 rfl ?_);refine gg ?_;refine ev_cl HS (spec_l09Num.calls ht6.out) Tryz.func95 ?_;clear HS;intro wt6 HS F)|((with_reducible refine gd 14 rfl ?_);refine gg ?_;refine ev_cl HS (spec_l09Num.calls ht9.out) Tryz.func95 ?_;clear HS;intro wt9 HS F)|((with_reducible refine gd 19 rfl ?_);refine gg ?_;refine ev_cl HS (spec_NameOk.calls ht12.out) Tryz.func96 ?_;clear HS;intro wt12 HS F)|((with_reducible refine gd 24 rfl ?_);refine gg ?_;refine ev_cl HS (spec_NameOk.calls ht15.out) Tryz.func96 ?_;clear HS;intro wt15 HS F)|((with_reducible refine gd 35 rfl ?_);refine gg ?_;refine ev_cl HS (spec_l01In.calls ht19.out) Tryz.func97 ?_;clear HS;intro wt19 HS F))
  go_ret
  exact HS.pk
 subst c21
 replace H:=zbind H;obtain⟨t22,ht22,H⟩:=H
 replace H:=znifb H;rcases H with⟨c24,H⟩|⟨c24,H⟩
 ·
  subst c24
  obtain rfl:=zsome H
  go_wp2_with (first|((with_reducible refine gd 1 rfl ?_);refine ev_bx HS ?_;clear HS;intro g1 w1 HS F)|((with_reducible refine gd 5 rfl ?_);refine ev_cl HS (spec_l09Num.calls ht3.out) Tryz.func95 ?_;clear HS;intro wt3 HS F)|((with_reducible refine gd 9 rfl ?_);refine gg ?_;refine ev_cl HS (spec_l09Num.calls ht6.out) Tryz.func95 ?_;clear HS;intro wt6 HS F)|((with_reducible refine gd 14 rfl ?_);refine gg ?_;refine ev_cl HS (spec_l09Num.calls ht9.out) Tryz.func95 ?_;clear HS;intro wt9 HS F)|((with_reducible refine gd 19 rfl ?_);refine gg ?_;refine ev_cl HS (spec_NameOk.calls ht12.out) Tryz.func96 ?_;clear HS;intro wt12 HS F)|((with_reducible refine gd 24 rfl ?_);refine gg ?_;refine ev_cl HS (spec_NameOk.calls ht15.out) Tryz.func96 ?_;clear HS;intro wt15 HS F)|((with_reducible refine gd 35 rfl ?_);refine gg ?_;refine ev_cl HS (spec_l01In.calls ht19.out) Tryz.func97 ?_;clear HS;intro wt19 HS F)|((with_reducible refine gd 40 rfl ?_);refine gg ?_;refine ev_cl HS (spec_l01In.calls ht22.out) Tryz.func97 ?_;clear HS;intro wt22 HS F))
  go_ret
  exact HS.pk
 subst c24
 replace H:=zbind H;obtain⟨t25,ht25,H⟩:=H
 replace H:=znifb H;rcases H with⟨c27,H⟩|⟨c27,H⟩
 ·
  subst c27
  obtain rfl:=zsome H
  go_wp2_with (first|((with_reducible refine gd 1 rfl ?_);refine ev_bx HS ?_;clear HS;intro g1 w1 HS F)|((with_reducible refine gd 5 rfl ?_);refine ev_cl HS (spec_l09Num.calls ht3.out) Tryz.func95 ?_;clear HS;intro wt3 HS F)|((with_reducible refine gd 9 rfl ?_);refine gg ?_;refine ev_cl HS (spec_l09Num.calls ht6.out) Tryz.func95 ?_;clear HS;intro wt6 HS F)|((with_reducible refine gd 14 rfl ?_);refine gg ?_;refine ev_cl HS (spec_l09Num.calls ht9.out) Tryz.func95 ?_;clear HS;intro wt9 HS F)|((with_reducible refine gd 19 rfl ?_);refine gg ?_;refine ev_cl HS (spec_NameOk.calls ht12.out) Tryz.func96 ?_;clear HS;intro wt12 HS F)|((with_reducible refine gd 24 rfl ?_);refine gg ?_;refine ev_cl HS (spec_NameOk.calls ht15.out) Tryz.func96 ?_;clear HS;intro wt15 HS F)|((with_reducible refine gd 35 rfl ?_);refine gg ?_;refine ev_cl HS (spec_l01In.calls ht19.out) Tryz.func97 ?_;clear HS;intro wt19 HS F)|((with_reducible refine gd 40 rfl ?_);refine gg ?_;refine ev_cl HS (spec_l01In.calls ht22.out) Tryz.func97 ?_;clear HS;intro wt22 HS F)|((with_reducible refine gd 45 rfl ?_);refine gg ?_;refine ev_cl HS (spec_PoliciesOk.calls ht25.out (HS.ro gp0) lp0) Tryz.func98 ?_;clear HS;intro wt25 HS F))
  go_ret
  exact HS.pk
 subst c27
 replace H:=zbind H;obtain⟨t28,ht28,H⟩:=H
 replace H:=znifb H;rcases H with⟨c30,H⟩|⟨c30,H⟩
 ·
  subst c30
  obtain rfl:=zsome H
  go_wp2_with (first|((with_reducible refine gd 1 rfl ?_);refine ev_bx HS ?_;clear HS;intro g1 w1 HS F)|((with_reducible refine gd 5 rfl ?_);refine ev_cl HS (spec_l09Num.calls ht3.out) Tryz.func95 ?_;clear HS;intro wt3 HS F)|((with_reducible refine gd 9 rfl ?_);refine gg ?_;refine ev_cl HS (spec_l09Num.calls ht6.out) Tryz.func95 ?_;clear HS;intro wt6 HS F)|((with_reducible refine gd 14 rfl ?_);refine gg ?_;refine ev_cl HS (spec_l09Num.calls ht9.out) Tryz.func95 ?_;clear HS;intro wt9 HS F)|((with_reducible refine gd 19 rfl ?_);refine gg ?_;refine ev_cl HS (spec_NameOk.calls ht12.out) Tryz.func96 ?_;clear HS;intro wt12 HS F)|((with_reducible refine gd 24 rfl ?_);refine gg ?_;refine ev_cl HS (spec_NameOk.calls ht15.out) Tryz.func96 ?_;clear HS;intro wt15 HS F)|((with_reducible refine gd 35 rfl ?_);refine gg ?_;refine ev_cl HS (spec_l01In.calls ht19.out) Tryz.func97 ?_;clear HS;intro wt19 HS F)|((with_reducible refine gd 40 rfl ?_);refine gg ?_;refine ev_cl HS (spec_l01In.calls ht22.out) Tryz.func97 ?_;clear HS;intro wt22 HS F)|((with_reducible refine gd 45 rfl ?_);refine gg ?_;refine ev_cl HS (spec_PoliciesOk.calls ht25.out (HS.ro gp0) lp0) Tryz.func98 ?_;clear HS;intro wt25 HS F)|((with_reducible refine gd 50 rfl ?_);refine gg ?_;refine ev_cl HS (spec_NamesOk.calls ht28.out (HS.ro gp1) lp1) Tryz.func99 ?_;clear HS;intro wt28 HS F))
  go_ret
  exact HS.pk
 subst c30
 replace H:=zbind H;obtain⟨t31,ht31,H⟩:=H
 replace H:=zifb H;rcases H with⟨c33,H⟩|⟨c33,H⟩
 ·
  subst c33
  obtain rfl:=zsome H
  go_wp2_with (first|((with_reducible refine gd 1 rfl ?_);refine ev_bx HS ?_;clear HS;intro g1 w1 HS F)|((with_reducible refine gd 5 rfl ?_);refine ev_cl HS (spec_l09Num.calls ht3.out) Tryz.func95 ?_;clear HS;intro wt3 HS F)|((with_reducible refine gd 9 rfl ?_);refine gg ?_;refine ev_cl HS (spec_l09Num.calls ht6.out) Tryz.func95 ?_;clear HS;intro wt6 HS F)|((with_reducible refine gd 14 rfl ?_);refine gg ?_;refine ev_cl HS (spec_l09Num.calls ht9.out) Tryz.func95 ?_;clear HS;intro wt9 HS F)|((with_reducible refine gd 19 rfl ?_);refine gg ?_;refine ev_cl HS (spec_NameOk.calls ht12.out) Tryz.func96 ?_;clear HS;intro wt12 HS F)|((with_reducible refine gd 24 rfl ?_);refine gg ?_;refine ev_cl HS (spec_NameOk.calls ht15.out) Tryz.func96 ?_;clear HS;intro wt15 HS F)|((with_reducible refine gd 35 rfl ?_);refine gg ?_;refine ev_cl HS (spec_l01In.calls ht19.out) Tryz.func97 ?_;clear HS;intro wt19 HS F)|((with_reducible refine gd 40 rfl ?_);refine gg ?_;refine ev_cl HS (spec_l01In.calls ht22.out) Tryz.func97 ?_;clear HS;intro wt22 HS F)|((with_reducible refine gd 45 rfl ?_);refine gg ?_;refine ev_cl HS (spec_PoliciesOk.calls ht25.out (HS.ro gp0) lp0) Tryz.func98 ?_;clear HS;intro wt25 HS F)|((with_reducible refine gd 50 rfl ?_);refine gg ?_;refine ev_cl HS (spec_NamesOk.calls ht28.out (HS.ro gp1) lp1) Tryz.func99 ?_;clear HS;intro wt28 HS F)|((with_reducible refine gd 55 rfl ?_);refine gg ?_;refine ev_cl HS (spec_NamesOk.calls ht31.out (HS.ro gp2) lp2) Tryz.func99 ?_;clear HS;intro wt31 HS F))
  go_ret
  exact HS.pk
 subst c33
 obtain rfl:=zsome H
 go_wp2_with (first|((with_reducible refine gd 1 rfl ?_);refine ev_bx HS ?_;clear HS;intro g1 w1 HS F)|((with_reducible refine gd 5 rfl ?_);refine ev_cl HS (spec_l09Num.calls ht3.out) Tryz.func95 ?_;clear HS;intro wt3 HS F)|((with_reducible refine gd 9 rfl ?_);refine gg ?_;refine ev_cl HS (spec_l09Num.calls ht6.out) Tryz.func95 ?_;clear HS;intro wt6 HS F)|((with_reducible refine gd 14 rfl ?_);refine gg ?_;refine ev_cl HS (spec_l09Num.calls ht9.out) Tryz.func95 ?_;clear HS;intro wt9 HS F)|((with_reducible refine gd 19 rfl ?_);refine gg ?_;refine ev_cl HS (spec_NameOk.calls ht12.out) Tryz.func96 ?_;clear HS;intro wt12 HS F)|((with_reducible refine gd 24 rfl ?_);refine gg ?_;refine ev_cl HS (spec_NameOk.calls ht15.out) Tryz.func96 ?_;clear HS;intro wt15 HS F)|((with_reducible refine gd 35 rfl ?_);refine gg ?_;refine ev_cl HS (spec_l01In.calls ht19.out) Tryz.func97 ?_;clear HS;intro wt19 HS F)|((with_reducible refine gd 40 rfl ?_);refine gg ?_;refine ev_cl HS (spec_l01In.calls ht22.out) Tryz.func97 ?_;clear HS;intro wt22 HS F)|((with_reducible refine gd 45 rfl ?_);refine gg ?_;refine ev_cl HS (spec_PoliciesOk.calls ht25.out (HS.ro gp0) lp0) Tryz.func98 ?_;clear HS;intro wt25 HS F)|((with_reducible refine gd 50 rfl ?_);refine gg ?_;refine ev_cl HS (spec_NamesOk.calls ht28.out (HS.ro gp1) lp1) Tryz.func99 ?_;clear HS;intro wt28 HS F)|((with_reducible refine gd 55 rfl ?_);refine gg ?_;refine ev_cl HS (spec_NamesOk.calls ht31.out (HS.ro gp2) lp2) Tryz.func99 ?_;clear HS;intro wt31 HS F))
 go_ret
 exact HS.pk
def spec_CertText.f (k:Nat)(a0:S41):Option (ByteArray×Bool):=((spec_CertOk.f k a0).bind fun t3=>(if t3=true then((spec_BodyItem.f k a0).bind fun t13=>((spec_l09Bytes.f a0.f12).bind fun t15=>((spec_ItemText.f k (⟨48,(⟨#[]⟩:ByteArray),([t13,t15]:List S153)⟩:S153)).bind fun t18=>(some (t18.1,t18.2)))))else(some ((⟨#[]⟩:ByteArray),false))))
def spec_CertText.T3:TT:=(true,[([],[]),([0],[0]),([],[]),([2],[2]),([3,1],[3]),([1,4],[1,4]),([5],[5]),([6,4],[6]),([7],[7]),([7],[7]),([8,7,0,1,2,3,4,5,6,7,8,9],[8]),([9,10,0,1,2,3,4,5,6,7,8,9,10],[9])])
theorem spec_CertText.tT3:rtab .any (opsOf Tryz.f89 3)=spec_CertText.T3:=by kernel_rfl
theorem spec_CertText.calls {k:Nat}{a0:S41}{Ap0 Ap1 Ap2:Option Addr}{np0 cp0 np1 cp1 np2 cp2:Nat}{r1:ByteArray}{r2:Bool}{w:World}(h:spec_CertText.f k a0=some (r1,r2))(gp0:(Kd.int .i64).C w Ap0 np0 a0.f9)(lp0:np0≤cp0)(gp1:Kd.string.C w Ap1 np1 a0.f10)(lp1:np1≤cp1)(gp2:Kd.string.C w Ap2 np2 a0.f11)(lp2:np2≤cp2):
    Calls Tryz.prog 89 #[.agg #[.int .i64 a0.f0,.string a0.f1,.string a0.f2,.int .i64 a0.f3,.int .i64 a0.f4,.string a0.f5,.bool a0.f6,.int .i64 a0.f7,.int .i64 a0.f8,.slice Ap0 np0 cp0,.slice Ap1 np1 cp1,.slice Ap2 np2 cp2,.string a0.f12]] w (fun e w'=>e=.returned (.tuple #[.string r1,.bool r2])∧Hp noFP w w' []):=by
 obtain rfl:=C_len gp0
 obtain rfl:=C_len gp1
 obtain rfl:=C_len gp2
 have HS:=Hp.start w
 have H:=Aside0.mk h
 clear h
 unfold spec_CertText.f at H
 go_enter Tryz.func89,Tryz.ntmps89
 replace H:=zbind H;obtain⟨t3,ht3,H⟩:=H
 go_upto_if 6 with(first|((with_reducible refine gd 1 rfl ?_);refine ev_bx HS ?_;clear HS;intro g1 w1 HS F)|((with_reducible refine gd 5 rfl ?_);refine ev_cl HS (spec_CertOk.calls ht3.out (HS.ro gp0) lp0 (HS.ro gp1) lp1 (HS.ro gp2) lp2) Tryz.func41 ?_;clear HS;intro wt3 HS F))
 replace H:=znifb H;rcases H with⟨c5,H⟩|⟨c5,H⟩
 ·
  subst c5
  (try simp only [dcn,dcu,dcf])
  obtain⟨rfl,rfl⟩:=zsome2 H
  go_wp2
  exact rl rfl (.tmp (.tmp .nil)) ⟨rfl,HS.pi []⟩
 subst c5
 (try simp only [dcn,dcu,dcf])
 (try go_wp2)
 replace H:=zbind H;obtain⟨t13,ht13,H⟩:=H
 replace H:=zbind H;obtain⟨t15,ht15,H⟩:=H
 replace H:=zbind H;obtain⟨t18,ht18,H⟩:=H
 refine dr_start [] HS #[false,false,false,false,false,false,false,false,false,false,false,false] (by kernel_rfl) rfl rfl spec_CertText.tT3 (fun w7 HT HS HH=>?_)
 (try clear F)
 refine dqt [0,2,3] HT HH ?_
 refine dr1 1 HT fun K hK=>?_
 refine go_cl1 HS (spec_BodyItem.calls ht13.out (HS.ro gp0) lp0 (HS.ro gp1) lp1 (HS.ro gp2) lp2) Tryz.func137 ?_;clear HS;intro v14 wt13 HS F;obtain⟨B14,d14,rfl,m14⟩:=HS.form 1 rfl
 refine nrm 8 hK ⟨_,HS⟩ fun HH=>?_;clear hK K
 refine dr1 4 HT fun K hK=>?_
 refine go_cl1 HS (spec_l09Bytes.calls ht15.out) Tryz.func138 ?_;clear HS;intro v16 wt15 HS F;obtain⟨B16,d16,rfl,m16⟩:=HS.form 2 rfl
 refine nrm 11 hK ⟨_,HS⟩ fun HH=>?_;clear hK K
 refine dr1 5 HT fun K hK=>?_
 refine if_li q153 [1,2] ([t13,t15]:List S153) ([.int .i64 t13.f0,.string t13.f1,.slice B14 t13.f2.length d14]++([.int .i64 t15.f0,.string t15.f1,.slice B16 t15.f2.length d16]++ [])) HS (MadeL.cons (js1:=[1]) (c:=[.int .i64 t13.f0,.string t13.f1,.slice B14 t13.f2.length d14]) rfl (fun S hd hh=>q153_pack (x:=t13) hd (hh 1 (.own (Zd.slice 153 q153) t13.f2 [.slice B14 t13.f2.length d14]) rfl) (by decide)) (MadeL.cons (js1:=[2]) (c:=[.int .i64 t15.f0,.string t15.f1,.slice B16 t15.f2.length d16]) rfl (fun S hd hh=>q153_pack (x:=t15) hd (hh 2 (.own (Zd.slice 153 q153) t15.f2 [.slice B16 t15.f2.length d16]) rfl) (by decide)) MadeL.nil (by decide)) (by decide)) ?_;clear HS;intro v17 w17 HS F;obtain⟨B17,d17,rfl,m17⟩:=HS.formn 2 3 rfl rfl
 refine nrm 12 hK ⟨_,HS⟩ fun HH=>?_;clear hK K
 refine dq [6] HT ?_
 refine dr1 7 HT fun K hK=>?_
 refine go_cl HS (spec_ItemText.calls ht18.out (HS.rd 3 rfl) m17) Tryz.func136 ?_;clear HS;intro wt18 HS F
 refine nrm 14 hK ⟨_,HS⟩ fun HH=>?_;clear hK K
 refine dq [8,9,10,11] HT ?_
 refine dn HT ?_
 (try clear F)
 have F:=HS.bx
 obtain⟨rfl,rfl⟩:=zsome2 H
 go_wp2
 exact rl rfl (.tmp (.tmp .nil)) ⟨rfl,HS.pi []⟩
def spec_l13In.l0:Nat→Int→(List ByteArray)→ByteArray→Option (Bool)
  |0,_,_,_=>none
  |k+1,x4,a0,a1=>(if x4<(a0.length:Int)then(if 0≤x4 then(if x4<(a0.length:Int)then(if(rdOf ByteArray.empty a0 x4).toList=a1.toList then(some true)else(spec_l13In.l0 k (wrap64 (x4+1)) a0 a1))else none)else none)else(some false))
def spec_l13In.f (k:Nat)(a0:(List ByteArray))(a1:ByteArray):Option (Bool):=(spec_l13In.l0 k 0 a0 a1)
theorem spec_l13In.calls {k:Nat}{a0:(List ByteArray)}{a1:ByteArray}{Ap0:Option Addr}{np0 cp0:Nat}{r:Bool}{w:World}(h:spec_l13In.f k a0 a1=some r)(gp0:Kd.string.C w Ap0 np0 a0)(lp0:np0≤cp0):
    Calls Tryz.prog 90 #[.slice Ap0 np0 cp0,.string a1] w (fun e w'=>e=.returned (.bool r)∧Hp noFP w w' []):=by
 obtain rfl:=C_len gp0
 have HS:=Hp.start w
 have H:=Aside0.mk h
 clear h
 unfold spec_l13In.f at H
 go_enter Tryz.func90,Tryz.ntmps90
 go_wp2
 go_loopg [5] k (fun kq v_5 w'=>∃(x4:Int),v_5=.int .i64 x4∧Aside0 (spec_l13In.l0 kq x4 a0 a1=some r)∧Aside0 (kq≤k)∧Hp noFP w w' [])
 case atStart=>exact⟨_,rfl,H,⟨Nat.le_refl _⟩,HS⟩
 case round=>
  clear HS H;(try clear F)
  obtain⟨x4,rfl,H,HKk3,HS⟩:=hrel
  cases gk with
  |zero=>exact absurd H.out (by simp [spec_l13In.l0])
  | succ k3=>
   simp only [spec_l13In.l0] at H
   replace H:=znif H;rcases H with⟨c6,H⟩|⟨c6,H⟩
   ·
    obtain rfl:=zsome H
    go_wp2
    go_ret
    exact HS.pk
   replace H:=zgo H;obtain⟨c7,H⟩:=H
   replace H:=zgo H;obtain⟨c8,H⟩:=H
   obtain⟨ad9,rfl,e9_0⟩:=Kd.at_string gp0 x4 (of_eq_true c7) (of_eq_true c8)
   have e9_0_9:=HS.keepc e9_0
   replace H:=zif' H;rcases H with⟨c10,H⟩|⟨c10,H⟩
   ·
    obtain⟨c10a,c10b⟩:=bq c10;clear c10
    obtain rfl:=zsome H
    go_wp2
    go_ret
    exact HS.pk
   obtain⟨c10a,c10b⟩:=nq c10;clear c10
   go_wp2
   go_roundg k3
   case measure=>have:=HKk3.out;omega
   case rel=>exact⟨_,rfl,H,⟨by have:=HKk3.out;omega⟩,HS.pi []⟩
def spec_CrlOk.l0:Nat→Int→S69→Option (Bool)
  |0,_,_=>none
  |k+1,x23,a0=>(if x23<(a0.f5.length:Int)then(if 0≤x23 then(if x23<(a0.f5.length:Int)then((spec_l09Num.f ((rd_T163 a0.f5 x23).f0)).bind fun t10=>(if t10=true then((spec_l01In.f ((rd_T163 a0.f5 x23).f1) 1 10).bind fun t16=>(if t16=true then(if(rd_T163 a0.f5 x23).f1=8 then(if a0.f4=0 then(some false)else(if 0<x23 then(if 0≤(wrap64 (x23 - 1))then(if(wrap64 (x23 - 1))<(a0.f5.length:Int)then(if(rd_T163 a0.f5 x23).f0≤(rd_T163 a0.f5 (wrap64 (x23 - 1))).f0 then(some false)else(spec_CrlOk.l0 k (wrap64 (x23+1)) a0))else none)else none)else(spec_CrlOk.l0 k (wrap64 (x23+1)) a0)))else(if 0<x23 then(if 0≤(wrap64 (x23 - 1))then(if(wrap64 (x23 - 1))<(a0.f5.length:Int)then(if(rd_T163 a0.f5 x23).f0≤(rd_T163 a0.f5 (wrap64 (x23 - 1))).f0 then(some false)else(spec_CrlOk.l0 k (wrap64 (x23+1)) a0))else none)else none)else(spec_CrlOk.l0 k (wrap64 (x23+1)) a0)))else(some false)))else(some false)))else none)else none)else(some true))
def spec_CrlOk.f (k:Nat)(a0:S69):Option (Bool):=((spec_NameOk.f k a0.f0).bind fun t3=>(if t3=true then((spec_l01In.f a0.f1 1 9999).bind fun t6=>(if t6=true then((spec_l01In.f a0.f4 0 (wrap64 (a0.f1 - 1))).bind fun t9=>(if t9=true then((spec_l09Num.f a0.f2).bind fun t12=>(if t12=true then((spec_l09Num.f a0.f3).bind fun t15=>(if t15=true then(if 8<(a0.f5.length:Int)then(some false)else(if(a0.f6.size:Int)=15 then(spec_CrlOk.l0 k 0 a0)else(some false)))else(some false)))else(some false)))else(some false)))else(some false)))else(some false)))
def spec_CrlOk.T7:TT:=(true,[([],[]),([0],[0]),([1],[1]),([2],[2]),([3,2],[3]),([4],[4]),([5,4],[4,5]),([6,4,4],[4,6]),([7,4],[4,7]),([4,8],[4,8]),([9,7],[9]),([10],[10]),([11,10],[10,11]),([12,10],[10,12]),([13,10,10],[10,13]),([14],[14]),([15,14],[14,15]),([16,14],[14,16]),([14,17,10],[10,14,17]),([10,18],[10,18]),([19,14],[19]),([20],[20]),([21,20],[20,21]),([22,20,20],[20,22]),([23],[23]),([24,23],[23,24]),([23],[23]),([26,23],[23,26]),([25,27,23],[23,25,27]),([28,23],[23,28]),([29,23],[23,29]),([23],[23]),([31,23],[23,31]),([30,32,23],[23,30,32]),([23,33,20],[20,23,33]),([20,34],[20,34])])
theorem spec_CrlOk.tT7:rtab .any (opsOf Tryz.f139 7)=spec_CrlOk.T7:=by kernel_rfl
theorem spec_CrlOk.calls {k:Nat}{a0:S69}{Ap0:Option Addr}{np0 cp0:Nat}{r:Bool}{w:World}(h:spec_CrlOk.f k a0=some r)(gp0:k163.C w Ap0 np0 a0.f5)(lp0:np0≤cp0):
    Calls Tryz.prog 139 #[.agg #[.string a0.f0,.int .i64 a0.f1,.int .i64 a0.f2,.int .i64 a0.f3,.int .i64 a0.f4,.slice Ap0 np0 cp0,.string a0.f6]] w (fun e w'=>e=.returned (.bool r)∧Hp noFP w w' []):=by
 obtain rfl:=C_len gp0
 have HS:=Hp.start w
 have H:=Aside0.mk h
 clear h
 unfold spec_CrlOk.f at H
 go_enter Tryz.func139,Tryz.ntmps139
 replace H:=zbind H;obtain⟨t3,ht3,H⟩:=H
 replace H:=znifb H;rcases H with⟨c5,H⟩|⟨c5,H⟩
 ·
  subst c5
  obtain rfl:=zsome H
  go_wp2_with (first|((with_reducible refine gd 1 rfl ?_);refine ev_bx HS ?_;clear HS;intro g1 w1 HS F)|((with_reducible refine gd 7 rfl ?_);refine ev_cl HS (spec_NameOk.calls ht3.out) Tryz.func96 ?_;clear HS;intro wt3 HS F))
  go_ret
  exact HS.pk
 subst c5
 replace H:=zbind H;obtain⟨t6,ht6,H⟩:=H
 replace H:=znifb H;rcases H with⟨c8,H⟩|⟨c8,H⟩
 ·
  subst c8
  obtain rfl:=zsome H
  go_wp2_with (first|((with_reducible refine gd 1 rfl ?_);refine ev_bx HS ?_;clear HS;intro g1 w1 HS F)|((with_reducible refine gd 7 rfl ?_);refine ev_cl HS (spec_NameOk.calls ht3.out) Tryz.func96 ?_;clear HS;intro wt3 HS F)|((with_reducible refine gd 12 rfl ?_);refine gg ?_;refine ev_cl HS (spec_l01In.calls ht6.out) Tryz.func97 ?_;clear HS;intro wt6 HS F))
  go_ret
  exact HS.pk
 subst c8
 replace H:=zbind H;obtain⟨t9,ht9,H⟩:=H
 replace H:=znifb H;rcases H with⟨c11,H⟩|⟨c11,H⟩
 ·
  subst c11
  obtain rfl:=zsome H
  go_wp2_with (first|((with_reducible refine gd 1 rfl ?_);refine ev_bx HS ?_;clear HS;intro g1 w1 HS F)|((with_reducible refine gd 7 rfl ?_);refine ev_cl HS (spec_NameOk.calls ht3.out) Tryz.func96 ?_;clear HS;intro wt3 HS F)|((with_reducible refine gd 12 rfl ?_);refine gg ?_;refine ev_cl HS (spec_l01In.calls ht6.out) Tryz.func97 ?_;clear HS;intro wt6 HS F)|((with_reducible refine gd 21 rfl ?_);refine gg ?_;refine ev_cl HS (spec_l01In.calls ht9.out) Tryz.func97 ?_;clear HS;intro wt9 HS F))
  go_ret
  exact HS.pk
 subst c11
 replace H:=zbind H;obtain⟨t12,ht12,H⟩:=H
 replace H:=znifb H;rcases H with⟨c14,H⟩|⟨c14,H⟩
 ·
  subst c14
  obtain rfl:=zsome H
  go_wp2_with (first|((with_reducible refine gd 1 rfl ?_);refine ev_bx HS ?_;clear HS;intro g1 w1 HS F)|((with_reducible refine gd 7 rfl ?_);refine ev_cl HS (spec_NameOk.calls ht3.out) Tryz.func96 ?_;clear HS;intro wt3 HS F)|((with_reducible refine gd 12 rfl ?_);refine gg ?_;refine ev_cl HS (spec_l01In.calls ht6.out) Tryz.func97 ?_;clear HS;intro wt6 HS F)|((with_reducible refine gd 21 rfl ?_);refine gg ?_;refine ev_cl HS (spec_l01In.calls ht9.out) Tryz.func97 ?_;clear HS;intro wt9 HS F)|((with_reducible refine gd 27 rfl ?_);refine gg ?_;refine ev_cl HS (spec_l09Num.calls ht12.out) Tryz.func95 ?_;clear HS;intro wt12 HS F))
  go_ret
  exact HS.pk
 subst c14
 replace H:=zbind H;obtain⟨t15,ht15,H⟩:=H
 replace H:=znifb H;rcases H with⟨c17,H⟩|⟨c17,H⟩
 ·
  subst c17
  obtain rfl:=zsome H
  go_wp2_with (first|((with_reducible refine gd 1 rfl ?_);refine ev_bx HS ?_;clear HS;intro g1 w1 HS F)|((with_reducible refine gd 7 rfl ?_);refine ev_cl HS (spec_NameOk.calls ht3.out) Tryz.func96 ?_;clear HS;intro wt3 HS F)|((with_reducible refine gd 12 rfl ?_);refine gg ?_;refine ev_cl HS (spec_l01In.calls ht6.out) Tryz.func97 ?_;clear HS;intro wt6 HS F)|((with_reducible refine gd 21 rfl ?_);refine gg ?_;refine ev_cl HS (spec_l01In.calls ht9.out) Tryz.func97 ?_;clear HS;intro wt9 HS F)|((with_reducible refine gd 27 rfl ?_);refine gg ?_;refine ev_cl HS (spec_l09Num.calls ht12.out) Tryz.func95 ?_;clear HS;intro wt12 HS F)|((with_reducible refine gd 33 rfl ?_);refine gg ?_;refine ev_cl HS (spec_l09Num.calls ht15.out) Tryz.func95 ?_;clear HS;intro wt15 HS F))
  go_ret
  exact HS.pk
 subst c17
 replace H:=zif H;rcases H with⟨c18,H⟩|⟨c18,H⟩
 ·
  obtain rfl:=zsome H
  go_wp2_with (first|((with_reducible refine gd 1 rfl ?_);refine ev_bx HS ?_;clear HS;intro g1 w1 HS F)|((with_reducible refine gd 7 rfl ?_);refine ev_cl HS (spec_NameOk.calls ht3.out) Tryz.func96 ?_;clear HS;intro wt3 HS F)|((with_reducible refine gd 12 rfl ?_);refine gg ?_;refine ev_cl HS (spec_l01In.calls ht6.out) Tryz.func97 ?_;clear HS;intro wt6 HS F)|((with_reducible refine gd 21 rfl ?_);refine gg ?_;refine ev_cl HS (spec_l01In.calls ht9.out) Tryz.func97 ?_;clear HS;intro wt9 HS F)|((with_reducible refine gd 27 rfl ?_);refine gg ?_;refine ev_cl HS (spec_l09Num.calls ht12.out) Tryz.func95 ?_;clear HS;intro wt12 HS F)|((with_reducible refine gd 33 rfl ?_);refine gg ?_;refine ev_cl HS (spec_l09Num.calls ht15.out) Tryz.func95 ?_;clear HS;intro wt15 HS F))
  go_ret
  exact HS.pk
 go_upto_if 47 with(first|((with_reducible refine gd 1 rfl ?_);refine ev_bx HS ?_;clear HS;intro g1 w1 HS F)|((with_reducible refine gd 7 rfl ?_);refine ev_cl HS (spec_NameOk.calls ht3.out) Tryz.func96 ?_;clear HS;intro wt3 HS F)|((with_reducible refine gd 12 rfl ?_);refine gg ?_;refine ev_cl HS (spec_l01In.calls ht6.out) Tryz.func97 ?_;clear HS;intro wt6 HS F)|((with_reducible refine gd 21 rfl ?_);refine gg ?_;refine ev_cl HS (spec_l01In.calls ht9.out) Tryz.func97 ?_;clear HS;intro wt9 HS F)|((with_reducible refine gd 27 rfl ?_);refine gg ?_;refine ev_cl HS (spec_l09Num.calls ht12.out) Tryz.func95 ?_;clear HS;intro wt12 HS F)|((with_reducible refine gd 33 rfl ?_);refine gg ?_;refine ev_cl HS (spec_l09Num.calls ht15.out) Tryz.func95 ?_;clear HS;intro wt15 HS F))
 replace H:=znif' H;rcases H with⟨c19,H⟩|⟨c19,H⟩
 ·
  obtain⟨c19a,c19b⟩:=nq c19;clear c19
  (try simp only [c19a,c19b,dcn])
  obtain rfl:=zsome H
  go_wp2
  go_ret
  exact HS.pk
 obtain⟨c19a,c19b⟩:=bq c19;clear c19
 (try simp only [c19a,c19b,dcn])
 go_wp2
 go_loopg [3] k (fun kq v_3 w'=>∃(x23:Int),v_3=.int .i64 x23∧Aside0 (spec_CrlOk.l0 kq x23 a0=some r)∧Aside0 (kq≤k)∧Hp noFP w w' [.box g1 [.string a0.f0,.int .i64 a0.f1,.int .i64 a0.f2,.int .i64 a0.f3,.int .i64 a0.f4,.slice Ap0 a0.f5.length cp0,.string a0.f6] 69])
 case atStart=>exact⟨_,rfl,H,⟨Nat.le_refl _⟩,HS⟩
 case round=>
  clear HS H;(try clear F)
  obtain⟨x23,rfl,H,HKk22,HS⟩:=hrel
  have F:=HS.bx
  cases gk with
  |zero=>exact absurd H.out (by simp [spec_CrlOk.l0])
  | succ k22=>
   simp only [spec_CrlOk.l0] at H
   replace H:=znif H;rcases H with⟨c25,H⟩|⟨c25,H⟩
   ·
    obtain rfl:=zsome H
    go_wp2
    go_ret
    exact HS.pk
   replace H:=zgo H;obtain⟨c26,H⟩:=H
   replace H:=zgo H;obtain⟨c27,H⟩:=H
   obtain⟨ad28,rfl,e28_0,e28_1⟩:=at_T163 gp0 x23 (of_eq_true c26) (of_eq_true c27)
   have e28_0_28:=HS.keepc e28_0
   have e28_1_28:=HS.keepc e28_1
   go_wp2_with (first|((with_reducible refine gd 4 rfl ?_);refine ev_bx HS ?_;clear HS;intro g4 w4 HS F)|((with_reducible refine gate_store (p:=4) rfl ?_);refine ev_st 1 0 HS (seg:=[.int .i64 ((rd_T163 a0.f5 x23).f0),.int .i64 ((rd_T163 a0.f5 x23).f1)]) ?_;clear HS;intro w31 HS F))
   replace H:=zbind H;obtain⟨t10,ht10,H⟩:=H
   replace H:=znifb H;rcases H with⟨c13,H⟩|⟨c13,H⟩
   ·
    subst c13
    refine dr_start [] HS #[false,false,false,false,false,false,false,false,false,false,false,false,false,false,false,false,false,false,false,false,false,false,false,false,false,false,false,false,false,false,false,false,false,false,false,false] (by kernel_rfl) rfl rfl spec_CrlOk.tT7 (fun w48 HT HS HH=>?_)
    (try clear F)
    refine dqt [0,1] HT HH ?_
    refine dr1 2 HT fun K hK=>?_
    refine go_cl HS (spec_l09Num.calls ht10.out) Tryz.func95 ?_;clear HS;intro wt10 HS F
    refine nrm 62 hK ⟨_,HS⟩ fun HH=>?_;clear hK K
    refine dqo [3,4,5,6,7,8,9,10,11,12,13,14,15,16,17,18,19,20,21,22,23,24,25,26,27,28,29,30,31,32,33,34,35] HT ?_
    refine dn HT ?_
    (try clear F)
    have F:=HS.bx
    obtain rfl:=zsome H
    go_wp2
    go_ret
    exact HS.pk
   subst c13
   replace H:=zbind H;obtain⟨t16,ht16,H⟩:=H
   replace H:=znifb H;rcases H with⟨c20,H⟩|⟨c20,H⟩
   ·
    subst c20
    refine dr_start [] HS #[false,false,false,false,false,false,false,false,false,false,false,false,false,false,false,false,false,false,false,false,false,false,false,false,false,false,false,false,false,false,false,false,false,false,false,false] (by kernel_rfl) rfl rfl spec_CrlOk.tT7 (fun w46 HT HS HH=>?_)
    (try clear F)
    refine dqt [0,1] HT HH ?_
    refine dr1 2 HT fun K hK=>?_
    refine go_cl HS (spec_l09Num.calls ht10.out) Tryz.func95 ?_;clear HS;intro wt10 HS F
    refine nrm 62 hK ⟨_,HS⟩ fun HH=>?_;clear hK K
    refine dqt [3,4,5,6] HT HH ?_
    refine dr1 7 HT fun K hK=>?_
    refine go_cl HS (spec_l01In.calls ht16.out) Tryz.func97 ?_;clear HS;intro wt16 HS F
    refine nrm 67 hK ⟨_,HS⟩ fun HH=>?_;clear hK K
    refine dqo [8,9,10,11,12,13,14,15,16,17,18,19,20,21,22,23,24,25,26,27,28,29,30,31,32,33,34,35] HT ?_
    refine dn HT ?_
    (try clear F)
    have F:=HS.bx
    obtain rfl:=zsome H
    go_wp2
    go_ret
    exact HS.pk
   subst c20
   replace H:=znif' H;rcases H with⟨c21,H⟩|⟨c21,H⟩
   ·
    obtain⟨c21a,c21b⟩:=nq c21;clear c21
    replace H:=znif H;rcases H with⟨c29,H⟩|⟨c29,H⟩
    ·
     refine dr_start [] HS #[false,false,false,false,false,false,false,false,false,false,false,false,false,false,false,false,false,false,false,false,false,false,false,false,false,false,false,false,false,false,false,false,false,false,false,false] (by kernel_rfl) rfl rfl spec_CrlOk.tT7 (fun w44 HT HS HH=>?_)
     (try clear F)
     refine dqt [0,1] HT HH ?_
     refine dr1 2 HT fun K hK=>?_
     refine go_cl HS (spec_l09Num.calls ht10.out) Tryz.func95 ?_;clear HS;intro wt10 HS F
     refine nrm 62 hK ⟨_,HS⟩ fun HH=>?_;clear hK K
     refine dqt [3,4,5,6] HT HH ?_
     refine dr1 7 HT fun K hK=>?_
     refine go_cl HS (spec_l01In.calls ht16.out) Tryz.func97 ?_;clear HS;intro wt16 HS F
     refine nrm 67 hK ⟨_,HS⟩ fun HH=>?_;clear hK K
     refine dqto [8,9,10,11,12,13,14,15,16,17,18,19,20,21,22,23,24,25,26,27,28,29,30,31,32,33,34,35] HT HH ?_
     refine dn HT ?_
     (try clear F)
     have F:=HS.bx
     go_wp2
     go_roundg k22
     case measure=>have:=HKk22.out;omega
     case rel=>exact⟨_,rfl,H,⟨by have:=HKk22.out;omega⟩,HS.pi [0]⟩
    replace H:=zgo H;obtain⟨c30,H⟩:=H
    replace H:=zgo H;obtain⟨c32,H⟩:=H
    obtain⟨ad33,hq33,e33_0,e33_1⟩:=at_T163 gp0 (wrap64 (x23 - 1)) (of_eq_true c30) (of_eq_true c32);obtain rfl:=Option.some.inj hq33
    refine dr_start [] HS #[false,false,false,false,false,false,false,false,false,false,false,false,false,false,false,false,false,false,false,false,false,false,false,false,false,false,false,false,false,false,false,false,false,false,false,false] (by kernel_rfl) rfl rfl spec_CrlOk.tT7 (fun w41 HT HS HH=>?_)
    (try clear F)
    refine dqt [0,1] HT HH ?_
    refine dr1 2 HT fun K hK=>?_
    refine go_cl HS (spec_l09Num.calls ht10.out) Tryz.func95 ?_;clear HS;intro wt10 HS F
    refine nrm 62 hK ⟨_,HS⟩ fun HH=>?_;clear hK K
    refine dqt [3,4,5,6] HT HH ?_
    refine dr1 7 HT fun K hK=>?_
    refine go_cl HS (spec_l01In.calls ht16.out) Tryz.func97 ?_;clear HS;intro wt16 HS F
    refine nrm 67 hK ⟨_,HS⟩ fun HH=>?_;clear hK K
    refine dqto [8,9,10,11,12,13,14,15,16,17,18,19,20,21,22,23,24,25,26,27,28,29] HT HH ?_
    refine dtk 30 90 HT HH rfl (by rintro w' ⟨rs',HS'⟩;have e33_0:=HS'.keepc e33_0;have e33_1:=HS'.keepc e33_1;go_simp;with_reducible rfl) ?_
    refine dqt [31,32,33,34,35] HT HH ?_
    refine dn HT ?_
    (try clear F)
    have F:=HS.bx
    replace H:=zif H;rcases H with⟨c43,H⟩|⟨c43,H⟩
    ·
     (try simp only [c43,dcn])
     obtain rfl:=zsome H
     go_wp2
     go_ret
     exact HS.pk
    (try simp only [c43,dcn])
    go_wp2
    go_roundg k22
    case measure=>have:=HKk22.out;omega
    case rel=>exact⟨_,rfl,H,⟨by have:=HKk22.out;omega⟩,HS.pi [0]⟩
   obtain⟨c21a,c21b⟩:=bq c21;clear c21
   replace H:=zif' H;rcases H with⟨c24,H⟩|⟨c24,H⟩
   ·
    obtain⟨c24a,c24b⟩:=bq c24;clear c24
    refine dr_start [] HS #[false,false,false,false,false,false,false,false,false,false,false,false,false,false,false,false,false,false,false,false,false,false,false,false,false,false,false,false,false,false,false,false,false,false,false,false] (by kernel_rfl) rfl rfl spec_CrlOk.tT7 (fun w34 HT HS HH=>?_)
    (try clear F)
    refine dqt [0,1] HT HH ?_
    refine dr1 2 HT fun K hK=>?_
    refine go_cl HS (spec_l09Num.calls ht10.out) Tryz.func95 ?_;clear HS;intro wt10 HS F
    refine nrm 62 hK ⟨_,HS⟩ fun HH=>?_;clear hK K
    refine dqt [3,4,5,6] HT HH ?_
    refine dr1 7 HT fun K hK=>?_
    refine go_cl HS (spec_l01In.calls ht16.out) Tryz.func97 ?_;clear HS;intro wt16 HS F
    refine nrm 67 hK ⟨_,HS⟩ fun HH=>?_;clear hK K
    refine dqto [8,9,10,11,12,13,14,15,16,17,18,19,20,21,22,23,24,25,26,27,28,29,30,31,32,33,34,35] HT HH ?_
    refine dn HT ?_
    (try clear F)
    have F:=HS.bx
    obtain rfl:=zsome H
    go_wp2
    go_ret
    exact HS.pk
   obtain⟨c24a,c24b⟩:=nq c24;clear c24
   replace H:=znif H;rcases H with⟨c29,H⟩|⟨c29,H⟩
   ·
    refine dr_start [] HS #[false,false,false,false,false,false,false,false,false,false,false,false,false,false,false,false,false,false,false,false,false,false,false,false,false,false,false,false,false,false,false,false,false,false,false,false] (by kernel_rfl) rfl rfl spec_CrlOk.tT7 (fun w39 HT HS HH=>?_)
    (try clear F)
    refine dqt [0,1] HT HH ?_
    refine dr1 2 HT fun K hK=>?_
    refine go_cl HS (spec_l09Num.calls ht10.out) Tryz.func95 ?_;clear HS;intro wt10 HS F
    refine nrm 62 hK ⟨_,HS⟩ fun HH=>?_;clear hK K
    refine dqt [3,4,5,6] HT HH ?_
    refine dr1 7 HT fun K hK=>?_
    refine go_cl HS (spec_l01In.calls ht16.out) Tryz.func97 ?_;clear HS;intro wt16 HS F
    refine nrm 67 hK ⟨_,HS⟩ fun HH=>?_;clear hK K
    refine dqto [8,9,10,11,12,13,14,15,16,17,18,19,20,21,22,23,24,25,26,27,28,29,30,31,32,33,34,35] HT HH ?_
    refine dn HT ?_
    (try clear F)
    have F:=HS.bx
    go_wp2
    go_roundg k22
    case measure=>have:=HKk22.out;omega
    case rel=>exact⟨_,rfl,H,⟨by have:=HKk22.out;omega⟩,HS.pi [0]⟩
   replace H:=zgo H;obtain⟨c30,H⟩:=H
   replace H:=zgo H;obtain⟨c32,H⟩:=H
   obtain⟨ad33,hq33,e33_0,e33_1⟩:=at_T163 gp0 (wrap64 (x23 - 1)) (of_eq_true c30) (of_eq_true c32);obtain rfl:=Option.some.inj hq33
   refine dr_start [] HS #[false,false,false,false,false,false,false,false,false,false,false,false,false,false,false,false,false,false,false,false,false,false,false,false,false,false,false,false,false,false,false,false,false,false,false,false] (by kernel_rfl) rfl rfl spec_CrlOk.tT7 (fun w36 HT HS HH=>?_)
   (try clear F)
   refine dqt [0,1] HT HH ?_
   refine dr1 2 HT fun K hK=>?_
   refine go_cl HS (spec_l09Num.calls ht10.out) Tryz.func95 ?_;clear HS;intro wt10 HS F
   refine nrm 62 hK ⟨_,HS⟩ fun HH=>?_;clear hK K
   refine dqt [3,4,5,6] HT HH ?_
   refine dr1 7 HT fun K hK=>?_
   refine go_cl HS (spec_l01In.calls ht16.out) Tryz.func97 ?_;clear HS;intro wt16 HS F
   refine nrm 67 hK ⟨_,HS⟩ fun HH=>?_;clear hK K
   refine dqt [8,9,10,11,12,13,14,15,16,17,18,19,20,21,22,23,24,25,26,27,28,29] HT HH ?_
   refine dtk 30 90 HT HH rfl (by rintro w' ⟨rs',HS'⟩;have e33_0:=HS'.keepc e33_0;have e33_1:=HS'.keepc e33_1;go_simp;with_reducible rfl) ?_
   refine dqt [31,32,33,34,35] HT HH ?_
   refine dn HT ?_
   (try clear F)
   have F:=HS.bx
   replace H:=zif H;rcases H with⟨c38,H⟩|⟨c38,H⟩
   ·
    (try simp only [c38,dcn])
    obtain rfl:=zsome H
    go_wp2
    go_ret
    exact HS.pk
   (try simp only [c38,dcn])
   go_wp2
   go_roundg k22
   case measure=>have:=HKk22.out;omega
   case rel=>exact⟨_,rfl,H,⟨by have:=HKk22.out;omega⟩,HS.pi [0]⟩
end Go.Proofs.YtncddikfafgklaaGreatDoor.F

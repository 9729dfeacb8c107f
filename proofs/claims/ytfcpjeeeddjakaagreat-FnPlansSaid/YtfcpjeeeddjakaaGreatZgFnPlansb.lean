/- Functions of the program and of the law, and that their calls do what is written here. -/
import Derived.Test.YtfcpjeeeddjakaaGreatZgFnPlansa
namespace Go.Proofs.YtfcpjeeeddjakaaGreat.F
open Go.RowKit YtfcpjeeeddjakaaGreatW.PrintWords YtfcpjeeeddjakaaGreatW.PrintLast YtfcpjeeeddjakaaGreatW.PrintMore Z
attribute [local go_sem] max2_int min2_int max_two min_two max_three min_three max_four min_four
set_option linter.unusedVariables false
set_option linter.unusedSimpArgs false
set_option maxRecDepth 100000
set_option maxHeartbeats 16000000
def spec_PowMod.l0:Nat→(List Int)→(List Int)→Int→(List Int)→(List Int)→Option ((List Int))
  |0,_,_,_,_,_=>none
  |k+1,l51,l53,x55,a2,t23=>(if x55<(t23.length:Int)then(if 0≤x55 then(if x55<(t23.length:Int)then(if(rd t23 x55)=1 then((spec_MulMod.f k l51 l53 a2).bind fun t62=>((spec_MulMod.f k l53 l53 a2).bind fun t65=>(spec_PowMod.l0 k t62 t65 (wrap64 (x55+1)) a2 t23)))else((spec_MulMod.f k l53 l53 a2).bind fun t68=>(spec_PowMod.l0 k l51 t68 (wrap64 (x55+1)) a2 t23)))else none)else none)else(some l51))
def spec_PowMod.f (k:Nat)(a0:(List Int))(a1:(List Int))(a2:(List Int)):Option ((List Int)):=((spec_NatOk.f k a0).bind fun t1=>(if t1=true then((spec_NatOk.f k a1).bind fun t4=>(if t4=true then((spec_NatOk.f k a2).bind fun t7=>(if t7=true then(if(a2.length:Int)=0 then(some ([]:List Int))else((spec_l04Div.f k ([1]:List Int) a2).bind fun t15=>((spec_l04Div.f k a0 a2).bind fun t19=>((spec_BitsOf.f k a1).bind fun t23=>(spec_PowMod.l0 k t15.2 t19.2 0 a2 t23)))))else(some ([]:List Int))))else(some ([]:List Int))))else(some ([]:List Int))))
theorem spec_PowMod.calls {k:Nat}{a0:(List Int)}{a1:(List Int)}{a2:(List Int)}{Ap0 Ap1 Ap2:Option Addr}{np0 cp0 np1 cp1 np2 cp2:Nat}{r:(List Int)}{w:World}(h:spec_PowMod.f k a0 a1 a2=some r)(gp0:(Kd.int .i64).C w Ap0 np0 a0)(lp0:np0≤cp0)(gp1:(Kd.int .i64).C w Ap1 np1 a1)(lp1:np1≤cp1)(gp2:(Kd.int .i64).C w Ap2 np2 a2)(lp2:np2≤cp2):
    Calls Tryz.prog 157 #[.slice Ap0 np0 cp0,.slice Ap1 np1 cp1,.slice Ap2 np2 cp2] w (fun e w'=>∃v0_:Value,e=.returned (v0_)∧Hp noFP w w' [.own (Zd.slice 3 (Zd.int .i64)) r [v0_]]):=by
 obtain rfl:=C_len gp0
 obtain rfl:=C_len gp1
 obtain rfl:=C_len gp2
 have HS:=Hp.start w
 have H:=Aside0.mk h
 clear h
 unfold spec_PowMod.f at H
 go_enter Tryz.func157,Tryz.ntmps157
 replace H:=zbind H;obtain⟨t1,ht1,H⟩:=H
 replace H:=znifb H;rcases H with⟨c3,H⟩|⟨c3,H⟩
 ·
  subst c3
  obtain rfl:=zsome H
  go_wp2_with (first|((with_reducible refine gd 14 rfl ?_);refine ev_cl HS (spec_NatOk.calls ht1.out (HS.ro gp0) lp0) Tryz.func133 ?_;clear HS;intro wt1 HS F)|((with_reducible refine gd 31 rfl ?_);refine ev_li (Zd.int .i64) [] ([]:List Int) [] HS MadeL.nil ?_;clear HS;intro v75 w75 HS F;obtain⟨B75,d75,rfl,m75⟩:=HS.formn 0 0 rfl rfl))
  exact r1 ⟨_,rfl,HS.pi [0]⟩
 subst c3
 replace H:=zbind H;obtain⟨t4,ht4,H⟩:=H
 replace H:=znifb H;rcases H with⟨c6,H⟩|⟨c6,H⟩
 ·
  subst c6
  obtain rfl:=zsome H
  go_wp2_with (first|((with_reducible refine gd 14 rfl ?_);refine ev_cl HS (spec_NatOk.calls ht1.out (HS.ro gp0) lp0) Tryz.func133 ?_;clear HS;intro wt1 HS F)|((with_reducible refine gd 18 rfl ?_);refine gg ?_;refine ev_cl HS (spec_NatOk.calls ht4.out (HS.ro gp1) lp1) Tryz.func133 ?_;clear HS;intro wt4 HS F)|((with_reducible refine gd 31 rfl ?_);refine ev_li (Zd.int .i64) [] ([]:List Int) [] HS MadeL.nil ?_;clear HS;intro v73 w73 HS F;obtain⟨B73,d73,rfl,m73⟩:=HS.formn 0 0 rfl rfl))
  exact r1 ⟨_,rfl,HS.pi [0]⟩
 subst c6
 replace H:=zbind H;obtain⟨t7,ht7,H⟩:=H
 replace H:=znifb H;rcases H with⟨c9,H⟩|⟨c9,H⟩
 ·
  subst c9
  obtain rfl:=zsome H
  go_wp2_with (first|((with_reducible refine gd 14 rfl ?_);refine ev_cl HS (spec_NatOk.calls ht1.out (HS.ro gp0) lp0) Tryz.func133 ?_;clear HS;intro wt1 HS F)|((with_reducible refine gd 18 rfl ?_);refine gg ?_;refine ev_cl HS (spec_NatOk.calls ht4.out (HS.ro gp1) lp1) Tryz.func133 ?_;clear HS;intro wt4 HS F)|((with_reducible refine gd 23 rfl ?_);refine gg ?_;refine ev_cl HS (spec_NatOk.calls ht7.out (HS.ro gp2) lp2) Tryz.func133 ?_;clear HS;intro wt7 HS F)|((with_reducible refine gd 31 rfl ?_);refine ev_li (Zd.int .i64) [] ([]:List Int) [] HS MadeL.nil ?_;clear HS;intro v71 w71 HS F;obtain⟨B71,d71,rfl,m71⟩:=HS.formn 0 0 rfl rfl))
  exact r1 ⟨_,rfl,HS.pi [0]⟩
 subst c9
 go_upto_if 30 with(first|((with_reducible refine gd 14 rfl ?_);refine ev_cl HS (spec_NatOk.calls ht1.out (HS.ro gp0) lp0) Tryz.func133 ?_;clear HS;intro wt1 HS F)|((with_reducible refine gd 18 rfl ?_);refine gg ?_;refine ev_cl HS (spec_NatOk.calls ht4.out (HS.ro gp1) lp1) Tryz.func133 ?_;clear HS;intro wt4 HS F)|((with_reducible refine gd 23 rfl ?_);refine gg ?_;refine ev_cl HS (spec_NatOk.calls ht7.out (HS.ro gp2) lp2) Tryz.func133 ?_;clear HS;intro wt7 HS F))
 replace H:=zif' H;rcases H with⟨c10,H⟩|⟨c10,H⟩
 ·
  obtain⟨c10a,c10b⟩:=bq c10;clear c10
  (try simp only [c10a,c10b,dcn])
  obtain rfl:=zsome H
  go_wp2_with ((with_reducible refine gd 31 rfl ?_);refine ev_li (Zd.int .i64) [] ([]:List Int) [] HS MadeL.nil ?_;clear HS;intro v11 w11 HS F;obtain⟨B11,d11,rfl,m11⟩:=HS.formn 0 0 rfl rfl)
  exact r1 ⟨_,rfl,HS.pi [0]⟩
 obtain⟨c10a,c10b⟩:=nq c10;clear c10
 (try simp only [c10a,c10b,dcn])
 replace H:=zbind H;obtain⟨t15,ht15,H⟩:=H
 replace H:=zbind H;obtain⟨t19,ht19,H⟩:=H
 replace H:=zbind H;obtain⟨t23,ht23,H⟩:=H
 go_wp2_with (first|((with_reducible refine gd 33 rfl ?_);refine ev_li (Zd.int .i64) [] ([1]:List Int) ([.int .i64 1]++ []) HS (MadeL.cons (js1:=[]) (c:=[.int .i64 1]) rfl (made_flat (fun _=>rfl)) MadeL.nil (by decide)) ?_;clear HS;intro v13 w13 HS F;obtain⟨B13,d13,rfl,m13⟩:=HS.formn 1 0 rfl rfl)|((with_reducible refine gd 35 rfl ?_);refine ev_cl2 HS (spec_l04Div.calls ht15.out (HS.rd 0 rfl) m13 (HS.ro gp2) lp2) Tryz.func134 ?_;clear HS;intro v16 v17 wt15 HS F;obtain⟨B16,d16,rfl,m16⟩:=HS.form 1 rfl;obtain⟨B17,d17,rfl,m17⟩:=HS.form 2 rfl)|((with_reducible refine gd 41 rfl ?_);refine ev_cl2 HS (spec_l04Div.calls ht19.out (HS.ro gp0) lp0 (HS.ro gp2) lp2) Tryz.func134 ?_;clear HS;intro v20 v21 wt19 HS F;obtain⟨B20,d20,rfl,m20⟩:=HS.form 3 rfl;obtain⟨B21,d21,rfl,m21⟩:=HS.form 4 rfl)|((with_reducible refine gd 45 rfl ?_);refine ev_cl1 HS (spec_BitsOf.calls ht23.out (HS.ro gp1) lp1) Tryz.func161 ?_;clear HS;intro v24 wt23 HS F;obtain⟨B24,d24,rfl,m24⟩:=HS.form 5 rfl))
 go_loopg [8,10,12] k (fun kq v_8 v_10 v_12 w'=>∃(l51:List Int) (v52:Value) (l53:List Int) (v54:Value) (x55:Int),v_8=v52∧v_10=v54∧v_12=.int .i64 x55∧Aside0 (spec_PowMod.l0 kq l51 l53 x55 a2 t23=some r)∧Aside0 (kq≤k)∧Hp noFP w w' [.own (Zd.slice 3 (Zd.int .i64)) ([1]:List Int) [.slice B13 1 d13],.own (Zd.slice 3 (Zd.int .i64)) t15.1 [.slice B16 t15.1.length d16],.own (Zd.slice 3 (Zd.int .i64)) l51 [v52],.own (Zd.slice 3 (Zd.int .i64)) t19.1 [.slice B20 t19.1.length d20],.own (Zd.slice 3 (Zd.int .i64)) l53 [v54],.own (Zd.slice 3 (Zd.int .i64)) t23 [.slice B24 t23.length d24]])
 case atStart=>exact⟨_,_,_,_,_,rfl,rfl,rfl,H,⟨Nat.le_refl _⟩,HS⟩
 case round=>
  clear HS H;(try clear F)
  obtain⟨l51,v52,l53,v54,x55,rfl,rfl,rfl,H,HKk50,HS⟩:=hrel
  obtain⟨B52,d52,rfl,m52⟩:=HS.form 2 rfl
  obtain⟨B54,d54,rfl,m54⟩:=HS.form 4 rfl
  cases gk with
  |zero=>exact absurd H.out (by simp [spec_PowMod.l0])
  | succ k50=>
   simp only [spec_PowMod.l0] at H
   replace H:=znif H;rcases H with⟨c57,H⟩|⟨c57,H⟩
   ·
    obtain rfl:=zsome H
    go_wp2
    exact r1 ⟨_,rfl,HS.pi [2]⟩
   replace H:=zgo H;obtain⟨c58,H⟩:=H
   replace H:=zgo H;obtain⟨c59,H⟩:=H
   obtain⟨ad60,rfl,e60_0⟩:=Kd.at_int (HS.rd 5 rfl) x55 (of_eq_true c58) (of_eq_true c59)
   replace H:=znif' H;rcases H with⟨c61,H⟩|⟨c61,H⟩
   ·
    obtain⟨c61a,c61b⟩:=nq c61;clear c61
    replace H:=zbind H;obtain⟨t68,ht68,H⟩:=H
    go_wp2_with ((with_reducible refine gd 64 rfl ?_);refine ev_cl1 HS (spec_MulMod.calls ht68.out (HS.rd 4 rfl) m54 (HS.rd 4 rfl) m54 (HS.ro gp2) lp2) Tryz.func162 ?_;clear HS;intro v69 wt68 HS F;obtain⟨B69,d69,rfl,m69⟩:=HS.form 6 rfl)
    go_roundg k50
    case measure=>have:=HKk50.out;omega
    case rel=>exact⟨_,_,_,_,_,rfl,rfl,rfl,H,⟨by have:=HKk50.out;omega⟩,HS.pi [0,1,2,3,6,5]⟩
   obtain⟨c61a,c61b⟩:=bq c61;clear c61
   replace H:=zbind H;obtain⟨t62,ht62,H⟩:=H
   replace H:=zbind H;obtain⟨t65,ht65,H⟩:=H
   go_wp2_with (first|((with_reducible refine gd 60 rfl ?_);refine ev_cl1 HS (spec_MulMod.calls ht62.out (HS.rd 2 rfl) m52 (HS.rd 4 rfl) m54 (HS.ro gp2) lp2) Tryz.func162 ?_;clear HS;intro v63 wt62 HS F;obtain⟨B63,d63,rfl,m63⟩:=HS.form 6 rfl)|((with_reducible refine gd 64 rfl ?_);refine ev_cl1 HS (spec_MulMod.calls ht65.out (HS.rd 4 rfl) m54 (HS.rd 4 rfl) m54 (HS.ro gp2) lp2) Tryz.func162 ?_;clear HS;intro v66 wt65 HS F;obtain⟨B66,d66,rfl,m66⟩:=HS.form 7 rfl))
   go_roundg k50
   case measure=>have:=HKk50.out;omega
   case rel=>exact⟨_,_,_,_,_,rfl,rfl,rfl,H,⟨by have:=HKk50.out;omega⟩,HS.pi [0,1,6,3,7,5]⟩
def spec_ReadNat.l0:Nat→(List Int)→Int→ByteArray→Option ((List Int))
  |0,_,_,_=>none
  |k+1,l13,x15,a0=>(if x15<(a0.size:Int)then((spec_l04Mul.f k l13 ([256]:List Int)).bind fun t6=>(if 0≤x15 then(if x15<(a0.size:Int)then((spec_NatOf.f k (wrap64 (bt a0 x15))).bind fun t16=>((spec_NatAdd.f k t6 t16).bind fun t20=>(spec_ReadNat.l0 k t20 (wrap64 (x15+1)) a0)))else none)else none))else(some l13))
def spec_ReadNat.f (k:Nat)(a0:ByteArray):Option ((List Int)):=(if 60<(a0.size:Int)then(some ([]:List Int))else(spec_ReadNat.l0 k ([]:List Int) 0 a0))
def spec_ReadNat.T7:TT:=(true,[([],[]),([],[]),([0,1],[0,1]),([],[]),([],[]),([3,4],[3,4]),([5],[5]),([6,2],[6]),([2,7,7],[2,7]),([8,8,0,1,2,3,4,5,6,7,8],[0,8])])
theorem spec_ReadNat.tT7:rtab .any (opsOf Tryz.f158 7)=spec_ReadNat.T7:=by kernel_rfl
theorem spec_ReadNat.calls {k:Nat}{a0:ByteArray}{r:(List Int)}{w:World}(h:spec_ReadNat.f k a0=some r):
    Calls Tryz.prog 158 #[.string a0] w (fun e w'=>∃v0_:Value,e=.returned (v0_)∧Hp noFP w w' [.own (Zd.slice 3 (Zd.int .i64)) r [v0_]]):=by
 have HS:=Hp.start w
 have H:=Aside0.mk h
 clear h
 unfold spec_ReadNat.f at H
 go_enter Tryz.func158,Tryz.ntmps158
 go_upto_if 8 with((with_reducible refine gd 5 rfl ?_);refine ev_li (Zd.int .i64) [] ([]:List Int) [] HS MadeL.nil ?_;clear HS;intro v1 w1 HS F;obtain⟨B1,d1,rfl,m1⟩:=HS.formn 0 0 rfl rfl)
 replace H:=zif H;rcases H with⟨c3,H⟩|⟨c3,H⟩
 ·
  (try simp only [c3,dcn])
  obtain rfl:=zsome H
  go_wp2
  exact r1 ⟨_,rfl,HS.pi [0]⟩
 (try simp only [c3,dcn])
 go_wp2
 go_loopg [3,4] k (fun kq v_3 v_4 w'=>∃(l13:List Int) (v14:Value) (x15:Int),v_3=v14∧v_4=.int .i64 x15∧Aside0 (spec_ReadNat.l0 kq l13 x15 a0=some r)∧Aside0 (kq≤k)∧Hp noFP w w' [.own (Zd.slice 3 (Zd.int .i64)) l13 [v14]])
 case atStart=>exact⟨_,_,_,rfl,rfl,H,⟨Nat.le_refl _⟩,HS⟩
 case round=>
  clear HS H;(try clear F)
  obtain⟨l13,v14,x15,rfl,rfl,H,HKk12,HS⟩:=hrel
  obtain⟨B14,d14,rfl,m14⟩:=HS.form 0 rfl
  cases gk with
  |zero=>exact absurd H.out (by simp [spec_ReadNat.l0])
  | succ k12=>
   simp only [spec_ReadNat.l0] at H
   replace H:=znif H;rcases H with⟨c17,H⟩|⟨c17,H⟩
   ·
    obtain rfl:=zsome H
    go_wp2
    exact r1 ⟨_,rfl,HS.pi [0]⟩
   (try go_wp2)
   replace H:=zbind H;obtain⟨t6,ht6,H⟩:=H
   replace H:=zgo H;obtain⟨c9,H⟩:=H
   replace H:=zgo H;obtain⟨c10,H⟩:=H
   have hx11:=bt_at a0 x15
   replace H:=zbind H;obtain⟨t16,ht16,H⟩:=H
   replace H:=zbind H;obtain⟨t20,ht20,H⟩:=H
   refine dr_start [] HS #[false,false,false,false,false,false,false,false,false,false] (by kernel_rfl) rfl rfl spec_ReadNat.tT7 (fun w19 HT HS HH=>?_)
   (try clear F)
   refine dq [0,3,4,5,6] HT ?_
   refine dr1 1 HT fun K hK=>?_
   refine if_li (Zd.int .i64) [] ([256]:List Int) ([.int .i64 256]++ []) HS (MadeL.cons (js1:=[]) (c:=[.int .i64 256]) rfl (made_flat (fun _=>rfl)) MadeL.nil (by decide)) ?_;clear HS;intro v5 w5 HS F;obtain⟨B5,d5,rfl,m5⟩:=HS.formn 1 1 rfl rfl
   refine nrm 17 hK ⟨_,HS⟩ fun HH=>?_;clear hK K
   refine dr1 2 HT fun K hK=>?_
   refine go_cl1 HS (spec_l04Mul.calls ht6.out (HS.rd 0 rfl) m14 (HS.rd 1 rfl) m5) Tryz.func153 ?_;clear HS;intro v8 wt6 HS F;obtain⟨B8,d8,rfl,m8⟩:=HS.form 2 rfl
   refine nrm 18 hK ⟨_,HS⟩ fun HH=>?_;clear hK K
   refine dr1 7 HT fun K hK=>?_
   refine go_cl1 HS (spec_NatOf.calls ht16.out) Tryz.func154 ?_;clear HS;intro v18 wt16 HS F;obtain⟨B18,d18,rfl,m18⟩:=HS.form 3 rfl
   refine nrm 23 hK ⟨_,HS⟩ fun HH=>?_;clear hK K
   refine dr1 8 HT fun K hK=>?_
   refine go_cl1 HS (spec_NatAdd.calls ht20.out (HS.rd 2 rfl) m8 (HS.rd 3 rfl) m18) Tryz.func152 ?_;clear HS;intro v21 wt20 HS F;obtain⟨B21,d21,rfl,m21⟩:=HS.form 4 rfl
   refine nrm 24 hK ⟨_,HS⟩ fun HH=>?_;clear hK K
   refine dq [9] HT ?_
   refine dn HT ?_
   go_wp2
   go_roundg k12
   case measure=>have:=HKk12.out;omega
   case rel=>exact⟨_,_,_,rfl,rfl,H,⟨by have:=HKk12.out;omega⟩,HS.pi [4]⟩
def spec_l03First.f:Option ((Arr 8)):=(some (⟨[1779033703,3144134277,1013904242,2773480762,1359893119,2600822924,528734635,1541459225],rfl⟩:Arr 8))
theorem spec_l03First.calls {r:(Arr 8)}{w:World}(h:spec_l03First.f=some r):
    Calls Tryz.prog 164 #[] w (fun e w'=>e=.returned (.agg (r.cells .u32).toArray)∧Hp noFP w w' []):=by
 have HS:=Hp.start w
 have H:=Aside0.mk h
 clear h
 unfold spec_l03First.f at H
 go_enter Tryz.func164,Tryz.ntmps164
 obtain rfl:=zsome H
 go_wp2_with (first|((with_reducible refine gd 0 rfl ?_);refine ev_box (cs:=((Arr.zero 8).cells .u32)) rfl HS (by first|(go_simp;done)|(go_simp;rfl)) (by first|rfl|simp) ?_;clear HS;intro g0 w0 HS;(try simp only [hpn,hpm] at HS))|((with_reducible refine gate_store (p:=0) rfl ?_);refine ev_aput rfl 0 (⟨[1779033703,3144134277,1013904242,2773480762,1359893119,2600822924,528734635,1541459225],rfl⟩:Arr 8) HS rfl rfl rfl rfl rfl rfl (by kernel_rfl) ?_;clear HS;intro w3 HS;(try simp only [hpn,hpm] at HS)))
 exact bodyPost_ret (results_single rfl (.cell _ _ _ _ _ rfl (HS.boxAt (i:=0) rfl) Tryz.underlying187 rfl (by rw [Arr.cells_size];kernel_rfl) .nil)) rfl ⟨rfl,HS.pi []⟩
def spec_l03Keys.f:Option ((Arr 64)):=(some (⟨[1116352408,1899447441,3049323471,3921009573,961987163,1508970993,2453635748,2870763221,3624381080,310598401,607225278,1426881987,1925078388,2162078206,2614888103,3248222580,3835390401,4022224774,264347078,604807628,770255983,1249150122,1555081692,1996064986,2554220882,2821834349,2952996808,3210313671,3336571891,3584528711,113926993,338241895,666307205,773529912,1294757372,1396182291,1695183700,1986661051,2177026350,2456956037,2730485921,2820302411,3259730800,3345764771,3516065817,3600352804,4094571909,275423344,430227734,506948616,659060556,883997877,958139571,1322822218,1537002063,1747873779,1955562222,2024104815,2227730452,2361852424,2428436474,2756734187,3204031479,3329325298],rfl⟩:Arr 64))
theorem spec_l03Keys.calls {r:(Arr 64)}{w:World}(h:spec_l03Keys.f=some r):
    Calls Tryz.prog 165 #[] w (fun e w'=>e=.returned (.agg (r.cells .u32).toArray)∧Hp noFP w w' []):=by
 have HS:=Hp.start w
 have H:=Aside0.mk h
 clear h
 unfold spec_l03Keys.f at H
 go_enter Tryz.func165,Tryz.ntmps165
 obtain rfl:=zsome H
 go_wp2_with (first|((with_reducible refine gd 0 rfl ?_);refine ev_box (cs:=((Arr.zero 64).cells .u32)) rfl HS (by first|(go_simp;done)|(go_simp;rfl)) (by first|rfl|simp) ?_;clear HS;intro g0 w0 HS;(try simp only [hpn,hpm] at HS))|((with_reducible refine gate_store (p:=0) rfl ?_);refine ev_aput rfl 0 (⟨[1116352408,1899447441,3049323471,3921009573,961987163,1508970993,2453635748,2870763221,3624381080,310598401,607225278,1426881987,1925078388,2162078206,2614888103,3248222580,3835390401,4022224774,264347078,604807628,770255983,1249150122,1555081692,1996064986,2554220882,2821834349,2952996808,3210313671,3336571891,3584528711,113926993,338241895,666307205,773529912,1294757372,1396182291,1695183700,1986661051,2177026350,2456956037,2730485921,2820302411,3259730800,3345764771,3516065817,3600352804,4094571909,275423344,430227734,506948616,659060556,883997877,958139571,1322822218,1537002063,1747873779,1955562222,2024104815,2227730452,2361852424,2428436474,2756734187,3204031479,3329325298],rfl⟩:Arr 64) HS rfl rfl rfl rfl rfl rfl (by kernel_rfl) ?_;clear HS;intro w3 HS;(try simp only [hpn,hpm] at HS)))
 exact bodyPost_ret (results_single rfl (.cell _ _ _ _ _ rfl (HS.boxAt (i:=0) rfl) Tryz.underlying189 rfl (by rw [Arr.cells_size];kernel_rfl) .nil)) rfl ⟨rfl,HS.pi []⟩
mutual
def spec_PadText.l0:Nat→(List Int)→ByteArray→Option (ByteArray)
  |0,_,_=>none
  |k+1,l13,a0=>(if((l13.length:Int) % 64)=56 then(spec_PadText.l1 k l13 7 a0)else(if l13.length+1≤140737488355328 then(lets (l13++([0]:List Int)) fun y39=>(spec_PadText.l0 k y39 a0))else none))
def spec_PadText.l1:Nat→(List Int)→Int→ByteArray→Option (ByteArray)
  |0,_,_,_=>none
  |k+1,l25,x27,a0=>(if 0≤x27 then(if 0≤(IntKind.u64.wrap (8 * (x27 % 18446744073709551616)))then(if l25.length+1≤140737488355328 then(lets (l25++([((shr .i64 (wrap64 (8 * (a0.size:Int))) (IntKind.u64.wrap (8 * (x27 % 18446744073709551616)))) % 256)]:List Int)) fun y34=>(spec_PadText.l1 k y34 (wrap64 (x27 - 1)) a0))else none)else none)else(some (strOfNums l25)))
end
def spec_PadText.f (k:Nat)(a0:ByteArray):Option (ByteArray):=(if a0.size≤9223372036854775807 then(if a0.size+1≤140737488355328 then(lets ((bytesOf a0)++([128]:List Int)) fun y7=>(spec_PadText.l0 k y7 a0))else none)else none)
theorem spec_PadText.calls {k:Nat}{a0:ByteArray}{r:ByteArray}{w:World}(h:spec_PadText.f k a0=some r):
    Calls Tryz.prog 166 #[.string a0] w (fun e w'=>e=.returned (.string r)∧Hp noFP w w' []):=by
 have HS:=Hp.start w
 have H:=Aside0.mk h
 clear h
 unfold spec_PadText.f at H
 go_enter Tryz.func166,Tryz.ntmps166
 replace H:=zgo H;obtain⟨c2,H⟩:=H
 replace H:=zgo H;obtain⟨c6,H⟩:=H
 replace H:=zlets H;obtain⟨y7,e_y7,H⟩:=H
 go_wp2_with (first|((with_reducible refine gd 7 rfl ?_);refine ev_bytesm rfl HS rfl rfl Tryz.underlying9 Tryz.underlying22 Tryz.underlying5 (of_eq_true c2) ?_;clear HS;intro v1 w1 HS;obtain⟨B1,d1,rfl,m1⟩:=HS.mformb 0 rfl;(try simp only [hpn,hpm] at HS))|((with_reducible refine gd 9 rfl ?_);refine ev_li (Zd.int .u8) [] ([128]:List Int) ([.int .u8 128]++ []) HS (MadeL.cons (js1:=[]) (c:=[.int .u8 128]) rfl (made_flat (fun _=>rfl)) MadeL.nil (by decide)) ?_;clear HS;intro v4 w4 HS F;obtain⟨B4,d4,rfl,m4⟩:=HS.formn 1 1 rfl rfl)|((with_reducible refine gd 10 rfl ?_);refine ev_appendm rfl 0 HS rfl (HS.rd 1 rfl) (by decide) rfl rfl rfl Tryz.underlying22 info5 (by have:=of_eq_true c6;first|omega|(simp only [bytesOf_length,List.length_cons,List.length_nil,List.length_append,Nat.zero_add] at this⊢;omega)) ?_;clear HS;intro v7 w7 HS;rw [←e_y7.out] at HS;obtain⟨B7,d7,rfl,m7⟩:=HS.mform 2 rfl;(try simp only [hpn,hpm] at HS)))
 go_loopg [3] k (fun kq v_3 w'=>∃(l13:List Int) (v14:Value),v_3=v14∧Aside0 (spec_PadText.l0 kq l13 a0=some r)∧Aside0 (kq≤k)∧Hp noFP w w' [.emp,.own (Zd.slice 5 (Zd.int .u8)) ([128]:List Int) [.slice B4 1 d4],.own (Zd.mrow 5) l13 [v14]])
 case atStart=>exact⟨_,_,rfl,H,⟨Nat.le_refl _⟩,HS⟩
 case round=>
  clear HS H;(try clear F)
  obtain⟨l13,v14,rfl,H,HKk12,HS⟩:=hrel
  obtain⟨B14,d14,rfl,m14⟩:=HS.mform 2 rfl
  cases gk with
  |zero=>exact absurd H.out (by simp [spec_PadText.l0])
  | succ k12=>
   simp only [spec_PadText.l0] at H
   replace H:=znif' H;rcases H with⟨c16,H⟩|⟨c16,H⟩
   ·
    obtain⟨c16a,c16b⟩:=nq c16;clear c16
    replace H:=zgo H;obtain⟨c38,H⟩:=H
    replace H:=zlets H;obtain⟨y39,e_y39,H⟩:=H
    go_wp2_with (first|((with_reducible refine gd 16 rfl ?_);refine ev_li (Zd.int .u8) [] ([0]:List Int) ([.int .u8 0]++ []) HS (MadeL.cons (js1:=[]) (c:=[.int .u8 0]) rfl (made_flat (fun _=>rfl)) MadeL.nil (by decide)) ?_;clear HS;intro v36 w36 HS F;obtain⟨B36,d36,rfl,m36⟩:=HS.formn 1 3 rfl rfl)|((with_reducible refine gd 17 rfl ?_);refine ev_appendm rfl 2 HS rfl (HS.rd 3 rfl) (by decide) rfl rfl rfl Tryz.underlying22 info5 (by have:=of_eq_true c38;first|omega|(simp only [bytesOf_length,List.length_cons,List.length_nil,List.length_append,Nat.zero_add] at this⊢;omega)) ?_;clear HS;intro v39 w39 HS;rw [←e_y39.out] at HS;obtain⟨B39,d39,rfl,m39⟩:=HS.mform 4 rfl;(try simp only [hpn,hpm] at HS)))
    go_roundg k12
    case measure=>have:=HKk12.out;omega
    case rel=>exact⟨_,_,rfl,H,⟨by have:=HKk12.out;omega⟩,HS.pi [0,1,4]⟩
   obtain⟨c16a,c16b⟩:=bq c16;clear c16
   go_wp2
   (try obtain⟨wok24,rfl⟩:∃wo_:World,wo_=wr:=⟨_,rfl⟩)
   go_loopg [3,5] k12 (fun kq v_3 v_5 w'=>∃(l25:List Int) (v26:Value) (x27:Int),v_3=v26∧v_5=.int .i64 x27∧Aside0 (spec_PadText.l1 kq l25 x27 a0=some r)∧Aside0 (kq≤k12)∧Hp noFP w w' [.emp,.own (Zd.slice 5 (Zd.int .u8)) ([128]:List Int) [.slice B4 1 d4],.own (Zd.mrow 5) l25 [v26]])
   case atStart=>exact⟨_,_,_,rfl,rfl,H,⟨Nat.le_refl _⟩,HS⟩
   case round=>
    clear HS H;(try clear F)
    obtain⟨l25,v26,x27,rfl,rfl,H,HKk24,HS⟩:=hrel
    obtain⟨B26,d26,rfl,m26⟩:=HS.mform 2 rfl
    cases gk with
    |zero=>exact absurd H.out (by simp [spec_PadText.l1])
    | succ k24=>
     simp only [spec_PadText.l1] at H
     replace H:=znif H;rcases H with⟨c29,H⟩|⟨c29,H⟩
     ·
      obtain rfl:=zsome H
      go_wp2_with ((with_reducible refine gd 35 rfl ?_);refine ev_val rfl (run_str rfl rfl Tryz.underlying22 Tryz.underlying5 Tryz.underlying9 (HS.mrd 2 rfl)) ?_)
      go_ret
      exact HS.pk
     replace H:=zgo H;obtain⟨c30,H⟩:=H
     replace H:=zgo H;obtain⟨c33,H⟩:=H
     replace H:=zlets H;obtain⟨y34,e_y34,H⟩:=H
     go_wp2_with (first|((with_reducible refine gd 30 rfl ?_);refine ev_val rfl (run_shr rfl rfl rfl (of_eq_true c30)) ?_)|((with_reducible refine gd 32 rfl ?_);refine ev_li (Zd.int .u8) [] ([((shr .i64 (wrap64 (8 * (a0.size:Int))) (IntKind.u64.wrap (8 * (x27 % 18446744073709551616)))) % 256)]:List Int) ([.int .u8 ((shr .i64 (wrap64 (8 * (a0.size:Int))) (IntKind.u64.wrap (8 * (x27 % 18446744073709551616)))) % 256)]++ []) HS (MadeL.cons (js1:=[]) (c:=[.int .u8 ((shr .i64 (wrap64 (8 * (a0.size:Int))) (IntKind.u64.wrap (8 * (x27 % 18446744073709551616)))) % 256)]) rfl (made_flat (fun _=>rfl)) MadeL.nil (by decide)) ?_;clear HS;intro v31 w31 HS F;obtain⟨B31,d31,rfl,m31⟩:=HS.formn 1 3 rfl rfl)|((with_reducible refine gd 33 rfl ?_);refine ev_appendm rfl 2 HS rfl (HS.rd 3 rfl) (by decide) rfl rfl rfl Tryz.underlying22 info5 (by have:=of_eq_true c33;first|omega|(simp only [bytesOf_length,List.length_cons,List.length_nil,List.length_append,Nat.zero_add] at this⊢;omega)) ?_;clear HS;intro v34 w34 HS;rw [←e_y34.out] at HS;obtain⟨B34,d34,rfl,m34⟩:=HS.mform 4 rfl;(try simp only [hpn,hpm] at HS)))
     go_roundg k24
     case measure=>have:=HKk12.out;have:=HKk24.out;omega
     case rel=>exact⟨_,_,_,rfl,rfl,H,⟨by have:=HKk12.out;have:=HKk24.out;omega⟩,HS.pi [0,1,4]⟩
def spec_l03Turn.f (a0:Int)(a1:Int):Option (Int):=(if 0≤a1 then(if 0≤(IntKind.u64.wrap (32 - a1))then(some (Go.bits .or .u32 (shr .u32 a0 a1) (shl .u32 a0 (IntKind.u64.wrap (32 - a1)))))else none)else none)
theorem spec_l03Turn.calls {a0:Int}{a1:Int}{r:Int}{w:World}(h:spec_l03Turn.f a0 a1=some r):
    Calls Tryz.prog 168 #[.int .u32 a0,.int .u64 a1] w (fun e w'=>e=.returned (.int .u32 r)∧Hp noFP w w' []):=by
 have HS:=Hp.start w
 have H:=Aside0.mk h
 clear h
 unfold spec_l03Turn.f at H
 go_enter Tryz.func168,Tryz.ntmps168
 replace H:=zgo H;obtain⟨c1,H⟩:=H
 replace H:=zgo H;obtain⟨c2,H⟩:=H
 obtain rfl:=zsome H
 go_wp2_with (first|((with_reducible refine gd 7 rfl ?_);refine ev_val rfl (run_shr rfl rfl rfl (of_eq_true c1)) ?_)|((with_reducible refine gd 11 rfl ?_);refine ev_val rfl (run_shl rfl rfl rfl (of_eq_true c2)) ?_))
 go_ret
 exact HS.pk
mutual
def spec_l03Block.l0:Nat→Int→(Arr 64)→(Arr 8)→ByteArray→(Arr 64)→Option ((Arr 8))
  |0,_,_,_,_,_=>none
  |k+1,x21,x22,a0,a1,a2=>(if x21<16 then(if 0≤(wrap64 (4 * x21))then(if(wrap64 (4 * x21))<(a1.size:Int)then(if 0≤(wrap64 ((wrap64 (4 * x21))+1))then(if(wrap64 ((wrap64 (4 * x21))+1))<(a1.size:Int)then(if 0≤(wrap64 ((wrap64 (4 * x21))+2))then(if(wrap64 ((wrap64 (4 * x21))+2))<(a1.size:Int)then(if 0≤(wrap64 ((wrap64 (4 * x21))+3))then(if(wrap64 ((wrap64 (4 * x21))+3))<(a1.size:Int)then(if 0≤x21 then(if x21<64 then(lets (x22.set x21 (Go.bits .or .u32 (Go.bits .or .u32 (Go.bits .or .u32 (IntKind.u32.wrap (((bt a1 (wrap64 (4 * x21))) % 4294967296) * 16777216)) (IntKind.u32.wrap (((bt a1 (wrap64 ((wrap64 (4 * x21))+1))) % 4294967296) * 65536))) (IntKind.u32.wrap (((bt a1 (wrap64 ((wrap64 (4 * x21))+2))) % 4294967296) * 256))) ((bt a1 (wrap64 ((wrap64 (4 * x21))+3))) % 4294967296))) fun y37=>(spec_l03Block.l0 k (wrap64 (x21+1)) y37 a0 a1 a2))else none)else none)else none)else none)else none)else none)else none)else none)else none)else none)else(spec_l03Block.l1 k 16 x22 a0 a2))
def spec_l03Block.l1:Nat→Int→(Arr 64)→(Arr 8)→(Arr 64)→Option ((Arr 8))
  |0,_,_,_,_=>none
  |k+1,x44,x45,a0,a2=>(if x44<64 then(if 0≤(wrap64 (x44 - 15))then(if(wrap64 (x44 - 15))<64 then((spec_l03Turn.f (x45.get (wrap64 (x44 - 15))) 7).bind fun t41=>((spec_l03Turn.f (x45.get (wrap64 (x44 - 15))) 18).bind fun t42=>(if 0≤(wrap64 (x44 - 2))then(if(wrap64 (x44 - 2))<64 then((spec_l03Turn.f (x45.get (wrap64 (x44 - 2))) 17).bind fun t50=>((spec_l03Turn.f (x45.get (wrap64 (x44 - 2))) 19).bind fun t51=>(if 0≤(wrap64 (x44 - 16))then(if(wrap64 (x44 - 16))<64 then(if 0≤(wrap64 (x44 - 7))then(if(wrap64 (x44 - 7))<64 then(if 0≤x44 then(if x44<64 then(lets (x45.set x44 (IntKind.u32.wrap ((IntKind.u32.wrap ((IntKind.u32.wrap ((x45.get (wrap64 (x44 - 16)))+(Go.bits .xor .u32 (Go.bits .xor .u32 t41 t42) ((x45.get (wrap64 (x44 - 15))) / 8))))+(x45.get (wrap64 (x44 - 7)))))+(Go.bits .xor .u32 (Go.bits .xor .u32 t50 t51) ((x45.get (wrap64 (x44 - 2))) / 1024))))) fun y61=>(spec_l03Block.l1 k (wrap64 (x44+1)) y61 a0 a2))else none)else none)else none)else none)else none)else none)))else none)else none)))else none)else none)else(spec_l03Block.l2 k 0 a0 a0 a2 x45))
def spec_l03Block.l2:Nat→Int→(Arr 8)→(Arr 8)→(Arr 64)→(Arr 64)→Option ((Arr 8))
  |0,_,_,_,_,_=>none
  |k+1,x101,x102,a0,a2,x45=>(if x101<64 then((spec_l03Turn.f (x102.get 4) 6).bind fun t1202001=>((spec_l03Turn.f (x102.get 4) 11).bind fun t1205001=>((spec_l03Turn.f (x102.get 4) 25).bind fun t1209001=>(if 0≤x101 then(if x101<64 then((spec_l03Turn.f (x102.get 0) 2).bind fun t1402001=>((spec_l03Turn.f (x102.get 0) 13).bind fun t1405001=>((spec_l03Turn.f (x102.get 0) 22).bind fun t1409001=>(lets (x102.set 7 (x102.get 6)) fun y114=>(lets (y114.set 6 (y114.get 5)) fun y117=>(lets (y117.set 5 (y117.get 4)) fun y120=>(lets (y120.set 4 (IntKind.u32.wrap ((y120.get 3)+(IntKind.u32.wrap ((IntKind.u32.wrap ((IntKind.u32.wrap ((IntKind.u32.wrap ((x102.get 7)+(Go.bits .xor .u32 (Go.bits .xor .u32 t1202001 t1205001) t1209001)))+(Go.bits .xor .u32 (Go.bits .and .u32 (x102.get 4) (x102.get 5)) (Go.bits .and .u32 (Go.bits .xor .u32 (x102.get 4) 4294967295) (x102.get 6)))))+(a2.get x101)))+(x45.get x101)))))) fun y123=>(lets (y123.set 3 (y123.get 2)) fun y126=>(lets (y126.set 2 (y126.get 1)) fun y129=>(lets (y129.set 1 (y129.get 0)) fun y132=>(lets (y132.set 0 (IntKind.u32.wrap ((IntKind.u32.wrap ((IntKind.u32.wrap ((IntKind.u32.wrap ((IntKind.u32.wrap ((x102.get 7)+(Go.bits .xor .u32 (Go.bits .xor .u32 t1202001 t1205001) t1209001)))+(Go.bits .xor .u32 (Go.bits .and .u32 (x102.get 4) (x102.get 5)) (Go.bits .and .u32 (Go.bits .xor .u32 (x102.get 4) 4294967295) (x102.get 6)))))+(a2.get x101)))+(x45.get x101)))+(IntKind.u32.wrap ((Go.bits .xor .u32 (Go.bits .xor .u32 t1402001 t1405001) t1409001)+(Go.bits .xor .u32 (Go.bits .xor .u32 (Go.bits .and .u32 (x102.get 0) (x102.get 1)) (Go.bits .and .u32 (x102.get 0) (x102.get 2))) (Go.bits .and .u32 (x102.get 1) (x102.get 2)))))))) fun y135=>(spec_l03Block.l2 k (wrap64 (x101+1)) y135 a0 a2 x45))))))))))))else none)else none))))else(spec_l03Block.l3 k 0 a0 x102))
def spec_l03Block.l3:Nat→Int→(Arr 8)→(Arr 8)→Option ((Arr 8))
  |0,_,_,_=>none
  |k+1,x148,x149,x102=>(if x148<8 then(if 0≤x148 then(if x148<8 then(lets (x149.set x148 (IntKind.u32.wrap ((x149.get x148)+(x102.get x148)))) fun y1609001=>(spec_l03Block.l3 k (wrap64 (x148+1)) y1609001 x102))else none)else none)else(some x149))
end
def spec_l03Block.f (k:Nat)(a0:(Arr 8))(a1:ByteArray)(a2:(Arr 64)):Option ((Arr 8)):=(spec_l03Block.l0 k 0 (Arr.zero 64) a0 a1 a2)
def spec_l03Block.T5:TT:=(true,[([],[]),([],[]),([],[]),([2],[2]),([1,3],[1,3]),([4],[4]),([5],[5]),([],[]),([],[]),([8],[8]),([9],[9]),([7,10],[7,10]),([11],[11]),([12],[12]),([6,13],[6,13]),([],[]),([],[]),([16],[16]),([17],[17]),([15,18],[15,18]),([19],[19]),([20],[20]),([14,21],[14,21]),([],[]),([],[]),([24],[24]),([25],[25]),([23,26],[23,26]),([27],[27]),([22,28],[22,28]),([0,0,1,2,3,4,5,6,7,8,9,10,11,12,13,14,15,16,17,18,19,20,21,22,23,24,25,26,27,28,29],[0]),([30,29,0,1,2,3,4,5,6,7,8,9,10,11,12,13,14,15,16,17,18,19,20,21,22,23,24,25,26,27,28,29],[29,30])])
theorem spec_l03Block.tT5:rtab .any (opsOf Tryz.f167 5)=spec_l03Block.T5:=by kernel_rfl
def spec_l03Block.T9:TT:=(true,[([],[]),([0],[0]),([1],[1]),([2],[2]),([3],[3]),([],[]),([5],[5]),([6],[6]),([7],[7]),([8,4],[8]),([4,9],[4,9]),([],[]),([11],[11]),([12],[12]),([13],[13]),([14],[14]),([10,15],[10,15]),([16,9,0,1,2,3,4,5,6,7,8,9,10,11,12,13,14,15,16],[16])])
theorem spec_l03Block.tT9:rtab .any (opsOf Tryz.f167 9)=spec_l03Block.T9:=by kernel_rfl
def spec_l03Block.T10:TT:=(true,[([],[]),([0],[0]),([1],[1]),([2],[2]),([3],[3]),([],[]),([5],[5]),([6],[6]),([7],[7]),([8,4],[8]),([4,9],[4,9]),([],[]),([11],[11]),([12],[12]),([13],[13]),([14],[14]),([10,15],[10,15]),([16,9,0,1,2,3,4,5,6,7,8,9,10,11,12,13,14,15,16],[16])])
theorem spec_l03Block.tT10:rtab .any (opsOf Tryz.f167 10)=spec_l03Block.T10:=by kernel_rfl
def spec_l03Block.T11:TT:=(true,[([],[]),([],[]),([1],[1]),([2],[2]),([3],[3]),([],[]),([4,5],[4,5]),([],[]),([7],[7]),([8],[8]),([9],[9]),([6,10],[6,10]),([],[]),([11,12],[11,12]),([0,0,1,2,3,4,5,6,7,8,9,10,11,12,13],[0]),([14,13,0,1,2,3,4,5,6,7,8,9,10,11,12,13],[13,14])])
theorem spec_l03Block.tT11:rtab .any (opsOf Tryz.f167 11)=spec_l03Block.T11:=by kernel_rfl
def spec_l03Block.T16:TT:=(true,[([],[]),([0],[0]),([1],[1]),([],[]),([3],[3]),([4,2],[4]),([2,5],[2,5]),([],[]),([7],[7]),([8,5],[8]),([6,9],[6,9]),([10,9,0,1,2,3,4,5,6,7,8,9,10],[10])])
theorem spec_l03Block.tT16:rtab .any (opsOf Tryz.f167 16)=spec_l03Block.T16:=by kernel_rfl
def spec_l03Block.T18:TT:=(true,[([],[]),([0],[0]),([],[]),([1,2],[1,2]),([],[]),([3,4],[3,4]),([],[]),([6],[6]),([7],[7]),([5,8],[5,8]),([],[]),([10],[10]),([11],[11]),([9,12],[9,12]),([13,0,1,2,3,4,5,6,7,8,9,10,11,12,13],[13])])
theorem spec_l03Block.tT18:rtab .any (opsOf Tryz.f167 18)=spec_l03Block.T18:=by kernel_rfl
def spec_l03Block.T19:TT:=(true,[([],[]),([0],[0]),([1],[1]),([],[]),([3],[3]),([4,2],[4]),([2,5],[2,5]),([],[]),([7],[7]),([8,5],[8]),([6,9],[6,9]),([10,9,0,1,2,3,4,5,6,7,8,9,10],[10])])
theorem spec_l03Block.tT19:rtab .any (opsOf Tryz.f167 19)=spec_l03Block.T19:=by kernel_rfl
def spec_l03Block.T33:TT:=(true,[([],[]),([],[]),([1],[1]),([2],[2]),([],[]),([4],[4]),([5],[5]),([3,6],[3,6]),([0,0,1,2,3,4,5,6,7],[0]),([8,7,0,1,2,3,4,5,6,7],[7,8])])
theorem spec_l03Block.tT33:rtab .any (opsOf Tryz.f167 33)=spec_l03Block.T33:=by kernel_rfl
theorem spec_l03Block.calls {k:Nat}{a0:(Arr 8)}{a1:ByteArray}{a2:(Arr 64)}{r:(Arr 8)}{w:World}(h:spec_l03Block.f k a0 a1 a2=some r):
    Calls Tryz.prog 167 #[.agg (a0.cells .u32).toArray,.string a1,.agg (a2.cells .u32).toArray] w (fun e w'=>e=.returned (.agg (r.cells .u32).toArray)∧Hp noFP w w' []):=by
 have HS:=Hp.start w
 have H:=Aside0.mk h
 clear h
 unfold spec_l03Block.f at H
 go_enter Tryz.func167,Tryz.ntmps167
 go_wp2_with (first|((with_reducible refine gd 3 rfl ?_);refine ev_box (cs:=(a0.cells .u32)) rfl HS (by first|(go_simp;done)|(go_simp;rfl)) (by first|rfl|simp) ?_;clear HS;intro g3 w3 HS;(try simp only [hpn,hpm] at HS))|((with_reducible refine gd 5 rfl ?_);refine ev_box (cs:=(a2.cells .u32)) rfl HS (by first|(go_simp;done)|(go_simp;rfl)) (by first|rfl|simp) ?_;clear HS;intro g5 w5 HS;(try simp only [hpn,hpm] at HS))|((with_reducible refine gd 6 rfl ?_);refine ev_box (cs:=((Arr.zero 8).cells .u32)) rfl HS (by first|(go_simp;done)|(go_simp;rfl)) (by first|rfl|simp) ?_;clear HS;intro g6 w6 HS;(try simp only [hpn,hpm] at HS))|((with_reducible refine gd 7 rfl ?_);refine ev_box (cs:=((Arr.zero 64).cells .u32)) rfl HS (by first|(go_simp;done)|(go_simp;rfl)) (by first|rfl|simp) ?_;clear HS;intro g7 w7 HS;(try simp only [hpn,hpm] at HS))|((with_reducible refine gate_store (p:=7) rfl ?_);refine ev_aput rfl 3 (Arr.zero 64) HS rfl rfl rfl rfl rfl rfl (by kernel_rfl) ?_;clear HS;intro w9 HS;(try simp only [hpn,hpm] at HS)))
 go_loopg [8] k (fun kq v_8 w'=>∃(x21:Int) (x22:(Arr 64)),v_8=.int .i64 x21∧Aside0 (spec_l03Block.l0 kq x21 x22 a0 a1 a2=some r)∧Aside0 (kq≤k)∧Hp noFP w w' [.box g3 (a0.cells .u32) 187,.box g5 (a2.cells .u32) 189,.box g6 ((Arr.zero 8).cells .u32) 187,.box g7 (x22.cells .u32) 189])
 case atStart=>exact⟨_,_,rfl,H,⟨Nat.le_refl _⟩,HS⟩
 case round=>
  clear HS H;(try clear F)
  obtain⟨x21,x22,rfl,H,HKk20,HS⟩:=hrel
  cases gk with
  |zero=>exact absurd H.out (by simp [spec_l03Block.l0])
  | succ k20=>
   simp only [spec_l03Block.l0] at H
   replace H:=zif H;rcases H with⟨c24,H⟩|⟨c24,H⟩
   ·
    (try go_wp2)
    replace H:=zgo H;obtain⟨c4,H⟩:=H
    replace H:=zgo H;obtain⟨c14,H⟩:=H
    have hx15:=bt_at a1 (wrap64 (4 * x21))
    replace H:=zgo H;obtain⟨c17,H⟩:=H
    replace H:=zgo H;obtain⟨c23,H⟩:=H
    have hx25:=bt_at a1 (wrap64 ((wrap64 (4 * x21))+1))
    replace H:=zgo H;obtain⟨c27,H⟩:=H
    replace H:=zgo H;obtain⟨c28,H⟩:=H
    have hx29:=bt_at a1 (wrap64 ((wrap64 (4 * x21))+2))
    replace H:=zgo H;obtain⟨c30,H⟩:=H
    replace H:=zgo H;obtain⟨c31,H⟩:=H
    have hx34:=bt_at a1 (wrap64 ((wrap64 (4 * x21))+3))
    replace H:=zgo H;obtain⟨c35,H⟩:=H
    replace H:=zgo H;obtain⟨c36,H⟩:=H
    replace H:=zlets H;obtain⟨y37,e_y37,H⟩:=H
    refine dr_start [31] HS #[false,false,false,false,false,false,false,false,false,false,false,false,false,false,false,false,false,false,false,false,false,false,false,false,false,false,false,false,false,false,false,false] (by kernel_rfl) rfl rfl spec_l03Block.tT5 (fun w26 HT HS HH=>?_)
    (try clear F)
    refine dq [0,1,2,3,4,5,6,7,8,9,10,11,12,13,14,15,16,17,18,19,20,21,22,23,24,25,26,27,28,29] HT ?_
    refine dr_pure 30 (some 56) HT (v:=.pointer (some ⟨g7,(x21).toNat,none⟩)) (a':=?_) rfl rfl (by kernel_rfl) (fun _ _ _ h=>h) (.inl ⟨by rfl,fun w'=>(run_aaddr (q:=x21) (j:=(x21).toNat) rfl rfl rfl rfl Tryz.underlying189 (by kernel_rfl) (of_eq_true c35) (of_eq_true c36))⟩) ?_ ?_
    rotate_left
    · simp only [Act.put,ptn];rfl
    refine dl 31 HT fun K hK=>?_
    refine if_wp (by rfl) ?_;refine wp_aset (j:=(x21).toNat) 3 x21 (Go.bits .or .u32 (Go.bits .or .u32 (Go.bits .or .u32 (IntKind.u32.wrap (((bt a1 (wrap64 (4 * x21))) % 4294967296) * 16777216)) (IntKind.u32.wrap (((bt a1 (wrap64 ((wrap64 (4 * x21))+1))) % 4294967296) * 65536))) (IntKind.u32.wrap (((bt a1 (wrap64 ((wrap64 (4 * x21))+2))) % 4294967296) * 256))) ((bt a1 (wrap64 ((wrap64 (4 * x21))+3))) % 4294967296)) HS rfl rfl rfl rfl rfl rfl (by kernel_rfl) (of_eq_true c35) (of_eq_true c36) ?_;clear HS;intro w38 HS;rw [←e_y37.out] at HS
    (try simp only [hpn,hpm] at HS)
    refine hK.out _ _ ?_
    clear hK K
    refine dn HT ?_
    go_wp2
    go_roundg k20
    case measure=>have:=HKk20.out;omega
    case rel=>exact⟨_,_,rfl,H,⟨by have:=HKk20.out;omega⟩,HS.pi [0,1,2,3]⟩
   go_wp2
   (try obtain⟨wok43,rfl⟩:∃wo_:World,wo_=wr:=⟨_,rfl⟩)
   go_loopg [9] k20 (fun kq v_9 w'=>∃(x44:Int) (x45:(Arr 64)),v_9=.int .i64 x44∧Aside0 (spec_l03Block.l1 kq x44 x45 a0 a2=some r)∧Aside0 (kq≤k20)∧Hp noFP w w' [.box g3 (a0.cells .u32) 187,.box g5 (a2.cells .u32) 189,.box g6 ((Arr.zero 8).cells .u32) 187,.box g7 (x45.cells .u32) 189])
   case atStart=>exact⟨_,_,rfl,H,⟨Nat.le_refl _⟩,HS⟩
   case round=>
    clear HS H;(try clear F)
    obtain⟨x44,x45,rfl,H,HKk43,HS⟩:=hrel
    cases gk with
    |zero=>exact absurd H.out (by simp [spec_l03Block.l1])
    | succ k43=>
     simp only [spec_l03Block.l1] at H
     replace H:=zif H;rcases H with⟨c47,H⟩|⟨c47,H⟩
     ·
      (try go_wp2)
      replace H:=zgo H;obtain⟨c39,H⟩:=H
      replace H:=zgo H;obtain⟨c40,H⟩:=H
      replace H:=zbind H;obtain⟨t41,ht41,H⟩:=H
      replace H:=zbind H;obtain⟨t42,ht42,H⟩:=H
      refine dr_start [] HS #[false,false,false,false,false,false,false,false,false,false,false,false,false,false,false,false,false,false] (by kernel_rfl) rfl rfl spec_l03Block.tT9 (fun w49 HT HS HH=>?_)
      (try clear F)
      refine dq [0,1] HT ?_
      refine dr_pure 2 (some 63) HT (v:=.pointer (some ⟨g7,((wrap64 (x44 - 15))).toNat,none⟩)) (a':=?_) rfl rfl (by kernel_rfl) (fun _ _ _ h=>h) (.inl ⟨by rfl,fun w'=>(run_aaddr (q:=(wrap64 (x44 - 15))) (j:=((wrap64 (x44 - 15))).toNat) rfl rfl rfl rfl Tryz.underlying189 (by kernel_rfl) (of_eq_true c39) (of_eq_true c40))⟩) ?_ ?_
      rotate_left
      · simp only [Act.put,ptn];rfl
      refine dr_take 3 (some 64) HT HH (v:=.int .u32 (x45.get (wrap64 (x44 - 15)))) (a':=?_) rfl rfl (by kernel_rfl) (fun _ _ _ h=>h) (.inl ⟨by rfl,?_⟩) ?_ ?_
      · rintro w' ⟨rs',HS'⟩;exact(run_aload rfl rfl Tryz.underlying186 (HS'.acell (q:=(wrap64 (x44 - 15))) (j:=((wrap64 (x44 - 15))).toNat) 3 rfl rfl (of_eq_true c39) (of_eq_true c40)))
      rotate_left
      · simp only [Act.put,ptn];rfl
      refine dq [5,6] HT ?_
      refine dr_pure 7 (some 68) HT (v:=.pointer (some ⟨g7,((wrap64 (x44 - 15))).toNat,none⟩)) (a':=?_) rfl rfl (by kernel_rfl) (fun _ _ _ h=>h) (.inl ⟨by rfl,fun w'=>(run_aaddr (q:=(wrap64 (x44 - 15))) (j:=((wrap64 (x44 - 15))).toNat) rfl rfl rfl rfl Tryz.underlying189 (by kernel_rfl) (of_eq_true c39) (of_eq_true c40))⟩) ?_ ?_
      rotate_left
      · simp only [Act.put,ptn];rfl
      refine dr_take 8 (some 69) HT HH (v:=.int .u32 (x45.get (wrap64 (x44 - 15)))) (a':=?_) rfl rfl (by kernel_rfl) (fun _ _ _ h=>h) (.inl ⟨by rfl,?_⟩) ?_ ?_
      · rintro w' ⟨rs',HS'⟩;exact(run_aload rfl rfl Tryz.underlying186 (HS'.acell (q:=(wrap64 (x44 - 15))) (j:=((wrap64 (x44 - 15))).toNat) 3 rfl rfl (of_eq_true c39) (of_eq_true c40)))
      rotate_left
      · simp only [Act.put,ptn];rfl
      refine dq [11,12] HT ?_
      refine dr_pure 13 (some 74) HT (v:=.pointer (some ⟨g7,((wrap64 (x44 - 15))).toNat,none⟩)) (a':=?_) rfl rfl (by kernel_rfl) (fun _ _ _ h=>h) (.inl ⟨by rfl,fun w'=>(run_aaddr (q:=(wrap64 (x44 - 15))) (j:=((wrap64 (x44 - 15))).toNat) rfl rfl rfl rfl Tryz.underlying189 (by kernel_rfl) (of_eq_true c39) (of_eq_true c40))⟩) ?_ ?_
      rotate_left
      · simp only [Act.put,ptn];rfl
      refine dr_take 14 (some 75) HT HH (v:=.int .u32 (x45.get (wrap64 (x44 - 15)))) (a':=?_) rfl rfl (by kernel_rfl) (fun _ _ _ h=>h) (.inl ⟨by rfl,?_⟩) ?_ ?_
      · rintro w' ⟨rs',HS'⟩;exact(run_aload rfl rfl Tryz.underlying186 (HS'.acell (q:=(wrap64 (x44 - 15))) (j:=((wrap64 (x44 - 15))).toNat) 3 rfl rfl (of_eq_true c39) (of_eq_true c40)))
      rotate_left
      · simp only [Act.put,ptn];rfl
      refine dq [15] HT ?_
      refine dr1 4 HT fun K hK=>?_
      refine go_cl HS (spec_l03Turn.calls ht41.out) Tryz.func168 ?_;clear HS;intro wt41 HS F
      refine nrm 65 hK ⟨_,HS⟩ fun HH=>?_;clear hK K
      refine dr1 9 HT fun K hK=>?_
      refine go_cl HS (spec_l03Turn.calls ht42.out) Tryz.func168 ?_;clear HS;intro wt42 HS F
      refine nrm 70 hK ⟨_,HS⟩ fun HH=>?_;clear hK K
      refine dq [10,16,17] HT ?_
      refine dn HT ?_
      (try go_wp2)
      replace H:=zgo H;obtain⟨c46,H⟩:=H
      replace H:=zgo H;obtain⟨c48,H⟩:=H
      replace H:=zbind H;obtain⟨t50,ht50,H⟩:=H
      replace H:=zbind H;obtain⟨t51,ht51,H⟩:=H
      refine dr_start [] HS #[false,false,false,false,false,false,false,false,false,false,false,false,false,false,false,false,false,false] (by kernel_rfl) rfl rfl spec_l03Block.tT10 (fun w52 HT HS HH=>?_)
      (try clear F)
      refine dq [0,1] HT ?_
      refine dr_pure 2 (some 80) HT (v:=.pointer (some ⟨g7,((wrap64 (x44 - 2))).toNat,none⟩)) (a':=?_) rfl rfl (by kernel_rfl) (fun _ _ _ h=>h) (.inl ⟨by rfl,fun w'=>(run_aaddr (q:=(wrap64 (x44 - 2))) (j:=((wrap64 (x44 - 2))).toNat) rfl rfl rfl rfl Tryz.underlying189 (by kernel_rfl) (of_eq_true c46) (of_eq_true c48))⟩) ?_ ?_
      rotate_left
      · simp only [Act.put,ptn];rfl
      refine dr_take 3 (some 81) HT HH (v:=.int .u32 (x45.get (wrap64 (x44 - 2)))) (a':=?_) rfl rfl (by kernel_rfl) (fun _ _ _ h=>h) (.inl ⟨by rfl,?_⟩) ?_ ?_
      · rintro w' ⟨rs',HS'⟩;exact(run_aload rfl rfl Tryz.underlying186 (HS'.acell (q:=(wrap64 (x44 - 2))) (j:=((wrap64 (x44 - 2))).toNat) 3 rfl rfl (of_eq_true c46) (of_eq_true c48)))
      rotate_left
      · simp only [Act.put,ptn];rfl
      refine dq [5,6] HT ?_
      refine dr_pure 7 (some 85) HT (v:=.pointer (some ⟨g7,((wrap64 (x44 - 2))).toNat,none⟩)) (a':=?_) rfl rfl (by kernel_rfl) (fun _ _ _ h=>h) (.inl ⟨by rfl,fun w'=>(run_aaddr (q:=(wrap64 (x44 - 2))) (j:=((wrap64 (x44 - 2))).toNat) rfl rfl rfl rfl Tryz.underlying189 (by kernel_rfl) (of_eq_true c46) (of_eq_true c48))⟩) ?_ ?_
      rotate_left
      · simp only [Act.put,ptn];rfl
      refine dr_take 8 (some 86) HT HH (v:=.int .u32 (x45.get (wrap64 (x44 - 2)))) (a':=?_) rfl rfl (by kernel_rfl) (fun _ _ _ h=>h) (.inl ⟨by rfl,?_⟩) ?_ ?_
      · rintro w' ⟨rs',HS'⟩;exact(run_aload rfl rfl Tryz.underlying186 (HS'.acell (q:=(wrap64 (x44 - 2))) (j:=((wrap64 (x44 - 2))).toNat) 3 rfl rfl (of_eq_true c46) (of_eq_true c48)))
      rotate_left
      · simp only [Act.put,ptn];rfl
      refine dq [11,12] HT ?_
      refine dr_pure 13 (some 91) HT (v:=.pointer (some ⟨g7,((wrap64 (x44 - 2))).toNat,none⟩)) (a':=?_) rfl rfl (by kernel_rfl) (fun _ _ _ h=>h) (.inl ⟨by rfl,fun w'=>(run_aaddr (q:=(wrap64 (x44 - 2))) (j:=((wrap64 (x44 - 2))).toNat) rfl rfl rfl rfl Tryz.underlying189 (by kernel_rfl) (of_eq_true c46) (of_eq_true c48))⟩) ?_ ?_
      rotate_left
      · simp only [Act.put,ptn];rfl
      refine dr_take 14 (some 92) HT HH (v:=.int .u32 (x45.get (wrap64 (x44 - 2)))) (a':=?_) rfl rfl (by kernel_rfl) (fun _ _ _ h=>h) (.inl ⟨by rfl,?_⟩) ?_ ?_
      · rintro w' ⟨rs',HS'⟩;exact(run_aload rfl rfl Tryz.underlying186 (HS'.acell (q:=(wrap64 (x44 - 2))) (j:=((wrap64 (x44 - 2))).toNat) 3 rfl rfl (of_eq_true c46) (of_eq_true c48)))
      rotate_left
      · simp only [Act.put,ptn];rfl
      refine dq [15] HT ?_
      refine dr1 4 HT fun K hK=>?_
      refine go_cl HS (spec_l03Turn.calls ht50.out) Tryz.func168 ?_;clear HS;intro wt50 HS F
      refine nrm 82 hK ⟨_,HS⟩ fun HH=>?_;clear hK K
      refine dr1 9 HT fun K hK=>?_
      refine go_cl HS (spec_l03Turn.calls ht51.out) Tryz.func168 ?_;clear HS;intro wt51 HS F
      refine nrm 87 hK ⟨_,HS⟩ fun HH=>?_;clear hK K
      refine dq [10,16,17] HT ?_
      refine dn HT ?_
      (try go_wp2)
      replace H:=zgo H;obtain⟨c53,H⟩:=H
      replace H:=zgo H;obtain⟨c54,H⟩:=H
      replace H:=zgo H;obtain⟨c56,H⟩:=H
      replace H:=zgo H;obtain⟨c57,H⟩:=H
      replace H:=zgo H;obtain⟨c58,H⟩:=H
      replace H:=zgo H;obtain⟨c60,H⟩:=H
      replace H:=zlets H;obtain⟨y61,e_y61,H⟩:=H
      refine dr_start [15] HS #[false,false,false,false,false,false,false,false,false,false,false,false,false,false,false,false] (by kernel_rfl) rfl rfl spec_l03Block.tT11 (fun w55 HT HS HH=>?_)
      (try clear F)
      refine dq [0,1,2] HT ?_
      refine dr_pure 3 (some 98) HT (v:=.pointer (some ⟨g7,((wrap64 (x44 - 16))).toNat,none⟩)) (a':=?_) rfl rfl (by kernel_rfl) (fun _ _ _ h=>h) (.inl ⟨by rfl,fun w'=>(run_aaddr (q:=(wrap64 (x44 - 16))) (j:=((wrap64 (x44 - 16))).toNat) rfl rfl rfl rfl Tryz.underlying189 (by kernel_rfl) (of_eq_true c53) (of_eq_true c54))⟩) ?_ ?_
      rotate_left
      · simp only [Act.put,ptn];rfl
      refine dr_take 4 (some 99) HT HH (v:=.int .u32 (x45.get (wrap64 (x44 - 16)))) (a':=?_) rfl rfl (by kernel_rfl) (fun _ _ _ h=>h) (.inl ⟨by rfl,?_⟩) ?_ ?_
      · rintro w' ⟨rs',HS'⟩;exact(run_aload rfl rfl Tryz.underlying186 (HS'.acell (q:=(wrap64 (x44 - 16))) (j:=((wrap64 (x44 - 16))).toNat) 3 rfl rfl (of_eq_true c53) (of_eq_true c54)))
      rotate_left
      · simp only [Act.put,ptn];rfl
      refine dq [5,6,7,8] HT ?_
      refine dr_pure 9 (some 104) HT (v:=.pointer (some ⟨g7,((wrap64 (x44 - 7))).toNat,none⟩)) (a':=?_) rfl rfl (by kernel_rfl) (fun _ _ _ h=>h) (.inl ⟨by rfl,fun w'=>(run_aaddr (q:=(wrap64 (x44 - 7))) (j:=((wrap64 (x44 - 7))).toNat) rfl rfl rfl rfl Tryz.underlying189 (by kernel_rfl) (of_eq_true c56) (of_eq_true c57))⟩) ?_ ?_
      rotate_left
      · simp only [Act.put,ptn];rfl
      refine dr_take 10 (some 105) HT HH (v:=.int .u32 (x45.get (wrap64 (x44 - 7)))) (a':=?_) rfl rfl (by kernel_rfl) (fun _ _ _ h=>h) (.inl ⟨by rfl,?_⟩) ?_ ?_
      · rintro w' ⟨rs',HS'⟩;exact(run_aload rfl rfl Tryz.underlying186 (HS'.acell (q:=(wrap64 (x44 - 7))) (j:=((wrap64 (x44 - 7))).toNat) 3 rfl rfl (of_eq_true c56) (of_eq_true c57)))
      rotate_left
      · simp only [Act.put,ptn];rfl
      refine dq [11,12,13] HT ?_
      refine dr_pure 14 (some 109) HT (v:=.pointer (some ⟨g7,(x44).toNat,none⟩)) (a':=?_) rfl rfl (by kernel_rfl) (fun _ _ _ h=>h) (.inl ⟨by rfl,fun w'=>(run_aaddr (q:=x44) (j:=(x44).toNat) rfl rfl rfl rfl Tryz.underlying189 (by kernel_rfl) (of_eq_true c58) (of_eq_true c60))⟩) ?_ ?_
      rotate_left
      · simp only [Act.put,ptn];rfl
      refine dl 15 HT fun K hK=>?_
      refine if_wp (by rfl) ?_;refine wp_aset (j:=(x44).toNat) 3 x44 (IntKind.u32.wrap ((IntKind.u32.wrap ((IntKind.u32.wrap ((x45.get (wrap64 (x44 - 16)))+(Go.bits .xor .u32 (Go.bits .xor .u32 t41 t42) ((x45.get (wrap64 (x44 - 15))) / 8))))+(x45.get (wrap64 (x44 - 7)))))+(Go.bits .xor .u32 (Go.bits .xor .u32 t50 t51) ((x45.get (wrap64 (x44 - 2))) / 1024)))) HS rfl rfl rfl rfl rfl rfl (by kernel_rfl) (of_eq_true c58) (of_eq_true c60) ?_;clear HS;intro w62 HS;rw [←e_y61.out] at HS
      (try simp only [hpn,hpm] at HS)
      refine hK.out _ _ ?_
      clear hK K
      refine dn HT ?_
      go_wp2
      go_roundg k43
      case measure=>have:=HKk20.out;have:=HKk43.out;omega
      case rel=>exact⟨_,_,rfl,H,⟨by have:=HKk20.out;have:=HKk43.out;omega⟩,HS.pi [0,1,2,3]⟩
     go_wp2_with (first|((with_reducible refine gd 110 rfl ?_);refine ev_val rfl (run_aloadw rfl rfl Tryz.underlying187 (by kernel_rfl) (HS.boxAt (i:=0) rfl)) ?_;(try simp only [Act.put,ptn]))|((with_reducible refine gd 12 rfl ?_);refine ev_box (cs:=((Arr.zero 8).cells .u32)) rfl HS (by first|(go_simp;done)|(go_simp;rfl)) (by first|rfl|simp) ?_;clear HS;intro g12 w12 HS;(try simp only [hpn,hpm] at HS))|((with_reducible refine gate_store (p:=12) rfl ?_);refine ev_aput rfl 4 a0 HS rfl rfl rfl rfl rfl rfl (by kernel_rfl) ?_;clear HS;intro w59 HS;(try simp only [hpn,hpm] at HS)))
     (try obtain⟨wok100,rfl⟩:∃wo_:World,wo_=wr:=⟨_,rfl⟩)
     go_loopg [13] k43 (fun kq v_13 w'=>∃(x101:Int) (x102:(Arr 8)),v_13=.int .i64 x101∧Aside0 (spec_l03Block.l2 kq x101 x102 a0 a2 x45=some r)∧Aside0 (kq≤k43)∧Hp noFP w w' [.box g3 (a0.cells .u32) 187,.box g5 (a2.cells .u32) 189,.box g6 ((Arr.zero 8).cells .u32) 187,.box g7 (x45.cells .u32) 189,.box g12 (x102.cells .u32) 187])
     case atStart=>exact⟨_,_,rfl,H,⟨Nat.le_refl _⟩,HS⟩
     case round=>
      clear HS H;(try clear F)
      obtain⟨x101,x102,rfl,H,HKk100,HS⟩:=hrel
      cases gk with
      |zero=>exact absurd H.out (by simp [spec_l03Block.l2])
      | succ k100=>
       simp only [spec_l03Block.l2] at H
       replace H:=znif H;rcases H with⟨c104,H⟩|⟨c104,H⟩
       ·
        go_wp2
        (try obtain⟨wok147,rfl⟩:∃wo_:World,wo_=wr:=⟨_,rfl⟩)
        go_loopg [20] k100 (fun kq v_20 w'=>∃(x148:Int) (x149:(Arr 8)),v_20=.int .i64 x148∧Aside0 (spec_l03Block.l3 kq x148 x149 x102=some r)∧Aside0 (kq≤k100)∧Hp noFP w w' [.box g3 (x149.cells .u32) 187,.box g5 (a2.cells .u32) 189,.box g6 ((Arr.zero 8).cells .u32) 187,.box g7 (x45.cells .u32) 189,.box g12 (x102.cells .u32) 187])
        case atStart=>exact⟨_,_,rfl,H,⟨Nat.le_refl _⟩,HS⟩
        case round=>
         clear HS H;(try clear F)
         obtain⟨x148,x149,rfl,H,HKk147,HS⟩:=hrel
         cases gk with
         |zero=>exact absurd H.out (by simp [spec_l03Block.l3])
         | succ k147=>
          simp only [spec_l03Block.l3] at H
          replace H:=znif H;rcases H with⟨c151,H⟩|⟨c151,H⟩
          ·
           obtain rfl:=zsome H
           go_wp2_with (first|((with_reducible refine gd 223 rfl ?_);refine ev_val rfl (run_aloadw rfl rfl Tryz.underlying187 (by kernel_rfl) (HS.boxAt (i:=0) rfl)) ?_;(try simp only [Act.put,ptn]))|((with_reducible refine gate_store (p:=6) rfl ?_);refine ev_aput rfl 2 x149 HS rfl rfl rfl rfl rfl rfl (by kernel_rfl) ?_;clear HS;intro w155 HS;(try simp only [hpn,hpm] at HS)))
           exact bodyPost_ret (results_single rfl (.cell _ _ _ _ _ rfl (HS.boxAt (i:=2) rfl) Tryz.underlying187 rfl (by rw [Arr.cells_size];kernel_rfl) .nil)) rfl ⟨rfl,HS.pi []⟩
          (try go_wp2)
          replace H:=zgo H;obtain⟨c1602001,H⟩:=H
          replace H:=zgo H;obtain⟨c1602002,H⟩:=H
          replace H:=zlets H;obtain⟨y1609001,e_y1609001,H⟩:=H
          refine dr_start [9] HS #[false,false,false,false,false,false,false,false,false,false] (by kernel_rfl) rfl rfl spec_l03Block.tT33 (fun w153 HT HS HH=>?_)
          (try clear F)
          refine dq [0,1] HT ?_
          refine dr_pure 2 (some 216) HT (v:=.pointer (some ⟨g3,(x148).toNat,none⟩)) (a':=?_) rfl rfl (by kernel_rfl) (fun _ _ _ h=>h) (.inl ⟨by rfl,fun w'=>(run_aaddr (q:=x148) (j:=(x148).toNat) rfl rfl rfl rfl Tryz.underlying187 (by kernel_rfl) (of_eq_true c1602001) (of_eq_true c1602002))⟩) ?_ ?_
          rotate_left
          · simp only [Act.put,ptn];rfl
          refine dr_take 3 (some 217) HT HH (v:=.int .u32 (x149.get x148)) (a':=?_) rfl rfl (by kernel_rfl) (fun _ _ _ h=>h) (.inl ⟨by rfl,?_⟩) ?_ ?_
          · rintro w' ⟨rs',HS'⟩;exact(run_aload rfl rfl Tryz.underlying186 (HS'.acell (q:=x148) (j:=(x148).toNat) 0 rfl rfl (of_eq_true c1602001) (of_eq_true c1602002)))
          rotate_left
          · simp only [Act.put,ptn];rfl
          refine dq [4] HT ?_
          refine dr_pure 5 (some 219) HT (v:=.pointer (some ⟨g12,(x148).toNat,none⟩)) (a':=?_) rfl rfl (by kernel_rfl) (fun _ _ _ h=>h) (.inl ⟨by rfl,fun w'=>(run_aaddr (q:=x148) (j:=(x148).toNat) rfl rfl rfl rfl Tryz.underlying187 (by kernel_rfl) (of_eq_true c1602001) (of_eq_true c1602002))⟩) ?_ ?_
          rotate_left
          · simp only [Act.put,ptn];rfl
          refine dr_take 6 (some 220) HT HH (v:=.int .u32 (x102.get x148)) (a':=?_) rfl rfl (by kernel_rfl) (fun _ _ _ h=>h) (.inl ⟨by rfl,?_⟩) ?_ ?_
          · rintro w' ⟨rs',HS'⟩;exact(run_aload rfl rfl Tryz.underlying186 (HS'.acell (q:=x148) (j:=(x148).toNat) 4 rfl rfl (of_eq_true c1602001) (of_eq_true c1602002)))
          rotate_left
          · simp only [Act.put,ptn];rfl
          refine dq [7] HT ?_
          refine dr_pure 8 (some 222) HT (v:=.pointer (some ⟨g3,(x148).toNat,none⟩)) (a':=?_) rfl rfl (by kernel_rfl) (fun _ _ _ h=>h) (.inl ⟨by rfl,fun w'=>(run_aaddr (q:=x148) (j:=(x148).toNat) rfl rfl rfl rfl Tryz.underlying187 (by kernel_rfl) (of_eq_true c1602001) (of_eq_true c1602002))⟩) ?_ ?_
          rotate_left
          · simp only [Act.put,ptn];rfl
          refine dl 9 HT fun K hK=>?_
          refine if_wp (by rfl) ?_;refine wp_aset (j:=(x148).toNat) 0 x148 (IntKind.u32.wrap ((x149.get x148)+(x102.get x148))) HS rfl rfl rfl rfl rfl rfl (by kernel_rfl) (of_eq_true c1602001) (of_eq_true c1602002) ?_;clear HS;intro w1609002 HS;rw [←e_y1609001.out] at HS
          (try simp only [hpn,hpm] at HS)
          refine hK.out _ _ ?_
          clear hK K
          refine dn HT ?_
          go_wp2
          go_roundg k147
          case measure=>have:=HKk20.out;have:=HKk43.out;have:=HKk100.out;have:=HKk147.out;omega
          case rel=>exact⟨_,_,rfl,H,⟨by have:=HKk20.out;have:=HKk43.out;have:=HKk100.out;have:=HKk147.out;omega⟩,HS.pi [0,1,2,3,4]⟩
       (try go_wp2)
       replace H:=zbind H;obtain⟨t1202001,ht1202001,H⟩:=H
       replace H:=zbind H;obtain⟨t1205001,ht1205001,H⟩:=H
       replace H:=zbind H;obtain⟨t1209001,ht1209001,H⟩:=H
       refine dr_start [] HS #[false,false,false,false,false,false,false,false,false,false,false,false] (by kernel_rfl) rfl rfl spec_l03Block.tT16 (fun w106 HT HS HH=>?_)
       (try clear F)
       refine dr_pure 0 (some 115) HT (v:=.pointer (some ⟨g12,4,none⟩)) (a':=?_) rfl rfl (by kernel_rfl) (fun _ _ _ h=>h) (.inl ⟨by rfl,fun w'=>(run_aaddr (q:=4) (j:=4) rfl rfl rfl rfl Tryz.underlying187 (by kernel_rfl) (by decide) (by decide))⟩) ?_ ?_
       rotate_left
       · simp only [Act.put,ptn];rfl
       refine dr_take 1 (some 116) HT HH (v:=.int .u32 (x102.get 4)) (a':=?_) rfl rfl (by kernel_rfl) (fun _ _ _ h=>h) (.inl ⟨by rfl,?_⟩) ?_ ?_
       · rintro w' ⟨rs',HS'⟩;exact(run_aload rfl rfl Tryz.underlying186 (HS'.acell (q:=4) (j:=4) 4 rfl rfl (by decide) (by decide)))
       rotate_left
       · simp only [Act.put,ptn];rfl
       refine dr_pure 3 (some 118) HT (v:=.pointer (some ⟨g12,4,none⟩)) (a':=?_) rfl rfl (by kernel_rfl) (fun _ _ _ h=>h) (.inl ⟨by rfl,fun w'=>(run_aaddr (q:=4) (j:=4) rfl rfl rfl rfl Tryz.underlying187 (by kernel_rfl) (by decide) (by decide))⟩) ?_ ?_
       rotate_left
       · simp only [Act.put,ptn];rfl
       refine dr_take 4 (some 119) HT HH (v:=.int .u32 (x102.get 4)) (a':=?_) rfl rfl (by kernel_rfl) (fun _ _ _ h=>h) (.inl ⟨by rfl,?_⟩) ?_ ?_
       · rintro w' ⟨rs',HS'⟩;exact(run_aload rfl rfl Tryz.underlying186 (HS'.acell (q:=4) (j:=4) 4 rfl rfl (by decide) (by decide)))
       rotate_left
       · simp only [Act.put,ptn];rfl
       refine dr_pure 7 (some 122) HT (v:=.pointer (some ⟨g12,4,none⟩)) (a':=?_) rfl rfl (by kernel_rfl) (fun _ _ _ h=>h) (.inl ⟨by rfl,fun w'=>(run_aaddr (q:=4) (j:=4) rfl rfl rfl rfl Tryz.underlying187 (by kernel_rfl) (by decide) (by decide))⟩) ?_ ?_
       rotate_left
       · simp only [Act.put,ptn];rfl
       refine dr_take 8 (some 123) HT HH (v:=.int .u32 (x102.get 4)) (a':=?_) rfl rfl (by kernel_rfl) (fun _ _ _ h=>h) (.inl ⟨by rfl,?_⟩) ?_ ?_
       · rintro w' ⟨rs',HS'⟩;exact(run_aload rfl rfl Tryz.underlying186 (HS'.acell (q:=4) (j:=4) 4 rfl rfl (by decide) (by decide)))
       rotate_left
       · simp only [Act.put,ptn];rfl
       refine dr1 2 HT fun K hK=>?_
       refine go_cl HS (spec_l03Turn.calls ht1202001.out) Tryz.func168 ?_;clear HS;intro wt1202001 HS F
       refine nrm 117 hK ⟨_,HS⟩ fun HH=>?_;clear hK K
       refine dr1 5 HT fun K hK=>?_
       refine go_cl HS (spec_l03Turn.calls ht1205001.out) Tryz.func168 ?_;clear HS;intro wt1205001 HS F
       refine nrm 120 hK ⟨_,HS⟩ fun HH=>?_;clear hK K
       refine dq [6] HT ?_
       refine dr1 9 HT fun K hK=>?_
       refine go_cl HS (spec_l03Turn.calls ht1209001.out) Tryz.func168 ?_;clear HS;intro wt1209001 HS F
       refine nrm 124 hK ⟨_,HS⟩ fun HH=>?_;clear hK K
       refine dq [10,11] HT ?_
       refine dn HT ?_
       go_wp2_with (first|((with_reducible refine gd 126 rfl ?_);refine ev_val rfl (run_aaddr (q:=4) (j:=4) rfl rfl rfl rfl Tryz.underlying187 (by kernel_rfl) (by decide) (by decide)) ?_;(try simp only [Act.put,ptn]))|((with_reducible refine gd 127 rfl ?_);refine ev_val rfl (run_aload rfl rfl Tryz.underlying186 (HS.acell (q:=4) (j:=4) 4 rfl rfl (by decide) (by decide))) ?_;(try simp only [Act.put,ptn]))|((with_reducible refine gd 128 rfl ?_);refine ev_val rfl (run_aaddr (q:=5) (j:=5) rfl rfl rfl rfl Tryz.underlying187 (by kernel_rfl) (by decide) (by decide)) ?_;(try simp only [Act.put,ptn]))|((with_reducible refine gd 129 rfl ?_);refine ev_val rfl (run_aload rfl rfl Tryz.underlying186 (HS.acell (q:=5) (j:=5) 4 rfl rfl (by decide) (by decide))) ?_;(try simp only [Act.put,ptn]))|((with_reducible refine gd 131 rfl ?_);refine ev_val rfl (run_aaddr (q:=4) (j:=4) rfl rfl rfl rfl Tryz.underlying187 (by kernel_rfl) (by decide) (by decide)) ?_;(try simp only [Act.put,ptn]))|((with_reducible refine gd 132 rfl ?_);refine ev_val rfl (run_aload rfl rfl Tryz.underlying186 (HS.acell (q:=4) (j:=4) 4 rfl rfl (by decide) (by decide))) ?_;(try simp only [Act.put,ptn]))|((with_reducible refine gd 134 rfl ?_);refine ev_val rfl (run_aaddr (q:=6) (j:=6) rfl rfl rfl rfl Tryz.underlying187 (by kernel_rfl) (by decide) (by decide)) ?_;(try simp only [Act.put,ptn]))|((with_reducible refine gd 135 rfl ?_);refine ev_val rfl (run_aload rfl rfl Tryz.underlying186 (HS.acell (q:=6) (j:=6) 4 rfl rfl (by decide) (by decide))) ?_;(try simp only [Act.put,ptn])))
       replace H:=zgo H;obtain⟨c1307001,H⟩:=H
       replace H:=zgo H;obtain⟨c1307002,H⟩:=H
       refine dr_start [] HS #[false,false,false,false,false,false,false,false,false,false,false,false,false,false,false] (by kernel_rfl) rfl rfl spec_l03Block.tT18 (fun w109 HT HS HH=>?_)
       (try clear F)
       refine dr_pure 0 (some 138) HT (v:=.pointer (some ⟨g12,7,none⟩)) (a':=?_) rfl rfl (by kernel_rfl) (fun _ _ _ h=>h) (.inl ⟨by rfl,fun w'=>(run_aaddr (q:=7) (j:=7) rfl rfl rfl rfl Tryz.underlying187 (by kernel_rfl) (by decide) (by decide))⟩) ?_ ?_
       rotate_left
       · simp only [Act.put,ptn];rfl
       refine dr_take 1 (some 139) HT HH (v:=.int .u32 (x102.get 7)) (a':=?_) rfl rfl (by kernel_rfl) (fun _ _ _ h=>h) (.inl ⟨by rfl,?_⟩) ?_ ?_
       · rintro w' ⟨rs',HS'⟩;exact(run_aload rfl rfl Tryz.underlying186 (HS'.acell (q:=7) (j:=7) 4 rfl rfl (by decide) (by decide)))
       rotate_left
       · simp only [Act.put,ptn];rfl
       refine dq [2,3,4,5,6] HT ?_
       refine dr_pure 7 (some 145) HT (v:=.pointer (some ⟨g5,(x101).toNat,none⟩)) (a':=?_) rfl rfl (by kernel_rfl) (fun _ _ _ h=>h) (.inl ⟨by rfl,fun w'=>(run_aaddr (q:=x101) (j:=(x101).toNat) rfl rfl rfl rfl Tryz.underlying189 (by kernel_rfl) (of_eq_true c1307001) (of_eq_true c1307002))⟩) ?_ ?_
       rotate_left
       · simp only [Act.put,ptn];rfl
       refine dr_take 8 (some 146) HT HH (v:=.int .u32 (a2.get x101)) (a':=?_) rfl rfl (by kernel_rfl) (fun _ _ _ h=>h) (.inl ⟨by rfl,?_⟩) ?_ ?_
       · rintro w' ⟨rs',HS'⟩;exact(run_aload rfl rfl Tryz.underlying186 (HS'.acell (q:=x101) (j:=(x101).toNat) 1 rfl rfl (of_eq_true c1307001) (of_eq_true c1307002)))
       rotate_left
       · simp only [Act.put,ptn];rfl
       refine dq [9,10] HT ?_
       refine dr_pure 11 (some 149) HT (v:=.pointer (some ⟨g7,(x101).toNat,none⟩)) (a':=?_) rfl rfl (by kernel_rfl) (fun _ _ _ h=>h) (.inl ⟨by rfl,fun w'=>(run_aaddr (q:=x101) (j:=(x101).toNat) rfl rfl rfl rfl Tryz.underlying189 (by kernel_rfl) (of_eq_true c1307001) (of_eq_true c1307002))⟩) ?_ ?_
       rotate_left
       · simp only [Act.put,ptn];rfl
       refine dr_take 12 (some 150) HT HH (v:=.int .u32 (x45.get x101)) (a':=?_) rfl rfl (by kernel_rfl) (fun _ _ _ h=>h) (.inl ⟨by rfl,?_⟩) ?_ ?_
       · rintro w' ⟨rs',HS'⟩;exact(run_aload rfl rfl Tryz.underlying186 (HS'.acell (q:=x101) (j:=(x101).toNat) 3 rfl rfl (of_eq_true c1307001) (of_eq_true c1307002)))
       rotate_left
       · simp only [Act.put,ptn];rfl
       refine dq [13,14] HT ?_
       refine dn HT ?_
       (try go_wp2)
       replace H:=zbind H;obtain⟨t1402001,ht1402001,H⟩:=H
       replace H:=zbind H;obtain⟨t1405001,ht1405001,H⟩:=H
       replace H:=zbind H;obtain⟨t1409001,ht1409001,H⟩:=H
       refine dr_start [] HS #[false,false,false,false,false,false,false,false,false,false,false,false] (by kernel_rfl) rfl rfl spec_l03Block.tT19 (fun w112 HT HS HH=>?_)
       (try clear F)
       refine dr_pure 0 (some 152) HT (v:=.pointer (some ⟨g12,0,none⟩)) (a':=?_) rfl rfl (by kernel_rfl) (fun _ _ _ h=>h) (.inl ⟨by rfl,fun w'=>(run_aaddr (q:=0) (j:=0) rfl rfl rfl rfl Tryz.underlying187 (by kernel_rfl) (by decide) (by decide))⟩) ?_ ?_
       rotate_left
       · simp only [Act.put,ptn];rfl
       refine dr_take 1 (some 153) HT HH (v:=.int .u32 (x102.get 0)) (a':=?_) rfl rfl (by kernel_rfl) (fun _ _ _ h=>h) (.inl ⟨by rfl,?_⟩) ?_ ?_
       · rintro w' ⟨rs',HS'⟩;exact(run_aload rfl rfl Tryz.underlying186 (HS'.acell (q:=0) (j:=0) 4 rfl rfl (by decide) (by decide)))
       rotate_left
       · simp only [Act.put,ptn];rfl
       refine dr_pure 3 (some 155) HT (v:=.pointer (some ⟨g12,0,none⟩)) (a':=?_) rfl rfl (by kernel_rfl) (fun _ _ _ h=>h) (.inl ⟨by rfl,fun w'=>(run_aaddr (q:=0) (j:=0) rfl rfl rfl rfl Tryz.underlying187 (by kernel_rfl) (by decide) (by decide))⟩) ?_ ?_
       rotate_left
       · simp only [Act.put,ptn];rfl
       refine dr_take 4 (some 156) HT HH (v:=.int .u32 (x102.get 0)) (a':=?_) rfl rfl (by kernel_rfl) (fun _ _ _ h=>h) (.inl ⟨by rfl,?_⟩) ?_ ?_
       · rintro w' ⟨rs',HS'⟩;exact(run_aload rfl rfl Tryz.underlying186 (HS'.acell (q:=0) (j:=0) 4 rfl rfl (by decide) (by decide)))
       rotate_left
       · simp only [Act.put,ptn];rfl
       refine dr_pure 7 (some 159) HT (v:=.pointer (some ⟨g12,0,none⟩)) (a':=?_) rfl rfl (by kernel_rfl) (fun _ _ _ h=>h) (.inl ⟨by rfl,fun w'=>(run_aaddr (q:=0) (j:=0) rfl rfl rfl rfl Tryz.underlying187 (by kernel_rfl) (by decide) (by decide))⟩) ?_ ?_
       rotate_left
       · simp only [Act.put,ptn];rfl
       refine dr_take 8 (some 160) HT HH (v:=.int .u32 (x102.get 0)) (a':=?_) rfl rfl (by kernel_rfl) (fun _ _ _ h=>h) (.inl ⟨by rfl,?_⟩) ?_ ?_
       · rintro w' ⟨rs',HS'⟩;exact(run_aload rfl rfl Tryz.underlying186 (HS'.acell (q:=0) (j:=0) 4 rfl rfl (by decide) (by decide)))
       rotate_left
       · simp only [Act.put,ptn];rfl
       refine dr1 2 HT fun K hK=>?_
       refine go_cl HS (spec_l03Turn.calls ht1402001.out) Tryz.func168 ?_;clear HS;intro wt1402001 HS F
       refine nrm 154 hK ⟨_,HS⟩ fun HH=>?_;clear hK K
       refine dr1 5 HT fun K hK=>?_
       refine go_cl HS (spec_l03Turn.calls ht1405001.out) Tryz.func168 ?_;clear HS;intro wt1405001 HS F
       refine nrm 157 hK ⟨_,HS⟩ fun HH=>?_;clear hK K
       refine dq [6] HT ?_
       refine dr1 9 HT fun K hK=>?_
       refine go_cl HS (spec_l03Turn.calls ht1409001.out) Tryz.func168 ?_;clear HS;intro wt1409001 HS F
       refine nrm 161 hK ⟨_,HS⟩ fun HH=>?_;clear hK K
       refine dq [10,11] HT ?_
       refine dn HT ?_
       replace H:=zlets H;obtain⟨y114,e_y114,H⟩:=H
       replace H:=zlets H;obtain⟨y117,e_y117,H⟩:=H
       replace H:=zlets H;obtain⟨y120,e_y120,H⟩:=H
       replace H:=zlets H;obtain⟨y123,e_y123,H⟩:=H
       replace H:=zlets H;obtain⟨y126,e_y126,H⟩:=H
       replace H:=zlets H;obtain⟨y129,e_y129,H⟩:=H
       replace H:=zlets H;obtain⟨y132,e_y132,H⟩:=H
       replace H:=zlets H;obtain⟨y135,e_y135,H⟩:=H
       go_wp2_with (first|((with_reducible refine gd 163 rfl ?_);refine ev_val rfl (run_aaddr (q:=0) (j:=0) rfl rfl rfl rfl Tryz.underlying187 (by kernel_rfl) (by decide) (by decide)) ?_;(try simp only [Act.put,ptn]))|((with_reducible refine gd 164 rfl ?_);refine ev_val rfl (run_aload rfl rfl Tryz.underlying186 (HS.acell (q:=0) (j:=0) 4 rfl rfl (by decide) (by decide))) ?_;(try simp only [Act.put,ptn]))|((with_reducible refine gd 165 rfl ?_);refine ev_val rfl (run_aaddr (q:=1) (j:=1) rfl rfl rfl rfl Tryz.underlying187 (by kernel_rfl) (by decide) (by decide)) ?_;(try simp only [Act.put,ptn]))|((with_reducible refine gd 166 rfl ?_);refine ev_val rfl (run_aload rfl rfl Tryz.underlying186 (HS.acell (q:=1) (j:=1) 4 rfl rfl (by decide) (by decide))) ?_;(try simp only [Act.put,ptn]))|((with_reducible refine gd 168 rfl ?_);refine ev_val rfl (run_aaddr (q:=0) (j:=0) rfl rfl rfl rfl Tryz.underlying187 (by kernel_rfl) (by decide) (by decide)) ?_;(try simp only [Act.put,ptn]))|((with_reducible refine gd 169 rfl ?_);refine ev_val rfl (run_aload rfl rfl Tryz.underlying186 (HS.acell (q:=0) (j:=0) 4 rfl rfl (by decide) (by decide))) ?_;(try simp only [Act.put,ptn]))|((with_reducible refine gd 170 rfl ?_);refine ev_val rfl (run_aaddr (q:=2) (j:=2) rfl rfl rfl rfl Tryz.underlying187 (by kernel_rfl) (by decide) (by decide)) ?_;(try simp only [Act.put,ptn]))|((with_reducible refine gd 171 rfl ?_);refine ev_val rfl (run_aload rfl rfl Tryz.underlying186 (HS.acell (q:=2) (j:=2) 4 rfl rfl (by decide) (by decide))) ?_;(try simp only [Act.put,ptn]))|((with_reducible refine gd 174 rfl ?_);refine ev_val rfl (run_aaddr (q:=1) (j:=1) rfl rfl rfl rfl Tryz.underlying187 (by kernel_rfl) (by decide) (by decide)) ?_;(try simp only [Act.put,ptn]))|((with_reducible refine gd 175 rfl ?_);refine ev_val rfl (run_aload rfl rfl Tryz.underlying186 (HS.acell (q:=1) (j:=1) 4 rfl rfl (by decide) (by decide))) ?_;(try simp only [Act.put,ptn]))|((with_reducible refine gd 176 rfl ?_);refine ev_val rfl (run_aaddr (q:=2) (j:=2) rfl rfl rfl rfl Tryz.underlying187 (by kernel_rfl) (by decide) (by decide)) ?_;(try simp only [Act.put,ptn]))|((with_reducible refine gd 177 rfl ?_);refine ev_val rfl (run_aload rfl rfl Tryz.underlying186 (HS.acell (q:=2) (j:=2) 4 rfl rfl (by decide) (by decide))) ?_;(try simp only [Act.put,ptn]))|((with_reducible refine gd 183 rfl ?_);refine ev_val rfl (run_aaddr (q:=6) (j:=6) rfl rfl rfl rfl Tryz.underlying187 (by kernel_rfl) (by decide) (by decide)) ?_;(try simp only [Act.put,ptn]))|((with_reducible refine gd 184 rfl ?_);refine ev_val rfl (run_aload rfl rfl Tryz.underlying186 (HS.acell (q:=6) (j:=6) 4 rfl rfl (by decide) (by decide))) ?_;(try simp only [Act.put,ptn]))|((with_reducible refine gd 185 rfl ?_);refine ev_val rfl (run_aaddr (q:=7) (j:=7) rfl rfl rfl rfl Tryz.underlying187 (by kernel_rfl) (by decide) (by decide)) ?_;(try simp only [Act.put,ptn]))|((with_reducible refine gate_store (p:=185) rfl ?_);refine ev_aset rfl (j:=7) 4 7 (x102.get 6) HS rfl rfl rfl rfl rfl rfl (by kernel_rfl) (by decide) (by decide) ?_;clear HS;intro w115 HS;rw [←e_y114.out] at HS;(try simp only [hpn,hpm] at HS))|((with_reducible refine gd 186 rfl ?_);refine ev_val rfl (run_aaddr (q:=5) (j:=5) rfl rfl rfl rfl Tryz.underlying187 (by kernel_rfl) (by decide) (by decide)) ?_;(try simp only [Act.put,ptn]))|((with_reducible refine gd 187 rfl ?_);refine ev_val rfl (run_aload rfl rfl Tryz.underlying186 (HS.acell (q:=5) (j:=5) 4 rfl rfl (by decide) (by decide))) ?_;(try simp only [Act.put,ptn]))|((with_reducible refine gd 188 rfl ?_);refine ev_val rfl (run_aaddr (q:=6) (j:=6) rfl rfl rfl rfl Tryz.underlying187 (by kernel_rfl) (by decide) (by decide)) ?_;(try simp only [Act.put,ptn]))|((with_reducible refine gate_store (p:=188) rfl ?_);refine ev_aset rfl (j:=6) 4 6 (y114.get 5) HS rfl rfl rfl rfl rfl rfl (by kernel_rfl) (by decide) (by decide) ?_;clear HS;intro w118 HS;rw [←e_y117.out] at HS;(try simp only [hpn,hpm] at HS))|((with_reducible refine gd 189 rfl ?_);refine ev_val rfl (run_aaddr (q:=4) (j:=4) rfl rfl rfl rfl Tryz.underlying187 (by kernel_rfl) (by decide) (by decide)) ?_;(try simp only [Act.put,ptn]))|((with_reducible refine gd 190 rfl ?_);refine ev_val rfl (run_aload rfl rfl Tryz.underlying186 (HS.acell (q:=4) (j:=4) 4 rfl rfl (by decide) (by decide))) ?_;(try simp only [Act.put,ptn]))|((with_reducible refine gd 191 rfl ?_);refine ev_val rfl (run_aaddr (q:=5) (j:=5) rfl rfl rfl rfl Tryz.underlying187 (by kernel_rfl) (by decide) (by decide)) ?_;(try simp only [Act.put,ptn]))|((with_reducible refine gate_store (p:=191) rfl ?_);refine ev_aset rfl (j:=5) 4 5 (y117.get 4) HS rfl rfl rfl rfl rfl rfl (by kernel_rfl) (by decide) (by decide) ?_;clear HS;intro w121 HS;rw [←e_y120.out] at HS;(try simp only [hpn,hpm] at HS))|((with_reducible refine gd 192 rfl ?_);refine ev_val rfl (run_aaddr (q:=3) (j:=3) rfl rfl rfl rfl Tryz.underlying187 (by kernel_rfl) (by decide) (by decide)) ?_;(try simp only [Act.put,ptn]))|((with_reducible refine gd 193 rfl ?_);refine ev_val rfl (run_aload rfl rfl Tryz.underlying186 (HS.acell (q:=3) (j:=3) 4 rfl rfl (by decide) (by decide))) ?_;(try simp only [Act.put,ptn]))|((with_reducible refine gd 196 rfl ?_);refine ev_val rfl (run_aaddr (q:=4) (j:=4) rfl rfl rfl rfl Tryz.underlying187 (by kernel_rfl) (by decide) (by decide)) ?_;(try simp only [Act.put,ptn]))|((with_reducible refine gate_store (p:=196) rfl ?_);refine ev_aset rfl (j:=4) 4 4 (IntKind.u32.wrap ((y120.get 3)+(IntKind.u32.wrap ((IntKind.u32.wrap ((IntKind.u32.wrap ((IntKind.u32.wrap ((x102.get 7)+(Go.bits .xor .u32 (Go.bits .xor .u32 t1202001 t1205001) t1209001)))+(Go.bits .xor .u32 (Go.bits .and .u32 (x102.get 4) (x102.get 5)) (Go.bits .and .u32 (Go.bits .xor .u32 (x102.get 4) 4294967295) (x102.get 6)))))+(a2.get x101)))+(x45.get x101))))) HS rfl rfl rfl rfl rfl rfl (by kernel_rfl) (by decide) (by decide) ?_;clear HS;intro w124 HS;rw [←e_y123.out] at HS;(try simp only [hpn,hpm] at HS))|((with_reducible refine gd 197 rfl ?_);refine ev_val rfl (run_aaddr (q:=2) (j:=2) rfl rfl rfl rfl Tryz.underlying187 (by kernel_rfl) (by decide) (by decide)) ?_;(try simp only [Act.put,ptn]))|((with_reducible refine gd 198 rfl ?_);refine ev_val rfl (run_aload rfl rfl Tryz.underlying186 (HS.acell (q:=2) (j:=2) 4 rfl rfl (by decide) (by decide))) ?_;(try simp only [Act.put,ptn]))|((with_reducible refine gd 199 rfl ?_);refine ev_val rfl (run_aaddr (q:=3) (j:=3) rfl rfl rfl rfl Tryz.underlying187 (by kernel_rfl) (by decide) (by decide)) ?_;(try simp only [Act.put,ptn]))|((with_reducible refine gate_store (p:=199) rfl ?_);refine ev_aset rfl (j:=3) 4 3 (y123.get 2) HS rfl rfl rfl rfl rfl rfl (by kernel_rfl) (by decide) (by decide) ?_;clear HS;intro w127 HS;rw [←e_y126.out] at HS;(try simp only [hpn,hpm] at HS))|((with_reducible refine gd 200 rfl ?_);refine ev_val rfl (run_aaddr (q:=1) (j:=1) rfl rfl rfl rfl Tryz.underlying187 (by kernel_rfl) (by decide) (by decide)) ?_;(try simp only [Act.put,ptn]))|((with_reducible refine gd 201 rfl ?_);refine ev_val rfl (run_aload rfl rfl Tryz.underlying186 (HS.acell (q:=1) (j:=1) 4 rfl rfl (by decide) (by decide))) ?_;(try simp only [Act.put,ptn]))|((with_reducible refine gd 202 rfl ?_);refine ev_val rfl (run_aaddr (q:=2) (j:=2) rfl rfl rfl rfl Tryz.underlying187 (by kernel_rfl) (by decide) (by decide)) ?_;(try simp only [Act.put,ptn]))|((with_reducible refine gate_store (p:=202) rfl ?_);refine ev_aset rfl (j:=2) 4 2 (y126.get 1) HS rfl rfl rfl rfl rfl rfl (by kernel_rfl) (by decide) (by decide) ?_;clear HS;intro w130 HS;rw [←e_y129.out] at HS;(try simp only [hpn,hpm] at HS))|((with_reducible refine gd 203 rfl ?_);refine ev_val rfl (run_aaddr (q:=0) (j:=0) rfl rfl rfl rfl Tryz.underlying187 (by kernel_rfl) (by decide) (by decide)) ?_;(try simp only [Act.put,ptn]))|((with_reducible refine gd 204 rfl ?_);refine ev_val rfl (run_aload rfl rfl Tryz.underlying186 (HS.acell (q:=0) (j:=0) 4 rfl rfl (by decide) (by decide))) ?_;(try simp only [Act.put,ptn]))|((with_reducible refine gd 205 rfl ?_);refine ev_val rfl (run_aaddr (q:=1) (j:=1) rfl rfl rfl rfl Tryz.underlying187 (by kernel_rfl) (by decide) (by decide)) ?_;(try simp only [Act.put,ptn]))|((with_reducible refine gate_store (p:=205) rfl ?_);refine ev_aset rfl (j:=1) 4 1 (y129.get 0) HS rfl rfl rfl rfl rfl rfl (by kernel_rfl) (by decide) (by decide) ?_;clear HS;intro w133 HS;rw [←e_y132.out] at HS;(try simp only [hpn,hpm] at HS))|((with_reducible refine gd 209 rfl ?_);refine ev_val rfl (run_aaddr (q:=0) (j:=0) rfl rfl rfl rfl Tryz.underlying187 (by kernel_rfl) (by decide) (by decide)) ?_;(try simp only [Act.put,ptn]))|((with_reducible refine gate_store (p:=209) rfl ?_);refine ev_aset rfl (j:=0) 4 0 (IntKind.u32.wrap ((IntKind.u32.wrap ((IntKind.u32.wrap ((IntKind.u32.wrap ((IntKind.u32.wrap ((x102.get 7)+(Go.bits .xor .u32 (Go.bits .xor .u32 t1202001 t1205001) t1209001)))+(Go.bits .xor .u32 (Go.bits .and .u32 (x102.get 4) (x102.get 5)) (Go.bits .and .u32 (Go.bits .xor .u32 (x102.get 4) 4294967295) (x102.get 6)))))+(a2.get x101)))+(x45.get x101)))+(IntKind.u32.wrap ((Go.bits .xor .u32 (Go.bits .xor .u32 t1402001 t1405001) t1409001)+(Go.bits .xor .u32 (Go.bits .xor .u32 (Go.bits .and .u32 (x102.get 0) (x102.get 1)) (Go.bits .and .u32 (x102.get 0) (x102.get 2))) (Go.bits .and .u32 (x102.get 1) (x102.get 2))))))) HS rfl rfl rfl rfl rfl rfl (by kernel_rfl) (by decide) (by decide) ?_;clear HS;intro w136 HS;rw [←e_y135.out] at HS;(try simp only [hpn,hpm] at HS)))
       go_roundg k100
       case measure=>have:=HKk20.out;have:=HKk43.out;have:=HKk100.out;omega
       case rel=>exact⟨_,_,rfl,H,⟨by have:=HKk20.out;have:=HKk43.out;have:=HKk100.out;omega⟩,HS.pi [0,1,2,3,4]⟩
mutual
def spec_Digest.l0:Nat→Int→(Arr 8)→(Arr 64)→ByteArray→Option (ByteArray)
  |0,_,_,_,_=>none
  |k+1,x25,x26,t7,t13=>(if x25<(t13.size:Int)then(if 0≤x25 then(if x25≤(wrap64 (x25+64))then(if(wrap64 (x25+64))≤(t13.size:Int)then((spec_l03Block.f k x26 (t13.extract (x25).toNat ((wrap64 (x25+64))).toNat) t7).bind fun t15=>(spec_Digest.l0 k (wrap64 (x25+64)) t15 t7 t13))else none)else none)else none)else(spec_Digest.l1 k (List.replicate 32 (0:Int)) 0 x26))
def spec_Digest.l1:Nat→(List Int)→Int→(Arr 8)→Option (ByteArray)
  |0,_,_,_=>none
  |k+1,l63,x65,x26=>(if x65<8 then(if 0≤x65 then(if x65<8 then(if 0≤(wrap64 (4 * x65))then(if(wrap64 (4 * x65))<(32:Int)then(if 0≤(wrap64 ((wrap64 (4 * x65))+1))then(if(wrap64 ((wrap64 (4 * x65))+1))<(32:Int)then(if 0≤(wrap64 ((wrap64 (4 * x65))+2))then(if(wrap64 ((wrap64 (4 * x65))+2))<(32:Int)then(if 0≤(wrap64 ((wrap64 (4 * x65))+3))then(if(wrap64 ((wrap64 (4 * x65))+3))<(32:Int)then(spec_Digest.l1 k ((((l63.set ((wrap64 (4 * x65))).toNat (((x26.get x65) / 16777216) % 256)).set ((wrap64 ((wrap64 (4 * x65))+1))).toNat (((x26.get x65) / 65536) % 256)).set ((wrap64 ((wrap64 (4 * x65))+2))).toNat (((x26.get x65) / 256) % 256)).set ((wrap64 ((wrap64 (4 * x65))+3))).toNat ((x26.get x65) % 256)) (wrap64 (x65+1)) x26)else none)else none)else none)else none)else none)else none)else none)else none)else none)else none)else(some (strOfNums l63)))
end
def spec_Digest.f (k:Nat)(a0:ByteArray):Option (ByteArray):=((spec_l03First.f).bind fun t1=>((spec_l03Keys.f).bind fun t7=>((spec_PadText.f k a0).bind fun t13=>(spec_Digest.l0 k 0 t1 t7 t13))))
def spec_Digest.T7:TT:=(true,[([],[]),([],[]),([],[]),([],[]),([3],[3]),([1,2,4],[1,2,4]),([],[]),([0,5,6],[0,5,6]),([7,7,0,1,2,3,4,5,6,7],[7])])
theorem spec_Digest.tT7:rtab .any (opsOf Tryz.f163 7)=spec_Digest.T7:=by kernel_rfl
theorem spec_Digest.calls {k:Nat}{a0:ByteArray}{r:ByteArray}{w:World}(h:spec_Digest.f k a0=some r):
    Calls Tryz.prog 163 #[.string a0] w (fun e w'=>e=.returned (.string r)∧Hp noFP w w' []):=by
 have HS:=Hp.start w
 have H:=Aside0.mk h
 clear h
 unfold spec_Digest.f at H
 go_enter Tryz.func163,Tryz.ntmps163
 replace H:=zbind H;obtain⟨t1,ht1,H⟩:=H
 replace H:=zbind H;obtain⟨t7,ht7,H⟩:=H
 replace H:=zbind H;obtain⟨t13,ht13,H⟩:=H
 go_wp2_with (first|((with_reducible refine gd 9 rfl ?_);refine ev_call rfl Tryz.func164 (by kernel_rfl) rfl #[] rfl (by simp only [mpn]) ?_;refine(spec_l03First.calls ht1.out).mono ?_;rintro _ wt1 ⟨rfl,HQ⟩;refine⟨_,rfl,?_⟩;replace HS:=HS.call HQ;clear HQ;(try clear F);(try simp only [hpn,hpm] at HS))|((with_reducible refine gd 3 rfl ?_);refine ev_box (cs:=((Arr.zero 8).cells .u32)) rfl HS (by first|(go_simp;done)|(go_simp;rfl)) (by first|rfl|simp) ?_;clear HS;intro g3 w3 HS;(try simp only [hpn,hpm] at HS))|((with_reducible refine gate_store (p:=3) rfl ?_);refine ev_aput rfl 0 t1 HS rfl rfl rfl rfl rfl rfl (by kernel_rfl) ?_;clear HS;intro w5 HS;(try simp only [hpn,hpm] at HS))|((with_reducible refine gd 10 rfl ?_);refine ev_call rfl Tryz.func165 (by kernel_rfl) rfl #[] rfl (by simp only [mpn]) ?_;refine(spec_l03Keys.calls ht7.out).mono ?_;rintro _ wt7 ⟨rfl,HQ⟩;refine⟨_,rfl,?_⟩;replace HS:=HS.call HQ;clear HQ;(try clear F);(try simp only [hpn,hpm] at HS))|((with_reducible refine gd 4 rfl ?_);refine ev_box (cs:=((Arr.zero 64).cells .u32)) rfl HS (by first|(go_simp;done)|(go_simp;rfl)) (by first|rfl|simp) ?_;clear HS;intro g4 w4 HS;(try simp only [hpn,hpm] at HS))|((with_reducible refine gate_store (p:=4) rfl ?_);refine ev_aput rfl 1 t7 HS rfl rfl rfl rfl rfl rfl (by kernel_rfl) ?_;clear HS;intro w11 HS;(try simp only [hpn,hpm] at HS))|((with_reducible refine gd 12 rfl ?_);refine ev_cl HS (spec_PadText.calls ht13.out) Tryz.func166 ?_;clear HS;intro wt13 HS F))
 go_loopg [6] k (fun kq v_6 w'=>∃(x25:Int) (x26:(Arr 8)),v_6=.int .i64 x25∧Aside0 (spec_Digest.l0 kq x25 x26 t7 t13=some r)∧Aside0 (kq≤k)∧Hp noFP w w' [.box g3 (x26.cells .u32) 187,.box g4 (t7.cells .u32) 189])
 case atStart=>exact⟨_,_,rfl,H,⟨Nat.le_refl _⟩,HS⟩
 case round=>
  clear HS H;(try clear F)
  obtain⟨x25,x26,rfl,H,HKk24,HS⟩:=hrel
  cases gk with
  |zero=>exact absurd H.out (by simp [spec_Digest.l0])
  | succ k24=>
   simp only [spec_Digest.l0] at H
   replace H:=zif H;rcases H with⟨c28,H⟩|⟨c28,H⟩
   ·
    (try go_wp2)
    replace H:=zgo H;obtain⟨c10,H⟩:=H
    replace H:=zgo H;obtain⟨c12,H⟩:=H
    replace H:=zgo H;obtain⟨c14,H⟩:=H
    replace H:=zbind H;obtain⟨t15,ht15,H⟩:=H
    refine dr_start [8] HS #[false,false,false,false,false,false,false,false,false] (by kernel_rfl) rfl rfl spec_Digest.tT7 (fun w30 HT HS HH=>?_)
    (try clear F)
    refine dr_take 0 (some 19) HT HH (v:=.agg (x26.cells .u32).toArray) (a':=?_) rfl rfl (by kernel_rfl) (fun _ _ _ h=>h) (.inl ⟨by rfl,?_⟩) ?_ ?_
    · rintro w' ⟨rs',HS'⟩;exact(run_aloadw rfl rfl Tryz.underlying187 (by kernel_rfl) (HS'.boxAt (i:=0) rfl))
    rotate_left
    · simp only [Act.put,ptn];rfl
    refine dq [1,2,3,4] HT ?_
    refine dr_pure 5 (some 24) HT (v:=.string (t13.extract (x25).toNat ((wrap64 (x25+64))).toNat)) (a':=?_) rfl rfl (by kernel_rfl) (fun _ _ _ h=>h) (.inl ⟨by rfl,fun w'=>(run_cut rfl rfl Tryz.underlying9 (.inr ⟨_,_,rfl,rfl,of_eq_true c10⟩) (.inr ⟨_,_,rfl,rfl,by have:=of_eq_true c10;have:=of_eq_true c12;have:=of_eq_true c14;omega⟩) (by have:=of_eq_true c10;have:=of_eq_true c12;have:=of_eq_true c14;omega) (by have:=of_eq_true c10;have:=of_eq_true c12;have:=of_eq_true c14;omega))⟩) ?_ ?_
    rotate_left
    · simp only [Act.put,ptn];rfl
    refine dr_take 6 (some 25) HT HH (v:=.agg (t7.cells .u32).toArray) (a':=?_) rfl rfl (by kernel_rfl) (fun _ _ _ h=>h) (.inl ⟨by rfl,?_⟩) ?_ ?_
    · rintro w' ⟨rs',HS'⟩;exact(run_aloadw rfl rfl Tryz.underlying189 (by kernel_rfl) (HS'.boxAt (i:=1) rfl))
    rotate_left
    · simp only [Act.put,ptn];rfl
    refine dr1 7 HT fun K hK=>?_
    refine go_cl HS (spec_l03Block.calls ht15.out) Tryz.func167 ?_;clear HS;intro wt15 HS F
    refine nrm 26 hK ⟨_,HS⟩ fun HH=>?_;clear hK K
    refine dl 8 HT fun K hK=>?_
    refine if_wp (by rfl) ?_;refine wp_aput 0 t15 HS rfl rfl rfl rfl rfl rfl (by kernel_rfl) ?_;clear HS;intro w16 HS
    (try simp only [hpn,hpm] at HS)
    refine hK.out _ _ ?_
    clear hK K
    refine dn HT ?_
    go_wp2
    go_roundg k24
    case measure=>have:=HKk24.out;omega
    case rel=>exact⟨_,_,rfl,H,⟨by have:=HKk24.out;omega⟩,HS.pi [0,1]⟩
   go_wp2_with ((with_reducible refine gd 27 rfl ?_);refine ev_make rfl (Zd.int .u8) (0:Int) HS rfl (32:Int) rfl rfl Tryz.underlying22 info5 rfl (by decide) (by decide) (fun _ _=>rfl) (of_eq_true (eq_true (by decide:(0:Int)≤32))) (by have:=of_eq_true (eq_true (by decide:(32:Int).toNat≤281474976710656));omega) ?_;clear HS;intro v32 w32 HS;obtain⟨B32,d32,rfl,m32⟩:=HS.formn 32 2 rfl (by first|rfl|simp);(try simp only [hpn,hpm] at HS))
   (try obtain⟨wok62,rfl⟩:∃wo_:World,wo_=wr:=⟨_,rfl⟩)
   go_loopg [8] k24 (fun kq v_8 w'=>∃(l63:List Int) (x65:Int),v_8=.int .i64 x65∧Aside0 (spec_Digest.l1 kq l63 x65 x26=some r)∧Aside0 (kq≤k24)∧Hp noFP w w' [.box g3 (x26.cells .u32) 187,.box g4 (t7.cells .u32) 189,.own (Zd.slice 5 (Zd.int .u8)) l63 [.slice B32 32 d32]])
   case atStart=>exact⟨_,_,rfl,H,⟨Nat.le_refl _⟩,HS⟩
   case round=>
    clear HS H;(try clear F)
    obtain⟨l63,x65,rfl,H,HKk62,HS⟩:=hrel
    cases gk with
    |zero=>exact absurd H.out (by simp [spec_Digest.l1])
    | succ k62=>
     simp only [spec_Digest.l1] at H
     replace H:=znif H;rcases H with⟨c67,H⟩|⟨c67,H⟩
     ·
      obtain rfl:=zsome H
      go_wp2_with ((with_reducible refine gd 71 rfl ?_);refine ev_val rfl (run_str rfl rfl Tryz.underlying22 Tryz.underlying5 Tryz.underlying9 (HS.rd 2 rfl)) ?_)
      go_ret
      exact HS.pk
     replace H:=zgo H;obtain⟨c68,H⟩:=H
     replace H:=zgo H;obtain⟨c69,H⟩:=H
     replace H:=zgo H;obtain⟨c70,H⟩:=H
     replace H:=zgo H;obtain⟨c71,H⟩:=H
     replace H:=zgo H;obtain⟨c75,H⟩:=H
     replace H:=zgo H;obtain⟨c76,H⟩:=H
     replace H:=zgo H;obtain⟨c80,H⟩:=H
     replace H:=zgo H;obtain⟨c81,H⟩:=H
     replace H:=zgo H;obtain⟨c85,H⟩:=H
     replace H:=zgo H;obtain⟨c86,H⟩:=H
     go_wp2_with (first|((with_reducible refine gd 36 rfl ?_);refine ev_val rfl (run_aaddr (q:=x65) (j:=(x65).toNat) rfl rfl rfl rfl Tryz.underlying187 (by kernel_rfl) (of_eq_true c68) (of_eq_true c69)) ?_;(try simp only [Act.put,ptn]))|((with_reducible refine gd 37 rfl ?_);refine ev_val rfl (run_aload rfl rfl Tryz.underlying186 (HS.acell (q:=x65) (j:=(x65).toNat) 0 rfl rfl (of_eq_true c68) (of_eq_true c69))) ?_;(try simp only [Act.put,ptn]);obtain⟨ad72,rfl,e72_0⟩:=Kd.at_int (HS.rd 2 rfl) (wrap64 (4 * x65)) (of_eq_true c70) (of_eq_true c71))|((with_reducible refine gate_store (p:=40) rfl ?_);refine ev_set rfl (Zd.int .u8) 2 [] (wrap64 (4 * x65)) (((x26.get x65) / 16777216) % 256) HS (seg:=[.int .u8 (((x26.get x65) / 16777216) % 256)]) rfl (by decide) rfl rfl rfl (by first|rfl|exact(Nat.mul_one _).symm) rfl rfl (by kernel_rfl) (by simp [Value.oneCell']) ⟨of_eq_true c70,of_eq_true c71⟩ rfl (made_flat (fun _=>rfl)) ?_;clear HS;intro w73 HS;(try simp only [hpn,hpm] at HS))|((with_reducible refine gd 46 rfl ?_);refine ev_val rfl (run_aaddr (q:=x65) (j:=(x65).toNat) rfl rfl rfl rfl Tryz.underlying187 (by kernel_rfl) (of_eq_true c68) (of_eq_true c69)) ?_;(try simp only [Act.put,ptn]))|((with_reducible refine gd 47 rfl ?_);refine ev_val rfl (run_aload rfl rfl Tryz.underlying186 (HS.acell (q:=x65) (j:=(x65).toNat) 0 rfl rfl (of_eq_true c68) (of_eq_true c69))) ?_;(try simp only [Act.put,ptn]);obtain⟨ad77,hq77,e77_0⟩:=Kd.at_int (HS.rd 2 rfl) (wrap64 ((wrap64 (4 * x65))+1)) (of_eq_true c75) (of_eq_true c76);obtain rfl:=Option.some.inj hq77)|((with_reducible refine gate_store (p:=50) rfl ?_);refine ev_set rfl (Zd.int .u8) 2 [] (wrap64 ((wrap64 (4 * x65))+1)) (((x26.get x65) / 65536) % 256) HS (seg:=[.int .u8 (((x26.get x65) / 65536) % 256)]) rfl (by decide) rfl rfl rfl (by first|rfl|exact(Nat.mul_one _).symm) rfl rfl (by kernel_rfl) (by simp [Value.oneCell']) ⟨of_eq_true c75,of_eq_true c76⟩ rfl (made_flat (fun _=>rfl)) ?_;clear HS;intro w78 HS;(try simp only [hpn,hpm] at HS))|((with_reducible refine gd 56 rfl ?_);refine ev_val rfl (run_aaddr (q:=x65) (j:=(x65).toNat) rfl rfl rfl rfl Tryz.underlying187 (by kernel_rfl) (of_eq_true c68) (of_eq_true c69)) ?_;(try simp only [Act.put,ptn]))|((with_reducible refine gd 57 rfl ?_);refine ev_val rfl (run_aload rfl rfl Tryz.underlying186 (HS.acell (q:=x65) (j:=(x65).toNat) 0 rfl rfl (of_eq_true c68) (of_eq_true c69))) ?_;(try simp only [Act.put,ptn]);obtain⟨ad82,hq82,e82_0⟩:=Kd.at_int (HS.rd 2 rfl) (wrap64 ((wrap64 (4 * x65))+2)) (of_eq_true c80) (of_eq_true c81);obtain rfl:=Option.some.inj hq82)|((with_reducible refine gate_store (p:=60) rfl ?_);refine ev_set rfl (Zd.int .u8) 2 [] (wrap64 ((wrap64 (4 * x65))+2)) (((x26.get x65) / 256) % 256) HS (seg:=[.int .u8 (((x26.get x65) / 256) % 256)]) rfl (by decide) rfl rfl rfl (by first|rfl|exact(Nat.mul_one _).symm) rfl rfl (by kernel_rfl) (by simp [Value.oneCell']) ⟨of_eq_true c80,of_eq_true c81⟩ rfl (made_flat (fun _=>rfl)) ?_;clear HS;intro w83 HS;(try simp only [hpn,hpm] at HS))|((with_reducible refine gd 66 rfl ?_);refine ev_val rfl (run_aaddr (q:=x65) (j:=(x65).toNat) rfl rfl rfl rfl Tryz.underlying187 (by kernel_rfl) (of_eq_true c68) (of_eq_true c69)) ?_;(try simp only [Act.put,ptn]))|((with_reducible refine gd 67 rfl ?_);refine ev_val rfl (run_aload rfl rfl Tryz.underlying186 (HS.acell (q:=x65) (j:=(x65).toNat) 0 rfl rfl (of_eq_true c68) (of_eq_true c69))) ?_;(try simp only [Act.put,ptn]);obtain⟨ad87,hq87,e87_0⟩:=Kd.at_int (HS.rd 2 rfl) (wrap64 ((wrap64 (4 * x65))+3)) (of_eq_true c85) (of_eq_true c86);obtain rfl:=Option.some.inj hq87)|((with_reducible refine gate_store (p:=69) rfl ?_);refine ev_set rfl (Zd.int .u8) 2 [] (wrap64 ((wrap64 (4 * x65))+3)) ((x26.get x65) % 256) HS (seg:=[.int .u8 ((x26.get x65) % 256)]) rfl (by decide) rfl rfl rfl (by first|rfl|exact(Nat.mul_one _).symm) rfl rfl (by kernel_rfl) (by simp [Value.oneCell']) ⟨of_eq_true c85,of_eq_true c86⟩ rfl (made_flat (fun _=>rfl)) ?_;clear HS;intro w88 HS;(try simp only [hpn,hpm] at HS)))
     go_roundg k62
     case measure=>have:=HKk24.out;have:=HKk62.out;omega
     case rel=>exact⟨_,_,rfl,H,⟨by have:=HKk24.out;have:=HKk62.out;omega⟩,HS.pi [0,1,2]⟩
def spec_Padded.f (k:Nat)(a0:ByteArray):Option (ByteArray):=((spec_Digest.f k a0).bind fun t1=>(if 0≤6 then(if 6≤(t1.size:Int)then(if(⟨#[0,1,255,255,255,255,255,255,0]⟩:ByteArray).size+(t1.extract 0 6).size≤9223372036854775807 then(some ((⟨#[0,1,255,255,255,255,255,255,0]⟩:ByteArray)++(t1.extract 0 6)))else none)else none)else none))
theorem spec_Padded.calls {k:Nat}{a0:ByteArray}{r:ByteArray}{w:World}(h:spec_Padded.f k a0=some r):
    Calls Tryz.prog 159 #[.string a0] w (fun e w'=>e=.returned (.string r)∧Hp noFP w w' []):=by
 have HS:=Hp.start w
 have H:=Aside0.mk h
 clear h
 unfold spec_Padded.f at H
 go_enter Tryz.func159,Tryz.ntmps159
 replace H:=zbind H;obtain⟨t1,ht1,H⟩:=H
 replace H:=zgo H;obtain⟨c3,H⟩:=H
 replace H:=zgo H;obtain⟨c4,H⟩:=H
 replace H:=zgo H;obtain⟨c5,H⟩:=H
 obtain rfl:=zsome H
 go_wp2_with (first|((with_reducible refine gd 4 rfl ?_);refine ev_cl HS (spec_Digest.calls ht1.out) Tryz.func163 ?_;clear HS;intro wt1 HS F)|((with_reducible refine gd 5 rfl ?_);refine ev_val rfl (run_cut rfl rfl Tryz.underlying9 (.inl ⟨rfl,rfl⟩) (.inr ⟨_,_,rfl,rfl,by have:=of_eq_true (eq_true (by decide:(0:Int)≤0));have:=of_eq_true c3;have:=of_eq_true c4;omega⟩) (by have:=of_eq_true (eq_true (by decide:(0:Int)≤0));have:=of_eq_true c3;have:=of_eq_true c4;omega) (by have:=of_eq_true (eq_true (by decide:(0:Int)≤0));have:=of_eq_true c3;have:=of_eq_true c4;omega)) ?_)|((with_reducible refine gd 6 rfl ?_);refine ev_val rfl (run_cat rfl rfl rfl (of_eq_true c5)) ?_))
 go_ret
 exact HS.pk
def spec_SecretAt.f (k:Nat)(a0:Int):Option ((List Int)):=((spec_l01In.f a0 0 5).bind fun t3=>(if t3=true then(if 0≤a0 then(if a0<(6:Int)then((spec_NatFigures.f k (rdOf ByteArray.empty ([(⟨#[54,50,55,48,56,49,57,56,54,56,52,51,54,53,55,48,50,49,48,51,56,49,48,51,48,52,54,56,51,50,49,57,48,48,56,49]⟩:ByteArray),(⟨#[50,51,53,57,55,51,51,57,57,51,54,50,51,50,48,54,56,48,51,49,53,50,57,57,49,54,55,51,54,51,49,53,57,55,49,51]⟩:ByteArray),(⟨#[50,56,49,48,51,50,54,52,52,57,57,57,57,51,49,51,56,51,57,56,55,55,57,54,56,52,57,51,48,48,48,57,55,48,53,55]⟩:ByteArray),(⟨#[53,52,55,48,49,54,53,49,50,55,53,53,50,56,56,49,56,54,53,55,48,49,57,48,50,56,53,49,57,54,56,57,51,53,53,51]⟩:ByteArray),(⟨#[54,56,53,49,54,54,52,55,52,53,56,52,54,48,55,49,57,50,49,49,48,52,57,48,54,52,53,50,57,50,50,53,48,55,57,51]⟩:ByteArray),(⟨#[57,54,48,50,49,54,56,52,50,48,51,49,55,49,51,55,54,53,54,56,54,57,48,51,54,56,51,49,54,49,49,57,50,57,51]⟩:ByteArray)]:List ByteArray) a0)).bind fun t9=>(some t9))else none)else none)else(some ([]:List Int))))
theorem spec_SecretAt.calls {k:Nat}{a0:Int}{r:(List Int)}{w:World}(h:spec_SecretAt.f k a0=some r):
    Calls Tryz.prog 160 #[.int .i64 a0] w (fun e w'=>∃v0_:Value,e=.returned (v0_)∧Hp noFP w w' [.own (Zd.slice 3 (Zd.int .i64)) r [v0_]]):=by
 have HS:=Hp.start w
 have H:=Aside0.mk h
 clear h
 unfold spec_SecretAt.f at H
 go_enter Tryz.func160,Tryz.ntmps160
 replace H:=zbind H;obtain⟨t3,ht3,H⟩:=H
 go_upto_if 7 with(first|((with_reducible refine gd 4 rfl ?_);refine ev_li Zd.string [] ([(⟨#[54,50,55,48,56,49,57,56,54,56,52,51,54,53,55,48,50,49,48,51,56,49,48,51,48,52,54,56,51,50,49,57,48,48,56,49]⟩:ByteArray),(⟨#[50,51,53,57,55,51,51,57,57,51,54,50,51,50,48,54,56,48,51,49,53,50,57,57,49,54,55,51,54,51,49,53,57,55,49,51]⟩:ByteArray),(⟨#[50,56,49,48,51,50,54,52,52,57,57,57,57,51,49,51,56,51,57,56,55,55,57,54,56,52,57,51,48,48,48,57,55,48,53,55]⟩:ByteArray),(⟨#[53,52,55,48,49,54,53,49,50,55,53,53,50,56,56,49,56,54,53,55,48,49,57,48,50,56,53,49,57,54,56,57,51,53,53,51]⟩:ByteArray),(⟨#[54,56,53,49,54,54,52,55,52,53,56,52,54,48,55,49,57,50,49,49,48,52,57,48,54,52,53,50,57,50,50,53,48,55,57,51]⟩:ByteArray),(⟨#[57,54,48,50,49,54,56,52,50,48,51,49,55,49,51,55,54,53,54,56,54,57,48,51,54,56,51,49,54,49,49,57,50,57,51]⟩:ByteArray)]:List ByteArray) ([.string (⟨#[54,50,55,48,56,49,57,56,54,56,52,51,54,53,55,48,50,49,48,51,56,49,48,51,48,52,54,56,51,50,49,57,48,48,56,49]⟩:ByteArray)]++([.string (⟨#[50,51,53,57,55,51,51,57,57,51,54,50,51,50,48,54,56,48,51,49,53,50,57,57,49,54,55,51,54,51,49,53,57,55,49,51]⟩:ByteArray)]++([.string (⟨#[50,56,49,48,51,50,54,52,52,57,57,57,57,51,49,51,56,51,57,56,55,55,57,54,56,52,57,51,48,48,48,57,55,48,53,55]⟩:ByteArray)]++([.string (⟨#[53,52,55,48,49,54,53,49,50,55,53,53,50,56,56,49,56,54,53,55,48,49,57,48,50,56,53,49,57,54,56,57,51,53,53,51]⟩:ByteArray)]++([.string (⟨#[54,56,53,49,54,54,52,55,52,53,56,52,54,48,55,49,57,50,49,49,48,52,57,48,54,52,53,50,57,50,50,53,48,55,57,51]⟩:ByteArray)]++([.string (⟨#[57,54,48,50,49,54,56,52,50,48,51,49,55,49,51,55,54,53,54,56,54,57,48,51,54,56,51,49,54,49,49,57,50,57,51]⟩:ByteArray)]++ [])))))) HS (MadeL.cons (js1:=[]) (c:=[.string (⟨#[54,50,55,48,56,49,57,56,54,56,52,51,54,53,55,48,50,49,48,51,56,49,48,51,48,52,54,56,51,50,49,57,48,48,56,49]⟩:ByteArray)]) rfl (made_flat (fun _=>rfl)) (MadeL.cons (js1:=[]) (c:=[.string (⟨#[50,51,53,57,55,51,51,57,57,51,54,50,51,50,48,54,56,48,51,49,53,50,57,57,49,54,55,51,54,51,49,53,57,55,49,51]⟩:ByteArray)]) rfl (made_flat (fun _=>rfl)) (MadeL.cons (js1:=[]) (c:=[.string (⟨#[50,56,49,48,51,50,54,52,52,57,57,57,57,51,49,51,56,51,57,56,55,55,57,54,56,52,57,51,48,48,48,57,55,48,53,55]⟩:ByteArray)]) rfl (made_flat (fun _=>rfl)) (MadeL.cons (js1:=[]) (c:=[.string (⟨#[53,52,55,48,49,54,53,49,50,55,53,53,50,56,56,49,56,54,53,55,48,49,57,48,50,56,53,49,57,54,56,57,51,53,53,51]⟩:ByteArray)]) rfl (made_flat (fun _=>rfl)) (MadeL.cons (js1:=[]) (c:=[.string (⟨#[54,56,53,49,54,54,52,55,52,53,56,52,54,48,55,49,57,50,49,49,48,52,57,48,54,52,53,50,57,50,50,53,48,55,57,51]⟩:ByteArray)]) rfl (made_flat (fun _=>rfl)) (MadeL.cons (js1:=[]) (c:=[.string (⟨#[57,54,48,50,49,54,56,52,50,48,51,49,55,49,51,55,54,53,54,56,54,57,48,51,54,56,51,49,54,49,49,57,50,57,51]⟩:ByteArray)]) rfl (made_flat (fun _=>rfl)) MadeL.nil (by decide)) (by decide)) (by decide)) (by decide)) (by decide)) (by decide)) ?_;clear HS;intro v1 w1 HS F;obtain⟨B1,d1,rfl,m1⟩:=HS.formn 6 0 rfl rfl)|((with_reducible refine gd 6 rfl ?_);refine ev_cl HS (spec_l01In.calls ht3.out) Tryz.func54 ?_;clear HS;intro wt3 HS F))
 replace H:=znifb H;rcases H with⟨c5,H⟩|⟨c5,H⟩
 ·
  subst c5
  (try simp only [dcn,dcu,dcf])
  obtain rfl:=zsome H
  go_wp2_with ((with_reducible refine gd 8 rfl ?_);refine ev_li (Zd.int .i64) [] ([]:List Int) [] HS MadeL.nil ?_;clear HS;intro v12 w12 HS F;obtain⟨B12,d12,rfl,m12⟩:=HS.formn 0 1 rfl rfl)
  exact r1 ⟨_,rfl,HS.pi [1]⟩
 subst c5
 (try simp only [dcn,dcu,dcf])
 replace H:=zgo H;obtain⟨c6,H⟩:=H
 replace H:=zgo H;obtain⟨c7,H⟩:=H
 obtain⟨ad8,rfl,e8_0⟩:=Kd.at_string (HS.rd 0 rfl) a0 (of_eq_true c6) (of_eq_true c7)
 replace H:=zbind H;obtain⟨t9,ht9,H⟩:=H
 obtain rfl:=zsome H
 go_wp2_with ((with_reducible refine gd 13 rfl ?_);refine ev_cl1 HS (spec_NatFigures.calls ht9.out) Tryz.func135 ?_;clear HS;intro v10 wt9 HS F;obtain⟨B10,d10,rfl,m10⟩:=HS.form 1 rfl)
 exact r1 ⟨_,rfl,HS.pi [1]⟩
def spec_SignWith.l0:Nat→ByteArray→Option (ByteArray)
  |0,_=>none
  |k+1,x23=>(if(x23.size:Int)<15 then(if(⟨#[0]⟩:ByteArray).size+x23.size≤9223372036854775807 then(spec_SignWith.l0 k ((⟨#[0]⟩:ByteArray)++x23))else none)else(some x23))
def spec_SignWith.f (k:Nat)(a0:Int)(a1:ByteArray):Option (ByteArray):=((spec_l01In.f a0 0 5).bind fun t1=>(if t1=true then((spec_Padded.f k a1).bind fun t4=>((spec_ReadNat.f k t4).bind fun t6=>((spec_SecretAt.f k a0).bind fun t9=>((spec_l06Public.f k a0).bind fun t12=>((spec_PowMod.f k t6 t9 t12).bind fun t15=>((spec_NatText.f k t15).bind fun t18=>(spec_SignWith.l0 k t18)))))))else(some (⟨#[]⟩:ByteArray))))
theorem spec_SignWith.calls {k:Nat}{a0:Int}{a1:ByteArray}{r:ByteArray}{w:World}(h:spec_SignWith.f k a0 a1=some r):
    Calls Tryz.prog 144 #[.int .i64 a0,.string a1] w (fun e w'=>e=.returned (.string r)∧Hp noFP w w' []):=by
 have HS:=Hp.start w
 have H:=Aside0.mk h
 clear h
 unfold spec_SignWith.f at H
 go_enter Tryz.func144,Tryz.ntmps144
 replace H:=zbind H;obtain⟨t1,ht1,H⟩:=H
 go_upto_if 8 with((with_reducible refine gd 7 rfl ?_);refine ev_cl HS (spec_l01In.calls ht1.out) Tryz.func54 ?_;clear HS;intro wt1 HS F)
 replace H:=znifb H;rcases H with⟨c3,H⟩|⟨c3,H⟩
 ·
  subst c3
  (try simp only [dcn,dcu,dcf])
  obtain rfl:=zsome H
  go_wp2
  go_ret
  exact HS.pk
 subst c3
 (try simp only [dcn,dcu,dcf])
 replace H:=zbind H;obtain⟨t4,ht4,H⟩:=H
 replace H:=zbind H;obtain⟨t6,ht6,H⟩:=H
 replace H:=zbind H;obtain⟨t9,ht9,H⟩:=H
 replace H:=zbind H;obtain⟨t12,ht12,H⟩:=H
 replace H:=zbind H;obtain⟨t15,ht15,H⟩:=H
 replace H:=zbind H;obtain⟨t18,ht18,H⟩:=H
 go_wp2_with (first|((with_reducible refine gd 10 rfl ?_);refine ev_cl HS (spec_Padded.calls ht4.out) Tryz.func159 ?_;clear HS;intro wt4 HS F)|((with_reducible refine gd 11 rfl ?_);refine ev_cl1 HS (spec_ReadNat.calls ht6.out) Tryz.func158 ?_;clear HS;intro v7 wt6 HS F;obtain⟨B7,d7,rfl,m7⟩:=HS.form 0 rfl)|((with_reducible refine gd 13 rfl ?_);refine ev_cl1 HS (spec_SecretAt.calls ht9.out) Tryz.func160 ?_;clear HS;intro v10 wt9 HS F;obtain⟨B10,d10,rfl,m10⟩:=HS.form 1 rfl)|((with_reducible refine gd 15 rfl ?_);refine ev_cl1 HS (spec_l06Public.calls ht12.out) Tryz.func118 ?_;clear HS;intro v13 wt12 HS F;obtain⟨B13,d13,rfl,m13⟩:=HS.form 2 rfl)|((with_reducible refine gd 16 rfl ?_);refine ev_cl1 HS (spec_PowMod.calls ht15.out (HS.rd 0 rfl) m7 (HS.rd 1 rfl) m10 (HS.rd 2 rfl) m13) Tryz.func157 ?_;clear HS;intro v16 wt15 HS F;obtain⟨B16,d16,rfl,m16⟩:=HS.form 3 rfl)|((with_reducible refine gd 17 rfl ?_);refine ev_cl HS (spec_NatText.calls ht18.out (HS.rd 3 rfl) m16) Tryz.func117 ?_;clear HS;intro wt18 HS F))
 go_loopg [5] k (fun kq v_5 w'=>∃(x23:ByteArray),v_5=.string x23∧Aside0 (spec_SignWith.l0 kq x23=some r)∧Aside0 (kq≤k)∧Hp noFP w w' [.own (Zd.slice 3 (Zd.int .i64)) t6 [.slice B7 t6.length d7],.own (Zd.slice 3 (Zd.int .i64)) t9 [.slice B10 t9.length d10],.own (Zd.slice 3 (Zd.int .i64)) t12 [.slice B13 t12.length d13],.own (Zd.slice 3 (Zd.int .i64)) t15 [.slice B16 t15.length d16]])
 case atStart=>exact⟨_,rfl,H,⟨Nat.le_refl _⟩,HS⟩
 case round=>
  clear HS H;(try clear F)
  obtain⟨x23,rfl,H,HKk22,HS⟩:=hrel
  cases gk with
  |zero=>exact absurd H.out (by simp [spec_SignWith.l0])
  | succ k22=>
   simp only [spec_SignWith.l0] at H
   replace H:=znif H;rcases H with⟨c25,H⟩|⟨c25,H⟩
   ·
    obtain rfl:=zsome H
    go_wp2
    go_ret
    exact HS.pk
   replace H:=zgo H;obtain⟨c26,H⟩:=H
   go_wp2_with ((with_reducible refine gd 22 rfl ?_);refine ev_val rfl (run_cat rfl rfl rfl (of_eq_true c26)) ?_)
   go_roundg k22
   case measure=>have:=HKk22.out;omega
   case rel=>exact⟨_,rfl,H,⟨by have:=HKk22.out;omega⟩,HS.pi [0,1,2,3]⟩
def spec_TextItem.f (a0:ByteArray):Option (S66):=(some (⟨12,a0,([]:List S66)⟩:S66))
theorem spec_TextItem.calls {a0:ByteArray}{r:S66}{w:World}(h:spec_TextItem.f a0=some r):
    Calls Tryz.prog 138 #[.string a0] w (fun e w'=>∃v0_:Value,e=.returned (.agg #[.int .i64 r.f0,.string r.f1,v0_])∧Hp noFP w w' [.own (Zd.slice 66 q66) r.f2 [v0_]]):=by
 have HS:=Hp.start w
 have H:=Aside0.mk h
 clear h
 unfold spec_TextItem.f at H
 go_enter Tryz.func138,Tryz.ntmps138
 obtain rfl:=zsome H
 go_wp2_with (first|((with_reducible refine gd 2 rfl ?_);refine ev_bx HS ?_;clear HS;intro g2 w2 HS F)|((with_reducible refine gate_store (p:=2) rfl ?_);refine ev_st 0 0 HS (seg:=[.int .i64 12,.string a0,.slice none 0 0]) ?_;clear HS;intro w3 HS F))
 replace HS:=HS.nil 66 q66
 exact rc 0 HS Tryz.underlying66 ⟨_,rfl,HS.pi [1]⟩
mutual
def spec_IntItem.l0:Nat→Int→ByteArray→Option (S66)
  |0,_,_=>none
  |k+1,x15,x16=>(if 0<x15 then(if(strOfNums ([((Int.tmod x15 256) % 256)]:List Int)).size+x16.size≤9223372036854775807 then(spec_IntItem.l0 k (wrap64 (Int.tdiv x15 256)) ((strOfNums ([((Int.tmod x15 256) % 256)]:List Int))++x16))else none)else(if x16.toList=([]:List UInt8)then(if(⟨#[0]⟩:ByteArray).size+x16.size≤9223372036854775807 then(some (⟨2,((⟨#[0]⟩:ByteArray)++x16),([]:List S66)⟩:S66))else none)else(if 0<(x16.size:Int)then(if 128≤(bt x16 0)then(if(⟨#[0]⟩:ByteArray).size+x16.size≤9223372036854775807 then(some (⟨2,((⟨#[0]⟩:ByteArray)++x16),([]:List S66)⟩:S66))else none)else(some (⟨2,x16,([]:List S66)⟩:S66)))else none)))
def spec_IntItem.l1:Nat→Int→ByteArray→Option (S66)
  |0,_,_=>none
  |k+1,x44,x45=>(if 0<x44 then(if(strOfNums ([((Int.tmod x44 256) % 256)]:List Int)).size+x45.size≤9223372036854775807 then(spec_IntItem.l1 k (wrap64 (Int.tdiv x44 256)) ((strOfNums ([((Int.tmod x44 256) % 256)]:List Int))++x45))else none)else(if x45.toList=([]:List UInt8)then(if(⟨#[0]⟩:ByteArray).size+x45.size≤9223372036854775807 then(some (⟨2,((⟨#[0]⟩:ByteArray)++x45),([]:List S66)⟩:S66))else none)else(if 0<(x45.size:Int)then(if 128≤(bt x45 0)then(if(⟨#[0]⟩:ByteArray).size+x45.size≤9223372036854775807 then(some (⟨2,((⟨#[0]⟩:ByteArray)++x45),([]:List S66)⟩:S66))else none)else(some (⟨2,x45,([]:List S66)⟩:S66)))else none)))
end
def spec_IntItem.f (k:Nat)(a0:Int):Option (S66):=((spec_l01In.f a0 0 1000000000).bind fun t3=>(if t3=true then(spec_IntItem.l0 k a0 (⟨#[]⟩:ByteArray))else(spec_IntItem.l1 k 0 (⟨#[]⟩:ByteArray))))
theorem spec_IntItem.calls {k:Nat}{a0:Int}{r:S66}{w:World}(h:spec_IntItem.f k a0=some r):
    Calls Tryz.prog 38 #[.int .i64 a0] w (fun e w'=>∃v0_:Value,e=.returned (.agg #[.int .i64 r.f0,.string r.f1,v0_])∧Hp noFP w w' [.own (Zd.slice 66 q66) r.f2 [v0_]]):=by
 have HS:=Hp.start w
 have H:=Aside0.mk h
 clear h
 unfold spec_IntItem.f at H
 go_enter Tryz.func38,Tryz.ntmps38
 replace H:=zbind H;obtain⟨t3,ht3,H⟩:=H
 go_upto_if 6 with(first|((with_reducible refine gd 2 rfl ?_);refine ev_bx HS ?_;clear HS;intro g2 w2 HS F)|((with_reducible refine gd 5 rfl ?_);refine ev_cl HS (spec_l01In.calls ht3.out) Tryz.func54 ?_;clear HS;intro wt3 HS F))
 replace H:=zifb H;rcases H with⟨c5,H⟩|⟨c5,H⟩
 ·
  subst c5
  (try simp only [dcn,dcu,dcf])
  go_wp2
  go_loopg [0,3] k (fun kq v_0 v_3 w'=>∃(x15:Int) (x16:ByteArray),v_0=.int .i64 x15∧v_3=.string x16∧Aside0 (spec_IntItem.l0 kq x15 x16=some r)∧Aside0 (kq≤k)∧Hp noFP w w' [.box g2 [.int .i64 0,.string (⟨#[]⟩:ByteArray),.slice none 0 0] 66])
  case atStart=>exact⟨_,_,rfl,rfl,H,⟨Nat.le_refl _⟩,HS⟩
  case round=>
   clear HS H;(try clear F)
   obtain⟨x15,x16,rfl,rfl,H,HKk14,HS⟩:=hrel
   have F:=HS.bx
   cases gk with
   |zero=>exact absurd H.out (by simp [spec_IntItem.l0])
   | succ k14=>
    simp only [spec_IntItem.l0] at H
    replace H:=zif H;rcases H with⟨c18,H⟩|⟨c18,H⟩
    ·
     replace H:=zgo H;obtain⟨c21,H⟩:=H
     go_wp2_with (first|((with_reducible refine gd 12 rfl ?_);refine ev_li (Zd.int .u8) [] ([((Int.tmod x15 256) % 256)]:List Int) ([.int .u8 ((Int.tmod x15 256) % 256)]++ []) HS (MadeL.cons (js1:=[]) (c:=[.int .u8 ((Int.tmod x15 256) % 256)]) rfl (made_flat (fun _=>rfl)) MadeL.nil (by decide)) ?_;clear HS;intro v19 w19 HS F;obtain⟨B19,d19,rfl,m19⟩:=HS.formn 1 1 rfl rfl)|((with_reducible refine gd 13 rfl ?_);refine ev_val rfl (run_str rfl rfl Tryz.underlying22 Tryz.underlying5 Tryz.underlying9 (HS.rd 1 rfl)) ?_)|((with_reducible refine gd 15 rfl ?_);refine ev_val rfl (run_cat rfl rfl rfl (of_eq_true c21)) ?_))
     go_roundg k14
     case measure=>have:=HKk14.out;omega
     case rel=>exact⟨_,_,rfl,rfl,H,⟨by have:=HKk14.out;omega⟩,HS.pi [0]⟩
    replace H:=zif' H;rcases H with⟨c22,H⟩|⟨c22,H⟩
    ·
     have c22a:=beq_iff_eq.mpr c22
     have c22b:=bne_eq_false_iff_eq.mpr c22
     have c22e:=List.isEmpty_iff.mpr c22
     clear c22
     replace H:=zgo H;obtain⟨c23,H⟩:=H
     obtain rfl:=zsome H
     go_wp2_with (first|((with_reducible refine gd 26 rfl ?_);refine ev_val rfl (run_cat rfl rfl rfl (of_eq_true c23)) ?_)|((with_reducible refine gate_store (p:=2) rfl ?_);refine ev_st 0 0 HS (seg:=[.int .i64 2,.string ((⟨#[0]⟩:ByteArray)++x16),.slice none 0 0]) ?_;clear HS;intro w24 HS F))
     replace HS:=HS.nil 66 q66
     exact rc 0 HS Tryz.underlying66 ⟨_,rfl,HS.pi [1]⟩
    have c22a:=beq_eq_false_iff_ne.mpr c22
    have c22b:=bne_iff_ne.mpr c22
    have c22e:=List.isEmpty_eq_false_iff.mpr c22
    clear c22
    replace H:=zgo H;obtain⟨c26,H⟩:=H
    have c26n:(0<x16.size)=True:=eq_true (by have:=of_eq_true c26;omega)
    have hx27:∀h:0<x16.size,((x16[0]'h).toNat:Int)=bt x16 0:=bt_at x16 0
    have hz28:0<x16.size:=(by have:=of_eq_true c26;omega)
    replace H:=znif H;rcases H with⟨c29,H⟩|⟨c29,H⟩
    ·
     obtain rfl:=zsome H
     go_wp2_with ((with_reducible refine gate_store (p:=2) rfl ?_);refine ev_st 0 0 HS (seg:=[.int .i64 2,.string x16,.slice none 0 0]) ?_;clear HS;intro w33 HS F)
     replace HS:=HS.nil 66 q66
     exact rc 0 HS Tryz.underlying66 ⟨_,rfl,HS.pi [1]⟩
    replace H:=zgo H;obtain⟨c30,H⟩:=H
    obtain rfl:=zsome H
    go_wp2_with (first|((with_reducible refine gd 26 rfl ?_);refine ev_val rfl (run_cat rfl rfl rfl (of_eq_true c30)) ?_)|((with_reducible refine gate_store (p:=2) rfl ?_);refine ev_st 0 0 HS (seg:=[.int .i64 2,.string ((⟨#[0]⟩:ByteArray)++x16),.slice none 0 0]) ?_;clear HS;intro w31 HS F))
    replace HS:=HS.nil 66 q66
    exact rc 0 HS Tryz.underlying66 ⟨_,rfl,HS.pi [1]⟩
 subst c5
 (try simp only [dcn,dcu,dcf])
 go_wp2
 go_loopg [0,3] k (fun kq v_0 v_3 w'=>∃(x44:Int) (x45:ByteArray),v_0=.int .i64 x44∧v_3=.string x45∧Aside0 (spec_IntItem.l1 kq x44 x45=some r)∧Aside0 (kq≤k)∧Hp noFP w w' [.box g2 [.int .i64 0,.string (⟨#[]⟩:ByteArray),.slice none 0 0] 66])
 case atStart=>exact⟨_,_,rfl,rfl,H,⟨Nat.le_refl _⟩,HS⟩
 case round=>
  clear HS H;(try clear F)
  obtain⟨x44,x45,rfl,rfl,H,HKk43,HS⟩:=hrel
  have F:=HS.bx
  cases gk with
  |zero=>exact absurd H.out (by simp [spec_IntItem.l1])
  | succ k43=>
   simp only [spec_IntItem.l1] at H
   replace H:=zif H;rcases H with⟨c47,H⟩|⟨c47,H⟩
   ·
    replace H:=zgo H;obtain⟨c50,H⟩:=H
    go_wp2_with (first|((with_reducible refine gd 12 rfl ?_);refine ev_li (Zd.int .u8) [] ([((Int.tmod x44 256) % 256)]:List Int) ([.int .u8 ((Int.tmod x44 256) % 256)]++ []) HS (MadeL.cons (js1:=[]) (c:=[.int .u8 ((Int.tmod x44 256) % 256)]) rfl (made_flat (fun _=>rfl)) MadeL.nil (by decide)) ?_;clear HS;intro v48 w48 HS F;obtain⟨B48,d48,rfl,m48⟩:=HS.formn 1 1 rfl rfl)|((with_reducible refine gd 13 rfl ?_);refine ev_val rfl (run_str rfl rfl Tryz.underlying22 Tryz.underlying5 Tryz.underlying9 (HS.rd 1 rfl)) ?_)|((with_reducible refine gd 15 rfl ?_);refine ev_val rfl (run_cat rfl rfl rfl (of_eq_true c50)) ?_))
    go_roundg k43
    case measure=>have:=HKk43.out;omega
    case rel=>exact⟨_,_,rfl,rfl,H,⟨by have:=HKk43.out;omega⟩,HS.pi [0]⟩
   replace H:=zif' H;rcases H with⟨c51,H⟩|⟨c51,H⟩
   ·
    have c51a:=beq_iff_eq.mpr c51
    have c51b:=bne_eq_false_iff_eq.mpr c51
    have c51e:=List.isEmpty_iff.mpr c51
    clear c51
    replace H:=zgo H;obtain⟨c52,H⟩:=H
    obtain rfl:=zsome H
    go_wp2_with (first|((with_reducible refine gd 26 rfl ?_);refine ev_val rfl (run_cat rfl rfl rfl (of_eq_true c52)) ?_)|((with_reducible refine gate_store (p:=2) rfl ?_);refine ev_st 0 0 HS (seg:=[.int .i64 2,.string ((⟨#[0]⟩:ByteArray)++x45),.slice none 0 0]) ?_;clear HS;intro w53 HS F))
    replace HS:=HS.nil 66 q66
    exact rc 0 HS Tryz.underlying66 ⟨_,rfl,HS.pi [1]⟩
   have c51a:=beq_eq_false_iff_ne.mpr c51
   have c51b:=bne_iff_ne.mpr c51
   have c51e:=List.isEmpty_eq_false_iff.mpr c51
   clear c51
   replace H:=zgo H;obtain⟨c55,H⟩:=H
   have c55n:(0<x45.size)=True:=eq_true (by have:=of_eq_true c55;omega)
   have hx56:∀h:0<x45.size,((x45[0]'h).toNat:Int)=bt x45 0:=bt_at x45 0
   have hz57:0<x45.size:=(by have:=of_eq_true c55;omega)
   replace H:=znif H;rcases H with⟨c58,H⟩|⟨c58,H⟩
   ·
    obtain rfl:=zsome H
    go_wp2_with ((with_reducible refine gate_store (p:=2) rfl ?_);refine ev_st 0 0 HS (seg:=[.int .i64 2,.string x45,.slice none 0 0]) ?_;clear HS;intro w62 HS F)
    replace HS:=HS.nil 66 q66
    exact rc 0 HS Tryz.underlying66 ⟨_,rfl,HS.pi [1]⟩
   replace H:=zgo H;obtain⟨c59,H⟩:=H
   obtain rfl:=zsome H
   go_wp2_with (first|((with_reducible refine gd 26 rfl ?_);refine ev_val rfl (run_cat rfl rfl rfl (of_eq_true c59)) ?_)|((with_reducible refine gate_store (p:=2) rfl ?_);refine ev_st 0 0 HS (seg:=[.int .i64 2,.string ((⟨#[0]⟩:ByteArray)++x45),.slice none 0 0]) ?_;clear HS;intro w60 HS F))
   replace HS:=HS.nil 66 q66
   exact rc 0 HS Tryz.underlying66 ⟨_,rfl,HS.pi [1]⟩
def spec_l09Ints.l0:Nat→(List S66)→Int→(List Int)→Option (S66)
  |0,_,_,_=>none
  |k+1,l19,x21,a0=>(if x21<(a0.length:Int)then(if 0≤x21 then(if x21<(a0.length:Int)then((spec_IntItem.f k (rd a0 x21)).bind fun t9=>(if l19.length+1≤2932031007402 then(lets (l19++([t9]:List S66)) fun y13=>(spec_l09Ints.l0 k y13 (wrap64 (x21+1)) a0))else none))else none)else none)else(some (⟨48,(⟨#[]⟩:ByteArray),l19⟩:S66)))
def spec_l09Ints.f (k:Nat)(a0:(List Int)):Option (S66):=(spec_l09Ints.l0 k [] 0 a0)
def spec_l09Ints.T5:TT:=(true,[([],[]),([0],[0]),([],[]),([],[]),([2,3],[2,3]),([4],[4]),([5],[5]),([6],[6]),([1,7,6],[1,7]),([0,1,2,3,4,5,6,7,8],[]),([9,8,8,0,1,2,3,4,5,6,7,8],[8,9])])
theorem spec_l09Ints.tT5:rtab .any (opsOf Tryz.f139 5)=spec_l09Ints.T5:=by kernel_rfl
theorem spec_l09Ints.calls {k:Nat}{a0:(List Int)}{Ap0:Option Addr}{np0 cp0:Nat}{r:S66}{w:World}(h:spec_l09Ints.f k a0=some r)(gp0:(Kd.int .i64).C w Ap0 np0 a0)(lp0:np0≤cp0):
    Calls Tryz.prog 139 #[.slice Ap0 np0 cp0] w (fun e w'=>∃v0_:Value,e=.returned (.agg #[.int .i64 r.f0,.string r.f1,v0_])∧Hp noFP w w' [.own (Zd.slice 66 q66) r.f2 [v0_]]):=by
 obtain rfl:=C_len gp0
 have HS:=Hp.start w
 have H:=Aside0.mk h
 clear h
 unfold spec_l09Ints.f at H
 go_enter Tryz.func139,Tryz.ntmps139
 go_wp2_with (first|((with_reducible refine gd 2 rfl ?_);refine ev_bx HS ?_;clear HS;intro g2 w2 HS F)|((with_reducible refine gd 3 rfl ?_);refine ev_bx HS ?_;clear HS;intro g3 w3 HS F)|((with_reducible refine gate_store (p:=3) rfl ?_);refine ev_st 1 0 HS (seg:=[.int .i64 48,.string (⟨#[]⟩:ByteArray),.slice none 0 0]) ?_;clear HS;intro w5 HS F))
 replace HS:=HS.nil 66 q66
 go_loopg [4] k (fun kq v_4 w'=>∃(l19:List S66) (v20:Value) (x21:Int),v_4=.int .i64 x21∧Aside0 (spec_l09Ints.l0 kq l19 x21 a0=some r)∧Aside0 (kq≤k)∧Hp noFP w w' [.box g2 [.int .i64 0,.string (⟨#[]⟩:ByteArray),.slice none 0 0] 66,.box g3 [.int .i64 48,.string (⟨#[]⟩:ByteArray),v20] 66,.own (Zd.slice 66 q66) l19 [v20]])
 case atStart=>exact⟨_,_,_,rfl,H,⟨Nat.le_refl _⟩,HS⟩
 case round=>
  clear HS H;(try clear F)
  obtain⟨l19,v20,x21,rfl,H,HKk18,HS⟩:=hrel
  obtain⟨B20,d20,rfl,m20⟩:=HS.form 2 rfl
  have F:=HS.bx
  cases gk with
  |zero=>exact absurd H.out (by simp [spec_l09Ints.l0])
  | succ k18=>
   simp only [spec_l09Ints.l0] at H
   replace H:=znif H;rcases H with⟨c23,H⟩|⟨c23,H⟩
   ·
    obtain rfl:=zsome H
    go_wp2_with ((with_reducible refine gate_store (p:=2) rfl ?_);refine ev_st 0 0 HS (seg:=[.int .i64 48,.string (⟨#[]⟩:ByteArray),.slice B20 l19.length d20]) ?_;clear HS;intro w27 HS F)
    exact rc 0 HS Tryz.underlying66 ⟨_,rfl,HS.pi [2]⟩
   (try go_wp2)
   replace H:=zgo H;obtain⟨c6,H⟩:=H
   replace H:=zgo H;obtain⟨c7,H⟩:=H
   obtain⟨ad8,rfl,e8_0⟩:=Kd.at_int gp0 x21 (of_eq_true c6) (of_eq_true c7)
   replace H:=zbind H;obtain⟨t9,ht9,H⟩:=H
   replace H:=zgo H;obtain⟨c12,H⟩:=H
   replace H:=zlets H;obtain⟨y13,e_y13,H⟩:=H
   refine dr_start2 [.box g2 [.int .i64 0,.string (⟨#[]⟩:ByteArray),.slice none 0 0] 66,.box g3 [.int .i64 48,.string (⟨#[]⟩:ByteArray),.slice B20 l19.length d20] 66,.emp] [10] HS (HS.ar [some 0,some 1,none]) #[false,false,false,false,false,false,false,false,false,false,false] (by kernel_rfl) rfl rfl spec_l09Ints.tT5 (fun w25 HT HS HH=>?_)
   (try clear F)
   refine dqt [0,1,2,3,4] HT HH ?_
   refine dtk 5 17 HT HH rfl (by rintro w' ⟨rs',HS'⟩;have e8_0:=HS'.keepc e8_0;go_simp;with_reducible rfl) ?_
   refine dr1 6 HT fun K hK=>?_
   refine go_cl1 HS (spec_IntItem.calls ht9.out) Tryz.func38 ?_;clear HS;intro v10 wt9 HS F;obtain⟨B10,d10,rfl,m10⟩:=HS.form 3 rfl
   refine nra 18 hK (HS.ar [some 0,some 1,none]) fun HH=>?_;clear hK K
   refine dr1 7 HT fun K hK=>?_
   refine if_li q66 [3] ([t9]:List S66) ([.int .i64 t9.f0,.string t9.f1,.slice B10 t9.f2.length d10]++ []) HS (MadeL.cons (js1:=[3]) (c:=[.int .i64 t9.f0,.string t9.f1,.slice B10 t9.f2.length d10]) rfl (fun S hd hh=>q66_pack (x:=t9) hd (hh 3 (.own (Zd.slice 66 q66) t9.f2 [.slice B10 t9.f2.length d10]) rfl) (by decide)) MadeL.nil (by decide)) ?_;clear HS;intro v11 w11 HS F;obtain⟨B11,d11,rfl,m11⟩:=HS.formn 1 4 rfl rfl
   refine nra 19 hK (HS.ar [some 0,some 1,none]) fun HH=>?_;clear hK K
   refine dr1 8 HT fun K hK=>?_
   refine wp_ap q66 2 4 HS rfl rfl Tryz.underlying64 info66 (of_eq_true c12) ?_;clear HS;intro v13 w13 HS;rw [←e_y13.out] at HS;obtain⟨B13,d13,rfl,m13⟩:=HS.form 5 rfl
   (try simp only [hpn,hpm] at HS)
   have F:=HS.bx
   refine nra 20 hK (HS.ar [some 0,some 1,none]) fun HH=>?_;clear hK K
   refine dq [9] HT ?_
   refine dl 10 HT fun K hK=>?_
   refine if_st 1 2 HS (seg:=[.slice B13 y13.length d13]) ?_;clear HS;intro w14 HS F
   refine hK.out _ _ ?_
   clear hK K
   refine dn HT ?_
   (try clear F)
   have F:=HS.bx
   go_wp2
   go_roundg k18
   case measure=>have:=HKk18.out;omega
   case rel=>exact⟨_,_,_,rfl,H,⟨by have:=HKk18.out;omega⟩,HS.pi [0,1,5]⟩
def spec_l09Texts.l0:Nat→(List S66)→Int→(List ByteArray)→Option (S66)
  |0,_,_,_=>none
  |k+1,l19,x21,a0=>(if x21<(a0.length:Int)then(if 0≤x21 then(if x21<(a0.length:Int)then((spec_TextItem.f (rdOf ByteArray.empty a0 x21)).bind fun t9=>(if l19.length+1≤2932031007402 then(lets (l19++([t9]:List S66)) fun y13=>(spec_l09Texts.l0 k y13 (wrap64 (x21+1)) a0))else none))else none)else none)else(some (⟨48,(⟨#[]⟩:ByteArray),l19⟩:S66)))
def spec_l09Texts.f (k:Nat)(a0:(List ByteArray)):Option (S66):=(spec_l09Texts.l0 k [] 0 a0)
def spec_l09Texts.T5:TT:=(true,[([],[]),([0],[0]),([],[]),([],[]),([2,3],[2,3]),([4],[4]),([5],[5]),([6],[6]),([1,7,6],[1,7]),([0,1,2,3,4,5,6,7,8],[]),([9,8,8,0,1,2,3,4,5,6,7,8],[8,9])])
theorem spec_l09Texts.tT5:rtab .any (opsOf Tryz.f140 5)=spec_l09Texts.T5:=by kernel_rfl
theorem spec_l09Texts.calls {k:Nat}{a0:(List ByteArray)}{Ap0:Option Addr}{np0 cp0:Nat}{r:S66}{w:World}(h:spec_l09Texts.f k a0=some r)(gp0:Kd.string.C w Ap0 np0 a0)(lp0:np0≤cp0):
    Calls Tryz.prog 140 #[.slice Ap0 np0 cp0] w (fun e w'=>∃v0_:Value,e=.returned (.agg #[.int .i64 r.f0,.string r.f1,v0_])∧Hp noFP w w' [.own (Zd.slice 66 q66) r.f2 [v0_]]):=by
 obtain rfl:=C_len gp0
 have HS:=Hp.start w
 have H:=Aside0.mk h
 clear h
 unfold spec_l09Texts.f at H
 go_enter Tryz.func140,Tryz.ntmps140
 go_wp2_with (first|((with_reducible refine gd 2 rfl ?_);refine ev_bx HS ?_;clear HS;intro g2 w2 HS F)|((with_reducible refine gd 3 rfl ?_);refine ev_bx HS ?_;clear HS;intro g3 w3 HS F)|((with_reducible refine gate_store (p:=3) rfl ?_);refine ev_st 1 0 HS (seg:=[.int .i64 48,.string (⟨#[]⟩:ByteArray),.slice none 0 0]) ?_;clear HS;intro w5 HS F))
 replace HS:=HS.nil 66 q66
 go_loopg [4] k (fun kq v_4 w'=>∃(l19:List S66) (v20:Value) (x21:Int),v_4=.int .i64 x21∧Aside0 (spec_l09Texts.l0 kq l19 x21 a0=some r)∧Aside0 (kq≤k)∧Hp noFP w w' [.box g2 [.int .i64 0,.string (⟨#[]⟩:ByteArray),.slice none 0 0] 66,.box g3 [.int .i64 48,.string (⟨#[]⟩:ByteArray),v20] 66,.own (Zd.slice 66 q66) l19 [v20]])
 case atStart=>exact⟨_,_,_,rfl,H,⟨Nat.le_refl _⟩,HS⟩
 case round=>
  clear HS H;(try clear F)
  obtain⟨l19,v20,x21,rfl,H,HKk18,HS⟩:=hrel
  obtain⟨B20,d20,rfl,m20⟩:=HS.form 2 rfl
  have F:=HS.bx
  cases gk with
  |zero=>exact absurd H.out (by simp [spec_l09Texts.l0])
  | succ k18=>
   simp only [spec_l09Texts.l0] at H
   replace H:=znif H;rcases H with⟨c23,H⟩|⟨c23,H⟩
   ·
    obtain rfl:=zsome H
    go_wp2_with ((with_reducible refine gate_store (p:=2) rfl ?_);refine ev_st 0 0 HS (seg:=[.int .i64 48,.string (⟨#[]⟩:ByteArray),.slice B20 l19.length d20]) ?_;clear HS;intro w27 HS F)
    exact rc 0 HS Tryz.underlying66 ⟨_,rfl,HS.pi [2]⟩
   (try go_wp2)
   replace H:=zgo H;obtain⟨c6,H⟩:=H
   replace H:=zgo H;obtain⟨c7,H⟩:=H
   obtain⟨ad8,rfl,e8_0⟩:=Kd.at_string gp0 x21 (of_eq_true c6) (of_eq_true c7)
   replace H:=zbind H;obtain⟨t9,ht9,H⟩:=H
   replace H:=zgo H;obtain⟨c12,H⟩:=H
   replace H:=zlets H;obtain⟨y13,e_y13,H⟩:=H
   refine dr_start2 [.box g2 [.int .i64 0,.string (⟨#[]⟩:ByteArray),.slice none 0 0] 66,.box g3 [.int .i64 48,.string (⟨#[]⟩:ByteArray),.slice B20 l19.length d20] 66,.emp] [10] HS (HS.ar [some 0,some 1,none]) #[false,false,false,false,false,false,false,false,false,false,false] (by kernel_rfl) rfl rfl spec_l09Texts.tT5 (fun w25 HT HS HH=>?_)
   (try clear F)
   refine dqt [0,1,2,3,4] HT HH ?_
   refine dtk 5 17 HT HH rfl (by rintro w' ⟨rs',HS'⟩;have e8_0:=HS'.keepc e8_0;go_simp;with_reducible rfl) ?_
   refine dr1 6 HT fun K hK=>?_
   refine go_cl1 HS (spec_TextItem.calls ht9.out) Tryz.func138 ?_;clear HS;intro v10 wt9 HS F;obtain⟨B10,d10,rfl,m10⟩:=HS.form 3 rfl
   refine nra 18 hK (HS.ar [some 0,some 1,none]) fun HH=>?_;clear hK K
   refine dr1 7 HT fun K hK=>?_
   refine if_li q66 [3] ([t9]:List S66) ([.int .i64 t9.f0,.string t9.f1,.slice B10 t9.f2.length d10]++ []) HS (MadeL.cons (js1:=[3]) (c:=[.int .i64 t9.f0,.string t9.f1,.slice B10 t9.f2.length d10]) rfl (fun S hd hh=>q66_pack (x:=t9) hd (hh 3 (.own (Zd.slice 66 q66) t9.f2 [.slice B10 t9.f2.length d10]) rfl) (by decide)) MadeL.nil (by decide)) ?_;clear HS;intro v11 w11 HS F;obtain⟨B11,d11,rfl,m11⟩:=HS.formn 1 4 rfl rfl
   refine nra 19 hK (HS.ar [some 0,some 1,none]) fun HH=>?_;clear hK K
   refine dr1 8 HT fun K hK=>?_
   refine wp_ap q66 2 4 HS rfl rfl Tryz.underlying64 info66 (of_eq_true c12) ?_;clear HS;intro v13 w13 HS;rw [←e_y13.out] at HS;obtain⟨B13,d13,rfl,m13⟩:=HS.form 5 rfl
   (try simp only [hpn,hpm] at HS)
   have F:=HS.bx
   refine nra 20 hK (HS.ar [some 0,some 1,none]) fun HH=>?_;clear hK K
   refine dq [9] HT ?_
   refine dl 10 HT fun K hK=>?_
   refine if_st 1 2 HS (seg:=[.slice B13 y13.length d13]) ?_;clear HS;intro w14 HS F
   refine hK.out _ _ ?_
   clear hK K
   refine dn HT ?_
   (try clear F)
   have F:=HS.bx
   go_wp2
   go_roundg k18
   case measure=>have:=HKk18.out;omega
   case rel=>exact⟨_,_,_,rfl,H,⟨by have:=HKk18.out;omega⟩,HS.pi [0,1,5]⟩
def spec_l09Bool.f (a0:Bool):Option (S66):=(if a0=true then(some (⟨1,(⟨#[255]⟩:ByteArray),([]:List S66)⟩:S66))else(some (⟨1,(⟨#[0]⟩:ByteArray),([]:List S66)⟩:S66)))
theorem spec_l09Bool.calls {a0:Bool}{r:S66}{w:World}(h:spec_l09Bool.f a0=some r):
    Calls Tryz.prog 39 #[.bool a0] w (fun e w'=>∃v0_:Value,e=.returned (.agg #[.int .i64 r.f0,.string r.f1,v0_])∧Hp noFP w w' [.own (Zd.slice 66 q66) r.f2 [v0_]]):=by
 have HS:=Hp.start w
 have H:=Aside0.mk h
 clear h
 unfold spec_l09Bool.f at H
 go_enter Tryz.func39,Tryz.ntmps39
 go_upto_if 3 with((with_reducible refine gd 2 rfl ?_);refine ev_bx HS ?_;clear HS;intro g2 w2 HS F)
 replace H:=zifb H;rcases H with⟨c3,H⟩|⟨c3,H⟩
 ·
  subst c3
  (try simp only [dcn,dcu,dcf])
  obtain rfl:=zsome H
  go_wp2_with ((with_reducible refine gate_store (p:=2) rfl ?_);refine ev_st 0 0 HS (seg:=[.int .i64 1,.string (⟨#[255]⟩:ByteArray),.slice none 0 0]) ?_;clear HS;intro w4 HS F)
  replace HS:=HS.nil 66 q66
  exact rc 0 HS Tryz.underlying66 ⟨_,rfl,HS.pi [1]⟩
 subst c3
 (try simp only [dcn,dcu,dcf])
 obtain rfl:=zsome H
 go_wp2_with ((with_reducible refine gate_store (p:=2) rfl ?_);refine ev_st 0 0 HS (seg:=[.int .i64 1,.string (⟨#[0]⟩:ByteArray),.slice none 0 0]) ?_;clear HS;intro w6 HS F)
 replace HS:=HS.nil 66 q66
 exact rc 0 HS Tryz.underlying66 ⟨_,rfl,HS.pi [1]⟩
def spec_l09Bytes.f (a0:ByteArray):Option (S66):=(some (⟨4,a0,([]:List S66)⟩:S66))
theorem spec_l09Bytes.calls {a0:ByteArray}{r:S66}{w:World}(h:spec_l09Bytes.f a0=some r):
    Calls Tryz.prog 75 #[.string a0] w (fun e w'=>∃v0_:Value,e=.returned (.agg #[.int .i64 r.f0,.string r.f1,v0_])∧Hp noFP w w' [.own (Zd.slice 66 q66) r.f2 [v0_]]):=by
 have HS:=Hp.start w
 have H:=Aside0.mk h
 clear h
 unfold spec_l09Bytes.f at H
 go_enter Tryz.func75,Tryz.ntmps75
 obtain rfl:=zsome H
 go_wp2_with (first|((with_reducible refine gd 2 rfl ?_);refine ev_bx HS ?_;clear HS;intro g2 w2 HS F)|((with_reducible refine gate_store (p:=2) rfl ?_);refine ev_st 0 0 HS (seg:=[.int .i64 4,.string a0,.slice none 0 0]) ?_;clear HS;intro w3 HS F))
 replace HS:=HS.nil 66 q66
 exact rc 0 HS Tryz.underlying66 ⟨_,rfl,HS.pi [1]⟩
end Go.Proofs.YtfcpjeeeddjakaaGreat.F

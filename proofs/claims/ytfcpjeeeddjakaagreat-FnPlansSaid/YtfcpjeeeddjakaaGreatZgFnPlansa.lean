/- Functions of the program and of the law, and that their calls do what is written here. -/
import Derived.Test.YtfcpjeeeddjakaaGreatZT
import Derived.Test.YtfcpjeeeddjakaaGreatZS
namespace Go.Proofs.YtfcpjeeeddjakaaGreat.F
open Go.RowKit YtfcpjeeeddjakaaGreatW.PrintWords YtfcpjeeeddjakaaGreatW.PrintLast YtfcpjeeeddjakaaGreatW.PrintMore Z
attribute [local go_sem] max2_int min2_int max_two min_two max_three min_three max_four min_four
set_option linter.unusedVariables false
set_option linter.unusedSimpArgs false
set_option maxRecDepth 100000
set_option maxHeartbeats 16000000
def spec_l01Byte_0.f (a0:S110):Option (Int×S110):=(if a0.f1<(a0.f0.length:Int)then(if 0≤a0.f1 then(if a0.f1<(a0.f0.length:Int)then(some ((Go.bits .and .i64 (wrap64 ((Go.bits .and .i64 (Go.bits .xor .i64 ((wrap64 ((wrap64 (a0.f2 * 6364136223846793005))+1442695040888963407)) / 8589934592) ((wrap64 ((wrap64 (a0.f2 * 6364136223846793005))+1442695040888963407)) / 35184372088832)) 255)+(wrap64 (rd a0.f0 a0.f1)))) 255),(⟨a0.f0,(wrap64 (a0.f1+1)),(wrap64 ((wrap64 (a0.f2 * 6364136223846793005))+1442695040888963407))⟩:S110)))else none)else none)else(some ((Go.bits .and .i64 (Go.bits .xor .i64 ((wrap64 ((wrap64 (a0.f2 * 6364136223846793005))+1442695040888963407)) / 8589934592) ((wrap64 ((wrap64 (a0.f2 * 6364136223846793005))+1442695040888963407)) / 35184372088832)) 255),(⟨a0.f0,a0.f1,(wrap64 ((wrap64 (a0.f2 * 6364136223846793005))+1442695040888963407))⟩:S110))))
def spec_l01Byte_0.T2:TT:=(true,[([],[]),([0],[0]),([1],[1]),([2],[2]),([3],[3]),([],[]),([5],[5]),([6],[6]),([7],[7]),([8],[8]),([4,9],[4,9]),([10],[10]),([11,0,1,2,3,4,5,6,7,8,9,10,11],[11])])
theorem spec_l01Byte_0.tT2:rtab .any (opsOf Tryz.f79 2)=spec_l01Byte_0.T2:=by kernel_rfl
def spec_l01Byte_0.T3:TT:=(true,[([],[]),([0],[0]),([1],[1]),([2],[2]),([],[]),([4],[4]),([5],[5]),([6],[6]),([7],[7]),([3,8],[3,8])])
theorem spec_l01Byte_0.tT3:rtab .any (opsOf Tryz.f79 3)=spec_l01Byte_0.T3:=by kernel_rfl
def spec_l01Byte_0.T4:TT:=(true,[([],[]),([],[]),([1],[1]),([2],[2]),([3],[3]),([],[]),([5],[5]),([6],[6]),([7],[7]),([4,8],[4,8]),([9],[9]),([10],[10]),([0,11],[0,11]),([12],[12]),([13,0,1,2,3,4,5,6,7,8,9,10,11,12,13],[0,13])])
theorem spec_l01Byte_0.tT4:rtab .any (opsOf Tryz.f79 4)=spec_l01Byte_0.T4:=by kernel_rfl
theorem spec_l01Byte_0.calls {a0:S110}{A:FP}{p0:Nat}{Ap1:Option Addr}{np1 cp1:Nat}{wv:World}{r1:Int}{r2:S110}{w:World}(h:spec_l01Byte_0.f a0=some (r1,r2))(gp1:(Kd.int .u8).C wv Ap1 np1 a0.f0)(lp1:np1≤cp1)(hV:View A w wv)(HS:Hp A w w [.box p0 [.slice Ap1 np1 cp1,.int .i64 a0.f1,.int .i64 a0.f2] 110]):
    Calls Tryz.prog 79 #[.pointer (some ⟨p0,0,none⟩)] w (fun e w'=>e=.returned (.int .i64 r1)∧Hp A w w' [.box p0 [.slice Ap1 np1 cp1,.int .i64 r2.f1,.int .i64 r2.f2] 110]):=by
 obtain rfl:=C_len gp1
 have H:=Aside0.mk h
 clear h
 unfold spec_l01Byte_0.f at H
 go_enter Tryz.func79,Tryz.ntmps79
 have F:=HS.bx
 go_wp2_with ((with_reducible refine gate_store (p:=12) rfl ?_);refine ev_st 0 2 HS (seg:=[.int .i64 (wrap64 ((wrap64 (a0.f2 * 6364136223846793005))+1442695040888963407))]) ?_;clear HS;intro w1 HS F)
 refine dr_start [] HS #[false,false,false,false,false,false,false,false,false,false,false,false,false] (by kernel_rfl) rfl rfl spec_l01Byte_0.tT2 (fun w4 HT HS HH=>?_)
 (try clear F)
 refine dqt [0,1,2,3,4,5,6,7,8,9,10,11,12] HT HH ?_
 refine dn HT ?_
 (try clear F)
 have F:=HS.bx
 (try go_wp2)
 refine dr_start [] HS #[false,false,false,false,false,false,false,false,false,false] (by kernel_rfl) rfl rfl spec_l01Byte_0.tT3 (fun w7 HT HS HH=>?_)
 (try clear F)
 refine dqt [0,1,2,3,4,5,6,7,8,9] HT HH ?_
 refine dn HT ?_
 (try clear F)
 have F:=HS.bx
 replace H:=znif H;rcases H with⟨c9,H⟩|⟨c9,H⟩
 ·
  (try simp only [c9,dcn])
  obtain⟨rfl,rfl⟩:=zsome2 H
  go_wp2
  go_ret
  exact⟨rfl,HS.pi [0]⟩
 (try simp only [c9,dcn])
 (try go_wp2)
 replace H:=zgo H;obtain⟨c5,H⟩:=H
 replace H:=zgo H;obtain⟨c6,H⟩:=H
 obtain⟨ad10,rfl,e10_0⟩:=Kd.at_int gp1 a0.f1 (of_eq_true c5) (of_eq_true c6)
 refine dr_start [] HS #[false,false,false,false,false,false,false,false,false,false,false,false,false,false,false] (by kernel_rfl) rfl rfl spec_l01Byte_0.tT4 (fun w11 HT HS HH=>?_)
 (try clear F)
 refine dqt [0,1,2,3,4,5,6,7,8,9] HT HH ?_
 refine dtk 10 45 HT HH rfl (by rintro w' ⟨rs',HS'⟩;have e10_0:=(hV.keepc HS' e10_0);go_simp;with_reducible rfl) ?_
 refine dq [11,12,13,14] HT ?_
 refine dn HT ?_
 (try clear F)
 have F:=HS.bx
 obtain⟨rfl,rfl⟩:=zsome2 H
 go_wp2_with ((with_reducible refine gate_store (p:=56) rfl ?_);refine ev_st 0 1 HS (seg:=[.int .i64 (wrap64 (a0.f1+1))]) ?_;clear HS;intro w13 HS F)
 go_ret
 exact⟨rfl,HS.pi [0]⟩
def spec_l01Below_0.f (a0:S110)(a1:Int):Option (Int×S110):=(if a1≤0 then(some (0,a0))else(if a1≤256 then((spec_l01Byte_0.f a0).bind fun t3=>(if¬a1=0 then(some ((Int.tmod t3.1 a1),(⟨a0.f0,t3.2.f1,t3.2.f2⟩:S110)))else none))else((spec_l01Byte_0.f a0).bind fun t6=>((spec_l01Byte_0.f (⟨a0.f0,t6.2.f1,t6.2.f2⟩:S110)).bind fun t8=>((spec_l01Byte_0.f (⟨a0.f0,t8.2.f1,t8.2.f2⟩:S110)).bind fun t10=>((spec_l01Byte_0.f (⟨a0.f0,t10.2.f1,t10.2.f2⟩:S110)).bind fun t12=>(if¬a1=0 then(some ((Int.tmod (wrap64 ((wrap64 ((wrap64 ((wrap64 (t6.1 * 16777216))+(wrap64 (t8.1 * 65536))))+(wrap64 (t10.1 * 256))))+t12.1)) a1),(⟨a0.f0,t12.2.f1,t12.2.f2⟩:S110)))else none)))))))
theorem spec_l01Below_0.calls {a0:S110}{a1:Int}{A:FP}{p0:Nat}{Ap1:Option Addr}{np1 cp1:Nat}{wv:World}{r1:Int}{r2:S110}{w:World}(h:spec_l01Below_0.f a0 a1=some (r1,r2))(gp1:(Kd.int .u8).C wv Ap1 np1 a0.f0)(lp1:np1≤cp1)(hV:View A w wv)(HS:Hp A w w [.box p0 [.slice Ap1 np1 cp1,.int .i64 a0.f1,.int .i64 a0.f2] 110]):
    Calls Tryz.prog 45 #[.pointer (some ⟨p0,0,none⟩),.int .i64 a1] w (fun e w'=>e=.returned (.int .i64 r1)∧Hp A w w' [.box p0 [.slice Ap1 np1 cp1,.int .i64 r2.f1,.int .i64 r2.f2] 110]):=by
 obtain rfl:=C_len gp1
 have H:=Aside0.mk h
 clear h
 unfold spec_l01Below_0.f at H
 go_enter Tryz.func45,Tryz.ntmps45
 have F:=HS.bx
 replace H:=zif H;rcases H with⟨c1,H⟩|⟨c1,H⟩
 ·
  obtain⟨rfl,rfl⟩:=zsome2 H
  go_wp2
  go_ret
  exact⟨rfl,HS.pi [0]⟩
 replace H:=zif H;rcases H with⟨c2,H⟩|⟨c2,H⟩
 ·
  replace H:=zbind H;obtain⟨t3,ht3,H⟩:=H
  replace H:=zgo H;obtain⟨c5,H⟩:=H
  obtain⟨rfl,rfl⟩:=zsome2 H
  go_wp2_with (first|((with_reducible refine gd 14 rfl ?_);refine ev_lb [0] HS (fun _ HL HA=>spec_l01Byte_0.calls ht3.out gp1 lp1 (hV.lend HS HL) HA) Tryz.func79 ?_;clear HS;intro wt3 HS F)|((with_reducible refine gd 16 rfl ?_);refine ev_val rfl (run_rem rfl rfl rfl (of_eq_true c5)) ?_))
  go_ret
  exact⟨rfl,HS.pi [0]⟩
 replace H:=zbind H;obtain⟨t6,ht6,H⟩:=H
 replace H:=zbind H;obtain⟨t8,ht8,H⟩:=H
 replace H:=zbind H;obtain⟨t10,ht10,H⟩:=H
 replace H:=zbind H;obtain⟨t12,ht12,H⟩:=H
 replace H:=zgo H;obtain⟨c14,H⟩:=H
 obtain⟨rfl,rfl⟩:=zsome2 H
 go_wp2_with (first|((with_reducible refine gd 18 rfl ?_);refine ev_lb [0] HS (fun _ HL HA=>spec_l01Byte_0.calls ht6.out gp1 lp1 (hV.lend HS HL) HA) Tryz.func79 ?_;clear HS;intro wt6 HS F)|((with_reducible refine gd 20 rfl ?_);refine ev_lb [0] HS (fun _ HL HA=>spec_l01Byte_0.calls ht8.out gp1 lp1 (hV.lend HS HL) HA) Tryz.func79 ?_;clear HS;intro wt8 HS F)|((with_reducible refine gd 22 rfl ?_);refine ev_lb [0] HS (fun _ HL HA=>spec_l01Byte_0.calls ht10.out gp1 lp1 (hV.lend HS HL) HA) Tryz.func79 ?_;clear HS;intro wt10 HS F)|((with_reducible refine gd 24 rfl ?_);refine ev_lb [0] HS (fun _ HL HA=>spec_l01Byte_0.calls ht12.out gp1 lp1 (hV.lend HS HL) HA) Tryz.func79 ?_;clear HS;intro wt12 HS F)|((with_reducible refine gd 36 rfl ?_);refine ev_val rfl (run_rem rfl rfl rfl (of_eq_true c14)) ?_))
 go_ret
 exact⟨rfl,HS.pi [0]⟩
def spec_l14Copy.f (a0:S26):Option (S26):=(if 0+a0.f0.length≤8796093022208 then(lets (([]:List ByteArray)++a0.f0) fun y12=>(some (⟨y12,a0.f1,a0.f2,a0.f3,a0.f4,a0.f5⟩:S26)))else none)
theorem spec_l14Copy.calls {a0:S26}{Ap0:Option Addr}{np0 cp0:Nat}{r:S26}{w:World}(h:spec_l14Copy.f a0=some r)(gp0:Kd.string.C w Ap0 np0 a0.f0)(lp0:np0≤cp0):
    Calls Tryz.prog 67 #[.agg #[.slice Ap0 np0 cp0,.int .i64 a0.f1,.int .i64 a0.f2,.int .i64 a0.f3,.int .i64 a0.f4,.bool a0.f5]] w (fun e w'=>∃v0_:Value,e=.returned (.agg #[v0_,.int .i64 r.f1,.int .i64 r.f2,.int .i64 r.f3,.int .i64 r.f4,.bool r.f5])∧Hp noFP w w' [.own (Zd.slice 9 Zd.string) r.f0 [v0_]]):=by
 obtain rfl:=C_len gp0
 have HS:=Hp.start w
 have H:=Aside0.mk h
 clear h
 unfold spec_l14Copy.f at H
 go_enter Tryz.func67,Tryz.ntmps67
 replace H:=zgo H;obtain⟨c11,H⟩:=H
 replace H:=zlets H;obtain⟨y12,e_y12,H⟩:=H
 obtain rfl:=zsome H
 go_wp2_with (first|((with_reducible refine gd 1 rfl ?_);refine ev_bx HS ?_;clear HS;intro g1 w1 HS F)|((with_reducible refine gd 2 rfl ?_);refine ev_bx HS ?_;clear HS;intro g2 w2 HS F)|((with_reducible refine gd 3 rfl ?_);refine ev_bx HS ?_;clear HS;intro g3 w3 HS F)|((with_reducible refine gate_store (p:=3) rfl ?_);refine ev_st 2 0 HS (seg:=[.slice Ap0 a0.f0.length cp0,.int .i64 a0.f1,.int .i64 a0.f2,.int .i64 a0.f3,.int .i64 a0.f4,.bool a0.f5]) ?_;clear HS;intro w7 HS F)|((with_reducible refine gd 5 rfl ?_);refine ev_li Zd.string [] ([]:List ByteArray) [] HS MadeL.nil ?_;clear HS;intro v9 w9 HS F;obtain⟨B9,d9,rfl,m9⟩:=HS.formn 0 3 rfl rfl)|((with_reducible refine gd 8 rfl ?_);refine ev_apr flat_string 3 HS rfl (HS.ro gp0) Tryz.underlying24 info9 (of_eq_true c11) ?_;clear HS;intro v12 w12 HS;rw [←e_y12.out] at HS;obtain⟨B12,d12,rfl,m12⟩:=HS.form 4 rfl;(try simp only [hpn,hpm] at HS);have F:=HS.bx)|((with_reducible refine gate_store (p:=9) rfl ?_);refine ev_st 2 0 HS (seg:=[.slice B12 y12.length d12]) ?_;clear HS;intro w14 HS F)|((with_reducible refine gate_store (p:=2) rfl ?_);refine ev_st 1 0 HS (seg:=[.slice B12 y12.length d12,.int .i64 a0.f1,.int .i64 a0.f2,.int .i64 a0.f3,.int .i64 a0.f4,.bool a0.f5]) ?_;clear HS;intro w16 HS F))
 exact rc 1 HS Tryz.underlying26 ⟨_,rfl,HS.pi [4]⟩
def spec_l08Policies_0.f (a0:S110):Option ((List Int)×S110):=((spec_l01Below_0.f a0 5).bind fun t1=>(if t1.1=0 then(some (([0]:List Int),(⟨a0.f0,t1.2.f1,t1.2.f2⟩:S110)))else(if t1.1=1 then(some (([1,2]:List Int),(⟨a0.f0,t1.2.f1,t1.2.f2⟩:S110)))else(if t1.1=2 then(some (([2]:List Int),(⟨a0.f0,t1.2.f1,t1.2.f2⟩:S110)))else(if t1.1=3 then(some (([0,5]:List Int),(⟨a0.f0,t1.2.f1,t1.2.f2⟩:S110)))else(some (([]:List Int),(⟨a0.f0,t1.2.f1,t1.2.f2⟩:S110))))))))
theorem spec_l08Policies_0.calls {a0:S110}{A:FP}{p0:Nat}{Ap1:Option Addr}{np1 cp1:Nat}{wv:World}{r1:(List Int)}{r2:S110}{w:World}(h:spec_l08Policies_0.f a0=some (r1,r2))(gp1:(Kd.int .u8).C wv Ap1 np1 a0.f0)(lp1:np1≤cp1)(hV:View A w wv)(HS:Hp A w w [.box p0 [.slice Ap1 np1 cp1,.int .i64 a0.f1,.int .i64 a0.f2] 110]):
    Calls Tryz.prog 128 #[.pointer (some ⟨p0,0,none⟩)] w (fun e w'=>∃v0_:Value,e=.returned (v0_)∧Hp A w w' [.box p0 [.slice Ap1 np1 cp1,.int .i64 r2.f1,.int .i64 r2.f2] 110,.own (Zd.slice 3 (Zd.int .i64)) r1 [v0_]]):=by
 obtain rfl:=C_len gp1
 have H:=Aside0.mk h
 clear h
 unfold spec_l08Policies_0.f at H
 go_enter Tryz.func128,Tryz.ntmps128
 have F:=HS.bx
 replace H:=zbind H;obtain⟨t1,ht1,H⟩:=H
 go_upto_if 5 with((with_reducible refine gd 4 rfl ?_);refine ev_lb [0] HS (fun _ HL HA=>spec_l01Below_0.calls ht1.out gp1 lp1 (hV.lend HS HL) HA) Tryz.func45 ?_;clear HS;intro wt1 HS F)
 replace H:=zif' H;rcases H with⟨c3,H⟩|⟨c3,H⟩
 ·
  obtain⟨c3a,c3b⟩:=bq c3;clear c3
  (try simp only [c3a,c3b,dcn])
  obtain⟨rfl,rfl⟩:=zsome2 H
  go_wp2_with ((with_reducible refine gd 7 rfl ?_);refine ev_li (Zd.int .i64) [] ([0]:List Int) ([.int .i64 0]++ []) HS (MadeL.cons (js1:=[]) (c:=[.int .i64 0]) rfl (made_flat (fun _=>rfl)) MadeL.nil (by decide)) ?_;clear HS;intro v4 w4 HS F;obtain⟨B4,d4,rfl,m4⟩:=HS.formn 1 1 rfl rfl)
  exact r1 ⟨_,rfl,HS.pi [0,1]⟩
 obtain⟨c3a,c3b⟩:=nq c3;clear c3
 (try simp only [c3a,c3b,dcn])
 replace H:=zif' H;rcases H with⟨c6,H⟩|⟨c6,H⟩
 ·
  obtain⟨c6a,c6b⟩:=bq c6;clear c6
  obtain⟨rfl,rfl⟩:=zsome2 H
  go_wp2_with ((with_reducible refine gd 10 rfl ?_);refine ev_li (Zd.int .i64) [] ([1,2]:List Int) ([.int .i64 1]++([.int .i64 2]++ [])) HS (MadeL.cons (js1:=[]) (c:=[.int .i64 1]) rfl (made_flat (fun _=>rfl)) (MadeL.cons (js1:=[]) (c:=[.int .i64 2]) rfl (made_flat (fun _=>rfl)) MadeL.nil (by decide)) (by decide)) ?_;clear HS;intro v7 w7 HS F;obtain⟨B7,d7,rfl,m7⟩:=HS.formn 2 1 rfl rfl)
  exact r1 ⟨_,rfl,HS.pi [0,1]⟩
 obtain⟨c6a,c6b⟩:=nq c6;clear c6
 replace H:=zif' H;rcases H with⟨c9,H⟩|⟨c9,H⟩
 ·
  obtain⟨c9a,c9b⟩:=bq c9;clear c9
  obtain⟨rfl,rfl⟩:=zsome2 H
  go_wp2_with ((with_reducible refine gd 13 rfl ?_);refine ev_li (Zd.int .i64) [] ([2]:List Int) ([.int .i64 2]++ []) HS (MadeL.cons (js1:=[]) (c:=[.int .i64 2]) rfl (made_flat (fun _=>rfl)) MadeL.nil (by decide)) ?_;clear HS;intro v10 w10 HS F;obtain⟨B10,d10,rfl,m10⟩:=HS.formn 1 1 rfl rfl)
  exact r1 ⟨_,rfl,HS.pi [0,1]⟩
 obtain⟨c9a,c9b⟩:=nq c9;clear c9
 replace H:=znif' H;rcases H with⟨c12,H⟩|⟨c12,H⟩
 ·
  obtain⟨c12a,c12b⟩:=nq c12;clear c12
  obtain⟨rfl,rfl⟩:=zsome2 H
  go_wp2_with ((with_reducible refine gd 17 rfl ?_);refine ev_li (Zd.int .i64) [] ([]:List Int) [] HS MadeL.nil ?_;clear HS;intro v15 w15 HS F;obtain⟨B15,d15,rfl,m15⟩:=HS.formn 0 1 rfl rfl)
  exact r1 ⟨_,rfl,HS.pi [0,1]⟩
 obtain⟨c12a,c12b⟩:=bq c12;clear c12
 obtain⟨rfl,rfl⟩:=zsome2 H
 go_wp2_with ((with_reducible refine gd 16 rfl ?_);refine ev_li (Zd.int .i64) [] ([0,5]:List Int) ([.int .i64 0]++([.int .i64 5]++ [])) HS (MadeL.cons (js1:=[]) (c:=[.int .i64 0]) rfl (made_flat (fun _=>rfl)) (MadeL.cons (js1:=[]) (c:=[.int .i64 5]) rfl (made_flat (fun _=>rfl)) MadeL.nil (by decide)) (by decide)) ?_;clear HS;intro v13 w13 HS F;obtain⟨B13,d13,rfl,m13⟩:=HS.formn 2 1 rfl rfl)
 exact r1 ⟨_,rfl,HS.pi [0,1]⟩
def spec_l08Names_0.f (a0:S110):Option ((List ByteArray)×S110):=((spec_l01Below_0.f a0 5).bind fun t1=>(if t1.1=0 then(some (([(⟨#[111,114,103]⟩:ByteArray)]:List ByteArray),(⟨a0.f0,t1.2.f1,t1.2.f2⟩:S110)))else(if t1.1=1 then(some (([(⟨#[99,97,46,111,114,103]⟩:ByteArray),(⟨#[99,111,109]⟩:ByteArray)]:List ByteArray),(⟨a0.f0,t1.2.f1,t1.2.f2⟩:S110)))else(if t1.1=2 then(some (([(⟨#[111,116,104,101,114,46,99,111,109]⟩:ByteArray)]:List ByteArray),(⟨a0.f0,t1.2.f1,t1.2.f2⟩:S110)))else(some (([]:List ByteArray),(⟨a0.f0,t1.2.f1,t1.2.f2⟩:S110)))))))
theorem spec_l08Names_0.calls {a0:S110}{A:FP}{p0:Nat}{Ap1:Option Addr}{np1 cp1:Nat}{wv:World}{r1:(List ByteArray)}{r2:S110}{w:World}(h:spec_l08Names_0.f a0=some (r1,r2))(gp1:(Kd.int .u8).C wv Ap1 np1 a0.f0)(lp1:np1≤cp1)(hV:View A w wv)(HS:Hp A w w [.box p0 [.slice Ap1 np1 cp1,.int .i64 a0.f1,.int .i64 a0.f2] 110]):
    Calls Tryz.prog 129 #[.pointer (some ⟨p0,0,none⟩)] w (fun e w'=>∃v0_:Value,e=.returned (v0_)∧Hp A w w' [.box p0 [.slice Ap1 np1 cp1,.int .i64 r2.f1,.int .i64 r2.f2] 110,.own (Zd.slice 9 Zd.string) r1 [v0_]]):=by
 obtain rfl:=C_len gp1
 have H:=Aside0.mk h
 clear h
 unfold spec_l08Names_0.f at H
 go_enter Tryz.func129,Tryz.ntmps129
 have F:=HS.bx
 replace H:=zbind H;obtain⟨t1,ht1,H⟩:=H
 go_upto_if 5 with((with_reducible refine gd 4 rfl ?_);refine ev_lb [0] HS (fun _ HL HA=>spec_l01Below_0.calls ht1.out gp1 lp1 (hV.lend HS HL) HA) Tryz.func45 ?_;clear HS;intro wt1 HS F)
 replace H:=zif' H;rcases H with⟨c3,H⟩|⟨c3,H⟩
 ·
  obtain⟨c3a,c3b⟩:=bq c3;clear c3
  (try simp only [c3a,c3b,dcn])
  obtain⟨rfl,rfl⟩:=zsome2 H
  go_wp2_with ((with_reducible refine gd 7 rfl ?_);refine ev_li Zd.string [] ([(⟨#[111,114,103]⟩:ByteArray)]:List ByteArray) ([.string (⟨#[111,114,103]⟩:ByteArray)]++ []) HS (MadeL.cons (js1:=[]) (c:=[.string (⟨#[111,114,103]⟩:ByteArray)]) rfl (made_flat (fun _=>rfl)) MadeL.nil (by decide)) ?_;clear HS;intro v4 w4 HS F;obtain⟨B4,d4,rfl,m4⟩:=HS.formn 1 1 rfl rfl)
  exact r1 ⟨_,rfl,HS.pi [0,1]⟩
 obtain⟨c3a,c3b⟩:=nq c3;clear c3
 (try simp only [c3a,c3b,dcn])
 replace H:=zif' H;rcases H with⟨c6,H⟩|⟨c6,H⟩
 ·
  obtain⟨c6a,c6b⟩:=bq c6;clear c6
  obtain⟨rfl,rfl⟩:=zsome2 H
  go_wp2_with ((with_reducible refine gd 10 rfl ?_);refine ev_li Zd.string [] ([(⟨#[99,97,46,111,114,103]⟩:ByteArray),(⟨#[99,111,109]⟩:ByteArray)]:List ByteArray) ([.string (⟨#[99,97,46,111,114,103]⟩:ByteArray)]++([.string (⟨#[99,111,109]⟩:ByteArray)]++ [])) HS (MadeL.cons (js1:=[]) (c:=[.string (⟨#[99,97,46,111,114,103]⟩:ByteArray)]) rfl (made_flat (fun _=>rfl)) (MadeL.cons (js1:=[]) (c:=[.string (⟨#[99,111,109]⟩:ByteArray)]) rfl (made_flat (fun _=>rfl)) MadeL.nil (by decide)) (by decide)) ?_;clear HS;intro v7 w7 HS F;obtain⟨B7,d7,rfl,m7⟩:=HS.formn 2 1 rfl rfl)
  exact r1 ⟨_,rfl,HS.pi [0,1]⟩
 obtain⟨c6a,c6b⟩:=nq c6;clear c6
 replace H:=znif' H;rcases H with⟨c9,H⟩|⟨c9,H⟩
 ·
  obtain⟨c9a,c9b⟩:=nq c9;clear c9
  obtain⟨rfl,rfl⟩:=zsome2 H
  go_wp2_with ((with_reducible refine gd 14 rfl ?_);refine ev_li Zd.string [] ([]:List ByteArray) [] HS MadeL.nil ?_;clear HS;intro v12 w12 HS F;obtain⟨B12,d12,rfl,m12⟩:=HS.formn 0 1 rfl rfl)
  exact r1 ⟨_,rfl,HS.pi [0,1]⟩
 obtain⟨c9a,c9b⟩:=bq c9;clear c9
 obtain⟨rfl,rfl⟩:=zsome2 H
 go_wp2_with ((with_reducible refine gd 13 rfl ?_);refine ev_li Zd.string [] ([(⟨#[111,116,104,101,114,46,99,111,109]⟩:ByteArray)]:List ByteArray) ([.string (⟨#[111,116,104,101,114,46,99,111,109]⟩:ByteArray)]++ []) HS (MadeL.cons (js1:=[]) (c:=[.string (⟨#[111,116,104,101,114,46,99,111,109]⟩:ByteArray)]) rfl (made_flat (fun _=>rfl)) MadeL.nil (by decide)) ?_;clear HS;intro v10 w10 HS F;obtain⟨B10,d10,rfl,m10⟩:=HS.formn 1 1 rfl rfl)
 exact r1 ⟨_,rfl,HS.pi [0,1]⟩
def spec_l09Copy.f (a0:S125):Option (S125):=(if 0+a0.f9.length≤17592186044416 then(lets (([]:List Int)++a0.f9) fun y12=>(if 0+a0.f10.length≤8796093022208 then(lets (([]:List ByteArray)++a0.f10) fun y19=>(if 0+a0.f11.length≤8796093022208 then(lets (([]:List ByteArray)++a0.f11) fun y26=>(some (⟨a0.f0,a0.f1,a0.f2,a0.f3,a0.f4,a0.f5,a0.f6,a0.f7,a0.f8,y12,y19,y26,a0.f12⟩:S125)))else none))else none))else none)
theorem spec_l09Copy.calls {a0:S125}{Ap0 Ap1 Ap2:Option Addr}{np0 cp0 np1 cp1 np2 cp2:Nat}{r:S125}{w:World}(h:spec_l09Copy.f a0=some r)(gp0:(Kd.int .i64).C w Ap0 np0 a0.f9)(lp0:np0≤cp0)(gp1:Kd.string.C w Ap1 np1 a0.f10)(lp1:np1≤cp1)(gp2:Kd.string.C w Ap2 np2 a0.f11)(lp2:np2≤cp2):
    Calls Tryz.prog 113 #[.agg #[.int .i64 a0.f0,.string a0.f1,.string a0.f2,.int .i64 a0.f3,.int .i64 a0.f4,.string a0.f5,.bool a0.f6,.int .i64 a0.f7,.int .i64 a0.f8,.slice Ap0 np0 cp0,.slice Ap1 np1 cp1,.slice Ap2 np2 cp2,.string a0.f12]] w (fun e w'=>∃v0_ v1_ v2_:Value,e=.returned (.agg #[.int .i64 r.f0,.string r.f1,.string r.f2,.int .i64 r.f3,.int .i64 r.f4,.string r.f5,.bool r.f6,.int .i64 r.f7,.int .i64 r.f8,v0_,v1_,v2_,.string r.f12])∧Hp noFP w w' [.own (Zd.slice 3 (Zd.int .i64)) r.f9 [v0_],.own (Zd.slice 9 Zd.string) r.f10 [v1_],.own (Zd.slice 9 Zd.string) r.f11 [v2_]]):=by
 obtain rfl:=C_len gp0
 obtain rfl:=C_len gp1
 obtain rfl:=C_len gp2
 have HS:=Hp.start w
 have H:=Aside0.mk h
 clear h
 unfold spec_l09Copy.f at H
 go_enter Tryz.func113,Tryz.ntmps113
 replace H:=zgo H;obtain⟨c11,H⟩:=H
 replace H:=zlets H;obtain⟨y12,e_y12,H⟩:=H
 replace H:=zgo H;obtain⟨c18,H⟩:=H
 replace H:=zlets H;obtain⟨y19,e_y19,H⟩:=H
 replace H:=zgo H;obtain⟨c25,H⟩:=H
 replace H:=zlets H;obtain⟨y26,e_y26,H⟩:=H
 obtain rfl:=zsome H
 go_wp2_with (first|((with_reducible refine gd 1 rfl ?_);refine ev_bx HS ?_;clear HS;intro g1 w1 HS F)|((with_reducible refine gd 2 rfl ?_);refine ev_bx HS ?_;clear HS;intro g2 w2 HS F)|((with_reducible refine gd 3 rfl ?_);refine ev_bx HS ?_;clear HS;intro g3 w3 HS F)|((with_reducible refine gate_store (p:=3) rfl ?_);refine ev_st 2 0 HS (seg:=[.int .i64 a0.f0,.string a0.f1,.string a0.f2,.int .i64 a0.f3,.int .i64 a0.f4,.string a0.f5,.bool a0.f6,.int .i64 a0.f7,.int .i64 a0.f8,.slice Ap0 a0.f9.length cp0,.slice Ap1 a0.f10.length cp1,.slice Ap2 a0.f11.length cp2,.string a0.f12]) ?_;clear HS;intro w7 HS F)|((with_reducible refine gd 5 rfl ?_);refine ev_li (Zd.int .i64) [] ([]:List Int) [] HS MadeL.nil ?_;clear HS;intro v9 w9 HS F;obtain⟨B9,d9,rfl,m9⟩:=HS.formn 0 3 rfl rfl)|((with_reducible refine gd 8 rfl ?_);refine ev_apr (flat_int _) 3 HS rfl (HS.ro gp0) Tryz.underlying35 info3 (of_eq_true c11) ?_;clear HS;intro v12 w12 HS;rw [←e_y12.out] at HS;obtain⟨B12,d12,rfl,m12⟩:=HS.form 4 rfl;(try simp only [hpn,hpm] at HS);have F:=HS.bx)|((with_reducible refine gate_store (p:=9) rfl ?_);refine ev_st 2 9 HS (seg:=[.slice B12 y12.length d12]) ?_;clear HS;intro w14 HS F)|((with_reducible refine gd 10 rfl ?_);refine ev_li Zd.string [] ([]:List ByteArray) [] HS MadeL.nil ?_;clear HS;intro v16 w16 HS F;obtain⟨B16,d16,rfl,m16⟩:=HS.formn 0 5 rfl rfl)|((with_reducible refine gd 13 rfl ?_);refine ev_apr flat_string 5 HS rfl (HS.ro gp1) Tryz.underlying24 info9 (of_eq_true c18) ?_;clear HS;intro v19 w19 HS;rw [←e_y19.out] at HS;obtain⟨B19,d19,rfl,m19⟩:=HS.form 6 rfl;(try simp only [hpn,hpm] at HS);have F:=HS.bx)|((with_reducible refine gate_store (p:=14) rfl ?_);refine ev_st 2 10 HS (seg:=[.slice B19 y19.length d19]) ?_;clear HS;intro w21 HS F)|((with_reducible refine gd 15 rfl ?_);refine ev_li Zd.string [] ([]:List ByteArray) [] HS MadeL.nil ?_;clear HS;intro v23 w23 HS F;obtain⟨B23,d23,rfl,m23⟩:=HS.formn 0 7 rfl rfl)|((with_reducible refine gd 18 rfl ?_);refine ev_apr flat_string 7 HS rfl (HS.ro gp2) Tryz.underlying24 info9 (of_eq_true c25) ?_;clear HS;intro v26 w26 HS;rw [←e_y26.out] at HS;obtain⟨B26,d26,rfl,m26⟩:=HS.form 8 rfl;(try simp only [hpn,hpm] at HS);have F:=HS.bx)|((with_reducible refine gate_store (p:=19) rfl ?_);refine ev_st 2 11 HS (seg:=[.slice B26 y26.length d26]) ?_;clear HS;intro w28 HS F)|((with_reducible refine gate_store (p:=2) rfl ?_);refine ev_st 1 0 HS (seg:=[.int .i64 a0.f0,.string a0.f1,.string a0.f2,.int .i64 a0.f3,.int .i64 a0.f4,.string a0.f5,.bool a0.f6,.int .i64 a0.f7,.int .i64 a0.f8,.slice B12 y12.length d12,.slice B19 y19.length d19,.slice B26 y26.length d26,.string a0.f12]) ?_;clear HS;intro w30 HS F))
 exact rc 1 HS Tryz.underlying125 ⟨_,_,_,rfl,HS.pi [4,6,8]⟩
def spec_l01In.f (a0:Int)(a1:Int)(a2:Int):Option (Bool):=(if a1≤a0 then(some (decide (a0≤a2)))else(some false))
theorem spec_l01In.calls {a0:Int}{a1:Int}{a2:Int}{r:Bool}{w:World}(h:spec_l01In.f a0 a1 a2=some r):
    Calls Tryz.prog 54 #[.int .i64 a0,.int .i64 a1,.int .i64 a2] w (fun e w'=>e=.returned (.bool r)∧Hp noFP w w' []):=by
 have HS:=Hp.start w
 have H:=Aside0.mk h
 clear h
 unfold spec_l01In.f at H
 go_enter Tryz.func54,Tryz.ntmps54
 replace H:=zif H;rcases H with⟨c1,H⟩|⟨c1,H⟩
 ·
  obtain rfl:=zsome H
  go_wp2
  go_ret
  exact HS.pk
 obtain rfl:=zsome H
 go_wp2
 go_ret
 exact HS.pk
def spec_NatOk.l0:Nat→Int→(List Int)→Option (Bool)
  |0,_,_=>none
  |k+1,x4,a0=>(if x4<(a0.length:Int)then(if 0≤x4 then(if x4<(a0.length:Int)then((spec_l01In.f (rd a0 x4) 0 9999).bind fun t10=>(if t10=true then(spec_NatOk.l0 k (wrap64 (x4+1)) a0)else(some false)))else none)else none)else(if(a0.length:Int)≤40 then(if(a0.length:Int)=0 then(some true)else(if 0≤(wrap64 ((a0.length:Int) - 1))then(if(wrap64 ((a0.length:Int) - 1))<(a0.length:Int)then(some ((rd a0 (wrap64 ((a0.length:Int) - 1))) != 0))else none)else none))else(some false)))
def spec_NatOk.f (k:Nat)(a0:(List Int)):Option (Bool):=(spec_NatOk.l0 k 0 a0)
theorem spec_NatOk.calls {k:Nat}{a0:(List Int)}{Ap0:Option Addr}{np0 cp0:Nat}{r:Bool}{w:World}(h:spec_NatOk.f k a0=some r)(gp0:(Kd.int .i64).C w Ap0 np0 a0)(lp0:np0≤cp0):
    Calls Tryz.prog 133 #[.slice Ap0 np0 cp0] w (fun e w'=>e=.returned (.bool r)∧Hp noFP w w' []):=by
 obtain rfl:=C_len gp0
 have HS:=Hp.start w
 have H:=Aside0.mk h
 clear h
 unfold spec_NatOk.f at H
 go_enter Tryz.func133,Tryz.ntmps133
 go_wp2
 go_loopg [3] k (fun kq v_3 w'=>∃(x4:Int),v_3=.int .i64 x4∧Aside0 (spec_NatOk.l0 kq x4 a0=some r)∧Aside0 (kq≤k)∧Hp noFP w w' [])
 case atStart=>exact⟨_,rfl,H,⟨Nat.le_refl _⟩,HS⟩
 case round=>
  clear HS H;(try clear F)
  obtain⟨x4,rfl,H,HKk3,HS⟩:=hrel
  cases gk with
  |zero=>exact absurd H.out (by simp [spec_NatOk.l0])
  | succ k3=>
   simp only [spec_NatOk.l0] at H
   replace H:=znif H;rcases H with⟨c6,H⟩|⟨c6,H⟩
   ·
    replace H:=znif H;rcases H with⟨c13,H⟩|⟨c13,H⟩
    ·
     obtain rfl:=zsome H
     go_wp2
     go_ret
     exact HS.pk
    replace H:=zif' H;rcases H with⟨c14,H⟩|⟨c14,H⟩
    ·
     obtain⟨c14a,c14b⟩:=bq c14;clear c14
     obtain rfl:=zsome H
     go_wp2
     go_ret
     exact HS.pk
    obtain⟨c14a,c14b⟩:=nq c14;clear c14
    replace H:=zgo H;obtain⟨c15,H⟩:=H
    replace H:=zgo H;obtain⟨c16,H⟩:=H
    obtain⟨ad17,rfl,e17_0⟩:=Kd.at_int gp0 (wrap64 ((a0.length:Int) - 1)) (of_eq_true c15) (of_eq_true c16)
    have e17_0_17:=HS.keepc e17_0
    obtain rfl:=zsome H
    go_wp2
    go_ret
    exact HS.pk
   replace H:=zgo H;obtain⟨c7,H⟩:=H
   replace H:=zgo H;obtain⟨c8,H⟩:=H
   obtain⟨ad9,rfl,e9_0⟩:=Kd.at_int gp0 x4 (of_eq_true c7) (of_eq_true c8)
   have e9_0_9:=HS.keepc e9_0
   replace H:=zbind H;obtain⟨t10,ht10,H⟩:=H
   go_upto_if 15 with((with_reducible refine gd 14 rfl ?_);refine ev_cl HS (spec_l01In.calls ht10.out) Tryz.func54 ?_;clear HS;intro wt10 HS F)
   replace H:=znifb H;rcases H with⟨c12,H⟩|⟨c12,H⟩
   ·
    subst c12
    (try simp only [dcn,dcu,dcf])
    obtain rfl:=zsome H
    go_wp2
    go_ret
    exact HS.pk
   subst c12
   (try simp only [dcn,dcu,dcf])
   go_wp2
   go_roundg k3
   case measure=>have:=HKk3.out;omega
   case rel=>exact⟨_,rfl,H,⟨by have:=HKk3.out;omega⟩,HS.pi []⟩
def spec_l04Trim.l0:Nat→(List Int)→Option ((List Int))
  |0,_=>none
  |k+1,l6=>(if 0<(l6.length:Int)then(if 0≤(wrap64 ((l6.length:Int) - 1))then(if(wrap64 ((l6.length:Int) - 1))<(l6.length:Int)then(if(rd l6 (wrap64 ((l6.length:Int) - 1)))=0 then(if(wrap64 ((l6.length:Int) - 1))≤(l6.length:Int)then(spec_l04Trim.l0 k (l6.take ((wrap64 ((l6.length:Int) - 1))).toNat))else none)else(some l6))else none)else none)else(some l6))
def spec_l04Trim.f (k:Nat)(a0:(List Int)):Option ((List Int)):=(spec_l04Trim.l0 k a0)
theorem spec_l04Trim.calls {k:Nat}{a0:(List Int)}{A:FP}{vp0:Value}{r:(List Int)}{w:World}(h:spec_l04Trim.f k a0=some r)(HS:Hp A w w [.own (Zd.slice 3 (Zd.int .i64)) a0 [vp0]]):
    Calls Tryz.prog 147 #[vp0] w (fun e w'=>∃v0_:Value,e=.returned (v0_)∧Hp A w w' [.own (Zd.slice 3 (Zd.int .i64)) r [v0_]]):=by
 obtain⟨B1,d1,rfl,m1⟩:=HS.form 0 rfl
 have H:=Aside0.mk h
 clear h
 unfold spec_l04Trim.f at H
 go_enter Tryz.func147,Tryz.ntmps147
 go_wp2
 go_loopg [0] k (fun kq v_0 w'=>∃(l6:List Int) (v7:Value),v_0=v7∧Aside0 (spec_l04Trim.l0 kq l6=some r)∧Aside0 (kq≤k)∧Hp A w w' [.own (Zd.slice 3 (Zd.int .i64)) l6 [v7]])
 case atStart=>exact⟨_,_,rfl,H,⟨Nat.le_refl _⟩,HS⟩
 case round=>
  clear HS H;(try clear F)
  obtain⟨l6,v7,rfl,H,HKk5,HS⟩:=hrel
  obtain⟨B7,d7,rfl,m7⟩:=HS.form 0 rfl
  cases gk with
  |zero=>exact absurd H.out (by simp [spec_l04Trim.l0])
  | succ k5=>
   simp only [spec_l04Trim.l0] at H
   replace H:=znif H;rcases H with⟨c9,H⟩|⟨c9,H⟩
   ·
    have c9n:=(propext (Int.natCast_pos (n:=l6.length))).symm.trans c9
    obtain rfl:=zsome H
    go_wp2
    exact r1 ⟨_,rfl,HS.pi [0]⟩
   have c9n:=(propext (Int.natCast_pos (n:=l6.length))).symm.trans c9
   replace H:=zgo H;obtain⟨c10,H⟩:=H
   replace H:=zgo H;obtain⟨c11,H⟩:=H
   obtain⟨ad12,rfl,e12_0⟩:=Kd.at_int (HS.rd 0 rfl) (wrap64 ((l6.length:Int) - 1)) (of_eq_true c10) (of_eq_true c11)
   replace H:=znif' H;rcases H with⟨c13,H⟩|⟨c13,H⟩
   ·
    obtain⟨c13a,c13b⟩:=nq c13;clear c13
    obtain rfl:=zsome H
    go_wp2
    exact r1 ⟨_,rfl,HS.pi [0]⟩
   obtain⟨c13a,c13b⟩:=bq c13;clear c13
   replace H:=zgo H;obtain⟨c14,H⟩:=H
   have cd15:((wrap64 ((l6.length:Int) - 1))≤(d7:Int))=True:=eq_true (by have:=of_eq_true c14;have:=m7;omega)
   replace HS:=HS.cutrow 0 (wrap64 ((l6.length:Int) - 1)) rfl (of_eq_true c10) (of_eq_true c14)
   replace HS:Hp A w _ [.own (Zd.slice 3 (Zd.int .i64)) (l6.take ((wrap64 ((l6.length:Int) - 1))).toNat) [.slice (some ad12) ((wrap64 ((l6.length:Int) - 1))).toNat d7]]:=HS
   go_wp2
   go_roundg k5
   case measure=>have:=HKk5.out;omega
   case rel=>exact⟨_,_,rfl,H,⟨by have:=HKk5.out;omega⟩,HS.pi [0]⟩
def spec_l04Guess.l0:Nat→Int→Int→(List Int)→(List Int)→Option (Int)
  |0,_,_,_,_=>none
  |k+1,x9,x10,a0,a1=>(if(wrap64 ((a1.length:Int) - 1))≤x10 then(if 0≤x10 then(if x10<(a0.length:Int)then(spec_l04Guess.l0 k (wrap64 ((wrap64 (x9 * 10000))+(rd a0 x10))) (wrap64 (x10 - 1)) a0 a1)else none)else none)else(if 0≤(wrap64 ((a1.length:Int) - 1))then(if(wrap64 ((a1.length:Int) - 1))<(a1.length:Int)then(if 1<(a1.length:Int)then(if 0≤(wrap64 ((a1.length:Int) - 2))then(if(wrap64 ((a1.length:Int) - 2))<(a0.length:Int)then(if(wrap64 ((a1.length:Int) - 2))<(a1.length:Int)then(if¬(wrap64 ((wrap64 ((rd a1 (wrap64 ((a1.length:Int) - 1))) * 10000))+(rd a1 (wrap64 ((a1.length:Int) - 2)))))=0 then(if 9999<(wrap64 (Int.tdiv (wrap64 ((wrap64 (x9 * 10000))+(rd a0 (wrap64 ((a1.length:Int) - 2))))) (wrap64 ((wrap64 ((rd a1 (wrap64 ((a1.length:Int) - 1))) * 10000))+(rd a1 (wrap64 ((a1.length:Int) - 2)))))))then(some 9999)else(some (wrap64 (Int.tdiv (wrap64 ((wrap64 (x9 * 10000))+(rd a0 (wrap64 ((a1.length:Int) - 2))))) (wrap64 ((wrap64 ((rd a1 (wrap64 ((a1.length:Int) - 1))) * 10000))+(rd a1 (wrap64 ((a1.length:Int) - 2)))))))))else none)else none)else none)else none)else(if¬(rd a1 (wrap64 ((a1.length:Int) - 1)))=0 then(if 9999<(wrap64 (Int.tdiv x9 (rd a1 (wrap64 ((a1.length:Int) - 1)))))then(some 9999)else(some (wrap64 (Int.tdiv x9 (rd a1 (wrap64 ((a1.length:Int) - 1)))))))else none))else none)else none))
def spec_l04Guess.f (k:Nat)(a0:(List Int))(a1:(List Int)):Option (Int):=(if(a0.length:Int)<(a1.length:Int)then(some 0)else(spec_l04Guess.l0 k 0 (wrap64 ((a0.length:Int) - 1)) a0 a1))
theorem spec_l04Guess.calls {k:Nat}{a0:(List Int)}{a1:(List Int)}{Ap0 Ap1:Option Addr}{np0 cp0 np1 cp1:Nat}{r:Int}{w:World}(h:spec_l04Guess.f k a0 a1=some r)(gp0:(Kd.int .i64).C w Ap0 np0 a0)(lp0:np0≤cp0)(gp1:(Kd.int .i64).C w Ap1 np1 a1)(lp1:np1≤cp1):
    Calls Tryz.prog 148 #[.slice Ap0 np0 cp0,.slice Ap1 np1 cp1] w (fun e w'=>e=.returned (.int .i64 r)∧Hp noFP w w' []):=by
 obtain rfl:=C_len gp0
 obtain rfl:=C_len gp1
 have HS:=Hp.start w
 have H:=Aside0.mk h
 clear h
 unfold spec_l04Guess.f at H
 go_enter Tryz.func148,Tryz.ntmps148
 replace H:=zif H;rcases H with⟨c1,H⟩|⟨c1,H⟩
 ·
  obtain rfl:=zsome H
  go_wp2
  go_ret
  exact HS.pk
 go_wp2
 go_loopg [6,7] k (fun kq v_6 v_7 w'=>∃(x9:Int) (x10:Int),v_6=.int .i64 x9∧v_7=.int .i64 x10∧Aside0 (spec_l04Guess.l0 kq x9 x10 a0 a1=some r)∧Aside0 (kq≤k)∧Hp noFP w w' [])
 case atStart=>exact⟨_,_,rfl,rfl,H,⟨Nat.le_refl _⟩,HS⟩
 case round=>
  clear HS H;(try clear F)
  obtain⟨x9,x10,rfl,rfl,H,HKk8,HS⟩:=hrel
  cases gk with
  |zero=>exact absurd H.out (by simp [spec_l04Guess.l0])
  | succ k8=>
   simp only [spec_l04Guess.l0] at H
   replace H:=zif H;rcases H with⟨c12,H⟩|⟨c12,H⟩
   ·
    replace H:=zgo H;obtain⟨c13,H⟩:=H
    replace H:=zgo H;obtain⟨c14,H⟩:=H
    obtain⟨ad15,rfl,e15_0⟩:=Kd.at_int gp0 x10 (of_eq_true c13) (of_eq_true c14)
    have e15_0_15:=HS.keepc e15_0
    go_wp2
    go_roundg k8
    case measure=>have:=HKk8.out;omega
    case rel=>exact⟨_,_,rfl,rfl,H,⟨by have:=HKk8.out;omega⟩,HS.pi []⟩
   replace H:=zgo H;obtain⟨c16,H⟩:=H
   replace H:=zgo H;obtain⟨c17,H⟩:=H
   obtain⟨ad18,rfl,e18_0⟩:=Kd.at_int gp1 (wrap64 ((a1.length:Int) - 1)) (of_eq_true c16) (of_eq_true c17)
   have e18_0_18:=HS.keepc e18_0
   replace H:=znif H;rcases H with⟨c19,H⟩|⟨c19,H⟩
   ·
    replace H:=zgo H;obtain⟨c27,H⟩:=H
    go_upto_if 59 with((with_reducible refine gd 57 rfl ?_);refine ev_val rfl (run_quo rfl rfl rfl (of_eq_true c27)) ?_)
    replace H:=zif H;rcases H with⟨c28,H⟩|⟨c28,H⟩
    ·
     (try simp only [c28,dcn])
     obtain rfl:=zsome H
     go_wp2
     go_ret
     exact HS.pk
    (try simp only [c28,dcn])
    obtain rfl:=zsome H
    go_wp2
    go_ret
    exact HS.pk
   replace H:=zgo H;obtain⟨c20,H⟩:=H
   replace H:=zgo H;obtain⟨c21,H⟩:=H
   obtain⟨ad22,rfl,e22_0⟩:=Kd.at_int gp0 (wrap64 ((a1.length:Int) - 2)) (of_eq_true c20) (of_eq_true c21)
   have e22_0_22:=HS.keepc e22_0
   replace H:=zgo H;obtain⟨c23,H⟩:=H
   obtain⟨ad24,hq24,e24_0⟩:=Kd.at_int gp1 (wrap64 ((a1.length:Int) - 2)) (of_eq_true c20) (of_eq_true c23)
   obtain rfl:=Option.some.inj hq24
   have e24_0_24:=HS.keepc e24_0
   replace H:=zgo H;obtain⟨c25,H⟩:=H
   go_upto_if 59 with((with_reducible refine gd 57 rfl ?_);refine ev_val rfl (run_quo rfl rfl rfl (of_eq_true c25)) ?_)
   replace H:=zif H;rcases H with⟨c26,H⟩|⟨c26,H⟩
   ·
    (try simp only [c26,dcn])
    obtain rfl:=zsome H
    go_wp2
    go_ret
    exact HS.pk
   (try simp only [c26,dcn])
   obtain rfl:=zsome H
   go_wp2
   go_ret
   exact HS.pk
mutual
def spec_l04Mul.l0:Nat→(List Int)→Int→(List Int)→(List Int)→Nat→Option ((List Int))
  |0,_,_,_,_,_=>none
  |k+1,l56,x58,a0,a1,y9=>(if x58<(a0.length:Int)then(spec_l04Mul.l1 k l56 0 0 a0 a1 y9 x58)else((spec_l04Trim.f k l56).bind fun t98=>(some t98)))
def spec_l04Mul.l1:Nat→(List Int)→Int→Int→(List Int)→(List Int)→Nat→Int→Option ((List Int))
  |0,_,_,_,_,_,_,_=>none
  |k+1,l80,x82,x83,a0,a1,y9,x58=>(if x83<(a1.length:Int)then(if 0≤(wrap64 (x58+x83))then(if(wrap64 (x58+x83))<(y9:Int)then(if 0≤x58 then(if x58<(a0.length:Int)then(if 0≤x83 then(if x83<(a1.length:Int)then(spec_l04Mul.l1 k (l80.set ((wrap64 (x58+x83))).toNat (Int.tmod (wrap64 ((wrap64 ((rd l80 (wrap64 (x58+x83)))+(wrap64 ((rd a0 x58) * (rd a1 x83)))))+x82)) 10000)) (wrap64 (Int.tdiv (wrap64 ((wrap64 ((rd l80 (wrap64 (x58+x83)))+(wrap64 ((rd a0 x58) * (rd a1 x83)))))+x82)) 10000)) (wrap64 (x83+1)) a0 a1 y9 x58)else none)else none)else none)else none)else none)else none)else(if 0≤(wrap64 (x58+(a1.length:Int)))then(if(wrap64 (x58+(a1.length:Int)))<(y9:Int)then(spec_l04Mul.l0 k (l80.set ((wrap64 (x58+(a1.length:Int)))).toNat (wrap64 ((rd l80 (wrap64 (x58+(a1.length:Int))))+x82))) (wrap64 (x58+1)) a0 a1 y9)else none)else none))
end
def spec_l04Mul.f (k:Nat)(a0:(List Int))(a1:(List Int)):Option ((List Int)):=(if(a0.length:Int)=0 then(some ([]:List Int))else(if(a1.length:Int)=0 then(some ([]:List Int))else(if 0≤(wrap64 ((a0.length:Int)+(a1.length:Int)))then(if((wrap64 ((a0.length:Int)+(a1.length:Int)))).toNat≤35184372088832 then(lets ((wrap64 ((a0.length:Int)+(a1.length:Int)))).toNat fun y9=>(spec_l04Mul.l0 k (List.replicate y9 (0:Int)) 0 a0 a1 y9))else none)else none)))
def spec_l04Mul.T11:TT:=(true,[([],[]),([],[]),([],[]),([1,2],[1,2]),([0,3],[0,3]),([4],[4]),([],[]),([],[]),([6,7],[6,7]),([8],[8]),([],[]),([],[]),([10,11],[10,11]),([12],[12]),([9,13],[9,13]),([5,14],[5,14]),([],[]),([15,16],[15,16]),([17,0,1,2,3,4,5,6,7,8,9,10,11,12,13,14,15,16,17],[17])])
theorem spec_l04Mul.tT11:rtab .any (opsOf Tryz.f153 11)=spec_l04Mul.T11:=by kernel_rfl
theorem spec_l04Mul.calls {k:Nat}{a0:(List Int)}{a1:(List Int)}{Ap0 Ap1:Option Addr}{np0 cp0 np1 cp1:Nat}{r:(List Int)}{w:World}(h:spec_l04Mul.f k a0 a1=some r)(gp0:(Kd.int .i64).C w Ap0 np0 a0)(lp0:np0≤cp0)(gp1:(Kd.int .i64).C w Ap1 np1 a1)(lp1:np1≤cp1):
    Calls Tryz.prog 153 #[.slice Ap0 np0 cp0,.slice Ap1 np1 cp1] w (fun e w'=>∃v0_:Value,e=.returned (v0_)∧Hp noFP w w' [.own (Zd.slice 3 (Zd.int .i64)) r [v0_]]):=by
 obtain rfl:=C_len gp0
 obtain rfl:=C_len gp1
 have HS:=Hp.start w
 have H:=Aside0.mk h
 clear h
 unfold spec_l04Mul.f at H
 go_enter Tryz.func153,Tryz.ntmps153
 replace H:=zif' H;rcases H with⟨c1,H⟩|⟨c1,H⟩
 ·
  obtain⟨c1a,c1b⟩:=bq c1;clear c1
  obtain rfl:=zsome H
  go_wp2_with ((with_reducible refine gd 18 rfl ?_);refine ev_li (Zd.int .i64) [] ([]:List Int) [] HS MadeL.nil ?_;clear HS;intro v2 w2 HS F;obtain⟨B2,d2,rfl,m2⟩:=HS.formn 0 0 rfl rfl)
  exact r1 ⟨_,rfl,HS.pi [0]⟩
 obtain⟨c1a,c1b⟩:=nq c1;clear c1
 replace H:=zif' H;rcases H with⟨c4,H⟩|⟨c4,H⟩
 ·
  obtain⟨c4a,c4b⟩:=bq c4;clear c4
  obtain rfl:=zsome H
  go_wp2_with ((with_reducible refine gd 18 rfl ?_);refine ev_li (Zd.int .i64) [] ([]:List Int) [] HS MadeL.nil ?_;clear HS;intro v5 w5 HS F;obtain⟨B5,d5,rfl,m5⟩:=HS.formn 0 0 rfl rfl)
  exact r1 ⟨_,rfl,HS.pi [0]⟩
 obtain⟨c4a,c4b⟩:=nq c4;clear c4
 replace H:=zgo H;obtain⟨c7,H⟩:=H
 replace H:=zgo H;obtain⟨c8,H⟩:=H
 replace H:=zlets H;obtain⟨y9,e_y9,H⟩:=H
 go_wp2_with ((with_reducible refine gd 24 rfl ?_);refine ev_make rfl (Zd.int .i64) (0:Int) HS rfl (wrap64 ((a0.length:Int)+(a1.length:Int))) rfl rfl Tryz.underlying35 info3 rfl (by decide) (by decide) (fun _ _=>rfl) (of_eq_true c7) (by have:=of_eq_true c8;omega) ?_;clear HS;intro v10 w10 HS;rw [←e_y9.out] at HS;obtain⟨B10,d10,rfl,m10⟩:=HS.formn y9 0 rfl (by first|rfl|simp);(try simp only [hpn,hpm] at HS))
 go_loopg [6] k (fun kq v_6 w'=>∃(l56:List Int) (x58:Int),v_6=.int .i64 x58∧Aside0 (spec_l04Mul.l0 kq l56 x58 a0 a1 y9=some r)∧Aside0 (kq≤k)∧Hp noFP w w' [.own (Zd.slice 3 (Zd.int .i64)) l56 [.slice B10 y9 d10]])
 case atStart=>exact⟨_,_,rfl,H,⟨Nat.le_refl _⟩,HS⟩
 case round=>
  clear HS H;(try clear F)
  obtain⟨l56,x58,rfl,H,HKk55,HS⟩:=hrel
  cases gk with
  |zero=>exact absurd H.out (by simp [spec_l04Mul.l0])
  | succ k55=>
   simp only [spec_l04Mul.l0] at H
   replace H:=znif H;rcases H with⟨c60,H⟩|⟨c60,H⟩
   ·
    replace H:=zbind H;obtain⟨t98,ht98,H⟩:=H
    obtain rfl:=zsome H
    go_wp2_with ((with_reducible refine gd 80 rfl ?_);refine ev_lb1 [0] HS (fun _ _ HA=>spec_l04Trim.calls ht98.out HA) Tryz.func147 ?_;clear HS;intro v99 wt98 HS F;obtain⟨B99,d99,rfl,m99⟩:=HS.form 0 rfl;(try simp only [hpn,hpm] at HS))
    exact r1 ⟨_,rfl,HS.pi [0]⟩
   go_wp2
   (try obtain⟨wok79,rfl⟩:∃wo_:World,wo_=wr:=⟨_,rfl⟩)
   go_loopg [7,8] k55 (fun kq v_7 v_8 w'=>∃(l80:List Int) (x82:Int) (x83:Int),v_7=.int .i64 x82∧v_8=.int .i64 x83∧Aside0 (spec_l04Mul.l1 kq l80 x82 x83 a0 a1 y9 x58=some r)∧Aside0 (kq≤k55)∧Hp noFP w w' [.own (Zd.slice 3 (Zd.int .i64)) l80 [.slice B10 y9 d10]])
   case atStart=>exact⟨_,_,_,rfl,rfl,H,⟨Nat.le_refl _⟩,HS⟩
   case round=>
    clear HS H;(try clear F)
    obtain⟨l80,x82,x83,rfl,rfl,H,HKk79,HS⟩:=hrel
    cases gk with
    |zero=>exact absurd H.out (by simp [spec_l04Mul.l1])
    | succ k79=>
     simp only [spec_l04Mul.l1] at H
     replace H:=znif H;rcases H with⟨c85,H⟩|⟨c85,H⟩
     ·
      replace H:=zgo H;obtain⟨c92,H⟩:=H
      replace H:=zgo H;obtain⟨c93,H⟩:=H
      obtain⟨ad94,rfl,e94_0⟩:=Kd.at_int (HS.rd 0 rfl) (wrap64 (x58+(a1.length:Int))) (of_eq_true c92) (of_eq_true c93)
      obtain⟨ad95,hq95,e95_0⟩:=Kd.at_int (HS.rd 0 rfl) (wrap64 (x58+(a1.length:Int))) (of_eq_true c92) (of_eq_true c93)
      obtain rfl:=Option.some.inj hq95
      go_wp2_with ((with_reducible refine gate_store (p:=78) rfl ?_);refine ev_set rfl (Zd.int .i64) 0 [] (wrap64 (x58+(a1.length:Int))) (wrap64 ((rd l80 (wrap64 (x58+(a1.length:Int))))+x82)) HS (seg:=[.int .i64 (wrap64 ((rd l80 (wrap64 (x58+(a1.length:Int))))+x82))]) rfl (by decide) rfl rfl rfl (by first|rfl|exact(Nat.mul_one _).symm) rfl rfl (by kernel_rfl) (by simp [Value.oneCell']) ⟨of_eq_true c92,of_eq_true c93⟩ rfl (made_flat (fun _=>rfl)) ?_;clear HS;intro w96 HS;(try simp only [hpn,hpm] at HS))
      go_roundg k79
      case measure=>have:=HKk55.out;have:=HKk79.out;omega
      case rel=>exact⟨_,_,rfl,H,⟨by have:=HKk55.out;have:=HKk79.out;omega⟩,HS.pi [0]⟩
     (try go_wp2)
     replace H:=zgo H;obtain⟨c12,H⟩:=H
     replace H:=zgo H;obtain⟨c13,H⟩:=H
     obtain⟨ad14,rfl,e14_0⟩:=Kd.at_int (HS.rd 0 rfl) (wrap64 (x58+x83)) (of_eq_true c12) (of_eq_true c13)
     replace H:=zgo H;obtain⟨c15,H⟩:=H
     replace H:=zgo H;obtain⟨c16,H⟩:=H
     obtain⟨ad17,rfl,e17_0⟩:=Kd.at_int gp0 x58 (of_eq_true c15) (of_eq_true c16)
     replace H:=zgo H;obtain⟨c18,H⟩:=H
     replace H:=zgo H;obtain⟨c19,H⟩:=H
     obtain⟨ad20,rfl,e20_0⟩:=Kd.at_int gp1 x83 (of_eq_true c18) (of_eq_true c19)
     refine dr_start [] HS #[false,false,false,false,false,false,false,false,false,false,false,false,false,false,false,false,false,false,false] (by kernel_rfl) rfl rfl spec_l04Mul.tT11 (fun w87 HT HS HH=>?_)
     (try clear F)
     refine dq [0,1,2,3,4] HT ?_
     refine dtk 5 42 HT HH rfl (by rintro w' ⟨rs',HS'⟩;obtain⟨ad_,q_,e14_0⟩:=Kd.at_int (HS'.rd 0 rfl) (wrap64 (x58+x83)) (of_eq_true c12) (of_eq_true c13);obtain rfl:=Option.some.inj q_;go_simp;with_reducible rfl) ?_
     refine dq [6,7,8] HT ?_
     refine dtk 9 46 HT HH rfl (by rintro w' ⟨rs',HS'⟩;have e17_0:=HS'.keepc e17_0;go_simp;with_reducible rfl) ?_
     refine dq [10,11,12] HT ?_
     refine dtk 13 50 HT HH rfl (by rintro w' ⟨rs',HS'⟩;have e20_0:=HS'.keepc e20_0;go_simp;with_reducible rfl) ?_
     refine dq [14,15,16,17,18] HT ?_
     refine dn HT ?_
     obtain⟨ad89,hq89,e89_0⟩:=Kd.at_int (HS.rd 0 rfl) (wrap64 (x58+x83)) (of_eq_true c12) (of_eq_true c13)
     obtain rfl:=Option.some.inj hq89
     go_wp2_with ((with_reducible refine gate_store (p:=61) rfl ?_);refine ev_set rfl (Zd.int .i64) 0 [] (wrap64 (x58+x83)) (Int.tmod (wrap64 ((wrap64 ((rd l80 (wrap64 (x58+x83)))+(wrap64 ((rd a0 x58) * (rd a1 x83)))))+x82)) 10000) HS (seg:=[.int .i64 (Int.tmod (wrap64 ((wrap64 ((rd l80 (wrap64 (x58+x83)))+(wrap64 ((rd a0 x58) * (rd a1 x83)))))+x82)) 10000)]) rfl (by decide) rfl rfl rfl (by first|rfl|exact(Nat.mul_one _).symm) rfl rfl (by kernel_rfl) (by simp [Value.oneCell']) ⟨of_eq_true c12,of_eq_true c13⟩ rfl (made_flat (fun _=>rfl)) ?_;clear HS;intro w90 HS;(try simp only [hpn,hpm] at HS))
     go_roundg k79
     case measure=>have:=HKk55.out;have:=HKk79.out;omega
     case rel=>exact⟨_,_,_,rfl,rfl,H,⟨by have:=HKk55.out;have:=HKk79.out;omega⟩,HS.pi [0]⟩
def spec_l04Times.f (k:Nat)(a0:(List Int))(a1:Int):Option ((List Int)):=(if a1=0 then(some ([]:List Int))else((spec_l04Mul.f k a0 ([a1]:List Int)).bind fun t6=>(some t6)))
theorem spec_l04Times.calls {k:Nat}{a0:(List Int)}{a1:Int}{Ap0:Option Addr}{np0 cp0:Nat}{r:(List Int)}{w:World}(h:spec_l04Times.f k a0 a1=some r)(gp0:(Kd.int .i64).C w Ap0 np0 a0)(lp0:np0≤cp0):
    Calls Tryz.prog 149 #[.slice Ap0 np0 cp0,.int .i64 a1] w (fun e w'=>∃v0_:Value,e=.returned (v0_)∧Hp noFP w w' [.own (Zd.slice 3 (Zd.int .i64)) r [v0_]]):=by
 obtain rfl:=C_len gp0
 have HS:=Hp.start w
 have H:=Aside0.mk h
 clear h
 unfold spec_l04Times.f at H
 go_enter Tryz.func149,Tryz.ntmps149
 replace H:=zif' H;rcases H with⟨c1,H⟩|⟨c1,H⟩
 ·
  obtain⟨c1a,c1b⟩:=bq c1;clear c1
  obtain rfl:=zsome H
  go_wp2_with ((with_reducible refine gd 7 rfl ?_);refine ev_li (Zd.int .i64) [] ([]:List Int) [] HS MadeL.nil ?_;clear HS;intro v2 w2 HS F;obtain⟨B2,d2,rfl,m2⟩:=HS.formn 0 0 rfl rfl)
  exact r1 ⟨_,rfl,HS.pi [0]⟩
 obtain⟨c1a,c1b⟩:=nq c1;clear c1
 replace H:=zbind H;obtain⟨t6,ht6,H⟩:=H
 obtain rfl:=zsome H
 go_wp2_with (first|((with_reducible refine gd 10 rfl ?_);refine ev_li (Zd.int .i64) [] ([a1]:List Int) ([.int .i64 a1]++ []) HS (MadeL.cons (js1:=[]) (c:=[.int .i64 a1]) rfl (made_flat (fun _=>rfl)) MadeL.nil (by decide)) ?_;clear HS;intro v4 w4 HS F;obtain⟨B4,d4,rfl,m4⟩:=HS.formn 1 0 rfl rfl)|((with_reducible refine gd 11 rfl ?_);refine ev_cl1 HS (spec_l04Mul.calls ht6.out (HS.ro gp0) lp0 (HS.rd 0 rfl) m4) Tryz.func153 ?_;clear HS;intro v7 wt6 HS F;obtain⟨B7,d7,rfl,m7⟩:=HS.form 1 rfl))
 exact r1 ⟨_,rfl,HS.pi [1]⟩
def spec_l04Cmp.l0:Nat→Int→(List Int)→(List Int)→Option (Int)
  |0,_,_,_=>none
  |k+1,x5,a0,a1=>(if 0≤x5 then(if 0≤x5 then(if x5<(a0.length:Int)then(if x5<(a1.length:Int)then(if(rd a0 x5)<(rd a1 x5)then(some (-1))else(if(rd a1 x5)<(rd a0 x5)then(some 1)else(spec_l04Cmp.l0 k (wrap64 (x5 - 1)) a0 a1)))else none)else none)else none)else(some 0))
def spec_l04Cmp.f (k:Nat)(a0:(List Int))(a1:(List Int)):Option (Int):=(if(a0.length:Int)=(a1.length:Int)then(spec_l04Cmp.l0 k (wrap64 ((a0.length:Int) - 1)) a0 a1)else(if(a0.length:Int)<(a1.length:Int)then(some (-1))else(some 1)))
def spec_l04Cmp.T8:TT:=(true,[([],[]),([],[]),([0,1],[0,1]),([2],[2]),([],[]),([],[]),([4,5],[4,5]),([6],[6]),([3,7],[3,7])])
theorem spec_l04Cmp.tT8:rtab .any (opsOf Tryz.f150 8)=spec_l04Cmp.T8:=by kernel_rfl
def spec_l04Cmp.T10:TT:=(true,[([],[]),([],[]),([0,1],[0,1]),([2],[2]),([],[]),([],[]),([4,5],[4,5]),([6],[6]),([3,7],[3,7])])
theorem spec_l04Cmp.tT10:rtab .any (opsOf Tryz.f150 10)=spec_l04Cmp.T10:=by kernel_rfl
theorem spec_l04Cmp.calls {k:Nat}{a0:(List Int)}{a1:(List Int)}{Ap0 Ap1:Option Addr}{np0 cp0 np1 cp1:Nat}{r:Int}{w:World}(h:spec_l04Cmp.f k a0 a1=some r)(gp0:(Kd.int .i64).C w Ap0 np0 a0)(lp0:np0≤cp0)(gp1:(Kd.int .i64).C w Ap1 np1 a1)(lp1:np1≤cp1):
    Calls Tryz.prog 150 #[.slice Ap0 np0 cp0,.slice Ap1 np1 cp1] w (fun e w'=>e=.returned (.int .i64 r)∧Hp noFP w w' []):=by
 obtain rfl:=C_len gp0
 obtain rfl:=C_len gp1
 have HS:=Hp.start w
 have H:=Aside0.mk h
 clear h
 unfold spec_l04Cmp.f at H
 go_enter Tryz.func150,Tryz.ntmps150
 replace H:=znif' H;rcases H with⟨c1,H⟩|⟨c1,H⟩
 ·
  obtain⟨c1a,c1b⟩:=nq c1;clear c1
  replace H:=zif H;rcases H with⟨c16,H⟩|⟨c16,H⟩
  ·
   obtain rfl:=zsome H
   go_wp2
   go_ret
   exact HS.pk
  obtain rfl:=zsome H
  go_wp2
  go_ret
  exact HS.pk
 obtain⟨c1a,c1b⟩:=bq c1;clear c1
 go_wp2
 go_loopg [5] k (fun kq v_5 w'=>∃(x5:Int),v_5=.int .i64 x5∧Aside0 (spec_l04Cmp.l0 kq x5 a0 a1=some r)∧Aside0 (kq≤k)∧Hp noFP w w' [])
 case atStart=>exact⟨_,rfl,H,⟨Nat.le_refl _⟩,HS⟩
 case round=>
  clear HS H;(try clear F)
  obtain⟨x5,rfl,H,HKk4,HS⟩:=hrel
  cases gk with
  |zero=>exact absurd H.out (by simp [spec_l04Cmp.l0])
  | succ k4=>
   simp only [spec_l04Cmp.l0] at H
   replace H:=znif H;rcases H with⟨c7,H⟩|⟨c7,H⟩
   ·
    obtain rfl:=zsome H
    go_wp2
    go_ret
    exact HS.pk
   (try go_wp2)
   replace H:=zgo H;obtain⟨c3,H⟩:=H
   replace H:=zgo H;obtain⟨c6,H⟩:=H
   obtain⟨ad12,rfl,e12_0⟩:=Kd.at_int gp0 x5 (of_eq_true c3) (of_eq_true c6)
   replace H:=zgo H;obtain⟨c14,H⟩:=H
   obtain⟨ad17,rfl,e17_0⟩:=Kd.at_int gp1 x5 (of_eq_true c3) (of_eq_true c14)
   refine dr_start [] HS #[false,false,false,false,false,false,false,false,false] (by kernel_rfl) rfl rfl spec_l04Cmp.tT8 (fun w9 HT HS HH=>?_)
   (try clear F)
   refine dq [0,1,2] HT ?_
   refine dtk 3 26 HT HH rfl (by rintro w' ⟨rs',HS'⟩;have e12_0:=HS'.keepc e12_0;go_simp;with_reducible rfl) ?_
   refine dq [4,5,6] HT ?_
   refine dtk 7 30 HT HH rfl (by rintro w' ⟨rs',HS'⟩;have e17_0:=HS'.keepc e17_0;go_simp;with_reducible rfl) ?_
   refine dq [8] HT ?_
   refine dn HT ?_
   replace H:=zif H;rcases H with⟨c11,H⟩|⟨c11,H⟩
   ·
    (try simp only [c11,dcn])
    obtain rfl:=zsome H
    go_wp2
    go_ret
    exact HS.pk
   (try simp only [c11,dcn])
   (try go_wp2)
   refine dr_start [] HS #[false,false,false,false,false,false,false,false,false] (by kernel_rfl) rfl rfl spec_l04Cmp.tT10 (fun w13 HT HS HH=>?_)
   (try clear F)
   refine dq [0,1,2] HT ?_
   refine dtk 3 35 HT HH rfl (by rintro w' ⟨rs',HS'⟩;have e12_0:=HS'.keepc e12_0;go_simp;with_reducible rfl) ?_
   refine dq [4,5,6] HT ?_
   refine dtk 7 39 HT HH rfl (by rintro w' ⟨rs',HS'⟩;have e17_0:=HS'.keepc e17_0;go_simp;with_reducible rfl) ?_
   refine dq [8] HT ?_
   refine dn HT ?_
   replace H:=zif H;rcases H with⟨c15,H⟩|⟨c15,H⟩
   ·
    (try simp only [c15,dcn])
    obtain rfl:=zsome H
    go_wp2
    go_ret
    exact HS.pk
   (try simp only [c15,dcn])
   go_wp2
   go_roundg k4
   case measure=>have:=HKk4.out;omega
   case rel=>exact⟨_,rfl,H,⟨by have:=HKk4.out;omega⟩,HS.pi []⟩
def spec_l04Sub.l0:Nat→(List Int)→Int→Int→(List Int)→(List Int)→Option ((List Int))
  |0,_,_,_,_,_=>none
  |k+1,l26,x28,x29,a0,a1=>(if x29<(a0.length:Int)then(if 0≤x29 then(if x29<(a0.length:Int)then(if x29<(a1.length:Int)then(if x29<(a1.length:Int)then(if(wrap64 ((wrap64 ((rd a0 x29) - x28)) - (rd a1 x29)))<0 then(if l26.length+1≤17592186044416 then(lets (l26++([(wrap64 ((wrap64 ((wrap64 ((rd a0 x29) - x28)) - (rd a1 x29)))+10000))]:List Int)) fun y42=>(spec_l04Sub.l0 k y42 1 (wrap64 (x29+1)) a0 a1))else none)else(if l26.length+1≤17592186044416 then(lets (l26++([(wrap64 ((wrap64 ((rd a0 x29) - x28)) - (rd a1 x29)))]:List Int)) fun y47=>(spec_l04Sub.l0 k y47 0 (wrap64 (x29+1)) a0 a1))else none))else none)else(if(wrap64 ((rd a0 x29) - x28))<0 then(if l26.length+1≤17592186044416 then(lets (l26++([(wrap64 ((wrap64 ((rd a0 x29) - x28))+10000))]:List Int)) fun y53=>(spec_l04Sub.l0 k y53 1 (wrap64 (x29+1)) a0 a1))else none)else(if l26.length+1≤17592186044416 then(lets (l26++([(wrap64 ((rd a0 x29) - x28))]:List Int)) fun y58=>(spec_l04Sub.l0 k y58 0 (wrap64 (x29+1)) a0 a1))else none)))else none)else none)else((spec_l04Trim.f k l26).bind fun t60=>(some t60)))
def spec_l04Sub.f (k:Nat)(a0:(List Int))(a1:(List Int)):Option ((List Int)):=(spec_l04Sub.l0 k ([]:List Int) 0 0 a0 a1)
theorem spec_l04Sub.calls {k:Nat}{a0:(List Int)}{a1:(List Int)}{Ap0 Ap1:Option Addr}{np0 cp0 np1 cp1:Nat}{r:(List Int)}{w:World}(h:spec_l04Sub.f k a0 a1=some r)(gp0:(Kd.int .i64).C w Ap0 np0 a0)(lp0:np0≤cp0)(gp1:(Kd.int .i64).C w Ap1 np1 a1)(lp1:np1≤cp1):
    Calls Tryz.prog 151 #[.slice Ap0 np0 cp0,.slice Ap1 np1 cp1] w (fun e w'=>∃v0_:Value,e=.returned (v0_)∧Hp noFP w w' [.own (Zd.slice 3 (Zd.int .i64)) r [v0_]]):=by
 obtain rfl:=C_len gp0
 obtain rfl:=C_len gp1
 have HS:=Hp.start w
 have H:=Aside0.mk h
 clear h
 unfold spec_l04Sub.f at H
 go_enter Tryz.func151,Tryz.ntmps151
 go_wp2_with ((with_reducible refine gd 9 rfl ?_);refine ev_li (Zd.int .i64) [] ([]:List Int) [] HS MadeL.nil ?_;clear HS;intro v1 w1 HS F;obtain⟨B1,d1,rfl,m1⟩:=HS.formn 0 0 rfl rfl)
 go_loopg [5,6,7] k (fun kq v_5 v_6 v_7 w'=>∃(l26:List Int) (v27:Value) (x28:Int) (x29:Int),v_5=v27∧v_6=.int .i64 x28∧v_7=.int .i64 x29∧Aside0 (spec_l04Sub.l0 kq l26 x28 x29 a0 a1=some r)∧Aside0 (kq≤k)∧Hp noFP w w' [.own (Zd.slice 3 (Zd.int .i64)) l26 [v27]])
 case atStart=>exact⟨_,_,_,_,rfl,rfl,rfl,H,⟨Nat.le_refl _⟩,HS⟩
 case round=>
  clear HS H;(try clear F)
  obtain⟨l26,v27,x28,x29,rfl,rfl,rfl,H,HKk25,HS⟩:=hrel
  obtain⟨B27,d27,rfl,m27⟩:=HS.form 0 rfl
  cases gk with
  |zero=>exact absurd H.out (by simp [spec_l04Sub.l0])
  | succ k25=>
   simp only [spec_l04Sub.l0] at H
   replace H:=znif H;rcases H with⟨c31,H⟩|⟨c31,H⟩
   ·
    replace H:=zbind H;obtain⟨t60,ht60,H⟩:=H
    obtain rfl:=zsome H
    go_wp2_with ((with_reducible refine gd 41 rfl ?_);refine ev_lb1 [0] HS (fun _ _ HA=>spec_l04Trim.calls ht60.out HA) Tryz.func147 ?_;clear HS;intro v61 wt60 HS F;obtain⟨B61,d61,rfl,m61⟩:=HS.form 0 rfl;(try simp only [hpn,hpm] at HS))
    exact r1 ⟨_,rfl,HS.pi [0]⟩
   replace H:=zgo H;obtain⟨c32,H⟩:=H
   replace H:=zgo H;obtain⟨c33,H⟩:=H
   obtain⟨ad34,rfl,e34_0⟩:=Kd.at_int gp0 x29 (of_eq_true c32) (of_eq_true c33)
   have e34_0_34:=HS.keepc e34_0
   replace H:=znif H;rcases H with⟨c35,H⟩|⟨c35,H⟩
   ·
    replace H:=znif H;rcases H with⟨c49,H⟩|⟨c49,H⟩
    ·
     replace H:=zgo H;obtain⟨c57,H⟩:=H
     replace H:=zlets H;obtain⟨y58,e_y58,H⟩:=H
     go_wp2_with (first|((with_reducible refine gd 38 rfl ?_);refine ev_li (Zd.int .i64) [] ([(wrap64 ((rd a0 x29) - x28))]:List Int) ([.int .i64 (wrap64 ((rd a0 x29) - x28))]++ []) HS (MadeL.cons (js1:=[]) (c:=[.int .i64 (wrap64 ((rd a0 x29) - x28))]) rfl (made_flat (fun _=>rfl)) MadeL.nil (by decide)) ?_;clear HS;intro v55 w55 HS F;obtain⟨B55,d55,rfl,m55⟩:=HS.formn 1 1 rfl rfl)|((with_reducible refine gd 39 rfl ?_);refine ev_ap (Zd.int .i64) 0 1 HS rfl rfl Tryz.underlying35 info3 (of_eq_true c57) ?_;clear HS;intro v58 w58 HS;rw [←e_y58.out] at HS;obtain⟨B58,d58,rfl,m58⟩:=HS.form 2 rfl;(try simp only [hpn,hpm] at HS)))
     go_roundg k25
     case measure=>have:=HKk25.out;omega
     case rel=>exact⟨_,_,_,_,rfl,rfl,rfl,H,⟨by have:=HKk25.out;omega⟩,HS.pi [2]⟩
    replace H:=zgo H;obtain⟨c52,H⟩:=H
    replace H:=zlets H;obtain⟨y53,e_y53,H⟩:=H
    go_wp2_with (first|((with_reducible refine gd 38 rfl ?_);refine ev_li (Zd.int .i64) [] ([(wrap64 ((wrap64 ((rd a0 x29) - x28))+10000))]:List Int) ([.int .i64 (wrap64 ((wrap64 ((rd a0 x29) - x28))+10000))]++ []) HS (MadeL.cons (js1:=[]) (c:=[.int .i64 (wrap64 ((wrap64 ((rd a0 x29) - x28))+10000))]) rfl (made_flat (fun _=>rfl)) MadeL.nil (by decide)) ?_;clear HS;intro v50 w50 HS F;obtain⟨B50,d50,rfl,m50⟩:=HS.formn 1 1 rfl rfl)|((with_reducible refine gd 39 rfl ?_);refine ev_ap (Zd.int .i64) 0 1 HS rfl rfl Tryz.underlying35 info3 (of_eq_true c52) ?_;clear HS;intro v53 w53 HS;rw [←e_y53.out] at HS;obtain⟨B53,d53,rfl,m53⟩:=HS.form 2 rfl;(try simp only [hpn,hpm] at HS)))
    go_roundg k25
    case measure=>have:=HKk25.out;omega
    case rel=>exact⟨_,_,_,_,rfl,rfl,rfl,H,⟨by have:=HKk25.out;omega⟩,HS.pi [2]⟩
   replace H:=zgo H;obtain⟨c36,H⟩:=H
   obtain⟨ad37,rfl,e37_0⟩:=Kd.at_int gp1 x29 (of_eq_true c32) (of_eq_true c36)
   have e37_0_37:=HS.keepc e37_0
   replace H:=znif H;rcases H with⟨c38,H⟩|⟨c38,H⟩
   ·
    replace H:=zgo H;obtain⟨c46,H⟩:=H
    replace H:=zlets H;obtain⟨y47,e_y47,H⟩:=H
    go_wp2_with (first|((with_reducible refine gd 38 rfl ?_);refine ev_li (Zd.int .i64) [] ([(wrap64 ((wrap64 ((rd a0 x29) - x28)) - (rd a1 x29)))]:List Int) ([.int .i64 (wrap64 ((wrap64 ((rd a0 x29) - x28)) - (rd a1 x29)))]++ []) HS (MadeL.cons (js1:=[]) (c:=[.int .i64 (wrap64 ((wrap64 ((rd a0 x29) - x28)) - (rd a1 x29)))]) rfl (made_flat (fun _=>rfl)) MadeL.nil (by decide)) ?_;clear HS;intro v44 w44 HS F;obtain⟨B44,d44,rfl,m44⟩:=HS.formn 1 1 rfl rfl)|((with_reducible refine gd 39 rfl ?_);refine ev_ap (Zd.int .i64) 0 1 HS rfl rfl Tryz.underlying35 info3 (of_eq_true c46) ?_;clear HS;intro v47 w47 HS;rw [←e_y47.out] at HS;obtain⟨B47,d47,rfl,m47⟩:=HS.form 2 rfl;(try simp only [hpn,hpm] at HS)))
    go_roundg k25
    case measure=>have:=HKk25.out;omega
    case rel=>exact⟨_,_,_,_,rfl,rfl,rfl,H,⟨by have:=HKk25.out;omega⟩,HS.pi [2]⟩
   replace H:=zgo H;obtain⟨c41,H⟩:=H
   replace H:=zlets H;obtain⟨y42,e_y42,H⟩:=H
   go_wp2_with (first|((with_reducible refine gd 38 rfl ?_);refine ev_li (Zd.int .i64) [] ([(wrap64 ((wrap64 ((wrap64 ((rd a0 x29) - x28)) - (rd a1 x29)))+10000))]:List Int) ([.int .i64 (wrap64 ((wrap64 ((wrap64 ((rd a0 x29) - x28)) - (rd a1 x29)))+10000))]++ []) HS (MadeL.cons (js1:=[]) (c:=[.int .i64 (wrap64 ((wrap64 ((wrap64 ((rd a0 x29) - x28)) - (rd a1 x29)))+10000))]) rfl (made_flat (fun _=>rfl)) MadeL.nil (by decide)) ?_;clear HS;intro v39 w39 HS F;obtain⟨B39,d39,rfl,m39⟩:=HS.formn 1 1 rfl rfl)|((with_reducible refine gd 39 rfl ?_);refine ev_ap (Zd.int .i64) 0 1 HS rfl rfl Tryz.underlying35 info3 (of_eq_true c41) ?_;clear HS;intro v42 w42 HS;rw [←e_y42.out] at HS;obtain⟨B42,d42,rfl,m42⟩:=HS.form 2 rfl;(try simp only [hpn,hpm] at HS)))
   go_roundg k25
   case measure=>have:=HKk25.out;omega
   case rel=>exact⟨_,_,_,_,rfl,rfl,rfl,H,⟨by have:=HKk25.out;omega⟩,HS.pi [2]⟩
mutual
def spec_l04Div.l0:Nat→(List Int)→(List Int)→Int→(List Int)→(List Int)→Option ((List Int)×(List Int))
  |0,_,_,_,_,_=>none
  |k+1,l90,l92,x94,a0,a1=>(if 0≤x94 then(if 0≤x94 then(if x94<(a0.length:Int)then(if 1+l90.length≤17592186044416 then(lets (([(rd a0 x94)]:List Int)++l90) fun y103=>((spec_l04Trim.f k y103).bind fun t105=>((spec_l04Guess.f k t105 a1).bind fun t108=>((spec_l04Times.f k a1 t108).bind fun t110=>(spec_l04Div.l1 k t110 t108 a0 a1 l92 x94 t105)))))else none)else none)else none)else((spec_l04Trim.f k l92).bind fun t161=>(some (t161,l90))))
def spec_l04Div.l1:Nat→(List Int)→Int→(List Int)→(List Int)→(List Int)→Int→(List Int)→Option ((List Int)×(List Int))
  |0,_,_,_,_,_,_,_=>none
  |k+1,l124,x126,a0,a1,l92,x94,t105=>((spec_l04Cmp.f k l124 t105).bind fun t128=>(if 0<t128 then((spec_l04Sub.f k l124 a1).bind fun t131=>(spec_l04Div.l1 k t131 (wrap64 (x126 - 1)) a0 a1 l92 x94 t105))else((spec_l04Sub.f k t105 l124).bind fun t134=>(spec_l04Div.l2 k t134 x126 a0 a1 l92 x94))))
def spec_l04Div.l2:Nat→(List Int)→Int→(List Int)→(List Int)→(List Int)→Int→Option ((List Int)×(List Int))
  |0,_,_,_,_,_,_=>none
  |k+1,l148,x150,a0,a1,l92,x94=>((spec_l04Cmp.f k l148 a1).bind fun t152=>(if 0≤t152 then((spec_l04Sub.f k l148 a1).bind fun t155=>(spec_l04Div.l2 k t155 (wrap64 (x150+1)) a0 a1 l92 x94))else(spec_l04Div.l0 k l148 (l92.set (x94).toNat x150) (wrap64 (x94 - 1)) a0 a1)))
end
def spec_l04Div.f (k:Nat)(a0:(List Int))(a1:(List Int)):Option ((List Int)×(List Int)):=(if 0≤(a0.length:Int)then(if((a0.length:Int)).toNat≤35184372088832 then(spec_l04Div.l0 k ([]:List Int) (List.replicate a0.length (0:Int)) (wrap64 ((a0.length:Int) - 1)) a0 a1)else none)else none)
theorem spec_l04Div.calls {k:Nat}{a0:(List Int)}{a1:(List Int)}{Ap0 Ap1:Option Addr}{np0 cp0 np1 cp1:Nat}{r1:(List Int)}{r2:(List Int)}{w:World}(h:spec_l04Div.f k a0 a1=some (r1,r2))(gp0:(Kd.int .i64).C w Ap0 np0 a0)(lp0:np0≤cp0)(gp1:(Kd.int .i64).C w Ap1 np1 a1)(lp1:np1≤cp1):
    Calls Tryz.prog 134 #[.slice Ap0 np0 cp0,.slice Ap1 np1 cp1] w (fun e w'=>∃v0_ v1_:Value,e=.returned (.tuple #[v0_,v1_])∧Hp noFP w w' [.own (Zd.slice 3 (Zd.int .i64)) r1 [v0_],.own (Zd.slice 3 (Zd.int .i64)) r2 [v1_]]):=by
 obtain rfl:=C_len gp0
 obtain rfl:=C_len gp1
 have HS:=Hp.start w
 have H:=Aside0.mk h
 clear h
 unfold spec_l04Div.f at H
 go_enter Tryz.func134,Tryz.ntmps134
 replace H:=zgo H;obtain⟨c1,H⟩:=H
 replace H:=zgo H;obtain⟨c2,H⟩:=H
 go_wp2_with (first|((with_reducible refine gd 13 rfl ?_);refine ev_make rfl (Zd.int .i64) (0:Int) HS rfl (a0.length:Int) rfl rfl Tryz.underlying35 info3 rfl (by decide) (by decide) (fun _ _=>rfl) (of_eq_true c1) (by have:=of_eq_true c2;omega) ?_;clear HS;intro v3 w3 HS;obtain⟨B3,d3,rfl,m3⟩:=HS.formn a0.length 0 rfl (by first|rfl|simp);(try simp only [hpn,hpm] at HS))|((with_reducible refine gd 14 rfl ?_);refine ev_li (Zd.int .i64) [] ([]:List Int) [] HS MadeL.nil ?_;clear HS;intro v5 w5 HS F;obtain⟨B5,d5,rfl,m5⟩:=HS.formn 0 1 rfl rfl))
 go_loopg [7,8] k (fun kq v_7 v_8 w'=>∃(l90:List Int) (v91:Value) (l92:List Int) (x94:Int),v_7=v91∧v_8=.int .i64 x94∧Aside0 (spec_l04Div.l0 kq l90 l92 x94 a0 a1=some (r1,r2))∧Aside0 (kq≤k)∧Hp noFP w w' [.own (Zd.slice 3 (Zd.int .i64)) l92 [.slice B3 a0.length d3],.own (Zd.slice 3 (Zd.int .i64)) l90 [v91]])
 case atStart=>exact⟨_,_,_,_,rfl,rfl,H,⟨Nat.le_refl _⟩,HS⟩
 case round=>
  clear HS H;(try clear F)
  obtain⟨l90,v91,l92,x94,rfl,rfl,H,HKk89,HS⟩:=hrel
  obtain⟨B91,d91,rfl,m91⟩:=HS.form 1 rfl
  cases gk with
  |zero=>exact absurd H.out (by simp [spec_l04Div.l0])
  | succ k89=>
   simp only [spec_l04Div.l0] at H
   replace H:=znif H;rcases H with⟨c96,H⟩|⟨c96,H⟩
   ·
    replace H:=zbind H;obtain⟨t161,ht161,H⟩:=H
    obtain⟨rfl,rfl⟩:=zsome2 H
    go_wp2_with ((with_reducible refine gd 62 rfl ?_);refine ev_lb1 [0] HS (fun _ _ HA=>spec_l04Trim.calls ht161.out HA) Tryz.func147 ?_;clear HS;intro v162 wt161 HS F;obtain⟨B162,d162,rfl,m162⟩:=HS.form 0 rfl;(try simp only [hpn,hpm] at HS))
    exact rl rfl (.tmp (.tmp .nil)) ⟨_,_,rfl,HS.pi [0,1]⟩
   replace H:=zgo H;obtain⟨c97,H⟩:=H
   replace H:=zgo H;obtain⟨c98,H⟩:=H
   obtain⟨ad99,rfl,e99_0⟩:=Kd.at_int gp0 x94 (of_eq_true c97) (of_eq_true c98)
   have e99_0_99:=HS.keepc e99_0
   replace H:=zgo H;obtain⟨c102,H⟩:=H
   replace H:=zlets H;obtain⟨y103,e_y103,H⟩:=H
   replace H:=zbind H;obtain⟨t105,ht105,H⟩:=H
   replace H:=zbind H;obtain⟨t108,ht108,H⟩:=H
   replace H:=zbind H;obtain⟨t110,ht110,H⟩:=H
   go_wp2_with (first|((with_reducible refine gd 26 rfl ?_);refine ev_li (Zd.int .i64) [] ([(rd a0 x94)]:List Int) ([.int .i64 (rd a0 x94)]++ []) HS (MadeL.cons (js1:=[]) (c:=[.int .i64 (rd a0 x94)]) rfl (made_flat (fun _=>rfl)) MadeL.nil (by decide)) ?_;clear HS;intro v100 w100 HS F;obtain⟨B100,d100,rfl,m100⟩:=HS.formn 1 2 rfl rfl)|((with_reducible refine gd 28 rfl ?_);refine ev_apr (flat_int _) 2 HS rfl (HS.rd 1 rfl) Tryz.underlying35 info3 (of_eq_true c102) ?_;clear HS;intro v103 w103 HS;rw [←e_y103.out] at HS;obtain⟨B103,d103,rfl,m103⟩:=HS.form 3 rfl;(try simp only [hpn,hpm] at HS))|((with_reducible refine gd 29 rfl ?_);refine ev_lb1 [3] HS (fun _ _ HA=>spec_l04Trim.calls ht105.out HA) Tryz.func147 ?_;clear HS;intro v106 wt105 HS F;obtain⟨B106,d106,rfl,m106⟩:=HS.form 3 rfl;(try simp only [hpn,hpm] at HS))|((with_reducible refine gd 32 rfl ?_);refine ev_cl HS (spec_l04Guess.calls ht108.out (HS.rd 3 rfl) m106 (HS.ro gp1) lp1) Tryz.func148 ?_;clear HS;intro wt108 HS F)|((with_reducible refine gd 35 rfl ?_);refine ev_cl1 HS (spec_l04Times.calls ht110.out (HS.ro gp1) lp1) Tryz.func149 ?_;clear HS;intro v111 wt110 HS F;obtain⟨B111,d111,rfl,m111⟩:=HS.form 4 rfl))
   (try obtain⟨wok123,rfl⟩:∃wo_:World,wo_=wr:=⟨_,rfl⟩)
   go_loopg [9,10] k89 (fun kq v_9 v_10 w'=>∃(l124:List Int) (v125:Value) (x126:Int),v_9=.int .i64 x126∧v_10=v125∧Aside0 (spec_l04Div.l1 kq l124 x126 a0 a1 l92 x94 t105=some (r1,r2))∧Aside0 (kq≤k89)∧Hp noFP w w' [.own (Zd.slice 3 (Zd.int .i64)) l92 [.slice B3 a0.length d3],.own (Zd.slice 3 (Zd.int .i64)) l90 [.slice B91 l90.length d91],.emp,.own (Zd.slice 3 (Zd.int .i64)) t105 [.slice B106 t105.length d106],.own (Zd.slice 3 (Zd.int .i64)) l124 [v125]])
   case atStart=>exact⟨_,_,_,rfl,rfl,H,⟨Nat.le_refl _⟩,HS⟩
   case round=>
    clear HS H;(try clear F)
    obtain⟨l124,v125,x126,rfl,rfl,H,HKk123,HS⟩:=hrel
    obtain⟨B125,d125,rfl,m125⟩:=HS.form 4 rfl
    cases gk with
    |zero=>exact absurd H.out (by simp [spec_l04Div.l1])
    | succ k123=>
     simp only [spec_l04Div.l1] at H
     replace H:=zbind H;obtain⟨t128,ht128,H⟩:=H
     go_upto_if 39 with((with_reducible refine gd 38 rfl ?_);refine ev_cl HS (spec_l04Cmp.calls ht128.out (HS.rd 4 rfl) m125 (HS.rd 3 rfl) m106) Tryz.func150 ?_;clear HS;intro wt128 HS F)
     replace H:=zif H;rcases H with⟨c130,H⟩|⟨c130,H⟩
     ·
      (try simp only [c130,dcn])
      replace H:=zbind H;obtain⟨t131,ht131,H⟩:=H
      go_wp2_with ((with_reducible refine gd 44 rfl ?_);refine ev_cl1 HS (spec_l04Sub.calls ht131.out (HS.rd 4 rfl) m125 (HS.ro gp1) lp1) Tryz.func151 ?_;clear HS;intro v132 wt131 HS F;obtain⟨B132,d132,rfl,m132⟩:=HS.form 5 rfl)
      go_roundg k123
      case measure=>have:=HKk89.out;have:=HKk123.out;omega
      case rel=>exact⟨_,_,_,rfl,rfl,H,⟨by have:=HKk89.out;have:=HKk123.out;omega⟩,HS.pi [0,1,2,3,5]⟩
     (try simp only [c130,dcn])
     replace H:=zbind H;obtain⟨t134,ht134,H⟩:=H
     go_wp2_with ((with_reducible refine gd 47 rfl ?_);refine ev_cl1 HS (spec_l04Sub.calls ht134.out (HS.rd 3 rfl) m106 (HS.rd 4 rfl) m125) Tryz.func151 ?_;clear HS;intro v135 wt134 HS F;obtain⟨B135,d135,rfl,m135⟩:=HS.form 5 rfl)
     (try obtain⟨wok147,rfl⟩:∃wo_:World,wo_=wr:=⟨_,rfl⟩)
     go_loopg [7,9] k123 (fun kq v_7 v_9 w'=>∃(l148:List Int) (v149:Value) (x150:Int),v_7=v149∧v_9=.int .i64 x150∧Aside0 (spec_l04Div.l2 kq l148 x150 a0 a1 l92 x94=some (r1,r2))∧Aside0 (kq≤k123)∧Hp noFP w w' [.own (Zd.slice 3 (Zd.int .i64)) l92 [.slice B3 a0.length d3],.own (Zd.slice 3 (Zd.int .i64)) l90 [.slice B91 l90.length d91],.emp,.own (Zd.slice 3 (Zd.int .i64)) t105 [.slice B106 t105.length d106],.own (Zd.slice 3 (Zd.int .i64)) l124 [.slice B125 l124.length d125],.own (Zd.slice 3 (Zd.int .i64)) l148 [v149]])
     case atStart=>exact⟨_,_,_,rfl,rfl,H,⟨Nat.le_refl _⟩,HS⟩
     case round=>
      clear HS H;(try clear F)
      obtain⟨l148,v149,x150,rfl,rfl,H,HKk147,HS⟩:=hrel
      obtain⟨B149,d149,rfl,m149⟩:=HS.form 5 rfl
      cases gk with
      |zero=>exact absurd H.out (by simp [spec_l04Div.l2])
      | succ k147=>
       simp only [spec_l04Div.l2] at H
       replace H:=zbind H;obtain⟨t152,ht152,H⟩:=H
       go_upto_if 51 with((with_reducible refine gd 50 rfl ?_);refine ev_cl HS (spec_l04Cmp.calls ht152.out (HS.rd 5 rfl) m149 (HS.ro gp1) lp1) Tryz.func150 ?_;clear HS;intro wt152 HS F)
       replace H:=znif H;rcases H with⟨c154,H⟩|⟨c154,H⟩
       ·
        (try simp only [c154,dcn])
        obtain⟨ad158,rfl,e158_0⟩:=Kd.at_int (HS.rd 0 rfl) x94 (of_eq_true c97) (of_eq_true c98)
        go_wp2_with ((with_reducible refine gate_store (p:=60) rfl ?_);refine ev_set rfl (Zd.int .i64) 0 [] x94 x150 HS (seg:=[.int .i64 x150]) rfl (by decide) rfl rfl rfl (by first|rfl|exact(Nat.mul_one _).symm) rfl rfl (by kernel_rfl) (by simp [Value.oneCell']) ⟨of_eq_true c97,of_eq_true c98⟩ rfl (made_flat (fun _=>rfl)) ?_;clear HS;intro w159 HS;(try simp only [hpn,hpm] at HS))
        go_roundg k147
        case measure=>have:=HKk89.out;have:=HKk123.out;have:=HKk147.out;omega
        case rel=>exact⟨_,_,_,_,rfl,rfl,H,⟨by have:=HKk89.out;have:=HKk123.out;have:=HKk147.out;omega⟩,HS.pi [0,5]⟩
       (try simp only [c154,dcn])
       replace H:=zbind H;obtain⟨t155,ht155,H⟩:=H
       go_wp2_with ((with_reducible refine gd 56 rfl ?_);refine ev_cl1 HS (spec_l04Sub.calls ht155.out (HS.rd 5 rfl) m149 (HS.ro gp1) lp1) Tryz.func151 ?_;clear HS;intro v156 wt155 HS F;obtain⟨B156,d156,rfl,m156⟩:=HS.form 6 rfl)
       go_roundg k147
       case measure=>have:=HKk89.out;have:=HKk123.out;have:=HKk147.out;omega
       case rel=>exact⟨_,_,_,rfl,rfl,H,⟨by have:=HKk89.out;have:=HKk123.out;have:=HKk147.out;omega⟩,HS.pi [0,1,2,3,4,6]⟩
def spec_NatText.l0:Nat→(List Int)→ByteArray→Option (ByteArray)
  |0,_,_=>none
  |k+1,l25,x27=>(if 0<(l25.length:Int)then((spec_l04Div.f k l25 ([256]:List Int)).bind fun t34=>(if 0<(t34.2.length:Int)then(if 0<(t34.2.length:Int)then(if(strOfNums ([((rd t34.2 0) % 256)]:List Int)).size+x27.size≤9223372036854775807 then(spec_NatText.l0 k t34.1 ((strOfNums ([((rd t34.2 0) % 256)]:List Int))++x27))else none)else none)else(if(strOfNums ([0]:List Int)).size+x27.size≤9223372036854775807 then(spec_NatText.l0 k t34.1 ((strOfNums ([0]:List Int))++x27))else none)))else(some x27))
def spec_NatText.f (k:Nat)(a0:(List Int)):Option (ByteArray):=((spec_NatOk.f k a0).bind fun t1=>(if t1=true then(spec_NatText.l0 k a0 (⟨#[]⟩:ByteArray))else(some (⟨#[]⟩:ByteArray))))
theorem spec_NatText.calls {k:Nat}{a0:(List Int)}{Ap0:Option Addr}{np0 cp0:Nat}{r:ByteArray}{w:World}(h:spec_NatText.f k a0=some r)(gp0:(Kd.int .i64).C w Ap0 np0 a0)(lp0:np0≤cp0):
    Calls Tryz.prog 117 #[.slice Ap0 np0 cp0] w (fun e w'=>e=.returned (.string r)∧Hp noFP w w' []):=by
 obtain rfl:=C_len gp0
 have HS:=Hp.start w
 have H:=Aside0.mk h
 clear h
 unfold spec_NatText.f at H
 go_enter Tryz.func117,Tryz.ntmps117
 replace H:=zbind H;obtain⟨t1,ht1,H⟩:=H
 go_upto_if 9 with((with_reducible refine gd 8 rfl ?_);refine ev_cl HS (spec_NatOk.calls ht1.out (HS.ro gp0) lp0) Tryz.func133 ?_;clear HS;intro wt1 HS F)
 replace H:=znifb H;rcases H with⟨c3,H⟩|⟨c3,H⟩
 ·
  subst c3
  (try simp only [dcn,dcu,dcf])
  obtain rfl:=zsome H
  go_wp2
  go_ret
  exact HS.pk
 subst c3
 (try simp only [dcn,dcu,dcf])
 go_wp2
 replace HS:=HS.emp_
 go_loopg [0,3] k (fun kq v_0 v_3 w'=>∃(l25:List Int) (B26:Option Addr) (d26:Nat) (R26:Res) (x27:ByteArray),v_0=.slice B26 l25.length d26∧l25.length≤d26∧((R26=.emp∧(Kd.int .i64).C w B26 l25.length l25)∨R26=.own (Zd.slice 3 (Zd.int .i64)) l25 [.slice B26 l25.length d26])∧v_3=.string x27∧Aside0 (spec_NatText.l0 kq l25 x27=some r)∧Aside0 (kq≤k)∧Hp noFP w w' [R26])
 case atStart=>exact⟨_,_,_,_,_,rfl,lp0,(.inl ⟨rfl,gp0⟩),rfl,H,⟨Nat.le_refl _⟩,HS⟩
 case round=>
  clear HS H;(try clear F)
  obtain⟨l25,B26,d26,R26,x27,rfl,m26,hR26,rfl,H,HKk24,HS⟩:=hrel
  cases gk with
  |zero=>exact absurd H.out (by simp [spec_NatText.l0])
  | succ k24=>
   simp only [spec_NatText.l0] at H
   obtain⟨wbk24,rfl⟩:∃x_:World,x_=wr:=⟨_,rfl⟩
   have gl26:=rot_rd (d:=(Zd.int .i64)) 0 HS rfl hR26
   have gb29_1:=(HS.ro gp0)
   have HSb29:=HS
   replace HS:=Hp.start wbk24
   (try clear F)
   replace H:=znif H;rcases H with⟨c31,H⟩|⟨c31,H⟩
   ·
    have c31n:=(propext (Int.natCast_pos (n:=l25.length))).symm.trans c31
    obtain rfl:=zsome H
    go_wp2
    have HS:=HSb29.call HS
    go_ret
    exact HS.pk
   have c31n:=(propext (Int.natCast_pos (n:=l25.length))).symm.trans c31
   replace H:=zbind H;obtain⟨t34,ht34,H⟩:=H
   go_upto_if 21 with(first|((with_reducible refine gd 15 rfl ?_);refine ev_li (Zd.int .i64) [] ([256]:List Int) ([.int .i64 256]++ []) HS (MadeL.cons (js1:=[]) (c:=[.int .i64 256]) rfl (made_flat (fun _=>rfl)) MadeL.nil (by decide)) ?_;clear HS;intro v32 w32 HS F;obtain⟨B32,d32,rfl,m32⟩:=HS.formn 1 0 rfl rfl)|((with_reducible refine gd 16 rfl ?_);refine ev_cl2 HS (spec_l04Div.calls ht34.out (HS.ro gl26) m26 (HS.rd 0 rfl) m32) Tryz.func134 ?_;clear HS;intro v35 v36 wt34 HS F;obtain⟨B35,d35,rfl,m35⟩:=HS.form 1 rfl;obtain⟨B36,d36,rfl,m36⟩:=HS.form 2 rfl))
   replace H:=znif H;rcases H with⟨c38,H⟩|⟨c38,H⟩
   ·
    have c38n:=(propext (Int.natCast_pos (n:=t34.2.length))).symm.trans c38
    (try simp only [c38,c38n,dcn])
    replace H:=zgo H;obtain⟨c46,H⟩:=H
    go_wp2_with (first|((with_reducible refine gd 27 rfl ?_);refine ev_li (Zd.int .u8) [] ([0]:List Int) ([.int .u8 0]++ []) HS (MadeL.cons (js1:=[]) (c:=[.int .u8 0]) rfl (made_flat (fun _=>rfl)) MadeL.nil (by decide)) ?_;clear HS;intro v44 w44 HS F;obtain⟨B44,d44,rfl,m44⟩:=HS.formn 1 3 rfl rfl)|((with_reducible refine gd 28 rfl ?_);refine ev_val rfl (run_str rfl rfl Tryz.underlying22 Tryz.underlying5 Tryz.underlying9 (HS.rd 3 rfl)) ?_)|((with_reducible refine gd 30 rfl ?_);refine ev_val rfl (run_cat rfl rfl rfl (of_eq_true c46)) ?_))
    have HS:=HSb29.call HS
    go_roundg k24
    case measure=>have:=HKk24.out;omega
    case rel=>exact⟨_,_,_,_,_,rfl,m35,(.inr rfl),rfl,H,⟨by have:=HKk24.out;omega⟩,HS.pi [2]⟩
   have c38n:=(propext (Int.natCast_pos (n:=t34.2.length))).symm.trans c38
   (try simp only [c38,c38n,dcn])
   replace H:=zgo H;obtain⟨c39,H⟩:=H
   have c39n:(0<t34.2.length)=True:=eq_true (by have:=of_eq_true c39;omega)
   obtain⟨ad40,rfl,e40_0⟩:=Kd.at_int (HS.rd 2 rfl) 0 (of_eq_true (eq_true (by decide))) (of_eq_true c39)
   (try have e40_0':=ct e40_0)
   replace H:=zgo H;obtain⟨c43,H⟩:=H
   go_wp2_with (first|((with_reducible refine gd 27 rfl ?_);refine ev_li (Zd.int .u8) [] ([((rd t34.2 0) % 256)]:List Int) ([.int .u8 ((rd t34.2 0) % 256)]++ []) HS (MadeL.cons (js1:=[]) (c:=[.int .u8 ((rd t34.2 0) % 256)]) rfl (made_flat (fun _=>rfl)) MadeL.nil (by decide)) ?_;clear HS;intro v41 w41 HS F;obtain⟨B41,d41,rfl,m41⟩:=HS.formn 1 3 rfl rfl)|((with_reducible refine gd 28 rfl ?_);refine ev_val rfl (run_str rfl rfl Tryz.underlying22 Tryz.underlying5 Tryz.underlying9 (HS.rd 3 rfl)) ?_)|((with_reducible refine gd 30 rfl ?_);refine ev_val rfl (run_cat rfl rfl rfl (of_eq_true c43)) ?_))
   have HS:=HSb29.call HS
   go_roundg k24
   case measure=>have:=HKk24.out;omega
   case rel=>exact⟨_,_,_,_,_,rfl,m35,(.inr rfl),rfl,H,⟨by have:=HKk24.out;omega⟩,HS.pi [2]⟩
def spec_NatAdd.l0:Nat→(List Int)→Int→Int→(List Int)→(List Int)→Option ((List Int))
  |0,_,_,_,_,_=>none
  |k+1,l28,x30,x31,a0,a1=>(if x31<(a0.length:Int)then(if 0≤x31 then(if x31<(a0.length:Int)then(if x31<(a1.length:Int)then(if x31<(a1.length:Int)then(if l28.length+1≤17592186044416 then(lets (l28++([(Int.tmod (wrap64 ((wrap64 (x30+(rd a0 x31)))+(rd a1 x31))) 10000)]:List Int)) fun y43=>(spec_NatAdd.l0 k y43 (wrap64 (Int.tdiv (wrap64 ((wrap64 (x30+(rd a0 x31)))+(rd a1 x31))) 10000)) (wrap64 (x31+1)) a0 a1))else none)else none)else(if l28.length+1≤17592186044416 then(lets (l28++([(Int.tmod (wrap64 (x30+(rd a0 x31))) 10000)]:List Int)) fun y48=>(spec_NatAdd.l0 k y48 (wrap64 (Int.tdiv (wrap64 (x30+(rd a0 x31))) 10000)) (wrap64 (x31+1)) a0 a1))else none))else none)else none)else(if x31<(a1.length:Int)then(if 0≤x31 then(if x31<(a1.length:Int)then(if l28.length+1≤17592186044416 then(lets (l28++([(Int.tmod (wrap64 (x30+(rd a1 x31))) 10000)]:List Int)) fun y57=>(spec_NatAdd.l0 k y57 (wrap64 (Int.tdiv (wrap64 (x30+(rd a1 x31))) 10000)) (wrap64 (x31+1)) a0 a1))else none)else none)else none)else(if 0<x30 then(if l28.length+1≤17592186044416 then(lets (l28++([(Int.tmod x30 10000)]:List Int)) fun y63=>(spec_NatAdd.l0 k y63 (wrap64 (Int.tdiv x30 10000)) (wrap64 (x31+1)) a0 a1))else none)else(if 40<(l28.length:Int)then(some ([]:List Int))else(some l28)))))
def spec_NatAdd.f (k:Nat)(a0:(List Int))(a1:(List Int)):Option ((List Int)):=((spec_NatOk.f k a0).bind fun t1=>(if t1=true then((spec_NatOk.f k a1).bind fun t4=>(if t4=true then(spec_NatAdd.l0 k ([]:List Int) 0 0 a0 a1)else(some ([]:List Int))))else(some ([]:List Int))))
theorem spec_NatAdd.calls {k:Nat}{a0:(List Int)}{a1:(List Int)}{Ap0 Ap1:Option Addr}{np0 cp0 np1 cp1:Nat}{r:(List Int)}{w:World}(h:spec_NatAdd.f k a0 a1=some r)(gp0:(Kd.int .i64).C w Ap0 np0 a0)(lp0:np0≤cp0)(gp1:(Kd.int .i64).C w Ap1 np1 a1)(lp1:np1≤cp1):
    Calls Tryz.prog 152 #[.slice Ap0 np0 cp0,.slice Ap1 np1 cp1] w (fun e w'=>∃v0_:Value,e=.returned (v0_)∧Hp noFP w w' [.own (Zd.slice 3 (Zd.int .i64)) r [v0_]]):=by
 obtain rfl:=C_len gp0
 obtain rfl:=C_len gp1
 have HS:=Hp.start w
 have H:=Aside0.mk h
 clear h
 unfold spec_NatAdd.f at H
 go_enter Tryz.func152,Tryz.ntmps152
 replace H:=zbind H;obtain⟨t1,ht1,H⟩:=H
 replace H:=znifb H;rcases H with⟨c3,H⟩|⟨c3,H⟩
 ·
  subst c3
  obtain rfl:=zsome H
  go_wp2_with (first|((with_reducible refine gd 10 rfl ?_);refine ev_cl HS (spec_NatOk.calls ht1.out (HS.ro gp0) lp0) Tryz.func133 ?_;clear HS;intro wt1 HS F)|((with_reducible refine gd 17 rfl ?_);refine ev_li (Zd.int .i64) [] ([]:List Int) [] HS MadeL.nil ?_;clear HS;intro v70 w70 HS F;obtain⟨B70,d70,rfl,m70⟩:=HS.formn 0 0 rfl rfl))
  exact r1 ⟨_,rfl,HS.pi [0]⟩
 subst c3
 replace H:=zbind H;obtain⟨t4,ht4,H⟩:=H
 go_upto_if 16 with(first|((with_reducible refine gd 10 rfl ?_);refine ev_cl HS (spec_NatOk.calls ht1.out (HS.ro gp0) lp0) Tryz.func133 ?_;clear HS;intro wt1 HS F)|((with_reducible refine gd 14 rfl ?_);refine gg ?_;refine ev_cl HS (spec_NatOk.calls ht4.out (HS.ro gp1) lp1) Tryz.func133 ?_;clear HS;intro wt4 HS F))
 replace H:=znifb H;rcases H with⟨c6,H⟩|⟨c6,H⟩
 ·
  subst c6
  (try simp only [dcn,dcu,dcf])
  obtain rfl:=zsome H
  go_wp2_with ((with_reducible refine gd 17 rfl ?_);refine ev_li (Zd.int .i64) [] ([]:List Int) [] HS MadeL.nil ?_;clear HS;intro v68 w68 HS F;obtain⟨B68,d68,rfl,m68⟩:=HS.formn 0 0 rfl rfl)
  exact r1 ⟨_,rfl,HS.pi [0]⟩
 subst c6
 (try simp only [dcn,dcu,dcf])
 go_wp2_with ((with_reducible refine gd 18 rfl ?_);refine ev_li (Zd.int .i64) [] ([]:List Int) [] HS MadeL.nil ?_;clear HS;intro v7 w7 HS F;obtain⟨B7,d7,rfl,m7⟩:=HS.formn 0 0 rfl rfl)
 go_loopg [5,6,7] k (fun kq v_5 v_6 v_7 w'=>∃(l28:List Int) (v29:Value) (x30:Int) (x31:Int),v_5=v29∧v_6=.int .i64 x30∧v_7=.int .i64 x31∧Aside0 (spec_NatAdd.l0 kq l28 x30 x31 a0 a1=some r)∧Aside0 (kq≤k)∧Hp noFP w w' [.own (Zd.slice 3 (Zd.int .i64)) l28 [v29]])
 case atStart=>exact⟨_,_,_,_,rfl,rfl,rfl,H,⟨Nat.le_refl _⟩,HS⟩
 case round=>
  clear HS H;(try clear F)
  obtain⟨l28,v29,x30,x31,rfl,rfl,rfl,H,HKk27,HS⟩:=hrel
  obtain⟨B29,d29,rfl,m29⟩:=HS.form 0 rfl
  cases gk with
  |zero=>exact absurd H.out (by simp [spec_NatAdd.l0])
  | succ k27=>
   simp only [spec_NatAdd.l0] at H
   replace H:=zif H;rcases H with⟨c33,H⟩|⟨c33,H⟩
   ·
    replace H:=zgo H;obtain⟨c34,H⟩:=H
    replace H:=zgo H;obtain⟨c35,H⟩:=H
    obtain⟨ad36,rfl,e36_0⟩:=Kd.at_int gp0 x31 (of_eq_true c34) (of_eq_true c35)
    have e36_0_36:=HS.keepc e36_0
    replace H:=znif H;rcases H with⟨c37,H⟩|⟨c37,H⟩
    ·
     replace H:=zgo H;obtain⟨c47,H⟩:=H
     replace H:=zlets H;obtain⟨y48,e_y48,H⟩:=H
     go_wp2_with (first|((with_reducible refine gd 59 rfl ?_);refine ev_li (Zd.int .i64) [] ([(Int.tmod (wrap64 (x30+(rd a0 x31))) 10000)]:List Int) ([.int .i64 (Int.tmod (wrap64 (x30+(rd a0 x31))) 10000)]++ []) HS (MadeL.cons (js1:=[]) (c:=[.int .i64 (Int.tmod (wrap64 (x30+(rd a0 x31))) 10000)]) rfl (made_flat (fun _=>rfl)) MadeL.nil (by decide)) ?_;clear HS;intro v45 w45 HS F;obtain⟨B45,d45,rfl,m45⟩:=HS.formn 1 1 rfl rfl)|((with_reducible refine gd 60 rfl ?_);refine ev_ap (Zd.int .i64) 0 1 HS rfl rfl Tryz.underlying35 info3 (of_eq_true c47) ?_;clear HS;intro v48 w48 HS;rw [←e_y48.out] at HS;obtain⟨B48,d48,rfl,m48⟩:=HS.form 2 rfl;(try simp only [hpn,hpm] at HS)))
     go_roundg k27
     case measure=>have:=HKk27.out;omega
     case rel=>exact⟨_,_,_,_,rfl,rfl,rfl,H,⟨by have:=HKk27.out;omega⟩,HS.pi [2]⟩
    replace H:=zgo H;obtain⟨c38,H⟩:=H
    obtain⟨ad39,rfl,e39_0⟩:=Kd.at_int gp1 x31 (of_eq_true c34) (of_eq_true c38)
    have e39_0_39:=HS.keepc e39_0
    replace H:=zgo H;obtain⟨c42,H⟩:=H
    replace H:=zlets H;obtain⟨y43,e_y43,H⟩:=H
    go_wp2_with (first|((with_reducible refine gd 59 rfl ?_);refine ev_li (Zd.int .i64) [] ([(Int.tmod (wrap64 ((wrap64 (x30+(rd a0 x31)))+(rd a1 x31))) 10000)]:List Int) ([.int .i64 (Int.tmod (wrap64 ((wrap64 (x30+(rd a0 x31)))+(rd a1 x31))) 10000)]++ []) HS (MadeL.cons (js1:=[]) (c:=[.int .i64 (Int.tmod (wrap64 ((wrap64 (x30+(rd a0 x31)))+(rd a1 x31))) 10000)]) rfl (made_flat (fun _=>rfl)) MadeL.nil (by decide)) ?_;clear HS;intro v40 w40 HS F;obtain⟨B40,d40,rfl,m40⟩:=HS.formn 1 1 rfl rfl)|((with_reducible refine gd 60 rfl ?_);refine ev_ap (Zd.int .i64) 0 1 HS rfl rfl Tryz.underlying35 info3 (of_eq_true c42) ?_;clear HS;intro v43 w43 HS;rw [←e_y43.out] at HS;obtain⟨B43,d43,rfl,m43⟩:=HS.form 2 rfl;(try simp only [hpn,hpm] at HS)))
    go_roundg k27
    case measure=>have:=HKk27.out;omega
    case rel=>exact⟨_,_,_,_,rfl,rfl,rfl,H,⟨by have:=HKk27.out;omega⟩,HS.pi [2]⟩
   replace H:=zif H;rcases H with⟨c50,H⟩|⟨c50,H⟩
   ·
    replace H:=zgo H;obtain⟨c51,H⟩:=H
    replace H:=zgo H;obtain⟨c52,H⟩:=H
    obtain⟨ad53,rfl,e53_0⟩:=Kd.at_int gp1 x31 (of_eq_true c51) (of_eq_true c52)
    have e53_0_53:=HS.keepc e53_0
    replace H:=zgo H;obtain⟨c56,H⟩:=H
    replace H:=zlets H;obtain⟨y57,e_y57,H⟩:=H
    go_wp2_with (first|((with_reducible refine gd 59 rfl ?_);refine ev_li (Zd.int .i64) [] ([(Int.tmod (wrap64 (x30+(rd a1 x31))) 10000)]:List Int) ([.int .i64 (Int.tmod (wrap64 (x30+(rd a1 x31))) 10000)]++ []) HS (MadeL.cons (js1:=[]) (c:=[.int .i64 (Int.tmod (wrap64 (x30+(rd a1 x31))) 10000)]) rfl (made_flat (fun _=>rfl)) MadeL.nil (by decide)) ?_;clear HS;intro v54 w54 HS F;obtain⟨B54,d54,rfl,m54⟩:=HS.formn 1 1 rfl rfl)|((with_reducible refine gd 60 rfl ?_);refine ev_ap (Zd.int .i64) 0 1 HS rfl rfl Tryz.underlying35 info3 (of_eq_true c56) ?_;clear HS;intro v57 w57 HS;rw [←e_y57.out] at HS;obtain⟨B57,d57,rfl,m57⟩:=HS.form 2 rfl;(try simp only [hpn,hpm] at HS)))
    go_roundg k27
    case measure=>have:=HKk27.out;omega
    case rel=>exact⟨_,_,_,_,rfl,rfl,rfl,H,⟨by have:=HKk27.out;omega⟩,HS.pi [2]⟩
   replace H:=znif H;rcases H with⟨c59,H⟩|⟨c59,H⟩
   ·
    replace H:=znif H;rcases H with⟨c65,H⟩|⟨c65,H⟩
    ·
     obtain rfl:=zsome H
     go_wp2
     exact r1 ⟨_,rfl,HS.pi [0]⟩
    obtain rfl:=zsome H
    go_wp2_with ((with_reducible refine gd 66 rfl ?_);refine ev_li (Zd.int .i64) [] ([]:List Int) [] HS MadeL.nil ?_;clear HS;intro v66 w66 HS F;obtain⟨B66,d66,rfl,m66⟩:=HS.formn 0 1 rfl rfl)
    exact r1 ⟨_,rfl,HS.pi [1]⟩
   replace H:=zgo H;obtain⟨c62,H⟩:=H
   replace H:=zlets H;obtain⟨y63,e_y63,H⟩:=H
   go_wp2_with (first|((with_reducible refine gd 59 rfl ?_);refine ev_li (Zd.int .i64) [] ([(Int.tmod x30 10000)]:List Int) ([.int .i64 (Int.tmod x30 10000)]++ []) HS (MadeL.cons (js1:=[]) (c:=[.int .i64 (Int.tmod x30 10000)]) rfl (made_flat (fun _=>rfl)) MadeL.nil (by decide)) ?_;clear HS;intro v60 w60 HS F;obtain⟨B60,d60,rfl,m60⟩:=HS.formn 1 1 rfl rfl)|((with_reducible refine gd 60 rfl ?_);refine ev_ap (Zd.int .i64) 0 1 HS rfl rfl Tryz.underlying35 info3 (of_eq_true c62) ?_;clear HS;intro v63 w63 HS;rw [←e_y63.out] at HS;obtain⟨B63,d63,rfl,m63⟩:=HS.form 2 rfl;(try simp only [hpn,hpm] at HS)))
   go_roundg k27
   case measure=>have:=HKk27.out;omega
   case rel=>exact⟨_,_,_,_,rfl,rfl,rfl,H,⟨by have:=HKk27.out;omega⟩,HS.pi [2]⟩
def spec_NatOf.l0:Nat→(List Int)→Int→Option ((List Int))
  |0,_,_=>none
  |k+1,l12,x14=>(if 0<x14 then(if l12.length+1≤17592186044416 then(lets (l12++([(Int.tmod x14 10000)]:List Int)) fun y20=>(spec_NatOf.l0 k y20 (wrap64 (Int.tdiv x14 10000))))else none)else(some l12))
def spec_NatOf.f (k:Nat)(a0:Int):Option ((List Int)):=(spec_NatOf.l0 k ([]:List Int) a0)
theorem spec_NatOf.calls {k:Nat}{a0:Int}{r:(List Int)}{w:World}(h:spec_NatOf.f k a0=some r):
    Calls Tryz.prog 154 #[.int .i64 a0] w (fun e w'=>∃v0_:Value,e=.returned (v0_)∧Hp noFP w w' [.own (Zd.slice 3 (Zd.int .i64)) r [v0_]]):=by
 have HS:=Hp.start w
 have H:=Aside0.mk h
 clear h
 unfold spec_NatOf.f at H
 go_enter Tryz.func154,Tryz.ntmps154
 go_wp2_with ((with_reducible refine gd 4 rfl ?_);refine ev_li (Zd.int .i64) [] ([]:List Int) [] HS MadeL.nil ?_;clear HS;intro v1 w1 HS F;obtain⟨B1,d1,rfl,m1⟩:=HS.formn 0 0 rfl rfl)
 go_loopg [0,3] k (fun kq v_0 v_3 w'=>∃(l12:List Int) (v13:Value) (x14:Int),v_0=.int .i64 x14∧v_3=v13∧Aside0 (spec_NatOf.l0 kq l12 x14=some r)∧Aside0 (kq≤k)∧Hp noFP w w' [.own (Zd.slice 3 (Zd.int .i64)) l12 [v13]])
 case atStart=>exact⟨_,_,_,rfl,rfl,H,⟨Nat.le_refl _⟩,HS⟩
 case round=>
  clear HS H;(try clear F)
  obtain⟨l12,v13,x14,rfl,rfl,H,HKk11,HS⟩:=hrel
  obtain⟨B13,d13,rfl,m13⟩:=HS.form 0 rfl
  cases gk with
  |zero=>exact absurd H.out (by simp [spec_NatOf.l0])
  | succ k11=>
   simp only [spec_NatOf.l0] at H
   replace H:=znif H;rcases H with⟨c16,H⟩|⟨c16,H⟩
   ·
    obtain rfl:=zsome H
    go_wp2
    exact r1 ⟨_,rfl,HS.pi [0]⟩
   replace H:=zgo H;obtain⟨c19,H⟩:=H
   replace H:=zlets H;obtain⟨y20,e_y20,H⟩:=H
   go_wp2_with (first|((with_reducible refine gd 10 rfl ?_);refine ev_li (Zd.int .i64) [] ([(Int.tmod x14 10000)]:List Int) ([.int .i64 (Int.tmod x14 10000)]++ []) HS (MadeL.cons (js1:=[]) (c:=[.int .i64 (Int.tmod x14 10000)]) rfl (made_flat (fun _=>rfl)) MadeL.nil (by decide)) ?_;clear HS;intro v17 w17 HS F;obtain⟨B17,d17,rfl,m17⟩:=HS.formn 1 1 rfl rfl)|((with_reducible refine gd 11 rfl ?_);refine ev_ap (Zd.int .i64) 0 1 HS rfl rfl Tryz.underlying35 info3 (of_eq_true c19) ?_;clear HS;intro v20 w20 HS;rw [←e_y20.out] at HS;obtain⟨B20,d20,rfl,m20⟩:=HS.form 2 rfl;(try simp only [hpn,hpm] at HS)))
   go_roundg k11
   case measure=>have:=HKk11.out;omega
   case rel=>exact⟨_,_,_,rfl,rfl,H,⟨by have:=HKk11.out;omega⟩,HS.pi [2]⟩
def spec_NatFigures.l0:Nat→(List Int)→Int→ByteArray→Option ((List Int))
  |0,_,_,_=>none
  |k+1,l25,x27,a0=>(if x27<(a0.size:Int)then(if 0≤x27 then(if x27<(a0.size:Int)then(if(bt a0 x27)<48 then(some ([]:List Int))else(if 57<(bt a0 x27)then(some ([]:List Int))else((spec_l04Mul.f k l25 ([10]:List Int)).bind fun t7=>((spec_NatOf.f k (wrap64 ((wrap64 (bt a0 x27)) - 48))).bind fun t11=>((spec_NatAdd.f k t7 t11).bind fun t13=>(spec_NatFigures.l0 k t13 (wrap64 (x27+1)) a0))))))else none)else none)else(some l25))
def spec_NatFigures.f (k:Nat)(a0:ByteArray):Option ((List Int)):=((spec_l01In.f (a0.size:Int) 1 140).bind fun t3=>(if t3=true then(spec_NatFigures.l0 k ([]:List Int) 0 a0)else(some ([]:List Int))))
def spec_NatFigures.T9:TT:=(true,[([],[]),([],[]),([0,1],[0,1]),([],[]),([],[]),([3,4],[3,4]),([5],[5]),([6],[6]),([7,2],[7]),([2,8,8],[2,8]),([9,9,0,1,2,3,4,5,6,7,8,9],[0,9])])
theorem spec_NatFigures.tT9:rtab .any (opsOf Tryz.f135 9)=spec_NatFigures.T9:=by kernel_rfl
theorem spec_NatFigures.calls {k:Nat}{a0:ByteArray}{r:(List Int)}{w:World}(h:spec_NatFigures.f k a0=some r):
    Calls Tryz.prog 135 #[.string a0] w (fun e w'=>∃v0_:Value,e=.returned (v0_)∧Hp noFP w w' [.own (Zd.slice 3 (Zd.int .i64)) r [v0_]]):=by
 have HS:=Hp.start w
 have H:=Aside0.mk h
 clear h
 unfold spec_NatFigures.f at H
 go_enter Tryz.func135,Tryz.ntmps135
 replace H:=zbind H;obtain⟨t3,ht3,H⟩:=H
 go_upto_if 9 with(first|((with_reducible refine gd 5 rfl ?_);refine ev_li (Zd.int .i64) [] ([]:List Int) [] HS MadeL.nil ?_;clear HS;intro v1 w1 HS F;obtain⟨B1,d1,rfl,m1⟩:=HS.formn 0 0 rfl rfl)|((with_reducible refine gd 8 rfl ?_);refine ev_cl HS (spec_l01In.calls ht3.out) Tryz.func54 ?_;clear HS;intro wt3 HS F))
 replace H:=znifb H;rcases H with⟨c5,H⟩|⟨c5,H⟩
 ·
  subst c5
  (try simp only [dcn,dcu,dcf])
  obtain rfl:=zsome H
  go_wp2
  exact r1 ⟨_,rfl,HS.pi [0]⟩
 subst c5
 (try simp only [dcn,dcu,dcf])
 go_wp2
 replace HS:=HS.nil 3 (Zd.int .i64)
 go_loopg [3,4] k (fun kq v_3 v_4 w'=>∃(l25:List Int) (v26:Value) (x27:Int),v_3=v26∧v_4=.int .i64 x27∧Aside0 (spec_NatFigures.l0 kq l25 x27 a0=some r)∧Aside0 (kq≤k)∧Hp noFP w w' [.own (Zd.slice 3 (Zd.int .i64)) l25 [v26],.own (Zd.slice 3 (Zd.int .i64)) [] [.slice none 0 0]])
 case atStart=>exact⟨_,_,_,rfl,rfl,H,⟨Nat.le_refl _⟩,HS⟩
 case round=>
  clear HS H;(try clear F)
  obtain⟨l25,v26,x27,rfl,rfl,H,HKk24,HS⟩:=hrel
  obtain⟨B26,d26,rfl,m26⟩:=HS.form 0 rfl
  cases gk with
  |zero=>exact absurd H.out (by simp [spec_NatFigures.l0])
  | succ k24=>
   simp only [spec_NatFigures.l0] at H
   replace H:=znif H;rcases H with⟨c29,H⟩|⟨c29,H⟩
   ·
    obtain rfl:=zsome H
    go_wp2
    exact r1 ⟨_,rfl,HS.pi [0]⟩
   replace H:=zgo H;obtain⟨c30,H⟩:=H
   replace H:=zgo H;obtain⟨c31,H⟩:=H
   have hx32:=bt_at a0 x27
   replace H:=zif H;rcases H with⟨c33,H⟩|⟨c33,H⟩
   ·
    obtain rfl:=zsome H
    go_wp2_with ((with_reducible refine gd 27 rfl ?_);refine ev_li (Zd.int .i64) [] ([]:List Int) [] HS MadeL.nil ?_;clear HS;intro v34 w34 HS F;obtain⟨B34,d34,rfl,m34⟩:=HS.formn 0 2 rfl rfl)
    exact r1 ⟨_,rfl,HS.pi [2]⟩
   have hx36:=bt_at a0 x27
   replace H:=zif H;rcases H with⟨c37,H⟩|⟨c37,H⟩
   ·
    obtain rfl:=zsome H
    go_wp2_with ((with_reducible refine gd 27 rfl ?_);refine ev_li (Zd.int .i64) [] ([]:List Int) [] HS MadeL.nil ?_;clear HS;intro v38 w38 HS F;obtain⟨B38,d38,rfl,m38⟩:=HS.formn 0 2 rfl rfl)
    exact r1 ⟨_,rfl,HS.pi [2]⟩
   (try go_wp2)
   replace H:=zbind H;obtain⟨t7,ht7,H⟩:=H
   have hx10:=bt_at a0 x27
   replace H:=zbind H;obtain⟨t11,ht11,H⟩:=H
   replace H:=zbind H;obtain⟨t13,ht13,H⟩:=H
   refine dr_start [] HS #[false,false,false,false,false,false,false,false,false,false,false] (by kernel_rfl) rfl rfl spec_NatFigures.tT9 (fun w41 HT HS HH=>?_)
   (try clear F)
   refine dq [0,3,4,5,6,7] HT ?_
   refine dr1 1 HT fun K hK=>?_
   refine if_li (Zd.int .i64) [] ([10]:List Int) ([.int .i64 10]++ []) HS (MadeL.cons (js1:=[]) (c:=[.int .i64 10]) rfl (made_flat (fun _=>rfl)) MadeL.nil (by decide)) ?_;clear HS;intro v6 w6 HS F;obtain⟨B6,d6,rfl,m6⟩:=HS.formn 1 2 rfl rfl
   refine nrm 29 hK ⟨_,HS⟩ fun HH=>?_;clear hK K
   refine dr1 2 HT fun K hK=>?_
   refine go_cl1 HS (spec_l04Mul.calls ht7.out (HS.rd 0 rfl) m26 (HS.rd 2 rfl) m6) Tryz.func153 ?_;clear HS;intro v8 wt7 HS F;obtain⟨B8,d8,rfl,m8⟩:=HS.form 3 rfl
   refine nrm 30 hK ⟨_,HS⟩ fun HH=>?_;clear hK K
   refine dr1 8 HT fun K hK=>?_
   refine go_cl1 HS (spec_NatOf.calls ht11.out) Tryz.func154 ?_;clear HS;intro v12 wt11 HS F;obtain⟨B12,d12,rfl,m12⟩:=HS.form 4 rfl
   refine nrm 36 hK ⟨_,HS⟩ fun HH=>?_;clear hK K
   refine dr1 9 HT fun K hK=>?_
   refine go_cl1 HS (spec_NatAdd.calls ht13.out (HS.rd 3 rfl) m8 (HS.rd 4 rfl) m12) Tryz.func152 ?_;clear HS;intro v14 wt13 HS F;obtain⟨B14,d14,rfl,m14⟩:=HS.form 5 rfl
   refine nrm 37 hK ⟨_,HS⟩ fun HH=>?_;clear hK K
   refine dq [10] HT ?_
   refine dn HT ?_
   go_wp2
   go_roundg k24
   case measure=>have:=HKk24.out;omega
   case rel=>exact⟨_,_,_,rfl,rfl,H,⟨by have:=HKk24.out;omega⟩,HS.pi [5,1]⟩
def spec_l06Public.f (k:Nat)(a0:Int):Option ((List Int)):=((spec_l01In.f a0 0 5).bind fun t3=>(if t3=true then(if 0≤a0 then(if a0<(6:Int)then((spec_NatFigures.f k (rdOf ByteArray.empty ([(⟨#[49,49,50,54,56,52,50,52,56,50,50,57,52,55,55,53,51,48,56,49,57,53,54,57,52,54,50,51,51,48,56,50,52,48,53,57,55]⟩:ByteArray),(⟨#[49,50,52,55,57,56,49,54,53,53,52,50,51,53,51,50,49,53,52,48,57,50,53,53,52,56,54,51,56,56,56,56,57,55,50,48,57]⟩:ByteArray),(⟨#[49,49,52,56,54,56,54,51,50,48,48,50,57,57,54,55,55,54,53,49,55,52,50,53,54,55,48,52,54,56,52,51,53,48,49,49,49]⟩:ByteArray),(⟨#[49,48,52,49,54,57,49,55,51,56,57,54,51,57,50,48,52,52,48,51,50,51,57,49,49,48,55,56,50,53,57,51,49,54,48,51,57]⟩:ByteArray),(⟨#[49,49,56,56,50,52,52,51,56,51,50,57,56,53,50,56,55,53,52,52,55,57,57,55,51,54,53,50,50,49,54,53,52,55,56,55,55]⟩:ByteArray),(⟨#[49,48,55,53,49,55,48,53,51,48,57,52,53,51,54,56,54,49,55,53,49,56,55,55,49,52,54,54,55,56,56,55,56,53,56,49,51]⟩:ByteArray)]:List ByteArray) a0)).bind fun t9=>(some t9))else none)else none)else(some ([]:List Int))))
theorem spec_l06Public.calls {k:Nat}{a0:Int}{r:(List Int)}{w:World}(h:spec_l06Public.f k a0=some r):
    Calls Tryz.prog 118 #[.int .i64 a0] w (fun e w'=>∃v0_:Value,e=.returned (v0_)∧Hp noFP w w' [.own (Zd.slice 3 (Zd.int .i64)) r [v0_]]):=by
 have HS:=Hp.start w
 have H:=Aside0.mk h
 clear h
 unfold spec_l06Public.f at H
 go_enter Tryz.func118,Tryz.ntmps118
 replace H:=zbind H;obtain⟨t3,ht3,H⟩:=H
 go_upto_if 7 with(first|((with_reducible refine gd 4 rfl ?_);refine ev_li Zd.string [] ([(⟨#[49,49,50,54,56,52,50,52,56,50,50,57,52,55,55,53,51,48,56,49,57,53,54,57,52,54,50,51,51,48,56,50,52,48,53,57,55]⟩:ByteArray),(⟨#[49,50,52,55,57,56,49,54,53,53,52,50,51,53,51,50,49,53,52,48,57,50,53,53,52,56,54,51,56,56,56,56,57,55,50,48,57]⟩:ByteArray),(⟨#[49,49,52,56,54,56,54,51,50,48,48,50,57,57,54,55,55,54,53,49,55,52,50,53,54,55,48,52,54,56,52,51,53,48,49,49,49]⟩:ByteArray),(⟨#[49,48,52,49,54,57,49,55,51,56,57,54,51,57,50,48,52,52,48,51,50,51,57,49,49,48,55,56,50,53,57,51,49,54,48,51,57]⟩:ByteArray),(⟨#[49,49,56,56,50,52,52,51,56,51,50,57,56,53,50,56,55,53,52,52,55,57,57,55,51,54,53,50,50,49,54,53,52,55,56,55,55]⟩:ByteArray),(⟨#[49,48,55,53,49,55,48,53,51,48,57,52,53,51,54,56,54,49,55,53,49,56,55,55,49,52,54,54,55,56,56,55,56,53,56,49,51]⟩:ByteArray)]:List ByteArray) ([.string (⟨#[49,49,50,54,56,52,50,52,56,50,50,57,52,55,55,53,51,48,56,49,57,53,54,57,52,54,50,51,51,48,56,50,52,48,53,57,55]⟩:ByteArray)]++([.string (⟨#[49,50,52,55,57,56,49,54,53,53,52,50,51,53,51,50,49,53,52,48,57,50,53,53,52,56,54,51,56,56,56,56,57,55,50,48,57]⟩:ByteArray)]++([.string (⟨#[49,49,52,56,54,56,54,51,50,48,48,50,57,57,54,55,55,54,53,49,55,52,50,53,54,55,48,52,54,56,52,51,53,48,49,49,49]⟩:ByteArray)]++([.string (⟨#[49,48,52,49,54,57,49,55,51,56,57,54,51,57,50,48,52,52,48,51,50,51,57,49,49,48,55,56,50,53,57,51,49,54,48,51,57]⟩:ByteArray)]++([.string (⟨#[49,49,56,56,50,52,52,51,56,51,50,57,56,53,50,56,55,53,52,52,55,57,57,55,51,54,53,50,50,49,54,53,52,55,56,55,55]⟩:ByteArray)]++([.string (⟨#[49,48,55,53,49,55,48,53,51,48,57,52,53,51,54,56,54,49,55,53,49,56,55,55,49,52,54,54,55,56,56,55,56,53,56,49,51]⟩:ByteArray)]++ [])))))) HS (MadeL.cons (js1:=[]) (c:=[.string (⟨#[49,49,50,54,56,52,50,52,56,50,50,57,52,55,55,53,51,48,56,49,57,53,54,57,52,54,50,51,51,48,56,50,52,48,53,57,55]⟩:ByteArray)]) rfl (made_flat (fun _=>rfl)) (MadeL.cons (js1:=[]) (c:=[.string (⟨#[49,50,52,55,57,56,49,54,53,53,52,50,51,53,51,50,49,53,52,48,57,50,53,53,52,56,54,51,56,56,56,56,57,55,50,48,57]⟩:ByteArray)]) rfl (made_flat (fun _=>rfl)) (MadeL.cons (js1:=[]) (c:=[.string (⟨#[49,49,52,56,54,56,54,51,50,48,48,50,57,57,54,55,55,54,53,49,55,52,50,53,54,55,48,52,54,56,52,51,53,48,49,49,49]⟩:ByteArray)]) rfl (made_flat (fun _=>rfl)) (MadeL.cons (js1:=[]) (c:=[.string (⟨#[49,48,52,49,54,57,49,55,51,56,57,54,51,57,50,48,52,52,48,51,50,51,57,49,49,48,55,56,50,53,57,51,49,54,48,51,57]⟩:ByteArray)]) rfl (made_flat (fun _=>rfl)) (MadeL.cons (js1:=[]) (c:=[.string (⟨#[49,49,56,56,50,52,52,51,56,51,50,57,56,53,50,56,55,53,52,52,55,57,57,55,51,54,53,50,50,49,54,53,52,55,56,55,55]⟩:ByteArray)]) rfl (made_flat (fun _=>rfl)) (MadeL.cons (js1:=[]) (c:=[.string (⟨#[49,48,55,53,49,55,48,53,51,48,57,52,53,51,54,56,54,49,55,53,49,56,55,55,49,52,54,54,55,56,56,55,56,53,56,49,51]⟩:ByteArray)]) rfl (made_flat (fun _=>rfl)) MadeL.nil (by decide)) (by decide)) (by decide)) (by decide)) (by decide)) (by decide)) ?_;clear HS;intro v1 w1 HS F;obtain⟨B1,d1,rfl,m1⟩:=HS.formn 6 0 rfl rfl)|((with_reducible refine gd 6 rfl ?_);refine ev_cl HS (spec_l01In.calls ht3.out) Tryz.func54 ?_;clear HS;intro wt3 HS F))
 replace H:=znifb H;rcases H with⟨c5,H⟩|⟨c5,H⟩
 ·
  subst c5
  (try simp only [dcn,dcu,dcf])
  obtain rfl:=zsome H
  go_wp2_with ((with_reducible refine gd 8 rfl ?_);refine ev_li (Zd.int .i64) [] ([]:List Int) [] HS MadeL.nil ?_;clear HS;intro v12 w12 HS F;obtain⟨B12,d12,rfl,m12⟩:=HS.formn 0 1 rfl rfl)
  exact r1 ⟨_,rfl,HS.pi [1]⟩
 subst c5
 (try simp only [dcn,dcu,dcf])
 replace H:=zgo H;obtain⟨c6,H⟩:=H
 replace H:=zgo H;obtain⟨c7,H⟩:=H
 obtain⟨ad8,rfl,e8_0⟩:=Kd.at_string (HS.rd 0 rfl) a0 (of_eq_true c6) (of_eq_true c7)
 replace H:=zbind H;obtain⟨t9,ht9,H⟩:=H
 obtain rfl:=zsome H
 go_wp2_with ((with_reducible refine gd 13 rfl ?_);refine ev_cl1 HS (spec_NatFigures.calls ht9.out) Tryz.func135 ?_;clear HS;intro v10 wt9 HS F;obtain⟨B10,d10,rfl,m10⟩:=HS.form 1 rfl)
 exact r1 ⟨_,rfl,HS.pi [1]⟩
def spec_BitsOf.l0:Nat→(List Int)→(List Int)→Option ((List Int))
  |0,_,_=>none
  |k+1,l19,l21=>(if 0<(l21.length:Int)then(if 0<(l21.length:Int)then(if l19.length+1≤17592186044416 then(lets (l19++([(Int.tmod (rd l21 0) 2)]:List Int)) fun y32=>((spec_l04Div.f k l21 ([2]:List Int)).bind fun t36=>(spec_BitsOf.l0 k y32 t36.1)))else none)else none)else(some l19))
def spec_BitsOf.f (k:Nat)(a0:(List Int)):Option ((List Int)):=((spec_NatOk.f k a0).bind fun t3=>(if t3=true then(spec_BitsOf.l0 k ([]:List Int) a0)else(some ([]:List Int))))
theorem spec_BitsOf.calls {k:Nat}{a0:(List Int)}{Ap0:Option Addr}{np0 cp0:Nat}{r:(List Int)}{w:World}(h:spec_BitsOf.f k a0=some r)(gp0:(Kd.int .i64).C w Ap0 np0 a0)(lp0:np0≤cp0):
    Calls Tryz.prog 161 #[.slice Ap0 np0 cp0] w (fun e w'=>∃v0_:Value,e=.returned (v0_)∧Hp noFP w w' [.own (Zd.slice 3 (Zd.int .i64)) r [v0_]]):=by
 obtain rfl:=C_len gp0
 have HS:=Hp.start w
 have H:=Aside0.mk h
 clear h
 unfold spec_BitsOf.f at H
 go_enter Tryz.func161,Tryz.ntmps161
 replace H:=zbind H;obtain⟨t3,ht3,H⟩:=H
 go_upto_if 7 with(first|((with_reducible refine gd 4 rfl ?_);refine ev_li (Zd.int .i64) [] ([]:List Int) [] HS MadeL.nil ?_;clear HS;intro v1 w1 HS F;obtain⟨B1,d1,rfl,m1⟩:=HS.formn 0 0 rfl rfl)|((with_reducible refine gd 6 rfl ?_);refine ev_cl HS (spec_NatOk.calls ht3.out (HS.ro gp0) lp0) Tryz.func133 ?_;clear HS;intro wt3 HS F))
 replace H:=znifb H;rcases H with⟨c5,H⟩|⟨c5,H⟩
 ·
  subst c5
  (try simp only [dcn,dcu,dcf])
  obtain rfl:=zsome H
  go_wp2
  exact r1 ⟨_,rfl,HS.pi [0]⟩
 subst c5
 (try simp only [dcn,dcu,dcf])
 go_wp2
 replace HS:=HS.emp_
 go_loopg [0,3] k (fun kq v_0 v_3 w'=>∃(l19:List Int) (v20:Value) (l21:List Int) (B22:Option Addr) (d22:Nat) (R22:Res),v_0=.slice B22 l21.length d22∧l21.length≤d22∧((R22=.emp∧(Kd.int .i64).C w B22 l21.length l21)∨R22=.own (Zd.slice 3 (Zd.int .i64)) l21 [.slice B22 l21.length d22])∧v_3=v20∧Aside0 (spec_BitsOf.l0 kq l19 l21=some r)∧Aside0 (kq≤k)∧Hp noFP w w' [.own (Zd.slice 3 (Zd.int .i64)) l19 [v20],R22])
 case atStart=>exact⟨_,_,_,_,_,_,rfl,lp0,(.inl ⟨rfl,gp0⟩),rfl,H,⟨Nat.le_refl _⟩,HS⟩
 case round=>
  clear HS H;(try clear F)
  obtain⟨l19,v20,l21,B22,d22,R22,rfl,m22,hR22,rfl,H,HKk18,HS⟩:=hrel
  obtain⟨B20,d20,rfl,m20⟩:=HS.form 0 rfl
  cases gk with
  |zero=>exact absurd H.out (by simp [spec_BitsOf.l0])
  | succ k18=>
   simp only [spec_BitsOf.l0] at H
   obtain⟨wbk18,rfl⟩:∃x_:World,x_=wr:=⟨_,rfl⟩
   refine HS.lend [0] (by decide) [.own (Zd.slice 3 (Zd.int .i64)) l19 [.slice B20 l19.length d20]] rfl (fun A24 HL HD HA HB24=>?_)
   have gl22:=rot_hide (d:=(Zd.int .i64)) 1 up_int HS HL HD rfl (by decide) hR22
   have gb24_1:=HS.hideC up_int HL gp0
   replace HS:=HA
   have hV:=hide_view A24 wbk18
   clear HA HD HL
   (try clear F)
   replace HS:Hp A24 wbk18 _ [.own (Zd.slice 3 (Zd.int .i64)) l19 [.slice B20 l19.length d20]]:=HS
   replace H:=znif H;rcases H with⟨c26,H⟩|⟨c26,H⟩
   ·
    have c26n:=(propext (Int.natCast_pos (n:=l21.length))).symm.trans c26
    obtain rfl:=zsome H
    go_wp2
    have HS:=HB24 _ _ HS (Nat.le_of_ble_eq_true rfl)
    exact r1 ⟨_,rfl,HS.pi [0]⟩
   have c26n:=(propext (Int.natCast_pos (n:=l21.length))).symm.trans c26
   replace H:=zgo H;obtain⟨c27,H⟩:=H
   have c27n:(0<l21.length)=True:=eq_true (by have:=of_eq_true c27;omega)
   obtain⟨ad28,rfl,e28_0⟩:=Kd.at_int gl22 0 (of_eq_true (eq_true (by decide))) (of_eq_true c27)
   (try have e28_0':=ct e28_0)
   have e28_0_28:=(hV.keepc HS e28_0)
   (try have e28_0'_28:=(hV.keepc HS e28_0'))
   replace H:=zgo H;obtain⟨c31,H⟩:=H
   replace H:=zlets H;obtain⟨y32,e_y32,H⟩:=H
   replace H:=zbind H;obtain⟨t36,ht36,H⟩:=H
   go_wp2_with (first|((with_reducible refine gd 17 rfl ?_);refine ev_li (Zd.int .i64) [] ([(Int.tmod (rd l21 0) 2)]:List Int) ([.int .i64 (Int.tmod (rd l21 0) 2)]++ []) HS (MadeL.cons (js1:=[]) (c:=[.int .i64 (Int.tmod (rd l21 0) 2)]) rfl (made_flat (fun _=>rfl)) MadeL.nil (by decide)) ?_;clear HS;intro v29 w29 HS F;obtain⟨B29,d29,rfl,m29⟩:=HS.formn 1 1 rfl rfl)|((with_reducible refine gd 18 rfl ?_);refine ev_ap (Zd.int .i64) 0 1 HS rfl rfl Tryz.underlying35 info3 (of_eq_true c31) ?_;clear HS;intro v32 w32 HS;rw [←e_y32.out] at HS;obtain⟨B32,d32,rfl,m32⟩:=HS.form 2 rfl;(try simp only [hpn,hpm] at HS))|((with_reducible refine gd 21 rfl ?_);refine ev_li (Zd.int .i64) [] ([2]:List Int) ([.int .i64 2]++ []) HS (MadeL.cons (js1:=[]) (c:=[.int .i64 2]) rfl (made_flat (fun _=>rfl)) MadeL.nil (by decide)) ?_;clear HS;intro v34 w34 HS F;obtain⟨B34,d34,rfl,m34⟩:=HS.formn 1 3 rfl rfl)|((with_reducible refine gd 22 rfl ?_);refine ev_cl2 HS (spec_l04Div.calls ht36.out (hV.ro up_int HS gl22) m22 (HS.rd 3 rfl) m34) Tryz.func134 ?_;clear HS;intro v37 v38 wt36 HS F;obtain⟨B37,d37,rfl,m37⟩:=HS.form 4 rfl;obtain⟨B38,d38,rfl,m38⟩:=HS.form 5 rfl))
   have HS:=HB24 _ _ HS (Nat.le_of_ble_eq_true rfl)
   go_roundg k18
   case measure=>have:=HKk18.out;omega
   case rel=>exact⟨_,_,_,_,_,_,rfl,m37,(.inr rfl),rfl,H,⟨by have:=HKk18.out;omega⟩,HS.pi [3,5]⟩
def spec_MulMod.f (k:Nat)(a0:(List Int))(a1:(List Int))(a2:(List Int)):Option ((List Int)):=((spec_NatOk.f k a0).bind fun t1=>(if t1=true then((spec_NatOk.f k a1).bind fun t4=>(if t4=true then((spec_NatOk.f k a2).bind fun t7=>(if t7=true then(if(a2.length:Int)=0 then(some ([]:List Int))else((spec_l04Mul.f k a0 a1).bind fun t13=>((spec_l04Div.f k t13 a2).bind fun t16=>(some t16.2))))else(some ([]:List Int))))else(some ([]:List Int))))else(some ([]:List Int))))
theorem spec_MulMod.calls {k:Nat}{a0:(List Int)}{a1:(List Int)}{a2:(List Int)}{Ap0 Ap1 Ap2:Option Addr}{np0 cp0 np1 cp1 np2 cp2:Nat}{r:(List Int)}{w:World}(h:spec_MulMod.f k a0 a1 a2=some r)(gp0:(Kd.int .i64).C w Ap0 np0 a0)(lp0:np0≤cp0)(gp1:(Kd.int .i64).C w Ap1 np1 a1)(lp1:np1≤cp1)(gp2:(Kd.int .i64).C w Ap2 np2 a2)(lp2:np2≤cp2):
    Calls Tryz.prog 162 #[.slice Ap0 np0 cp0,.slice Ap1 np1 cp1,.slice Ap2 np2 cp2] w (fun e w'=>∃v0_:Value,e=.returned (v0_)∧Hp noFP w w' [.own (Zd.slice 3 (Zd.int .i64)) r [v0_]]):=by
 obtain rfl:=C_len gp0
 obtain rfl:=C_len gp1
 obtain rfl:=C_len gp2
 have HS:=Hp.start w
 have H:=Aside0.mk h
 clear h
 unfold spec_MulMod.f at H
 go_enter Tryz.func162,Tryz.ntmps162
 replace H:=zbind H;obtain⟨t1,ht1,H⟩:=H
 replace H:=znifb H;rcases H with⟨c3,H⟩|⟨c3,H⟩
 ·
  subst c3
  obtain rfl:=zsome H
  go_wp2_with (first|((with_reducible refine gd 10 rfl ?_);refine ev_cl HS (spec_NatOk.calls ht1.out (HS.ro gp0) lp0) Tryz.func133 ?_;clear HS;intro wt1 HS F)|((with_reducible refine gd 27 rfl ?_);refine ev_li (Zd.int .i64) [] ([]:List Int) [] HS MadeL.nil ?_;clear HS;intro v24 w24 HS F;obtain⟨B24,d24,rfl,m24⟩:=HS.formn 0 0 rfl rfl))
  exact r1 ⟨_,rfl,HS.pi [0]⟩
 subst c3
 replace H:=zbind H;obtain⟨t4,ht4,H⟩:=H
 replace H:=znifb H;rcases H with⟨c6,H⟩|⟨c6,H⟩
 ·
  subst c6
  obtain rfl:=zsome H
  go_wp2_with (first|((with_reducible refine gd 10 rfl ?_);refine ev_cl HS (spec_NatOk.calls ht1.out (HS.ro gp0) lp0) Tryz.func133 ?_;clear HS;intro wt1 HS F)|((with_reducible refine gd 14 rfl ?_);refine gg ?_;refine ev_cl HS (spec_NatOk.calls ht4.out (HS.ro gp1) lp1) Tryz.func133 ?_;clear HS;intro wt4 HS F)|((with_reducible refine gd 27 rfl ?_);refine ev_li (Zd.int .i64) [] ([]:List Int) [] HS MadeL.nil ?_;clear HS;intro v22 w22 HS F;obtain⟨B22,d22,rfl,m22⟩:=HS.formn 0 0 rfl rfl))
  exact r1 ⟨_,rfl,HS.pi [0]⟩
 subst c6
 replace H:=zbind H;obtain⟨t7,ht7,H⟩:=H
 replace H:=znifb H;rcases H with⟨c9,H⟩|⟨c9,H⟩
 ·
  subst c9
  obtain rfl:=zsome H
  go_wp2_with (first|((with_reducible refine gd 10 rfl ?_);refine ev_cl HS (spec_NatOk.calls ht1.out (HS.ro gp0) lp0) Tryz.func133 ?_;clear HS;intro wt1 HS F)|((with_reducible refine gd 14 rfl ?_);refine gg ?_;refine ev_cl HS (spec_NatOk.calls ht4.out (HS.ro gp1) lp1) Tryz.func133 ?_;clear HS;intro wt4 HS F)|((with_reducible refine gd 19 rfl ?_);refine gg ?_;refine ev_cl HS (spec_NatOk.calls ht7.out (HS.ro gp2) lp2) Tryz.func133 ?_;clear HS;intro wt7 HS F)|((with_reducible refine gd 27 rfl ?_);refine ev_li (Zd.int .i64) [] ([]:List Int) [] HS MadeL.nil ?_;clear HS;intro v20 w20 HS F;obtain⟨B20,d20,rfl,m20⟩:=HS.formn 0 0 rfl rfl))
  exact r1 ⟨_,rfl,HS.pi [0]⟩
 subst c9
 go_upto_if 26 with(first|((with_reducible refine gd 10 rfl ?_);refine ev_cl HS (spec_NatOk.calls ht1.out (HS.ro gp0) lp0) Tryz.func133 ?_;clear HS;intro wt1 HS F)|((with_reducible refine gd 14 rfl ?_);refine gg ?_;refine ev_cl HS (spec_NatOk.calls ht4.out (HS.ro gp1) lp1) Tryz.func133 ?_;clear HS;intro wt4 HS F)|((with_reducible refine gd 19 rfl ?_);refine gg ?_;refine ev_cl HS (spec_NatOk.calls ht7.out (HS.ro gp2) lp2) Tryz.func133 ?_;clear HS;intro wt7 HS F))
 replace H:=zif' H;rcases H with⟨c10,H⟩|⟨c10,H⟩
 ·
  obtain⟨c10a,c10b⟩:=bq c10;clear c10
  (try simp only [c10a,c10b,dcn])
  obtain rfl:=zsome H
  go_wp2_with ((with_reducible refine gd 27 rfl ?_);refine ev_li (Zd.int .i64) [] ([]:List Int) [] HS MadeL.nil ?_;clear HS;intro v11 w11 HS F;obtain⟨B11,d11,rfl,m11⟩:=HS.formn 0 0 rfl rfl)
  exact r1 ⟨_,rfl,HS.pi [0]⟩
 obtain⟨c10a,c10b⟩:=nq c10;clear c10
 (try simp only [c10a,c10b,dcn])
 replace H:=zbind H;obtain⟨t13,ht13,H⟩:=H
 replace H:=zbind H;obtain⟨t16,ht16,H⟩:=H
 obtain rfl:=zsome H
 go_wp2_with (first|((with_reducible refine gd 31 rfl ?_);refine ev_cl1 HS (spec_l04Mul.calls ht13.out (HS.ro gp0) lp0 (HS.ro gp1) lp1) Tryz.func153 ?_;clear HS;intro v14 wt13 HS F;obtain⟨B14,d14,rfl,m14⟩:=HS.form 0 rfl)|((with_reducible refine gd 33 rfl ?_);refine ev_cl2 HS (spec_l04Div.calls ht16.out (HS.rd 0 rfl) m14 (HS.ro gp2) lp2) Tryz.func134 ?_;clear HS;intro v17 v18 wt16 HS F;obtain⟨B17,d17,rfl,m17⟩:=HS.form 1 rfl;obtain⟨B18,d18,rfl,m18⟩:=HS.form 2 rfl))
 exact r1 ⟨_,rfl,HS.pi [2]⟩
end Go.Proofs.YtfcpjeeeddjakaaGreat.F

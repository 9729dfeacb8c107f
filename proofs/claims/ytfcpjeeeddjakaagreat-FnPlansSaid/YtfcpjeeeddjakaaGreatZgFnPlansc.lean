/- Functions of the program and of the law, and that their calls do what is written here. -/
import Derived.Test.YtfcpjeeeddjakaaGreatZgFnPlansa
import Derived.Test.YtfcpjeeeddjakaaGreatZgFnPlansb
namespace Go.Proofs.YtfcpjeeeddjakaaGreat.F
open Go.RowKit YtfcpjeeeddjakaaGreatW.PrintWords YtfcpjeeeddjakaaGreatW.PrintLast YtfcpjeeeddjakaaGreatW.PrintMore Z
attribute [local go_sem] max2_int min2_int max_two min_two max_three min_three max_four min_four
set_option linter.unusedVariables false
set_option linter.unusedSimpArgs false
set_option maxRecDepth 100000
set_option maxHeartbeats 16000000
def spec_BodyItem.f (k:Nat)(a0:S125):Option (S66):=((spec_IntItem.f k a0.f3).bind fun t13=>((spec_IntItem.f k a0.f4).bind fun t15=>((spec_IntItem.f k a0.f0).bind fun t20=>((spec_TextItem.f a0.f1).bind fun t22=>((spec_TextItem.f a0.f2).bind fun t24=>((spec_l09Bytes.f a0.f5).bind fun t26=>((spec_l09Bool.f a0.f6).bind fun t28=>((spec_IntItem.f k a0.f7).bind fun t30=>((spec_IntItem.f k a0.f8).bind fun t32=>((spec_l09Ints.f k a0.f9).bind fun t34=>((spec_l09Texts.f k a0.f10).bind fun t36=>((spec_l09Texts.f k a0.f11).bind fun t40=>(some (⟨48,(⟨#[]⟩:ByteArray),([t20,t22,(⟨48,(⟨#[]⟩:ByteArray),([t13,t15]:List S66)⟩:S66),t24,t26,t28,t30,t32,t34,t36,t40]:List S66)⟩:S66))))))))))))))
def spec_BodyItem.T1:TT:=(true,[([],[]),([0],[0]),([1],[1]),([],[]),([3],[3]),([4,2],[4]),([2,5],[2,5]),([6],[6]),([],[]),([8,7,5,0,1,2,3,4,5,6,7,8],[7,8])])
theorem spec_BodyItem.tT1:rtab .any (opsOf Tryz.f123 1)=spec_BodyItem.T1:=by kernel_rfl
def spec_BodyItem.T2:TT:=(true,[([],[]),([0],[0]),([1],[1]),([],[]),([3],[3]),([4,2],[4]),([],[]),([],[]),([7],[7]),([8,5],[8]),([],[]),([10],[10]),([11,9],[11]),([],[]),([13],[13]),([14,12],[14]),([],[]),([16],[16]),([17,15],[17]),([],[]),([19],[19]),([20,18],[20]),([],[]),([22],[22]),([23,21],[23]),([],[]),([25],[25]),([26,24],[26]),([],[]),([28],[28]),([29,27],[29]),([2,5,6,9,12,15,18,21,24,27,30],[2,5,6,9,12,15,18,21,24,27,30]),([31],[31]),([32,30,0,1,2,3,4,5,6,7,8,9,10,11,12,13,14,15,16,17,18,19,20,21,22,23,24,25,26,27,28,29,30,31,32],[32])])
theorem spec_BodyItem.tT2:rtab .any (opsOf Tryz.f123 2)=spec_BodyItem.T2:=by kernel_rfl
theorem spec_BodyItem.calls {k:Nat}{a0:S125}{Ap0 Ap1 Ap2:Option Addr}{np0 cp0 np1 cp1 np2 cp2:Nat}{r:S66}{w:World}(h:spec_BodyItem.f k a0=some r)(gp0:(Kd.int .i64).C w Ap0 np0 a0.f9)(lp0:np0≤cp0)(gp1:Kd.string.C w Ap1 np1 a0.f10)(lp1:np1≤cp1)(gp2:Kd.string.C w Ap2 np2 a0.f11)(lp2:np2≤cp2):
    Calls Tryz.prog 123 #[.agg #[.int .i64 a0.f0,.string a0.f1,.string a0.f2,.int .i64 a0.f3,.int .i64 a0.f4,.string a0.f5,.bool a0.f6,.int .i64 a0.f7,.int .i64 a0.f8,.slice Ap0 np0 cp0,.slice Ap1 np1 cp1,.slice Ap2 np2 cp2,.string a0.f12]] w (fun e w'=>∃v0_:Value,e=.returned (.agg #[.int .i64 r.f0,.string r.f1,v0_])∧Hp noFP w w' [.own (Zd.slice 66 q66) r.f2 [v0_]]):=by
 obtain rfl:=C_len gp0
 obtain rfl:=C_len gp1
 obtain rfl:=C_len gp2
 have HS:=Hp.start w
 have H:=Aside0.mk h
 clear h
 unfold spec_BodyItem.f at H
 go_enter Tryz.func123,Tryz.ntmps123
 go_wp2_with (first|((with_reducible refine gd 1 rfl ?_);refine ev_bx HS ?_;clear HS;intro g1 w1 HS F)|((with_reducible refine gd 2 rfl ?_);refine ev_bx HS ?_;clear HS;intro g2 w2 HS F))
 replace H:=zbind H;obtain⟨t13,ht13,H⟩:=H
 replace H:=zbind H;obtain⟨t15,ht15,H⟩:=H
 refine dr_start [9] HS #[false,false,false,false,false,false,false,false,false,false] (by kernel_rfl) rfl rfl spec_BodyItem.tT1 (fun w6 HT HS HH=>?_)
 (try clear F)
 refine join_ 0 #[true,true,true,true,true,true,true,true,true,true] (fun((v14,v16,v17,g3):Value×Value×Value×Nat)=>([(4,.pointer (some ⟨g1,3,none⟩)),(5,.int .i64 a0.f3),(6,.agg #[.int .i64 t13.f0,.string t13.f1,v14]),(7,.pointer (some ⟨g1,4,none⟩)),(8,.int .i64 a0.f4),(9,.agg #[.int .i64 t15.f0,.string t15.f1,v16]),(10,v17),(11,.agg #[.int .i64 48,.string (⟨#[]⟩:ByteArray),v17]),(3,.pointer (some ⟨g3,0,none⟩))]:List (Tmp×Value))) (fun((v14,v16,v17,g3):Value×Value×Value×Nat) w'=>Hp noFP w w' [.box g1 [.int .i64 a0.f0,.string a0.f1,.string a0.f2,.int .i64 a0.f3,.int .i64 a0.f4,.string a0.f5,.bool a0.f6,.int .i64 a0.f7,.int .i64 a0.f8,.slice Ap0 a0.f9.length cp0,.slice Ap1 a0.f10.length cp1,.slice Ap2 a0.f11.length cp2,.string a0.f12] 125,.box g2 [.int .i64 0,.string (⟨#[]⟩:ByteArray),.slice none 0 0] 66,.emp,.emp,.own (Zd.slice 66 q66) ([t13,t15]:List S66) [v17],.box g3 [.int .i64 48,.string (⟨#[]⟩:ByteArray),v17] 66]) ?_ ?_
 rotate_left
 · intro hJ
   refine dqt [0,1,3,4] HT HH ?_
   refine dr_any [2,8] HT (by kernel_rfl) (by decide) (AllReadyL.cons rfl (by decide) (fun K hK=>?_) (AllReadyL.cons rfl (by decide) (fun K hK=>?_) AllReadyL.nil))
   · refine go_cl1 HS (spec_IntItem.calls ht13.out) Tryz.func38 ?_;clear HS;intro v14 wt13 HS F;obtain⟨B14,d14,rfl,m14⟩:=HS.form 2 rfl
     refine nrm 6 hK ⟨_,HS⟩ fun HH=>?_;clear hK K
     refine dr_any [5,8] HT (by kernel_rfl) (by decide) (AllReadyL.cons rfl (by decide) (fun K hK=>?_) (AllReadyL.cons rfl (by decide) (fun K hK=>?_) AllReadyL.nil))
     · refine go_cl1 HS (spec_IntItem.calls ht15.out) Tryz.func38 ?_;clear HS;intro v16 wt15 HS F;obtain⟨B16,d16,rfl,m16⟩:=HS.form 3 rfl
       refine nrm 9 hK ⟨_,HS⟩ fun HH=>?_;clear hK K
       refine dr_any [6,8] HT (by kernel_rfl) (by decide) (AllReadyL.cons rfl (by decide) (fun K hK=>?_) (AllReadyL.cons rfl (by decide) (fun K hK=>?_) AllReadyL.nil))
       · refine if_li q66 [2,3] ([t13,t15]:List S66) ([.int .i64 t13.f0,.string t13.f1,.slice B14 t13.f2.length d14]++([.int .i64 t15.f0,.string t15.f1,.slice B16 t15.f2.length d16]++ [])) HS (MadeL.cons (js1:=[2]) (c:=[.int .i64 t13.f0,.string t13.f1,.slice B14 t13.f2.length d14]) rfl (fun S hd hh=>q66_pack (x:=t13) hd (hh 2 (.own (Zd.slice 66 q66) t13.f2 [.slice B14 t13.f2.length d14]) rfl) (by decide)) (MadeL.cons (js1:=[3]) (c:=[.int .i64 t15.f0,.string t15.f1,.slice B16 t15.f2.length d16]) rfl (fun S hd hh=>q66_pack (x:=t15) hd (hh 3 (.own (Zd.slice 66 q66) t15.f2 [.slice B16 t15.f2.length d16]) rfl) (by decide)) MadeL.nil (by decide)) (by decide)) ?_;clear HS;intro v17 w17 HS F;obtain⟨B17,d17,rfl,m17⟩:=HS.formn 2 4 rfl rfl
         refine nrm 10 hK ⟨_,HS⟩ fun HH=>?_;clear hK K
         refine dq [7] HT ?_
         refine dr1 8 HT fun K hK=>?_
         refine if_bx HS ?_;clear HS;intro g3 w3 HS F
         refine nrm 3 hK ⟨_,HS⟩ fun HH=>?_;clear hK K
         refine dl 9 HT fun K hK=>?_
         refine if_st 5 0 HS (seg:=[.int .i64 48,.string (⟨#[]⟩:ByteArray),.slice B17 2 d17]) ?_;clear HS;intro w18 HS F
         refine hK.out _ _ ?_
         clear hK K
         refine norm_ ?_ (hJ (.slice B14 t13.f2.length d14,.slice B16 t15.f2.length d16,.slice B17 2 d17,g3) _ (HS.ar [some 0,some 1,none,none,some 4,some 5]))
         simp only [putAll,Act.put,ptn]
         (try rfl)
       · refine if_bx HS ?_;clear HS;intro g3 w3 HS F
         refine nrm 3 hK ⟨_,HS⟩ fun HH=>?_;clear hK K
         refine dr1 6 HT fun K hK=>?_
         refine if_li q66 [2,3] ([t13,t15]:List S66) ([.int .i64 t13.f0,.string t13.f1,.slice B14 t13.f2.length d14]++([.int .i64 t15.f0,.string t15.f1,.slice B16 t15.f2.length d16]++ [])) HS (MadeL.cons (js1:=[2]) (c:=[.int .i64 t13.f0,.string t13.f1,.slice B14 t13.f2.length d14]) rfl (fun S hd hh=>q66_pack (x:=t13) hd (hh 2 (.own (Zd.slice 66 q66) t13.f2 [.slice B14 t13.f2.length d14]) rfl) (by decide)) (MadeL.cons (js1:=[3]) (c:=[.int .i64 t15.f0,.string t15.f1,.slice B16 t15.f2.length d16]) rfl (fun S hd hh=>q66_pack (x:=t15) hd (hh 3 (.own (Zd.slice 66 q66) t15.f2 [.slice B16 t15.f2.length d16]) rfl) (by decide)) MadeL.nil (by decide)) (by decide)) ?_;clear HS;intro v17 w17 HS F;obtain⟨B17,d17,rfl,m17⟩:=HS.formn 2 5 rfl rfl
         refine nrm 10 hK ⟨_,HS⟩ fun HH=>?_;clear hK K
         refine dq [7] HT ?_
         refine dl 9 HT fun K hK=>?_
         refine if_st 4 0 HS (seg:=[.int .i64 48,.string (⟨#[]⟩:ByteArray),.slice B17 2 d17]) ?_;clear HS;intro w18 HS F
         refine hK.out _ _ ?_
         clear hK K
         refine norm_ ?_ (hJ (.slice B14 t13.f2.length d14,.slice B16 t15.f2.length d16,.slice B17 2 d17,g3) _ (HS.ar [some 0,some 1,none,none,some 5,some 4]))
         simp only [putAll,Act.put,ptn]
         (try rfl)
     · refine if_bx HS ?_;clear HS;intro g3 w3 HS F
       refine nrm 3 hK ⟨_,HS⟩ fun HH=>?_;clear hK K
       refine dr1 5 HT fun K hK=>?_
       refine go_cl1 HS (spec_IntItem.calls ht15.out) Tryz.func38 ?_;clear HS;intro v16 wt15 HS F;obtain⟨B16,d16,rfl,m16⟩:=HS.form 4 rfl
       refine nrm 9 hK ⟨_,HS⟩ fun HH=>?_;clear hK K
       refine dr1 6 HT fun K hK=>?_
       refine if_li q66 [2,4] ([t13,t15]:List S66) ([.int .i64 t13.f0,.string t13.f1,.slice B14 t13.f2.length d14]++([.int .i64 t15.f0,.string t15.f1,.slice B16 t15.f2.length d16]++ [])) HS (MadeL.cons (js1:=[2]) (c:=[.int .i64 t13.f0,.string t13.f1,.slice B14 t13.f2.length d14]) rfl (fun S hd hh=>q66_pack (x:=t13) hd (hh 2 (.own (Zd.slice 66 q66) t13.f2 [.slice B14 t13.f2.length d14]) rfl) (by decide)) (MadeL.cons (js1:=[4]) (c:=[.int .i64 t15.f0,.string t15.f1,.slice B16 t15.f2.length d16]) rfl (fun S hd hh=>q66_pack (x:=t15) hd (hh 4 (.own (Zd.slice 66 q66) t15.f2 [.slice B16 t15.f2.length d16]) rfl) (by decide)) MadeL.nil (by decide)) (by decide)) ?_;clear HS;intro v17 w17 HS F;obtain⟨B17,d17,rfl,m17⟩:=HS.formn 2 5 rfl rfl
       refine nrm 10 hK ⟨_,HS⟩ fun HH=>?_;clear hK K
       refine dq [7] HT ?_
       refine dl 9 HT fun K hK=>?_
       refine if_st 3 0 HS (seg:=[.int .i64 48,.string (⟨#[]⟩:ByteArray),.slice B17 2 d17]) ?_;clear HS;intro w18 HS F
       refine hK.out _ _ ?_
       clear hK K
       refine norm_ ?_ (hJ (.slice B14 t13.f2.length d14,.slice B16 t15.f2.length d16,.slice B17 2 d17,g3) _ (HS.ar [some 0,some 1,none,none,some 5,some 3]))
       simp only [putAll,Act.put,ptn]
       (try rfl)
   · refine if_bx HS ?_;clear HS;intro g3 w3 HS F
     refine nrm 3 hK ⟨_,HS⟩ fun HH=>?_;clear hK K
     refine dr1 2 HT fun K hK=>?_
     refine go_cl1 HS (spec_IntItem.calls ht13.out) Tryz.func38 ?_;clear HS;intro v14 wt13 HS F;obtain⟨B14,d14,rfl,m14⟩:=HS.form 3 rfl
     refine nrm 6 hK ⟨_,HS⟩ fun HH=>?_;clear hK K
     refine dr1 5 HT fun K hK=>?_
     refine go_cl1 HS (spec_IntItem.calls ht15.out) Tryz.func38 ?_;clear HS;intro v16 wt15 HS F;obtain⟨B16,d16,rfl,m16⟩:=HS.form 4 rfl
     refine nrm 9 hK ⟨_,HS⟩ fun HH=>?_;clear hK K
     refine dr1 6 HT fun K hK=>?_
     refine if_li q66 [3,4] ([t13,t15]:List S66) ([.int .i64 t13.f0,.string t13.f1,.slice B14 t13.f2.length d14]++([.int .i64 t15.f0,.string t15.f1,.slice B16 t15.f2.length d16]++ [])) HS (MadeL.cons (js1:=[3]) (c:=[.int .i64 t13.f0,.string t13.f1,.slice B14 t13.f2.length d14]) rfl (fun S hd hh=>q66_pack (x:=t13) hd (hh 3 (.own (Zd.slice 66 q66) t13.f2 [.slice B14 t13.f2.length d14]) rfl) (by decide)) (MadeL.cons (js1:=[4]) (c:=[.int .i64 t15.f0,.string t15.f1,.slice B16 t15.f2.length d16]) rfl (fun S hd hh=>q66_pack (x:=t15) hd (hh 4 (.own (Zd.slice 66 q66) t15.f2 [.slice B16 t15.f2.length d16]) rfl) (by decide)) MadeL.nil (by decide)) (by decide)) ?_;clear HS;intro v17 w17 HS F;obtain⟨B17,d17,rfl,m17⟩:=HS.formn 2 5 rfl rfl
     refine nrm 10 hK ⟨_,HS⟩ fun HH=>?_;clear hK K
     refine dq [7] HT ?_
     refine dl 9 HT fun K hK=>?_
     refine if_st 2 0 HS (seg:=[.int .i64 48,.string (⟨#[]⟩:ByteArray),.slice B17 2 d17]) ?_;clear HS;intro w18 HS F
     refine hK.out _ _ ?_
     clear hK K
     refine norm_ ?_ (hJ (.slice B14 t13.f2.length d14,.slice B16 t15.f2.length d16,.slice B17 2 d17,g3) _ (HS.ar [some 0,some 1,none,none,some 5,some 2]))
     simp only [putAll,Act.put,ptn]
     (try rfl)
 rintro⟨v14,v16,v17,g3⟩ w19 HS
 obtain⟨B17,d17,rfl,m17⟩:=HS.formn 2 4 rfl (by first|rfl|simp)
 have F:=HS.bx
 refine norm_ (a':=?_) ?_ ?_
 rotate_left
 · simp only [putAll,Act.put,ptn];rfl
 refine dn HT ?_
 (try go_wp2)
 replace H:=zbind H;obtain⟨t20,ht20,H⟩:=H
 replace H:=zbind H;obtain⟨t22,ht22,H⟩:=H
 replace H:=zbind H;obtain⟨t24,ht24,H⟩:=H
 replace H:=zbind H;obtain⟨t26,ht26,H⟩:=H
 replace H:=zbind H;obtain⟨t28,ht28,H⟩:=H
 replace H:=zbind H;obtain⟨t30,ht30,H⟩:=H
 replace H:=zbind H;obtain⟨t32,ht32,H⟩:=H
 replace H:=zbind H;obtain⟨t34,ht34,H⟩:=H
 replace H:=zbind H;obtain⟨t36,ht36,H⟩:=H
 replace H:=zbind H;obtain⟨t40,ht40,H⟩:=H
 refine dr_start2 [.box g1 [.int .i64 a0.f0,.string a0.f1,.string a0.f2,.int .i64 a0.f3,.int .i64 a0.f4,.string a0.f5,.bool a0.f6,.int .i64 a0.f7,.int .i64 a0.f8,.slice Ap0 a0.f9.length cp0,.slice Ap1 a0.f10.length cp1,.slice Ap2 a0.f11.length cp2,.string a0.f12] 125,.box g2 [.int .i64 0,.string (⟨#[]⟩:ByteArray),.slice none 0 0] 66,.emp,.emp,.emp,.box g3 [.int .i64 48,.string (⟨#[]⟩:ByteArray),.slice B17 2 d17] 66] [33] HS (HS.ar [some 0,some 1,none,none,none,some 5]) #[false,false,false,false,false,false,false,false,false,false,false,false,false,false,false,false,false,false,false,false,false,false,false,false,false,false,false,false,false,false,false,false,false,false] (by kernel_rfl) rfl rfl spec_BodyItem.tT2 (fun w9 HT HS HH=>?_)
 (try clear F)
 refine dqt [0,1,3,4,6,7,8,10,11,13,14,16,17,19,20,22,23,25,26,28,29] HT HH ?_
 refine dr1 2 HT fun K hK=>?_
 refine go_cl1 HS (spec_IntItem.calls ht20.out) Tryz.func38 ?_;clear HS;intro v21 wt20 HS F;obtain⟨B21,d21,rfl,m21⟩:=HS.form 6 rfl
 refine nra 14 hK (HS.ar [some 0,some 1,none,none,none,some 5]) fun HH=>?_;clear hK K
 refine dr1 5 HT fun K hK=>?_
 refine go_cl1 HS (spec_TextItem.calls ht22.out) Tryz.func138 ?_;clear HS;intro v23 wt22 HS F;obtain⟨B23,d23,rfl,m23⟩:=HS.form 7 rfl
 refine nra 17 hK (HS.ar [some 0,some 1,none,none,none,some 5]) fun HH=>?_;clear hK K
 refine dr1 9 HT fun K hK=>?_
 refine go_cl1 HS (spec_TextItem.calls ht24.out) Tryz.func138 ?_;clear HS;intro v25 wt24 HS F;obtain⟨B25,d25,rfl,m25⟩:=HS.form 8 rfl
 refine nra 21 hK (HS.ar [some 0,some 1,none,none,none,some 5]) fun HH=>?_;clear hK K
 refine dr1 12 HT fun K hK=>?_
 refine go_cl1 HS (spec_l09Bytes.calls ht26.out) Tryz.func75 ?_;clear HS;intro v27 wt26 HS F;obtain⟨B27,d27,rfl,m27⟩:=HS.form 9 rfl
 refine nra 24 hK (HS.ar [some 0,some 1,none,none,none,some 5]) fun HH=>?_;clear hK K
 refine dr1 15 HT fun K hK=>?_
 refine go_cl1 HS (spec_l09Bool.calls ht28.out) Tryz.func39 ?_;clear HS;intro v29 wt28 HS F;obtain⟨B29,d29,rfl,m29⟩:=HS.form 10 rfl
 refine nra 27 hK (HS.ar [some 0,some 1,none,none,none,some 5]) fun HH=>?_;clear hK K
 refine dr1 18 HT fun K hK=>?_
 refine go_cl1 HS (spec_IntItem.calls ht30.out) Tryz.func38 ?_;clear HS;intro v31 wt30 HS F;obtain⟨B31,d31,rfl,m31⟩:=HS.form 11 rfl
 refine nra 30 hK (HS.ar [some 0,some 1,none,none,none,some 5]) fun HH=>?_;clear hK K
 refine dr1 21 HT fun K hK=>?_
 refine go_cl1 HS (spec_IntItem.calls ht32.out) Tryz.func38 ?_;clear HS;intro v33 wt32 HS F;obtain⟨B33,d33,rfl,m33⟩:=HS.form 12 rfl
 refine nra 33 hK (HS.ar [some 0,some 1,none,none,none,some 5]) fun HH=>?_;clear hK K
 refine dr1 24 HT fun K hK=>?_
 refine go_cl1 HS (spec_l09Ints.calls ht34.out (HS.ro gp0) lp0) Tryz.func139 ?_;clear HS;intro v35 wt34 HS F;obtain⟨B35,d35,rfl,m35⟩:=HS.form 13 rfl
 refine nra 36 hK (HS.ar [some 0,some 1,none,none,none,some 5]) fun HH=>?_;clear hK K
 refine dr1 27 HT fun K hK=>?_
 refine go_cl1 HS (spec_l09Texts.calls ht36.out (HS.ro gp1) lp1) Tryz.func140 ?_;clear HS;intro v37 wt36 HS F;obtain⟨B37,d37,rfl,m37⟩:=HS.form 14 rfl
 refine nra 39 hK (HS.ar [some 0,some 1,none,none,none,some 5]) fun HH=>?_;clear hK K
 refine dr1 30 HT fun K hK=>?_
 refine go_cl1 HS (spec_l09Texts.calls ht40.out (HS.ro gp2) lp2) Tryz.func140 ?_;clear HS;intro v41 wt40 HS F;obtain⟨B41,d41,rfl,m41⟩:=HS.form 15 rfl
 refine nra 42 hK (HS.ar [some 0,some 1,none,none,none,some 5]) fun HH=>?_;clear hK K
 refine dr1 31 HT fun K hK=>?_
 refine if_li q66 [6,7,4,8,9,10,11,12,13,14,15] ([t20,t22,(⟨48,(⟨#[]⟩:ByteArray),([t13,t15]:List S66)⟩:S66),t24,t26,t28,t30,t32,t34,t36,t40]:List S66) ([.int .i64 t20.f0,.string t20.f1,.slice B21 t20.f2.length d21]++([.int .i64 t22.f0,.string t22.f1,.slice B23 t22.f2.length d23]++([.int .i64 48,.string (⟨#[]⟩:ByteArray),.slice B17 2 d17]++([.int .i64 t24.f0,.string t24.f1,.slice B25 t24.f2.length d25]++([.int .i64 t26.f0,.string t26.f1,.slice B27 t26.f2.length d27]++([.int .i64 t28.f0,.string t28.f1,.slice B29 t28.f2.length d29]++([.int .i64 t30.f0,.string t30.f1,.slice B31 t30.f2.length d31]++([.int .i64 t32.f0,.string t32.f1,.slice B33 t32.f2.length d33]++([.int .i64 t34.f0,.string t34.f1,.slice B35 t34.f2.length d35]++([.int .i64 t36.f0,.string t36.f1,.slice B37 t36.f2.length d37]++([.int .i64 t40.f0,.string t40.f1,.slice B41 t40.f2.length d41]++ []))))))))))) HS (MadeL.cons (js1:=[6]) (c:=[.int .i64 t20.f0,.string t20.f1,.slice B21 t20.f2.length d21]) rfl (fun S hd hh=>q66_pack (x:=t20) hd (hh 6 (.own (Zd.slice 66 q66) t20.f2 [.slice B21 t20.f2.length d21]) rfl) (by decide)) (MadeL.cons (js1:=[7]) (c:=[.int .i64 t22.f0,.string t22.f1,.slice B23 t22.f2.length d23]) rfl (fun S hd hh=>q66_pack (x:=t22) hd (hh 7 (.own (Zd.slice 66 q66) t22.f2 [.slice B23 t22.f2.length d23]) rfl) (by decide)) (MadeL.cons (js1:=[4]) (c:=[.int .i64 48,.string (⟨#[]⟩:ByteArray),.slice B17 2 d17]) rfl (fun S hd hh=>q66_pack (x:=(⟨48,(⟨#[]⟩:ByteArray),([t13,t15]:List S66)⟩:S66)) hd (hh 4 (.own (Zd.slice 66 q66) ([t13,t15]:List S66) [.slice B17 2 d17]) rfl) (by decide)) (MadeL.cons (js1:=[8]) (c:=[.int .i64 t24.f0,.string t24.f1,.slice B25 t24.f2.length d25]) rfl (fun S hd hh=>q66_pack (x:=t24) hd (hh 8 (.own (Zd.slice 66 q66) t24.f2 [.slice B25 t24.f2.length d25]) rfl) (by decide)) (MadeL.cons (js1:=[9]) (c:=[.int .i64 t26.f0,.string t26.f1,.slice B27 t26.f2.length d27]) rfl (fun S hd hh=>q66_pack (x:=t26) hd (hh 9 (.own (Zd.slice 66 q66) t26.f2 [.slice B27 t26.f2.length d27]) rfl) (by decide)) (MadeL.cons (js1:=[10]) (c:=[.int .i64 t28.f0,.string t28.f1,.slice B29 t28.f2.length d29]) rfl (fun S hd hh=>q66_pack (x:=t28) hd (hh 10 (.own (Zd.slice 66 q66) t28.f2 [.slice B29 t28.f2.length d29]) rfl) (by decide)) (MadeL.cons (js1:=[11]) (c:=[.int .i64 t30.f0,.string t30.f1,.slice B31 t30.f2.length d31]) rfl (fun S hd hh=>q66_pack (x:=t30) hd (hh 11 (.own (Zd.slice 66 q66) t30.f2 [.slice B31 t30.f2.length d31]) rfl) (by decide)) (MadeL.cons (js1:=[12]) (c:=[.int .i64 t32.f0,.string t32.f1,.slice B33 t32.f2.length d33]) rfl (fun S hd hh=>q66_pack (x:=t32) hd (hh 12 (.own (Zd.slice 66 q66) t32.f2 [.slice B33 t32.f2.length d33]) rfl) (by decide)) (MadeL.cons (js1:=[13]) (c:=[.int .i64 t34.f0,.string t34.f1,.slice B35 t34.f2.length d35]) rfl (fun S hd hh=>q66_pack (x:=t34) hd (hh 13 (.own (Zd.slice 66 q66) t34.f2 [.slice B35 t34.f2.length d35]) rfl) (by decide)) (MadeL.cons (js1:=[14]) (c:=[.int .i64 t36.f0,.string t36.f1,.slice B37 t36.f2.length d37]) rfl (fun S hd hh=>q66_pack (x:=t36) hd (hh 14 (.own (Zd.slice 66 q66) t36.f2 [.slice B37 t36.f2.length d37]) rfl) (by decide)) (MadeL.cons (js1:=[15]) (c:=[.int .i64 t40.f0,.string t40.f1,.slice B41 t40.f2.length d41]) rfl (fun S hd hh=>q66_pack (x:=t40) hd (hh 15 (.own (Zd.slice 66 q66) t40.f2 [.slice B41 t40.f2.length d41]) rfl) (by decide)) MadeL.nil (by decide)) (by decide)) (by decide)) (by decide)) (by decide)) (by decide)) (by decide)) (by decide)) (by decide)) (by decide)) (by decide)) ?_;clear HS;intro v42 w42 HS F;obtain⟨B42,d42,rfl,m42⟩:=HS.formn 11 16 rfl rfl
 refine nra 43 hK (HS.ar [some 0,some 1,none,none,none,some 5]) fun HH=>?_;clear hK K
 refine dq [32] HT ?_
 refine dl 33 HT fun K hK=>?_
 refine if_st 1 0 HS (seg:=[.int .i64 48,.string (⟨#[]⟩:ByteArray),.slice B42 11 d42]) ?_;clear HS;intro w43 HS F
 refine hK.out _ _ ?_
 clear hK K
 refine dn HT ?_
 (try clear F)
 have F:=HS.bx
 obtain rfl:=zsome H
 go_wp2
 exact rc 1 HS Tryz.underlying66 ⟨_,rfl,HS.pi [16]⟩
def spec_l07Plain.l0:Nat→Int→S66→Option (Bool)
  |0,_,_=>none
  |k+1,x24,a0=>(if x24<(a0.f1.size:Int)then(if 0≤x24 then(if x24<(a0.f1.size:Int)then(if(bt a0.f1 x24)<32 then(some false)else(if 126<(bt a0.f1 x24)then(some false)else(spec_l07Plain.l0 k (wrap64 (x24+1)) a0)))else none)else none)else(some true))
def spec_l07Plain.f (k:Nat)(a0:S66):Option (Bool):=(if a0.f0=1 then(if a0.f1.toList=([0]:List UInt8)then(some true)else(some (a0.f1.toList==([255]:List UInt8))))else(if a0.f0=2 then((spec_l01In.f (a0.f1.size:Int) 1 5).bind fun t6=>(if t6=true then(if 0<(a0.f1.size:Int)then(if 128≤(bt a0.f1 0)then(some false)else(if(bt a0.f1 0)=0 then(if(a0.f1.size:Int)=1 then(some true)else(if 1<(a0.f1.size:Int)then(some (decide (128≤(bt a0.f1 1))))else none))else(some true)))else none)else(some false)))else(if a0.f0=12 then(spec_l07Plain.l0 k 0 a0)else(some (a0.f0==4)))))
theorem spec_l07Plain.calls {k:Nat}{a0:S66}{Ap0:Option Addr}{np0 cp0:Nat}{r:Bool}{w:World}(h:spec_l07Plain.f k a0=some r)(gp0:k66.C w Ap0 np0 a0.f2)(lp0:np0≤cp0):
    Calls Tryz.prog 125 #[.agg #[.int .i64 a0.f0,.string a0.f1,.slice Ap0 np0 cp0]] w (fun e w'=>e=.returned (.bool r)∧Hp noFP w w' []):=by
 obtain rfl:=C_len gp0
 have HS:=Hp.start w
 have H:=Aside0.mk h
 clear h
 unfold spec_l07Plain.f at H
 go_enter Tryz.func125,Tryz.ntmps125
 go_upto_if 6 with((with_reducible refine gd 1 rfl ?_);refine ev_bx HS ?_;clear HS;intro g1 w1 HS F)
 replace H:=zif' H;rcases H with⟨c3,H⟩|⟨c3,H⟩
 ·
  obtain⟨c3a,c3b⟩:=bq c3;clear c3
  (try simp only [c3a,c3b,dcn])
  replace H:=znif' H;rcases H with⟨c4,H⟩|⟨c4,H⟩
  ·
   obtain⟨c4a,c4b⟩:=nq c4;clear c4
   obtain rfl:=zsome H
   go_wp2
   go_ret
   exact HS.pk
  obtain⟨c4a,c4b⟩:=bq c4;clear c4
  obtain rfl:=zsome H
  go_wp2
  go_ret
  exact HS.pk
 obtain⟨c3a,c3b⟩:=nq c3;clear c3
 (try simp only [c3a,c3b,dcn])
 replace H:=znif' H;rcases H with⟨c5,H⟩|⟨c5,H⟩
 ·
  obtain⟨c5a,c5b⟩:=nq c5;clear c5
  replace H:=znif' H;rcases H with⟨c20,H⟩|⟨c20,H⟩
  ·
   obtain⟨c20a,c20b⟩:=nq c20;clear c20
   obtain rfl:=zsome H
   go_wp2
   go_ret
   exact HS.pk
  obtain⟨c20a,c20b⟩:=bq c20;clear c20
  go_wp2
  go_loopg [3] k (fun kq v_3 w'=>∃(x24:Int),v_3=.int .i64 x24∧Aside0 (spec_l07Plain.l0 kq x24 a0=some r)∧Aside0 (kq≤k)∧Hp noFP w w' [.box g1 [.int .i64 a0.f0,.string a0.f1,.slice Ap0 a0.f2.length cp0] 66])
  case atStart=>exact⟨_,rfl,H,⟨Nat.le_refl _⟩,HS⟩
  case round=>
   clear HS H;(try clear F)
   obtain⟨x24,rfl,H,HKk23,HS⟩:=hrel
   have F:=HS.bx
   cases gk with
   |zero=>exact absurd H.out (by simp [spec_l07Plain.l0])
   | succ k23=>
    simp only [spec_l07Plain.l0] at H
    replace H:=znif H;rcases H with⟨c26,H⟩|⟨c26,H⟩
    ·
     obtain rfl:=zsome H
     go_wp2
     go_ret
     exact HS.pk
    replace H:=zgo H;obtain⟨c27,H⟩:=H
    replace H:=zgo H;obtain⟨c28,H⟩:=H
    have hx29:=bt_at a0.f1 x24
    replace H:=zif H;rcases H with⟨c30,H⟩|⟨c30,H⟩
    ·
     obtain rfl:=zsome H
     go_wp2
     go_ret
     exact HS.pk
    have hx31:=bt_at a0.f1 x24
    replace H:=zif H;rcases H with⟨c32,H⟩|⟨c32,H⟩
    ·
     obtain rfl:=zsome H
     go_wp2
     go_ret
     exact HS.pk
    go_wp2
    go_roundg k23
    case measure=>have:=HKk23.out;omega
    case rel=>exact⟨_,rfl,H,⟨by have:=HKk23.out;omega⟩,HS.pi [0]⟩
 obtain⟨c5a,c5b⟩:=bq c5;clear c5
 replace H:=zbind H;obtain⟨t6,ht6,H⟩:=H
 replace H:=znifb H;rcases H with⟨c8,H⟩|⟨c8,H⟩
 ·
  subst c8
  obtain rfl:=zsome H
  go_wp2_with ((with_reducible refine gd 21 rfl ?_);refine ev_cl HS (spec_l01In.calls ht6.out) Tryz.func54 ?_;clear HS;intro wt6 HS F)
  go_ret
  exact HS.pk
 subst c8
 replace H:=zgo H;obtain⟨c9,H⟩:=H
 have c9n:(0<a0.f1.size)=True:=eq_true (by have:=of_eq_true c9;omega)
 go_upto_if 28 with((with_reducible refine gd 21 rfl ?_);refine ev_cl HS (spec_l01In.calls ht6.out) Tryz.func54 ?_;clear HS;intro wt6 HS F;have hx10:∀h:0<a0.f1.size,((a0.f1[0]'h).toNat:Int)=bt a0.f1 0:=bt_at a0.f1 0;have hz11:0<a0.f1.size:=(by have:=of_eq_true c9;omega))
 replace H:=zif H;rcases H with⟨c12,H⟩|⟨c12,H⟩
 ·
  (try simp only [c12,dcn])
  obtain rfl:=zsome H
  go_wp2
  go_ret
  exact HS.pk
 (try simp only [c12,dcn])
 have hx13:∀h:0<a0.f1.size,((a0.f1[0]'h).toNat:Int)=bt a0.f1 0:=bt_at a0.f1 0
 have hz14:0<a0.f1.size:=(by have:=of_eq_true c9;omega)
 replace H:=znif' H;rcases H with⟨c15,H⟩|⟨c15,H⟩
 ·
  obtain⟨c15a,c15b⟩:=nq c15;clear c15
  obtain rfl:=zsome H
  go_wp2
  go_ret
  exact HS.pk
 obtain⟨c15a,c15b⟩:=bq c15;clear c15
 replace H:=zif' H;rcases H with⟨c16,H⟩|⟨c16,H⟩
 ·
  obtain⟨c16a,c16b⟩:=bq c16;clear c16
  obtain rfl:=zsome H
  go_wp2
  go_ret
  exact HS.pk
 obtain⟨c16a,c16b⟩:=nq c16;clear c16
 replace H:=zgo H;obtain⟨c17,H⟩:=H
 have c17n:(1<a0.f1.size)=True:=eq_true (by have:=of_eq_true c17;omega)
 have hx18:∀h:1<a0.f1.size,((a0.f1[1]'h).toNat:Int)=bt a0.f1 1:=bt_at a0.f1 1
 have hz19:1<a0.f1.size:=(by have:=of_eq_true c17;omega)
 obtain rfl:=zsome H
 go_wp2
 go_ret
 exact HS.pk
mutual
def spec_l07Right.l0:Nat→Int→S66→Int→Option (Bool)
  |0,_,_,_=>none
  |k+1,x10,a0,a1=>(if x10<(a0.f2.length:Int)then(if 0≤x10 then(if x10<(a0.f2.length:Int)then((spec_l07Right.f k (rd_T66 a0.f2 x10) (wrap64 (a1+1))).bind fun t16=>(if t16=true then(spec_l07Right.l0 k (wrap64 (x10+1)) a0 a1)else(some false)))else none)else none)else(some true))
def spec_l07Right.f:Nat→S66→Int→Option (Bool)
  |0,_,_=>none
  |k+1,a0,a1=>(if a0.f0=48 then(if a0.f1.toList=([]:List UInt8)then(if 40<(a0.f2.length:Int)then(some false)else(if 6≤a1 then(some false)else(spec_l07Right.l0 k 0 a0 a1)))else(some false))else(if(a0.f2.length:Int)=0 then((spec_l07Plain.f k a0).bind fun t20=>(some t20))else(some false)))
end
theorem spec_l07Right.calls_ (K:Nat):∀ {k:Nat} (hK:k≤K) {a0:S66} {a1:Int} {Ap0:Option Addr} {np0 cp0:Nat} {r:Bool} {w:World} (h:spec_l07Right.f k a0 a1=some r) (gp0:k66.C w Ap0 np0 a0.f2) (lp0:np0≤cp0),
    Calls Tryz.prog 103 #[.agg #[.int .i64 a0.f0,.string a0.f1,.slice Ap0 np0 cp0],.int .i64 a1] w (fun e w'=>e=.returned (.bool r)∧Hp noFP w w' []):=by
  induction K with
  | zero=>
    intro k hK a0 a1 Ap0 np0 cp0 r w h gp0 lp0
    obtain rfl:k=0:=by omega
    exact absurd h (by simp [spec_l07Right.f])
  | succ K IH=>
    intro k hK a0 a1 Ap0 np0 cp0 r w h gp0 lp0
    cases k with
    |zero=>exact absurd h (by simp [spec_l07Right.f])
    |succ k=>
    have HK0:Aside0 (k≤K):=⟨by omega⟩
    clear hK
    obtain rfl:=C_len gp0
    have HS:=Hp.start w
    have H:=Aside0.mk h
    clear h
    simp only [spec_l07Right.f] at H
    go_enter Tryz.func103,Tryz.ntmps103
    go_upto_if 8 with((with_reducible refine gd 2 rfl ?_);refine ev_bx HS ?_;clear HS;intro g2 w2 HS F)
    replace H:=znif' H;rcases H with⟨c3,H⟩|⟨c3,H⟩
    ·
     obtain⟨c3a,c3b⟩:=nq c3;clear c3
     (try simp only [c3a,c3b,dcn])
     replace H:=znif' H;rcases H with⟨c19,H⟩|⟨c19,H⟩
     ·
      obtain⟨c19a,c19b⟩:=nq c19;clear c19
      obtain rfl:=zsome H
      go_wp2
      go_ret
      exact HS.pk
     obtain⟨c19a,c19b⟩:=bq c19;clear c19
     replace H:=zbind H;obtain⟨t20,ht20,H⟩:=H
     obtain rfl:=zsome H
     go_wp2_with ((with_reducible refine gd 15 rfl ?_);refine gg ?_;refine ev_cl HS (spec_l07Plain.calls ht20.out (HS.ro gp0) lp0) Tryz.func125 ?_;clear HS;intro wt20 HS F)
     go_ret
     exact HS.pk
    obtain⟨c3a,c3b⟩:=bq c3;clear c3
    (try simp only [c3a,c3b,dcn])
    replace H:=znif' H;rcases H with⟨c4,H⟩|⟨c4,H⟩
    ·
     have c4a:=beq_eq_false_iff_ne.mpr c4
     have c4b:=bne_iff_ne.mpr c4
     have c4e:=List.isEmpty_eq_false_iff.mpr c4
     clear c4
     obtain rfl:=zsome H
     go_wp2
     go_ret
     exact HS.pk
    have c4a:=beq_iff_eq.mpr c4
    have c4b:=bne_eq_false_iff_eq.mpr c4
    have c4e:=List.isEmpty_iff.mpr c4
    clear c4
    replace H:=zif H;rcases H with⟨c5,H⟩|⟨c5,H⟩
    ·
     obtain rfl:=zsome H
     go_wp2
     go_ret
     exact HS.pk
    replace H:=zif H;rcases H with⟨c6,H⟩|⟨c6,H⟩
    ·
     obtain rfl:=zsome H
     go_wp2
     go_ret
     exact HS.pk
    go_wp2
    go_loopg [5] k (fun kq v_5 w'=>∃(x10:Int),v_5=.int .i64 x10∧Aside0 (spec_l07Right.l0 kq x10 a0 a1=some r)∧Aside0 (kq≤k)∧Hp noFP w w' [.box g2 [.int .i64 a0.f0,.string a0.f1,.slice Ap0 a0.f2.length cp0] 66])
    case atStart=>exact⟨_,rfl,H,⟨Nat.le_refl _⟩,HS⟩
    case round=>
     clear HS H;(try clear F)
     obtain⟨x10,rfl,H,HKk9,HS⟩:=hrel
     have F:=HS.bx
     cases gk with
     |zero=>exact absurd H.out (by simp [spec_l07Right.l0])
     | succ k9=>
      simp only [spec_l07Right.l0] at H
      replace H:=znif H;rcases H with⟨c12,H⟩|⟨c12,H⟩
      ·
       obtain rfl:=zsome H
       go_wp2
       go_ret
       exact HS.pk
      replace H:=zgo H;obtain⟨c13,H⟩:=H
      replace H:=zgo H;obtain⟨c14,H⟩:=H
      obtain⟨ad15,B15_2,d15_2,rfl,e15_0,e15_1,e15_2,m15_2,y15_2⟩:=at_T66 gp0 x10 (of_eq_true c13) (of_eq_true c14)
      have e15_0_15:=HS.keepc e15_0
      have e15_1_15:=HS.keepc e15_1
      have e15_2_15:=HS.keepc e15_2
      replace H:=zbind H;obtain⟨t16,ht16,H⟩:=H
      go_upto_if 45 with((with_reducible refine gd 44 rfl ?_);refine ev_cl HS (IH (by have:=HK0.out;have:=HKk9.out;omega) ht16.out (HS.ro y15_2) m15_2) Tryz.func103 ?_;clear HS;intro wt16 HS F)
      replace H:=znifb H;rcases H with⟨c18,H⟩|⟨c18,H⟩
      ·
       subst c18
       (try simp only [dcn,dcu,dcf])
       obtain rfl:=zsome H
       go_wp2
       go_ret
       exact HS.pk
      subst c18
      (try simp only [dcn,dcu,dcf])
      go_wp2
      go_roundg k9
      case measure=>have:=HK0.out;have:=HKk9.out;omega
      case rel=>exact⟨_,rfl,H,⟨by have:=HK0.out;have:=HKk9.out;omega⟩,HS.pi [0]⟩
theorem spec_l07Right.calls {k:Nat}{a0:S66}{a1:Int}{Ap0:Option Addr}{np0 cp0:Nat}{r:Bool}{w:World}(h:spec_l07Right.f k a0 a1=some r)(gp0:k66.C w Ap0 np0 a0.f2)(lp0:np0≤cp0):
    Calls Tryz.prog 103 #[.agg #[.int .i64 a0.f0,.string a0.f1,.slice Ap0 np0 cp0],.int .i64 a1] w (fun e w'=>e=.returned (.bool r)∧Hp noFP w w' []):=spec_l07Right.calls_ k (Nat.le_refl k) h gp0 lp0
def spec_ItemOk.f (k:Nat)(a0:S66):Option (Bool):=((spec_l07Right.f k a0 0).bind fun t3=>(some t3))
theorem spec_ItemOk.calls {k:Nat}{a0:S66}{Ap0:Option Addr}{np0 cp0:Nat}{r:Bool}{w:World}(h:spec_ItemOk.f k a0=some r)(gp0:k66.C w Ap0 np0 a0.f2)(lp0:np0≤cp0):
    Calls Tryz.prog 73 #[.agg #[.int .i64 a0.f0,.string a0.f1,.slice Ap0 np0 cp0]] w (fun e w'=>e=.returned (.bool r)∧Hp noFP w w' []):=by
 obtain rfl:=C_len gp0
 have HS:=Hp.start w
 have H:=Aside0.mk h
 clear h
 unfold spec_ItemOk.f at H
 go_enter Tryz.func73,Tryz.ntmps73
 replace H:=zbind H;obtain⟨t3,ht3,H⟩:=H
 obtain rfl:=zsome H
 go_wp2_with (first|((with_reducible refine gd 1 rfl ?_);refine ev_bx HS ?_;clear HS;intro g1 w1 HS F)|((with_reducible refine gd 4 rfl ?_);refine ev_cl HS (spec_l07Right.calls ht3.out (HS.ro gp0) lp0) Tryz.func103 ?_;clear HS;intro wt3 HS F))
 go_ret
 exact HS.pk
def spec_l07Length.l0:Nat→Int→ByteArray→Option (ByteArray)
  |0,_,_=>none
  |k+1,x13,x14=>(if 0<x13 then(if(strOfNums ([((Int.tmod x13 256) % 256)]:List Int)).size+x14.size≤9223372036854775807 then(spec_l07Length.l0 k (wrap64 (Int.tdiv x13 256)) ((strOfNums ([((Int.tmod x13 256) % 256)]:List Int))++x14))else none)else(if(strOfNums ([((wrap64 (128+(x14.size:Int))) % 256)]:List Int)).size+x14.size≤9223372036854775807 then(some ((strOfNums ([((wrap64 (128+(x14.size:Int))) % 256)]:List Int))++x14))else none))
def spec_l07Length.f (k:Nat)(a0:Int):Option (ByteArray):=(if a0<128 then(some (strOfNums ([(a0 % 256)]:List Int)))else(spec_l07Length.l0 k a0 (⟨#[]⟩:ByteArray)))
theorem spec_l07Length.calls {k:Nat}{a0:Int}{r:ByteArray}{w:World}(h:spec_l07Length.f k a0=some r):
    Calls Tryz.prog 104 #[.int .i64 a0] w (fun e w'=>e=.returned (.string r)∧Hp noFP w w' []):=by
 have HS:=Hp.start w
 have H:=Aside0.mk h
 clear h
 unfold spec_l07Length.f at H
 go_enter Tryz.func104,Tryz.ntmps104
 replace H:=zif H;rcases H with⟨c1,H⟩|⟨c1,H⟩
 ·
  obtain rfl:=zsome H
  go_wp2_with (first|((with_reducible refine gd 8 rfl ?_);refine ev_li (Zd.int .u8) [] ([(a0 % 256)]:List Int) ([.int .u8 (a0 % 256)]++ []) HS (MadeL.cons (js1:=[]) (c:=[.int .u8 (a0 % 256)]) rfl (made_flat (fun _=>rfl)) MadeL.nil (by decide)) ?_;clear HS;intro v2 w2 HS F;obtain⟨B2,d2,rfl,m2⟩:=HS.formn 1 0 rfl rfl)|((with_reducible refine gd 9 rfl ?_);refine ev_val rfl (run_str rfl rfl Tryz.underlying22 Tryz.underlying5 Tryz.underlying9 (HS.rd 0 rfl)) ?_))
  go_ret
  exact HS.pk
 go_wp2
 go_loopg [0,3] k (fun kq v_0 v_3 w'=>∃(x13:Int) (x14:ByteArray),v_0=.int .i64 x13∧v_3=.string x14∧Aside0 (spec_l07Length.l0 kq x13 x14=some r)∧Aside0 (kq≤k)∧Hp noFP w w' [])
 case atStart=>exact⟨_,_,rfl,rfl,H,⟨Nat.le_refl _⟩,HS⟩
 case round=>
  clear HS H;(try clear F)
  obtain⟨x13,x14,rfl,rfl,H,HKk12,HS⟩:=hrel
  cases gk with
  |zero=>exact absurd H.out (by simp [spec_l07Length.l0])
  | succ k12=>
   simp only [spec_l07Length.l0] at H
   replace H:=znif H;rcases H with⟨c16,H⟩|⟨c16,H⟩
   ·
    replace H:=zgo H;obtain⟨c22,H⟩:=H
    obtain rfl:=zsome H
    go_wp2_with (first|((with_reducible refine gd 25 rfl ?_);refine ev_li (Zd.int .u8) [] ([((wrap64 (128+(x14.size:Int))) % 256)]:List Int) ([.int .u8 ((wrap64 (128+(x14.size:Int))) % 256)]++ []) HS (MadeL.cons (js1:=[]) (c:=[.int .u8 ((wrap64 (128+(x14.size:Int))) % 256)]) rfl (made_flat (fun _=>rfl)) MadeL.nil (by decide)) ?_;clear HS;intro v20 w20 HS F;obtain⟨B20,d20,rfl,m20⟩:=HS.formn 1 0 rfl rfl)|((with_reducible refine gd 26 rfl ?_);refine ev_val rfl (run_str rfl rfl Tryz.underlying22 Tryz.underlying5 Tryz.underlying9 (HS.rd 0 rfl)) ?_)|((with_reducible refine gd 28 rfl ?_);refine ev_val rfl (run_cat rfl rfl rfl (of_eq_true c22)) ?_))
    go_ret
    exact HS.pk
   replace H:=zgo H;obtain⟨c19,H⟩:=H
   go_wp2_with (first|((with_reducible refine gd 15 rfl ?_);refine ev_li (Zd.int .u8) [] ([((Int.tmod x13 256) % 256)]:List Int) ([.int .u8 ((Int.tmod x13 256) % 256)]++ []) HS (MadeL.cons (js1:=[]) (c:=[.int .u8 ((Int.tmod x13 256) % 256)]) rfl (made_flat (fun _=>rfl)) MadeL.nil (by decide)) ?_;clear HS;intro v17 w17 HS F;obtain⟨B17,d17,rfl,m17⟩:=HS.formn 1 0 rfl rfl)|((with_reducible refine gd 16 rfl ?_);refine ev_val rfl (run_str rfl rfl Tryz.underlying22 Tryz.underlying5 Tryz.underlying9 (HS.rd 0 rfl)) ?_)|((with_reducible refine gd 18 rfl ?_);refine ev_val rfl (run_cat rfl rfl rfl (of_eq_true c19)) ?_))
   go_roundg k12
   case measure=>have:=HKk12.out;omega
   case rel=>exact⟨_,_,rfl,rfl,H,⟨by have:=HKk12.out;omega⟩,HS.pi []⟩
mutual
def spec_l07Text.l0:Nat→ByteArray→Int→S66→Option (ByteArray)
  |0,_,_,_=>none
  |k+1,x11,x12,a0=>(if x12<(a0.f2.length:Int)then(if 0≤x12 then(if x12<(a0.f2.length:Int)then((spec_l07Text.f k (rd_T66 a0.f2 x12)).bind fun t18=>(if x11.size+t18.size≤9223372036854775807 then(spec_l07Text.l0 k (x11++t18) (wrap64 (x12+1)) a0)else none))else none)else none)else((spec_l07Length.f k (x11.size:Int)).bind fun t13=>(if(strOfNums ([(a0.f0 % 256)]:List Int)).size+t13.size≤9223372036854775807 then(if((strOfNums ([(a0.f0 % 256)]:List Int))++t13).size+x11.size≤9223372036854775807 then(some (((strOfNums ([(a0.f0 % 256)]:List Int))++t13)++x11))else none)else none)))
def spec_l07Text.f:Nat→S66→Option (ByteArray)
  |0,_=>none
  |k+1,a0=>(if a0.f0=48 then(spec_l07Text.l0 k a0.f1 0 a0)else((spec_l07Length.f k (a0.f1.size:Int)).bind fun t26=>(if(strOfNums ([(a0.f0 % 256)]:List Int)).size+t26.size≤9223372036854775807 then(if((strOfNums ([(a0.f0 % 256)]:List Int))++t26).size+a0.f1.size≤9223372036854775807 then(some (((strOfNums ([(a0.f0 % 256)]:List Int))++t26)++a0.f1))else none)else none)))
end
def spec_l07Text.T7:TT:=(true,[([],[]),([0],[0]),([1],[1]),([2],[2]),([3],[3]),([],[]),([5],[5]),([6],[6]),([4,7],[4,7]),([],[]),([8,9],[8,9]),([10,7,0,1,2,3,4,5,6,7,8,9,10],[10])])
theorem spec_l07Text.tT7:rtab .any (opsOf Tryz.f74 7)=spec_l07Text.T7:=by kernel_rfl
theorem spec_l07Text.calls_ (K:Nat):∀ {k:Nat} (hK:k≤K) {a0:S66} {Ap0:Option Addr} {np0 cp0:Nat} {r:ByteArray} {w:World} (h:spec_l07Text.f k a0=some r) (gp0:k66.C w Ap0 np0 a0.f2) (lp0:np0≤cp0),
    Calls Tryz.prog 74 #[.agg #[.int .i64 a0.f0,.string a0.f1,.slice Ap0 np0 cp0]] w (fun e w'=>e=.returned (.string r)∧Hp noFP w w' []):=by
  induction K with
  | zero=>
    intro k hK a0 Ap0 np0 cp0 r w h gp0 lp0
    obtain rfl:k=0:=by omega
    exact absurd h (by simp [spec_l07Text.f])
  | succ K IH=>
    intro k hK a0 Ap0 np0 cp0 r w h gp0 lp0
    cases k with
    |zero=>exact absurd h (by simp [spec_l07Text.f])
    |succ k=>
    have HK0:Aside0 (k≤K):=⟨by omega⟩
    clear hK
    obtain rfl:=C_len gp0
    have HS:=Hp.start w
    have H:=Aside0.mk h
    clear h
    simp only [spec_l07Text.f] at H
    go_enter Tryz.func74,Tryz.ntmps74
    go_upto_if 9 with((with_reducible refine gd 1 rfl ?_);refine ev_bx HS ?_;clear HS;intro g1 w1 HS F)
    replace H:=znif' H;rcases H with⟨c3,H⟩|⟨c3,H⟩
    ·
     obtain⟨c3a,c3b⟩:=nq c3;clear c3
     (try simp only [c3a,c3b,dcn])
     (try go_wp2)
     replace H:=zbind H;obtain⟨t26,ht26,H⟩:=H
     replace H:=zgo H;obtain⟨c27,H⟩:=H
     replace H:=zgo H;obtain⟨c28,H⟩:=H
     refine dr_start [] HS #[false,false,false,false,false,false,false,false,false,false,false,false] (by kernel_rfl) rfl rfl spec_l07Text.tT7 (fun w25 HT HS HH=>?_)
     (try clear F)
     refine join_ 0 #[true,true,true,true,true,true,true,true,true,true,true,true] (fun(v24:Value)=>([(25,.pointer (some ⟨g1,0,none⟩)),(26,.int .i64 a0.f0),(27,.int .u8 (a0.f0 % 256)),(28,v24),(29,.string (strOfNums ([(a0.f0 % 256)]:List Int))),(30,.string a0.f1),(31,.int .i64 (a0.f1.size:Int)),(32,.string t26),(33,.string ((strOfNums ([(a0.f0 % 256)]:List Int))++t26)),(34,.string a0.f1),(35,.string (((strOfNums ([(a0.f0 % 256)]:List Int))++t26)++a0.f1)),(2,.string (((strOfNums ([(a0.f0 % 256)]:List Int))++t26)++a0.f1))]:List (Tmp×Value))) (fun(v24:Value) w'=>Hp noFP w w' [.box g1 [.int .i64 a0.f0,.string a0.f1,.slice Ap0 a0.f2.length cp0] 66,.own (Zd.slice 5 (Zd.int .u8)) ([(a0.f0 % 256)]:List Int) [v24]]) ?_ ?_
     rotate_left
     · intro hJ
       refine dqt [0,1,2,5,6,9] HT HH ?_
       refine dr_any [3,7] HT (by kernel_rfl) (by decide) (AllReadyL.cons rfl (by decide) (fun K hK=>?_) (AllReadyL.cons rfl (by decide) (fun K hK=>?_) AllReadyL.nil))
       · refine if_li (Zd.int .u8) [] ([(a0.f0 % 256)]:List Int) ([.int .u8 (a0.f0 % 256)]++ []) HS (MadeL.cons (js1:=[]) (c:=[.int .u8 (a0.f0 % 256)]) rfl (made_flat (fun _=>rfl)) MadeL.nil (by decide)) ?_;clear HS;intro v24 w24 HS F;obtain⟨B24,d24,rfl,m24⟩:=HS.formn 1 1 rfl rfl
         refine nrm 28 hK ⟨_,HS⟩ fun HH=>?_;clear hK K
         refine dr_any [4,7] HT (by kernel_rfl) (by decide) (AllReadyL.cons rfl (by decide) (fun K hK=>?_) (AllReadyL.cons rfl (by decide) (fun K hK=>?_) AllReadyL.nil))
         · refine if_wp (by rfl) ?_;refine wp_run (run_str rfl rfl Tryz.underlying22 Tryz.underlying5 Tryz.underlying9 (HS.rd 1 rfl)) ?_
           (try simp only [hpn,hpm] at HS)
           have F:=HS.bx
           refine nrm 29 hK ⟨_,HS⟩ fun HH=>?_;clear hK K
           refine dr1 7 HT fun K hK=>?_
           refine go_cl HS (spec_l07Length.calls ht26.out) Tryz.func104 ?_;clear HS;intro wt26 HS F
           refine nrm 32 hK ⟨_,HS⟩ fun HH=>?_;clear hK K
           refine dr_pure 8 (some 33) HT (v:=.string ((strOfNums ([(a0.f0 % 256)]:List Int))++t26)) (a':=?_) rfl rfl (by kernel_rfl) (fun _ _ _ h=>h) (.inl ⟨by rfl,fun w'=>(run_cat rfl rfl rfl (of_eq_true c27))⟩) ?_ ?_
           rotate_left
           · simp only [Act.put,ptn];rfl
           refine dr_pure 10 (some 35) HT (v:=.string (((strOfNums ([(a0.f0 % 256)]:List Int))++t26)++a0.f1)) (a':=?_) rfl rfl (by kernel_rfl) (fun _ _ _ h=>h) (.inl ⟨by rfl,fun w'=>(run_cat rfl rfl rfl (of_eq_true c28))⟩) ?_ ?_
           rotate_left
           · simp only [Act.put,ptn];rfl
           refine dq [11] HT ?_
           refine norm_ ?_ (hJ (.slice B24 1 d24) _ (HS.ar [some 0,some 1]))
           simp only [putAll,Act.put,ptn]
           (try rfl)
         · refine go_cl HS (spec_l07Length.calls ht26.out) Tryz.func104 ?_;clear HS;intro wt26 HS F
           refine nrm 32 hK ⟨_,HS⟩ fun HH=>?_;clear hK K
           refine dr1 4 HT fun K hK=>?_
           refine if_wp (by rfl) ?_;refine wp_run (run_str rfl rfl Tryz.underlying22 Tryz.underlying5 Tryz.underlying9 (HS.rd 1 rfl)) ?_
           (try simp only [hpn,hpm] at HS)
           have F:=HS.bx
           refine nrm 29 hK ⟨_,HS⟩ fun HH=>?_;clear hK K
           refine dr_pure 8 (some 33) HT (v:=.string ((strOfNums ([(a0.f0 % 256)]:List Int))++t26)) (a':=?_) rfl rfl (by kernel_rfl) (fun _ _ _ h=>h) (.inl ⟨by rfl,fun w'=>(run_cat rfl rfl rfl (of_eq_true c27))⟩) ?_ ?_
           rotate_left
           · simp only [Act.put,ptn];rfl
           refine dr_pure 10 (some 35) HT (v:=.string (((strOfNums ([(a0.f0 % 256)]:List Int))++t26)++a0.f1)) (a':=?_) rfl rfl (by kernel_rfl) (fun _ _ _ h=>h) (.inl ⟨by rfl,fun w'=>(run_cat rfl rfl rfl (of_eq_true c28))⟩) ?_ ?_
           rotate_left
           · simp only [Act.put,ptn];rfl
           refine dq [11] HT ?_
           refine norm_ ?_ (hJ (.slice B24 1 d24) _ (HS.ar [some 0,some 1]))
           simp only [putAll,Act.put,ptn]
           (try rfl)
       · refine go_cl HS (spec_l07Length.calls ht26.out) Tryz.func104 ?_;clear HS;intro wt26 HS F
         refine nrm 32 hK ⟨_,HS⟩ fun HH=>?_;clear hK K
         refine dr1 3 HT fun K hK=>?_
         refine if_li (Zd.int .u8) [] ([(a0.f0 % 256)]:List Int) ([.int .u8 (a0.f0 % 256)]++ []) HS (MadeL.cons (js1:=[]) (c:=[.int .u8 (a0.f0 % 256)]) rfl (made_flat (fun _=>rfl)) MadeL.nil (by decide)) ?_;clear HS;intro v24 w24 HS F;obtain⟨B24,d24,rfl,m24⟩:=HS.formn 1 1 rfl rfl
         refine nrm 28 hK ⟨_,HS⟩ fun HH=>?_;clear hK K
         refine dr1 4 HT fun K hK=>?_
         refine if_wp (by rfl) ?_;refine wp_run (run_str rfl rfl Tryz.underlying22 Tryz.underlying5 Tryz.underlying9 (HS.rd 1 rfl)) ?_
         (try simp only [hpn,hpm] at HS)
         have F:=HS.bx
         refine nrm 29 hK ⟨_,HS⟩ fun HH=>?_;clear hK K
         refine dr_pure 8 (some 33) HT (v:=.string ((strOfNums ([(a0.f0 % 256)]:List Int))++t26)) (a':=?_) rfl rfl (by kernel_rfl) (fun _ _ _ h=>h) (.inl ⟨by rfl,fun w'=>(run_cat rfl rfl rfl (of_eq_true c27))⟩) ?_ ?_
         rotate_left
         · simp only [Act.put,ptn];rfl
         refine dr_pure 10 (some 35) HT (v:=.string (((strOfNums ([(a0.f0 % 256)]:List Int))++t26)++a0.f1)) (a':=?_) rfl rfl (by kernel_rfl) (fun _ _ _ h=>h) (.inl ⟨by rfl,fun w'=>(run_cat rfl rfl rfl (of_eq_true c28))⟩) ?_ ?_
         rotate_left
         · simp only [Act.put,ptn];rfl
         refine dq [11] HT ?_
         refine norm_ ?_ (hJ (.slice B24 1 d24) _ (HS.ar [some 0,some 1]))
         simp only [putAll,Act.put,ptn]
         (try rfl)
     rintro v24 w29 HS
     obtain⟨B24,d24,rfl,m24⟩:=HS.formn 1 1 rfl (by first|rfl|simp)
     have F:=HS.bx
     refine norm_ (a':=?_) ?_ ?_
     rotate_left
     · simp only [putAll,Act.put,ptn];rfl
     refine dn HT ?_
     obtain rfl:=zsome H
     go_wp2
     go_ret
     exact HS.pk
    obtain⟨c3a,c3b⟩:=bq c3;clear c3
    (try simp only [c3a,c3b,dcn])
    go_wp2
    go_loopg [3,4] k (fun kq v_3 v_4 w'=>∃(x11:ByteArray) (x12:Int),v_3=.string x11∧v_4=.int .i64 x12∧Aside0 (spec_l07Text.l0 kq x11 x12 a0=some r)∧Aside0 (kq≤k)∧Hp noFP w w' [.box g1 [.int .i64 a0.f0,.string a0.f1,.slice Ap0 a0.f2.length cp0] 66])
    case atStart=>exact⟨_,_,rfl,rfl,H,⟨Nat.le_refl _⟩,HS⟩
    case round=>
     clear HS H;(try clear F)
     obtain⟨x11,x12,rfl,rfl,H,HKk10,HS⟩:=hrel
     have F:=HS.bx
     cases gk with
     |zero=>exact absurd H.out (by simp [spec_l07Text.l0])
     | succ k10=>
      simp only [spec_l07Text.l0] at H
      replace H:=zif H;rcases H with⟨c14,H⟩|⟨c14,H⟩
      ·
       replace H:=zgo H;obtain⟨c15,H⟩:=H
       replace H:=zgo H;obtain⟨c16,H⟩:=H
       obtain⟨ad17,B17_2,d17_2,rfl,e17_0,e17_1,e17_2,m17_2,y17_2⟩:=at_T66 gp0 x12 (of_eq_true c15) (of_eq_true c16)
       have e17_0_17:=HS.keepc e17_0
       have e17_1_17:=HS.keepc e17_1
       have e17_2_17:=HS.keepc e17_2
       replace H:=zbind H;obtain⟨t18,ht18,H⟩:=H
       replace H:=zgo H;obtain⟨c20,H⟩:=H
       go_wp2_with (first|((with_reducible refine gd 23 rfl ?_);refine ev_cl HS (IH (by have:=HK0.out;have:=HKk10.out;omega) ht18.out (HS.ro y17_2) m17_2) Tryz.func74 ?_;clear HS;intro wt18 HS F)|((with_reducible refine gd 24 rfl ?_);refine ev_val rfl (run_cat rfl rfl rfl (of_eq_true c20)) ?_))
       go_roundg k10
       case measure=>have:=HK0.out;have:=HKk10.out;omega
       case rel=>exact⟨_,_,rfl,rfl,H,⟨by have:=HK0.out;have:=HKk10.out;omega⟩,HS.pi [0]⟩
      (try go_wp2)
      replace H:=zbind H;obtain⟨t13,ht13,H⟩:=H
      replace H:=zgo H;obtain⟨c19,H⟩:=H
      replace H:=zgo H;obtain⟨c21,H⟩:=H
      refine dr_start [] HS #[false,false,false,false,false,false,false,false,false,false,false,false] (by kernel_rfl) rfl rfl spec_l07Text.tT7 (fun w22 HT HS HH=>?_)
      (try clear F)
      refine join_ 0 #[true,true,true,true,true,true,true,true,true,true,true,true] (fun(v6:Value)=>([(25,.pointer (some ⟨g1,0,none⟩)),(26,.int .i64 a0.f0),(27,.int .u8 (a0.f0 % 256)),(28,v6),(29,.string (strOfNums ([(a0.f0 % 256)]:List Int))),(30,.string x11),(31,.int .i64 (x11.size:Int)),(32,.string t13),(33,.string ((strOfNums ([(a0.f0 % 256)]:List Int))++t13)),(34,.string x11),(35,.string (((strOfNums ([(a0.f0 % 256)]:List Int))++t13)++x11)),(2,.string (((strOfNums ([(a0.f0 % 256)]:List Int))++t13)++x11))]:List (Tmp×Value))) (fun(v6:Value) w'=>Hp noFP w w' [.box g1 [.int .i64 a0.f0,.string a0.f1,.slice Ap0 a0.f2.length cp0] 66,.own (Zd.slice 5 (Zd.int .u8)) ([(a0.f0 % 256)]:List Int) [v6]]) ?_ ?_
      rotate_left
      · intro hJ
        refine dqt [0,1,2,5,6,9] HT HH ?_
        refine dr_any [3,7] HT (by kernel_rfl) (by decide) (AllReadyL.cons rfl (by decide) (fun K hK=>?_) (AllReadyL.cons rfl (by decide) (fun K hK=>?_) AllReadyL.nil))
        · refine if_li (Zd.int .u8) [] ([(a0.f0 % 256)]:List Int) ([.int .u8 (a0.f0 % 256)]++ []) HS (MadeL.cons (js1:=[]) (c:=[.int .u8 (a0.f0 % 256)]) rfl (made_flat (fun _=>rfl)) MadeL.nil (by decide)) ?_;clear HS;intro v6 w6 HS F;obtain⟨B6,d6,rfl,m6⟩:=HS.formn 1 1 rfl rfl
          refine nrm 28 hK ⟨_,HS⟩ fun HH=>?_;clear hK K
          refine dr_any [4,7] HT (by kernel_rfl) (by decide) (AllReadyL.cons rfl (by decide) (fun K hK=>?_) (AllReadyL.cons rfl (by decide) (fun K hK=>?_) AllReadyL.nil))
          · refine if_wp (by rfl) ?_;refine wp_run (run_str rfl rfl Tryz.underlying22 Tryz.underlying5 Tryz.underlying9 (HS.rd 1 rfl)) ?_
            (try simp only [hpn,hpm] at HS)
            have F:=HS.bx
            refine nrm 29 hK ⟨_,HS⟩ fun HH=>?_;clear hK K
            refine dr1 7 HT fun K hK=>?_
            refine go_cl HS (spec_l07Length.calls ht13.out) Tryz.func104 ?_;clear HS;intro wt13 HS F
            refine nrm 32 hK ⟨_,HS⟩ fun HH=>?_;clear hK K
            refine dr_pure 8 (some 33) HT (v:=.string ((strOfNums ([(a0.f0 % 256)]:List Int))++t13)) (a':=?_) rfl rfl (by kernel_rfl) (fun _ _ _ h=>h) (.inl ⟨by rfl,fun w'=>(run_cat rfl rfl rfl (of_eq_true c19))⟩) ?_ ?_
            rotate_left
            · simp only [Act.put,ptn];rfl
            refine dr_pure 10 (some 35) HT (v:=.string (((strOfNums ([(a0.f0 % 256)]:List Int))++t13)++x11)) (a':=?_) rfl rfl (by kernel_rfl) (fun _ _ _ h=>h) (.inl ⟨by rfl,fun w'=>(run_cat rfl rfl rfl (of_eq_true c21))⟩) ?_ ?_
            rotate_left
            · simp only [Act.put,ptn];rfl
            refine dq [11] HT ?_
            refine norm_ ?_ (hJ (.slice B6 1 d6) _ (HS.ar [some 0,some 1]))
            simp only [putAll,Act.put,ptn]
            (try rfl)
          · refine go_cl HS (spec_l07Length.calls ht13.out) Tryz.func104 ?_;clear HS;intro wt13 HS F
            refine nrm 32 hK ⟨_,HS⟩ fun HH=>?_;clear hK K
            refine dr1 4 HT fun K hK=>?_
            refine if_wp (by rfl) ?_;refine wp_run (run_str rfl rfl Tryz.underlying22 Tryz.underlying5 Tryz.underlying9 (HS.rd 1 rfl)) ?_
            (try simp only [hpn,hpm] at HS)
            have F:=HS.bx
            refine nrm 29 hK ⟨_,HS⟩ fun HH=>?_;clear hK K
            refine dr_pure 8 (some 33) HT (v:=.string ((strOfNums ([(a0.f0 % 256)]:List Int))++t13)) (a':=?_) rfl rfl (by kernel_rfl) (fun _ _ _ h=>h) (.inl ⟨by rfl,fun w'=>(run_cat rfl rfl rfl (of_eq_true c19))⟩) ?_ ?_
            rotate_left
            · simp only [Act.put,ptn];rfl
            refine dr_pure 10 (some 35) HT (v:=.string (((strOfNums ([(a0.f0 % 256)]:List Int))++t13)++x11)) (a':=?_) rfl rfl (by kernel_rfl) (fun _ _ _ h=>h) (.inl ⟨by rfl,fun w'=>(run_cat rfl rfl rfl (of_eq_true c21))⟩) ?_ ?_
            rotate_left
            · simp only [Act.put,ptn];rfl
            refine dq [11] HT ?_
            refine norm_ ?_ (hJ (.slice B6 1 d6) _ (HS.ar [some 0,some 1]))
            simp only [putAll,Act.put,ptn]
            (try rfl)
        · refine go_cl HS (spec_l07Length.calls ht13.out) Tryz.func104 ?_;clear HS;intro wt13 HS F
          refine nrm 32 hK ⟨_,HS⟩ fun HH=>?_;clear hK K
          refine dr1 3 HT fun K hK=>?_
          refine if_li (Zd.int .u8) [] ([(a0.f0 % 256)]:List Int) ([.int .u8 (a0.f0 % 256)]++ []) HS (MadeL.cons (js1:=[]) (c:=[.int .u8 (a0.f0 % 256)]) rfl (made_flat (fun _=>rfl)) MadeL.nil (by decide)) ?_;clear HS;intro v6 w6 HS F;obtain⟨B6,d6,rfl,m6⟩:=HS.formn 1 1 rfl rfl
          refine nrm 28 hK ⟨_,HS⟩ fun HH=>?_;clear hK K
          refine dr1 4 HT fun K hK=>?_
          refine if_wp (by rfl) ?_;refine wp_run (run_str rfl rfl Tryz.underlying22 Tryz.underlying5 Tryz.underlying9 (HS.rd 1 rfl)) ?_
          (try simp only [hpn,hpm] at HS)
          have F:=HS.bx
          refine nrm 29 hK ⟨_,HS⟩ fun HH=>?_;clear hK K
          refine dr_pure 8 (some 33) HT (v:=.string ((strOfNums ([(a0.f0 % 256)]:List Int))++t13)) (a':=?_) rfl rfl (by kernel_rfl) (fun _ _ _ h=>h) (.inl ⟨by rfl,fun w'=>(run_cat rfl rfl rfl (of_eq_true c19))⟩) ?_ ?_
          rotate_left
          · simp only [Act.put,ptn];rfl
          refine dr_pure 10 (some 35) HT (v:=.string (((strOfNums ([(a0.f0 % 256)]:List Int))++t13)++x11)) (a':=?_) rfl rfl (by kernel_rfl) (fun _ _ _ h=>h) (.inl ⟨by rfl,fun w'=>(run_cat rfl rfl rfl (of_eq_true c21))⟩) ?_ ?_
          rotate_left
          · simp only [Act.put,ptn];rfl
          refine dq [11] HT ?_
          refine norm_ ?_ (hJ (.slice B6 1 d6) _ (HS.ar [some 0,some 1]))
          simp only [putAll,Act.put,ptn]
          (try rfl)
      rintro v6 w23 HS
      obtain⟨B6,d6,rfl,m6⟩:=HS.formn 1 1 rfl (by first|rfl|simp)
      have F:=HS.bx
      refine norm_ (a':=?_) ?_ ?_
      rotate_left
      · simp only [putAll,Act.put,ptn];rfl
      refine dn HT ?_
      obtain rfl:=zsome H
      go_wp2
      go_ret
      exact HS.pk
theorem spec_l07Text.calls {k:Nat}{a0:S66}{Ap0:Option Addr}{np0 cp0:Nat}{r:ByteArray}{w:World}(h:spec_l07Text.f k a0=some r)(gp0:k66.C w Ap0 np0 a0.f2)(lp0:np0≤cp0):
    Calls Tryz.prog 74 #[.agg #[.int .i64 a0.f0,.string a0.f1,.slice Ap0 np0 cp0]] w (fun e w'=>e=.returned (.string r)∧Hp noFP w w' []):=spec_l07Text.calls_ k (Nat.le_refl k) h gp0 lp0
def spec_ItemText.f (k:Nat)(a0:S66):Option (ByteArray×Bool):=((spec_ItemOk.f k a0).bind fun t3=>(if t3=true then((spec_l07Text.f k a0).bind fun t6=>(if 4000<(t6.size:Int)then(some ((⟨#[]⟩:ByteArray),false))else(some (t6,true))))else(some ((⟨#[]⟩:ByteArray),false))))
theorem spec_ItemText.calls {k:Nat}{a0:S66}{Ap0:Option Addr}{np0 cp0:Nat}{r1:ByteArray}{r2:Bool}{w:World}(h:spec_ItemText.f k a0=some (r1,r2))(gp0:k66.C w Ap0 np0 a0.f2)(lp0:np0≤cp0):
    Calls Tryz.prog 36 #[.agg #[.int .i64 a0.f0,.string a0.f1,.slice Ap0 np0 cp0]] w (fun e w'=>e=.returned (.tuple #[.string r1,.bool r2])∧Hp noFP w w' []):=by
 obtain rfl:=C_len gp0
 have HS:=Hp.start w
 have H:=Aside0.mk h
 clear h
 unfold spec_ItemText.f at H
 go_enter Tryz.func36,Tryz.ntmps36
 replace H:=zbind H;obtain⟨t3,ht3,H⟩:=H
 go_upto_if 7 with(first|((with_reducible refine gd 1 rfl ?_);refine ev_bx HS ?_;clear HS;intro g1 w1 HS F)|((with_reducible refine gd 6 rfl ?_);refine ev_cl HS (spec_ItemOk.calls ht3.out (HS.ro gp0) lp0) Tryz.func73 ?_;clear HS;intro wt3 HS F))
 replace H:=znifb H;rcases H with⟨c5,H⟩|⟨c5,H⟩
 ·
  subst c5
  (try simp only [dcn,dcu,dcf])
  obtain⟨rfl,rfl⟩:=zsome2 H
  go_wp2
  exact rl rfl (.tmp (.tmp .nil)) ⟨rfl,HS.pi []⟩
 subst c5
 (try simp only [dcn,dcu,dcf])
 replace H:=zbind H;obtain⟨t6,ht6,H⟩:=H
 go_upto_if 12 with((with_reducible refine gd 9 rfl ?_);refine ev_cl HS (spec_l07Text.calls ht6.out (HS.ro gp0) lp0) Tryz.func74 ?_;clear HS;intro wt6 HS F)
 replace H:=zif H;rcases H with⟨c8,H⟩|⟨c8,H⟩
 ·
  (try simp only [c8,dcn])
  obtain⟨rfl,rfl⟩:=zsome2 H
  go_wp2
  exact rl rfl (.tmp (.tmp .nil)) ⟨rfl,HS.pi []⟩
 (try simp only [c8,dcn])
 obtain⟨rfl,rfl⟩:=zsome2 H
 go_wp2
 exact rl rfl (.tmp (.tmp .nil)) ⟨rfl,HS.pi []⟩
def spec_BodyText.f (k:Nat)(a0:S125):Option (ByteArray):=((spec_BodyItem.f k a0).bind fun t3=>((spec_ItemText.f k t3).bind fun t6=>(some t6.1)))
theorem spec_BodyText.calls {k:Nat}{a0:S125}{Ap0 Ap1 Ap2:Option Addr}{np0 cp0 np1 cp1 np2 cp2:Nat}{r:ByteArray}{w:World}(h:spec_BodyText.f k a0=some r)(gp0:(Kd.int .i64).C w Ap0 np0 a0.f9)(lp0:np0≤cp0)(gp1:Kd.string.C w Ap1 np1 a0.f10)(lp1:np1≤cp1)(gp2:Kd.string.C w Ap2 np2 a0.f11)(lp2:np2≤cp2):
    Calls Tryz.prog 145 #[.agg #[.int .i64 a0.f0,.string a0.f1,.string a0.f2,.int .i64 a0.f3,.int .i64 a0.f4,.string a0.f5,.bool a0.f6,.int .i64 a0.f7,.int .i64 a0.f8,.slice Ap0 np0 cp0,.slice Ap1 np1 cp1,.slice Ap2 np2 cp2,.string a0.f12]] w (fun e w'=>e=.returned (.string r)∧Hp noFP w w' []):=by
 obtain rfl:=C_len gp0
 obtain rfl:=C_len gp1
 obtain rfl:=C_len gp2
 have HS:=Hp.start w
 have H:=Aside0.mk h
 clear h
 unfold spec_BodyText.f at H
 go_enter Tryz.func145,Tryz.ntmps145
 replace H:=zbind H;obtain⟨t3,ht3,H⟩:=H
 replace H:=zbind H;obtain⟨t6,ht6,H⟩:=H
 obtain rfl:=zsome H
 go_wp2_with (first|((with_reducible refine gd 1 rfl ?_);refine ev_bx HS ?_;clear HS;intro g1 w1 HS F)|((with_reducible refine gd 7 rfl ?_);refine ev_cl1 HS (spec_BodyItem.calls ht3.out (HS.ro gp0) lp0 (HS.ro gp1) lp1 (HS.ro gp2) lp2) Tryz.func123 ?_;clear HS;intro v4 wt3 HS F;obtain⟨B4,d4,rfl,m4⟩:=HS.form 1 rfl)|((with_reducible refine gd 8 rfl ?_);refine ev_cl HS (spec_ItemText.calls ht6.out (HS.rd 1 rfl) m4) Tryz.func36 ?_;clear HS;intro wt6 HS F))
 go_ret
 exact HS.pk
def spec_Signed.f (k:Nat)(a0:S125)(a1:Int):Option (S125):=((spec_l09Copy.f a0).bind fun t5=>((spec_BodyText.f k a0).bind fun t14=>((spec_SignWith.f k a1 t14).bind fun t16=>(some (⟨t5.f0,t5.f1,t5.f2,t5.f3,t5.f4,t5.f5,t5.f6,t5.f7,t5.f8,t5.f9,t5.f10,t5.f11,t16⟩:S125)))))
theorem spec_Signed.calls {k:Nat}{a0:S125}{a1:Int}{Ap0 Ap1 Ap2:Option Addr}{np0 cp0 np1 cp1 np2 cp2:Nat}{r:S125}{w:World}(h:spec_Signed.f k a0 a1=some r)(gp0:(Kd.int .i64).C w Ap0 np0 a0.f9)(lp0:np0≤cp0)(gp1:Kd.string.C w Ap1 np1 a0.f10)(lp1:np1≤cp1)(gp2:Kd.string.C w Ap2 np2 a0.f11)(lp2:np2≤cp2):
    Calls Tryz.prog 130 #[.agg #[.int .i64 a0.f0,.string a0.f1,.string a0.f2,.int .i64 a0.f3,.int .i64 a0.f4,.string a0.f5,.bool a0.f6,.int .i64 a0.f7,.int .i64 a0.f8,.slice Ap0 np0 cp0,.slice Ap1 np1 cp1,.slice Ap2 np2 cp2,.string a0.f12],.int .i64 a1] w (fun e w'=>∃v0_ v1_ v2_:Value,e=.returned (.agg #[.int .i64 r.f0,.string r.f1,.string r.f2,.int .i64 r.f3,.int .i64 r.f4,.string r.f5,.bool r.f6,.int .i64 r.f7,.int .i64 r.f8,v0_,v1_,v2_,.string r.f12])∧Hp noFP w w' [.own (Zd.slice 3 (Zd.int .i64)) r.f9 [v0_],.own (Zd.slice 9 Zd.string) r.f10 [v1_],.own (Zd.slice 9 Zd.string) r.f11 [v2_]]):=by
 obtain rfl:=C_len gp0
 obtain rfl:=C_len gp1
 obtain rfl:=C_len gp2
 have HS:=Hp.start w
 have H:=Aside0.mk h
 clear h
 unfold spec_Signed.f at H
 go_enter Tryz.func130,Tryz.ntmps130
 replace H:=zbind H;obtain⟨t5,ht5,H⟩:=H
 replace H:=zbind H;obtain⟨t14,ht14,H⟩:=H
 replace H:=zbind H;obtain⟨t16,ht16,H⟩:=H
 obtain rfl:=zsome H
 go_wp2_with (first|((with_reducible refine gd 2 rfl ?_);refine ev_bx HS ?_;clear HS;intro g2 w2 HS F)|((with_reducible refine gd 4 rfl ?_);refine ev_bx HS ?_;clear HS;intro g4 w4 HS F)|((with_reducible refine gd 7 rfl ?_);refine ev_cl3 HS (spec_l09Copy.calls ht5.out (HS.ro gp0) lp0 (HS.ro gp1) lp1 (HS.ro gp2) lp2) Tryz.func113 ?_;clear HS;intro v6 v7 v8 wt5 HS F;obtain⟨B6,d6,rfl,m6⟩:=HS.form 2 rfl;obtain⟨B7,d7,rfl,m7⟩:=HS.form 3 rfl;obtain⟨B8,d8,rfl,m8⟩:=HS.form 4 rfl)|((with_reducible refine gd 5 rfl ?_);refine ev_bx HS ?_;clear HS;intro g5 w5 HS F)|((with_reducible refine gate_store (p:=5) rfl ?_);refine ev_st 5 0 HS (seg:=[.int .i64 t5.f0,.string t5.f1,.string t5.f2,.int .i64 t5.f3,.int .i64 t5.f4,.string t5.f5,.bool t5.f6,.int .i64 t5.f7,.int .i64 t5.f8,.slice B6 t5.f9.length d6,.slice B7 t5.f10.length d7,.slice B8 t5.f11.length d8,.string t5.f12]) ?_;clear HS;intro w12 HS F)|((with_reducible refine gd 10 rfl ?_);refine ev_cl HS (spec_BodyText.calls ht14.out (HS.ro gp0) lp0 (HS.ro gp1) lp1 (HS.ro gp2) lp2) Tryz.func145 ?_;clear HS;intro wt14 HS F)|((with_reducible refine gd 11 rfl ?_);refine ev_cl HS (spec_SignWith.calls ht16.out) Tryz.func144 ?_;clear HS;intro wt16 HS F)|((with_reducible refine gate_store (p:=12) rfl ?_);refine ev_st 5 12 HS (seg:=[.string t16]) ?_;clear HS;intro w18 HS F)|((with_reducible refine gate_store (p:=4) rfl ?_);refine ev_st 1 0 HS (seg:=[.int .i64 t5.f0,.string t5.f1,.string t5.f2,.int .i64 t5.f3,.int .i64 t5.f4,.string t5.f5,.bool t5.f6,.int .i64 t5.f7,.int .i64 t5.f8,.slice B6 t5.f9.length d6,.slice B7 t5.f10.length d7,.slice B8 t5.f11.length d8,.string t16]) ?_;clear HS;intro w20 HS F))
 exact rc 1 HS Tryz.underlying125 ⟨_,_,_,rfl,HS.pi [2,3,4]⟩
def spec_PublicAt.f (k:Nat)(a0:Int):Option (ByteArray):=((spec_l06Public.f k a0).bind fun t1=>((spec_NatText.f k t1).bind fun t4=>(some t4)))
theorem spec_PublicAt.calls {k:Nat}{a0:Int}{r:ByteArray}{w:World}(h:spec_PublicAt.f k a0=some r):
    Calls Tryz.prog 89 #[.int .i64 a0] w (fun e w'=>e=.returned (.string r)∧Hp noFP w w' []):=by
 have HS:=Hp.start w
 have H:=Aside0.mk h
 clear h
 unfold spec_PublicAt.f at H
 go_enter Tryz.func89,Tryz.ntmps89
 replace H:=zbind H;obtain⟨t1,ht1,H⟩:=H
 replace H:=zbind H;obtain⟨t4,ht4,H⟩:=H
 obtain rfl:=zsome H
 go_wp2_with (first|((with_reducible refine gd 4 rfl ?_);refine ev_cl1 HS (spec_l06Public.calls ht1.out) Tryz.func118 ?_;clear HS;intro v2 wt1 HS F;obtain⟨B2,d2,rfl,m2⟩:=HS.form 0 rfl)|((with_reducible refine gd 5 rfl ?_);refine ev_cl HS (spec_NatText.calls ht4.out (HS.rd 0 rfl) m2) Tryz.func117 ?_;clear HS;intro wt4 HS F))
 go_ret
 exact HS.pk
def spec_l01Once_0.f (a0:S110)(a1:Int):Option (Bool×S110):=((spec_l01Below_0.f a0 a1).bind fun t1=>(some ((t1.1==0),(⟨a0.f0,t1.2.f1,t1.2.f2⟩:S110))))
theorem spec_l01Once_0.calls {a0:S110}{a1:Int}{A:FP}{p0:Nat}{Ap1:Option Addr}{np1 cp1:Nat}{wv:World}{r1:Bool}{r2:S110}{w:World}(h:spec_l01Once_0.f a0 a1=some (r1,r2))(gp1:(Kd.int .u8).C wv Ap1 np1 a0.f0)(lp1:np1≤cp1)(hV:View A w wv)(HS:Hp A w w [.box p0 [.slice Ap1 np1 cp1,.int .i64 a0.f1,.int .i64 a0.f2] 110]):
    Calls Tryz.prog 98 #[.pointer (some ⟨p0,0,none⟩),.int .i64 a1] w (fun e w'=>e=.returned (.bool r1)∧Hp A w w' [.box p0 [.slice Ap1 np1 cp1,.int .i64 r2.f1,.int .i64 r2.f2] 110]):=by
 obtain rfl:=C_len gp1
 have H:=Aside0.mk h
 clear h
 unfold spec_l01Once_0.f at H
 go_enter Tryz.func98,Tryz.ntmps98
 have F:=HS.bx
 replace H:=zbind H;obtain⟨t1,ht1,H⟩:=H
 obtain⟨rfl,rfl⟩:=zsome2 H
 go_wp2_with ((with_reducible refine gd 7 rfl ?_);refine ev_lb [0] HS (fun _ HL HA=>spec_l01Below_0.calls ht1.out gp1 lp1 (hV.lend HS HL) HA) Tryz.func45 ?_;clear HS;intro wt1 HS F)
 go_ret
 exact⟨rfl,HS.pi [0]⟩
def spec_l09Made_0.f (k:Nat)(a0:S110)(a1:Int)(a2:ByteArray)(a3:Int)(a4:ByteArray)(a5:Int)(a6:Bool):Option (S125×S110):=((spec_PublicAt.f k a5).bind fun t3=>((spec_l01Once_0.f a0 4).bind fun t9=>(if t9.1=true then((spec_l08Policies_0.f (⟨a0.f0,t9.2.f1,t9.2.f2⟩:S110)).bind fun t12=>((spec_l01Below_0.f (⟨a0.f0,t12.2.f1,t12.2.f2⟩:S110) 12).bind fun t17=>(if t17.1=0 then((spec_Signed.f k (⟨a1,a2,a4,10,40,t3,a6,99,7,t12.1,([]:List ByteArray),([]:List ByteArray),(⟨#[]⟩:ByteArray)⟩:S125) a3).bind fun t22=>(some ((⟨t22.f0,t22.f1,t22.f2,t22.f3,t22.f4,t22.f5,t22.f6,t22.f7,t22.f8,t22.f9,t22.f10,t22.f11,t22.f12⟩:S125),(⟨a0.f0,t17.2.f1,t17.2.f2⟩:S110))))else(if t17.1=1 then((spec_l01Below_0.f (⟨a0.f0,t17.2.f1,t17.2.f2⟩:S110) 2).bind fun t30=>((spec_Signed.f k (⟨a1,a2,a4,10,90,t3,a6,t30.1,7,t12.1,([]:List ByteArray),([]:List ByteArray),(⟨#[]⟩:ByteArray)⟩:S125) a3).bind fun t34=>(some ((⟨t34.f0,t34.f1,t34.f2,t34.f3,t34.f4,t34.f5,t34.f6,t34.f7,t34.f8,t34.f9,t34.f10,t34.f11,t34.f12⟩:S125),(⟨a0.f0,t30.2.f1,t30.2.f2⟩:S110)))))else(if t17.1=2 then((spec_l01Below_0.f (⟨a0.f0,t17.2.f1,t17.2.f2⟩:S110) 8).bind fun t42=>((spec_Signed.f k (⟨a1,a2,a4,10,90,t3,a6,99,t42.1,t12.1,([]:List ByteArray),([]:List ByteArray),(⟨#[]⟩:ByteArray)⟩:S125) a3).bind fun t46=>(some ((⟨t46.f0,t46.f1,t46.f2,t46.f3,t46.f4,t46.f5,t46.f6,t46.f7,t46.f8,t46.f9,t46.f10,t46.f11,t46.f12⟩:S125),(⟨a0.f0,t42.2.f1,t42.2.f2⟩:S110)))))else(if t17.1=3 then((spec_l08Names_0.f (⟨a0.f0,t17.2.f1,t17.2.f2⟩:S110)).bind fun t54=>((spec_Signed.f k (⟨a1,a2,a4,10,90,t3,a6,99,7,t12.1,t54.1,([]:List ByteArray),(⟨#[]⟩:ByteArray)⟩:S125) a3).bind fun t59=>(some ((⟨t59.f0,t59.f1,t59.f2,t59.f3,t59.f4,t59.f5,t59.f6,t59.f7,t59.f8,t59.f9,t59.f10,t59.f11,t59.f12⟩:S125),(⟨a0.f0,t54.2.f1,t54.2.f2⟩:S110)))))else(if t17.1=4 then((spec_l08Names_0.f (⟨a0.f0,t17.2.f1,t17.2.f2⟩:S110)).bind fun t67=>((spec_Signed.f k (⟨a1,a2,a4,10,90,t3,a6,99,7,t12.1,([]:List ByteArray),t67.1,(⟨#[]⟩:ByteArray)⟩:S125) a3).bind fun t72=>(some ((⟨t72.f0,t72.f1,t72.f2,t72.f3,t72.f4,t72.f5,t72.f6,t72.f7,t72.f8,t72.f9,t72.f10,t72.f11,t72.f12⟩:S125),(⟨a0.f0,t67.2.f1,t67.2.f2⟩:S110)))))else(if t17.1=5 then((spec_Signed.f k (⟨a1,a2,a4,10,90,t3,(!a6),99,7,t12.1,([]:List ByteArray),([]:List ByteArray),(⟨#[]⟩:ByteArray)⟩:S125) a3).bind fun t82=>(some ((⟨t82.f0,t82.f1,t82.f2,t82.f3,t82.f4,t82.f5,t82.f6,t82.f7,t82.f8,t82.f9,t82.f10,t82.f11,t82.f12⟩:S125),(⟨a0.f0,t17.2.f1,t17.2.f2⟩:S110))))else((spec_Signed.f k (⟨a1,a2,a4,10,90,t3,a6,99,7,t12.1,([]:List ByteArray),([]:List ByteArray),(⟨#[]⟩:ByteArray)⟩:S125) a3).bind fun t89=>(some ((⟨t89.f0,t89.f1,t89.f2,t89.f3,t89.f4,t89.f5,t89.f6,t89.f7,t89.f8,t89.f9,t89.f10,t89.f11,t89.f12⟩:S125),(⟨a0.f0,t17.2.f1,t17.2.f2⟩:S110))))))))))))else((spec_l01Below_0.f (⟨a0.f0,t9.2.f1,t9.2.f2⟩:S110) 12).bind fun t100=>(if t100.1=0 then((spec_Signed.f k (⟨a1,a2,a4,10,40,t3,a6,99,7,([1,2]:List Int),([]:List ByteArray),([]:List ByteArray),(⟨#[]⟩:ByteArray)⟩:S125) a3).bind fun t105=>(some ((⟨t105.f0,t105.f1,t105.f2,t105.f3,t105.f4,t105.f5,t105.f6,t105.f7,t105.f8,t105.f9,t105.f10,t105.f11,t105.f12⟩:S125),(⟨a0.f0,t100.2.f1,t100.2.f2⟩:S110))))else(if t100.1=1 then((spec_l01Below_0.f (⟨a0.f0,t100.2.f1,t100.2.f2⟩:S110) 2).bind fun t113=>((spec_Signed.f k (⟨a1,a2,a4,10,90,t3,a6,t113.1,7,([1,2]:List Int),([]:List ByteArray),([]:List ByteArray),(⟨#[]⟩:ByteArray)⟩:S125) a3).bind fun t117=>(some ((⟨t117.f0,t117.f1,t117.f2,t117.f3,t117.f4,t117.f5,t117.f6,t117.f7,t117.f8,t117.f9,t117.f10,t117.f11,t117.f12⟩:S125),(⟨a0.f0,t113.2.f1,t113.2.f2⟩:S110)))))else(if t100.1=2 then((spec_l01Below_0.f (⟨a0.f0,t100.2.f1,t100.2.f2⟩:S110) 8).bind fun t125=>((spec_Signed.f k (⟨a1,a2,a4,10,90,t3,a6,99,t125.1,([1,2]:List Int),([]:List ByteArray),([]:List ByteArray),(⟨#[]⟩:ByteArray)⟩:S125) a3).bind fun t129=>(some ((⟨t129.f0,t129.f1,t129.f2,t129.f3,t129.f4,t129.f5,t129.f6,t129.f7,t129.f8,t129.f9,t129.f10,t129.f11,t129.f12⟩:S125),(⟨a0.f0,t125.2.f1,t125.2.f2⟩:S110)))))else(if t100.1=3 then((spec_l08Names_0.f (⟨a0.f0,t100.2.f1,t100.2.f2⟩:S110)).bind fun t137=>((spec_Signed.f k (⟨a1,a2,a4,10,90,t3,a6,99,7,([1,2]:List Int),t137.1,([]:List ByteArray),(⟨#[]⟩:ByteArray)⟩:S125) a3).bind fun t142=>(some ((⟨t142.f0,t142.f1,t142.f2,t142.f3,t142.f4,t142.f5,t142.f6,t142.f7,t142.f8,t142.f9,t142.f10,t142.f11,t142.f12⟩:S125),(⟨a0.f0,t137.2.f1,t137.2.f2⟩:S110)))))else(if t100.1=4 then((spec_l08Names_0.f (⟨a0.f0,t100.2.f1,t100.2.f2⟩:S110)).bind fun t150=>((spec_Signed.f k (⟨a1,a2,a4,10,90,t3,a6,99,7,([1,2]:List Int),([]:List ByteArray),t150.1,(⟨#[]⟩:ByteArray)⟩:S125) a3).bind fun t155=>(some ((⟨t155.f0,t155.f1,t155.f2,t155.f3,t155.f4,t155.f5,t155.f6,t155.f7,t155.f8,t155.f9,t155.f10,t155.f11,t155.f12⟩:S125),(⟨a0.f0,t150.2.f1,t150.2.f2⟩:S110)))))else(if t100.1=5 then((spec_Signed.f k (⟨a1,a2,a4,10,90,t3,(!a6),99,7,([1,2]:List Int),([]:List ByteArray),([]:List ByteArray),(⟨#[]⟩:ByteArray)⟩:S125) a3).bind fun t165=>(some ((⟨t165.f0,t165.f1,t165.f2,t165.f3,t165.f4,t165.f5,t165.f6,t165.f7,t165.f8,t165.f9,t165.f10,t165.f11,t165.f12⟩:S125),(⟨a0.f0,t100.2.f1,t100.2.f2⟩:S110))))else((spec_Signed.f k (⟨a1,a2,a4,10,90,t3,a6,99,7,([1,2]:List Int),([]:List ByteArray),([]:List ByteArray),(⟨#[]⟩:ByteArray)⟩:S125) a3).bind fun t172=>(some ((⟨t172.f0,t172.f1,t172.f2,t172.f3,t172.f4,t172.f5,t172.f6,t172.f7,t172.f8,t172.f9,t172.f10,t172.f11,t172.f12⟩:S125),(⟨a0.f0,t100.2.f1,t100.2.f2⟩:S110))))))))))))))
theorem spec_l09Made_0.calls {k:Nat}{a0:S110}{a1:Int}{a2:ByteArray}{a3:Int}{a4:ByteArray}{a5:Int}{a6:Bool}{A:FP}{p0:Nat}{Ap1:Option Addr}{np1 cp1:Nat}{wv:World}{r1:S125}{r2:S110}{w:World}(h:spec_l09Made_0.f k a0 a1 a2 a3 a4 a5 a6=some (r1,r2))(gp1:(Kd.int .u8).C wv Ap1 np1 a0.f0)(lp1:np1≤cp1)(hV:View A w wv)(HS:Hp A w w [.box p0 [.slice Ap1 np1 cp1,.int .i64 a0.f1,.int .i64 a0.f2] 110]):
    Calls Tryz.prog 110 #[.pointer (some ⟨p0,0,none⟩),.int .i64 a1,.string a2,.int .i64 a3,.string a4,.int .i64 a5,.bool a6] w (fun e w'=>∃v0_ v1_ v2_:Value,e=.returned (.agg #[.int .i64 r1.f0,.string r1.f1,.string r1.f2,.int .i64 r1.f3,.int .i64 r1.f4,.string r1.f5,.bool r1.f6,.int .i64 r1.f7,.int .i64 r1.f8,v0_,v1_,v2_,.string r1.f12])∧Hp A w w' [.box p0 [.slice Ap1 np1 cp1,.int .i64 r2.f1,.int .i64 r2.f2] 110,.own (Zd.slice 3 (Zd.int .i64)) r1.f9 [v0_],.own (Zd.slice 9 Zd.string) r1.f10 [v1_],.own (Zd.slice 9 Zd.string) r1.f11 [v2_]]):=by
 obtain rfl:=C_len gp1
 have H:=Aside0.mk h
 clear h
 unfold spec_l09Made_0.f at H
 go_enter Tryz.func110,Tryz.ntmps110
 have F:=HS.bx
 replace H:=zbind H;obtain⟨t3,ht3,H⟩:=H
 replace H:=zbind H;obtain⟨t9,ht9,H⟩:=H
 go_upto_if 24 with(first|((with_reducible refine gd 14 rfl ?_);refine ev_bx HS ?_;clear HS;intro g14 w14 HS F)|((with_reducible refine gd 20 rfl ?_);refine ev_cl HS (spec_PublicAt.calls ht3.out) Tryz.func89 ?_;clear HS;intro wt3 HS F)|((with_reducible refine gd 15 rfl ?_);refine ev_bx HS ?_;clear HS;intro g15 w15 HS F)|((with_reducible refine gate_store (p:=15) rfl ?_);refine ev_st 2 0 HS (seg:=[.int .i64 a1,.string a2,.string a4,.int .i64 10,.int .i64 90,.string t3,.bool a6,.int .i64 99,.int .i64 7,.slice none 0 0,.slice none 0 0,.slice none 0 0,.string (⟨#[]⟩:ByteArray)]) ?_;clear HS;intro w7 HS F)|((with_reducible refine gd 24 rfl ?_);refine ev_lb [0] HS (fun _ HL HA=>spec_l01Once_0.calls ht9.out gp1 lp1 (hV.lend HS HL) HA) Tryz.func98 ?_;clear HS;intro wt9 HS F))
 replace H:=zifb H;rcases H with⟨c11,H⟩|⟨c11,H⟩
 ·
  (try simp only [c11,dcn])
  replace H:=zbind H;obtain⟨t12,ht12,H⟩:=H
  replace H:=zbind H;obtain⟨t17,ht17,H⟩:=H
  go_upto_if 32 with(first|((with_reducible refine gd 26 rfl ?_);refine ev_lb1 [0] HS (fun _ HL HA=>spec_l08Policies_0.calls ht12.out gp1 lp1 (hV.lend HS HL) HA) Tryz.func128 ?_;clear HS;intro v13 wt12 HS F;obtain⟨B13,d13,rfl,m13⟩:=HS.form 3 rfl;(try simp only [hpn,hpm] at HS);have F:=HS.bx)|((with_reducible refine gate_store (p:=27) rfl ?_);refine ev_st 2 9 HS (seg:=[.slice B13 t12.1.length d13]) ?_;clear HS;intro w15 HS F)|((with_reducible refine gd 31 rfl ?_);refine ev_lb [0] HS (fun _ HL HA=>spec_l01Below_0.calls ht17.out gp1 lp1 (hV.lend HS HL) HA) Tryz.func45 ?_;clear HS;intro wt17 HS F))
  replace H:=zif' H;rcases H with⟨c19,H⟩|⟨c19,H⟩
  ·
   obtain⟨c19a,c19b⟩:=bq c19;clear c19
   (try simp only [c19a,c19b,dcn])
   replace H:=zbind H;obtain⟨t22,ht22,H⟩:=H
   obtain⟨rfl,rfl⟩:=zsome2 H
   go_wp2_with (first|((with_reducible refine gate_store (p:=34) rfl ?_);refine ev_st 2 4 HS (seg:=[.int .i64 40]) ?_;clear HS;intro w20 HS F)|((with_reducible refine gd 62 rfl ?_);refine ev_cl3 HS (spec_Signed.calls ht22.out (HS.rd 3 rfl) m13 (C_nil _ _) (Nat.le_refl 0) (C_nil _ _) (Nat.le_refl 0)) Tryz.func130 ?_;clear HS;intro v23 v24 v25 wt22 HS F;obtain⟨B23,d23,rfl,m23⟩:=HS.form 4 rfl;obtain⟨B24,d24,rfl,m24⟩:=HS.form 5 rfl;obtain⟨B25,d25,rfl,m25⟩:=HS.form 6 rfl)|((with_reducible refine gate_store (p:=14) rfl ?_);refine ev_st 1 0 HS (seg:=[.int .i64 t22.f0,.string t22.f1,.string t22.f2,.int .i64 t22.f3,.int .i64 t22.f4,.string t22.f5,.bool t22.f6,.int .i64 t22.f7,.int .i64 t22.f8,.slice B23 t22.f9.length d23,.slice B24 t22.f10.length d24,.slice B25 t22.f11.length d25,.string t22.f12]) ?_;clear HS;intro w27 HS F))
   exact rc 1 HS Tryz.underlying125 ⟨_,_,_,rfl,HS.pi [0,4,5,6]⟩
  obtain⟨c19a,c19b⟩:=nq c19;clear c19
  (try simp only [c19a,c19b,dcn])
  replace H:=zif' H;rcases H with⟨c29,H⟩|⟨c29,H⟩
  ·
   obtain⟨c29a,c29b⟩:=bq c29;clear c29
   replace H:=zbind H;obtain⟨t30,ht30,H⟩:=H
   replace H:=zbind H;obtain⟨t34,ht34,H⟩:=H
   obtain⟨rfl,rfl⟩:=zsome2 H
   go_wp2_with (first|((with_reducible refine gd 38 rfl ?_);refine ev_lb [0] HS (fun _ HL HA=>spec_l01Below_0.calls ht30.out gp1 lp1 (hV.lend HS HL) HA) Tryz.func45 ?_;clear HS;intro wt30 HS F)|((with_reducible refine gate_store (p:=39) rfl ?_);refine ev_st 2 7 HS (seg:=[.int .i64 t30.1]) ?_;clear HS;intro w32 HS F)|((with_reducible refine gd 62 rfl ?_);refine ev_cl3 HS (spec_Signed.calls ht34.out (HS.rd 3 rfl) m13 (C_nil _ _) (Nat.le_refl 0) (C_nil _ _) (Nat.le_refl 0)) Tryz.func130 ?_;clear HS;intro v35 v36 v37 wt34 HS F;obtain⟨B35,d35,rfl,m35⟩:=HS.form 4 rfl;obtain⟨B36,d36,rfl,m36⟩:=HS.form 5 rfl;obtain⟨B37,d37,rfl,m37⟩:=HS.form 6 rfl)|((with_reducible refine gate_store (p:=14) rfl ?_);refine ev_st 1 0 HS (seg:=[.int .i64 t34.f0,.string t34.f1,.string t34.f2,.int .i64 t34.f3,.int .i64 t34.f4,.string t34.f5,.bool t34.f6,.int .i64 t34.f7,.int .i64 t34.f8,.slice B35 t34.f9.length d35,.slice B36 t34.f10.length d36,.slice B37 t34.f11.length d37,.string t34.f12]) ?_;clear HS;intro w39 HS F))
   exact rc 1 HS Tryz.underlying125 ⟨_,_,_,rfl,HS.pi [0,4,5,6]⟩
  obtain⟨c29a,c29b⟩:=nq c29;clear c29
  replace H:=zif' H;rcases H with⟨c41,H⟩|⟨c41,H⟩
  ·
   obtain⟨c41a,c41b⟩:=bq c41;clear c41
   replace H:=zbind H;obtain⟨t42,ht42,H⟩:=H
   replace H:=zbind H;obtain⟨t46,ht46,H⟩:=H
   obtain⟨rfl,rfl⟩:=zsome2 H
   go_wp2_with (first|((with_reducible refine gd 43 rfl ?_);refine ev_lb [0] HS (fun _ HL HA=>spec_l01Below_0.calls ht42.out gp1 lp1 (hV.lend HS HL) HA) Tryz.func45 ?_;clear HS;intro wt42 HS F)|((with_reducible refine gate_store (p:=44) rfl ?_);refine ev_st 2 8 HS (seg:=[.int .i64 t42.1]) ?_;clear HS;intro w44 HS F)|((with_reducible refine gd 62 rfl ?_);refine ev_cl3 HS (spec_Signed.calls ht46.out (HS.rd 3 rfl) m13 (C_nil _ _) (Nat.le_refl 0) (C_nil _ _) (Nat.le_refl 0)) Tryz.func130 ?_;clear HS;intro v47 v48 v49 wt46 HS F;obtain⟨B47,d47,rfl,m47⟩:=HS.form 4 rfl;obtain⟨B48,d48,rfl,m48⟩:=HS.form 5 rfl;obtain⟨B49,d49,rfl,m49⟩:=HS.form 6 rfl)|((with_reducible refine gate_store (p:=14) rfl ?_);refine ev_st 1 0 HS (seg:=[.int .i64 t46.f0,.string t46.f1,.string t46.f2,.int .i64 t46.f3,.int .i64 t46.f4,.string t46.f5,.bool t46.f6,.int .i64 t46.f7,.int .i64 t46.f8,.slice B47 t46.f9.length d47,.slice B48 t46.f10.length d48,.slice B49 t46.f11.length d49,.string t46.f12]) ?_;clear HS;intro w51 HS F))
   exact rc 1 HS Tryz.underlying125 ⟨_,_,_,rfl,HS.pi [0,4,5,6]⟩
  obtain⟨c41a,c41b⟩:=nq c41;clear c41
  replace H:=zif' H;rcases H with⟨c53,H⟩|⟨c53,H⟩
  ·
   obtain⟨c53a,c53b⟩:=bq c53;clear c53
   replace H:=zbind H;obtain⟨t54,ht54,H⟩:=H
   replace H:=zbind H;obtain⟨t59,ht59,H⟩:=H
   obtain⟨rfl,rfl⟩:=zsome2 H
   go_wp2_with (first|((with_reducible refine gd 48 rfl ?_);refine ev_lb1 [0] HS (fun _ HL HA=>spec_l08Names_0.calls ht54.out gp1 lp1 (hV.lend HS HL) HA) Tryz.func129 ?_;clear HS;intro v55 wt54 HS F;obtain⟨B55,d55,rfl,m55⟩:=HS.form 4 rfl;(try simp only [hpn,hpm] at HS);have F:=HS.bx)|((with_reducible refine gate_store (p:=49) rfl ?_);refine ev_st 2 10 HS (seg:=[.slice B55 t54.1.length d55]) ?_;clear HS;intro w57 HS F)|((with_reducible refine gd 62 rfl ?_);refine ev_cl3 HS (spec_Signed.calls ht59.out (HS.rd 3 rfl) m13 (HS.rd 4 rfl) m55 (C_nil _ _) (Nat.le_refl 0)) Tryz.func130 ?_;clear HS;intro v60 v61 v62 wt59 HS F;obtain⟨B60,d60,rfl,m60⟩:=HS.form 5 rfl;obtain⟨B61,d61,rfl,m61⟩:=HS.form 6 rfl;obtain⟨B62,d62,rfl,m62⟩:=HS.form 7 rfl)|((with_reducible refine gate_store (p:=14) rfl ?_);refine ev_st 1 0 HS (seg:=[.int .i64 t59.f0,.string t59.f1,.string t59.f2,.int .i64 t59.f3,.int .i64 t59.f4,.string t59.f5,.bool t59.f6,.int .i64 t59.f7,.int .i64 t59.f8,.slice B60 t59.f9.length d60,.slice B61 t59.f10.length d61,.slice B62 t59.f11.length d62,.string t59.f12]) ?_;clear HS;intro w64 HS F))
   exact rc 1 HS Tryz.underlying125 ⟨_,_,_,rfl,HS.pi [0,5,6,7]⟩
  obtain⟨c53a,c53b⟩:=nq c53;clear c53
  replace H:=zif' H;rcases H with⟨c66,H⟩|⟨c66,H⟩
  ·
   obtain⟨c66a,c66b⟩:=bq c66;clear c66
   replace H:=zbind H;obtain⟨t67,ht67,H⟩:=H
   replace H:=zbind H;obtain⟨t72,ht72,H⟩:=H
   obtain⟨rfl,rfl⟩:=zsome2 H
   go_wp2_with (first|((with_reducible refine gd 53 rfl ?_);refine ev_lb1 [0] HS (fun _ HL HA=>spec_l08Names_0.calls ht67.out gp1 lp1 (hV.lend HS HL) HA) Tryz.func129 ?_;clear HS;intro v68 wt67 HS F;obtain⟨B68,d68,rfl,m68⟩:=HS.form 4 rfl;(try simp only [hpn,hpm] at HS);have F:=HS.bx)|((with_reducible refine gate_store (p:=54) rfl ?_);refine ev_st 2 11 HS (seg:=[.slice B68 t67.1.length d68]) ?_;clear HS;intro w70 HS F)|((with_reducible refine gd 62 rfl ?_);refine ev_cl3 HS (spec_Signed.calls ht72.out (HS.rd 3 rfl) m13 (C_nil _ _) (Nat.le_refl 0) (HS.rd 4 rfl) m68) Tryz.func130 ?_;clear HS;intro v73 v74 v75 wt72 HS F;obtain⟨B73,d73,rfl,m73⟩:=HS.form 5 rfl;obtain⟨B74,d74,rfl,m74⟩:=HS.form 6 rfl;obtain⟨B75,d75,rfl,m75⟩:=HS.form 7 rfl)|((with_reducible refine gate_store (p:=14) rfl ?_);refine ev_st 1 0 HS (seg:=[.int .i64 t72.f0,.string t72.f1,.string t72.f2,.int .i64 t72.f3,.int .i64 t72.f4,.string t72.f5,.bool t72.f6,.int .i64 t72.f7,.int .i64 t72.f8,.slice B73 t72.f9.length d73,.slice B74 t72.f10.length d74,.slice B75 t72.f11.length d75,.string t72.f12]) ?_;clear HS;intro w77 HS F))
   exact rc 1 HS Tryz.underlying125 ⟨_,_,_,rfl,HS.pi [0,5,6,7]⟩
  obtain⟨c66a,c66b⟩:=nq c66;clear c66
  replace H:=znif' H;rcases H with⟨c79,H⟩|⟨c79,H⟩
  ·
   obtain⟨c79a,c79b⟩:=nq c79;clear c79
   replace H:=zbind H;obtain⟨t89,ht89,H⟩:=H
   obtain⟨rfl,rfl⟩:=zsome2 H
   go_wp2_with (first|((with_reducible refine gd 62 rfl ?_);refine ev_cl3 HS (spec_Signed.calls ht89.out (HS.rd 3 rfl) m13 (C_nil _ _) (Nat.le_refl 0) (C_nil _ _) (Nat.le_refl 0)) Tryz.func130 ?_;clear HS;intro v90 v91 v92 wt89 HS F;obtain⟨B90,d90,rfl,m90⟩:=HS.form 4 rfl;obtain⟨B91,d91,rfl,m91⟩:=HS.form 5 rfl;obtain⟨B92,d92,rfl,m92⟩:=HS.form 6 rfl)|((with_reducible refine gate_store (p:=14) rfl ?_);refine ev_st 1 0 HS (seg:=[.int .i64 t89.f0,.string t89.f1,.string t89.f2,.int .i64 t89.f3,.int .i64 t89.f4,.string t89.f5,.bool t89.f6,.int .i64 t89.f7,.int .i64 t89.f8,.slice B90 t89.f9.length d90,.slice B91 t89.f10.length d91,.slice B92 t89.f11.length d92,.string t89.f12]) ?_;clear HS;intro w94 HS F))
   exact rc 1 HS Tryz.underlying125 ⟨_,_,_,rfl,HS.pi [0,4,5,6]⟩
  obtain⟨c79a,c79b⟩:=bq c79;clear c79
  replace H:=zbind H;obtain⟨t82,ht82,H⟩:=H
  obtain⟨rfl,rfl⟩:=zsome2 H
  go_wp2_with (first|((with_reducible refine gate_store (p:=59) rfl ?_);refine ev_st 2 6 HS (seg:=[.bool (!a6)]) ?_;clear HS;intro w80 HS F)|((with_reducible refine gd 62 rfl ?_);refine ev_cl3 HS (spec_Signed.calls ht82.out (HS.rd 3 rfl) m13 (C_nil _ _) (Nat.le_refl 0) (C_nil _ _) (Nat.le_refl 0)) Tryz.func130 ?_;clear HS;intro v83 v84 v85 wt82 HS F;obtain⟨B83,d83,rfl,m83⟩:=HS.form 4 rfl;obtain⟨B84,d84,rfl,m84⟩:=HS.form 5 rfl;obtain⟨B85,d85,rfl,m85⟩:=HS.form 6 rfl)|((with_reducible refine gate_store (p:=14) rfl ?_);refine ev_st 1 0 HS (seg:=[.int .i64 t82.f0,.string t82.f1,.string t82.f2,.int .i64 t82.f3,.int .i64 t82.f4,.string t82.f5,.bool t82.f6,.int .i64 t82.f7,.int .i64 t82.f8,.slice B83 t82.f9.length d83,.slice B84 t82.f10.length d84,.slice B85 t82.f11.length d85,.string t82.f12]) ?_;clear HS;intro w87 HS F))
  exact rc 1 HS Tryz.underlying125 ⟨_,_,_,rfl,HS.pi [0,4,5,6]⟩
 (try simp only [c11,dcn])
 replace H:=zbind H;obtain⟨t100,ht100,H⟩:=H
 go_upto_if 32 with(first|((with_reducible refine gd 28 rfl ?_);refine ev_li (Zd.int .i64) [] ([1,2]:List Int) ([.int .i64 1]++([.int .i64 2]++ [])) HS (MadeL.cons (js1:=[]) (c:=[.int .i64 1]) rfl (made_flat (fun _=>rfl)) (MadeL.cons (js1:=[]) (c:=[.int .i64 2]) rfl (made_flat (fun _=>rfl)) MadeL.nil (by decide)) (by decide)) ?_;clear HS;intro v96 w96 HS F;obtain⟨B96,d96,rfl,m96⟩:=HS.formn 2 3 rfl rfl)|((with_reducible refine gate_store (p:=29) rfl ?_);refine ev_st 2 9 HS (seg:=[.slice B96 2 d96]) ?_;clear HS;intro w98 HS F)|((with_reducible refine gd 31 rfl ?_);refine ev_lb [0] HS (fun _ HL HA=>spec_l01Below_0.calls ht100.out gp1 lp1 (hV.lend HS HL) HA) Tryz.func45 ?_;clear HS;intro wt100 HS F))
 replace H:=zif' H;rcases H with⟨c102,H⟩|⟨c102,H⟩
 ·
  obtain⟨c102a,c102b⟩:=bq c102;clear c102
  (try simp only [c102a,c102b,dcn])
  replace H:=zbind H;obtain⟨t105,ht105,H⟩:=H
  obtain⟨rfl,rfl⟩:=zsome2 H
  go_wp2_with (first|((with_reducible refine gate_store (p:=34) rfl ?_);refine ev_st 2 4 HS (seg:=[.int .i64 40]) ?_;clear HS;intro w103 HS F)|((with_reducible refine gd 62 rfl ?_);refine ev_cl3 HS (spec_Signed.calls ht105.out (HS.rd 3 rfl) m96 (C_nil _ _) (Nat.le_refl 0) (C_nil _ _) (Nat.le_refl 0)) Tryz.func130 ?_;clear HS;intro v106 v107 v108 wt105 HS F;obtain⟨B106,d106,rfl,m106⟩:=HS.form 4 rfl;obtain⟨B107,d107,rfl,m107⟩:=HS.form 5 rfl;obtain⟨B108,d108,rfl,m108⟩:=HS.form 6 rfl)|((with_reducible refine gate_store (p:=14) rfl ?_);refine ev_st 1 0 HS (seg:=[.int .i64 t105.f0,.string t105.f1,.string t105.f2,.int .i64 t105.f3,.int .i64 t105.f4,.string t105.f5,.bool t105.f6,.int .i64 t105.f7,.int .i64 t105.f8,.slice B106 t105.f9.length d106,.slice B107 t105.f10.length d107,.slice B108 t105.f11.length d108,.string t105.f12]) ?_;clear HS;intro w110 HS F))
  exact rc 1 HS Tryz.underlying125 ⟨_,_,_,rfl,HS.pi [0,4,5,6]⟩
 obtain⟨c102a,c102b⟩:=nq c102;clear c102
 (try simp only [c102a,c102b,dcn])
 replace H:=zif' H;rcases H with⟨c112,H⟩|⟨c112,H⟩
 ·
  obtain⟨c112a,c112b⟩:=bq c112;clear c112
  replace H:=zbind H;obtain⟨t113,ht113,H⟩:=H
  replace H:=zbind H;obtain⟨t117,ht117,H⟩:=H
  obtain⟨rfl,rfl⟩:=zsome2 H
  go_wp2_with (first|((with_reducible refine gd 38 rfl ?_);refine ev_lb [0] HS (fun _ HL HA=>spec_l01Below_0.calls ht113.out gp1 lp1 (hV.lend HS HL) HA) Tryz.func45 ?_;clear HS;intro wt113 HS F)|((with_reducible refine gate_store (p:=39) rfl ?_);refine ev_st 2 7 HS (seg:=[.int .i64 t113.1]) ?_;clear HS;intro w115 HS F)|((with_reducible refine gd 62 rfl ?_);refine ev_cl3 HS (spec_Signed.calls ht117.out (HS.rd 3 rfl) m96 (C_nil _ _) (Nat.le_refl 0) (C_nil _ _) (Nat.le_refl 0)) Tryz.func130 ?_;clear HS;intro v118 v119 v120 wt117 HS F;obtain⟨B118,d118,rfl,m118⟩:=HS.form 4 rfl;obtain⟨B119,d119,rfl,m119⟩:=HS.form 5 rfl;obtain⟨B120,d120,rfl,m120⟩:=HS.form 6 rfl)|((with_reducible refine gate_store (p:=14) rfl ?_);refine ev_st 1 0 HS (seg:=[.int .i64 t117.f0,.string t117.f1,.string t117.f2,.int .i64 t117.f3,.int .i64 t117.f4,.string t117.f5,.bool t117.f6,.int .i64 t117.f7,.int .i64 t117.f8,.slice B118 t117.f9.length d118,.slice B119 t117.f10.length d119,.slice B120 t117.f11.length d120,.string t117.f12]) ?_;clear HS;intro w122 HS F))
  exact rc 1 HS Tryz.underlying125 ⟨_,_,_,rfl,HS.pi [0,4,5,6]⟩
 obtain⟨c112a,c112b⟩:=nq c112;clear c112
 replace H:=zif' H;rcases H with⟨c124,H⟩|⟨c124,H⟩
 ·
  obtain⟨c124a,c124b⟩:=bq c124;clear c124
  replace H:=zbind H;obtain⟨t125,ht125,H⟩:=H
  replace H:=zbind H;obtain⟨t129,ht129,H⟩:=H
  obtain⟨rfl,rfl⟩:=zsome2 H
  go_wp2_with (first|((with_reducible refine gd 43 rfl ?_);refine ev_lb [0] HS (fun _ HL HA=>spec_l01Below_0.calls ht125.out gp1 lp1 (hV.lend HS HL) HA) Tryz.func45 ?_;clear HS;intro wt125 HS F)|((with_reducible refine gate_store (p:=44) rfl ?_);refine ev_st 2 8 HS (seg:=[.int .i64 t125.1]) ?_;clear HS;intro w127 HS F)|((with_reducible refine gd 62 rfl ?_);refine ev_cl3 HS (spec_Signed.calls ht129.out (HS.rd 3 rfl) m96 (C_nil _ _) (Nat.le_refl 0) (C_nil _ _) (Nat.le_refl 0)) Tryz.func130 ?_;clear HS;intro v130 v131 v132 wt129 HS F;obtain⟨B130,d130,rfl,m130⟩:=HS.form 4 rfl;obtain⟨B131,d131,rfl,m131⟩:=HS.form 5 rfl;obtain⟨B132,d132,rfl,m132⟩:=HS.form 6 rfl)|((with_reducible refine gate_store (p:=14) rfl ?_);refine ev_st 1 0 HS (seg:=[.int .i64 t129.f0,.string t129.f1,.string t129.f2,.int .i64 t129.f3,.int .i64 t129.f4,.string t129.f5,.bool t129.f6,.int .i64 t129.f7,.int .i64 t129.f8,.slice B130 t129.f9.length d130,.slice B131 t129.f10.length d131,.slice B132 t129.f11.length d132,.string t129.f12]) ?_;clear HS;intro w134 HS F))
  exact rc 1 HS Tryz.underlying125 ⟨_,_,_,rfl,HS.pi [0,4,5,6]⟩
 obtain⟨c124a,c124b⟩:=nq c124;clear c124
 replace H:=zif' H;rcases H with⟨c136,H⟩|⟨c136,H⟩
 ·
  obtain⟨c136a,c136b⟩:=bq c136;clear c136
  replace H:=zbind H;obtain⟨t137,ht137,H⟩:=H
  replace H:=zbind H;obtain⟨t142,ht142,H⟩:=H
  obtain⟨rfl,rfl⟩:=zsome2 H
  go_wp2_with (first|((with_reducible refine gd 48 rfl ?_);refine ev_lb1 [0] HS (fun _ HL HA=>spec_l08Names_0.calls ht137.out gp1 lp1 (hV.lend HS HL) HA) Tryz.func129 ?_;clear HS;intro v138 wt137 HS F;obtain⟨B138,d138,rfl,m138⟩:=HS.form 4 rfl;(try simp only [hpn,hpm] at HS);have F:=HS.bx)|((with_reducible refine gate_store (p:=49) rfl ?_);refine ev_st 2 10 HS (seg:=[.slice B138 t137.1.length d138]) ?_;clear HS;intro w140 HS F)|((with_reducible refine gd 62 rfl ?_);refine ev_cl3 HS (spec_Signed.calls ht142.out (HS.rd 3 rfl) m96 (HS.rd 4 rfl) m138 (C_nil _ _) (Nat.le_refl 0)) Tryz.func130 ?_;clear HS;intro v143 v144 v145 wt142 HS F;obtain⟨B143,d143,rfl,m143⟩:=HS.form 5 rfl;obtain⟨B144,d144,rfl,m144⟩:=HS.form 6 rfl;obtain⟨B145,d145,rfl,m145⟩:=HS.form 7 rfl)|((with_reducible refine gate_store (p:=14) rfl ?_);refine ev_st 1 0 HS (seg:=[.int .i64 t142.f0,.string t142.f1,.string t142.f2,.int .i64 t142.f3,.int .i64 t142.f4,.string t142.f5,.bool t142.f6,.int .i64 t142.f7,.int .i64 t142.f8,.slice B143 t142.f9.length d143,.slice B144 t142.f10.length d144,.slice B145 t142.f11.length d145,.string t142.f12]) ?_;clear HS;intro w147 HS F))
  exact rc 1 HS Tryz.underlying125 ⟨_,_,_,rfl,HS.pi [0,5,6,7]⟩
 obtain⟨c136a,c136b⟩:=nq c136;clear c136
 replace H:=zif' H;rcases H with⟨c149,H⟩|⟨c149,H⟩
 ·
  obtain⟨c149a,c149b⟩:=bq c149;clear c149
  replace H:=zbind H;obtain⟨t150,ht150,H⟩:=H
  replace H:=zbind H;obtain⟨t155,ht155,H⟩:=H
  obtain⟨rfl,rfl⟩:=zsome2 H
  go_wp2_with (first|((with_reducible refine gd 53 rfl ?_);refine ev_lb1 [0] HS (fun _ HL HA=>spec_l08Names_0.calls ht150.out gp1 lp1 (hV.lend HS HL) HA) Tryz.func129 ?_;clear HS;intro v151 wt150 HS F;obtain⟨B151,d151,rfl,m151⟩:=HS.form 4 rfl;(try simp only [hpn,hpm] at HS);have F:=HS.bx)|((with_reducible refine gate_store (p:=54) rfl ?_);refine ev_st 2 11 HS (seg:=[.slice B151 t150.1.length d151]) ?_;clear HS;intro w153 HS F)|((with_reducible refine gd 62 rfl ?_);refine ev_cl3 HS (spec_Signed.calls ht155.out (HS.rd 3 rfl) m96 (C_nil _ _) (Nat.le_refl 0) (HS.rd 4 rfl) m151) Tryz.func130 ?_;clear HS;intro v156 v157 v158 wt155 HS F;obtain⟨B156,d156,rfl,m156⟩:=HS.form 5 rfl;obtain⟨B157,d157,rfl,m157⟩:=HS.form 6 rfl;obtain⟨B158,d158,rfl,m158⟩:=HS.form 7 rfl)|((with_reducible refine gate_store (p:=14) rfl ?_);refine ev_st 1 0 HS (seg:=[.int .i64 t155.f0,.string t155.f1,.string t155.f2,.int .i64 t155.f3,.int .i64 t155.f4,.string t155.f5,.bool t155.f6,.int .i64 t155.f7,.int .i64 t155.f8,.slice B156 t155.f9.length d156,.slice B157 t155.f10.length d157,.slice B158 t155.f11.length d158,.string t155.f12]) ?_;clear HS;intro w160 HS F))
  exact rc 1 HS Tryz.underlying125 ⟨_,_,_,rfl,HS.pi [0,5,6,7]⟩
 obtain⟨c149a,c149b⟩:=nq c149;clear c149
 replace H:=znif' H;rcases H with⟨c162,H⟩|⟨c162,H⟩
 ·
  obtain⟨c162a,c162b⟩:=nq c162;clear c162
  replace H:=zbind H;obtain⟨t172,ht172,H⟩:=H
  obtain⟨rfl,rfl⟩:=zsome2 H
  go_wp2_with (first|((with_reducible refine gd 62 rfl ?_);refine ev_cl3 HS (spec_Signed.calls ht172.out (HS.rd 3 rfl) m96 (C_nil _ _) (Nat.le_refl 0) (C_nil _ _) (Nat.le_refl 0)) Tryz.func130 ?_;clear HS;intro v173 v174 v175 wt172 HS F;obtain⟨B173,d173,rfl,m173⟩:=HS.form 4 rfl;obtain⟨B174,d174,rfl,m174⟩:=HS.form 5 rfl;obtain⟨B175,d175,rfl,m175⟩:=HS.form 6 rfl)|((with_reducible refine gate_store (p:=14) rfl ?_);refine ev_st 1 0 HS (seg:=[.int .i64 t172.f0,.string t172.f1,.string t172.f2,.int .i64 t172.f3,.int .i64 t172.f4,.string t172.f5,.bool t172.f6,.int .i64 t172.f7,.int .i64 t172.f8,.slice B173 t172.f9.length d173,.slice B174 t172.f10.length d174,.slice B175 t172.f11.length d175,.string t172.f12]) ?_;clear HS;intro w177 HS F))
  exact rc 1 HS Tryz.underlying125 ⟨_,_,_,rfl,HS.pi [0,4,5,6]⟩
 obtain⟨c162a,c162b⟩:=bq c162;clear c162
 replace H:=zbind H;obtain⟨t165,ht165,H⟩:=H
 obtain⟨rfl,rfl⟩:=zsome2 H
 go_wp2_with (first|((with_reducible refine gate_store (p:=59) rfl ?_);refine ev_st 2 6 HS (seg:=[.bool (!a6)]) ?_;clear HS;intro w163 HS F)|((with_reducible refine gd 62 rfl ?_);refine ev_cl3 HS (spec_Signed.calls ht165.out (HS.rd 3 rfl) m96 (C_nil _ _) (Nat.le_refl 0) (C_nil _ _) (Nat.le_refl 0)) Tryz.func130 ?_;clear HS;intro v166 v167 v168 wt165 HS F;obtain⟨B166,d166,rfl,m166⟩:=HS.form 4 rfl;obtain⟨B167,d167,rfl,m167⟩:=HS.form 5 rfl;obtain⟨B168,d168,rfl,m168⟩:=HS.form 6 rfl)|((with_reducible refine gate_store (p:=14) rfl ?_);refine ev_st 1 0 HS (seg:=[.int .i64 t165.f0,.string t165.f1,.string t165.f2,.int .i64 t165.f3,.int .i64 t165.f4,.string t165.f5,.bool t165.f6,.int .i64 t165.f7,.int .i64 t165.f8,.slice B166 t165.f9.length d166,.slice B167 t165.f10.length d167,.slice B168 t165.f11.length d168,.string t165.f12]) ?_;clear HS;intro w170 HS F))
 exact rc 1 HS Tryz.underlying125 ⟨_,_,_,rfl,HS.pi [0,4,5,6]⟩
def spec_l13Target_0.f (k:Nat)(a0:S110):Option (S125×S110):=((spec_l01Once_0.f a0 2).bind fun t3=>(if t3.1=true then((spec_l09Made_0.f k (⟨a0.f0,t3.2.f1,t3.2.f2⟩:S110) 3 (⟨#[99,97,46,111,114,103]⟩:ByteArray) 1 (⟨#[108,101,97,102,46,99,97,46,111,114,103]⟩:ByteArray) 3 false).bind fun t6=>(some ((⟨t6.1.f0,t6.1.f1,t6.1.f2,t6.1.f3,t6.1.f4,t6.1.f5,t6.1.f6,t6.1.f7,t6.1.f8,t6.1.f9,t6.1.f10,t6.1.f11,t6.1.f12⟩:S125),(⟨a0.f0,t6.2.f1,t6.2.f2⟩:S110))))else((spec_l09Made_0.f k (⟨a0.f0,t3.2.f1,t3.2.f2⟩:S110) 4 (⟨#[115,117,98,46,99,97,46,111,114,103]⟩:ByteArray) 2 (⟨#[108,101,97,102,46,115,117,98,46,99,97,46,111,114,103]⟩:ByteArray) 3 false).bind fun t13=>(some ((⟨t13.1.f0,t13.1.f1,t13.1.f2,t13.1.f3,t13.1.f4,t13.1.f5,t13.1.f6,t13.1.f7,t13.1.f8,t13.1.f9,t13.1.f10,t13.1.f11,t13.1.f12⟩:S125),(⟨a0.f0,t13.2.f1,t13.2.f2⟩:S110))))))
theorem spec_l13Target_0.calls {k:Nat}{a0:S110}{A:FP}{p0:Nat}{Ap1:Option Addr}{np1 cp1:Nat}{wv:World}{r1:S125}{r2:S110}{w:World}(h:spec_l13Target_0.f k a0=some (r1,r2))(gp1:(Kd.int .u8).C wv Ap1 np1 a0.f0)(lp1:np1≤cp1)(hV:View A w wv)(HS:Hp A w w [.box p0 [.slice Ap1 np1 cp1,.int .i64 a0.f1,.int .i64 a0.f2] 110]):
    Calls Tryz.prog 100 #[.pointer (some ⟨p0,0,none⟩)] w (fun e w'=>∃v0_ v1_ v2_:Value,e=.returned (.agg #[.int .i64 r1.f0,.string r1.f1,.string r1.f2,.int .i64 r1.f3,.int .i64 r1.f4,.string r1.f5,.bool r1.f6,.int .i64 r1.f7,.int .i64 r1.f8,v0_,v1_,v2_,.string r1.f12])∧Hp A w w' [.box p0 [.slice Ap1 np1 cp1,.int .i64 r2.f1,.int .i64 r2.f2] 110,.own (Zd.slice 3 (Zd.int .i64)) r1.f9 [v0_],.own (Zd.slice 9 Zd.string) r1.f10 [v1_],.own (Zd.slice 9 Zd.string) r1.f11 [v2_]]):=by
 obtain rfl:=C_len gp1
 have H:=Aside0.mk h
 clear h
 unfold spec_l13Target_0.f at H
 go_enter Tryz.func100,Tryz.ntmps100
 have F:=HS.bx
 replace H:=zbind H;obtain⟨t3,ht3,H⟩:=H
 go_upto_if 4 with(first|((with_reducible refine gd 2 rfl ?_);refine ev_bx HS ?_;clear HS;intro g2 w2 HS F)|((with_reducible refine gd 4 rfl ?_);refine ev_lb [0] HS (fun _ HL HA=>spec_l01Once_0.calls ht3.out gp1 lp1 (hV.lend HS HL) HA) Tryz.func98 ?_;clear HS;intro wt3 HS F))
 replace H:=zifb H;rcases H with⟨c5,H⟩|⟨c5,H⟩
 ·
  (try simp only [c5,dcn])
  replace H:=zbind H;obtain⟨t6,ht6,H⟩:=H
  obtain⟨rfl,rfl⟩:=zsome2 H
  go_wp2_with (first|((with_reducible refine gd 6 rfl ?_);refine ev_lb3 [0] HS (fun _ HL HA=>spec_l09Made_0.calls ht6.out gp1 lp1 (hV.lend HS HL) HA) Tryz.func110 ?_;clear HS;intro v7 v8 v9 wt6 HS F;obtain⟨B7,d7,rfl,m7⟩:=HS.form 2 rfl;obtain⟨B8,d8,rfl,m8⟩:=HS.form 3 rfl;obtain⟨B9,d9,rfl,m9⟩:=HS.form 4 rfl;(try simp only [hpn,hpm] at HS);have F:=HS.bx)|((with_reducible refine gate_store (p:=2) rfl ?_);refine ev_st 1 0 HS (seg:=[.int .i64 t6.1.f0,.string t6.1.f1,.string t6.1.f2,.int .i64 t6.1.f3,.int .i64 t6.1.f4,.string t6.1.f5,.bool t6.1.f6,.int .i64 t6.1.f7,.int .i64 t6.1.f8,.slice B7 t6.1.f9.length d7,.slice B8 t6.1.f10.length d8,.slice B9 t6.1.f11.length d9,.string t6.1.f12]) ?_;clear HS;intro w11 HS F))
  exact rc 1 HS Tryz.underlying125 ⟨_,_,_,rfl,HS.pi [0,2,3,4]⟩
 (try simp only [c5,dcn])
 replace H:=zbind H;obtain⟨t13,ht13,H⟩:=H
 obtain⟨rfl,rfl⟩:=zsome2 H
 go_wp2_with (first|((with_reducible refine gd 8 rfl ?_);refine ev_lb3 [0] HS (fun _ HL HA=>spec_l09Made_0.calls ht13.out gp1 lp1 (hV.lend HS HL) HA) Tryz.func110 ?_;clear HS;intro v14 v15 v16 wt13 HS F;obtain⟨B14,d14,rfl,m14⟩:=HS.form 2 rfl;obtain⟨B15,d15,rfl,m15⟩:=HS.form 3 rfl;obtain⟨B16,d16,rfl,m16⟩:=HS.form 4 rfl;(try simp only [hpn,hpm] at HS);have F:=HS.bx)|((with_reducible refine gate_store (p:=2) rfl ?_);refine ev_st 1 0 HS (seg:=[.int .i64 t13.1.f0,.string t13.1.f1,.string t13.1.f2,.int .i64 t13.1.f3,.int .i64 t13.1.f4,.string t13.1.f5,.bool t13.1.f6,.int .i64 t13.1.f7,.int .i64 t13.1.f8,.slice B14 t13.1.f9.length d14,.slice B15 t13.1.f10.length d15,.slice B16 t13.1.f11.length d16,.string t13.1.f12]) ?_;clear HS;intro w18 HS F))
 exact rc 1 HS Tryz.underlying125 ⟨_,_,_,rfl,HS.pi [0,2,3,4]⟩
mutual
def spec_l01Text_0.l0:Nat→(List Int)→Int→Int→Int→S110→Option (ByteArray×S110)
  |0,_,_,_,_,_=>none
  |k+1,l39,x41,x42,x43,a0=>(if x41<5000 then((spec_l01Byte_0.f (⟨a0.f0,x42,x43⟩:S110)).bind fun t46=>(if l39.length+1≤140737488355328 then(lets (l39++([(t46.1 % 256)]:List Int)) fun y51=>(spec_l01Text_0.l0 k y51 (wrap64 (x41+1)) t46.2.f1 t46.2.f2 a0))else none))else(some ((strOfNums l39),(⟨a0.f0,x42,x43⟩:S110))))
def spec_l01Text_0.l1:Nat→(List Int)→Int→Int→Int→S110→Int→Option (ByteArray×S110)
  |0,_,_,_,_,_,_=>none
  |k+1,l90,x92,x93,x94,a0,a1=>(if x92<a1 then((spec_l01Byte_0.f (⟨a0.f0,x93,x94⟩:S110)).bind fun t97=>(if l90.length+1≤140737488355328 then(lets (l90++([(t97.1 % 256)]:List Int)) fun y102=>(spec_l01Text_0.l1 k y102 (wrap64 (x92+1)) t97.2.f1 t97.2.f2 a0 a1))else none))else(some ((strOfNums l90),(⟨a0.f0,x93,x94⟩:S110))))
end
def spec_l01Text_0.f (k:Nat)(a0:S110)(a1:Int):Option (ByteArray×S110):=(if 5000<a1 then(spec_l01Text_0.l0 k ([]:List Int) 0 a0.f1 a0.f2 a0)else(spec_l01Text_0.l1 k ([]:List Int) 0 a0.f1 a0.f2 a0 a1))
theorem spec_l01Text_0.calls {k:Nat}{a0:S110}{a1:Int}{A:FP}{p0:Nat}{Ap1:Option Addr}{np1 cp1:Nat}{wv:World}{r1:ByteArray}{r2:S110}{w:World}(h:spec_l01Text_0.f k a0 a1=some (r1,r2))(gp1:(Kd.int .u8).C wv Ap1 np1 a0.f0)(lp1:np1≤cp1)(hV:View A w wv)(HS:Hp A w w [.box p0 [.slice Ap1 np1 cp1,.int .i64 a0.f1,.int .i64 a0.f2] 110]):
    Calls Tryz.prog 80 #[.pointer (some ⟨p0,0,none⟩),.int .i64 a1] w (fun e w'=>e=.returned (.string r1)∧Hp A w w' [.box p0 [.slice Ap1 np1 cp1,.int .i64 r2.f1,.int .i64 r2.f2] 110]):=by
 obtain rfl:=C_len gp1
 have H:=Aside0.mk h
 clear h
 unfold spec_l01Text_0.f at H
 go_enter Tryz.func80,Tryz.ntmps80
 have F:=HS.bx
 replace H:=zif H;rcases H with⟨c1,H⟩|⟨c1,H⟩
 ·
  go_wp2_with ((with_reducible refine gd 9 rfl ?_);refine ev_li (Zd.int .u8) [] ([]:List Int) [] HS MadeL.nil ?_;clear HS;intro v2 w2 HS F;obtain⟨B2,d2,rfl,m2⟩:=HS.formn 0 1 rfl rfl)
  go_loopg [5,6] k (fun kq v_5 v_6 w'=>∃(l39:List Int) (v40:Value) (x41:Int) (x42:Int) (x43:Int),v_5=v40∧v_6=.int .i64 x41∧Aside0 (spec_l01Text_0.l0 kq l39 x41 x42 x43 a0=some (r1,r2))∧Aside0 (kq≤k)∧Hp A w w' [.box p0 [.slice Ap1 a0.f0.length cp1,.int .i64 x42,.int .i64 x43] 110,.own (Zd.slice 5 (Zd.int .u8)) l39 [v40]])
  case atStart=>exact⟨_,_,_,_,_,rfl,rfl,H,⟨Nat.le_refl _⟩,HS⟩
  case round=>
   clear HS H;(try clear F)
   obtain⟨l39,v40,x41,x42,x43,rfl,rfl,H,HKk38,HS⟩:=hrel
   obtain⟨B40,d40,rfl,m40⟩:=HS.form 1 rfl
   have F:=HS.bx
   cases gk with
   |zero=>exact absurd H.out (by simp [spec_l01Text_0.l0])
   | succ k38=>
    simp only [spec_l01Text_0.l0] at H
    replace H:=znif H;rcases H with⟨c45,H⟩|⟨c45,H⟩
    ·
     obtain⟨rfl,rfl⟩:=zsome2 H
     go_wp2_with ((with_reducible refine gd 22 rfl ?_);refine ev_val rfl (run_str rfl rfl Tryz.underlying22 Tryz.underlying5 Tryz.underlying9 (HS.rd 1 rfl)) ?_)
     go_ret
     exact⟨rfl,HS.pi [0]⟩
    replace H:=zbind H;obtain⟨t46,ht46,H⟩:=H
    replace H:=zgo H;obtain⟨c50,H⟩:=H
    replace H:=zlets H;obtain⟨y51,e_y51,H⟩:=H
    go_wp2_with (first|((with_reducible refine gd 17 rfl ?_);refine ev_lb [0] HS (fun _ HL HA=>spec_l01Byte_0.calls ht46.out gp1 lp1 (hV.lend HS HL) HA) Tryz.func79 ?_;clear HS;intro wt46 HS F)|((with_reducible refine gd 19 rfl ?_);refine ev_li (Zd.int .u8) [] ([(t46.1 % 256)]:List Int) ([.int .u8 (t46.1 % 256)]++ []) HS (MadeL.cons (js1:=[]) (c:=[.int .u8 (t46.1 % 256)]) rfl (made_flat (fun _=>rfl)) MadeL.nil (by decide)) ?_;clear HS;intro v48 w48 HS F;obtain⟨B48,d48,rfl,m48⟩:=HS.formn 1 2 rfl rfl)|((with_reducible refine gd 20 rfl ?_);refine ev_ap (Zd.int .u8) 1 2 HS rfl rfl Tryz.underlying22 info5 (of_eq_true c50) ?_;clear HS;intro v51 w51 HS;rw [←e_y51.out] at HS;obtain⟨B51,d51,rfl,m51⟩:=HS.form 3 rfl;(try simp only [hpn,hpm] at HS);have F:=HS.bx))
    go_roundg k38
    case measure=>have:=HKk38.out;omega
    case rel=>exact⟨_,_,_,_,_,rfl,rfl,H,⟨by have:=HKk38.out;omega⟩,HS.pi [0,3]⟩
 go_wp2_with ((with_reducible refine gd 9 rfl ?_);refine ev_li (Zd.int .u8) [] ([]:List Int) [] HS MadeL.nil ?_;clear HS;intro v53 w53 HS F;obtain⟨B53,d53,rfl,m53⟩:=HS.formn 0 1 rfl rfl)
 go_loopg [5,6] k (fun kq v_5 v_6 w'=>∃(l90:List Int) (v91:Value) (x92:Int) (x93:Int) (x94:Int),v_5=v91∧v_6=.int .i64 x92∧Aside0 (spec_l01Text_0.l1 kq l90 x92 x93 x94 a0 a1=some (r1,r2))∧Aside0 (kq≤k)∧Hp A w w' [.box p0 [.slice Ap1 a0.f0.length cp1,.int .i64 x93,.int .i64 x94] 110,.own (Zd.slice 5 (Zd.int .u8)) l90 [v91]])
 case atStart=>exact⟨_,_,_,_,_,rfl,rfl,H,⟨Nat.le_refl _⟩,HS⟩
 case round=>
  clear HS H;(try clear F)
  obtain⟨l90,v91,x92,x93,x94,rfl,rfl,H,HKk89,HS⟩:=hrel
  obtain⟨B91,d91,rfl,m91⟩:=HS.form 1 rfl
  have F:=HS.bx
  cases gk with
  |zero=>exact absurd H.out (by simp [spec_l01Text_0.l1])
  | succ k89=>
   simp only [spec_l01Text_0.l1] at H
   replace H:=znif H;rcases H with⟨c96,H⟩|⟨c96,H⟩
   ·
    obtain⟨rfl,rfl⟩:=zsome2 H
    go_wp2_with ((with_reducible refine gd 22 rfl ?_);refine ev_val rfl (run_str rfl rfl Tryz.underlying22 Tryz.underlying5 Tryz.underlying9 (HS.rd 1 rfl)) ?_)
    go_ret
    exact⟨rfl,HS.pi [0]⟩
   replace H:=zbind H;obtain⟨t97,ht97,H⟩:=H
   replace H:=zgo H;obtain⟨c101,H⟩:=H
   replace H:=zlets H;obtain⟨y102,e_y102,H⟩:=H
   go_wp2_with (first|((with_reducible refine gd 17 rfl ?_);refine ev_lb [0] HS (fun _ HL HA=>spec_l01Byte_0.calls ht97.out gp1 lp1 (hV.lend HS HL) HA) Tryz.func79 ?_;clear HS;intro wt97 HS F)|((with_reducible refine gd 19 rfl ?_);refine ev_li (Zd.int .u8) [] ([(t97.1 % 256)]:List Int) ([.int .u8 (t97.1 % 256)]++ []) HS (MadeL.cons (js1:=[]) (c:=[.int .u8 (t97.1 % 256)]) rfl (made_flat (fun _=>rfl)) MadeL.nil (by decide)) ?_;clear HS;intro v99 w99 HS F;obtain⟨B99,d99,rfl,m99⟩:=HS.formn 1 2 rfl rfl)|((with_reducible refine gd 20 rfl ?_);refine ev_ap (Zd.int .u8) 1 2 HS rfl rfl Tryz.underlying22 info5 (of_eq_true c101) ?_;clear HS;intro v102 w102 HS;rw [←e_y102.out] at HS;obtain⟨B102,d102,rfl,m102⟩:=HS.form 3 rfl;(try simp only [hpn,hpm] at HS);have F:=HS.bx))
   go_roundg k89
   case measure=>have:=HKk89.out;omega
   case rel=>exact⟨_,_,_,_,_,rfl,rfl,H,⟨by have:=HKk89.out;omega⟩,HS.pi [0,3]⟩
def spec_l01PickInt_0.f (a0:S110)(a1:(List Int)):Option (Int×S110):=((spec_l01Below_0.f a0 (a1.length:Int)).bind fun t1=>(if 0≤t1.1 then(if t1.1<(a1.length:Int)then(some ((rd a1 t1.1),(⟨a0.f0,t1.2.f1,t1.2.f2⟩:S110)))else none)else none))
theorem spec_l01PickInt_0.calls {a0:S110}{a1:(List Int)}{A:FP}{p0:Nat}{Ap1 Ap2:Option Addr}{np1 cp1 np2 cp2:Nat}{wv:World}{r1:Int}{r2:S110}{w:World}(h:spec_l01PickInt_0.f a0 a1=some (r1,r2))(gp1:(Kd.int .u8).C wv Ap1 np1 a0.f0)(lp1:np1≤cp1)(gp2:(Kd.int .i64).C wv Ap2 np2 a1)(lp2:np2≤cp2)(hV:View A w wv)(HS:Hp A w w [.box p0 [.slice Ap1 np1 cp1,.int .i64 a0.f1,.int .i64 a0.f2] 110]):
    Calls Tryz.prog 97 #[.pointer (some ⟨p0,0,none⟩),.slice Ap2 np2 cp2] w (fun e w'=>e=.returned (.int .i64 r1)∧Hp A w w' [.box p0 [.slice Ap1 np1 cp1,.int .i64 r2.f1,.int .i64 r2.f2] 110]):=by
 obtain rfl:=C_len gp1
 obtain rfl:=C_len gp2
 have H:=Aside0.mk h
 clear h
 unfold spec_l01PickInt_0.f at H
 go_enter Tryz.func97,Tryz.ntmps97
 have F:=HS.bx
 replace H:=zbind H;obtain⟨t1,ht1,H⟩:=H
 replace H:=zgo H;obtain⟨c3,H⟩:=H
 replace H:=zgo H;obtain⟨c4,H⟩:=H
 obtain⟨rfl,rfl⟩:=zsome2 H
 go_wp2_with ((with_reducible refine gd 9 rfl ?_);refine ev_lb [0] HS (fun _ HL HA=>spec_l01Below_0.calls ht1.out gp1 lp1 (hV.lend HS HL) HA) Tryz.func45 ?_;clear HS;intro wt1 HS F;obtain⟨ad5,rfl,e5_0⟩:=Kd.at_int gp2 t1.1 (of_eq_true c3) (of_eq_true c4);have e5_0_5:=(hV.keepc HS e5_0))
 go_ret
 exact⟨rfl,HS.pi [0]⟩
def spec_NameOk.l0:Nat→Int→Int→ByteArray→Option (Bool)
  |0,_,_,_=>none
  |k+1,x14,x15,a0=>(if x15<(a0.size:Int)then(if 0≤x15 then(if x15<(a0.size:Int)then(if 97≤(bt a0 x15)then(if(bt a0 x15)≤122 then(spec_NameOk.l0 k (wrap64 (x14+1)) (wrap64 (x15+1)) a0)else(if(bt a0 x15)=46 then(if 0<x14 then(spec_NameOk.l0 k 0 (wrap64 (x15+1)) a0)else(some false))else(some false)))else(if(bt a0 x15)=46 then(if 0<x14 then(spec_NameOk.l0 k 0 (wrap64 (x15+1)) a0)else(some false))else(some false)))else none)else none)else((spec_l01In.f (a0.size:Int) 1 20).bind fun t30=>(if t30=true then(some (decide (0<x14)))else(some false))))
def spec_NameOk.f (k:Nat)(a0:ByteArray):Option (Bool):=(spec_NameOk.l0 k 0 0 a0)
theorem spec_NameOk.calls {k:Nat}{a0:ByteArray}{r:Bool}{w:World}(h:spec_NameOk.f k a0=some r):
    Calls Tryz.prog 136 #[.string a0] w (fun e w'=>e=.returned (.bool r)∧Hp noFP w w' []):=by
 have HS:=Hp.start w
 have H:=Aside0.mk h
 clear h
 unfold spec_NameOk.f at H
 go_enter Tryz.func136,Tryz.ntmps136
 go_wp2
 go_loopg [3,4] k (fun kq v_3 v_4 w'=>∃(x14:Int) (x15:Int),v_3=.int .i64 x14∧v_4=.int .i64 x15∧Aside0 (spec_NameOk.l0 kq x14 x15 a0=some r)∧Aside0 (kq≤k)∧Hp noFP w w' [])
 case atStart=>exact⟨_,_,rfl,rfl,H,⟨Nat.le_refl _⟩,HS⟩
 case round=>
  clear HS H;(try clear F)
  obtain⟨x14,x15,rfl,rfl,H,HKk13,HS⟩:=hrel
  cases gk with
  |zero=>exact absurd H.out (by simp [spec_NameOk.l0])
  | succ k13=>
   simp only [spec_NameOk.l0] at H
   replace H:=znif H;rcases H with⟨c17,H⟩|⟨c17,H⟩
   ·
    replace H:=zbind H;obtain⟨t30,ht30,H⟩:=H
    replace H:=zifb H;rcases H with⟨c32,H⟩|⟨c32,H⟩
    ·
     subst c32
     obtain rfl:=zsome H
     go_wp2_with ((with_reducible refine gd 35 rfl ?_);refine ev_cl HS (spec_l01In.calls ht30.out) Tryz.func54 ?_;clear HS;intro wt30 HS F)
     go_ret
     exact HS.pk
    subst c32
    obtain rfl:=zsome H
    go_wp2_with ((with_reducible refine gd 35 rfl ?_);refine ev_cl HS (spec_l01In.calls ht30.out) Tryz.func54 ?_;clear HS;intro wt30 HS F)
    go_ret
    exact HS.pk
   replace H:=zgo H;obtain⟨c18,H⟩:=H
   replace H:=zgo H;obtain⟨c19,H⟩:=H
   have hx20:=bt_at a0 x15
   replace H:=znif H;rcases H with⟨c21,H⟩|⟨c21,H⟩
   ·
    have hx27:=bt_at a0 x15
    replace H:=znif' H;rcases H with⟨c28,H⟩|⟨c28,H⟩
    ·
     obtain⟨c28a,c28b⟩:=nq c28;clear c28
     obtain rfl:=zsome H
     go_wp2
     go_ret
     exact HS.pk
    obtain⟨c28a,c28b⟩:=bq c28;clear c28
    replace H:=znif H;rcases H with⟨c29,H⟩|⟨c29,H⟩
    ·
     obtain rfl:=zsome H
     go_wp2
     go_ret
     exact HS.pk
    go_wp2
    go_roundg k13
    case measure=>have:=HKk13.out;omega
    case rel=>exact⟨_,_,rfl,rfl,H,⟨by have:=HKk13.out;omega⟩,HS.pi []⟩
   have hx22:=bt_at a0 x15
   replace H:=zif H;rcases H with⟨c23,H⟩|⟨c23,H⟩
   ·
    go_wp2
    go_roundg k13
    case measure=>have:=HKk13.out;omega
    case rel=>exact⟨_,_,rfl,rfl,H,⟨by have:=HKk13.out;omega⟩,HS.pi []⟩
   have hx24:=bt_at a0 x15
   replace H:=znif' H;rcases H with⟨c25,H⟩|⟨c25,H⟩
   ·
    obtain⟨c25a,c25b⟩:=nq c25;clear c25
    obtain rfl:=zsome H
    go_wp2
    go_ret
    exact HS.pk
   obtain⟨c25a,c25b⟩:=bq c25;clear c25
   replace H:=znif H;rcases H with⟨c26,H⟩|⟨c26,H⟩
   ·
    obtain rfl:=zsome H
    go_wp2
    go_ret
    exact HS.pk
   go_wp2
   go_roundg k13
   case measure=>have:=HKk13.out;omega
   case rel=>exact⟨_,_,rfl,rfl,H,⟨by have:=HKk13.out;omega⟩,HS.pi []⟩
def spec_NamesOk.l0:Nat→Int→(List ByteArray)→Option (Bool)
  |0,_,_=>none
  |k+1,x4,a0=>(if x4<(a0.length:Int)then(if 0≤x4 then(if x4<(a0.length:Int)then((spec_NameOk.f k (rdOf ByteArray.empty a0 x4)).bind fun t12=>(if t12=true then(if 0<x4 then(if 0≤(wrap64 (x4 - 1))then(if(wrap64 (x4 - 1))<(a0.length:Int)then(if(Op.bytesLess ((rdOf ByteArray.empty a0 (wrap64 (x4 - 1))).toList) ((rdOf ByteArray.empty a0 x4).toList))=true then(spec_NamesOk.l0 k (wrap64 (x4+1)) a0)else(some false))else none)else none)else(spec_NamesOk.l0 k (wrap64 (x4+1)) a0))else(some false)))else none)else none)else(some (decide ((a0.length:Int)≤4))))
def spec_NamesOk.f (k:Nat)(a0:(List ByteArray)):Option (Bool):=(spec_NamesOk.l0 k 0 a0)
def spec_NamesOk.T4:TT:=(true,[([],[]),([],[]),([0,1],[0,1]),([2],[2]),([3],[3]),([4],[4]),([5,4],[5]),([6],[6]),([7,6],[6,7]),([8,6,6],[6,8]),([9],[9]),([9],[9]),([11,9],[9,11]),([10,12,9],[9,10,12]),([13,9],[9,13]),([9],[9]),([9],[9]),([15,16,9],[9,15,16]),([17,9],[9,17]),([14,18,9],[9,14,18]),([9,19,6],[6,9,19]),([6,20],[6,20])])
theorem spec_NamesOk.tT4:rtab .any (opsOf Tryz.f137 4)=spec_NamesOk.T4:=by kernel_rfl
theorem spec_NamesOk.calls {k:Nat}{a0:(List ByteArray)}{Ap0:Option Addr}{np0 cp0:Nat}{r:Bool}{w:World}(h:spec_NamesOk.f k a0=some r)(gp0:Kd.string.C w Ap0 np0 a0)(lp0:np0≤cp0):
    Calls Tryz.prog 137 #[.slice Ap0 np0 cp0] w (fun e w'=>e=.returned (.bool r)∧Hp noFP w w' []):=by
 obtain rfl:=C_len gp0
 have HS:=Hp.start w
 have H:=Aside0.mk h
 clear h
 unfold spec_NamesOk.f at H
 go_enter Tryz.func137,Tryz.ntmps137
 go_wp2
 go_loopg [3] k (fun kq v_3 w'=>∃(x4:Int),v_3=.int .i64 x4∧Aside0 (spec_NamesOk.l0 kq x4 a0=some r)∧Aside0 (kq≤k)∧Hp noFP w w' [])
 case atStart=>exact⟨_,rfl,H,⟨Nat.le_refl _⟩,HS⟩
 case round=>
  clear HS H;(try clear F)
  obtain⟨x4,rfl,H,HKk3,HS⟩:=hrel
  cases gk with
  |zero=>exact absurd H.out (by simp [spec_NamesOk.l0])
  | succ k3=>
   simp only [spec_NamesOk.l0] at H
   replace H:=znif H;rcases H with⟨c6,H⟩|⟨c6,H⟩
   ·
    obtain rfl:=zsome H
    go_wp2
    go_ret
    exact HS.pk
   (try go_wp2)
   replace H:=zgo H;obtain⟨c5,H⟩:=H
   replace H:=zgo H;obtain⟨c7,H⟩:=H
   obtain⟨ad9,rfl,e9_0⟩:=Kd.at_string gp0 x4 (of_eq_true c5) (of_eq_true c7)
   replace H:=zbind H;obtain⟨t12,ht12,H⟩:=H
   replace H:=znifb H;rcases H with⟨c14,H⟩|⟨c14,H⟩
   ·
    subst c14
    refine dr_start [] HS #[false,false,false,false,false,false,false,false,false,false,false,false,false,false,false,false,false,false,false,false,false,false] (by kernel_rfl) rfl rfl spec_NamesOk.tT4 (fun w13 HT HS HH=>?_)
    (try clear F)
    refine dq [0,1,2] HT ?_
    refine dtk 3 13 HT HH rfl (by rintro w' ⟨rs',HS'⟩;have e9_0:=HS'.keepc e9_0;go_simp;with_reducible rfl) ?_
    refine dr1 4 HT fun K hK=>?_
    refine go_cl HS (spec_NameOk.calls ht12.out) Tryz.func136 ?_;clear HS;intro wt12 HS F
    refine nrm 14 hK ⟨_,HS⟩ fun HH=>?_;clear hK K
    refine dqo [5,6,7,8,9,10,11,12,13,14,15,16,17,18,19,20,21] HT ?_
    refine dn HT ?_
    obtain rfl:=zsome H
    go_wp2
    go_ret
    exact HS.pk
   subst c14
   replace H:=znif H;rcases H with⟨c15,H⟩|⟨c15,H⟩
   ·
    refine dr_start [] HS #[false,false,false,false,false,false,false,false,false,false,false,false,false,false,false,false,false,false,false,false,false,false] (by kernel_rfl) rfl rfl spec_NamesOk.tT4 (fun w11 HT HS HH=>?_)
    (try clear F)
    refine dq [0,1,2] HT ?_
    refine dtk 3 13 HT HH rfl (by rintro w' ⟨rs',HS'⟩;have e9_0:=HS'.keepc e9_0;go_simp;with_reducible rfl) ?_
    refine dr1 4 HT fun K hK=>?_
    refine go_cl HS (spec_NameOk.calls ht12.out) Tryz.func136 ?_;clear HS;intro wt12 HS F
    refine nrm 14 hK ⟨_,HS⟩ fun HH=>?_;clear hK K
    refine dqo [5,6,7,8,9,10,11,12,13,14,15,16,17,18,19,20,21] HT ?_
    refine dn HT ?_
    go_wp2
    go_roundg k3
    case measure=>have:=HKk3.out;omega
    case rel=>exact⟨_,rfl,H,⟨by have:=HKk3.out;omega⟩,HS.pi []⟩
   replace H:=zgo H;obtain⟨c16,H⟩:=H
   replace H:=zgo H;obtain⟨c17,H⟩:=H
   obtain⟨ad18,hq18,e18_0⟩:=Kd.at_string gp0 (wrap64 (x4 - 1)) (of_eq_true c16) (of_eq_true c17);obtain rfl:=Option.some.inj hq18
   refine dr_start [] HS #[false,false,false,false,false,false,false,false,false,false,false,false,false,false,false,false,false,false,false,false,false,false] (by kernel_rfl) rfl rfl spec_NamesOk.tT4 (fun w8 HT HS HH=>?_)
   (try clear F)
   refine dq [0,1,2] HT ?_
   refine dtk 3 13 HT HH rfl (by rintro w' ⟨rs',HS'⟩;have e9_0:=HS'.keepc e9_0;go_simp;with_reducible rfl) ?_
   refine dr1 4 HT fun K hK=>?_
   refine go_cl HS (spec_NameOk.calls ht12.out) Tryz.func136 ?_;clear HS;intro wt12 HS F
   refine nrm 14 hK ⟨_,HS⟩ fun HH=>?_;clear hK K
   refine dq [5,6,7,8,9,10,11,12,13] HT ?_
   refine dtk 14 24 HT HH rfl (by rintro w' ⟨rs',HS'⟩;have e18_0:=HS'.keepc e18_0;go_simp;with_reducible rfl) ?_
   refine dq [15,16,17] HT ?_
   refine dtk 18 28 HT HH rfl (by rintro w' ⟨rs',HS'⟩;have e9_0:=HS'.keepc e9_0;go_simp;with_reducible rfl) ?_
   refine dq [19,20,21] HT ?_
   refine dn HT ?_
   replace H:=znifb H;rcases H with⟨c10,H⟩|⟨c10,H⟩
   ·
    (try simp only [c10,dcn])
    obtain rfl:=zsome H
    go_wp2
    go_ret
    exact HS.pk
   (try simp only [c10,dcn])
   go_wp2
   go_roundg k3
   case measure=>have:=HKk3.out;omega
   case rel=>exact⟨_,rfl,H,⟨by have:=HKk3.out;omega⟩,HS.pi []⟩
def spec_l09Num.f (a0:Int):Option (Bool):=((spec_l01In.f a0 0 9999).bind fun t1=>(some t1))
theorem spec_l09Num.calls {a0:Int}{r:Bool}{w:World}(h:spec_l09Num.f a0=some r):
    Calls Tryz.prog 55 #[.int .i64 a0] w (fun e w'=>e=.returned (.bool r)∧Hp noFP w w' []):=by
 have HS:=Hp.start w
 have H:=Aside0.mk h
 clear h
 unfold spec_l09Num.f at H
 go_enter Tryz.func55,Tryz.ntmps55
 replace H:=zbind H;obtain⟨t1,ht1,H⟩:=H
 obtain rfl:=zsome H
 go_wp2_with ((with_reducible refine gd 4 rfl ?_);refine ev_cl HS (spec_l01In.calls ht1.out) Tryz.func54 ?_;clear HS;intro wt1 HS F)
 go_ret
 exact HS.pk
end Go.Proofs.YtfcpjeeeddjakaaGreat.F

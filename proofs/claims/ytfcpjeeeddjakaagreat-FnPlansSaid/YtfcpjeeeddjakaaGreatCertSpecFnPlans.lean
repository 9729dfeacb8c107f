/- A letter's text, as the reference makes it: it comes to an end, and is small. Plain lemmas, no condition. -/
import Derived.Test.YtfcpjeeeddjakaaGreatItemFnPlans
namespace Go.Proofs.YtfcpjeeeddjakaaGreat.CertSpecFnPlans
open Go.RowKit YtfcpjeeeddjakaaGreatW.PrintWords YtfcpjeeeddjakaaGreatW.PrintLast ZOpen Z F
open ZP ItemFnPlans
set_option linter.unusedVariables false
set_option linter.unusedSimpArgs false
set_option maxHeartbeats 1000000
def SmC (x:S125):Prop:=x.f1.size≤1000000∧x.f2.size≤1000000∧x.f5.size≤1000000∧x.f9.length≤1000∧(x.f10.length≤1000∧∀e∈x.f10,e.size≤1000)∧(x.f11.length≤1000∧∀e∈x.f11,e.size≤1000)∧x.f12.size≤1000000
theorem ws {n:Nat}(h:n+1≤4611686018427387904):wrap64 ((n:Int)+1)=((n+1:Nat):Int):=by rw [w64 (by omega) (by omega)];omega
theorem wp_ {n:Nat}(h:n≤4611686018427387904):wrap64 ((n:Int) - 1)=(n:Int) - 1:=w64 (by omega) (by omega)
theorem chain {f g:Nat→Option Bool}(hf:∃v,Evt f v)(hg:∃r,Evt g r):∃r,Evt (fun k=>(f k).bind fun t=>if t=true then g k else some false) r:=by
  obtain⟨v,hv⟩:=hf
  obtain⟨r,hr⟩:=hg
  cases v with
  |false=>exact⟨false,Evt.bind hv (.of fun k=>by rw [if_neg (by decide)])⟩
  |true=>exact⟨r,Evt.bind hv (hr.eq fun k=>by rw [if_pos rfl])⟩
theorem pol_loop (l:List Int)(hl:l.length≤1000000):∀(m i:Nat),l.length - i=m→i≤l.length→∃v,Evt (fun k=>spec_PoliciesOk.l0 k (i:Int) l) v
  |0,i,hm,hi=>⟨_,Evt.succ (.of fun k=>by rw [spec_PoliciesOk.l0,if_neg (by omega)])⟩
  | m + 1, i, hm, hi => by
    obtain⟨v,hv⟩:=pol_loop l hl m (i+1) (by omega) (by omega)
    have hA:((i:Int)<(l.length:Int))=True:=eq_true (by omega)
    have hB:(0≤(i:Int))=True:=eq_true (by omega)
    by_cases c:(0:Int)≤rd l (i:Int)∧rd l (i:Int)≤99
    · by_cases c2:i=0
      · refine⟨v,Evt.succ (hv.eq fun k=>?_)⟩
        rw [spec_PoliciesOk.l0]
        simp only [hA,hB,if_true,in_f,Option.bind_some]
        rw [if_pos (decide_eq_true c),if_neg (by omega),ws (by omega)]
      · have e1:Unit→wrap64 ((i:Int) - 1)=(i:Int) - 1:=fun _=>wp_ (by omega)
        by_cases c3:rd l (i:Int)≤rd l ((i:Int) - 1)
        · refine⟨false,Evt.succ (.of fun k=>?_)⟩
          rw [spec_PoliciesOk.l0]
          simp only [hA,hB,if_true,in_f,Option.bind_some]
          rw [if_pos (decide_eq_true c),if_pos (by omega),e1 (),if_pos (by omega),if_pos (by omega),if_pos c3]
        · refine⟨v,Evt.succ (hv.eq fun k=>?_)⟩
          rw [spec_PoliciesOk.l0]
          simp only [hA,hB,if_true,in_f,Option.bind_some]
          rw [if_pos (decide_eq_true c),if_pos (by omega),e1 (),if_pos (by omega),if_pos (by omega),if_neg c3,ws (by omega)]
    · refine⟨false,Evt.succ (.of fun k=>?_)⟩
      rw [spec_PoliciesOk.l0]
      simp only [hA,hB,if_true,in_f,Option.bind_some]
      rw [if_neg (by simpa using c)]
theorem pol_e (l:List Int)(hl:l.length≤1000000):∃v,Evt (fun k=>spec_PoliciesOk.f k l) v:=by
  obtain⟨v,hv⟩:=pol_loop l hl _ 0 rfl (Nat.zero_le _)
  exact⟨v,hv.eq fun k=>rfl⟩
theorem name_loop (s:ByteArray)(hl:s.size≤100000000):∀(m i:Nat) (p:Int),s.size - i=m→i≤s.size→∃v,Evt (fun k=>spec_NameOk.l0 k p (i:Int) s) v
  | 0,i,p,hm,hi=>by
    refine⟨if decide ((1:Int)≤(s.size:Int)∧(s.size:Int)≤20)=true then decide (0<p)else false,Evt.succ (.of fun k=>?_)⟩
    rw [spec_NameOk.l0,if_neg (by omega),in_f,Option.bind_some]
    split <;> rfl
  | m + 1, i, p, hm, hi => by
    have hA:((i:Int)<(s.size:Int))=True:=eq_true (by omega)
    have hB:(0≤(i:Int))=True:=eq_true (by omega)
    obtain⟨v1,h1⟩:=name_loop s hl m (i+1) (wrap64 (p+1)) (by omega) (by omega)
    obtain⟨v2,h2⟩:=name_loop s hl m (i+1) 0 (by omega) (by omega)
    have alt:∃v,Evt (fun k=>(if(bt s (i:Int))=46 then(if 0<p then(spec_NameOk.l0 k 0 ((i+1:Nat):Int) s)else(some false))else(some false))) v:=by
      by_cases c1:bt s (i:Int)=46
      · by_cases c2:0<p
        · exact⟨v2,h2.eq fun k=>by rw [if_pos c1,if_pos c2]⟩
        · exact⟨false,.of fun k=>by rw [if_pos c1,if_neg c2]⟩
      · exact⟨false,.of fun k=>by rw [if_neg c1]⟩
    obtain⟨v3,h3⟩:=alt
    by_cases c1:97≤bt s (i:Int)
    · by_cases c2:bt s (i:Int)≤122
      · refine⟨v1,Evt.succ (h1.eq fun k=>?_)⟩
        rw [spec_NameOk.l0]
        simp only [hA,hB,if_true]
        rw [if_pos c1,if_pos c2,ws (by omega)]
      · refine⟨v3,Evt.succ (h3.eq fun k=>?_)⟩
        rw [spec_NameOk.l0]
        simp only [hA,hB,if_true]
        rw [if_pos c1,if_neg c2,ws (by omega)]
    · refine⟨v3,Evt.succ (h3.eq fun k=>?_)⟩
      rw [spec_NameOk.l0]
      simp only [hA,hB,if_true]
      rw [if_neg c1,ws (by omega)]
theorem name_e (s:ByteArray)(hl:s.size≤100000000):∃v,Evt (fun k=>spec_NameOk.f k s) v:=by
  obtain⟨v,hv⟩:=name_loop s hl _ 0 0 rfl (Nat.zero_le _)
  exact⟨v,hv.eq fun k=>rfl⟩
theorem names_loop (l:List ByteArray)(hl:l.length≤1000000)(hs:∀e∈l,e.size≤100000000):∀(m i:Nat),l.length - i=m→i≤l.length→∃v,Evt (fun k=>spec_NamesOk.l0 k (i:Int) l) v
  |0,i,hm,hi=>⟨_,Evt.succ (.of fun k=>by rw [spec_NamesOk.l0,if_neg (by omega)])⟩
  | m + 1, i, hm, hi => by
    obtain⟨v,hv⟩:=names_loop l hl hs m (i+1) (by omega) (by omega)
    have hil:i<l.length:=by omega
    have hA:((i:Int)<(l.length:Int))=True:=eq_true (by omega)
    have hB:(0≤(i:Int))=True:=eq_true (by omega)
    have hg:rdOf ByteArray.empty l (i:Int)=l[i]:=by simp [rdOf,hil]
    obtain⟨n,hn⟩:=name_e (rdOf ByteArray.empty l (i:Int)) (by rw [hg];exact hs _ (List.getElem_mem hil))
    have rest:∃v,Evt (fun k=>(if 0<(i:Int)then(if 0≤(wrap64 ((i:Int) - 1))then(if(wrap64 ((i:Int) - 1))<(l.length:Int)then(if(Op.bytesLess ((rdOf ByteArray.empty l (wrap64 ((i:Int) - 1))).toList) ((rdOf ByteArray.empty l (i:Int)).toList))=true then(spec_NamesOk.l0 k ((i+1:Nat):Int) l)else(some false))else none)else none)else(spec_NamesOk.l0 k ((i+1:Nat):Int) l))) v:=by
      by_cases c2:i=0
      · exact⟨v,hv.eq fun k=>by rw [if_neg (by omega)]⟩
      · have e1:Unit→wrap64 ((i:Int) - 1)=(i:Int) - 1:=fun _=>wp_ (by omega)
        by_cases c3:(Op.bytesLess ((rdOf ByteArray.empty l ((i:Int) - 1)).toList) ((rdOf ByteArray.empty l (i:Int)).toList))=true
        · exact⟨v,hv.eq fun k=>by rw [if_pos (by omega),e1 (),if_pos (by omega),if_pos (by omega),if_pos c3]⟩
        · exact⟨false,.of fun k=>by rw [if_pos (by omega),e1 (),if_pos (by omega),if_pos (by omega),if_neg c3]⟩
    obtain⟨r,hr⟩:=chain ⟨n,hn⟩ rest
    refine⟨r,Evt.succ (hr.eq fun k=>?_)⟩
    rw [spec_NamesOk.l0]
    simp only [hA,hB,if_true,ws (show i+1≤4611686018427387904 by omega)]
theorem names_e (l:List ByteArray)(hl:l.length≤1000000)(hs:∀e∈l,e.size≤100000000):∃v,Evt (fun k=>spec_NamesOk.f k l) v:=by
  obtain⟨v,hv⟩:=names_loop l hl hs _ 0 rfl (Nat.zero_le _)
  exact⟨v,hv.eq fun k=>rfl⟩
theorem num_e (n:Int):∃v,Evt (fun _=>spec_l09Num.f n) v:=⟨_,.of fun k=>by rw [spec_l09Num.f,in_f];rfl⟩
theorem in_e (a b c:Int):∃v,Evt (fun _=>spec_l01In.f a b c) v:=⟨_,.of fun k=>in_f a b c⟩
theorem cert_ok (c:S125)(h:SmC c):∃v,Evt (fun k=>spec_CertOk.f k c) v:=by
  obtain⟨h1,h2,h3,h4,⟨h5,h6⟩,⟨h7,h8⟩,h9⟩:=h
  unfold spec_CertOk.f
  refine chain (num_e _) (chain (num_e _) (chain (num_e _) (chain (name_e _ (by omega)) (chain (name_e _ (by omega)) ?_))))
  by_cases c1:(c.f5.size:Int)=15
  · have hc:((c.f5.size:Int)=15)=True:=eq_true c1
    simp only [hc,if_true]
    exact chain (in_e _ _ _) (chain (in_e _ _ _) (chain (pol_e _ (by omega)) (chain (names_e _ (by omega) (fun e he=>by have:=h6 e he;omega)) (chain (names_e _ (by omega) (fun e he=>by have:=h8 e he;omega)) ⟨_,Evt.now⟩))))
  · have hc:((c.f5.size:Int)=15)=False:=eq_false c1
    simp only [hc,if_false]
    exact⟨_,Evt.now⟩
theorem szi (it:S66)(h1:it.f2=[])(h2:it.f1.size≤16):sz it≤32:=by rw [sz_eq,h1];simp;omega
theorem szp (t:Int)(s:ByteArray):sz (⟨t,s,[]⟩:S66)=16+s.size:=by rw [sz_eq];simp
theorem ints_e (l:List Int)(h:l.length≤1000000):∃rs:List S66,Evt (fun k=>spec_l09Ints.f k l) ⟨48,(⟨#[]⟩:ByteArray),rs⟩∧(rs.map sz).sum≤32 * 1000000:=by
  obtain⟨rs,rl,hr⟩:=listed (fun i it=>Evt (fun k=>spec_IntItem.f k (rd l (i:Int))) it∧sz it≤32) l.length (fun i hi=>by
    obtain⟨it,h1,h2,_,h3,h4⟩:=int_item (rd l (i:Int))
    exact⟨it,h1,szi it h3 h4⟩)
  have hr':=fun(i:Nat) (hi:i<rs.length)=>hr i rs[i] (List.getElem?_eq_getElem hi)
  refine⟨rs,(map_loop rs (fun k r i=>spec_l09Ints.l0 k r i l) (fun i k=>spec_IntItem.f k (rd l (i:Int))) (⟨48,(⟨#[]⟩:ByteArray),rs⟩:S66) (fun k i r hi hl=>?_) (Evt.of fun k=>?_) (fun i hi=>(hr' i hi).1) _ 0 rfl (Nat.zero_le _)).eq (fun k=>rfl),?_⟩
  · have hc:(r.length+1≤2932031007402)=True:=eq_true (by omega)
    show spec_l09Ints.l0 (k+1) r (i:Int) l=_
    rw [spec_l09Ints.l0,if_pos (by omega),if_pos (by omega),if_pos (by omega),ws (by omega)]
    simp only [hc,if_true,lets]
  · show spec_l09Ints.l0 (k+1) rs _ l=_
    rw [spec_l09Ints.l0,if_neg (by omega)]
  · have h1:=sum_le sz 32 rs (fun e he=>by
      obtain⟨j,hj,rfl⟩:=List.getElem_of_mem he
      exact(hr' j hj).2)
    omega
def item12 (s:ByteArray):S66:=⟨12,s,[]⟩
theorem text12_f (s:ByteArray):spec_TextItem.f s=some (item12 s):=rfl
theorem texts12_e (l:List ByteArray)(h:l.length≤1000∧∀e∈l,e.size≤1000):Evt (fun k=>spec_l09Texts.f k l) ⟨48,(⟨#[]⟩:ByteArray),l.map item12⟩∧((l.map item12).map sz).sum≤1016000:=by
  have hl:(l.map item12).length=l.length:=List.length_map _
  have hlen:=h.1
  have hg:∀i (hi:i<(l.map item12).length),Evt (fun _=>some (item12 (rdOf ByteArray.empty l (i:Int)))) (l.map item12)[i]:=by
    intro i hi
    have:rdOf ByteArray.empty l (i:Int)=l[i]'(by omega):=by simp [rdOf,show i<l.length by omega]
    rw [this,List.getElem_map]
    exact Evt.now
  refine⟨(map_loop (l.map item12) (fun k r i=>spec_l09Texts.l0 k r i l) (fun i _=>some (item12 (rdOf ByteArray.empty l (i:Int)))) (⟨48,(⟨#[]⟩:ByteArray),l.map item12⟩:S66) (fun k i r hi hr=>?_) (Evt.of fun k=>?_) hg _ 0 rfl (Nat.zero_le _)).eq (fun k=>rfl),?_⟩
  · have hc:(r.length+1≤2932031007402)=True:=eq_true (by omega)
    show spec_l09Texts.l0 (k+1) r (i:Int) l=_
    rw [spec_l09Texts.l0,if_pos (by omega),if_pos (by omega),if_pos (by omega),ws (by omega)]
    simp only [text12_f,Option.bind_some,hc,if_true,lets]
  · show spec_l09Texts.l0 (k+1) _ _ l=_
    rw [spec_l09Texts.l0,if_neg (by omega)]
  · have h1:=sum_le sz 1016 (l.map item12) (fun e he=>by
      obtain⟨s,hs',rfl⟩:=List.mem_map.1 he
      have:=h.2 s hs'
      unfold item12
      rw [szp]
      omega)
    rw [List.length_map] at h1
    omega
def itemB (b:Bool):S66:=if b=true then⟨1,(⟨#[255]⟩:ByteArray),[]⟩else⟨1,(⟨#[0]⟩:ByteArray),[]⟩
theorem bool_f (b:Bool):spec_l09Bool.f b=some (itemB b):=by cases b <;> rfl
theorem itemB_sz (b:Bool):sz (itemB b)≤32:=by cases b <;> exact szi _ rfl (by decide)
def item4 (s:ByteArray):S66:=⟨4,s,[]⟩
theorem bytes_f (s:ByteArray):spec_l09Bytes.f s=some (item4 s):=rfl
theorem body_e (a:S125)(h:SmC a):∃it,Evt (fun k=>spec_BodyItem.f k a) it∧sz it≤1000000000:=by
  obtain⟨i1,a1,_,_,i1k,i1s⟩:=int_item a.f3
  obtain⟨i2,a2,_,_,i2k,i2s⟩:=int_item a.f4
  obtain⟨i3,a3,_,_,i3k,i3s⟩:=int_item a.f0
  obtain⟨i4,a4,_,_,i4k,i4s⟩:=int_item a.f7
  obtain⟨i5,a5,_,_,i5k,i5s⟩:=int_item a.f8
  obtain⟨h1,h2,h3,h4,h5,h7,h9⟩:=h
  obtain⟨rs,a6,z6⟩:=ints_e a.f9 (by omega)
  obtain⟨a7,z7⟩:=texts12_e a.f10 h5
  obtain⟨a8,z8⟩:=texts12_e a.f11 h7
  have z1:=szi i1 i1k i1s
  have z2:=szi i2 i2k i2s
  have z3:=szi i3 i3k i3s
  have z4:=szi i4 i4k i4s
  have z5:=szi i5 i5k i5s
  have zb:=itemB_sz a.f6
  have y1:sz (item12 a.f1)=16+a.f1.size:=szp 12 a.f1
  have y2:sz (item12 a.f2)=16+a.f2.size:=szp 12 a.f2
  have y3:sz (item4 a.f5)=16+a.f5.size:=szp 4 a.f5
  have zt:sz (⟨48,(⟨#[]⟩:ByteArray),[i1,i2]⟩:S66)≤80:=by
    rw [sz_list];simp only [List.map_cons,List.map_nil,List.sum_cons,List.sum_nil];omega
  have zi:sz (⟨48,(⟨#[]⟩:ByteArray),rs⟩:S66)≤16+32 * 1000000:=by rw [sz_list];omega
  have q7:sz (⟨48,(⟨#[]⟩:ByteArray),a.f10.map item12⟩:S66)≤16+1016000:=by rw [sz_list];omega
  have q8:sz (⟨48,(⟨#[]⟩:ByteArray),a.f11.map item12⟩:S66)≤16+1016000:=by rw [sz_list];omega
  refine⟨⟨48,(⟨#[]⟩:ByteArray),[i3,item12 a.f1,⟨48,(⟨#[]⟩:ByteArray),[i1,i2]⟩,item12 a.f2,item4 a.f5,itemB a.f6,i4,i5,⟨48,(⟨#[]⟩:ByteArray),rs⟩,⟨48,(⟨#[]⟩:ByteArray),a.f10.map item12⟩,⟨48,(⟨#[]⟩:ByteArray),a.f11.map item12⟩]⟩,?_,?_⟩
  · clear z1 z2 z3 z4 z5 zb y1 y2 y3 zt zi q7 q8 z6 z7 z8
    unfold spec_BodyItem.f
    simp only [text12_f,bytes_f,bool_f,Option.bind_some]
    exact Evt.bind a1 (Evt.bind a2 (Evt.bind a3 (Evt.bind a4 (Evt.bind a5 (Evt.bind a6 (Evt.bind a7 (Evt.bind a8 Evt.now)))))))
  · rw [sz_list]
    simp only [List.map_cons,List.map_nil,List.sum_cons,List.sum_nil,y1,y2,y3]
    omega
theorem it_size (x:S66)(r:ByteArray×Bool)(h:Evt (fun k=>spec_ItemText.f k x) r):r.1.size≤4000:=by
  obtain⟨K,hK⟩:=h
  have h:=hK K (Nat.le_refl _)
  simp only [spec_ItemText.f] at h
  cases e:spec_ItemOk.f K x with
  |none=>rw [e] at h;cases h
  | some b=>
    rw [e,Option.bind_some] at h
    cases b with
    |false=>obtain rfl:=Option.some.inj h;exact Nat.zero_le _
    | true=>
      rw [if_pos rfl] at h
      cases e2:spec_l07Text.f K x with
      |none=>rw [e2] at h;cases h
      | some t=>
        rw [e2,Option.bind_some] at h
        by_cases c:4000<(t.size:Int)
        · rw [if_pos c] at h;obtain rfl:=Option.some.inj h;exact Nat.zero_le _
        · rw [if_neg c] at h;obtain rfl:=Option.some.inj h;show t.size≤4000;omega
theorem body_text (a:S125)(h:SmC a):∃t,Evt (fun k=>spec_BodyText.f k a) t∧t.size≤4000:=by
  obtain⟨it,b1,hz⟩:=body_e a h
  obtain⟨r,r1,r2⟩:=item_text it (by omega)
  refine⟨r.1,?_,it_size _ _ r1⟩
  unfold spec_BodyText.f
  exact Evt.bind b1 (Evt.bind r1 Evt.now)
theorem cert_text (a:S125)(h:SmC a):∃q,Evt (fun k=>spec_CertText.f k a) q∧q.1.size≤4000:=by
  obtain⟨it,b1,hz⟩:=body_e a h
  obtain⟨v,v1⟩:=cert_ok a h
  have h9:=h.2.2.2.2.2.2
  have y:sz (item4 a.f12)=16+a.f12.size:=szp 4 a.f12
  obtain⟨r,r1,r2⟩:=item_text ⟨48,(⟨#[]⟩:ByteArray),[it,item4 a.f12]⟩ (by
    rw [sz_list]
    simp only [List.map_cons,List.map_nil,List.sum_cons,List.sum_nil,y]
    omega)
  clear y hz
  cases v with
  | false=>
    refine⟨((⟨#[]⟩:ByteArray),false),?_,Nat.zero_le _⟩
    unfold spec_CertText.f
    exact Evt.bind v1 (.of fun k=>rfl)
  | true=>
    refine⟨r,?_,it_size _ _ r1⟩
    unfold spec_CertText.f
    refine Evt.bind v1 ?_
    simp only [if_true,bytes_f,Option.bind_some]
    exact Evt.bind b1 (Evt.bind r1 Evt.now)
end Go.Proofs.YtfcpjeeeddjakaaGreat.CertSpecFnPlans

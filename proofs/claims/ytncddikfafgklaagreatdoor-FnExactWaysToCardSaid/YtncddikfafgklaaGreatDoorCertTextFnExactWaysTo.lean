/- The text of a letter: both ways agree. Plain lemmas, no condition. -/
import Derived.Test.YtncddikfafgklaaGreatDoorCertOkFnExactWaysTo
namespace Go.Proofs.YtncddikfafgklaaGreatDoor.CertTextFnExactWaysTo
open Go.RowKit YtncddikfafgklaaGreatDoorW.PrintWords YtncddikfafgklaaGreatDoorW.PrintLast ZOpen Z F
open ZP FamFnExactWaysTo ItemFnExactWaysTo NameFnExactWaysTo CertOkFnExactWaysTo
set_option linter.unusedVariables false
set_option linter.unusedSimpArgs false
set_option maxHeartbeats 4000000
theorem szi (it:S153)(h1:it.f2=[])(h2:it.f1.size≤16):sz it≤32:=by rw [sz_eq,h1];simp;omega
theorem szp (t:Int)(s:ByteArray):sz (⟨t,s,[]⟩:S153)=16+s.size:=by rw [sz_eq];simp
theorem ints (l:List Int)(h:l.length≤1048576):∃rs:List S153,Evt (fun k=>spec_l09Ints.f k l) ⟨48,(⟨#[]⟩:ByteArray),rs⟩∧Evt (fun k=>impl_each_int_0.f k l) ⟨48,(⟨#[]⟩:ByteArray),rs⟩∧(rs.map sz).sum≤32 * 1048576:=by
  obtain⟨rs,rl,hr⟩:=listed (fun i it=>Evt (fun k=>spec_IntItem.f k (rd l (i:Int))) it∧Evt (fun k=>impl_IntItem.f k (rd l (i:Int))) it∧sz it≤32) l.length (fun i hi=>by
    obtain⟨it,h1,h2,_,h3,h4⟩:=int_item (rd l (i:Int))
    exact⟨it,h1,h2,szi it h3 h4⟩)
  have hr':=fun(i:Nat) (hi:i<rs.length)=>hr i rs[i] (List.getElem?_eq_getElem hi)
  have e1:∀i:Nat,i<l.length→wrap64 ((i:Int)+1)=((i+1:Nat):Int):=fun i hi=>wn i (by omega)
  refine⟨rs,(map_loop rs (fun k r i=>spec_l09Ints.l0 k r i l) (fun i k=>spec_IntItem.f k (rd l (i:Int))) (⟨48,(⟨#[]⟩:ByteArray),rs⟩:S153) (fun k i r hi hl=>?_) (Evt.of fun k=>?_) (fun i hi=>(hr' i hi).1) _ 0 rfl (Nat.zero_le _)).eq (fun k=>rfl),(map_loop rs (fun k r i=>impl_each_int_0.l0 k r i l) (fun i k=>impl_IntItem.f k (rd l (i:Int))) (⟨48,(⟨#[]⟩:ByteArray),rs⟩:S153) (fun k i r hi hl=>?_) (Evt.of fun k=>?_) (fun i hi=>(hr' i hi).2.1) _ 0 rfl (Nat.zero_le _)).eq (fun k=>rfl),?_⟩
  · have hc:(r.length+1≤2932031007402)=True:=eq_true (by omega)
    show spec_l09Ints.l0 (k+1) r (i:Int) l=_
    rw [spec_l09Ints.l0,if_pos (by omega),if_pos (by omega),if_pos (by omega),e1 i (by omega)]
    simp only [hc,if_true,lets]
  · show spec_l09Ints.l0 (k+1) rs _ l=_
    rw [spec_l09Ints.l0,if_neg (by omega)]
  · have hc:(r.length+1≤2932031007402)=True:=eq_true (by omega)
    show impl_each_int_0.l0 (k+1) r (i:Int) l=_
    rw [impl_each_int_0.l0,if_pos (by omega),if_pos (by omega),if_pos (by omega),e1 i (by omega)]
    simp only [hc,if_true,lets]
  · show impl_each_int_0.l0 (k+1) rs _ l=_
    rw [impl_each_int_0.l0,if_neg (by omega)]
  · have h1:=sum_le sz 32 rs (fun e he=>by
      obtain⟨j,hj,rfl⟩:=List.getElem_of_mem he
      exact(hr' j hj).2.2)
    omega
def item12 (s:ByteArray):S153:=⟨12,s,[]⟩
theorem text12_f (s:ByteArray):spec_TextItem.f s=some (item12 s):=rfl
theorem text12_g (s:ByteArray):impl_TextItem.f s=some (item12 s):=rfl
theorem texts12 (l:List ByteArray)(h:l.length≤1048576∧∀e∈l,e.size≤1048576):Evt (fun k=>spec_l09Texts.f k l) ⟨48,(⟨#[]⟩:ByteArray),l.map item12⟩∧Evt (fun k=>impl_each_string_0.f k l) ⟨48,(⟨#[]⟩:ByteArray),l.map item12⟩∧sz (⟨48,(⟨#[]⟩:ByteArray),l.map item12⟩:S153)≤16+1048576 * 1048592:=by
  have hl:(l.map item12).length=l.length:=List.length_map _
  have hlen:=h.1
  have e1:∀i:Nat,i<l.length→wrap64 ((i:Int)+1)=((i+1:Nat):Int):=fun i hi=>wn i (by omega)
  have hg:∀i (hi:i<(l.map item12).length),Evt (fun _=>some (item12 (rdOf ByteArray.empty l (i:Int)))) (l.map item12)[i]:=by
    intro i hi
    have:rdOf ByteArray.empty l (i:Int)=l[i]'(by omega):=by simp [rdOf,show i<l.length by omega]
    rw [this,List.getElem_map]
    exact Evt.now
  refine⟨(map_loop (l.map item12) (fun k r i=>spec_l09Texts.l0 k r i l) (fun i _=>some (item12 (rdOf ByteArray.empty l (i:Int)))) (⟨48,(⟨#[]⟩:ByteArray),l.map item12⟩:S153) (fun k i r hi hr=>?_) (Evt.of fun k=>?_) hg _ 0 rfl (Nat.zero_le _)).eq (fun k=>rfl),(map_loop (l.map item12) (fun k r i=>impl_each_string_0.l0 k r i l) (fun i _=>some (item12 (rdOf ByteArray.empty l (i:Int)))) (⟨48,(⟨#[]⟩:ByteArray),l.map item12⟩:S153) (fun k i r hi hr=>?_) (Evt.of fun k=>?_) hg _ 0 rfl (Nat.zero_le _)).eq (fun k=>rfl),?_⟩
  · have hc:(r.length+1≤2932031007402)=True:=eq_true (by omega)
    show spec_l09Texts.l0 (k+1) r (i:Int) l=_
    rw [spec_l09Texts.l0,if_pos (by omega),if_pos (by omega),if_pos (by omega),e1 i (by omega)]
    simp only [text12_f,Option.bind_some,hc,if_true,lets]
  · show spec_l09Texts.l0 (k+1) _ _ l=_
    rw [spec_l09Texts.l0,if_neg (by omega)]
  · have hc:(r.length+1≤2932031007402)=True:=eq_true (by omega)
    show impl_each_string_0.l0 (k+1) r (i:Int) l=_
    rw [impl_each_string_0.l0,if_pos (by omega),if_pos (by omega),if_pos (by omega),e1 i (by omega)]
    simp only [text12_g,Option.bind_some,hc,if_true,lets]
  · show impl_each_string_0.l0 (k+1) _ _ l=_
    rw [impl_each_string_0.l0,if_neg (by omega)]
  · rw [sz_list]
    have h1:=sum_le sz 1048592 (l.map item12) (fun e he=>by
      obtain⟨s,hs',rfl⟩:=List.mem_map.1 he
      have:=h.2 s hs'
      unfold item12
      rw [szp]
      omega)
    rw [List.length_map] at h1
    have h2:l.length * 1048592≤1048576 * 1048592:=Nat.mul_le_mul_right _ h.1
    omega
def itemB (b:Bool):S153:=if b=true then⟨1,(⟨#[255]⟩:ByteArray),[]⟩else⟨1,(⟨#[0]⟩:ByteArray),[]⟩
theorem bool_f (b:Bool):spec_l09Bool.f b=some (itemB b):=by cases b <;> rfl
theorem bool_g (b:Bool):impl_boolItem.f b=some (itemB b):=bool_f b
theorem itemB_sz (b:Bool):sz (itemB b)≤32:=by cases b <;> exact szi _ rfl (by decide)
def item4 (s:ByteArray):S153:=⟨4,s,[]⟩
theorem bytes_f (s:ByteArray):spec_l09Bytes.f s=some (item4 s):=rfl
theorem bytes_g (s:ByteArray):impl_bytesItem.f s=some (item4 s):=rfl
theorem body (a:S41)(h:sm41 a):∃it,Evt (fun k=>spec_BodyItem.f k a) it∧Evt (fun k=>impl_BodyItem.f k a) it∧sz it≤3300000000000:=by
  obtain⟨i1,a1,b1,_,i1k,i1s⟩:=int_item a.f3
  obtain⟨i2,a2,b2,_,i2k,i2s⟩:=int_item a.f4
  obtain⟨i3,a3,b3,_,i3k,i3s⟩:=int_item a.f0
  obtain⟨i4,a4,b4,_,i4k,i4s⟩:=int_item a.f7
  obtain⟨i5,a5,b5,_,i5k,i5s⟩:=int_item a.f8
  obtain⟨rs,a6,b6,z6⟩:=ints a.f9 h.2.2.2.2.2.2.2.2.2.1.1
  obtain⟨a7,b7,z7⟩:=texts12 a.f10 h.2.2.2.2.2.2.2.2.2.2.1
  obtain⟨a8,b8,z8⟩:=texts12 a.f11 h.2.2.2.2.2.2.2.2.2.2.2.1
  have z1:=szi i1 i1k i1s
  have z2:=szi i2 i2k i2s
  have z3:=szi i3 i3k i3s
  have z4:=szi i4 i4k i4s
  have z5:=szi i5 i5k i5s
  have zb:=itemB_sz a.f6
  have y1:=szp 12 a.f1
  have y2:=szp 12 a.f2
  have y3:=szp 4 a.f5
  have s1:=h.2.1
  have s2:=h.2.2.1
  have s3:=h.2.2.2.2.2.1
  have zt:sz (⟨48,(⟨#[]⟩:ByteArray),[i1,i2]⟩:S153)≤80:=by
    rw [sz_list];simp only [List.map_cons,List.map_nil,List.sum_cons,List.sum_nil];omega
  have zi:sz (⟨48,(⟨#[]⟩:ByteArray),rs⟩:S153)≤16+32 * 1048576:=by rw [sz_list];omega
  have hs:([i3,item12 a.f1,⟨48,(⟨#[]⟩:ByteArray),[i1,i2]⟩,item12 a.f2,item4 a.f5,itemB a.f6,i4,i5,⟨48,(⟨#[]⟩:ByteArray),rs⟩,⟨48,(⟨#[]⟩:ByteArray),a.f10.map item12⟩,⟨48,(⟨#[]⟩:ByteArray),a.f11.map item12⟩].map sz).sum≤3200000000000:=by
    unfold item12 item4
    unfold item12 at z7 z8
    simp only [List.map_cons,List.map_nil,List.sum_cons,List.sum_nil]
    omega
  have l0:=list_item [i1,i2] (by simp only [List.map_cons,List.map_nil,List.sum_cons,List.sum_nil];omega)
  have l1:=list_item [i3,item12 a.f1,⟨48,(⟨#[]⟩:ByteArray),[i1,i2]⟩,item12 a.f2,item4 a.f5,itemB a.f6,i4,i5,⟨48,(⟨#[]⟩:ByteArray),rs⟩,⟨48,(⟨#[]⟩:ByteArray),a.f10.map item12⟩,⟨48,(⟨#[]⟩:ByteArray),a.f11.map item12⟩] (by omega)
  refine⟨⟨48,(⟨#[]⟩:ByteArray),[i3,item12 a.f1,⟨48,(⟨#[]⟩:ByteArray),[i1,i2]⟩,item12 a.f2,item4 a.f5,itemB a.f6,i4,i5,⟨48,(⟨#[]⟩:ByteArray),rs⟩,⟨48,(⟨#[]⟩:ByteArray),a.f10.map item12⟩,⟨48,(⟨#[]⟩:ByteArray),a.f11.map item12⟩]⟩,?_,?_,by rw [sz_list];omega⟩
  · clear hs z7 z8 zi zt l0 l1
    unfold spec_BodyItem.f
    simp only [text12_f,bytes_f,bool_f,Option.bind_some]
    exact Evt.bind a1 (Evt.bind a2 (Evt.bind a3 (Evt.bind a4 (Evt.bind a5 (Evt.bind a6 (Evt.bind a7 (Evt.bind a8 Evt.now)))))))
  · clear hs z7 z8 zi zt
    unfold impl_BodyItem.f
    simp only [text12_g,bytes_g,bool_g,Option.bind_some]
    exact Evt.bind b1 (Evt.bind b2 (Evt.bind l0 (Evt.bind b3 (Evt.bind b4 (Evt.bind b5 (Evt.bind b6 (Evt.bind b7 (Evt.bind b8 (Evt.bind l1 Evt.now)))))))))
theorem it_size (x:S153)(r:ByteArray×Bool)(h:Evt (fun k=>spec_ItemText.f k x) r):r.1.size≤4000:=by
  obtain⟨K,hK⟩:=h
  have h:=hK K (Nat.le_refl _)
  simp only [spec_ItemText.f] at h
  cases e:spec_ItemOk.f K x with
  |none=>rw [e] at h;cases h
  | some b=>
    rw [e,Option.bind_some] at h
    cases b with
    |false=>obtain rfl:=Option.some.inj h;exact Nat.zero_le _
    | true=>
      rw [if_pos rfl] at h
      cases e2:spec_l07Text.f K x with
      |none=>rw [e2] at h;cases h
      | some t=>
        rw [e2,Option.bind_some] at h
        by_cases c:4000<(t.size:Int)
        · rw [if_pos c] at h;obtain rfl:=Option.some.inj h;exact Nat.zero_le _
        · rw [if_neg c] at h;obtain rfl:=Option.some.inj h;show t.size≤4000;omega
theorem cert_text (a:S41)(h:sm41 a):∃q,Evt (fun k=>spec_CertText.f k a) q∧Evt (fun k=>impl_CertText.f k a) q∧q.1.size≤4000:=by
  obtain⟨it,b1,b2,hz⟩:=body a h
  have s4:=h.2.2.2.2.2.2.2.2.2.2.2.2.1
  have hl:([it,item4 a.f12].map sz).sum≤3300001100000:=by
    have y:=szp 4 a.f12
    unfold item4
    simp only [List.map_cons,List.map_nil,List.sum_cons,List.sum_nil]
    omega
  have l1:=list_item [it,item4 a.f12] (by omega)
  obtain⟨r,r1,r2⟩:=item_text ⟨48,(⟨#[]⟩:ByteArray),[it,item4 a.f12]⟩ (by rw [sz_list];omega)
  obtain⟨v,v1,v2⟩:=cert_ok a h
  cases v with
  | false=>
    refine⟨((⟨#[]⟩:ByteArray),false),?_,?_,Nat.zero_le _⟩
    · unfold spec_CertText.f
      exact Evt.bind v1 (.of fun k=>rfl)
    · unfold impl_CertText.f
      exact Evt.bind v2 (.of fun k=>rfl)
  | true=>
    refine⟨r,?_,?_,it_size _ _ r1⟩
    · unfold spec_CertText.f
      refine Evt.bind v1 ?_
      simp only [if_true,bytes_f,Option.bind_some]
      exact Evt.bind b1 (Evt.bind r1 Evt.now)
    · unfold impl_CertText.f
      refine Evt.bind v2 ?_
      simp only [if_true,bytes_g,Option.bind_some]
      exact Evt.bind b2 (Evt.bind l1 (Evt.bind r2 Evt.now))
end Go.Proofs.YtncddikfafgklaaGreatDoor.CertTextFnExactWaysTo

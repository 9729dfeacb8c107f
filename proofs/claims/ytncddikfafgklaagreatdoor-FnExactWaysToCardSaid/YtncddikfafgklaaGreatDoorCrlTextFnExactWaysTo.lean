/- The text of a list of what was called back: both ways agree. Plain lemmas, no condition. -/
import Derived.Test.YtncddikfafgklaaGreatDoorCrlOkFnExactWaysTo
namespace Go.Proofs.YtncddikfafgklaaGreatDoor.CrlTextFnExactWaysTo
open Go.RowKit YtncddikfafgklaaGreatDoorW.PrintWords YtncddikfafgklaaGreatDoorW.PrintLast ZOpen Z F
open ZP FamFnExactWaysTo ItemFnExactWaysTo NameFnExactWaysTo CrlOkFnExactWaysTo
set_option linter.unusedVariables false
set_option linter.unusedSimpArgs false
set_option maxHeartbeats 4000000
theorem szi (it:S153)(h1:it.f2=[])(h2:it.f1.size≤16):sz it≤32:=by rw [sz_eq,h1];simp;omega
theorem szp (t:Int)(s:ByteArray):sz (⟨t,s,[]⟩:S153)=16+s.size:=by rw [sz_eq];simp
theorem ints_of (l:List Int)(rs:List S153)(hn:rs.length=l.length)(h:l.length≤1048576)(hr:∀i (hi:i<rs.length),Evt (fun k=>spec_IntItem.f k (rd l (i:Int))) rs[i]):Evt (fun k=>spec_l09Ints.f k l) ⟨48,(⟨#[]⟩:ByteArray),rs⟩:=by
  refine(map_loop rs (fun k r i=>spec_l09Ints.l0 k r i l) (fun i k=>spec_IntItem.f k (rd l (i:Int))) (⟨48,(⟨#[]⟩:ByteArray),rs⟩:S153) (fun k i r hi hl=>?_) (Evt.of fun k=>?_) hr _ 0 rfl (Nat.zero_le _)).eq (fun k=>rfl)
  · have hc:(r.length+1≤2932031007402)=True:=eq_true (by omega)
    show spec_l09Ints.l0 (k+1) r (i:Int) l=_
    rw [spec_l09Ints.l0,if_pos (by omega),if_pos (by omega),if_pos (by omega),wn i (by omega)]
    simp only [hc,if_true,lets]
  · show spec_l09Ints.l0 (k+1) rs _ l=_
    rw [spec_l09Ints.l0,if_neg (by omega)]
theorem rev_items (x:S163):∃it,Evt (fun k=>spec_l09Ints.f k [x.f0,x.f1]) it∧Evt (fun k=>impl_crlItem_1.f k x) it∧sz it≤80:=by
  obtain⟨i1,a1,b1,_,i1k,i1s⟩:=int_item x.f0
  obtain⟨i2,a2,b2,_,i2k,i2s⟩:=int_item x.f1
  have z1:=szi i1 i1k i1s
  have z2:=szi i2 i2k i2s
  have l1:=list_item [i1,i2] (by simp only [List.map_cons,List.map_nil,List.sum_cons,List.sum_nil];omega)
  refine⟨⟨48,(⟨#[]⟩:ByteArray),[i1,i2]⟩,ints_of [x.f0,x.f1] [i1,i2] rfl (by simp) (fun i hi=>?_),?_,by rw [sz_list];simp only [List.map_cons,List.map_nil,List.sum_cons,List.sum_nil];omega⟩
  · match i,hi with
    |0,_=>exact a1
    |1,_=>exact a2
  · unfold impl_crlItem_1.f
    exact Evt.bind b1 (Evt.bind b2 (Evt.bind l1 Evt.now))
def item12 (s:ByteArray):S153:=⟨12,s,[]⟩
theorem text12_f (s:ByteArray):spec_TextItem.f s=some (item12 s):=rfl
theorem text12_g (s:ByteArray):impl_TextItem.f s=some (item12 s):=rfl
def item4 (s:ByteArray):S153:=⟨4,s,[]⟩
theorem bytes_f (s:ByteArray):spec_l09Bytes.f s=some (item4 s):=rfl
theorem bytes_g (s:ByteArray):impl_bytesItem.f s=some (item4 s):=rfl
theorem body (a:S69)(h:sm69 a):∃it,Evt (fun k=>spec_l10Item.f k a) it∧Evt (fun k=>impl_crlItem.f k a) it∧sz it≤100000000:=by
  have hlen:=h.2.2.2.2.2.1.1
  have h0:=h.1
  obtain⟨rs,rl,hr⟩:=listed (fun i it=>Evt (fun k=>spec_l09Ints.f k [(rd_T163 a.f5 (i:Int)).f0,(rd_T163 a.f5 (i:Int)).f1]) it∧Evt (fun k=>impl_crlItem_1.f k (rd_T163 a.f5 (i:Int))) it∧sz it≤80) a.f5.length (fun i hi=>rev_items _)
  have hr':=fun(i:Nat) (hi:i<rs.length)=>hr i rs[i] (List.getElem?_eq_getElem hi)
  have hs:=sum_le sz 80 rs (fun e he=>by
    obtain⟨j,hj,rfl⟩:=List.getElem_of_mem he
    exact(hr' j hj).2.2)
  obtain⟨i1,a1,b1,_,i1k,i1s⟩:=int_item a.f1
  obtain⟨i2,a2,b2,_,i2k,i2s⟩:=int_item a.f2
  obtain⟨i3,a3,b3,_,i3k,i3s⟩:=int_item a.f3
  obtain⟨i4,a4,b4,_,i4k,i4s⟩:=int_item a.f4
  have hl:([item12 a.f0,i1,i2,i3,i4,⟨48,(⟨#[]⟩:ByteArray),rs⟩].map sz).sum≤90000000:=by
    have z1:=szi i1 i1k i1s
    have z2:=szi i2 i2k i2s
    have z3:=szi i3 i3k i3s
    have z4:=szi i4 i4k i4s
    have z0:=szp 12 a.f0
    unfold item12
    simp only [List.map_cons,List.map_nil,List.sum_cons,List.sum_nil,sz_list]
    omega
  have l1:=list_item [item12 a.f0,i1,i2,i3,i4,⟨48,(⟨#[]⟩:ByteArray),rs⟩] (by omega)
  refine⟨⟨48,(⟨#[]⟩:ByteArray),[item12 a.f0,i1,i2,i3,i4,⟨48,(⟨#[]⟩:ByteArray),rs⟩]⟩,?_,?_,by rw [sz_list];omega⟩
  · clear hl hs l1
    have st:Evt (fun k=>(spec_TextItem.f a.f0).bind fun t302001=>((spec_IntItem.f k a.f1).bind fun t305001=>((spec_IntItem.f k a.f2).bind fun t308001=>((spec_IntItem.f k a.f3).bind fun t311001=>((spec_IntItem.f k a.f4).bind fun t314001=>(some (⟨48,(⟨#[]⟩:ByteArray),([t302001,t305001,t308001,t311001,t314001,(⟨48,(⟨#[]⟩:ByteArray),rs⟩:S153)]:List S153)⟩:S153))))))) (⟨48,(⟨#[]⟩:ByteArray),[item12 a.f0,i1,i2,i3,i4,⟨48,(⟨#[]⟩:ByteArray),rs⟩]⟩:S153):=by
      simp only [text12_f,Option.bind_some]
      exact Evt.bind a1 (Evt.bind a2 (Evt.bind a3 (Evt.bind a4 Evt.now)))
    refine(map_loop rs (fun k l i=>spec_l10Item.l0 k l i a) (fun i k=>spec_l09Ints.f k [(rd_T163 a.f5 (i:Int)).f0,(rd_T163 a.f5 (i:Int)).f1]) (⟨48,(⟨#[]⟩:ByteArray),[item12 a.f0,i1,i2,i3,i4,⟨48,(⟨#[]⟩:ByteArray),rs⟩]⟩:S153) (fun k i l hi hll=>?_) (st.eq fun k=>?_) (fun i hi=>(hr' i hi).1) _ 0 rfl (Nat.zero_le _)).eq (fun k=>rfl)
    · have hc:(l.length+1≤2932031007402)=True:=eq_true (by omega)
      show spec_l10Item.l0 (k+1) l (i:Int) a=_
      rw [spec_l10Item.l0,if_pos (by omega),if_pos (by omega),if_pos (by omega),wn i (by omega)]
      simp only [hc,if_true,lets]
    · show spec_l10Item.l0 (k+1) rs _ a=_
      rw [spec_l10Item.l0,if_neg (by omega)]
  · clear hl hs
    have each:Evt (fun k=>impl_Rev_0.f k a.f5) ⟨48,(⟨#[]⟩:ByteArray),rs⟩:=by
      refine(map_loop rs (fun k l i=>impl_Rev_0.l0 k l i a.f5) (fun i k=>impl_crlItem_1.f k (rd_T163 a.f5 (i:Int))) (⟨48,(⟨#[]⟩:ByteArray),rs⟩:S153) (fun k i l hi hl=>?_) (Evt.of fun k=>?_) (fun i hi=>(hr' i hi).2.1) _ 0 rfl (Nat.zero_le _)).eq (fun k=>rfl)
      · have hc:(l.length+1≤2932031007402)=True:=eq_true (by omega)
        show impl_Rev_0.l0 (k+1) l (i:Int) a.f5=_
        rw [impl_Rev_0.l0,if_pos (by omega),if_pos (by omega),if_pos (by omega),wn i (by omega)]
        simp only [hc,if_true,lets]
      · show impl_Rev_0.l0 (k+1) rs _ a.f5=_
        rw [impl_Rev_0.l0,if_neg (by omega)]
    unfold impl_crlItem.f
    simp only [text12_g,Option.bind_some]
    exact Evt.bind b1 (Evt.bind b2 (Evt.bind b3 (Evt.bind b4 (Evt.bind each (Evt.bind l1 Evt.now)))))
theorem it_size (x:S153)(r:ByteArray×Bool)(h:Evt (fun k=>spec_ItemText.f k x) r):r.1.size≤4000:=by
  obtain⟨K,hK⟩:=h
  have h:=hK K (Nat.le_refl _)
  simp only [spec_ItemText.f] at h
  cases e:spec_ItemOk.f K x with
  |none=>rw [e] at h;cases h
  | some b=>
    rw [e,Option.bind_some] at h
    cases b with
    |false=>obtain rfl:=Option.some.inj h;exact Nat.zero_le _
    | true=>
      rw [if_pos rfl] at h
      cases e2:spec_l07Text.f K x with
      |none=>rw [e2] at h;cases h
      | some t=>
        rw [e2,Option.bind_some] at h
        by_cases c:4000<(t.size:Int)
        · rw [if_pos c] at h;obtain rfl:=Option.some.inj h;exact Nat.zero_le _
        · rw [if_neg c] at h;obtain rfl:=Option.some.inj h;show t.size≤4000;omega
theorem crl_text (a:S69)(h:sm69 a):∃q,Evt (fun k=>spec_CrlText.f k a) q∧Evt (fun k=>impl_CrlText.f k a) q∧q.1.size≤4000:=by
  obtain⟨it,b1,b2,hz⟩:=body a h
  have s4:=h.2.2.2.2.2.2.1
  have hl:([it,item4 a.f6].map sz).sum≤102000000:=by
    have y:=szp 4 a.f6
    unfold item4
    simp only [List.map_cons,List.map_nil,List.sum_cons,List.sum_nil]
    omega
  have l1:=list_item [it,item4 a.f6] (by omega)
  obtain⟨r,r1,r2⟩:=item_text ⟨48,(⟨#[]⟩:ByteArray),[it,item4 a.f6]⟩ (by rw [sz_list];omega)
  obtain⟨v,v1,v2⟩:=crl_ok a h
  cases v with
  | false=>
    refine⟨((⟨#[]⟩:ByteArray),false),?_,?_,Nat.zero_le _⟩
    · unfold spec_CrlText.f
      exact Evt.bind v1 (.of fun k=>rfl)
    · unfold impl_CrlText.f
      exact Evt.bind v2 (.of fun k=>rfl)
  | true=>
    refine⟨r,?_,?_,it_size _ _ r1⟩
    · unfold spec_CrlText.f
      refine Evt.bind v1 ?_
      simp only [if_true,bytes_f,Option.bind_some]
      exact Evt.bind b1 (Evt.bind r1 Evt.now)
    · unfold impl_CrlText.f
      refine Evt.bind v2 ?_
      simp only [if_true,bytes_g,Option.bind_some]
      exact Evt.bind b2 (Evt.bind l1 (Evt.bind r2 Evt.now))
end Go.Proofs.YtncddikfafgklaaGreatDoor.CrlTextFnExactWaysTo

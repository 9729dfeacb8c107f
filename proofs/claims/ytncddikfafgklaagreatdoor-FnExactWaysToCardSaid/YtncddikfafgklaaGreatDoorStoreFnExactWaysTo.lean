/- Is a store right: both ways agree. Plain lemmas, no condition. -/
import Derived.Test.YtncddikfafgklaaGreatDoorCrlTextFnExactWaysTo
import Derived.Test.YtncddikfafgklaaGreatDoorCertTextFnExactWaysTo
namespace Go.Proofs.YtncddikfafgklaaGreatDoor.StoreFnExactWaysTo
open Go.RowKit YtncddikfafgklaaGreatDoorW.PrintWords YtncddikfafgklaaGreatDoorW.PrintLast ZOpen Z F
open ZP FamFnExactWaysTo ItemFnExactWaysTo NameFnExactWaysTo
open CertTextFnExactWaysTo (cert_text)
open CrlTextFnExactWaysTo (crl_text)
set_option linter.unusedVariables false
set_option linter.unusedSimpArgs false
set_option maxHeartbeats 4000000
theorem tl_inj {a b:ByteArray}(h:a.toList=b.toList):a=b:=by
  rw [ByteArray.toList_eq,ByteArray.toList_eq] at h
  exact ext_ba h
noncomputable instance decM (t:ByteArray) (l:List ByteArray):Decidable (t∈l):=Classical.propDecidable _
noncomputable def unl:List ByteArray→List (ByteArray×Bool)→Bool
  |_,[]=>true
  |met,q :: r=>if q.2=true then(if q.1∈met then false else unl (met++ [q.1]) r)else false
theorem unl_drop (met:List ByteArray)(qs:List (ByteArray×Bool))(i:Nat)(h:i<qs.length):unl met (qs.drop i)=if qs[i].2=true then(if qs[i].1∈met then false else unl (met++ [qs[i].1]) (qs.drop (i+1)))else false:=by
  rw [List.drop_eq_getElem_cons h,unl]
theorem mem_drop (l:List ByteArray)(t:ByteArray)(i:Nat)(h:i<l.length):t∈l.drop i↔l[i]=t∨t∈l.drop (i+1):=by
  rw [List.drop_eq_getElem_cons h,List.mem_cons]
  exact⟨fun q=>q.elim (fun q=>.inl q.symm) .inr,fun q=>q.elim (fun q=>.inl q.symm) .inr⟩
theorem idx_g (l:List ByteArray)(t:ByteArray)(hl:l.length≤1048577):∀(m i k:Nat),l.length - i=m→i≤l.length→m<k→∃r,slices_Index_string_string.l0 k (i:Int) l t=some r∧(0≤r↔t∈l.drop i):=by
  intro m
  induction m with
  | zero=>
    intro i k hm hi hk
    obtain⟨k,rfl⟩:∃q,k=q+1:=⟨k - 1,by omega⟩
    obtain rfl:i=l.length:=by omega
    exact⟨-1,by rw [slices_Index_string_string.l0,if_neg (by omega)],by simp⟩
  | succ m ih=>
    intro i k hm hi hk
    obtain⟨k,rfl⟩:∃q,k=q+1:=⟨k - 1,by omega⟩
    have hil:i<l.length:=by omega
    by_cases c:t=l[i]
    · refine⟨(i:Int),?_,?_⟩
      · rw [slices_Index_string_string.l0,if_pos (by omega),if_pos (by omega),if_pos (by omega),rdS l i hil,if_pos (by rw [c])]
      · rw [mem_drop l t i hil]
        exact⟨fun _=>.inl c.symm,fun _=>by omega⟩
    · obtain⟨r,r1,r2⟩:=ih (i+1) k (by omega) (by omega) (by omega)
      refine⟨r,?_,?_⟩
      · rw [slices_Index_string_string.l0,if_pos (by omega),if_pos (by omega),if_pos (by omega),rdS l i hil,if_neg (fun q=>c (tl_inj q)),wn i (by omega)]
        exact r1
      · rw [mem_drop l t i hil,r2]
        exact⟨.inr,fun q=>q.elim (fun q=>absurd q.symm c) id⟩
theorem has_g (l:List ByteArray)(t:ByteArray)(hl:l.length≤1048577)(k:Nat)(hk:1048578≤k):slices_Contains_string_string.f k l t=some (decide (t∈l)):=by
  obtain⟨r,r1,r2⟩:=idx_g l t hl l.length 0 k rfl (Nat.zero_le _) (by omega)
  have r1:slices_Index_string_string.f k l t=some r:=r1
  unfold slices_Contains_string_string.f
  rw [r1,Option.bind_some]
  exact congrArg some (decide_eq_decide.2 (by rw [r2,List.drop_zero]))
theorem in_f (l:List ByteArray)(t:ByteArray)(hl:l.length≤1048577):∀(m i k:Nat),l.length - i=m→i≤l.length→m<k→spec_l13In.l0 k (i:Int) l t=some (decide (t∈l.drop i)):=by
  intro m
  induction m with
  | zero=>
    intro i k hm hi hk
    obtain⟨k,rfl⟩:∃q,k=q+1:=⟨k - 1,by omega⟩
    obtain rfl:i=l.length:=by omega
    rw [spec_l13In.l0,if_neg (by omega),List.drop_length]
    exact congrArg some (decide_eq_false (by simp)).symm
  | succ m ih=>
    intro i k hm hi hk
    obtain⟨k,rfl⟩:∃q,k=q+1:=⟨k - 1,by omega⟩
    have hil:i<l.length:=by omega
    by_cases c:l[i]=t
    · rw [spec_l13In.l0,if_pos (by omega),if_pos (by omega),if_pos (by omega),rdS l i hil,if_pos (by rw [c])]
      exact congrArg some (decide_eq_true ((mem_drop l t i hil).2 (.inl c))).symm
    · rw [spec_l13In.l0,if_pos (by omega),if_pos (by omega),if_pos (by omega),rdS l i hil,if_neg (fun q=>c (tl_inj q)),wn i (by omega),ih (i+1) k (by omega) (by omega) (by omega)]
      exact congrArg some (decide_eq_decide.2 (by rw [mem_drop l t i hil];exact⟨.inr,fun q=>q.elim (fun q=>absurd q c) id⟩))
theorem has_f (l:List ByteArray)(t:ByteArray)(hl:l.length≤1048577)(k:Nat)(hk:1048578≤k):spec_l13In.f k l t=some (decide (t∈l)):=by
  have h:=in_f l t hl l.length 0 k rfl (Nat.zero_le _) (by omega)
  rw [List.drop_zero] at h
  exact h
theorem rdc (x:List S41)(i:Nat)(h:i<x.length):rd_T41 x (i:Int)=x[i]:=by simp [rd_T41,h]
theorem rdr (x:List S69)(i:Nat)(h:i<x.length):rd_T69 x (i:Int)=x[i]:=by simp [rd_T69,h]
theorem rda (x:List S57)(i:Nat)(h:i<x.length):rd_T57 x (i:Int)=x[i]:=by simp [rd_T57,h]
theorem at_get {α:Type}{l:List α}{i:Nat}(h:i<l.length):l[i]?=some l[i]:=List.getElem?_eq_getElem h
theorem has_fE (l:List ByteArray)(t:ByteArray)(hl:l.length≤1048577):Evt (fun k=>spec_l13In.f k l t) (decide (t∈l)):=Evt.at_ 1048578 fun k hk=>has_f l t hl k hk
theorem has_gE (l:List ByteArray)(t:ByteArray)(hl:l.length≤1048577):Evt (fun k=>slices_Contains_string_string.f k l t) (decide (t∈l)):=Evt.at_ 1048578 fun k hk=>has_g l t hl k hk
theorem unl_loop (n:Nat) (qs:List (ByteArray×Bool)) (hn:qs.length=n) (hl:n≤1048576) (L:Nat→List ByteArray→Int→Option Bool) (text:Nat→Nat→Option (ByteArray×Bool)) (has:Nat→List ByteArray→ByteArray→Option Bool) (E:Nat→Option Bool) (V:Bool)
    (hs:∀k met (i:Nat),i<n→met.length≤i→L (k+1) met (i:Int)=(text k i).bind fun t=>(if t.2=true then((has k met t.1).bind fun s=>(if s=true then some false else L k (met++ [t.1]) ((i+1:Nat):Int)))else some false))
    (he:∀k met,L (k+1) met (n:Int)=E k) (hE:Evt E V) (ht:∀i (hi:i<qs.length),Evt (fun k=>text k i) qs[i]) (hh:∀met t,met.length≤n→Evt (fun k=>has k met t) (decide (t∈met))):
    ∀(m i:Nat) (met:List ByteArray),n - i=m→i≤n→met.length≤i→Evt (fun k=>L k met (i:Int)) (unl met (qs.drop i)&&V):=by
  intro m
  induction m with
  | zero=>
    intro i met hm hi hlen
    obtain rfl:i=n:=by omega
    rw [←hn,List.drop_length,unl,hn,Bool.true_and]
    exact Evt.succ (Evt.eq hE fun k=>he k met)
  | succ m ih=>
    intro i met hm hi hlen
    have hil:i<n:=by omega
    have hiq:i<qs.length:=by omega
    rw [unl_drop met qs i hiq]
    refine Evt.succ (Evt.eq ?_ fun k=>hs k met i hil hlen)
    refine Evt.bind (ht i hiq) ?_
    by_cases d:qs[i].2=true
    · simp only [d,if_true]
      refine Evt.bind (hh met _ (by omega)) ?_
      by_cases e:qs[i].1∈met
      · simp only [e,decide_true,if_true,Bool.false_and]
        exact Evt.now
      · simp only [e,decide_false,Bool.false_eq_true,if_false]
        exact ih (i+1) _ (by omega) (by omega) (by rw [List.length_append,List.length_singleton];omega)
    · simp only [d,if_false,Bool.false_and]
      exact Evt.now
def TextsC (l:List S41)(qs:List (ByteArray×Bool)):Prop:=qs.length=l.length∧∀i (hi:i<qs.length),Evt (fun k=>spec_CertText.f k (rd_T41 l (i:Int))) qs[i]∧Evt (fun k=>impl_CertText.f k (rd_T41 l (i:Int))) qs[i]
def TextsR (l:List S69)(qs:List (ByteArray×Bool)):Prop:=qs.length=l.length∧∀i (hi:i<qs.length),Evt (fun k=>spec_CrlText.f k (rd_T69 l (i:Int))) qs[i]∧Evt (fun k=>impl_CrlText.f k (rd_T69 l (i:Int))) qs[i]
theorem textsC (l:List S41)(h:∀e∈l,sm41 e):∃qs,TextsC l qs:=by
  obtain⟨qs,h1,h2⟩:=listed (fun i q=>Evt (fun k=>spec_CertText.f k (rd_T41 l (i:Int))) q∧Evt (fun k=>impl_CertText.f k (rd_T41 l (i:Int))) q) l.length (fun i hi=>by
    obtain⟨q,q1,q2,_⟩:=cert_text l[i] (h _ (List.getElem_mem hi))
    rw [←rdc l i hi] at q1 q2
    exact⟨q,q1,q2⟩)
  exact⟨qs,h1,fun i hi=>h2 i _ (at_get hi)⟩
theorem textsR (l:List S69)(h:∀e∈l,sm69 e):∃qs,TextsR l qs:=by
  obtain⟨qs,h1,h2⟩:=listed (fun i q=>Evt (fun k=>spec_CrlText.f k (rd_T69 l (i:Int))) q∧Evt (fun k=>impl_CrlText.f k (rd_T69 l (i:Int))) q) l.length (fun i hi=>by
    obtain⟨q,q1,q2,_⟩:=crl_text l[i] (h _ (List.getElem_mem hi))
    rw [←rdr l i hi] at q1 q2
    exact⟨q,q1,q2⟩)
  exact⟨qs,h1,fun i hi=>h2 i _ (at_get hi)⟩
theorem certs_g (l:List S41)(qs:List (ByteArray×Bool))(hq:TextsC l qs)(hl:l.length≤1048576):Evt (fun k=>impl_Cert_72_0.f k l) (unl [] qs):=by
  have h:=unl_loop l.length qs hq.1 hl (fun k met i=>impl_Cert_72_0.l0 k met i l) (fun k i=>impl_CertText.f k (rd_T41 l (i:Int))) (fun k met t=>slices_Contains_string_string.f k met t) (fun _=>some true) true (fun k met i hi hm=>by
    show impl_Cert_72_0.l0 (k+1) met (i:Int) l=_
    have c2:(met.length+1≤8796093022208)=True:=eq_true (by omega)
    rw [impl_Cert_72_0.l0,if_pos (by omega),if_pos (by omega),if_pos (by omega)]
    simp only [c2,if_true,lets,wn i (by omega)]) (fun k met=>by
    show impl_Cert_72_0.l0 (k+1) met _ l=_
    rw [impl_Cert_72_0.l0,if_neg (by omega)]) Evt.now (fun i hi=>(hq.2 i hi).2) (fun met t hm=>has_gE met t (by omega)) _ 0 [] rfl (Nat.zero_le _) (Nat.zero_le _)
  rw [List.drop_zero,Bool.and_true] at h
  exact h
theorem crls_g (l:List S69)(qs:List (ByteArray×Bool))(hq:TextsR l qs)(hl:l.length≤1048576):Evt (fun k=>impl_Crl_0.f k l) (unl [] qs):=by
  have h:=unl_loop l.length qs hq.1 hl (fun k met i=>impl_Crl_0.l0 k met i l) (fun k i=>impl_CrlText.f k (rd_T69 l (i:Int))) (fun k met t=>slices_Contains_string_string.f k met t) (fun _=>some true) true (fun k met i hi hm=>by
    show impl_Crl_0.l0 (k+1) met (i:Int) l=_
    have c2:(met.length+1≤8796093022208)=True:=eq_true (by omega)
    rw [impl_Crl_0.l0,if_pos (by omega),if_pos (by omega),if_pos (by omega)]
    simp only [c2,if_true,lets,wn i (by omega)]) (fun k met=>by
    show impl_Crl_0.l0 (k+1) met _ l=_
    rw [impl_Crl_0.l0,if_neg (by omega)]) Evt.now (fun i hi=>(hq.2 i hi).2) (fun met t hm=>has_gE met t (by omega)) _ 0 [] rfl (Nat.zero_le _) (Nat.zero_le _)
  rw [List.drop_zero,Bool.and_true] at h
  exact h
noncomputable def anc (a:S57):ByteArray×Bool:=(a.f0,nameB a.f0&&decide ((a.f1.size:Int)=15))
theorem anc_g (a:S57)(h:a.f0.size≤1048576):Evt (fun k=>impl_StoreOk_1.f k a) (anc a):=Evt.at_ 2097156 fun k hk=>by
  show impl_StoreOk_1.f k a=_
  unfold impl_StoreOk_1.f anc
  rw [name_g a.f0 h k hk,Option.bind_some]
  cases nameB a.f0
  · rfl
  · rfl
theorem anc_f (a:S57)(h:a.f0.size≤1048576):Evt (fun k=>spec_l13Anchor.f k a) (anc a).2:=Evt.at_ 1048577 fun k hk=>by
  show spec_l13Anchor.f k a=_
  unfold spec_l13Anchor.f anc
  rw [name_f a.f0 h k hk,Option.bind_some]
  cases nameB a.f0
  · rfl
  · rfl
theorem ancs_g (l:List S57)(h:l.length≤1048576∧∀e∈l,sm57 e):Evt (fun k=>impl_Anchor_0.f k l) (unl [] (l.map anc)):=by
  have hl:=h.1
  have h:=unl_loop l.length (l.map anc) (List.length_map ..) hl (fun k met i=>impl_Anchor_0.l0 k met i l) (fun k i=>impl_StoreOk_1.f k (rd_T57 l (i:Int))) (fun k met t=>slices_Contains_string_string.f k met t) (fun _=>some true) true (fun k met i hi hm=>by
    show impl_Anchor_0.l0 (k+1) met (i:Int) l=_
    have c2:(met.length+1≤8796093022208)=True:=eq_true (by omega)
    rw [impl_Anchor_0.l0,if_pos (by omega),if_pos (by omega),if_pos (by omega)]
    simp only [c2,if_true,lets,wn i (by omega)]) (fun k met=>by
    show impl_Anchor_0.l0 (k+1) met _ l=_
    rw [impl_Anchor_0.l0,if_neg (by omega)]) Evt.now (fun i hi=>by
    rw [List.length_map] at hi
    rw [List.getElem_map,rda l i hi]
    exact anc_g _ (h.2 _ (List.getElem_mem hi)).1) (fun met t hm=>has_gE met t (by omega)) _ 0 [] rfl (Nat.zero_le _) (Nat.zero_le _)
  rw [List.drop_zero,Bool.and_true] at h
  exact h
theorem ahead (a:S39)(hl:a.f2.length≤1048576)(i:Nat)(hi:i<a.f2.length)(V:Bool)(hV:Evt (fun k=>spec_StoreOk.l2 k ((i+1:Nat):Int) a) V):
    ∀(m j:Nat),i - j=m→j≤i→Evt (fun k=>spec_StoreOk.l3 k (j:Int) a (i:Int)) (if a.f2[i].f0∈((a.f2.take i).map (·.f0)).drop j then false else V):=by
  intro m
  induction m with
  | zero=>
    intro j hm hj
    obtain rfl:j=i:=by omega
    have e:((a.f2.take j).map (·.f0)).drop j=[]:=List.drop_eq_nil_of_le (by rw [List.length_map,List.length_take];omega)
    rw [e,if_neg (by simp)]
    refine Evt.succ (Evt.eq hV fun k=>?_)
    rw [spec_StoreOk.l3,if_neg (by omega),wn j (by omega)]
  | succ m ih=>
    intro j hm hj
    have hjl:j<((a.f2.take i).map (·.f0)).length:=by rw [List.length_map,List.length_take];omega
    have e:((a.f2.take i).map (·.f0))[j]=(a.f2[j]'(by omega)).f0:=by rw [List.getElem_map,List.getElem_take]
    have c:=mem_drop ((a.f2.take i).map (·.f0)) a.f2[i].f0 j hjl
    rw [e] at c
    by_cases d:(a.f2[j]'(by omega)).f0=a.f2[i].f0
    · rw [if_pos (c.2 (.inl d))]
      refine Evt.succ (.of fun k=>?_)
      rw [spec_StoreOk.l3,if_pos (by omega),if_pos (by omega),if_pos (by omega),rda _ j (by omega),rda _ i hi,if_pos (by rw [d])]
    · refine Evt.succ (Evt.eq (g:=fun k=>spec_StoreOk.l3 k ((j+1:Nat):Int) a (i:Int)) ?_ fun k=>?_)
      · have:=ih (j+1) (by omega) (by omega)
        by_cases q:a.f2[i].f0∈((a.f2.take i).map (·.f0)).drop (j+1)
        · rw [if_pos q] at this
          rw [if_pos (c.2 (.inr q))]
          exact this
        · rw [if_neg q] at this
          rw [if_neg (fun z=>(c.1 z).elim d q)]
          exact this
      · rw [spec_StoreOk.l3,if_pos (by omega),if_pos (by omega),if_pos (by omega),rda _ j (by omega),rda _ i hi,if_neg (fun q=>d (tl_inj q)),wn j (by omega)]
theorem ancs_f (a:S39)(h:a.f2.length≤1048576∧∀e∈a.f2,sm57 e):∀(m i:Nat),a.f2.length - i=m→i≤a.f2.length→Evt (fun k=>spec_StoreOk.l2 k (i:Int) a) (unl ((a.f2.take i).map (·.f0)) ((a.f2.map anc).drop i)):=by
  have hl:=h.1
  intro m
  induction m with
  | zero=>
    intro i hm hi
    obtain rfl:i=a.f2.length:=by omega
    rw [List.drop_eq_nil_of_le (by rw [List.length_map];omega),unl]
    exact Evt.succ (.of fun k=>by rw [spec_StoreOk.l2,if_neg (by omega)])
  | succ m ih=>
    intro i hm hi
    have hil:i<a.f2.length:=by omega
    have hiq:i<(a.f2.map anc).length:=by rw [List.length_map];omega
    have c1:((i:Int)<(a.f2.length:Int))=True:=eq_true (by omega)
    have c0:((0:Int)≤(i:Int))=True:=eq_true (by omega)
    rw [unl_drop _ _ i hiq]
    refine Evt.succ ?_
    simp only [spec_StoreOk.l2,c0,c1,if_true,rda _ i hil,List.getElem_map]
    refine Evt.bind (anc_f _ (h.2 _ (List.getElem_mem hil)).1) ?_
    by_cases d:(anc a.f2[i]).2=true
    · simp only [d,if_true]
      have ih:=ih (i+1) (by omega) (by omega)
      rw [List.take_add_one,at_get hil,Option.toList_some,List.map_append,List.map_singleton] at ih
      have:=ahead a hl i hil _ ih i 0 rfl (Nat.zero_le _)
      rw [List.drop_zero] at this
      exact this
    · simp only [d,if_false]
      exact Evt.now
theorem store_ok (a:S39)(h:sm39 a):∃v,Evt (fun k=>spec_StoreOk.f k a) v∧Evt (fun k=>impl_StoreOk.f k a) v:=by
  obtain⟨h0,h1,h2,_⟩:=h
  obtain⟨qs,hq⟩:=textsC a.f0 h0.2
  obtain⟨rs,hr⟩:=textsR a.f1 h1.2
  by_cases c0:(a.f0.length:Int)≤12
  · by_cases c1:(a.f1.length:Int)≤8
    · by_cases c2:(a.f2.length:Int)≤3
      · refine⟨unl [] qs&&(unl [] rs&&unl [] (a.f2.map anc)),?_,?_⟩
        · have x2:=ancs_f a h2 _ 0 rfl (Nat.zero_le _)
          rw [List.take_zero,List.map_nil,List.drop_zero] at x2
          have x1:=unl_loop a.f1.length rs hr.1 h1.1 (fun k met i=>spec_StoreOk.l1 k met i a) (fun k i=>spec_CrlText.f k (rd_T69 a.f1 (i:Int))) (fun k met t=>spec_l13In.f k met t) (fun k=>spec_StoreOk.l2 k 0 a) _ (fun k met i hi hm=>by
            show spec_StoreOk.l1 (k+1) met (i:Int) a=_
            have c2:(met.length+1≤8796093022208)=True:=eq_true (by omega)
            rw [spec_StoreOk.l1,if_pos (by omega),if_pos (by omega),if_pos (by omega)]
            simp only [c2,if_true,lets,wn i (by omega)]) (fun k met=>by
            show spec_StoreOk.l1 (k+1) met _ a=_
            rw [spec_StoreOk.l1,if_neg (by omega)]) x2 (fun i hi=>(hr.2 i hi).1) (fun met t hm=>has_fE met t (by omega)) _ 0 [] rfl (Nat.zero_le _) (Nat.zero_le _)
          rw [List.drop_zero] at x1
          have x0:=unl_loop a.f0.length qs hq.1 h0.1 (fun k met i=>spec_StoreOk.l0 k met i a) (fun k i=>spec_CertText.f k (rd_T41 a.f0 (i:Int))) (fun k met t=>spec_l13In.f k met t) (fun k=>spec_StoreOk.l1 k [] 0 a) _ (fun k met i hi hm=>by
            show spec_StoreOk.l0 (k+1) met (i:Int) a=_
            have c2:(met.length+1≤8796093022208)=True:=eq_true (by omega)
            rw [spec_StoreOk.l0,if_pos (by omega),if_pos (by omega),if_pos (by omega)]
            simp only [c2,if_true,lets,wn i (by omega)]) (fun k met=>by
            show spec_StoreOk.l0 (k+1) met _ a=_
            rw [spec_StoreOk.l0,if_neg (by omega)]) x1 (fun i hi=>(hq.2 i hi).1) (fun met t hm=>has_fE met t (by omega)) _ 0 [] rfl (Nat.zero_le _) (Nat.zero_le _)
          rw [List.drop_zero] at x0
          refine Evt.eq x0 fun k=>?_
          unfold spec_StoreOk.f
          rw [if_neg (by omega),if_neg (by omega),if_neg (by omega)]
          rfl
        · unfold impl_StoreOk.f
          simp only [c0,c1,c2,if_true]
          refine Evt.bind (certs_g a.f0 qs hq h0.1) ?_
          cases unl [] qs
          · simp only [Bool.false_eq_true,if_false,Bool.false_and]
            exact Evt.now
          · simp only [if_true,Bool.true_and]
            refine Evt.bind (crls_g a.f1 rs hr h1.1) ?_
            cases unl [] rs
            · simp only [Bool.false_eq_true,if_false,Bool.false_and]
              exact Evt.now
            · simp only [if_true,Bool.true_and]
              exact Evt.bind (ancs_g a.f2 h2) Evt.now
      · exact⟨false,.of fun k=>by unfold spec_StoreOk.f;rw [if_neg (by omega),if_neg (by omega),if_pos (by omega)],.of fun k=>by unfold impl_StoreOk.f;rw [if_pos c0,if_pos c1,if_neg c2]⟩
    · exact⟨false,.of fun k=>by unfold spec_StoreOk.f;rw [if_neg (by omega),if_pos (by omega)],.of fun k=>by unfold impl_StoreOk.f;rw [if_pos c0,if_neg c1]⟩
  · exact⟨false,.of fun k=>by unfold spec_StoreOk.f;rw [if_pos (by omega)],.of fun k=>by unfold impl_StoreOk.f;rw [if_neg c0]⟩
end Go.Proofs.YtncddikfafgklaaGreatDoor.StoreFnExactWaysTo

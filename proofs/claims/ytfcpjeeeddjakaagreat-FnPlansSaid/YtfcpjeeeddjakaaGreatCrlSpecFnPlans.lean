/- A list's text and a store, as the reference makes them: they come to an end. Plain lemmas, no condition. -/
import Derived.Test.YtfcpjeeeddjakaaGreatDrawFnPlans
import Derived.Test.YtfcpjeeeddjakaaGreatCopyFnPlans
namespace Go.Proofs.YtfcpjeeeddjakaaGreat.CrlSpecFnPlans
open Go.RowKit YtfcpjeeeddjakaaGreatW.PrintWords YtfcpjeeeddjakaaGreatW.PrintLast ZOpen Z F
open ZP FamFnPlans ItemFnPlans SignFnPlans DigestFnPlans CertSpecFnPlans DrawFnPlans CopyFnPlans
set_option linter.unusedVariables false
set_option linter.unusedSimpArgs false
set_option maxHeartbeats 1000000
def SmR (x:S103):Prop:=x.f0.size≤1000000∧x.f5.length≤10∧x.f6.size≤1000000
theorem sm_c {c:S125}(h:SmC c):sm125 c:=by
  obtain⟨h1,h2,h3,h4,⟨h5,h6⟩,⟨h7,h8⟩,h9⟩:=h
  exact⟨trivial,by omega,by omega,trivial,trivial,by omega,trivial,trivial,trivial,⟨by omega,fun _ _=>trivial⟩,⟨by omega,fun e he=>Nat.le_trans (h6 e he) (by decide)⟩,⟨by omega,fun e he=>Nat.le_trans (h8 e he) (by decide)⟩,by omega,trivial⟩
theorem sm_r {x:S103}(h:SmR x):sm103 x:=by
  obtain⟨h1,h2,h3⟩:=h
  exact⟨by omega,trivial,trivial,trivial,trivial,⟨by omega,fun _ _=>trivial⟩,by omega,trivial⟩
theorem Gets.yes {P:Bool→Prop}{f:Nat→Option Bool}{g:Nat→Option Bool}(h:∃v,Evt f v)(hg:Gets g P)(hf:P false):Gets (fun k=>(f k).bind fun t=>if t=true then g k else some false) P:=by
  obtain⟨v,hv⟩:=h
  refine Gets.bind (P:=fun _=>True) ⟨v,hv,trivial⟩ fun t _=>?_
  exact Gets.ite (fun _=>hg) fun _=>Gets.now hf
def Any {α:Type}(_:α):Prop:=True
theorem revs_e (x:S103)(hx:x.f5.length≤1000):∀m i:Nat,x.f5.length - i<m→Gets (fun k=>spec_CrlOk.l0 k (i:Int) x) Any
  |0,i,h=>absurd h (by omega)
  | m+1,i,h=>by
    refine Gets.succ ?_
    simp only [spec_CrlOk.l0]
    refine Gets.ite (fun c=>Gets.must (by omega) (Gets.must c ?_)) fun _=>Gets.now trivial
    have go:Gets (fun k=>spec_CrlOk.l0 k (wrap64 ((i:Int)+1)) x) Any:=by
      rw [ws (by omega)]
      exact revs_e x hx m (i+1) (by omega)
    refine Gets.yes (num_e _) (Gets.yes (in_e _ _ _) ?_ trivial) trivial
    rw [wp_ (by omega)]
    refine Gets.ite (fun _=>Gets.ite (fun _=>Gets.now trivial) fun _=>Gets.ite (fun d=>Gets.must (by omega) (Gets.must (by omega) (Gets.ite (fun _=>Gets.now trivial) fun _=>go))) fun _=>go) fun _=>Gets.ite (fun d=>Gets.must (by omega) (Gets.must (by omega) (Gets.ite (fun _=>Gets.now trivial) fun _=>go))) fun _=>go
theorem crl_ok (x:S103)(h:SmR x):Gets (fun k=>spec_CrlOk.f k x) Any:=by
  have h1:=h.1
  have h2:=h.2.1
  unfold spec_CrlOk.f
  refine Gets.yes (name_e _ (by omega)) (Gets.yes (in_e _ _ _) (Gets.yes (in_e _ _ _) (Gets.yes (num_e _) (Gets.yes (num_e _) ?_ trivial) trivial) trivial) trivial) trivial
  exact Gets.ite (fun _=>Gets.now trivial) fun _=>Gets.ite (fun _=>revs_e x (by omega) _ 0 (Nat.lt_succ_self _)) fun _=>Gets.now trivial
theorem item_loop (x:S103)(h:SmR x):∀(m i:Nat) (l:List S66),x.f5.length - i<m→l.length=i→(l.map sz).sum≤i * 33000000→i≤10→Gets (fun k=>spec_l10Item.l0 k l (i:Int) x) (fun it=>sz it≤1000000000)
  |0,i,l,hm,hl,hz,hi=>absurd hm (by omega)
  | m + 1, i, l, hm, hl, hz, hi => by
    have h2:=h.2.1
    have h1:=h.1
    refine Gets.succ ?_
    simp only [spec_l10Item.l0]
    refine Gets.ite (fun c=>Gets.must (by omega) (Gets.must c ?_)) fun c=>?_
    · obtain⟨rs,a1,a2⟩:=ints_e ([(rd_T133 x.f5 (i:Int)).f0,(rd_T133 x.f5 (i:Int)).f1]:List Int) (by show 2≤_;decide)
      refine Gets.bind (P:=fun it=>sz it≤33000000) ⟨_,a1,by show sz _≤_;rw [sz_list];omega⟩ fun it hit=>Gets.must (by omega) (Gets.lets_ ?_)
      rw [ws (by omega)]
      exact item_loop x h m (i+1) _ (by omega) (by rw [List.length_append,hl];rfl) (by rw [List.map_append,List.sum_append];simp only [List.map_cons,List.map_nil,List.sum_cons,List.sum_nil];omega) (by omega)
    · obtain⟨i1,a1,_,_,k1,s1⟩:=int_item x.f1
      obtain⟨i2,a2,_,_,k2,s2⟩:=int_item x.f2
      obtain⟨i3,a3,_,_,k3,s3⟩:=int_item x.f3
      obtain⟨i4,a4,_,_,k4,s4⟩:=int_item x.f4
      have z1:=szi i1 k1 s1
      have z2:=szi i2 k2 s2
      have z3:=szi i3 k3 s3
      have z4:=szi i4 k4 s4
      have y1:sz (item12 x.f0)=16+x.f0.size:=szp 12 x.f0
      refine⟨⟨48,(⟨#[]⟩:ByteArray),[item12 x.f0,i1,i2,i3,i4,⟨48,(⟨#[]⟩:ByteArray),l⟩]⟩,?_,?_⟩
      · clear z1 z2 z3 z4 y1 hz
        simp only [text12_f,Option.bind_some]
        exact Evt.bind a1 (Evt.bind a2 (Evt.bind a3 (Evt.bind a4 Evt.now)))
      · show sz _≤_
        rw [sz_list]
        simp only [List.map_cons,List.map_nil,List.sum_cons,List.sum_nil,y1,sz_list]
        omega
theorem item_e (x:S103)(h:SmR x):Gets (fun k=>spec_l10Item.f k x) (fun it=>sz it≤1000000000):=item_loop x h _ 0 [] (Nat.lt_succ_self _) rfl (Nat.zero_le _) (Nat.zero_le _)
theorem text_of (it:S66)(h:sz it≤35184372088832):Gets (fun k=>spec_ItemText.f k it) (fun q=>q.1.size≤4000):=by
  obtain⟨r,r1,_⟩:=item_text it h
  exact⟨r,r1,it_size _ _ r1⟩
theorem crl_text (x:S103)(h:SmR x):Gets (fun k=>spec_CrlText.f k x) (fun q=>q.1.size≤4000):=by
  have h3:=h.2.2
  unfold spec_CrlText.f
  refine Gets.bind (crl_ok x h) fun v _=>Gets.ite (fun _=>?_) fun _=>Gets.now (Nat.zero_le _)
  refine Gets.bind (item_e x h) fun it hit=>?_
  simp only [bytes_f,Option.bind_some]
  have y:sz (item4 x.f6)=16+x.f6.size:=szp 4 x.f6
  refine Gets.bind (text_of _ ?_) fun q hq=>Gets.now hq
  rw [sz_list]
  simp only [List.map_cons,List.map_nil,List.sum_cons,List.sum_nil,y]
  omega
theorem signed_crl (x:S103)(by_:Int)(h:SmR x):Gets (fun k=>spec_SignedCrl.f k x by_) (fun r=>SmR r∧(0≤by_∧by_≤5→r.f6.size=15)):=by
  unfold spec_SignedCrl.f
  rw [crl_f x (sm_r h)]
  simp only [Option.bind_some]
  refine Gets.bind (P:=fun t:ByteArray=>t.size≤4000) ?_ fun t ht=>?_
  · unfold spec_CrlBody.f
    exact Gets.bind (item_e x h) fun it hit=>Gets.bind (text_of it (by omega)) fun q hq=>Gets.now hq
  · obtain⟨s,s1,s2⟩:=sign by_ t (by omega)
    refine Gets.bind (P:=fun t:ByteArray=>t.size≤1000∧(0≤by_→by_≤5→t.size=15)) ⟨s,s1,s2⟩ fun s hs=>Gets.now ⟨⟨h.1,h.2.1,Nat.le_trans hs.1 (by decide)⟩,fun q=>hs.2 q.1 q.2⟩
def SmT (n:Nat)(s:S48):Prop:=(s.f0.length≤n∧∀c∈s.f0,SmC c)∧(s.f1.length≤n∧∀x∈s.f1,SmR x)∧s.f2.length≤3∧∀a∈s.f2,a.f0.size≤1000∧a.f1.size≤1000
theorem sm_s {n:Nat}{s:S48}(hn:n≤100)(h:SmT n s):sm48 s:=by
  obtain⟨⟨h1,h2⟩,⟨h3,h4⟩,h5,h6⟩:=h
  exact⟨⟨by omega,fun c hc=>sm_c (h2 c hc)⟩,⟨by omega,fun x hx=>sm_r (h4 x hx)⟩,⟨by omega,fun a ha=>⟨Nat.le_trans (h6 a ha).1 (by decide),Nat.le_trans (h6 a ha).2 (by decide),trivial⟩⟩,trivial⟩
theorem in_loop (l:List ByteArray)(t:ByteArray)(hl:l.length≤1000):∀m i:Nat,l.length - i<m→Gets (fun k=>spec_l13In.l0 k (i:Int) l t) Any
  |0,i,h=>absurd h (by omega)
  | m+1,i,h=>by
    refine Gets.succ ?_
    simp only [spec_l13In.l0]
    refine Gets.ite (fun c=>Gets.must (by omega) (Gets.must c (Gets.ite (fun _=>Gets.now trivial) fun _=>?_))) fun _=>Gets.now trivial
    rw [ws (by omega)]
    exact in_loop l t hl m (i+1) (by omega)
theorem l13in (l:List ByteArray)(t:ByteArray)(hl:l.length≤1000):Gets (fun k=>spec_l13In.f k l t) Any:=in_loop l t hl _ 0 (Nat.lt_succ_self _)
theorem rd_mem {α:Type}{z:α}{l:List α}{i:Nat}(h:i<l.length):l.getD (i:Int).toNat z∈l:=by
  rw [Int.toNat_natCast,List.getD_eq_getElem?_getD,List.getElem?_eq_getElem h]
  exact List.getElem_mem h
mutual
theorem anc_l2 (s:S48)(hs:s.f2.length≤3)(hn:∀a∈s.f2,a.f0.size≤1000∧a.f1.size≤1000):∀m i:Nat,10 * (s.f2.length - i)<m→Gets (fun k=>spec_StoreOk.l2 k (i:Int) s) Any
  |0,i,h=>absurd h (by omega)
  | m+1,i,h=>by
    refine Gets.succ ?_
    simp only [spec_StoreOk.l2]
    refine Gets.ite (fun c=>Gets.must (by omega) (Gets.must c ?_)) fun _=>Gets.now trivial
    have ha:=hn (rd_T105 s.f2 (i:Int)) (rd_mem (by omega))
    refine Gets.bind (P:=Any) ?_ fun v _=>Gets.ite (fun _=>anc_l3 s hs hn m i 0 (by omega) (by omega) (by omega)) fun _=>Gets.now trivial
    unfold spec_l13Anchor.f
    exact Gets.yes (name_e _ (by omega)) (Gets.now trivial) trivial
theorem anc_l3 (s:S48)(hs:s.f2.length≤3)(hn:∀a∈s.f2,a.f0.size≤1000∧a.f1.size≤1000):∀m i j:Nat,10 * (s.f2.length - i) - j - 1<m→i<s.f2.length→j≤i→Gets (fun k=>spec_StoreOk.l3 k (j:Int) s (i:Int)) Any
  |0,i,j,h,hi,hj=>absurd h (by omega)
  | m+1,i,j,h,hi,hj=>by
    refine Gets.succ ?_
    simp only [spec_StoreOk.l3]
    rw [ws (by omega),ws (by omega)]
    exact Gets.ite (fun c=>Gets.must (by omega) (Gets.must (by omega) (Gets.ite (fun _=>Gets.now trivial) fun _=>anc_l3 s hs hn m i (j+1) (by omega) hi (by omega)))) fun _=>anc_l2 s hs hn m (i+1) (by omega)
end
theorem lists_l1 (s:S48)(h:SmT 13 s):∀(m i:Nat) (l:List ByteArray),s.f1.length - i<m→l.length≤i→Gets (fun k=>spec_StoreOk.l1 k l (i:Int) s) Any
  |0,i,l,hm,hl=>absurd hm (by omega)
  | m+1,i,l,hm,hl=>by
    have h1:=h.2.1.1
    refine Gets.succ ?_
    simp only [spec_StoreOk.l1]
    refine Gets.ite (fun c=>Gets.must (by omega) (Gets.must c ?_)) fun _=>anc_l2 s h.2.2.1 h.2.2.2 _ 0 (Nat.lt_succ_self _)
    refine Gets.bind (crl_text _ (h.2.1.2 (rd_T103 s.f1 (i:Int)) (rd_mem (by omega)))) fun q _=>Gets.ite (fun _=>?_) fun _=>Gets.now trivial
    refine Gets.bind (l13in l q.1 (by omega)) fun v _=>Gets.ite (fun _=>Gets.now trivial) fun _=>Gets.must (by omega) (Gets.lets_ ?_)
    rw [ws (by omega)]
    exact lists_l1 s h m (i+1) _ (by omega) (by rw [List.length_append];simp only [List.length_cons,List.length_nil];omega)
theorem certs_l0 (s:S48)(h:SmT 13 s):∀(m i:Nat) (l:List ByteArray),s.f0.length - i<m→l.length≤i→Gets (fun k=>spec_StoreOk.l0 k l (i:Int) s) Any
  |0,i,l,hm,hl=>absurd hm (by omega)
  | m+1,i,l,hm,hl=>by
    have h1:=h.1.1
    refine Gets.succ ?_
    simp only [spec_StoreOk.l0]
    refine Gets.ite (fun c=>Gets.must (by omega) (Gets.must c ?_)) fun _=>lists_l1 s h _ 0 [] (Nat.lt_succ_self _) (Nat.le_refl _)
    obtain⟨q,q1,_⟩:=cert_text _ (h.1.2 (rd_T125 s.f0 (i:Int)) (rd_mem (by omega)))
    refine Gets.bind (P:=Any) ⟨q,q1,trivial⟩ fun q _=>Gets.ite (fun _=>?_) fun _=>Gets.now trivial
    refine Gets.bind (l13in l q.1 (by omega)) fun v _=>Gets.ite (fun _=>Gets.now trivial) fun _=>Gets.must (by omega) (Gets.lets_ ?_)
    rw [ws (by omega)]
    exact certs_l0 s h m (i+1) _ (by omega) (by rw [List.length_append];simp only [List.length_cons,List.length_nil];omega)
theorem store_e (s:S48)(h:SmT 13 s):Gets (fun k=>spec_StoreOk.f k s) (fun v=>v=true→s.f0.length≤12∧s.f1.length≤8):=by
  unfold spec_StoreOk.f
  refine Gets.ite (fun _=>Gets.now fun h=>by cases h) fun c=>Gets.ite (fun _=>Gets.now fun h=>by cases h) fun d=>Gets.ite (fun _=>Gets.now fun h=>by cases h) fun _=>?_
  exact Gets.mono (fun v _ _=>⟨by omega,by omega⟩) (certs_l0 s h _ 0 [] (Nat.lt_succ_self _) (Nat.le_refl _))
theorem add_cert (s:S48)(c:S125)(hs:SmT 12 s)(hc:SmC c):Gets (fun k=>spec_AddCert.f k s c) (fun r=>SmT 12 r.1∧s.f0.length≤r.1.f0.length):=by
  have hl:=hs.1.1
  have c0:(s.f0.length+1≤764877654105)=True:=eq_true (by omega)
  unfold spec_AddCert.f
  refine Gets.bind (P:=fun r=>r=s) ⟨s,store_fE s (sm_s (by decide) hs),rfl⟩ fun r hr=>?_
  subst hr
  refine Gets.bind (copy_c c hc) fun d hd=>?_
  refine Gets.must (by omega) (Gets.lets_ ?_)
  have h13:SmT 13 (⟨r.f0++ [d],r.f1,r.f2⟩:S48):=⟨⟨by rw [List.length_append,List.length_singleton];omega,fun e he=>(List.mem_append.1 he).elim (hs.1.2 e) fun q=>by rw [List.mem_singleton.1 q];exact hd.1⟩,⟨Nat.le_trans hs.2.1.1 (by decide),hs.2.1.2⟩,hs.2.2⟩
  refine Gets.bind (store_e _ h13) fun v hv=>Gets.ite (fun q=>Gets.now ?_) fun _=>?_
  · exact⟨⟨⟨(hv q).1,h13.1.2⟩,hs.2.1,hs.2.2⟩,by show r.f0.length≤(r.f0++ [d]).length;rw [List.length_append];omega⟩
  · refine Gets.bind (P:=fun r'=>r'=r) ⟨r,store_fE r (sm_s (by decide) hs),rfl⟩ fun r' hr=>Gets.now ?_
    subst hr
    exact⟨hs,Nat.le_refl _⟩
theorem add_crl (s:S48)(x:S103)(hs:SmT 12 s)(hx:SmR x):Gets (fun k=>spec_AddCrl.f k s x) (fun r=>SmT 12 r.1∧s.f0.length≤r.1.f0.length):=by
  have hl:=hs.2.1.1
  unfold spec_AddCrl.f
  refine Gets.bind (P:=fun r=>r=s) ⟨s,store_fE s (sm_s (by decide) hs),rfl⟩ fun r hr=>?_
  subst hr
  rw [crl_f x (sm_r hx)]
  simp only [Option.bind_some]
  refine Gets.must (by omega) (Gets.lets_ ?_)
  have h13:SmT 13 (⟨r.f0,r.f1++ [x],r.f2⟩:S48):=⟨⟨Nat.le_trans hs.1.1 (by decide),hs.1.2⟩,⟨by rw [List.length_append,List.length_singleton];omega,fun e he=>(List.mem_append.1 he).elim (hs.2.1.2 e) fun q=>by rw [List.mem_singleton.1 q];exact hx⟩,hs.2.2⟩
  refine Gets.bind (store_e _ h13) fun v hv=>Gets.ite (fun q=>Gets.now ?_) fun _=>?_
  · exact⟨⟨hs.1,⟨Nat.le_trans (hv q).2 (by decide),h13.2.1.2⟩,hs.2.2⟩,Nat.le_refl _⟩
  · refine Gets.bind (P:=fun r'=>r'=r) ⟨r,store_fE r (sm_s (by decide) hs),rfl⟩ fun r' hr=>Gets.now ?_
    subst hr
    exact⟨hs,Nat.le_refl _⟩
end Go.Proofs.YtfcpjeeeddjakaaGreat.CrlSpecFnPlans

/- What is drawn: it comes to an end, and is small. Plain lemmas, no condition. -/
import Derived.Test.YtfcpjeeeddjakaaGreatDigestFnPlans
import Derived.Test.YtfcpjeeeddjakaaGreatCertSpecFnPlans
namespace Go.Proofs.YtfcpjeeeddjakaaGreat.DrawFnPlans
open Go.RowKit YtfcpjeeeddjakaaGreatW.PrintWords YtfcpjeeeddjakaaGreatW.PrintLast ZOpen Z F
open ZP ItemFnPlans SignFnPlans DigestFnPlans CertSpecFnPlans
set_option linter.unusedVariables false
set_option linter.unusedSimpArgs false
set_option maxHeartbeats 1000000
def Gets {α:Type}(f:Nat→Option α)(P:α→Prop):Prop:=∃r,Evt f r∧P r
section
variable {α β:Type} {P:α→Prop} {Q:β→Prop} {f:Nat→Option α} {g:Nat→α→Option β} {h1 h2:Nat→Option β}
theorem Gets.bind (h:Gets f P)(h':∀a,P a→Gets (fun k=>g k a) Q):Gets (fun k=>(f k).bind (g k)) Q:=by
  obtain⟨a,a1,a2⟩:=h
  obtain⟨r,r1,r2⟩:=h' a a2
  exact⟨r,Evt.bind a1 r1,r2⟩
theorem Gets.now {b:β}(h:Q b):Gets (fun _=>some b) Q:=⟨b,Evt.now,h⟩
theorem Gets.ite {c:Prop} [Decidable c] (t:c→Gets h1 Q)(e:¬c→Gets h2 Q):Gets (fun k=>if c then h1 k else h2 k) Q:=by
  by_cases hc:c
  · obtain⟨r,r1,r2⟩:=t hc
    exact⟨r,r1.eq fun k=>by rw [if_pos hc],r2⟩
  · obtain⟨r,r1,r2⟩:=e hc
    exact⟨r,r1.eq fun k=>by rw [if_neg hc],r2⟩
theorem Gets.must {c:Prop} [Decidable c] (hc:c)(t:Gets h1 Q):Gets (fun k=>if c then h1 k else none) Q:=Gets.ite (fun _=>t) (fun h=>absurd hc h)
theorem Gets.lets_ {γ:Type}{x:γ}{q:Nat→γ→Option β}(h:Gets (fun k=>q k x) Q):Gets (fun k=>lets x (q k)) Q:=h
theorem Gets.mono {Q':β→Prop}(hq:∀b,Q b→Q' b)(h:Gets h1 Q):Gets h1 Q':=by
  obtain⟨r,r1,r2⟩:=h
  exact⟨r,r1,hq r r2⟩
theorem Gets.succ (h:Gets (fun k=>h1 (k+1)) Q):Gets h1 Q:=by
  obtain⟨r,r1,r2⟩:=h
  exact⟨r,Evt.succ r1,r2⟩
theorem Gets.eq (h:Gets h1 Q)(e:∀k,h2 k=h1 k):Gets h2 Q:=by
  obtain⟨r,r1,r2⟩:=h
  exact⟨r,r1.eq e,r2⟩
end
def In (b:List Int)(i:Int):Prop:=0≤i∧i≤(b.length:Int)∧b.length≤2000000
theorem and255 (x:Int):0≤Go.bits .and .i64 x 255∧Go.bits .and .i64 x 255≤255:=by
  obtain⟨n,hn⟩:∃n:Nat,n=(BitVec.ofInt IntKind.i64.bits x&&& BitVec.ofInt IntKind.i64.bits 255).toNat:=⟨_,rfl⟩
  have h:n≤255:=by
    rw [hn,BitVec.toNat_and]
    exact Nat.le_trans Nat.and_le_right (by decide)
  have e:Go.bits .and .i64 x 255=IntKind.i64.wrap (n:Int):=by rw [hn];rfl
  rw [e,IntKind.wrap_i64]
  omega
theorem new_loop (b:List Int)(hb:b.length≤2000000):∀(m i:Nat) (h:Int),4000 - i=m→i≤4000→Gets (fun k=>spec_l01New.l0 k h (i:Int) b) (fun r=>In b r.f1)
  | 0,i,h,hm,hi=>by
    refine Gets.succ (Gets.eq (Gets.now (b:=(⟨b,0,h⟩:S110)) ⟨Int.le_refl _,by show(0:Int)≤_;omega,hb⟩) fun k=>?_)
    rw [spec_l01New.l0]
    by_cases c:(i:Int)<(b.length:Int)
    · rw [if_pos c,if_neg (by omega)]
    · rw [if_neg c]
  | m+1,i,h,hm,hi=>by
    by_cases c:(i:Int)<(b.length:Int)
    · refine Gets.succ (Gets.eq (new_loop b hb m (i+1) (Go.bits .and .i64 (wrap64 ((wrap64 ((wrap64 (h * 131))+(wrap64 (rd b (i:Int)))))+7)) 1073741823) (by omega) (by omega)) fun k=>?_)
      rw [spec_l01New.l0,if_pos c,if_pos (by omega),if_pos (by omega),if_pos c,ws (by omega)]
    · refine Gets.succ (Gets.eq (Gets.now (b:=(⟨b,0,h⟩:S110)) ⟨Int.le_refl _,by show(0:Int)≤_;omega,hb⟩) fun k=>?_)
      rw [spec_l01New.l0,if_neg c]
theorem new_e (b:List Int)(hb:b.length≤2000000):Gets (fun k=>spec_l01New.f k b) (fun r=>In b r.f1):=
  (new_loop b hb 4000 0 _ rfl (by decide)).eq fun k=>rfl
theorem byte (b:List Int)(i h:Int)(hi:In b i):Gets (fun _=>spec_l01Byte_0.f (⟨b,i,h⟩:S110)) (fun r=>In b r.2.f1∧0≤r.1∧r.1≤255):=by
  obtain⟨i0,i1,i2⟩:=hi
  unfold spec_l01Byte_0.f
  refine Gets.ite (fun c=>Gets.must i0 (Gets.must c (Gets.now ⟨?_,and255 _⟩))) (fun c=>Gets.now ⟨⟨i0,i1,i2⟩,and255 _⟩)
  have w:wrap64 (i+1)=i+1:=w64 (by omega) (by omega)
  show In b (wrap64 (i+1))
  have c:i<(b.length:Int):=c
  rw [w]
  exact⟨by omega,by omega,i2⟩
theorem below (b:List Int)(i h n:Int)(hi:In b i):Gets (fun _=>spec_l01Below_0.f (⟨b,i,h⟩:S110) n) (fun r=>In b r.2.f1∧0≤r.1∧(0<n→r.1<n)):=by
  unfold spec_l01Below_0.f
  refine Gets.ite (fun c=>Gets.now ⟨hi,Int.le_refl _,fun h=>by omega⟩) fun c=>?_
  have tm:∀x:Int,0≤x→0≤Int.tmod x n∧Int.tmod x n<n:=fun x hx=>by
    rw [Int.tmod_eq_emod_of_nonneg hx]
    exact⟨Int.emod_nonneg _ (by omega),Int.emod_lt_of_pos _ (by omega)⟩
  refine Gets.ite (fun c2=>Gets.bind (byte b i h hi) fun a ha=>?_) fun c2=>?_
  · have hn:¬n=0:=by omega
    refine Gets.must hn (Gets.now ⟨ha.1,(tm _ ha.2.1).1,fun _=>(tm _ ha.2.1).2⟩)
  · refine Gets.bind (byte b i h hi) fun x hx=>?_
    refine Gets.bind (byte b _ _ hx.1) fun y hy=>?_
    refine Gets.bind (byte b _ _ hy.1) fun z hz=>?_
    refine Gets.bind (byte b _ _ hz.1) fun u hu=>?_
    have hn:¬n=0:=by omega
    obtain⟨_,x0,x1⟩:=hx
    obtain⟨_,y0,y1⟩:=hy
    obtain⟨_,z0,z1⟩:=hz
    obtain⟨u2,u0,u1⟩:=hu
    have e1:wrap64 (x.1 * 16777216)=x.1 * 16777216:=w64 (by omega) (by omega)
    have e2:wrap64 (y.1 * 65536)=y.1 * 65536:=w64 (by omega) (by omega)
    have e3:wrap64 (z.1 * 256)=z.1 * 256:=w64 (by omega) (by omega)
    have e4:wrap64 (x.1 * 16777216+y.1 * 65536)=x.1 * 16777216+y.1 * 65536:=w64 (by omega) (by omega)
    have e5:wrap64 (x.1 * 16777216+y.1 * 65536+z.1 * 256)=x.1 * 16777216+y.1 * 65536+z.1 * 256:=w64 (by omega) (by omega)
    have e6:wrap64 (x.1 * 16777216+y.1 * 65536+z.1 * 256+u.1)=x.1 * 16777216+y.1 * 65536+z.1 * 256+u.1:=w64 (by omega) (by omega)
    have t:=tm (x.1 * 16777216+y.1 * 65536+z.1 * 256+u.1) (by omega)
    refine Gets.must hn (Gets.now ⟨u2,?_,fun _=>?_⟩)
    · show 0≤Int.tmod _ n
      rw [e1,e2,e3,e4,e5,e6]
      exact t.1
    · show Int.tmod _ n<n
      rw [e1,e2,e3,e4,e5,e6]
      exact t.2
theorem once (b:List Int)(i h n:Int)(hi:In b i):Gets (fun _=>spec_l01Once_0.f (⟨b,i,h⟩:S110) n) (fun r=>In b r.2.f1):=by
  unfold spec_l01Once_0.f
  exact Gets.bind (below b i h n hi) fun a ha=>Gets.now ha.1
theorem pick_int (b:List Int)(i h:Int)(l:List Int)(hl:0<l.length)(hi:In b i):Gets (fun _=>spec_l01PickInt_0.f (⟨b,i,h⟩:S110) l) (fun r=>In b r.2.f1):=by
  unfold spec_l01PickInt_0.f
  exact Gets.bind (below b i h _ hi) fun a ha=>Gets.must ha.2.1 (Gets.must (ha.2.2 (by omega)) (Gets.now ha.1))
theorem text_loop (b:List Int)(n:Int)(hn:n≤5000)(a:S110)(ha:a.f0=b):∀(m i:Nat) (l:List Int) (p q:Int),5000 - i=m→i≤5000→l.length=i→(i:Int)≤n∨i=0→In b p→Gets (fun k=>spec_l01Text_0.l1 k l (i:Int) p q a n) (fun r=>In b r.2.f1∧r.1.size≤5000∧(0≤n→(r.1.size:Int)=n))
  | 0, i, l, p, q, hm, hi, hl, hin, hp => by
    refine Gets.succ (Gets.eq (Gets.now (b:=(strOfNums l,(⟨a.f0,p,q⟩:S110))) ⟨hp,?_,fun _=>?_⟩) fun k=>?_)
    · rw [strOfNums_size];omega
    · show((strOfNums l).size:Int)=n
      rw [strOfNums_size];omega
    · rw [spec_l01Text_0.l1,if_neg (by omega)]
  | m + 1, i, l, p, q, hm, hi, hl, hin, hp => by
    by_cases c:(i:Int)<n
    · subst ha
      refine Gets.succ (Gets.eq (Gets.bind (byte a.f0 p q hp) fun x hx=>text_loop a.f0 n hn a rfl m (i+1) (l++ [x.1 % 256]) x.2.f1 x.2.f2 (by omega) (by omega) (by simp [hl]) (.inl (by omega)) hx.1) fun k=>?_)
      have hc:(l.length+1≤140737488355328)=True:=eq_true (by omega)
      rw [spec_l01Text_0.l1,if_pos c]
      simp only [hc,if_true,lets,ws (show i+1≤4611686018427387904 by omega)]
    · refine Gets.succ (Gets.eq (Gets.now (b:=(strOfNums l,(⟨a.f0,p,q⟩:S110))) ⟨hp,?_,fun _=>?_⟩) fun k=>?_)
      · rw [strOfNums_size];omega
      · show((strOfNums l).size:Int)=n
        rw [strOfNums_size];omega
      · rw [spec_l01Text_0.l1,if_neg c]
theorem text_e (b:List Int)(i h n:Int)(hn:n≤5000)(hi:In b i):Gets (fun k=>spec_l01Text_0.f k (⟨b,i,h⟩:S110) n) (fun r=>In b r.2.f1∧r.1.size≤5000∧(0≤n→(r.1.size:Int)=n)):=by
  refine(text_loop b n hn (⟨b,i,h⟩:S110) rfl 5000 0 [] i h rfl (by decide) rfl (.inr rfl) hi).eq fun k=>?_
  rw [spec_l01Text_0.f,if_neg (by omega)]
  rfl
theorem policies (b:List Int)(i h:Int)(hi:In b i):Gets (fun _=>spec_l08Policies_0.f (⟨b,i,h⟩:S110)) (fun r=>In b r.2.f1∧r.1.length≤1000):=by
  unfold spec_l08Policies_0.f
  refine Gets.bind (below b i h 5 hi) fun a ha=>?_
  refine Gets.ite (fun _=>Gets.now ⟨ha.1,Nat.le_of_ble_eq_true rfl⟩) fun _=>?_
  refine Gets.ite (fun _=>Gets.now ⟨ha.1,Nat.le_of_ble_eq_true rfl⟩) fun _=>?_
  refine Gets.ite (fun _=>Gets.now ⟨ha.1,Nat.le_of_ble_eq_true rfl⟩) fun _=>?_
  exact Gets.ite (fun _=>Gets.now ⟨ha.1,Nat.le_of_ble_eq_true rfl⟩) fun _=>Gets.now ⟨ha.1,Nat.le_of_ble_eq_true rfl⟩
theorem names (b:List Int)(i h:Int)(hi:In b i):Gets (fun _=>spec_l08Names_0.f (⟨b,i,h⟩:S110)) (fun r=>In b r.2.f1∧(r.1.length≤1000∧∀e∈r.1,e.size≤1000)):=by
  unfold spec_l08Names_0.f
  refine Gets.bind (below b i h 5 hi) fun a ha=>?_
  refine Gets.ite (fun _=>Gets.now ⟨ha.1,by show([_]:List ByteArray).length≤_;simp,fun e he=>by rw [List.mem_singleton.1 he];decide⟩) fun _=>?_
  refine Gets.ite (fun _=>Gets.now ⟨ha.1,by show([_,_]:List ByteArray).length≤_;simp,fun e he=>by
    rcases List.mem_cons.1 he with rfl|he
    · decide
    · rw [List.mem_singleton.1 he];decide⟩) fun _=>?_
  exact Gets.ite (fun _=>Gets.now ⟨ha.1,by show([_]:List ByteArray).length≤_;simp,fun e he=>by rw [List.mem_singleton.1 he];decide⟩) fun _=>Gets.now ⟨ha.1,Nat.zero_le _,fun e he=>by cases he⟩
theorem copy_c (c:S125)(h:SmC c):Gets (fun _=>spec_l09Copy.f c) (fun d=>SmC d∧d.f5=c.f5):=by
  obtain⟨h1,h2,h3,h4,h5,h7,h9⟩:=h
  have h5':=h5.1
  have h7':=h7.1
  unfold spec_l09Copy.f
  refine Gets.must (by omega) (Gets.lets_ (Gets.must (by omega) (Gets.lets_ (Gets.must (by omega) (Gets.lets_ (Gets.now ?_))))))
  simp only [List.nil_append]
  exact⟨⟨h1,h2,h3,h4,h5,h7,h9⟩,by trivial⟩
theorem signed (c:S125)(by_:Int)(h:SmC c):Gets (fun k=>spec_Signed.f k c by_) (fun d=>SmC d∧d.f5=c.f5):=by
  unfold spec_Signed.f
  refine Gets.bind (copy_c c h) fun d hd=>?_
  obtain⟨t,t1,t2⟩:=body_text c h
  refine Gets.bind (P:=fun t:ByteArray=>t.size≤4000) ⟨t,t1,t2⟩ fun t ht=>?_
  obtain⟨s,s1,s2⟩:=sign by_ t (by omega)
  refine Gets.bind (P:=fun t:ByteArray=>t.size≤1000) ⟨s,s1,s2.1⟩ fun s hs=>Gets.now ?_
  obtain⟨⟨h1,h2,h3,h4,h5,h7,h9⟩,h10⟩:=hd
  exact⟨⟨h1,h2,h3,h4,h5,h7,by show s.size≤_;omega⟩,h10⟩
theorem pub (i:Int):Gets (fun k=>spec_PublicAt.f k i) (fun t=>t.size≤80∧(0≤i→i≤5→t.size=15)):=by
  obtain⟨t,t1,t2⟩:=public_at i
  refine⟨t,t1,t2,fun h0 h5=>?_⟩
  obtain⟨K,hK⟩:=t1
  have h:∀q,spec_PublicAt.f (K+100) i=some q→q.size=15→t.size=15:=fun q hq h=>by
    have:=hq.symm.trans (hK (K+100) (Nat.le_add_right _ _))
    cases this
    exact h
  clear hK t2
  obtain rfl|rfl|rfl|rfl|rfl|rfl:i=0∨i=1∨i=2∨i=3∨i=4∨i=5:=by omega
  · exact h ((spec_PublicAt.f 100 0).getD ⟨#[]⟩) (by kernel_rfl) (by decide+kernel)
  · exact h ((spec_PublicAt.f 100 1).getD ⟨#[]⟩) (by kernel_rfl) (by decide+kernel)
  · exact h ((spec_PublicAt.f 100 2).getD ⟨#[]⟩) (by kernel_rfl) (by decide+kernel)
  · exact h ((spec_PublicAt.f 100 3).getD ⟨#[]⟩) (by kernel_rfl) (by decide+kernel)
  · exact h ((spec_PublicAt.f 100 4).getD ⟨#[]⟩) (by kernel_rfl) (by decide+kernel)
  · exact h ((spec_PublicAt.f 100 5).getD ⟨#[]⟩) (by kernel_rfl) (by decide+kernel)
theorem leaf {c:S125}{by_:Int}{b:List Int}{p q:Int}{z:Prop}(hz:z→c.f5.size=15)(hc:SmC c)(hp:In b p):Gets (fun k=>(spec_Signed.f k c by_).bind fun t=>some ((⟨t.f0,t.f1,t.f2,t.f3,t.f4,t.f5,t.f6,t.f7,t.f8,t.f9,t.f10,t.f11,t.f12⟩:S125),(⟨b,p,q⟩:S110))) (fun r=>In b r.2.f1∧SmC r.1∧(z→r.1.f5.size=15)):=
  Gets.bind (signed c by_ hc) fun t ht=>Gets.now ⟨hp,ht.1,fun h=>by show t.f5.size=15;rw [ht.2];exact hz h⟩
theorem no_texts:([]:List ByteArray).length≤1000∧∀e∈([]:List ByteArray),e.size≤1000:=⟨Nat.zero_le _,fun e he=>by cases he⟩
theorem made (b:List Int)(i h serial:Int)(issuer:ByteArray)(by_:Int)(subject:ByteArray)(house:Int)(ca:Bool)(s1:issuer.size≤1000000)(s2:subject.size≤1000000)(hi:In b i):Gets (fun k=>spec_l09Made_0.f k (⟨b,i,h⟩:S110) serial issuer by_ subject house ca) (fun r=>In b r.2.f1∧SmC r.1∧(0≤house∧house≤5→r.1.f5.size=15)):=by
  unfold spec_l09Made_0.f
  refine Gets.bind (pub house) fun key hk2=>?_
  have hz:0≤house∧house≤5→key.size=15:=fun h=>hk2.2 h.1 h.2
  have hk:key.size≤1000000:=Nat.le_trans hk2.1 (by decide)
  have z:(⟨#[]⟩:ByteArray).size≤1000000:=Nat.zero_le _
  have p2:([1,2]:List Int).length≤1000:=by decide
  refine Gets.bind (once b i h 4 hi) fun a ha=>?_
  refine Gets.ite (fun _=>?_) fun _=>?_
  · refine Gets.bind (policies b _ _ ha) fun pl hpl=>?_
    refine Gets.bind (below b _ _ 12 hpl.1) fun x hx=>?_
    refine Gets.ite (fun _=>leaf hz ⟨s1,s2,hk,hpl.2,no_texts,no_texts,z⟩ hx.1) fun _=>?_
    refine Gets.ite (fun _=>Gets.bind (below b _ _ 2 hx.1) fun y hy=>leaf hz ⟨s1,s2,hk,hpl.2,no_texts,no_texts,z⟩ hy.1) fun _=>?_
    refine Gets.ite (fun _=>Gets.bind (below b _ _ 8 hx.1) fun y hy=>leaf hz ⟨s1,s2,hk,hpl.2,no_texts,no_texts,z⟩ hy.1) fun _=>?_
    refine Gets.ite (fun _=>Gets.bind (names b _ _ hx.1) fun y hy=>leaf hz ⟨s1,s2,hk,hpl.2,hy.2,no_texts,z⟩ hy.1) fun _=>?_
    refine Gets.ite (fun _=>Gets.bind (names b _ _ hx.1) fun y hy=>leaf hz ⟨s1,s2,hk,hpl.2,no_texts,hy.2,z⟩ hy.1) fun _=>?_
    exact Gets.ite (fun _=>leaf hz ⟨s1,s2,hk,hpl.2,no_texts,no_texts,z⟩ hx.1) fun _=>leaf hz ⟨s1,s2,hk,hpl.2,no_texts,no_texts,z⟩ hx.1
  · refine Gets.bind (below b _ _ 12 ha) fun x hx=>?_
    refine Gets.ite (fun _=>leaf hz ⟨s1,s2,hk,p2,no_texts,no_texts,z⟩ hx.1) fun _=>?_
    refine Gets.ite (fun _=>Gets.bind (below b _ _ 2 hx.1) fun y hy=>leaf hz ⟨s1,s2,hk,p2,no_texts,no_texts,z⟩ hy.1) fun _=>?_
    refine Gets.ite (fun _=>Gets.bind (below b _ _ 8 hx.1) fun y hy=>leaf hz ⟨s1,s2,hk,p2,no_texts,no_texts,z⟩ hy.1) fun _=>?_
    refine Gets.ite (fun _=>Gets.bind (names b _ _ hx.1) fun y hy=>leaf hz ⟨s1,s2,hk,p2,hy.2,no_texts,z⟩ hy.1) fun _=>?_
    refine Gets.ite (fun _=>Gets.bind (names b _ _ hx.1) fun y hy=>leaf hz ⟨s1,s2,hk,p2,no_texts,hy.2,z⟩ hy.1) fun _=>?_
    exact Gets.ite (fun _=>leaf hz ⟨s1,s2,hk,p2,no_texts,no_texts,z⟩ hx.1) fun _=>leaf hz ⟨s1,s2,hk,p2,no_texts,no_texts,z⟩ hx.1
theorem target (b:List Int)(i h:Int)(hi:In b i):Gets (fun k=>spec_l13Target_0.f k (⟨b,i,h⟩:S110)) (fun r=>In b r.2.f1∧SmC r.1):=by
  unfold spec_l13Target_0.f
  refine Gets.bind (once b i h 2 hi) fun a ha=>?_
  refine Gets.ite (fun _=>?_) fun _=>?_
  · exact Gets.bind (made b _ _ _ _ _ _ _ _ (by decide) (by decide) ha) fun c hc=>Gets.now ⟨hc.1,hc.2.1⟩
  · exact Gets.bind (made b _ _ _ _ _ _ _ _ (by decide) (by decide) ha) fun c hc=>Gets.now ⟨hc.1,hc.2.1⟩
end Go.Proofs.YtfcpjeeeddjakaaGreat.DrawFnPlans

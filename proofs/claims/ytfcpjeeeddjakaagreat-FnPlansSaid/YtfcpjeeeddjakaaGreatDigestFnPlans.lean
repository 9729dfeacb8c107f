/- The digest, and what a house signs: they come to an end. Plain lemmas, no condition. -/
import Derived.Test.YtfcpjeeeddjakaaGreatSignFnPlans
import Derived.Laws.Closers25b
namespace Go.Proofs.YtfcpjeeeddjakaaGreat.DigestFnPlans
open Go.RowKit YtfcpjeeeddjakaaGreatW.PrintWords YtfcpjeeeddjakaaGreatW.PrintLast ZOpen Z F
open ZP ItemFnPlans NatFnPlans NatDFnPlans SignFnPlans
set_option linter.unusedVariables false
set_option linter.unusedSimpArgs false
set_option maxHeartbeats 1000000
theorem u64_nn (n:Int):0≤IntKind.u64.wrap n:=(Go.wrap_within .u64 n).1
theorem turn (x n:Int)(h:0≤n):∃r,spec_l03Turn.f x n=some r:=⟨_,by rw [spec_l03Turn.f,if_pos h,if_pos (u64_nn _)]⟩
theorem block3 (s:Arr 8):∀(m i:Nat) (h:Arr 8),8 - i=m→i≤8→∃r,Evt (fun k=>spec_l03Block.l3 k (i:Int) h s) r
  |0,i,h,hm,hi=>⟨h,Evt.succ (.of fun k=>by rw [spec_l03Block.l3,if_neg (by omega)])⟩
  | m+1,i,h,hm,hi=>by
    obtain⟨r,e⟩:=block3 s m (i+1) (h.set (i:Int) (IntKind.u32.wrap ((h.get (i:Int))+(s.get (i:Int))))) (by omega) (by omega)
    refine⟨r,Evt.succ (e.eq fun k=>?_)⟩
    rw [spec_l03Block.l3,if_pos (by omega),if_pos (by omega),if_pos (by omega),w_succ (by omega)]
    rfl
theorem block2 (h:Arr 8)(keys w:Arr 64):∀(m i:Nat) (s:Arr 8),64 - i=m→i≤64→∃r,Evt (fun k=>spec_l03Block.l2 k (i:Int) s h keys w) r
  | 0,i,s,hm,hi=>by
    obtain⟨r,e⟩:=block3 s 8 0 h rfl (by decide)
    refine⟨r,Evt.succ (e.eq fun k=>?_)⟩
    rw [spec_l03Block.l2,if_neg (by omega)]
    rfl
  | m+1,i,s,hm,hi=>by
    obtain⟨a1,e1⟩:=turn (s.get 4) 6 (by decide)
    obtain⟨a2,e2⟩:=turn (s.get 4) 11 (by decide)
    obtain⟨a3,e3⟩:=turn (s.get 4) 25 (by decide)
    obtain⟨b1,f1⟩:=turn (s.get 0) 2 (by decide)
    obtain⟨b2,f2⟩:=turn (s.get 0) 13 (by decide)
    obtain⟨b3,f3⟩:=turn (s.get 0) 22 (by decide)
    have hA:((i:Int)<64)=True:=eq_true (by omega)
    have hB:(0≤(i:Int))=True:=eq_true (by omega)
    have key:∀q:Nat→Option (Arr 8),(∃s':Arr 8,∀k,q k=spec_l03Block.l2 k ((i+1:Nat):Int) s' h keys w)→∃r,Evt q r:=by
      rintro q ⟨s',hq⟩
      obtain⟨r,e⟩:=block2 h keys w m (i+1) s' (by omega) (by omega)
      exact⟨r,e.eq hq⟩
    obtain⟨r,e⟩:=key (fun k=>spec_l03Block.l2 (k+1) (i:Int) s h keys w) ⟨_,fun k=>by
      rw [spec_l03Block.l2]
      simp only [hA,hB,if_true,e1,e2,e3,f1,f2,f3,Option.bind_some,lets]
      rw [w_succ (by omega)]⟩
    exact⟨r,Evt.succ e⟩
theorem block1 (h:Arr 8)(keys:Arr 64):∀(m i:Nat) (w:Arr 64),64 - i=m→16≤i→i≤64→∃r,Evt (fun k=>spec_l03Block.l1 k (i:Int) w h keys) r
  | 0,i,w,hm,hi0,hi=>by
    obtain⟨r,e⟩:=block2 h keys w 64 0 h rfl (by decide)
    refine⟨r,Evt.succ (e.eq fun k=>?_)⟩
    rw [spec_l03Block.l1,if_neg (by omega)]
    rfl
  | m+1,i,w,hm,hi0,hi=>by
    have w15:Unit→wrap64 ((i:Int) - 15)=(i:Int) - 15:=fun _=>w64 (by omega) (by omega)
    have w2:Unit→wrap64 ((i:Int) - 2)=(i:Int) - 2:=fun _=>w64 (by omega) (by omega)
    have w16:Unit→wrap64 ((i:Int) - 16)=(i:Int) - 16:=fun _=>w64 (by omega) (by omega)
    have w7:Unit→wrap64 ((i:Int) - 7)=(i:Int) - 7:=fun _=>w64 (by omega) (by omega)
    obtain⟨a1,e1⟩:=turn (w.get ((i:Int) - 15)) 7 (by decide)
    obtain⟨a2,e2⟩:=turn (w.get ((i:Int) - 15)) 18 (by decide)
    obtain⟨b1,f1⟩:=turn (w.get ((i:Int) - 2)) 17 (by decide)
    obtain⟨b2,f2⟩:=turn (w.get ((i:Int) - 2)) 19 (by decide)
    have hA:((i:Int)<64)=True:=eq_true (by omega)
    have hB:(0≤(i:Int))=True:=eq_true (by omega)
    have h1:(0≤(i:Int) - 15)=True:=eq_true (by omega)
    have h2:((i:Int) - 15<64)=True:=eq_true (by omega)
    have h3:(0≤(i:Int) - 2)=True:=eq_true (by omega)
    have h4:((i:Int) - 2<64)=True:=eq_true (by omega)
    have h5:(0≤(i:Int) - 16)=True:=eq_true (by omega)
    have h6:((i:Int) - 16<64)=True:=eq_true (by omega)
    have h7:(0≤(i:Int) - 7)=True:=eq_true (by omega)
    have h8:((i:Int) - 7<64)=True:=eq_true (by omega)
    have key:∀q:Nat→Option (Arr 8),(∃s':Arr 64,∀k,q k=spec_l03Block.l1 k ((i+1:Nat):Int) s' h keys)→∃r,Evt q r:=by
      rintro q ⟨s',hq⟩
      obtain⟨r,e⟩:=block1 h keys m (i+1) s' (by omega) (by omega) (by omega)
      exact⟨r,e.eq hq⟩
    obtain⟨r,e⟩:=key (fun k=>spec_l03Block.l1 (k+1) (i:Int) w h keys) ⟨_,fun k=>by
      rw [spec_l03Block.l1]
      simp only [w15 (),w2 (),w16 (),w7 (),hA,hB,h1,h2,h3,h4,h5,h6,h7,h8,if_true,e1,e2,f1,f2,Option.bind_some,lets]
      rw [w_succ (by omega)]⟩
    exact⟨r,Evt.succ e⟩
theorem block0 (h:Arr 8)(keys:Arr 64)(b:ByteArray)(hb:b.size=64):∀(m i:Nat) (w:Arr 64),16 - i=m→i≤16→∃r,Evt (fun k=>spec_l03Block.l0 k (i:Int) w h b keys) r
  | 0,i,w,hm,hi=>by
    obtain⟨r,e⟩:=block1 h keys 48 16 w rfl (by decide) (by decide)
    refine⟨r,Evt.succ (e.eq fun k=>?_)⟩
    rw [spec_l03Block.l0,if_neg (by omega)]
    rfl
  | m+1,i,w,hm,hi=>by
    have w4:Unit→wrap64 (4 * (i:Int))=4 * (i:Int):=fun _=>w64 (by omega) (by omega)
    have w1:Unit→wrap64 (4 * (i:Int)+1)=4 * (i:Int)+1:=fun _=>w64 (by omega) (by omega)
    have w2:Unit→wrap64 (4 * (i:Int)+2)=4 * (i:Int)+2:=fun _=>w64 (by omega) (by omega)
    have w3:Unit→wrap64 (4 * (i:Int)+3)=4 * (i:Int)+3:=fun _=>w64 (by omega) (by omega)
    have hA:((i:Int)<16)=True:=eq_true (by omega)
    have hA2:((i:Int)<64)=True:=eq_true (by omega)
    have hB:(0≤(i:Int))=True:=eq_true (by omega)
    have h1:(0≤4 * (i:Int))=True:=eq_true (by omega)
    have h2:(4 * (i:Int)<(b.size:Int))=True:=eq_true (by omega)
    have h3:(0≤4 * (i:Int)+1)=True:=eq_true (by omega)
    have h4:(4 * (i:Int)+1<(b.size:Int))=True:=eq_true (by omega)
    have h5:(0≤4 * (i:Int)+2)=True:=eq_true (by omega)
    have h6:(4 * (i:Int)+2<(b.size:Int))=True:=eq_true (by omega)
    have h7:(0≤4 * (i:Int)+3)=True:=eq_true (by omega)
    have h8:(4 * (i:Int)+3<(b.size:Int))=True:=eq_true (by omega)
    have key:∀q:Nat→Option (Arr 8),(∃s':Arr 64,∀k,q k=spec_l03Block.l0 k ((i+1:Nat):Int) s' h b keys)→∃r,Evt q r:=by
      rintro q ⟨s',hq⟩
      obtain⟨r,e⟩:=block0 h keys b hb m (i+1) s' (by omega) (by omega)
      exact⟨r,e.eq hq⟩
    obtain⟨r,e⟩:=key (fun k=>spec_l03Block.l0 (k+1) (i:Int) w h b keys) ⟨_,fun k=>by
      rw [spec_l03Block.l0]
      simp only [w4 (),w1 (),w2 (),w3 (),hA,hA2,hB,h1,h2,h3,h4,h5,h6,h7,h8,if_true,lets]
      rw [w_succ (by omega)]⟩
    exact⟨r,Evt.succ e⟩
theorem block (h:Arr 8)(keys:Arr 64)(b:ByteArray)(hb:b.size=64):∃r,Evt (fun k=>spec_l03Block.f k h b keys) r:=by
  obtain⟨r,e⟩:=block0 h keys b hb 16 0 (Arr.zero 64) rfl (by decide)
  exact⟨r,e.eq fun k=>rfl⟩
theorem pad1 (s:ByteArray):∀(m:Nat) (l:List Int),m≤8→l.length+m≤100000000000→∃t,Evt (fun k=>spec_PadText.l1 k l ((m:Int) - 1) s) t∧t.size=l.length+m
  |0,l,hm,hl=>⟨strOfNums l,Evt.succ (.of fun k=>by rw [spec_PadText.l1,if_neg (by simp)]),by rw [strOfNums_size];omega⟩
  | m+1,l,hm,hl=>by
    have hc:(l.length+1≤140737488355328)=True:=eq_true (by omega)
    obtain⟨t,t1,t2⟩:=pad1 s m (l++ [((shr .i64 (wrap64 (8 * (s.size:Int))) (IntKind.u64.wrap (8 * ((m:Int) % 18446744073709551616)))) % 256)]) (by omega) (by rw [List.length_append];simp only [List.length_cons,List.length_nil];omega)
    refine⟨t,Evt.succ (t1.eq fun k=>?_),by rw [t2,List.length_append];simp only [List.length_cons,List.length_nil];omega⟩
    have hA:(0≤(m:Int))=True:=eq_true (by omega)
    have hU:(0≤IntKind.u64.wrap (8 * ((m:Int) % 18446744073709551616)))=True:=eq_true (u64_nn _)
    have e1:wrap64 ((m:Int) - 1)=(m:Int) - 1:=w64 (by omega) (by omega)
    rw [show((m+1:Nat):Int) - 1=(m:Int) by omega,spec_PadText.l1]
    simp only [hA,hU,hc,if_true,lets,e1]
theorem pad0 (s:ByteArray):∀(j:Nat) (l:List Int),(l.length+j) % 64=56→l.length+j≤10000000000→∃t,Evt (fun k=>spec_PadText.l0 k l s) t∧t.size % 64=0∧t.size≤l.length+j+8:=by
  intro j
  induction j with
  | zero=>
    intro l h hl
    obtain⟨t,t1,t2⟩:=pad1 s 8 l (by decide) (by omega)
    refine⟨t,Evt.succ (t1.eq fun k=>?_),by omega,by omega⟩
    rw [spec_PadText.l0,if_pos (by omega)]
    rfl
  | succ j ih=>
    intro l h hl
    by_cases c:(l.length:Int) % 64=56
    · obtain⟨t,t1,t2⟩:=pad1 s 8 l (by decide) (by omega)
      refine⟨t,Evt.succ (t1.eq fun k=>?_),by omega,by omega⟩
      rw [spec_PadText.l0,if_pos c]
      rfl
    · have hc:(l.length+1≤140737488355328)=True:=eq_true (by omega)
      have hl1:(l++ [(0:Int)]).length=l.length+1:=by simp
      obtain⟨t,t1,t2,t3⟩:=ih (l++ [0]) (by rw [hl1];omega) (by rw [hl1];omega)
      refine⟨t,Evt.succ (t1.eq fun k=>?_),t2,by omega⟩
      rw [spec_PadText.l0,if_neg c]
      simp only [hc,if_true,lets]
theorem pad (s:ByteArray)(hs:s.size≤1000000000):∃t,Evt (fun k=>spec_PadText.f k s) t∧t.size % 64=0∧t.size≤s.size+200:=by
  have hl:(bytesOf s++ [(128:Int)]).length=s.size+1:=by rw [List.length_append,bytesOf_length];rfl
  obtain⟨j,hj,hj2⟩:∃j,(s.size+1+j) % 64=56∧j<64:=⟨(56+64 - (s.size+1) % 64) % 64,by omega,by omega⟩
  obtain⟨t,t1,t2,t3⟩:=pad0 s j (bytesOf s++ [128]) (by rw [hl];exact hj) (by rw [hl];omega)
  refine⟨t,t1.eq fun k=>?_,t2,by omega⟩
  rw [spec_PadText.f,if_pos (by omega),if_pos (by omega)]
  rfl
theorem dig1 (h:Arr 8):∀(m i:Nat) (l:List Int),8 - i=m→i≤8→l.length=32→∃t,Evt (fun k=>spec_Digest.l1 k l (i:Int) h) t∧t.size=32
  |0,i,l,hm,hi,hl=>⟨strOfNums l,Evt.succ (.of fun k=>by rw [spec_Digest.l1,if_neg (by omega)]),by rw [strOfNums_size];exact hl⟩
  | m+1,i,l,hm,hi,hl=>by
    have w4:Unit→wrap64 (4 * (i:Int))=4 * (i:Int):=fun _=>w64 (by omega) (by omega)
    have w1:Unit→wrap64 (4 * (i:Int)+1)=4 * (i:Int)+1:=fun _=>w64 (by omega) (by omega)
    have w2:Unit→wrap64 (4 * (i:Int)+2)=4 * (i:Int)+2:=fun _=>w64 (by omega) (by omega)
    have w3:Unit→wrap64 (4 * (i:Int)+3)=4 * (i:Int)+3:=fun _=>w64 (by omega) (by omega)
    have hA:((i:Int)<8)=True:=eq_true (by omega)
    have hB:(0≤(i:Int))=True:=eq_true (by omega)
    have h1:(0≤4 * (i:Int))=True:=eq_true (by omega)
    have h2:(4 * (i:Int)<(32:Int))=True:=eq_true (by omega)
    have h3:(0≤4 * (i:Int)+1)=True:=eq_true (by omega)
    have h4:(4 * (i:Int)+1<(32:Int))=True:=eq_true (by omega)
    have h5:(0≤4 * (i:Int)+2)=True:=eq_true (by omega)
    have h6:(4 * (i:Int)+2<(32:Int))=True:=eq_true (by omega)
    have h7:(0≤4 * (i:Int)+3)=True:=eq_true (by omega)
    have h8:(4 * (i:Int)+3<(32:Int))=True:=eq_true (by omega)
    have key:∀q:Nat→Option ByteArray,(∃l':List Int,(∀k,q k=spec_Digest.l1 k l' ((i+1:Nat):Int) h)∧l'.length=32)→∃r,Evt q r∧r.size=32:=by
      rintro q ⟨l',hq,hl'⟩
      obtain⟨r,e,z⟩:=dig1 h m (i+1) l' (by omega) (by omega) hl'
      exact⟨r,e.eq hq,z⟩
    obtain⟨r,e,z⟩:=key (fun k=>spec_Digest.l1 (k+1) l (i:Int) h) ⟨_,fun k=>by
      rw [spec_Digest.l1]
      simp only [w4 (),w1 (),w2 (),w3 (),hA,hB,h1,h2,h3,h4,h5,h6,h7,h8,if_true,lets]
      rw [w_succ (by omega)],by simp only [List.length_set];exact hl⟩
    exact⟨r,Evt.succ e,z⟩
theorem ex_size (s:ByteArray)(a b:Nat)(h:b≤s.size):(s.extract a b).size=b - a:=by rw [ByteArray.size_extract];omega
theorem dig0 (keys:Arr 64)(p:ByteArray)(hp:p.size % 64=0)(hp2:p.size≤10000000000):∀(m i:Nat) (h:Arr 8),p.size / 64 - i=m→i≤p.size / 64→∃t,Evt (fun k=>spec_Digest.l0 k ((64 * i:Nat):Int) h keys p) t∧t.size=32
  | 0,i,h,hm,hi=>by
    obtain⟨t,t1,t2⟩:=dig1 h 8 0 (List.replicate 32 0) rfl (by decide) List.length_replicate
    refine⟨t,Evt.succ (t1.eq fun k=>?_),t2⟩
    rw [spec_Digest.l0,if_neg (by omega)]
    rfl
  | m+1,i,h,hm,hi=>by
    have hb:(p.extract (64 * i) (64 * (i+1))).size=64:=by rw [ex_size _ _ _ (by omega)];omega
    obtain⟨b,b1⟩:=block h keys _ hb
    obtain⟨t,t1,t2⟩:=dig0 keys p hp hp2 m (i+1) b (by omega) (by omega)
    have w:Unit→wrap64 (((64 * i:Nat):Int)+64)=((64 * (i+1):Nat):Int):=fun _=>by rw [w64 (by omega) (by omega)];omega
    refine⟨t,Evt.succ (Evt.eq (Evt.bind b1 (g:=fun k x=>spec_Digest.l0 k ((64 * (i+1):Nat):Int) x keys p) t1) fun k=>?_),t2⟩
    rw [spec_Digest.l0,w (),if_pos (by omega),if_pos (by omega),if_pos (by omega),if_pos (by omega),Int.toNat_natCast,Int.toNat_natCast]
theorem digest (s:ByteArray)(hs:s.size≤1000000000):∃t,Evt (fun k=>spec_Digest.f k s) t∧t.size=32:=by
  obtain⟨p,p1,p2,p3⟩:=pad s hs
  obtain⟨h,h1⟩:∃h,spec_l03First.f=some h:=⟨_,rfl⟩
  obtain⟨ks,k1⟩:∃ks,spec_l03Keys.f=some ks:=⟨_,rfl⟩
  obtain⟨t,t1,t2⟩:=dig0 ks p p2 (by omega) _ 0 h rfl (Nat.zero_le _)
  refine⟨t,Evt.eq (Evt.bind p1 (g:=fun k x=>spec_Digest.l0 k 0 h ks x) t1) fun k=>?_,t2⟩
  rw [spec_Digest.f,h1,Option.bind_some,k1,Option.bind_some]
theorem padded (s:ByteArray)(hs:s.size≤1000000000):∃t,Evt (fun k=>spec_Padded.f k s) t:=by
  obtain⟨d,d1,d2⟩:=digest s hs
  have h1:((6:Int)≤(d.size:Int))=True:=eq_true (by omega)
  have h2:((⟨#[0,1,255,255,255,255,255,255,0]⟩:ByteArray).size+(d.extract 0 6).size≤9223372036854775807)=True:=eq_true (by
    rw [ex_size _ _ _ (by omega)]
    decide)
  refine⟨(⟨#[0,1,255,255,255,255,255,255,0]⟩:ByteArray)++(d.extract 0 6),Evt.eq (Evt.bind d1 (g:=fun k t1=>(if 0≤6 then(if 6≤(t1.size:Int)then(if(⟨#[0,1,255,255,255,255,255,255,0]⟩:ByteArray).size+(t1.extract 0 6).size≤9223372036854775807 then(some ((⟨#[0,1,255,255,255,255,255,255,0]⟩:ByteArray)++(t1.extract 0 6)))else none)else none)else none)) (.of fun k=>?_)) fun k=>rfl⟩
  simp only [h1,h2,if_true]
  rfl
theorem sign_loop:∀(m:Nat) (s:ByteArray),15 - s.size=m→s.size≤1000→∃t,Evt (fun k=>spec_SignWith.l0 k s) t∧t.size≤1000∧(s.size≤15→t.size=15)
  |0,s,hm,hs=>⟨s,Evt.succ (.of fun k=>by rw [spec_SignWith.l0,if_neg (by omega)]),hs,fun h=>by omega⟩
  | m+1,s,hm,hs=>by
    have hz:((⟨#[0]⟩:ByteArray)++s).size=1+s.size:=by rw [ByteArray.size_append];rfl
    obtain⟨t,t1,t2,t3⟩:=sign_loop m ((⟨#[0]⟩:ByteArray)++s) (by omega) (by omega)
    refine⟨t,Evt.succ (t1.eq fun k=>?_),t2,fun h=>t3 (by omega)⟩
    rw [spec_SignWith.l0,if_pos (by omega),if_pos (by show 1+s.size≤_;omega)]
theorem pub_lt (i:Int)(h0:0≤i)(h5:i≤5)(m:List Int)(hm:Evt (fun k=>spec_l06Public.f k i) m):val m<256 ^ 15:=by
  obtain⟨K,hK⟩:=hm
  have h:∀q,spec_l06Public.f (K+100) i=some q→val q<256 ^ 15→val m<256 ^ 15:=fun q hq h=>by
    have:=hq.symm.trans (hK (K+100) (Nat.le_add_right _ _))
    cases this
    exact h
  clear hK
  obtain rfl|rfl|rfl|rfl|rfl|rfl:i=0∨i=1∨i=2∨i=3∨i=4∨i=5:=by omega
  · exact h ((spec_l06Public.f 100 0).getD []) (by kernel_rfl) (by decide+kernel)
  · exact h ((spec_l06Public.f 100 1).getD []) (by kernel_rfl) (by decide+kernel)
  · exact h ((spec_l06Public.f 100 2).getD []) (by kernel_rfl) (by decide+kernel)
  · exact h ((spec_l06Public.f 100 3).getD []) (by kernel_rfl) (by decide+kernel)
  · exact h ((spec_l06Public.f 100 4).getD []) (by kernel_rfl) (by decide+kernel)
  · exact h ((spec_l06Public.f 100 5).getD []) (by kernel_rfl) (by decide+kernel)
theorem sign (i:Int)(s:ByteArray)(hs:s.size≤1000000000):∃t,Evt (fun k=>spec_SignWith.f k i s) t∧t.size≤1000∧(0≤i→i≤5→t.size=15):=by
  by_cases c:(0:Int)≤i∧i≤5
  · obtain⟨p,p1⟩:=padded s hs
    obtain⟨n,n1,n2⟩:=read_nat p
    obtain⟨e,e1,e2⟩:=secret i
    obtain⟨m,m1,m2⟩:=pub_e i
    obtain⟨w,w1,w2,w3⟩:=powmod n e m (by omega) (by omega) (by omega)
    obtain⟨u,u1,u2⟩:=text_lt w (by omega) 15 (by decide) (w3.imp id fun h=>Int.lt_trans h (pub_lt i c.1 c.2 m m1))
    obtain⟨t,t1,t2⟩:=sign_loop _ u rfl (by omega)
    have st:Evt (fun k=>((spec_Padded.f k s).bind fun t4=>((spec_ReadNat.f k t4).bind fun t6=>((spec_SecretAt.f k i).bind fun t9=>((spec_l06Public.f k i).bind fun t12=>((spec_PowMod.f k t6 t9 t12).bind fun t15=>((spec_NatText.f k t15).bind fun t18=>(spec_SignWith.l0 k t18)))))))) t:=by
      refine Evt.bind p1 ?_
      refine Evt.bind n1 ?_
      refine Evt.bind e1 ?_
      refine Evt.bind m1 ?_
      refine Evt.bind w1 ?_
      exact Evt.bind u1 t1
    refine⟨t,st.eq fun k=>?_,t2.1,fun _ _=>t2.2 u2⟩
    rw [spec_SignWith.f,in_f,Option.bind_some,if_pos (decide_eq_true c)]
  · exact⟨⟨#[]⟩,.of fun k=>by rw [spec_SignWith.f,in_f,Option.bind_some,if_neg (by simpa using c)],Nat.zero_le _,fun h1 h2=>absurd ⟨h1,h2⟩ c⟩
end Go.Proofs.YtfcpjeeeddjakaaGreat.DigestFnPlans

/- Questions that are drawn. Plain lemmas, no condition. -/
import Derived.Test.YtfcpjeeeddjakaaGreatDrawFnPlans
namespace Go.Proofs.YtfcpjeeeddjakaaGreat.AskDrawFnPlans
open Go.RowKit YtfcpjeeeddjakaaGreatW.PrintWords YtfcpjeeeddjakaaGreatW.PrintLast ZOpen Z F
open ZP ItemFnPlans CertSpecFnPlans DrawFnPlans
set_option linter.unusedVariables false
set_option linter.unusedSimpArgs false
set_option maxHeartbeats 1000000
def Few (l:List ByteArray)(n:Nat):Prop:=l.length≤n∧∀e∈l,e.size≤5000
theorem Few.snoc {l:List ByteArray}{n:Nat}{t:ByteArray}(h:Few l n)(ht:t.size≤5000):Few (l++ [t]) (n+1):=by
  refine⟨by rw [List.length_append];have:=h.1;simp only [List.length_cons,List.length_nil];omega,fun e he=>?_⟩
  rcases List.mem_append.1 he with he|he
  · exact h.2 e he
  · rw [List.mem_singleton.1 he];exact ht
theorem ask_loop (b:List Int)(a:S110)(ha:a.f0=b)(t3 t5 t11:Int×S110)(t13:Bool×S110)(t23:Int×S110):∀(m i:Nat) (l:List ByteArray) (p q:Int),2 - i=m→i≤2→Few l i→In b p→
    Gets (fun k=>spec_l14Ask_0.l0 k l (i:Int) p q a t3 t5 t11 t13 t23) (fun r=>In b r.2.f1∧Few r.1.f0 2):=by
  subst ha
  intro m
  induction m with
  | zero=>
    intro i l p q hm hi hl hp
    refine Gets.succ (Gets.eq (Gets.bind (below a.f0 p q 2 hp) (g:=fun k t121=>some ((⟨l,t3.1,t5.1,t11.1,t23.1,t13.1⟩:S26),(⟨a.f0,t121.2.f1,t121.2.f2⟩:S110))) fun x hx=>Gets.now ⟨hx.1,Nat.le_trans hl.1 hi,hl.2⟩) fun k=>?_)
    rw [spec_l14Ask_0.l0]
    obtain⟨r,⟨K,r1⟩,_,r2,r3⟩:=below a.f0 p q 2 hp
    have e:=r1 K (Nat.le_refl _)
    simp only at e
    rw [e,Option.bind_some,Option.bind_some]
    have r3:=r3 (by decide)
    rw [show wrap64 (1+r.1)=1+r.1 from w64 (by omega) (by omega),if_neg (by omega)]
  | succ m ih=>
    intro i l p q hm hi hl hp
    have hll:=hl.1
    have rec_:∀(t:ByteArray) (p q:Int),t.size≤5000→In a.f0 p→Gets (fun k=>(if l.length+1≤8796093022208 then(lets (l++([t]:List ByteArray)) fun y=>(spec_l14Ask_0.l0 k y (wrap64 ((i:Int)+1)) p q a t3 t5 t11 t13 t23))else none)) (fun r=>In a.f0 r.2.f1∧Few r.1.f0 2):=by
      intro t p q ht hp
      refine Gets.must (by omega) (Gets.lets_ ?_)
      rw [ws (by omega)]
      exact ih (i+1) (l++ [t]) p q (by omega) (by omega) (hl.snoc ht) hp
    refine Gets.succ (Gets.eq (Gets.bind (below a.f0 p q 2 hp) (g:=fun k t121=>(if(i:Int)<(wrap64 (1+t121.1))then((spec_l13Target_0.f k (⟨a.f0,t121.2.f1,t121.2.f2⟩:S110)).bind fun t124=>((spec_CertText.f k t124.1).bind fun t129=>(if t129.2=true then((spec_l01Once_0.f (⟨a.f0,t124.2.f1,t124.2.f2⟩:S110) 8).bind fun t132=>(if t132.1=true then((spec_l01Text_0.f k (⟨a.f0,t132.2.f1,t132.2.f2⟩:S110) 5).bind fun t135=>(if l.length+1≤8796093022208 then(lets (l++([t135.1]:List ByteArray)) fun y140=>(spec_l14Ask_0.l0 k y140 (wrap64 ((i:Int)+1)) t135.2.f1 t135.2.f2 a t3 t5 t11 t13 t23))else none))else(if l.length+1≤8796093022208 then(lets (l++([t129.1]:List ByteArray)) fun y147=>(spec_l14Ask_0.l0 k y147 (wrap64 ((i:Int)+1)) t132.2.f1 t132.2.f2 a t3 t5 t11 t13 t23))else none)))else((spec_l01Text_0.f k (⟨a.f0,t124.2.f1,t124.2.f2⟩:S110) 5).bind fun t151=>(if l.length+1≤8796093022208 then(lets (l++([t151.1]:List ByteArray)) fun y156=>(spec_l14Ask_0.l0 k y156 (wrap64 ((i:Int)+1)) t151.2.f1 t151.2.f2 a t3 t5 t11 t13 t23))else none)))))else(some ((⟨l,t3.1,t5.1,t11.1,t23.1,t13.1⟩:S26),(⟨a.f0,t121.2.f1,t121.2.f2⟩:S110))))) fun x hx=>?_) fun k=>?_)
    · refine Gets.ite (fun _=>?_) fun _=>Gets.now ⟨hx.1,Nat.le_trans hll hi,hl.2⟩
      refine Gets.bind (target a.f0 _ _ hx.1) fun c hc=>?_
      obtain⟨ct,c1,c2⟩:=cert_text c.1 hc.2
      refine Gets.bind (P:=fun q:ByteArray×Bool=>q.1.size≤4000) ⟨ct,c1,c2⟩ fun ct hct=>?_
      refine Gets.ite (fun _=>?_) fun _=>?_
      · refine Gets.bind (once a.f0 _ _ 8 hc.1) fun o ho=>?_
        refine Gets.ite (fun _=>?_) fun _=>?_
        · exact Gets.bind (text_e a.f0 _ _ 5 (by decide) ho) fun t ht=>rec_ t.1 _ _ ht.2.1 ht.1
        · exact rec_ ct.1 _ _ (Nat.le_trans hct (by decide)) ho
      · exact Gets.bind (text_e a.f0 _ _ 5 (by decide) hc.1) fun t ht=>rec_ t.1 _ _ ht.2.1 ht.1
    · rw [spec_l14Ask_0.l0]
theorem ask_e (b:List Int)(i h:Int)(hi:In b i):Gets (fun k=>spec_l14Ask_0.f k (⟨b,i,h⟩:S110)) (fun r=>In b r.2.f1∧Few r.1.f0 2):=by
  unfold spec_l14Ask_0.f
  refine Gets.bind (below b i h 3 hi) fun x hx=>?_
  refine Gets.bind (below b _ _ 4 hx.1) fun y hy=>?_
  refine Gets.bind (pick_int b _ _ _ (by decide) hy.1) fun z hz=>?_
  refine Gets.bind (once b _ _ 2 hz) fun u hu=>?_
  refine Gets.bind (pick_int b _ _ _ (by decide) hu) fun v hv=>?_
  exact ask_loop b (⟨b,i,h⟩:S110) rfl x y z u v 2 0 [] _ _ rfl (by decide) ⟨Nat.le_refl _,fun e he=>by cases he⟩ hv
theorem long_loop (n x:Int)(w:Nat)(h0:0≤n)(h1:n≤10000)(hw:n=(w:Int)):∀(m i:Nat) (l:List Int),w - i=m→i≤w→l.length=w→Gets (fun k=>spec_l01Long.l0 k l (i:Int) n x w) (fun t=>t.size=w)
  | 0,i,l,hm,hi,hl=>by
    refine Gets.succ (Gets.eq (Gets.now (b:=strOfNums l) (by rw [strOfNums_size];exact hl)) fun k=>?_)
    rw [spec_l01Long.l0,if_neg (by omega)]
  | m+1,i,l,hm,hi,hl=>by
    refine Gets.succ (Gets.eq (long_loop n x w h0 h1 hw m (i+1) (l.set i x) (by omega) (by omega) (by rw [List.length_set];exact hl)) fun k=>?_)
    rw [spec_l01Long.l0,if_pos (by omega),if_pos (by omega),if_pos (by omega),ws (by omega)]
    rfl
theorem long_e (n x:Int)(h0:0≤n)(h1:n≤10000):Gets (fun k=>spec_l01Long.f k n x) (fun t=>(t.size:Int)=n):=by
  unfold spec_l01Long.f
  refine Gets.must h0 (Gets.must (by omega) (Gets.lets_ ?_))
  exact Gets.mono (fun t ht=>by rw [ht];omega) (long_loop n x n.toNat h0 h1 (by omega) _ 0 (List.replicate n.toNat 0) rfl (Nat.zero_le _) List.length_replicate)
theorem any_e (b:List Int)(i h:Int)(hi:In b i):Gets (fun k=>spec_l14Any_0.f k (⟨b,i,h⟩:S110)) (fun r=>In b r.2.f1∧Few r.1.f0 3):=by
  unfold spec_l14Any_0.f
  refine Gets.bind (below b i h 12 hi) fun x hx=>?_
  refine Gets.bind (below b _ _ 60 hx.1) fun y hy=>?_
  refine Gets.bind (ask_e b _ _ hy.1) fun a ha=>?_
  have h2:=ha.2.1
  refine Gets.bind (P:=fun c:S26=>Few c.f0 2) ?_ fun c hc=>?_
  · unfold spec_l14Copy.f
    refine Gets.must (by omega) (Gets.lets_ (Gets.now ?_))
    simp only [List.nil_append]
    exact ha.2
  · have hc3:Few c.f0 3:=⟨Nat.le_trans hc.1 (by decide),hc.2⟩
    have m3:0≤Int.tmod y.1 3∧Int.tmod y.1 3<3:=by
      rw [Int.tmod_eq_emod_of_nonneg hy.2.1]
      exact⟨by omega,by omega⟩
    have m2:0≤Int.tmod y.1 2∧Int.tmod y.1 2<2:=by
      rw [Int.tmod_eq_emod_of_nonneg hy.2.1]
      exact⟨by omega,by omega⟩
    refine Gets.ite (fun _=>Gets.now ⟨ha.1,Nat.zero_le _,fun e he=>by cases he⟩) fun _=>?_
    refine Gets.ite (fun _=>?_) fun _=>?_
    · rw [show wrap64 (400+Int.tmod y.1 2)=400+Int.tmod y.1 2 from w64 (by omega) (by omega)]
      refine Gets.bind (long_e _ 97 (by omega) (by omega)) fun t ht=>?_
      refine Gets.must (by have:=hc.1;omega) (Gets.lets_ (Gets.now ⟨ha.1,hc.snoc (by omega)⟩))
    · refine Gets.ite (fun _=>Gets.must m3.1 (Gets.must m3.2 (Gets.now ⟨ha.1,hc3⟩))) fun _=>?_
      refine Gets.ite (fun _=>Gets.now ⟨ha.1,hc3⟩) fun _=>?_
      exact Gets.ite (fun _=>Gets.must m3.1 (Gets.must m3.2 (Gets.now ⟨ha.1,hc3⟩))) fun _=>Gets.now ⟨ha.1,hc3⟩
end Go.Proofs.YtfcpjeeeddjakaaGreat.AskDrawFnPlans

/- Sums, figures read, the digest, and what a house signs: they come to an end. Plain lemmas, no condition. -/
import Derived.Test.YtfcpjeeeddjakaaGreatNatDFnPlans
namespace Go.Proofs.YtfcpjeeeddjakaaGreat.SignFnPlans
open Go.RowKit YtfcpjeeeddjakaaGreatW.PrintWords YtfcpjeeeddjakaaGreatW.PrintLast ZOpen Z F
open ZP ItemFnPlans NatFnPlans NatBFnPlans NatCFnPlans NatDFnPlans
set_option linter.unusedVariables false
set_option linter.unusedSimpArgs false
set_option maxHeartbeats 1000000
theorem add_fin {out a b:List Int}(ho:Lim out)(hl:out.length≤3000000000)(i:Nat)(ha:a.length≤i)(hb:b.length≤i):∃t,Evt (fun k=>spec_NatAdd.l0 k out 0 (i:Int) a b) t∧Lim t∧t.length≤40:=by
  by_cases c:40<(out.length:Int)
  · exact⟨[],Evt.succ (.of fun k=>by rw [spec_NatAdd.l0,if_neg (by omega),if_neg (by omega),if_neg (by decide),if_pos c]),Lim.nil,Nat.zero_le _⟩
  · exact⟨out,Evt.succ (.of fun k=>by rw [spec_NatAdd.l0,if_neg (by omega),if_neg (by omega),if_neg (by decide),if_neg c]),ho,by omega⟩
theorem add_loop {a b:List Int}(ha:Lim a)(hb:Lim b)(la:a.length≤1000000000)(lb:b.length≤1000000000):∀(m i:Nat) (out:List Int) (c:Int),a.length+b.length - i=m→Lim out→out.length≤i+1→i≤2000000000→(c=0∨c=1)→∃t,Evt (fun k=>spec_NatAdd.l0 k out c (i:Int) a b) t∧Lim t∧t.length≤40:=by
  intro m
  induction m with
  | zero=>
    intro i out c hm ho hol hi hc
    have h1:a.length≤i:=by omega
    have h2:b.length≤i:=by omega
    rcases hc with rfl|rfl
    · exact add_fin ho (by omega) i h1 h2
    · obtain⟨t,t1,t2⟩:=add_fin (a:=a) (b:=b) (out:=out++ [1]) (ho.app (Lim.one (by decide) (by decide))) (by rw [List.length_append];simp only [List.length_cons,List.length_nil];omega) (i+1) (by omega) (by omega)
      have hcc:(out.length+1≤17592186044416)=True:=eq_true (by omega)
      have w:wrap64 (Int.tdiv 1 10000)=0:=w64 (by decide) (by decide)
      refine⟨t,Evt.succ (t1.eq fun k=>?_),t2⟩
      rw [spec_NatAdd.l0,if_neg (by omega),if_neg (by omega),if_pos (by decide),w,w_succ (by omega)]
      simp only [hcc,if_true,lets]
      rfl
  | succ m ih=>
    intro i out c hm ho hol hi hc
    have hcc:(out.length+1≤17592186044416)=True:=eq_true (by omega)
    have fin:∀n:Int,0≤n→n≤19999→∃t,Evt (fun k=>spec_NatAdd.l0 k (out++ [Int.tmod n 10000]) (wrap64 (Int.tdiv n 10000)) ((i+1:Nat):Int) a b) t∧Lim t∧t.length≤40:=by
      intro n n0 n1
      have t1:Int.tmod n 10000=n % 10000:=Int.tmod_eq_emod_of_nonneg n0
      have t2:Int.tdiv n 10000=n / 10000:=Int.tdiv_eq_ediv_of_nonneg n0
      have w:wrap64 (n / 10000)=n / 10000:=w64 (by omega) (by omega)
      rw [t1,t2,w]
      exact ih (i+1) _ _ (by omega) (ho.app (Lim.one (by omega) (by omega))) (by rw [List.length_append];simp only [List.length_cons,List.length_nil];omega) (by omega) (by omega)
    have hcb:0≤c∧c≤1:=by omega
    by_cases c1:i<a.length
    · have ga:=ha.get c1
      have w1:wrap64 (c+a[i])=c+a[i]:=w64 (by omega) (by omega)
      by_cases c2:i<b.length
      · have gb:=hb.get c2
        have w2:wrap64 (c+a[i]+b[i])=c+a[i]+b[i]:=w64 (by omega) (by omega)
        obtain⟨t,t1,t2⟩:=fin (c+a[i]+b[i]) (by omega) (by omega)
        refine⟨t,Evt.succ (t1.eq fun k=>?_),t2⟩
        rw [spec_NatAdd.l0,if_pos (by omega),if_pos (by omega),if_pos (by omega),if_pos (by omega),if_pos (by omega),rdn a i c1,rdn b i c2,w1,w2,w_succ (by omega)]
        simp only [hcc,if_true,lets]
      · obtain⟨t,t1,t2⟩:=fin (c+a[i]) (by omega) (by omega)
        refine⟨t,Evt.succ (t1.eq fun k=>?_),t2⟩
        rw [spec_NatAdd.l0,if_pos (by omega),if_pos (by omega),if_pos (by omega),if_neg (by omega),rdn a i c1,w1,w_succ (by omega)]
        simp only [hcc,if_true,lets]
    · by_cases c2:i<b.length
      · have gb:=hb.get c2
        have w2:wrap64 (c+b[i])=c+b[i]:=w64 (by omega) (by omega)
        obtain⟨t,t1,t2⟩:=fin (c+b[i]) (by omega) (by omega)
        refine⟨t,Evt.succ (t1.eq fun k=>?_),t2⟩
        rw [spec_NatAdd.l0,if_neg (by omega),if_pos (by omega),if_pos (by omega),if_pos (by omega),rdn b i c2,w2,w_succ (by omega)]
        simp only [hcc,if_true,lets]
      · rcases hc with rfl|rfl
        · exact add_fin ho (by omega) i (by omega) (by omega)
        · obtain⟨t,t1,t2⟩:=fin 1 (by decide) (by decide)
          refine⟨t,Evt.succ (t1.eq fun k=>?_),t2⟩
          rw [spec_NatAdd.l0,if_neg (by omega),if_neg (by omega),if_pos (by decide),w_succ (by omega)]
          simp only [hcc,if_true,lets]
theorem add (a b:List Int)(la:a.length≤1000000000)(lb:b.length≤1000000000):∃t,Evt (fun k=>spec_NatAdd.f k a b) t∧Lim t∧t.length≤40:=by
  obtain⟨v,v1,v2⟩:=nat_ok a la
  obtain⟨u,u1,u2⟩:=nat_ok b lb
  cases v with
  |false=>exact⟨[],Evt.bind v1 (.of fun k=>by rw [if_neg (by decide)]),Lim.nil,Nat.zero_le _⟩
  | true=>
    cases u with
    |false=>exact⟨[],Evt.bind v1 (by simp only [if_true];exact Evt.bind u1 (.of fun k=>by rw [if_neg (by decide)])),Lim.nil,Nat.zero_le _⟩
    | true=>
      obtain⟨t,t1,t2⟩:=add_loop (v2 rfl).1 (u2 rfl).1 la lb _ 0 [] 0 rfl Lim.nil (Nat.zero_le _) (Nat.zero_le _) (.inl rfl)
      exact⟨t,Evt.bind v1 (by simp only [if_true];exact Evt.bind u1 (t1.eq fun k=>by rw [if_pos rfl];rfl)),t2⟩
theorem nat_of (n:Int)(h0:0≤n)(h1:n≤9999):∃t,Evt (fun k=>spec_NatOf.f k n) t∧Lim t∧t.length≤1:=by
  by_cases c:0<n
  · have t1:Int.tmod n 10000=n:=by rw [Int.tmod_eq_emod_of_nonneg h0];omega
    have t2:Int.tdiv n 10000=0:=by rw [Int.tdiv_eq_ediv_of_nonneg h0];omega
    have w:wrap64 0=0:=w64 (by decide) (by decide)
    refine⟨[n],Evt.succ (Evt.eq (Evt.succ (f:=fun k=>spec_NatOf.l0 k [n] 0) (.of fun k=>?_)) fun k=>?_),Lim.one h0 h1,by simp⟩
    · rw [spec_NatOf.l0,if_neg (by decide)]
    · rw [spec_NatOf.f,spec_NatOf.l0,if_pos c,if_pos (by simp),t1,t2,w]
      rfl
  · exact⟨[],Evt.succ (.of fun k=>by rw [spec_NatOf.f,spec_NatOf.l0,if_neg c]),Lim.nil,Nat.zero_le _⟩
theorem bt_small (s:ByteArray)(i:Int):0≤bt s i∧bt s i≤255:=bt_range s i
theorem read_loop (s:ByteArray)(hs:s.size≤1000):∀(m i:Nat) (out:List Int),s.size - i=m→i≤s.size→Lim out→out.length≤40→∃t,Evt (fun k=>spec_ReadNat.l0 k out (i:Int) s) t∧Lim t∧t.length≤40
  |0,i,out,hm,hi,ho,hl=>⟨out,Evt.succ (.of fun k=>by rw [spec_ReadNat.l0,if_neg (by omega)]),ho,hl⟩
  | m+1,i,out,hm,hi,ho,hl=>by
    obtain⟨b1,b2,b3⟩:=lim2 (x:=256) (by decide) (by decide) (by decide)
    obtain⟨p,p1,p2,p3,p4,p5⟩:=mul ho b1 (by simp only [List.length_cons,List.length_nil];omega)
    simp only [List.length_cons,List.length_nil] at p5
    have hb:=bt_small s (i:Int)
    have w:wrap64 (bt s (i:Int))=bt s (i:Int):=w64 (by omega) (by omega)
    obtain⟨q,q1,q2,q3⟩:=nat_of (bt s (i:Int)) hb.1 (by omega)
    obtain⟨r,r1,r2,r3⟩:=add p q (by omega) (by omega)
    obtain⟨t,t1,t2⟩:=read_loop s hs m (i+1) r (by omega) (by omega) r2 r3
    have st:Evt (fun k=>(spec_l04Mul.f k out ([256]:List Int)).bind fun x=>(spec_NatOf.f k (bt s (i:Int))).bind fun y=>(spec_NatAdd.f k x y).bind fun z=>spec_ReadNat.l0 k z ((i+1:Nat):Int) s) t:=by
      refine Evt.bind p1 ?_
      refine Evt.bind q1 ?_
      exact Evt.bind r1 t1
    have hA:(0≤(i:Int))=True:=eq_true (by omega)
    have hB:((i:Int)<(s.size:Int))=True:=eq_true (by omega)
    refine⟨t,Evt.succ (st.eq fun k=>?_),t2⟩
    rw [spec_ReadNat.l0]
    simp only [hA,hB,if_true,w]
    rw [w_succ (by omega)]
theorem read_nat (s:ByteArray):∃t,Evt (fun k=>spec_ReadNat.f k s) t∧t.length≤40:=by
  by_cases c:60<(s.size:Int)
  · exact⟨[],.of fun k=>by rw [spec_ReadNat.f,if_pos c],Nat.zero_le _⟩
  · obtain⟨t,t1,_,t2⟩:=read_loop s (by omega) _ 0 [] rfl (Nat.zero_le _) Lim.nil (Nat.zero_le _)
    exact⟨t,t1.eq fun k=>by rw [spec_ReadNat.f,if_neg c];rfl,t2⟩
theorem fig_loop (s:ByteArray)(hs:s.size≤1000):∀(m i:Nat) (out:List Int),s.size - i=m→i≤s.size→Lim out→out.length≤40→∃t,Evt (fun k=>spec_NatFigures.l0 k out (i:Int) s) t∧Lim t∧t.length≤40
  |0,i,out,hm,hi,ho,hl=>⟨out,Evt.succ (.of fun k=>by rw [spec_NatFigures.l0,if_neg (by omega)]),ho,hl⟩
  | m + 1, i, out, hm, hi, ho, hl => by
    by_cases c1:bt s (i:Int)<48
    · exact⟨[],Evt.succ (.of fun k=>by rw [spec_NatFigures.l0,if_pos (by omega),if_pos (by omega),if_pos (by omega),if_pos c1]),Lim.nil,Nat.zero_le _⟩
    · by_cases c2:57<bt s (i:Int)
      · exact⟨[],Evt.succ (.of fun k=>by rw [spec_NatFigures.l0,if_pos (by omega),if_pos (by omega),if_pos (by omega),if_neg c1,if_pos c2]),Lim.nil,Nat.zero_le _⟩
      · obtain⟨b1,b2,b3⟩:=lim2 (x:=10) (by decide) (by decide) (by decide)
        obtain⟨p,p1,p2,p3,p4,p5⟩:=mul ho b1 (by simp only [List.length_cons,List.length_nil];omega)
        simp only [List.length_cons,List.length_nil] at p5
        have w:wrap64 (bt s (i:Int))=bt s (i:Int):=w64 (by omega) (by omega)
        have w2:wrap64 (bt s (i:Int) - 48)=bt s (i:Int) - 48:=w64 (by omega) (by omega)
        obtain⟨q,q1,q2,q3⟩:=nat_of (bt s (i:Int) - 48) (by omega) (by omega)
        obtain⟨r,r1,r2,r3⟩:=add p q (by omega) (by omega)
        obtain⟨t,t1,t2⟩:=fig_loop s hs m (i+1) r (by omega) (by omega) r2 r3
        have st:Evt (fun k=>(spec_l04Mul.f k out ([10]:List Int)).bind fun x=>(spec_NatOf.f k (bt s (i:Int) - 48)).bind fun y=>(spec_NatAdd.f k x y).bind fun z=>spec_NatFigures.l0 k z ((i+1:Nat):Int) s) t:=by
          refine Evt.bind p1 ?_
          refine Evt.bind q1 ?_
          exact Evt.bind r1 t1
        refine⟨t,Evt.succ (st.eq fun k=>?_),t2⟩
        rw [spec_NatFigures.l0,if_pos (by omega),if_pos (by omega),if_pos (by omega),if_neg c1,if_neg c2,w,w2,w_succ (by omega)]
theorem figures (s:ByteArray):∃t,Evt (fun k=>spec_NatFigures.f k s) t∧t.length≤40:=by
  by_cases c:(1:Int)≤(s.size:Int)∧(s.size:Int)≤140
  · obtain⟨t,t1,_,t2⟩:=fig_loop s (by omega) _ 0 [] rfl (Nat.zero_le _) Lim.nil (Nat.zero_le _)
    exact⟨t,t1.eq fun k=>by rw [spec_NatFigures.f,in_f,Option.bind_some,if_pos (decide_eq_true c)];rfl,t2⟩
  · exact⟨[],.of fun k=>by rw [spec_NatFigures.f,in_f,Option.bind_some,if_neg (by simpa using c)],Nat.zero_le _⟩
theorem pub_e (i:Int):∃t,Evt (fun k=>spec_l06Public.f k i) t∧t.length≤40:=by
  by_cases c:(0:Int)≤i∧i≤5
  · obtain⟨t,t1,t2⟩:=figures (rdOf ByteArray.empty ([(⟨#[49,49,50,54,56,52,50,52,56,50,50,57,52,55,55,53,51,48,56,49,57,53,54,57,52,54,50,51,51,48,56,50,52,48,53,57,55]⟩:ByteArray),(⟨#[49,50,52,55,57,56,49,54,53,53,52,50,51,53,51,50,49,53,52,48,57,50,53,53,52,56,54,51,56,56,56,56,57,55,50,48,57]⟩:ByteArray),(⟨#[49,49,52,56,54,56,54,51,50,48,48,50,57,57,54,55,55,54,53,49,55,52,50,53,54,55,48,52,54,56,52,51,53,48,49,49,49]⟩:ByteArray),(⟨#[49,48,52,49,54,57,49,55,51,56,57,54,51,57,50,48,52,52,48,51,50,51,57,49,49,48,55,56,50,53,57,51,49,54,48,51,57]⟩:ByteArray),(⟨#[49,49,56,56,50,52,52,51,56,51,50,57,56,53,50,56,55,53,52,52,55,57,57,55,51,54,53,50,50,49,54,53,52,55,56,55,55]⟩:ByteArray),(⟨#[49,48,55,53,49,55,48,53,51,48,57,52,53,51,54,56,54,49,55,53,49,56,55,55,49,52,54,54,55,56,56,55,56,53,56,49,51]⟩:ByteArray)]:List ByteArray) i)
    refine⟨t,Evt.eq (Evt.bind t1 (g:=fun k t9=>some t9) Evt.now) fun k=>?_,t2⟩
    rw [spec_l06Public.f,in_f,Option.bind_some,if_pos (decide_eq_true c),if_pos c.1,if_pos (by omega)]
  · exact⟨[],.of fun k=>by rw [spec_l06Public.f,in_f,Option.bind_some,if_neg (by simpa using c)],Nat.zero_le _⟩
theorem secret (i:Int):∃t,Evt (fun k=>spec_SecretAt.f k i) t∧t.length≤40:=by
  by_cases c:(0:Int)≤i∧i≤5
  · obtain⟨t,t1,t2⟩:=figures (rdOf ByteArray.empty ([(⟨#[54,50,55,48,56,49,57,56,54,56,52,51,54,53,55,48,50,49,48,51,56,49,48,51,48,52,54,56,51,50,49,57,48,48,56,49]⟩:ByteArray),(⟨#[50,51,53,57,55,51,51,57,57,51,54,50,51,50,48,54,56,48,51,49,53,50,57,57,49,54,55,51,54,51,49,53,57,55,49,51]⟩:ByteArray),(⟨#[50,56,49,48,51,50,54,52,52,57,57,57,57,51,49,51,56,51,57,56,55,55,57,54,56,52,57,51,48,48,48,57,55,48,53,55]⟩:ByteArray),(⟨#[53,52,55,48,49,54,53,49,50,55,53,53,50,56,56,49,56,54,53,55,48,49,57,48,50,56,53,49,57,54,56,57,51,53,53,51]⟩:ByteArray),(⟨#[54,56,53,49,54,54,52,55,52,53,56,52,54,48,55,49,57,50,49,49,48,52,57,48,54,52,53,50,57,50,50,53,48,55,57,51]⟩:ByteArray),(⟨#[57,54,48,50,49,54,56,52,50,48,51,49,55,49,51,55,54,53,54,56,54,57,48,51,54,56,51,49,54,49,49,57,50,57,51]⟩:ByteArray)]:List ByteArray) i)
    refine⟨t,Evt.eq (Evt.bind t1 (g:=fun k t9=>some t9) Evt.now) fun k=>?_,t2⟩
    rw [spec_SecretAt.f,in_f,Option.bind_some,if_pos (decide_eq_true c),if_pos c.1,if_pos (by omega)]
  · exact⟨[],.of fun k=>by rw [spec_SecretAt.f,in_f,Option.bind_some,if_neg (by simpa using c)],Nat.zero_le _⟩
theorem public_at (i:Int):∃t,Evt (fun k=>spec_PublicAt.f k i) t∧t.size≤80:=by
  obtain⟨p,p1,p2⟩:=pub_e i
  obtain⟨t,t1,t2⟩:=text p (by omega)
  refine⟨t,?_,t2⟩
  refine Evt.eq (Evt.bind p1 (g:=fun k t1=>(spec_NatText.f k t1).bind fun t4=>some t4) ?_) fun k=>rfl
  exact Evt.bind t1 Evt.now
end Go.Proofs.YtfcpjeeeddjakaaGreat.SignFnPlans

/- Great numbers: one divided by another; texts and bits of one; powers. Plain lemmas, no condition. -/
import Derived.Test.YtfcpjeeeddjakaaGreatNatBFnPlans
namespace Go.Proofs.YtfcpjeeeddjakaaGreat.NatCFnPlans
open Go.RowKit YtfcpjeeeddjakaaGreatW.PrintWords YtfcpjeeeddjakaaGreatW.PrintLast ZOpen Z F
open ZP ItemFnPlans NatFnPlans NatBFnPlans
set_option linter.unusedVariables false
set_option linter.unusedSimpArgs false
set_option maxHeartbeats 1000000
theorem guess_end {a b:List Int}(n:Nat)(ha:Lim a)(hb:Lim b)(hn:b.length=n+1)(ht:b[n]'(by omega)≠0)(hl:n≤a.length)(hb2:n≤1099511627776)(top:Int)(h0:0≤top)(h1:top≤99999999):
    ∃q,Evt (fun k=>spec_l04Guess.l0 k top ((n:Int) - 1) a b) q∧0≤q∧q≤9999:=by
  have gb:=hb.get (i:=n) (by omega)
  have e1:Unit→wrap64 ((b.length:Int) - 1)=(n:Int):=fun _=>by rw [hn];exact w_pred (by omega)
  have fin:∀x y:Int,0≤x→x≤999999999999→0<y→∃q,(if 9999<wrap64 (Int.tdiv x y)then some 9999 else some (wrap64 (Int.tdiv x y)))=some q∧0≤q∧q≤9999:=by
    intro x y x0 x1 y0
    have t2:Int.tdiv x y=x / y:=Int.tdiv_eq_ediv_of_nonneg x0
    have d0:0≤x / y:=Int.ediv_nonneg x0 (by omega)
    have d1:x / y≤x:=Int.ediv_le_self _ x0
    have w:wrap64 (x / y)=x / y:=w64 (by omega) (by omega)
    rw [t2,w]
    by_cases c:9999<x / y
    · exact⟨9999,by rw [if_pos c],by decide,by decide⟩
    · exact⟨x / y,by rw [if_neg c],d0,by omega⟩
  by_cases c:n=0
  · subst c
    obtain⟨q,q1,q2⟩:=fin top b[0] h0 (by omega) (by omega)
    refine⟨q,Evt.succ (.of fun k=>?_),q2⟩
    rw [spec_l04Guess.l0,e1 (),if_neg (by omega),if_pos (by omega),if_pos (by omega),if_neg (by omega),rdn b 0 (by omega),if_pos ht]
    exact q1
  · obtain⟨m,rfl⟩:∃m,n=m+1:=⟨n - 1,by omega⟩
    have ga:=ha.get (i:=m) (by omega)
    have gm:=hb.get (i:=m) (by omega)
    have e2:Unit→wrap64 ((b.length:Int) - 2)=(m:Int):=fun _=>by rw [w64 (by omega) (by omega)];omega
    have w1:wrap64 (b[m+1] * 10000)=b[m+1] * 10000:=w64 (by omega) (by omega)
    have w2:wrap64 (b[m+1] * 10000+b[m])=b[m+1] * 10000+b[m]:=w64 (by omega) (by omega)
    have w3:wrap64 (top * 10000)=top * 10000:=w64 (by omega) (by omega)
    have w4:wrap64 (top * 10000+a[m])=top * 10000+a[m]:=w64 (by omega) (by omega)
    obtain⟨q,q1,q2⟩:=fin (top * 10000+a[m]) (b[m+1] * 10000+b[m]) (by omega) (by omega) (by omega)
    refine⟨q,Evt.succ (.of fun k=>?_),q2⟩
    rw [spec_l04Guess.l0,e1 (),if_neg (by omega),if_pos (by omega),if_pos (by omega),if_pos (by omega),e2 (),if_pos (by omega),if_pos (by omega),if_pos (by omega),rdn b (m+1) (by omega),rdn b m (by omega),rdn a m (by omega),w1,w2,w3,w4,if_pos (by omega)]
    exact q1
theorem last_ne {b:List Int}{n:Nat}(hb:Trm b)(hn:b.length=n+1):b[n]'(by omega)≠0:=
  hb _ (by rw [List.getLast?_eq_getElem?,show b.length - 1=n by omega,List.getElem?_eq_getElem (by omega)])
theorem guess {a b:List Int}(ha:Lim a)(ta:Trm a)(hb:Lim b)(tb:Trm b)(h0:0<b.length)(hv:val a<10000 * val b)(hl:b.length≤1099511627776):∃q,Evt (fun k=>spec_l04Guess.f k a b) q∧0≤q∧q≤9999:=by
  obtain⟨n,hn⟩:∃n,b.length=n+1:=⟨b.length - 1,by omega⟩
  by_cases c:a.length<b.length
  · exact⟨0,.of fun k=>by rw [spec_l04Guess.f,if_pos (by omega)],by decide,by decide⟩
  · have hal:a.length≤n+2:=by
      have h1:=val_lt b hb
      rw [hn] at h1
      by_cases c2:a.length≤n+2
      · exact c2
      · obtain⟨j,hj⟩:∃j,a.length=j+1:=⟨a.length - 1,by omega⟩
        have h2:=trm_ge ha ta hj
        have h3:=pow_le (i:=n+2) (j:=j) (by omega)
        have h4:(10000:Int) ^ (n+2)=10000 * 10000 ^ (n+1):=pow_s (n+1)
        omega
    have w0:Unit→wrap64 ((b.length:Int) - 1)=(n:Int):=fun _=>by rw [hn];exact w_pred (by omega)
    by_cases c2:a.length=n+1
    · have g:=ha.get (i:=n) (by omega)
      obtain⟨q,q1,q2⟩:=guess_end n ha hb hn (last_ne tb hn) (by omega) (by omega) a[n] g.1 (by omega)
      have s1:Evt (fun k=>spec_l04Guess.l0 k 0 (n:Int) a b) q:=Evt.succ (q1.eq fun k=>by
        have w1:wrap64 ((0:Int) * 10000)=0:=by rw [Int.zero_mul];exact w64 (by omega) (by omega)
        have w2:wrap64 (0+a[n])=a[n]:=by rw [Int.zero_add];exact w64 (by omega) (by omega)
        have w3:wrap64 ((n:Int) - 1)=(n:Int) - 1:=w64 (by omega) (by omega)
        rw [spec_l04Guess.l0,w0 (),if_pos (by omega),if_pos (by omega),if_pos (by omega),rdn a n (by omega),w1,w2,w3])
      refine⟨q,s1.eq fun k=>?_,q2⟩
      rw [spec_l04Guess.f,if_neg (by omega),show wrap64 ((a.length:Int) - 1)=(n:Int)from by rw [c2];exact w_pred (by omega)]
    · have hlen:a.length=n+2:=by omega
      have g:=ha.get (i:=n) (by omega)
      have g2:=ha.get (i:=n+1) (by omega)
      obtain⟨q,q1,q2⟩:=guess_end n ha hb hn (last_ne tb hn) (by omega) (by omega) (a[n+1] * 10000+a[n]) (by omega) (by omega)
      have s1:Evt (fun k=>spec_l04Guess.l0 k a[n+1] (n:Int) a b) q:=Evt.succ (q1.eq fun k=>by
        have w2:wrap64 (a[n+1] * 10000)=a[n+1] * 10000:=w64 (by omega) (by omega)
        have w3:wrap64 (a[n+1] * 10000+a[n])=a[n+1] * 10000+a[n]:=w64 (by omega) (by omega)
        have w4:wrap64 ((n:Int) - 1)=(n:Int) - 1:=w64 (by omega) (by omega)
        rw [spec_l04Guess.l0,w0 (),if_pos (by omega),if_pos (by omega),if_pos (by omega),rdn a n (by omega),w2,w3,w4])
      have s2:Evt (fun k=>spec_l04Guess.l0 k 0 ((n+1:Nat):Int) a b) q:=Evt.succ (s1.eq fun k=>by
        have w1:wrap64 ((0:Int) * 10000)=0:=by rw [Int.zero_mul];exact w64 (by omega) (by omega)
        have w2:wrap64 (0+a[n+1])=a[n+1]:=by rw [Int.zero_add];exact w64 (by omega) (by omega)
        rw [spec_l04Guess.l0,w0 (),if_pos (by omega),if_pos (by omega),if_pos (by omega),rdn a (n+1) (by omega),w1,w2,w_pred (by omega)])
      refine⟨q,s2.eq fun k=>?_,q2⟩
      rw [spec_l04Guess.f,if_neg (by omega),show wrap64 ((a.length:Int) - 1)=((n+1:Nat):Int)from by rw [hlen];exact w_pred (by omega)]
theorem div2 {a b out L:List Int} (hb:Lim b) (tb:Trm b) (b0:0<b.length) (hl:b.length≤1099511627776) (hL:val L<10000 * val b) {Q:List Int×List Int→Prop} {i:Int}
    (next:∀(left:List Int) (q:Int),Lim left→Trm left→val left<val b→0≤q→q≤9999→val L=q * val b+val left→left.length≤b.length→∃t,Evt (fun k=>spec_l04Div.l0 k left (out.set i.toNat q) (wrap64 (i - 1)) a b) t∧Q t):
    ∀(m:Nat) (left:List Int) (q:Int),(val left).toNat=m→Lim left→Trm left→left.length≤1099511627776→0≤q→q≤9999→val L=q * val b+val left→∃t,Evt (fun k=>spec_l04Div.l2 k left q a b out i) t∧Q t:=by
  have vb:=val_pos hb tb b0
  intro m
  induction m using Nat.strongRecOn with
  | ind m ih=>
    intro left q hm hle htl hll q0 q1 hinv
    have v0:=val_nonneg left hle
    obtain⟨c,c1,c2,c3⟩:=cmp hle hb htl tb hll hl
    by_cases cc:0≤c
    · have hge:=c3.1 cc
      obtain⟨s,s1,s2,s3,s4,s5⟩:=sub hle hb tb hge hll
      have hq:q+1≤9999:=by
        by_cases h:q+1≤9999
        · exact h
        · have h1:q=9999:=by omega
          rw [h1] at hinv
          omega
      have e1:Unit→wrap64 (q+1)=q+1:=fun _=>w64 (by omega) (by omega)
      obtain⟨t,t1,t2⟩:=ih (val s).toNat (by omega) s (q+1) rfl s3 s4 (by omega) (by omega) hq (by rw [Int.add_mul,Int.one_mul];omega)
      refine⟨t,Evt.succ (Evt.eq (Evt.bind c1 (g:=fun k t152=>if 0≤t152 then((spec_l04Sub.f k left b).bind fun t155=>spec_l04Div.l2 k t155 (wrap64 (q+1)) a b out i)else spec_l04Div.l0 k left (out.set i.toNat q) (wrap64 (i - 1)) a b) ?_) fun k=>?_),t2⟩
      · simp only [if_pos cc]
        refine Evt.bind s1 ?_
        rw [e1 ()]
        exact t1
      · rw [spec_l04Div.l2]
    · have hlt:val left<val b:=by
        have:¬val b≤val left:=fun h=>cc (c3.2 h)
        omega
      obtain⟨t,t1,t2⟩:=next left q hle htl hlt q0 q1 hinv (len_le hle htl hb (by omega))
      refine⟨t,Evt.succ (Evt.eq (Evt.bind c1 (g:=fun k t152=>if 0≤t152 then((spec_l04Sub.f k left b).bind fun t155=>spec_l04Div.l2 k t155 (wrap64 (q+1)) a b out i)else spec_l04Div.l0 k left (out.set i.toNat q) (wrap64 (i - 1)) a b) ?_) fun k=>?_),t2⟩
      · simp only [if_neg cc]
        exact t1
      · rw [spec_l04Div.l2]
theorem div1 {a b out L:List Int} (hb:Lim b) (tb:Trm b) (b0:0<b.length) (hl:b.length≤1099511627776) (hLl:Lim L) (hLt:Trm L) (hLn:L.length≤1099511627776) {Q:List Int×List Int→Prop} {i:Int}
    (next:∀(left:List Int) (q:Int),Lim left→Trm left→left.length≤1099511627776→0≤q→q≤9999→val L=q * val b+val left→∃t,Evt (fun k=>spec_l04Div.l2 k left q a b out i) t∧Q t):
    ∀(m:Nat) (t:List Int) (q:Int),q.toNat=m→Lim t→Trm t→t.length≤1099511627776→0≤q→q≤9999→val t=q * val b→∃r,Evt (fun k=>spec_l04Div.l1 k t q a b out i L) r∧Q r:=by
  have vb:=val_pos hb tb b0
  have vL:=val_nonneg L hLl
  intro m
  induction m with
  | zero=>
    intro t q hm hlt htt hln q0 q1 hv
    obtain rfl:q=0:=by omega
    rw [Int.zero_mul] at hv
    obtain⟨c,c1,c2,c3⟩:=cmp hlt hLl htt hLt hln hLn
    have cc:¬0<c:=fun h=>by have:=c2.1 h;omega
    obtain⟨s,s1,s2,s3,s4,s5⟩:=sub hLl hlt htt (by omega) hLn
    obtain⟨r,r1,r2⟩:=next s 0 s3 s4 (by omega) (by decide) (by decide) (by rw [Int.zero_mul,s2,hv];omega)
    refine⟨r,Evt.succ (Evt.eq (Evt.bind c1 (g:=fun k t128=>if 0<t128 then((spec_l04Sub.f k t b).bind fun t131=>spec_l04Div.l1 k t131 (wrap64 (0 - 1)) a b out i L)else((spec_l04Sub.f k L t).bind fun t134=>spec_l04Div.l2 k t134 0 a b out i)) ?_) fun k=>?_),r2⟩
    · simp only [if_neg cc]
      exact Evt.bind s1 r1
    · rw [spec_l04Div.l1]
  | succ m ih=>
    intro t q hm hlt htt hln q0 q1 hv
    obtain⟨c,c1,c2,c3⟩:=cmp hlt hLl htt hLt hln hLn
    by_cases cc:0<c
    · have e1:Unit→wrap64 (q - 1)=q - 1:=fun _=>w64 (by omega) (by omega)
      have hbt:val b≤val t:=by
        obtain⟨p,rfl⟩:∃p,q=p+1:=⟨q - 1,by omega⟩
        rw [hv,Int.add_mul,Int.one_mul]
        have:0≤p * val b:=Int.mul_nonneg (by omega) (by omega)
        omega
      obtain⟨s,s1,s2,s3,s4,s5⟩:=sub hlt hb tb hbt hln
      obtain⟨r,r1,r2⟩:=ih s (q - 1) (by omega) s3 s4 (by omega) (by omega) (by omega) (by rw [s2,hv,Int.sub_mul,Int.one_mul])
      refine⟨r,Evt.succ (Evt.eq (Evt.bind c1 (g:=fun k t128=>if 0<t128 then((spec_l04Sub.f k t b).bind fun t131=>spec_l04Div.l1 k t131 (wrap64 (q - 1)) a b out i L)else((spec_l04Sub.f k L t).bind fun t134=>spec_l04Div.l2 k t134 q a b out i)) ?_) fun k=>?_),r2⟩
      · simp only [if_pos cc]
        refine Evt.bind s1 ?_
        rw [e1 ()]
        exact r1
      · rw [spec_l04Div.l1]
    · have hle:val t≤val L:=by
        by_cases h:val t≤val L
        · exact h
        · exact absurd (c2.2 (by omega)) cc
      obtain⟨s,s1,s2,s3,s4,s5⟩:=sub hLl hlt htt hle hLn
      obtain⟨r,r1,r2⟩:=next s q s3 s4 (by omega) q0 q1 (by rw [s2,hv];omega)
      refine⟨r,Evt.succ (Evt.eq (Evt.bind c1 (g:=fun k t128=>if 0<t128 then((spec_l04Sub.f k t b).bind fun t131=>spec_l04Div.l1 k t131 (wrap64 (q - 1)) a b out i L)else((spec_l04Sub.f k L t).bind fun t134=>spec_l04Div.l2 k t134 q a b out i)) ?_) fun k=>?_),r2⟩
      · simp only [if_neg cc]
        exact Evt.bind s1 r1
      · rw [spec_l04Div.l1]
theorem alg5 (x V q b l:Int)(O:Int)(h1:V=O * b+l)(l2:Int)(h2:x+10000 * l=q * b+l2):x+10000 * V=(q+10000 * O) * b+l2:=by
  rw [h1,Int.add_mul,Int.mul_add,Int.mul_assoc];omega
theorem div_loop {a b:List Int}(ha:Lim a)(hb:Lim b)(tb:Trm b)(b0:0<b.length)(hl:b.length≤1000000000)(hla:a.length≤1000000000):∀(m:Nat) (left out:List Int),m≤a.length→Lim left→Trm left→val left<val b→left.length≤b.length→out.length=a.length→Lim out→val (a.drop m)=val (out.drop m) * val b+val left→
    ∃t,Evt (fun k=>spec_l04Div.l0 k left out ((m:Int) - 1) a b) t∧(val a=val t.1 * val b+val t.2∧Lim t.1∧Trm t.1∧t.1.length≤a.length∧Lim t.2∧Trm t.2∧t.2.length≤b.length∧val t.2<val b)
  | 0,left,out,_,hle,htl,hlt,hll,ho,hlo,hinv=>by
    obtain⟨t,h1,h2,h3,h4,h5⟩:=trim out (by omega) hlo
    rw [List.drop_zero,List.drop_zero] at hinv
    refine⟨(t,left),Evt.succ (Evt.eq (Evt.bind h1 (g:=fun k t161=>some (t161,left)) Evt.now) fun k=>?_),by rw [h2];exact hinv,h3,h4,by show t.length≤_;omega,hle,htl,hll,hlt⟩
    rw [spec_l04Div.l0,if_neg (by omega)]
  | m + 1, left, out, hm, hle, htl, hlt, hll, ho, hlo, hinv => by
    have hma:m<a.length:=by omega
    have g:=ha.get hma
    have v0:=val_nonneg left hle
    have hy:Lim ([a[m]]++left):=(Lim.one g.1 g.2).app hle
    have hyv:val ([a[m]]++left)=a[m]+10000 * val left:=by rw [List.singleton_append,val]
    have hyl:([a[m]]++left).length=left.length+1:=by simp
    obtain⟨L,l1,l2,l3,l4,l5⟩:=trim ([a[m]]++left) (by omega) hy
    have hL:val L<10000 * val b:=by rw [l2,hyv];omega
    obtain⟨q,q1,q2,q3⟩:=guess l3 l4 hb tb b0 hL (by omega)
    obtain⟨t,t1,t2,t3,t4,t5⟩:=times hb q2 q3 (by omega)
    obtain⟨r,r1,r2⟩:=div1 (a:=a) (out:=out) (i:=(m:Int)) hb tb b0 (by omega) l3 l4 (by omega) (Q:=fun t=>(val a=val t.1 * val b+val t.2∧Lim t.1∧Trm t.1∧t.1.length≤a.length∧Lim t.2∧Trm t.2∧t.2.length≤b.length∧val t.2<val b))
      (fun left2 p p1 p2 p3 p4 p5 p6=>div2 (a:=a) (out:=out) (i:=(m:Int)) hb tb b0 (by omega) hL (fun left3 s s1 s2 s3 s4 s5 s6 s7=>by
        have hset:val ((out.set m s).drop m)=s+10000 * val (out.drop (m+1)):=by
          have h1:m<(out.set m s).length:=by rw [List.length_set];omega
          rw [val_drop _ h1,List.getElem_set_self,List.drop_set_of_lt (by omega)]
        obtain⟨t,u1,u2⟩:=div_loop ha hb tb b0 hl hla m left3 (out.set m s) (by omega) s1 s2 s3 s7 (by rw [List.length_set];exact ho) (lim_set hlo s4 s5) (by
          rw [val_drop a hma,hset]
          exact alg5 _ _ _ _ _ _ hinv _ (by rw [←s6,l2,hyv]))
        refine⟨t,u1.eq fun k=>?_,u2⟩
        rw [Int.toNat_natCast,show wrap64 ((m:Int) - 1)=(m:Int) - 1 from w64 (by omega) (by omega)]) _ left2 p rfl p1 p2 p3 p4 p5 p6) _ t q rfl t3 t4 (by omega) q2 q3 (by rw [t2,Int.mul_comm])
    have hc:(1+left.length≤17592186044416)=True:=eq_true (by omega)
    have st:Evt (fun k=>(spec_l04Trim.f k ([a[m]]++left)).bind fun t105=>(spec_l04Guess.f k t105 b).bind fun t108=>(spec_l04Times.f k b t108).bind fun t110=>spec_l04Div.l1 k t110 t108 a b out (m:Int) t105) r:=by
      refine Evt.bind l1 ?_
      refine Evt.bind q1 ?_
      exact Evt.bind t1 r1
    refine⟨r,Evt.succ (st.eq fun k=>?_),r2⟩
    rw [show((m+1:Nat):Int) - 1=(m:Int) by omega,spec_l04Div.l0,if_pos (by omega),if_pos (by omega),if_pos (by omega),rdn a m hma]
    simp only [hc,if_true,lets]
theorem div {a b:List Int}(ha:Lim a)(hb:Lim b)(tb:Trm b)(b0:0<b.length)(hl:b.length≤1000000000)(hla:a.length≤1000000000):
    ∃t,Evt (fun k=>spec_l04Div.f k a b) t∧(val a=val t.1 * val b+val t.2∧Lim t.1∧Trm t.1∧t.1.length≤a.length∧Lim t.2∧Trm t.2∧t.2.length≤b.length∧val t.2<val b):=by
  obtain⟨t,h1,h2⟩:=div_loop ha hb tb b0 hl hla a.length [] (List.replicate a.length 0) (Nat.le_refl _) Lim.nil Trm.nil (val_pos hb tb b0) (Nat.zero_le _) List.length_replicate (lim_rep _) (by rw [List.drop_eq_nil_of_le (Nat.le_refl _),List.drop_eq_nil_of_le (by rw [List.length_replicate];exact Nat.le_refl _)];simp [val])
  refine⟨t,h1.eq fun k=>?_,h2⟩
  rw [spec_l04Div.f,if_pos (by omega),if_pos (by omega),show wrap64 ((a.length:Int) - 1)=(a.length:Int) - 1 from w64 (by omega) (by omega)]
end Go.Proofs.YtfcpjeeeddjakaaGreat.NatCFnPlans

/- Great numbers: one less another, one times another. Plain lemmas, no condition. -/
import Derived.Test.YtfcpjeeeddjakaaGreatNatFnPlans
namespace Go.Proofs.YtfcpjeeeddjakaaGreat.NatBFnPlans
open Go.RowKit YtfcpjeeeddjakaaGreatW.PrintWords YtfcpjeeeddjakaaGreatW.PrintLast ZOpen Z F
open ZP ItemFnPlans NatFnPlans
set_option linter.unusedVariables false
set_option linter.unusedSimpArgs false
set_option maxHeartbeats 1000000
theorem alg1 (V A B P n x l y:Int)(h:V - P * l=A - B)(hn:n=x - l - y):V+P * (n+10000) - 10000 * P * 1=A+P * x - (B+P * y):=by
  have h1:P * (n+10000)=P * x - P * l - P * y+P * 10000:=by rw [hn,Int.mul_add,Int.mul_sub,Int.mul_sub]
  rw [h1];omega
theorem alg2 (V A B P D n x l y:Int)(h:V - P * l=A - B)(hn:n=x - l - y):V+P * n - D * 0=A+P * x - (B+P * y):=by
  have h1:P * n=P * x - P * l - P * y:=by rw [hn,Int.mul_sub,Int.mul_sub]
  rw [h1];omega
theorem alg3 (V T P R ai bq W oj r c carry:Int)(hinv:V+(P * R) * carry=T+P * (ai * W))(hn:oj+ai * bq+carry=10000 * c+r):V+(P * R) * (r - oj)+10000 * (P * R) * c=T+P * (ai * (W+R * bq)):=by
  have h0:r - oj=ai * bq+carry - 10000 * c:=by omega
  have h1:(P * R) * (r - oj)=(P * R) * (ai * bq)+(P * R) * carry - (P * R) * (10000 * c):=by rw [h0,Int.mul_sub,Int.mul_add]
  have h2:(P * R) * (10000 * c)=10000 * (P * R) * c:=by ac_rfl
  have h3:P * (ai * (W+R * bq))=P * (ai * W)+P * (ai * (R * bq)):=by rw [Int.mul_add,Int.mul_add]
  have h4:P * (ai * (R * bq))=(P * R) * (ai * bq):=by ac_rfl
  rw [h1,h2,h3,h4];omega
theorem alg4 (T P ai b A:Int)(h:A=T+P * ai):T * b+P * (ai * b)=A * b:=by rw [h,Int.add_mul,Int.mul_assoc]
theorem sub_loop {a b:List Int}(ha:Lim a)(hb:Lim b)(hl:b.length≤a.length)(hv:val b≤val a)(hm:a.length≤1099511627776):∀(m i:Nat) (out:List Int) (lent:Int),a.length - i=m→i≤a.length→out.length=i→Lim out→(lent=0∨lent=1)→
    val out - 10000 ^ i * lent=val (a.take i) - val (b.take i)→∃t,Evt (fun k=>spec_l04Sub.l0 k out lent (i:Int) a b) t∧val t=val a - val b∧Lim t∧Trm t∧t.length≤a.length
  | 0, i, out, lent, hi, hi', ho, hlo, hle, hinv => by
    obtain rfl:i=a.length:=by omega
    rw [List.take_length,List.take_of_length_le hl] at hinv
    have hlt:=val_lt out hlo
    have h0:=val_nonneg out hlo
    rw [ho] at hlt
    have hl0:lent=0:=by
      rcases hle with h|h
      · exact h
      · rw [h] at hinv;omega
    obtain⟨t,h1,h2,h3,h4,h5⟩:=trim out (by omega) hlo
    refine⟨t,Evt.succ (Evt.eq (Evt.bind h1 Evt.now) fun k=>?_),by rw [h2];rw [hl0] at hinv;omega,h3,h4,by omega⟩
    rw [spec_l04Sub.l0,if_neg (by omega)]
  | m + 1, i, out, lent, hi, hi', ho, hlo, hle, hinv => by
    have hia:i<a.length:=by omega
    have ga:=ha.get hia
    have ta:=val_take a hia
    have e1:Unit→wrap64 ((i:Int)+1)=((i+1:Nat):Int):=fun _=>w_succ (by omega)
    have hc:(out.length+1≤17592186044416)=True:=eq_true (by omega)
    have hp:=pow_s i
    have key:∀(n:Int),n=a[i] - lent - (if h:i<b.length then b[i] else 0)→∃x l':Int,(if n<0 then x=n+10000∧l'=1 else x=n∧l'=0)∧0≤x∧x≤9999∧(l'=0∨l'=1)∧val (out++ [x]) - 10000 ^ (i+1) * l'=val (a.take (i+1)) - val (b.take (i+1)):=by
      intro n hn
      have hbv:∃y:Int,y=(if h:i<b.length then b[i] else 0)∧0≤y∧y≤9999∧val (b.take (i+1))=val (b.take i)+10000 ^ i * y:=by
        by_cases c:i<b.length
        · exact⟨b[i],by rw [dif_pos c],(hb.get c).1,(hb.get c).2,val_take b c⟩
        · exact⟨0,by rw [dif_neg c],by decide,by decide,by rw [List.take_of_length_le (by omega),List.take_of_length_le (by omega)];simp⟩
      obtain⟨y,hy,y0,y1,hy2⟩:=hbv
      rw [←hy] at hn
      have hlb:0≤lent∧lent≤1:=by omega
      by_cases c:n<0
      · refine⟨n+10000,1,by rw [if_pos c];exact⟨rfl,rfl⟩,by omega,by omega,.inr rfl,?_⟩
        rw [val_snoc,ho,ta,hy2,hp]
        exact alg1 _ _ _ _ _ _ _ _ hinv hn
      · refine⟨n,0,by rw [if_neg c];exact⟨rfl,rfl⟩,by omega,by omega,.inl rfl,?_⟩
        rw [val_snoc,ho,ta,hy2]
        exact alg2 _ _ _ _ _ _ _ _ _ hinv hn
    have hlb:0≤lent∧lent≤1:=by omega
    by_cases cb:i<b.length
    · have gb:=hb.get cb
      have w1:wrap64 (a[i] - lent)=a[i] - lent:=w64 (by omega) (by omega)
      have w2:wrap64 (a[i] - lent - b[i])=a[i] - lent - b[i]:=w64 (by omega) (by omega)
      obtain⟨x,l',k1,k2,k3,k4,k5⟩:=key _ rfl
      rw [dif_pos cb] at k1
      obtain⟨t,i1,i2⟩:=sub_loop ha hb hl hv hm m (i+1) (out++ [x]) l' (by omega) (by omega) (by simp [ho]) (hlo.app (Lim.one k2 k3)) k4 k5
      refine⟨t,Evt.succ (i1.eq fun k=>?_),i2⟩
      rw [spec_l04Sub.l0,if_pos (by omega),if_pos (by omega),if_pos (by omega),if_pos (by omega),if_pos (by omega),rdn a i hia,rdn b i cb,w1,w2,e1 ()]
      simp only [hc,if_true,lets]
      by_cases c:a[i] - lent - b[i] <0
      · rw [if_pos c] at k1
        have w3:wrap64 (a[i] - lent - b[i]+10000)=a[i] - lent - b[i]+10000:=w64 (by omega) (by omega)
        rw [if_pos c,w3,k1.1,k1.2]
      · rw [if_neg c] at k1
        rw [if_neg c,k1.1,k1.2]
    · have w1:wrap64 (a[i] - lent)=a[i] - lent:=w64 (by omega) (by omega)
      obtain⟨x,l',k1,k2,k3,k4,k5⟩:=key _ rfl
      rw [dif_neg cb,Int.sub_zero] at k1
      obtain⟨t,i1,i2⟩:=sub_loop ha hb hl hv hm m (i+1) (out++ [x]) l' (by omega) (by omega) (by simp [ho]) (hlo.app (Lim.one k2 k3)) k4 k5
      refine⟨t,Evt.succ (i1.eq fun k=>?_),i2⟩
      rw [spec_l04Sub.l0,if_pos (by omega),if_pos (by omega),if_pos (by omega),if_neg (by omega),rdn a i hia,w1,e1 ()]
      simp only [hc,if_true,lets]
      by_cases c:a[i] - lent<0
      · rw [if_pos c] at k1
        have w3:wrap64 (a[i] - lent+10000)=a[i] - lent+10000:=w64 (by omega) (by omega)
        rw [if_pos c,w3,k1.1,k1.2]
      · rw [if_neg c] at k1
        rw [if_neg c,k1.1,k1.2]
theorem sub {a b:List Int}(ha:Lim a)(hb:Lim b)(tb:Trm b)(hv:val b≤val a)(hm:a.length≤1099511627776):∃t,Evt (fun k=>spec_l04Sub.f k a b) t∧val t=val a - val b∧Lim t∧Trm t∧t.length≤a.length:=
  sub_loop ha hb (len_le hb tb ha hv) hv hm _ 0 [] 0 rfl (Nat.zero_le _) rfl Lim.nil (.inl rfl) (by simp [val])
theorem val_set:∀(l:List Int) (j:Nat) (h:j<l.length) (x:Int),val (l.set j x)=val l+10000 ^ j * (x - l[j])
  | [],j,h,x=>by simp at h
  |y :: l,0,h,x=>by simp [val];omega
  | y :: l,j+1,h,x=>by
    have:=val_set l j (by simpa using h) x
    rw [List.set_cons_succ,val,val,this,pow_s,List.getElem_cons_succ]
    grind
theorem lim_set {l:List Int}(h:Lim l){j:Nat}{x:Int}(h0:0≤x)(h1:x≤9999):Lim (l.set j x):=fun y hy=>by
  rcases List.mem_or_eq_of_mem_set hy with h2|rfl
  · exact h y h2
  · exact⟨h0,h1⟩
theorem mul_in {a b:List Int} (ha:Lim a) (hb:Lim b) (hl:a.length+b.length≤1099511627776) {Q:List Int→Prop} {i:Nat} (hi:i<a.length)
    (next:∀out:List Int,out.length=a.length+b.length→Lim out→val out=val (a.take (i+1)) * val b→(∀j (h:j<out.length),i+1+b.length≤j→out[j]=0)→∃t,Evt (fun k=>spec_l04Mul.l0 k out ((i+1:Nat):Int) a b (a.length+b.length)) t∧Q t):
    ∀ (m q : Nat) (out : List Int) (carry : Int), b.length - q = m → q ≤ b.length → out.length = a.length + b.length → Lim out → 0 ≤ carry → carry ≤ 9999 → (∀ j (h : j < out.length), i + b.length ≤ j → out[j] = 0) →
      val out+10000 ^ (i+q) * carry=val (a.take i) * val b+10000 ^ i * (a[i] * val (b.take q))→∃t,Evt (fun k=>spec_l04Mul.l1 k out carry (q:Int) a b (a.length+b.length) (i:Int)) t∧Q t
  | 0, q, out, carry, hq, hq', ho, hlo, c0, c1, hz, hinv => by
    obtain rfl:q=b.length:=by omega
    have hj:i+b.length<out.length:=by omega
    have e0:Unit→wrap64 ((i:Int)+(b.length:Int))=((i+b.length:Nat):Int):=fun _=>by rw [w64 (by omega) (by omega)];omega
    have e1:Unit→wrap64 ((i:Int)+1)=((i+1:Nat):Int):=fun _=>w_succ (by omega)
    have z:=hz _ hj (Nat.le_refl _)
    have e2:wrap64 (0+carry)=carry:=by rw [Int.zero_add];exact w64 (by omega) (by omega)
    have hv:=val_set out _ hj carry
    rw [z,Int.sub_zero] at hv
    rw [List.take_length] at hinv
    obtain⟨t,h1,h2⟩:=next (out.set (i+b.length) carry) (by rw [List.length_set];exact ho) (lim_set hlo c0 c1) (by rw [hv,hinv];exact alg4 _ _ _ _ _ (val_take a hi)) (fun j h hj2=>by
      rw [List.length_set] at h
      rw [List.getElem_set_ne (by omega)]
      exact hz j h (by omega))
    refine⟨t,Evt.succ (h1.eq fun k=>?_),h2⟩
    rw [spec_l04Mul.l1,if_neg (by omega),e0 (),if_pos (by omega),if_pos (by omega),rdn out _ hj,z,e2,e1 (),Int.toNat_natCast]
  | m + 1, q, out, carry, hq, hq', ho, hlo, c0, c1, hz, hinv => by
    have hqb:q<b.length:=by omega
    have hj:i+q<out.length:=by omega
    have ga:=ha.get hi
    have gb:=hb.get hqb
    have go:=hlo.get hj
    have e0:Unit→wrap64 ((i:Int)+(q:Int))=((i+q:Nat):Int):=fun _=>by rw [w64 (by omega) (by omega)];omega
    have e1:Unit→wrap64 ((q:Int)+1)=((q+1:Nat):Int):=fun _=>w_succ (by omega)
    have p0:0≤a[i] * b[q]:=Int.mul_nonneg ga.1 gb.1
    have p1:a[i] * b[q]≤9999 * 9999:=Int.mul_le_mul ga.2 gb.2 gb.1 (by decide)
    obtain⟨p,hp⟩:∃p,p=a[i] * b[q]:=⟨_,rfl⟩
    rw [←hp] at p0 p1
    have w1:wrap64 p=p:=w64 (by omega) (by omega)
    have w2:wrap64 (out[i+q]+p)=out[i+q]+p:=w64 (by omega) (by omega)
    have w3:wrap64 (out[i+q]+p+carry)=out[i+q]+p+carry:=w64 (by omega) (by omega)
    obtain⟨n,hn⟩:∃n,n=out[i+q]+p+carry:=⟨_,rfl⟩
    have t1:Int.tmod n 10000=n % 10000:=Int.tmod_eq_emod_of_nonneg (by omega)
    have t2:Int.tdiv n 10000=n / 10000:=Int.tdiv_eq_ediv_of_nonneg (by omega)
    have w4:wrap64 (n / 10000)=n / 10000:=w64 (by omega) (by omega)
    have hdm:n=10000 * (n / 10000)+n % 10000:=by omega
    have hv:=val_set out _ hj (n % 10000)
    have hps:=pow_s (i+q)
    have tb:=val_take b hqb
    obtain⟨t,h1,h2⟩:=mul_in ha hb hl hi next m (q+1) (out.set (i+q) (n % 10000)) (n / 10000) (by omega) (by omega) (by rw [List.length_set];exact ho) (lim_set hlo (by omega) (by omega)) (by omega) (by omega) (fun j h hj2=>by
      rw [List.length_set] at h
      rw [List.getElem_set_ne (by omega)]
      exact hz j h hj2) (by
        rw [Int.pow_add] at hinv
        rw [hv,←Nat.add_assoc,hps,tb,Int.pow_add]
        exact alg3 _ _ _ _ _ _ _ _ _ _ _ hinv (by rw [←hp,←hn];exact hdm))
    refine⟨t,Evt.succ (h1.eq fun k=>?_),h2⟩
    rw [spec_l04Mul.l1,if_pos (by omega),e0 (),if_pos (by omega),if_pos (by omega),if_pos (by omega),if_pos (by omega),if_pos (by omega),if_pos (by omega),rdn out _ hj,rdn a i hi,rdn b q hqb,←hp,w1,w2,w3,←hn,t1,t2,w4,e1 (),Int.toNat_natCast]
theorem mul_out {a b:List Int}(ha:Lim a)(hb:Lim b)(hl:a.length+b.length≤1099511627776):∀(m i:Nat) (out:List Int),a.length - i=m→i≤a.length→out.length=a.length+b.length→Lim out→val out=val (a.take i) * val b→(∀j (h:j<out.length),i+b.length≤j→out[j]=0)→
    ∃t,Evt (fun k=>spec_l04Mul.l0 k out (i:Int) a b (a.length+b.length)) t∧(val t=val a * val b∧Lim t∧Trm t∧t.length≤a.length+b.length)
  | 0,i,out,hi,hi',ho,hlo,hv,hz=>by
    obtain rfl:i=a.length:=by omega
    rw [List.take_length] at hv
    obtain⟨t,h1,h2,h3,h4,h5⟩:=trim out (by omega) hlo
    refine⟨t,Evt.succ (Evt.eq (Evt.bind h1 Evt.now) fun k=>?_),by rw [h2,hv],h3,h4,by omega⟩
    rw [spec_l04Mul.l0,if_neg (by omega)]
  | m+1,i,out,hi,hi',ho,hlo,hv,hz=>by
    obtain⟨t,h1,h2⟩:=mul_in ha hb hl (Q:=fun t=>val t=val a * val b∧Lim t∧Trm t∧t.length≤a.length+b.length) (i:=i) (by omega) (fun out' o1 o2 o3 o4=>mul_out ha hb hl m (i+1) out' (by omega) (by omega) o1 o2 o3 o4) b.length 0 out 0 rfl (Nat.zero_le _) ho hlo (by decide) (by decide) hz (by rw [hv];simp [val])
    refine⟨t,Evt.succ (h1.eq fun k=>?_),h2⟩
    rw [spec_l04Mul.l0,if_pos (by omega)]
    rfl
theorem mul {a b:List Int}(ha:Lim a)(hb:Lim b)(hl:a.length+b.length≤1099511627776):∃t,Evt (fun k=>spec_l04Mul.f k a b) t∧val t=val a * val b∧Lim t∧Trm t∧t.length≤a.length+b.length:=by
  by_cases ca:a.length=0
  · obtain rfl:=List.eq_nil_of_length_eq_zero ca
    exact⟨[],.of fun k=>by rw [spec_l04Mul.f,if_pos (by simp)],by simp [val],Lim.nil,Trm.nil,Nat.zero_le _⟩
  · by_cases cb:b.length=0
    · obtain rfl:=List.eq_nil_of_length_eq_zero cb
      exact⟨[],.of fun k=>by rw [spec_l04Mul.f,if_neg (by omega),if_pos (by simp)],by simp [val],Lim.nil,Trm.nil,Nat.zero_le _⟩
    · have e0:wrap64 ((a.length:Int)+(b.length:Int))=((a.length+b.length:Nat):Int):=by rw [w64 (by omega) (by omega)];omega
      obtain⟨t,h1,h2⟩:=mul_out ha hb hl _ 0 (List.replicate (a.length+b.length) 0) rfl (Nat.zero_le _) (List.length_replicate) (lim_rep _) (by rw [val_rep];simp [val]) (fun j h _=>by simp)
      refine⟨t,h1.eq fun k=>?_,h2⟩
      rw [spec_l04Mul.f,if_neg (by omega),if_neg (by omega),e0,if_pos (by omega),Int.toNat_natCast,if_pos (by omega)]
      rfl
theorem times {a:List Int}(ha:Lim a){n:Int}(h0:0≤n)(h1:n≤9999)(hl:a.length+1≤1099511627776):∃t,Evt (fun k=>spec_l04Times.f k a n) t∧val t=val a * n∧Lim t∧Trm t∧t.length≤a.length+1:=by
  by_cases c:n=0
  · exact⟨[],.of fun k=>by rw [spec_l04Times.f,if_pos c],by rw [c];simp [val],Lim.nil,Trm.nil,Nat.zero_le _⟩
  · obtain⟨t,i1,i2,i3⟩:=mul ha (Lim.one h0 h1) (by simpa using hl)
    refine⟨t,Evt.eq (Evt.bind i1 Evt.now) fun k=>?_,by rw [i2];simp [val],i3⟩
    rw [spec_l04Times.f,if_neg c]
end Go.Proofs.YtfcpjeeeddjakaaGreat.NatBFnPlans

/- Great numbers: texts and bits of one, sums, powers; what a house signs. Plain lemmas, no condition. -/
import Derived.Test.YtfcpjeeeddjakaaGreatNatCFnPlans
namespace Go.Proofs.YtfcpjeeeddjakaaGreat.NatDFnPlans
open Go.RowKit YtfcpjeeeddjakaaGreatW.PrintWords YtfcpjeeeddjakaaGreatW.PrintLast ZOpen Z F
open ZP ItemFnPlans NatFnPlans NatBFnPlans NatCFnPlans
set_option linter.unusedVariables false
set_option linter.unusedSimpArgs false
set_option maxHeartbeats 1000000
theorem ok_loop {a:List Int}(hl:a.length≤1000000000):∀(m i:Nat),a.length - i=m→i≤a.length→∃v,Evt (fun k=>spec_NatOk.l0 k (i:Int) a) v∧(v=true→Lim (a.drop i)∧a.length≤40∧Trm a)
  | 0, i, hm,hi=>by
    obtain rfl:i=a.length:=by omega
    have hd:Lim (a.drop a.length):=by rw [List.drop_eq_nil_of_le (Nat.le_refl _)];exact Lim.nil
    by_cases c1:a.length≤40
    · by_cases c2:a.length=0
      · refine⟨true,Evt.succ (.of fun k=>?_),fun _=>⟨hd,c1,?_⟩⟩
        · rw [spec_NatOk.l0,if_neg (by omega),if_pos (by omega),if_pos (by omega)]
        · rw [List.eq_nil_of_length_eq_zero c2]
          exact Trm.nil
      · obtain⟨n,hn⟩:∃n,a.length=n+1:=⟨a.length - 1,by omega⟩
        refine⟨a[n]'(by omega) != 0,Evt.succ (.of fun k=>?_),fun h=>⟨hd,c1,fun x hx=>?_⟩⟩
        · have e:Unit→wrap64 ((a.length:Int) - 1)=(n:Int):=fun _=>by rw [hn];exact w_pred (by omega)
          rw [spec_NatOk.l0,if_neg (by omega),if_pos (by omega),if_neg (by omega),e (),if_pos (by omega),if_pos (by omega),rdn a n (by omega)]
        · rw [List.getLast?_eq_getElem?,show a.length - 1=n by omega,List.getElem?_eq_getElem (by omega)] at hx
          have hx:=Option.some.inj hx
          subst hx
          exact bne_iff_ne.1 h
    · refine⟨false,Evt.succ (.of fun k=>?_),fun h=>by cases h⟩
      rw [spec_NatOk.l0,if_neg (by omega),if_neg (by omega)]
  | m + 1, i, hm, hi => by
    have hlt:i<a.length:=by omega
    obtain⟨v,v1,v2⟩:=ok_loop hl m (i+1) (by omega) (by omega)
    by_cases c:0≤a[i]∧a[i]≤9999
    · refine⟨v,Evt.succ (v1.eq fun k=>?_),fun h=>⟨?_,(v2 h).2⟩⟩
      · rw [spec_NatOk.l0,if_pos (by omega),if_pos (by omega),if_pos (by omega),rdn a i hlt,in_f,Option.bind_some,if_pos (decide_eq_true c),w_succ (by omega)]
      · rw [List.drop_eq_getElem_cons hlt]
        exact Lim.app (a:=[a[i]]) (Lim.one c.1 c.2) (v2 h).1
    · refine⟨false,Evt.succ (.of fun k=>?_),fun h=>by cases h⟩
      rw [spec_NatOk.l0,if_pos (by omega),if_pos (by omega),if_pos (by omega),rdn a i hlt,in_f,Option.bind_some,if_neg (by simpa using c)]
theorem nat_ok (a:List Int)(hl:a.length≤1000000000):∃v,Evt (fun k=>spec_NatOk.f k a) v∧(v=true→Lim a∧a.length≤40∧Trm a):=by
  obtain⟨v,v1,v2⟩:=ok_loop hl _ 0 rfl (Nat.zero_le _)
  exact⟨v,v1.eq fun k=>rfl,fun h=>by have:=v2 h;rwa [List.drop_zero] at this⟩
theorem quot_less {a q b r:Int}{n:Nat}(h:a=q * b+r)(hr:0≤r)(hb:2≤b)(ha:a<b ^ (n+1)):q<b ^ n:=by
  rw [Int.pow_succ] at ha
  by_cases c:q<b ^ n
  · exact c
  · have h1:b ^ n * b≤q * b:=Int.mul_le_mul_of_nonneg_right (by omega) (by omega)
    omega
theorem lim2 {x:Int}(h0:0≤x)(h1:x≤9999)(h2:x≠0):Lim [x]∧Trm [x]∧val [x]=x:=⟨Lim.one h0 h1,Trm.one h2,by simp [val]⟩
theorem text_loop:∀(j:Nat) (a:List Int) (s:ByteArray),Lim a→Trm a→a.length≤1000000000→val a<256 ^ j→j+s.size≤1000000000→∃t,Evt (fun k=>spec_NatText.l0 k a s) t∧t.size≤j+s.size
  | 0, a, s, ha, ta, hl, hv, hs => by
    have h0:a.length=0:=by
      rcases Nat.eq_zero_or_pos a.length with h|h
      · exact h
      · have:=val_pos ha ta h
        simp at hv
        omega
    refine⟨s,Evt.succ (.of fun k=>?_),by omega⟩
    rw [spec_NatText.l0,if_neg (by omega)]
  | j + 1, a, s, ha, ta, hl, hv, hs => by
    by_cases c:0<a.length
    · obtain⟨b1,b2,b3⟩:=lim2 (x:=256) (by decide) (by decide) (by decide)
      obtain⟨d,d1,d2,d3,d4,d5,d6,d7,d8,d9⟩:=div ha b1 b2 (by simp) (by simp) hl
      rw [b3] at d2
      have hq:=quot_less (n:=j) d2 (val_nonneg _ d6) (by decide) hv
      have sz1:∀x:Int,(strOfNums [x]).size=1:=fun x=>by rw [strOfNums_size];rfl
      by_cases c2:0<d.2.length
      · obtain⟨t,t1,t2⟩:=text_loop j d.1 (strOfNums [rd d.2 0 % 256]++s) d3 d4 (by omega) hq (by rw [ByteArray.size_append,sz1];omega)
        refine⟨t,Evt.succ (Evt.eq (Evt.bind d1 (g:=fun k d=>if 0<(d.2.length:Int)then(if 0<(d.2.length:Int)then(if(strOfNums [rd d.2 0 % 256]).size+s.size≤9223372036854775807 then spec_NatText.l0 k d.1 (strOfNums [rd d.2 0 % 256]++s)else none)else none)else(if(strOfNums ([0]:List Int)).size+s.size≤9223372036854775807 then spec_NatText.l0 k d.1 (strOfNums ([0]:List Int)++s)else none)) ?_) fun k=>?_),by rw [ByteArray.size_append,sz1] at t2;omega⟩
        · refine t1.eq fun k=>?_
          rw [if_pos (by omega),if_pos (by omega),if_pos (by rw [sz1];omega)]
        · rw [spec_NatText.l0,if_pos (by omega)]
      · obtain⟨t,t1,t2⟩:=text_loop j d.1 (strOfNums [0]++s) d3 d4 (by omega) hq (by rw [ByteArray.size_append,sz1];omega)
        refine⟨t,Evt.succ (Evt.eq (Evt.bind d1 (g:=fun k d=>if 0<(d.2.length:Int)then(if 0<(d.2.length:Int)then(if(strOfNums [rd d.2 0 % 256]).size+s.size≤9223372036854775807 then spec_NatText.l0 k d.1 (strOfNums [rd d.2 0 % 256]++s)else none)else none)else(if(strOfNums ([0]:List Int)).size+s.size≤9223372036854775807 then spec_NatText.l0 k d.1 (strOfNums ([0]:List Int)++s)else none)) ?_) fun k=>?_),by rw [ByteArray.size_append,sz1] at t2;omega⟩
        · refine t1.eq fun k=>?_
          rw [if_neg (by omega),if_pos (by rw [sz1];omega)]
        · rw [spec_NatText.l0,if_pos (by omega)]
    · refine⟨s,Evt.succ (.of fun k=>?_),by omega⟩
      rw [spec_NatText.l0,if_neg (by omega)]
theorem p1_ (j:Nat):(10000:Int) ^ j≤256 ^ (2 * j):=by
  rw [Int.pow_mul]
  induction j with
  |zero=>simp
  | succ j ih=>
    have:=pow_pos j
    rw [Int.pow_succ,Int.pow_succ (m:=256 ^ 2)]
    have h1:(10000:Int) ^ j * 10000≤(256 ^ 2) ^ j * 10000:=Int.mul_le_mul_of_nonneg_right ih (by decide)
    have h2:((256:Int) ^ 2) ^ j * 10000≤(256 ^ 2) ^ j * 256 ^ 2:=Int.mul_le_mul_of_nonneg_left (by decide) (by omega)
    omega
theorem p2_ (j:Nat):(10000:Int) ^ j≤2 ^ (14 * j):=by
  rw [Int.pow_mul]
  induction j with
  |zero=>simp
  | succ j ih=>
    have:=pow_pos j
    rw [Int.pow_succ,Int.pow_succ (m:=2 ^ 14)]
    have h1:(10000:Int) ^ j * 10000≤(2 ^ 14) ^ j * 10000:=Int.mul_le_mul_of_nonneg_right ih (by decide)
    have h2:((2:Int) ^ 14) ^ j * 10000≤(2 ^ 14) ^ j * 2 ^ 14:=Int.mul_le_mul_of_nonneg_left (by decide) (by omega)
    omega
theorem text (a:List Int)(hl:a.length≤1000000000):∃t,Evt (fun k=>spec_NatText.f k a) t∧t.size≤80:=by
  obtain⟨v,v1,v2⟩:=nat_ok a hl
  cases v with
  |false=>exact⟨⟨#[]⟩,Evt.eq (Evt.bind v1 (g:=fun k t1=>if t1=true then(spec_NatText.l0 k a (⟨#[]⟩:ByteArray))else(some (⟨#[]⟩:ByteArray))) (.of fun k=>by rw [if_neg (by decide)])) fun k=>rfl,Nat.zero_le _⟩
  | true=>
    obtain⟨h1,h2,h3⟩:=v2 rfl
    have h4:=val_lt a h1
    have h5:=p1_ a.length
    obtain⟨t,t1,t2⟩:=text_loop (2 * a.length) a (⟨#[]⟩:ByteArray) h1 h3 hl (by omega) (by show 2 * a.length+0≤_;omega)
    have t2:t.size≤2 * a.length+0:=t2
    exact⟨t,Evt.eq (Evt.bind v1 (g:=fun k t1=>if t1=true then(spec_NatText.l0 k a (⟨#[]⟩:ByteArray))else(some (⟨#[]⟩:ByteArray))) (t1.eq fun k=>by rw [if_pos rfl])) fun k=>rfl,by omega⟩
theorem bits_loop:∀(j:Nat) (out a:List Int),Lim a→Trm a→a.length≤1000000000→val a<2 ^ j→j+out.length≤1000000000→∃t,Evt (fun k=>spec_BitsOf.l0 k out a) t∧t.length≤j+out.length
  | 0, out, a, ha, ta, hl, hv, hs => by
    have h0:a.length=0:=by
      rcases Nat.eq_zero_or_pos a.length with h|h
      · exact h
      · have:=val_pos ha ta h
        simp at hv
        omega
    refine⟨out,Evt.succ (.of fun k=>?_),by omega⟩
    rw [spec_BitsOf.l0,if_neg (by omega)]
  | j+1,out,a,ha,ta,hl,hv,hs=>by
    by_cases c:0<a.length
    · obtain⟨b1,b2,b3⟩:=lim2 (x:=2) (by decide) (by decide) (by decide)
      obtain⟨d,d1,d2,d3,d4,d5,d6,d7,d8,d9⟩:=div ha b1 b2 (by simp) (by simp) hl
      rw [b3] at d2
      have hq:=quot_less (n:=j) d2 (val_nonneg _ d6) (by decide) hv
      obtain⟨t,t1,t2⟩:=bits_loop j (out++ [Int.tmod (rd a 0) 2]) d.1 d3 d4 (by omega) hq (by rw [List.length_append];simp only [List.length_cons,List.length_nil];omega)
      have hc:(out.length+1≤17592186044416)=True:=eq_true (by omega)
      refine⟨t,Evt.succ (Evt.eq (Evt.bind d1 (g:=fun k d=>spec_BitsOf.l0 k (out++ [Int.tmod (rd a 0) 2]) d.1) t1) fun k=>?_),by rw [List.length_append] at t2;simp only [List.length_cons,List.length_nil] at t2;omega⟩
      rw [spec_BitsOf.l0,if_pos (by omega),if_pos (by omega)]
      simp only [hc,if_true,lets]
    · refine⟨out,Evt.succ (.of fun k=>?_),by omega⟩
      rw [spec_BitsOf.l0,if_neg (by omega)]
theorem bits (a:List Int)(hl:a.length≤1000000000):∃t,Evt (fun k=>spec_BitsOf.f k a) t∧t.length≤1000:=by
  obtain⟨v,v1,v2⟩:=nat_ok a hl
  cases v with
  |false=>exact⟨[],Evt.eq (Evt.bind v1 (g:=fun k t3=>if t3=true then(spec_BitsOf.l0 k ([]:List Int) a)else(some ([]:List Int))) (.of fun k=>by rw [if_neg (by decide)])) fun k=>rfl,Nat.zero_le _⟩
  | true=>
    obtain⟨h1,h2,h3⟩:=v2 rfl
    have h4:=val_lt a h1
    have h5:=p2_ a.length
    obtain⟨t,t1,t2⟩:=bits_loop (14 * a.length) [] a h1 h3 hl (by omega) (by simp only [List.length_nil];omega)
    simp only [List.length_nil] at t2
    exact⟨t,Evt.eq (Evt.bind v1 (g:=fun k t3=>if t3=true then(spec_BitsOf.l0 k ([]:List Int) a)else(some ([]:List Int))) (t1.eq fun k=>by rw [if_pos rfl])) fun k=>rfl,by omega⟩
theorem text_lt (a:List Int)(hl:a.length≤1000000000)(j:Nat)(hj:j≤1000)(h:a.length=0∨val a<256 ^ j):∃t,Evt (fun k=>spec_NatText.f k a) t∧t.size≤j:=by
  obtain⟨v,v1,v2⟩:=nat_ok a hl
  cases v with
  |false=>exact⟨⟨#[]⟩,Evt.eq (Evt.bind v1 (g:=fun k t1=>if t1=true then(spec_NatText.l0 k a (⟨#[]⟩:ByteArray))else(some (⟨#[]⟩:ByteArray))) (.of fun k=>by rw [if_neg (by decide)])) fun k=>rfl,Nat.zero_le _⟩
  | true=>
    obtain⟨h1,h2,h3⟩:=v2 rfl
    have hv:val a<256 ^ j:=h.elim (fun h=>by obtain rfl:=List.eq_nil_of_length_eq_zero h;exact Int.pow_pos (by decide)) id
    obtain⟨t,t1,t2⟩:=text_loop j a (⟨#[]⟩:ByteArray) h1 h3 hl hv (by show j+0≤_;omega)
    exact⟨t,Evt.eq (Evt.bind v1 (g:=fun k t1=>if t1=true then(spec_NatText.l0 k a (⟨#[]⟩:ByteArray))else(some (⟨#[]⟩:ByteArray))) (t1.eq fun k=>by rw [if_pos rfl])) fun k=>rfl,t2⟩
def Lt (t m:List Int):Prop:=t.length=0∨val t<val m
theorem mulmod (a b m:List Int)(ha:a.length≤1000000000)(hb:b.length≤1000000000)(hm:m.length≤1000000000):∃t,Evt (fun k=>spec_MulMod.f k a b m) t∧t.length≤40∧Lt t m:=by
  obtain⟨v,v1,v2⟩:=nat_ok a ha
  obtain⟨u,u1,u2⟩:=nat_ok b hb
  obtain⟨z,z1,z2⟩:=nat_ok m hm
  have key:∃t,Evt (fun k=>if v=true then((spec_NatOk.f k b).bind fun t4=>(if t4=true then((spec_NatOk.f k m).bind fun t7=>(if t7=true then(if(m.length:Int)=0 then(some ([]:List Int))else((spec_l04Mul.f k a b).bind fun t13=>((spec_l04Div.f k t13 m).bind fun t16=>(some t16.2))))else(some ([]:List Int))))else(some ([]:List Int))))else(some ([]:List Int))) t∧t.length≤40∧Lt t m:=by
    cases v with
    |false=>exact⟨[],.of fun k=>by rw [if_neg (by decide)],Nat.zero_le _,.inl rfl⟩
    | true=>
      obtain⟨a1,a2,a3⟩:=v2 rfl
      simp only [if_true]
      cases u with
      |false=>exact⟨[],Evt.bind u1 (.of fun k=>by rw [if_neg (by decide)]),Nat.zero_le _,.inl rfl⟩
      | true=>
        obtain⟨b1,b2,b3⟩:=u2 rfl
        cases z with
        |false=>exact⟨[],Evt.bind u1 (by simp only [if_true];exact Evt.bind z1 (.of fun k=>by rw [if_neg (by decide)])),Nat.zero_le _,.inl rfl⟩
        | true=>
          obtain⟨m1,m2,m3⟩:=z2 rfl
          by_cases c:m.length=0
          · exact⟨[],Evt.bind u1 (by simp only [if_true];exact Evt.bind z1 (.of fun k=>by rw [if_pos rfl,if_pos (by omega)])),Nat.zero_le _,.inl rfl⟩
          · obtain⟨p,p1,p2,p3,p4,p5⟩:=mul a1 b1 (by omega)
            obtain⟨d,d1,d2,d3,d4,d5,d6,d7,d8,d9⟩:=div p3 m1 m3 (by omega) (by omega) (a:=p) (by omega)
            refine⟨d.2,Evt.bind u1 ?_,by omega,.inr d9⟩
            simp only [if_true]
            refine Evt.bind z1 ?_
            simp only [if_true]
            refine Evt.eq (g:=fun k=>(spec_l04Mul.f k a b).bind fun t13=>((spec_l04Div.f k t13 m).bind fun t16=>(some t16.2))) (Evt.bind p1 ?_) fun k=>by rw [if_neg (by omega)]
            exact Evt.bind d1 Evt.now
  obtain⟨t,t1,t2⟩:=key
  exact⟨t,Evt.eq (Evt.bind v1 t1) fun k=>rfl,t2⟩
theorem pow_loop (m bs:List Int)(hm:m.length≤1000000000)(hb:bs.length≤1000000):∀(n i:Nat) (out b:List Int),bs.length - i=n→i≤bs.length→out.length≤1000000∧Lt out m→b.length≤1000000→∃t,Evt (fun k=>spec_PowMod.l0 k out b (i:Int) m bs) t∧t.length≤1000000∧Lt t m
  | 0,i,out,b,hn,hi,ho,hbl=>by
    refine⟨out,Evt.succ (.of fun k=>?_),ho⟩
    rw [spec_PowMod.l0,if_neg (by omega)]
  | n + 1, i, out, b, hn, hi, ho, hbl => by
    have hlt:i<bs.length:=by omega
    obtain⟨p,p1,p2,p3⟩:=mulmod out b m (by have:=ho.1;omega) (by omega) hm
    obtain⟨q,q1,q2,_⟩:=mulmod b b m (by omega) (by omega) hm
    by_cases c:bs[i]=1
    · obtain⟨t,t1,t2⟩:=pow_loop m bs hm hb n (i+1) p q (by omega) (by omega) ⟨by omega,p3⟩ (by omega)
      have st:Evt (fun k=>(spec_MulMod.f k out b m).bind fun t62=>(spec_MulMod.f k b b m).bind fun t65=>spec_PowMod.l0 k t62 t65 ((i+1:Nat):Int) m bs) t:=by
        refine Evt.bind p1 ?_
        exact Evt.bind q1 t1
      refine⟨t,Evt.succ (st.eq fun k=>?_),t2⟩
      rw [spec_PowMod.l0,if_pos (by omega),if_pos (by omega),if_pos (by omega),rdn bs i hlt,if_pos c,w_succ (by omega)]
    · obtain⟨t,t1,t2⟩:=pow_loop m bs hm hb n (i+1) out q (by omega) (by omega) ho (by omega)
      have st:Evt (fun k=>(spec_MulMod.f k b b m).bind fun t65=>spec_PowMod.l0 k out t65 ((i+1:Nat):Int) m bs) t:=Evt.bind q1 t1
      refine⟨t,Evt.succ (st.eq fun k=>?_),t2⟩
      rw [spec_PowMod.l0,if_pos (by omega),if_pos (by omega),if_pos (by omega),rdn bs i hlt,if_neg c,w_succ (by omega)]
theorem powmod (a e m:List Int)(ha:a.length≤1000000000)(he:e.length≤1000000000)(hm:m.length≤1000000000):∃t,Evt (fun k=>spec_PowMod.f k a e m) t∧t.length≤1000000∧Lt t m:=by
  obtain⟨v,v1,v2⟩:=nat_ok a ha
  obtain⟨u,u1,u2⟩:=nat_ok e he
  obtain⟨z,z1,z2⟩:=nat_ok m hm
  have key:∃t,Evt (fun k=>if v=true then((spec_NatOk.f k e).bind fun t4=>(if t4=true then((spec_NatOk.f k m).bind fun t7=>(if t7=true then(if(m.length:Int)=0 then(some ([]:List Int))else((spec_l04Div.f k ([1]:List Int) m).bind fun t15=>((spec_l04Div.f k a m).bind fun t19=>((spec_BitsOf.f k e).bind fun t23=>(spec_PowMod.l0 k t15.2 t19.2 0 m t23)))))else(some ([]:List Int))))else(some ([]:List Int))))else(some ([]:List Int))) t∧t.length≤1000000∧Lt t m:=by
    cases v with
    |false=>exact⟨[],.of fun k=>by rw [if_neg (by decide)],Nat.zero_le _,.inl rfl⟩
    | true=>
      obtain⟨a1,a2,a3⟩:=v2 rfl
      simp only [if_true]
      cases u with
      |false=>exact⟨[],Evt.bind u1 (.of fun k=>by rw [if_neg (by decide)]),Nat.zero_le _,.inl rfl⟩
      | true=>
        cases z with
        |false=>exact⟨[],Evt.bind u1 (by simp only [if_true];exact Evt.bind z1 (.of fun k=>by rw [if_neg (by decide)])),Nat.zero_le _,.inl rfl⟩
        | true=>
          obtain⟨m1,m2,m3⟩:=z2 rfl
          by_cases c:m.length=0
          · exact⟨[],Evt.bind u1 (by simp only [if_true];exact Evt.bind z1 (.of fun k=>by rw [if_pos rfl,if_pos (by omega)])),Nat.zero_le _,.inl rfl⟩
          · obtain⟨b1,b2,b3⟩:=lim2 (x:=1) (by decide) (by decide) (by decide)
            obtain⟨d,d1,d2,d3,d4,d5,d6,d7,d8,d9⟩:=div b1 m1 m3 (by omega) (by omega) (by simp)
            obtain⟨g,g1,g2,g3,g4,g5,g6,g7,g8,g9⟩:=div a1 m1 m3 (by omega) (by omega) (by omega)
            obtain⟨bs,s1,s2⟩:=bits e he
            obtain⟨t,t1,t2⟩:=pow_loop m bs hm (by omega) _ 0 d.2 g.2 rfl (Nat.zero_le _) ⟨by omega,.inr d9⟩ (by omega)
            refine⟨t,Evt.bind u1 ?_,t2⟩
            simp only [if_true]
            refine Evt.bind z1 ?_
            simp only [if_true]
            refine Evt.eq (g:=fun k=>((spec_l04Div.f k ([1]:List Int) m).bind fun t15=>((spec_l04Div.f k a m).bind fun t19=>((spec_BitsOf.f k e).bind fun t23=>(spec_PowMod.l0 k t15.2 t19.2 0 m t23))))) (Evt.bind d1 ?_) fun k=>by rw [if_neg (by omega)]
            refine Evt.bind g1 ?_
            exact Evt.bind s1 t1
  obtain⟨t,t1,t2⟩:=key
  exact⟨t,Evt.eq (Evt.bind v1 t1) fun k=>rfl,t2⟩
end Go.Proofs.YtfcpjeeeddjakaaGreat.NatDFnPlans

/- A row of one's own whose values are moved into another row of one's own. Plain lemmas, no condition. -/
import Derived.Test.YtfcpjeeeddjakaaGreatZView
import Derived.Laws.StructEq
namespace Go.Proofs.YtfcpjeeeddjakaaGreat.Z
open Go.RowKit YtfcpjeeeddjakaaGreatW.PrintWords YtfcpjeeeddjakaaGreatW.PrintLast
def kraw (n:Nat):Kd (List Value) where
  sz:=n
  E:=[]
  K:=fun _ x cs=>cs=x∧x.length=n∧∀q∈x,q.oneCell'=true
  M:=fun _ _ _ _ _=>False
  K_len:=fun h=>by rw [h.1];exact h.2.1
  K_one:=fun h=>by rw [h.1];exact h.2.2
  K_below:=fun _ h=>h
  K_of_M:=fun h=>h.elim
  M_mono:=fun _ h=>h
  M_bound:=fun h=>h
  M_move:=fun _ h=>h
  M_lower:=fun _ h=>h
def Zd.raw (n:Nat):Zd (List Value) where
  kd:=kraw n
  M:=fun _ _ x cs=>cs=x∧x.length=n∧∀q∈x,q.oneCell'=true
  of_M:=fun h=>h
  mono:=fun _ h=>h
  keep:=fun _ h=>h
theorem raw_mk (n:Nat)(w:World)(S:FP)(x:List Value)(hl:x.length=n)(h1:∀q∈x,q.oneCell'=true):(Zd.raw n).M w S x x:=⟨rfl,hl,h1⟩
def Zd.fixed {α:Type}(e:Nat)(d:Zd α)(inner:List Value):Zd (List α) where
  kd:=Kd.slice e d.kd
  M:=fun w S xs cs=>∃v,cs=[v]∧w.ownsRow 0 e d.kd.sz v xs.length inner∧(∀g,v.ownBlock=some g→S g)∧
    ∃T:Nat→FP,(∀j k,T j k→S k∧v.ownBlock≠some k)∧(∀i j k,i≠j→T i k→¬T j k)∧
      ∀j x,xs[j]?=some x→d.M w (T j) x ((inner.drop (j * d.kd.sz)).take d.kd.sz)
  of_M:=by
    rintro w S xs cs ⟨v,rfl,h⟩
    exact(Zd.slice e d).of_M ⟨v,rfl,inner,h⟩
  mono:=by
    rintro w S S' xs cs hS ⟨v,rfl,ho,h0,T,h1,h2,h3⟩
    exact⟨v,rfl,ho,fun g hg=>hS g (h0 g hg),T,fun j k hk=>⟨hS k (h1 j k hk).1,(h1 j k hk).2⟩,h2,h3⟩
  keep:=by
    rintro w w1 S xs cs hm ⟨v,rfl,ho,h0,T,h1,h2,h3⟩
    exact⟨v,rfl,own_move ho (fun k hk=>hm k (h0 k hk) (own_lt ho k hk)),h0,T,h1,h2,fun j x hx=>d.keep (fun k hk hlt=>hm k (h1 j k hk).1 hlt) (h3 j x hx)⟩
def chunks (inner:List Value)(n k:Nat):List (List Value):=(List.range k).map fun j=>(inner.drop (j * n)).take n
theorem chunks_succ (inner:List Value)(n k:Nat):chunks inner n (k+1)=chunks inner n k++ [(inner.drop (k * n)).take n]:=by
  simp [chunks,List.range_succ]
theorem chunks_get {inner:List Value}{n k j:Nat}{x:List Value}(h:(chunks inner n k)[j]?=some x):x=(inner.drop (j * n)).take n:=by
  simp only [chunks,List.getElem?_map,Option.map_eq_some_iff] at h
  obtain⟨y,h1,h2⟩:=h
  rw [List.getElem?_eq_some_iff] at h1
  obtain⟨h3,h4⟩:=h1
  rw [List.getElem_range] at h4
  rw [←h2,←h4]
theorem chunks_len (inner:List Value)(n k:Nat):(chunks inner n k).length=k:=by simp [chunks]
theorem chunk_eq {inner vs:List Value}{n j:Nat}(hl:vs.length=n)(h:∀q,q<n→inner[j * n+q]?=vs[q]?):(inner.drop (j * n)).take n=vs:=by
  apply List.ext_getElem?
  intro q
  rw [List.getElem?_take,List.getElem?_drop]
  split
  · next hq=>exact h q hq
  · next hq=>exact(List.getElem?_eq_none (by omega)).symm
section
variable {α:Type} {A:FP} {w0 w:World} {rs:List Res} {d:Zd α} {e:Nat} {xs:List α} {v:Value}
theorem Hp.fix_row (i:Nat)(h:Hp A w0 w rs)(hi:rs[i]?=some (.own (Zd.slice e d) xs [v])):∃inner,Hp A w0 w (rs.set i (.own (Zd.fixed e d inner) xs [v])):=by
  obtain⟨S0,_,v0,hv0,inner,ho,_⟩:=h.has hi
  injection hv0 with hv0
  subst hv0
  refine⟨inner,h.upd i hi ⟨rfl,rfl,rfl,Nat.le_refl _⟩ fun S hS hl=>⟨S,?_,fun k hk=>⟨.inl hk,hl k hk⟩,fun _ _ _=>rfl⟩⟩
  obtain⟨v',hv,inner',ho',h0,T,h1,h2,h3⟩:=hS
  injection hv with hv
  subst hv
  obtain rfl:=own_one ho ho'
  exact⟨_,rfl,ho,h0,T,h1,h2,h3⟩
theorem Hp.rdf {inner:List Value}{n c:Nat}{B:Option Addr}(i:Nat)(h:Hp A w0 w rs)(hi:rs[i]?=some (.own (Zd.fixed e d inner) xs [.slice B n c])):d.kd.C w B n xs:=by
  obtain⟨B',c',he,_,hc⟩:=h.reads i hi
  injection he with he
  injection he with h1 h2 h3
  subst h1;subst h2
  exact hc
theorem Hp.fixcells {inner:List Value}{n c:Nat}{B:Option Addr}(i:Nat)(h:Hp A w0 w rs)(hi:rs[i]?=some (.own (Zd.fixed e d inner) xs [.slice B n c])):inner.length=xs.length * d.kd.sz∧(0<xs.length→∃ad,B=some ad∧∀j u,inner[j]?=some u→w.cell? (ad.add j)=some u):=by
  obtain⟨S0,_,v0,hv0,ho,_⟩:=h.has hi
  injection hv0 with hv0
  subst hv0
  obtain⟨h1,_,h3⟩:=own_news ho
  exact⟨h1,h3⟩
theorem Hp.chunk {inner vs:List Value}{n c m j:Nat}{ad:Addr}(i:Nat)(h:Hp A w0 w rs)(hi:rs[i]?=some (.own (Zd.fixed e d inner) xs [.slice (some ad) n c]))(hm:d.kd.sz=m)(hj:j<xs.length)(hl:vs.length=m)(hv:∀q,q<m→w.cell? (ad.add (j * m+q))=vs[q]?):(inner.drop (j * m)).take m=vs:=by
  obtain⟨h1,h2⟩:=h.fixcells i hi
  obtain⟨ad',e',h3⟩:=h2 (by omega)
  injection e' with e'
  subst e'
  subst hm
  refine chunk_eq hl (fun q hq=>?_)
  have hlt:j * d.kd.sz+q<inner.length:=by
    rw [h1]
    calc j * d.kd.sz+q<j * d.kd.sz+d.kd.sz:=by omega
      _=(j+1) * d.kd.sz:=by rw [Nat.succ_mul]
      _≤xs.length * d.kd.sz:=Nat.mul_le_mul_right _ hj
  rw [←hv q hq,h3 _ _ (List.getElem?_eq_getElem hlt),List.getElem?_eq_getElem hlt]
theorem Hp.raw_nil {n:Nat}(i:Nat)(h:Hp A w0 w rs)(hi:rs[i]?=some (.own (Zd.slice e d) ([]:List α) [v]))(hn:d.kd.sz=n):Hp A w0 w (rs.set i (.own (Zd.slice e (Zd.raw n)) [] [v])):=by
  subst hn
  refine h.upd i hi ⟨rfl,rfl,rfl,Nat.le_refl _⟩ fun S hS hl=>⟨S,?_,fun k hk=>⟨.inl hk,hl k hk⟩,fun _ _ _=>rfl⟩
  obtain⟨v',hv,inner,ho,h0,_⟩:=hS
  injection hv with hv
  subst hv
  exact⟨_,rfl,inner,ho,h0,fun _ _=>False,fun _ _ h=>h.elim,fun _ _ _ _ h=>h.elim,fun j x hx=>by simp at hx⟩
theorem Hp.unraw {n:Nat}{ls:List (List Value)}{inner:List Value}{vl:Value}(i j:Nat)(hij:i≠j)(h:Hp A w0 w rs)(hi:rs[i]?=some (.own (Zd.slice e (Zd.raw n)) ls [vl]))(hj:rs[j]?=some (.own (Zd.fixed e d inner) xs [v]))(hn:d.kd.sz=n)(hls:ls=chunks inner n xs.length):Hp A w0 w ((rs.set i (.own (Zd.slice e d) xs [vl])).set j .emp):=by
  subst hn
  have hil:i<rs.length:=(List.getElem?_eq_some_iff.1 hi).1
  refine h.pack (r:=.own (Zd.slice e d) xs [vl]) [i,j] _ (fun S hd hh=>?_) i ?_ (fun a q ha=>?_)
  · obtain⟨v1,hv1,innerL,ho,h0,_,_,_,h3⟩:=hh i _ hi
    obtain⟨v2,hv2,ho2,h02,T,h12,h22,h32⟩:=hh j _ hj
    injection hv1 with hv1
    subst hv1
    have hlen:ls.length=xs.length:=by rw [hls,chunks_len]
    rw [hlen] at ho
    refine⟨_,rfl,innerL,ho,fun g hg=>⟨i,by simp,h0 g hg⟩,T,fun q k hk=>⟨⟨j,by simp,(h12 q k hk).1⟩,fun hg=>hd i j k hij (h0 k hg) (h12 q k hk).1⟩,h22,fun q x hx=>?_⟩
    have hq:q<ls.length:=by rw [hlen];exact(List.getElem?_eq_some_iff.1 hx).1
    have h4:=h3 q _ (List.getElem?_eq_getElem hq)
    have h5:ls[q]=(inner.drop (q * d.kd.sz)).take d.kd.sz:=chunks_get (k:=xs.length) (by rw [←hls];exact List.getElem?_eq_getElem hq)
    have h6:(innerL.drop (q * d.kd.sz)).take d.kd.sz=(inner.drop (q * d.kd.sz)).take d.kd.sz:=h4.1.trans h5
    rw [h6]
    exact h32 q x hx
  · rw [List.getElem?_set_ne (by omega),List.getElem?_set_self hil]
  · by_cases h1:a=i
    · exact .inl h1
    by_cases h2:a=j
    · subst h2
      rw [List.getElem?_set] at ha
      simp at ha
      exact .inr (.inl ha.2.symm)
    · rw [List.getElem?_set_ne (by omega),List.getElem?_set_ne (by omega)] at ha
      exact .inr (.inr ⟨ha,by simp [h1,h2]⟩)
end
def kvoid {α:Type}:Kd α where
  sz:=0
  E:=[]
  K:=fun _ _ cs=>cs=[]
  M:=fun _ _ _ _ _=>False
  K_len:=fun h=>by rw [h];rfl
  K_one:=fun h=>by rw [h];intro q hq;cases hq
  K_below:=fun _ h=>h
  K_of_M:=fun h=>h.elim
  M_mono:=fun _ h=>h
  M_bound:=fun h=>h
  M_move:=fun _ h=>h
  M_lower:=fun _ h=>h
def Zd.bag {α:Type}(d:Zd α)(inner:List Value):Zd (List α) where
  kd:=kvoid
  M:=fun w S xs cs=>cs=[]∧∃T:Nat→FP,(∀j k,T j k→S k)∧∀j x,xs[j]?=some x→d.M w (T j) x ((inner.drop (j * d.kd.sz)).take d.kd.sz)
  of_M:=fun h=>h.1
  mono:=by
    rintro w S S' xs cs hS ⟨h0,T,h1,h2⟩
    exact⟨h0,T,fun j k hk=>hS k (h1 j k hk),h2⟩
  keep:=by
    rintro w w1 S xs cs hm ⟨h0,T,h1,h2⟩
    exact⟨h0,T,h1,fun j x hx=>d.keep (fun k hk hlt=>hm k (h1 j k hk) hlt) (h2 j x hx)⟩
section
variable {α:Type} {A:FP} {w0 w:World} {rs:List Res} {d:Zd α} {e:Nat} {xs ys:List α} {v:Value}
theorem Hp.split {r r1 r2:Res}(i:Nat)(h:Hp A w0 w rs)(hi:rs[i]?=some r)(H:∀S:FP,r.holds w S→∃S1 S2:FP,(∀k,S1 k→S k)∧(∀k,S2 k→S k)∧(∀k,S1 k→¬S2 k)∧r1.holds w S1∧r2.holds w S2):Hp A w0 w (rs.set i r1++ [r2]):=by
  have hil:i<rs.length:=(List.getElem?_eq_some_iff.1 hi).1
  refine h.via [i] (ps:=[r1,r2]) (fun S h2 hl h3=>?_) _ (fun a=>if a=i then some 0 else if a=rs.length then some 1 else none) ?_ ?_
  · obtain⟨S1,S2,g1,g2,g3,g4,g5⟩:=H (S i) (h3 i r hi)
    refine⟨⟨rfl,rfl,rfl,Nat.le_refl _⟩,fun _ _ _=>rfl,fun j k=>(j=0∧S1 k)∨(j=1∧S2 k),fun j k hk=>?_,fun a b k hab ha hb=>?_,fun j q hj=>?_⟩
    · have:S i k:=hk.elim (fun h=>g1 k h.2) (fun h=>g2 k h.2)
      exact⟨.inl ⟨i,by simp,this⟩,hl i k this⟩
    · rcases ha with⟨rfl,ha⟩|⟨rfl,ha⟩ <;> rcases hb with⟨rfl,hb⟩|⟨rfl,hb⟩
      · exact hab rfl
      · exact g3 k ha hb
      · exact g3 k hb ha
      · exact hab rfl
    · match j,hj with
      | 0,hj=>
        obtain rfl:r1=q:=by simpa using hj
        exact Res.mono (fun k hk=>.inl ⟨rfl,hk⟩) g4
      | 1,hj=>
        obtain rfl:r2=q:=by simpa using hj
        exact Res.mono (fun k hk=>.inr ⟨rfl,hk⟩) g5
      |j+2,hj=>simp at hj
  · intro a b j ha hb
    have e1:∀a j,(if a=i then some 0 else if a=rs.length then some 1 else none)=some j→(a=i∧j=0)∨(a=rs.length∧j=1):=by
      intro a j h
      split at h
      · next ha=>injection h with h;exact .inl ⟨ha,h.symm⟩
      · split at h
        · next ha=>injection h with h;exact .inr ⟨ha,h.symm⟩
        · cases h
    rcases e1 _ _ ha with⟨h1,h2⟩|⟨h1,h2⟩ <;> rcases e1 _ _ hb with⟨h3,h4⟩|⟨h3,h4⟩ <;> omega
  · intro a q ha
    by_cases hai:a=i
    · subst hai
      rw [List.getElem?_append_left (by simpa using hil),List.getElem?_set_self hil] at ha
      exact .inl ⟨0,by simp,ha⟩
    · by_cases hal:a=rs.length
      · subst hal
        rw [List.getElem?_append_right (by simp)] at ha
        refine .inl ⟨1,by simp [hai],?_⟩
        simpa using ha
      · have hlt:a<rs.length:=by
          have:=(List.getElem?_eq_some_iff.1 ha).1
          simp at this
          omega
        rw [List.getElem?_append_left (by simpa using hlt),List.getElem?_set_ne (Ne.symm hai)] at ha
        exact .inr ⟨by simp [hai,hal],.inr ⟨ha,by simp [hai]⟩⟩
theorem Hp.close_row {n:Nat} {ls:List (List Value)} {inner:List Value} {vl:Value} (i j:Nat) (hij:i≠j) (h:Hp A w0 w rs) (hi:rs[i]?=some (.own (Zd.slice e (Zd.raw n)) ls [vl])) (hj:rs[j]?=some (.own (Zd.bag d inner) xs [])) (hn:d.kd.sz=n) (hl:ys.length=ls.length)
    (hys:∀(q:Nat) (x:α),ys[q]?=some x→∃p:Nat,xs[p]?=some x∧ls[q]?=some ((inner.drop (p * n)).take n)):Hp A w0 w ((rs.set i (.own (Zd.view e d) ys [vl])).set j .emp):=by
  subst hn
  have hil:i<rs.length:=(List.getElem?_eq_some_iff.1 hi).1
  refine h.pack (r:=.own (Zd.view e d) ys [vl]) [i,j] _ (fun S hd hh=>?_) i ?_ (fun a q ha=>?_)
  · obtain⟨v1,hv1,innerL,ho,h0,_,_,_,h3⟩:=hh i _ hi
    obtain⟨_,T,h2,h4⟩:=hh j _ hj
    injection hv1 with hv1
    subst hv1
    rw [←hl] at ho
    have key:∀w1:World,(∀k,(∃q,q∈ [i,j]∧S q k)→k<w.heap.size→w1.heap[k]?=w.heap[k]?)→OwnRow (d.kd.K w1) e d.kd.sz w1 0 vl ys:=fun w1 hw=>by
      have ho1:=own_move ho (fun k hk=>hw k ⟨i,by simp,h0 k hk⟩ (own_lt ho k hk))
      refine⟨innerL,ho1,ho1.1,fun q x hx=>?_⟩
      obtain⟨p,hp,hq⟩:=hys q x hx
      have h5:=h3 q _ hq
      have h6:=d.of_M (d.keep (fun k hk hlt=>hw k ⟨j,by simp,h2 p k hk⟩ hlt) (h4 p x hp))
      rw [←h5.1] at h6
      exact h6
    obtain⟨B,c,rfl,hlc,_⟩:=OwnRow.reads (key w (fun _ _ _=>rfl))
    refine⟨B,c,rfl,hlc,fun w1 hw=>?_⟩
    obtain⟨B',c',he,_,hC⟩:=OwnRow.reads (key w1 hw)
    injection he with e1 e2 e3
    subst e1
    exact hC
  · rw [List.getElem?_set_ne (by omega),List.getElem?_set_self hil]
  · by_cases h1:a=i
    · exact .inl h1
    by_cases h2:a=j
    · subst h2
      rw [List.getElem?_set] at ha
      simp at ha
      exact .inr (.inl ha.2.symm)
    · rw [List.getElem?_set_ne (by omega),List.getElem?_set_ne (by omega)] at ha
      exact .inr (.inr ⟨ha,by simp [h1,h2]⟩)
theorem Hp.to_view (i:Nat)(h:Hp A w0 w rs)(hi:rs[i]?=some (.own (Zd.slice e d) xs [v])):Hp A w0 w (rs.set i (.own (Zd.view e d) xs [v])):=by
  refine h.upd i hi ⟨rfl,rfl,rfl,Nat.le_refl _⟩ fun S hS hl=>⟨S,?_,fun k hk=>⟨.inl hk,hl k hk⟩,fun _ _ _=>rfl⟩
  have hS':(Zd.slice e d).M w S xs [v]:=hS
  obtain⟨B,c,he,hlc,_⟩:=(Zd.slice e d).of_M hS'
  injection he with he
  subst he
  refine⟨B,c,rfl,hlc,fun w1 hw=>?_⟩
  obtain⟨B',c',he,_,hC⟩:=(Zd.slice e d).of_M ((Zd.slice e d).keep hw hS')
  injection he with he
  injection he with e1 e2 e3
  subst e1
  exact hC
theorem Hp.one_of {n c m:Nat}{ad:Addr}{x:α}{vs:List Value}(i j:Nat)(h:Hp A w0 w rs)(hi:rs[i]?=some (.own (Zd.slice e d) xs [.slice (some ad) n c]))(hm:d.kd.sz=m)(hx:xs[j]?=some x)(hl:vs.length=m)(hv:∀q,q<m→w.cell? (ad.add (j * m+q))=vs[q]?):Hp A w0 w (rs.set i (.own d x vs)):=by
  obtain⟨inner,hf⟩:=h.fix_row i hi
  have hil:i<rs.length:=(List.getElem?_eq_some_iff.1 hi).1
  have hc:=hf.chunk i (by rw [List.getElem?_set_self hil]) hm (List.getElem?_eq_some_iff.1 hx).1 hl hv
  have h2:=hf.upd (r':=.own d x vs) i (by rw [List.getElem?_set_self hil]) ⟨rfl,rfl,rfl,Nat.le_refl _⟩ fun S hS hl=>⟨S,by
    obtain⟨v',hv',ho,h0,T,h1,h2,h3⟩:=hS
    subst hm
    have:=h3 j x hx
    rw [hc] at this
    exact d.mono (fun k hk=>(h1 j k hk).1) this,fun k hk=>⟨.inl hk,hl k hk⟩,fun _ _ _=>rfl⟩
  rwa [List.set_set] at h2
end
section
variable {α:Type} {A:FP} {w0 w:World} {rs:List Res} {d:Zd α} {e:Nat} {xs:List α} {v:Value}
theorem chunk_get {inner vs:List Value}{m j q:Nat}{u:Value}(h:(inner.drop (j * m)).take m=vs)(hq:vs[q]?=some u):inner[j * m+q]?=some u:=by
  rw [←h,List.getElem?_take,List.getElem?_drop] at hq
  split at hq
  · exact hq
  · cases hq
theorem Hp.fixat0 {inner vs:List Value}{n c m j:Nat}{ad:Addr}{u:Value}(i:Nat)(h:Hp A w0 w rs)(hi:rs[i]?=some (.own (Zd.fixed e d inner) xs [.slice (some ad) n c]))(hc:(inner.drop (j * m)).take m=vs)(hu:vs[0]?=some u)(hx:0<xs.length):w.cell? (ad.add (j * m))=some u:=by
  obtain⟨_,h2⟩:=h.fixcells i hi
  obtain⟨ad',e',h3⟩:=h2 hx
  injection e' with e'
  subst e'
  exact h3 _ _ (chunk_get (q:=0) hc hu)
theorem Hp.fixatS {inner vs:List Value}{n c m j:Nat}{ad:Addr}{u:Value}(i q:Nat)(h:Hp A w0 w rs)(hi:rs[i]?=some (.own (Zd.fixed e d inner) xs [.slice (some ad) n c]))(hc:(inner.drop (j * m)).take m=vs)(hu:vs[q]?=some u)(hx:0<xs.length)(hq:0<q):w.cell? ⟨(ad.add (j * m)).block,(ad.add (j * m)).off+q,none⟩=some u:=by
  obtain⟨_,h2⟩:=h.fixcells i hi
  obtain⟨ad',e',h3⟩:=h2 hx
  injection e' with e'
  subst e'
  rw [←add_field _ _ q hq]
  exact h3 _ _ (chunk_get hc hu)
theorem Hp.open_fixed {n:Nat}{inner:List Value}(i:Nat)(h:Hp A w0 w rs)(hi:rs[i]?=some (.own (Zd.fixed e d inner) xs [v]))(hn:d.kd.sz=n):Hp A w0 w (rs.set i (.own (Zd.slice e (Zd.raw n)) (chunks inner n xs.length) [v])++ [.own (Zd.bag d inner) xs []]):=by
  subst hn
  refine h.split i hi (fun S hS=>?_)
  obtain⟨v',hv,ho,h0,T,h2,h3,h4⟩:=hS
  injection hv with hv
  subst hv
  refine⟨fun k=>v.ownBlock=some k,fun k=>∃j,T j k,h0,fun k ⟨j,hj⟩=>(h2 j k hj).1,fun k hk ⟨j,hj⟩=>(h2 j k hj).2 hk,⟨_,rfl,inner,?_,fun g hg=>hg,fun _ _=>False,fun _ _ h=>h.elim,fun _ _ _ _ h=>h.elim,fun j x hx=>?_⟩,⟨rfl,T,fun j k hk=>⟨j,hk⟩,h4⟩⟩
  · rw [chunks_len];exact ho
  · have hx':=chunks_get hx
    have hj:j<xs.length:=by have:=(List.getElem?_eq_some_iff.1 hx).1;rwa [chunks_len] at this
    have hK:=d.of_M (h4 j _ (List.getElem?_eq_getElem hj))
    have g1:=d.kd.K_len hK
    have g2:=d.kd.K_one hK
    rw [←hx'] at g1 g2
    exact⟨hx'.symm,g1,g2⟩
theorem Hp.close_self {n p:Nat}{x:α}{vs inner:List Value}{vl:Value}(i j:Nat)(hij:i≠j)(h:Hp A w0 w rs)(hi:rs[i]?=some (.own (Zd.slice e (Zd.raw n)) (chunks inner n xs.length++ [vs]) [vl]))(hj:rs[j]?=some (.own (Zd.bag d inner) xs []))(hn:d.kd.sz=n)(hx:xs[p]?=some x)(hc:(inner.drop (p * n)).take n=vs):Hp A w0 w ((rs.set i (.own (Zd.view e d) (xs++ [x]) [vl])).set j .emp):=by
  refine h.close_row i j hij hi hj hn (by simp [chunks_len]) (fun q y hq=>?_)
  by_cases hlt:q<xs.length
  · rw [List.getElem?_append_left hlt] at hq
    refine⟨q,hq,?_⟩
    rw [List.getElem?_append_left (by rw [chunks_len];exact hlt),List.getElem?_eq_getElem (by rw [chunks_len];exact hlt)]
    exact congrArg some (chunks_get (k:=xs.length) (List.getElem?_eq_getElem (by rw [chunks_len];exact hlt)))
  · rw [List.getElem?_append_right (by omega)] at hq
    have h0:q=xs.length:=by
      have:=(List.getElem?_eq_some_iff.1 hq).1
      simp at this
      omega
    subst h0
    simp at hq
    subst hq
    refine⟨p,hx,?_⟩
    rw [List.getElem?_append_right (by rw [chunks_len];omega),chunks_len,hc]
    simp
end
section
variable {α β:Type} {A:FP} {w0 w:World} {rs:List Res} {d:Zd α} {e:Nat} {xs:List α} {v:Value}
theorem Hp.one_fixed {m j:Nat}{x:α}{vs inner:List Value}(i:Nat)(h:Hp A w0 w rs)(hi:rs[i]?=some (.own (Zd.fixed e d inner) xs [v]))(hm:d.kd.sz=m)(hx:xs[j]?=some x)(hc:(inner.drop (j * m)).take m=vs):Hp A w0 w (rs.set i (.own d x vs)):=by
  subst hm
  refine h.upd i hi ⟨rfl,rfl,rfl,Nat.le_refl _⟩ fun S hS hl=>⟨S,?_,fun k hk=>⟨.inl hk,hl k hk⟩,fun _ _ _=>rfl⟩
  obtain⟨v',hv',ho,h0,T,h1,h2,h3⟩:=hS
  have:=h3 j x hx
  rw [hc] at this
  exact d.mono (fun k hk=>(h1 j k hk).1) this
theorem Hp.un_iso {f:β→α}{x:β}{cs:List Value}(i:Nat)(h:Hp A w0 w rs)(hi:rs[i]?=some (.own (Zd.iso d f) x cs)):Hp A w0 w (rs.set i (.own d (f x) cs)):=
  h.upd i hi ⟨rfl,rfl,rfl,Nat.le_refl _⟩ fun S hS hl=>⟨S,hS,fun k hk=>⟨.inl hk,hl k hk⟩,fun _ _ _=>rfl⟩
theorem Hp.split_pair {a:Zd α}{b:Zd β}{x:α×β}{cs:List Value}{n:Nat}(i:Nat)(h:Hp A w0 w rs)(hi:rs[i]?=some (.own (Zd.pair a b) x cs))(hn:a.kd.sz=n):Hp A w0 w (rs.set i (.own a x.1 (cs.take n))++ [.own b x.2 (cs.drop n)]):=by
  subst hn
  refine h.split i hi (fun S hS=>?_)
  obtain⟨c0,c1,S0,S1,rfl,h0,h1,hd,g0,g1⟩:=hS
  have hl:=a.kd.K_len (a.of_M g0)
  refine⟨S0,S1,h0,h1,hd,?_,?_⟩
  · rw [←hl,List.take_left]
    exact g0
  · rw [←hl,List.drop_left]
    exact g1
end
section
variable {P:Program} {d:Nat} {xs ys:Array Value} {f:Field} {fs:List Field} {a b:Value} {r s:Bool} {w:World}
theorem eqf_last (hn:(f.name== "_")=false)(ha:(part f.type xs f.offset).run P w=.ok a w)(hb:(part f.type ys f.offset).run P w=.ok b w)(he:(Op.equalIn d f.type a b).run P w=.ok r w):(Op.eqFields d xs ys [f]).run P w=.ok r w:=by
  have hn':f.name≠ "_" :=by simpa using hn
  simp only [Op.eqFields,if_pos hn',Sem.run_bind,ha,hb,he,Result.andThen_ok]
  cases r <;> simp
theorem eqf_cons (hn:(f.name== "_")=false)(ha:(part f.type xs f.offset).run P w=.ok a w)(hb:(part f.type ys f.offset).run P w=.ok b w)(he:(Op.equalIn d f.type a b).run P w=.ok r w)(hr:(Op.eqFields d xs ys fs).run P w=.ok s w):(Op.eqFields d xs ys (f :: fs)).run P w=.ok (r&&s) w:=by
  have hn':f.name≠ "_" :=by simpa using hn
  rw [Op.eqFields]
  simp only [if_pos hn',Sem.run_bind,ha,hb,he,Result.andThen_ok]
  cases r
  · simp
  · simpa using hr
theorem eqA_of {t:TypeId}{fs:Array Field}(hu:P.underlying t=some (.struct fs))(hp:P.stoodInHeld t=false)(h:(Op.eqFields d xs ys fs.toList).run P w=.ok r w):(Op.equalIn (d+1) t (.agg xs) (.agg ys)).run P w=.ok r w:=by
  have hf:P.fieldsOf t=fs:=by simp [Program.fieldsOf,hu]
  rw [run_equalIn_struct (P:=P) w d t xs ys (by rw [hf];exact hu) hp,hf]
  exact h
end
section
variable {P:Program} {o:Oper} {a:Act} {W:World}
theorem run_neqA {t t2:TypeId}{x y:Operand}{xs ys:Array Value}{r:Bool}(ho:o.op=.binOp .neq t x y t2)(hx:a.eval x=.agg xs)(hy:a.eval y=.agg ys)(hm:P.eqGuardType P.depth t=false)(h:(Op.equalIn 10000 t (.agg xs) (.agg ys)).run P W=.ok r W):(execOp a.eval o).run P W=.ok (.value (.bool (!r))) W:=by
  unfold execOp
  simp only [ho,hx,hy,Sem.run_bind,Sem.run_pure,Result.andThen_ok,run_eqGuard_agg W .neq t x y xs ys hm,run_neq_struct,h]
end
end Go.Proofs.YtfcpjeeeddjakaaGreat.Z

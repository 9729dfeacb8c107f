/- What a call's own memory is, told as a list of parts that lie apart: variables in memory, and values with all the rows that they lead to. Plain lemmas, no condition. -/
import Derived.Test.YtncddikfafgklaaGreatDoorW
namespace Go.Proofs.YtncddikfafgklaaGreatDoor.Z
open Go.RowKit YtncddikfafgklaaGreatDoorW.PrintWords YtncddikfafgklaaGreatDoorW.PrintLast
abbrev FP:=Nat→Prop
structure Zd (α:Type) where
  kd:Kd α
  M:World→FP→α→List Value→Prop
  of_M:∀ {w S x cs},M w S x cs→kd.K w x cs
  mono:∀ {w S S' x cs},(∀k,S k→S' k)→M w S x cs→M w S' x cs
  keep:∀ {w w1:World} {S x cs},(∀k,S k→k<w.heap.size→w1.heap[k]?=w.heap[k]?)→M w S x cs→M w1 S x cs
def Row {α:Type}(d:Zd α)(e:Nat)(w:World)(S:FP)(v:Value)(xs:List α):Prop:=
  ∃inner:List Value,w.ownsRow 0 e d.kd.sz v xs.length inner∧(∀g,v.ownBlock=some g→S g)∧
    ∃T:Nat→FP,(∀j k,T j k→S k∧v.ownBlock≠some k)∧(∀i j k,i≠j→T i k→¬T j k)∧
      ∀j x,xs[j]?=some x→d.M w (T j) x ((inner.drop (j * d.kd.sz)).take d.kd.sz)
section
variable {α:Type} {d:Zd α} {e:Nat} {w w1:World} {S S':FP} {v:Value} {xs:List α}
theorem Row.ownRow (h:Row d e w S v xs):OwnRow (d.kd.K w) e d.kd.sz w 0 v xs:=by
  obtain⟨inner,ho,hS,T,h1,h2,h3⟩:=h
  exact⟨inner,ho,ho.1,fun j p hj=>d.of_M (h3 j p hj)⟩
theorem Row.reads (h:Row d e w S v xs):∃A c,v=.slice A xs.length c∧xs.length≤c∧d.kd.C w A xs.length xs:=OwnRow.reads h.ownRow
theorem Row.mono (hS:∀k,S k→S' k)(h:Row d e w S v xs):Row d e w S' v xs:=by
  obtain⟨inner,ho,h0,T,h1,h2,h3⟩:=h
  exact⟨inner,ho,fun g hg=>hS g (h0 g hg),T,fun j k hk=>⟨hS k (h1 j k hk).1,(h1 j k hk).2⟩,h2,h3⟩
theorem Row.keep (hm:∀k,S k→k<w.heap.size→w1.heap[k]?=w.heap[k]?)(h:Row d e w S v xs):Row d e w1 S v xs:=by
  obtain⟨inner,ho,h0,T,h1,h2,h3⟩:=h
  exact⟨inner,own_move ho (fun k hk=>hm k (h0 k hk) (own_lt ho k hk)),h0,T,h1,h2,fun j x hx=>d.keep (fun k hk hlt=>hm k (h1 j k hk).1 hlt) (h3 j x hx)⟩
theorem Row.nil (d:Zd α)(e:Nat)(w:World)(S:FP):Row d e w S (.slice none 0 0) []:=
  ⟨[],own_nil _ _ _ _,fun g hg=>by simp [Value.ownBlock] at hg,fun _ _=>False,fun _ _ h=>h.elim,fun _ _ _ _ h=>h.elim,fun j x hx=>by simp at hx⟩
end
namespace Zd
def scalar {α:Type}(enc:α→Value)(h1:∀x,(enc x).oneCell'=true):Zd α where
  kd:=Kd.scalar enc h1
  M:=fun _ _ x cs=>cs=[enc x]
  of_M:=fun h=>h
  mono:=fun _ h=>h
  keep:=fun _ h=>h
def int (k:IntKind):Zd Int:=scalar (Value.int k) (fun _=>rfl)
def bool:Zd Bool:=scalar Value.bool (fun _=>rfl)
def string:Zd ByteArray:=scalar Value.string (fun _=>rfl)
def slice {α:Type}(e:Nat)(d:Zd α):Zd (List α) where
  kd:=Kd.slice e d.kd
  M:=fun w S xs cs=>∃v,cs=[v]∧Row d e w S v xs
  of_M:=by
    rintro w S xs cs ⟨v,rfl,h⟩
    obtain⟨A,c,rfl,hl,hr⟩:=h.reads
    exact⟨A,c,rfl,hl,hr⟩
  mono:=by
    rintro w S S' xs cs hS ⟨v,rfl,h⟩
    exact⟨v,rfl,h.mono hS⟩
  keep:=by
    rintro w w1 S xs cs hm ⟨v,rfl,h⟩
    exact⟨v,rfl,h.keep hm⟩
def pair {α β:Type}(a:Zd α)(b:Zd β):Zd (α×β) where
  kd:=Kd.pair a.kd b.kd
  M:=fun w S x cs=>∃c0 c1,∃S0 S1:FP,cs=c0++c1∧(∀k,S0 k→S k)∧(∀k,S1 k→S k)∧(∀k,S0 k→¬S1 k)∧a.M w S0 x.1 c0∧b.M w S1 x.2 c1
  of_M:=by
    rintro w S x cs ⟨c0,c1,S0,S1,rfl,_,_,_,h0,h1⟩
    exact⟨c0,c1,rfl,a.of_M h0,b.of_M h1⟩
  mono:=by
    rintro w S S' x cs hS ⟨c0,c1,S0,S1,rfl,g0,g1,g2,h0,h1⟩
    exact⟨c0,c1,S0,S1,rfl,fun k hk=>hS k (g0 k hk),fun k hk=>hS k (g1 k hk),g2,h0,h1⟩
  keep:=by
    rintro w w1 S x cs hm ⟨c0,c1,S0,S1,rfl,g0,g1,g2,h0,h1⟩
    exact⟨c0,c1,S0,S1,rfl,g0,g1,g2,a.keep (fun k hk=>hm k (g0 k hk)) h0,b.keep (fun k hk=>hm k (g1 k hk)) h1⟩
def iso {α β:Type}(d:Zd α)(f:β→α):Zd β where
  kd:=Kd.iso d.kd f
  M:=fun w S x cs=>d.M w S (f x) cs
  of_M:=fun h=>d.of_M h
  mono:=d.mono
  keep:=d.keep
end Zd
structure ZF {α β:Type}(F:Zd α→Zd β):Prop where
  kd:∀d d':Zd α,d.kd=d'.kd→(F d).kd=(F d').kd
  mono:∀d d':Zd α,d.kd=d'.kd→(∀w S x cs,d.M w S x cs→d'.M w S x cs)→∀w S y cs,(F d).M w S y cs→(F d').M w S y cs
  cont:∀(D:Nat→Zd α) (d:Zd α),(∀n,(D n).kd=d.kd)→(∀n m,n≤m→∀w S x cs,(D n).M w S x cs→(D m).M w S x cs)→(∀w S x cs,d.M w S x cs→∃n,(D n).M w S x cs)→∀w S y cs,(F d).M w S y cs→∃n,(F (D n)).M w S y cs
theorem ZF.const {α β:Type}(b:Zd β):ZF (fun _:Zd α=>b):=⟨fun _ _ _=>rfl,fun _ _ _ _ _ _ _ _ h=>h,fun _ _ _ _ _ _ _ _ _ h=>⟨0,h⟩⟩
theorem ZF.id {α:Type}:ZF (fun d:Zd α=>d):=⟨fun _ _ h=>h,fun _ _ _ h=>h,fun _ _ _ _ h=>h⟩
theorem ZF.iso {α β γ:Type}{F:Zd α→Zd β}(f:γ→β)(h:ZF F):ZF (fun d=>Zd.iso (F d) f):=
  ⟨fun d d' e=>by show Kd.iso _ f=Kd.iso _ f;rw [h.kd d d' e],fun d d' e g w S y cs=>h.mono d d' e g w S (f y) cs,fun D d e g1 g2 w S y cs=>h.cont D d e g1 g2 w S (f y) cs⟩
theorem ZF.pair {α β γ:Type}{F:Zd α→Zd β}{G:Zd α→Zd γ}(hF:ZF F)(hG:ZF G):ZF (fun d=>Zd.pair (F d) (G d)):=by
  refine⟨fun d d' e=>?_,?_,?_⟩
  · show Kd.pair _ _=Kd.pair _ _
    rw [hF.kd d d' e,hG.kd d d' e]
  · rintro d d' e g w S y cs ⟨c0,c1,S0,S1,rfl,g0,g1,g2,h0,h1⟩
    exact⟨c0,c1,S0,S1,rfl,g0,g1,g2,hF.mono d d' e g _ _ _ _ h0,hG.mono d d' e g _ _ _ _ h1⟩
  · rintro D d e m1 m2 w S y cs ⟨c0,c1,S0,S1,rfl,g0,g1,g2,h0,h1⟩
    obtain⟨n0,k0⟩:=hF.cont D d e m1 m2 _ _ _ _ h0
    obtain⟨n1,k1⟩:=hG.cont D d e m1 m2 _ _ _ _ h1
    refine⟨max n0 n1,c0,c1,S0,S1,rfl,g0,g1,g2,?_,?_⟩
    · exact hF.mono _ _ ((e _).trans (e _).symm) (m1 _ _ (Nat.le_max_left _ _)) _ _ _ _ k0
    · exact hG.mono _ _ ((e _).trans (e _).symm) (m1 _ _ (Nat.le_max_right _ _)) _ _ _ _ k1
theorem all_below {p:Nat→Nat→Prop}(hm:∀j n m,n≤m→p j n→p j m):∀k,(∀j,j<k→∃n,p j n)→∃n,∀j,j<k→p j n
  |0,_=>⟨0,fun j hj=>absurd hj (Nat.not_lt_zero _)⟩
  | k+1,h=>by
    obtain⟨n0,h0⟩:=all_below hm k (fun j hj=>h j (by omega))
    obtain⟨n1,h1⟩:=h k (by omega)
    refine⟨max n0 n1,fun j hj=>?_⟩
    by_cases e:j=k
    · subst e;exact hm _ _ _ (Nat.le_max_right _ _) h1
    · exact hm _ _ _ (Nat.le_max_left _ _) (h0 j (by omega))
theorem ZF.slice {α β:Type}{F:Zd α→Zd β}(e:Nat)(h:ZF F):ZF (fun d=>Zd.slice e (F d)):=by
  refine⟨fun d d' g=>?_,?_,?_⟩
  · show Kd.slice e _=Kd.slice e _
    rw [h.kd d d' g]
  · rintro d d' g m w S y cs ⟨v,rfl,inner,ho,hS,T,h1,h2,h3⟩
    have hk:=h.kd d d' g
    refine⟨v,rfl,inner,?_,hS,T,h1,h2,fun j x hx=>?_⟩
    · rw [←hk];exact ho
    · rw [←hk];exact h.mono d d' g m _ _ _ _ (h3 j x hx)
  · rintro D d g m1 m2 w S y cs ⟨v,rfl,inner,ho,hS,T,h1,h2,h3⟩
    have hk:=fun n=>h.kd (D n) d (g n)
    obtain⟨n,hn⟩:=all_below (p:=fun j n=>∀x,y[j]?=some x→(F (D n)).M w (T j) x ((inner.drop (j * (F d).kd.sz)).take (F d).kd.sz))
      (fun j n m hnm hp x hx=>h.mono _ _ ((g _).trans (g _).symm) (m1 n m hnm) _ _ _ _ (hp x hx)) y.length (fun j hj=>by
        obtain⟨n,hn⟩:=h.cont D d g m1 m2 _ _ _ _ (h3 j y[j] (List.getElem?_eq_getElem hj))
        refine⟨n,fun x hx=>?_⟩
        rw [List.getElem?_eq_getElem hj] at hx
        injection hx with hx
        subst hx
        exact hn)
    refine⟨n,v,rfl,inner,?_,hS,T,h1,h2,fun j x hx=>?_⟩
    · rw [hk];exact ho
    · rw [hk];exact hn j (List.getElem?_eq_some_iff.1 hx).1 x hx
namespace Zd
section
variable {α:Type} (k:Kd α) (F:Zd α→Zd α) (hF:∀d:Zd α,d.kd=k→∀w x cs,(F d).kd.K w x cs→k.K w x cs)
def up:Nat→{d:Zd α // d.kd=k}
  |0=>⟨{ kd:=k,M:=fun _ _ _ _=>False,of_M:=fun h=>h.elim,mono:=fun _ h=>h,keep:=fun _ h=>h },rfl⟩
  |n+1=>⟨{ kd:=k,M:=(F (up n).1).M,of_M:=fun h=>hF _ (up n).2 _ _ _ ((F (up n).1).of_M h),mono:=(F (up n).1).mono,keep:=(F (up n).1).keep },rfl⟩
def fix:Zd α where
  kd:=k
  M:=fun w S x cs=>∃n,(up k F hF n).1.M w S x cs
  of_M:=by
    rintro w S x cs ⟨n,h⟩
    have:=(up k F hF n).1.of_M h
    rwa [(up k F hF n).2] at this
  mono:=by
    rintro w S S' x cs hS ⟨n,h⟩
    exact⟨n,(up k F hF n).1.mono hS h⟩
  keep:=by
    rintro w w1 S x cs hm ⟨n,h⟩
    exact⟨n,(up k F hF n).1.keep hm h⟩
theorem up_step (h:ZF F):∀n w S x cs,(up k F hF n).1.M w S x cs→(up k F hF (n+1)).1.M w S x cs
  |0,_,_,_,_,h=>h.elim
  |n+1,w,S,x,cs,g=>h.mono _ _ ((up k F hF n).2.trans (up k F hF (n+1)).2.symm) (up_step h n) w S x cs g
theorem up_le (h:ZF F){n m:Nat}(hnm:n≤m):∀w S x cs,(up k F hF n).1.M w S x cs→(up k F hF m).1.M w S x cs:=by
  induction hnm with
  |refl=>exact fun _ _ _ _ g=>g
  |step _ ih=>exact fun w S x cs g=>up_step k F hF h _ w S x cs (ih w S x cs g)
theorem fix_fold (h:ZF F){w:World}{S:FP}{x:α}{cs:List Value}(g:(F (fix k F hF)).M w S x cs):(fix k F hF).M w S x cs:=by
  obtain⟨n,hn⟩:=h.cont (fun n=>(up k F hF n).1) (fix k F hF) (fun n=>(up k F hF n).2) (fun n m hnm=>up_le k F hF h hnm) (fun _ _ _ _ g=>g) w S x cs g
  exact⟨n+1,hn⟩
end
end Zd
inductive Res:Type 1
  |emp
  |box (g:Nat) (cs:List Value) (t:TypeId)
  |own {α:Type} (d:Zd α) (x:α) (cs:List Value)
def Res.holds (w:World)(S:FP):Res→Prop
  | .emp=>True
  | .box g cs t=>S g∧w.heap[g]?=some (.cells cs.toArray t (0,0))
  | .own d x cs=>d.M w S x cs
theorem Res.keep {w w1:World}{S:FP}(hm:∀k,S k→k<w.heap.size→w1.heap[k]?=w.heap[k]?):∀ {r:Res},r.holds w S→r.holds w1 S
  | .emp,_=>trivial
  | .box _ _ _,h=>⟨h.1,(hm _ h.1 (blk_lt h.2)).trans h.2⟩
  | .own d _ _,h=>d.keep hm h
theorem Res.mono {w:World}{S S':FP}(hS:∀k,S k→S' k):∀ {r:Res},r.holds w S→r.holds w S'
  | .emp,_=>trivial
  | .box _ _ _,h=>⟨hS _ h.1,h.2⟩
  | .own d _ _,h=>d.mono hS h
abbrev noFP:FP:=fun _=>False
structure Hp (A:FP)(w0 w:World)(rs:List Res):Prop where
  same:w.os=w0.os∧w.tape=w0.tape∧w.output=w0.output∧w0.heap.size≤w.heap.size
  kept:∀k,k<w0.heap.size→¬A k→w.heap[k]?=w0.heap[k]?
  parts:∃S:Nat→FP,(∀i k,S i k→(A k∨w0.heap.size≤k)∧k<w.heap.size)∧(∀i j k,i≠j→S i k→¬S j k)∧∀(i:Nat) (r:Res),rs[i]?=some r→r.holds w (S i)
def boxFacts (w:World):List Res→Prop
  | []=>True
  | .box g cs _ :: rs=>((∀i,w.cell? ⟨g,i,none⟩=cs[i]?)∧(∀i,w.frozen? ⟨g,i,none⟩=false))∧boxFacts w rs
  | .emp :: rs=>boxFacts w rs
  | .own _ _ _ :: rs=>boxFacts w rs
section
variable {A:FP} {w0 w w1:World} {rs:List Res}
theorem Hp.start (w:World):Hp noFP w w []:=⟨⟨rfl,rfl,rfl,Nat.le_refl _⟩,fun _ _ _=>rfl,fun _ _=>False,fun _ _ h=>h.elim,fun _ _ _ _ h=>h.elim,fun i r h=>by simp at h⟩
theorem Hp.size (h:Hp A w0 w rs):w0.heap.size≤w.heap.size:=h.same.2.2.2
theorem Hp.below (h:Hp noFP w0 w rs):Below w0.heap.size w0 w:=⟨h.same.1,h.same.2.1,h.same.2.2.1,h.size,fun k hk=>h.kept k hk (fun h=>h)⟩
theorem Hp.old (h:Hp noFP w0 w rs):∀a:Addr,a.block<w0.heap.size→w.cell? a=w0.cell? a:=fun _ ha=>h.below.cell ha
theorem Hp.keepc (h:Hp noFP w0 w rs){a:Addr}{v:Value}(e:w0.cell? a=some v):w.cell? a=some v:=by
  refine(h.old a ?_).trans e
  unfold World.cell? at e
  split at e
  · rename_i hb
    exact(Array.getElem?_eq_some_iff.1 hb).1
  all_goals cases e
theorem Hp.ro {α:Type}{d:Kd α}{B:Option Addr}{n:Nat}{xs:List α}(h:Hp noFP w0 w rs)(hc:d.C w0 B n xs):d.C w B n xs:=Kd.C_below hc h.below
theorem Hp.has {i:Nat}{r:Res}(h:Hp A w0 w rs)(hi:rs[i]?=some r):∃S:FP,(∀k,S k→(A k∨w0.heap.size≤k)∧k<w.heap.size)∧r.holds w S:=by
  obtain⟨_,_,S,h1,_,h3⟩:=h
  exact⟨S i,h1 i,h3 i r hi⟩
theorem Hp.reads {α:Type}{d:Zd α}{x:α}{cs:List Value}(i:Nat)(h:Hp A w0 w rs)(hi:rs[i]?=some (.own d x cs)):d.kd.K w x cs:=by
  obtain⟨S,_,h1⟩:=h.has hi
  exact d.of_M h1
theorem Hp.boxAt {g:Nat}{cs:List Value}{t:TypeId}{i:Nat}(h:Hp A w0 w rs)(hi:rs[i]?=some (.box g cs t)):w.heap[g]?=some (.cells cs.toArray t (0,0)):=by
  obtain⟨S,h0,h1⟩:=h.has hi
  exact h1.2
theorem Hp.cellAt {g:Nat}{cs:List Value}{t:TypeId}(i:Nat)(h:Hp A w0 w rs)(hi:rs[i]?=some (.box g cs t)){j:Nat}{v:Value}(hj:cs[j]?=some v):w.cell? ⟨g,j,none⟩=some v:=by
  rw [blk_cell (h.boxAt hi) j]
  simpa using hj
theorem boxFacts_of (hall:∀(i:Nat) g cs t,rs[i]?=some (.box g cs t)→w.heap[g]?=some (.cells cs.toArray t (0,0))):boxFacts w rs:=by
  induction rs with
  |nil=>trivial
  | cons r rs ih=>
    have ih':=ih (fun i g cs t hi=>hall (i+1) g cs t (by simpa using hi))
    cases r with
    |emp=>exact ih'
    |own d x cs=>exact ih'
    | box g cs t=>
      have hb:=hall 0 g cs t rfl
      exact⟨⟨fun i=>(blk_cell hb i).trans (by simp),fun i=>blk_frozen hb i⟩,ih'⟩
theorem Hp.boxes (h:Hp A w0 w rs):boxFacts w rs:=boxFacts_of (fun _ _ _ _ hi=>h.boxAt hi)
theorem Hp.via (is:List Nat) {ps:List Res} (h:Hp A w0 w rs)
    (H:∀S:Nat→FP,(∀i j k,i≠j→S i k→¬S j k)→(∀i k,S i k→k<w.heap.size)→(∀(i:Nat) (r:Res),rs[i]?=some r→r.holds w (S i))→Hp (fun k=>∃i,i∈is∧S i k) w w1 ps)
    (rs':List Res) (at_:Nat→Option Nat) (hinj:∀a b j,at_ a=some j→at_ b=some j→a=b)
    (hrs:∀(a:Nat) (r:Res),rs'[a]?=some r→(∃j,at_ a=some j∧ps[j]?=some r)∨(at_ a=none∧(r=.emp∨(rs[a]?=some r∧a ∉ is)))):Hp A w0 w1 rs':=by
  have hsz:=h.size
  obtain⟨hs,hk0,S,h1,h2,h3⟩:=h
  obtain⟨gs,gk,T,t1,t2,t3⟩:=H S h2 (fun i k hk=>(h1 i k hk).2) h3
  have hlt:=gs.2.2.2
  refine⟨⟨gs.1.trans hs.1,gs.2.1.trans hs.2.1,gs.2.2.1.trans hs.2.2.1,by omega⟩,fun k hk hA=>?_,fun a k=>(∃j,at_ a=some j∧T j k)∨(at_ a=none∧a ∉ is∧S a k),?_,?_,?_⟩
  · refine(gk k (by omega) ?_).trans (hk0 k hk hA)
    rintro⟨i,_,hi⟩
    rcases(h1 i k hi).1 with h|h
    · exact hA h
    · omega
  · rintro a k (⟨j,hj,hk⟩|⟨hj,hn,hk⟩)
    · obtain⟨h4,h5⟩:=t1 _ k hk
      refine⟨?_,h5⟩
      rcases h4 with⟨i,_,hi⟩|h4
      · exact(h1 i k hi).1
      · exact .inr (by omega)
    · have:=h1 a k hk
      exact⟨this.1,by omega⟩
  · rintro a b k hab (⟨j,hj,ha⟩|⟨hj,hna,ha⟩) (⟨j',hj',hb⟩|⟨hj',hnb,hb⟩)
    · exact t2 j j' k (fun e=>hab (hinj a b j hj (by rw [e];exact hj'))) ha hb
    · rcases(t1 _ k ha).1 with⟨i,hi,hs'⟩|h4
      · exact h2 i b k (fun e=>hnb (e ▸ hi)) hs' hb
      · have:=(h1 b k hb).2;omega
    · rcases(t1 _ k hb).1 with⟨i,hi,hs'⟩|h4
      · exact h2 i a k (fun e=>hna (e ▸ hi)) hs' ha
      · have:=(h1 a k ha).2;omega
    · exact h2 a b k hab ha hb
  · intro a r ha
    rcases hrs a r ha with⟨j,hj,hp⟩|⟨hj,hr⟩
    · exact Res.mono (fun k hk=>.inl ⟨j,hj,hk⟩) (t3 j r hp)
    · rcases hr with rfl|⟨hr,hn⟩
      · trivial
      · refine Res.mono (fun k hk=>.inr ⟨hj,hn,hk⟩) (Res.keep (fun k hk hkl=>gk k hkl ?_) (h3 a r hr))
        rintro⟨i,hi,hs'⟩
        exact h2 i a k (fun e=>hn (e ▸ hi)) hs' hk
theorem Hp.call {qs:List Res}(h:Hp A w0 w rs)(hq:Hp noFP w w1 qs):Hp A w0 w1 (rs++qs):=by
  refine h.via [] (ps:=qs) (fun S _ _ _=>⟨hq.same,fun k hk _=>hq.kept k hk (fun h=>h),?_⟩) _ (fun a=>if a<rs.length then none else some (a - rs.length)) ?_ ?_
  · obtain⟨T,t1,t2,t3⟩:=hq.parts
    exact⟨T,fun i k hk=>⟨(t1 i k hk).1.elim (fun h=>h.elim) .inr,(t1 i k hk).2⟩,t2,t3⟩
  · intro a b j ha hb
    split at ha <;> split at hb <;> simp_all
    omega
  · intro a r ha
    by_cases hl:a<rs.length
    · rw [List.getElem?_append_left hl] at ha
      exact .inr ⟨by rw [if_pos hl],.inr ⟨ha,by simp⟩⟩
    · rw [List.getElem?_append_right (by omega)] at ha
      exact .inl ⟨a - rs.length,by rw [if_neg hl],ha⟩
theorem Hp.more (h:Hp A w0 w rs)(hb:Below w.heap.size w w1):Hp A w0 w1 rs:=by
  have:=h.call (qs:=[]) ⟨⟨hb.os,hb.tape,hb.output,hb.size⟩,fun k hk _=>hb.block k hk,fun _ _=>False,fun _ _ h=>h.elim,fun _ _ _ _ h=>h.elim,fun i r h=>by simp at h⟩
  rwa [List.append_nil] at this
theorem Hp.push {r:Res}(h:Hp A w0 w rs)(hb:Below w.heap.size w w1)(hr:r.holds w1 (fun k=>w.heap.size≤k∧k<w1.heap.size)):Hp A w0 w1 (rs++ [r]):=by
  refine h.call ⟨⟨hb.os,hb.tape,hb.output,hb.size⟩,fun k hk _=>hb.block k hk,fun j k=>j=0∧w.heap.size≤k∧k<w1.heap.size,fun i k hk=>⟨.inr hk.2.1,hk.2.2⟩,fun i j k hij hi hj=>hij (by omega),fun i q hi=>?_⟩
  cases i with
  | zero=>
    simp only [List.getElem?_cons_zero,Option.some.injEq] at hi
    subst hi
    exact Res.mono (fun k hk=>⟨rfl,hk⟩) hr
  |succ i=>simp at hi
theorem Hp.upd {r r':Res} (i:Nat) (h:Hp A w0 w rs) (hi:rs[i]?=some r) (hos:w1.os=w.os∧w1.tape=w.tape∧w1.output=w.output∧w.heap.size≤w1.heap.size)
    (H:∀S:FP,r.holds w S→(∀k,S k→k<w.heap.size)→∃S':FP,r'.holds w1 S'∧(∀k,S' k→(S k∨w.heap.size≤k)∧k<w1.heap.size)∧∀k,k<w.heap.size→¬S k→w1.heap[k]?=w.heap[k]?):Hp A w0 w1 (rs.set i r'):=by
  refine h.via [i] (ps:=[r']) (fun S h2 hl h3=>?_) _ (fun a=>if a=i then some 0 else none) ?_ ?_
  · obtain⟨S',g1,g2,g3⟩:=H (S i) (h3 i r hi) (hl i)
    refine⟨hos,fun k hk hn=>g3 k hk (fun hs=>hn ⟨i,by simp,hs⟩),fun j k=>j=0∧S' k,fun j k hk=>⟨(g2 k hk.2).1.elim (fun h=>.inl ⟨i,by simp,h⟩) .inr,(g2 k hk.2).2⟩,fun a b k hab ha hb=>hab (by omega),fun j q hj=>?_⟩
    cases j with
    | zero=>
      simp only [List.getElem?_cons_zero,Option.some.injEq] at hj
      subst hj
      exact Res.mono (fun k hk=>⟨rfl,hk⟩) g1
    |succ j=>simp at hj
  · intro a b j ha hb
    split at ha <;> split at hb <;> simp_all
  · intro a q ha
    by_cases hai:a=i
    · subst hai
      rw [List.getElem?_set_self (List.getElem?_eq_some_iff.1 hi).1] at ha
      exact .inl ⟨0,by simp,ha⟩
    · rw [List.getElem?_set_ne (Ne.symm hai)] at ha
      exact .inr ⟨by simp [hai],.inr ⟨ha,by simp [hai]⟩⟩
theorem Hp.sel (is:List Nat)(rs':List Res)(h:Hp A w0 w rs)(hn:is.Nodup)(hr:∀(a:Nat) (r:Res),rs'[a]?=some r→∃j,is[a]?=some j∧rs[j]?=some r):Hp A w0 w rs':=by
  obtain⟨hs,hk0,S,h1,h2,h3⟩:=h
  refine⟨hs,hk0,fun a k=>∃j,is[a]?=some j∧S j k,?_,?_,?_⟩
  · rintro a k ⟨j,_,hk⟩
    exact h1 j k hk
  · rintro a b k hab ⟨j,hj,ha⟩ ⟨j',hj',hb⟩
    refine h2 j j' k (fun e=>hab ?_) ha hb
    subst e
    exact(List.getElem?_inj (List.getElem?_eq_some_iff.1 hj).1 hn).1 (hj.trans hj'.symm)
  · intro a r ha
    obtain⟨j,hj,hr'⟩:=hr a r ha
    exact Res.mono (fun k hk=>⟨j,hj,hk⟩) (h3 j r hr')
theorem Hp.pick (is:List Nat)(h:Hp A w0 w rs)(hn:is.Nodup)(hl:is.all (fun i=>decide (i<rs.length))=true):Hp A w0 w (is.map fun j=>rs.getD j .emp):=by
  refine h.sel is _ hn (fun a r ha=>?_)
  rw [List.getElem?_map] at ha
  cases hj:is[a]? with
  |none=>rw [hj] at ha;simp at ha
  | some j=>
    rw [hj,Option.map_some,Option.some.injEq] at ha
    have hlt:j<rs.length:=by simpa using List.all_eq_true.1 hl j (List.mem_of_getElem? hj)
    refine⟨j,rfl,?_⟩
    rw [←ha,List.getD_eq_getElem?_getD,List.getElem?_eq_getElem hlt]
    rfl
theorem Hp.nil {α:Type}(e:Nat)(d:Zd α)(h:Hp A w0 w rs):Hp A w0 w (rs++ [.own (Zd.slice e d) [] [.slice none 0 0]]):=
  h.push (Below.refl _ _) ⟨_,rfl,Row.nil d e w _⟩
theorem Hp.form {α:Type}{d:Zd α}{e:Nat}{xs:List α}{v:Value}(i:Nat)(h:Hp A w0 w rs)(hi:rs[i]?=some (.own (Zd.slice e d) xs [v])):∃B c,v=.slice B xs.length c∧xs.length≤c:=by
  obtain⟨B,c,he,hl,_⟩:=h.reads i hi
  injection he with he
  exact⟨B,c,he,hl⟩
theorem Hp.rd {α:Type}{d:Zd α}{e n c:Nat}{B:Option Addr}{xs:List α}(i:Nat)(h:Hp A w0 w rs)(hi:rs[i]?=some (.own (Zd.slice e d) xs [.slice B n c])):d.kd.C w B n xs:=by
  obtain⟨B',c',he,_,hc⟩:=h.reads i hi
  injection he with he
  injection he with h1 h2 h3
  subst h1;subst h2
  exact hc
theorem Hp.formn {α:Type}{d:Zd α}{e:Nat}{xs:List α}{v:Value}(n i:Nat)(h:Hp A w0 w rs)(hi:rs[i]?=some (.own (Zd.slice e d) xs [v]))(hn:xs.length=n):∃B c,v=.slice B n c∧n≤c:=by
  subst hn
  exact h.form i hi
theorem C_len {α:Type}{d:Kd α}{B:Option Addr}{n:Nat}{xs:List α}(h:d.C w B n xs):n=xs.length:=h.1.symm
end
end Go.Proofs.YtncddikfafgklaaGreatDoor.Z

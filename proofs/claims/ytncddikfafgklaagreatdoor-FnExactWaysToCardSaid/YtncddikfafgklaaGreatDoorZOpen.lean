/- What an argument that can be read as data is made of, by the words of a value's kind: numbers, flags, texts, lists and structs of these. No condition. -/
import Derived.Test.YtncddikfafgklaaGreatDoorW
import Derived.ProofKit
import GoSem.ClaimChange
namespace Go.Proofs.YtncddikfafgklaaGreatDoor.ZOpen
open Go.RowKit YtncddikfafgklaaGreatDoorW.PrintWords YtncddikfafgklaaGreatDoorW.PrintLast
def Opens {α:Type}(P:Program)(t:TypeId)(d:Kd α)(ok:α→Prop):Prop:=
  P.cellsOf t=d.sz∧∀(H:Type) (enc:TypeId×Value→H) (w:World) (fuel:Nat) (cs:List Value) (x:DataW H×List MemPlace),
    DataW.trod enc P w 0 (fun _=>true) true fuel t cs=some x→∃y,d.K w y cs∧ok y
def OpensF {α:Type}(P:Program)(l:List Field)(o:Nat)(d:Kd α)(ok:α→Prop):Prop:=
  ∀ (H : Type) (enc : TypeId × Value → H) (w : World) (fuel : Nat) (cs : List Value) (xs : List (DataW H × List MemPlace)), cs.length = o + d.sz →
    (l.mapM fun f=>DataW.trod enc P w 0 (fun _=>true) true fuel f.type ((cs.drop f.offset).take (P.cellsOf f.type)))=some xs→∃y,d.K w y (cs.drop o)∧ok y
def okInt (k:IntKind)(n:Int):Prop:=(Lit.int k n).wf=true
def okStr (s:ByteArray):Prop:=s.size≤maxLen
def okAny {α:Type}(_:α):Prop:=True
def okList {α:Type}(ok:α→Prop)(l:List α):Prop:=l.length≤maxLen∧∀x∈l,ok x
def okPair {α β:Type}(p:α→Prop)(q:β→Prop)(x:α×β):Prop:=p x.1∧q x.2
variable {P:Program} {t:TypeId}
theorem opens_int {k:IntKind}(h:P.underlying t=some (.int k))(hc:P.cellsOf t=1):Opens P t (Kd.int k) (okInt k):=by
  refine⟨hc,fun H enc w fuel cs x hx=>?_⟩
  cases fuel with
  |zero=>simp [DataW.trod] at hx
  | succ f=>
    unfold DataW.trod at hx
    rw [h] at hx
    split at hx <;> simp_all
    obtain⟨⟨rfl,hw⟩,_⟩:=hx
    exact⟨_,rfl,hw⟩
theorem opens_bool (h:P.underlying t=some .bool)(hc:P.cellsOf t=1):Opens P t Kd.bool okAny:=by
  refine⟨hc,fun H enc w fuel cs x hx=>?_⟩
  cases fuel with
  |zero=>simp [DataW.trod] at hx
  | succ f=>
    unfold DataW.trod at hx
    rw [h] at hx
    split at hx <;> try simp_all only [reduceCtorEq,Option.some.injEq]
    exact⟨_,rfl,trivial⟩
theorem opens_string (h:P.underlying t=some .string)(hc:P.cellsOf t=1):Opens P t Kd.string okStr:=by
  refine⟨hc,fun H enc w fuel cs x hx=>?_⟩
  cases fuel with
  |zero=>simp [DataW.trod] at hx
  | succ f=>
    unfold DataW.trod at hx
    rw [h] at hx
    split at hx <;> try simp_all only [reduceCtorEq,Option.some.injEq]
    split at hx
    · exact⟨_,rfl,by assumption⟩
    · cases hx
theorem mapM_some {α β:Type}(f:α→Option β):∀(l:List α) (r:List β),l.mapM f=some r→r.length=l.length∧∀(i:Nat) (a:α),l[i]?=some a→∃b:β,f a=some b∧r[i]?=some b
  | [],r,h=>by
    simp at h
    subst h
    exact⟨rfl,fun i a h=>by simp at h⟩
  | x :: l,r,h=>by
    rw [List.mapM_cons] at h
    simp only [Option.pure_def,Option.bind_eq_bind,Option.bind_eq_some_iff,Option.some.injEq] at h
    obtain⟨b,hb,q,hq,rfl⟩:=h
    obtain⟨h1,h2⟩:=mapM_some f l q hq
    refine⟨by simp [h1],fun i a hi=>?_⟩
    cases i with
    | zero=>
      simp only [List.getElem?_cons_zero,Option.some.injEq] at hi
      subst hi
      exact⟨b,hb,rfl⟩
    | succ i=>
      simp only [List.getElem?_cons_succ] at hi
      exact h2 i a hi
theorem cells_some {w:World}{base n:Nat}{a:Addr}{cs:List Value}(h:w.cells? base a n=some cs):cs.length=n∧∀j u,cs[j]?=some u→w.cell? (a.add j)=some u:=by
  unfold World.cells? at h
  split at h
  · obtain⟨h1,h2⟩:=mapM_some _ _ _ h
    rw [List.length_range] at h1
    refine⟨h1,fun j u hj=>?_⟩
    have hlt:j<n:=by rw [←h1];exact(List.getElem?_eq_some_iff.1 hj).1
    obtain⟨b,hb,hc⟩:=h2 j j (List.getElem?_range hlt)
    rw [hj,Option.some.injEq] at hc
    subst hc
    exact hb
  · cases h
theorem listed {α:Type}(R:Nat→α→Prop):∀(n:Nat),(∀i,i<n→∃x,R i x)→∃l:List α,l.length=n∧∀(i:Nat) (x:α),l[i]?=some x→R i x
  |0,_=>⟨[],rfl,fun i x h=>by simp at h⟩
  | n + 1, h => by
    obtain⟨l,hl,hr⟩:=listed R n (fun i hi=>h i (by omega))
    obtain⟨x,hx⟩:=h n (by omega)
    refine⟨l++ [x],by simp [hl],fun i y hy=>?_⟩
    by_cases hi:i<l.length
    · rw [List.getElem?_append_left hi] at hy
      exact hr i y hy
    · rw [List.getElem?_append_right (by omega)] at hy
      have h0:i - l.length=0:=by
        have:=(List.getElem?_eq_some_iff.1 hy).1
        simp at this
        omega
      rw [h0] at hy
      simp only [List.getElem?_cons_zero,Option.some.injEq] at hy
      subst hy
      have:i=n:=by omega
      subst this
      exact hx
theorem opens_slice {α:Type}{e:TypeId}{d:Kd α}{ok:α→Prop}(h:P.underlying t=some (.slice e))(hc:P.cellsOf t=1)(he:Opens P e d ok):Opens P t (Kd.slice e d) (okList ok):=by
  refine⟨hc,fun H enc w fuel cs x hx=>?_⟩
  cases fuel with
  |zero=>simp [DataW.trod] at hx
  | succ f=>
    unfold DataW.trod at hx
    rw [h] at hx
    split at hx <;> try simp_all only [reduceCtorEq,Option.some.injEq,TypeDesc.slice.injEq]
    · exact⟨[],⟨none,0,rfl,Nat.le_refl _,rfl,Nat.zero_le _,fun h=>absurd h (Nat.lt_irrefl 0)⟩,Nat.zero_le _,fun y hy=>by cases hy⟩
    · rename_i e' a len cap heq
      subst heq
      split at hx
      · rename_i hb
        rw [Option.bind_eq_some_iff] at hx
        obtain⟨elems,hm,_⟩:=hx
        obtain⟨h1,h2⟩:=mapM_some _ _ _ hm
        have hall:∀i,i<len→∃y,ok y∧∃c,c.length=d.sz∧d.K w y c∧∀j u,c[j]?=some u→w.cell? (a.add (i * d.sz+j))=some u:=by
          intro i hi
          obtain⟨b,hbd,_⟩:=h2 i i (List.getElem?_range hi)
          rw [Option.bind_eq_some_iff] at hbd
          obtain⟨c,hcs,ht⟩:=hbd
          obtain⟨h3,h4⟩:=cells_some hcs
          obtain⟨y,hy,hoky⟩:=he.2 H enc w f c b ht
          refine⟨y,hoky,c,by rw [h3,he.1],hy,fun j u hu=>?_⟩
          rw [←Addr.add_add,←he.1]
          exact h4 j u hu
        obtain⟨l,hl,hr⟩:=listed (fun i y=>ok y∧∃c,c.length=d.sz∧d.K w y c∧∀j u,c[j]?=some u→w.cell? (a.add (i * d.sz+j))=some u) len hall
        subst hl
        refine⟨l,⟨some a,cap,rfl,hb.2.1,rfl,?_,fun _=>⟨a,rfl,fun j p hj=>(hr j p hj).2⟩⟩,?_,fun y hy=>?_⟩
        · have:=hb.2.2
          unfold maxLen at this
          omega
        · exact Nat.le_trans hb.2.1 hb.2.2
        · obtain⟨i,hi⟩:=List.getElem?_of_mem hy
          exact(hr i y hi).1
      · cases hx
theorem fields_one {α:Type}{d:Kd α}{ok:α→Prop}{f:Field}{o:Nat}(ho:f.offset=o)(h:Opens P f.type d ok):OpensF P [f] o d ok:=by
  intro H enc w fuel cs xs hl hx
  obtain⟨_,h2⟩:=mapM_some _ _ _ hx
  obtain⟨b,hb,_⟩:=h2 0 f rfl
  rw [ho,h.1,List.take_of_length_le (by rw [List.length_drop];omega)] at hb
  exact h.2 H enc w fuel _ b hb
theorem fields_cons {α β:Type}{d:Kd α}{d':Kd β}{ok:α→Prop}{ok':β→Prop}{f:Field}{l:List Field}{o o':Nat}(ho:f.offset=o)(h:Opens P f.type d ok)(ho':o'=o+d.sz)(hr:OpensF P l o' d' ok'):OpensF P (f :: l) o (Kd.pair d d') (okPair ok ok'):=by
  intro H enc w fuel cs xs hl hx
  have hsz:(Kd.pair d d').sz=d.sz+d'.sz:=rfl
  rw [List.mapM_cons] at hx
  simp only [Option.pure_def,Option.bind_eq_bind,Option.bind_eq_some_iff,Option.some.injEq] at hx
  obtain⟨b,hb,q,hq,rfl⟩:=hx
  rw [ho,h.1] at hb
  obtain⟨y,hy,hoky⟩:=h.2 H enc w fuel _ b hb
  obtain⟨z,hz,hokz⟩:=hr H enc w fuel cs q (by rw [hl,hsz,ho'];omega) hq
  refine⟨(y,z),⟨(cs.drop o).take d.sz,cs.drop o',?_,hy,hz⟩,hoky,hokz⟩
  rw [ho',←List.drop_drop,List.take_append_drop]
theorem opens_struct {α β:Type}{d:Kd α}{ok:α→Prop}{fs:Array Field}{l:List Field}(h:P.underlying t=some (.struct fs))(hc:P.cellsOf t=d.sz)(hl:fs.toList=l)(hf:OpensF P l 0 d ok)(f:β→α)(g:α→β)(hg:∀x,f (g x)=x):Opens P t (Kd.iso d f) (fun y=>ok (f y)):=by
  refine⟨hc,fun H enc w fuel cs x hx=>?_⟩
  cases fuel with
  |zero=>simp [DataW.trod] at hx
  | succ n=>
    unfold DataW.trod at hx
    subst hl
    simp only [h] at hx
    split at hx
    · rename_i hl
      rw [Option.map_eq_some_iff] at hx
      obtain⟨xs,hm,_⟩:=hx
      obtain⟨y,hy,hoky⟩:=hf H enc w n cs xs (by rw [hl];omega) hm
      refine⟨g y,?_,(congrArg ok (hg y)).mpr hoky⟩
      show d.K w (f (g y)) cs
      rw [hg]
      simpa using hy
    · cases hx
theorem okWide_agg {w:World}{r:Reach}{base:Nat}{v:Value}{fs:Array Field}(h:P.underlying t=some (.struct fs))(hv:Value.okWide P w r base t v):∃cs,v=.agg cs:=by
  unfold Value.okWide at hv
  rw [h] at hv
  obtain⟨cs,rfl,_⟩:=hv
  exact⟨cs,rfl⟩
theorem toArr {cs:Array Value}{l:List Value}(h:cs.toList=l):cs=l.toArray:=Array.ext' h
end Go.Proofs.YtncddikfafgklaaGreatDoor.ZOpen

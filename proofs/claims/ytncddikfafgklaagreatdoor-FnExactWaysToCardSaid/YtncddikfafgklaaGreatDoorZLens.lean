/- A part of a value that is written alone: a field of an element of a row, or the row that a field leads to, lent to a call that writes in it. Plain lemmas, no condition. -/
import Derived.Test.YtncddikfafgklaaGreatDoorZEv
namespace Go.Proofs.YtncddikfafgklaaGreatDoor.Z
open Go.RowKit YtncddikfafgklaaGreatDoorW.PrintWords YtncddikfafgklaaGreatDoorW.PrintLast
def lets {α β:Type}(x:α)(f:α→Option β):Option β:=f x
theorem zlets {α β:Type}{x:α}{f:α→Option β}{r:β}(H:Aside0 (lets x f=some r)):∃t,Aside0 (t=x)∧Aside0 (f t=some r):=⟨x,⟨rfl⟩,H⟩
theorem dr_any {P:Program} {ops:Array Oper} {Q:Exit→Act→World→Prop} {S:World→Prop} {ds:List Nat} {l:Array Bool} {fuel:Nat} {T:Bool×List (List Nat×List Nat)} {a:Act} {W:World} (is:List Nat) (hT:Aside0 (rtab .any ops=T)) (hc:(readyT T.2 l.toList==is)=true) (hne:is≠ [])
    (h:AllReadyL P .any ops Q S ds fuel l a W is):wpAnyLast P .any ops Q S ds (fuel+1) l a W:=by
  refine wpAnyLast_ready ?_ hne h
  rw [ready_eq,hT.out]
  exact eq_of_beq hc
theorem Hp.arr {A:FP}{w0 w:World}{rs:List Res}(is:List (Option Nat))(h:Hp A w0 w rs)(hn:(is.filterMap id).Nodup):Hp A w0 w (is.map fun o=>match o with|some j=>rs.getD j .emp|none=>.emp):=by
  obtain⟨hs,hk0,S,h1,h2,h3⟩:=h
  have inj:∀(is:List (Option Nat)) (a b j:Nat),(is.filterMap id).Nodup→is[a]?=some (some j)→is[b]?=some (some j)→a=b:=by
    intro is
    induction is with
    |nil=>intro a b j _ ha;simp at ha
    | cons o is ih=>
      intro a b j hn ha hb
      have hmem:∀(c:Nat),is[c]?=some (some j)→j∈is.filterMap id:=fun c hc=>List.mem_filterMap.2 ⟨some j,List.mem_of_getElem? hc,rfl⟩
      cases o with
      | none=>
        cases a with
        |zero=>simp at ha
        | succ a=>cases b with
          |zero=>simp at hb
          |succ b=>rw [ih a b j (by simpa using hn) (by simpa using ha) (by simpa using hb)]
      | some i=>
        have hn':i ∉ is.filterMap id∧(is.filterMap id).Nodup:=by simpa using hn
        cases a with
        | zero=>cases b with
          |zero=>rfl
          | succ b=>
            have e:i=j:=by simpa using ha
            exact absurd (hmem b (by simpa using hb)) (e ▸ hn'.1)
        | succ a=>cases b with
          | zero=>
            have e:i=j:=by simpa using hb
            exact absurd (hmem a (by simpa using ha)) (e ▸ hn'.1)
          |succ b=>rw [ih a b j hn'.2 (by simpa using ha) (by simpa using hb)]
  refine⟨hs,hk0,fun a k=>∃j,is[a]?=some (some j)∧S j k,?_,?_,?_⟩
  · rintro a k ⟨j,_,hk⟩
    exact h1 j k hk
  · rintro a b k hab ⟨j,hj,ha⟩ ⟨j',hj',hb⟩
    refine h2 j j' k (fun e=>hab ?_) ha hb
    subst e
    exact inj is a b j hn hj hj'
  · intro a r ha
    rw [List.getElem?_map] at ha
    cases hj:is[a]? with
    |none=>rw [hj] at ha;simp at ha
    | some o=>
      rw [hj,Option.map_some,Option.some.injEq] at ha
      cases o with
      |none=>subst ha;trivial
      | some j=>
        simp only at ha
        cases hr:rs[j]? with
        | none=>
          rw [List.getD_eq_getElem?_getD,hr] at ha
          subst ha
          trivial
        | some r'=>
          rw [List.getD_eq_getElem?_getD,hr] at ha
          subst ha
          exact Res.mono (fun k hk=>⟨j,hj,hk⟩) (h3 j r' hr)
theorem dr_start2 {P:Program} {ops:Array Oper} {Q:Exit→Act→World→Prop} {A:FP} {w0 W:World} {rs:List Res} {a:Act} {id n:Nat} {T:Bool×List (List Nat×List Nat)} (rsK:List Res) (ds:List Nat) (HS:Hp A w0 W rs) (HK:Hp A w0 W rsK) (l:Array Bool) (hm:P.follows .mixedOrders=true) (hn:ops.size=n) (hl:Array.replicate n false=l) (hT:rtab .any ops=T)
    (h:∀w1,Aside0 (rtab .any ops=T)→Hp A w0 w1 rs→SHp A w0 rsK w1→wpAnyLast P .any ops Q (SHp A w0 rsK) ds n l a w1):(Code.region id ops true).wp P Q a W:=
  have h0:SHp A w0 rsK W.drew:=⟨[],by rw [List.append_nil];exact HK.drew⟩
  start_ l hm hn hl h0 (fun h1=>h _ ⟨hT⟩ HS.drew h1)
structure Lens {α β:Type}(d:Zd α)(d':Zd β)(o:Nat)(get:α→β)(set:α→β→α):Prop where
  fit:o+d'.kd.sz≤d.kd.sz
  part:∀ {w:World} {S:FP} {x:α} {cs:List Value},d.M w S x cs→∃S':FP,(∀k,S' k→S k)∧d'.M w S' (get x) ((cs.drop o).take d'.kd.sz)∧
    ∀ (w1 : World) (y : β) (seg : List Value) (S2 : FP), (∀ k, S k → ¬ S' k → k < w.heap.size → w1.heap[k]? = w.heap[k]?) → (∀ k, S2 k → S k → S' k) → d'.M w1 S2 y seg →
      d.M w1 (fun k=>(S k∧¬S' k)∨S2 k) (set x y) (cs.take o++seg++cs.drop (o+d'.kd.sz))
section
variable {α β γ δ:Type}
theorem Zd.len {d:Zd α}{w:World}{S:FP}{x:α}{cs:List Value}(h:d.M w S x cs):cs.length=d.kd.sz:=d.kd.K_len (d.of_M h)
theorem Lens.refl (d:Zd α):Lens d d 0 (fun x=>x) (fun _ y=>y):=by
  refine⟨by omega,fun {w S x cs} h=>⟨S,fun _ h=>h,?_,fun w1 y seg S2 _ _ hM=>?_⟩⟩
  · have:=Zd.len h
    rwa [List.drop_zero,List.take_of_length_le (by omega)]
  · have:=Zd.len h
    rw [List.take_zero,List.nil_append,Nat.zero_add,List.drop_of_length_le (by omega),List.append_nil]
    exact d.mono (fun k hk=>.inr hk) hM
theorem Lens.left {a:Zd α}{b:Zd β}{d':Zd γ}{o:Nat}{g:α→γ}{s:α→γ→α}(L:Lens a d' o g s):Lens (Zd.pair a b) d' o (fun x=>g x.1) (fun x y=>(s x.1 y,x.2)):=by
  refine⟨Nat.le_trans L.fit (Nat.le_add_right _ _),?_⟩
  rintro w S x cs ⟨c0,c1,S0,S1,rfl,g0,g1,g2,h0,h1⟩
  obtain⟨S',p1,p2,p3⟩:=L.part h0
  have hl:=Zd.len h0
  have hf:=L.fit
  refine⟨S',fun k hk=>g0 k (p1 k hk),?_,fun w1 y seg S2 hk hd hM=>?_⟩
  · rwa [List.drop_append_of_le_length (by omega),List.take_append_of_le_length (by rw [List.length_drop];omega)]
  · refine⟨c0.take o++seg++c0.drop (o+d'.kd.sz),c1,fun k=>(S0 k∧¬S' k)∨S2 k,S1,?_,?_,?_,?_,p3 w1 y seg S2 (fun k hk1 hk2 hk3=>hk k (g0 k hk1) hk2 hk3) (fun k h2 h3=>hd k h2 (g0 k h3)) hM,b.keep (fun k hk1 hk3=>hk k (g1 k hk1) (fun h=>g2 k (p1 k h) hk1) hk3) h1⟩
    · rw [List.take_append_of_le_length (by omega),List.drop_append_of_le_length (by omega)]
      simp only [List.append_assoc]
    · rintro k (⟨h2,h3⟩|h2)
      · exact .inl ⟨g0 k h2,h3⟩
      · exact .inr h2
    · intro k hk1
      exact .inl ⟨g1 k hk1,fun h=>g2 k (p1 k h) hk1⟩
    · rintro k (⟨h2,h3⟩|h2) hk1
      · exact g2 k h2 hk1
      · exact g2 k (p1 k (hd k h2 (g1 k hk1))) hk1
theorem Lens.right {a:Zd α}{b:Zd β}{d':Zd γ}{o:Nat}{g:β→γ}{s:β→γ→β}(L:Lens b d' o g s):Lens (Zd.pair a b) d' (a.kd.sz+o) (fun x=>g x.2) (fun x y=>(x.1,s x.2 y)):=by
  refine⟨by have:=L.fit;show _≤a.kd.sz+b.kd.sz;omega,?_⟩
  rintro w S x cs ⟨c0,c1,S0,S1,rfl,g0,g1,g2,h0,h1⟩
  obtain⟨S',p1,p2,p3⟩:=L.part h1
  have hl:=Zd.len h0
  have hf:=L.fit
  refine⟨S',fun k hk=>g1 k (p1 k hk),?_,fun w1 y seg S2 hk hd hM=>?_⟩
  · rw [←hl,List.drop_append,List.drop_of_length_le (by omega),Nat.add_sub_cancel_left,List.nil_append]
    exact p2
  · refine⟨c0,c1.take o++seg++c1.drop (o+d'.kd.sz),S0,fun k=>(S1 k∧¬S' k)∨S2 k,?_,?_,?_,?_,a.keep (fun k hk1 hk3=>hk k (g0 k hk1) (fun h=>g2 k hk1 (p1 k h)) hk3) h0,p3 w1 y seg S2 (fun k hk1 hk2 hk3=>hk k (g1 k hk1) hk2 hk3) (fun k h2 h3=>hd k h2 (g1 k h3)) hM⟩
    · rw [←hl,List.take_append,List.take_of_length_le (by omega),Nat.add_sub_cancel_left,Nat.add_assoc,List.drop_append,List.drop_of_length_le (by omega),Nat.add_sub_cancel_left,List.nil_append]
      simp only [List.append_assoc]
    · intro k hk1
      exact .inl ⟨g0 k hk1,fun h=>g2 k hk1 (p1 k h)⟩
    · rintro k (⟨h2,h3⟩|h2)
      · exact .inl ⟨g1 k h2,h3⟩
      · exact .inr h2
    · rintro k hk1 (⟨h2,h3⟩|h2)
      · exact g2 k hk1 h2
      · exact g2 k hk1 (p1 k (hd k h2 (g0 k hk1)))
theorem Lens.iso {d:Zd α}{d':Zd γ}{o:Nat}{g:α→γ}{s:α→γ→α}(L:Lens d d' o g s)(f:β→α)(get:β→γ)(set:β→γ→β)(hg:∀x,get x=g (f x))(hs:∀x y,f (set x y)=s (f x) y):Lens (Zd.iso d f) d' o get set:=by
  refine⟨L.fit,fun {w S x cs} h=>?_⟩
  obtain⟨S',p1,p2,p3⟩:=L.part (w:=w) (S:=S) (x:=f x) (cs:=cs) h
  refine⟨S',p1,by rw [hg];exact p2,fun w1 y seg S2 hk hd hM=>?_⟩
  show d.M _ _ (f (set x y)) _
  rw [hs]
  exact p3 w1 y seg S2 hk hd hM
theorem Lens.trans {d:Zd α}{d1:Zd β}{d2:Zd γ}{o1 o2:Nat}{g1:α→β}{s1:α→β→α}{g2:β→γ}{s2:β→γ→β}(L1:Lens d d1 o1 g1 s1)(L2:Lens d1 d2 o2 g2 s2):Lens d d2 (o1+o2) (fun x=>g2 (g1 x)) (fun x y=>s1 x (s2 (g1 x) y)):=by
  refine⟨by have:=L1.fit;have:=L2.fit;omega,fun {w S x cs} h=>?_⟩
  obtain⟨S1,p1,p2,p3⟩:=L1.part h
  obtain⟨S2,q1,q2,q3⟩:=L2.part p2
  have hl:=Zd.len h
  have hf1:=L1.fit
  have hf2:=L2.fit
  refine⟨S2,fun k hk=>p1 k (q1 k hk),?_,fun w1 y seg S3 hk hd hM=>?_⟩
  · rw [List.drop_take,List.drop_drop,List.take_take,Nat.min_eq_left (by omega)] at q2
    exact q2
  · have h4:=q3 w1 y seg S3 (fun k hk1 hk2 hk3=>hk k (p1 k hk1) hk2 hk3) (fun k h2 h3=>hd k h2 (p1 k h3)) hM
    have h5:=p3 w1 _ _ _ (fun k hk1 hk2 hk3=>hk k hk1 (fun h=>hk2 (q1 k h)) hk3) (fun k h2 h3=>by
      rcases h2 with⟨h2,_⟩|h2
      · exact h2
      · exact q1 k (hd k h2 h3)) h4
    have hc:cs.take o1++(((cs.drop o1).take d1.kd.sz).take o2++seg++((cs.drop o1).take d1.kd.sz).drop (o2+d2.kd.sz))++cs.drop (o1+d1.kd.sz)=cs.take (o1+o2)++seg++cs.drop (o1+o2+d2.kd.sz):=by
      rw [List.take_take,Nat.min_eq_left (by omega),List.drop_take,List.drop_drop]
      have e1:cs.take (o1+o2)=cs.take o1++(cs.drop o1).take o2:=by rw [List.take_add]
      have e2:cs.drop (o1+o2+d2.kd.sz)=(cs.drop (o1+(o2+d2.kd.sz))).take (d1.kd.sz - (o2+d2.kd.sz))++cs.drop (o1+d1.kd.sz):=by
        have e3:cs.drop (o1+d1.kd.sz)=(cs.drop (o1+(o2+d2.kd.sz))).drop (d1.kd.sz - (o2+d2.kd.sz)):=by rw [List.drop_drop];congr 1;omega
        rw [e3,List.take_append_drop,Nat.add_assoc]
      rw [e1,e2]
      simp only [List.append_assoc]
    rw [hc] at h5
    refine d.mono (fun k hk=>?_) h5
    rcases hk with⟨h2,h3⟩|⟨h2,h3⟩|h2
    · exact .inl ⟨h2,fun h=>h3 (q1 k h)⟩
    · exact .inl ⟨p1 k h2,h3⟩
    · exact .inr h2
end
section
variable {α β:Type} {d:Zd α} {d':Zd β} {e o:Nat} {get:α→β} {set:α→β→α} {w w1:World} {S S':FP} {v:Value} {xs:List α}
theorem seg_part {inner:List Value}{sz i o m:Nat}(hf:o+m≤sz):(((inner.drop (i * sz)).take sz).drop o).take m=(inner.drop (i * sz+o)).take m:=by
  rw [List.drop_take,List.drop_drop,List.take_take,Nat.min_eq_left (by omega)]
theorem Row.lend {i:Nat}(h:Row d e w S v xs)(L:Lens d d' o get set)(hi:i<xs.length):
    ∃ (S' : FP) (seg : List Value), (∀ k, S' k → S k) ∧ d'.M w S' (get xs[i]) seg ∧ (∀ (A : Option Addr) (n c : Nat), v = .slice A n c → ∃ ad, A = some ad ∧ ∀ j u, seg[j]? = some u → w.cell? (ad.add (i * d.kd.sz + o + j)) = some u) ∧
      ∀ (w1 : World) (y : β) (S2 : FP), (∀ k, S k → ¬ S' k → k < w.heap.size → w1.heap[k]? = w.heap[k]?) → (∀ k, S2 k → S k → S' k) → d'.M w1 S2 y seg →
        Row d e w1 (fun k=>(S k∧¬S' k)∨S2 k) v (xs.set i (set xs[i] y)):=by
  obtain⟨inner,ho,h0,T,h1,h2,h3⟩:=h
  obtain⟨S',p1,p2,p3⟩:=L.part (h3 i xs[i] (List.getElem?_eq_getElem hi))
  have hl:inner.length=xs.length * d.kd.sz:=ho.1
  have hf:=L.fit
  have hle:i * d.kd.sz+d.kd.sz≤inner.length:=by rw [hl,←Nat.succ_mul];exact Nat.mul_le_mul_right _ hi
  refine⟨S',_,fun k hk=>(h1 i k (p1 k hk)).1,p2,?_,fun w1 y S2 hk hd hM=>?_⟩
  · rintro A n c rfl
    obtain⟨_,_,hc0⟩:=own_news ho
    obtain⟨ad,hA,hc1⟩:=hc0 (by omega)
    refine⟨ad,hA,fun j u hj=>hc1 _ _ ?_⟩
    rw [seg_part hf,List.getElem?_take,List.getElem?_drop] at hj
    split at hj
    · exact hj
    · cases hj
  · have h4:=p3 w1 y _ S2 (fun k hk1 hk2 hk3=>hk k (h1 i k hk1).1 hk2 hk3) (fun k h2' h3'=>hd k h2' (h1 i k h3').1) hM
    have hcs:((inner.drop (i * d.kd.sz)).take d.kd.sz).take o++(((inner.drop (i * d.kd.sz)).take d.kd.sz).drop o).take d'.kd.sz++((inner.drop (i * d.kd.sz)).take d.kd.sz).drop (o+d'.kd.sz)=(inner.drop (i * d.kd.sz)).take d.kd.sz:=by
      rw [List.append_assoc,←List.drop_drop,List.take_append_drop,List.take_append_drop]
    rw [hcs] at h4
    have hne:∀k,S' k→v.ownBlock≠some k:=fun k hk=>(h1 i k (p1 k hk)).2
    refine Row.mk_ (by rw [List.length_set];exact own_move ho (fun k hk'=>hk k (h0 k hk') (fun h=>hne k h hk') (own_lt ho k hk'))) (fun g hg=>.inl ⟨h0 g hg,fun h=>hne g h hg⟩) (fun j=>if j=i then(fun k=>(T i k∧¬S' k)∨S2 k)else T j) ?_ ?_ ?_
    · intro j k hk'
      (try dsimp only at hk')
      split at hk'
      · rcases hk' with⟨h5,h6⟩|h5
        · exact⟨.inl ⟨(h1 i k h5).1,h6⟩,(h1 i k h5).2⟩
        · refine⟨.inr h5,fun hv=>?_⟩
          exact hne k (hd k h5 (h0 k hv)) hv
      · rename_i hji
        exact⟨.inl ⟨(h1 j k hk').1,fun h=>h2 j i k hji hk' (p1 k h)⟩,(h1 j k hk').2⟩
    · intro a b k hab ha hb
      (try dsimp only at ha hb)
      split at ha <;> split at hb
      · omega
      · rename_i hai hbi
        rcases ha with⟨h5,_⟩|h5
        · exact h2 i b k (fun e=>hbi e.symm) h5 hb
        · exact h2 i b k (fun e=>hbi e.symm) (p1 k (hd k h5 (h1 b k hb).1)) hb
      · rename_i hai hbi
        rcases hb with⟨h5,_⟩|h5
        · exact h2 a i k hai ha h5
        · exact h2 a i k hai ha (p1 k (hd k h5 (h1 a k ha).1))
      · exact h2 a b k hab ha hb
    · intro j x hx
      have hjl:j<xs.length:=by have:=(List.getElem?_eq_some_iff.1 hx).1;rwa [List.length_set] at this
      by_cases hji:j=i
      · subst hji
        rw [List.getElem?_set_self hjl] at hx
        injection hx with hx
        subst hx
        simp only [if_true]
        exact h4
      · rw [List.getElem?_set_ne (Ne.symm hji)] at hx
        simp only [hji,if_false]
        exact d.keep (fun k hk1 hk3=>hk k (h1 j k hk1).1 (fun h=>h2 j i k hji hk1 (p1 k h)) hk3) (h3 j x hx)
theorem seg_setp {inner seg:List Value}{n sz i j o:Nat}(hl:inner.length=n * sz)(hi:i<n)(hj:j<n)(hs:o+seg.length≤sz):
    ((inner.take (i * sz+o)++seg++inner.drop (i * sz+o+seg.length)).drop (j * sz)).take sz=
      if j=i then((inner.drop (i * sz)).take sz).take o++seg++((inner.drop (i * sz)).take sz).drop (o+seg.length)else(inner.drop (j * sz)).take sz:=by
  have h1:i * sz+sz≤inner.length:=by rw [hl,←Nat.succ_mul];exact Nat.mul_le_mul_right _ hi
  have hc:(((inner.drop (i * sz)).take sz).take o++seg++((inner.drop (i * sz)).take sz).drop (o+seg.length)).length=sz:=by
    simp only [List.length_append,List.length_take,List.length_drop];omega
  have he:inner.take (i * sz+o)++seg++inner.drop (i * sz+o+seg.length)=inner.take (i * sz)++(((inner.drop (i * sz)).take sz).take o++seg++((inner.drop (i * sz)).take sz).drop (o+seg.length))++inner.drop (i * sz+sz):=by
    have e1:inner.take (i * sz+o)=inner.take (i * sz)++(inner.drop (i * sz)).take o:=by rw [List.take_add]
    have e2:inner.drop (i * sz+o+seg.length)=(inner.drop (i * sz+(o+seg.length))).take (sz - (o+seg.length))++inner.drop (i * sz+sz):=by
      have e3:inner.drop (i * sz+sz)=(inner.drop (i * sz+(o+seg.length))).drop (sz - (o+seg.length)):=by rw [List.drop_drop];congr 1;omega
      rw [e3,List.take_append_drop,Nat.add_assoc]
    rw [e1,e2,List.take_take,Nat.min_eq_left (by omega),List.drop_take,List.drop_drop]
    simp only [List.append_assoc]
  rw [he,seg_set hl hi hj hc]
theorem Row.setp {g n cap i:Nat}{y:β}{seg:List Value}(h:Row d e w S (.slice (some ⟨g,0,none⟩) n cap) xs)(L:Lens d d' o get set)(hi:i<xs.length)(hs:seg.length=d'.kd.sz)(hS':∀k,S' k→¬S k∧k<w.heap.size)(hM:d'.M w S' y seg):
    Row d e (w.setCells g (i * d.kd.sz+o) seg) (fun k=>S k∨S' k) (.slice (some ⟨g,0,none⟩) n cap) (xs.set i (set xs[i] y))∧S g:=by
  obtain⟨inner,ho,h0,T,h1,h2,h3⟩:=h
  have hg:S g:=h0 g rfl
  have hf:=L.fit
  rcases ho with⟨hl,⟨hv,_⟩|⟨g',cap',cur,hv,hb,hh,hnc,hcm,hcs,hin⟩⟩
  · cases hv
  injection hv with ha hn hc
  injection ha with ha
  injection ha with hg'
  subst hg';subst hc;subst hn
  have h4:i * d.kd.sz+d.kd.sz≤xs.length * d.kd.sz:=by rw [←Nat.succ_mul];exact Nat.mul_le_mul_right _ hi
  have h5:xs.length * d.kd.sz≤cap * d.kd.sz:=Nat.mul_le_mul_right _ hnc
  have hfit:i * d.kd.sz+o+seg.length≤cur.size:=by rw [hs,hcs];omega
  obtain⟨cur',hc1,hc2,hc3⟩:=setCells_row seg (i * d.kd.sz+o) w cur hh hfit
  have hne:∀k,k≠g→(w.setCells g (i * d.kd.sz+o) seg).heap[k]?=w.heap[k]?:=fun k hk=>setCells_far seg _ k hk
  have hlc:cur.toList.length=cap * d.kd.sz:=by rw [Array.length_toList];exact hcs
  have hin':cur'.toList.take (xs.length * d.kd.sz)=inner.take (i * d.kd.sz+o)++seg++inner.drop (i * d.kd.sz+o+seg.length):=by
    rw [hc3,←hin,hs,List.take_take,Nat.min_eq_left (by omega),List.append_assoc,List.append_assoc,List.take_append,List.length_take,hlc,Nat.min_eq_left (by omega),List.take_of_length_le (by rw [List.length_take];omega),List.take_append,hs,List.take_of_length_le (l:=seg) (by omega),List.drop_take]
    congr 3
    omega
  obtain⟨P,p1,p2,p3⟩:=L.part (h3 i xs[i] (List.getElem?_eq_getElem hi))
  have h6:=p3 (w.setCells g (i * d.kd.sz+o) seg) y seg S' (fun k hk1 _ _=>hne k (fun he=>(h1 i k hk1).2 (by rw [he];rfl))) (fun k hk1 hk2=>absurd (h1 i k hk2).1 (hS' k hk1).1) (d'.keep (fun k hk _=>hne k (fun he=>(hS' k hk).1 (he ▸ hg))) hM)
  refine⟨⟨inner.take (i * d.kd.sz+o)++seg++inner.drop (i * d.kd.sz+o+seg.length),⟨?_,.inr ⟨g,cap,cur',by rw [List.length_set],hb,hc1,by rw [List.length_set];exact hnc,hcm,by rw [hc2,hcs],by rw [List.length_set];exact hin'⟩⟩,fun k hk=>.inl (h0 k hk),fun j=>if j=i then(fun k=>(T i k∧¬P k)∨S' k)else T j,?_,?_,?_⟩,hg⟩
  · rw [List.length_set,List.length_append,List.length_append,List.length_take,List.length_drop,hl,hs,Nat.min_eq_left (by omega)]
    omega
  · intro j k hk
    (try dsimp only at hk)
    split at hk
    · rcases hk with⟨hk,_⟩|hk
      · exact⟨.inl (h1 i k hk).1,(h1 i k hk).2⟩
      · exact⟨.inr hk,fun he=>(hS' k hk).1 (h0 k he)⟩
    · exact⟨.inl (h1 j k hk).1,(h1 j k hk).2⟩
  · intro a b k hab ha hb'
    (try dsimp only at ha hb')
    split at ha <;> split at hb'
    · omega
    · rename_i hai hbi
      rcases ha with⟨ha,_⟩|ha
      · exact h2 i b k (fun e=>hbi e.symm) ha hb'
      · exact(hS' k ha).1 (h1 b k hb').1
    · rename_i hai hbi
      rcases hb' with⟨hb',_⟩|hb'
      · exact h2 a i k hai ha hb'
      · exact(hS' k hb').1 (h1 a k ha).1
    · exact h2 a b k hab ha hb'
  · intro j x hx
    have hjl:j<xs.length:=by have:=(List.getElem?_eq_some_iff.1 hx).1;rwa [List.length_set] at this
    rw [seg_setp hl hi hjl (by rw [hs];exact hf)]
    by_cases hji:j=i
    · subst hji
      rw [List.getElem?_set_self hjl] at hx
      injection hx with hx
      subst hx
      simp only [if_true,hs]
      exact h6
    · rw [List.getElem?_set_ne (Ne.symm hji)] at hx
      simp only [hji,if_false]
      exact d.keep (fun k hk _=>hne k (fun he=>(h1 j k hk).2 (by rw [he];rfl))) (h3 j x hx)
end
section
variable {A:FP} {w0 w w1:World} {rs:List Res}
theorem Hp.open_ (h:Hp A w0 w rs):∃S:Nat→FP,(∀i j k,i≠j→S i k→¬S j k)∧(∀i k,S i k→k<w.heap.size)∧(∀i k,S i k→A k∨w0.heap.size≤k)∧(∀(i:Nat) (r:Res),rs[i]?=some r→r.holds w (S i))∧
    ∀ (is : List Nat) {w1 : World} {ps : List Res}, Hp (fun k => ∃ i, i ∈ is ∧ S i k) w w1 ps → ∀ (rs' : List Res) (at_ : Nat → Option Nat), (∀ a b j, at_ a = some j → at_ b = some j → a = b) →
      (∀(a:Nat) (r:Res),rs'[a]?=some r→(∃j,at_ a=some j∧ps[j]?=some r)∨(at_ a=none∧(r=.emp∨(rs[a]?=some r∧a ∉ is))))→Hp A w0 w1 rs':=by
  have hsz:=h.size
  obtain⟨hs,hk0,S,h1,h2,h3⟩:=h
  refine⟨S,h2,fun i k hk=>(h1 i k hk).2,fun i k hk=>(h1 i k hk).1,h3,fun is w1 ps G rs' at_ hinj hrs=>?_⟩
  obtain⟨gs,gk,T,t1,t2,t3⟩:=G
  have hlt:=gs.2.2.2
  refine⟨⟨gs.1.trans hs.1,gs.2.1.trans hs.2.1,gs.2.2.1.trans hs.2.2.1,by omega⟩,fun k hk hA=>?_,fun a k=>(∃j,at_ a=some j∧T j k)∨(at_ a=none∧a ∉ is∧S a k),?_,?_,?_⟩
  · refine(gk k (by omega) ?_).trans (hk0 k hk hA)
    rintro⟨i,_,hi⟩
    rcases(h1 i k hi).1 with h|h
    · exact hA h
    · omega
  · rintro a k (⟨j,hj,hk⟩|⟨hj,hn,hk⟩)
    · obtain⟨h4,h5⟩:=t1 _ k hk
      refine⟨?_,h5⟩
      rcases h4 with⟨i,_,hi⟩|h4
      · exact(h1 i k hi).1
      · exact .inr (by omega)
    · have:=h1 a k hk
      exact⟨this.1,by omega⟩
  · rintro a b k hab (⟨j,hj,ha⟩|⟨hj,hna,ha⟩) (⟨j',hj',hb⟩|⟨hj',hnb,hb⟩)
    · exact t2 j j' k (fun e=>hab (hinj a b j hj (by rw [e];exact hj'))) ha hb
    · rcases(t1 _ k ha).1 with⟨i,hi,hs'⟩|h4
      · exact h2 i b k (fun e=>hnb (e ▸ hi)) hs' hb
      · have:=(h1 b k hb).2;omega
    · rcases(t1 _ k hb).1 with⟨i,hi,hs'⟩|h4
      · exact h2 i a k (fun e=>hna (e ▸ hi)) hs' ha
      · have:=(h1 a k ha).2;omega
    · exact h2 a b k hab ha hb
  · intro a r ha
    rcases hrs a r ha with⟨j,hj,hp⟩|⟨hj,hr⟩
    · exact Res.mono (fun k hk=>.inl ⟨j,hj,hk⟩) (t3 j r hp)
    · rcases hr with rfl|⟨hr,hn⟩
      · trivial
      · refine Res.mono (fun k hk=>.inr ⟨hj,hn,hk⟩) (Res.keep (fun k hk hkl=>gk k hkl ?_) (h3 a r hr))
        rintro⟨i,hi,hs'⟩
        exact h2 i a k (fun e=>hn (e ▸ hi)) hs' hk
def back:List Res→List Nat→List Res→List Res
  |rs,[],ps=>rs++ps
  |rs,i :: is,p :: ps=>back (rs.set i p) is ps
  |rs,_ :: _,[]=>rs
theorem back_get:∀(is:List Nat) (rs ps:List Res) (a:Nat) (r:Res),is.Nodup→(∀i∈is,i<rs.length)→is.length≤ps.length→(back rs is ps)[a]?=some r→
    (∃j,(is[j]?=some a∨(is.length≤j∧a=rs.length+(j - is.length)))∧ps[j]?=some r)∨(a ∉ is∧a<rs.length∧rs[a]?=some r)
  | [],rs,ps,a,r,_,_,_,h=>by
    unfold back at h
    by_cases hl:a<rs.length
    · rw [List.getElem?_append_left hl] at h
      exact .inr ⟨by simp,hl,h⟩
    · rw [List.getElem?_append_right (by omega)] at h
      exact .inl ⟨a - rs.length,.inr ⟨Nat.zero_le _,by simp;omega⟩,h⟩
  |i :: is,rs,[],a,r,_,_,hl,h=>by simp at hl
  | i :: is,rs,p :: ps,a,r,hn,hlt,hl,h=>by
    unfold back at h
    have hn':=List.nodup_cons.1 hn
    rcases back_get is (rs.set i p) ps a r hn'.2 (fun j hj=>by rw [List.length_set];exact hlt j (List.mem_cons_of_mem _ hj)) (by simpa using hl) h with⟨j,hj,hp⟩|⟨h1,h2,h3⟩
    · refine .inl ⟨j+1,?_,by simpa using hp⟩
      rcases hj with hj|⟨h1,h2⟩
      · exact .inl (by simpa using hj)
      · rw [List.length_set] at h2
        exact .inr ⟨by simpa using h1,by rw [h2,List.length_cons];omega⟩
    · by_cases hai:a=i
      · subst hai
        rw [List.getElem?_set_self (hlt a List.mem_cons_self)] at h3
        exact .inl ⟨0,.inl rfl,by simpa using h3⟩
      · rw [List.getElem?_set_ne (Ne.symm hai)] at h3
        rw [List.length_set] at h2
        exact .inr ⟨by simp [hai,h1],h2,h3⟩
theorem Hp.lend {Φ:Prop} (is:List Nat) (h:Hp A w0 w rs) (hn:is.Nodup) (qs:List Res) (hqs:is.map (fun j=>rs[j]?)=qs.map some)
    (K:∀A':FP,(∀k,A' k→A k∨w0.heap.size≤k)→(∀(i:Nat) (r:Res),i ∉ is→rs[i]?=some r→∃S:FP,(∀k,S k→¬A' k)∧r.holds w S)→Hp A' w w qs→(∀(w1:World) (ps:List Res),Hp A' w w1 ps→is.length≤ps.length→Hp A w0 w1 (back rs is ps))→Φ):Φ:=by
  have hql:qs.length=is.length:=by
    have:=congrArg List.length hqs
    simpa using this.symm
  have hq:∀(a:Nat) (j:Nat),is[a]?=some j→rs[j]?=qs[a]?:=by
    intro a j hj
    have h4:=congrArg (fun l=>l[a]?) hqs
    simp only [List.getElem?_map,hj,Option.map_some] at h4
    have hal:a<qs.length:=by rw [hql];exact(List.getElem?_eq_some_iff.1 hj).1
    rw [List.getElem?_eq_getElem hal] at h4⊢
    exact Option.some.inj h4
  obtain⟨S,h2,hl,hA_,h3,G⟩:=h.open_
  refine K (fun k=>∃i,i∈is∧S i k) (fun k ⟨i,_,hk⟩=>hA_ i k hk) (fun i r hi hr=>⟨S i,fun k hk ⟨j,hj,hk'⟩=>h2 i j k (fun e=>hi (e ▸ hj)) hk hk',h3 i r hr⟩) ?_ (fun w1 ps HQ hlp=>?_)
  · refine⟨⟨rfl,rfl,rfl,Nat.le_refl _⟩,fun _ _ _=>rfl,fun a k=>∃j,is[a]?=some j∧S j k,?_,?_,?_⟩
    · rintro a k ⟨j,hj,hk⟩
      exact⟨.inl ⟨j,List.mem_of_getElem? hj,hk⟩,hl j k hk⟩
    · rintro a b k hab ⟨j,hj,ha⟩ ⟨j',hj',hb⟩
      refine h2 j j' k (fun e=>hab ?_) ha hb
      subst e
      exact(List.getElem?_inj (List.getElem?_eq_some_iff.1 hj).1 hn).1 (hj.trans hj'.symm)
    · intro a r ha
      have hal:a<is.length:=by rw [←hql];exact(List.getElem?_eq_some_iff.1 ha).1
      have h4:=hq a is[a] (List.getElem?_eq_getElem hal)
      rw [ha] at h4
      exact Res.mono (fun k hk=>⟨is[a],List.getElem?_eq_getElem hal,hk⟩) (h3 _ r h4)
  · have hlt:∀i∈is,i<rs.length:=by
      intro i hi
      obtain⟨a,ha⟩:=List.getElem?_of_mem hi
      have h4:=hq a i ha
      have h5:a<qs.length:=by rw [hql];exact(List.getElem?_eq_some_iff.1 ha).1
      rw [List.getElem?_eq_getElem h5] at h4
      exact(List.getElem?_eq_some_iff.1 h4).1
    refine G is HQ (back rs is ps) (fun a=>if a∈is then some (is.idxOf a)else if a<rs.length then none else some (a - rs.length+is.length)) ?_ ?_
    · intro a b j ha hb
      split at ha <;> split at hb
      · rename_i ha' hb'
        have h4:=List.getElem_idxOf (List.idxOf_lt_length_of_mem ha')
        have h5:=List.getElem_idxOf (List.idxOf_lt_length_of_mem hb')
        simp only [Option.some.injEq] at ha hb
        rw [←h4,←h5]
        congr 1
        omega
      · rename_i ha' hb'
        have:=List.idxOf_lt_length_of_mem ha'
        split at hb <;> simp at ha hb
        omega
      · rename_i ha' hb'
        have:=List.idxOf_lt_length_of_mem hb'
        split at ha <;> simp at ha hb
        omega
      · split at ha <;> split at hb <;> simp at ha hb
        omega
    · intro a r ha
      rcases back_get is rs ps a r hn hlt hlp ha with⟨j,hj,hp⟩|⟨h4,h5,h6⟩
      · refine .inl ⟨j,?_,hp⟩
        rcases hj with hj|⟨h4,h5⟩
        · have hm:=List.mem_of_getElem? hj
          have hjl:=(List.getElem?_eq_some_iff.1 hj).1
          have h7:=List.idxOf_lt_length_of_mem hm
          have h6:is.idxOf a=j:=(List.getElem?_inj h7 hn).1 (by rw [List.getElem?_eq_getElem h7,hj,List.getElem_idxOf])
          simp only [hm,if_true,h6]
        · have hm:a ∉ is:=fun hm=>by have:=hlt a hm;omega
          have hm2:¬a<rs.length:=by omega
          simp only [hm,hm2,if_false]
          congr 1
          omega
      · refine .inr ⟨by simp only [h4,h5,if_false,if_true],.inr ⟨h6,h4⟩⟩
section
variable {α β:Type} {d:Zd α} {d2:Zd β} {e e2 o n c:Nat} {ad:Addr} {get:α→List β} {set:α→List β→α} {xs:List α} {z:α} {u:Value}
theorem Hp.lend_el {Φ:Prop} (r:Nat) (i:Int) (h:Hp A w0 w rs) (hr:rs[r]?=some (.own (Zd.slice e d) xs [.slice (some ad) n c])) (L:Lens d (Zd.slice e2 d2) o get set) (h0:0≤i) (h1:i<(n:Int)) {q:Addr} (hc:w.cell? q=some u) (ho:∀g,ad=⟨g,0,none⟩→q=⟨g,i.toNat * d.kd.sz+o,none⟩)
    (hz:∀hl:i.toNat<xs.length,xs[i.toNat]=z)
    (K:∀A':FP,(∀k,A' k→A k∨w0.heap.size≤k)→Hp A' w w [.own (Zd.slice e2 d2) (get z) [u]]→(∀(w1:World) (y:List β) (qs:List Res),Hp A' w w1 (.own (Zd.slice e2 d2) y [u] :: qs)→Hp A w0 w1 (rs.set r (.own (Zd.slice e d) (xs.set i.toNat (set z y)) [.slice (some ad) n c])++qs))→Φ):Φ:=by
  have hil:i.toNat<xs.length:=by
    obtain⟨B',c',he,_⟩:=h.form r hr
    injection he with _ he _
    omega
  have hlr:r<rs.length:=(List.getElem?_eq_some_iff.1 hr).1
  obtain⟨S,h2,hl,hA_,h3,G⟩:=h.open_
  obtain⟨v,hv,hrow⟩:=h3 r _ hr
  injection hv with hv
  subst hv
  obtain⟨S',seg,p1,p2,p3,p4⟩:=Row.lend hrow L hil
  obtain⟨u',rfl,p5⟩:=p2
  obtain⟨g,rfl⟩:∃g,ad=⟨g,0,none⟩:=by
    obtain⟨inner,ho',_⟩:=hrow
    rcases ho' with⟨hl,⟨hv,_⟩|⟨g',cap',cur,hv,_⟩⟩
    · cases hv
    injection hv with ha
    injection ha with ha
    exact⟨g',ha⟩
  obtain rfl:=ho g rfl
  obtain⟨ad',he,p3⟩:=p3 _ _ _ rfl
  injection he with he
  subst he
  have hu:u'=u:=by
    have:=p3 0 u' rfl
    rw [Nat.add_zero,add_plain,hc] at this
    injection this with this
    exact this.symm
  subst hu
  have hz':=hz hil
  rw [hz'] at p5
  refine K S' (fun k hk=>hA_ r k (p1 k hk)) ?_ (fun w1 y qs HQ=>?_)
  · refine⟨⟨rfl,rfl,rfl,Nat.le_refl _⟩,fun _ _ _=>rfl,fun j k=>j=0∧S' k,fun j k hk=>⟨.inl hk.2,hl r k (p1 k hk.2)⟩,fun a b k hab ha hb=>hab (by omega),fun j q hj=>?_⟩
    cases j with
    | zero=>
      simp only [List.getElem?_cons_zero,Option.some.injEq] at hj
      subst hj
      exact⟨_,rfl,p5.mono (fun k hk=>⟨rfl,hk⟩)⟩
    |succ j=>simp at hj
  · obtain ⟨gs,gk,T,t1,t2,t3⟩:=HQ
    obtain⟨v2,hv2,hy⟩:=t3 0 _ rfl
    injection hv2 with hv2
    subst hv2
    have hrow':=p4 w1 y (T 0) (fun k hk1 hk2 hk3=>gk k hk3 hk2) (fun k hk1 hk2=>(t1 0 k hk1).1.elim id (fun hge=>absurd (hl r k hk2) (by omega))) ⟨_,rfl,hy⟩
    rw [hz'] at hrow'
    have HQ:Hp (fun k=>∃i,i∈ [r]∧S i k) w w1 (.own (Zd.slice e d) (xs.set i.toNat (set z y)) [.slice (some ⟨g,0,none⟩) n c] :: qs):=by
      refine⟨gs,fun k hk hn=>gk k hk (fun hs=>hn ⟨r,by simp,p1 k hs⟩),fun j k=>(j=0∧((S r k∧¬S' k)∨T 0 k))∨(0<j∧T j k),?_,?_,?_⟩
      · rintro j k (⟨_,⟨hk,_⟩|hk⟩|⟨_,hk⟩)
        · exact⟨.inl ⟨r,by simp,hk⟩,by have:=hl r k hk;have:=gs.2.2.2;omega⟩
        · exact⟨(t1 0 k hk).1.imp (fun h=>⟨r,by simp,p1 k h⟩) id,(t1 0 k hk).2⟩
        · exact⟨(t1 j k hk).1.imp (fun h=>⟨r,by simp,p1 k h⟩) id,(t1 j k hk).2⟩
      · have key:∀j k,0<j→((S r k∧¬S' k)∨T 0 k)→¬T j k:=by
          rintro j k hj (⟨hk,hn⟩|hk) hT
          · rcases(t1 j k hT).1 with h5|h5
            · exact hn h5
            · have:=hl r k hk;omega
          · exact t2 0 j k (by omega) hk hT
        rintro a b k hab (⟨rfl,ha⟩|⟨ha0,ha⟩) (⟨rfl,hb⟩|⟨hb0,hb⟩)
        · exact hab rfl
        · exact key b k hb0 ha hb
        · exact key a k ha0 hb ha
        · exact t2 a b k hab ha hb
      · intro j q hj
        cases j with
        | zero=>
          simp only [List.getElem?_cons_zero,Option.some.injEq] at hj
          subst hj
          exact⟨_,rfl,hrow'.mono (fun k hk=>.inl ⟨rfl,hk⟩)⟩
        | succ j=>
          exact Res.mono (fun k hk=>.inr ⟨by omega,hk⟩) (t3 (j+1) q (by simpa using hj))
    refine G [r] HQ _ (fun a=>if a=r then some 0 else if a<rs.length then none else some (a - rs.length+1)) ?_ ?_
    · intro a b j ha hb
      split at ha <;> split at hb
      · simp_all
      · split at hb <;> simp at ha hb;omega
      · split at ha <;> simp at ha hb;omega
      · split at ha <;> split at hb <;> simp at ha hb;omega
    · intro a q ha
      by_cases har:a=r
      · subst har
        rw [List.getElem?_append_left (by rw [List.length_set];exact hlr),List.getElem?_set_self hlr] at ha
        exact .inl ⟨0,by simp,by simpa using ha⟩
      · by_cases hal:a<rs.length
        · rw [List.getElem?_append_left (by rw [List.length_set];exact hal),List.getElem?_set_ne (Ne.symm har)] at ha
          exact .inr ⟨by simp [har,hal],.inr ⟨ha,by simp [har]⟩⟩
        · rw [List.getElem?_append_right (by rw [List.length_set];omega),List.length_set] at ha
          exact .inl ⟨a - rs.length+1,by simp [har,hal],by simpa using ha⟩
end
end
section
variable {P:Program} {ops:Array Oper} {rest:List Oper} {o:Oper} {a:Act} {Q:Exit→Act→World→Prop} {A:FP} {w0 W:World} {rs:List Res}
theorem wp_setp {α β:Type} {K:Act→World→Prop} (d:Zd α) (d':Zd β) {oo:Nat} {get:α→β} {set:α→β→α} (L:Lens d d' oo get set) (r:Nat) (js:List Nat) (i:Int) (z:α) (y:β) (HS:Hp A w0 W rs) {e n cap:Nat} {ad:Addr} {xs:List α} (hr:rs[r]?=some (.own (Zd.slice e d) xs [.slice (some ad) n cap])) (hrj:r ∉ js) (hN:o.dst=none)
    {t:TypeId} {p x:Operand} (ho:o.op=.store t p x) {q:Addr} {u:Value} {seg:List Value} (haddr:a.eval p=.pointer (some q)) (hoff:∀g,ad=⟨g,0,none⟩→q=⟨g,i.toNat * d.kd.sz+oo,none⟩) (hx:a.eval x=u) (hu:u.cells.toList=seg) (ht:(P.info? t).map (·.size)=some seg.length)
    (h1:∀q∈seg,q.oneCell'=true) (hi:0≤i∧i<(n:Int)) (hlen:seg.length=d'.kd.sz) (hz:∀hl:i.toNat<xs.length,xs[i.toNat]=z) (hM:Made d' W rs js y seg)
    (h:∀w1,Hp A w0 w1 ((clr rs js).set r (.own (Zd.slice e d) (xs.set i.toNat (set z y)) [.slice (some ad) n cap]))→K a w1):Oper.wp P o a W K Q:=by
  obtain⟨g,rfl⟩:∃g,ad=⟨g,0,none⟩:=by
    obtain⟨sS,hsl,⟨v,hv,inner,ho',_⟩⟩:=HS.has hr
    injection hv with hv
    subst hv
    rcases ho' with⟨hl,⟨hv,_⟩|⟨g',cap',cur,hv,_⟩⟩
    · cases hv
    injection hv with ha
    injection ha with ha
    exact⟨g',ha⟩
  have hil:i.toNat<xs.length:=by
    obtain⟨B',c',he,_⟩:=HS.form r hr
    injection he with _ he _
    have:=hi.2
    omega
  have hz':=hz hil
  have hf:=L.fit
  obtain rfl:=hoff g rfl
  obtain⟨sS,hsl,⟨v,hv,hrow⟩⟩:=HS.has hr
  injection hv with hv
  subst hv
  have hcur:∃cur,W.heap[g]?=some (.cells cur e (0,0))∧i.toNat * d.kd.sz+d.kd.sz≤cur.size:=by
    obtain⟨inner,ho',_⟩:=hrow
    rcases ho' with⟨hl,⟨hv,_⟩|⟨g',cap',cur,hv,hb,hh,hnc,hcm,hcs,hin⟩⟩
    · cases hv
    injection hv with ha hn hc
    injection ha with ha
    injection ha with hg'
    subst hg';subst hc;subst hn
    have h4:i.toNat * d.kd.sz+d.kd.sz≤xs.length * d.kd.sz:=by rw [←Nat.succ_mul];exact Nat.mul_le_mul_right _ hil
    have h5:xs.length * d.kd.sz≤cap * d.kd.sz:=Nat.mul_le_mul_right _ hnc
    exact⟨cur,hh,by rw [hcs];omega⟩
  obtain⟨cur,hh,hfit⟩:=hcur
  have hrun:=run_store_run (P:=P) (o:=i.toNat * d.kd.sz+oo) t u seg hh hu ht (by omega) h1
  obtain⟨s1,s2,s3,s4⟩:=setCells_same g seg (i.toNat * d.kd.sz+oo) W
  have hlr:r<rs.length:=(List.getElem?_eq_some_iff.1 hr).1
  have HS':Hp A w0 (W.setCells g (i.toNat * d.kd.sz+oo) seg) ((clr rs js).set r (.own (Zd.slice e d) (xs.set i.toNat (set z y)) [.slice (some ⟨g,0,none⟩) n cap])):=by
    refine HS.via (r :: js) (ps:=[.own (Zd.slice e d) (xs.set i.toNat (set z y)) [.slice (some ⟨g,0,none⟩) n cap]]) (fun S h2 hl h3=>?_) _ (fun a=>if a=r then some 0 else none) ?_ ?_
    · obtain⟨v,hv,hrow⟩:=h3 r _ hr
      injection hv with hv
      subst hv
      obtain⟨hrow',hg⟩:=Row.setp hrow L hil hlen (S':=fun k=>∃j,j∈js∧S j k) (fun k ⟨j,hj,hk⟩=>⟨h2 j r k (fun e=>hrj (e ▸ hj)) hk,hl j k hk⟩) (hM S h2 h3)
      rw [hz'] at hrow'
      refine⟨⟨s1,s2,s3,by omega⟩,fun k hk hn=>setCells_far seg _ k (fun he=>hn ⟨r,by simp,he ▸ hg⟩),fun j k=>j=0∧(S r k∨∃j,j∈js∧S j k),fun j k hk=>⟨.inl ?_,?_⟩,fun a b k hab ha hb=>hab (by omega),fun j q hj=>?_⟩
      · rcases hk.2 with hk|⟨j',hj',hk⟩
        · exact⟨r,by simp,hk⟩
        · exact⟨j',by simp [hj'],hk⟩
      · rw [s4]
        rcases hk.2 with hk|⟨j',_,hk⟩
        · exact hl r k hk
        · exact hl j' k hk
      · cases j with
        | zero=>
          simp only [List.getElem?_cons_zero,Option.some.injEq] at hj
          subst hj
          exact⟨_,rfl,hrow'.mono (fun k hk=>⟨rfl,hk⟩)⟩
        |succ j=>simp at hj
    · intro a b j ha hb
      split at ha <;> split at hb <;> simp_all
    · intro b q hb
      by_cases hbr:b=r
      · subst hbr
        rw [List.getElem?_set_self (by rw [clr_len];exact hlr)] at hb
        exact .inl ⟨0,by simp,hb⟩
      · rw [List.getElem?_set_ne (Ne.symm hbr)] at hb
        refine .inr ⟨by simp [hbr],?_⟩
        rcases clr_get js rs b q hb with h5|⟨h5,h6⟩
        · exact .inl h5
        · exact .inr ⟨h5,by simp [hbr,h6]⟩
  unfold Oper.wp execOp
  simp only [ho,haddr,hx,Sem.run_bind,Sem.run_pure,Result.andThen_ok,hrun]
  show K (a.put o.dst undef) _
  rw [hN]
  exact h _ HS'
theorem ev_setp {α β:Type} (hgd:o.guard=none) (d:Zd α) (d':Zd β) {oo:Nat} {get:α→β} {set:α→β→α} (L:Lens d d' oo get set) (r:Nat) (js:List Nat) (i:Int) (z:α) (y:β) (HS:Hp A w0 W rs) {e n cap:Nat} {ad:Addr} {xs:List α} (hr:rs[r]?=some (.own (Zd.slice e d) xs [.slice (some ad) n cap])) (hrj:r ∉ js) (hN:o.dst=none)
    {t:TypeId} {p x:Operand} (ho:o.op=.store t p x) {q:Addr} {u:Value} {seg:List Value} (haddr:a.eval p=.pointer (some q)) (hoff:∀g,ad=⟨g,0,none⟩→q=⟨g,i.toNat * d.kd.sz+oo,none⟩) (hx:a.eval x=u) (hu:u.cells.toList=seg) (ht:(P.info? t).map (·.size)=some seg.length)
    (h1:∀q∈seg,q.oneCell'=true) (hi:0≤i∧i<(n:Int)) (hlen:seg.length=d'.kd.sz) (hz:∀hl:i.toNat<xs.length,xs[i.toNat]=z) (hM:Made d' W rs js y seg)
    (h:∀w1,Hp A w0 w1 ((clr rs js).set r (.own (Zd.slice e d) (xs.set i.toNat (set z y)) [.slice (some ad) n cap]))→wpList P ops Q rest a w1):wpList P ops Q (o :: rest) a W:=wpList_plain hgd fun _ hK=>wp_setp d d' L r js i z y HS hr hrj hN ho haddr hoff hx hu ht h1 hi hlen hz hM (fun w1 h2=>hK _ _ (h w1 h2))
def Flat {α:Type}(d:Zd α):Prop:=∀ {w:World} {S:FP} {x:α} {cs:List Value},d.kd.K w x cs→d.M w S x cs
theorem flat_int (k:IntKind):Flat (Zd.int k):=fun h=>h
theorem flat_string:Flat Zd.string:=fun h=>h
theorem wp_appendr {α:Type} {K:Act→World→Prop} (d:Zd α) (hflat:Flat d) (r:Nat) (HS:Hp A w0 W rs) {e m c:Nat} {B:Option Addr} {v:Value} {xs ys:List α} (hr:rs[r]?=some (.own (Zd.slice e d) xs [v])) (hq:d.kd.C W B m ys)
    {t:TypeId} {x y:Operand} (ho:o.op=.call { callee:=.builtin .append,args:=#[x,y],argTypes:=#[t,t] }) (hx:a.eval x=v) (hy:a.eval y=.slice B m c) (ht:P.underlying t=some (.slice e)) {z:Value} {bytes:Nat}
    (hinfo:(P.info? e).map (fun i=>(i.zero,i.size,i.bytes))=some (some z,d.kd.sz,bytes)) (hz:z.cells.size=d.kd.sz) (hs0:0<d.kd.sz) (hb0:0<bytes) (hb:(xs.length+ys.length) * bytes≤140737488355328)
    (h:∀v1 w1,Hp A w0 w1 (clr rs [r]++ [.own (Zd.slice e d) (xs++ys) [v1]])→K (a.put o.dst v1) w1):Oper.wp P o a W K Q:=by
  obtain⟨S0,_,⟨v',hv',inner,hin,_⟩⟩:=HS.has hr
  injection hv' with hv'
  subst hv'
  have hm:ys.length=m:=hq.1
  obtain ⟨news,hnr,hnc⟩:∃news:List Value,Reps (d.kd.K W) d.kd.sz ys news∧(0<m→∃ad,B=some ad∧∀j u,news[j]?=some u→W.cell? (ad.add j)=some u):=by
    rcases B with _|ad
    · have h0:m=0:=by
        rcases Nat.eq_zero_or_pos m with h0|h0
        · exact h0
        · obtain⟨ad,h,_⟩:=hq.2.2 h0
          cases h
      subst h0
      obtain rfl:ys=[]:=List.eq_nil_of_length_eq_zero hm
      exact⟨[],Reps.none _ _,fun h=>absurd h (Nat.lt_irrefl 0)⟩
    · obtain⟨news,h4,h5⟩:=ReadsRow.inner_ hq
      exact⟨news,h4,fun _=>⟨ad,rfl,h5⟩⟩
  have hnl:news.length=m * d.kd.sz:=by rw [hnr.1,hm]
  have h1:∀u∈news,u.oneCell'=true:=by
    intro u hu
    obtain⟨i,hi,rfl⟩:=List.getElem_of_mem hu
    have hjl:i / d.kd.sz<ys.length:=Nat.div_lt_of_lt_mul (by rw [Nat.mul_comm,hm];omega)
    refine d.kd.K_one (hnr.2 (i / d.kd.sz) ys[i / d.kd.sz] (List.getElem?_eq_getElem hjl)) _ ?_
    rw [List.mem_iff_getElem?]
    refine⟨i % d.kd.sz,?_⟩
    rw [List.getElem?_take_of_lt (Nat.mod_lt _ hs0),List.getElem?_drop,Nat.mul_comm,Nat.div_add_mod]
    exact List.getElem?_eq_getElem hi
  obtain⟨v1,w1,hrun,hown,hg,hat⟩:=run_append_any (P:=P) (ty:=o.type) ht hinfo hz hs0 hb0 hin (B:=B) (c:=c) hnl hnc h1 (by rw [←hm];exact hb)
  have hrun':(execOp a.eval o).run P W=.ok (.value v1) w1:=by
    unfold execOp
    simp only [ho,resolve,invoke,builtin,Sem.run_bind,Sem.run_pure,Result.andThen_ok,List.map_toArray,List.map_cons,List.map_nil,hx,hy,hrun]
  refine wp_run hrun' (h _ _ (HS.trade [r] ⟨hg.os,hg.tape,hg.output,hg.size⟩ (fun S g1 g2 g3=>?_)))
  obtain⟨u,hu,hrow⟩:=g3 r _ hr
  injection hu with hu
  subst hu
  have hres:=Row.append (w1:=w1) (v1:=v1) (ys:=ys) (news:=news) hrow (g2 r) (fun _ _=>False) (fun _ _ h=>h.elim) (fun _ _ h=>h.elim) (fun _ _ _ _ h=>h.elim) (fun j x hx=>hflat (hnr.2 j x hx)) (fun i2 h2=>by
    obtain rfl:=own_one hin h2
    rw [List.length_append,hm]
    exact hown) hg hat
  refine⟨_,⟨_,rfl,hres⟩,fun k hk=>⟨?_,hk.2⟩,fun k hk hn=>hg.block k hk (fun he=>?_)⟩
  · rcases hk.1 with hk|⟨j,hk⟩|hk
    · exact .inl ⟨r,by simp,hk⟩
    · exact hk.elim
    · exact .inr hk
  · obtain⟨_,_,hb',_⟩:=hrow
    exact hn ⟨r,by simp,hb' k he.symm⟩
theorem ev_appendr {α:Type} (hgd:o.guard=none) (d:Zd α) (hflat:Flat d) (r:Nat) (HS:Hp A w0 W rs) {e m c:Nat} {B:Option Addr} {v:Value} {xs ys:List α} (hr:rs[r]?=some (.own (Zd.slice e d) xs [v])) (hq:d.kd.C W B m ys)
    {t:TypeId} {x y:Operand} (ho:o.op=.call { callee:=.builtin .append,args:=#[x,y],argTypes:=#[t,t] }) (hx:a.eval x=v) (hy:a.eval y=.slice B m c) (ht:P.underlying t=some (.slice e)) {z:Value} {bytes:Nat}
    (hinfo:(P.info? e).map (fun i=>(i.zero,i.size,i.bytes))=some (some z,d.kd.sz,bytes)) (hz:z.cells.size=d.kd.sz) (hs0:0<d.kd.sz) (hb0:0<bytes) (hb:(xs.length+ys.length) * bytes≤140737488355328)
    (h:∀v1 w1,Hp A w0 w1 (clr rs [r]++ [.own (Zd.slice e d) (xs++ys) [v1]])→wpList P ops Q rest (a.put o.dst v1) w1):wpList P ops Q (o :: rest) a W:=wpList_plain hgd fun _ hK=>wp_appendr d hflat r HS hr hq ho hx hy ht hinfo hz hs0 hb0 hb (fun v1 w1 h2=>hK _ _ (h v1 w1 h2))
end
end Go.Proofs.YtncddikfafgklaaGreatDoor.Z

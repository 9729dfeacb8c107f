/- Loops that mark what was handed over or given back, and ask whether the marks stand, told once. Plain lemmas over lists; no program in sight. -/
import Derived.Test.YtncddikfafgklaaGreatDoorZPure
namespace Go.Proofs.YtncddikfafgklaaGreatDoor.ZP
open Go.RowKit
theorem mark_loop {α:Type} (c:Prop) (L:Nat→List α→Int→Int→List α→Option (Int×List α)) (H:Nat→Int→Int→List α→Option Int) (x:List α) (p:α→Prop) (K W:Nat) (M:Int) (hx:x.length≤1048576)
    (hL:∀k (l:List α) (m:Int) (i:Nat) (e:α),K≤k→i<x.length→l.length=x.length→l[i]?=some e→p e→0<m→m≤M→∃e' m',L (k+1) l m (i:Int) x=L k (l.set i e') m' ((i+1:Nat):Int) x∧m≤m'∧m'≤m+W∧
      (c→∀k' (l2:List α),K≤k'→l2.length=x.length→l2[i]?=some e'→H (k'+1) m (i:Int) l2=H k' m' ((i+1:Nat):Int) l2))
    (hE:∀k (l:List α) (m:Int),L (k+1) l m (x.length:Int) x=some (m,l)) (hH:c→∀k (l2:List α) (m:Int),l2.length=x.length→H (k+1) m (x.length:Int) l2=some m):
    ∀ (n k : Nat) (l : List α) (m : Int) (i : Nat), x.length - i = n → i ≤ x.length → l.length = x.length → (∀ j e, i ≤ j → l[j]? = some e → p e) → 0 < m → m + W * (x.length - i : Nat) ≤ M → K + (x.length - i) < k →
      ∃m2 l2,L k l m (i:Int) x=some (m2,l2)∧m≤m2∧m2≤m+W * (x.length - i:Nat)∧l2.length=x.length∧(∀j,j<i→l2[j]?=l[j]?)∧(c→∀k',K+(x.length - i)<k'→H k' m (i:Int) l2=some m2)
  | 0,k,l,m,i,hn,hi,hl,hp,hm,hM,hk=>by
    obtain rfl:i=x.length:=by omega
    obtain⟨k,rfl⟩:∃k',k=k'+1:=⟨k - 1,by omega⟩
    refine⟨m,l,hE k l m,Int.le_refl _,by simp,hl,fun _ _=>rfl,fun hc k' hk'=>?_⟩
    obtain⟨k',rfl⟩:∃q,k'=q+1:=⟨k' - 1,by omega⟩
    exact hH hc k' l m hl
  | n+1,k,l,m,i,hn,hi,hl,hp,hm,hM,hk=>by
    have hil:i<x.length:=by omega
    obtain⟨k,rfl⟩:∃k',k=k'+1:=⟨k - 1,by omega⟩
    have hle:l[i]?=some l[i]:=List.getElem?_eq_getElem (by omega)
    have e1:(W:Int) * ((x.length - i:Nat):Int)=W * ((x.length - (i+1):Nat):Int)+W:=by
      have:x.length - i=(x.length - (i+1))+1:=by omega
      rw [this,Int.natCast_add,Int.mul_add]
      simp
    have e0:(0:Int)≤W * ((x.length - (i+1):Nat):Int):=Int.mul_nonneg (by omega) (by omega)
    obtain⟨e',m',h1,h2,h3,h4⟩:=hL k l m i l[i] (by omega) hil hl hle (hp i _ (Nat.le_refl _) hle) hm (by omega)
    obtain⟨m2,l2,g1,g2,g3,g4,g5,g6⟩:=mark_loop c L H x p K W M hx hL hE hH n k (l.set i e') m' (i+1) (by omega) (by omega) (by rw [List.length_set];exact hl) (fun j e hj he=>by
      rw [List.getElem?_set_ne (by omega)] at he
      exact hp j e (by omega) he) (by omega) (by omega) (by omega)
    refine⟨m2,l2,by rw [h1,g1],by omega,by omega,g4,fun j hj=>?_,fun hc k' hk'=>?_⟩
    · rw [g5 j (by omega),List.getElem?_set_ne (by omega)]
    · obtain⟨k',rfl⟩:∃q,k'=q+1:=⟨k' - 1,by omega⟩
      have h5:l2[i]?=some e':=by rw [g5 i (by omega),List.getElem?_set_self (by omega)]
      rw [h4 hc k' l2 (by omega) g4 h5]
      exact g6 hc k' (by omega)
theorem sz_loop_w {α:Type} (L:Nat→Int→Int→List α→Option Int) (rd:List α→Int→α) (g:Nat→α→Int→Option Int) (p:α→Prop) (w:α→Nat) (x:List α) (K:Nat) (hx:x.length≤1048576)
    (hrd:∀(i:Nat) (h:i<x.length),rd x (i:Int)=x[i])
    (hL:∀k b i,L (k+1) b i x=if i<(x.length:Int)then(if 0≤i then(if i<(x.length:Int)then(g k (rd x i) b).bind (fun t=>if t<0 then some (-1)else L k t (wrap64 (i+1)) x)else none)else none)else some b)
    (hg:∀k e b,K≤k→e∈x→0≤b→b≤1048576→∃n,g k e b=some n∧n≤b∧(0≤n→p e∧n+(w e:Int)=b)):
    ∀k (b:Int) (i:Nat),0≤b→b≤1048576→i≤x.length→K+(x.length - i)<k→∃n,L k b (i:Int) x=some n∧n≤b∧(0≤n→(∀j (h:j<x.length),i≤j→p x[j])∧n+(((x.drop i).map w).sum:Int)=b)
  |0,_,_,_,_,_,h=>absurd h (Nat.not_lt_zero _)
  | k + 1, b, i, hb0, hb1, h1, h => by
    rw [hL]
    by_cases c1:(i:Int)<(x.length:Int)
    · have hi:i<x.length:=by omega
      have e1:wrap64 ((i:Int)+1)=((i+1:Nat):Int):=by rw [w64 (by omega) (by omega)];rfl
      obtain⟨n,q1,q2,q3⟩:=hg k x[i] b (by omega) (List.getElem_mem hi) hb0 hb1
      rw [if_pos c1,if_pos (by omega),if_pos c1,hrd i hi,q1,Option.bind_some,e1]
      by_cases c2:n<0
      · rw [if_pos c2]
        exact⟨-1,rfl,by omega,fun h=>by omega⟩
      · rw [if_neg c2]
        obtain⟨m,r1,r2,r3⟩:=sz_loop_w L rd g p w x K hx hrd hL hg k n (i+1) (by omega) (by omega) (by omega) (by omega)
        refine⟨m,r1,by omega,fun hm=>⟨fun j hj hij=>?_,?_⟩⟩
        · by_cases e:j=i
          · subst e;exact(q3 (by omega)).1
          · exact(r3 hm).1 j hj (by omega)
        · have h2:=(r3 hm).2
          have h3:=(q3 (by omega)).2
          rw [List.drop_eq_getElem_cons hi,List.map_cons,List.sum_cons]
          omega
    · rw [if_neg c1]
      have hd:x.drop i=[]:=List.drop_of_length_le (by omega)
      exact⟨b,rfl,Int.le_refl _,fun _=>⟨fun j hj hij=>by omega,by rw [hd];simp⟩⟩
end Go.Proofs.YtncddikfafgklaaGreatDoor.ZP

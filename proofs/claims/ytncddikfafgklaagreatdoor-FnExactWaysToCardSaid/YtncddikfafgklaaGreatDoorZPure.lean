/- Loops of the laws' own helpers, told once: what costs (sz..), what copies (to..), what compares (eq..). Plain lemmas over lists; no program in sight. -/
import Derived.Test.YtncddikfafgklaaGreatDoorW
namespace Go.Proofs.YtncddikfafgklaaGreatDoor.ZP
open Go.RowKit
theorem w64 {n:Int}(h0: -4611686018427387904≤n)(h1:n≤4611686018427387904):wrap64 n=n:=by unfold wrap64;omega
theorem to_loop {α β:Type} (L:Nat→List β→Int→List α→Option (List β)) (rd:List α→Int→α) (g:Nat→α→Option β) (cv:α→β) (x:List α) (K:Nat) (hx:x.length≤1048576)
    (hrd:∀(i:Nat) (h:i<x.length),rd x (i:Int)=x[i])
    (hL:∀k y i,L (k+1) y i x=if i<(x.length:Int)then(if 0≤i then(if i<(x.length:Int)then(g k (rd x i)).bind (fun t=>L k (y.set i.toNat t) (wrap64 (i+1)) x)else none)else none)else some y)
    (hg:∀k e,K≤k→e∈x→g k e=some (cv e)):
    ∀k (y:List β) (i:Nat),i≤x.length→y.length=x.length→y.take i=(x.map cv).take i→K+(x.length - i)<k→L k y (i:Int) x=some (x.map cv)
  |0,_,_,_,_,_,h=>absurd h (Nat.not_lt_zero _)
  | k+1,y,i,h1,hy,e,h=>by
    rw [hL]
    by_cases c1:(i:Int)<(x.length:Int)
    · have hi:i<x.length:=by omega
      have e1:wrap64 ((i:Int)+1)=((i+1:Nat):Int):=by rw [w64 (by omega) (by omega)];rfl
      rw [if_pos c1,if_pos (by omega),if_pos c1,hrd i hi,hg k _ (by omega) (List.getElem_mem hi),Option.bind_some,e1]
      refine to_loop L rd g cv x K hx hrd hL hg k _ (i+1) (by omega) (by rw [List.length_set];exact hy) ?_ (by omega)
      rw [Int.toNat_natCast,List.take_add_one,List.take_add_one,List.take_set_of_le (Nat.le_refl _),e]
      simp [hi,hy]
    · rw [if_neg c1]
      have h2:i=x.length:=by omega
      subst h2
      rw [←List.length_map (f:=cv),List.take_length,List.length_map,←hy,List.take_length] at e
      rw [e]
theorem eq_loop {α:Type} (L:Nat→Int→List α→List α→Option Bool) (rd:List α→Int→α) (g:Nat→α→Option Bool) (x:List α) (K:Nat) (hx:x.length≤1048576)
    (hrd:∀(i:Nat) (h:i<x.length),rd x (i:Int)=x[i])
    (hL:∀k i,L (k+1) i x x=if i<(x.length:Int)then(if 0≤i then(if i<(x.length:Int)then(if i<(x.length:Int)then(g k (rd x i)).bind (fun t=>if t=true then L k (wrap64 (i+1)) x x else some false)else none)else none)else none)else some true)
    (hg:∀k e,K≤k→e∈x→g k e=some true):
    ∀k (i:Nat),i≤x.length→K+(x.length - i)<k→L k (i:Int) x x=some true
  |0,_,_,h=>absurd h (Nat.not_lt_zero _)
  | k+1,i,h1,h=>by
    rw [hL]
    by_cases c1:(i:Int)<(x.length:Int)
    · have hi:i<x.length:=by omega
      have e1:wrap64 ((i:Int)+1)=((i+1:Nat):Int):=by rw [w64 (by omega) (by omega)];rfl
      rw [if_pos c1,if_pos (by omega),if_pos c1,if_pos c1,hrd i hi,hg k _ (by omega) (List.getElem_mem hi),Option.bind_some,if_pos rfl,e1]
      exact eq_loop L rd g x K hx hrd hL hg k (i+1) (by omega) (by omega)
    · rw [if_neg c1]
end Go.Proofs.YtncddikfafgklaaGreatDoor.ZP

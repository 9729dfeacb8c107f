/- A store's copies, and what is put into it: both ways agree. Plain lemmas, no condition. -/
import Derived.Test.YtncddikfafgklaaGreatDoorStoreFnExactWaysTo
namespace Go.Proofs.YtncddikfafgklaaGreatDoor.CopyFnExactWaysTo
open Go.RowKit YtncddikfafgklaaGreatDoorW.PrintWords YtncddikfafgklaaGreatDoorW.PrintLast ZOpen Z F
open ZP FamFnExactWaysTo ItemFnExactWaysTo
open StoreFnExactWaysTo (store_ok)
set_option linter.unusedVariables false
set_option linter.unusedSimpArgs false
theorem copy_loop {α β:Type} (xs:List α) (L:Nat→List α→Int→Option β) (res:Option β)
    (h1:∀k i l (hi:i<xs.length),l.length=i→L (k+1) l (i:Int)=L k (l++ [xs[i]]) ((i+1:Nat):Int)) (h2:∀k,L (k+1) xs (xs.length:Int)=res):
    ∀(m i k:Nat),xs.length - i=m→i≤xs.length→m<k→L k (xs.take i) (i:Int)=res:=by
  intro m
  induction m with
  | zero=>
    intro i k hm hi hk
    obtain⟨k,rfl⟩:∃q,k=q+1:=⟨k - 1,by omega⟩
    obtain rfl:i=xs.length:=by omega
    rw [List.take_length]
    exact h2 k
  | succ m ih=>
    intro i k hm hi hk
    obtain⟨k,rfl⟩:∃q,k=q+1:=⟨k - 1,by omega⟩
    have hil:i<xs.length:=by omega
    rw [h1 k i _ hil (by rw [List.length_take];omega),←List.take_succ_eq_append_getElem hil]
    exact ih (i+1) k (by omega) (by omega) (by omega)
theorem w1 (i:Nat)(hi:i≤1048576):wrap64 ((i:Int)+1)=((i+1:Nat):Int):=by rw [w64 (by omega) (by omega)];rfl
theorem cert_f (x:S41)(h:sm41 x):spec_l09Copy.f x=some x:=by
  have h1:=h.2.2.2.2.2.2.2.2.2.1.1
  have h2:=h.2.2.2.2.2.2.2.2.2.2.1.1
  have h3:=h.2.2.2.2.2.2.2.2.2.2.2.1.1
  unfold spec_l09Copy.f
  simp only [lets]
  rw [if_pos (by omega),if_pos (by omega),if_pos (by omega)]
  rfl
theorem cert_g (x:S41)(h:sm41 x):impl_copyCert.f x=some x:=cert_f x h
theorem certs_f (l:List S41)(h:l.length≤1048576∧∀e∈l,sm41 e)(k:Nat)(hk:1048577≤k):spec_l13Certs.f k l=some l:=by
  have hl:=h.1
  unfold spec_l13Certs.f
  refine copy_loop l (fun k r i=>spec_l13Certs.l0 k r i l) (some l) (fun k i r hi hr=>?_) (fun k=>?_) l.length 0 k rfl (by omega) (by omega)
  · have hc:(r.length+1≤764877654105)=True:=eq_true (by omega)
    show spec_l13Certs.l0 (k+1) r (i:Int) l=_
    rw [spec_l13Certs.l0,if_pos (by omega),if_pos (by omega),if_pos (by omega),rd41 l i hi,cert_f _ (h.2 _ (List.getElem_mem hi)),w1 i (by omega)]
    simp only [Option.bind_some,hc,if_true,lets]
  · show spec_l13Certs.l0 (k+1) l _ l=_
    rw [spec_l13Certs.l0,if_neg (by omega)]
theorem certs_g (l:List S41)(h:l.length≤1048576∧∀e∈l,sm41 e)(k:Nat)(hk:1048577≤k):impl_copyCerts.f k l=some l:=by
  have hl:=h.1
  unfold impl_copyCerts.f
  refine copy_loop l (fun k r i=>impl_copyCerts.l0 k r i l) (some l) (fun k i r hi hr=>?_) (fun k=>?_) l.length 0 k rfl (by omega) (by omega)
  · have hc:(r.length+1≤764877654105)=True:=eq_true (by omega)
    show impl_copyCerts.l0 (k+1) r (i:Int) l=_
    rw [impl_copyCerts.l0,if_pos (by omega),if_pos (by omega),if_pos (by omega),rd41 l i hi,cert_g _ (h.2 _ (List.getElem_mem hi)),w1 i (by omega)]
    simp only [Option.bind_some,hc,if_true,lets]
  · show impl_copyCerts.l0 (k+1) l _ l=_
    rw [impl_copyCerts.l0,if_neg (by omega)]
end Go.Proofs.YtncddikfafgklaaGreatDoor.CopyFnExactWaysTo

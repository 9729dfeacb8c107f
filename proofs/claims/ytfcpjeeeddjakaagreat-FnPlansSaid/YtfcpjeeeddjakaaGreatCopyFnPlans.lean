/- A store's copies, and what is put into it: both ways agree. Plain lemmas, no condition. -/
import Derived.Test.YtfcpjeeeddjakaaGreatItemFnPlans
namespace Go.Proofs.YtfcpjeeeddjakaaGreat.CopyFnPlans
open Go.RowKit YtfcpjeeeddjakaaGreatW.PrintWords YtfcpjeeeddjakaaGreatW.PrintLast ZOpen Z F
open ZP FamFnPlans ItemFnPlans
set_option linter.unusedVariables false
set_option linter.unusedSimpArgs false
theorem copy_loop {α β:Type} (xs:List α) (L:Nat→List α→Int→Option β) (res:Option β)
    (h1:∀k i l (hi:i<xs.length),l.length=i→L (k+1) l (i:Int)=L k (l++ [xs[i]]) ((i+1:Nat):Int)) (h2:∀k,L (k+1) xs (xs.length:Int)=res):
    ∀(m i k:Nat),xs.length - i=m→i≤xs.length→m<k→L k (xs.take i) (i:Int)=res:=by
  intro m
  induction m with
  | zero=>
    intro i k hm hi hk
    obtain⟨k,rfl⟩:∃q,k=q+1:=⟨k - 1,by omega⟩
    obtain rfl:i=xs.length:=by omega
    rw [List.take_length]
    exact h2 k
  | succ m ih=>
    intro i k hm hi hk
    obtain⟨k,rfl⟩:∃q,k=q+1:=⟨k - 1,by omega⟩
    have hil:i<xs.length:=by omega
    rw [h1 k i _ hil (by rw [List.length_take];omega),←List.take_succ_eq_append_getElem hil]
    exact ih (i+1) k (by omega) (by omega) (by omega)
theorem w1 (i:Nat)(hi:i≤1048576):wrap64 ((i:Int)+1)=((i+1:Nat):Int):=by rw [w64 (by omega) (by omega)];rfl
theorem cert_f (x:S125)(h:sm125 x):spec_l09Copy.f x=some x:=by
  have h1:=h.2.2.2.2.2.2.2.2.2.1.1
  have h2:=h.2.2.2.2.2.2.2.2.2.2.1.1
  have h3:=h.2.2.2.2.2.2.2.2.2.2.2.1.1
  unfold spec_l09Copy.f
  simp only [lets]
  rw [if_pos (by omega),if_pos (by omega),if_pos (by omega)]
  rfl
theorem cert_g (x:S125)(h:sm125 x):impl_copyCert.f x=some x:=cert_f x h
theorem crl_f (x:S103)(h:sm103 x):spec_l10Copy.f x=some x:=by
  have h1:=h.2.2.2.2.2.1.1
  unfold spec_l10Copy.f
  simp only [lets]
  rw [if_pos (by omega)]
  rfl
theorem crl_g (x:S103)(h:sm103 x):impl_copyCrl.f x=some x:=crl_f x h
theorem certs_f (l:List S125)(h:l.length≤1048576∧∀e∈l,sm125 e)(k:Nat)(hk:1048577≤k):spec_l13Certs.f k l=some l:=by
  have hl:=h.1
  unfold spec_l13Certs.f
  refine copy_loop l (fun k r i=>spec_l13Certs.l0 k r i l) (some l) (fun k i r hi hr=>?_) (fun k=>?_) l.length 0 k rfl (by omega) (by omega)
  · have hc:(r.length+1≤764877654105)=True:=eq_true (by omega)
    show spec_l13Certs.l0 (k+1) r (i:Int) l=_
    rw [spec_l13Certs.l0,if_pos (by omega),if_pos (by omega),if_pos (by omega),rd125 l i hi,cert_f _ (h.2 _ (List.getElem_mem hi)),w1 i (by omega)]
    simp only [Option.bind_some,hc,if_true,lets]
  · show spec_l13Certs.l0 (k+1) l _ l=_
    rw [spec_l13Certs.l0,if_neg (by omega)]
theorem certs_g (l:List S125)(h:l.length≤1048576∧∀e∈l,sm125 e)(k:Nat)(hk:1048577≤k):impl_copyCerts.f k l=some l:=by
  have hl:=h.1
  unfold impl_copyCerts.f
  refine copy_loop l (fun k r i=>impl_copyCerts.l0 k r i l) (some l) (fun k i r hi hr=>?_) (fun k=>?_) l.length 0 k rfl (by omega) (by omega)
  · have hc:(r.length+1≤764877654105)=True:=eq_true (by omega)
    show impl_copyCerts.l0 (k+1) r (i:Int) l=_
    rw [impl_copyCerts.l0,if_pos (by omega),if_pos (by omega),if_pos (by omega),rd125 l i hi,cert_g _ (h.2 _ (List.getElem_mem hi)),w1 i (by omega)]
    simp only [Option.bind_some,hc,if_true,lets]
  · show impl_copyCerts.l0 (k+1) l _ l=_
    rw [impl_copyCerts.l0,if_neg (by omega)]
theorem crls_g (l:List S103)(h:l.length≤1048576∧∀e∈l,sm103 e)(k:Nat)(hk:1048577≤k):impl_copyCrls.f k l=some l:=by
  have hl:=h.1
  unfold impl_copyCrls.f
  refine copy_loop l (fun k r i=>impl_copyCrls.l0 k r i l) (some l) (fun k i r hi hr=>?_) (fun k=>?_) l.length 0 k rfl (by omega) (by omega)
  · have hc:(r.length+1≤1599289640401)=True:=eq_true (by omega)
    show impl_copyCrls.l0 (k+1) r (i:Int) l=_
    rw [impl_copyCrls.l0,if_pos (by omega),if_pos (by omega),if_pos (by omega),rd103 l i hi,crl_g _ (h.2 _ (List.getElem_mem hi)),w1 i (by omega)]
    simp only [Option.bind_some,hc,if_true,lets]
  · show impl_copyCrls.l0 (k+1) l _ l=_
    rw [impl_copyCrls.l0,if_neg (by omega)]
theorem store_f (a:S48)(h:sm48 a)(k:Nat)(hk:1048577≤k):spec_l13Copy.f k a=some a:=by
  obtain⟨hc,hr,hn,_⟩:=h
  have hl:=hr.1
  have hl2:=hn.1
  unfold spec_l13Copy.f
  rw [certs_f _ hc k hk,Option.bind_some,if_pos (by omega)]
  simp only [lets,List.nil_append]
  refine copy_loop a.f1 (fun k r i=>spec_l13Copy.l0 k r i a a.f0 a.f2) (some a) (fun k i r hi hr'=>?_) (fun k=>?_) a.f1.length 0 k rfl (by omega) (by omega)
  · have hc:(r.length+1≤1599289640401)=True:=eq_true (by omega)
    show spec_l13Copy.l0 (k+1) r (i:Int) a a.f0 a.f2=_
    rw [spec_l13Copy.l0,if_pos (by omega),if_pos (by omega),if_pos (by omega),rd103 _ i hi,crl_f _ (hr.2 _ (List.getElem_mem hi)),w1 i (by omega)]
    simp only [Option.bind_some,hc,if_true,lets]
  · show spec_l13Copy.l0 (k+1) a.f1 _ a a.f0 a.f2=_
    rw [spec_l13Copy.l0,if_neg (by omega)]
theorem store_g (a:S48)(h:sm48 a)(k:Nat)(hk:1048577≤k):impl_copyStore.f k a=some a:=by
  obtain⟨hc,hr,hn,_⟩:=h
  have hl2:=hn.1
  unfold impl_copyStore.f
  rw [certs_g _ hc k hk,Option.bind_some,crls_g _ hr k hk,Option.bind_some,if_pos (by omega)]
  rfl
theorem store_fE (a:S48)(h:sm48 a):Evt (fun k=>spec_l13Copy.f k a) a:=Evt.at_ 1048577 fun k hk=>store_f a h k hk
theorem store_gE (a:S48)(h:sm48 a):Evt (fun k=>impl_copyStore.f k a) a:=Evt.at_ 1048577 fun k hk=>store_g a h k hk
end Go.Proofs.YtfcpjeeeddjakaaGreat.CopyFnPlans

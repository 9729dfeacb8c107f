/- A value is the same as itself, by the laws' own comparisons. Plain lemmas, no condition. -/
import Derived.Test.YtfcpjeeeddjakaaGreatItemFnPlans
namespace Go.Proofs.YtfcpjeeeddjakaaGreat.SameFnPlans
open Go.RowKit YtfcpjeeeddjakaaGreatW.PrintWords YtfcpjeeeddjakaaGreatW.PrintLast ZOpen Z F
open ZP ItemFnPlans
set_option linter.unusedVariables false
set_option linter.unusedSimpArgs false
theorem same_loop {n:Nat}(L:Nat→Int→Option Bool)(hs:∀i:Nat,i<n→Evt (fun k=>L k ((i+1:Nat):Int)) true→Evt (fun k=>L (k+1) (i:Int)) true)(h0:Evt (fun k=>L (k+1) (n:Int)) true):∀m i:Nat,n - i=m→i≤n→Evt (fun k=>L k (i:Int)) true:=by
  intro m
  induction m with
  | zero=>
    intro i hm hi
    obtain rfl:i=n:=by omega
    exact Evt.succ h0
  | succ m ih=>
    intro i hm hi
    exact Evt.succ (hs i (by omega) (ih (i+1) (by omega) (by omega)))
theorem nx {i n:Nat}(hi:i<n)(hn:n≤4611686018427387904):wrap64 ((i:Int)+1)=((i+1:Nat):Int):=by rw [w64 (by omega) (by omega)];rfl
theorem ints (l:List Int)(hn:l.length≤4611686018427387904):Evt (fun k=>laws_sameInts.f k l l) true:=by
  refine(same_loop (n:=l.length) (fun k i=>laws_sameInts.l0 k i l l) (fun i hi h=>?_) ?_ _ 0 rfl (by omega)).eq (fun k=>by unfold laws_sameInts.f;rw [if_pos rfl];rfl)
  · refine h.eq (fun k=>?_)
    show laws_sameInts.l0 (k+1) _ l l=_
    rw [laws_sameInts.l0,if_pos (by omega),if_pos (by omega),if_pos (by omega),if_pos (by omega),if_pos rfl,nx hi hn]
  · refine Evt.of fun k=>?_
    show laws_sameInts.l0 (k+1) _ l l=_
    rw [laws_sameInts.l0,if_neg (by omega)]
theorem texts (l:List ByteArray)(hn:l.length≤4611686018427387904):Evt (fun k=>laws_sameTexts.f k l l) true:=by
  refine(same_loop (n:=l.length) (fun k i=>laws_sameTexts.l0 k i l l) (fun i hi h=>?_) ?_ _ 0 rfl (by omega)).eq (fun k=>by unfold laws_sameTexts.f;rw [if_pos rfl];rfl)
  · refine h.eq (fun k=>?_)
    show laws_sameTexts.l0 (k+1) _ l l=_
    rw [laws_sameTexts.l0,if_pos (by omega),if_pos (by omega),if_pos (by omega),if_pos (by omega),if_pos rfl,nx hi hn]
  · refine Evt.of fun k=>?_
    show laws_sameTexts.l0 (k+1) _ l l=_
    rw [laws_sameTexts.l0,if_neg (by omega)]
def SmC (c:S125):Prop:=c.f9.length≤4611686018427387904∧c.f10.length≤4611686018427387904∧c.f11.length≤4611686018427387904
theorem cert (c:S125)(h:SmC c):Evt (fun k=>laws_sameCert.f k c c) true:=by
  refine Evt.eq (Evt.bind (ints c.f9 h.1) (g:=fun k t14=>if t14=true then((laws_sameTexts.f k c.f10 c.f10).bind fun t17=>(if t17=true then((laws_sameTexts.f k c.f11 c.f11).bind fun t20=>(if t20=true then(some (c.f12.toList==c.f12.toList))else(some false)))else(some false)))else(some false)) ?_) (fun k=>by unfold laws_sameCert.f;simp only [if_true])
  refine Evt.eq (Evt.bind (texts c.f10 h.2.1) (g:=fun k t17=>(if t17=true then((laws_sameTexts.f k c.f11 c.f11).bind fun t20=>(if t20=true then(some (c.f12.toList==c.f12.toList))else(some false)))else(some false))) ?_) (fun k=>by rw [if_pos rfl])
  refine Evt.eq (Evt.bind (texts c.f11 h.2.2) (g:=fun k t20=>(if t20=true then(some (c.f12.toList==c.f12.toList))else(some false))) ?_) (fun k=>by rw [if_pos rfl])
  exact Evt.of fun k=>by rw [if_pos rfl,beq_self_eq_true]
theorem certs (l:List S125)(hn:l.length≤4611686018427387904)(h:∀c∈l,SmC c):Evt (fun k=>laws_sameCerts.f k l l) true:=by
  refine(same_loop (n:=l.length) (fun k i=>laws_sameCerts.l0 k i l l) (fun i hi hr=>?_) ?_ _ 0 rfl (by omega)).eq (fun k=>by unfold laws_sameCerts.f;rw [if_pos rfl];rfl)
  · have hc:SmC (rd_T125 l (i:Int)):=by
      unfold rd_T125
      rw [Int.toNat_natCast,List.getD_eq_getElem?_getD,List.getElem?_eq_getElem hi]
      exact h _ (List.getElem_mem hi)
    refine Evt.eq (Evt.bind (cert _ hc) (g:=fun k t=>(if t=true then(laws_sameCerts.l0 k ((i+1:Nat):Int) l l)else(some false))) (Evt.eq hr (fun k=>by rw [if_pos rfl]))) (fun k=>?_)
    show laws_sameCerts.l0 (k+1) _ l l=_
    rw [laws_sameCerts.l0,if_pos (by omega),if_pos (by omega),if_pos (by omega),if_pos (by omega),nx hi hn]
  · refine Evt.of fun k=>?_
    show laws_sameCerts.l0 (k+1) _ l l=_
    rw [laws_sameCerts.l0,if_neg (by omega)]
theorem crl (c:S103)(hn:c.f5.length≤4611686018427387904):Evt (fun k=>laws_sameCrl.f k c c) true:=by
  refine(same_loop (n:=c.f5.length) (fun k i=>laws_sameCrl.l0 k i c c) (fun i hi h=>?_) ?_ _ 0 rfl (by omega)).eq (fun k=>by unfold laws_sameCrl.f;simp only [if_true];rfl)
  · refine h.eq (fun k=>?_)
    show laws_sameCrl.l0 (k+1) _ c c=_
    rw [laws_sameCrl.l0,if_pos (by omega),if_pos (by omega),if_pos (by omega),if_pos (by omega),if_pos (by simp [eqS133]),nx hi hn]
  · refine Evt.of fun k=>?_
    show laws_sameCrl.l0 (k+1) _ c c=_
    rw [laws_sameCrl.l0,if_neg (by omega)]
def SmS (s:S48):Prop:=(s.f0.length≤4611686018427387904∧∀c∈s.f0,SmC c)∧(s.f1.length≤4611686018427387904∧∀c∈s.f1,c.f5.length≤4611686018427387904)∧s.f2.length≤4611686018427387904
theorem store (s:S48)(h:SmS s):Evt (fun k=>laws_sameStore.f k s s) true:=by
  have l1:Evt (fun k=>laws_sameStore.l1 k 0 s s) true:=by
    refine same_loop (n:=s.f2.length) (fun k i=>laws_sameStore.l1 k i s s) (fun i hi hr=>?_) ?_ _ 0 rfl (by omega)
    · refine hr.eq (fun k=>?_)
      show laws_sameStore.l1 (k+1) _ s s=_
      rw [laws_sameStore.l1,if_pos (by omega),if_pos (by omega),if_pos (by omega),if_pos (by omega),if_pos (by simp [eqS105]),nx hi h.2.2]
    · refine Evt.of fun k=>?_
      show laws_sameStore.l1 (k+1) _ s s=_
      rw [laws_sameStore.l1,if_neg (by omega)]
  have l0:Evt (fun k=>laws_sameStore.l0 k 0 s s) true:=by
    refine same_loop (n:=s.f1.length) (fun k i=>laws_sameStore.l0 k i s s) (fun i hi hr=>?_) ?_ _ 0 rfl (by omega)
    · have hc:(rd_T103 s.f1 (i:Int)).f5.length≤4611686018427387904:=by
        unfold rd_T103
        rw [Int.toNat_natCast,List.getD_eq_getElem?_getD,List.getElem?_eq_getElem hi]
        exact h.2.1.2 _ (List.getElem_mem hi)
      refine Evt.eq (Evt.bind (crl _ hc) (g:=fun k t=>(if t=true then(laws_sameStore.l0 k ((i+1:Nat):Int) s s)else(some false))) (Evt.eq hr (fun k=>by rw [if_pos rfl]))) (fun k=>?_)
      show laws_sameStore.l0 (k+1) _ s s=_
      rw [laws_sameStore.l0,if_pos (by omega),if_pos (by omega),if_pos (by omega),if_pos (by omega),nx hi h.2.1.1]
    · refine l1.eq (fun k=>?_)
      show laws_sameStore.l0 (k+1) _ s s=_
      rw [laws_sameStore.l0,if_neg (by omega)]
  refine Evt.eq (Evt.bind (certs s.f0 h.1.1 h.1.2) (g:=fun k t5=>(if t5=true then(if(s.f1.length:Int)=(s.f1.length:Int)then(if(s.f2.length:Int)=(s.f2.length:Int)then(laws_sameStore.l0 k 0 s s)else(some false))else(some false))else(some false))) ?_) (fun k=>by unfold laws_sameStore.f;rfl)
  exact l0.eq (fun k=>by rw [if_pos rfl,if_pos rfl,if_pos rfl])
end Go.Proofs.YtfcpjeeeddjakaaGreat.SameFnPlans

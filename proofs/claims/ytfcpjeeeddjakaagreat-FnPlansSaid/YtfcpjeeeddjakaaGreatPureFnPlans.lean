/- FnPlans, as numbers and lists: what is drawn, what is meant, and that both answer the same. -/
import Derived.Test.YtfcpjeeeddjakaaGreatAskDrawFnPlans
import Derived.Test.YtfcpjeeeddjakaaGreatPlanDrawFnPlans
import Derived.Test.YtfcpjeeeddjakaaGreatStoreDrawFnPlans
import Derived.Test.YtfcpjeeeddjakaaGreatPlansFnPlans
import Derived.Test.YtfcpjeeeddjakaaGreatSameFnPlans
namespace Go.Proofs.YtfcpjeeeddjakaaGreat.PureFnPlans
open Go.RowKit YtfcpjeeeddjakaaGreatW.PrintWords YtfcpjeeeddjakaaGreatW.PrintLast ZOpen Z F
open SaidFnPlans ZP FamFnPlans ItemFnPlans CertSpecFnPlans DrawFnPlans CopyFnPlans AskDrawFnPlans PlanDrawFnPlans StoreDrawFnPlans
set_option linter.unusedVariables false
set_option linter.unusedSimpArgs false
set_option maxHeartbeats 1000000
theorem plan_at (l:List S39)(id:Int)(hl:l.length≤1000):∀m i:Nat,l.length - i<m→∃v,Evt (fun k=>impl_Plan_0.l0 k (i:Int) l id) v∧Evt (fun k=>spec_PlanAt.l0 k (i:Int) l id) v
  |0,i,h=>absurd h (by omega)
  | m + 1, i, h => by
    by_cases c:(i:Int)<(l.length:Int)
    · by_cases d:(rd_T39 l (i:Int)).f0=id
      · refine⟨(i:Int),Evt.succ (.of fun k=>?_),Evt.succ (.of fun k=>?_)⟩
        · rw [impl_Plan_0.l0,if_pos c,if_pos (by omega),if_pos c,impl_PlanAt_1_0.f,Option.bind_some,if_pos (by simpa using d)]
        · rw [spec_PlanAt.l0,if_pos c,if_pos (by omega),if_pos c,if_pos d]
      · obtain⟨v,v1,v2⟩:=plan_at l id hl m (i+1) (by omega)
        refine⟨v,Evt.succ (v1.eq fun k=>?_),Evt.succ (v2.eq fun k=>?_)⟩
        · rw [impl_Plan_0.l0,if_pos c,if_pos (by omega),if_pos c,impl_PlanAt_1_0.f,Option.bind_some,if_neg (by simpa using d),ws (by omega)]
        · rw [spec_PlanAt.l0,if_pos c,if_pos (by omega),if_pos c,if_neg d,ws (by omega)]
    · exact⟨-1,Evt.succ (.of fun k=>by rw [impl_Plan_0.l0,if_neg c]),Evt.succ (.of fun k=>by rw [spec_PlanAt.l0,if_neg c])⟩
theorem trust (s t:S48)(p:S39)(hp:p.f1.length≤1000)(hs:s.f2.length≤1048576):∀(m i:Nat) (l:List S105),p.f1.length - i<m→l.length≤i→i≤p.f1.length→∃r:List S105,r.length≤1000∧Evt (fun k=>impl_Trusting.l0 k l (i:Int) s p t) (⟨t.f0,t.f1,r⟩:S48)∧Evt (fun k=>spec_Trusting.l0 k l (i:Int) s p t) (⟨t.f0,t.f1,r⟩:S48)
  |0,i,l,h,hl,hi=>absurd h (by omega)
  | m + 1, i, l, h, hl, hi => by
    by_cases c:(i:Int)<(p.f1.length:Int)
    · have w:wrap64 ((s.f2.length:Int) - 1)=(s.f2.length:Int) - 1:=w64 (by omega) (by omega)
      by_cases d:(0:Int)≤rd p.f1 (i:Int)∧rd p.f1 (i:Int)≤(s.f2.length:Int) - 1
      · obtain⟨r,r0,r1,r2⟩:=trust s t p hp hs m (i+1) (l++ [rd_T105 s.f2 (rd p.f1 (i:Int))]) (by omega) (by rw [List.length_append];simp only [List.length_cons,List.length_nil];omega) (by omega)
        have hc:(l.length+1≤4398046511104)=True:=eq_true (by omega)
        have d0:=d.1
        have d1:rd p.f1 (i:Int)<(s.f2.length:Int):=by omega
        refine⟨r,r0,Evt.succ (r1.eq fun k=>?_),Evt.succ (r2.eq fun k=>?_)⟩
        · rw [impl_Trusting.l0,if_pos c,if_pos (by omega),if_pos c,w,in_g,decide_eq_true d,Option.bind_some,if_pos rfl,if_pos d0,if_pos d1,ws (by omega)]
          simp only [hc,if_true,lets]
        · rw [spec_Trusting.l0,if_pos c,if_pos (by omega),if_pos c,w,in_f,decide_eq_true d,Option.bind_some,if_pos rfl,if_pos d0,if_pos d1,ws (by omega)]
          simp only [hc,if_true,lets]
      · obtain⟨r,r0,r1,r2⟩:=trust s t p hp hs m (i+1) l (by omega) (by omega) (by omega)
        refine⟨r,r0,Evt.succ (r1.eq fun k=>?_),Evt.succ (r2.eq fun k=>?_)⟩
        · rw [impl_Trusting.l0,if_pos c,if_pos (by omega),if_pos c,w,in_g,decide_eq_false d,Option.bind_some,if_neg (by decide),ws (by omega)]
        · rw [spec_Trusting.l0,if_pos c,if_pos (by omega),if_pos c,w,in_f,decide_eq_false d,Option.bind_some,if_neg (by decide),ws (by omega)]
    · exact⟨l,by omega,Evt.succ (.of fun k=>by rw [impl_Trusting.l0,if_neg c]),Evt.succ (.of fun k=>by rw [spec_Trusting.l0,if_neg c])⟩
theorem sm_p {p:S39}(h:p.f1.length≤2∧p.f2.f1.length≤2):sm39 p:=⟨trivial,⟨Nat.le_trans h.1 (by decide),fun _ _=>trivial⟩,⟨trivial,⟨Nat.le_trans h.2 (by decide),fun _ _=>trivial⟩,trivial,trivial,trivial,trivial⟩,trivial⟩
theorem d_plans (b:List Int)(hb:b.length≤2000000):Gets (fun k=>spec_DrawPlansOk.f k b) (fun r=>Two r.1):=by
  unfold spec_DrawPlansOk.f
  exact Gets.bind (new_e b hb) fun c hc=>Gets.bind (plans_e b _ _ hc) fun l hl=>Gets.bind (any13 b _ _ hl.1) fun s hs=>Gets.now hl.2
theorem d_trust (b:List Int)(hb:b.length≤2000000):Gets (fun k=>spec_DrawTrusting.f k b) (fun r=>sm48 r.1∧r.2.f1.length≤2):=by
  unfold spec_DrawTrusting.f
  refine Gets.bind (new_e b hb) fun c hc=>Gets.bind (plans_e b _ _ hc) fun l hl=>Gets.bind (any13 b _ _ hl.1) fun s hs=>bBelow hs.1 fun x _ x1 x2=>Gets.must x1 (Gets.must (x2 (by have:=hl.2.1;omega)) (Gets.now ⟨hs.2,(two_rd hl.2 x.1).1⟩))
theorem d_merged (b:List Int)(hb:b.length≤2000000):Gets (fun k=>spec_DrawMerged.f k b) (fun r=>r.1.f2.f1.length≤2):=by
  unfold spec_DrawMerged.f
  exact Gets.bind (new_e b hb) fun c hc=>bBelow hc fun x x0 _ _=>Gets.bind (plans_e b _ _ x0) fun l hl=>Gets.must (by have:=hl.2.1;omega) (Gets.bind (any_e b _ _ hl.1) fun a ha=>Gets.now (two_rd hl.2 1).2)
theorem trusting (s:S48)(p:S39)(hs:sm48 s)(hp:p.f1.length≤2):∃r,Evt (fun k=>impl_Trusting.f k s p) r∧Evt (fun k=>spec_Trusting.f k s p) r∧Evt (fun k=>laws_sameStore.f k r r) true:=by
  obtain⟨r,r0,r1,r2⟩:=trust s s p (by omega) hs.2.2.1.1 _ 0 [] (Nat.lt_succ_self _) (Nat.le_refl _) (Nat.zero_le _)
  refine⟨(⟨s.f0,s.f1,r⟩:S48),?_,?_,SameFnPlans.store _ ⟨⟨Nat.le_trans hs.1.1 (by decide),fun c hc=>?_⟩,⟨Nat.le_trans hs.2.1.1 (by decide),fun c hc=>Nat.le_trans (hs.2.1.2 c hc).2.2.2.2.2.1.1 (by decide)⟩,Nat.le_trans r0 (by decide)⟩⟩
  · unfold impl_Trusting.f
    exact Evt.bind (store_gE s hs) r1
  · unfold spec_Trusting.f
    exact Evt.bind (store_fE s hs) r2
  · have h:=hs.1.2 c hc
    exact⟨Nat.le_trans h.2.2.2.2.2.2.2.2.2.1.1 (by decide),Nat.le_trans h.2.2.2.2.2.2.2.2.2.2.1.1 (by decide),Nat.le_trans h.2.2.2.2.2.2.2.2.2.2.2.1.1 (by decide)⟩
theorem pure:Pure:=by
  intro code _
  have key:Evt (fun k=>laws_FnPlans.f k code) true:=by
    by_cases hb:1048576<(code.length:Int)
    · exact .of fun k=>by rw [laws_FnPlans.f,laws_big.f,Option.bind_some,if_pos (decide_eq_true hb)]
    · obtain⟨m,m1,m2⟩:=d_merged code (by omega)
      obtain⟨l,l1,l2⟩:=d_plans code (by omega)
      obtain⟨a,a1,a2⟩:=draw_at code (by omega)
      obtain⟨t,t1,t2⟩:=d_trust code (by omega)
      have l3:=l2.2.1
      have a3:=a2.2.1
      obtain⟨v,v1,v2⟩:=PlansFnPlans.plans l.1 l.2 ⟨by omega,fun e he=>sm_p (l2.2.2 e he)⟩ _ 0 rfl (Nat.zero_le _)
      obtain⟨u,u1,u2⟩:=plan_at a.1 a.2 (by omega) _ 0 (Nat.lt_succ_self _)
      obtain⟨r,r1,r2,r3⟩:=trusting t.1 t.2 t2.1 t2.2
      have hi:=SameFnPlans.ints m.1.f2.f1 (by omega)
      have rest:Evt (fun k=>(impl_PlansOk.f k l.1 l.2).bind fun x=>((spec_PlansOk.f k l.1 l.2).bind fun y=>(if x=y then((impl_PlanAt.f k a.1 a.2).bind fun z=>((spec_PlanAt.f k a.1 a.2).bind fun w=>(if z=w then((impl_Trusting.f k t.1 t.2).bind fun p=>((spec_Trusting.f k t.1 t.2).bind fun q=>((laws_sameStore.f k p q).bind fun o=>(some o))))else(some false))))else(some false)))) true:=by
        refine Evt.bind (a:=v) (v2.eq fun k=>rfl) (Evt.bind (a:=v) (v1.eq fun k=>rfl) ?_)
        simp only [if_true]
        refine Evt.bind (a:=u) (Evt.eq (Evt.bind u1 Evt.now) fun k=>by unfold impl_PlanAt.f impl_Plan_0.f;rfl) (Evt.bind (a:=u) (u2.eq fun k=>rfl) ?_)
        simp only [if_true]
        exact Evt.bind r1 (Evt.bind r2 (Evt.bind r3 Evt.now))
      have hlb:laws_big.f code=some false:=by rw [laws_big.f,decide_eq_false hb]
      have hc:(0+m.1.f2.f1.length≤17592186044416)=True:=eq_true (by omega)
      unfold laws_FnPlans.f
      simp only [hlb,Option.bind_some,Bool.false_eq_true,if_false]
      refine Evt.bind m1 ?_
      unfold impl_Merged.f
      simp only [hc,if_true,lets,List.nil_append]
      by_cases h4:m.2.1.f4=0
      · simp only [h4,if_true,Option.bind_some]
        refine Evt.bind l1 (Evt.bind a1 (Evt.bind t1 (Evt.bind hi ?_)))
        simp only [if_true]
        exact rest
      · simp only [h4,if_false,if_true,Option.bind_some]
        refine Evt.bind l1 (Evt.bind a1 (Evt.bind t1 (Evt.bind hi ?_)))
        simp only [if_true]
        exact rest
  obtain⟨K,h⟩:=key
  exact⟨K,h K (Nat.le_refl _)⟩
end Go.Proofs.YtfcpjeeeddjakaaGreat.PureFnPlans

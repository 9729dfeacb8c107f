/- Plans that are drawn. Plain lemmas, no condition. -/
import Derived.Test.YtfcpjeeeddjakaaGreatDrawFnPlans
namespace Go.Proofs.YtfcpjeeeddjakaaGreat.PlanDrawFnPlans
open Go.RowKit YtfcpjeeeddjakaaGreatW.PrintWords YtfcpjeeeddjakaaGreatW.PrintLast ZOpen Z F
open ZP ItemFnPlans CertSpecFnPlans DrawFnPlans
set_option linter.unusedVariables false
set_option linter.unusedSimpArgs false
def Two (l:List S39):Prop:=2≤l.length∧l.length≤3∧∀p∈l,p.f1.length≤2∧p.f2.f1.length≤2
theorem two_set {l:List S39}(h:Two l)(i:Nat)(p:S39)(hp:p.f1.length≤2∧p.f2.f1.length≤2):Two (l.set i p):=by
  refine⟨by rw [List.length_set];exact h.1,by rw [List.length_set];exact h.2.1,fun q hq=>?_⟩
  rcases List.mem_or_eq_of_mem_set hq with hq|rfl
  · exact h.2.2 q hq
  · exact hp
theorem two_rd {l:List S39}(h:Two l)(i:Int):(rd_T39 l i).f1.length≤2∧(rd_T39 l i).f2.f1.length≤2:=by
  unfold rd_T39
  by_cases hi:i.toNat<l.length
  · rw [List.getD_eq_getElem?_getD,List.getElem?_eq_getElem hi]
    exact h.2.2 _ (List.getElem_mem hi)
  · rw [List.getD_eq_getElem?_getD,List.getElem?_eq_none (by omega)]
    exact⟨by decide,by decide⟩
theorem plans_e (b:List Int)(i h:Int)(hi:In b i):Gets (fun k=>spec_l16Any_0.f k (⟨b,i,h⟩:S110)) (fun r=>In b r.2.f1∧Two r.1):=by
  unfold spec_l16Any_0.f
  refine Gets.bind (below b i h 10 hi) fun x hx=>?_
  refine Gets.bind (below b _ _ 60 hx.1) fun y hy=>?_
  obtain⟨l,hl,h2,hn⟩:∃l,spec_l16Plans.f=some l∧Two l∧l.length=2:=⟨_,rfl,⟨by decide,by decide,by intro p hp;simp at hp;rcases hp with rfl|rfl <;> exact⟨by decide,by decide⟩⟩,rfl⟩
  rw [hl]
  refine Gets.must (by omega) ?_
  refine Gets.ite (fun _=>?_) fun _=>?_
  · exact Gets.must (by omega) (Gets.lets_ (Gets.now ⟨hy.1,two_set h2 _ _ (two_rd h2 0)⟩))
  refine Gets.ite (fun _=>?_) fun _=>?_
  · exact Gets.must (by omega) (Gets.lets_ (Gets.now ⟨hy.1,two_set h2 _ _ ⟨by simp [u39_1_35],(two_rd h2 1).2⟩⟩))
  refine Gets.ite (fun _=>?_) fun _=>?_
  · exact Gets.must (by omega) (Gets.lets_ (Gets.now ⟨hy.1,two_set h2 _ _ (two_rd h2 1)⟩))
  refine Gets.ite (fun _=>?_) fun _=>Gets.now ⟨hy.1,h2⟩
  refine Gets.must (by omega) (Gets.lets_ (Gets.now ⟨hy.1,?_⟩))
  refine⟨by rw [List.length_append];omega,by rw [List.length_append];simp;omega,fun p hp=>?_⟩
  rcases List.mem_append.1 hp with hp|hp
  · exact h2.2.2 p hp
  · rw [List.mem_singleton.1 hp]
    exact⟨by simp,by simp⟩
theorem draw_at (b:List Int)(hb:b.length≤2000000):Gets (fun k=>spec_DrawPlanAt.f k b) (fun r=>Two r.1):=by
  unfold spec_DrawPlanAt.f
  refine Gets.bind (new_e b hb) fun c hc=>?_
  refine Gets.bind (below b _ _ 4 hc) fun x hx=>?_
  exact Gets.bind (plans_e b _ _ hx.1) fun l hl=>Gets.now hl.2
end Go.Proofs.YtfcpjeeeddjakaaGreat.PlanDrawFnPlans

/- Are plans right: both ways agree. Plain lemmas, no condition. -/
import Derived.Test.YtfcpjeeeddjakaaGreatItemFnPlans
namespace Go.Proofs.YtfcpjeeeddjakaaGreat.PlansFnPlans
open Go.RowKit YtfcpjeeeddjakaaGreatW.PrintWords YtfcpjeeeddjakaaGreatW.PrintLast ZOpen Z F
open ZP FamFnPlans ItemFnPlans
set_option linter.unusedVariables false
set_option linter.unusedSimpArgs false
theorem in_f (a b c:Int):spec_l01In.f a b c=some (decide (b≤a∧a≤c)):=by
  unfold spec_l01In.f
  by_cases h:b≤a
  · rw [if_pos h]
    exact congrArg some (decide_eq_decide.2 ⟨fun q=>⟨h,q⟩,fun q=>q.2⟩)
  · rw [if_neg h]
    exact congrArg some (decide_eq_false (fun q=>h q.1)).symm
theorem in_g (a b c:Int):impl_within.f a b c=some (decide (b≤a∧a≤c)):=in_f a b c
theorem anch (l:List Int)(m:Int)(hl:l.length≤1048576):∀(n i:Nat),l.length - i=n→i≤l.length→∃b:Bool,∀(L:Nat→Int→Option Bool) (E:Nat→Option Bool) (V:Bool),
    (∀k (j:Nat),j<l.length→L (k+1) (j:Int)=((spec_l01In.f (rd l (j:Int)) 0 m).bind fun t=>(if t=true then(if 0<(j:Int)then(if 0≤(wrap64 ((j:Int) - 1))then(if(wrap64 ((j:Int) - 1))<(l.length:Int)then(if(rd l (j:Int))≤(rd l (wrap64 ((j:Int) - 1)))then(some false)else(L k (wrap64 ((j:Int)+1))))else none)else none)else(L k (wrap64 ((j:Int)+1))))else(some false))))→
    (∀k,L (k+1) (l.length:Int)=E k)→Evt E V→Evt (fun k=>L k (i:Int)) (b&&V):=by
  intro n
  induction n with
  | zero=>
    intro i hn hi
    obtain rfl:i=l.length:=by omega
    exact⟨true,fun L E V _ hE hV=>Evt.succ (Evt.eq hV hE)⟩
  | succ n ih=>
    intro i hn hi
    have hil:i<l.length:=by omega
    obtain⟨b',hb⟩:=ih (i+1) (by omega) (by omega)
    have e1:wrap64 ((i:Int)+1)=((i+1:Nat):Int):=by rw [w64 (by omega) (by omega)];rfl
    have e2:wrap64 ((i:Int) - 1)=(i:Int) - 1:=w64 (by omega) (by omega)
    by_cases c:(0:Int)≤rd l (i:Int)∧rd l (i:Int)≤m
    · by_cases c0:0<(i:Int)
      · have q0:0≤(i:Int) - 1:=by omega
        have q1:(i:Int) - 1<(l.length:Int):=by omega
        by_cases c1:rd l (i:Int)≤rd l ((i:Int) - 1)
        · refine⟨false,fun L E V hS hE hV=>Evt.succ (Evt.of fun k=>?_)⟩
          rw [hS k i hil,in_f,decide_eq_true c,Option.bind_some,if_pos rfl,if_pos c0,e2,if_pos q0,if_pos q1,if_pos c1]
          rfl
        · refine⟨b',fun L E V hS hE hV=>Evt.succ (Evt.eq (hb L E V hS hE hV) fun k=>?_)⟩
          rw [hS k i hil,in_f,decide_eq_true c,Option.bind_some,if_pos rfl,if_pos c0,e2,if_pos q0,if_pos q1,if_neg c1,e1]
      · refine⟨b',fun L E V hS hE hV=>Evt.succ (Evt.eq (hb L E V hS hE hV) fun k=>?_)⟩
        rw [hS k i hil,in_f,decide_eq_true c,Option.bind_some,if_pos rfl,if_neg c0,e1]
    · refine⟨false,fun L E V hS hE hV=>Evt.succ (Evt.of fun k=>?_)⟩
      rw [hS k i hil,in_f,decide_eq_false c,Option.bind_some,if_neg (by simp)]
      rfl
theorem policies (l:List Int)(hl:l.length≤1048576):∃b,Evt (fun k=>spec_PoliciesOk.f k l) b∧Evt (fun k=>impl_PoliciesOk.f k l) b:=by
  obtain⟨b,hb⟩:=anch l 99 hl _ 0 rfl (Nat.zero_le _)
  refine⟨_,(hb (fun k i=>spec_PoliciesOk.l0 k i l) (fun _=>some (decide ((l.length:Int)≤4))) _ (fun k j hj=>?_) (fun k=>?_) Evt.now).eq (fun k=>rfl),(hb (fun k i=>impl_PoliciesOk.l0 k i l) (fun _=>some (decide ((l.length:Int)≤4))) _ (fun k j hj=>?_) (fun k=>?_) Evt.now).eq (fun k=>rfl)⟩
  · show spec_PoliciesOk.l0 (k+1) (j:Int) l=_
    rw [spec_PoliciesOk.l0,if_pos (by omega),if_pos (by omega),if_pos (by omega)]
  · show spec_PoliciesOk.l0 (k+1) _ l=_
    rw [spec_PoliciesOk.l0,if_neg (by omega)]
  · show impl_PoliciesOk.l0 (k+1) (j:Int) l=_
    rw [impl_PoliciesOk.l0,if_pos (by omega),if_pos (by omega),if_pos (by omega)]
    rfl
  · show impl_PoliciesOk.l0 (k+1) _ l=_
    rw [impl_PoliciesOk.l0,if_neg (by omega)]
theorem rules (x:S37)(hl:x.f1.length≤1048576):∃b,Evt (fun k=>spec_RulesOk.f k x) b∧Evt (fun k=>impl_RulesOk.f k x) b:=by
  obtain⟨b,⟨K1,b1⟩,⟨K2,b2⟩⟩:=policies x.f1 hl
  obtain⟨v,v1,v2⟩:∃v,spec_l09Num.f x.f0=some v∧impl_timeOk.f x.f0=some v:=⟨_,by unfold spec_l09Num.f;rw [in_f];rfl,by unfold impl_timeOk.f;rw [in_g];rfl⟩
  refine⟨v&&(b&&decide (0≤x.f4∧x.f4≤7)),Evt.at_ K1 fun k hk=>?_,Evt.at_ K2 fun k hk=>?_⟩
  · have b1:spec_PoliciesOk.f k x.f1=some b:=b1 k hk
    unfold spec_RulesOk.f
    rw [v1,b1,in_f]
    cases v <;> cases b <;> rfl
  · have b2:impl_PoliciesOk.f k x.f1=some b:=b2 k hk
    unfold impl_RulesOk.f
    rw [v2,b2,in_g]
    cases v <;> cases b <;> rfl
theorem l2_l1:∀(k:Nat) (x:Int) (a:List S39) (s:S48) (i:Int),spec_PlansOk.l2 k x a s i=spec_PlansOk.l1 k x a s i
  |0,_,_,_,_=>by rw [spec_PlansOk.l2,spec_PlansOk.l1]
  |k+1,x,a,s,i=>by rw [spec_PlansOk.l2,spec_PlansOk.l1];simp only [l2_l1 k]
theorem plan (p:S39)(s:S48)(hp:sm39 p):∃b r,Evt (fun k=>spec_RulesOk.f k (⟨0,p.f2.f1,p.f2.f2,p.f2.f3,p.f2.f4⟩:S37)) r∧
    Evt (fun k=>impl_planOk.f k p s) (b&&(decide (0≤p.f0∧p.f0≤99)&&(r&&decide (1≤(p.f1.length:Int)∧(p.f1.length:Int)≤3))))∧
    ∀(a:List S39) (i:Int) (V:Bool),rd_T39 a i=p→Evt (fun k=>spec_PlansOk.l0 k (wrap64 (i+1)) a s) V→Evt (fun k=>spec_PlansOk.l1 k 0 a s i) (b&&V):=by
  have h1:=hp.2.1.1
  obtain⟨r,r1,⟨K,r2⟩⟩:=rules (⟨0,p.f2.f1,p.f2.f2,p.f2.f3,p.f2.f4⟩:S37) hp.2.2.1.2.1.1
  obtain⟨b,hb⟩:=anch p.f1 (wrap64 ((s.f2.length:Int) - 1)) h1 _ 0 rfl (Nat.zero_le _)
  refine⟨b,r,r1,?_,fun a i V hi hV=>?_⟩
  · refine(hb (fun k j=>impl_planOk.l0 k j p s) (fun k=>impl_planOk.l0 (k+1) (p.f1.length:Int) p s) _ (fun k j hj=>?_) (fun k=>rfl) (Evt.at_ K fun k hk=>?_)).eq (fun k=>rfl)
    · show impl_planOk.l0 (k+1) (j:Int) p s=_
      rw [impl_planOk.l0,if_pos (by omega),if_pos (by omega),if_pos (by omega)]
      rfl
    · have r2:impl_RulesOk.f k (⟨0,p.f2.f1,p.f2.f2,p.f2.f3,p.f2.f4⟩:S37)=some r:=r2 k hk
      show impl_planOk.l0 (k+1) _ p s=_
      rw [impl_planOk.l0,if_neg (by omega),in_g,in_g,r2]
      cases decide (0≤p.f0∧p.f0≤99) <;> cases r <;> rfl
  · subst hi
    refine hb (fun k j=>spec_PlansOk.l1 k j a s i) (fun k=>spec_PlansOk.l0 k (wrap64 (i+1)) a s) V (fun k j hj=>?_) (fun k=>?_) hV
    · show spec_PlansOk.l1 (k+1) (j:Int) a s i=_
      rw [spec_PlansOk.l1,if_pos (by omega),if_pos (by omega),if_pos (by omega)]
    · show spec_PlansOk.l1 (k+1) _ a s i=_
      rw [spec_PlansOk.l1,if_neg (by omega)]
theorem plans (a:List S39)(s:S48)(ha:a.length≤1048576∧∀e∈a,sm39 e):∀(n i:Nat),a.length - i=n→i≤a.length→∃V,Evt (fun k=>spec_PlansOk.l0 k (i:Int) a s) V∧Evt (fun k=>impl_PlansOk.l0 k (i:Int) a s) V:=by
  have hlen:=ha.1
  intro n
  induction n with
  | zero=>
    intro i hn hi
    obtain rfl:i=a.length:=by omega
    refine⟨decide ((a.length:Int)≤6),Evt.succ (Evt.of fun k=>?_),Evt.succ (Evt.of fun k=>?_)⟩
    · rw [spec_PlansOk.l0,if_neg (by omega)]
    · rw [impl_PlansOk.l0,if_neg (by omega)]
  | succ n ih=>
    intro i hn hi
    have hil:i<a.length:=by omega
    have e1:wrap64 ((i:Int)+1)=((i+1:Nat):Int):=by rw [w64 (by omega) (by omega)];rfl
    have e2:wrap64 ((i:Int) - 1)=(i:Int) - 1:=w64 (by omega) (by omega)
    have e3:=rd39 a i hil
    obtain⟨V,s1,⟨K2,s2⟩⟩:=ih (i+1) (by omega) (by omega)
    obtain⟨b,r,⟨K3,r1⟩,⟨K4,p1⟩,p2⟩:=plan a[i] s (ha.2 _ (List.getElem_mem hil))
    have s1':Evt (fun k=>spec_PlansOk.l0 k (wrap64 ((i:Int)+1)) a s) V:=by rw [e1];exact s1
    obtain⟨K1,q1⟩:=p2 a (i:Int) V e3 s1'
    have c1:((i:Int)<(a.length:Int))=True:=eq_true (by omega)
    have c0:(0≤(i:Int))=True:=eq_true (by omega)
    have key:∀(o:Bool),(0<(i:Int)→(o=true↔¬a[i].f0≤(rd_T39 a ((i:Int) - 1)).f0))→(¬0<(i:Int)→o=true)→
        Evt (fun k=>spec_PlansOk.l0 k (i:Int) a s) (decide (0≤a[i].f0∧a[i].f0≤99)&&(o&&(r&&(decide (1≤(a[i].f1.length:Int)∧(a[i].f1.length:Int)≤3)&&(b&&V)))))∧
        Evt (fun k=>impl_PlansOk.l0 k (i:Int) a s) (decide (0≤a[i].f0∧a[i].f0≤99)&&(o&&(r&&(decide (1≤(a[i].f1.length:Int)∧(a[i].f1.length:Int)≤3)&&(b&&V))))):=by
      intro o ho ho'
      refine⟨Evt.succ (Evt.at_ (K1+K3) fun k hk=>?_),Evt.succ (Evt.at_ (K2+K4) fun k hk=>?_)⟩
      · have q1:spec_PlansOk.l1 k 0 a s (i:Int)=some (b&&V):=q1 k (by omega)
        have r1:spec_RulesOk.f k (⟨0,a[i].f2.f1,a[i].f2.f2,a[i].f2.f3,a[i].f2.f4⟩:S37)=some r:=r1 k (by omega)
        rw [spec_PlansOk.l0]
        simp only [c1,c0,if_true,e3,in_f,Option.bind_some,r1,l2_l1]
        by_cases z:0<(i:Int)
        · have z0:(0≤(i:Int) - 1)=True:=eq_true (by omega)
          have z1:((i:Int) - 1<(a.length:Int))=True:=eq_true (by omega)
          by_cases w:a[i].f0≤(rd_T39 a ((i:Int) - 1)).f0
          · have ho2:o=false:=by
              cases o
              · rfl
              · exact absurd w ((ho z).1 rfl)
            simp only [z,e2,z0,z1,w,if_true,ho2,q1]
            cases decide (0≤a[i].f0∧a[i].f0≤99) <;> rfl
          · have ho2:o=true:=(ho z).2 w
            simp only [z,e2,z0,z1,w,if_true,if_false,ho2,q1]
            cases decide (0≤a[i].f0∧a[i].f0≤99) <;> cases r <;> cases decide (1≤(a[i].f1.length:Int)∧(a[i].f1.length:Int)≤3) <;> rfl
        · have ho2:=ho' z
          simp only [z,if_false,ho2,q1]
          cases decide (0≤a[i].f0∧a[i].f0≤99) <;> cases r <;> cases decide (1≤(a[i].f1.length:Int)∧(a[i].f1.length:Int)≤3) <;> rfl
      · have s2:impl_PlansOk.l0 k ((i+1:Nat):Int) a s=some V:=s2 k (by omega)
        have p1:impl_planOk.f k a[i] s=_:=p1 k (by omega)
        rw [impl_PlansOk.l0]
        simp only [c1,c0,if_true,e3,p1,Option.bind_some,e1,s2]
        by_cases z:0<(i:Int)
        · have z0:(0≤(i:Int) - 1)=True:=eq_true (by omega)
          have z1:((i:Int) - 1<(a.length:Int))=True:=eq_true (by omega)
          by_cases w:a[i].f0≤(rd_T39 a ((i:Int) - 1)).f0
          · have ho2:o=false:=by
              cases o
              · rfl
              · exact absurd w ((ho z).1 rfl)
            simp only [z,e2,z0,z1,w,if_true,ho2]
            cases decide (0≤a[i].f0∧a[i].f0≤99) <;> cases r <;> cases decide (1≤(a[i].f1.length:Int)∧(a[i].f1.length:Int)≤3) <;> cases b <;> rfl
          · have ho2:o=true:=(ho z).2 w
            simp only [z,e2,z0,z1,w,if_true,if_false,ho2]
            cases decide (0≤a[i].f0∧a[i].f0≤99) <;> cases r <;> cases decide (1≤(a[i].f1.length:Int)∧(a[i].f1.length:Int)≤3) <;> cases b <;> rfl
        · have ho2:=ho' z
          simp only [z,if_false,ho2]
          cases decide (0≤a[i].f0∧a[i].f0≤99) <;> cases r <;> cases decide (1≤(a[i].f1.length:Int)∧(a[i].f1.length:Int)≤3) <;> cases b <;> rfl
    by_cases z:0<(i:Int)
    · exact⟨_,key (decide (¬a[i].f0≤(rd_T39 a ((i:Int) - 1)).f0)) (fun _=>by simp) (fun h=>absurd z h)⟩
    · exact⟨_,key true (fun h=>absurd h z) (fun _=>rfl)⟩
end Go.Proofs.YtfcpjeeeddjakaaGreat.PlansFnPlans

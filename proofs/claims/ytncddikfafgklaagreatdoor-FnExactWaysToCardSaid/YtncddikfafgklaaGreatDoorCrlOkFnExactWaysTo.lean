/- Whether a list of what was called back is right: both ways agree. Plain lemmas, no condition. -/
import Derived.Test.YtncddikfafgklaaGreatDoorNameFnExactWaysTo
namespace Go.Proofs.YtncddikfafgklaaGreatDoor.CrlOkFnExactWaysTo
open Go.RowKit YtncddikfafgklaaGreatDoorW.PrintWords YtncddikfafgklaaGreatDoorW.PrintLast ZOpen Z F
open ZP FamFnExactWaysTo ItemFnExactWaysTo NameFnExactWaysTo
set_option linter.unusedVariables false
set_option linter.unusedSimpArgs false
set_option maxHeartbeats 4000000
theorem same_ok (a:S69):∀(k:Nat) (i:Int),impl_CrlOk.l0 k i a=spec_CrlOk.l0 k i a
  |0,_=>by rw [impl_CrlOk.l0,spec_CrlOk.l0]
  | k+1,i=>by
    rw [impl_CrlOk.l0,spec_CrlOk.l0]
    simp only [same_ok a k,impl_timeOk.f,spec_l09Num.f,in_f,in_g]
theorem revs_ok (a:S69)(hn:a.f5.length≤1048576):∃b,Evt (fun k=>spec_CrlOk.l0 k 0 a) b:=by
  have key:∀(m i:Nat),a.f5.length - i=m→i≤a.f5.length→∃b,Evt (fun k=>spec_CrlOk.l0 k (i:Int) a) b:=by
    intro m
    induction m with
    | zero=>
      intro i hm hi
      obtain rfl:i=a.f5.length:=by omega
      exact⟨_,Evt.succ (.of fun k=>by rw [spec_CrlOk.l0,if_neg (by omega)])⟩
    | succ m ih=>
      intro i hm hi
      have hil:i<a.f5.length:=by omega
      obtain⟨b,⟨K1,h1⟩⟩:=ih (i+1) (by omega) (by omega)
      have c0:((i:Int)<(a.f5.length:Int))=True:=eq_true (by omega)
      have c1:((0:Int)≤(i:Int))=True:=eq_true (by omega)
      by_cases c:0<(i:Int)
      · have e1:wrap64 ((i:Int) - 1)=(i:Int) - 1:=w64 (by omega) (by omega)
        have q0:(0<(i:Int))=True:=eq_true c
        have q1:(0≤wrap64 ((i:Int) - 1))=True:=eq_true (by omega)
        have q2:(wrap64 ((i:Int) - 1)<(a.f5.length:Int))=True:=eq_true (by omega)
        have es:∀k,K1≤k→spec_CrlOk.l0 (k+1) (i:Int) a=spec_CrlOk.l0 (K1+1) (i:Int) a:=fun k hk=>by
          have g1:=h1 k hk
          have g2:=h1 K1 (Nat.le_refl _)
          simp only at g1 g2
          simp only [spec_CrlOk.l0,c0,c1,if_true,wn i (by omega),g1,g2,q0,q1,q2]
        obtain⟨v,hv⟩:∃v,spec_CrlOk.l0 (K1+1) (i:Int) a=some v:=by
          have g2:=h1 K1 (Nat.le_refl _)
          simp only at g2
          simp only [spec_CrlOk.l0,c0,c1,if_true,wn i (by omega),g2,spec_l09Num.f,in_f,Option.bind_some,q0,q1,q2,some_ite]
          exact⟨_,rfl⟩
        exact⟨v,Evt.succ ⟨K1,fun k hk=>(es k hk).trans hv⟩⟩
      · have q0:(0<(i:Int))=False:=eq_false c
        have es:∀k,K1≤k→spec_CrlOk.l0 (k+1) (i:Int) a=spec_CrlOk.l0 (K1+1) (i:Int) a:=fun k hk=>by
          have g1:=h1 k hk
          have g2:=h1 K1 (Nat.le_refl _)
          simp only at g1 g2
          simp only [spec_CrlOk.l0,c0,c1,if_true,wn i (by omega),g1,g2,q0,if_false]
        obtain⟨v,hv⟩:∃v,spec_CrlOk.l0 (K1+1) (i:Int) a=some v:=by
          have g2:=h1 K1 (Nat.le_refl _)
          simp only at g2
          simp only [spec_CrlOk.l0,c0,c1,if_true,wn i (by omega),g2,spec_l09Num.f,in_f,Option.bind_some,q0,if_false,some_ite]
          exact⟨_,rfl⟩
        exact⟨v,Evt.succ ⟨K1,fun k hk=>(es k hk).trans hv⟩⟩
  exact key _ 0 rfl (Nat.zero_le _)
theorem crl_ok (a:S69)(h:sm69 a):∃v,Evt (fun k=>spec_CrlOk.f k a) v∧Evt (fun k=>impl_CrlOk.f k a) v:=by
  have h1:=h.1
  obtain⟨b,⟨K1,b1⟩⟩:=revs_ok a h.2.2.2.2.2.1.1
  obtain⟨K,hK⟩:∃K,K=2097156+K1:=⟨_,rfl⟩
  have fs:∀k,K≤k→spec_CrlOk.l0 k 0 a=some b∧spec_NameOk.f k a.f0=some (nameB a.f0)∧impl_NameOk.f k a.f0=some (nameB a.f0):=fun k hk=>
    ⟨b1 k (by omega),name_f _ h1 k (by omega),name_g _ h1 k (by omega)⟩
  have es:∀k,K≤k→spec_CrlOk.f k a=spec_CrlOk.f K a:=fun k hk=>by
    obtain⟨a1,a2,_⟩:=fs k hk
    obtain⟨b1,b2,_⟩:=fs K (Nat.le_refl _)
    unfold spec_CrlOk.f
    simp only [a1,a2,b1,b2]
  have eg:∀k,K≤k→impl_CrlOk.f k a=spec_CrlOk.f K a:=fun k hk=>by
    obtain⟨a1,_,a3⟩:=fs k hk
    obtain⟨b1,b2,_⟩:=fs K (Nat.le_refl _)
    unfold spec_CrlOk.f impl_CrlOk.f impl_timeOk.f spec_l09Num.f
    simp only [same_ok,a1,a3,b1,b2,in_f,in_g]
  obtain⟨v,hv⟩:∃v,spec_CrlOk.f K a=some v:=by
    obtain⟨b1,b2,_⟩:=fs K (Nat.le_refl _)
    unfold spec_CrlOk.f spec_l09Num.f
    simp only [b1,b2,in_f,Option.bind_some,some_ite]
    exact⟨_,rfl⟩
  exact⟨v,⟨K,fun k hk=>(es k hk).trans hv⟩,⟨K,fun k hk=>(eg k hk).trans hv⟩⟩
end Go.Proofs.YtncddikfafgklaaGreatDoor.CrlOkFnExactWaysTo

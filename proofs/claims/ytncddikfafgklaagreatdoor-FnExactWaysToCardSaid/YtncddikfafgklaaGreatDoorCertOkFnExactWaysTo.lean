/- Whether a letter is right: both ways agree. Plain lemmas, no condition. -/
import Derived.Test.YtncddikfafgklaaGreatDoorNameFnExactWaysTo
namespace Go.Proofs.YtncddikfafgklaaGreatDoor.CertOkFnExactWaysTo
open Go.RowKit YtncddikfafgklaaGreatDoorW.PrintWords YtncddikfafgklaaGreatDoorW.PrintLast ZOpen Z F
open ZP FamFnExactWaysTo ItemFnExactWaysTo NameFnExactWaysTo
set_option linter.unusedVariables false
set_option linter.unusedSimpArgs false
set_option maxHeartbeats 4000000
theorem cert_ok (a:S41)(h:sm41 a):∃v,Evt (fun k=>spec_CertOk.f k a) v∧Evt (fun k=>impl_CertOk.f k a) v:=by
  have h1:=h.2.1
  have h2:=h.2.2.1
  obtain⟨p,⟨K1,p1⟩,⟨K2,p2⟩⟩:=pols a.f9 h.2.2.2.2.2.2.2.2.2.1.1
  obtain⟨n,⟨K3,n1⟩,⟨K4,n2⟩⟩:=names a.f10 h.2.2.2.2.2.2.2.2.2.2.1
  obtain⟨m,⟨K5,m1⟩,⟨K6,m2⟩⟩:=names a.f11 h.2.2.2.2.2.2.2.2.2.2.2.1
  obtain⟨K,hK⟩:∃K,K=2097156+K1+K2+K3+K4+K5+K6:=⟨_,rfl⟩
  have fs:∀k,K≤k→spec_PoliciesOk.f k a.f9=some p∧impl_PoliciesOk.f k a.f9=some p∧spec_NamesOk.f k a.f10=some n∧impl_NamesOk.f k a.f10=some n∧spec_NamesOk.f k a.f11=some m∧impl_NamesOk.f k a.f11=some m∧spec_NameOk.f k a.f1=some (nameB a.f1)∧impl_NameOk.f k a.f1=some (nameB a.f1)∧spec_NameOk.f k a.f2=some (nameB a.f2)∧impl_NameOk.f k a.f2=some (nameB a.f2):=fun k hk=>
    ⟨p1 k (by omega),p2 k (by omega),n1 k (by omega),n2 k (by omega),m1 k (by omega),m2 k (by omega),name_f _ h1 k (by omega),name_g _ h1 k (by omega),name_f _ h2 k (by omega),name_g _ h2 k (by omega)⟩
  have es:∀k,K≤k→spec_CertOk.f k a=spec_CertOk.f K a:=fun k hk=>by
    obtain⟨a1,_,a3,_,a5,_,a7,_,a9,_⟩:=fs k hk
    obtain⟨b1,_,b3,_,b5,_,b7,_,b9,_⟩:=fs K (Nat.le_refl _)
    unfold spec_CertOk.f
    simp only [a1,a3,a5,a7,a9,b1,b3,b5,b7,b9]
  have eg:∀k,K≤k→impl_CertOk.f k a=spec_CertOk.f K a:=fun k hk=>by
    obtain⟨_,a2,_,a4,_,a6,_,a8,_,a10⟩:=fs k hk
    obtain⟨b1,_,b3,_,b5,_,b7,_,b9,_⟩:=fs K (Nat.le_refl _)
    unfold spec_CertOk.f impl_CertOk.f impl_timeOk.f spec_l09Num.f
    simp only [a2,a4,a6,a8,a10,b1,b3,b5,b7,b9,in_f,in_g]
  obtain⟨v,hv⟩:∃v,spec_CertOk.f K a=some v:=by
    obtain⟨b1,_,b3,_,b5,_,b7,_,b9,_⟩:=fs K (Nat.le_refl _)
    unfold spec_CertOk.f spec_l09Num.f
    simp only [b1,b3,b5,b7,b9,in_f,Option.bind_some,some_ite]
    exact⟨_,rfl⟩
  exact⟨v,⟨K,fun k hk=>(es k hk).trans hv⟩,⟨K,fun k hk=>(eg k hk).trans hv⟩⟩
end Go.Proofs.YtncddikfafgklaaGreatDoor.CertOkFnExactWaysTo

/- FnExactWaysTo, as numbers and lists: both searches alike. -/
import Derived.Test.YtncddikfafgklaaGreatDoorWaysFnExactWaysTo
namespace Go.Proofs.YtncddikfafgklaaGreatDoor.PureFnExactWaysTo
open Go.RowKit YtncddikfafgklaaGreatDoorW.PrintWords YtncddikfafgklaaGreatDoorW.PrintLast ZOpen Z F
open SaidFnExactWaysTo ZP FamFnExactWaysTo
open StoreFnExactWaysTo (store_ok)
open CertOkFnExactWaysTo (cert_ok)
set_option linter.unusedVariables false
set_option linter.unusedSimpArgs false
theorem pure:Pure:=by
  intro s p hs hp
  by_cases hb:sm26 s∧sm30 p
  · obtain⟨h1,h2⟩:=hb
    have hc:=smcv26 s h1
    have hc2:=smcv30 p h2
    obtain⟨r,⟨K1,w1⟩,⟨K2,w2⟩,hr,hr2⟩:=Go.Proofs.YtncddikfafgklaaGreatDoor.WaysFnExactWaysTo.ways (cv26 s) (cv30 p) hc hc2 (store_ok _ hc) (cert_ok _ hc2)
    have hr:r.length≤1048576∧∀e∈r,sm59 e:=⟨by omega,fun e he=>⟨trivial,⟨by have:=(hr2 e he).1;omega,(hr2 e he).2⟩,trivial⟩⟩
    obtain⟨k,hk⟩:∃k,k=8388608+K1+K2:=⟨_,rfl⟩
    refine⟨k,?_⟩
    have w1:=w1 k (by omega)
    have w2:=w2 k (by omega)
    simp only at w1 w2
    unfold laws_FnExactWaysTo.f
    obtain⟨n1,e1,b1,g1⟩:=sz_6 s hs 1048576 (by omega) (by omega) k (by omega)
    rw [e1,Option.bind_some]
    by_cases c:n1<0
    · rw [if_pos c]
    rw [if_neg c]
    obtain⟨n2,e2,b2,g2⟩:=sz_7 p hp n1 (by omega) (by omega) k (by omega)
    rw [e2,Option.bind_some]
    by_cases c2:n2<0
    · rw [if_pos c2]
    rw [if_neg c2]
    obtain⟨m1,ra0,ra1,ra2,q1,q2,q3,_⟩:=mk_15 _ hc 1 (by omega) (by omega) k (by omega)
    obtain⟨m3,rb0,rb1,rb2,o1,o2,_,_⟩:=mk_16 _ hc2 m1 (by omega) (by omega) k (by omega)
    obtain⟨m2,rr0,p1,p2,_,p3⟩:=mk_17 r hr 1 (by omega) (by omega) k (by omega)
    simp only [to_9 s h1 k (by omega),to_10 p h2 k (by omega),Option.bind_some,w1,w2,eq_12 r hr k (by omega),eq_13 _ hc k (by omega),eq_14 _ hc2 k (by omega),q1,o1,p1,p3 k (by omega),if_true,show¬m3<0 by omega,show¬m2<0 by omega,if_false]
  · refine⟨8388608,?_⟩
    obtain⟨n,z1,z2,z3⟩:=sz_6 s hs 1048576 (by omega) (by omega) 8388608 (by omega)
    unfold laws_FnExactWaysTo.f
    rw [z1,Option.bind_some]
    by_cases c:n<0
    · rw [if_pos c]
    rw [if_neg c]
    obtain⟨m,y1,y2,y3⟩:=sz_7 p hp n (by omega) (by omega) 8388608 (by omega)
    rw [y1,Option.bind_some]
    by_cases c2:m<0
    · rw [if_pos c2]
    exact absurd ⟨z3 (by omega),y3 (by omega)⟩ hb
end Go.Proofs.YtncddikfafgklaaGreatDoor.PureFnExactWaysTo

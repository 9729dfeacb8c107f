/- All ways to a letter: both searches give the same. Plain lemmas, no condition. -/
import Derived.Test.YtncddikfafgklaaGreatDoorCopyFnExactWaysTo
namespace Go.Proofs.YtncddikfafgklaaGreatDoor.WaysFnExactWaysTo
open Go.RowKit YtncddikfafgklaaGreatDoorW.PrintWords YtncddikfafgklaaGreatDoorW.PrintLast ZOpen Z F
open ZP FamFnExactWaysTo ItemFnExactWaysTo CopyFnExactWaysTo
set_option linter.unusedVariables false
set_option linter.unusedSimpArgs false
set_option maxHeartbeats 1000000
theorem tl_eq {a b:ByteArray}:a.toList=b.toList↔a=b:=⟨fun h=>by rw [ByteArray.toList_eq,ByteArray.toList_eq] at h;exact ext_ba h,fun h=>by rw [h]⟩
theorem ws {n:Nat}(h:n≤1048576):wrap64 ((n:Int)+1)=((n+1:Nat):Int):=w1 n h
def met (p:List S41)(t:ByteArray):Prop:=∃x∈p,x.f2=t
noncomputable instance (p:List S41) (t:ByteArray):Decidable (met p t):=Classical.propDecidable _
theorem met_snoc {p:List S41}{c:S41}{t:ByteArray}:met (p++ [c]) t↔met p t∨c.f2=t:=by
  constructor
  · rintro⟨x,hx,h⟩
    rcases List.mem_append.1 hx with hx|hx
    · exact .inl ⟨x,hx,h⟩
    · rw [List.mem_singleton.1 hx] at h;exact .inr h
  · rintro(⟨x,hx,h⟩|h)
    · exact⟨x,List.mem_append.2 (.inl hx),h⟩
    · exact⟨c,by simp,h⟩
def head (A:ByteArray)(p:List S41):ByteArray:=if 0<p.length then(rd_T41 p ((p.length:Int) - 1)).f2 else A
noncomputable def fits (A:ByteArray)(p:List S41)(c:S41):Bool:=decide (c.f1=head A p∧¬c.f2=A∧¬met p c.f2)
theorem mem_rd (p:List S41){i:Nat}(h:i<p.length):rd_T41 p (i:Int)∈p:=by rw [rd41 p i h];exact List.getElem_mem h
theorem look (p:List S41)(t:ByteArray)(hp:p.length≤1048576)(L:Nat→Int→Option Bool)(y n:Bool)(h1:∀k (i:Nat),i<p.length→L (k+1) (i:Int)=if(rd_T41 p (i:Int)).f2.toList=t.toList then some y else L k ((i+1:Nat):Int))(h2:∀k,L (k+1) (p.length:Int)=some n):
    Evt (fun k=>L k 0) (if met p t then y else n):=by
  classical
  have go:∀m i:Nat,p.length - i=m→i≤p.length→Evt (fun k=>L k (i:Int)) (if(∃j,i≤j∧j<p.length∧(rd_T41 p (j:Int)).f2=t)then y else n):=by
    intro m
    induction m with
    | zero=>
      intro i hm hi
      obtain rfl:i=p.length:=by omega
      rw [if_neg (by rintro⟨j,h1,h2,_⟩;omega)]
      exact Evt.succ (.of h2)
    | succ m ih=>
      intro i hm hi
      have hil:i<p.length:=by omega
      by_cases c:(rd_T41 p (i:Int)).f2=t
      · rw [if_pos ⟨i,Nat.le_refl _,hil,c⟩]
        exact Evt.succ (.of fun k=>by rw [h1 k i hil,if_pos (tl_eq.2 c)])
      · have:=ih (i+1) (by omega) (by omega)
        refine Evt.succ (Evt.eq ?_ fun k=>by rw [h1 k i hil,if_neg (fun h=>c (tl_eq.1 h))])
        by_cases d:∃j,i+1≤j∧j<p.length∧(rd_T41 p (j:Int)).f2=t
        · rw [if_pos d] at this
          obtain⟨j,d1,d2,d3⟩:=d
          rw [if_pos ⟨j,by omega,d2,d3⟩]
          exact this
        · rw [if_neg d] at this
          rw [if_neg]
          · exact this
          · rintro⟨j,e1,e2,e3⟩
            by_cases e:j=i
            · subst e;exact c e3
            · exact d ⟨j,by omega,e2,e3⟩
  have h:=go _ 0 rfl (Nat.zero_le _)
  have e:(∃j,0≤j∧j<p.length∧(rd_T41 p (j:Int)).f2=t)↔met p t:=by
    constructor
    · rintro⟨j,_,h2,h3⟩
      exact⟨_,mem_rd p h2,h3⟩
    · rintro⟨x,hx,h3⟩
      obtain⟨j,hj,rfl⟩:=List.getElem_of_mem hx
      exact⟨j,Nat.zero_le _,hj,by rw [rd41 p j hj];exact h3⟩
  by_cases d:met p t
  · rw [if_pos (e.2 d)] at h;rw [if_pos d];exact h
  · rw [if_neg (fun q=>d (e.1 q))] at h;rw [if_neg d];exact h
theorem fits_f (a:S57)(p:List S41)(c:S41)(hp:p.length≤1048576):Evt (fun k=>spec_l13Fits.f k a p c) (fits a.f0 p c):=by
  have l0:=look p c.f2 hp (fun k i=>spec_l13Fits.l0 k i p c) false true (fun k i hi=>by
    show spec_l13Fits.l0 (k+1) (i:Int) p c=_
    rw [spec_l13Fits.l0,if_pos (by omega),if_pos (by omega),if_pos (by omega),ws (by omega)]) (fun k=>by
    show spec_l13Fits.l0 (k+1) _ p c=_
    rw [spec_l13Fits.l0,if_neg (by omega)])
  have l1:=look p c.f2 hp (fun k i=>spec_l13Fits.l1 k i p c) false true (fun k i hi=>by
    show spec_l13Fits.l1 (k+1) (i:Int) p c=_
    rw [spec_l13Fits.l1,if_pos (by omega),if_pos (by omega),if_pos (by omega),ws (by omega)]) (fun k=>by
    show spec_l13Fits.l1 (k+1) _ p c=_
    rw [spec_l13Fits.l1,if_neg (by omega)])
  have w:wrap64 ((p.length:Int) - 1)=(p.length:Int) - 1:=w64 (by omega) (by omega)
  have e:∀h:ByteArray,head a.f0 p=h→fits a.f0 p c=if c.f1=h then(if c.f2=a.f0 then false else if met p c.f2 then false else true)else false:=by
    intro h hh
    unfold fits
    rw [hh]
    by_cases q1:c.f1=h
    · by_cases q2:c.f2=a.f0
      · simp [q1,q2]
      · by_cases q3:met p c.f2
        · simp [q1,q2,q3]
        · simp [q1,q2,q3]
    · simp [q1]
  unfold spec_l13Fits.f
  rw [w]
  by_cases c0:0<(p.length:Int)
  · rw [e (rd_T41 p ((p.length:Int) - 1)).f2 (by unfold head;rw [if_pos (by omega)])]
    simp only [c0,if_true,show 0≤(p.length:Int) - 1 by omega,show(p.length:Int) - 1<(p.length:Int) by omega,tl_eq]
    by_cases q1:c.f1=(rd_T41 p ((p.length:Int) - 1)).f2
    · by_cases q2:c.f2=a.f0
      · simp only [q1,q2,if_true];exact Evt.now
      · simp only [q1,q2,if_true,if_false];exact l0
    · simp only [q1,if_false];exact Evt.now
  · rw [e a.f0 (by unfold head;rw [if_neg (by omega)])]
    simp only [c0,if_false,tl_eq]
    by_cases q1:c.f1=a.f0
    · by_cases q2:c.f2=a.f0
      · simp only [q1,q2,if_true];exact Evt.now
      · simp only [q1,q2,if_true,if_false];exact l1
    · simp only [q1,if_false];exact Evt.now
theorem place (p:List S41)(c:S41)(hp:p.length≤1048576):∃r,Evt (fun k=>impl_Cert_173_0.f k p c) r∧(0≤r↔met p c.f2):=by
  have go:∀m i:Nat,p.length - i=m→i≤p.length→∃r,Evt (fun k=>impl_Cert_173_0.l0 k (i:Int) p c) r∧(0≤r↔∃j,i≤j∧j<p.length∧(rd_T41 p (j:Int)).f2=c.f2):=by
    intro m
    induction m with
    | zero=>
      intro i hm hi
      obtain rfl:i=p.length:=by omega
      refine⟨-1,Evt.succ (.of fun k=>by rw [impl_Cert_173_0.l0,if_neg (by omega)]),fun h=>by omega,?_⟩
      rintro⟨j,h1,h2,_⟩
      omega
    | succ m ih=>
      intro i hm hi
      have hil:i<p.length:=by omega
      by_cases q:(rd_T41 p (i:Int)).f2=c.f2
      · refine⟨(i:Int),Evt.succ (.of fun k=>?_),fun _=>⟨i,Nat.le_refl _,hil,q⟩,fun _=>by omega⟩
        rw [impl_Cert_173_0.l0,if_pos (by omega),if_pos (by omega),if_pos (by omega),impl_seeker_mayFollow_1_0.f,q,Option.bind_some,if_pos (by simp)]
      · obtain⟨r,r1,r2⟩:=ih (i+1) (by omega) (by omega)
        refine⟨r,Evt.succ (r1.eq fun k=>?_),fun h=>?_,?_⟩
        · rw [impl_Cert_173_0.l0,if_pos (by omega),if_pos (by omega),if_pos (by omega),impl_seeker_mayFollow_1_0.f,Option.bind_some,if_neg (by rw [beq_iff_eq,tl_eq];exact q),ws (by omega)]
        · obtain⟨j,h1,h2,h3⟩:=r2.1 h
          exact⟨j,by omega,h2,h3⟩
        · rintro⟨j,h1,h2,h3⟩
          by_cases e:j=i
          · subst e;exact absurd h3 q
          · exact r2.2 ⟨j,by omega,h2,h3⟩
  obtain⟨r,r1,r2⟩:=go _ 0 rfl (Nat.zero_le _)
  refine⟨r,r1.eq fun k=>rfl,fun h=>?_,?_⟩
  · obtain⟨j,_,h2,h3⟩:=r2.1 h
    exact⟨_,mem_rd p h2,h3⟩
  · rintro⟨x,hx,h3⟩
    obtain⟨j,hj,rfl⟩:=List.getElem_of_mem hx
    exact r2.2 ⟨j,Nat.zero_le _,hj,by rw [rd41 p j hj];exact h3⟩
theorem may_g (x:S91)(p:List S41)(c:S41)(hp:p.length≤1048576)(h0:0≤x.f2)(h1:x.f2<(x.f0.f2.length:Int)):Evt (fun k=>impl_seeker_mayFollow_0.f k x p c) (fits (rd_T57 x.f0.f2 x.f2).f0 p c):=by
  have l0:Evt (fun k=>impl_Cert_143_0.f k p c) (if met p c.f2 then true else false):=by
    obtain⟨r,r1,r2⟩:=place p c hp
    refine Evt.eq (Evt.bind r1 (g:=fun k t1=>some (decide (0≤t1))) (.of fun k=>?_)) fun k=>by unfold impl_Cert_143_0.f;rfl
    by_cases q:met p c.f2
    · rw [if_pos q,decide_eq_true (r2.2 q)]
    · rw [if_neg q,decide_eq_false (fun h=>q (r2.1 h))]
  have w:wrap64 ((p.length:Int) - 1)=(p.length:Int) - 1:=w64 (by omega) (by omega)
  generalize hA:(rd_T57 x.f0.f2 x.f2).f0=A
  have e:∀h:ByteArray,head A p=h→fits A p c=if c.f1=h then(if c.f2=A then false else !(if met p c.f2 then true else false))else false:=by
    intro h hh
    unfold fits
    rw [hh]
    by_cases q1:c.f1=h
    · by_cases q2:c.f2=A
      · simp [q1,q2]
      · by_cases q3:met p c.f2
        · simp [q1,q2,q3]
        · simp [q1,q2,q3]
    · simp [q1]
  unfold impl_seeker_mayFollow_0.f
  rw [w,hA]
  simp only [h0,h1,if_true]
  by_cases c0:0<(p.length:Int)
  · rw [e (rd_T41 p ((p.length:Int) - 1)).f2 (by unfold head;rw [if_pos (by omega)])]
    simp only [c0,if_true,show 0≤(p.length:Int) - 1 by omega,show(p.length:Int) - 1<(p.length:Int) by omega,tl_eq]
    refine Evt.bind l0 ?_
    by_cases q1:c.f1=(rd_T41 p ((p.length:Int) - 1)).f2
    · by_cases q2:c.f2=A
      · simp only [q1,q2,if_true];exact Evt.now
      · simp only [q1,q2,if_true,if_false];exact Evt.now
    · simp only [q1,if_false];exact Evt.now
  · rw [e A (by unfold head;rw [if_neg (by omega)])]
    simp only [c0,if_false,tl_eq]
    refine Evt.bind l0 ?_
    by_cases q1:c.f1=A
    · by_cases q2:c.f2=A
      · simp only [q1,q2,if_true];exact Evt.now
      · simp only [q1,q2,if_true,if_false];exact Evt.now
    · simp only [q1,if_false];exact Evt.now
def SmW (w:S59):Prop:=w.f1.length≤6∧∀e∈w.f1,sm41 e
def SmP (p:List S41):Prop:=p.length≤5∧∀e∈p,sm41 e
theorem SmP.snoc {p:List S41}{c:S41}(h:SmP p)(h5:p.length<5)(hc:sm41 c):SmP (p++ [c]):=
  ⟨by rw [List.length_append];simp only [List.length_cons,List.length_nil];omega,fun e he=>(List.mem_append.1 he).elim (h.2 e) fun q=>by rw [List.mem_singleton.1 q];exact hc⟩
section
variable (s:S39) (t:S41) (n:Int) (hs:sm39 s) (ht:sm41 t) (n0:0≤n) (n1:n<(s.f2.length:Int))
include hs n0 n1
theorem barren:∀(d:Nat) (p:List S41) (all:List S59),5 - p.length≤d→SmP p→met p t.f2→Evt (fun k=>spec_l13Seek_from_0.f k (⟨s,t,n,all⟩:S82) p) all:=by
  intro d
  induction d with
  | zero=>
    intro p all hd hp hm
    have hp5:=hp.1
    refine Evt.succ (.of fun k=>?_)
    rw [spec_l13Seek_from_0.f,if_pos n0,if_pos n1]
    by_cases c:60≤(all.length:Int)
    · rw [if_pos c]
    · rw [if_neg c,if_pos (by omega)]
  | succ d ih=>
    intro p all hd hp hm
    have hp5:=hp.1
    by_cases c:60≤(all.length:Int)
    · exact Evt.succ (.of fun k=>by rw [spec_l13Seek_from_0.f,if_pos n0,if_pos n1,if_pos c])
    by_cases c5:5≤(p.length:Int)
    · exact Evt.succ (.of fun k=>by rw [spec_l13Seek_from_0.f,if_pos n0,if_pos n1,if_neg c,if_pos c5])
    have loop:∀m i:Nat,s.f0.length - i<m→Evt (fun k=>spec_l13Seek_from_0.l1 k all (i:Int) (⟨s,t,n,all⟩:S82) p) all:=by
      intro m
      induction m with
      |zero=>intro i h;omega
      | succ m im=>
        intro i hi
        have hl:=hs.1.1
        by_cases q:(i:Int)<(s.f0.length:Int)
        · have hmem:=mem_rd s.f0 (i:=i) (by omega)
          have hsm:=hs.1.2 _ hmem
          have nx:=im (i+1) (by omega)
          refine Evt.succ (Evt.eq (g:=fun k=>((spec_l13Fits.f k (rd_T57 s.f2 n) p (rd_T41 s.f0 (i:Int))).bind fun t610001=>(if t610001=true then((spec_l13Certs.f k p).bind fun t702001=>(if t702001.length+1≤764877654105 then(lets (t702001++([(rd_T41 s.f0 (i:Int))]:List S41)) fun y712999=>((spec_l13Seek_from_0.f k (⟨s,t,n,all⟩:S82) y712999).bind fun t713001=>(spec_l13Seek_from_0.l1 k t713001 ((i+1:Nat):Int) (⟨s,t,n,all⟩:S82) p)))else none))else(spec_l13Seek_from_0.l1 k all ((i+1:Nat):Int) (⟨s,t,n,all⟩:S82) p)))) ?_ fun k=>?_)
          · refine Evt.bind (fits_f _ p _ (by omega)) ?_
            cases fits (rd_T57 s.f2 n).f0 p (rd_T41 s.f0 (i:Int))
            · simp only [Bool.false_eq_true,if_false]
              exact nx
            · simp only [if_true]
              refine Evt.bind (a:=p) (Evt.at_ 1048577 fun k hk=>certs_f p ⟨by omega,hp.2⟩ k hk) ?_
              have hc:(p.length+1≤764877654105)=True:=eq_true (by omega)
              simp only [hc,if_true,lets]
              exact Evt.bind (ih (p++ [rd_T41 s.f0 (i:Int)]) all (by rw [List.length_append];simp only [List.length_cons,List.length_nil];omega) (hp.snoc (by omega) hsm) (met_snoc.2 (.inl hm))) nx
          · rw [spec_l13Seek_from_0.l1,if_pos q,if_pos (by omega),if_pos q,ws (by omega)]
        · exact Evt.succ (.of fun k=>by rw [spec_l13Seek_from_0.l1,if_neg q])
    refine Evt.succ (Evt.eq (Evt.bind (fits_f (rd_T57 s.f2 n) p t (by omega)) (g:=fun k b=>if b=true then _ else spec_l13Seek_from_0.l1 k all 0 (⟨s,t,n,all⟩:S82) p) ?_) fun k=>by rw [spec_l13Seek_from_0.f,if_pos n0,if_pos n1,if_neg c,if_neg c5])
    have e:fits (rd_T57 s.f2 n).f0 p t=false:=decide_eq_false fun h=>h.2.2 hm
    rw [e]
    simp only [Bool.false_eq_true,if_false]
    exact loop _ 0 (Nat.lt_succ_self _)
include ht
theorem seek:∀(d:Nat) (p:List S41) (all:List S59),5 - p.length≤d→SmP p→all.length≤60→(∀w∈all,SmW w)→∃r,Evt (fun k=>spec_l13Seek_from_0.f k (⟨s,t,n,all⟩:S82) p) r∧Evt (fun k=>impl_seeker_seek_0.f k (⟨s,t,n,all⟩:S91) p) r∧r.length≤60∧∀w∈r,SmW w:=by
  intro d
  induction d with
  | zero=>
    intro p all hd hp ha hw
    have hp5:=hp.1
    refine⟨all,Evt.succ (.of fun k=>?_),Evt.succ (.of fun k=>?_),ha,hw⟩
    · rw [spec_l13Seek_from_0.f,if_pos n0,if_pos n1]
      by_cases c:60≤(all.length:Int)
      · rw [if_pos c]
      · rw [if_neg c,if_pos (by omega)]
    · rw [impl_seeker_seek_0.f,if_pos (by omega)]
  | succ d ih=>
    intro p all hd hp ha hw
    have hp5:=hp.1
    have hl:=hs.1.1
    by_cases c5:5≤(p.length:Int)
    · refine⟨all,Evt.succ (.of fun k=>?_),Evt.succ (.of fun k=>?_),ha,hw⟩
      · rw [spec_l13Seek_from_0.f,if_pos n0,if_pos n1]
        by_cases c:60≤(all.length:Int)
        · rw [if_pos c]
        · rw [if_neg c,if_pos c5]
      · rw [impl_seeker_seek_0.f,if_pos c5]
    by_cases c:60≤(all.length:Int)
    · exact⟨all,Evt.succ (.of fun k=>by rw [spec_l13Seek_from_0.f,if_pos n0,if_pos n1,if_pos c]),Evt.succ (.of fun k=>by rw [impl_seeker_seek_0.f,if_neg c5,if_pos (by show(all.length:Int)=60;omega)]),ha,hw⟩
    have loop:∀(Lf Lg:Nat→List S59→Int→Option (List S59)),
        (∀k l (i:Nat),i<s.f0.length→Lf (k+1) l (i:Int)=((spec_l13Fits.f k (rd_T57 s.f2 n) p (rd_T41 s.f0 (i:Int))).bind fun a=>(if a=true then((spec_l13Certs.f k p).bind fun b=>(if b.length+1≤764877654105 then(lets (b++([(rd_T41 s.f0 (i:Int))]:List S41)) fun y=>((spec_l13Seek_from_0.f k (⟨s,t,n,l⟩:S82) y).bind fun z=>(Lf k z ((i+1:Nat):Int))))else none))else(Lf k l ((i+1:Nat):Int)))))→
        (∀k l,Lf (k+1) l (s.f0.length:Int)=some l)→
        (∀k l (i:Nat),i<s.f0.length→Lg (k+1) l (i:Int)=((impl_seeker_mayFollow_0.f k (⟨s,t,n,l⟩:S91) p (rd_T41 s.f0 (i:Int))).bind fun a=>(if a=true then(if((rd_T41 s.f0 (i:Int)).f2).toList=t.f2.toList then(Lg k l ((i+1:Nat):Int))else(if 0+p.length≤764877654105 then(lets (([]:List S41)++p) fun y=>(if y.length+1≤764877654105 then(lets (y++([(rd_T41 s.f0 (i:Int))]:List S41)) fun y=>((impl_seeker_seek_0.f k (⟨s,t,n,l⟩:S91) y).bind fun z=>(Lg k z ((i+1:Nat):Int))))else none))else none))else(Lg k l ((i+1:Nat):Int)))))→
        (∀k l,Lg (k+1) l (s.f0.length:Int)=some l)→
        ∀(m i:Nat) (l:List S59),s.f0.length - i=m→i≤s.f0.length→l.length≤60→(∀w∈l,SmW w)→∃r,Evt (fun k=>Lf k l (i:Int)) r∧Evt (fun k=>Lg k l (i:Int)) r∧r.length≤60∧∀w∈r,SmW w:=by
      intro Lf Lg f1 f2 g1 g2 m
      induction m with
      | zero=>
        intro i l hm hi h60 hlw
        obtain rfl:i=s.f0.length:=by omega
        exact⟨l,Evt.succ (.of fun k=>f2 k l),Evt.succ (.of fun k=>g2 k l),h60,hlw⟩
      | succ m im=>
        intro i l hm hi h60 hlw
        have hil:i<s.f0.length:=by omega
        have hsm:=hs.1.2 _ (mem_rd s.f0 hil)
        have hc1:(p.length+1≤764877654105)=True:=eq_true (by omega)
        have hc0:(0+p.length≤764877654105)=True:=eq_true (by omega)
        have ef:=fits_f (rd_T57 s.f2 n) p (rd_T41 s.f0 (i:Int)) (by omega)
        have eg:=may_g (⟨s,t,n,l⟩:S91) p (rd_T41 s.f0 (i:Int)) (by omega) n0 n1
        cases hb:fits (rd_T57 s.f2 n).f0 p (rd_T41 s.f0 (i:Int))with
        | false=>
          obtain⟨r,r1,r2,r3⟩:=im (i+1) l (by omega) (by omega) h60 hlw
          refine⟨r,Evt.succ (Evt.eq (Evt.bind ef ?_) fun k=>f1 k l i hil),Evt.succ (Evt.eq (Evt.bind eg ?_) fun k=>g1 k l i hil),r3⟩
          · simp only [hb,Bool.false_eq_true,if_false];exact r1
          · simp only [hb,Bool.false_eq_true,if_false];exact r2
        | true=>
          have cp:Evt (fun k=>spec_l13Certs.f k p) p:=Evt.at_ 1048577 fun k hk=>certs_f p ⟨by omega,hp.2⟩ k hk
          have hsp:=hp.snoc (c:=rd_T41 s.f0 (i:Int)) (by omega) hsm
          have hd':5 - (p++ [rd_T41 s.f0 (i:Int)]).length≤d:=by rw [List.length_append];simp only [List.length_cons,List.length_nil];omega
          by_cases q:(rd_T41 s.f0 (i:Int)).f2=t.f2
          · obtain⟨r,r1,r2,r3⟩:=im (i+1) l (by omega) (by omega) h60 hlw
            have hbar:=barren s t n hs n0 n1 d (p++ [rd_T41 s.f0 (i:Int)]) l hd' hsp (met_snoc.2 (.inr q))
            refine⟨r,Evt.succ (Evt.eq (Evt.bind ef ?_) fun k=>f1 k l i hil),Evt.succ (Evt.eq (Evt.bind eg ?_) fun k=>g1 k l i hil),r3⟩
            · simp only [hb,if_true]
              refine Evt.bind cp ?_
              simp only [hc1,if_true,lets]
              exact Evt.bind hbar r1
            · simp only [hb,if_true,tl_eq,q];exact r2
          · obtain⟨r',s1,s2,s3,s4⟩:=ih (p++ [rd_T41 s.f0 (i:Int)]) l hd' hsp h60 hlw
            obtain⟨r,r1,r2,r3⟩:=im (i+1) r' (by omega) (by omega) s3 s4
            refine⟨r,Evt.succ (Evt.eq (Evt.bind ef ?_) fun k=>f1 k l i hil),Evt.succ (Evt.eq (Evt.bind eg ?_) fun k=>g1 k l i hil),r3⟩
            · simp only [hb,if_true]
              refine Evt.bind cp ?_
              simp only [hc1,if_true,lets]
              exact Evt.bind s1 r1
            · simp only [hb,if_true,tl_eq,q,if_false,hc0,lets,List.nil_append,hc1]
              exact Evt.bind s2 r2
    have l0:=loop (fun k l i=>spec_l13Seek_from_0.l0 k l i (⟨s,t,n,all⟩:S82) p) (fun k l i=>impl_seeker_seek_0.l0 k l i (⟨s,t,n,all⟩:S91) p)
      (fun k l i hi=>by show spec_l13Seek_from_0.l0 (k+1) l (i:Int) _ p=_;rw [spec_l13Seek_from_0.l0,if_pos (show(i:Int)<(s.f0.length:Int) by omega),if_pos (by omega),if_pos (show(i:Int)<(s.f0.length:Int) by omega),ws (by omega)]) (fun k l=>by show spec_l13Seek_from_0.l0 (k+1) l _ _ p=_;rw [spec_l13Seek_from_0.l0,if_neg (show¬(s.f0.length:Int)<(s.f0.length:Int) by omega)])
      (fun k l i hi=>by show impl_seeker_seek_0.l0 (k+1) l (i:Int) _ p=_;rw [impl_seeker_seek_0.l0,if_pos (show(i:Int)<(s.f0.length:Int) by omega),if_pos (by omega),if_pos (show(i:Int)<(s.f0.length:Int) by omega),ws (by omega)]) (fun k l=>by show impl_seeker_seek_0.l0 (k+1) l _ _ p=_;rw [impl_seeker_seek_0.l0,if_neg (show¬(s.f0.length:Int)<(s.f0.length:Int) by omega)])
    have l1:=loop (fun k l i=>spec_l13Seek_from_0.l1 k l i (⟨s,t,n,all⟩:S82) p) (fun k l i=>impl_seeker_seek_0.l1 k l i (⟨s,t,n,all⟩:S91) p)
      (fun k l i hi=>by show spec_l13Seek_from_0.l1 (k+1) l (i:Int) _ p=_;rw [spec_l13Seek_from_0.l1,if_pos (show(i:Int)<(s.f0.length:Int) by omega),if_pos (by omega),if_pos (show(i:Int)<(s.f0.length:Int) by omega),ws (by omega)]) (fun k l=>by show spec_l13Seek_from_0.l1 (k+1) l _ _ p=_;rw [spec_l13Seek_from_0.l1,if_neg (show¬(s.f0.length:Int)<(s.f0.length:Int) by omega)])
      (fun k l i hi=>by show impl_seeker_seek_0.l1 (k+1) l (i:Int) _ p=_;rw [impl_seeker_seek_0.l1,if_pos (show(i:Int)<(s.f0.length:Int) by omega),if_pos (by omega),if_pos (show(i:Int)<(s.f0.length:Int) by omega),ws (by omega)]) (fun k l=>by show impl_seeker_seek_0.l1 (k+1) l _ _ p=_;rw [impl_seeker_seek_0.l1,if_neg (show¬(s.f0.length:Int)<(s.f0.length:Int) by omega)])
    clear loop
    have ef:=fits_f (rd_T57 s.f2 n) p t (by omega)
    have eg:=may_g (⟨s,t,n,all⟩:S91) p t (by omega) n0 n1
    have c60:¬((all.length:Int)=60):=by omega
    have ff:∀r,Evt (fun k=>((spec_l13Fits.f k (rd_T57 s.f2 n) p t).bind fun t206001=>(if t206001=true then((spec_l13Certs.f k p).bind fun t310001=>((spec_l09Copy.f t).bind fun t315001=>(if t310001.length+1≤764877654105 then(lets (t310001++([t315001]:List S41)) fun y317999=>(if all.length+1≤4398046511104 then(lets (all++([(⟨n,y317999⟩:S59)]:List S59)) fun y320999=>(spec_l13Seek_from_0.l0 k y320999 0 (⟨s,t,n,all⟩:S82) p))else none))else none)))else(spec_l13Seek_from_0.l1 k all 0 (⟨s,t,n,all⟩:S82) p)))) r→Evt (fun k=>spec_l13Seek_from_0.f k (⟨s,t,n,all⟩:S82) p) r:=fun r h=>Evt.succ (h.eq fun k=>by rw [spec_l13Seek_from_0.f,if_pos n0,if_pos n1,if_neg c,if_neg c5])
    have gg:∀r,Evt (fun k=>((impl_seeker_mayFollow_0.f k (⟨s,t,n,all⟩:S91) p t).bind fun t4=>(if t4=true then((impl_copyCerts.f k p).bind fun t110001=>((impl_copyCert.f t).bind fun t115001=>(if t110001.length+1≤764877654105 then(lets (t110001++([t115001]:List S41)) fun y117999=>(if all.length+1≤4398046511104 then(lets (all++([(⟨n,y117999⟩:S59)]:List S59)) fun y120999=>(impl_seeker_seek_0.l0 k y120999 0 (⟨s,t,n,all⟩:S91) p))else none))else none)))else(impl_seeker_seek_0.l1 k all 0 (⟨s,t,n,all⟩:S91) p)))) r→Evt (fun k=>impl_seeker_seek_0.f k (⟨s,t,n,all⟩:S91) p) r:=fun r h=>Evt.succ (h.eq fun k=>by rw [impl_seeker_seek_0.f,if_neg c5,if_neg c60])
    cases hb:fits (rd_T57 s.f2 n).f0 p t with
    | false=>
      obtain⟨r,r1,r2,r3⟩:=l1 _ 0 all rfl (Nat.zero_le _) ha hw
      refine⟨r,ff r (Evt.bind ef ?_),gg r (Evt.bind eg ?_),r3⟩
      · simp only [hb,Bool.false_eq_true,if_false];exact r1
      · simp only [hb,Bool.false_eq_true,if_false];exact r2
    | true=>
      have hc1:(p.length+1≤764877654105)=True:=eq_true (by omega)
      have hc2:(all.length+1≤4398046511104)=True:=eq_true (by omega)
      obtain⟨r,r1,r2,r3⟩:=l0 _ 0 (all++ [⟨n,p++ [t]⟩]) rfl (Nat.zero_le _) (by rw [List.length_append];simp only [List.length_cons,List.length_nil];omega) (fun w hx=>(List.mem_append.1 hx).elim (hw w) fun q=>by
        rw [List.mem_singleton.1 q]
        have:=hp.snoc (c:=t) (by omega) ht
        exact⟨Nat.le_trans this.1 (by decide),this.2⟩)
      refine⟨r,ff r (Evt.bind ef ?_),gg r (Evt.bind eg ?_),r3⟩
      · simp only [hb,if_true]
        refine Evt.bind (Evt.at_ 1048577 fun k hk=>certs_f p ⟨by omega,hp.2⟩ k hk) ?_
        simp only [cert_f t ht,Option.bind_some,hc1,hc2,if_true,lets]
        exact r1
      · simp only [hb,if_true]
        refine Evt.bind (Evt.at_ 1048577 fun k hk=>certs_g p ⟨by omega,hp.2⟩ k hk) ?_
        simp only [cert_g t ht,Option.bind_some,hc1,hc2,if_true,lets]
        exact r2
end
theorem ways (s:S39)(t:S41)(hs:sm39 s)(ht:sm41 t)(hok:∃v,Evt (fun k=>spec_StoreOk.f k s) v∧Evt (fun k=>impl_StoreOk.f k s) v)(hct:∃v,Evt (fun k=>spec_CertOk.f k t) v∧Evt (fun k=>impl_CertOk.f k t) v):∃r,Evt (fun k=>spec_WaysTo.f k s t) r∧Evt (fun k=>impl_WaysTo.f k s t) r∧r.length≤60∧∀w∈r,SmW w:=by
  have hl:=hs.2.2.1.1
  have loop:∀(m i:Nat) (l:List S59) (x:Int),s.f2.length - i<m→i≤s.f2.length→l.length≤60→(∀w∈l,SmW w)→∃r,Evt (fun k=>spec_WaysTo.l0 k l (i:Int) x s t) r∧Evt (fun k=>impl_WaysTo.l0 k l (i:Int) x s t) r∧r.length≤60∧∀w∈r,SmW w:=by
    intro m
    induction m with
    |zero=>intro i l x h;omega
    | succ m im=>
      intro i l x hm hi h60 hlw
      by_cases c:(i:Int)<(s.f2.length:Int)
      · obtain⟨r',s1,s2,s3,s4⟩:=seek s t (i:Int) hs ht (by omega) c 5 [] l (by simp) ⟨Nat.zero_le _,fun e h=>by cases h⟩ h60 hlw
        obtain⟨r,r1,r2,r3⟩:=im (i+1) r' (i:Int) (by omega) (by omega) s3 s4
        refine⟨r,Evt.succ (Evt.eq (Evt.bind s1 (g:=fun k z=>spec_WaysTo.l0 k z ((i+1:Nat):Int) (i:Int) s t) r1) fun k=>?_),Evt.succ (Evt.eq (Evt.bind s2 (g:=fun k z=>impl_WaysTo.l0 k z ((i+1:Nat):Int) (i:Int) s t) r2) fun k=>?_),r3⟩
        · rw [spec_WaysTo.l0,if_pos c,ws (by omega)]
        · rw [impl_WaysTo.l0,if_pos c,ws (by omega)]
      · have hc:(0+l.length≤4398046511104)=True:=eq_true (by omega)
        refine⟨l,Evt.succ (.of fun k=>?_),Evt.succ (.of fun k=>by rw [impl_WaysTo.l0,if_neg c]),h60,hlw⟩
        rw [spec_WaysTo.l0,if_neg c,if_neg (by omega)]
        simp only [hc,if_true,lets,List.nil_append]
  obtain⟨v,v1,v2⟩:=hok
  obtain⟨u,u1,u2⟩:=hct
  cases v with
  |false=>exact⟨[],Evt.eq (Evt.bind v1 (g:=fun k t5=>if t5=true then _ else some ([]:List S59)) (.of fun k=>if_neg (by decide))) fun k=>rfl,Evt.eq (Evt.bind v2 (g:=fun k t5=>if t5=true then _ else some ([]:List S59)) (.of fun k=>if_neg (by decide))) fun k=>rfl,Nat.zero_le _,fun w h=>by cases h⟩
  | true=>
    cases u with
    | false=>
      refine⟨[],?_,?_,Nat.zero_le _,fun w h=>by cases h⟩
      · unfold spec_WaysTo.f
        refine Evt.bind v1 ?_
        simp only [if_true]
        exact Evt.bind u1 (.of fun k=>if_neg (by decide))
      · unfold impl_WaysTo.f
        refine Evt.bind v2 ?_
        simp only [if_true]
        exact Evt.bind u2 (.of fun k=>if_neg (by decide))
    | true=>
      obtain⟨r,r1,r2,r3⟩:=loop _ 0 [] 0 (Nat.lt_succ_self _) (Nat.zero_le _) (Nat.zero_le _) (fun w h=>by cases h)
      refine⟨r,?_,?_,r3⟩
      · unfold spec_WaysTo.f
        refine Evt.bind v1 ?_
        simp only [if_true]
        refine Evt.bind u1 ?_
        simp only [if_true]
        exact r1
      · unfold impl_WaysTo.f
        refine Evt.bind v2 ?_
        simp only [if_true]
        refine Evt.bind u2 ?_
        simp only [if_true]
        exact r2
end Go.Proofs.YtncddikfafgklaaGreatDoor.WaysFnExactWaysTo

/- Stores that are drawn. Plain lemmas, no condition. -/
import Derived.Test.YtfcpjeeeddjakaaGreatFineFnPlans
namespace Go.Proofs.YtfcpjeeeddjakaaGreat.StoreDrawFnPlans
open Go.RowKit YtfcpjeeeddjakaaGreatW.PrintWords YtfcpjeeeddjakaaGreatW.PrintLast ZOpen Z F
open ZP FamFnPlans ItemFnPlans CertSpecFnPlans DrawFnPlans CopyFnPlans CrlSpecFnPlans FineFnPlans DigestFnPlans
set_option linter.unusedVariables false
set_option linter.unusedSimpArgs false
set_option maxHeartbeats 1000000
section
variable {b:List Int} {p q n:Int} {β:Type} {Q:β→Prop}
theorem bBelow (hi:In b p){g:Nat→Int×S110→Option β}(K:∀r,In b r.2.f1→0≤r.1→(0<n→r.1<n)→Gets (fun k=>g k r) Q):Gets (fun k=>(spec_l01Below_0.f (⟨b,p,q⟩:S110) n).bind (g k)) Q:=Gets.bind (below b p q n hi) fun r h=>K r h.1 h.2.1 h.2.2
theorem bOnce (hi:In b p){g:Nat→Bool×S110→Option β}(K:∀r,In b r.2.f1→Gets (fun k=>g k r) Q):Gets (fun k=>(spec_l01Once_0.f (⟨b,p,q⟩:S110) n).bind (g k)) Q:=Gets.bind (once b p q n hi) fun r h=>K r h
end
def Made10 (b:List Int)(by_:Int)(r:S103×S110):Prop:=In b r.2.f1∧SmR r.1∧(0≤by_∧by_≤5→r.1.f6.size=15)
theorem revs_end {b:List Int}{p q:Int}(x:S103)(by_:Int)(hx:SmR x)(hp:In b p):Gets (fun k=>(spec_SignedCrl.f k x by_).bind fun t=>some ((⟨t.f0,t.f1,t.f2,t.f3,t.f4,t.f5,t.f6⟩:S103),(⟨b,p,q⟩:S110))) (Made10 b by_):=
  Gets.bind (signed_crl x by_ hx) fun t ht=>Gets.now ⟨hp,ht⟩
theorem ln {α:Type}{l:List α}{x:α}{i:Nat}(h:l.length=i):(l++ [x]).length=i+1:=by rw [List.length_append,h];rfl
section
variable (a0:S110) (s:ByteArray) (hs:s.size≤1000000) (by_:Int) (t:Int×S110)
include hs
theorem rl0:∀(m i:Nat) (l:List S133) (x p q:Int),4 - i<m→l.length=i→i≤4→In a0.f0 p→Gets (fun k=>spec_l10Made_0.l0 k l x (i:Int) p q a0 s by_ t) (Made10 a0.f0 by_)
  |0,i,l,x,p,q,hm,hl,hi,hp=>absurd hm (by omega)
  | m+1,i,l,x,p,q,hm,hl,hi,hp=>by
    refine Gets.succ ?_
    simp only [spec_l10Made_0.l0]
    refine bBelow hp fun r h0 h1 h2=>Gets.ite (fun c=>?_) fun _=>revs_end _ _ ⟨hs,by show l.length≤_;omega,Nat.zero_le _⟩ h0
    have h2:=h2 (by decide)
    refine bBelow h0 fun u u0 _ _=>bBelow u0 fun v v0 _ _=>?_
    rw [ws (by omega)]
    refine Gets.ite (fun _=>bOnce v0 fun w w0=>Gets.ite (fun _=>?_) fun _=>?_) fun _=>?_
    all_goals exact Gets.must (by omega) (Gets.lets_ (rl0 m (i+1) _ _ _ _ (by omega) (ln hl) (by omega) (by assumption)))
theorem rl1:∀(m i:Nat) (l:List S133) (x p q:Int),4 - i<m→l.length=i→i≤4→In a0.f0 p→Gets (fun k=>spec_l10Made_0.l1 k l x (i:Int) p q a0 s by_ t) (Made10 a0.f0 by_)
  |0,i,l,x,p,q,hm,hl,hi,hp=>absurd hm (by omega)
  | m+1,i,l,x,p,q,hm,hl,hi,hp=>by
    refine Gets.succ ?_
    simp only [spec_l10Made_0.l1]
    refine bBelow hp fun r h0 h1 h2=>Gets.ite (fun c=>?_) fun _=>revs_end _ _ ⟨hs,by show l.length≤_;omega,Nat.zero_le _⟩ h0
    have h2:=h2 (by decide)
    refine bBelow h0 fun u u0 _ _=>bBelow u0 fun v v0 _ _=>?_
    rw [ws (by omega)]
    refine Gets.ite (fun _=>bOnce v0 fun w w0=>Gets.ite (fun _=>?_) fun _=>?_) fun _=>?_
    all_goals exact Gets.must (by omega) (Gets.lets_ (rl1 m (i+1) _ _ _ _ (by omega) (ln hl) (by omega) (by assumption)))
theorem rl2:∀(m i:Nat) (l:List S133) (x p q:Int),4 - i<m→l.length=i→i≤4→In a0.f0 p→Gets (fun k=>spec_l10Made_0.l2 k l x (i:Int) p q a0 s by_ t) (Made10 a0.f0 by_)
  |0,i,l,x,p,q,hm,hl,hi,hp=>absurd hm (by omega)
  | m+1,i,l,x,p,q,hm,hl,hi,hp=>by
    refine Gets.succ ?_
    simp only [spec_l10Made_0.l2]
    refine bBelow hp fun r h0 h1 h2=>Gets.ite (fun c=>?_) fun _=>revs_end _ _ ⟨hs,by show l.length≤_;omega,Nat.zero_le _⟩ h0
    have h2:=h2 (by decide)
    refine bBelow h0 fun u u0 _ _=>bBelow u0 fun v v0 _ _=>?_
    rw [ws (by omega)]
    exact Gets.must (by omega) (Gets.lets_ (rl2 m (i+1) _ _ _ _ (by omega) (ln hl) (by omega) (by assumption)))
theorem rl3:∀(m i:Nat) (l:List S133) (x p q:Int),4 - i<m→l.length=i→i≤4→In a0.f0 p→Gets (fun k=>spec_l10Made_0.l3 k l x (i:Int) p q a0 s by_ t) (Made10 a0.f0 by_)
  |0,i,l,x,p,q,hm,hl,hi,hp=>absurd hm (by omega)
  | m+1,i,l,x,p,q,hm,hl,hi,hp=>by
    refine Gets.succ ?_
    simp only [spec_l10Made_0.l3]
    refine bBelow hp fun r h0 h1 h2=>Gets.ite (fun c=>?_) fun _=>revs_end _ _ ⟨hs,by show l.length≤_;omega,Nat.zero_le _⟩ h0
    have h2:=h2 (by decide)
    refine bBelow h0 fun u u0 _ _=>bBelow u0 fun v v0 _ _=>?_
    rw [ws (by omega)]
    exact Gets.must (by omega) (Gets.lets_ (rl3 m (i+1) _ _ _ _ (by omega) (ln hl) (by omega) (by assumption)))
end
theorem made10 {b:List Int}{p q:Int}{s:ByteArray}{by_:Int}(hs:s.size≤1000000)(hp:In b p):Gets (fun k=>spec_l10Made_0.f k (⟨b,p,q⟩:S110) s by_) (Made10 b by_):=by
  unfold spec_l10Made_0.f
  refine bBelow hp fun x x0 _ _=>bOnce x0 fun y y0=>Gets.ite (fun _=>bBelow y0 fun z z0 _ _=>bOnce z0 fun u u0=>Gets.ite (fun _=>?_) fun _=>?_) fun _=>bOnce y0 fun u u0=>Gets.ite (fun _=>?_) fun _=>?_
  · exact rl0 _ s hs by_ _ _ 0 [] _ _ _ (Nat.lt_succ_self _) rfl (Nat.zero_le _) u0
  · exact rl1 _ s hs by_ _ _ 0 [] _ _ _ (Nat.lt_succ_self _) rfl (Nat.zero_le _) u0
  · exact rl2 _ s hs by_ _ _ 0 [] _ _ _ (Nat.lt_succ_self _) rfl (Nat.zero_le _) u0
  · exact rl3 _ s hs by_ _ _ 0 [] _ _ _ (Nat.lt_succ_self _) rfl (Nat.zero_le _) u0
theorem bMade10 {b:List Int}{p q:Int}{s:ByteArray}{by_:Int}{β:Type}{Q:β→Prop}(hs:s.size≤1000000)(hp:In b p){g:Nat→S103×S110→Option β}(K:∀r,In b r.2.f1→SmR r.1→Gets (fun k=>g k r) Q):Gets (fun k=>(spec_l10Made_0.f k (⟨b,p,q⟩:S110) s by_).bind (g k)) Q:=Gets.bind (made10 hs hp) fun r h=>K r h.1 h.2.1
def LR (l:List S103)(n:Nat):Prop:=l.length≤n∧∀x∈l,SmR x
theorem LR.nil {n:Nat}:LR [] n:=⟨Nat.zero_le _,fun x h=>by cases h⟩
theorem LR.snoc {l:List S103}{n:Nat}{x:S103}(h:LR l n)(hx:SmR x):LR (l++ [x]) (n+1):=
  ⟨by rw [List.length_append];exact Nat.succ_le_succ h.1,fun y hy=>(List.mem_append.1 hy).elim (h.2 y) fun q=>by rw [List.mem_singleton.1 q];exact hx⟩
theorem lists12 (b:List Int)(p q:Int)(hp:In b p):Gets (fun k=>spec_l12Lists_0.f k (⟨b,p,q⟩:S110)) (fun r=>In b r.2.f1∧LR r.1 4):=by
  unfold spec_l12Lists_0.f
  repeat' first
    |with_reducible refine bOnce (by assumption) fun _ _=>?_
    |with_reducible refine bMade10 (by decide) (by assumption) fun _ _ _=>?_
    |with_reducible refine Gets.lets_ ?_
    |with_reducible refine Gets.must (by first|omega|(simp only [List.length_append,List.length_cons,List.length_nil];omega)) ?_
    |with_reducible refine Gets.ite (fun _=>?_) fun _=>?_
    |exact Gets.now ⟨by assumption,by repeat first|exact LR.nil|refine LR.snoc ?_ (by assumption)⟩
theorem pick (b:List Int)(p q:Int)(l:List ByteArray)(h0:0<l.length)(hl:∀e∈l,e.size≤1000)(hp:In b p):Gets (fun _=>spec_l01Pick_0.f (⟨b,p,q⟩:S110) l) (fun r=>In b r.2.f1∧r.1.size≤1000):=by
  unfold spec_l01Pick_0.f
  refine bBelow hp fun x x0 x1 x2=>Gets.must x1 (Gets.must (x2 (by omega)) (Gets.now ⟨x0,?_⟩))
  have x2:=x2 (by omega)
  obtain⟨n,hn⟩:∃n:Nat,x.1=n:=⟨x.1.toNat,by omega⟩
  rw [hn]
  exact hl _ (rd_mem (by omega))
theorem name8 (b:List Int)(p q:Int)(hp:In b p):Gets (fun _=>spec_l08Name_0.f (⟨b,p,q⟩:S110)) (fun r=>In b r.2.f1∧r.1.size≤1000):=by
  unfold spec_l08Name_0.f
  exact Gets.bind (pick b p q _ (by decide) (by intro e he;simp only [List.mem_cons,List.not_mem_nil,or_false] at he;rcases he with rfl|rfl|rfl|rfl|rfl|rfl|rfl <;> decide) hp) fun r hr=>Gets.now hr
theorem cert9 (b:List Int)(p q:Int)(hp:In b p):Gets (fun k=>spec_l09Cert_0.f k (⟨b,p,q⟩:S110)) (fun r=>In b r.2.f1∧SmC r.1∧r.1.f5.size=15):=by
  unfold spec_l09Cert_0.f
  refine bBelow hp fun x x0 _ _=>bBelow x0 fun y y0 _ _=>Gets.bind (name8 b _ _ y0) fun z hz=>Gets.bind (name8 b _ _ hz.1) fun u hu=>bBelow hu.1 fun v v0 v1 v2=>bOnce v0 fun w w0=>?_
  have v2:=v2 (by decide)
  exact Gets.bind (made b _ _ _ _ _ _ _ _ (Nat.le_trans hz.2 (by decide)) (Nat.le_trans hu.2 (by decide)) w0) fun r hr=>Gets.now ⟨hr.1,hr.2.1,hr.2.2 ⟨v1,by omega⟩⟩
theorem tm3 {x:Int}(n:Int)(h:0≤x)(hn:0<n):0≤Int.tmod x n∧Int.tmod x n<n:=by
  rw [Int.tmod_eq_emod_of_nonneg h]
  exact⟨Int.emod_nonneg _ (by omega),Int.emod_lt_of_pos _ hn⟩
theorem any9 (b:List Int)(p q:Int)(hp:In b p):Gets (fun k=>spec_l09Any_0.f k (⟨b,p,q⟩:S110)) (fun r=>In b r.2.f1∧sm125 r.1):=by
  unfold spec_l09Any_0.f
  refine bBelow hp fun x x0 _ _=>bBelow x0 fun y y0 y1 _=>Gets.bind (cert9 b _ _ y0) fun c hc=>Gets.bind (copy_c c.1 hc.2.1) fun d hd=>?_
  have m:=tm3 3 y1 (by decide)
  have h5:d.f5.size=15:=by rw [hd.2];exact hc.2.2
  have sm:=sm_c hd.1
  obtain⟨_,s1,s2,_,_,s5,_,_,_,s9,s10,s11,s12,_⟩:=sm
  have c9:=hd.1.2.2.2.1
  have c10:=hd.1.2.2.2.2.1
  refine Gets.ite (fun _=>Gets.must m.1 (Gets.must m.2 (Gets.now ⟨hc.1,sm_c hd.1⟩))) fun _=>?_
  refine Gets.ite (fun _=>Gets.must m.1 (Gets.must m.2 (Gets.now ⟨hc.1,trivial,?_,s2,trivial,trivial,s5,trivial,trivial,trivial,s9,s10,s11,s12,trivial⟩))) fun _=>?_
  · obtain⟨n,hn⟩:∃n:Nat,Int.tmod y.1 3=n:=⟨(Int.tmod y.1 3).toNat,by omega⟩
    have hl:∀e∈([(⟨#[]⟩:ByteArray),(⟨#[65]⟩:ByteArray),(⟨#[97,46]⟩:ByteArray)]:List ByteArray),e.size≤1048576:=by intro e he;simp only [List.mem_cons,List.not_mem_nil,or_false] at he;rcases he with rfl|rfl|rfl <;> decide
    rw [hn]
    exact hl _ (rd_mem (by show n<3;omega))
  refine Gets.ite (fun _=>Gets.must (by omega) (Gets.now ⟨hc.1,trivial,s1,s2,trivial,trivial,?_,trivial,trivial,trivial,s9,s10,s11,s12,trivial⟩)) fun _=>?_
  · show(d.f5.extract 1 d.f5.size).size≤_
    rw [ByteArray.size_extract]
    omega
  refine Gets.ite (fun _=>Gets.must m.1 (Gets.must m.2 (Gets.now ⟨hc.1,trivial,s1,s2,trivial,trivial,s5,trivial,trivial,trivial,s9,s10,s11,s12,trivial⟩))) fun _=>?_
  refine Gets.ite (fun _=>Gets.must (by omega) (Gets.lets_ (Gets.now ⟨hc.1,trivial,s1,s2,trivial,trivial,s5,trivial,trivial,trivial,⟨?_,fun _ _=>trivial⟩,s10,s11,s12,trivial⟩))) fun _=>?_
  · show(d.f9++ [_]).length≤_
    rw [List.length_append]
    simp only [List.length_cons,List.length_nil]
    omega
  refine Gets.ite (fun _=>Gets.must (by have:=c10.1;omega) (Gets.lets_ (Gets.now ⟨hc.1,trivial,s1,s2,trivial,trivial,s5,trivial,trivial,trivial,s9,⟨?_,fun e he=>?_⟩,s11,s12,trivial⟩))) fun _=>?_
  · show(d.f10++ [_,_]).length≤_
    rw [List.length_append]
    simp only [List.length_cons,List.length_nil]
    have:=c10.1
    omega
  · rcases List.mem_append.1 he with he|he
    · exact s10.2 e he
    · simp only [List.mem_cons,List.not_mem_nil,or_false] at he
      rcases he with rfl|rfl <;> decide
  exact Gets.ite (fun _=>Gets.now ⟨hc.1,trivial,s1,s2,trivial,trivial,s5,trivial,trivial,trivial,s9,s10,s11,Nat.zero_le _,trivial⟩) fun _=>Gets.now ⟨hc.1,trivial,s1,s2,trivial,trivial,s5,trivial,trivial,trivial,s9,s10,s11,s12,trivial⟩
theorem any10 (b:List Int)(p q:Int)(hp:In b p):Gets (fun k=>spec_l10Any_0.f k (⟨b,p,q⟩:S110)) (fun r=>In b r.2.f1∧sm103 r.1):=by
  unfold spec_l10Any_0.f
  refine bBelow hp fun x x0 _ _=>bBelow x0 fun y y0 y1 _=>bBelow y0 fun z z0 z1 z2=>Gets.bind (name8 b _ _ z0) fun u hu=>Gets.bind (made10 (Nat.le_trans hu.2 (by decide)) hu.1) fun c hc=>?_
  have z2:=z2 (by decide)
  have m:=tm3 3 y1 (by decide)
  have h6:=hc.2.2 ⟨z1,by omega⟩
  have hl:=hc.2.1.2.1
  obtain⟨s0,_,_,_,_,s5,s6,_⟩:=sm_r hc.2.1
  rw [crl_f c.1 (sm_r hc.2.1)]
  simp only [Option.bind_some]
  refine Gets.ite (fun _=>Gets.must m.1 (Gets.must m.2 (Gets.now ⟨hc.1,s0,trivial,trivial,trivial,trivial,s5,s6,trivial⟩))) fun _=>?_
  refine Gets.ite (fun _=>Gets.now ⟨hc.1,s0,trivial,trivial,trivial,trivial,s5,s6,trivial⟩) fun _=>?_
  refine Gets.ite (fun _=>Gets.must (by omega) (Gets.lets_ (Gets.now ⟨hc.1,s0,trivial,trivial,trivial,trivial,⟨?_,fun _ _=>trivial⟩,s6,trivial⟩))) fun _=>?_
  · show(c.1.f5++ [_]).length≤_
    rw [List.length_append]
    simp only [List.length_cons,List.length_nil]
    omega
  refine Gets.ite (fun _=>Gets.now ⟨hc.1,by show 1≤_;decide,trivial,trivial,trivial,trivial,s5,s6,trivial⟩) fun _=>?_
  refine Gets.ite (fun _=>Gets.must (by omega) (Gets.now ⟨hc.1,s0,trivial,trivial,trivial,trivial,s5,?_,trivial⟩)) fun _=>Gets.now ⟨hc.1,s0,trivial,trivial,trivial,trivial,s5,s6,trivial⟩
  show(c.1.f6.extract 1 c.1.f6.size).size≤_
  rw [ByteArray.size_extract]
  omega
def St (b:List Int)(r:S48×S110):Prop:=In b r.2.f1∧SmT 12 r.1∧0<r.1.f0.length
section
variable (a0:S110)
theorem sl1 (t:List S103×S110)(ht:In a0.f0 t.2.f1∧LR t.1 4):∀(m i:Nat) (l1:List S125) (l2:List S103) (l3:List S105),t.1.length - i<m→0<l1.length→SmT 12 ⟨l1,l2,l3⟩→Gets (fun k=>spec_l13Store_0.l1 k l1 l2 l3 (i:Int) a0 t) (St a0.f0)
  |0,i,l1,l2,l3,hm,hq,hs=>absurd hm (by omega)
  | m+1,i,l1,l2,l3,hm,hq,hs=>by
    have h4:=ht.2.1
    refine Gets.succ ?_
    simp only [spec_l13Store_0.l1]
    refine Gets.ite (fun c=>Gets.must (by omega) (Gets.must c (Gets.bind (add_crl _ _ hs (ht.2.2 (rd_T103 t.1 (i:Int)) (rd_mem (by omega)))) fun r hr=>?_))) fun _=>Gets.now ⟨ht.1,hs,hq⟩
    rw [ws (by omega)]
    exact sl1 t ht m (i+1) _ _ _ (by omega) (Nat.lt_of_lt_of_le hq hr.2) hr.1
theorem sl3 (t:List S103×S110)(ht:In a0.f0 t.2.f1∧LR t.1 4):∀(m i:Nat) (l1:List S125) (l2:List S103) (l3:List S105),t.1.length - i<m→0<l1.length→SmT 12 ⟨l1,l2,l3⟩→Gets (fun k=>spec_l13Store_0.l3 k l1 l2 l3 (i:Int) a0 t) (St a0.f0)
  |0,i,l1,l2,l3,hm,hq,hs=>absurd hm (by omega)
  | m+1,i,l1,l2,l3,hm,hq,hs=>by
    have h4:=ht.2.1
    refine Gets.succ ?_
    simp only [spec_l13Store_0.l3]
    refine Gets.ite (fun c=>Gets.must (by omega) (Gets.must c (Gets.bind (add_crl _ _ hs (ht.2.2 (rd_T103 t.1 (i:Int)) (rd_mem (by omega)))) fun r hr=>?_))) fun _=>Gets.now ⟨ht.1,hs,hq⟩
    rw [ws (by omega)]
    exact sl3 t ht m (i+1) _ _ _ (by omega) (Nat.lt_of_lt_of_le hq hr.2) hr.1
theorem sl0:∀(m i:Nat) (l1:List S125) (l2:List S103) (l3:List S105) (p q:Int),4 - i<m→i≤4→0<l1.length→SmT 12 ⟨l1,l2,l3⟩→In a0.f0 p→Gets (fun k=>spec_l13Store_0.l0 k l1 l2 l3 (i:Int) p q a0) (St a0.f0)
  |0,i,l1,l2,l3,p,q,hm,hi,hq,hs,hp=>absurd hm (by omega)
  | m+1,i,l1,l2,l3,p,q,hm,hi,hq,hs,hp=>by
    refine Gets.succ ?_
    simp only [spec_l13Store_0.l0]
    refine bBelow hp fun r h0 h1 h2=>Gets.ite (fun c=>?_) fun _=>Gets.bind (lists12 _ _ _ h0) fun t ht=>sl1 _ t ht _ 0 _ _ _ (Nat.lt_succ_self _) hq hs
    have h2:=h2 (by decide)
    rw [ws (by omega)]
    refine bBelow h0 fun u u0 _ _=>Gets.ite (fun _=>?_) fun _=>Gets.ite (fun _=>?_) fun _=>Gets.ite (fun _=>?_) fun _=>?_
    all_goals exact Gets.bind (made _ _ _ _ _ _ _ _ _ (by decide) (by decide) u0) fun c hc=>Gets.bind (add_cert _ _ hs hc.2.1) fun r hr=>sl0 m (i+1) _ _ _ _ _ (by omega) (by omega) (Nat.lt_of_lt_of_le hq hr.2) hr.1 hc.1
theorem sl2:∀(m i:Nat) (l1:List S125) (l2:List S103) (l3:List S105) (p q:Int),4 - i<m→i≤4→0<l1.length→SmT 12 ⟨l1,l2,l3⟩→In a0.f0 p→Gets (fun k=>spec_l13Store_0.l2 k l1 l2 l3 (i:Int) p q a0) (St a0.f0)
  |0,i,l1,l2,l3,p,q,hm,hi,hq,hs,hp=>absurd hm (by omega)
  | m+1,i,l1,l2,l3,p,q,hm,hi,hq,hs,hp=>by
    refine Gets.succ ?_
    simp only [spec_l13Store_0.l2]
    refine bBelow hp fun r h0 h1 h2=>Gets.ite (fun c=>?_) fun _=>Gets.bind (lists12 _ _ _ h0) fun t ht=>sl3 _ t ht _ 0 _ _ _ (Nat.lt_succ_self _) hq hs
    have h2:=h2 (by decide)
    rw [ws (by omega)]
    refine bBelow h0 fun u u0 _ _=>Gets.ite (fun _=>?_) fun _=>Gets.ite (fun _=>?_) fun _=>Gets.ite (fun _=>?_) fun _=>?_
    all_goals exact Gets.bind (made _ _ _ _ _ _ _ _ _ (by decide) (by decide) u0) fun c hc=>Gets.bind (add_cert _ _ hs hc.2.1) fun r hr=>sl2 m (i+1) _ _ _ _ _ (by omega) (by omega) (Nat.lt_of_lt_of_le hq hr.2) hr.1 hc.1
end
theorem anchor12:Gets (fun k=>spec_l12Anchor.f k) (fun a=>a.f0=(⟨#[114,111,111,116]⟩:ByteArray)∧a.f1.size=15):=by
  unfold spec_l12Anchor.f
  exact Gets.bind (pub 0) fun t ht=>Gets.now ⟨rfl,ht.2 (by decide) (by decide)⟩
theorem fineSign {c:S125}(h:FineC c)(s:ByteArray):FineC { c with f12:=s }:=⟨h.n0,h.n3,h.n4,h.n7,h.n8,h.s1,h.s2,h.k5,h.p9,h.a10,h.a11⟩
def First (b:List Int)(r:S125×S110):Prop:=In b r.2.f1∧SmC r.1∧FineC r.1∧r.1.f12.size=15
theorem fineSm {c:S125}(h:FineC c)(h12:c.f12.size≤15):SmC c:=
  ⟨Nat.le_trans h.s1.2.2 (by decide),Nat.le_trans h.s2.2.2 (by decide),by have:=h.k5;omega,Nat.le_trans h.p9.2.1 (by decide),⟨Nat.le_trans h.a10.2.1 (by decide),fun e he=>Nat.le_trans (h.a10.2.2 e he).2.2 (by decide)⟩,⟨Nat.le_trans h.a11.2.1 (by decide),fun e he=>Nat.le_trans (h.a11.2.2 e he).2.2 (by decide)⟩,by omega⟩
theorem leafF {c:S125}{b:List Int}{p q:Int}(hf:FineC c)(hz:c.f12.size≤15)(hp:In b p):Gets (fun k=>(spec_Signed.f k c 0).bind fun t=>some ((⟨t.f0,t.f1,t.f2,t.f3,t.f4,t.f5,t.f6,t.f7,t.f8,t.f9,t.f10,t.f11,t.f12⟩:S125),(⟨b,p,q⟩:S110))) (First b):=by
  have hc:=fineSm hf hz
  refine Gets.bind (P:=fun d:S125=>∃s:ByteArray,d= { c with f12:=s }∧s.size=15) ?_ fun d hd=>?_
  · unfold spec_Signed.f
    rw [cert_f c (sm_c hc)]
    simp only [Option.bind_some]
    obtain⟨t,t1,t2⟩:=body_text c hc
    refine Gets.bind (P:=fun t:ByteArray=>t.size≤4000) ⟨t,t1,t2⟩ fun t ht=>?_
    obtain⟨s,s1,s2⟩:=sign 0 t (by omega)
    exact Gets.bind (P:=fun s:ByteArray=>s.size=15) ⟨s,s1,s2.2 (by decide) (by decide)⟩ fun s hs=>Gets.now ⟨s,rfl,hs⟩
  · obtain⟨s,rfl,hs⟩:=hd
    exact Gets.now ⟨hp,fineSm (fineSign hf s) (Nat.le_of_eq hs),fineSign hf s,hs⟩
theorem first(b:List Int)(i h:Int)(hi:In b i):Gets (fun k=>spec_l09Made_0.f k (⟨b,i,h⟩:S110) 1 (⟨#[114,111,111,116]⟩:ByteArray) 0 (⟨#[99,97,46,111,114,103]⟩:ByteArray) 1 true) (First b):=by
  unfold spec_l09Made_0.f
  refine Gets.bind (pub 1) fun key hk=>?_
  have k5:=hk.2 (by decide) (by decide)
  have z:(⟨#[]⟩:ByteArray).size≤15:=by decide
  have d1:(0:Int)≤1∧(1:Int)≤99:=by decide
  have d10:(0:Int)≤10∧(10:Int)≤99:=by decide
  have d40:(0:Int)≤40∧(40:Int)≤99:=by decide
  have d90:(0:Int)≤90∧(90:Int)≤99:=by decide
  have d99:(0:Int)≤99∧(99:Int)≤99:=by decide
  have d7:(0:Int)≤7∧(7:Int)≤7:=by decide
  refine Gets.bind (once b i h 4 hi) fun a ha=>Gets.ite (fun _=>Gets.bind (policiesF b _ _ ha) fun pl hpl=>?_) fun _=>?_
  · have p9:=hpl.2
    refine bBelow hpl.1 fun x x0 _ _=>?_
    refine Gets.ite (fun _=>leafF ⟨d1,d10,d40,d99,d7,nf_root,nf_ca,k5,p9,no_names,no_names⟩ z x0) fun _=>?_
    refine Gets.ite (fun _=>bBelow x0 fun y y0 y1 y2=>leafF ⟨d1,d10,d90,⟨y1,by have:=y2 (by decide);show y.1≤99;omega⟩,d7,nf_root,nf_ca,k5,p9,no_names,no_names⟩ z y0) fun _=>?_
    refine Gets.ite (fun _=>bBelow x0 fun y y0 y1 y2=>leafF ⟨d1,d10,d90,d99,⟨y1,by have:=y2 (by decide);show y.1≤7;omega⟩,nf_root,nf_ca,k5,p9,no_names,no_names⟩ z y0) fun _=>?_
    refine Gets.ite (fun _=>Gets.bind (namesF b _ _ x0) fun y hy=>leafF ⟨d1,d10,d90,d99,d7,nf_root,nf_ca,k5,p9,hy.2,no_names⟩ z hy.1) fun _=>?_
    refine Gets.ite (fun _=>Gets.bind (namesF b _ _ x0) fun y hy=>leafF ⟨d1,d10,d90,d99,d7,nf_root,nf_ca,k5,p9,no_names,hy.2⟩ z hy.1) fun _=>?_
    exact Gets.ite (fun _=>leafF ⟨d1,d10,d90,d99,d7,nf_root,nf_ca,k5,p9,no_names,no_names⟩ z x0) fun _=>leafF ⟨d1,d10,d90,d99,d7,nf_root,nf_ca,k5,p9,no_names,no_names⟩ z x0
  · have p9:=pol12
    refine bBelow ha fun x x0 _ _=>?_
    refine Gets.ite (fun _=>leafF ⟨d1,d10,d40,d99,d7,nf_root,nf_ca,k5,p9,no_names,no_names⟩ z x0) fun _=>?_
    refine Gets.ite (fun _=>bBelow x0 fun y y0 y1 y2=>leafF ⟨d1,d10,d90,⟨y1,by have:=y2 (by decide);show y.1≤99;omega⟩,d7,nf_root,nf_ca,k5,p9,no_names,no_names⟩ z y0) fun _=>?_
    refine Gets.ite (fun _=>bBelow x0 fun y y0 y1 y2=>leafF ⟨d1,d10,d90,d99,⟨y1,by have:=y2 (by decide);show y.1≤7;omega⟩,nf_root,nf_ca,k5,p9,no_names,no_names⟩ z y0) fun _=>?_
    refine Gets.ite (fun _=>Gets.bind (namesF b _ _ x0) fun y hy=>leafF ⟨d1,d10,d90,d99,d7,nf_root,nf_ca,k5,p9,hy.2,no_names⟩ z hy.1) fun _=>?_
    refine Gets.ite (fun _=>Gets.bind (namesF b _ _ x0) fun y hy=>leafF ⟨d1,d10,d90,d99,d7,nf_root,nf_ca,k5,p9,no_names,hy.2⟩ z hy.1) fun _=>?_
    exact Gets.ite (fun _=>leafF ⟨d1,d10,d90,d99,d7,nf_root,nf_ca,k5,p9,no_names,no_names⟩ z x0) fun _=>leafF ⟨d1,d10,d90,d99,d7,nf_root,nf_ca,k5,p9,no_names,no_names⟩ z x0
theorem anc_ok (a:S105)(h:NameF a.f0)(h1:a.f1.size=15):Evt (fun k=>spec_l13Anchor.f k a) true:=by
  unfold spec_l13Anchor.f
  exact Evt.yes h.1 (.of fun k=>by rw [h1];rfl)
theorem st_end (c:S125)(s:S48)(hs:s=⟨[c],[],s.f2⟩)(hc:FineC c)(h12:c.f12.size=15)(h:Evt (fun k=>spec_StoreOk.l2 k 0 s) true)(h3:s.f2.length≤3):Evt (fun k=>spec_StoreOk.f k s) true:=by
  obtain⟨t,t1⟩:=text_fine c hc h12
  generalize s.f2=l3 at hs h3
  subst hs
  have l1:Evt (fun k=>spec_StoreOk.l1 k ([]:List ByteArray) 0 (⟨[c],[],l3⟩:S48)) true:=Evt.succ (h.eq fun k=>rfl)
  have l0':Evt (fun k=>spec_StoreOk.l0 k ([t]:List ByteArray) 1 (⟨[c],[],l3⟩:S48)) true:=Evt.succ (l1.eq fun k=>rfl)
  unfold spec_StoreOk.f
  refine Evt.eq (Evt.succ (f:=fun k=>spec_StoreOk.l0 k ([]:List ByteArray) 0 (⟨[c],[],l3⟩:S48)) ?_) fun k=>by rw [if_neg (by show¬(12:Int)<1;decide),if_neg (by show¬(8:Int)<0;decide),if_neg (by show¬(3:Int)<(l3.length:Int);have:l3.length≤3:=h3;omega)]
  refine Evt.eq (Evt.bind t1 (g:=fun k t30=>if t30.2=true then((spec_l13In.f k [] t30.1).bind fun t33=>(if t33=true then(some false)else(if([]:List ByteArray).length+1≤8796093022208 then(lets ([]++([t30.1]:List ByteArray)) fun y39=>(spec_StoreOk.l0 k y39 (wrap64 (0+1)) (⟨[c],[],l3⟩:S48)))else none)))else(some false)) ?_) fun k=>rfl
  simp only [if_true]
  refine Evt.bind (a:=false) (late 1 fun k=>rfl) ?_
  exact l0'.eq fun k=>by rw [if_neg (by decide),if_pos (by decide),show wrap64 (0+1)=1 from w64 (by decide) (by decide)];rfl
theorem anc1 (c:S125)(a:S105)(ha:a.f0=(⟨#[114,111,111,116]⟩:ByteArray))(h1:a.f1.size=15):Evt (fun k=>spec_StoreOk.l2 k 0 (⟨[c],[],[a]⟩:S48)) true:=by
  have e2:Evt (fun k=>spec_StoreOk.l2 k 1 (⟨[c],[],[a]⟩:S48)) true:=Evt.succ (.of fun k=>rfl)
  have e3:Evt (fun k=>spec_StoreOk.l3 k 0 (⟨[c],[],[a]⟩:S48) 0) true:=Evt.succ (e2.eq fun k=>by show spec_StoreOk.l2 k (wrap64 (0+1)) _=_;rw [show wrap64 (0+1)=1 from w64 (by decide) (by decide)])
  exact Evt.succ (Evt.eq (Evt.yes (anc_ok a (ha ▸ nf_root) h1) e3) fun k=>rfl)
theorem anc2 (c:S125)(a o:S105)(ha:a.f0=(⟨#[114,111,111,116]⟩:ByteArray))(h1:a.f1.size=15)(ho:o.f0=(⟨#[111,114,103]⟩:ByteArray))(h2:o.f1.size=15):Evt (fun k=>spec_StoreOk.l2 k 0 (⟨[c],[],[a,o]⟩:S48)) true:=by
  have e2:Evt (fun k=>spec_StoreOk.l2 k 2 (⟨[c],[],[a,o]⟩:S48)) true:=Evt.succ (.of fun k=>rfl)
  have e3:Evt (fun k=>spec_StoreOk.l3 k 1 (⟨[c],[],[a,o]⟩:S48) 1) true:=Evt.succ (e2.eq fun k=>by show spec_StoreOk.l2 k (wrap64 (1+1)) _=_;rw [show wrap64 (1+1)=2 from w64 (by decide) (by decide)])
  have e4:Evt (fun k=>spec_StoreOk.l3 k 0 (⟨[c],[],[a,o]⟩:S48) 1) true:=Evt.succ (e3.eq fun k=>by
    show(if a.f0.toList=o.f0.toList then some false else spec_StoreOk.l3 k (wrap64 (0+1)) (⟨[c],[],[a,o]⟩:S48) 1)=_
    rw [if_neg (by rw [ha,ho,ByteArray.toList_eq,ByteArray.toList_eq];decide),show wrap64 (0+1)=1 from w64 (by decide) (by decide)])
  have e5:Evt (fun k=>spec_StoreOk.l2 k 1 (⟨[c],[],[a,o]⟩:S48)) true:=Evt.succ (Evt.eq (Evt.yes (anc_ok o (ho ▸ nf_org) h2) e4) fun k=>rfl)
  have e6:Evt (fun k=>spec_StoreOk.l3 k 0 (⟨[c],[],[a,o]⟩:S48) 0) true:=Evt.succ (e5.eq fun k=>by show spec_StoreOk.l2 k (wrap64 (0+1)) _=_;rw [show wrap64 (0+1)=1 from w64 (by decide) (by decide)])
  exact Evt.succ (Evt.eq (Evt.yes (anc_ok a (ha ▸ nf_root) h1) e6) fun k=>rfl)
theorem add_first (c:S125)(l3:List S105)(hc:SmC c)(hs:SmT 12 (⟨[],[],l3⟩:S48))(h:Evt (fun k=>spec_StoreOk.f k (⟨[c],[],l3⟩:S48)) true):Gets (fun k=>spec_AddCert.f k (⟨[],[],l3⟩:S48) c) (fun r=>SmT 12 r.1∧0<r.1.f0.length):=by
  unfold spec_AddCert.f
  refine Gets.bind (P:=fun r=>r=(⟨[],[],l3⟩:S48)) ⟨_,store_fE _ (sm_s (by decide) hs),rfl⟩ fun r hr=>?_
  subst hr
  rw [cert_f c (sm_c hc)]
  simp only [Option.bind_some]
  refine Gets.must (by decide) (Gets.lets_ ?_)
  refine Gets.bind (P:=fun v=>v=true) ⟨true,h,rfl⟩ fun v hv=>?_
  subst hv
  exact Gets.ite (fun _=>Gets.now ⟨⟨⟨by show 1≤12;decide,fun e he=>by rw [List.mem_singleton.1 he];exact hc⟩,hs.2.1,hs.2.2⟩,by show 0<1;decide⟩) fun h=>absurd rfl h
theorem store13 (b:List Int)(p q:Int)(hp:In b p):Gets (fun k=>spec_l13Store_0.f k (⟨b,p,q⟩:S110)) (St b):=by
  unfold spec_l13Store_0.f
  have go:∀l3:List S105,(l3.length≤3∧∀a∈l3,a.f0.size≤1000∧a.f1.size≤1000)→SmT 12 (⟨[],[],l3⟩:S48):=fun l3 h=>⟨⟨Nat.zero_le _,fun _ h=>by cases h⟩,⟨Nat.zero_le _,fun _ h=>by cases h⟩,h⟩
  refine Gets.bind anchor12 fun a ha=>bOnce hp fun x x0=>Gets.ite (fun _=>Gets.bind (pub 5) fun t ht=>Gets.must (by decide) (Gets.lets_ ?_)) fun _=>?_
  · have h15:=ht.2 (by decide) (by decide)
    refine Gets.bind (first b _ _ x0) fun c hc=>Gets.bind (add_first c.1 [a,⟨(⟨#[111,114,103]⟩:ByteArray),t⟩] hc.2.1 (go _ ⟨by show 2≤3;decide,fun e he=>?_⟩) (st_end _ _ rfl hc.2.2.1 hc.2.2.2 (anc2 _ _ _ ha.1 ha.2 rfl h15) (by show 2≤3;decide))) fun r hr=>sl0 _ _ 0 _ _ _ _ _ (Nat.lt_succ_self _) (Nat.zero_le _) hr.2 hr.1 hc.1
    simp only [List.mem_cons,List.not_mem_nil,or_false] at he
    rcases he with rfl|rfl
    · exact⟨by rw [ha.1];decide,by rw [ha.2];decide⟩
    · exact⟨by show 3≤_;decide,by show t.size≤_;rw [h15];decide⟩
  · exact Gets.bind (first b _ _ x0) fun c hc=>Gets.bind (add_first c.1 [a] hc.2.1 (go _ ⟨by show 1≤3;decide,fun e he=>by rw [List.mem_singleton.1 he];exact⟨by rw [ha.1];decide,by rw [ha.2];decide⟩⟩) (st_end _ _ rfl hc.2.2.1 hc.2.2.2 (anc1 _ _ ha.1 ha.2) (by show 1≤3;decide))) fun r hr=>sl2 _ _ 0 _ _ _ _ _ (Nat.lt_succ_self _) (Nat.zero_le _) hr.2 hr.1 hc.1
theorem sn {α:Type}{P:α→Prop}{l:List α}{x:α}{n:Nat}(hn:n≤100)(h:l.length≤n∧∀e∈l,P e)(hx:P x):(l++ [x]).length≤1048576∧∀e∈l++ [x],P e:=
  ⟨by rw [List.length_append];simp only [List.length_cons,List.length_nil];omega,fun e he=>(List.mem_append.1 he).elim (h.2 e) fun q=>by rw [List.mem_singleton.1 q];exact hx⟩
theorem any13 (b:List Int)(p q:Int)(hp:In b p):Gets (fun k=>spec_l13Any_0.f k (⟨b,p,q⟩:S110)) (fun r=>In b r.2.f1∧sm48 r.1):=by
  unfold spec_l13Any_0.f
  refine bBelow hp fun x x0 _ _=>Gets.bind (store13 b _ _ x0) fun s hs=>?_
  refine Gets.bind (P:=fun r=>r=s.1) ⟨s.1,store_fE s.1 (sm_s (by decide) hs.2.1),rfl⟩ fun r hr=>?_
  subst hr
  obtain⟨⟨h1,h2⟩,⟨h3,h4⟩,h5,h6⟩:=hs.2.1
  obtain⟨g1,g2,g3,_⟩:=sm_s (by decide) hs.2.1
  refine Gets.ite (fun _=>Gets.bind (any9 b _ _ hs.1) fun c hc=>Gets.must (by omega) (Gets.lets_ (Gets.now ⟨hc.1,sn (n:=12) (by decide) ⟨h1,g1.2⟩ hc.2,g2,g3,trivial⟩))) fun _=>?_
  refine Gets.ite (fun _=>?_) fun _=>?_
  · have h0:=hs.2.2
    exact Gets.must (by omega) (Gets.must (by omega) (Gets.lets_ (Gets.now ⟨hs.1,sn (n:=12) (by decide) ⟨h1,g1.2⟩ (g1.2 (rd_T125 s.1.f0 ((0:Nat):Int)) (rd_mem h0)),g2,g3,trivial⟩)))
  refine Gets.ite (fun _=>Gets.bind (any10 b _ _ hs.1) fun c hc=>Gets.must (by omega) (Gets.lets_ (Gets.now ⟨hc.1,g1,sn (n:=12) (by decide) ⟨h3,g2.2⟩ hc.2,g3,trivial⟩))) fun _=>?_
  refine Gets.ite (fun _=>Gets.bind anchor12 fun c hc=>Gets.must (by omega) (Gets.lets_ (Gets.now ⟨hs.1,g1,g2,sn (n:=3) (by decide) ⟨h5,g3.2⟩ ⟨by rw [hc.1];decide,by rw [hc.2];decide,trivial⟩,trivial⟩))) fun _=>?_
  exact Gets.ite (fun _=>Gets.bind (pub 2) fun c hc=>Gets.must (by omega) (Gets.lets_ (Gets.now ⟨hs.1,g1,g2,sn (n:=3) (by decide) ⟨h5,g3.2⟩ ⟨by show 10≤_;decide,Nat.le_trans hc.1 (by decide),trivial⟩,trivial⟩))) fun _=>Gets.now ⟨hs.1,g1,g2,g3,trivial⟩
end Go.Proofs.YtfcpjeeeddjakaaGreat.StoreDrawFnPlans

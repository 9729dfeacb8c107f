/- What a call that writes in some parts may rely on of what was there before; rows that are cut; cells that are cleared. Plain lemmas, no condition. -/
import Derived.Test.YtncddikfafgklaaGreatDoorZStr
import Derived.Lib.SliceRun
import Derived.Laws.Cover1
namespace Go.Proofs.YtncddikfafgklaaGreatDoor.Z
open Go.RowKit YtncddikfafgklaaGreatDoorW.PrintWords YtncddikfafgklaaGreatDoorW.PrintLast
theorem cell_lt {w:World}{a:Addr}{v:Value}(e:w.cell? a=some v):a.block<w.heap.size:=by
  unfold World.cell? at e
  split at e
  · rename_i hc
    exact(Array.getElem?_eq_some_iff.1 hc).1
  all_goals cases e
def Up {α:Type}(d:Kd α):Prop:=∀ {w w1:World},(∀a v,w.cell? a=some v→w1.cell? a=some v)→∀ {x cs},d.K w x cs→d.K w1 x cs
theorem up_int {k:IntKind}:Up (Kd.int k):=fun _ _ _ h=>h
theorem up_bool:Up Kd.bool:=fun _ _ _ h=>h
theorem up_string:Up Kd.string:=fun _ _ _ h=>h
theorem up_C {α:Type}{d:Kd α}(hd:Up d){w w1:World}(hc:∀a v,w.cell? a=some v→w1.cell? a=some v){B:Option Addr}{n:Nat}{xs:List α}(h:d.C w B n xs):d.C w1 B n xs:=by
  refine⟨h.1,h.2.1,fun hn=>?_⟩
  obtain⟨ad,e,g⟩:=h.2.2 hn
  refine⟨ad,e,fun j p hj=>?_⟩
  obtain⟨c,c1,c2,c3⟩:=g j p hj
  exact⟨c,c1,hd hc c2,fun i u hu=>hc _ _ (c3 i u hu)⟩
theorem up_slice {α:Type}{d:Kd α}(e:Nat)(hd:Up d):Up (Kd.slice e d):=by
  rintro w w1 hc xs cs ⟨A,c,rfl,hl,hr⟩
  exact⟨A,c,rfl,hl,up_C hd hc hr⟩
theorem up_pair {α β:Type}{a:Kd α}{b:Kd β}(ha:Up a)(hb:Up b):Up (Kd.pair a b):=by
  rintro w w1 hc x cs ⟨c0,c1,rfl,h0,h1⟩
  exact⟨c0,c1,rfl,ha hc h0,hb hc h1⟩
theorem up_iso {α β:Type}{d:Kd α}(f:β→α)(hd:Up d):Up (Kd.iso d f):=fun hc _ _ h=>hd hc h
def View (A:FP)(w wv:World):Prop:=∀a v,wv.cell? a=some v→w.cell? a=some v∧¬A a.block
section
variable {A A':FP} {w0 w wv:World} {rs:List Res}
theorem Hp.cell {a:Addr}{v:Value}(h:Hp A w0 w rs)(e:w0.cell? a=some v)(hA:¬A a.block):w.cell? a=some v:=by
  have hk:=h.kept a.block (cell_lt e) hA
  unfold World.cell? at e⊢
  rw [hk]
  exact e
theorem View.keepc (V:View A w0 wv)(h:Hp A w0 w rs){a:Addr}{v:Value}(e:wv.cell? a=some v):w.cell? a=some v:=h.cell (V a v e).1 (V a v e).2
theorem View.lend (V:View A w0 wv)(h:Hp A w0 w rs)(HL:∀k,A' k→A k∨w0.heap.size≤k):View A' w wv:=
  fun a v e=>⟨V.keepc h e,fun hA=>(HL _ hA).elim (V a v e).2 (fun h=>absurd (cell_lt (V a v e).1) (by omega))⟩
theorem Hp.view (h:Hp noFP w0 w rs)(HL:∀k,A' k→noFP k∨w0.heap.size≤k):View A' w w0:=
  fun a v e=>⟨h.keepc e,fun hA=>(HL _ hA).elim (fun h=>h) (fun h=>absurd (cell_lt e) (by omega))⟩
theorem View.ro {α:Type}{d:Kd α}(hd:Up d){B:Option Addr}{n:Nat}{xs:List α}(V:View A w0 wv)(h:Hp A w0 w rs)(hc:d.C wv B n xs):d.C w B n xs:=up_C hd (fun _ _ e=>V.keepc h e) hc
theorem hpn.{u}:(∀ {α:Type u} (a b:α) (l:List α),(a :: l).set 0 b=b :: l)∧(∀ {α:Type u} (a b:α) (n:Nat) (l:List α),(a :: l).set (n+1) b=a :: l.set n b)∧(∀ {α:Type u} (a:α) (l m:List α),(a :: l)++m=a :: (l++m))∧(∀ {α:Type u} (l:List α),[]++l=l):=
  ⟨fun _ _ _=>rfl,fun _ _ _ _=>rfl,fun _ _ _=>rfl,fun _=>rfl⟩
theorem hpm:(∀l:List Value,wrt l 0 []=l)∧(∀(a s:Value) (l ss:List Value),wrt (a :: l) 0 (s :: ss)=s :: wrt l 0 ss)∧(∀(a:Value) (n:Nat) (l ss:List Value),wrt (a :: l) (n+1) ss=a :: wrt l n ss)∧
    (∀rs ps:List Res,back rs [] ps=rs++ps)∧(∀(i:Nat) (p:Res) (rs ps:List Res) (is:List Nat),back rs (i :: is) (p :: ps)=back (rs.set i p) is ps)∧(∀rs:List Res,clr rs []=rs)∧(∀(rs:List Res) (j:Nat) (js:List Nat),clr rs (j :: js)=clr (rs.set j .emp) js):=
  ⟨fun l=>by cases l <;> rfl,fun _ _ _ _=>rfl,fun _ n _ ss=>by cases ss <;> rfl,fun _ _=>by rw [back],fun _ _ _ _ _=>by rw [back],fun _=>rfl,fun _ _ _=>rfl⟩
theorem ptn:(∀(l:List Value) (i:Nat) (a:Value),l.toArray.setIfInBounds i a=(l.set i a).toArray)∧(∀(a b:Value) (l:List Value),(a :: l).set 0 b=b :: l)∧(∀(a b:Value) (n:Nat) (l:List Value),(a :: l).set (n+1) b=a :: l.set n b)∧(∀n:Int,IntKind.i64.wrap n=wrap64 n)∧(∀n:Int,IntKind.i32.wrap n=wrap32 n):=
  ⟨fun _ _ _=>List.setIfInBounds_toArray ..,fun _ _ _=>rfl,fun _ _ _ _=>rfl,i64_w,i32_w⟩
theorem mpn:(∀ {α β:Type} (f:α→β) (l:List α),l.toArray.map f=(l.map f).toArray)∧(∀ {α β:Type} (f:α→β) (a:α) (l:List α),(a :: l).map f=f a :: l.map f)∧(∀ {α β:Type} (f:α→β),([]:List α).map f=[]):=
  ⟨fun _ _=>List.map_toArray ..,fun _ _ _=>rfl,fun _=>rfl⟩
theorem bxn:(∀w:World,boxFacts w []=True)∧(∀(w:World) (g:Nat) (cs:List Value) (t:TypeId) (rs:List Res),boxFacts w (.box g cs t :: rs)=(((∀i,w.cell? ⟨g,i,none⟩=cs[i]?)∧(∀i,w.frozen? ⟨g,i,none⟩=false))∧boxFacts w rs))∧(∀(w:World) (rs:List Res),boxFacts w (.emp :: rs)=boxFacts w rs)∧
    (∀(w:World) {α:Type} (d:Zd α) (x:α) (cs:List Value) (rs:List Res),boxFacts w (.own d x cs :: rs)=boxFacts w rs)∧(∀p:Prop,(p∧True)=p):=
  ⟨fun _=>rfl,fun _ _ _ _ _=>rfl,fun _ _=>rfl,fun _ _ _ _ _ _=>rfl,fun p=>and_true p⟩
theorem dcn:(∀h:Decidable True,@decide True h=true)∧(∀h:Decidable False,@decide False h=false)∧(!true)=false∧(!false)=true:=⟨fun _=>decide_eq_true trivial,fun _=>decide_eq_false id,rfl,rfl⟩
noncomputable def hide (A:FP)(w:World):World:=by
  classical
  exact { w with heap:=w.heap.mapIdx fun k o=>if A k then Obj.cells #[] 0 (0,0)else o }
theorem hide_block (A:FP)(w:World)(k:Nat)(h:¬A k):(hide A w).heap[k]?=w.heap[k]?:=by
  unfold hide
  simp only [Array.getElem?_mapIdx,h,if_false]
  cases w.heap[k]? <;> rfl
theorem hide_view (A:FP)(w:World):View A w (hide A w):=by
  intro a v e
  by_cases h:A a.block
  · exfalso
    have hb:(hide A w).heap[a.block]?=(w.heap[a.block]?).map (fun _=>Obj.cells #[] 0 (0,0)):=by
      unfold hide
      simp only [Array.getElem?_mapIdx,h,if_true]
    unfold World.cell? at e
    rw [hb] at e
    cases hw:w.heap[a.block]? with
    |none=>rw [hw] at e;cases e
    |some o=>rw [hw] at e;simp at e
  · refine⟨?_,h⟩
    unfold World.cell? at e⊢
    rw [hide_block A w _ h] at e
    exact e
theorem hide_cell {a:Addr}{v:Value}(e:w.cell? a=some v)(h:¬A a.block):(hide A w).cell? a=some v:=by
  unfold World.cell? at e⊢
  rw [hide_block A w _ h]
  exact e
section
variable {is:List Nat} (HD:∀(i:Nat) (r:Res),i ∉ is→rs[i]?=some r→∃S:FP,(∀k,S k→¬A' k)∧r.holds w S)
include HD
theorem hide_rd {α:Type}{d:Zd α}{e n c:Nat}{B:Option Addr}{xs:List α}(i:Nat)(hi:rs[i]?=some (.own (Zd.slice e d) xs [.slice B n c]))(hn:i ∉ is):d.kd.C (hide A' w) B n xs:=by
  obtain⟨S,h1,h2⟩:=HD i _ hn hi
  have h3:(Zd.slice e d).M (hide A' w) S xs [.slice B n c]:=(Zd.slice e d).keep (fun k hk _=>hide_block A' w k (h1 k hk)) h2
  obtain⟨B',c',he,_,hc⟩:=(Zd.slice e d).of_M h3
  injection he with he
  injection he with e1 e2 e3
  subst e1;subst e2
  exact hc
end
theorem Hp.hidec (h:Hp noFP w0 w rs)(HL:∀k,A' k→noFP k∨w0.heap.size≤k){a:Addr}{v:Value}(e:w0.cell? a=some v):(hide A' w).cell? a=some v:=
  hide_cell (h.keepc e) (fun hA=>(HL _ hA).elim (fun h=>h) (fun h=>absurd (cell_lt e) (by omega)))
theorem Hp.hideC {α:Type}{d:Kd α}(hd:Up d){B:Option Addr}{n:Nat}{xs:List α}(h:Hp noFP w0 w rs)(HL:∀k,A' k→noFP k∨w0.heap.size≤k)(hc:d.C w0 B n xs):d.C (hide A' w) B n xs:=up_C hd (fun _ _ e=>h.hidec HL e) hc
theorem View.hidec (V:View A w0 wv)(h:Hp A w0 w rs)(HL:∀k,A' k→A k∨w0.heap.size≤k){a:Addr}{v:Value}(e:wv.cell? a=some v):(hide A' w).cell? a=some v:=
  hide_cell (V.keepc h e) (fun hA=>(HL _ hA).elim (V a v e).2 (fun h=>absurd (cell_lt (V a v e).1) (by omega)))
theorem View.hideC {α:Type}{d:Kd α}(hd:Up d){B:Option Addr}{n:Nat}{xs:List α}(V:View A w0 wv)(h:Hp A w0 w rs)(HL:∀k,A' k→A k∨w0.heap.size≤k)(hc:d.C wv B n xs):d.C (hide A' w) B n xs:=up_C hd (fun _ _ e=>V.hidec h HL e) hc
end
section
variable {P:Program} {ops:Array Oper} {rest:List Oper} {o:Oper} {a:Act} {Q:Exit→Act→World→Prop} {A:FP} {w0 W:World} {rs:List Res} {K:Act→World→Prop}
theorem elem_of {t e:TypeId}(ht:P.underlying t=some (.slice e)):P.underlying t=some (.slice (P.elem t)):=by
  have:P.elem t=e:=by unfold Program.elem;rw [ht]
  rw [this];exact ht
theorem size_run {t e:TypeId}{z:Option Value}{size bytes:Nat}(ht:P.underlying t=some (.slice e))(hinfo:(P.info? e).map (fun i=>(i.zero,i.size,i.bytes))=some (z,size,bytes)):(sizeOf (P.elem t)).run P W=.ok size W:=by
  have h1:P.elem t=e:=by unfold Program.elem;rw [ht]
  obtain⟨i0,hi,hzz⟩:=Option.map_eq_some_iff.1 hinfo
  simp only [Prod.mk.injEq] at hzz
  rw [h1]
  simp [sizeOf,typeInfo,hi,hzz.2.1]
theorem run_cuth {t e:TypeId} {x hi:Operand} {B:Option Addr} {n c:Nat} {l:Int} {z:Option Value} {size bytes:Nat} (ho:o.op=.slice t x none (some hi) none) (hx:a.eval x=.slice B n c) (hhi:a.eval hi=.int .i64 l) (ht:P.underlying t=some (.slice e))
    (hinfo:(P.info? e).map (fun i=>(i.zero,i.size,i.bytes))=some (z,size,bytes)) (h0:0≤l) (h1:l≤c):(execOp a.eval o).run P W=.ok (.value (.slice B l.toNat c)) W:=by
  have hs:=size_run (P:=P) (W:=W) ht hinfo
  have hz:sliced B 0 l.toNat c size=.slice B l.toNat c:=by
    unfold sliced
    rw [Nat.sub_zero,Nat.sub_zero,Nat.zero_mul]
    split
    · rfl
    · cases B with
      |none=>rfl
      |some g=>exact congrArg (fun z=>Value.slice (some z) l.toNat c) (Addr.add_zero' g)
  have hr:(Instr.sliceAt t (.slice B n c) none (some (.int .i64 l)) none).run P W=.ok (.slice B l.toNat c) W:=by
    rw [run_sliceAt_slice W t _ _ _ _ (elem_of ht),run_slice_h W t B n c (elem_of ht) .i64 l h0 h1,hs,←hz]
    rfl
  unfold execOp
  simp only [ho,hx,Option.map_some,Option.map_none,hhi,Sem.run_bind,Sem.run_pure,Result.andThen_ok,hr]
theorem Row.cut {α:Type}{d:Zd α}{e n c:Nat}{w:World}{S:FP}{B:Option Addr}{xs:List α}(l:Nat)(hl:l≤xs.length)(h:Row d e w S (.slice B n c) xs):Row d e w S (.slice B l c) (xs.take l):=by
  obtain⟨inner,ho,hS,T,h1,h2,h3⟩:=h
  have hlen:(xs.take l).length=l:=by rw [List.length_take];omega
  have hmul:l * d.kd.sz≤xs.length * d.kd.sz:=Nat.mul_le_mul_right _ hl
  refine⟨inner.take (l * d.kd.sz),?_,fun g hg=>hS g (by revert hg;cases B <;> simp [Value.ownBlock]),T,fun j k hk=>⟨(h1 j k hk).1,fun hg=>(h1 j k hk).2 (by revert hg;cases B <;> simp [Value.ownBlock])⟩,h2,fun j x hx=>?_⟩
  · obtain⟨ho1,ho2⟩:=ho
    refine⟨by rw [List.length_take,hlen];omega,?_⟩
    rcases ho2 with⟨hv,hn⟩|⟨g,cap,cur,hv,hb,hh,hnc,hcm,hcs,hin⟩
    · injection hv with e1 e2 e3
      subst e1;subst e3
      obtain rfl:l=0:=by omega
      exact .inl ⟨rfl,hlen⟩
    · injection hv with e1 e2 e3
      subst e1;subst e2;subst e3
      refine .inr ⟨g,c,cur,by rw [hlen],hb,hh,by omega,hcm,hcs,?_⟩
      rw [←hin,List.take_take,hlen]
      congr 1
      omega
  · rw [List.getElem?_take] at hx
    split at hx
    · rename_i hj
      have h4:=h3 j x hx
      have h5:(List.take d.kd.sz (List.drop (j * d.kd.sz) (inner.take (l * d.kd.sz))))=List.take d.kd.sz (List.drop (j * d.kd.sz) inner):=by
        have h6:j * d.kd.sz+d.kd.sz≤l * d.kd.sz:=by rw [←Nat.succ_mul];exact Nat.mul_le_mul_right _ hj
        rw [List.drop_take,List.take_take,Nat.min_eq_left (by omega)]
      rw [h5]
      exact h4
    · cases hx
theorem Hp.cutrow {α:Type}{d:Zd α}{e n c:Nat}{B:Option Addr}{xs:List α}(r:Nat)(l:Int)(h:Hp A w0 W rs)(hr:rs[r]?=some (.own (Zd.slice e d) xs [.slice B n c]))(h0:0≤l)(h1:l≤(xs.length:Int)):
    Hp A w0 W (rs.set r (.own (Zd.slice e d) (xs.take l.toNat) [.slice B l.toNat c])):=by
  refine h.upd r hr ⟨rfl,rfl,rfl,Nat.le_refl _⟩ fun S hS hl=>⟨S,?_,fun k hk=>⟨.inl hk,hl k hk⟩,fun _ _ _=>rfl⟩
  obtain⟨v,hv,hrow⟩:=hS
  injection hv with hv
  subst hv
  exact⟨_,rfl,Row.cut l.toNat (by omega) hrow⟩
end
end Go.Proofs.YtncddikfafgklaaGreatDoor.Z

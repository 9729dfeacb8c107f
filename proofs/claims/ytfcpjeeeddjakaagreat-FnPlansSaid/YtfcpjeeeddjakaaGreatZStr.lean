/- Texts: joined, cut, made of bytes, turned into bytes. Plain lemmas, no condition. -/
import Derived.Test.YtfcpjeeeddjakaaGreatZLens
namespace Go.Proofs.YtfcpjeeeddjakaaGreat.Z
open Go.RowKit YtfcpjeeeddjakaaGreatW.PrintWords YtfcpjeeeddjakaaGreatW.PrintLast
section
variable {P:Program} {ops:Array Oper} {rest:List Oper} {o:Oper} {a:Act} {Q:Exit→Act→World→Prop} {A:FP} {w0 W:World} {rs:List Res}
theorem ev_val (hgd:o.guard=none){v:Value}(hrun:(execOp a.eval o).run P W=.ok (.value v) W)(h:wpList P ops Q rest (a.put o.dst v) W):wpList P ops Q (o :: rest) a W:=wpList_plain hgd fun _ hK=>wp_run hrun (hK _ _ h)
theorem run_cat {t t2:TypeId}{x y:Operand}{s u:ByteArray}(ho:o.op=.binOp .add t x y t2)(hx:a.eval x=.string s)(hy:a.eval y=.string u)(hb:s.size+u.size≤9223372036854775807):(execOp a.eval o).run P W=.ok (.value (.string (s++u))) W:=by
  have hr:(binOp .add t (.string s) (.string u)).run P W=.ok (.string (s++u)) W:=run_string_add_sum W s u hb
  have hg:(eqGuard .add t x y (.string s) (.string u)).run P W=.ok () W:=by simp [eqGuard]
  unfold execOp
  simp only [ho,hx,hy,Sem.run_bind,Sem.run_pure,Result.andThen_ok,hg,hr]
theorem run_str {src dst e:TypeId}{x:Operand}{B:Option Addr}{n c:Nat}{xs:List Int}(ho:o.op=.convert src dst x)(hx:a.eval x=.slice B n c)(hs:P.underlying src=some (.slice e))(he:P.underlying e=some (.int .u8))(hd:P.underlying dst=some .string)(hC:(Kd.int .u8).C W B n xs):
    (execOp a.eval o).run P W=.ok (.value (.string (strOfNums xs))) W:=by
  have hr:=Kd.C_string (c:=c) hs he hd hC
  unfold execOp
  simp only [ho,hx,Sem.run_bind,Sem.run_pure,Result.andThen_ok,hr]
theorem bound_run (k:IntKind)(i:Int)(y:Nat)(code:BoundsCode)(h0:0≤i)(h1:i≤y):(Instr.sliceBound (.int k i) y code).run P W=.ok i.toNat W:=by
  unfold Instr.sliceBound
  simp [asIntOf,h0,h1]
theorem run_cut {t:TypeId} {x:Operand} {lo hi:Option Operand} {s:ByteArray} {l m:Nat} (ho:o.op=.slice t x lo hi none) (hx:a.eval x=.string s) (ht:P.underlying t=some .string)
    (hl:(lo.map a.eval=none∧l=0)∨∃k i,lo.map a.eval=some (.int k i)∧i.toNat=l∧0≤i) (hh:(hi.map a.eval=none∧m=s.size)∨∃k j,hi.map a.eval=some (.int k j)∧j.toNat=m∧0≤j) (h1:l≤m) (h2:m≤s.size):
    (execOp a.eval o).run P W=.ok (.value (.string (s.extract l m))) W:=by
  have hr:(Instr.slice t (.string s) (lo.map a.eval) (hi.map a.eval) none).run P W=.ok (.string (s.extract l m)) W:=by
    unfold Instr.slice
    simp only [Sem.run_bind,run_underlying ht,Result.andThen_ok]
    unfold Instr.sliceBounds
    rcases hl with⟨hl,rfl⟩|⟨k,i,hl,rfl,hi0⟩ <;> rcases hh with⟨hh,rfl⟩|⟨k',j,hh,rfl,hj0⟩ <;> rw [hl,hh]
    · simp
    · have e1:=bound_run (P:=P) (W:=W) k' j s.size .sliceAlen hj0 (by omega)
      simp [e1]
    · have e1:=bound_run (P:=P) (W:=W) k i s.size .sliceB hi0 (by omega)
      simp [e1]
    · have e1:=bound_run (P:=P) (W:=W) k' j s.size .sliceAlen hj0 (by omega)
      have e2:=bound_run (P:=P) (W:=W) k i j.toNat .sliceB hi0 (by omega)
      simp [e1,e2]
  have hs:(Instr.sliceAt t (.string s) (lo.map a.eval) (hi.map a.eval) none).run P W=.ok (.string (s.extract l m)) W:=by
    unfold Instr.sliceAt
    simp only [Sem.run_bind,run_underlying ht,Result.andThen_ok]
    exact hr
  unfold execOp
  simp only [ho,hx,Sem.run_bind,Sem.run_pure,Result.andThen_ok,Option.map_none,hs]
def Zd.view {α:Type}(e:Nat)(d:Zd α):Zd (List α) where
  kd:=Kd.slice e d.kd
  M:=fun w S xs cs=>∃A c,cs=[.slice A xs.length c]∧xs.length≤c∧∀w1:World,(∀k,S k→k<w.heap.size→w1.heap[k]?=w.heap[k]?)→d.kd.C w1 A xs.length xs
  of_M:=by
    rintro w S xs cs ⟨A,c,rfl,hl,h⟩
    exact⟨_,c,rfl,hl,h w (fun _ _ _=>rfl)⟩
  mono:=by
    rintro w S S' xs cs hS ⟨A,c,rfl,hl,h⟩
    exact⟨A,c,rfl,hl,fun w1 h1=>h w1 (fun k hk=>h1 k (hS k hk))⟩
  keep:=by
    rintro w w1 S xs cs hm ⟨A,c,rfl,hl,h⟩
    refine⟨A,c,rfl,hl,fun w2 h2=>h w2 (fun k hk hlt=>?_)⟩
    have e1:=hm k hk hlt
    refine(h2 k hk ?_).trans e1
    rw [Array.getElem?_eq_getElem hlt] at e1
    exact(Array.getElem?_eq_some_iff.1 e1).1
theorem Hp.vform {α:Type}{d:Zd α}{e:Nat}{xs:List α}{v:Value}{w:World}(i:Nat)(h:Hp A w0 w rs)(hi:rs[i]?=some (.own (Zd.view e d) xs [v])):∃B c,v=.slice B xs.length c∧xs.length≤c:=by
  obtain⟨B,c,he,hl,_⟩:=h.reads i hi
  injection he with he
  exact⟨B,c,he,hl⟩
theorem Hp.vrd {α:Type}{d:Zd α}{e n c:Nat}{B:Option Addr}{xs:List α}{w:World}(i:Nat)(h:Hp A w0 w rs)(hi:rs[i]?=some (.own (Zd.view e d) xs [.slice B n c])):d.kd.C w B n xs:=by
  obtain⟨B',c',he,_,hc⟩:=h.reads i hi
  injection he with he
  injection he with h1 h2 h3
  subst h1;subst h2
  exact hc
end
end Go.Proofs.YtfcpjeeeddjakaaGreat.Z

/- Shorter forms: calls that are lent parts, runs of operations in a drawn region, ends. Plain lemmas, no condition. -/
import Derived.Test.YtncddikfafgklaaGreatDoorZQ
namespace Go.Proofs.YtncddikfafgklaaGreatDoor.Z
open Go.RowKit YtncddikfafgklaaGreatDoorW.PrintWords YtncddikfafgklaaGreatDoorW.PrintLast
section
variable {P:Program} {ops:Array Oper} {rest:List Oper} {o oi:Oper} {a:Act} {Q:Exit→Act→World→Prop} {A:FP} {w0 W:World} {rs rs0 rs' ps qs:List Res} {Fp:World→Prop} {v:Value} {fn:Func} {f:FuncId} {as:Array Operand} {ts:Array TypeId} {args:Array Value} {K:Act→World→Prop} {N:Option Tmp}
theorem ev_lb (is:List Nat) (HS:Hp A w0 W rs) (X:∀A':FP,(∀k,A' k→A k∨w0.heap.size≤k)→Hp A' W W ps→Calls P f args W (fun e w'=>e=.returned v∧Hp A' W w' qs)) (hf:P.funcs[f]?=some fn)
    (h:∀w',Hp A w0 w' rs'→Fp w'→wpList P ops Q rest (a.put o.dst v) w') (hps:is.map (fun j=>rs[j]?)=ps.map some:=by rfl) (hn:is.Nodup:=by decide) (hl:is.length≤qs.length:=by exact Nat.le_of_ble_eq_true rfl) (hgd:o.guard=none:=by rfl) (hname:(fn.name== "runtime.NumGoroutine")=false:=by kernel_rfl) (hb:fn.body.isSome=true:=by rfl)
    (hop:o.op=.call { callee:=.value (.func f),args:=as,argTypes:=ts }:=by rfl) (hargs:as.map a.eval=args:=by(simp only [mpn];rfl)) (hr:back rs is qs=rs':=by first|(simp only [hpn,hpm];rfl)|rfl) (hF:∀w',boxFacts w' rs'=Fp w':=by(intro w';simp only [bxn];rfl)):wpList P ops Q (o :: rest) a W:=by
  refine HS.lend is hn ps hps fun A' HL HD HA HB=>ev_call hgd hf hname hb args hop hargs ((X A' HL HA).mono ?_)
  rintro _ w' ⟨rfl,HQ⟩
  have HS':=HB _ _ HQ hl
  rw [hr] at HS'
  exact⟨_,rfl,h w' HS' (by rw [←hF];exact HS'.boxes)⟩
theorem Hp.bx {F:Prop}(h:Hp A w0 W rs)(e:boxFacts W rs=F:=by(simp only [bxn];rfl)):F:=e ▸ h.boxes
theorem Hp.pi (is:List Nat)(h:Hp A w0 W rs)(hn:is.Nodup:=by decide)(hl:is.all (fun i=>decide (i<rs.length))=true:=by rfl):Hp A w0 W (is.map fun j=>rs.getD j .emp):=h.pick is hn hl
theorem Hp.ar (is:List (Option Nat))(h:Hp A w0 W rs)(hn:(is.filterMap id).Nodup:=by decide):Hp A w0 W (is.map fun o=>match o with|some j=>rs.getD j .emp|none=>.emp):=h.arr is hn
theorem ct {w:World}{B B':Addr}{u:Option Value}(h:w.cell? B=u)(e:B=B':=by(simp only [Int.toNat_zero,Int.reduceToNat,Int.toNat_natCast,Nat.zero_mul,Nat.one_mul,Nat.zero_add,Nat.add_zero,Addr.add_zero',Addr.add_succ',Nat.reduceMul,Nat.reduceAdd];rfl)):w.cell? B'=u:=e ▸ h
theorem bq {α:Type} [BEq α] [LawfulBEq α] {x y:α}(h:x=y):(x==y)=true∧(x != y)=false:=⟨beq_iff_eq.mpr h,bne_eq_false_iff_eq.mpr h⟩
theorem nq {α:Type} [BEq α] [LawfulBEq α] {x y:α}(h:¬x=y):(x==y)=false∧(x != y)=true:=⟨beq_eq_false_iff_ne.mpr h,bne_iff_ne.mpr h⟩
theorem r1 {R:Ending→World→Prop}{a:Act}{w:World}{v:Value}{u:Tmp}(hR:R (.returned v) w)(h:fn.results= #[.tmp u]:=by rfl)(hv:a.tmps.getD u undef=v:=by rfl)(hd:a.defers=[]:=by rfl):bodyPost P fn R .ret a w:=by
  subst hv
  exact bodyPost_ret (results_single h (.tmp .nil)) hd hR
theorem rc {R:Ending→World→Prop} {a:Act} (i:Nat) (HS:Hp A w0 W rs) {ty t:TypeId} {d:TypeDesc} (hu:P.underlying ty=some d) {p:Tmp} {g:Nat} {cs:List Value} (hR:R (.returned (.agg cs.toArray)) W) (h:fn.results= #[.cell p ty]:=by rfl) (hb:rs[i]?=some (.box g cs t):=by rfl) (hp:a.tmps.getD p undef=.pointer (some ⟨g,0,none⟩):=by rfl)
    (hd:(match d with| .struct _| .array _ _=>true|_=>false)=true:=by rfl) (hi:(P.info? ty).map (·.size)=some cs.toArray.size:=by kernel_rfl) (hdf:a.defers=[]:=by rfl):bodyPost P fn R .ret a W:=
  bodyPost_ret (results_single h (.cell _ _ _ _ _ hp (HS.boxAt hb) hu hd hi .nil)) hdf hR
theorem rl {R:Ending→World→Prop}{a:Act}{w:World}{rv:List ResultVar}{vs:List Value}(h:fn.results=rv.toArray)(hv:Vals P a.tmps w rv vs)(hR:R (.returned (.tuple vs.toArray)) w)(hl:vs.length≠1:=by simp)(hd:a.defers=[]:=by rfl):bodyPost P fn R .ret a w:=bodyPost_ret (results_list h hl hv) hd hR
end
section
variable {P:Program} {ops:Array Oper} {oi:Oper} {a a':Act} {Q:Exit→Act→World→Prop} {A:FP} {w0 W:World} {rs0:List Res} {v:Value} {S:World→Prop} {ds:List Nat} {l l':Array Bool} {fuel fuel':Nat} {T:Bool×List (List Nat×List Nat)} {i:Nat} {N:Option Tmp}
structure Ran (is:List Nat)(p q:Prop):Prop where
  out:q→p
theorem ran {p:Prop}:Ran [] p p:=⟨id⟩
section
variable {is:List Nat} {q:Prop} (hT:Aside0 (rtab .any ops=T)) (hi:ops[i]?=some oi:=by rfl) {n:Nat} (hN:oi.dst=some n:=by rfl)
include hT hi hN
theorem dsp (h:Ran is (wpAnyLast P .any ops Q S ds fuel (l.setIfInBounds i true) a' W) q) (hc:anyT T l.toList (l.toList.set i true) i=true:=by kernel_rfl) (hQ:∀c a w,Q (.panic c) (a.put oi.dst v) w→Q (.panic c) a w:=by exact fun _ _ _ h=>h)
    (hw:Region.wanted oi (yielded ops a.tmps)=true:=by rfl) (hy:∀w,(execOp a.eval oi).run P w=.ok (.value v) w:=by(intro w';go_simp;with_reducible rfl)) (ha:a.put (some n) v=a':=by(simp only [Act.put,ptn];rfl)):
    Ran (i :: is) (wpAnyLast P .any ops Q S ds (fuel+1) l a W) q:=⟨fun z=>dr_pure i (some n) hT hi hN hc hQ (.inl ⟨hw,hy⟩) ha (h.out z)⟩
theorem dso (h:Ran is (wpAnyLast P .any ops Q S ds fuel (l.setIfInBounds i true) a' W) q) (hc:anyT T l.toList (l.toList.set i true) i=true:=by kernel_rfl) (hQ:∀c a w,Q (.panic c) (a.put oi.dst undef) w→Q (.panic c) a w:=by exact fun _ _ _ h=>h)
    (hw:Region.wanted oi (yielded ops a.tmps)=false:=by rfl) (ha:a.put (some n) undef=a':=by(simp only [Act.put,ptn];rfl)):
    Ran (i :: is) (wpAnyLast P .any ops Q S ds (fuel+1) l a W) q:=⟨fun z=>dr_pure i (some n) hT hi hN hc hQ (.inr ⟨hw,rfl⟩) ha (h.out z)⟩
theorem dst (hS:SHp A w0 rs0 W) (h:Ran is (wpAnyLast P .any ops Q (SHp A w0 rs0) ds fuel (l.setIfInBounds i true) a' W) q) (hc:takeT T ds l.toList (l.toList.set i true) i=true:=by kernel_rfl) (hQ:∀c a w,Q (.panic c) (a.put oi.dst v) w→Q (.panic c) a w:=by exact fun _ _ _ h=>h)
    (hw:Region.wanted oi (yielded ops a.tmps)=true:=by rfl) (hy:∀w,SHp A w0 rs0 w→(execOp a.eval oi).run P w=.ok (.value v) w:=by(rintro w' ⟨rs',HS'⟩;have F:=HS'.boxes;simp only [bxn,List.cons_append,List.nil_append] at F;go_simp;with_reducible rfl)) (ha:a.put (some n) v=a':=by(simp only [Act.put,ptn];rfl)):
    Ran (i :: is) (wpAnyLast P .any ops Q (SHp A w0 rs0) ds (fuel+1) l a W) q:=⟨fun z=>dr_take i (some n) hT hS hi hN hc hQ (.inl ⟨hw,hy⟩) ha (h.out z)⟩
end
theorem dq (is:List Nat)(hT:Aside0 (rtab .any ops=T))(h:wpAnyLast P .any ops Q S ds fuel' l' a' W)(st:Aside0 (rtab .any ops=T)→Ran is (wpAnyLast P .any ops Q S ds fuel l a W) (wpAnyLast P .any ops Q S ds fuel' l' a' W):=by(intro HT;(repeat(refine dsp HT (h:=?_)));exact ran)):wpAnyLast P .any ops Q S ds fuel l a W:=(st hT).out h
theorem dqo (is:List Nat)(hT:Aside0 (rtab .any ops=T))(h:wpAnyLast P .any ops Q S ds fuel' l' a' W)(st:Aside0 (rtab .any ops=T)→Ran is (wpAnyLast P .any ops Q S ds fuel l a W) (wpAnyLast P .any ops Q S ds fuel' l' a' W):=by(intro HT;(repeat(first|refine dsp HT (h:=?_)|refine dso HT (h:=?_)));exact ran)):wpAnyLast P .any ops Q S ds fuel l a W:=(st hT).out h
theorem dqt (is:List Nat)(hT:Aside0 (rtab .any ops=T))(hS:SHp A w0 rs0 W)(h:wpAnyLast P .any ops Q (SHp A w0 rs0) ds fuel' l' a' W)(st:Aside0 (rtab .any ops=T)→SHp A w0 rs0 W→Ran is (wpAnyLast P .any ops Q (SHp A w0 rs0) ds fuel l a W) (wpAnyLast P .any ops Q (SHp A w0 rs0) ds fuel' l' a' W):=by(intro HT HH;(repeat(first|refine dsp HT (h:=?_)|refine dst HT (hS:=HH) (h:=?_)));exact ran)):wpAnyLast P .any ops Q (SHp A w0 rs0) ds fuel l a W:=(st hT hS).out h
theorem dqto (is:List Nat)(hT:Aside0 (rtab .any ops=T))(hS:SHp A w0 rs0 W)(h:wpAnyLast P .any ops Q (SHp A w0 rs0) ds fuel' l' a' W)(st:Aside0 (rtab .any ops=T)→SHp A w0 rs0 W→Ran is (wpAnyLast P .any ops Q (SHp A w0 rs0) ds fuel l a W) (wpAnyLast P .any ops Q (SHp A w0 rs0) ds fuel' l' a' W):=by(intro HT HH;(repeat(first|refine dsp HT (h:=?_)|refine dso HT (h:=?_)|refine dst HT (hS:=HH) (h:=?_)));exact ran)):wpAnyLast P .any ops Q (SHp A w0 rs0) ds fuel l a W:=(st hT hS).out h
theorem dtk (i n:Nat) (hT:Aside0 (rtab .any ops=T)) (hS:SHp A w0 rs0 W) (hi:ops[i]?=some oi) (hy:∀w,SHp A w0 rs0 w→(execOp a.eval oi).run P w=.ok (.value v) w) (h:wpAnyLast P .any ops Q (SHp A w0 rs0) ds fuel (l.setIfInBounds i true) a' W) (hN:oi.dst=some n:=by rfl) (hc:takeT T ds l.toList (l.toList.set i true) i=true:=by kernel_rfl) (hQ:∀c a w,Q (.panic c) (a.put oi.dst v) w→Q (.panic c) a w:=by exact fun _ _ _ h=>h)
    (hw:Region.wanted oi (yielded ops a.tmps)=true:=by rfl) (ha:a.put (some n) v=a':=by(simp only [Act.put,ptn];rfl)):wpAnyLast P .any ops Q (SHp A w0 rs0) ds (fuel+1) l a W:=dr_take i (some n) hT hS hi hN hc hQ (.inl ⟨hw,hy⟩) ha h
theorem dl (i:Nat) (hT:Aside0 (rtab .any ops=T))
    (h:∀K:Act→World→Prop,Shut (∀a' w',wpAnyLast P .any ops Q S ds fuel (l.setIfInBounds i true) a' w'→K a' w')→if Region.wanted oi (yielded ops a.tmps)=true then Oper.wp P oi a W K Q else K (a.put oi.dst undef) W)
    (hi:ops[i]?=some oi:=by rfl) (hc:(readyT T.2 l.toList== [i])=true:=by kernel_rfl) (hd:i∈ds:=by decide):wpAnyLast P .any ops Q S ds (fuel+1) l a W:=dr_last i hT hi hc hd h
theorem dn {n:Nat}(hT:Aside0 (rtab .any ops=T))(h:Q .normal a W)(hc:(readyT T.2 l.toList== [])=true:=by kernel_rfl):wpAnyLast P .any ops Q S ds n l a W:=done_ (done_of hT.out hc) h
theorem SHp.of (h:Hp A w0 W rs0):SHp A w0 rs0 W:=⟨[],by rw [List.append_nil];exact h⟩
theorem nra (n:Nat) {K:Act→World→Prop} (hK:Shut (∀a' w',SHp A w0 rs0 w'→(SHp A w0 rs0 w'→wpAnyLast P .any ops Q (SHp A w0 rs0) ds fuel l a' w')→K a' w')) (hS:Hp A w0 W rs0) (h:SHp A w0 rs0 W→wpAnyLast P .any ops Q (SHp A w0 rs0) ds fuel l a' W)
    (hN:N=some n:=by rfl) (e:a.put (some n) v=a':=by(simp only [Act.put,ptn];rfl)):K (a.put N v) W:=nrm n hK (SHp.of hS) h hN e
end
end Go.Proofs.YtncddikfafgklaaGreatDoor.Z

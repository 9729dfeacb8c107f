/- Arrays of numbers in memory; rows of bytes that were made of a string, and may be lengthened; numbers divided and turned; variables handed back by their address. Plain lemmas, no condition. -/
import Derived.Test.YtfcpjeeeddjakaaGreatZView
import Derived.ArgAppend
namespace Go.Proofs.YtfcpjeeeddjakaaGreat.Z
open Go.RowKit YtfcpjeeeddjakaaGreatW.PrintWords YtfcpjeeeddjakaaGreatW.PrintLast
structure Arr (n:Nat) where
  l:List Int
  h:l.length=n
namespace Arr
variable {n:Nat}
def zero (n:Nat):Arr n:=⟨List.replicate n 0,List.length_replicate⟩
def set (a:Arr n)(i x:Int):Arr n:=⟨a.l.set i.toNat x,by rw [List.length_set];exact a.h⟩
def get (a:Arr n)(i:Int):Int:=rd a.l i
def cells (k:IntKind)(a:Arr n):List Value:=a.l.map (Value.int k)
theorem cells_len (k:IntKind)(a:Arr n):(a.cells k).length=n:=by unfold cells;rw [List.length_map];exact a.h
theorem cells_size (k:IntKind)(a:Arr n):(a.cells k).toArray.size=n:=by rw [List.size_toArray];exact a.cells_len k
theorem cells_one (k:IntKind)(a:Arr n):∀q∈a.cells k,q.oneCell'=true:=by
  intro q hq
  obtain⟨x,_,rfl⟩:=List.mem_map.1 hq
  rfl
theorem cells_get {k:IntKind}{a:Arr n}{i:Int}(h0:0≤i)(h1:i<(n:Int)):(a.cells k)[i.toNat]?=some (.int k (a.get i)):=by
  have hl:i.toNat<a.l.length:=by rw [a.h];omega
  unfold cells get rd
  rw [List.getElem?_map,List.getElem?_eq_getElem hl,List.getD_eq_getElem?_getD,List.getElem?_eq_getElem hl]
  rfl
theorem wrt_set {k:IntKind}(a:Arr n){i:Int}(x:Int)(h0:0≤i)(h1:i<(n:Int)):wrt (a.cells k) i.toNat [.int k x]=(a.set i x).cells k:=by
  have hl:i.toNat<a.l.length:=by rw [a.h];omega
  rw [wrt_eq _ _ _ (by rw [cells_len,List.length_singleton];omega)]
  unfold cells set
  simp only [List.length_singleton]
  rw [List.set_eq_take_append_cons_drop,if_pos hl,List.map_append,List.map_cons,List.map_take,List.map_drop,List.append_assoc]
  rfl
theorem wrt_all {k:IntKind}(a b:Arr n):wrt (a.cells k) 0 (b.cells k)=b.cells k:=by
  rw [wrt_eq _ _ _ (by rw [cells_len,cells_len];omega),List.take_zero,List.nil_append,cells_len,Nat.zero_add,List.drop_eq_nil_of_le (by rw [cells_len];exact Nat.le_refl _),List.append_nil]
end Arr
section
variable {P:Program} {ops:Array Oper} {rest:List Oper} {o:Oper} {a:Act} {Q:Exit→Act→World→Prop} {A:FP} {w0 W:World} {rs:List Res} {K:Act→World→Prop}
theorem run_aaddr {t e:TypeId}{x y:Operand}{g m j:Nat}{q:Int}(hj:q.toNat=j)(ho:o.op=.indexAddr t x y)(hx:a.eval x=.pointer (some ⟨g,0,none⟩))(hy:a.eval y=.int .i64 q)(ht:P.underlying t=some (.array m e))(he:(P.info? e).map (·.size)=some 1)(h0:0≤q)(h1:q<(m:Int)):
    (execOp a.eval o).run P W=.ok (.value (.pointer (some ⟨g,j,none⟩))) W:=by
  subst hj
  obtain⟨i,hi,hsz⟩:=Option.map_eq_some_iff.1 he
  have hr:(Instr.indexAt t (.pointer (some ⟨g,0,none⟩)) (.int .i64 q)).run P W=.ok (.pointer (some ⟨g,q.toNat,none⟩)) W:=by
    simp [Instr.indexAt,Instr.sureAddr,run_underlying ht,asIntOf,sizeOf,typeInfo,hi,hsz,h0,h1,Addr.add_lit]
  unfold execOp
  simp only [ho,hx,hy,Sem.run_bind,Sem.run_pure,Result.andThen_ok,hr]
theorem run_aload {t:TypeId}{x:Operand}{g j:Nat}{k:IntKind}{v:Value}(ho:o.op=.load t x)(hx:a.eval x=.pointer (some ⟨g,j,none⟩))(ht:P.underlying t=some (.int k))(hc:W.cell? ⟨g,j,none⟩=some v):
    (execOp a.eval o).run P W=.ok (.value v) W:=by
  have hr:(Instr.loadAt t (.pointer (some ⟨g,j,none⟩))).run P W=.ok v W:=by
    simp [Instr.loadAt,Instr.sureAddr,loadVar,isAgg,run_underlying ht,hc]
  unfold execOp
  simp only [ho,hx,Sem.run_bind,Sem.run_pure,Result.andThen_ok,hr]
theorem Hp.acell {n j:Nat}{k:IntKind}{b:Arr n}{g t:Nat}{q:Int}(i:Nat)(HS:Hp A w0 W rs)(hj:q.toNat=j)(hi:rs[i]?=some (.box g (b.cells k) t))(h0:0≤q)(h1:q<(n:Int)):W.cell? ⟨g,j,none⟩=some (.int k (b.get q)):=by
  subst hj
  exact HS.cellAt i hi (Arr.cells_get h0 h1)
theorem run_aloadw {n:Nat}{k:IntKind}{b:Arr n}{t t' e:TypeId}{x:Operand}{g:Nat}(ho:o.op=.load t x)(hx:a.eval x=.pointer (some ⟨g,0,none⟩))(ht:P.underlying t=some (.array n e))(hs:(P.info? t).map (·.size)=some n)(hb:W.heap[g]?=some (.cells (b.cells k).toArray t' (0,0))):
    (execOp a.eval o).run P W=.ok (.value (.agg (b.cells k).toArray)) W:=by
  have hr:=run_loadVar_row (P:=P) W g t' t _ (0,0) _ hb ht rfl (by rw [b.cells_size k];exact hs)
  unfold execOp
  simp only [ho,hx,Instr.loadAt,Instr.sureAddr,Sem.run_bind,Sem.run_pure,Result.andThen_ok,hr]
theorem wp_aset {n j:Nat} {k:IntKind} {b:Arr n} (i:Nat) (q z:Int) (HS:Hp A w0 W rs) (hj:q.toNat=j) {g:Nat} {t:TypeId} (hi:rs[i]?=some (.box g (b.cells k) t)) (hN:o.dst=none) {t':TypeId} {p x:Operand} (ho:o.op=.store t' p x)
    (haddr:a.eval p=.pointer (some ⟨g,j,none⟩)) (hx:a.eval x=.int k z) (ht:(P.info? t').map (·.size)=some 1) (h0:0≤q) (h1:q<(n:Int))
    (h:∀w1,Hp A w0 w1 (rs.set i (.box g ((b.set q z).cells k) t))→K a w1):Oper.wp P o a W K Q:=by
  subst hj
  refine wp_store (u:=.int k z) (seg:=[.int k z]) i q.toNat HS hi hN ho haddr hx rfl ht (by rw [b.cells_len k,List.length_singleton];omega) (by intro q hq;rw [List.mem_singleton.1 hq];rfl) (fun w1 h2=>?_)
  rw [Arr.wrt_set b z h0 h1] at h2
  exact h w1 h2
theorem ev_aset (hgd:o.guard=none) {n j:Nat} {k:IntKind} {b:Arr n} (i:Nat) (q z:Int) (HS:Hp A w0 W rs) (hj:q.toNat=j) {g:Nat} {t:TypeId} (hi:rs[i]?=some (.box g (b.cells k) t)) (hN:o.dst=none) {t':TypeId} {p x:Operand} (ho:o.op=.store t' p x)
    (haddr:a.eval p=.pointer (some ⟨g,j,none⟩)) (hx:a.eval x=.int k z) (ht:(P.info? t').map (·.size)=some 1) (h0:0≤q) (h1:q<(n:Int))
    (h:∀w1,Hp A w0 w1 (rs.set i (.box g ((b.set q z).cells k) t))→wpList P ops Q rest a w1):wpList P ops Q (o :: rest) a W:=wpList_plain hgd fun _ hK=>wp_aset i q z HS hj hi hN ho haddr hx ht h0 h1 (fun w1 h2=>hK _ _ (h w1 h2))
theorem wp_aput {n:Nat} {k:IntKind} {b:Arr n} (i:Nat) (c:Arr n) (HS:Hp A w0 W rs) {g:Nat} {t:TypeId} (hi:rs[i]?=some (.box g (b.cells k) t)) (hN:o.dst=none) {t':TypeId} {p x:Operand} (ho:o.op=.store t' p x) {u:Value}
    (haddr:a.eval p=.pointer (some ⟨g,0,none⟩)) (hx:a.eval x=u) (hu:u.cells.toList=c.cells k) (ht:(P.info? t').map (·.size)=some n)
    (h:∀w1,Hp A w0 w1 (rs.set i (.box g (c.cells k) t))→K a w1):Oper.wp P o a W K Q:=by
  refine wp_store (u:=u) (seg:=c.cells k) i 0 HS hi hN ho haddr hx hu (by rw [c.cells_len k];exact ht) (by rw [b.cells_len k,c.cells_len k];omega) (c.cells_one k) (fun w1 h2=>?_)
  rw [Arr.wrt_all] at h2
  exact h w1 h2
theorem ev_aput (hgd:o.guard=none) {n:Nat} {k:IntKind} {b:Arr n} (i:Nat) (c:Arr n) (HS:Hp A w0 W rs) {g:Nat} {t:TypeId} (hi:rs[i]?=some (.box g (b.cells k) t)) (hN:o.dst=none) {t':TypeId} {p x:Operand} (ho:o.op=.store t' p x) {u:Value}
    (haddr:a.eval p=.pointer (some ⟨g,0,none⟩)) (hx:a.eval x=u) (hu:u.cells.toList=c.cells k) (ht:(P.info? t').map (·.size)=some n)
    (h:∀w1,Hp A w0 w1 (rs.set i (.box g (c.cells k) t))→wpList P ops Q rest a w1):wpList P ops Q (o :: rest) a W:=wpList_plain hgd fun _ hK=>wp_aput i c HS hi hN ho haddr hx hu ht (fun w1 h2=>hK _ _ (h w1 h2))
theorem run_quo {t t2:TypeId}{x y:Operand}{p q:Int}(ho:o.op=.binOp .quo t x y t2)(hx:a.eval x=.int .i64 p)(hy:a.eval y=.int .i64 q)(hq:¬q=0):(execOp a.eval o).run P W=.ok (.value (.int .i64 (wrap64 (p.tdiv q)))) W:=by
  have hr:(binOp .quo t (.int .i64 p) (.int .i64 q)).run P W=.ok (.int .i64 (wrap64 (p.tdiv q))) W:=by simp [binOp,Op.intDiv,hq,i64_w]
  have hg:(eqGuard .quo t x y (.int .i64 p) (.int .i64 q)).run P W=.ok () W:=by simp [eqGuard]
  unfold execOp
  simp only [ho,hx,hy,Sem.run_bind,Sem.run_pure,Result.andThen_ok,hg,hr]
theorem run_rem {t t2:TypeId}{x y:Operand}{p q:Int}(ho:o.op=.binOp .rem t x y t2)(hx:a.eval x=.int .i64 p)(hy:a.eval y=.int .i64 q)(hq:¬q=0):(execOp a.eval o).run P W=.ok (.value (.int .i64 (p.tmod q))) W:=by
  have hr:(binOp .rem t (.int .i64 p) (.int .i64 q)).run P W=.ok (.int .i64 (p.tmod q)) W:=by simp [binOp,Op.intDiv,hq]
  have hg:(eqGuard .rem t x y (.int .i64 p) (.int .i64 q)).run P W=.ok () W:=by simp [eqGuard]
  unfold execOp
  simp only [ho,hx,hy,Sem.run_bind,Sem.run_pure,Result.andThen_ok,hg,hr]
theorem run_shr {t t2:TypeId}{x y:Operand}{k k2:IntKind}{p q:Int}(ho:o.op=.binOp .shr t x y t2)(hx:a.eval x=.int k p)(hy:a.eval y=.int k2 q)(hq:0≤q):(execOp a.eval o).run P W=.ok (.value (.int k (shr k p q))) W:=by
  have hr:(binOp .shr t (.int k p) (.int k2 q)).run P W=.ok (.int k (shr k p q)) W:=by
    have h0:¬q<0:=by omega
    have h1:p.fdiv (2 ^ min q.toNat k.bits)=p / 2 ^ min q.toNat k.bits:=Int.fdiv_eq_ediv_of_nonneg _ (Int.le_of_lt (Int.pow_pos (by decide)))
    simp [binOp,Op.shift,h0,shr,h1]
  have hg:(eqGuard .shr t x y (.int k p) (.int k2 q)).run P W=.ok () W:=by simp [eqGuard]
  unfold execOp
  simp only [ho,hx,hy,Sem.run_bind,Sem.run_pure,Result.andThen_ok,hg,hr]
theorem run_shl {t t2:TypeId}{x y:Operand}{k k2:IntKind}{p q:Int}(ho:o.op=.binOp .shl t x y t2)(hx:a.eval x=.int k p)(hy:a.eval y=.int k2 q)(hq:0≤q):(execOp a.eval o).run P W=.ok (.value (.int k (shl k p q))) W:=by
  have hr:(binOp .shl t (.int k p) (.int k2 q)).run P W=.ok (.int k (shl k p q)) W:=by
    have h0:¬q<0:=by omega
    simp [binOp,Op.shift,h0,shl]
  have hg:(eqGuard .shl t x y (.int k p) (.int k2 q)).run P W=.ok () W:=by simp [eqGuard]
  unfold execOp
  simp only [ho,hx,hy,Sem.run_bind,Sem.run_pure,Result.andThen_ok,hg,hr]
theorem setCells_rowf {g:Nat}{e:TypeId}{fz:Nat×Nat}:∀(vs:List Value) (q:Nat) (w:World) (cur:Array Value),w.heap[g]?=some (.cells cur e fz)→q+vs.length≤cur.size→
    ∃cur',(w.setCells g q vs).heap[g]?=some (.cells cur' e fz)∧cur'.size=cur.size∧cur'.toList=cur.toList.take q++vs++cur.toList.drop (q+vs.length)
  | [],q,w,cur,h,_=>⟨cur,h,rfl,by simp⟩
  | v :: r,q,w,cur,h,hl=>by
    have h2:(w.setCell ⟨g,q,none⟩ v).heap[g]?=some (.cells (cur.setIfInBounds q v) e fz):=by
      have hlt:g<w.heap.size:=(Array.getElem?_eq_some_iff.1 h).1
      simp [World.setCell,Array.getElem?_modify,h]
    simp only [List.length_cons] at hl
    obtain⟨cur',h3,h4,h5⟩:=setCells_rowf r (q+1) (w.setCell ⟨g,q,none⟩ v) _ h2 (by simp;omega)
    refine⟨cur',h3,by rw [h4];simp,?_⟩
    rw [h5,Array.toList_setIfInBounds]
    have ho:q<cur.toList.length:=by rw [Array.length_toList];omega
    rw [List.take_set,List.drop_set_of_lt (by omega)]
    simp only [List.length_cons]
    rw [show q+1+r.length=q+(r.length+1) by omega]
    congr 1
    rw [List.take_succ_eq_append_getElem ho,List.set_append_right _ _ (by rw [List.length_take];omega)]
    have ho':q<cur.size:=by omega
    simp [Nat.min_eq_left (Nat.le_of_lt ho')]
end
def MRow (e:Nat)(w:World)(S:FP)(v:Value)(xs:List Int):Prop:=
  ∃(g c:Nat) (cur:Array Value) (fz:Nat×Nat),v=.slice (some ⟨g,0,none⟩) xs.length c∧S g∧w.heap[g]?=some (.cells cur e fz)∧(fz=(0,0)∨c≤fz.1)∧xs.length≤c∧c≤maxLen∧cur.size=c∧cur.toList.take xs.length=xs.map (Value.int .u8)
theorem mrow_cell {w:World}{g e:Nat}{cur:Array Value}{fz:Nat×Nat}{xs:List Int}(h:w.heap[g]?=some (.cells cur e fz))(ht:cur.toList.take xs.length=xs.map (Value.int .u8)){j:Nat}{p:Int}(hj:xs[j]?=some p):w.cell? ⟨g,j,none⟩=some (.int .u8 p):=by
  rw [cell_of_row w g j cur e fz h,←Array.getElem?_toList]
  have h1:(cur.toList.take xs.length)[j]?=some (.int .u8 p):=by rw [ht,List.getElem?_map,hj];rfl
  rw [List.getElem?_take] at h1
  split at h1
  · exact h1
  · cases h1
theorem mrow_C {w:World}{g e c:Nat}{cur:Array Value}{fz:Nat×Nat}{xs:List Int}(h:w.heap[g]?=some (.cells cur e fz))(hc:xs.length≤c)(hm:c≤maxLen)(ht:cur.toList.take xs.length=xs.map (Value.int .u8)):(Kd.int .u8).C w (some ⟨g,0,none⟩) xs.length xs:=by
  refine⟨rfl,by simp only [maxLen] at hm;omega,fun _=>⟨_,rfl,fun j p hj=>⟨[.int .u8 p],rfl,rfl,fun i u hu=>?_⟩⟩⟩
  obtain⟨rfl,rfl⟩:i=0∧u=.int .u8 p:=by
    cases i with
    |zero=>exact⟨rfl,by simpa using hu.symm⟩
    |succ i=>simp at hu
  show w.cell? ((⟨g,0,none⟩:Addr).add (j * 1+0))=_
  rw [add_plain,Nat.mul_one,Nat.add_zero]
  exact mrow_cell h ht hj
def Zd.mrow (e:Nat):Zd (List Int) where
  kd:=Kd.slice e (Kd.int .u8)
  M:=fun w S xs cs=>∃v,cs=[v]∧MRow e w S v xs
  of_M:=by
    rintro w S xs cs ⟨v,rfl,g,c,cur,fz,rfl,hS,hh,hf,hc,hm,hsz,ht⟩
    exact⟨_,c,rfl,hc,mrow_C hh hc hm ht⟩
  mono:=by
    rintro w S S' xs cs hS ⟨v,rfl,g,c,cur,fz,rfl,h0,h⟩
    exact⟨_,rfl,g,c,cur,fz,rfl,hS g h0,h⟩
  keep:=by
    rintro w w1 S xs cs hk ⟨v,rfl,g,c,cur,fz,rfl,h0,hh,h⟩
    exact⟨_,rfl,g,c,cur,fz,rfl,h0,(hk g h0 (Array.getElem?_eq_some_iff.1 hh).1).trans hh,h⟩
section
variable {P:Program} {ops:Array Oper} {rest:List Oper} {o:Oper} {a:Act} {Q:Exit→Act→World→Prop} {A:FP} {w0 W:World} {rs:List Res} {K:Act→World→Prop}
theorem Hp.mform {e:Nat}{xs:List Int}{v:Value}(i:Nat)(h:Hp A w0 W rs)(hi:rs[i]?=some (.own (Zd.mrow e) xs [v])):∃B c,v=.slice B xs.length c∧xs.length≤c:=by
  obtain⟨B,c,he,hl,_⟩:=h.reads i hi
  injection he with he
  exact⟨B,c,he,hl⟩
theorem Hp.mformb {e:Nat}{s:ByteArray}{v:Value}(i:Nat)(h:Hp A w0 W rs)(hi:rs[i]?=some (.own (Zd.mrow e) (bytesOf s) [v])):∃B c,v=.slice B s.size c∧s.size≤c:=by
  obtain⟨B,c,he,hl⟩:=h.mform i hi
  rw [bytesOf_length] at he hl
  exact⟨B,c,he,hl⟩
theorem Hp.mrd {e n c:Nat}{B:Option Addr}{xs:List Int}(i:Nat)(h:Hp A w0 W rs)(hi:rs[i]?=some (.own (Zd.mrow e) xs [.slice B n c])):(Kd.int .u8).C W B n xs:=by
  obtain⟨B',c',he,_,hc⟩:=h.reads i hi
  injection he with he
  injection he with h1 h2 h3
  subst h1;subst h2
  exact hc
theorem wp_bytesm (HS:Hp A w0 W rs) {src dst e:TypeId} {x:Operand} {s:ByteArray} (ho:o.op=.convert src dst x) (hx:a.eval x=.string s) (hs:P.underlying src=some .string) (hd:P.underlying dst=some (.slice e)) (he:P.underlying e=some (.int .u8)) (hb:s.size≤9223372036854775807)
    (h:∀v1 w1,Hp A w0 w1 (rs++ [.own (Zd.mrow e) (bytesOf s) [v1]])→K (a.put o.dst v1) w1):Oper.wp P o a W K Q:=by
  have hr:=print_bytes (P:=P) src dst e hs hd he s W
  have hrun:(execOp a.eval o).run P W=.ok (.value (.slice (some ⟨W.heap.size,0,none⟩) s.size (grownCap W s.size 0 e))) (Lib.bytesWorld W e s):=by
    unfold execOp
    simp only [ho,hx,Sem.run_bind,Sem.run_pure,Result.andThen_ok,hr]
  have hcap:s.size≤grownCap W s.size 0 e:=grownCap_ge W s.size 0 e
  have hcm:grownCap W s.size 0 e≤maxLen:=grownCap_le_maxLen W s.size 0 e (by simp only [maxLen];omega)
  have hsz:(Lib.bytesCells W e s).size=grownCap W s.size 0 e:=by
    unfold Lib.bytesCells
    rw [Array.size_append,Array.size_map,Array.size_replicate]
    show s.size+_=_
    omega
  refine wp_run hrun (h _ _ (HS.push (bytes_below (Below.refl _ _) (Nat.le_refl _) e s) ⟨_,rfl,W.heap.size,_,Lib.bytesCells W e s,_,by rw [bytesOf_length],⟨Nat.le_refl _,by rw [Lib.bytesWorld_size];omega⟩,Lib.bytesWorld_at_new W e s,.inr (by rw [hsz];exact Nat.le_refl _),by rw [bytesOf_length];exact hcap,hcm,hsz,?_⟩))
  unfold Lib.bytesCells
  rw [Array.toList_append,bytesOf_length,List.take_left' (by rw [Array.length_toList,Array.size_map];rfl)]
  unfold bytesOf
  simp
theorem ev_bytesm (hgd:o.guard=none) (HS:Hp A w0 W rs) {src dst e:TypeId} {x:Operand} {s:ByteArray} (ho:o.op=.convert src dst x) (hx:a.eval x=.string s) (hs:P.underlying src=some .string) (hd:P.underlying dst=some (.slice e)) (he:P.underlying e=some (.int .u8)) (hb:s.size≤9223372036854775807)
    (h:∀v1 w1,Hp A w0 w1 (rs++ [.own (Zd.mrow e) (bytesOf s) [v1]])→wpList P ops Q rest (a.put o.dst v1) w1):wpList P ops Q (o :: rest) a W:=wpList_plain hgd fun _ hK=>wp_bytesm HS ho hx hs hd he hb (fun v1 w1 h2=>hK _ _ (h v1 w1 h2))
theorem wp_appendm (r:Nat) (HS:Hp A w0 W rs) {e m c:Nat} {B:Option Addr} {v:Value} {xs ys:List Int} (hr:rs[r]?=some (.own (Zd.mrow e) xs [v])) (hq:(Kd.int .u8).C W B m ys) (hm0:0<m)
    {t:TypeId} {x y:Operand} (ho:o.op=.call { callee:=.builtin .append,args:=#[x,y],argTypes:=#[t,t] }) (hx:a.eval x=v) (hy:a.eval y=.slice B m c) (ht:P.underlying t=some (.slice e))
    (hinfo:(P.info? e).map (fun i=>(i.zero,i.size,i.bytes))=some (some (.int .u8 0),1,1)) (hb:xs.length+ys.length≤140737488355328)
    (h:∀v1 w1,Hp A w0 w1 (clr rs [r]++ [.own (Zd.mrow e) (xs++ys) [v1]])→K (a.put o.dst v1) w1):Oper.wp P o a W K Q:=by
  obtain⟨i,hi,hii⟩:=Option.map_eq_some_iff.1 hinfo
  simp only [Prod.mk.injEq] at hii
  obtain⟨hz,hsize,hby⟩:=hii
  obtain⟨hml,_,hq2⟩:=hq
  obtain⟨ad,rfl,hq3⟩:=hq2 hm0
  have hnews:∀j u,(ys.map (Value.int .u8))[j]?=some u→W.cell? (ad.add j)=some u:=by
    intro j u hj
    rw [List.getElem?_map] at hj
    obtain⟨p,hp,rfl⟩:=Option.map_eq_some_iff.1 hj
    obtain⟨cs,c1,c2,c3⟩:=hq3 j p hp
    have c2':cs=[.int .u8 p]:=c2
    subst c2'
    have:=c3 0 _ rfl
    have hsz1:(Kd.int .u8).sz=1:=rfl
    rw [hsz1,Nat.mul_one,Nat.add_zero] at this
    exact this
  have hone:∀u∈ys.map (Value.int .u8),u.oneCell'=true:=by
    intro u hu
    obtain⟨p,_,rfl⟩:=List.mem_map.1 hu
    rfl
  have hnl:(ys.map (Value.int .u8)).length=m:=by rw [List.length_map];exact hml
  obtain⟨sS,hsl,⟨v',hvv,g,cap,cur,fz,hv',hSg,hh,hfz,hnc,hcm,hcs,htk⟩⟩:=HS.has hr
  injection hvv with hvv
  subst hvv
  subst hv'
  have hfin:∀ {w1:World} {v1:Value},(w1.os=W.os∧w1.tape=W.tape∧w1.output=W.output∧W.heap.size≤w1.heap.size)→(∀k,k<W.heap.size→k≠g→w1.heap[k]?=W.heap[k]?)→(∀S:FP,S g→(∀k,S k→k<W.heap.size)→∃S':FP,MRow e w1 S' v1 (xs++ys)∧∀k,S' k→(S k∨W.heap.size≤k)∧k<w1.heap.size)→Hp A w0 w1 (clr rs [r]++ [.own (Zd.mrow e) (xs++ys) [v1]]):=by
    intro w1 v1 hos hk hS
    have h1:Hp A w0 w1 (rs.set r (.own (Zd.mrow e) (xs++ys) [v1])):=HS.upd r hr hos fun S hS0 hl=>by
      obtain⟨v2,hv2,g2,cap2,cur2,fz2,hv3,hSg2,_⟩:=hS0
      injection hv2 with hv2
      subst hv2
      injection hv3 with hv3
      injection hv3 with hv3
      injection hv3 with hv3
      subst hv3
      obtain⟨S',s1,s2⟩:=hS S hSg2 hl
      exact⟨S',⟨_,rfl,s1⟩,s2,fun k hk1 hk2=>hk k hk1 (fun he=>hk2 (he ▸ hSg2))⟩
    have hrl:r<rs.length:=(List.getElem?_eq_some_iff.1 hr).1
    refine h1.pack (r:=.own (Zd.mrow e) (xs++ys) [v1]) [r] _ (fun S _ h3=>?_) rs.length ?_ (fun a q ha=>?_)
    · have:=h3 r (.own (Zd.mrow e) (xs++ys) [v1]) (by rw [List.getElem?_set_self hrl])
      exact Res.mono (fun k hk=>⟨r,by simp,hk⟩) this
    · rw [List.getElem?_append_right (by rw [clr_len];exact Nat.le_refl _),clr_len,Nat.sub_self]
      rfl
    · rcases clr_push ha with⟨rfl,rfl⟩|⟨h4,h5⟩
      · exact .inl rfl
      · rcases h5 with h5|⟨h5,h6⟩
        · exact .inr (.inl h5)
        · refine .inr (.inr ⟨?_,h6⟩)
          rw [List.getElem?_set_ne (fun he=>h6 (by rw [he];simp))]
          exact h5
  have hgl:g<W.heap.size:=(Array.getElem?_eq_some_iff.1 hh).1
  by_cases hroom:xs.length+m≤cap
  · have hrun:=run_append_room_cells (P:=P) W t o.type e i ht hi g 0 xs.length cap ad m c (ys.map (Value.int .u8)) (by rw [hsize,Nat.mul_one];exact hnl) hnews hone hroom
      (fun j hj=>by rw [cell_of_row W g _ cur e fz hh,hsize];simp;rw [List.length_map] at hj;omega)
      (fun j hj=>by
        rw [hsize]
        have hj':0+xs.length * 1+j<cap:=by rw [hnl] at hj;omega
        simp only [World.frozen?,hh]
        rcases hfz with rfl|hfz
        · simp
        · simp
          omega)
    rw [hsize,Nat.zero_add,Nat.mul_one] at hrun
    have hx2:(execOp a.eval o).run P W=.ok (.value (.slice (some ⟨g,0,none⟩) (xs.length+m) cap)) (W.setCells g xs.length (ys.map (Value.int .u8))):=by
      unfold execOp
      simp [ho,resolve,invoke,builtin,hx,hy,hrun,Result.andThen]
    obtain⟨cur',hc1,hc2,hc3⟩:=setCells_rowf (ys.map (Value.int .u8)) xs.length W cur hh (by rw [hnl];omega)
    obtain⟨s1,s2,s3,s4⟩:=setCells_same g (ys.map (Value.int .u8)) xs.length W
    refine wp_run hx2 (h _ _ (hfin ⟨s1,s2,s3,by omega⟩ (fun k _ hn=>setCells_far _ xs.length k hn) fun S hS hl=>⟨S,⟨g,cap,cur',fz,by rw [List.length_append,hml],hS,hc1,hfz,by rw [List.length_append];omega,hcm,by rw [hc2,hcs],?_⟩,fun k hk=>⟨.inl hk,by have:=hl k hk;omega⟩⟩))
    have hct:cur.toList.length=cap:=(Array.length_toList (xs:=cur)).trans hcs
    have hl1:(cur.toList.take xs.length).length=xs.length:=by rw [List.length_take,hct];omega
    have h7:(List.take xs.length cur.toList++ys.map (Value.int .u8)).length=(xs++ys).length:=by rw [List.length_append,hl1,List.length_map,List.length_append]
    rw [hc3,←h7,List.take_left' rfl,htk,List.map_append]
  · obtain⟨v1,w1,hrun,r1,r2⟩:=run_append_arg_grows (P:=P) W t o.type e i (.int .u8 0) 1 1 ht hi hz hsize hby rfl (by decide) ⟨g,0,none⟩ xs.length cap (xs.map (Value.int .u8)) (by rw [List.length_map,Nat.mul_one])
      (fun j u hj=>by
        rw [List.getElem?_map] at hj
        obtain⟨p,hp,rfl⟩:=Option.map_eq_some_iff.1 hj
        rw [add_plain]
        exact mrow_cell hh htk hp)
      ad m c (ys.map (Value.int .u8)) (by rw [hnl,Nat.mul_one]) hnews (by omega) (by simp only [maxLen];omega) (by omega)
    have hx2:(execOp a.eval o).run P W=.ok (.value v1) w1:=by
      unfold execOp
      simp [ho,resolve,invoke,builtin,hx,hy,hrun,Result.andThen]
    refine wp_run hx2 (h _ _ (hfin ⟨r2.os,r2.tape,r2.output,r2.size⟩ (fun k hk _=>r2.block k hk (by simp)) fun S hS hl=>?_))
    obtain⟨ho1,ho2⟩:=r1
    rcases ho2 with⟨_,h8⟩|⟨g2,c2,cur2,rfl,hb2,hh2,hnc2,hcm2,hcs2,ht2⟩
    · omega
    · refine⟨fun k=>k=g2,⟨g2,c2,cur2,(0,0),by rw [List.length_append,hml],rfl,hh2,.inl rfl,by rw [List.length_append];omega,hcm2,by omega,?_⟩,fun k hk=>?_⟩
      · rw [List.length_append,hml,List.map_append,←ht2,Nat.mul_one]
      · rw [hk]
        exact⟨.inr hb2,(Array.getElem?_eq_some_iff.1 hh2).1⟩
theorem ev_appendm (hgd:o.guard=none) (r:Nat) (HS:Hp A w0 W rs) {e m c:Nat} {B:Option Addr} {v:Value} {xs ys:List Int} (hr:rs[r]?=some (.own (Zd.mrow e) xs [v])) (hq:(Kd.int .u8).C W B m ys) (hm0:0<m)
    {t:TypeId} {x y:Operand} (ho:o.op=.call { callee:=.builtin .append,args:=#[x,y],argTypes:=#[t,t] }) (hx:a.eval x=v) (hy:a.eval y=.slice B m c) (ht:P.underlying t=some (.slice e))
    (hinfo:(P.info? e).map (fun i=>(i.zero,i.size,i.bytes))=some (some (.int .u8 0),1,1)) (hb:xs.length+ys.length≤140737488355328)
    (h:∀v1 w1,Hp A w0 w1 (clr rs [r]++ [.own (Zd.mrow e) (xs++ys) [v1]])→wpList P ops Q rest (a.put o.dst v1) w1):wpList P ops Q (o :: rest) a W:=wpList_plain hgd fun _ hK=>wp_appendm r HS hr hq hm0 ho hx hy ht hinfo hb (fun v1 w1 h2=>hK _ _ (h v1 w1 h2))
theorem rot_rd {α:Type}{d:Zd α}{e n c:Nat}{B:Option Addr}{xs:List α}{R:Res}{w:World}(i:Nat)(HS:Hp noFP w0 w rs)(hi:rs[i]?=some R)(hR:(R=.emp∧d.kd.C w0 B n xs)∨R=.own (Zd.slice e d) xs [.slice B n c]):d.kd.C w B n xs:=by
  rcases hR with⟨_,h⟩|rfl
  · exact HS.ro h
  · exact HS.rd i hi
theorem rot_hide {α:Type} {d:Zd α} {e n c:Nat} {B:Option Addr} {xs:List α} {R:Res} {w:World} {A':FP} {is:List Nat} (i:Nat) (hup:Up d.kd) (HS:Hp noFP w0 w rs) (HL:∀k,A' k→noFP k∨w0.heap.size≤k) (HD:∀(i:Nat) (r:Res),i ∉ is→rs[i]?=some r→∃S:FP,(∀k,S k→¬A' k)∧r.holds w S)
    (hi:rs[i]?=some R) (hn:i ∉ is) (hR:(R=.emp∧d.kd.C w0 B n xs)∨R=.own (Zd.slice e d) xs [.slice B n c]):d.kd.C (hide A' w) B n xs:=by
  rcases hR with⟨_,h⟩|rfl
  · exact HS.hideC hup HL h
  · exact hide_rd HD i hi hn
theorem Hp.emp_ (HS:Hp A w0 W rs):Hp A w0 W (rs++ [.emp]):=HS.push (Below.refl _ _) trivial
end
end Go.Proofs.YtfcpjeeeddjakaaGreat.Z

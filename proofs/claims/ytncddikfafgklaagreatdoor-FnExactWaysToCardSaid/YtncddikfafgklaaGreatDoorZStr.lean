/- Texts: joined, cut, made of bytes, turned into bytes. Plain lemmas, no condition. -/
import Derived.Test.YtncddikfafgklaaGreatDoorZLens
namespace Go.Proofs.YtncddikfafgklaaGreatDoor.Z
open Go.RowKit YtncddikfafgklaaGreatDoorW.PrintWords YtncddikfafgklaaGreatDoorW.PrintLast
section
variable {P:Program} {ops:Array Oper} {rest:List Oper} {o:Oper} {a:Act} {Q:Exit→Act→World→Prop} {A:FP} {w0 W:World} {rs:List Res}
theorem ev_val (hgd:o.guard=none){v:Value}(hrun:(execOp a.eval o).run P W=.ok (.value v) W)(h:wpList P ops Q rest (a.put o.dst v) W):wpList P ops Q (o :: rest) a W:=wpList_plain hgd fun _ hK=>wp_run hrun (hK _ _ h)
theorem run_cat {t t2:TypeId}{x y:Operand}{s u:ByteArray}(ho:o.op=.binOp .add t x y t2)(hx:a.eval x=.string s)(hy:a.eval y=.string u)(hb:s.size+u.size≤9223372036854775807):(execOp a.eval o).run P W=.ok (.value (.string (s++u))) W:=by
  have hr:(binOp .add t (.string s) (.string u)).run P W=.ok (.string (s++u)) W:=run_string_add_sum W s u hb
  have hg:(eqGuard .add t x y (.string s) (.string u)).run P W=.ok () W:=by simp [eqGuard]
  unfold execOp
  simp only [ho,hx,hy,Sem.run_bind,Sem.run_pure,Result.andThen_ok,hg,hr]
theorem run_str {src dst e:TypeId}{x:Operand}{B:Option Addr}{n c:Nat}{xs:List Int}(ho:o.op=.convert src dst x)(hx:a.eval x=.slice B n c)(hs:P.underlying src=some (.slice e))(he:P.underlying e=some (.int .u8))(hd:P.underlying dst=some .string)(hC:(Kd.int .u8).C W B n xs):
    (execOp a.eval o).run P W=.ok (.value (.string (strOfNums xs))) W:=by
  have hr:=Kd.C_string (c:=c) hs he hd hC
  unfold execOp
  simp only [ho,hx,Sem.run_bind,Sem.run_pure,Result.andThen_ok,hr]
def Zd.view {α:Type}(e:Nat)(d:Zd α):Zd (List α) where
  kd:=Kd.slice e d.kd
  M:=fun w S xs cs=>∃A c,cs=[.slice A xs.length c]∧xs.length≤c∧∀w1:World,(∀k,S k→k<w.heap.size→w1.heap[k]?=w.heap[k]?)→d.kd.C w1 A xs.length xs
  of_M:=by
    rintro w S xs cs ⟨A,c,rfl,hl,h⟩
    exact⟨_,c,rfl,hl,h w (fun _ _ _=>rfl)⟩
  mono:=by
    rintro w S S' xs cs hS ⟨A,c,rfl,hl,h⟩
    exact⟨A,c,rfl,hl,fun w1 h1=>h w1 (fun k hk=>h1 k (hS k hk))⟩
  keep:=by
    rintro w w1 S xs cs hm ⟨A,c,rfl,hl,h⟩
    refine⟨A,c,rfl,hl,fun w2 h2=>h w2 (fun k hk hlt=>?_)⟩
    have e1:=hm k hk hlt
    refine(h2 k hk ?_).trans e1
    rw [Array.getElem?_eq_getElem hlt] at e1
    exact(Array.getElem?_eq_some_iff.1 e1).1
theorem run_append_str_any {e n:Nat} {t u ty:TypeId} {i:TypeInfo} (ht:P.underlying t=some (.slice e)) (hu:P.underlying u=some .string) (hi:P.info? e=some i) (hz:i.zero=some (.int .u8 0)) (hsize:i.size=1) (hby:i.bytes=1)
    {v:Value} {inner:List Value} (hin:W.ownsRow 0 e 1 v n inner) (s:ByteArray) (h63:n+s.size≤maxLen) (hb:n+s.size≤140737488355328):
    ∃v1 w1,(Builtin.append_ #[t,u] ty #[v,.string s]).run P W=.ok v1 w1∧w1.ownsRow 0 e 1 v1 (n+s.size) (inner++Lib.strCells s)∧W.grownBy w1 v.ownBlock∧(v1.ownBlock=v.ownBlock∨v1.ownBlock=some W.heap.size):=by
  obtain⟨v1,w1,hr,h2,h3,h4⟩:=Lib.run_append_own_string (P:=P) W 0 t u ty e i ht hu hi hz hsize hby v n inner hin s h63 hb (Nat.zero_le _)
  refine⟨v1,w1,hr,h2,h3,?_⟩
  have hxl:inner.length=n:=by simpa using hin.1
  have hcell:=fun g h=>hin.cells (g:=g) h
  rcases hin.2 with⟨rfl,rfl⟩|⟨g,cap,cur,rfl,_,hg,hnc,hcm,hcs,htake⟩
  · by_cases hm:s.size=0
    · rw [h4.2 ⟨rfl,hm⟩]
      exact .inl rfl
    · have hr2:=run_append_nil_string (P:=P) W t u ty e i (.int .u8 0) ht hu hi hz s (by omega) (by omega) (by rw [hby];omega)
      rw [hr] at hr2
      injection hr2 with hv _
      subst hv
      exact .inr rfl
  · by_cases hroom:n+s.size≤cap
    · have hcs':cur.size=cap:=by simpa using hcs
      have hr2:=Lib.run_append_room_string (P:=P) W t u ty e i ht hu hi hsize g n cap cur hg s hroom (by omega)
      rw [hr] at hr2
      injection hr2 with hv _
      subst hv
      exact .inl rfl
    · have hr2:=Lib.run_append_grow_string (P:=P) W t u ty e i (.int .u8 0) ht hu hi hz ⟨g,0,none⟩ n cap inner (by rw [hsize];simpa using hxl) (hcell g rfl) s (by omega) (by omega) (by rw [hby];exact growslice_fits (by omega) (by omega))
      rw [hr] at hr2
      injection hr2 with hv _
      subst hv
      exact .inr rfl
theorem wp_appends {K:Act→World→Prop} (r:Nat) (HS:Hp A w0 W rs) {e:Nat} {v:Value} {xs:List Int} (hr:rs[r]?=some (.own (Zd.slice e (Zd.int .u8)) xs [v]))
    {t u:TypeId} {x y:Operand} {s:ByteArray} (ho:o.op=.call { callee:=.builtin .append,args:=#[x,y],argTypes:=#[t,u] }) (hx:a.eval x=v) (hy:a.eval y=.string s) (ht:P.underlying t=some (.slice e)) (hu:P.underlying u=some .string)
    (hinfo:(P.info? e).map (fun i=>(i.zero,i.size,i.bytes))=some (some (.int .u8 0),1,1)) (hb:xs.length+s.size≤140737488355328)
    (h:∀v1 w1,Hp A w0 w1 (clr rs [r]++ [.own (Zd.slice e (Zd.int .u8)) (xs++bytesOf s) [v1]])→K (a.put o.dst v1) w1):Oper.wp P o a W K Q:=by
  obtain⟨i0,hi,hzz⟩:=Option.map_eq_some_iff.1 hinfo
  simp only [Prod.mk.injEq] at hzz
  obtain⟨hz0,hz1,hz2⟩:=hzz
  obtain⟨S0,_,⟨v',hv',inner,hin,_⟩⟩:=HS.has hr
  injection hv' with hv'
  subst hv'
  obtain⟨v1,w1,hrun,hown,hg,hat⟩:=run_append_str_any (P:=P) (ty:=o.type) ht hu hi hz0 hz1 hz2 hin s (by simp only [maxLen];omega) hb
  have hrun':(execOp a.eval o).run P W=.ok (.value v1) w1:=by
    unfold execOp
    simp only [ho,resolve,invoke,builtin,Sem.run_bind,Sem.run_pure,Result.andThen_ok,List.map_toArray,List.map_cons,List.map_nil,hx,hy,hrun]
  refine wp_run hrun' (h _ _ (HS.trade [r] ⟨hg.os,hg.tape,hg.output,hg.size⟩ (fun S g1 g2 g3=>?_)))
  obtain⟨u,hu,hrow⟩:=g3 r _ hr
  injection hu with hu
  subst hu
  have hnl:∀(j:Nat) (x:Int),(bytesOf s)[j]?=some x→(((bytesOf s).map (Value.int .u8)).drop (j * 1)).take 1=[Value.int .u8 x]:=by
    intro j x hj
    rw [Nat.mul_one,List.drop_eq_getElem_cons (by rw [List.length_map];exact(List.getElem?_eq_some_iff.1 hj).1)]
    simp [(List.getElem?_eq_some_iff.1 hj).2]
  have hres:=Row.append (d:=Zd.int .u8) (w1:=w1) (v1:=v1) (ys:=bytesOf s) (news:=(bytesOf s).map (Value.int .u8)) hrow (g2 r) (fun _ _=>False) (fun _ _ h=>h.elim) (fun _ _ h=>h.elim) (fun _ _ _ _ h=>h.elim) (fun j x hx=>hnl j x hx) (fun i2 h2=>by
    obtain rfl:=own_one hin h2
    rw [List.length_append,bytesOf_length]
    have e1:(bytesOf s).map (Value.int .u8)=Lib.strCells s:=by simp [bytesOf,Lib.strCells]
    rw [e1]
    exact hown) hg hat
  refine⟨_,⟨_,rfl,hres⟩,fun k hk=>⟨?_,hk.2⟩,fun k hk hn=>hg.block k hk (fun he=>?_)⟩
  · rcases hk.1 with hk|⟨j,hk⟩|hk
    · exact .inl ⟨r,by simp,hk⟩
    · exact hk.elim
    · exact .inr hk
  · obtain⟨_,_,hb',_⟩:=hrow
    exact hn ⟨r,by simp,hb' k he.symm⟩
theorem ev_appends (hgd:o.guard=none) (r:Nat) (HS:Hp A w0 W rs) {e:Nat} {v:Value} {xs:List Int} (hr:rs[r]?=some (.own (Zd.slice e (Zd.int .u8)) xs [v]))
    {t u:TypeId} {x y:Operand} {s:ByteArray} (ho:o.op=.call { callee:=.builtin .append,args:=#[x,y],argTypes:=#[t,u] }) (hx:a.eval x=v) (hy:a.eval y=.string s) (ht:P.underlying t=some (.slice e)) (hu:P.underlying u=some .string)
    (hinfo:(P.info? e).map (fun i=>(i.zero,i.size,i.bytes))=some (some (.int .u8 0),1,1)) (hb:xs.length+s.size≤140737488355328)
    (h:∀v1 w1,Hp A w0 w1 (clr rs [r]++ [.own (Zd.slice e (Zd.int .u8)) (xs++bytesOf s) [v1]])→wpList P ops Q rest (a.put o.dst v1) w1):wpList P ops Q (o :: rest) a W:=wpList_plain hgd fun _ hK=>wp_appends r HS hr ho hx hy ht hu hinfo hb (fun v1 w1 h2=>hK _ _ (h v1 w1 h2))
end
end Go.Proofs.YtncddikfafgklaaGreatDoor.Z

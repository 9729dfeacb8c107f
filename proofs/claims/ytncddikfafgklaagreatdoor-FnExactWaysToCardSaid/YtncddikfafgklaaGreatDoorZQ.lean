/- Short forms: an event, and the state written out behind it, in one step. Plain lemmas, no condition. -/
import Derived.Test.YtncddikfafgklaaGreatDoorZView
import Derived.Test.YtncddikfafgklaaGreatDoorZEv
import Derived.Test.YtncddikfafgklaaGreatDoorZLens
import Derived.WalkKit
namespace Go.Proofs.YtncddikfafgklaaGreatDoor.Z
open Go.RowKit YtncddikfafgklaaGreatDoorW.PrintWords YtncddikfafgklaaGreatDoorW.PrintLast
abbrev TT:=Bool×List (List Nat×List Nat)
section
variable {P:Program} {ops:Array Oper} {rest:List Oper} {o oi:Oper} {a:Act} {Q:Exit→Act→World→Prop} {A:FP} {w0 W:World} {rs qs rs':List Res} {Fp:World→Prop} {v:Value} {fn:Func} {f:FuncId} {as:Array Operand} {ts:Array TypeId} {args:Array Value}
theorem ev_cl (HS:Hp A w0 W rs) (X:Calls P f args W (fun e w'=>e=.returned v∧Hp noFP W w' qs)) (hf:P.funcs[f]?=some fn)
    (h:∀w',Hp A w0 w' rs'→Fp w'→wpList P ops Q rest (a.put o.dst v) w') (hgd:o.guard=none:=by rfl) (hname:(fn.name== "runtime.NumGoroutine")=false:=by kernel_rfl) (hb:fn.body.isSome=true:=by rfl)
    (hop:o.op=.call { callee:=.value (.func f),args:=as,argTypes:=ts }:=by rfl) (hargs:as.map a.eval=args:=by(simp only [mpn];rfl)) (hr:rs++qs=rs':=by first|(simp only [hpn,hpm];rfl)|rfl) (hF:∀w',boxFacts w' rs'=Fp w':=by(intro w';simp only [bxn];rfl)):wpList P ops Q (o :: rest) a W:=by
  refine ev_call hgd hf hname hb args hop hargs (X.mono ?_)
  rintro _ w' ⟨rfl,HQ⟩
  have HS':=HS.call HQ
  rw [hr] at HS'
  exact⟨_,rfl,h w' HS' (by rw [←hF];exact HS'.boxes)⟩
theorem ev_cl1 {G:Value→Value} {qs rs':Value→List Res} {Fp:Value→World→Prop} (HS:Hp A w0 W rs) (X:Calls P f args W (fun e w'=>∃v0:Value,e=.returned (G v0)∧Hp noFP W w' (qs v0))) (hf:P.funcs[f]?=some fn)
    (h:∀v0 w',Hp A w0 w' (rs' v0)→Fp v0 w'→wpList P ops Q rest (a.put o.dst (G v0)) w') (hgd:o.guard=none:=by rfl) (hname:(fn.name== "runtime.NumGoroutine")=false:=by kernel_rfl) (hb:fn.body.isSome=true:=by rfl)
    (hop:o.op=.call { callee:=.value (.func f),args:=as,argTypes:=ts }:=by rfl) (hargs:as.map a.eval=args:=by(simp only [mpn];rfl)) (hr:∀v0,rs++qs v0=rs' v0:=by(intro v0;first|(simp only [hpn,hpm];rfl)|rfl)) (hF:∀v0 w',boxFacts w' (rs' v0)=Fp v0 w':=by(intro v0 w';simp only [bxn];rfl)):wpList P ops Q (o :: rest) a W:=by
  refine ev_call hgd hf hname hb args hop hargs (X.mono ?_)
  rintro _ w' ⟨v0,rfl,HQ⟩
  have HS':=HS.call HQ
  rw [hr] at HS'
  exact⟨_,rfl,h v0 w' HS' (by rw [←hF];exact HS'.boxes)⟩
theorem go_cl {K:Act→World→Prop} {N:Option Tmp} (HS:Hp A w0 W rs) (X:Calls P f args W (fun e w'=>e=.returned v∧Hp noFP W w' qs)) (hf:P.funcs[f]?=some fn)
    (h:∀w',Hp A w0 w' rs'→Fp w'→K (a.put N v) w') (hname:(fn.name== "runtime.NumGoroutine")=false:=by kernel_rfl) (hb:fn.body.isSome=true:=by rfl) (hw:Region.wanted oi (yielded ops a.tmps)=true:=by rfl) (hN:oi.dst=N:=by rfl)
    (hop:oi.op=.call { callee:=.value (.func f),args:=as,argTypes:=ts }:=by rfl) (hargs:as.map a.eval=args:=by(simp only [mpn];rfl)) (hr:rs++qs=rs':=by first|(simp only [hpn,hpm];rfl)|rfl) (hF:∀w',boxFacts w' rs'=Fp w':=by(intro w';simp only [bxn];rfl)):if Region.wanted oi (yielded ops a.tmps)=true then Oper.wp P oi a W K Q else K (a.put N undef) W:=by
  refine goes_ hf hname hb args hw hN hop hargs (X.mono ?_)
  rintro _ w' ⟨rfl,HQ⟩
  have HS':=HS.call HQ
  rw [hr] at HS'
  exact⟨_,rfl,h w' HS' (by rw [←hF];exact HS'.boxes)⟩
theorem go_cl1 {K:Act→World→Prop} {N:Option Tmp} {G:Value→Value} {qs rs':Value→List Res} {Fp:Value→World→Prop} (HS:Hp A w0 W rs) (X:Calls P f args W (fun e w'=>∃v0:Value,e=.returned (G v0)∧Hp noFP W w' (qs v0))) (hf:P.funcs[f]?=some fn)
    (h:∀v0 w',Hp A w0 w' (rs' v0)→Fp v0 w'→K (a.put N (G v0)) w') (hname:(fn.name== "runtime.NumGoroutine")=false:=by kernel_rfl) (hb:fn.body.isSome=true:=by rfl) (hw:Region.wanted oi (yielded ops a.tmps)=true:=by rfl) (hN:oi.dst=N:=by rfl)
    (hop:oi.op=.call { callee:=.value (.func f),args:=as,argTypes:=ts }:=by rfl) (hargs:as.map a.eval=args:=by(simp only [mpn];rfl)) (hr:∀v0,rs++qs v0=rs' v0:=by(intro v0;first|(simp only [hpn,hpm];rfl)|rfl)) (hF:∀v0 w',boxFacts w' (rs' v0)=Fp v0 w':=by(intro v0 w';simp only [bxn];rfl)):if Region.wanted oi (yielded ops a.tmps)=true then Oper.wp P oi a W K Q else K (a.put N undef) W:=by
  refine goes_ hf hname hb args hw hN hop hargs (X.mono ?_)
  rintro _ w' ⟨v0,rfl,HQ⟩
  have HS':=HS.call HQ
  rw [hr] at HS'
  exact⟨_,rfl,h v0 w' HS' (by rw [←hF];exact HS'.boxes)⟩
theorem ev_cl3 {G:Value→Value→Value→Value} {qs rs':Value→Value→Value→List Res} {Fp:Value→Value→Value→World→Prop} (HS:Hp A w0 W rs) (X:Calls P f args W (fun e w'=>∃v0 v1 v2:Value,e=.returned (G v0 v1 v2)∧Hp noFP W w' (qs v0 v1 v2))) (hf:P.funcs[f]?=some fn)
    (h:∀v0 v1 v2 w',Hp A w0 w' (rs' v0 v1 v2)→Fp v0 v1 v2 w'→wpList P ops Q rest (a.put o.dst (G v0 v1 v2)) w') (hgd:o.guard=none:=by rfl) (hname:(fn.name== "runtime.NumGoroutine")=false:=by kernel_rfl) (hb:fn.body.isSome=true:=by rfl)
    (hop:o.op=.call { callee:=.value (.func f),args:=as,argTypes:=ts }:=by rfl) (hargs:as.map a.eval=args:=by(simp only [mpn];rfl)) (hr:∀v0 v1 v2,rs++qs v0 v1 v2=rs' v0 v1 v2:=by(intro v0 v1 v2;first|(simp only [hpn,hpm];rfl)|rfl)) (hF:∀v0 v1 v2 w',boxFacts w' (rs' v0 v1 v2)=Fp v0 v1 v2 w':=by(intro v0 v1 v2 w';simp only [bxn];rfl)):wpList P ops Q (o :: rest) a W:=by
  refine ev_call hgd hf hname hb args hop hargs (X.mono ?_)
  rintro _ w' ⟨v0,v1,v2,rfl,HQ⟩
  have HS':=HS.call HQ
  rw [hr] at HS'
  exact⟨_,rfl,h v0 v1 v2 w' HS' (by rw [←hF];exact HS'.boxes)⟩
theorem go_cl3 {K:Act→World→Prop} {N:Option Tmp} {G:Value→Value→Value→Value} {qs rs':Value→Value→Value→List Res} {Fp:Value→Value→Value→World→Prop} (HS:Hp A w0 W rs) (X:Calls P f args W (fun e w'=>∃v0 v1 v2:Value,e=.returned (G v0 v1 v2)∧Hp noFP W w' (qs v0 v1 v2))) (hf:P.funcs[f]?=some fn)
    (h:∀v0 v1 v2 w',Hp A w0 w' (rs' v0 v1 v2)→Fp v0 v1 v2 w'→K (a.put N (G v0 v1 v2)) w') (hname:(fn.name== "runtime.NumGoroutine")=false:=by kernel_rfl) (hb:fn.body.isSome=true:=by rfl) (hw:Region.wanted oi (yielded ops a.tmps)=true:=by rfl) (hN:oi.dst=N:=by rfl)
    (hop:oi.op=.call { callee:=.value (.func f),args:=as,argTypes:=ts }:=by rfl) (hargs:as.map a.eval=args:=by(simp only [mpn];rfl)) (hr:∀v0 v1 v2,rs++qs v0 v1 v2=rs' v0 v1 v2:=by(intro v0 v1 v2;first|(simp only [hpn,hpm];rfl)|rfl)) (hF:∀v0 v1 v2 w',boxFacts w' (rs' v0 v1 v2)=Fp v0 v1 v2 w':=by(intro v0 v1 v2 w';simp only [bxn];rfl)):if Region.wanted oi (yielded ops a.tmps)=true then Oper.wp P oi a W K Q else K (a.put N undef) W:=by
  refine goes_ hf hname hb args hw hN hop hargs (X.mono ?_)
  rintro _ w' ⟨v0,v1,v2,rfl,HQ⟩
  have HS':=HS.call HQ
  rw [hr] at HS'
  exact⟨_,rfl,h v0 v1 v2 w' HS' (by rw [←hF];exact HS'.boxes)⟩
theorem ev_lc {A':FP} {R:List Res} (X:Calls P f args W (fun e w'=>e=.returned v∧Hp A' W w' qs)) (HB:∀w',Hp A' W w' qs→Hp A w0 w' R) (hf:P.funcs[f]?=some fn)
    (h:∀w',Hp A w0 w' rs'→Fp w'→wpList P ops Q rest (a.put o.dst v) w') (hgd:o.guard=none:=by rfl) (hname:(fn.name== "runtime.NumGoroutine")=false:=by kernel_rfl) (hb:fn.body.isSome=true:=by rfl)
    (hop:o.op=.call { callee:=.value (.func f),args:=as,argTypes:=ts }:=by rfl) (hargs:as.map a.eval=args:=by(simp only [mpn];rfl)) (hr:R=rs':=by first|(simp only [hpn,hpm];rfl)|rfl) (hF:∀w',boxFacts w' rs'=Fp w':=by(intro w';simp only [bxn];rfl)):wpList P ops Q (o :: rest) a W:=by
  refine ev_call hgd hf hname hb args hop hargs (X.mono ?_)
  rintro _ w' ⟨rfl,HQ⟩
  have HS':=HB _ HQ
  rw [hr] at HS'
  exact⟨_,rfl,h w' HS' (by rw [←hF];exact HS'.boxes)⟩
theorem ev_li {α:Type} (d:Zd α) (js:List Nat) (xs:List α) (cs:List Value) (HS:Hp A w0 W rs) (hM:MadeL d W rs js xs cs) {e n:Nat} {ca:Array Value} {rs':Value→List Res} {Fp:Value→World→Prop}
    (h:∀v1 w1,Hp A w0 w1 (rs' v1)→Fp v1 w1→wpList P ops Q rest (a.put o.dst v1) w1) (hgd:o.guard=none:=by rfl)
    (hn:xs.length=n:=by rfl) (hrun:(execOp a.eval o).run P W=.ok (.value (.slice (some ⟨W.heap.size,0,none⟩) n n)) (W.alloc (.cells ca e (0,0))):=by first|(go_simp;done)|(go_simp;rfl)) (hc:ca.toList=cs:=by rfl) (hm:n≤9223372036854775807:=by exact Nat.le_of_ble_eq_true rfl)
    (hr:∀v1,clr rs js++ [.own (Zd.slice e d) xs [v1]]=rs' v1:=by(intro v1;first|(simp only [hpn,hpm];rfl)|rfl)) (hF:∀v1 w',boxFacts w' (rs' v1)=Fp v1 w':=by(intro v1 w';simp only [bxn];rfl)):wpList P ops Q (o :: rest) a W:=
  ev_lit hgd d js xs cs HS hrun hn hc hm hM fun v1 w1 h2=>by
    rw [hr] at h2
    exact h v1 w1 h2 (by rw [←hF];exact h2.boxes)
theorem if_li {α:Type} {K:Act→World→Prop} {x:Prop} (d:Zd α) (js:List Nat) (xs:List α) (cs:List Value) (HS:Hp A w0 W rs) (hM:MadeL d W rs js xs cs) {e n:Nat} {ca:Array Value} {rs':Value→List Res} {Fp:Value→World→Prop}
    (h:∀v1 w1,Hp A w0 w1 (rs' v1)→Fp v1 w1→K (a.put o.dst v1) w1) (hw:Region.wanted o (yielded ops a.tmps)=true:=by rfl)
    (hn:xs.length=n:=by rfl) (hrun:(execOp a.eval o).run P W=.ok (.value (.slice (some ⟨W.heap.size,0,none⟩) n n)) (W.alloc (.cells ca e (0,0))):=by first|(go_simp;done)|(go_simp;rfl)) (hc:ca.toList=cs:=by rfl) (hm:n≤9223372036854775807:=by exact Nat.le_of_ble_eq_true rfl)
    (hr:∀v1,clr rs js++ [.own (Zd.slice e d) xs [v1]]=rs' v1:=by(intro v1;first|(simp only [hpn,hpm];rfl)|rfl)) (hF:∀v1 w',boxFacts w' (rs' v1)=Fp v1 w':=by(intro v1 w';simp only [bxn];rfl)):if Region.wanted o (yielded ops a.tmps)=true then Oper.wp P o a W K Q else x:=
  if_wp hw (wp_lit d js xs cs HS hrun hn hc hm hM fun v1 w1 h2=>by
    rw [hr] at h2
    exact h v1 w1 h2 (by rw [←hF];exact h2.boxes))
theorem ev_sp {α β:Type} {d:Zd α} {d':Zd β} {oo:Nat} {get:α→β} {set:α→β→α} (L:Lens d d' oo get set) (r:Nat) (js:List Nat) (i:Int) (z:α) (y:β) (HS:Hp A w0 W rs) {e n cap:Nat} {ad:Addr} {xs:List α} {seg:List Value} (h0:0≤i) (h1':i<(n:Int)) (hz:∀hl:i.toNat<xs.length,xs[i.toNat]=z) (hM:Made d' W rs js y seg)
    (h:∀w1,Hp A w0 w1 ((clr rs js).set r (.own (Zd.slice e d) (xs.set i.toNat (set z y)) [.slice (some ad) n cap]))→wpList P ops Q rest a w1) (hgd:o.guard=none:=by rfl) (hr:rs[r]?=some (.own (Zd.slice e d) xs [.slice (some ad) n cap]):=by rfl) (hrj:r ∉ js:=by decide) (hN:o.dst=none:=by rfl)
    {t:TypeId} {p x:Operand} (ho:o.op=.store t p x:=by rfl) {q:Addr} {u:Value} (haddr:a.eval p=.pointer (some q):=by rfl) (hoff:∀g,ad=⟨g,0,none⟩→q=⟨g,i.toNat * d.kd.sz+oo,none⟩:=by(rintro g rfl;simp only [add_plain];refine congrArg (fun n=>(⟨g,n,none⟩:Addr)) ?_;first|rfl|exact Nat.zero_add _|exact congrArg (· +_) (Nat.zero_add _)))
    (hx:a.eval x=u:=by rfl) (hu:u.cells.toList=seg:=by rfl) (ht:(P.info? t).map (·.size)=some seg.length:=by kernel_rfl) (h1:∀q∈seg,q.oneCell'=true:=by simp [Value.oneCell']) (hlen:seg.length=d'.kd.sz:=by rfl):wpList P ops Q (o :: rest) a W:=
  ev_setp hgd d d' L r js i z y HS hr hrj hN ho haddr hoff hx hu ht h1 ⟨h0,h1'⟩ hlen hz hM h
theorem wp_ap {α:Type} {K:Act→World→Prop} {y':Prop} (d:Zd α) (r q:Nat) (HS:Hp A w0 W rs) {e m c M:Nat} {B:Option Addr} {v:Value} {xs ys:List α} (hr:rs[r]?=some (.own (Zd.slice e d) xs [v])) (hq:rs[q]?=some (.own (Zd.slice e d) ys [.slice B m c])) {t:TypeId} (ht:P.underlying t=some (.slice e)) {z:Value} {bytes:Nat} (hinfo:(P.info? e).map (fun i=>(i.zero,i.size,i.bytes))=some (some z,d.kd.sz,bytes)) (hM:xs.length+ys.length≤M)
    (h:∀v1 w1,Hp A w0 w1 (clr rs [r,q]++ [.own (Zd.slice e d) (xs++ys) [v1]])→K (a.put o.dst v1) w1) (hrq:r≠q:=by decide)
    {x y:Operand} (ho:o.op=.call { callee:=.builtin .append,args:=#[x,y],argTypes:=#[t,t] }:=by rfl) (hx:a.eval x=v:=by rfl) (hy:a.eval y=.slice B m c:=by rfl) (hz:z.cells.size=d.kd.sz:=by rfl) (hs0:0<d.kd.sz:=by first|decide|exact Nat.zero_lt_succ _) (hb0:0<bytes:=by decide) (hb:M * bytes≤140737488355328:=by decide)
    (hw:Region.wanted o (yielded ops a.tmps)=true:=by rfl):if Region.wanted o (yielded ops a.tmps)=true then Oper.wp P o a W K Q else y':=
  if_wp hw (wp_append d r q HS hr hq hrq ho hx hy ht hinfo hz hs0 hb0 (Nat.le_trans (Nat.mul_le_mul_right _ hM) hb) h)
theorem ev_ap {α:Type} (d:Zd α) (r q:Nat) (HS:Hp A w0 W rs) {e m c M:Nat} {B:Option Addr} {v:Value} {xs ys:List α} (hr:rs[r]?=some (.own (Zd.slice e d) xs [v])) (hq:rs[q]?=some (.own (Zd.slice e d) ys [.slice B m c])) {t:TypeId} (ht:P.underlying t=some (.slice e)) {z:Value} {bytes:Nat} (hinfo:(P.info? e).map (fun i=>(i.zero,i.size,i.bytes))=some (some z,d.kd.sz,bytes)) (hM:xs.length+ys.length≤M)
    (h:∀v1 w1,Hp A w0 w1 (clr rs [r,q]++ [.own (Zd.slice e d) (xs++ys) [v1]])→wpList P ops Q rest (a.put o.dst v1) w1) (hgd:o.guard=none:=by rfl) (hrq:r≠q:=by decide)
    {x y:Operand} (ho:o.op=.call { callee:=.builtin .append,args:=#[x,y],argTypes:=#[t,t] }:=by rfl) (hx:a.eval x=v:=by rfl) (hy:a.eval y=.slice B m c:=by rfl) (hz:z.cells.size=d.kd.sz:=by rfl) (hs0:0<d.kd.sz:=by first|decide|exact Nat.zero_lt_succ _) (hb0:0<bytes:=by decide) (hb:M * bytes≤140737488355328:=by decide):wpList P ops Q (o :: rest) a W:=
  ev_append hgd d r q HS hr hq hrq ho hx hy ht hinfo hz hs0 hb0 (Nat.le_trans (Nat.mul_le_mul_right _ hM) hb) h
theorem ev_apr {α:Type} {d:Zd α} (hflat:Flat d) (r:Nat) (HS:Hp A w0 W rs) {e m c M:Nat} {B:Option Addr} {v:Value} {xs ys:List α} (hr:rs[r]?=some (.own (Zd.slice e d) xs [v])) (hq:d.kd.C W B m ys) {t:TypeId} (ht:P.underlying t=some (.slice e)) {z:Value} {bytes:Nat} (hinfo:(P.info? e).map (fun i=>(i.zero,i.size,i.bytes))=some (some z,d.kd.sz,bytes)) (hM:xs.length+ys.length≤M)
    (h:∀v1 w1,Hp A w0 w1 (clr rs [r]++ [.own (Zd.slice e d) (xs++ys) [v1]])→wpList P ops Q rest (a.put o.dst v1) w1) (hgd:o.guard=none:=by rfl)
    {x y:Operand} (ho:o.op=.call { callee:=.builtin .append,args:=#[x,y],argTypes:=#[t,t] }:=by rfl) (hx:a.eval x=v:=by rfl) (hy:a.eval y=.slice B m c:=by rfl) (hz:z.cells.size=d.kd.sz:=by rfl) (hs0:0<d.kd.sz:=by first|decide|exact Nat.zero_lt_succ _) (hb0:0<bytes:=by decide) (hb:M * bytes≤140737488355328:=by decide):wpList P ops Q (o :: rest) a W:=
  ev_appendr hgd d hflat r HS hr hq ho hx hy ht hinfo hz hs0 hb0 (Nat.le_trans (Nat.mul_le_mul_right _ hM) hb) h
theorem ev_bx {rs':Nat→List Res} {Fp:Nat→World→Prop} (HS:Hp A w0 W rs) {ca:Array Value} {cs:List Value} {t:TypeId}
    (h:∀g w1,Hp A w0 w1 (rs' g)→Fp g w1→wpList P ops Q rest (a.put o.dst (.pointer (some ⟨g,0,none⟩))) w1) (hgd:o.guard=none:=by rfl)
    (hrun:(execOp a.eval o).run P W=.ok (.value (.pointer (some ⟨W.heap.size,0,none⟩))) (W.alloc (.cells ca t (0,0))):=by first|(go_simp;done)|(go_simp;rfl)) (hc:ca.toList=cs:=by rfl)
    (hr:∀g,rs++ [.box g cs t]=rs' g:=by(intro g;first|(simp only [hpn,hpm];rfl)|rfl)) (hF:∀g w',boxFacts w' (rs' g)=Fp g w':=by(intro g w';simp only [bxn];rfl)):wpList P ops Q (o :: rest) a W:=
  ev_box hgd HS hrun hc fun g w1 h1=>by
    rw [hr] at h1
    exact h g w1 h1 (by rw [←hF];exact h1.boxes)
theorem if_bx {K:Act→World→Prop} {x:Prop} {rs':Nat→List Res} {Fp:Nat→World→Prop} (HS:Hp A w0 W rs) {ca:Array Value} {cs:List Value} {t:TypeId}
    (h:∀g w1,Hp A w0 w1 (rs' g)→Fp g w1→K (a.put o.dst (.pointer (some ⟨g,0,none⟩))) w1) (hw:Region.wanted o (yielded ops a.tmps)=true:=by rfl)
    (hrun:(execOp a.eval o).run P W=.ok (.value (.pointer (some ⟨W.heap.size,0,none⟩))) (W.alloc (.cells ca t (0,0))):=by first|(go_simp;done)|(go_simp;rfl)) (hc:ca.toList=cs:=by rfl)
    (hr:∀g,rs++ [.box g cs t]=rs' g:=by(intro g;first|(simp only [hpn,hpm];rfl)|rfl)) (hF:∀g w',boxFacts w' (rs' g)=Fp g w':=by(intro g w';simp only [bxn];rfl)):if Region.wanted o (yielded ops a.tmps)=true then Oper.wp P o a W K Q else x:=
  if_wp hw (wp_box HS hrun hc fun g w1 h1=>by
    rw [hr] at h1
    exact h g w1 h1 (by rw [←hF];exact h1.boxes))
theorem ev_st (i j:Nat) (HS:Hp A w0 W rs) {g:Nat} {cs:List Value} {t t':TypeId} {p x:Operand} {u:Value} {seg:List Value}
    (h:∀w1,Hp A w0 w1 rs'→Fp w1→wpList P ops Q rest a w1) (hgd:o.guard=none:=by rfl) (hi:rs[i]?=some (.box g cs t):=by rfl) (hN:o.dst=none:=by rfl) (ho:o.op=.store t' p x:=by rfl)
    (haddr:a.eval p=.pointer (some ⟨g,j,none⟩):=by rfl) (hx:a.eval x=u:=by rfl) (hu:u.cells.toList=seg:=by rfl) (ht:(P.info? t').map (·.size)=some seg.length:=by kernel_rfl) (hfit:j+seg.length≤cs.length:=by simp [wrt]) (h1:∀q∈seg,q.oneCell'=true:=by simp [Value.oneCell'])
    (hr:rs.set i (.box g (wrt cs j seg) t)=rs':=by first|(simp only [hpn,hpm];rfl)|rfl) (hF:∀w',boxFacts w' rs'=Fp w':=by(intro w';simp only [bxn];rfl)):wpList P ops Q (o :: rest) a W:=
  ev_store hgd i j HS hi hN ho haddr hx hu ht hfit h1 fun w1 h2=>by
    rw [hr] at h2
    exact h w1 h2 (by rw [←hF];exact h2.boxes)
theorem if_st {K:Act→World→Prop} {x':Prop} (i j:Nat) (HS:Hp A w0 W rs) {g:Nat} {cs:List Value} {t t':TypeId} {p x:Operand} {u:Value} {seg:List Value}
    (h:∀w1,Hp A w0 w1 rs'→Fp w1→K a w1) (hw:Region.wanted o (yielded ops a.tmps)=true:=by rfl) (hi:rs[i]?=some (.box g cs t):=by rfl) (hN:o.dst=none:=by rfl) (ho:o.op=.store t' p x:=by rfl)
    (haddr:a.eval p=.pointer (some ⟨g,j,none⟩):=by rfl) (hx:a.eval x=u:=by rfl) (hu:u.cells.toList=seg:=by rfl) (ht:(P.info? t').map (·.size)=some seg.length:=by kernel_rfl) (hfit:j+seg.length≤cs.length:=by simp [wrt]) (h1:∀q∈seg,q.oneCell'=true:=by simp [Value.oneCell'])
    (hr:rs.set i (.box g (wrt cs j seg) t)=rs':=by first|(simp only [hpn,hpm];rfl)|rfl) (hF:∀w',boxFacts w' rs'=Fp w':=by(intro w';simp only [bxn];rfl)):if Region.wanted o (yielded ops a.tmps)=true then Oper.wp P o a W K Q else x':=
  if_wp hw (wp_store i j HS hi hN ho haddr hx hu ht hfit h1 fun w1 h2=>by
    rw [hr] at h2
    exact h w1 h2 (by rw [←hF];exact h2.boxes))
theorem Hp.pk {w:World}{β:Type}{e e':β}(h:Hp A w0 w rs)(he:e=e':=by rfl):e=e'∧Hp A w0 w []:=⟨he,h.pick [] (by decide) (by rfl)⟩
section
variable {S:World→Prop} {ds:List Nat} {l:Array Bool} {fuel:Nat} {T:Bool×List (List Nat×List Nat)}
theorem dr1 (i:Nat) (hT:Aside0 (rtab .any ops=T))
    (h:∀K:Act→World→Prop,Shut (∀a' w',S w'→(S w'→wpAnyLast P .any ops Q S ds fuel (l.setIfInBounds i true) a' w')→K a' w')→if Region.wanted oi (yielded ops a.tmps)=true then Oper.wp P oi a W K Q else K (a.put oi.dst undef) W)
    (hi:ops[i]?=some oi:=by rfl) (hc:(readyT T.2 l.toList== [i])=true:=by kernel_rfl) (hd:i ∉ ds:=by decide):wpAnyLast P .any ops Q S ds (fuel+1) l a W:=dr_one i hT hi hc hd h
theorem nrm (n:Nat) {K:Act→World→Prop} {N:Option Tmp} {a':Act} (hK:Shut (∀a' w',S w'→(S w'→wpAnyLast P .any ops Q S ds fuel l a' w')→K a' w')) (hS:S W) (h:S W→wpAnyLast P .any ops Q S ds fuel l a' W)
    (hN:N=some n:=by rfl) (e:a.put (some n) v=a':=by(simp only [Act.put,ptn];rfl)):K (a.put N v) W:=by
  subst hN
  subst e
  exact hK.out _ _ hS h
end
end
theorem dcu.{u}:(∀ {α:Sort u} {h:Decidable True} (a b:α),@ite α True h a b=a)∧(∀ {α:Sort u} {h:Decidable False} (a b:α),@ite α False h a b=b):=⟨fun _ _=>if_pos trivial,fun _ _=>if_neg id⟩
theorem dcf:(false=true)=False:=Bool.false_eq_true
theorem zgo {β:Type}{r:β}{c:Prop} [Decidable c] {x:Option β}(H:Aside0 ((if c then x else none)=some r)):c=True∧Aside0 (x=some r):=by
  by_cases h:c
  · exact⟨eq_true h,zpos h H⟩
  · exact zno h H
theorem zif {β:Type}{r:β}{c:Prop} [Decidable c] {x y:Option β}(H:Aside0 ((if c then x else y)=some r)):(c=True∧Aside0 (x=some r))∨(c=False∧Aside0 (y=some r)):=by
  by_cases h:c
  · exact .inl ⟨eq_true h,zpos h H⟩
  · exact .inr ⟨eq_false h,zneg h H⟩
theorem znif {β:Type}{r:β}{c:Prop} [Decidable c] {x y:Option β}(H:Aside0 ((if c then x else y)=some r)):(c=False∧Aside0 (y=some r))∨(c=True∧Aside0 (x=some r)):=(zif H).symm
theorem zif' {β:Type}{r:β}{c:Prop} [Decidable c] {x y:Option β}(H:Aside0 ((if c then x else y)=some r)):(c∧Aside0 (x=some r))∨(¬c∧Aside0 (y=some r)):=by
  by_cases h:c
  · exact .inl ⟨h,zpos h H⟩
  · exact .inr ⟨h,zneg h H⟩
theorem znif' {β:Type}{r:β}{c:Prop} [Decidable c] {x y:Option β}(H:Aside0 ((if c then x else y)=some r)):(¬c∧Aside0 (y=some r))∨(c∧Aside0 (x=some r)):=(zif' H).symm
theorem zifb {β:Type}{r:β}{c:Bool}{x y:Option β}(H:Aside0 ((if c=true then x else y)=some r)):(c=true∧Aside0 (x=some r))∨(c=false∧Aside0 (y=some r)):=by
  by_cases h:c=true
  · exact .inl ⟨h,zpos h H⟩
  · exact .inr ⟨eq_false_of_ne_true h,zneg h H⟩
theorem znifb {β:Type}{r:β}{c:Bool}{x y:Option β}(H:Aside0 ((if c=true then x else y)=some r)):(c=false∧Aside0 (y=some r))∨(c=true∧Aside0 (x=some r)):=(zifb H).symm
theorem gg {P:Program}{ops:Array Oper}{o:Oper}{rest:List Oper}{a:Act}{W:World}{Q:Exit→Act→World→Prop}(h:wpList P ops Q ({ o with guard:=none } :: rest) a W)(hw:Region.wanted o (yielded ops a.tmps)=true:=by rfl):wpList P ops Q (o :: rest) a W:=gate_guard hw h
theorem gd {P:Program}{ops:Array Oper}{o:Oper}{rest:List Oper}{a:Act}{W:World}{Q:Exit→Act→World→Prop}(N:Tmp)(_hN:o.dst=some N)(h:wpList P ops Q (o :: rest) a W):wpList P ops Q (o :: rest) a W:=h
end Go.Proofs.YtncddikfafgklaaGreatDoor.Z

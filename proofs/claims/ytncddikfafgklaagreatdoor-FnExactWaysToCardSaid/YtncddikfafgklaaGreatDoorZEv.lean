/- One operation of a program's text at a time: what it does to a call's own memory, told as parts that lie apart. Plain lemmas, no condition. -/
import Derived.Test.YtncddikfafgklaaGreatDoorZSep
namespace Go.Proofs.YtncddikfafgklaaGreatDoor.Z
open Go.RowKit YtncddikfafgklaaGreatDoorW.PrintWords YtncddikfafgklaaGreatDoorW.PrintLast
section
variable {α:Type} {d:Zd α} {e:Nat} {w w1:World} {S S':FP} {v v1:Value} {xs ys:List α}
theorem Row.mk_ {inner:List Value} (ho:w.ownsRow 0 e d.kd.sz v xs.length inner) (hS:∀g,v.ownBlock=some g→S g) (T:Nat→FP) (h1:∀j k,T j k→S k∧v.ownBlock≠some k) (h2:∀i j k,i≠j→T i k→¬T j k)
    (h3:∀j x,xs[j]?=some x→d.M w (T j) x ((inner.drop (j * d.kd.sz)).take d.kd.sz)):Row d e w S v xs:=⟨inner,ho,hS,T,h1,h2,h3⟩
theorem seg_left {inner news:List Value}{n sz j:Nat}(hl:inner.length=n * sz)(hj:j<n):((inner++news).drop (j * sz)).take sz=(inner.drop (j * sz)).take sz:=by
  have h1:j * sz+sz≤inner.length:=by rw [hl,←Nat.succ_mul];exact Nat.mul_le_mul_right _ hj
  rw [List.drop_append_of_le_length (by omega),List.take_append_of_le_length (by rw [List.length_drop];omega)]
theorem seg_right {inner news:List Value}{n sz j:Nat}(hl:inner.length=n * sz)(hj:n≤j):((inner++news).drop (j * sz)).take sz=(news.drop ((j - n) * sz)).take sz:=by
  have h1:j * sz=inner.length+(j - n) * sz:=by rw [hl,←Nat.add_mul];congr 1;omega
  rw [h1,List.drop_append,List.drop_of_length_le (by omega),Nat.add_sub_cancel_left,List.nil_append]
theorem Row.append {news:List Value} (h:Row d e w S v xs) (hlt:∀k,S k→k<w.heap.size) (T':Nat→FP) (hlt':∀j k,T' j k→k<w.heap.size) (hap:∀j k,T' j k→¬S k) (h2':∀i j k,i≠j→T' i k→¬T' j k)
    (h3':∀j x,ys[j]?=some x→d.M w (T' j) x ((news.drop (j * d.kd.sz)).take d.kd.sz))
    (H:∀inner,w.ownsRow 0 e d.kd.sz v xs.length inner→w1.ownsRow 0 e d.kd.sz v1 (xs++ys).length (inner++news)) (hg:w.grownBy w1 v.ownBlock) (hat:v1.ownBlock=v.ownBlock∨v1.ownBlock=some w.heap.size):
    Row d e w1 (fun k=>(S k∨(∃j,T' j k)∨w.heap.size≤k)∧k<w1.heap.size) v1 (xs++ys):=by
  obtain⟨inner,ho,hS,T,h1,h2,h3⟩:=h
  have ho1:=H inner ho
  have hown:∀g,v.ownBlock=some g→g<w.heap.size:=fun g hgb=>own_lt ho g hgb
  have hne:∀k,k<w.heap.size→v.ownBlock≠some k→v1.ownBlock≠some k:=by
    intro k hk hn
    rcases hat with e1|e1
    · rw [e1];exact hn
    · rw [e1];intro he;injection he with he;omega
  have hsz:=hg.size
  refine Row.mk_ ho1 (fun g hgb=>⟨?_,own_lt ho1 g hgb⟩) (fun j=>if j<xs.length then T j else T' (j - xs.length)) ?_ ?_ ?_
  · rcases hat with e1|e1
    · rw [e1] at hgb;exact .inl (hS g hgb)
    · rw [e1] at hgb;injection hgb with hgb;exact .inr (.inr (by omega))
  · intro j k hk
    (try dsimp only at hk)
    split at hk
    · have:=h1 j k hk
      have:=hlt k (h1 j k hk).1
      exact⟨⟨.inl (h1 j k hk).1,by omega⟩,hne k this (h1 j k hk).2⟩
    · have:=hlt' _ k hk
      exact⟨⟨.inr (.inl ⟨_,hk⟩),by omega⟩,hne k this (fun he=>hap _ k hk (hS k he))⟩
  · intro i j k hij hi hj
    (try dsimp only at hi hj)
    split at hi <;> split at hj
    · exact h2 i j k hij hi hj
    · exact hap _ k hj (h1 i k hi).1
    · exact hap _ k hi (h1 j k hj).1
    · exact h2' _ _ k (by omega) hi hj
  · intro j x hx
    have hinl:inner.length=xs.length * d.kd.sz:=ho.1
    by_cases hj:j<xs.length
    · rw [List.getElem?_append_left hj] at hx
      rw [seg_left hinl hj]
      simp only [hj,if_true]
      exact d.keep (fun k hk hl=>hg.block k hl (fun he=>(h1 j k hk).2 he.symm)) (h3 j x hx)
    · rw [List.getElem?_append_right (by omega)] at hx
      rw [seg_right hinl (by omega)]
      simp only [hj,if_false]
      exact d.keep (fun k hk hl=>hg.block k hl (fun he=>hap _ k hk (hS k he.symm))) (h3' _ x hx)
end
section
variable {P:Program} {ops:Array Oper} {rest:List Oper} {o:Oper} {a:Act} {Q:Exit→Act→World→Prop} {A:FP} {w0 W:World} {rs:List Res}
theorem wp_run {K:Act→World→Prop}{v:Value}{w1:World}(hrun:(execOp a.eval o).run P W=.ok (.value v) w1)(h:K (a.put o.dst v) w1):Oper.wp P o a W K Q:=by
  unfold Oper.wp
  rw [hrun]
  exact h
theorem if_wp {K:Act→World→Prop}{x:Prop}(hw:Region.wanted o (yielded ops a.tmps)=true)(h:Oper.wp P o a W K Q):if Region.wanted o (yielded ops a.tmps)=true then Oper.wp P o a W K Q else x:=by
  rw [if_pos hw]
  exact h
theorem wp_box {K:Act→World→Prop} (HS:Hp A w0 W rs) {ca:Array Value} {cs:List Value} {t:TypeId} (hrun:(execOp a.eval o).run P W=.ok (.value (.pointer (some ⟨W.heap.size,0,none⟩))) (W.alloc (.cells ca t (0,0)))) (hc:ca.toList=cs)
    (h:∀g w1,Hp A w0 w1 (rs++ [.box g cs t])→K (a.put o.dst (.pointer (some ⟨g,0,none⟩))) w1):Oper.wp P o a W K Q:=by
  obtain rfl:ca=cs.toArray:=Array.ext' (by simpa using hc)
  exact wp_run hrun (h _ _ (HS.push (below_alloc (Below.refl _ _) _) ⟨⟨Nat.le_refl _,by simp⟩,blk_new W _⟩))
theorem ev_box (hgd:o.guard=none) (HS:Hp A w0 W rs) {ca:Array Value} {cs:List Value} {t:TypeId} (hrun:(execOp a.eval o).run P W=.ok (.value (.pointer (some ⟨W.heap.size,0,none⟩))) (W.alloc (.cells ca t (0,0)))) (hc:ca.toList=cs)
    (h:∀g w1,Hp A w0 w1 (rs++ [.box g cs t])→wpList P ops Q rest (a.put o.dst (.pointer (some ⟨g,0,none⟩))) w1):wpList P ops Q (o :: rest) a W:=wpList_plain hgd fun _ hK=>wp_box HS hrun hc (fun g w1 h1=>hK _ _ (h g w1 h1))
def wrt:List Value→Nat→List Value→List Value
  |l,0,[]=>l
  | [],_,_=>[]
  |_ :: l,0,s :: ss=>s :: wrt l 0 ss
  |c :: l,n+1,ss=>c :: wrt l n ss
theorem wrt_eq:∀(l:List Value) (j:Nat) (seg:List Value),j+seg.length≤l.length→wrt l j seg=l.take j++seg++l.drop (j+seg.length)
  | [],0,[],_=>by simp [wrt]
  |_ :: _,0,[],_=>by simp [wrt]
  | [],_+1,_,h=>by simp at h
  | [],0,_ :: _,h=>by simp at h
  | c :: l,0,s :: ss,h=>by
    have h1:=wrt_eq l 0 ss (by simpa using h)
    simp [wrt,h1]
  | c :: l,n+1,ss,h=>by
    have h1:=wrt_eq l n ss (by simp at h;omega)
    have h2:n+1+ss.length=(n+ss.length)+1:=by omega
    rw [h2]
    simp [wrt,h1]
theorem wp_store {K:Act→World→Prop} (i j:Nat) (HS:Hp A w0 W rs) {g:Nat} {cs:List Value} {t:TypeId} (hi:rs[i]?=some (.box g cs t)) (hN:o.dst=none) {t':TypeId} {p x:Operand} (ho:o.op=.store t' p x) {u:Value} {seg:List Value}
    (haddr:a.eval p=.pointer (some ⟨g,j,none⟩)) (hx:a.eval x=u) (hu:u.cells.toList=seg) (ht:(P.info? t').map (·.size)=some seg.length) (hfit:j+seg.length≤cs.length) (h1:∀q∈seg,q.oneCell'=true)
    (h:∀w1,Hp A w0 w1 (rs.set i (.box g (wrt cs j seg) t))→K a w1):Oper.wp P o a W K Q:=by
  have hb:=HS.boxAt hi
  have hfit':j+seg.length≤cs.toArray.size:=by simpa using hfit
  have hrun:=run_store_run (P:=P) (o:=j) t' u seg hb hu ht hfit' h1
  obtain⟨cur',hc1,_,hc3⟩:=setCells_row seg j W cs.toArray hb hfit'
  obtain⟨s1,s2,s3,s4⟩:=setCells_same g seg j W
  have hcur:cur'=(wrt cs j seg).toArray:=Array.ext' (by rw [hc3,wrt_eq cs j seg hfit])
  subst hcur
  unfold Oper.wp execOp
  simp only [ho,haddr,hx,Sem.run_bind,Sem.run_pure,Result.andThen_ok,hrun]
  show K (a.put o.dst undef) _
  rw [hN]
  exact h _ (HS.upd i hi ⟨s1,s2,s3,by omega⟩ (fun S hS hl=>⟨S,⟨hS.1,hc1⟩,fun k hk=>⟨.inl hk,by have:=hl k hk;omega⟩,fun k _ hn=>setCells_far seg j k (fun he=>hn (he ▸ hS.1))⟩))
theorem ev_store (hgd:o.guard=none) (i j:Nat) (HS:Hp A w0 W rs) {g:Nat} {cs:List Value} {t:TypeId} (hi:rs[i]?=some (.box g cs t)) (hN:o.dst=none) {t':TypeId} {p x:Operand} (ho:o.op=.store t' p x) {u:Value} {seg:List Value}
    (haddr:a.eval p=.pointer (some ⟨g,j,none⟩)) (hx:a.eval x=u) (hu:u.cells.toList=seg) (ht:(P.info? t').map (·.size)=some seg.length) (hfit:j+seg.length≤cs.length) (h1:∀q∈seg,q.oneCell'=true)
    (h:∀w1,Hp A w0 w1 (rs.set i (.box g (wrt cs j seg) t))→wpList P ops Q rest a w1):wpList P ops Q (o :: rest) a W:=wpList_plain hgd fun _ hK=>wp_store i j HS hi hN ho haddr hx hu ht hfit h1 (fun w1 h2=>hK _ _ (h w1 h2))
theorem ev_call {f:FuncId} {fn:Func} {as:Array Operand} {ts:Array TypeId} (hgd:o.guard=none) (hf:P.funcs[f]?=some fn) (hname:(fn.name== "runtime.NumGoroutine")=false) (hb:fn.body.isSome=true) (args:Array Value)
    (hop:o.op=.call { callee:=.value (.func f),args:=as,argTypes:=ts }) (hargs:as.map a.eval=args)
    (h:Calls P f args W fun e w'=>∃v,e=.returned v∧wpList P ops Q rest (a.put o.dst v) w'):wpList P ops Q (o :: rest) a W:=goesL_ o.dst rfl hgd hf hname hb args hop hargs h
theorem wp_callv {K:Act→World→Prop} {f:FuncId} {fn:Func} {as:Array Operand} {ts:Array TypeId} {x:Operand} {caps:Array Value} (hf:P.funcs[f]?=some fn) (hname:(fn.name== "runtime.NumGoroutine")=false) (hb:fn.body.isSome=true) (args all:Array Value)
    (hop:o.op=.call { callee:=.value x,args:=as,argTypes:=ts }) (hx:a.eval x=.func (.func f) #[] caps) (hargs:as.map a.eval=args) (hall:args++caps=all)
    (h:Calls P f all W fun e w'=>∃v,e=.returned v∧K (a.put o.dst v) w'):Oper.wp P o a W K Q:=by
  have he:=enters_ (P:=P) hf hname hb all W
  have hrun:(execOp a.eval o).run P W=.ok (.enter f all) W:=by
    unfold execOp
    simp [hop,resolve,Deferred.ofValue,invoke,hx,hargs,hall,he]
  unfold Oper.wp
  rw [hrun,Oper.upon_enter]
  refine h.mono ?_
  rintro e w' ⟨v,rfl,hk⟩
  exact hk
theorem ev_callv (hgd:o.guard=none) {f:FuncId} {fn:Func} {as:Array Operand} {ts:Array TypeId} {x:Operand} {caps:Array Value} (hf:P.funcs[f]?=some fn) (hname:(fn.name== "runtime.NumGoroutine")=false) (hb:fn.body.isSome=true) (args all:Array Value)
    (hop:o.op=.call { callee:=.value x,args:=as,argTypes:=ts }) (hx:a.eval x=.func (.func f) #[] caps) (hargs:as.map a.eval=args) (hall:args++caps=all)
    (h:Calls P f all W fun e w'=>∃v,e=.returned v∧wpList P ops Q rest (a.put o.dst v) w'):wpList P ops Q (o :: rest) a W:=wpList_plain hgd fun _ hK=>wp_callv hf hname hb args all hop hx hargs hall (h.mono (fun _ _ ⟨v,hv,hk⟩=>⟨v,hv,hK _ _ hk⟩))
theorem run_append_any {e:Nat} {t ty:TypeId} {z:Value} {size bytes:Nat} (ht:P.underlying t=some (.slice e)) (hinfo:(P.info? e).map (fun i=>(i.zero,i.size,i.bytes))=some (some z,size,bytes)) (hz:z.cells.size=size) (hs0:0<size) (hb0:0<bytes)
    {v:Value} {n:Nat} {inner:List Value} (ho:W.ownsRow 0 e size v n inner) {B:Option Addr} {m c:Nat} {news:List Value} (hl:news.length=m * size) (hnews:0<m→∃ad,B=some ad∧∀j u,news[j]?=some u→W.cell? (ad.add j)=some u) (h1:∀u∈news,u.oneCell'=true)
    (hbytes:(n+m) * bytes≤140737488355328):
    ∃v1 w1,(Builtin.append_ #[t,t] ty #[v,.slice B m c]).run P W=.ok v1 w1∧w1.ownsRow 0 e size v1 (n+m) (inner++news)∧W.grownBy w1 v.ownBlock∧(v1.ownBlock=v.ownBlock∨v1.ownBlock=some W.heap.size):=by
  obtain⟨i0,hi,hzz⟩:=Option.map_eq_some_iff.1 hinfo
  simp only [Prod.mk.injEq] at hzz
  obtain⟨hz0,hz1,hz2⟩:=hzz
  have hlen:n+m≤140737488355328:=Nat.le_trans (Nat.le_mul_of_pos_right _ hb0) hbytes
  rcases Nat.eq_zero_or_pos m with h0|h0
  · subst h0
    obtain rfl:news=[]:=List.eq_nil_of_length_eq_zero (by simpa using hl)
    rcases B with _|ad
    · refine⟨v,W,?_,by simpa using ho,World.grownBy.refl W _,.inl rfl⟩
      rcases ho.2 with⟨rfl,hn⟩|⟨g,cap,cur,rfl,_,_,hnc,_⟩
      · simp [Builtin.append_,run_underlying ht,sizeOf,typeInfo,hi,Builtin.lenOf,Builtin.firstCells]
      · simp [Builtin.append_,run_underlying ht,sizeOf,typeInfo,hi,Builtin.lenOf,Builtin.firstCells,hnc,storeCells]
    · obtain⟨v1,w1,hr,h2,h3,_,h5⟩:=run_append_own_at (P:=P) W 0 t ty e i0 z size bytes ht hi hz0 hz1 hz2 hz hs0 v n inner ho ad 0 c [] hl (by simp) (by simp) (by simp only [maxLen];omega) hbytes (Nat.zero_le _)
      exact⟨v1,w1,hr,h2,h3,h5⟩
  · obtain⟨ad,rfl,hc⟩:=hnews h0
    obtain⟨v1,w1,hr,h2,h3,_,h5⟩:=run_append_own_at (P:=P) W 0 t ty e i0 z size bytes ht hi hz0 hz1 hz2 hz hs0 v n inner ho ad m c news hl hc h1 (by simp only [maxLen];omega) hbytes (Nat.zero_le _)
    exact⟨v1,w1,hr,h2,h3,h5⟩
end
section
variable {α:Type} {d:Zd α} {e:Nat} {w w1:World} {S S':FP} {v v1:Value} {xs ys:List α}
theorem seg_set {inner seg:List Value}{n sz i j:Nat}(hl:inner.length=n * sz)(hi:i<n)(hj:j<n)(hs:seg.length=sz):
    ((inner.take (i * sz)++seg++inner.drop (i * sz+sz)).drop (j * sz)).take sz=if j=i then seg else(inner.drop (j * sz)).take sz:=by
  have h1:i * sz+sz≤inner.length:=by rw [hl,←Nat.succ_mul];exact Nat.mul_le_mul_right _ hi
  have h2:j * sz+sz≤inner.length:=by rw [hl,←Nat.succ_mul];exact Nat.mul_le_mul_right _ hj
  have ht:(inner.take (i * sz)).length=i * sz:=by rw [List.length_take];omega
  by_cases hji:j=i
  · subst hji
    rw [if_pos rfl,List.append_assoc,List.drop_append,ht,List.drop_of_length_le (by omega),Nat.sub_self,List.drop_zero,List.nil_append,List.take_append_of_le_length (by omega),List.take_of_length_le (by omega)]
  · rw [if_neg hji]
    rcases Nat.lt_or_gt_of_ne hji with h|h
    · have h3:j * sz+sz≤i * sz:=by rw [←Nat.succ_mul];exact Nat.mul_le_mul_right _ h
      rw [List.append_assoc,List.drop_append_of_le_length (by omega),List.take_append_of_le_length (by rw [List.length_drop];omega),List.drop_take,List.take_take,Nat.min_eq_left (by omega)]
    · have h3:i * sz+sz≤j * sz:=by rw [←Nat.succ_mul];exact Nat.mul_le_mul_right _ h
      rw [List.drop_append,List.drop_of_length_le (by rw [List.length_append];omega),List.nil_append,List.length_append,ht,hs,List.drop_drop]
      congr 2
      omega
theorem Row.set {g n cap:Nat}{i:Nat}{x':α}{seg:List Value}(h:Row d e w S (.slice (some ⟨g,0,none⟩) n cap) xs)(hi:i<xs.length)(hs:seg.length=d.kd.sz)(hS':∀k,S' k→¬S k∧k<w.heap.size)(hM:d.M w S' x' seg):
    Row d e (w.setCells g (i * d.kd.sz) seg) (fun k=>S k∨S' k) (.slice (some ⟨g,0,none⟩) n cap) (xs.set i x')∧S g∧∃cur,w.heap[g]?=some (.cells cur e (0,0))∧i * d.kd.sz+d.kd.sz≤cur.size:=by
  obtain⟨inner,ho,h0,T,h1,h2,h3⟩:=h
  have hg:S g:=h0 g rfl
  rcases ho with⟨hl,⟨hv,_⟩|⟨g',cap',cur,hv,hb,hh,hnc,hcm,hcs,hin⟩⟩
  · cases hv
  injection hv with ha hn hc
  injection ha with ha
  injection ha with hg'
  subst hg';subst hc;subst hn
  have h4:i * d.kd.sz+d.kd.sz≤xs.length * d.kd.sz:=by rw [←Nat.succ_mul];exact Nat.mul_le_mul_right _ hi
  have h5:xs.length * d.kd.sz≤cap * d.kd.sz:=Nat.mul_le_mul_right _ hnc
  have hfit:i * d.kd.sz+seg.length≤cur.size:=by rw [hs,hcs];omega
  obtain⟨cur',hc1,hc2,hc3⟩:=setCells_row seg (i * d.kd.sz) w cur hh hfit
  have hne:∀k,k≠g→(w.setCells g (i * d.kd.sz) seg).heap[k]?=w.heap[k]?:=fun k hk=>setCells_far seg _ k hk
  have hlc:cur.toList.length=cap * d.kd.sz:=by rw [Array.length_toList];exact hcs
  have hin':cur'.toList.take (xs.length * d.kd.sz)=inner.take (i * d.kd.sz)++seg++inner.drop (i * d.kd.sz+d.kd.sz):=by
    rw [hc3,←hin,hs,List.take_take,Nat.min_eq_left (by omega),List.append_assoc,List.append_assoc,List.take_append,List.length_take,hlc,Nat.min_eq_left (by omega),List.take_of_length_le (by rw [List.length_take];omega),List.take_append,hs,List.take_of_length_le (l:=seg) (by omega),List.drop_take]
    congr 3
    omega
  refine⟨⟨inner.take (i * d.kd.sz)++seg++inner.drop (i * d.kd.sz+d.kd.sz),⟨?_,.inr ⟨g,cap,cur',by rw [List.length_set],hb,hc1,by rw [List.length_set];exact hnc,hcm,by rw [hc2,hcs],by rw [List.length_set];exact hin'⟩⟩,fun k hk=>.inl (h0 k hk),fun j=>if j=i then S' else T j,?_,?_,?_⟩,hg,cur,hh,by rw [hcs];omega⟩
  · rw [List.length_set,List.length_append,List.length_append,List.length_take,List.length_drop,hl,hs,Nat.min_eq_left (by omega)]
    omega
  · intro j k hk
    (try dsimp only at hk)
    split at hk
    · exact⟨.inr hk,fun he=>(hS' k hk).1 (h0 k he)⟩
    · exact⟨.inl (h1 j k hk).1,(h1 j k hk).2⟩
  · intro a b k hab ha hb'
    (try dsimp only at ha hb')
    split at ha <;> split at hb'
    · omega
    · exact(hS' k ha).1 (h1 b k hb').1
    · exact(hS' k hb').1 (h1 a k ha).1
    · exact h2 a b k hab ha hb'
  · intro j x hx
    have hjl:j<xs.length:=by have:=(List.getElem?_eq_some_iff.1 hx).1;rwa [List.length_set] at this
    rw [seg_set hl hi hjl hs]
    by_cases hji:j=i
    · subst hji
      rw [List.getElem?_set_self hjl] at hx
      injection hx with hx
      subst hx
      simp only [if_true]
      exact d.keep (fun k hk _=>hne k (fun he=>(hS' k hk).1 (he ▸ hg))) hM
    · rw [List.getElem?_set_ne (Ne.symm hji)] at hx
      simp only [hji,if_false]
      exact d.keep (fun k hk _=>hne k (fun he=>(h1 j k hk).2 (by rw [he];rfl))) (h3 j x hx)
end
def clr (rs:List Res)(js:List Nat):List Res:=js.foldl (fun l j=>l.set j .emp) rs
theorem clr_len:∀(js:List Nat) (rs:List Res),(clr rs js).length=rs.length
  | [],_=>rfl
  | j :: js,rs=>by
    show(clr (rs.set j .emp) js).length=_
    rw [clr_len js,List.length_set]
theorem clr_get:∀(js:List Nat) (rs:List Res) (a:Nat) (r:Res),(clr rs js)[a]?=some r→r=.emp∨(rs[a]?=some r∧a ∉ js)
  | [],_,_,_,h=>.inr ⟨h,by simp⟩
  | j :: js,rs,a,r,h=>by
    rcases clr_get js (rs.set j .emp) a r h with h1|⟨h1,h2⟩
    · exact .inl h1
    · by_cases ha:a=j
      · subst ha
        rw [List.getElem?_set] at h1
        rw [if_pos rfl] at h1
        split at h1
        · injection h1 with h1;exact .inl h1.symm
        · cases h1
      · rw [List.getElem?_set_ne (Ne.symm ha)] at h1
        exact .inr ⟨h1,by simp [ha,h2]⟩
section
variable {P:Program} {ops:Array Oper} {rest:List Oper} {o:Oper} {a:Act} {Q:Exit→Act→World→Prop} {A:FP} {w0 W:World} {rs:List Res}
def Made {α:Type}(d:Zd α)(W:World)(rs:List Res)(js:List Nat)(x:α)(cs:List Value):Prop:=
  ∀S:Nat→FP,(∀i j k,i≠j→S i k→¬S j k)→(∀(i:Nat) (r:Res),rs[i]?=some r→r.holds W (S i))→d.M W (fun k=>∃j,j∈js∧S j k) x cs
theorem made_flat {α:Type}{d:Zd α}{x:α}{cs:List Value}{js:List Nat}(h:∀S,d.M W S x cs):Made d W rs js x cs:=fun _ _ _=>h _
theorem wp_make {α:Type} {K:Act→World→Prop} (d:Zd α) (z0:α) (HS:Hp A w0 W rs) {t e:TypeId} {x y:Operand} (ho:o.op=.makeSlice t x y) (n:Int) (hx:a.eval x=.int .i64 n) (hy:a.eval y=.int .i64 n) (ht:P.underlying t=some (.slice e)) {z:Value} {bytes:Nat}
    (hinfo:(P.info? e).map (fun i=>(i.zero,i.size,i.bytes))=some (some z,d.kd.sz,bytes)) (hz:z.cells.size=d.kd.sz) (hs0:0<d.kd.sz) (hb0:0<bytes) (hzero:∀w S,d.M w S z0 z.cells.toList) (h0:0≤n) (hl:n.toNat * bytes≤281474976710656)
    (h:∀v1 w1,Hp A w0 w1 (rs++ [.own (Zd.slice e d) (List.replicate n.toNat z0) [v1]])→K (a.put o.dst v1) w1):Oper.wp P o a W K Q:=by
  obtain⟨i0,hi,hzz⟩:=Option.map_eq_some_iff.1 hinfo
  simp only [Prod.mk.injEq] at hzz
  obtain⟨hz0,hz1,hz2⟩:=hzz
  obtain⟨m,rfl⟩:∃m:Nat,n=m:=⟨n.toNat,by omega⟩
  rw [Int.toNat_natCast] at hl
  have hm:m≤281474976710656:=Nat.le_trans (Nat.le_mul_of_pos_right _ hb0) hl
  have hr:=run_make (P:=P) W t e i0 z ht hi hz0 .i64 .i64 (m:Int) (m:Int) (by omega) (by omega)
    (by
      have h3:((i0.bytes * m:Nat):Int)≤281474976710656:=by rw [hz2,Nat.mul_comm];omega
      rwa [Int.natCast_mul] at h3) (by omega)
  simp only [Int.toNat_natCast] at hr
  rw [hz1] at hr
  have hrep:Reps (fun y c=>y=z0∧c=z.cells.toList) d.kd.sz (List.replicate m z0) (madeCells z.cells (m * d.kd.sz)).toList:=Kd.reps_made hz hs0 ⟨rfl,rfl⟩ m
  refine wp_run (v:=.slice (some ⟨W.heap.size,0,none⟩) m m) (w1:=W.alloc (.cells (madeCells z.cells (m * d.kd.sz)) e)) (by simp [execOp,ho,hx,hy,hr]) (h _ _ (HS.push (below_alloc (Below.refl _ _) _) ⟨_,rfl,(madeCells z.cells (m * d.kd.sz)).toList,⟨?_,.inr ⟨W.heap.size,m,madeCells z.cells (m * d.kd.sz),by simp,Nat.zero_le _,blk_new W _,by simp,by simp only [maxLen];omega,?_,?_⟩⟩,?_,fun _ _=>False,fun _ _ h=>h.elim,fun _ _ _ _ h=>h.elim,?_⟩))
  · rw [hrep.1];simp
  · have:=hrep.1
    rw [Array.length_toList] at this
    simpa using this
  · rw [List.take_of_length_le (by rw [hrep.1];simp)]
  · intro g hg
    have:W.heap.size=g:=by simpa [Value.ownBlock] using hg
    subst this
    exact⟨Nat.le_refl _,by simp⟩
  · intro j x hx
    obtain⟨rfl,hc⟩:=hrep.2 j x (by simpa using hx)
    rw [hc]
    exact hzero _ _
theorem ev_make {α:Type} (hgd:o.guard=none) (d:Zd α) (z0:α) (HS:Hp A w0 W rs) {t e:TypeId} {x y:Operand} (ho:o.op=.makeSlice t x y) (n:Int) (hx:a.eval x=.int .i64 n) (hy:a.eval y=.int .i64 n) (ht:P.underlying t=some (.slice e)) {z:Value} {bytes:Nat}
    (hinfo:(P.info? e).map (fun i=>(i.zero,i.size,i.bytes))=some (some z,d.kd.sz,bytes)) (hz:z.cells.size=d.kd.sz) (hs0:0<d.kd.sz) (hb0:0<bytes) (hzero:∀w S,d.M w S z0 z.cells.toList) (h0:0≤n) (hl:n.toNat * bytes≤281474976710656)
    (h:∀v1 w1,Hp A w0 w1 (rs++ [.own (Zd.slice e d) (List.replicate n.toNat z0) [v1]])→wpList P ops Q rest (a.put o.dst v1) w1):wpList P ops Q (o :: rest) a W:=wpList_plain hgd fun _ hK=>wp_make d z0 HS ho n hx hy ht hinfo hz hs0 hb0 hzero h0 hl (fun v1 w1 h2=>hK _ _ (h v1 w1 h2))
theorem wp_set {α:Type} {K:Act→World→Prop} (d:Zd α) (r:Nat) (js:List Nat) (i:Int) (x':α) (HS:Hp A w0 W rs) {e n cap:Nat} {ad:Addr} {xs:List α} (hr:rs[r]?=some (.own (Zd.slice e d) xs [.slice (some ad) n cap])) (hrj:r ∉ js) (hN:o.dst=none)
    {t:TypeId} {p x:Operand} (ho:o.op=.store t p x) {o':Nat} {u:Value} {seg:List Value} (haddr:a.eval p=.pointer (some (ad.add o'))) (hoff:o'=i.toNat * d.kd.sz) (hx:a.eval x=u) (hu:u.cells.toList=seg) (ht:(P.info? t).map (·.size)=some seg.length)
    (h1:∀q∈seg,q.oneCell'=true) (hi:0≤i∧i<(n:Int)) (hlen:seg.length=d.kd.sz) (hM:Made d W rs js x' seg)
    (h:∀w1,Hp A w0 w1 ((clr rs js).set r (.own (Zd.slice e d) (xs.set i.toNat x') [.slice (some ad) n cap]))→K a w1):Oper.wp P o a W K Q:=by
  subst hoff
  obtain⟨g,rfl⟩:∃g,ad=⟨g,0,none⟩:=by
    obtain⟨sS,hsl,⟨v,hv,inner,ho',_⟩⟩:=HS.has hr
    injection hv with hv
    subst hv
    rcases ho' with⟨hl,⟨hv,_⟩|⟨g',cap',cur,hv,_⟩⟩
    · cases hv
    injection hv with ha
    injection ha with ha
    exact⟨g',ha⟩
  have hil:i.toNat<xs.length:=by
    obtain⟨B',c',he,_⟩:=HS.form r hr
    injection he with _ he _
    have:=hi.2
    omega
  have hadd:(⟨g,0,none⟩:Addr).add (i.toNat * d.kd.sz)=⟨g,i.toNat * d.kd.sz,none⟩:=by simp [Addr.add];exact fun h=>h.symm
  rw [hadd] at haddr
  obtain⟨sS,hsl,⟨v,hv,hrow⟩⟩:=HS.has hr
  injection hv with hv
  subst hv
  have hcur:∃cur,W.heap[g]?=some (.cells cur e (0,0))∧i.toNat * d.kd.sz+d.kd.sz≤cur.size:=by
    obtain⟨inner,ho',_⟩:=hrow
    rcases ho' with⟨hl,⟨hv,_⟩|⟨g',cap',cur,hv,hb,hh,hnc,hcm,hcs,hin⟩⟩
    · cases hv
    injection hv with ha hn hc
    injection ha with ha
    injection ha with hg'
    subst hg';subst hc;subst hn
    have h4:i.toNat * d.kd.sz+d.kd.sz≤xs.length * d.kd.sz:=by rw [←Nat.succ_mul];exact Nat.mul_le_mul_right _ hil
    have h5:xs.length * d.kd.sz≤cap * d.kd.sz:=Nat.mul_le_mul_right _ hnc
    exact⟨cur,hh,by rw [hcs];omega⟩
  obtain⟨cur,hh,hfit⟩:=hcur
  have hrun:=run_store_run (P:=P) (o:=i.toNat * d.kd.sz) t u seg hh hu ht (by omega) h1
  obtain⟨s1,s2,s3,s4⟩:=setCells_same g seg (i.toNat * d.kd.sz) W
  have hlr:r<rs.length:=(List.getElem?_eq_some_iff.1 hr).1
  have HS':Hp A w0 (W.setCells g (i.toNat * d.kd.sz) seg) ((clr rs js).set r (.own (Zd.slice e d) (xs.set i.toNat x') [.slice (some ⟨g,0,none⟩) n cap])):=by
    refine HS.via (r :: js) (ps:=[.own (Zd.slice e d) (xs.set i.toNat x') [.slice (some ⟨g,0,none⟩) n cap]]) (fun S h2 hl h3=>?_) _ (fun a=>if a=r then some 0 else none) ?_ ?_
    · obtain⟨v,hv,hrow⟩:=h3 r _ hr
      injection hv with hv
      subst hv
      obtain⟨hrow',hg,_⟩:=Row.set hrow hil hlen (S':=fun k=>∃j,j∈js∧S j k) (fun k ⟨j,hj,hk⟩=>⟨h2 j r k (fun e=>hrj (e ▸ hj)) hk,hl j k hk⟩) (hM S h2 h3)
      refine⟨⟨s1,s2,s3,by omega⟩,fun k hk hn=>setCells_far seg _ k (fun he=>hn ⟨r,by simp,he ▸ hg⟩),fun j k=>j=0∧(S r k∨∃j,j∈js∧S j k),fun j k hk=>⟨.inl ?_,?_⟩,fun a b k hab ha hb=>hab (by omega),fun j q hj=>?_⟩
      · rcases hk.2 with hk|⟨j',hj',hk⟩
        · exact⟨r,by simp,hk⟩
        · exact⟨j',by simp [hj'],hk⟩
      · rw [s4]
        rcases hk.2 with hk|⟨j',_,hk⟩
        · exact hl r k hk
        · exact hl j' k hk
      · cases j with
        | zero=>
          simp only [List.getElem?_cons_zero,Option.some.injEq] at hj
          subst hj
          exact⟨_,rfl,hrow'.mono (fun k hk=>⟨rfl,hk⟩)⟩
        |succ j=>simp at hj
    · intro a b j ha hb
      split at ha <;> split at hb <;> simp_all
    · intro b q hb
      by_cases hbr:b=r
      · subst hbr
        rw [List.getElem?_set_self (by rw [clr_len];exact hlr)] at hb
        exact .inl ⟨0,by simp,hb⟩
      · rw [List.getElem?_set_ne (Ne.symm hbr)] at hb
        refine .inr ⟨by simp [hbr],?_⟩
        rcases clr_get js rs b q hb with h5|⟨h5,h6⟩
        · exact .inl h5
        · exact .inr ⟨h5,by simp [hbr,h6]⟩
  unfold Oper.wp execOp
  simp only [ho,haddr,hx,Sem.run_bind,Sem.run_pure,Result.andThen_ok,hrun]
  show K (a.put o.dst undef) _
  rw [hN]
  exact h _ HS'
theorem ev_set {α:Type} (hgd:o.guard=none) (d:Zd α) (r:Nat) (js:List Nat) (i:Int) (x':α) (HS:Hp A w0 W rs) {e n cap:Nat} {ad:Addr} {xs:List α} (hr:rs[r]?=some (.own (Zd.slice e d) xs [.slice (some ad) n cap])) (hrj:r ∉ js) (hN:o.dst=none)
    {t:TypeId} {p x:Operand} (ho:o.op=.store t p x) {o':Nat} {u:Value} {seg:List Value} (haddr:a.eval p=.pointer (some (ad.add o'))) (hoff:o'=i.toNat * d.kd.sz) (hx:a.eval x=u) (hu:u.cells.toList=seg) (ht:(P.info? t).map (·.size)=some seg.length)
    (h1:∀q∈seg,q.oneCell'=true) (hi:0≤i∧i<(n:Int)) (hlen:seg.length=d.kd.sz) (hM:Made d W rs js x' seg)
    (h:∀w1,Hp A w0 w1 ((clr rs js).set r (.own (Zd.slice e d) (xs.set i.toNat x') [.slice (some ad) n cap]))→wpList P ops Q rest a w1):wpList P ops Q (o :: rest) a W:=wpList_plain hgd fun _ hK=>wp_set d r js i x' HS hr hrj hN ho haddr hoff hx hu ht h1 hi hlen hM (fun w1 h2=>hK _ _ (h w1 h2))
def SHp (A:FP)(w0:World)(rs:List Res)(w':World):Prop:=∃rs',Hp A w0 w' (rs++rs')
theorem Hp.drew (h:Hp A w0 W rs):Hp A w0 W.drew rs:=h.more (below_drew1 (Below.refl _ _))
theorem dr_start {id n:Nat} {T:Bool×List (List Nat×List Nat)} (ds:List Nat) (HS:Hp A w0 W rs) (l:Array Bool) (hm:P.follows .mixedOrders=true) (hn:ops.size=n) (hl:Array.replicate n false=l) (hT:rtab .any ops=T)
    (h:∀w1,Aside0 (rtab .any ops=T)→Hp A w0 w1 rs→SHp A w0 rs w1→wpAnyLast P .any ops Q (SHp A w0 rs) ds n l a w1):(Code.region id ops true).wp P Q a W:=
  have h0:SHp A w0 rs W.drew:=⟨[],by rw [List.append_nil];exact HS.drew⟩
  start_ l hm hn hl h0 (fun h1=>h _ ⟨hT⟩ HS.drew h1)
section
variable {S:World→Prop} {ds:List Nat} {oi:Oper} {l:Array Bool} {fuel:Nat} {T:Bool×List (List Nat×List Nat)}
theorem dr_pure (i:Nat) (N:Option Tmp) (hT:Aside0 (rtab .any ops=T)) {v:Value} (hi:ops[i]?=some oi) (hN:oi.dst=N) (hc:anyT T l.toList (l.toList.set i true) i=true) (hQ:∀c a w,Q (.panic c) (a.put oi.dst v) w→Q (.panic c) a w) (hy:Yields P ops oi v a) {a':Act} (ha:a.put N v=a')
    (h:wpAnyLast P .any ops Q S ds fuel (l.setIfInBounds i true) a' W):wpAnyLast P .any ops Q S ds (fuel+1) l a W:=
  pure_ _ hi hN (any_of hT.out (by rw [Array.toList_setIfInBounds];exact hc)) hQ hy ha h
theorem dr_take (i:Nat) (N:Option Tmp) (hT:Aside0 (rtab .any ops=T)) (hS:S W) {v:Value} (hi:ops[i]?=some oi) (hN:oi.dst=N) (hc:takeT T ds l.toList (l.toList.set i true) i=true) (hQ:∀c a w,Q (.panic c) (a.put oi.dst v) w→Q (.panic c) a w) (hy:YieldsIf P ops S oi v a) {a':Act} (ha:a.put N v=a')
    (h:wpAnyLast P .any ops Q S ds fuel (l.setIfInBounds i true) a' W):wpAnyLast P .any ops Q S ds (fuel+1) l a W:=
  take_ _ hi hN (take_of hT.out (by rw [Array.toList_setIfInBounds];exact hc)) hQ hy hS ha h
theorem dr_one (i:Nat) (hT:Aside0 (rtab .any ops=T)) (hi:ops[i]?=some oi) (hc:(readyT T.2 l.toList== [i])=true) (hd:i ∉ ds)
    (h:∀K:Act→World→Prop,Shut (∀a' w',S w'→(S w'→wpAnyLast P .any ops Q S ds fuel (l.setIfInBounds i true) a' w')→K a' w')→if Region.wanted oi (yielded ops a.tmps)=true then Oper.wp P oi a W K Q else K (a.put oi.dst undef) W):
    wpAnyLast P .any ops Q S ds (fuel+1) l a W:=
  one_ _ hi rfl (one_of hT.out (by rw [Array.toList_setIfInBounds,hc];simp)) hd h
theorem dr_last (i:Nat) (hT:Aside0 (rtab .any ops=T)) (hi:ops[i]?=some oi) (hc:(readyT T.2 l.toList== [i])=true) (hd:i∈ds)
    (h:∀K:Act→World→Prop,Shut (∀a' w',wpAnyLast P .any ops Q S ds fuel (l.setIfInBounds i true) a' w'→K a' w')→if Region.wanted oi (yielded ops a.tmps)=true then Oper.wp P oi a W K Q else K (a.put oi.dst undef) W):
    wpAnyLast P .any ops Q S ds (fuel+1) l a W:=
  last_ _ hi rfl (one_of hT.out (by rw [Array.toList_setIfInBounds,hc];simp)) hd h
end
end
section
variable {P:Program} {ops:Array Oper} {rest:List Oper} {o:Oper} {a:Act} {Q:Exit→Act→World→Prop} {A:FP} {w0 W:World} {rs:List Res} {K:Act→World→Prop}
theorem own_one {e size n:Nat}{v:Value}{i1 i2:List Value}(h1:W.ownsRow 0 e size v n i1)(h2:W.ownsRow 0 e size v n i2):i1=i2:=by
  obtain⟨l1,h1⟩:=h1
  obtain⟨l2,h2⟩:=h2
  rcases h1 with⟨rfl,rfl⟩|⟨g,cap,cur,rfl,_,hh,_,_,_,hin⟩
  · rw [List.eq_nil_of_length_eq_zero (l:=i1) (by simpa using l1),List.eq_nil_of_length_eq_zero (l:=i2) (by simpa using l2)]
  · rcases h2 with⟨hv,_⟩|⟨g',cap',cur',hv,_,hh',_,_,_,hin'⟩
    · cases hv
    · injection hv with ha _ _
      injection ha with ha
      injection ha with hg
      subst hg
      rw [hh] at hh'
      injection hh' with hc
      injection hc with hc
      subst hc
      exact hin.symm.trans hin'
def MadeL {α:Type}(d:Zd α)(W:World)(rs:List Res)(js:List Nat)(xs:List α)(cs:List Value):Prop:=
  cs.length=xs.length * d.kd.sz∧∀S:Nat→FP,(∀i j k,i≠j→S i k→¬S j k)→(∀(i:Nat) (r:Res),rs[i]?=some r→r.holds W (S i))→
    ∃T:Nat→FP,(∀j k,T j k→∃i,i∈js∧S i k)∧(∀i j k,i≠j→T i k→¬T j k)∧∀j x,xs[j]?=some x→d.M W (T j) x ((cs.drop (j * d.kd.sz)).take d.kd.sz)
theorem MadeL.nil {α:Type}{d:Zd α}:MadeL d W rs [] [] []:=⟨by simp,fun S _ _=>⟨fun _ _=>False,fun _ _ h=>h.elim,fun _ _ _ _ h=>h.elim,fun j x hx=>by simp at hx⟩⟩
theorem MadeL.cons {α:Type}{d:Zd α}{js1 js2:List Nat}{x:α}{xs:List α}{c cs:List Value}(hl:c.length=d.kd.sz)(h:Made d W rs js1 x c)(t:MadeL d W rs js2 xs cs)(hn:(js1++js2).Nodup):MadeL d W rs (js1++js2) (x :: xs) (c++cs):=by
  refine⟨by rw [List.length_append,hl,t.1,List.length_cons,Nat.succ_mul,Nat.add_comm],fun S h1 h2=>?_⟩
  obtain⟨T,t1,t2,t3⟩:=t.2 S h1 h2
  refine⟨fun j=>match j with|0=>(fun k=>∃i,i∈js1∧S i k)|j+1=>T j,?_,?_,?_⟩
  · rintro(_|j) k hk
    · obtain⟨i,hi,hk⟩:=hk
      exact⟨i,List.mem_append_left _ hi,hk⟩
    · obtain⟨i,hi,hk⟩:=t1 j k hk
      exact⟨i,List.mem_append_right _ hi,hk⟩
  · have hx:∀j k,(∃i,i∈js1∧S i k)→¬T j k:=by
      rintro j k ⟨i,hi,hk⟩ hT
      obtain⟨i',hi',hk'⟩:=t1 j k hT
      exact h1 i i' k (fun e=>(List.nodup_append.1 hn).2.2 i hi i' hi' e) hk hk'
    rintro(_|i) (_|j) k hij hi hj
    · exact hij rfl
    · exact hx j k hi hj
    · exact hx i k hj hi
    · exact t2 i j k (fun e=>hij (by rw [e])) hi hj
  · rintro(_|j) y hy
    · simp only [List.getElem?_cons_zero,Option.some.injEq] at hy
      subst hy
      rw [Nat.zero_mul,List.drop_zero,List.take_append_of_le_length (by omega),List.take_of_length_le (by omega)]
      exact h S h1 h2
    · have e:(j+1) * d.kd.sz=c.length+j * d.kd.sz:=by rw [hl,Nat.succ_mul,Nat.add_comm]
      rw [e,List.drop_append,List.drop_of_length_le (by omega),Nat.add_sub_cancel_left,List.nil_append]
      exact t3 j y (by simpa using hy)
theorem clr_push {js:List Nat}{r0:Res}{b:Nat}{q:Res}(hb:(clr rs js++ [r0])[b]?=some q):(b=rs.length∧q=r0)∨(b≠rs.length∧(q=.emp∨(rs[b]?=some q∧b ∉ js))):=by
  by_cases hl:b<rs.length
  · rw [List.getElem?_append_left (by rw [clr_len];exact hl)] at hb
    exact .inr ⟨by omega,clr_get js rs b q hb⟩
  · rw [List.getElem?_append_right (by rw [clr_len];omega),clr_len] at hb
    obtain⟨hlt,he⟩:=List.getElem?_eq_some_iff.1 hb
    have:b=rs.length:=by simp at hlt;omega
    subst this
    refine .inl ⟨rfl,?_⟩
    simpa using he.symm
theorem Hp.trade {w1:World} {r0:Res} (js:List Nat) (h:Hp A w0 W rs) (hos:w1.os=W.os∧w1.tape=W.tape∧w1.output=W.output∧W.heap.size≤w1.heap.size)
    (H:∀S:Nat→FP,(∀i j k,i≠j→S i k→¬S j k)→(∀i k,S i k→k<W.heap.size)→(∀(i:Nat) (r:Res),rs[i]?=some r→r.holds W (S i))→
      ∃S':FP,r0.holds w1 S'∧(∀k,S' k→((∃i,i∈js∧S i k)∨W.heap.size≤k)∧k<w1.heap.size)∧∀k,k<W.heap.size→(¬∃i,i∈js∧S i k)→w1.heap[k]?=W.heap[k]?):Hp A w0 w1 (clr rs js++ [r0]):=by
  refine h.via js (ps:=[r0]) (fun S h2 hl h3=>?_) _ (fun b=>if b=rs.length then some 0 else none) ?_ ?_
  · obtain⟨S',g1,g2,g3⟩:=H S h2 hl h3
    refine⟨hos,fun k hk hn=>g3 k hk hn,fun j k=>j=0∧S' k,fun j k hk=>g2 k hk.2,fun a b k hab ha hb=>hab (by omega),fun j q hj=>?_⟩
    cases j with
    | zero=>
      simp only [List.getElem?_cons_zero,Option.some.injEq] at hj
      subst hj
      exact Res.mono (fun k hk=>⟨rfl,hk⟩) g1
    |succ j=>simp at hj
  · intro a b j ha hb
    split at ha <;> split at hb <;> simp_all
  · intro b q hb
    rcases clr_push hb with⟨rfl,rfl⟩|⟨hne,hq⟩
    · exact .inl ⟨0,by simp,rfl⟩
    · exact .inr ⟨by simp [hne],hq⟩
theorem wp_lit {α:Type} (d:Zd α) (js:List Nat) (xs:List α) (cs:List Value) (HS:Hp A w0 W rs) {e n:Nat} {ca:Array Value} (hrun:(execOp a.eval o).run P W=.ok (.value (.slice (some ⟨W.heap.size,0,none⟩) n n)) (W.alloc (.cells ca e (0,0)))) (hn:xs.length=n) (hc:ca.toList=cs) (hm:n≤9223372036854775807) (hM:MadeL d W rs js xs cs)
    (h:∀v1 w1,Hp A w0 w1 (clr rs js++ [.own (Zd.slice e d) xs [v1]])→K (a.put o.dst v1) w1):Oper.wp P o a W K Q:=by
  subst hn
  refine wp_run hrun (h _ _ (HS.trade js ⟨rfl,rfl,rfl,by simp⟩ (fun S h1 h2 h3=>?_)))
  obtain⟨T,t1,t2,t3⟩:=hM.2 S h1 h3
  refine⟨fun k=>(∃i,i∈js∧S i k)∨k=W.heap.size,⟨_,rfl,cs,?_,?_,T,?_,t2,?_⟩,?_,?_⟩
  · have h4:=World.ownsRow_lit (base:=0) (e:=e) (size:=d.kd.sz) W ca xs.length (Nat.zero_le _) (by simpa [maxLen] using hm) (by rw [←Array.length_toList,hc];exact hM.1)
    rw [hc] at h4
    exact h4
  · intro g hg
    exact .inr (by simpa [Value.ownBlock] using hg.symm)
  · intro j k hk
    refine⟨.inl (t1 j k hk),fun he=>?_⟩
    have h5:W.heap.size=k:=by simpa [Value.ownBlock] using he
    obtain⟨i,_,hi⟩:=t1 j k hk
    have:=h2 i k hi
    omega
  · intro j x hx
    exact d.keep (fun k hk hl=>below_alloc (Below.refl _ _) _ |>.block k hl) (t3 j x hx)
  · rintro k (⟨i,hi,hk⟩|rfl)
    · exact⟨.inl ⟨i,hi,hk⟩,by have:=h2 i k hk;simp;omega⟩
    · exact⟨.inr (Nat.le_refl _),by simp⟩
  · intro k hk _
    exact(below_alloc (Below.refl _ _) _:Below W.heap.size W _).block k hk
theorem ev_lit {α:Type} (hgd:o.guard=none) (d:Zd α) (js:List Nat) (xs:List α) (cs:List Value) (HS:Hp A w0 W rs) {e n:Nat} {ca:Array Value} (hrun:(execOp a.eval o).run P W=.ok (.value (.slice (some ⟨W.heap.size,0,none⟩) n n)) (W.alloc (.cells ca e (0,0)))) (hn:xs.length=n) (hc:ca.toList=cs) (hm:n≤9223372036854775807) (hM:MadeL d W rs js xs cs)
    (h:∀v1 w1,Hp A w0 w1 (clr rs js++ [.own (Zd.slice e d) xs [v1]])→wpList P ops Q rest (a.put o.dst v1) w1):wpList P ops Q (o :: rest) a W:=wpList_plain hgd fun _ hK=>wp_lit d js xs cs HS hrun hn hc hm hM (fun v1 w1 h2=>hK _ _ (h v1 w1 h2))
theorem own_news {e size n c:Nat}{B:Option Addr}{m:Nat}{inner:List Value}(h:W.ownsRow 0 e size (.slice B m c) n inner):inner.length=n * size∧m=n∧(0<n→∃ad,B=some ad∧∀j u,inner[j]?=some u→W.cell? (ad.add j)=some u):=by
  obtain⟨hl,h⟩:=h
  rcases h with⟨hv,hn⟩|⟨g,cap,cur,hv,_,hh,_,_,_,hin⟩
  · injection hv with _ hv _
    exact⟨hl,by omega,fun h=>by omega⟩
  · injection hv with ha hm hc
    subst ha;subst hm
    refine⟨hl,rfl,fun _=>⟨_,rfl,fun j u hj=>?_⟩⟩
    have e1:(⟨g,0,none⟩:Addr).add j=⟨g,j,none⟩:=by simp [Addr.add];exact fun h=>h.symm
    rw [e1,blk_cell hh j,←Array.getElem?_toList]
    rw [←hin,List.getElem?_take] at hj
    split at hj
    · exact hj
    · cases hj
theorem wp_append {α:Type} (d:Zd α) (r q:Nat) (HS:Hp A w0 W rs) {e m c:Nat} {B:Option Addr} {v:Value} {xs ys:List α} (hr:rs[r]?=some (.own (Zd.slice e d) xs [v])) (hq:rs[q]?=some (.own (Zd.slice e d) ys [.slice B m c])) (hrq:r≠q)
    {t:TypeId} {x y:Operand} (ho:o.op=.call { callee:=.builtin .append,args:=#[x,y],argTypes:=#[t,t] }) (hx:a.eval x=v) (hy:a.eval y=.slice B m c) (ht:P.underlying t=some (.slice e)) {z:Value} {bytes:Nat}
    (hinfo:(P.info? e).map (fun i=>(i.zero,i.size,i.bytes))=some (some z,d.kd.sz,bytes)) (hz:z.cells.size=d.kd.sz) (hs0:0<d.kd.sz) (hb0:0<bytes) (hb:(xs.length+ys.length) * bytes≤140737488355328)
    (h:∀v1 w1,Hp A w0 w1 (clr rs [r,q]++ [.own (Zd.slice e d) (xs++ys) [v1]])→K (a.put o.dst v1) w1):Oper.wp P o a W K Q:=by
  obtain⟨S0,_,⟨v',hv',inner,hin,_⟩⟩:=HS.has hr
  injection hv' with hv'
  subst hv'
  obtain⟨S1,_,⟨v2,hv2,news,hnews,_,T1,_,_,hT1⟩⟩:=HS.has hq
  injection hv2 with hv2
  subst hv2
  obtain⟨hnl,hm,hnc⟩:=own_news hnews
  subst hm
  have h1:∀u∈news,u.oneCell'=true:=by
    intro u hu
    obtain⟨i,hi,rfl⟩:=List.getElem_of_mem hu
    have hjl:i / d.kd.sz<ys.length:=Nat.div_lt_of_lt_mul (by rw [Nat.mul_comm];omega)
    have hM:=hT1 (i / d.kd.sz) ys[i / d.kd.sz] (List.getElem?_eq_getElem hjl)
    refine d.kd.K_one (d.of_M hM) _ ?_
    rw [List.mem_iff_getElem?]
    refine⟨i % d.kd.sz,?_⟩
    rw [List.getElem?_take_of_lt (Nat.mod_lt _ hs0),List.getElem?_drop,Nat.mul_comm,Nat.div_add_mod]
    exact List.getElem?_eq_getElem hi
  obtain⟨v1,w1,hrun,hown,hg,hat⟩:=run_append_any (P:=P) (ty:=o.type) ht hinfo hz hs0 hb0 hin (B:=B) (c:=c) hnl hnc h1 hb
  have hR:∀S:Nat→FP,(∀i j k,i≠j→S i k→¬S j k)→(∀i k,S i k→k<W.heap.size)→(∀(i:Nat) (r:Res),rs[i]?=some r→r.holds W (S i))→
      ∃S':FP,Row d e w1 S' v1 (xs++ys)∧(∀k,S' k→((∃i,i∈ [r,q]∧S i k)∨W.heap.size≤k)∧k<w1.heap.size)∧∀k,k<W.heap.size→(¬∃i,i∈ [r,q]∧S i k)→w1.heap[k]?=W.heap[k]?:=by
    intro S g1 g2 g3
    obtain⟨u,hu,hrow⟩:=g3 r _ hr
    injection hu with hu
    subst hu
    obtain⟨u,hu,news',hnews',hS',T,t1,t2,t3⟩:=g3 q _ hq
    injection hu with hu
    subst hu
    obtain rfl:=own_one hnews hnews'
    have hres:=Row.append (w1:=w1) (v1:=v1) (ys:=ys) (news:=news) hrow (g2 r) T (fun j k hk=>g2 q k (t1 j k hk).1) (fun j k hk hs=>g1 q r k (Ne.symm hrq) (t1 j k hk).1 hs) t2 t3 (fun i2 h2=>by
      obtain rfl:=own_one hin h2
      rw [List.length_append]
      exact hown) hg hat
    refine⟨_,hres,fun k hk=>⟨?_,hk.2⟩,fun k hk hn=>hg.block k hk (fun he=>?_)⟩
    · rcases hk.1 with hk|⟨j,hk⟩|hk
      · exact .inl ⟨r,by simp,hk⟩
      · exact .inl ⟨q,by simp,(t1 j k hk).1⟩
      · exact .inr hk
    · obtain⟨_,_,hb',_⟩:=hrow
      exact hn ⟨r,by simp,hb' k he.symm⟩
  have hrun':(execOp a.eval o).run P W=.ok (.value v1) w1:=by
    unfold execOp
    simp only [ho,resolve,invoke,builtin,Sem.run_bind,Sem.run_pure,Result.andThen_ok,List.map_toArray,List.map_cons,List.map_nil,hx,hy,hrun]
  refine wp_run hrun' (h _ _ (HS.trade [r,q] ⟨hg.os,hg.tape,hg.output,hg.size⟩ (fun S g1 g2 g3=>?_)))
  obtain⟨S',k1,k2,k3⟩:=hR S g1 g2 g3
  exact⟨S',⟨_,rfl,k1⟩,k2,k3⟩
theorem ev_append {α:Type} (hgd:o.guard=none) (d:Zd α) (r q:Nat) (HS:Hp A w0 W rs) {e m c:Nat} {B:Option Addr} {v:Value} {xs ys:List α} (hr:rs[r]?=some (.own (Zd.slice e d) xs [v])) (hq:rs[q]?=some (.own (Zd.slice e d) ys [.slice B m c])) (hrq:r≠q)
    {t:TypeId} {x y:Operand} (ho:o.op=.call { callee:=.builtin .append,args:=#[x,y],argTypes:=#[t,t] }) (hx:a.eval x=v) (hy:a.eval y=.slice B m c) (ht:P.underlying t=some (.slice e)) {z:Value} {bytes:Nat}
    (hinfo:(P.info? e).map (fun i=>(i.zero,i.size,i.bytes))=some (some z,d.kd.sz,bytes)) (hz:z.cells.size=d.kd.sz) (hs0:0<d.kd.sz) (hb0:0<bytes) (hb:(xs.length+ys.length) * bytes≤140737488355328)
    (h:∀v1 w1,Hp A w0 w1 (clr rs [r,q]++ [.own (Zd.slice e d) (xs++ys) [v1]])→wpList P ops Q rest (a.put o.dst v1) w1):wpList P ops Q (o :: rest) a W:=wpList_plain hgd fun _ hK=>wp_append d r q HS hr hq hrq ho hx hy ht hinfo hz hs0 hb0 hb (fun v1 w1 h2=>hK _ _ (h v1 w1 h2))
end
section
variable {α β:Type} {a:Zd α} {b:Zd β} {w:World} {S:Nat→FP} {js1 js2:List Nat} {x:α} {y:β} {c0 c1:List Value}
theorem pair_app (hd:∀i j k,i≠j→S i k→¬S j k)(h0:a.M w (fun k=>∃i,i∈js1∧S i k) x c0)(h1:b.M w (fun k=>∃i,i∈js2∧S i k) y c1)(hn:(js1++js2).Nodup):
    (Zd.pair a b).M w (fun k=>∃i,i∈js1++js2∧S i k) (x,y) (c0++c1):=by
  refine⟨c0,c1,_,_,rfl,fun k ⟨i,hi,hk⟩=>⟨i,List.mem_append_left _ hi,hk⟩,fun k ⟨i,hi,hk⟩=>⟨i,List.mem_append_right _ hi,hk⟩,?_,h0,h1⟩
  rintro k ⟨i,hi,hk⟩ ⟨j,hj,hk'⟩
  exact hd i j k (fun e=>(List.nodup_append.1 hn).2.2 i hi j hj e) hk hk'
theorem nod_drop {l:List Nat}(n:Nat)(h:l.Nodup):(l.drop n).Nodup:=h.sublist (List.drop_sublist n l)
theorem made_one {j:Nat}(h:a.M w (S j) x c0):a.M w (fun k=>∃i,i∈ [j]∧S i k) x c0:=a.mono (fun k hk=>⟨j,by simp,hk⟩) h
theorem made_none {T:FP}(h:a.M w (fun k=>∃i,i∈([]:List Nat)∧(fun(_:Nat) (_:Nat)=>False) i k) x c0):a.M w T x c0:=a.mono (fun k ⟨i,hi,_⟩=>by cases hi) h
theorem row_none {e:Nat}{T:FP}:(Zd.slice e a).M w T [] [.slice none 0 0]:=⟨_,rfl,Row.nil _ _ _ _⟩
theorem hd_none:∀i j k:Nat,i≠j→(fun(_:Nat) (_:Nat)=>False) i k→¬(fun(_:Nat) (_:Nat)=>False) j k:=fun _ _ _ _ h=>h.elim
end
section
variable {α β γ:Type} {r:β}
theorem zbind {x:Option α}{f:α→Option β}(H:Aside0 (x.bind f=some r)):∃t,Aside0 (x=some t)∧Aside0 (f t=some r):=by
  obtain⟨t,h1,h2⟩:=Option.bind_eq_some_iff.1 H.out
  exact⟨t,⟨h1⟩,⟨h2⟩⟩
theorem zpos {c:Prop} [Decidable c] {x y:Option β}(h:c)(H:Aside0 ((if c then x else y)=some r)):Aside0 (x=some r):=⟨by have:=H.out;rwa [if_pos h] at this⟩
theorem zneg {c:Prop} [Decidable c] {x y:Option β}(h:¬c)(H:Aside0 ((if c then x else y)=some r)):Aside0 (y=some r):=⟨by have:=H.out;rwa [if_neg h] at this⟩
theorem zno {p:Prop}{c:Prop} [Decidable c] {x:Option β}(h:¬c)(H:Aside0 ((if c then x else none)=some r)):p:=by
  have:=H.out
  rw [if_neg h] at this
  cases this
theorem zsome {a:β}(H:Aside0 (some a=some r)):a=r:=Option.some.inj H.out
theorem zsome2 {α β:Type}{a r1:α}{b r2:β}(H:Aside0 (some (a,b)=some (r1,r2))):a=r1∧b=r2:=by
  have:=H.out
  simp only [Option.some.injEq,Prod.mk.injEq] at this
  exact this
theorem C_nil {α:Type}(d:Kd α)(w:World):d.C w none ([]:List α).length []:=⟨rfl,Nat.zero_le _,fun h=>absurd h (Nat.lt_irrefl 0)⟩
end
end Go.Proofs.YtncddikfafgklaaGreatDoor.Z

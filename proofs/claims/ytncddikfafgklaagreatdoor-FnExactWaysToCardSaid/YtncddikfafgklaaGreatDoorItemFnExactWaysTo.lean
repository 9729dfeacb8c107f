/- Items: the two ways of writing one, of asking whether it is right, and of copying it, agree. Plain lemmas, no condition. -/
import Derived.Test.YtncddikfafgklaaGreatDoorFamFnExactWaysTo
namespace Go.Proofs.YtncddikfafgklaaGreatDoor.ItemFnExactWaysTo
open Go.RowKit YtncddikfafgklaaGreatDoorW.PrintWords YtncddikfafgklaaGreatDoorW.PrintLast ZOpen Z F
open ZP
def Evt {α:Type}(f:Nat→Option α)(r:α):Prop:=∃K,∀k,K≤k→f k=some r
theorem Evt.now {α:Type}{r:α}:Evt (fun _=>some r) r:=⟨0,fun _ _=>rfl⟩
theorem Evt.of {α:Type}{f:Nat→Option α}{r:α}(h:∀k,f k=some r):Evt f r:=⟨0,fun k _=>h k⟩
theorem Evt.at_ {α:Type}{f:Nat→Option α}{r:α}(K:Nat)(h:∀k,K≤k→f k=some r):Evt f r:=⟨K,h⟩
theorem Evt.succ {α:Type}{f:Nat→Option α}{r:α}(h:Evt (fun k=>f (k+1)) r):Evt f r:=by
  obtain⟨K,h⟩:=h
  refine⟨K+1,fun k hk=>?_⟩
  obtain⟨k,rfl⟩:∃q,k=q+1:=⟨k - 1,by omega⟩
  exact h k (by omega)
theorem Evt.bind {α β:Type}{f:Nat→Option α}{g:Nat→α→Option β}{a:α}{r:β}(h:Evt f a)(h':Evt (fun k=>g k a) r):Evt (fun k=>(f k).bind (g k)) r:=by
  obtain⟨K,h⟩:=h
  obtain⟨K',h'⟩:=h'
  refine⟨max K K',fun k hk=>?_⟩
  show(f k).bind (g k)=some r
  rw [h k (by omega),Option.bind_some]
  exact h' k (by omega)
theorem Evt.eq {α:Type}{f g:Nat→Option α}{r:α}(h:Evt g r)(e:∀k,f k=g k):Evt f r:=by
  obtain⟨K,h⟩:=h
  exact⟨K,fun k hk=>(e k).trans (h k hk)⟩
theorem Evt.both {α β:Type}{f:Nat→Option α}{g:Nat→Option β}{a:α}{b:β}(h:Evt f a)(h':Evt g b):∃K,∀k,K≤k→f k=some a∧g k=some b:=by
  obtain⟨K,h⟩:=h
  obtain⟨K',h'⟩:=h'
  exact⟨max K K',fun k hk=>⟨h k (by omega),h' k (by omega)⟩⟩
theorem ext_ba {a b:ByteArray}(h:a.data.toList=b.data.toList):a=b:=by
  cases a;cases b
  simp only at h
  congr 1
  exact Array.ext' h
theorem sn_app (a b:List Int):strOfNums (a++b)=strOfNums a++strOfNums b:=by
  refine ext_ba ?_
  simp [strOfNums,ByteArray.data_append]
theorem sn_nil:strOfNums []=(⟨#[]⟩:ByteArray):=rfl
theorem sn_bytes (t:ByteArray):strOfNums (bytesOf t)=t:=by
  refine ext_ba ?_
  simp only [strOfNums,bytesOf,List.map_map]
  rw [show((fun n:Int=>UInt8.ofNat n.toNat)∘fun b:UInt8=>(b.toNat:Int))=id from funext fun b=>by simp]
  simp
theorem ba_nil {s:ByteArray}:s.toList=([]:List UInt8)↔s.size=0:=by
  rw [ByteArray.toList_eq]
  constructor
  · intro h
    have:=congrArg List.length h
    simpa using this
  · intro h
    exact List.eq_nil_of_length_eq_zero (by simpa using h)
theorem sn_bt (x:Int)(l:List Int)(h0:0≤x)(h1:x≤255):bt (strOfNums (x :: l)) 0=x:=by
  have:(0:Int).toNat<(strOfNums (x :: l)).size:=by rw [strOfNums_size];simp
  unfold bt
  rw [dif_pos this]
  have e:(strOfNums (x :: l))[(0:Int).toNat]'this=UInt8.ofNat x.toNat:=rfl
  rw [e]
  simp
  omega
theorem len_loop:∀(n:Nat) (x:Int) (l:List Int),0≤x→x≤4611686018427387904→x<256 ^ n→l.length+n≤1000→
    ∃t,(∀k,n<k→spec_l07Length.l0 k x (strOfNums l)=some t)∧(∀k,n<k→impl_lengthText.l0 k l x=some t)∧t.size≤l.length+n+1
  | n, x, l,h0,h1,h2,h3=>by
    by_cases c:0<x
    · cases n with
      |zero=>simp at h2;omega
      | succ n=>
        have e1:Int.tmod x 256 % 256=x % 256:=by rw [Int.tmod_eq_emod_of_nonneg h0];omega
        have e2:wrap64 (Int.tdiv x 256)=x / 256:=by rw [Int.tdiv_eq_ediv_of_nonneg h0];unfold wrap64;omega
        have e3:x / 256<256 ^ n:=by
          have:(256:Int) ^ (n+1)=256 ^ n * 256:=Int.pow_succ 256 n
          omega
        obtain⟨t,t1,t2,t3⟩:=len_loop n (x / 256) ([x % 256]++l) (by omega) (by omega) e3 (by simp;omega)
        have es:(strOfNums ([x % 256]:List Int)).size=1:=strOfNums_size _
        have es2:(strOfNums l).size=l.length:=strOfNums_size l
        refine⟨t,fun k hk=>?_,fun k hk=>?_,by simp at t3;omega⟩
        · obtain⟨k,rfl⟩:∃q,k=q+1:=⟨k - 1,by omega⟩
          rw [spec_l07Length.l0,if_pos c,e1,if_pos (by omega),e2,←sn_app]
          exact t1 k (by omega)
        · obtain⟨k,rfl⟩:∃q,k=q+1:=⟨k - 1,by omega⟩
          rw [impl_lengthText.l0,if_pos c,if_pos (by omega)]
          exact t2 k (by omega)
    · have es:(strOfNums ([wrap64 (128+((strOfNums l).size:Int)) % 256]:List Int)).size=1:=strOfNums_size _
      have es2:(strOfNums l).size=l.length:=strOfNums_size l
      refine⟨strOfNums ([wrap64 (128+(l.length:Int)) % 256]++l),fun k hk=>?_,fun k hk=>?_,by rw [strOfNums_size];simp⟩
      · obtain⟨k,rfl⟩:∃q,k=q+1:=⟨k - 1,by omega⟩
        rw [spec_l07Length.l0,if_neg c,if_pos (by omega),sn_app,es2]
      · obtain⟨k,rfl⟩:∃q,k=q+1:=⟨k - 1,by omega⟩
        rw [impl_lengthText.l0,if_neg c,if_pos (by omega)]
        rfl
theorem len (x:Int)(h0:0≤x)(h1:x≤4611686018427387904):∃t,Evt (fun k=>spec_l07Length.f k x) t∧Evt (fun k=>impl_lengthText.f k x) t∧t.size≤9:=by
  by_cases c:x<128
  · refine⟨strOfNums [x % 256],.of fun k=>by unfold spec_l07Length.f;rw [if_pos c],.of fun k=>by unfold impl_lengthText.f;rw [if_pos c],by rw [strOfNums_size];simp⟩
  · obtain⟨t,t1,t2,t3⟩:=len_loop 8 x [] h0 h1 (by rw [show(256:Int) ^ 8=18446744073709551616 from by decide];omega) (by simp)
    refine⟨t,.at_ 9 fun k hk=>?_,.at_ 9 fun k hk=>?_,by simpa using t3⟩
    · unfold spec_l07Length.f
      rw [if_neg c]
      exact t1 k (by omega)
    · unfold impl_lengthText.f
      rw [if_neg c]
      exact t2 k (by omega)
theorem int_loop:∀(n:Nat) (x y:Int) (l:List Int),0≤x→x≤4611686018427387904→x<256 ^ n→l.length+n≤1000→0≤y→y≤255→
    ∃it:S153,(∀k,n<k→spec_IntItem.l0 k x (strOfNums (y :: l))=some it)∧(∀k,n<k→impl_IntItem.l0 k (y :: l) x=some it)∧it.f0=2∧it.f2=[]∧it.f1.size≤l.length+n+2
  | n, x, y,l,h0,h1,h2,h3,y0,y1=>by
    by_cases c:0<x
    · cases n with
      |zero=>simp at h2;omega
      | succ n=>
        have e1:Int.tmod x 256 % 256=x % 256:=by rw [Int.tmod_eq_emod_of_nonneg h0];omega
        have e2:wrap64 (Int.tdiv x 256)=x / 256:=by rw [Int.tdiv_eq_ediv_of_nonneg h0];unfold wrap64;omega
        have e3:x / 256<256 ^ n:=by
          have:(256:Int) ^ (n+1)=256 ^ n * 256:=Int.pow_succ 256 n
          omega
        obtain⟨t,t1,t2,t3,t4,t5⟩:=int_loop n (x / 256) (x % 256) (y :: l) (by omega) (by omega) e3 (by simp;omega) (by omega) (by omega)
        have es:(strOfNums ([x % 256]:List Int)).size=1:=strOfNums_size _
        have es2:(strOfNums (y :: l)).size=l.length+1:=strOfNums_size _
        refine⟨t,fun k hk=>?_,fun k hk=>?_,t3,t4,by simp at t5;omega⟩
        · obtain⟨k,rfl⟩:∃q,k=q+1:=⟨k - 1,by omega⟩
          rw [spec_IntItem.l0,if_pos c,e1,if_pos (by omega),e2,←sn_app]
          exact t1 k (by omega)
        · obtain⟨k,rfl⟩:∃q,k=q+1:=⟨k - 1,by omega⟩
          rw [impl_IntItem.l0,if_pos c,if_pos (by simp;omega)]
          exact t2 k (by omega)
    · have es2:(strOfNums (y :: l)).size=l.length+1:=strOfNums_size _
      have en:¬(strOfNums (y :: l)).toList=([]:List UInt8):=fun h=>by have:=ba_nil.1 h;omega
      have e0:(⟨#[0]⟩:ByteArray).size=1:=rfl
      have hb:=sn_bt y l y0 y1
      have hr:rd (y :: l) 0=y:=rfl
      by_cases c2:128≤y
      · refine⟨⟨2,strOfNums ([0]++(y :: l)),[]⟩,fun k hk=>?_,fun k hk=>?_,rfl,rfl,by show(strOfNums ([0]++(y :: l))).size≤_;rw [strOfNums_size];simp⟩
        · obtain⟨k,rfl⟩:∃q,k=q+1:=⟨k - 1,by omega⟩
          rw [spec_IntItem.l0,if_neg c,if_neg en,if_pos (by omega),hb,if_pos c2,if_pos (by omega),sn_app]
          rfl
        · obtain⟨k,rfl⟩:∃q,k=q+1:=⟨k - 1,by omega⟩
          rw [impl_IntItem.l0,if_neg c,if_pos (by simp),hr,if_pos c2,if_pos (by simp;omega)]
          rfl
      · refine⟨⟨2,strOfNums (y :: l),[]⟩,fun k hk=>?_,fun k hk=>?_,rfl,rfl,by show(strOfNums (y :: l)).size≤_;omega⟩
        · obtain⟨k,rfl⟩:∃q,k=q+1:=⟨k - 1,by omega⟩
          rw [spec_IntItem.l0,if_neg c,if_neg en,if_pos (by omega),hb,if_neg c2]
        · obtain⟨k,rfl⟩:∃q,k=q+1:=⟨k - 1,by omega⟩
          rw [impl_IntItem.l0,if_neg c,if_pos (by simp),hr,if_neg c2]
theorem int_l1:∀(k:Nat) (x:Int) (s:ByteArray),spec_IntItem.l1 k x s=spec_IntItem.l0 k x s
  |0,_,_=>by rw [spec_IntItem.l1,spec_IntItem.l0]
  |k+1,x,s=>by rw [spec_IntItem.l1,spec_IntItem.l0];simp only [int_l1 k]
theorem int_l1':∀(k:Nat) (x:Int) (s:List Int),impl_IntItem.l1 k s x=impl_IntItem.l0 k s x
  |0,_,_=>by rw [impl_IntItem.l1,impl_IntItem.l0]
  |k+1,x,s=>by rw [impl_IntItem.l1,impl_IntItem.l0];simp only [int_l1' k]
theorem in_f (a b c:Int):spec_l01In.f a b c=some (decide (b≤a∧a≤c)):=by
  unfold spec_l01In.f
  by_cases h:b≤a
  · rw [if_pos h]
    exact congrArg some (decide_eq_decide.2 ⟨fun q=>⟨h,q⟩,fun q=>q.2⟩)
  · rw [if_neg h]
    exact congrArg some (decide_eq_false (fun q=>h q.1)).symm
theorem in_g (a b c:Int):impl_within.f a b c=some (decide (b≤a∧a≤c)):=in_f a b c
theorem int_zero:∀k,1≤k→spec_IntItem.l0 k 0 (⟨#[]⟩:ByteArray)=some ⟨2,strOfNums [0],[]⟩
  |0,h=>absurd h (by omega)
  | k+1,_=>by
    rw [spec_IntItem.l0,if_neg (by omega),if_pos (ba_nil.2 rfl),if_pos (by decide)]
    rfl
theorem int_zero':∀k,1≤k→impl_IntItem.l0 k [0] 0=some ⟨2,strOfNums [0],[]⟩
  |0,h=>absurd h (by omega)
  | k+1,_=>by
    rw [impl_IntItem.l0,if_neg (by omega),if_pos (by simp),if_neg (by decide)]
theorem int_item (n:Int):∃it:S153,Evt (fun k=>spec_IntItem.f k n) it∧Evt (fun k=>impl_IntItem.f k n) it∧it.f0=2∧it.f2=[]∧it.f1.size≤16:=by
  by_cases c:0≤n∧n≤1000000000
  · by_cases c2:n=0
    · subst c2
      refine⟨⟨2,strOfNums [0],[]⟩,.at_ 1 fun k hk=>?_,.at_ 1 fun k hk=>?_,rfl,rfl,by decide⟩
      · unfold spec_IntItem.f
        rw [in_f,decide_eq_true c,Option.bind_some,if_pos rfl]
        exact int_zero k hk
      · unfold impl_IntItem.f
        rw [in_g,decide_eq_true c,Option.bind_some,if_pos rfl]
        exact int_zero' k hk
    · obtain⟨it,i1,i2,i3,i4,i5⟩:=int_loop 4 (n / 256) (n % 256) [] (by omega) (by omega) (by rw [show(256:Int) ^ 4=4294967296 from by decide];omega) (by simp) (by omega) (by omega)
      refine⟨it,.at_ 8 fun k hk=>?_,.at_ 8 fun k hk=>?_,i3,i4,by simp at i5;omega⟩
      · unfold spec_IntItem.f
        rw [in_f,decide_eq_true c,Option.bind_some,if_pos rfl]
        obtain⟨k,rfl⟩:∃q,k=q+1:=⟨k - 1,by omega⟩
        have e1:Int.tmod n 256 % 256=n % 256:=by rw [Int.tmod_eq_emod_of_nonneg c.1];omega
        have e2:wrap64 (Int.tdiv n 256)=n / 256:=by rw [Int.tdiv_eq_ediv_of_nonneg c.1];unfold wrap64;omega
        have es:(strOfNums ([n % 256]:List Int)).size=1:=strOfNums_size _
        have e0:(⟨#[]⟩:ByteArray).size=0:=rfl
        rw [spec_IntItem.l0,if_pos (by omega),e1,if_pos (by omega),e2,←sn_nil,←sn_app]
        exact i1 k (by omega)
      · unfold impl_IntItem.f
        rw [in_g,decide_eq_true c,Option.bind_some,if_pos rfl]
        exact i2 k (by omega)
  · refine⟨⟨2,strOfNums [0],[]⟩,.at_ 1 fun k hk=>?_,.at_ 1 fun k hk=>?_,rfl,rfl,by decide⟩
    · unfold spec_IntItem.f
      rw [in_f,decide_eq_false c,Option.bind_some,if_neg (by simp),int_l1]
      exact int_zero k hk
    · unfold impl_IntItem.f
      rw [in_g,decide_eq_false c,Option.bind_some,if_neg (by simp),int_l1']
      exact int_zero' k hk
def sz:S153→Nat
  |⟨_,t,ks⟩=>16+t.size+(ks.attach.map fun⟨y,_⟩=>sz y).sum
theorem sz_eq (x:S153):sz x=16+x.f1.size+(x.f2.map sz).sum:=by
  cases x with
  | mk a t ks=>
    rw [sz]
    congr 2
    simp
theorem sz_list (ks:List S153):sz (⟨48,(⟨#[]⟩:ByteArray),ks⟩:S153)=16+(ks.map sz).sum:=by
  rw [sz_eq]
  show 16+0+_=_
  rw [Nat.add_zero]
theorem sum_mem {l:List Nat}{a:Nat}(h:a∈l):a≤l.sum:=by
  induction l with
  |nil=>cases h
  | cons b l ih=>
    rw [List.sum_cons]
    rcases List.mem_cons.1 h with rfl|h
    · omega
    · have:=ih h;omega
theorem sz_kid {x y:S153}(h:y∈x.f2):sz y+16≤sz x:=by
  rw [sz_eq x]
  have:=sum_mem (List.mem_map_of_mem (f:=sz) h)
  omega
theorem sum_len (l:List S153):16 * l.length≤(l.map sz).sum:=by
  induction l with
  |nil=>simp
  | cons b l ih=>
    have:=sz_eq b
    simp only [List.map_cons,List.sum_cons,List.length_cons]
    omega
theorem sz_len (x:S153):16 * x.f2.length≤sz x:=by
  have:=sum_len x.f2
  rw [sz_eq]
  omega
theorem rdit (x:List S153)(i:Nat)(h:i<x.length):rd_T153 x (i:Int)=x[i]:=by simp [rd_T153,h]
theorem drop_sum {l:List S153}{i:Nat}(h:i<l.length):((l.drop i).map sz).sum=sz l[i]+((l.drop (i+1)).map sz).sum:=by
  rw [List.drop_eq_getElem_cons h,List.map_cons,List.sum_cons]
theorem copy (n:Nat)(hn:n≤35184372088832):∀(x:S153),sz x≤n→Evt (fun k=>impl_copyItem.f k x) x:=by
  induction n using Nat.strongRecOn with
  |_ n IH=>
  intro x h
  have hl:=sz_len x
  have key:∀(m i:Nat),x.f2.length - i=m→i≤x.f2.length→Evt (fun k=>impl_copyItem.l0 k (x.f2.take i) (i:Int) x) x:=by
    intro m
    induction m with
    | zero=>
      intro i hm hi
      obtain rfl:i=x.f2.length:=by omega
      refine Evt.succ (Evt.eq Evt.now (fun k=>?_))
      rw [impl_copyItem.l0,if_neg (by omega),List.take_length]
      cases x;rfl
    | succ m ih=>
      intro i hm hi
      have hil:i<x.f2.length:=by omega
      have e1:wrap64 ((i:Int)+1)=((i+1:Nat):Int):=by rw [w64 (by omega) (by omega)];rfl
      have hkid:=sz_kid (List.getElem_mem hil)
      have hk:=IH (sz x.f2[i]) (by omega) (by omega) x.f2[i] (Nat.le_refl _)
      have hc:((x.f2.take i).length+1≤2932031007402)=True:=eq_true (by rw [List.length_take];omega)
      refine Evt.succ (Evt.eq (Evt.bind hk (g:=fun k t=>impl_copyItem.l0 k (x.f2.take i++ [t]) ((i+1:Nat):Int) x) ?_) (fun k=>?_))
      · have:=ih (i+1) (by omega) (by omega)
        rw [List.take_succ_eq_append_getElem hil] at this
        exact this
      · rw [impl_copyItem.l0,if_pos (by omega),if_pos (by omega),if_pos (by omega),rdit _ i hil,e1]
        simp only [hc,if_true,lets]
  refine Evt.succ (Evt.eq (key _ 0 rfl (by omega)) (fun k=>?_))
  rw [impl_copyItem.f]
  rfl
theorem list_item (ks:List S153)(h:(ks.map sz).sum≤35184372088832):Evt (fun k=>impl_ListItem.f k ks) ⟨48,(⟨#[]⟩:ByteArray),ks⟩:=by
  have hl:=sum_len ks
  have key:∀(m i:Nat),ks.length - i=m→i≤ks.length→Evt (fun k=>impl_ListItem.l0 k (ks.take i) (i:Int) ks) ⟨48,(⟨#[]⟩:ByteArray),ks⟩:=by
    intro m
    induction m with
    | zero=>
      intro i hm hi
      obtain rfl:i=ks.length:=by omega
      refine Evt.succ (Evt.eq Evt.now (fun k=>?_))
      rw [impl_ListItem.l0,if_neg (by omega),List.take_length]
    | succ m ih=>
      intro i hm hi
      have hil:i<ks.length:=by omega
      have e1:wrap64 ((i:Int)+1)=((i+1:Nat):Int):=by rw [w64 (by omega) (by omega)];rfl
      have hk:=copy (sz ks[i]) (by have:=sum_mem (List.mem_map_of_mem (f:=sz) (List.getElem_mem hil));omega) ks[i] (Nat.le_refl _)
      have hc:((ks.take i).length+1≤2932031007402)=True:=eq_true (by rw [List.length_take];omega)
      refine Evt.succ (Evt.eq (Evt.bind hk (g:=fun k t=>impl_ListItem.l0 k (ks.take i++ [t]) ((i+1:Nat):Int) ks) ?_) (fun k=>?_))
      · have:=ih (i+1) (by omega) (by omega)
        rw [List.take_succ_eq_append_getElem hil] at this
        exact this
      · rw [impl_ListItem.l0,if_pos (by omega),if_pos (by omega),if_pos (by omega),rdit _ i hil,e1]
        simp only [hc,if_true,lets]
  exact(key _ 0 rfl (by omega)).eq (fun k=>by unfold impl_ListItem.f;rfl)
theorem letters (x:S153)(hx:x.f1.size≤35184372088832):∀(m i:Nat),x.f1.size - i=m→i≤x.f1.size→
    ∃b,Evt (fun k=>spec_l07Plain.l0 k (i:Int) x) b∧Evt (fun k=>impl_bytesIn.l0 k (i:Int) x.f1 32 126) b:=by
  intro m
  induction m with
  | zero=>
    intro i hm hi
    refine⟨true,Evt.succ (Evt.eq Evt.now (fun k=>?_)),Evt.succ (Evt.eq Evt.now (fun k=>?_))⟩
    · rw [spec_l07Plain.l0,if_neg (by omega)]
    · rw [impl_bytesIn.l0,if_neg (by omega)]
  | succ m ih=>
    intro i hm hi
    have e1:wrap64 ((i:Int)+1)=((i+1:Nat):Int):=by rw [w64 (by omega) (by omega)];rfl
    have hr:=bt_range x.f1 (i:Int)
    have e2:wrap64 (bt x.f1 (i:Int))=bt x.f1 (i:Int):=by unfold wrap64;omega
    obtain⟨b,h1,h2⟩:=ih (i+1) (by omega) (by omega)
    by_cases c:32≤bt x.f1 (i:Int)∧bt x.f1 (i:Int)≤126
    · refine⟨b,Evt.succ (Evt.eq h1 (fun k=>?_)),Evt.succ (Evt.eq h2 (fun k=>?_))⟩
      · rw [spec_l07Plain.l0,if_pos (by omega),if_pos (by omega),if_pos (by omega),if_neg (by omega),if_neg (by omega),e1]
      · rw [impl_bytesIn.l0,if_pos (by omega),if_pos (by omega),if_pos (by omega),e2,in_g,decide_eq_true c,Option.bind_some,if_pos rfl,e1]
    · refine⟨false,Evt.succ (Evt.eq Evt.now (fun k=>?_)),Evt.succ (Evt.eq Evt.now (fun k=>?_))⟩
      · rw [spec_l07Plain.l0,if_pos (by omega),if_pos (by omega),if_pos (by omega)]
        by_cases c2:bt x.f1 (i:Int)<32
        · rw [if_pos c2]
        · rw [if_neg c2,if_pos (by omega)]
      · rw [impl_bytesIn.l0,if_pos (by omega),if_pos (by omega),if_pos (by omega),e2,in_g,decide_eq_false c,Option.bind_some,if_neg (by simp)]
theorem headed (x:S153)(s:ByteArray)(hs:s.size≤70368744177664):∃t,t.size≤s.size+10∧
    Evt (fun k=>((spec_l07Length.f k (s.size:Int)).bind fun t1=>(if(strOfNums ([(x.f0 % 256)]:List Int)).size+t1.size≤9223372036854775807 then(if((strOfNums ([(x.f0 % 256)]:List Int))++t1).size+s.size≤9223372036854775807 then(some (((strOfNums ([(x.f0 % 256)]:List Int))++t1)++s))else none)else none))) t∧
    Evt (fun k=>((impl_lengthText.f k (s.size:Int)).bind fun t1=>(if(strOfNums ([(x.f0 % 256)]:List Int)).size+t1.size≤9223372036854775807 then(if((strOfNums ([(x.f0 % 256)]:List Int))++t1).size+s.size≤9223372036854775807 then(some (((strOfNums ([(x.f0 % 256)]:List Int))++t1)++s))else none)else none))) t:=by
  obtain⟨t1,h1,h2,h3⟩:=len (s.size:Int) (by omega) (by omega)
  have e1:(strOfNums ([(x.f0 % 256)]:List Int)).size=1:=strOfNums_size _
  have e2:((strOfNums ([(x.f0 % 256)]:List Int))++t1).size=1+t1.size:=by rw [ByteArray.size_append,e1]
  refine⟨((strOfNums ([(x.f0 % 256)]:List Int))++t1)++s,by rw [ByteArray.size_append,e2];omega,Evt.bind h1 (Evt.eq Evt.now (fun k=>?_)),Evt.bind h2 (Evt.eq Evt.now (fun k=>?_))⟩
  · rw [if_pos (by omega),if_pos (by omega)]
  · rw [if_pos (by omega),if_pos (by omega)]
theorem all_loop2 {n:Nat} (hn:n≤4611686018427387) (L L':Nat→Int→Option Bool) (g g':Nat→Nat→Option Bool) (P:Nat→Prop)
    (h1:∀k i,i<n→L (k+1) (i:Int)=(g i k).bind (fun t=>if t=true then L k ((i+1:Nat):Int)else some false)) (h2:∀k,L (k+1) (n:Int)=some true)
    (h3:∀k i,i<n→L' (k+1) (i:Int)=(g' i k).bind (fun t=>if t=true then L' k ((i+1:Nat):Int)else some false)) (h4:∀k,L' (k+1) (n:Int)=some true)
    (hg:∀i,i<n→∃b,Evt (g i) b∧Evt (g' i) b∧(b=true→P i)):
    ∀(m i:Nat),n - i=m→i≤n→∃b,Evt (fun k=>L k (i:Int)) b∧Evt (fun k=>L' k (i:Int)) b∧(b=true→∀j,i≤j→j<n→P j):=by
  intro m
  induction m with
  | zero=>
    intro i hm hi
    obtain rfl:i=n:=by omega
    exact⟨true,Evt.succ (Evt.of h2),Evt.succ (Evt.of h4),fun _ j hj hij=>by omega⟩
  | succ m ih=>
    intro i hm hi
    have hil:i<n:=by omega
    obtain⟨b,k1,k2,k3⟩:=hg i hil
    cases b with
    | false=>
      refine⟨false,Evt.succ (Evt.eq (Evt.bind k1 (Evt.of fun k=>?_)) (fun k=>h1 k i hil)),Evt.succ (Evt.eq (Evt.bind k2 (Evt.of fun k=>?_)) (fun k=>h3 k i hil)),fun h=>by cases h⟩
      · exact if_neg (by simp)
      · exact if_neg (by simp)
    | true=>
      obtain⟨b,g1,g2,g3⟩:=ih (i+1) (by omega) (by omega)
      refine⟨b,Evt.succ (Evt.eq (Evt.bind k1 (Evt.eq g1 fun k=>?_)) (fun k=>h1 k i hil)),Evt.succ (Evt.eq (Evt.bind k2 (Evt.eq g2 fun k=>?_)) (fun k=>h3 k i hil)),fun hb j hij hj=>?_⟩
      · exact if_pos rfl
      · exact if_pos rfl
      · by_cases hji:j=i
        · subst hji;exact k3 rfl
        · exact g3 hb j (by omega) hj
theorem join_loop2 {n:Nat} (L:Nat→ByteArray→Int→Option ByteArray) (L':Nat→List Int→Int→Option ByteArray) (g g':Nat→Nat→Option ByteArray) (W:Nat→Nat)
    (h1:∀k i s,i<n→L (k+1) s (i:Int)=(g i k).bind (fun t=>if s.size+t.size≤9223372036854775807 then L k (s++t) ((i+1:Nat):Int)else none))
    (h3:∀k i l,i<n→L' (k+1) l (i:Int)=(g' i k).bind (fun t=>if l.length+t.size≤140737488355328 then L' k (l++bytesOf t) ((i+1:Nat):Int)else none))
    (hE:∀l:List Int,l.length≤35184372088832→∃t:ByteArray,t.size≤l.length+10∧Evt (fun k=>L (k+1) (strOfNums l) (n:Int)) t∧Evt (fun k=>L' (k+1) l (n:Int)) t)
    (hW:∀i,i<n→W (i+1)≤W i) (hg:∀i,i<n→∃t:ByteArray,Evt (g i) t∧Evt (g' i) t∧t.size+W (i+1)≤W i):
    ∀(m i:Nat) (l:List Int),n - i=m→i≤n→l.length+W i≤35184372088832→∃t:ByteArray,Evt (fun k=>L k (strOfNums l) (i:Int)) t∧Evt (fun k=>L' k l (i:Int)) t∧t.size≤l.length+W i+10:=by
  intro m
  induction m with
  | zero=>
    intro i l hm hi hb
    obtain rfl:i=n:=by omega
    obtain⟨t,t1,t2,t3⟩:=hE l (by omega)
    exact⟨t,Evt.succ t2,Evt.succ t3,by omega⟩
  | succ m ih=>
    intro i l hm hi hb
    have hil:i<n:=by omega
    have es:(strOfNums l).size=l.length:=strOfNums_size l
    obtain⟨t,t1,t2,t3⟩:=hg i hil
    have el:(l++bytesOf t).length=l.length+t.size:=by rw [List.length_append,bytesOf_length]
    obtain⟨u,u1,u2,u3⟩:=ih (i+1) (l++bytesOf t) (by omega) (by omega) (by omega)
    rw [sn_app,sn_bytes] at u1
    refine⟨u,Evt.succ (Evt.eq (Evt.bind t1 (Evt.eq u1 fun k=>?_)) (fun k=>h1 k i _ hil)),Evt.succ (Evt.eq (Evt.bind t2 (Evt.eq u2 fun k=>?_)) (fun k=>h3 k i _ hil)),by omega⟩
    · exact if_pos (by omega)
    · exact if_pos (by omega)
set_option maxHeartbeats 4000000 in
theorem item (n:Nat)(hn:n≤35184372088832):∀(x:S153),sz x≤n→∀d:Int,0≤d→d≤6→
    ∃b,Evt (fun k=>spec_l07Right.f k x d) b∧Evt (fun k=>impl_itemOk.f k x d) b∧(b=true→∃t,Evt (fun k=>spec_l07Text.f k x) t∧Evt (fun k=>impl_itemText.f k x) t∧t.size≤sz x):=by
  induction n using Nat.strongRecOn with
  |_ n IH=>
  intro x h d d0 d1
  have hl:=sz_len x
  have hz:=sz_eq x
  by_cases c48:x.f0=48
  · by_cases cn:x.f1.toList=([]:List UInt8)
    · by_cases c40:40<(x.f2.length:Int)
      · exact⟨false,Evt.succ (Evt.eq Evt.now (fun k=>by rw [spec_l07Right.f,if_pos c48,if_pos cn,if_pos c40])),Evt.succ (Evt.eq Evt.now (fun k=>by rw [impl_itemOk.f,if_pos c48,if_pos cn,if_pos c40])),fun h=>by cases h⟩
      by_cases c6:6≤d
      · exact⟨false,Evt.succ (Evt.eq Evt.now (fun k=>by rw [spec_l07Right.f,if_pos c48,if_pos cn,if_neg c40,if_pos c6])),Evt.succ (Evt.eq Evt.now (fun k=>by rw [impl_itemOk.f,if_pos c48,if_pos cn,if_neg c40,if_pos c6])),fun h=>by cases h⟩
      have ed:wrap64 (d+1)=d+1:=w64 (by omega) (by omega)
      have kid:=fun(i:Nat) (hi:i<x.f2.length)=>IH (sz x.f2[i]) (by have:=sz_kid (List.getElem_mem hi);omega) (by have:=sz_kid (List.getElem_mem hi);omega) x.f2[i] (Nat.le_refl _) (d+1) (by omega) (by omega)
      have e1:∀i:Nat,i<x.f2.length→wrap64 ((i:Int)+1)=((i+1:Nat):Int):=fun i hi=>by rw [w64 (by omega) (by omega)];rfl
      obtain⟨b,b1,b2,b3⟩:=all_loop2 (n:=x.f2.length) (by omega) (fun k i=>spec_l07Right.l0 k i x d) (fun k i=>impl_itemOk.l0 k i x d) (fun i k=>spec_l07Right.f k (rd_T153 x.f2 (i:Int)) (d+1)) (fun i k=>impl_itemOk.f k (rd_T153 x.f2 (i:Int)) (d+1))
        (fun i=>∃t,Evt (fun k=>spec_l07Text.f k (rd_T153 x.f2 (i:Int))) t∧Evt (fun k=>impl_itemText.f k (rd_T153 x.f2 (i:Int))) t∧t.size≤sz (rd_T153 x.f2 (i:Int)))
        (fun k i hi=>by show spec_l07Right.l0 (k+1) (i:Int) x d=_;rw [spec_l07Right.l0,if_pos (by omega),if_pos (by omega),if_pos (by omega),e1 i hi,ed])
        (fun k=>by show spec_l07Right.l0 (k+1) _ x d=_;rw [spec_l07Right.l0,if_neg (by omega)])
        (fun k i hi=>by show impl_itemOk.l0 (k+1) (i:Int) x d=_;rw [impl_itemOk.l0,if_pos (by omega),if_pos (by omega),if_pos (by omega),e1 i hi,ed])
        (fun k=>by show impl_itemOk.l0 (k+1) _ x d=_;rw [impl_itemOk.l0,if_neg (by omega)])
        (fun i hi=>by rw [rdit _ i hi];exact kid i hi) _ 0 rfl (by omega)
      refine⟨b,Evt.succ (Evt.eq b1 (fun k=>by rw [spec_l07Right.f,if_pos c48,if_pos cn,if_neg c40,if_neg c6];rfl)),Evt.succ (Evt.eq b2 (fun k=>by rw [impl_itemOk.f,if_pos c48,if_pos cn,if_neg c40,if_neg c6];rfl)),fun hb=>?_⟩
      have e0:x.f1=strOfNums []:=by
        refine ext_ba ?_
        rw [←ByteArray.toList_eq,cn]
        rfl
      obtain⟨t,t1,t2,t3⟩:=join_loop2 (n:=x.f2.length) (fun k s i=>spec_l07Text.l0 k s i x) (fun k l i=>impl_itemText.l0 k l i x) (fun i k=>spec_l07Text.f k (rd_T153 x.f2 (i:Int))) (fun i k=>impl_itemText.f k (rd_T153 x.f2 (i:Int))) (fun i=>((x.f2.drop i).map sz).sum)
        (fun k i s hi=>by show spec_l07Text.l0 (k+1) s (i:Int) x=_;rw [spec_l07Text.l0,if_pos (by omega),if_pos (by omega),if_pos (by omega),e1 i hi])
        (fun k i l hi=>by show impl_itemText.l0 (k+1) l (i:Int) x=_;rw [impl_itemText.l0,if_pos (by omega),if_pos (by omega),if_pos (by omega),e1 i hi];rfl)
        (fun l hl'=>by
          have es:(strOfNums l).size=l.length:=strOfNums_size l
          obtain⟨t,t1,t2,t3⟩:=headed x (strOfNums l) (by omega)
          refine⟨t,by omega,Evt.eq t2 (fun k=>?_),Evt.eq t3 (fun k=>?_)⟩
          · show spec_l07Text.l0 (k+1) _ _ x=_
            rw [spec_l07Text.l0,if_neg (by omega)]
          · show impl_itemText.l0 (k+1) _ _ x=_
            rw [impl_itemText.l0,if_neg (by omega)])
        (fun i hi=>by rw [drop_sum hi];exact Nat.le_add_left _ _)
        (fun i hi=>by
          obtain⟨t,t1,t2,t3⟩:=b3 hb i (by omega) hi
          refine⟨t,t1,t2,?_⟩
          rw [rdit _ i hi] at t3
          rw [drop_sum hi]
          omega) _ 0 [] rfl (by omega) (by simp only [List.length_nil,List.drop_zero];omega)
      simp only [List.length_nil,List.drop_zero] at t3
      rw [←e0] at t1
      refine⟨t,Evt.succ (Evt.eq t1 (fun k=>by rw [spec_l07Text.f,if_pos c48];rfl)),Evt.succ (Evt.eq t2 (fun k=>by rw [impl_itemText.f,if_pos c48];rfl)),by omega⟩
    · exact⟨false,Evt.succ (Evt.eq Evt.now (fun k=>by rw [spec_l07Right.f,if_pos c48,if_neg cn])),Evt.succ (Evt.eq Evt.now (fun k=>by rw [impl_itemOk.f,if_pos c48,if_neg cn])),fun h=>by cases h⟩
  · have text:∃t,Evt (fun k=>spec_l07Text.f k x) t∧Evt (fun k=>impl_itemText.f k x) t∧t.size≤sz x:=by
      obtain⟨t,t1,t2,t3⟩:=headed x x.f1 (by omega)
      refine⟨t,Evt.succ (Evt.eq t2 (fun k=>?_)),Evt.succ (Evt.eq t3 (fun k=>?_)),by omega⟩
      · rw [spec_l07Text.f,if_neg c48]
      · rw [impl_itemText.f,if_neg c48]
    by_cases ck:(x.f2.length:Int)=0
    · have ck':¬0<(x.f2.length:Int):=by omega
      have plain : ∃ b, Evt (fun k => spec_l07Plain.f k x) b ∧ Evt (fun k => impl_itemOk.f (k + 1) x d) b := by
        by_cases t1:x.f0=1
        · by_cases z:x.f1.toList=([0]:List UInt8)
          · exact⟨true,Evt.of fun k=>by unfold spec_l07Plain.f;rw [if_pos t1,if_pos z],Evt.of fun k=>by rw [impl_itemOk.f,if_neg c48,if_neg ck',if_pos t1,if_pos z]⟩
          · exact⟨_,Evt.of fun k=>by unfold spec_l07Plain.f;rw [if_pos t1,if_neg z],Evt.of fun k=>by rw [impl_itemOk.f,if_neg c48,if_neg ck',if_pos t1,if_neg z]⟩
        by_cases t2:x.f0=2
        · by_cases w:(1:Int)≤(x.f1.size:Int)∧(x.f1.size:Int)≤5
          · have w0:0<(x.f1.size:Int):=by omega
            by_cases hb:128≤bt x.f1 0
            · refine⟨false,Evt.of fun k=>?_,Evt.of fun k=>?_⟩
              · unfold spec_l07Plain.f
                rw [if_neg t1,if_pos t2,in_f,decide_eq_true w,Option.bind_some,if_pos rfl,if_pos w0,if_pos hb]
              · rw [impl_itemOk.f,if_neg c48,if_neg ck',if_neg t1,if_pos t2,in_g,decide_eq_true w,Option.bind_some,if_pos rfl,if_pos w0,if_neg (by omega)]
            · by_cases hz0:bt x.f1 0=0
              · by_cases h1:(x.f1.size:Int)=1
                · refine⟨true,Evt.of fun k=>?_,Evt.of fun k=>?_⟩
                  · unfold spec_l07Plain.f
                    rw [if_neg t1,if_pos t2,in_f,decide_eq_true w,Option.bind_some,if_pos rfl,if_pos w0,if_neg hb,if_pos hz0,if_pos h1]
                  · rw [impl_itemOk.f,if_neg c48,if_neg ck',if_neg t1,if_pos t2,in_g,decide_eq_true w,Option.bind_some,if_pos rfl,if_pos w0,if_pos (by omega),if_pos hz0,if_pos h1]
                · have h2:1<(x.f1.size:Int):=by omega
                  refine⟨decide (128≤bt x.f1 1),Evt.of fun k=>?_,Evt.of fun k=>?_⟩
                  · unfold spec_l07Plain.f
                    rw [if_neg t1,if_pos t2,in_f,decide_eq_true w,Option.bind_some,if_pos rfl,if_pos w0,if_neg hb,if_pos hz0,if_neg h1,if_pos h2]
                  · rw [impl_itemOk.f,if_neg c48,if_neg ck',if_neg t1,if_pos t2,in_g,decide_eq_true w,Option.bind_some,if_pos rfl,if_pos w0,if_pos (by omega),if_pos hz0,if_neg h1,if_pos h2]
              · refine⟨true,Evt.of fun k=>?_,Evt.of fun k=>?_⟩
                · unfold spec_l07Plain.f
                  rw [if_neg t1,if_pos t2,in_f,decide_eq_true w,Option.bind_some,if_pos rfl,if_pos w0,if_neg hb,if_neg hz0]
                · rw [impl_itemOk.f,if_neg c48,if_neg ck',if_neg t1,if_pos t2,in_g,decide_eq_true w,Option.bind_some,if_pos rfl,if_pos w0,if_pos (by omega),if_neg hz0]
          · refine⟨false,Evt.of fun k=>?_,Evt.of fun k=>?_⟩
            · unfold spec_l07Plain.f
              rw [if_neg t1,if_pos t2,in_f,decide_eq_false w,Option.bind_some,if_neg (by simp)]
            · rw [impl_itemOk.f,if_neg c48,if_neg ck',if_neg t1,if_pos t2,in_g,decide_eq_false w,Option.bind_some,if_neg (by simp)]
        by_cases t12:x.f0=12
        · obtain⟨b,b1,b2⟩:=letters x (by omega) _ 0 rfl (by omega)
          refine⟨b,b1.eq (fun k=>?_),?_⟩
          · unfold spec_l07Plain.f
            rw [if_neg t1,if_neg t2,if_pos t12]
            rfl
          · refine Evt.eq (Evt.bind b2 (g:=fun _ t=>some t) Evt.now) (fun k=>?_)
            rw [impl_itemOk.f,if_neg c48,if_neg ck',if_neg t1,if_neg t2,if_neg (by omega),if_pos t12]
            rfl
        by_cases t4:x.f0=4
        · refine⟨true,Evt.of fun k=>?_,Evt.of fun k=>?_⟩
          · unfold spec_l07Plain.f
            rw [if_neg t1,if_neg t2,if_neg t12,t4]
            rfl
          · rw [impl_itemOk.f,if_neg c48,if_neg ck',if_neg t1,if_neg t2,if_pos t4]
        · refine⟨false,Evt.of fun k=>?_,Evt.of fun k=>?_⟩
          · unfold spec_l07Plain.f
            rw [if_neg t1,if_neg t2,if_neg t12]
            simp [t4]
          · rw [impl_itemOk.f,if_neg c48,if_neg ck',if_neg t1,if_neg t2,if_neg t4,if_neg t12]
      obtain⟨b,b1,b2⟩:=plain
      exact⟨b,Evt.succ (Evt.eq (Evt.bind b1 (g:=fun _ t=>some t) Evt.now) (fun k=>by rw [spec_l07Right.f,if_neg c48,if_pos ck])),Evt.succ b2,fun _=>text⟩
    · refine⟨false,Evt.succ (Evt.eq Evt.now (fun k=>?_)),Evt.succ (Evt.eq Evt.now (fun k=>?_)),fun h=>by cases h⟩
      · rw [spec_l07Right.f,if_neg c48,if_neg ck]
      · rw [impl_itemOk.f,if_neg c48,if_pos (by omega)]
theorem item_text (x:S153)(h:sz x≤35184372088832):∃r,Evt (fun k=>spec_ItemText.f k x) r∧Evt (fun k=>impl_ItemText.f k x) r:=by
  obtain⟨b,b1,b2,b3⟩:=item (sz x) h x (Nat.le_refl _) 0 (by omega) (by omega)
  have s1:Evt (fun k=>spec_ItemOk.f k x) b:=(Evt.bind b1 (g:=fun _ t=>some t) Evt.now).eq (fun k=>by unfold spec_ItemOk.f;rfl)
  have s2:Evt (fun k=>impl_ItemOk.f k x) b:=(Evt.bind b2 (g:=fun _ t=>some t) Evt.now).eq (fun k=>by unfold impl_ItemOk.f;rfl)
  cases b with
  |false=>exact⟨_,(Evt.bind s1 (g:=fun k t3=>if t3=true then((spec_l07Text.f k x).bind fun t6=>(if 4000<(t6.size:Int)then(some ((⟨#[]⟩:ByteArray),false))else(some (t6,true))))else(some ((⟨#[]⟩:ByteArray),false))) (Evt.eq Evt.now (fun k=>by rw [if_neg (by simp)]))).eq (fun k=>by unfold spec_ItemText.f;rfl),
      (Evt.bind s2 (g:=fun k t3=>if t3=true then((impl_itemText.f k x).bind fun t6=>(if 4000<(t6.size:Int)then(some ((⟨#[]⟩:ByteArray),false))else(some (t6,true))))else(some ((⟨#[]⟩:ByteArray),false))) (Evt.eq Evt.now (fun k=>by rw [if_neg (by simp)]))).eq (fun k=>by unfold impl_ItemText.f;rfl)⟩
  | true=>
    obtain⟨t,t1,t2,_⟩:=b3 rfl
    refine⟨if 4000<(t.size:Int)then((⟨#[]⟩:ByteArray),false)else(t,true),(Evt.bind s1 (g:=fun k t3=>if t3=true then((spec_l07Text.f k x).bind fun t6=>(if 4000<(t6.size:Int)then(some ((⟨#[]⟩:ByteArray),false))else(some (t6,true))))else(some ((⟨#[]⟩:ByteArray),false))) (Evt.eq (Evt.bind t1 (g:=fun _ t6=>(if 4000<(t6.size:Int)then(some ((⟨#[]⟩:ByteArray),false))else(some (t6,true)))) (Evt.eq Evt.now (fun k=>by split <;> rfl))) (fun k=>by rw [if_pos rfl]))).eq (fun k=>by unfold spec_ItemText.f;rfl),
      (Evt.bind s2 (g:=fun k t3=>if t3=true then((impl_itemText.f k x).bind fun t6=>(if 4000<(t6.size:Int)then(some ((⟨#[]⟩:ByteArray),false))else(some (t6,true))))else(some ((⟨#[]⟩:ByteArray),false))) (Evt.eq (Evt.bind t2 (g:=fun _ t6=>(if 4000<(t6.size:Int)then(some ((⟨#[]⟩:ByteArray),false))else(some (t6,true)))) (Evt.eq Evt.now (fun k=>by split <;> rfl))) (fun k=>by rw [if_pos rfl]))).eq (fun k=>by unfold impl_ItemText.f;rfl)⟩
theorem map_loop {β:Type} (rs:List S153) (L:Nat→List S153→Int→Option β) (g:Nat→Nat→Option S153) (res:β) (h1:∀k i l,i<rs.length→l.length=i→L (k+1) l (i:Int)=(g i k).bind (fun t=>L k (l++ [t]) ((i+1:Nat):Int)))
    (hE:Evt (fun k=>L (k+1) rs (rs.length:Int)) res) (hg:∀i (h:i<rs.length),Evt (g i) rs[i]):∀(m i:Nat),rs.length - i=m→i≤rs.length→Evt (fun k=>L k (rs.take i) (i:Int)) res:=by
  intro m
  induction m with
  | zero=>
    intro i hm hi
    obtain rfl:i=rs.length:=by omega
    rw [List.take_length]
    exact Evt.succ hE
  | succ m ih=>
    intro i hm hi
    have hil:i<rs.length:=by omega
    have:=ih (i+1) (by omega) (by omega)
    rw [List.take_succ_eq_append_getElem hil] at this
    exact Evt.succ (Evt.eq (Evt.bind (hg i hil) this) (fun k=>h1 k i _ hil (by rw [List.length_take];omega)))
theorem sum_le {α:Type}(f:α→Nat)(c:Nat):∀(l:List α),(∀e∈l,f e≤c)→(l.map f).sum≤l.length * c
  | [],_=>by simp
  | a :: l,h=>by
    have h1:=sum_le f c l (fun e he=>h e (List.mem_cons_of_mem _ he))
    have h2:=h a List.mem_cons_self
    rw [List.map_cons,List.sum_cons,List.length_cons,Nat.succ_mul]
    omega
end Go.Proofs.YtncddikfafgklaaGreatDoor.ItemFnExactWaysTo

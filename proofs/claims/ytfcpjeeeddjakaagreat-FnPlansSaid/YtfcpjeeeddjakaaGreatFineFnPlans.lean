/- A right letter has a text, and a store that holds it is right. Plain lemmas, no condition. -/
import Derived.Test.YtfcpjeeeddjakaaGreatCrlSpecFnPlans
namespace Go.Proofs.YtfcpjeeeddjakaaGreat.FineFnPlans
open Go.RowKit YtfcpjeeeddjakaaGreatW.PrintWords YtfcpjeeeddjakaaGreatW.PrintLast ZOpen Z F
open ZP FamFnPlans ItemFnPlans SignFnPlans DigestFnPlans CertSpecFnPlans DrawFnPlans CopyFnPlans CrlSpecFnPlans
set_option linter.unusedVariables false
set_option linter.unusedSimpArgs false
set_option maxHeartbeats 1000000
set_option maxRecDepth 100000
theorem Evt.yes {f g:Nat→Option Bool}{r:Bool}(hf:Evt f true)(hg:Evt g r):Evt (fun k=>(f k).bind fun t=>if t=true then g k else some false) r:=Evt.bind hf (hg.eq fun k=>by rw [if_pos rfl])
theorem uniq {α:Type}{f:Nat→Option α}{a b:α}(h:Evt f a)(h':Evt f b):a=b:=by
  obtain⟨K,hK⟩:=h
  obtain⟨L,hL⟩:=h'
  exact Option.some.inj ((hK (K+L) (by omega)).symm.trans (hL (K+L) (by omega)))
theorem late {α:Type}{f:Nat→Option α}{r:α}(n:Nat)(h:∀k,f (k+n)=some r):Evt f r:=Evt.at_ n fun k hk=>by
  obtain⟨q,rfl⟩:∃q,k=q+n:=⟨k - n,by omega⟩
  exact h q
theorem one_size (n:Int):(strOfNums ([n]:List Int)).size=1:=strOfNums_size _
theorem int_small (n:Int)(h0:0≤n)(h1:n≤99):Evt (fun k=>spec_IntItem.f k n) (⟨2,strOfNums [n],[]⟩:S66)∧Evt (fun k=>spec_l07Plain.f k (⟨2,strOfNums [n],[]⟩:S66)) true:=by
  have hb:bt (strOfNums ([n]:List Int)) 0=n:=sn_bt n [] h0 (by omega)
  have hs:=one_size n
  refine⟨late 2 fun k=>?_,.of fun k=>?_⟩
  · rw [spec_IntItem.f,in_f,decide_eq_true ⟨h0,by omega⟩,Option.bind_some,if_pos rfl]
    by_cases c:n=0
    · subst c
      exact int_zero _ (by omega)
    · have e1:Int.tmod n 256 % 256=n:=by rw [Int.tmod_eq_emod_of_nonneg h0];omega
      have e2:wrap64 (Int.tdiv n 256)=0:=by rw [Int.tdiv_eq_ediv_of_nonneg h0,show n / 256=0 by omega];exact w64 (by decide) (by decide)
      have e0:(⟨#[]⟩:ByteArray).size=0:=rfl
      have en:¬(strOfNums ([n]:List Int)).toList=([]:List UInt8):=fun h=>by have:=ba_nil.1 h;omega
      rw [spec_IntItem.l0,if_pos (by omega),e1,if_pos (by omega),e2,←sn_nil,←sn_app]
      show spec_IntItem.l0 (k+1) 0 (strOfNums [n])=_
      rw [spec_IntItem.l0,if_neg (by omega),if_neg en,if_pos (by omega),hb,if_neg (by omega)]
  · rw [spec_l07Plain.f]
    simp only [show¬(2:Int)=1 by decide,if_false,if_true]
    rw [in_f,hs,decide_eq_true (by decide),Option.bind_some,if_pos rfl,if_pos (by decide),hb,if_neg (by omega)]
    by_cases c:n=0
    · rw [if_pos c,if_pos (by rfl)]
    · rw [if_neg c]
def Rt (x:S66)(d:Int):Prop:=Evt (fun k=>spec_l07Right.f k x d) true
theorem Rt.leaf {x:S66}{d:Int}(h:¬x.f0=48)(hk:x.f2=[])(hp:Evt (fun k=>spec_l07Plain.f k x) true):Rt x d:=
  Evt.succ (Evt.eq (Evt.bind hp (g:=fun _ t=>some t) Evt.now) fun k=>by rw [spec_l07Right.f,if_neg h,hk,if_pos (by rfl)])
theorem Rt.list {ks:List S66}{d:Int}(d0:0≤d)(d6:d<6)(hn:ks.length≤40)(h:∀x∈ks,Rt x (d+1)):Rt (⟨48,(⟨#[]⟩:ByteArray),ks⟩:S66) d:=by
  have loop:∀m i:Nat,ks.length - i<m→Evt (fun k=>spec_l07Right.l0 k (i:Int) (⟨48,(⟨#[]⟩:ByteArray),ks⟩:S66) d) true:=by
    intro m
    induction m with
    |zero=>intro i h;omega
    | succ m ih=>
      intro i hi
      refine Evt.succ ?_
      simp only [spec_l07Right.l0]
      by_cases c:(i:Int)<(ks.length:Int)
      · simp only [c,if_true,show 0≤(i:Int) by omega]
        have hx:=h ks[i] (List.getElem_mem (by omega))
        rw [rdit ks i (by omega),show wrap64 (d+1)=d+1 from w64 (by omega) (by omega),ws (by omega)]
        exact Evt.yes hx (ih (i+1) (by omega))
      · simp only [c,if_false]
        exact Evt.now
  refine Evt.succ (Evt.eq (loop _ 0 (Nat.lt_succ_self _)) fun k=>?_)
  rw [spec_l07Right.f,if_pos rfl,if_pos (ba_nil.2 rfl),if_neg (by show¬40<(ks.length:Int);omega),if_neg (by omega)]
  rfl
theorem rt_int {n d:Int}(h0:0≤n)(h1:n≤99):Rt (⟨2,strOfNums [n],[]⟩:S66) d:=Rt.leaf (show¬(2:Int)=48 by decide) rfl (int_small n h0 h1).2
theorem rt_bytes {s:ByteArray}{d:Int}:Rt (item4 s) d:=Rt.leaf (show¬(4:Int)=48 by decide) rfl (.of fun k=>rfl)
theorem rt_bool {c:Bool}{d:Int}:Rt (itemB c) d:=by
  cases c
  · exact Rt.leaf (show¬(1:Int)=48 by decide) rfl (late 1 fun k=>by kernel_rfl)
  · exact Rt.leaf (show¬(1:Int)=48 by decide) rfl (late 1 fun k=>by kernel_rfl)
def NameF (s:ByteArray):Prop:=Evt (fun k=>spec_NameOk.f k s) true∧Evt (fun k=>spec_l07Plain.f k (item12 s)) true∧s.size≤20
theorem rt_text {s:ByteArray}{d:Int}(h:NameF s):Rt (item12 s) d:=Rt.leaf (show¬(12:Int)=48 by decide) rfl h.2.1
def PolF (l:List Int):Prop:=Evt (fun k=>spec_PoliciesOk.f k l) true∧l.length≤4∧∀n∈l,0≤n∧n≤99
def NamF (l:List ByteArray):Prop:=Evt (fun k=>spec_NamesOk.f k l) true∧l.length≤4∧∀s∈l,NameF s
theorem nf_root:NameF (⟨#[114,111,111,116]⟩:ByteArray):=⟨late 20 fun k=>by kernel_rfl,late 20 fun k=>by kernel_rfl,by decide⟩
theorem nf_ca:NameF (⟨#[99,97,46,111,114,103]⟩:ByteArray):=⟨late 20 fun k=>by kernel_rfl,late 20 fun k=>by kernel_rfl,by decide⟩
theorem nf_org:NameF (⟨#[111,114,103]⟩:ByteArray):=⟨late 20 fun k=>by kernel_rfl,late 20 fun k=>by kernel_rfl,by decide⟩
theorem nf_com:NameF (⟨#[99,111,109]⟩:ByteArray):=⟨late 20 fun k=>by kernel_rfl,late 20 fun k=>by kernel_rfl,by decide⟩
theorem nf_other:NameF (⟨#[111,116,104,101,114,46,99,111,109]⟩:ByteArray):=⟨late 20 fun k=>by kernel_rfl,late 20 fun k=>by kernel_rfl,by decide⟩
theorem pol0:PolF [0]:=⟨late 20 fun k=>by kernel_rfl,by decide,by simp⟩
theorem pol2:PolF [2]:=⟨late 20 fun k=>by kernel_rfl,by decide,by simp⟩
theorem pol05:PolF [0,5]:=⟨late 20 fun k=>by kernel_rfl,by decide,by simp⟩
theorem poln:PolF []:=⟨late 20 fun k=>by kernel_rfl,by decide,by simp⟩
theorem pol12:PolF [1,2]:=⟨late 20 fun k=>by kernel_rfl,by decide,by simp⟩
theorem policiesF (b:List Int)(i h:Int)(hi:In b i):Gets (fun _=>spec_l08Policies_0.f (⟨b,i,h⟩:S110)) (fun r=>In b r.2.f1∧PolF r.1):=by
  unfold spec_l08Policies_0.f
  refine Gets.bind (below b i h 5 hi) fun a ha=>?_
  refine Gets.ite (fun _=>Gets.now ⟨ha.1,pol0⟩) fun _=>?_
  refine Gets.ite (fun _=>Gets.now ⟨ha.1,pol12⟩) fun _=>?_
  refine Gets.ite (fun _=>Gets.now ⟨ha.1,pol2⟩) fun _=>?_
  exact Gets.ite (fun _=>Gets.now ⟨ha.1,pol05⟩) fun _=>Gets.now ⟨ha.1,poln⟩
theorem no_names:NamF []:=⟨late 20 fun k=>by kernel_rfl,by decide,fun s h=>by cases h⟩
theorem namesF (b:List Int)(i h:Int)(hi:In b i):Gets (fun _=>spec_l08Names_0.f (⟨b,i,h⟩:S110)) (fun r=>In b r.2.f1∧NamF r.1):=by
  unfold spec_l08Names_0.f
  refine Gets.bind (below b i h 5 hi) fun a ha=>?_
  refine Gets.ite (fun _=>Gets.now ⟨ha.1,late 20 fun k=>by kernel_rfl,by show 1≤_;decide,fun e he=>by rw [List.mem_singleton.1 he];exact nf_org⟩) fun _=>?_
  refine Gets.ite (fun _=>Gets.now ⟨ha.1,late 20 fun k=>by kernel_rfl,by show 2≤_;decide,fun e he=>by
    rcases List.mem_cons.1 he with rfl|he
    · exact nf_ca
    · rw [List.mem_singleton.1 he];exact nf_com⟩) fun _=>?_
  exact Gets.ite (fun _=>Gets.now ⟨ha.1,late 20 fun k=>by kernel_rfl,by show 1≤_;decide,fun e he=>by rw [List.mem_singleton.1 he];exact nf_other⟩) fun _=>Gets.now ⟨ha.1,no_names⟩
theorem intsF (l:List Int)(h:l.length≤4∧∀n∈l,0≤n∧n≤99):Evt (fun k=>spec_l09Ints.f k l) (⟨48,(⟨#[]⟩:ByteArray),l.map fun n=>⟨2,strOfNums [n],[]⟩⟩:S66):=by
  have hl:=h.1
  have hm:(l.map fun n=>(⟨2,strOfNums [n],[]⟩:S66)).length=l.length:=List.length_map _
  refine(map_loop (l.map fun n=>(⟨2,strOfNums [n],[]⟩:S66)) (fun k r i=>spec_l09Ints.l0 k r i l) (fun i k=>spec_IntItem.f k (rd l (i:Int))) _ (fun k i r hi hr=>?_) (Evt.of fun k=>?_) (fun i hi=>?_) _ 0 rfl (Nat.zero_le _)).eq (fun k=>rfl)
  · have hc:(r.length+1≤2932031007402)=True:=eq_true (by omega)
    show spec_l09Ints.l0 (k+1) r (i:Int) l=_
    rw [spec_l09Ints.l0,if_pos (by omega),if_pos (by omega),if_pos (by omega),ws (by omega)]
    simp only [hc,if_true,lets]
  · show spec_l09Ints.l0 (k+1) _ _ l=_
    rw [spec_l09Ints.l0,if_neg (by omega)]
  · have hil:i<l.length:=by omega
    have e:rd l (i:Int)=l[i]:=by simp [rd,hil]
    rw [List.getElem_map,e]
    exact(int_small _ (h.2 _ (List.getElem_mem hil)).1 (h.2 _ (List.getElem_mem hil)).2).1
structure FineC (c:S125):Prop where
  n0:0≤c.f0∧c.f0≤99
  n3:0≤c.f3∧c.f3≤99
  n4:0≤c.f4∧c.f4≤99
  n7:0≤c.f7∧c.f7≤99
  n8:0≤c.f8∧c.f8≤7
  s1:NameF c.f1
  s2:NameF c.f2
  k5:c.f5.size=15
  p9:PolF c.f9
  a10:NamF c.f10
  a11:NamF c.f11
theorem in_t {a b c:Int}(h:b≤a∧a≤c):Evt (fun _=>spec_l01In.f a b c) true:=.of fun k=>by rw [in_f,decide_eq_true h]
theorem num_t {n:Int}(h:0≤n∧n≤99):Evt (fun _=>spec_l09Num.f n) true:=.of fun k=>by rw [spec_l09Num.f,in_f,decide_eq_true ⟨h.1,by omega⟩];rfl
theorem cert_fine (c:S125)(h:FineC c)(h12:c.f12.size=15):Evt (fun k=>spec_CertOk.f k c) true:=by
  have n8:=h.n8
  unfold spec_CertOk.f
  refine Evt.yes (num_t h.n0) (Evt.yes (num_t h.n3) (Evt.yes (num_t h.n4) (Evt.yes h.s1.1 (Evt.yes h.s2.1 ?_))))
  refine Evt.eq (Evt.yes (in_t h.n7) (Evt.yes (in_t h.n8) (Evt.yes h.p9.1 (Evt.yes h.a10.1 (Evt.yes h.a11.1 (Evt.of (f:=fun _=>some ((c.f12.size:Int)==15)) fun k=>?_)))))) fun k=>by rw [if_pos (by have:=h.k5;omega)]
  rw [h12]
  rfl
theorem texts_sum (l:List ByteArray)(h:l.length≤4∧∀s∈l,NameF s):sz (⟨48,(⟨#[]⟩:ByteArray),l.map item12⟩:S66)≤160:=by
  have h1:=sum_le sz 36 (l.map item12) (fun e he=>by
    obtain⟨s,hs,rfl⟩:=List.mem_map.1 he
    have:=(h.2 s hs).2.2
    unfold item12
    rw [szp]
    omega)
  rw [List.length_map] at h1
  rw [sz_list]
  have:=h.1
  omega
theorem szn (n:Int):sz (⟨2,strOfNums [n],[]⟩:S66)=17:=by rw [szp,one_size]
theorem text_fine (c:S125)(h:FineC c)(h12:c.f12.size=15):∃t,Evt (fun k=>spec_CertText.f k c) (t,true):=by
  obtain⟨n0,n3,n4,n7,n8,s1,s2,k5,p9,a10,a11⟩:=id h
  have q10:=texts12_e c.f10 ⟨by have:=a10.2.1;omega,fun e he=>Nat.le_trans (a10.2.2 e he).2.2 (by decide)⟩
  have q11:=texts12_e c.f11 ⟨by have:=a11.2.1;omega,fun e he=>Nat.le_trans (a11.2.2 e he).2.2 (by decide)⟩
  have g9:=intsF c.f9 p9.2
  obtain⟨body,hb,hr,hz⟩:∃it,Evt (fun k=>spec_BodyItem.f k c) it∧Rt it 1∧sz it≤1000:=by
    refine⟨⟨48,(⟨#[]⟩:ByteArray),[⟨2,strOfNums [c.f0],[]⟩,item12 c.f1,⟨48,(⟨#[]⟩:ByteArray),[⟨2,strOfNums [c.f3],[]⟩,⟨2,strOfNums [c.f4],[]⟩]⟩,item12 c.f2,item4 c.f5,itemB c.f6,⟨2,strOfNums [c.f7],[]⟩,⟨2,strOfNums [c.f8],[]⟩,⟨48,(⟨#[]⟩:ByteArray),c.f9.map fun n=>⟨2,strOfNums [n],[]⟩⟩,⟨48,(⟨#[]⟩:ByteArray),c.f10.map item12⟩,⟨48,(⟨#[]⟩:ByteArray),c.f11.map item12⟩]⟩,?_,?_,?_⟩
    · unfold spec_BodyItem.f
      simp only [text12_f,bytes_f,bool_f,Option.bind_some]
      exact Evt.bind (int_small _ n3.1 n3.2).1 (Evt.bind (int_small _ n4.1 n4.2).1 (Evt.bind (int_small _ n0.1 n0.2).1 (Evt.bind (int_small _ n7.1 n7.2).1 (Evt.bind (int_small _ n8.1 (by omega)).1 (Evt.bind g9 (Evt.bind q10.1 (Evt.bind q11.1 Evt.now)))))))
    · refine Rt.list (by decide) (by decide) (by show 11≤40;decide) fun x hx=>?_
      simp only [List.mem_cons,List.not_mem_nil,or_false] at hx
      rcases hx with rfl|rfl|rfl|rfl|rfl|rfl|rfl|rfl|rfl|rfl|rfl
      · exact rt_int n0.1 n0.2
      · exact rt_text s1
      · refine Rt.list (by decide) (by decide) (by show 2≤40;decide) fun x hx=>?_
        simp only [List.mem_cons,List.not_mem_nil,or_false] at hx
        rcases hx with rfl|rfl
        · exact rt_int n3.1 n3.2
        · exact rt_int n4.1 n4.2
      · exact rt_text s2
      · exact rt_bytes
      · exact rt_bool
      · exact rt_int n7.1 n7.2
      · exact rt_int n8.1 (by omega)
      · refine Rt.list (by decide) (by decide) (by rw [List.length_map];have:=p9.2.1;omega) fun x hx=>?_
        obtain⟨n,hn,rfl⟩:=List.mem_map.1 hx
        exact rt_int (p9.2.2 n hn).1 (p9.2.2 n hn).2
      · refine Rt.list (by decide) (by decide) (by rw [List.length_map];have:=a10.2.1;omega) fun x hx=>?_
        obtain⟨n,hn,rfl⟩:=List.mem_map.1 hx
        exact rt_text (a10.2.2 n hn)
      · refine Rt.list (by decide) (by decide) (by rw [List.length_map];have:=a11.2.1;omega) fun x hx=>?_
        obtain⟨n,hn,rfl⟩:=List.mem_map.1 hx
        exact rt_text (a11.2.2 n hn)
    · have z9:=sum_le sz 17 (c.f9.map fun n=>(⟨2,strOfNums [n],[]⟩:S66)) (fun e he=>by
        obtain⟨n,_,rfl⟩:=List.mem_map.1 he
        rw [szn]
        exact Nat.le_refl _)
      rw [List.length_map] at z9
      have z10:=texts_sum c.f10 a10.2
      have z11:=texts_sum c.f11 a11.2
      have y1:sz (item12 c.f1)=16+c.f1.size:=szp 12 c.f1
      have y2:sz (item12 c.f2)=16+c.f2.size:=szp 12 c.f2
      have y3:sz (item4 c.f5)=16+c.f5.size:=szp 4 c.f5
      have yb:=itemB_sz c.f6
      have w1:=s1.2.2
      have w2:=s2.2.2
      have w9:=p9.2.1
      rw [sz_list] at z10 z11
      rw [sz_list]
      simp only [List.map_cons,List.map_nil,List.sum_cons,List.sum_nil,y1,y2,y3,szn,sz_list]
      omega
  have y:sz (item4 c.f12)=16+c.f12.size:=szp 4 c.f12
  have hrt:Rt (⟨48,(⟨#[]⟩:ByteArray),[body,item4 c.f12]⟩:S66) 0:=Rt.list (by decide) (by decide) (by show 2≤40;decide) fun x hx=>by
    simp only [List.mem_cons,List.not_mem_nil,or_false] at hx
    rcases hx with rfl|rfl
    · exact hr
    · exact rt_bytes
  have hsz:sz (⟨48,(⟨#[]⟩:ByteArray),[body,item4 c.f12]⟩:S66)≤2000:=by
    rw [sz_list]
    simp only [List.map_cons,List.map_nil,List.sum_cons,List.sum_nil,y]
    omega
  obtain⟨b,b1,_,b3⟩:=item 2000 (by decide) (⟨48,(⟨#[]⟩:ByteArray),[body,item4 c.f12]⟩:S66) hsz 0 (Int.le_refl _) (by decide)
  obtain rfl:b=true:=uniq b1 hrt
  obtain⟨t,t1,_,t3⟩:=b3 rfl
  refine⟨t,?_⟩
  have hok:Evt (fun k=>spec_ItemText.f k (⟨48,(⟨#[]⟩:ByteArray),[body,item4 c.f12]⟩:S66)) (t,true):=by
    unfold spec_ItemText.f
    refine Evt.bind (a:=true) ?_ ?_
    · unfold spec_ItemOk.f
      exact Evt.bind hrt Evt.now
    · simp only [if_true]
      exact Evt.bind t1 (.of fun k=>by rw [if_neg (by omega)])
  clear hsz y hz t3
  unfold spec_CertText.f
  refine Evt.bind (cert_fine c h h12) ?_
  simp only [if_true]
  refine Evt.bind hb ?_
  simp only [bytes_f,Option.bind_some]
  exact Evt.bind hok Evt.now
end Go.Proofs.YtfcpjeeeddjakaaGreat.FineFnPlans

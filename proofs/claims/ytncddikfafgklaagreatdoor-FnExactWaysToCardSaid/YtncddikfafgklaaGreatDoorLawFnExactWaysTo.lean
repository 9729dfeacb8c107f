/- The statement FnExactWaysTo: for every input the law answers true, and its arguments read as before, the listed package variables holding what the program's text lays; and its tied card. No condition. -/
import Derived.Test.YtncddikfafgklaaGreatDoorCards
import Derived.Test.YtncddikfafgklaaGreatDoorTie
import Derived.Test.YtncddikfafgklaaGreatDoorFactsFnExactWaysTo
import Derived.Test.YtncddikfafgklaaGreatDoorPureFnExactWaysTo
import Derived.WalkKit
import Derived.ProofKit
import Derived.OpenShut
import Derived.ShutString
import Derived.ChangeOld
import Derived.Below
import Derived.SizedLaws
import Derived.Carry
import Derived.Deep.DeepHandedRow
import Derived.Lib.LaidTab
import Derived.Stop.LaidErr
namespace Go.Proofs.YtncddikfafgklaaGreatDoor.LawFnExactWaysTo
open Go.ChangeShapes Go.WideShapes Go.ChangeAt Go.RowKit
open Go.ChangeMaps (open_string shut_string)
open YtncddikfafgklaaGreatDoorW.PrintWords YtncddikfafgklaaGreatDoorW.PrintLast ZOpen F SaidFnExactWaysTo
set_option linter.unusedVariables false
set_option linter.unusedSimpArgs false
theorem own:ownKnob Tryz.prog.godebug=none:=by kernel_rfl
theorem laidOut:laidOutB Tryz.prog=true:=by kernel_rfl
def lay (cs:Array Value):Obj→Obj
  | .cells _ t frozen=>.cells cs t frozen
  |o=>o
noncomputable def laidWorld (os:Os):World:={(World.holding Tryz.prog os ⟨#[],#[],[]⟩)with heap:=(((World.holding Tryz.prog os ⟨#[],#[],[]⟩).heap.modify 2 (lay #[.int .u8 128,.int .u8 191,.int .u8 160,.int .u8 191,.int .u8 128,.int .u8 159,.int .u8 144,.int .u8 191,.int .u8 128,.int .u8 143,.int .u8 0,.int .u8 0,.int .u8 0,.int .u8 0,.int .u8 0,.int .u8 0,.int .u8 0,.int .u8 0,.int .u8 0,.int .u8 0,.int .u8 0,.int .u8 0,.int .u8 0,.int .u8 0,.int .u8 0,.int .u8 0,.int .u8 0,.int .u8 0,.int .u8 0,.int .u8 0,.int .u8 0,.int .u8 0])).modify 1 (lay (Go.Pinned.utf8FirstZ.map fun(n:Nat)=>Value.int .u8 (n:Int)).toArray))}
set_option maxRecDepth 100000 in
theorem laid_met (os:Os):laidMet Tryz.prog Rows.fnExactWaysToRow.laid ((laidWorld os).forCall (fun _ _=>0) ⟨#[],#[.agg #[.slice none 0 0,.slice none 0 0,.slice none 0 0],.agg #[.int .i64 0,.string ByteArray.empty,.string ByteArray.empty,.int .i64 0,.int .i64 0,.string ByteArray.empty,.bool false,.int .i64 0,.int .i64 0,.slice none 0 0,.slice none 0 0,.slice none 0 0,.string ByteArray.empty]],[]⟩).memory:=laidMet_of_run' 8 (by kernel_rfl) (by kernel_rfl)
theorem reads (os:Os){H:Type}(enc:TypeId×Value→H):∃places,DataW.whole enc Tryz.prog ((laidWorld os).forCall (fun _ _=>0) ⟨#[],#[.agg #[.slice none 0 0,.slice none 0 0,.slice none 0 0],.agg #[.int .i64 0,.string ByteArray.empty,.string ByteArray.empty,.int .i64 0,.int .i64 0,.string ByteArray.empty,.bool false,.int .i64 0,.int .i64 0,.slice none 0 0,.slice none 0 0,.slice none 0 0,.string ByteArray.empty]],[]⟩).memory Tryz.f3.params.toList Rows.fnExactWaysToSpec.vars false #[.agg #[.slice none 0 0,.slice none 0 0,.slice none 0 0],.agg #[.int .i64 0,.string ByteArray.empty,.string ByteArray.empty,.int .i64 0,.int .i64 0,.string ByteArray.empty,.bool false,.int .i64 0,.int .i64 0,.slice none 0 0,.slice none 0 0,.slice none 0 0,.string ByteArray.empty]].toList 8=some ([.agg [.nil,.nil,.nil],.agg [.lit (.int .i64 0),.lit (.string []),.lit (.string []),.lit (.int .i64 0),.lit (.int .i64 0),.lit (.string []),.lit (.bool false),.lit (.int .i64 0),.lit (.int .i64 0),.nil,.nil,.nil,.lit (.string [])]],[],places):=⟨[],by kernel_rfl⟩
theorem maxLen {W:World}(h:W.ShapedOpen Tryz.prog):∃m,W.cell? ⟨0,0,none⟩=some (.int .i64 m):=Tryz.laysM146.s1_3 W h
set_option maxHeartbeats 1000000 in
set_option maxRecDepth 100000 in
theorem contract (H:Type) (enc:TypeId×Value→H) (W:World) (base:Nat) (args:Array Value) (ds gs:List (DataW H)) (before:List MemPlace)
    (hval0:∀(j:Nat) t v,Tryz.f3.params[j]?=some t→args[j]?=some v→Value.okWide Tryz.prog W .any base t v)
    (hW:DataW.Whole enc Tryz.prog Tryz.f3.params.toList Rows.fnExactWaysToSpec.vars false W args.toList ds gs before) (hL:laidMetH Tryz.prog Rows.fnExactWaysToRow.laid W) (hsh:W.ShapedOpen Tryz.prog):
    Calls Tryz.prog 3 args W fun e W'=>∃v,e=.returned v∧Rows.fnExactWaysToSpec.post enc Tryz.prog Tryz.f3 false true false false W args v W':=by
  have hval:∀(j:Nat) t v,Tryz.f3.params[j]?=some t→args[j]?=some v→Value.okWide Tryz.prog W .any base t v:=hval0
  have hW':=hW
  obtain⟨p,q,hA0,hV,rfl,hfz,hnd⟩:=hW
  have hA:DataW.TrodAll enc Tryz.prog W 0 (fun _=>true) true Tryz.f3.params.toList args.toList ds p:=hA0
  rw [Tryz.params3] at hA hval
  obtain⟨v0,vs0,d0,ds0,p0,q0,hargs,rfl,rfl,h0,r0⟩:=trodAll_cons hA
  obtain⟨v1,vs1,d1,ds1,p1,q1,rfl,rfl,rfl,h1,r1⟩:=trodAll_cons r0
  obtain⟨rfl,rfl,rfl⟩:=trodAll_nil r1
  obtain rfl:args= #[v0,v1]:=by cases args;simp_all
  obtain⟨rfl,rfl⟩:=trodVars_none hV
  obtain⟨cs0,rfl⟩:=okWide_agg Tryz.underlying26 (hval 0 26 v0 rfl rfl)
  have k0:=h0
  have lt0:∀x∈p0,x.block<W.heap.size:=by obtain⟨m,hm⟩:=k0;exact DataW.trod_lt m _ _ _ hm
  obtain⟨x0,hx0,ok0_⟩:∃x,k26.K W x cs0.toList∧ok26 x:=by obtain⟨m,hm⟩:=h0;exact opens26.2 H enc W m _ _ hm
  obtain⟨A0_0,c0_0,A0_1,c0_1,A0_2,c0_2,e0,l0_0,g0_0,l0_1,g0_1,l0_2,g0_2⟩:∃A0_0 c0_0 A0_1 c0_1 A0_2 c0_2,cs0.toList=[.slice A0_0 x0.f0.length c0_0,.slice A0_1 x0.f1.length c0_1,.slice A0_2 x0.f2.length c0_2]∧x0.f0.length≤c0_0∧k30.C W A0_0 x0.f0.length x0.f0∧x0.f1.length≤c0_1∧k124.C W A0_1 x0.f1.length x0.f1∧x0.f2.length≤c0_2∧k126.C W A0_2 x0.f2.length x0.f2:=by generalize cs0.toList=cl at hx0⊢;obtain⟨_,_,rfl,⟨A0_0,c0_0,rfl,l0_0,g0_0⟩,⟨_,_,rfl,⟨A0_1,c0_1,rfl,l0_1,g0_1⟩,⟨A0_2,c0_2,rfl,l0_2,g0_2⟩⟩⟩:=hx0;exact⟨A0_0,c0_0,A0_1,c0_1,A0_2,c0_2,rfl,l0_0,g0_0,l0_1,g0_1,l0_2,g0_2⟩
  obtain rfl:=toArr e0
  obtain⟨cs1,rfl⟩:=okWide_agg Tryz.underlying30 (hval 1 30 v1 rfl rfl)
  have k1:=h1
  have lt1:∀x∈p1,x.block<W.heap.size:=by obtain⟨m,hm⟩:=k1;exact DataW.trod_lt m _ _ _ hm
  obtain⟨x1,hx1,ok1_⟩:∃x,k30.K W x cs1.toList∧ok30 x:=by obtain⟨m,hm⟩:=h1;exact opens30.2 H enc W m _ _ hm
  obtain⟨A1_9,c1_9,A1_10,c1_10,A1_11,c1_11,e1,l1_9,g1_9,l1_10,g1_10,l1_11,g1_11⟩:∃A1_9 c1_9 A1_10 c1_10 A1_11 c1_11,cs1.toList=[.int .i64 x1.f0,.string x1.f1,.string x1.f2,.int .i64 x1.f3,.int .i64 x1.f4,.string x1.f5,.bool x1.f6,.int .i64 x1.f7,.int .i64 x1.f8,.slice A1_9 x1.f9.length c1_9,.slice A1_10 x1.f10.length c1_10,.slice A1_11 x1.f11.length c1_11,.string x1.f12]∧x1.f9.length≤c1_9∧(Kd.int .i64).C W A1_9 x1.f9.length x1.f9∧x1.f10.length≤c1_10∧Kd.string.C W A1_10 x1.f10.length x1.f10∧x1.f11.length≤c1_11∧Kd.string.C W A1_11 x1.f11.length x1.f11:=by generalize cs1.toList=cl at hx1⊢;obtain⟨_,_,rfl,rfl,⟨_,_,rfl,rfl,⟨_,_,rfl,rfl,⟨_,_,rfl,rfl,⟨_,_,rfl,rfl,⟨_,_,rfl,rfl,⟨_,_,rfl,rfl,⟨_,_,rfl,rfl,⟨_,_,rfl,rfl,⟨_,_,rfl,⟨A1_9,c1_9,rfl,l1_9,g1_9⟩,⟨_,_,rfl,⟨A1_10,c1_10,rfl,l1_10,g1_10⟩,⟨_,_,rfl,⟨A1_11,c1_11,rfl,l1_11,g1_11⟩,rfl⟩⟩⟩⟩⟩⟩⟩⟩⟩⟩⟩⟩:=hx1;exact⟨A1_9,c1_9,A1_10,c1_10,A1_11,c1_11,rfl,l1_9,g1_9,l1_10,g1_10,l1_11,g1_11⟩
  obtain rfl:=toArr e1
  obtain⟨mG,hgM⟩:=maxLen hsh
  clear hA0 hval0
  obtain⟨k,h⟩:=PureFnExactWaysTo.pure x0 x1 ok0_ ok1_
  refine(laws_FnExactWaysTo.calls h g0_0 l0_0 g0_1 l0_1 g0_2 l0_2 g1_9 l1_9 g1_10 l1_10 g1_11 l1_11 hgM).mono fun e W' ⟨he,HQ⟩=>?_
  subst he
  have bel:=HQ.below
  exact⟨_,rfl,_,_,_,[],_,[],hW',trodAll_mk1 (shut_bool Tryz.underlying4 _),(trodAll_cons_mk (Below.trod laidOut (by kernel_rfl) (of_decide_eq_true (by kernel_rfl)) k0 bel lt0) (trodAll_cons_mk (Below.trod laidOut (by kernel_rfl) (of_decide_eq_true (by kernel_rfl)) k1 bel lt1) trodAll_mk0)),rfl,bel.frame _,fun h=>by cases h⟩
set_option maxRecDepth 100000 in
theorem lifted (os:Os)(started:os.Started)(H:Type)(enc:TypeId×Value→H)(F:Stop.Interp):
    ReturnsInHanded {} Tryz.checked os 3 .any ((OpenSpec.ofChange Rows.fnExactWaysToSpec).preRow enc Tryz.prog Tryz.f3 Rows.fnExactWaysToRow.domain false Rows.fnExactWaysToRow.laid) (((OpenSpec.ofChange Rows.fnExactWaysToSpec).at F).post enc Tryz.prog Tryz.f3 false true false false):=by
  obtain⟨places,hx⟩:=reads os enc
  refine returnsInHanded_of_row (C:=Tryz.checked) (s:=OpenSpec.ofChange Rows.fnExactWaysToSpec) own started (by kernel_rfl) Tryz.func3
    (witness_row_at (enc:=enc) (C:=Tryz.checked) false (laidWorld os) #[.agg #[.slice none 0 0,.slice none 0 0,.slice none 0 0],.agg #[.int .i64 0,.string ByteArray.empty,.string ByteArray.empty,.int .i64 0,.int .i64 0,.string ByteArray.empty,.bool false,.int .i64 0,.int .i64 0,.slice none 0 0,.slice none 0 0,.slice none 0 0,.string ByteArray.empty]] rfl (by kernel_rfl) (by kernel_rfl) (by kernel_rfl)
      (OpenSpec.preRow_of_cond 8 hx (by kernel_rfl) (fun k hk=>by cases hk) (by kernel_rfl) (laid_met os))) ?_
  intro W base args ds gs before hval hW _ _ _ hL hsh _
  exact contract H enc W base args ds gs before hval hW hL hsh
theorem said:Rows.FnExactWaysToSaid:=
  OpenClaim.holds_of_cond 3 Tryz.f3 rfl rfl rfl rfl rfl rfl rfl ⟨rfl,rfl,rfl,rfl,rfl⟩ rfl rfl rfl rfl rfl (by kernel_rfl) Tryz.func3 FactsFnExactWaysTo.joined
    (of_decide_eq_true (by kernel_rfl)) (by unfold Func.isWrapper;first|(rw [if_pos (by decide+kernel)];kernel_rfl)|(rw [if_neg (by decide+kernel)];exact⟨rfl,rfl⟩))
    (fun os started H enc _ F=>by rw [OpenClaim.pre_eq_preRow];exact lifted os started H enc F)
theorem plain (f:FuncId)(fn:Func)(hf:Tryz.pinned.checked.prog.funcNamed "loop.example/g00394/laws.FnExactWaysTo" =some f)(hfn:Tryz.pinned.checked.prog.funcs[f]?=some fn):
    false=Tryz.pinned.checked.prog.looks []∧∀(j:Nat) t,fn.params[j]?=some t→Tryz.pinned.checked.prog.wantsStandIn t=false:=by
  obtain rfl:f=3:=Option.some.inj ((show Tryz.prog.funcNamed "loop.example/g00394/laws.FnExactWaysTo" =some 3 by kernel_rfl).symm.trans hf) |>.symm
  obtain rfl:fn=Tryz.f3:=(Option.some.inj (Tryz.func3.symm.trans hfn)).symm
  refine⟨by kernel_rfl,fun j t ht=>?_⟩
  rw [Tryz.params3] at ht
  have hm:=Array.mem_of_getElem? ht
  have all:([26,30]:List TypeId).all (fun t=> !Tryz.prog.wantsStandIn t)=true:=by kernel_rfl
  have hm':t∈([26,30]:List TypeId):=by simpa using hm
  have h':Tryz.prog.wantsStandIn t=false:=by simpa using List.all_eq_true.1 all t hm'
  exact h'
theorem card:Rows.FnExactWaysToCardSaid:=
  Claim7.holds_tied_plain_at .later [] _ _ _ _ said (fun _ h=>by cases h) (by kernel_rfl) (fun _ h=>by cases h) fnExactWaysTo_row_tie rfl ⟨rfl,rfl⟩ (by kernel_rfl) rfl plain (by kernel_rfl)
#print axioms card
end Go.Proofs.YtncddikfafgklaaGreatDoor.LawFnExactWaysTo
namespace Go.Proofs.YtncddikfafgklaaGreatDoor
theorem fnExactWaysTo_card:Rows.FnExactWaysToCardSaid:=LawFnExactWaysTo.card
end Go.Proofs.YtncddikfafgklaaGreatDoor

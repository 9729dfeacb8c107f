/- The statement FnPlans: for every input the law answers true, and its arguments read as before. No condition. -/
import Derived.Test.YtfcpjeeeddjakaaGreatRows
import Derived.Test.YtfcpjeeeddjakaaGreatFactsFnPlans
import Derived.Test.YtfcpjeeeddjakaaGreatPureFnPlans
import Derived.WalkKit
import Derived.ProofKit
import Derived.OpenShut
import Derived.ShutString
import Derived.ChangeOld
import Derived.Below
import Derived.SizedLaws
import Derived.Carry
namespace Go.Proofs.YtfcpjeeeddjakaaGreat.LawFnPlans
open Go.ChangeShapes Go.WideShapes Go.ChangeAt Go.RowKit
open Go.ChangeMaps (open_string shut_string)
open YtfcpjeeeddjakaaGreatW.PrintWords YtfcpjeeeddjakaaGreatW.PrintLast ZOpen F SaidFnPlans
set_option linter.unusedVariables false
set_option linter.unusedSimpArgs false
theorem own:ownKnob Tryz.prog.godebug=none:=by kernel_rfl
theorem laidOut:laidOutB Tryz.prog=true:=by kernel_rfl
set_option maxHeartbeats 1000000 in
set_option maxRecDepth 100000 in
theorem lifted (os:Os)(started:os.Started)(H:Type)(enc:TypeId×Value→H):
    ReturnsInHanded {} Tryz.checked os 4 .any (Rows.fnPlansSpec.pre6 enc Tryz.prog Tryz.f4 Rows.fnPlansRow.domain false) (Rows.fnPlansSpec.post enc Tryz.prog Tryz.f4 false true false false):=by
  refine returnsInHanded_of_change_sized (C:=Tryz.checked) own started (by kernel_rfl) Tryz.func4
    (ChangeSpec.witness6 (enc:=enc) (C:=Tryz.checked) false ⟨#[],#[.slice none 0 0],[]⟩ 8 (by kernel_rfl) (by kernel_rfl) (by kernel_rfl) (by kernel_rfl)) ?_
  intro W base args ds gs before hval0 hW hcnd hsz0 _
  have hval:∀(j:Nat) t v,Tryz.f4.params[j]?=some t→args[j]?=some v→Value.okWide Tryz.prog W .any base t v:=hval0
  have hW':=hW
  obtain⟨p,q,hA0,hV,rfl,hfz,hnd⟩:=hW
  have hA:DataW.TrodAll enc Tryz.prog W 0 (fun _=>true) true Tryz.f4.params.toList args.toList ds p:=hA0
  rw [Tryz.params4] at hA hval
  obtain⟨v0,vs0,d0,ds0,p0,q0,hargs,rfl,rfl,h0,r0⟩:=trodAll_cons hA
  obtain⟨rfl,rfl,rfl⟩:=trodAll_nil r0
  obtain rfl:args= #[v0]:=by cases args;simp_all
  obtain⟨rfl,rfl⟩:=trodVars_none hV
  obtain⟨a0,n0,c0,rfl⟩:=okWide_slice Tryz.underlying22 (hval 0 22 v0 rfl rfl)
  have k0:=h0
  have lt0:∀x∈p0,x.block<W.heap.size:=by obtain⟨m,hm⟩:=k0;exact DataW.trod_lt m _ _ _ hm
  obtain⟨x0,⟨A0,C0,e0,l0,g0⟩,ok0_⟩:∃x,(Kd.slice 5 (Kd.int .u8)).K W x [.slice a0 n0 c0]∧(okList (okInt .u8)) x:=by obtain⟨m,hm⟩:=h0;exact(opens_slice Tryz.underlying22 (by kernel_rfl) (opens_int Tryz.underlying5 (by kernel_rfl))).2 H enc W m _ _ hm
  cases e0
  clear hA0 hval0 hsz0
  obtain⟨k,h⟩:=PureFnPlans.pure x0 ok0_
  refine(laws_FnPlans.calls h g0 l0).mono fun e W' ⟨he,HQ⟩=>?_
  subst he
  have bel:=HQ.below
  exact⟨_,rfl,_,_,_,[],_,[],hW',trodAll_mk1 (shut_bool Tryz.underlying4 _),(trodAll_cons_mk (Below.trod laidOut (by kernel_rfl) (of_decide_eq_true (by kernel_rfl)) k0 bel lt0) trodAll_mk0),rfl,bel.frame _,fun h=>by cases h⟩
theorem proved:Rows.FnPlansSaid:=
  OpenClaim.holds_of_wide 4 Tryz.f4 rfl rfl rfl rfl rfl rfl rfl ⟨rfl,rfl,rfl,rfl,rfl⟩ rfl rfl rfl rfl rfl (by kernel_rfl) Tryz.func4 FactsFnPlans.joined
    (of_decide_eq_true (by kernel_rfl)) (by unfold Func.isWrapper;first|(rw [if_pos (by decide+kernel)];kernel_rfl)|(rw [if_neg (by decide+kernel)];exact⟨rfl,rfl⟩))
    (fun os started H enc _=>lifted os started H enc)
#print axioms proved
end Go.Proofs.YtfcpjeeeddjakaaGreat.LawFnPlans
namespace Go.Proofs.YtfcpjeeeddjakaaGreat
theorem fnPlans_holds:Rows.FnPlansSaid:=LawFnPlans.proved
end Go.Proofs.YtfcpjeeeddjakaaGreat

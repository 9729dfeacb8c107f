/- The statement FnExactLearnCrl: for every input the law answers true, and its arguments read as before, the listed package variables holding what the program's text lays; and its tied card. No condition. -/
import Derived.Test.YtacocpknielofaaGreatDoorCards
import Derived.Test.YtacocpknielofaaGreatDoorTie
import Derived.Test.YtacocpknielofaaGreatDoorFactsFnExactLearnCrl
import Derived.Test.YtacocpknielofaaGreatDoorPureFnExactLearnCrl
import Derived.WalkKit
import Derived.ProofKit
import Derived.OpenShut
import Derived.ShutString
import Derived.ChangeOld
import Derived.Below
import Derived.SizedLaws
import Derived.Carry
import Derived.Deep.DeepHandedRow
import Derived.Lib.LaidTab
import Derived.Stop.LaidErr
namespace Go.Proofs.YtacocpknielofaaGreatDoor.LawFnExactLearnCrl
open Go.ChangeShapes Go.WideShapes Go.ChangeAt Go.RowKit
open Go.ChangeMaps (open_string shut_string)
open YtacocpknielofaaGreatDoorW.PrintWords YtacocpknielofaaGreatDoorW.PrintLast ZOpen F SaidFnExactLearnCrl
set_option linter.unusedVariables false
set_option linter.unusedSimpArgs false
theorem own : ownKnob Tryz.prog.godebug = none := by kernel_rfl
theorem laidOut : laidOutB Tryz.prog = true := by kernel_rfl
def lay (cs : Array Value) : Obj → Obj
  | .cells _ t frozen => .cells cs t frozen
  | o => o
/-- A world for the witness: the listed tables hold what their initialisers lay. -/
noncomputable def laidWorld (os : Os) : World := { (World.holding Tryz.prog os ⟨#[], #[], []⟩) with heap := (((World.holding Tryz.prog os ⟨#[], #[], []⟩).heap.modify 3 (lay #[.int .u8 128, .int .u8 191, .int .u8 160, .int .u8 191, .int .u8 128, .int .u8 159, .int .u8 144, .int .u8 191, .int .u8 128, .int .u8 143, .int .u8 0, .int .u8 0, .int .u8 0, .int .u8 0, .int .u8 0, .int .u8 0, .int .u8 0, .int .u8 0, .int .u8 0, .int .u8 0, .int .u8 0, .int .u8 0, .int .u8 0, .int .u8 0, .int .u8 0, .int .u8 0, .int .u8 0, .int .u8 0, .int .u8 0, .int .u8 0, .int .u8 0, .int .u8 0])).modify 2 (lay (Go.Pinned.utf8FirstZ.map fun (n : Nat) => Value.int .u8 (n : Int)).toArray)) }
set_option maxRecDepth 100000 in
theorem laid_met (os : Os) : laidMet Tryz.prog Rows.fnExactLearnCrlRow.laid ((laidWorld os).forCall (fun _ _ => 0) ⟨#[], #[.agg #[.slice none 0 0, .slice none 0 0, .slice none 0 0, .slice none 0 0, .int .i64 0, .int .i64 0, .int .i64 0, .slice none 0 0], .agg #[.string ByteArray.empty, .int .i64 0, .int .i64 0, .int .i64 0, .int .i64 0, .slice none 0 0, .string ByteArray.empty]], []⟩).memory := laidMet_of_run' 8 (by kernel_rfl) (by kernel_rfl)
theorem reads (os : Os) {H : Type} (enc : TypeId × Value → H) : ∃ places, DataW.whole enc Tryz.prog ((laidWorld os).forCall (fun _ _ => 0) ⟨#[], #[.agg #[.slice none 0 0, .slice none 0 0, .slice none 0 0, .slice none 0 0, .int .i64 0, .int .i64 0, .int .i64 0, .slice none 0 0], .agg #[.string ByteArray.empty, .int .i64 0, .int .i64 0, .int .i64 0, .int .i64 0, .slice none 0 0, .string ByteArray.empty]], []⟩).memory Tryz.f9.params.toList Rows.fnExactLearnCrlSpec.vars false #[.agg #[.slice none 0 0, .slice none 0 0, .slice none 0 0, .slice none 0 0, .int .i64 0, .int .i64 0, .int .i64 0, .slice none 0 0], .agg #[.string ByteArray.empty, .int .i64 0, .int .i64 0, .int .i64 0, .int .i64 0, .slice none 0 0, .string ByteArray.empty]].toList 8 = some ([.agg [.agg [.nil, .nil, .nil], .nil, .lit (.int .i64 0), .lit (.int .i64 0), .lit (.int .i64 0), .nil], .agg [.lit (.string []), .lit (.int .i64 0), .lit (.int .i64 0), .lit (.int .i64 0), .lit (.int .i64 0), .nil, .lit (.string [])]], [], places) := ⟨[], by kernel_rfl⟩
theorem maxLen {W : World} (h : W.ShapedOpen Tryz.prog) : ∃ m, W.cell? ⟨0, 0, none⟩ = some (.int .i64 m) := Tryz.laysM146.s1_3 W h
set_option maxHeartbeats 1000000 in
set_option maxRecDepth 100000 in
theorem contract (H : Type) (enc : TypeId × Value → H) (W : World) (base : Nat) (args : Array Value) (ds gs : List (DataW H)) (before : List MemPlace)
    (hval0 : ∀ (j : Nat) t v, Tryz.f9.params[j]? = some t → args[j]? = some v → Value.okWide Tryz.prog W .any base t v)
    (hW : DataW.Whole enc Tryz.prog Tryz.f9.params.toList Rows.fnExactLearnCrlSpec.vars false W args.toList ds gs before) (hL : laidMetH Tryz.prog Rows.fnExactLearnCrlRow.laid W) (hsh : W.ShapedOpen Tryz.prog) :
    Calls Tryz.prog 9 args W fun e W' => ∃ v, e = .returned v ∧ Rows.fnExactLearnCrlSpec.post enc Tryz.prog Tryz.f9 false true false false W args v W' := by
  have hval : ∀ (j : Nat) t v, Tryz.f9.params[j]? = some t → args[j]? = some v → Value.okWide Tryz.prog W .any base t v := hval0
  have hW' := hW
  obtain ⟨p, q, hA0, hV, rfl, hfz, hnd⟩ := hW
  have hA : DataW.TrodAll enc Tryz.prog W 0 (fun _ => true) true Tryz.f9.params.toList args.toList ds p := hA0
  rw [Tryz.params9] at hA hval
  obtain ⟨v0, vs0, d0, ds0, p0, q0, hargs, rfl, rfl, h0, r0⟩ := trodAll_cons hA
  obtain ⟨v1, vs1, d1, ds1, p1, q1, rfl, rfl, rfl, h1, r1⟩ := trodAll_cons r0
  obtain ⟨rfl, rfl, rfl⟩ := trodAll_nil r1
  obtain rfl : args = #[v0, v1] := by cases args; simp_all
  obtain ⟨rfl, rfl⟩ := trodVars_none hV
  obtain ⟨cs0, rfl⟩ := okWide_agg Tryz.underlying40 (hval 0 40 v0 rfl rfl)
  have k0 := h0
  have lt0 : ∀ x ∈ p0, x.block < W.heap.size := by obtain ⟨m, hm⟩ := k0; exact DataW.trod_lt m _ _ _ hm
  obtain ⟨x0, hx0, ok0_⟩ : ∃ x, k40.K W x cs0.toList ∧ ok40 x := by obtain ⟨m, hm⟩ := h0; exact opens40.2 H enc W m _ _ hm
  obtain ⟨A0_0, c0_0, A0_1, c0_1, A0_2, c0_2, A0_3, c0_3, A0_7, c0_7, e0, l0_0, g0_0, l0_1, g0_1, l0_2, g0_2, l0_3, g0_3, l0_7, g0_7⟩ : ∃ A0_0 c0_0 A0_1 c0_1 A0_2 c0_2 A0_3 c0_3 A0_7 c0_7, cs0.toList = [.slice A0_0 x0.f0.f0.length c0_0, .slice A0_1 x0.f0.f1.length c0_1, .slice A0_2 x0.f0.f2.length c0_2, .slice A0_3 x0.f1.length c0_3, .int .i64 x0.f2, .int .i64 x0.f3, .int .i64 x0.f4, .slice A0_7 x0.f5.length c0_7] ∧ x0.f0.f0.length ≤ c0_0 ∧ k88.C W A0_0 x0.f0.f0.length x0.f0.f0 ∧ x0.f0.f1.length ≤ c0_1 ∧ k75.C W A0_1 x0.f0.f1.length x0.f0.f1 ∧ x0.f0.f2.length ≤ c0_2 ∧ k178.C W A0_2 x0.f0.f2.length x0.f0.f2 ∧ x0.f1.length ≤ c0_3 ∧ k196.C W A0_3 x0.f1.length x0.f1 ∧ x0.f5.length ≤ c0_7 ∧ k199.C W A0_7 x0.f5.length x0.f5 := by generalize cs0.toList = cl at hx0 ⊢; obtain ⟨_, _, rfl, ⟨_, _, rfl, ⟨A0_0, c0_0, rfl, l0_0, g0_0⟩, ⟨_, _, rfl, ⟨A0_1, c0_1, rfl, l0_1, g0_1⟩, ⟨A0_2, c0_2, rfl, l0_2, g0_2⟩⟩⟩, ⟨_, _, rfl, ⟨A0_3, c0_3, rfl, l0_3, g0_3⟩, ⟨_, _, rfl, rfl, ⟨_, _, rfl, rfl, ⟨_, _, rfl, rfl, ⟨A0_7, c0_7, rfl, l0_7, g0_7⟩⟩⟩⟩⟩⟩ := hx0; exact ⟨A0_0, c0_0, A0_1, c0_1, A0_2, c0_2, A0_3, c0_3, A0_7, c0_7, rfl, l0_0, g0_0, l0_1, g0_1, l0_2, g0_2, l0_3, g0_3, l0_7, g0_7⟩
  obtain rfl := toArr e0
  obtain ⟨cs1, rfl⟩ := okWide_agg Tryz.underlying75 (hval 1 75 v1 rfl rfl)
  have k1 := h1
  have lt1 : ∀ x ∈ p1, x.block < W.heap.size := by obtain ⟨m, hm⟩ := k1; exact DataW.trod_lt m _ _ _ hm
  obtain ⟨x1, hx1, ok1_⟩ : ∃ x, k75.K W x cs1.toList ∧ ok75 x := by obtain ⟨m, hm⟩ := h1; exact opens75.2 H enc W m _ _ hm
  obtain ⟨A1_5, c1_5, e1, l1_5, g1_5⟩ : ∃ A1_5 c1_5, cs1.toList = [.string x1.f0, .int .i64 x1.f1, .int .i64 x1.f2, .int .i64 x1.f3, .int .i64 x1.f4, .slice A1_5 x1.f5.length c1_5, .string x1.f6] ∧ x1.f5.length ≤ c1_5 ∧ k240.C W A1_5 x1.f5.length x1.f5 := by generalize cs1.toList = cl at hx1 ⊢; obtain ⟨_, _, rfl, rfl, ⟨_, _, rfl, rfl, ⟨_, _, rfl, rfl, ⟨_, _, rfl, rfl, ⟨_, _, rfl, rfl, ⟨_, _, rfl, ⟨A1_5, c1_5, rfl, l1_5, g1_5⟩, rfl⟩⟩⟩⟩⟩⟩ := hx1; exact ⟨A1_5, c1_5, rfl, l1_5, g1_5⟩
  obtain rfl := toArr e1
  obtain ⟨mG, hgM⟩ := maxLen hsh
  clear hA0 hval0
  obtain ⟨k, h⟩ := PureFnExactLearnCrl.pure x0 x1 ok0_ ok1_
  refine (laws_FnExactLearnCrl.calls h g0_0 l0_0 g0_1 l0_1 g0_2 l0_2 g0_3 l0_3 g0_7 l0_7 g1_5 l1_5 hgM).mono fun e W' ⟨he, HQ⟩ => ?_
  subst he
  have bel := HQ.below
  exact ⟨_, rfl, _, _, _, [], _, [], hW', trodAll_mk1 (shut_bool Tryz.underlying4 _), (trodAll_cons_mk (Below.trod laidOut (by kernel_rfl) (of_decide_eq_true (by kernel_rfl)) k0 bel lt0) (trodAll_cons_mk (Below.trod laidOut (by kernel_rfl) (of_decide_eq_true (by kernel_rfl)) k1 bel lt1) trodAll_mk0)), rfl, bel.frame _, fun h => by cases h⟩
set_option maxRecDepth 100000 in
theorem lifted (os : Os) (started : os.Started) (H : Type) (enc : TypeId × Value → H) (F : Stop.Interp) :
    ReturnsInHanded {} Tryz.checked os 9 .any ((OpenSpec.ofChange Rows.fnExactLearnCrlSpec).preRow enc Tryz.prog Tryz.f9 Rows.fnExactLearnCrlRow.domain false Rows.fnExactLearnCrlRow.laid) (((OpenSpec.ofChange Rows.fnExactLearnCrlSpec).at F).post enc Tryz.prog Tryz.f9 false true false false) := by
  obtain ⟨places, hx⟩ := reads os enc
  refine returnsInHanded_of_row (C := Tryz.checked) (s := OpenSpec.ofChange Rows.fnExactLearnCrlSpec) own started (by kernel_rfl) Tryz.func9
    (witness_row_at (enc := enc) (C := Tryz.checked) false (laidWorld os) #[.agg #[.slice none 0 0, .slice none 0 0, .slice none 0 0, .slice none 0 0, .int .i64 0, .int .i64 0, .int .i64 0, .slice none 0 0], .agg #[.string ByteArray.empty, .int .i64 0, .int .i64 0, .int .i64 0, .int .i64 0, .slice none 0 0, .string ByteArray.empty]] rfl (by kernel_rfl) (by kernel_rfl) (by kernel_rfl)
      (OpenSpec.preRow_of_cond 8 hx (by kernel_rfl) (fun k hk => by cases hk) (by kernel_rfl) (laid_met os))) ?_
  intro W base args ds gs before hval hW _ _ _ hL hsh _
  exact contract H enc W base args ds gs before hval hW hL hsh
theorem said : Rows.FnExactLearnCrlSaid :=
  OpenClaim.holds_of_cond 9 Tryz.f9 rfl rfl rfl rfl rfl rfl rfl ⟨rfl, rfl, rfl, rfl, rfl⟩ rfl rfl rfl rfl rfl (by kernel_rfl) Tryz.func9 FactsFnExactLearnCrl.joined
    (of_decide_eq_true (by kernel_rfl)) (by unfold Func.isWrapper; first | (rw [if_pos (by decide +kernel)]; kernel_rfl) | (rw [if_neg (by decide +kernel)]; exact ⟨rfl, rfl⟩))
    (fun os started H enc _ F => by rw [OpenClaim.pre_eq_preRow]; exact lifted os started H enc F)
theorem plain (f : FuncId) (fn : Func) (hf : Tryz.pinned.checked.prog.funcNamed "loop.example/g00394/laws.FnExactLearnCrl" = some f) (hfn : Tryz.pinned.checked.prog.funcs[f]? = some fn) :
    false = Tryz.pinned.checked.prog.looks [] ∧ ∀ (j : Nat) t, fn.params[j]? = some t → Tryz.pinned.checked.prog.wantsStandIn t = false := by
  obtain rfl : f = 9 := Option.some.inj ((show Tryz.prog.funcNamed "loop.example/g00394/laws.FnExactLearnCrl" = some 9 by kernel_rfl).symm.trans hf) |>.symm
  obtain rfl : fn = Tryz.f9 := (Option.some.inj (Tryz.func9.symm.trans hfn)).symm
  refine ⟨by kernel_rfl, fun j t ht => ?_⟩
  rw [Tryz.params9] at ht
  have hm := Array.mem_of_getElem? ht
  have all : ([40, 75] : List TypeId).all (fun t => !Tryz.prog.wantsStandIn t) = true := by kernel_rfl
  have hm' : t ∈ ([40, 75] : List TypeId) := by simpa using hm
  have h' : Tryz.prog.wantsStandIn t = false := by simpa using List.all_eq_true.1 all t hm'
  exact h'
theorem card : Rows.FnExactLearnCrlCardSaid :=
  Claim7.holds_tied_plain_at .later [] _ _ _ _ said (fun _ h => by cases h) (by kernel_rfl) (fun _ h => by cases h) fnExactLearnCrl_row_tie rfl ⟨rfl, rfl⟩ (by kernel_rfl) rfl plain (by kernel_rfl)
#print axioms card
end Go.Proofs.YtacocpknielofaaGreatDoor.LawFnExactLearnCrl
namespace Go.Proofs.YtacocpknielofaaGreatDoor
theorem fnExactLearnCrl_card : Rows.FnExactLearnCrlCardSaid := LawFnExactLearnCrl.card
end Go.Proofs.YtacocpknielofaaGreatDoor

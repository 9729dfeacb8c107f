/- The statement FnExactShowWorld: for every input the law answers true, and its arguments read as before, the listed package variables holding what the program's text lays; and its tied card. No condition. -/
import Derived.Test.YtacocpknielofaaGreatDoorCards
import Derived.Test.YtacocpknielofaaGreatDoorTie
import Derived.Test.YtacocpknielofaaGreatDoorFactsFnExactShowWorld
import Derived.Test.YtacocpknielofaaGreatDoorPureFnExactShowWorld
import Derived.WalkKit
import Derived.ProofKit
import Derived.OpenShut
import Derived.ShutString
import Derived.ChangeOld
import Derived.Below
import Derived.SizedLaws
import Derived.Carry
import Derived.Deep.DeepHandedRow
import Derived.Lib.LaidTab
import Derived.Stop.LaidErr
namespace Go.Proofs.YtacocpknielofaaGreatDoor.LawFnExactShowWorld
open Go.ChangeShapes Go.WideShapes Go.ChangeAt Go.RowKit
open Go.ChangeMaps (open_string shut_string)
open Go.Proofs.YtacocpknielofaaGreatDoorW.PrintWords Go.Proofs.YtacocpknielofaaGreatDoorW.PrintLast Go.Proofs.YtacocpknielofaaGreatDoor.ZOpen Go.Proofs.YtacocpknielofaaGreatDoor.F Go.Proofs.YtacocpknielofaaGreatDoor.SaidFnExactShowWorld
set_option linter.unusedVariables false
set_option linter.unusedSimpArgs false
theorem own : ownKnob Tryz.prog.godebug = none := by kernel_rfl
theorem laidOut : laidOutB Tryz.prog = true := by kernel_rfl
def lay (cs : Array Value) : Obj → Obj
  | .cells _ t frozen => .cells cs t frozen
  | o => o
/-- A world for the witness: the listed tables hold what their initialisers lay. -/
noncomputable def laidWorld (os : Os) : World := { (World.holding Tryz.prog os ⟨#[], #[], []⟩) with heap := ((((World.holding Tryz.prog os ⟨#[], #[], []⟩).heap.modify 4 (lay #[.int .u8 0, .int .u8 1, .int .u8 28, .int .u8 2, .int .u8 29, .int .u8 14, .int .u8 24, .int .u8 3, .int .u8 30, .int .u8 22, .int .u8 20, .int .u8 15, .int .u8 25, .int .u8 17, .int .u8 4, .int .u8 8, .int .u8 31, .int .u8 27, .int .u8 13, .int .u8 23, .int .u8 21, .int .u8 19, .int .u8 16, .int .u8 7, .int .u8 26, .int .u8 12, .int .u8 18, .int .u8 6, .int .u8 11, .int .u8 5, .int .u8 10, .int .u8 9])).modify 5 (lay #[.int .u8 0, .int .u8 1, .int .u8 56, .int .u8 2, .int .u8 57, .int .u8 49, .int .u8 28, .int .u8 3, .int .u8 61, .int .u8 58, .int .u8 42, .int .u8 50, .int .u8 38, .int .u8 29, .int .u8 17, .int .u8 4, .int .u8 62, .int .u8 47, .int .u8 59, .int .u8 36, .int .u8 45, .int .u8 43, .int .u8 51, .int .u8 22, .int .u8 53, .int .u8 39, .int .u8 33, .int .u8 30, .int .u8 24, .int .u8 18, .int .u8 12, .int .u8 5, .int .u8 63, .int .u8 55, .int .u8 48, .int .u8 27, .int .u8 60, .int .u8 41, .int .u8 37, .int .u8 16, .int .u8 46, .int .u8 35, .int .u8 44, .int .u8 21, .int .u8 52, .int .u8 32, .int .u8 23, .int .u8 11, .int .u8 54, .int .u8 26, .int .u8 40, .int .u8 15, .int .u8 34, .int .u8 20, .int .u8 31, .int .u8 10, .int .u8 25, .int .u8 14, .int .u8 19, .int .u8 9, .int .u8 13, .int .u8 8, .int .u8 7, .int .u8 6])).modify 1 (lay #[.int .u64 1, .int .u64 10, .int .u64 100, .int .u64 1000, .int .u64 10000, .int .u64 100000, .int .u64 1000000, .int .u64 10000000, .int .u64 100000000, .int .u64 1000000000, .int .u64 10000000000, .int .u64 100000000000, .int .u64 1000000000000, .int .u64 10000000000000, .int .u64 100000000000000, .int .u64 1000000000000000, .int .u64 10000000000000000, .int .u64 100000000000000000, .int .u64 1000000000000000000, .int .u64 10000000000000000000])) }
set_option maxRecDepth 100000 in
theorem laid_met (os : Os) : laidMet Tryz.prog Rows.fnExactShowWorldRow.laid ((laidWorld os).forCall (fun _ _ => 0) ⟨#[], #[.agg #[.slice none 0 0, .slice none 0 0, .slice none 0 0, .slice none 0 0, .int .i64 0, .int .i64 0, .int .i64 0, .slice none 0 0, .string ByteArray.empty, .int .i64 0, .slice none 0 0, .slice none 0 0, .slice none 0 0, .slice none 0 0, .slice none 0 0, .slice none 0 0, .slice none 0 0, .slice none 0 0, .slice none 0 0]], []⟩).memory := laidMet_of_run' 8 (by kernel_rfl) (by kernel_rfl)
theorem reads (os : Os) {H : Type} (enc : TypeId × Value → H) : ∃ places, DataW.whole enc Tryz.prog ((laidWorld os).forCall (fun _ _ => 0) ⟨#[], #[.agg #[.slice none 0 0, .slice none 0 0, .slice none 0 0, .slice none 0 0, .int .i64 0, .int .i64 0, .int .i64 0, .slice none 0 0, .string ByteArray.empty, .int .i64 0, .slice none 0 0, .slice none 0 0, .slice none 0 0, .slice none 0 0, .slice none 0 0, .slice none 0 0, .slice none 0 0, .slice none 0 0, .slice none 0 0]], []⟩).memory Tryz.f5.params.toList Rows.fnExactShowWorldSpec.vars false #[.agg #[.slice none 0 0, .slice none 0 0, .slice none 0 0, .slice none 0 0, .int .i64 0, .int .i64 0, .int .i64 0, .slice none 0 0, .string ByteArray.empty, .int .i64 0, .slice none 0 0, .slice none 0 0, .slice none 0 0, .slice none 0 0, .slice none 0 0, .slice none 0 0, .slice none 0 0, .slice none 0 0, .slice none 0 0]].toList 8 = some ([.agg [.agg [.agg [.nil, .nil, .nil], .nil, .lit (.int .i64 0), .lit (.int .i64 0), .lit (.int .i64 0), .nil], .agg [.lit (.string []), .lit (.int .i64 0), .nil, .nil, .nil], .nil, .nil, .nil, .nil, .nil, .nil]], [], places) := ⟨[], by kernel_rfl⟩
theorem table {W : World} (h : laidMetH Tryz.prog Rows.fnExactShowWorldRow.laid W) : Go.Lib.TabIs Tryz.prog W "internal/strconv.uint64pow10" .u64 Go.Lib.pow10Tab := by
  have h0 : laidMet Tryz.prog Rows.fnExactShowWorldRow.laid W := h
  have h1 : laidMet Tryz.prog (Rows.fnExactShowWorldRow.laid.drop 2) W := h0.tail.tail
  have e : Rows.fnExactShowWorldRow.laid.drop 2 = ("internal/strconv.uint64pow10", Go.Lib.tabData .u64 Go.Lib.pow10Tab) :: Rows.fnExactShowWorldRow.laid.drop 3 := by kernel_rfl
  rw [e] at h1
  exact Go.Lib.tabIs_of_head (g := 1) (t := 307) (e := 296) (n := 20) (by kernel_rfl) (by kernel_rfl) (by kernel_rfl) (by kernel_rfl) (by kernel_rfl) (by kernel_rfl) h1
set_option maxHeartbeats 1000000 in
set_option maxRecDepth 100000 in
theorem contract (H : Type) (enc : TypeId × Value → H) (W : World) (base : Nat) (args : Array Value) (ds gs : List (DataW H)) (before : List MemPlace)
    (hval0 : ∀ (j : Nat) t v, Tryz.f5.params[j]? = some t → args[j]? = some v → Value.okWide Tryz.prog W .any base t v)
    (hW : DataW.Whole enc Tryz.prog Tryz.f5.params.toList Rows.fnExactShowWorldSpec.vars false W args.toList ds gs before) (hL : laidMetH Tryz.prog Rows.fnExactShowWorldRow.laid W) (hsh : W.ShapedOpen Tryz.prog) :
    Calls Tryz.prog 5 args W fun e W' => ∃ v, e = .returned v ∧ Rows.fnExactShowWorldSpec.post enc Tryz.prog Tryz.f5 false true false false W args v W' := by
  have hval : ∀ (j : Nat) t v, Tryz.f5.params[j]? = some t → args[j]? = some v → Value.okWide Tryz.prog W .any base t v := hval0
  have hW' := hW
  obtain ⟨p, q, hA0, hV, rfl, hfz, hnd⟩ := hW
  have hA : DataW.TrodAll enc Tryz.prog W 0 (fun _ => true) true Tryz.f5.params.toList args.toList ds p := hA0
  rw [Tryz.params5] at hA hval
  obtain ⟨v0, vs0, d0, ds0, p0, q0, hargs, rfl, rfl, h0, r0⟩ := trodAll_cons hA
  obtain ⟨rfl, rfl, rfl⟩ := trodAll_nil r0
  obtain rfl : args = #[v0] := by cases args; simp_all
  obtain ⟨rfl, rfl⟩ := trodVars_none hV
  obtain ⟨cs0, rfl⟩ := okWide_agg Tryz.underlying59 (hval 0 59 v0 rfl rfl)
  have k0 := h0
  have lt0 : ∀ x ∈ p0, x.block < W.heap.size := by obtain ⟨m, hm⟩ := k0; exact DataW.trod_lt m _ _ _ hm
  obtain ⟨x0, hx0, ok0_⟩ : ∃ x, k59.K W x cs0.toList ∧ ok59 x := by obtain ⟨m, hm⟩ := h0; exact opens59.2 H enc W m _ _ hm
  obtain ⟨A0_0, c0_0, A0_1, c0_1, A0_2, c0_2, A0_3, c0_3, A0_7, c0_7, A0_10, c0_10, A0_11, c0_11, A0_12, c0_12, A0_13, c0_13, A0_14, c0_14, A0_15, c0_15, A0_16, c0_16, A0_17, c0_17, A0_18, c0_18, e0, l0_0, g0_0, l0_1, g0_1, l0_2, g0_2, l0_3, g0_3, l0_7, g0_7, l0_10, g0_10, l0_11, g0_11, l0_12, g0_12, l0_13, g0_13, l0_14, g0_14, l0_15, g0_15, l0_16, g0_16, l0_17, g0_17, l0_18, g0_18⟩ : ∃ A0_0 c0_0 A0_1 c0_1 A0_2 c0_2 A0_3 c0_3 A0_7 c0_7 A0_10 c0_10 A0_11 c0_11 A0_12 c0_12 A0_13 c0_13 A0_14 c0_14 A0_15 c0_15 A0_16 c0_16 A0_17 c0_17 A0_18 c0_18, cs0.toList = [.slice A0_0 x0.f0.f0.f0.length c0_0, .slice A0_1 x0.f0.f0.f1.length c0_1, .slice A0_2 x0.f0.f0.f2.length c0_2, .slice A0_3 x0.f0.f1.length c0_3, .int .i64 x0.f0.f2, .int .i64 x0.f0.f3, .int .i64 x0.f0.f4, .slice A0_7 x0.f0.f5.length c0_7, .string x0.f1.f0, .int .i64 x0.f1.f1, .slice A0_10 x0.f1.f2.length c0_10, .slice A0_11 x0.f1.f3.length c0_11, .slice A0_12 x0.f1.f4.length c0_12, .slice A0_13 x0.f2.length c0_13, .slice A0_14 x0.f3.length c0_14, .slice A0_15 x0.f4.length c0_15, .slice A0_16 x0.f5.length c0_16, .slice A0_17 x0.f6.length c0_17, .slice A0_18 x0.f7.length c0_18] ∧ x0.f0.f0.f0.length ≤ c0_0 ∧ k88.C W A0_0 x0.f0.f0.f0.length x0.f0.f0.f0 ∧ x0.f0.f0.f1.length ≤ c0_1 ∧ k75.C W A0_1 x0.f0.f0.f1.length x0.f0.f0.f1 ∧ x0.f0.f0.f2.length ≤ c0_2 ∧ k178.C W A0_2 x0.f0.f0.f2.length x0.f0.f0.f2 ∧ x0.f0.f1.length ≤ c0_3 ∧ k196.C W A0_3 x0.f0.f1.length x0.f0.f1 ∧ x0.f0.f5.length ≤ c0_7 ∧ k199.C W A0_7 x0.f0.f5.length x0.f0.f5 ∧ x0.f1.f2.length ≤ c0_10 ∧ k265.C W A0_10 x0.f1.f2.length x0.f1.f2 ∧ x0.f1.f3.length ≤ c0_11 ∧ k271.C W A0_11 x0.f1.f3.length x0.f1.f3 ∧ x0.f1.f4.length ≤ c0_12 ∧ (Kd.int .i64).C W A0_12 x0.f1.f4.length x0.f1.f4 ∧ x0.f2.length ≤ c0_13 ∧ k88.C W A0_13 x0.f2.length x0.f2 ∧ x0.f3.length ≤ c0_14 ∧ k214.C W A0_14 x0.f3.length x0.f3 ∧ x0.f4.length ≤ c0_15 ∧ (Kd.int .i64).C W A0_15 x0.f4.length x0.f4 ∧ x0.f5.length ≤ c0_16 ∧ k217.C W A0_16 x0.f5.length x0.f5 ∧ x0.f6.length ≤ c0_17 ∧ Kd.string.C W A0_17 x0.f6.length x0.f6 ∧ x0.f7.length ≤ c0_18 ∧ Kd.string.C W A0_18 x0.f7.length x0.f7 := by generalize cs0.toList = cl at hx0 ⊢; obtain ⟨_, _, rfl, ⟨_, _, rfl, ⟨_, _, rfl, ⟨A0_0, c0_0, rfl, l0_0, g0_0⟩, ⟨_, _, rfl, ⟨A0_1, c0_1, rfl, l0_1, g0_1⟩, ⟨A0_2, c0_2, rfl, l0_2, g0_2⟩⟩⟩, ⟨_, _, rfl, ⟨A0_3, c0_3, rfl, l0_3, g0_3⟩, ⟨_, _, rfl, rfl, ⟨_, _, rfl, rfl, ⟨_, _, rfl, rfl, ⟨A0_7, c0_7, rfl, l0_7, g0_7⟩⟩⟩⟩⟩⟩, ⟨_, _, rfl, ⟨_, _, rfl, rfl, ⟨_, _, rfl, rfl, ⟨_, _, rfl, ⟨A0_10, c0_10, rfl, l0_10, g0_10⟩, ⟨_, _, rfl, ⟨A0_11, c0_11, rfl, l0_11, g0_11⟩, ⟨A0_12, c0_12, rfl, l0_12, g0_12⟩⟩⟩⟩⟩, ⟨_, _, rfl, ⟨A0_13, c0_13, rfl, l0_13, g0_13⟩, ⟨_, _, rfl, ⟨A0_14, c0_14, rfl, l0_14, g0_14⟩, ⟨_, _, rfl, ⟨A0_15, c0_15, rfl, l0_15, g0_15⟩, ⟨_, _, rfl, ⟨A0_16, c0_16, rfl, l0_16, g0_16⟩, ⟨_, _, rfl, ⟨A0_17, c0_17, rfl, l0_17, g0_17⟩, ⟨A0_18, c0_18, rfl, l0_18, g0_18⟩⟩⟩⟩⟩⟩⟩⟩ := hx0; exact ⟨A0_0, c0_0, A0_1, c0_1, A0_2, c0_2, A0_3, c0_3, A0_7, c0_7, A0_10, c0_10, A0_11, c0_11, A0_12, c0_12, A0_13, c0_13, A0_14, c0_14, A0_15, c0_15, A0_16, c0_16, A0_17, c0_17, A0_18, c0_18, rfl, l0_0, g0_0, l0_1, g0_1, l0_2, g0_2, l0_3, g0_3, l0_7, g0_7, l0_10, g0_10, l0_11, g0_11, l0_12, g0_12, l0_13, g0_13, l0_14, g0_14, l0_15, g0_15, l0_16, g0_16, l0_17, g0_17, l0_18, g0_18⟩
  obtain rfl := toArr e0
  have hgT := table hL
  clear hA0 hval0
  obtain ⟨k, h⟩ := PureFnExactShowWorld.pure x0 ok0_
  refine (laws_FnExactShowWorld.calls h g0_0 l0_0 g0_1 l0_1 g0_2 l0_2 g0_3 l0_3 g0_7 l0_7 g0_10 l0_10 g0_11 l0_11 g0_12 l0_12 g0_13 l0_13 g0_14 l0_14 g0_15 l0_15 g0_16 l0_16 g0_17 l0_17 g0_18 l0_18 hgT).mono fun e W' ⟨he, HQ⟩ => ?_
  subst he
  have bel := HQ.below
  exact ⟨_, rfl, _, _, _, [], _, [], hW', trodAll_mk1 (shut_bool Tryz.underlying4 _), (trodAll_cons_mk (Below.trod laidOut (by kernel_rfl) (of_decide_eq_true (by kernel_rfl)) k0 bel lt0) trodAll_mk0), rfl, bel.frame _, fun h => by cases h⟩
set_option maxRecDepth 100000 in
theorem lifted (os : Os) (started : os.Started) (H : Type) (enc : TypeId × Value → H) (F : Stop.Interp) :
    ReturnsInHanded {} Tryz.checked os 5 .any ((OpenSpec.ofChange Rows.fnExactShowWorldSpec).preRow enc Tryz.prog Tryz.f5 Rows.fnExactShowWorldRow.domain false Rows.fnExactShowWorldRow.laid) (((OpenSpec.ofChange Rows.fnExactShowWorldSpec).at F).post enc Tryz.prog Tryz.f5 false true false false) := by
  obtain ⟨places, hx⟩ := reads os enc
  refine returnsInHanded_of_row (C := Tryz.checked) (s := OpenSpec.ofChange Rows.fnExactShowWorldSpec) own started (by kernel_rfl) Tryz.func5
    (witness_row_at (enc := enc) (C := Tryz.checked) false (laidWorld os) #[.agg #[.slice none 0 0, .slice none 0 0, .slice none 0 0, .slice none 0 0, .int .i64 0, .int .i64 0, .int .i64 0, .slice none 0 0, .string ByteArray.empty, .int .i64 0, .slice none 0 0, .slice none 0 0, .slice none 0 0, .slice none 0 0, .slice none 0 0, .slice none 0 0, .slice none 0 0, .slice none 0 0, .slice none 0 0]] rfl (by kernel_rfl) (by kernel_rfl) (by kernel_rfl)
      (OpenSpec.preRow_of_cond 8 hx (by kernel_rfl) (fun k hk => by cases hk) (by kernel_rfl) (laid_met os))) ?_
  intro W base args ds gs before hval hW _ _ _ hL hsh _
  exact contract H enc W base args ds gs before hval hW hL hsh
theorem said : Rows.FnExactShowWorldSaid :=
  OpenClaim.holds_of_cond 5 Tryz.f5 rfl rfl rfl rfl rfl rfl rfl ⟨rfl, rfl, rfl, rfl, rfl⟩ rfl rfl rfl rfl rfl (by kernel_rfl) Tryz.func5 FactsFnExactShowWorld.joined
    (of_decide_eq_true (by kernel_rfl)) (by unfold Func.isWrapper; first | (rw [if_pos (by decide +kernel)]; kernel_rfl) | (rw [if_neg (by decide +kernel)]; exact ⟨rfl, rfl⟩))
    (fun os started H enc _ F => by rw [OpenClaim.pre_eq_preRow]; exact lifted os started H enc F)
theorem plain (f : FuncId) (fn : Func) (hf : Tryz.pinned.checked.prog.funcNamed "loop.example/g00394/laws.FnExactShowWorld" = some f) (hfn : Tryz.pinned.checked.prog.funcs[f]? = some fn) :
    false = Tryz.pinned.checked.prog.looks [] ∧ ∀ (j : Nat) t, fn.params[j]? = some t → Tryz.pinned.checked.prog.wantsStandIn t = false := by
  obtain rfl : f = 5 := Option.some.inj ((show Tryz.prog.funcNamed "loop.example/g00394/laws.FnExactShowWorld" = some 5 by kernel_rfl).symm.trans hf) |>.symm
  obtain rfl : fn = Tryz.f5 := (Option.some.inj (Tryz.func5.symm.trans hfn)).symm
  refine ⟨by kernel_rfl, fun j t ht => ?_⟩
  rw [Tryz.params5] at ht
  have hm := Array.mem_of_getElem? ht
  have all : ([59] : List TypeId).all (fun t => !Tryz.prog.wantsStandIn t) = true := by kernel_rfl
  have hm' : t ∈ ([59] : List TypeId) := by simpa using hm
  have h' : Tryz.prog.wantsStandIn t = false := by simpa using List.all_eq_true.1 all t hm'
  exact h'
theorem card : Rows.FnExactShowWorldCardSaid :=
  Claim7.holds_tied_plain_at .later [] _ _ _ _ said (fun _ h => by cases h) (by kernel_rfl) (fun _ h => by cases h) fnExactShowWorld_row_tie rfl ⟨rfl, rfl⟩ (by kernel_rfl) rfl plain (by kernel_rfl)
#print axioms card
end Go.Proofs.YtacocpknielofaaGreatDoor.LawFnExactShowWorld
namespace Go.Proofs.YtacocpknielofaaGreatDoor
theorem fnExactShowWorld_card : Rows.FnExactShowWorldCardSaid := LawFnExactShowWorld.card
end Go.Proofs.YtacocpknielofaaGreatDoor

/- What is left to prove of the statement FnExactCrlText: numbers and lists alone; and that what came in is so made. -/
import Derived.Test.YtnpokacipeobdaaDoorZgFnExactCrlTexte
import Derived.Test.YtnpokacipeobdaaDoorZOpen
namespace Go.Proofs.YtnpokacipeobdaaDoor.SaidFnExactCrlText
open Go.RowKit Go.Proofs.YtnpokacipeobdaaDoorW.PrintWords Go.Proofs.YtnpokacipeobdaaDoorW.PrintLast Go.Proofs.YtnpokacipeobdaaDoor.ZOpen Go.Proofs.YtnpokacipeobdaaDoor.Z Go.Proofs.YtnpokacipeobdaaDoor.F
set_option linter.unusedVariables false
set_option maxRecDepth 100000
def ok107 (x : S107) : Prop := (okInt .i64) x.f0 ∧ (okInt .i64) x.f1
theorem opens107 : Opens Tryd.prog 107 k107 ok107 :=
  opens_struct (d := (Kd.pair (Kd.int .i64) (Kd.int .i64))) (ok := (okPair (okInt .i64) (okInt .i64))) Tryd.underlying107 (by kernel_rfl) (List.toList_toArray) (fields_cons rfl (opens_int Tryd.underlying3 (by kernel_rfl)) rfl (fields_one rfl (opens_int Tryd.underlying3 (by kernel_rfl)))) (fun x : S107 => (x.f0, x.f1)) (fun p => (⟨p.1, p.2⟩ : S107)) (fun _ => rfl)
def ok24 (x : S24) : Prop := okStr x.f0 ∧ (okInt .i64) x.f1 ∧ (okInt .i64) x.f2 ∧ (okInt .i64) x.f3 ∧ (okInt .i64) x.f4 ∧ (okList ok107) x.f5 ∧ okStr x.f6
theorem opens24 : Opens Tryd.prog 24 k24 ok24 :=
  opens_struct (d := (Kd.pair Kd.string (Kd.pair (Kd.int .i64) (Kd.pair (Kd.int .i64) (Kd.pair (Kd.int .i64) (Kd.pair (Kd.int .i64) (Kd.pair (Kd.slice 107 k107) Kd.string))))))) (ok := (okPair okStr (okPair (okInt .i64) (okPair (okInt .i64) (okPair (okInt .i64) (okPair (okInt .i64) (okPair (okList ok107) okStr))))))) Tryd.underlying24 (by kernel_rfl) (List.toList_toArray) (fields_cons rfl (opens_string Tryd.underlying9 (by kernel_rfl)) rfl (fields_cons rfl (opens_int Tryd.underlying3 (by kernel_rfl)) rfl (fields_cons rfl (opens_int Tryd.underlying3 (by kernel_rfl)) rfl (fields_cons rfl (opens_int Tryd.underlying3 (by kernel_rfl)) rfl (fields_cons rfl (opens_int Tryd.underlying3 (by kernel_rfl)) rfl (fields_cons rfl (opens_slice Tryd.underlying22 (by kernel_rfl) opens107) rfl (fields_one rfl (opens_string Tryd.underlying9 (by kernel_rfl))))))))) (fun x : S24 => (x.f0, x.f1, x.f2, x.f3, x.f4, x.f5, x.f6)) (fun p => (⟨p.1, p.2.1, p.2.2.1, p.2.2.2.1, p.2.2.2.2.1, p.2.2.2.2.2.1, p.2.2.2.2.2.2⟩ : S24)) (fun _ => rfl)
/-- The one pure statement. -/
def Pure : Prop := ∀ (a0 : S24), ok24 a0 → ∃ k, laws_FnExactCrlText.f k a0 = some true
end Go.Proofs.YtnpokacipeobdaaDoor.SaidFnExactCrlText

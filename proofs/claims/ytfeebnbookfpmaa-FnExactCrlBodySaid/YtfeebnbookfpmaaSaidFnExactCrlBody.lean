/- What is left to prove of the statement FnExactCrlBody: numbers and lists alone; and that what came in is so made. -/
import Derived.Test.YtfeebnbookfpmaaZgFnExactCrlBodye
import Derived.Test.YtfeebnbookfpmaaZOpen
namespace Go.Proofs.Ytfeebnbookfpmaa.SaidFnExactCrlBody
open Go.RowKit Go.Proofs.YtfeebnbookfpmaaW.PrintWords Go.Proofs.YtfeebnbookfpmaaW.PrintLast Go.Proofs.Ytfeebnbookfpmaa.ZOpen Go.Proofs.Ytfeebnbookfpmaa.Z Go.Proofs.Ytfeebnbookfpmaa.F
set_option linter.unusedVariables false
set_option maxRecDepth 100000
def ok152 (x : S152) : Prop := (okInt .i64) x.f0 ∧ (okInt .i64) x.f1
theorem opens152 : Opens Try.prog 152 k152 ok152 :=
  opens_struct (d := (Kd.pair (Kd.int .i64) (Kd.int .i64))) (ok := (okPair (okInt .i64) (okInt .i64))) Try.underlying152 (by kernel_rfl) (List.toList_toArray) (fields_cons rfl (opens_int Try.underlying3 (by kernel_rfl)) rfl (fields_one rfl (opens_int Try.underlying3 (by kernel_rfl)))) (fun x : S152 => (x.f0, x.f1)) (fun p => (⟨p.1, p.2⟩ : S152)) (fun _ => rfl)
def ok49 (x : S49) : Prop := okStr x.f0 ∧ (okInt .i64) x.f1 ∧ (okInt .i64) x.f2 ∧ (okInt .i64) x.f3 ∧ (okInt .i64) x.f4 ∧ (okList ok152) x.f5 ∧ okStr x.f6
theorem opens49 : Opens Try.prog 49 k49 ok49 :=
  opens_struct (d := (Kd.pair Kd.string (Kd.pair (Kd.int .i64) (Kd.pair (Kd.int .i64) (Kd.pair (Kd.int .i64) (Kd.pair (Kd.int .i64) (Kd.pair (Kd.slice 152 k152) Kd.string))))))) (ok := (okPair okStr (okPair (okInt .i64) (okPair (okInt .i64) (okPair (okInt .i64) (okPair (okInt .i64) (okPair (okList ok152) okStr))))))) Try.underlying49 (by kernel_rfl) (List.toList_toArray) (fields_cons rfl (opens_string Try.underlying9 (by kernel_rfl)) rfl (fields_cons rfl (opens_int Try.underlying3 (by kernel_rfl)) rfl (fields_cons rfl (opens_int Try.underlying3 (by kernel_rfl)) rfl (fields_cons rfl (opens_int Try.underlying3 (by kernel_rfl)) rfl (fields_cons rfl (opens_int Try.underlying3 (by kernel_rfl)) rfl (fields_cons rfl (opens_slice Try.underlying47 (by kernel_rfl) opens152) rfl (fields_one rfl (opens_string Try.underlying9 (by kernel_rfl))))))))) (fun x : S49 => (x.f0, x.f1, x.f2, x.f3, x.f4, x.f5, x.f6)) (fun p => (⟨p.1, p.2.1, p.2.2.1, p.2.2.2.1, p.2.2.2.2.1, p.2.2.2.2.2.1, p.2.2.2.2.2.2⟩ : S49)) (fun _ => rfl)
/-- The one pure statement. -/
def Pure : Prop := ∀ (a0 : S49), ok49 a0 → ∃ k, laws_FnExactCrlBody.f k a0 = some true
end Go.Proofs.Ytfeebnbookfpmaa.SaidFnExactCrlBody

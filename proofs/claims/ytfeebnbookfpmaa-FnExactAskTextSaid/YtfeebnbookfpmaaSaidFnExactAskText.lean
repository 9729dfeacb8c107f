/- What is left to prove of the statement FnExactAskText: numbers and lists alone; and that what came in is so made. -/
import Derived.Test.YtfeebnbookfpmaaZgFnExactAskTextd
import Derived.Test.YtfeebnbookfpmaaZOpen
namespace Go.Proofs.Ytfeebnbookfpmaa.SaidFnExactAskText
open Go.RowKit Go.Proofs.YtfeebnbookfpmaaW.PrintWords Go.Proofs.YtfeebnbookfpmaaW.PrintLast Go.Proofs.Ytfeebnbookfpmaa.ZOpen Go.Proofs.Ytfeebnbookfpmaa.Z Go.Proofs.Ytfeebnbookfpmaa.F
set_option linter.unusedVariables false
set_option maxRecDepth 100000
def ok40 (x : S40) : Prop := (okList okStr) x.f0 ∧ (okInt .i64) x.f1 ∧ (okInt .i64) x.f2 ∧ (okInt .i64) x.f3 ∧ (okInt .i64) x.f4 ∧ okAny x.f5
theorem opens40 : Opens Try.prog 40 k40 ok40 :=
  opens_struct (d := (Kd.pair (Kd.slice 9 Kd.string) (Kd.pair (Kd.int .i64) (Kd.pair (Kd.int .i64) (Kd.pair (Kd.int .i64) (Kd.pair (Kd.int .i64) Kd.bool)))))) (ok := (okPair (okList okStr) (okPair (okInt .i64) (okPair (okInt .i64) (okPair (okInt .i64) (okPair (okInt .i64) okAny)))))) Try.underlying40 (by kernel_rfl) (List.toList_toArray) (fields_cons rfl (opens_slice Try.underlying38 (by kernel_rfl) (opens_string Try.underlying9 (by kernel_rfl))) rfl (fields_cons rfl (opens_int Try.underlying3 (by kernel_rfl)) rfl (fields_cons rfl (opens_int Try.underlying3 (by kernel_rfl)) rfl (fields_cons rfl (opens_int Try.underlying3 (by kernel_rfl)) rfl (fields_cons rfl (opens_int Try.underlying3 (by kernel_rfl)) rfl (fields_one rfl (opens_bool Try.underlying4 (by kernel_rfl)))))))) (fun x : S40 => (x.f0, x.f1, x.f2, x.f3, x.f4, x.f5)) (fun p => (⟨p.1, p.2.1, p.2.2.1, p.2.2.2.1, p.2.2.2.2.1, p.2.2.2.2.2⟩ : S40)) (fun _ => rfl)
/-- The one pure statement. -/
def Pure : Prop := ∀ (a0 : S40), ok40 a0 → ∃ k, laws_FnExactAskText.f k a0 = some true
end Go.Proofs.Ytfeebnbookfpmaa.SaidFnExactAskText

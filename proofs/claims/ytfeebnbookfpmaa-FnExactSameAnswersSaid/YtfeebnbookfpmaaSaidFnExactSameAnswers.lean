/- What is left to prove of the statement FnExactSameAnswers: numbers and lists alone; and that what came in is so made. -/
import Derived.Test.YtfeebnbookfpmaaZf8
import Derived.Test.YtfeebnbookfpmaaZOpen
namespace Go.Proofs.Ytfeebnbookfpmaa.SaidFnExactSameAnswers
open Go.RowKit Go.Proofs.YtfeebnbookfpmaaW.PrintWords Go.Proofs.YtfeebnbookfpmaaW.PrintLast Go.Proofs.Ytfeebnbookfpmaa.ZOpen Go.Proofs.Ytfeebnbookfpmaa.Z Go.Proofs.Ytfeebnbookfpmaa.F
set_option linter.unusedVariables false
set_option maxRecDepth 100000
def ok126 (x : S126) : Prop := (okInt .i64) x.f0 ∧ (okInt .i64) x.f1 ∧ (okList okStr) x.f2 ∧ (okList okStr) x.f3
theorem opens126 : Opens Try.prog 126 k126 ok126 :=
  opens_struct (d := (Kd.pair (Kd.int .i64) (Kd.pair (Kd.int .i64) (Kd.pair (Kd.slice 9 Kd.string) (Kd.slice 9 Kd.string))))) (ok := (okPair (okInt .i64) (okPair (okInt .i64) (okPair (okList okStr) (okList okStr))))) Try.underlying126 (by kernel_rfl) (List.toList_toArray) (fields_cons rfl (opens_int Try.underlying3 (by kernel_rfl)) rfl (fields_cons rfl (opens_int Try.underlying3 (by kernel_rfl)) rfl (fields_cons rfl (opens_slice Try.underlying38 (by kernel_rfl) (opens_string Try.underlying9 (by kernel_rfl))) rfl (fields_one rfl (opens_slice Try.underlying38 (by kernel_rfl) (opens_string Try.underlying9 (by kernel_rfl))))))) (fun x : S126 => (x.f0, x.f1, x.f2, x.f3)) (fun p => (⟨p.1, p.2.1, p.2.2.1, p.2.2.2⟩ : S126)) (fun _ => rfl)
/-- The one pure statement. -/
def Pure : Prop := ∀ (a0 : (List S126)) (a1 : (List S126)), (okList ok126) a0 → (okList ok126) a1 → ∃ k, laws_FnExactSameAnswers.f k a0 a1 = some true
end Go.Proofs.Ytfeebnbookfpmaa.SaidFnExactSameAnswers

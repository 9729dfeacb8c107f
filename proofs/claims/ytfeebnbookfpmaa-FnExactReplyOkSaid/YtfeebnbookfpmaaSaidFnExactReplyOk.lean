/- What is left to prove of the statement FnExactReplyOk: numbers and lists alone; and that what came in is so made. -/
import Derived.Test.YtfeebnbookfpmaaZf9
import Derived.Test.YtfeebnbookfpmaaZOpen
namespace Go.Proofs.Ytfeebnbookfpmaa.SaidFnExactReplyOk
open Go.RowKit Go.Proofs.YtfeebnbookfpmaaW.PrintWords Go.Proofs.YtfeebnbookfpmaaW.PrintLast Go.Proofs.Ytfeebnbookfpmaa.ZOpen Go.Proofs.Ytfeebnbookfpmaa.Z Go.Proofs.Ytfeebnbookfpmaa.F
set_option linter.unusedVariables false
set_option maxRecDepth 100000
def ok126 (x : S126) : Prop := (okInt .i64) x.f0 ∧ (okInt .i64) x.f1 ∧ (okList okStr) x.f2 ∧ (okList okStr) x.f3
theorem opens126 : Opens Try.prog 126 k126 ok126 :=
  opens_struct (d := (Kd.pair (Kd.int .i64) (Kd.pair (Kd.int .i64) (Kd.pair (Kd.slice 9 Kd.string) (Kd.slice 9 Kd.string))))) (ok := (okPair (okInt .i64) (okPair (okInt .i64) (okPair (okList okStr) (okList okStr))))) Try.underlying126 (by kernel_rfl) (List.toList_toArray) (fields_cons rfl (opens_int Try.underlying3 (by kernel_rfl)) rfl (fields_cons rfl (opens_int Try.underlying3 (by kernel_rfl)) rfl (fields_cons rfl (opens_slice Try.underlying38 (by kernel_rfl) (opens_string Try.underlying9 (by kernel_rfl))) rfl (fields_one rfl (opens_slice Try.underlying38 (by kernel_rfl) (opens_string Try.underlying9 (by kernel_rfl))))))) (fun x : S126 => (x.f0, x.f1, x.f2, x.f3)) (fun p => (⟨p.1, p.2.1, p.2.2.1, p.2.2.2⟩ : S126)) (fun _ => rfl)
def ok72 (x : S72) : Prop := okStr x.f0 ∧ (okInt .i64) x.f1 ∧ (okInt .i64) x.f2 ∧ (okInt .i64) x.f3 ∧ (okInt .i64) x.f4 ∧ (okInt .i64) x.f5 ∧ (okList ok126) x.f6 ∧ okStr x.f7
theorem opens72 : Opens Try.prog 72 k72 ok72 :=
  opens_struct (d := (Kd.pair Kd.string (Kd.pair (Kd.int .i64) (Kd.pair (Kd.int .i64) (Kd.pair (Kd.int .i64) (Kd.pair (Kd.int .i64) (Kd.pair (Kd.int .i64) (Kd.pair (Kd.slice 126 k126) Kd.string)))))))) (ok := (okPair okStr (okPair (okInt .i64) (okPair (okInt .i64) (okPair (okInt .i64) (okPair (okInt .i64) (okPair (okInt .i64) (okPair (okList ok126) okStr)))))))) Try.underlying72 (by kernel_rfl) (List.toList_toArray) (fields_cons rfl (opens_string Try.underlying9 (by kernel_rfl)) rfl (fields_cons rfl (opens_int Try.underlying3 (by kernel_rfl)) rfl (fields_cons rfl (opens_int Try.underlying3 (by kernel_rfl)) rfl (fields_cons rfl (opens_int Try.underlying3 (by kernel_rfl)) rfl (fields_cons rfl (opens_int Try.underlying3 (by kernel_rfl)) rfl (fields_cons rfl (opens_int Try.underlying3 (by kernel_rfl)) rfl (fields_cons rfl (opens_slice Try.underlying65 (by kernel_rfl) opens126) rfl (fields_one rfl (opens_string Try.underlying9 (by kernel_rfl)))))))))) (fun x : S72 => (x.f0, x.f1, x.f2, x.f3, x.f4, x.f5, x.f6, x.f7)) (fun p => (⟨p.1, p.2.1, p.2.2.1, p.2.2.2.1, p.2.2.2.2.1, p.2.2.2.2.2.1, p.2.2.2.2.2.2.1, p.2.2.2.2.2.2.2⟩ : S72)) (fun _ => rfl)
/-- The one pure statement. -/
def Pure : Prop := ∀ (a0 : S72), ok72 a0 → ∃ k, laws_FnExactReplyOk.f k a0 = some true
end Go.Proofs.Ytfeebnbookfpmaa.SaidFnExactReplyOk

/- What is left to prove of the statement FnExactListed: numbers and lists alone; and that what came in is so made. -/
import Derived.Test.YtfeebnbookfpmaaPFnExactListedx
import Derived.Test.YtfeebnbookfpmaaZOpen
namespace Go.Proofs.Ytfeebnbookfpmaa.SaidFnExactListed
open Go.RowKit Go.Proofs.YtfeebnbookfpmaaW.PrintWords Go.Proofs.YtfeebnbookfpmaaW.PrintLast Go.Proofs.Ytfeebnbookfpmaa.ZOpen Go.Proofs.Ytfeebnbookfpmaa.PFnExactListed
set_option linter.unusedVariables false
set_option maxRecDepth 100000
def ok152 (x : S152) : Prop := (okInt .i64) x.f0 ∧ (okInt .i64) x.f1
theorem opens152 : Opens Try.prog 152 k152 ok152 :=
  opens_struct (d := (Kd.pair (Kd.int .i64) (Kd.int .i64))) (ok := (okPair (okInt .i64) (okInt .i64))) Try.underlying152 (by kernel_rfl) (List.toList_toArray) (fields_cons rfl (opens_int Try.underlying3 (by kernel_rfl)) rfl (fields_one rfl (opens_int Try.underlying3 (by kernel_rfl)))) (fun x : S152 => (x.f0, x.f1)) (fun p => (⟨p.1, p.2⟩ : S152)) (fun _ => rfl)
/-- The one pure statement. -/
def Pure : Prop := ∀ (a0_0 : ByteArray) (a0_1 : Int) (a0_2 : Int) (a0_3 : Int) (a0_4 : Int) (a0_5 : (List S152)) (a0_6 : ByteArray) (a1 : Int), okStr a0_0 → (okInt .i64) a0_1 → (okInt .i64) a0_2 → (okInt .i64) a0_3 → (okInt .i64) a0_4 → (okList ok152) a0_5 → okStr a0_6 → (okInt .i64) a1 → ∃ k, laws_FnExactListed.f k a0_0 a0_1 a0_2 a0_3 a0_4 a0_5 a0_6 a1 = some true
end Go.Proofs.Ytfeebnbookfpmaa.SaidFnExactListed

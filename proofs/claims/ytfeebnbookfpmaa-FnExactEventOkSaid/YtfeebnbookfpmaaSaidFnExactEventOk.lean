/- What is left to prove of the statement FnExactEventOk: numbers and lists alone; and that what came in is so made. -/
import Derived.Test.YtfeebnbookfpmaaPFnExactEventOkx
import Derived.Test.YtfeebnbookfpmaaZOpen
namespace Go.Proofs.Ytfeebnbookfpmaa.SaidFnExactEventOk
open Go.RowKit Go.Proofs.YtfeebnbookfpmaaW.PrintWords Go.Proofs.YtfeebnbookfpmaaW.PrintLast Go.Proofs.Ytfeebnbookfpmaa.ZOpen Go.Proofs.Ytfeebnbookfpmaa.PFnExactEventOk
set_option linter.unusedVariables false
set_option maxRecDepth 100000
/-- The one pure statement. -/
def Pure : Prop := ∀ (a0_0 : Int) (a0_1 : Int) (a0_2 : Int) (a0_3 : ByteArray), (okInt .i64) a0_0 → (okInt .i64) a0_1 → (okInt .i64) a0_2 → okStr a0_3 → ∃ k, laws_FnExactEventOk.f k a0_0 a0_1 a0_2 a0_3 = some true
end Go.Proofs.Ytfeebnbookfpmaa.SaidFnExactEventOk

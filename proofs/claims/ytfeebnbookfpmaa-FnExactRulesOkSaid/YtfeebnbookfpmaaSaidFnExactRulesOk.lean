/- What is left to prove of the statement FnExactRulesOk: numbers and lists alone; and that what came in is so made. -/
import Derived.Test.YtfeebnbookfpmaaPFnExactRulesOkx
import Derived.Test.YtfeebnbookfpmaaZOpen
namespace Go.Proofs.Ytfeebnbookfpmaa.SaidFnExactRulesOk
open Go.RowKit Go.Proofs.YtfeebnbookfpmaaW.PrintWords Go.Proofs.YtfeebnbookfpmaaW.PrintLast Go.Proofs.Ytfeebnbookfpmaa.ZOpen Go.Proofs.Ytfeebnbookfpmaa.PFnExactRulesOk
set_option linter.unusedVariables false
set_option maxRecDepth 100000
/-- The one pure statement. -/
def Pure : Prop := ∀ (a0_0 : Int) (a0_1 : (List Int)) (a0_2 : Bool) (a0_3 : Bool) (a0_4 : Int), (okInt .i64) a0_0 → (okList (okInt .i64)) a0_1 → (okInt .i64) a0_4 → ∃ k, laws_FnExactRulesOk.f k a0_0 a0_1 a0_2 a0_3 a0_4 = some true
end Go.Proofs.Ytfeebnbookfpmaa.SaidFnExactRulesOk

/- What is left to prove of the statement FnExactReadReply: numbers and lists alone; and that what came in is so made. -/
import Derived.Test.YtoaoncnbimcdgaaZgFnExactReadReplyn
import Derived.Test.YtoaoncnbimcdgaaZOpen
namespace Go.Proofs.Ytoaoncnbimcdgaa.SaidFnExactReadReply
open Go.RowKit Go.Proofs.YtoaoncnbimcdgaaW.PrintWords Go.Proofs.YtoaoncnbimcdgaaW.PrintLast Go.Proofs.Ytoaoncnbimcdgaa.ZOpen Go.Proofs.Ytoaoncnbimcdgaa.Z Go.Proofs.Ytoaoncnbimcdgaa.F
set_option linter.unusedVariables false
set_option maxRecDepth 100000
/-- The one pure statement. -/
def Pure : Prop := ∀ (a0 : ByteArray), okStr a0 → ∃ k, laws_FnExactReadReply.f k a0 = some true
end Go.Proofs.Ytoaoncnbimcdgaa.SaidFnExactReadReply

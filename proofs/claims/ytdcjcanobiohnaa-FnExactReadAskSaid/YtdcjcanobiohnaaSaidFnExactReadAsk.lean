/- What is left to prove of the statement FnExactReadAsk: numbers and lists alone; and that what came in is so made. -/
import Derived.Test.YtdcjcanobiohnaaZgFnExactReadAskh
import Derived.Test.YtdcjcanobiohnaaZOpen
namespace Go.Proofs.Ytdcjcanobiohnaa.SaidFnExactReadAsk
open Go.RowKit Go.Proofs.YtdcjcanobiohnaaW.PrintWords Go.Proofs.YtdcjcanobiohnaaW.PrintLast Go.Proofs.Ytdcjcanobiohnaa.ZOpen Go.Proofs.Ytdcjcanobiohnaa.Z Go.Proofs.Ytdcjcanobiohnaa.F
set_option linter.unusedVariables false
set_option maxRecDepth 100000
/-- The one pure statement. -/
def Pure : Prop := ∀ (a0 : ByteArray), okStr a0 → ∃ k, laws_FnExactReadAsk.f k a0 = some true
end Go.Proofs.Ytdcjcanobiohnaa.SaidFnExactReadAsk

/- What the law's own helpers do: they measure, copy, compare, mark. Plain lemmas, no condition. -/
import Derived.Test.YtfcpjeeeddjakaaGreatSaidFnAsks
import Derived.Test.YtfcpjeeeddjakaaGreatZMark
namespace Go.Proofs.YtfcpjeeeddjakaaGreat.FamFnAsks
open Go.RowKit YtfcpjeeeddjakaaGreatW.PrintWords YtfcpjeeeddjakaaGreatW.PrintLast ZOpen Z F
open SaidFnAsks ZP
set_option linter.unusedVariables false
set_option linter.unusedSimpArgs false
set_option maxRecDepth 100000
end Go.Proofs.YtfcpjeeeddjakaaGreat.FamFnAsks

/- What is left to prove of the statement FnPlans: numbers and lists alone; and that what came in is so made. -/
import Derived.Test.YtfcpjeeeddjakaaGreatZgFnPlansj
import Derived.Test.YtfcpjeeeddjakaaGreatZOpen
namespace Go.Proofs.YtfcpjeeeddjakaaGreat.SaidFnPlans
open Go.RowKit YtfcpjeeeddjakaaGreatW.PrintWords YtfcpjeeeddjakaaGreatW.PrintLast ZOpen Z F
set_option linter.unusedVariables false
set_option maxRecDepth 100000
def Pure:Prop:=∀(a0:(List Int)),(okList (okInt .u8)) a0→∃k,laws_FnPlans.f k a0=some true
end Go.Proofs.YtfcpjeeeddjakaaGreat.SaidFnPlans

/- What is left to prove of the statement FnExactReadCert: numbers and lists alone; and that what came in is so made. -/
import Derived.Test.YtoaoncnbimcdgaaDoorZgFnExactReadCertq
import Derived.Test.YtoaoncnbimcdgaaDoorZOpen
namespace Go.Proofs.YtoaoncnbimcdgaaDoor.SaidFnExactReadCert
open Go.RowKit Go.Proofs.YtoaoncnbimcdgaaDoorW.PrintWords Go.Proofs.YtoaoncnbimcdgaaDoorW.PrintLast Go.Proofs.YtoaoncnbimcdgaaDoor.ZOpen Go.Proofs.YtoaoncnbimcdgaaDoor.Z Go.Proofs.YtoaoncnbimcdgaaDoor.F
set_option linter.unusedVariables false
set_option maxRecDepth 100000
/-- The one pure statement. -/
def Pure : Prop := ∀ (a0 : ByteArray), okStr a0 → ∃ k, laws_FnExactReadCert.f k a0 = some true
end Go.Proofs.YtoaoncnbimcdgaaDoor.SaidFnExactReadCert

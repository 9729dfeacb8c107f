/- Loops that mark what was handed over or given back, and ask whether the marks stand, told once. Plain lemmas over lists; no program in sight. -/
import Derived.Test.YtfcpjeeeddjakaaGreatZPure
namespace Go.Proofs.YtfcpjeeeddjakaaGreat.ZP
open Go.RowKit
end Go.Proofs.YtfcpjeeeddjakaaGreat.ZP

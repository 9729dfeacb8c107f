/- Loops of the laws' own helpers, told once: what costs (sz..), what copies (to..), what compares (eq..). Plain lemmas over lists; no program in sight. -/
import Derived.Test.YtfcpjeeeddjakaaGreatW
namespace Go.Proofs.YtfcpjeeeddjakaaGreat.ZP
open Go.RowKit
theorem w64 {n:Int}(h0: -4611686018427387904≤n)(h1:n≤4611686018427387904):wrap64 n=n:=by unfold wrap64;omega
end Go.Proofs.YtfcpjeeeddjakaaGreat.ZP

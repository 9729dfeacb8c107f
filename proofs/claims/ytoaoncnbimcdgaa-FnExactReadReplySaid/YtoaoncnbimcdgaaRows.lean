/-
  No cell of these rows narrows 'for every input' (looked for: loops, veiled, ifaces, maps, wideKeys, modest, calm, conditions, laid).
  DERIVED. THE GIVEN ROWS OF THIS SEAT. 4 by the template 'for every input the law returns true; each argument reads behind the call as it read before'; 0 by the template 'total and deterministic' (their statements: YtoaoncnbimcdgaaTotals.lean).
  GIVEN WITH THE SEED: the statements are not yours to turn. If you find one false, say at which input.
  Laid BY PROGRAM, IN A SANDBOX (cutbox-rows.mjs): the forced cells as the released guide's own fill.sh prints them over the translation e0cb71119f9ee802… (all of the seat's roots in one cut). By AI agents, Wed Nov 11 2026. No macro, syntax, notation, axiom, sorry.
-/
import Derived.Test.YtoaoncnbimcdgaaChecked
import GoSem.Claim
import GoSem.ClaimJoined
import GoSem.ClaimMapViews
import Derived.JoinedTies
import Derived.KernelRfl
namespace Go.Proofs.Ytoaoncnbimcdgaa
/- THE CELL 'sum', in the pinned program and in every row, IS THE sha256 OF THE DUMP (.gsa) THAT YtoaoncnbimcdgaaProg.lean LOADS. Nothing in Lean hashes anything: it is a label: what it is worth is what the hold of that sum in a sandbox is worth. -/
noncomputable def Try.pinned : Pinned := { name := "ytoaoncnbimcdgaa", sum := "e0cb71119f9ee802ae14bc44e7a19f9d4faf30775ae04f0ec9c2a29fd69ea411", checked := Try.checked }
namespace Rows
def none {H : Type} : Left H := { results := [], args := [] }

/-- 'laws.FnExactTick': WHATEVER THE INPUT: true; the input reads as it did. -/
def fnExactTickSpec : ChangeSpec := { name := "fnExactTick", fn := fun _ => fun
  | [d1, d2] => { results := [.lit (.bool true)], args := [d1, d2] }
  | _ => none }
def fnExactTickRow : OpenClaim := { program := "ytoaoncnbimcdgaa", sum := "e0cb71119f9ee802ae14bc44e7a19f9d4faf30775ae04f0ec9c2a29fd69ea411", func := "loop.example/g00394/laws.FnExactTick", spec := "fnExactTick", apart := false }
def FnExactTickSaid : Prop := fnExactTickRow.holds Try.pinned (OpenSpec.ofChange fnExactTickSpec)

/-- ITS FALSE NEIGHBOUR: 'it returns false'. Refute it at one input. -/
def fnExactTickWrong : ChangeSpec := { name := "fnExactTick", fn := fun _ => fun
  | [d1, d2] => { results := [.lit (.bool false)], args := [d1, d2] }
  | _ => none }
def FnExactTickWrongFalsely : Prop := fnExactTickRow.holds Try.pinned (OpenSpec.ofChange fnExactTickWrong)

/-- 'laws.FnExactReadReply': WHATEVER THE INPUT: true; the input reads as it did. -/
def fnExactReadReplySpec : ChangeSpec := { name := "fnExactReadReply", fn := fun _ => fun
  | [d] => { results := [.lit (.bool true)], args := [d] }
  | _ => none }
def fnExactReadReplyRow : OpenClaim := { program := "ytoaoncnbimcdgaa", sum := "e0cb71119f9ee802ae14bc44e7a19f9d4faf30775ae04f0ec9c2a29fd69ea411", func := "loop.example/g00394/laws.FnExactReadReply", spec := "fnExactReadReply", unfollowed := true, recurses := true, apart := false }
def FnExactReadReplySaid : Prop := fnExactReadReplyRow.holds Try.pinned (OpenSpec.ofChange fnExactReadReplySpec)

/-- ITS FALSE NEIGHBOUR: 'it returns false'. Refute it at one input. -/
def fnExactReadReplyWrong : ChangeSpec := { name := "fnExactReadReply", fn := fun _ => fun
  | [d] => { results := [.lit (.bool false)], args := [d] }
  | _ => none }
def FnExactReadReplyWrongFalsely : Prop := fnExactReadReplyRow.holds Try.pinned (OpenSpec.ofChange fnExactReadReplyWrong)

/-- 'laws.FnExactTrusting': WHATEVER THE INPUT: true; the input reads as it did. -/
def fnExactTrustingSpec : ChangeSpec := { name := "fnExactTrusting", fn := fun _ => fun
  | [d1, d2] => { results := [.lit (.bool true)], args := [d1, d2] }
  | _ => none }
def fnExactTrustingRow : OpenClaim := { program := "ytoaoncnbimcdgaa", sum := "e0cb71119f9ee802ae14bc44e7a19f9d4faf30775ae04f0ec9c2a29fd69ea411", func := "loop.example/g00394/laws.FnExactTrusting", spec := "fnExactTrusting", apart := false }
def FnExactTrustingSaid : Prop := fnExactTrustingRow.holds Try.pinned (OpenSpec.ofChange fnExactTrustingSpec)

/-- ITS FALSE NEIGHBOUR: 'it returns false'. Refute it at one input. -/
def fnExactTrustingWrong : ChangeSpec := { name := "fnExactTrusting", fn := fun _ => fun
  | [d1, d2] => { results := [.lit (.bool false)], args := [d1, d2] }
  | _ => none }
def FnExactTrustingWrongFalsely : Prop := fnExactTrustingRow.holds Try.pinned (OpenSpec.ofChange fnExactTrustingWrong)

/-- 'laws.FnExactAskNow': WHATEVER THE INPUT: true; the input reads as it did. -/
def fnExactAskNowSpec : ChangeSpec := { name := "fnExactAskNow", fn := fun _ => fun
  | [d1, d2, d3, d4] => { results := [.lit (.bool true)], args := [d1, d2, d3, d4] }
  | _ => none }
def fnExactAskNowRow : OpenClaim := { program := "ytoaoncnbimcdgaa", sum := "e0cb71119f9ee802ae14bc44e7a19f9d4faf30775ae04f0ec9c2a29fd69ea411", func := "loop.example/g00394/laws.FnExactAskNow", spec := "fnExactAskNow", unfollowed := true, recurses := true, apart := false }
def FnExactAskNowSaid : Prop := fnExactAskNowRow.holds Try.pinned (OpenSpec.ofChange fnExactAskNowSpec)

/-- ITS FALSE NEIGHBOUR: 'it returns false'. Refute it at one input. -/
def fnExactAskNowWrong : ChangeSpec := { name := "fnExactAskNow", fn := fun _ => fun
  | [d1, d2, d3, d4] => { results := [.lit (.bool false)], args := [d1, d2, d3, d4] }
  | _ => none }
def FnExactAskNowWrongFalsely : Prop := fnExactAskNowRow.holds Try.pinned (OpenSpec.ofChange fnExactAskNowWrong)

/- THE SECOND FORM. 'bulk': how many values and letters a reading holds, each counted each time it is reached (what is shared counts as often as it is met; a slice's spare places count too). A statement '..UptoSaid' is the law's where the arguments, and the package variables that the reading takes, are together of bulk at most 1048576: NARROWER than '..Said'. Prove '..Said' where nothing that the law and all that it calls make is longer than what came in: it says more and counts as full. Else prove '..UptoSaid'. A law counts once. -/
mutual
def uptoBulk {H : Type} : DataW H → Nat
  | .lit (.string bytes) => bytes.length + 1
  | .lit _ => 1
  | .nil => 1
  | .ptr d => uptoBulk d + 1
  | .slice elems spare => uptoBulkAll elems + uptoBulkAll spare + 1
  | .agg parts => uptoBulkAll parts + 1
  | .iface _ d => uptoBulk d + 1
  | .map entries => uptoBulkEntries entries + 1
  | .held _ => 1
def uptoBulkAll {H : Type} : List (DataW H) → Nat
  | [] => 0
  | d :: r => uptoBulk d + uptoBulkAll r
def uptoBulkEntries {H : Type} : List (Lit × DataW H) → Nat
  | [] => 0
  | x :: r => uptoBulkEntry x + uptoBulkEntries r
def uptoBulkEntry {H : Type} : Lit × DataW H → Nat
  | (.string bytes, d) => bytes.length + uptoBulk d + 1
  | (_, d) => uptoBulk d + 1
 end
def uptoSmall : (H : Type) → List (DataW H) → Bool := fun _ ds => decide (uptoBulkAll ds ≤ 1048576)
def OpenSpec.upto (s : _root_.Go.ChangeSpec) : _root_.Go.OpenSpec := { _root_.Go.OpenSpec.ofChange s with cond := some uptoSmall }

/-- 'laws.FnExactTick', WHERE WHAT IT READS IS OF BULK AT MOST 1048576: true; the input reads as it did. -/
def fnExactTickUptoRow : OpenClaim := { program := "ytoaoncnbimcdgaa", sum := "e0cb71119f9ee802ae14bc44e7a19f9d4faf30775ae04f0ec9c2a29fd69ea411", func := "loop.example/g00394/laws.FnExactTick", spec := "fnExactTick", apart := false, narrowed := true }
def FnExactTickUptoSaid : Prop := fnExactTickUptoRow.holds Try.pinned (OpenSpec.upto fnExactTickSpec)

/-- 'laws.FnExactReadReply', WHERE WHAT IT READS IS OF BULK AT MOST 1048576: true; the input reads as it did. -/
def fnExactReadReplyUptoRow : OpenClaim := { program := "ytoaoncnbimcdgaa", sum := "e0cb71119f9ee802ae14bc44e7a19f9d4faf30775ae04f0ec9c2a29fd69ea411", func := "loop.example/g00394/laws.FnExactReadReply", spec := "fnExactReadReply", unfollowed := true, recurses := true, apart := false, narrowed := true }
def FnExactReadReplyUptoSaid : Prop := fnExactReadReplyUptoRow.holds Try.pinned (OpenSpec.upto fnExactReadReplySpec)

/-- 'laws.FnExactTrusting', WHERE WHAT IT READS IS OF BULK AT MOST 1048576: true; the input reads as it did. -/
def fnExactTrustingUptoRow : OpenClaim := { program := "ytoaoncnbimcdgaa", sum := "e0cb71119f9ee802ae14bc44e7a19f9d4faf30775ae04f0ec9c2a29fd69ea411", func := "loop.example/g00394/laws.FnExactTrusting", spec := "fnExactTrusting", apart := false, narrowed := true }
def FnExactTrustingUptoSaid : Prop := fnExactTrustingUptoRow.holds Try.pinned (OpenSpec.upto fnExactTrustingSpec)

/-- 'laws.FnExactAskNow', WHERE WHAT IT READS IS OF BULK AT MOST 1048576: true; the input reads as it did. -/
def fnExactAskNowUptoRow : OpenClaim := { program := "ytoaoncnbimcdgaa", sum := "e0cb71119f9ee802ae14bc44e7a19f9d4faf30775ae04f0ec9c2a29fd69ea411", func := "loop.example/g00394/laws.FnExactAskNow", spec := "fnExactAskNow", unfollowed := true, recurses := true, apart := false, narrowed := true }
def FnExactAskNowUptoSaid : Prop := fnExactAskNowUptoRow.holds Try.pinned (OpenSpec.upto fnExactAskNowSpec)

end Rows
end Go.Proofs.Ytoaoncnbimcdgaa

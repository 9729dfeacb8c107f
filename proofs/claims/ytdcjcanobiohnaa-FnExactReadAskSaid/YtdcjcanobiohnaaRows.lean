/-
  No cell of these rows narrows 'for every input' (looked for: loops, veiled, ifaces, maps, wideKeys, modest, calm, conditions, laid).
  DERIVED. THE GIVEN ROWS OF THIS SEAT. 7 by the template 'for every input the law returns true; each argument reads behind the call as it read before'; 0 by the template 'total and deterministic' (their statements: YtdcjcanobiohnaaTotals.lean).
  GIVEN WITH THE SEED: the statements are not yours to turn. If you find one false, say at which input.
  Laid BY PROGRAM, IN A SANDBOX (cutbox-rows.mjs): the forced cells as the released guide's own fill.sh prints them over the translation b9a6dfb32b02b4aa… (all of the seat's roots in one cut). By AI agents, Wed Nov 11 2026. No macro, syntax, notation, axiom, sorry.
-/
import Derived.Test.YtdcjcanobiohnaaChecked
import GoSem.Claim
import GoSem.ClaimJoined
import GoSem.ClaimMapViews
import Derived.JoinedTies
import Derived.KernelRfl
namespace Go.Proofs.Ytdcjcanobiohnaa
/- THE CELL 'sum', in the pinned program and in every row, IS THE sha256 OF THE DUMP (.gsa) THAT YtdcjcanobiohnaaProg.lean LOADS. Nothing in Lean hashes anything: it is a label: what it is worth is what the hold of that sum in a sandbox is worth. -/
noncomputable def Try.pinned : Pinned := { name := "ytdcjcanobiohnaa", sum := "b9a6dfb32b02b4aa07ff3735ff6897d61eb965096f4a40185348874640e92aa6", checked := Try.checked }
namespace Rows
def none {H : Type} : Left H := { results := [], args := [] }

/-- 'laws.FnExactStaysOf': WHATEVER THE INPUT: true; the input reads as it did. -/
def fnExactStaysOfSpec : ChangeSpec := { name := "fnExactStaysOf", fn := fun _ => fun
  | [d] => { results := [.lit (.bool true)], args := [d] }
  | _ => none }
def fnExactStaysOfRow : OpenClaim := { program := "ytdcjcanobiohnaa", sum := "b9a6dfb32b02b4aa07ff3735ff6897d61eb965096f4a40185348874640e92aa6", func := "loop.example/g00394/laws.FnExactStaysOf", spec := "fnExactStaysOf", unfollowed := true, recurses := true, apart := false }
def FnExactStaysOfSaid : Prop := fnExactStaysOfRow.holds Try.pinned (OpenSpec.ofChange fnExactStaysOfSpec)

/-- ITS FALSE NEIGHBOUR: 'it returns false'. Refute it at one input. -/
def fnExactStaysOfWrong : ChangeSpec := { name := "fnExactStaysOf", fn := fun _ => fun
  | [d] => { results := [.lit (.bool false)], args := [d] }
  | _ => none }
def FnExactStaysOfWrongFalsely : Prop := fnExactStaysOfRow.holds Try.pinned (OpenSpec.ofChange fnExactStaysOfWrong)

/-- 'laws.FnExactClientNew': WHATEVER THE INPUT: true; the input reads as it did. -/
def fnExactClientNewSpec : ChangeSpec := { name := "fnExactClientNew", fn := fun _ => fun
  | [d] => { results := [.lit (.bool true)], args := [d] }
  | _ => none }
def fnExactClientNewRow : OpenClaim := { program := "ytdcjcanobiohnaa", sum := "b9a6dfb32b02b4aa07ff3735ff6897d61eb965096f4a40185348874640e92aa6", func := "loop.example/g00394/laws.FnExactClientNew", spec := "fnExactClientNew", apart := false }
def FnExactClientNewSaid : Prop := fnExactClientNewRow.holds Try.pinned (OpenSpec.ofChange fnExactClientNewSpec)

/-- ITS FALSE NEIGHBOUR: 'it returns false'. Refute it at one input. -/
def fnExactClientNewWrong : ChangeSpec := { name := "fnExactClientNew", fn := fun _ => fun
  | [d] => { results := [.lit (.bool false)], args := [d] }
  | _ => none }
def FnExactClientNewWrongFalsely : Prop := fnExactClientNewRow.holds Try.pinned (OpenSpec.ofChange fnExactClientNewWrong)

/-- 'laws.FnExactReplyBody': WHATEVER THE INPUT: true; the input reads as it did. -/
def fnExactReplyBodySpec : ChangeSpec := { name := "fnExactReplyBody", fn := fun _ => fun
  | [d] => { results := [.lit (.bool true)], args := [d] }
  | _ => none }
def fnExactReplyBodyRow : OpenClaim := { program := "ytdcjcanobiohnaa", sum := "b9a6dfb32b02b4aa07ff3735ff6897d61eb965096f4a40185348874640e92aa6", func := "loop.example/g00394/laws.FnExactReplyBody", spec := "fnExactReplyBody", unfollowed := true, recurses := true, apart := false }
def FnExactReplyBodySaid : Prop := fnExactReplyBodyRow.holds Try.pinned (OpenSpec.ofChange fnExactReplyBodySpec)

/-- ITS FALSE NEIGHBOUR: 'it returns false'. Refute it at one input. -/
def fnExactReplyBodyWrong : ChangeSpec := { name := "fnExactReplyBody", fn := fun _ => fun
  | [d] => { results := [.lit (.bool false)], args := [d] }
  | _ => none }
def FnExactReplyBodyWrongFalsely : Prop := fnExactReplyBodyRow.holds Try.pinned (OpenSpec.ofChange fnExactReplyBodyWrong)

/-- 'laws.FnExactReplyText': WHATEVER THE INPUT: true; the input reads as it did. -/
def fnExactReplyTextSpec : ChangeSpec := { name := "fnExactReplyText", fn := fun _ => fun
  | [d] => { results := [.lit (.bool true)], args := [d] }
  | _ => none }
def fnExactReplyTextRow : OpenClaim := { program := "ytdcjcanobiohnaa", sum := "b9a6dfb32b02b4aa07ff3735ff6897d61eb965096f4a40185348874640e92aa6", func := "loop.example/g00394/laws.FnExactReplyText", spec := "fnExactReplyText", unfollowed := true, recurses := true, apart := false }
def FnExactReplyTextSaid : Prop := fnExactReplyTextRow.holds Try.pinned (OpenSpec.ofChange fnExactReplyTextSpec)

/-- ITS FALSE NEIGHBOUR: 'it returns false'. Refute it at one input. -/
def fnExactReplyTextWrong : ChangeSpec := { name := "fnExactReplyText", fn := fun _ => fun
  | [d] => { results := [.lit (.bool false)], args := [d] }
  | _ => none }
def FnExactReplyTextWrongFalsely : Prop := fnExactReplyTextRow.holds Try.pinned (OpenSpec.ofChange fnExactReplyTextWrong)

/-- 'laws.FnExactGotOf': WHATEVER THE INPUT: true; the input reads as it did. -/
def fnExactGotOfSpec : ChangeSpec := { name := "fnExactGotOf", fn := fun _ => fun
  | [d1, d2] => { results := [.lit (.bool true)], args := [d1, d2] }
  | _ => none }
def fnExactGotOfRow : OpenClaim := { program := "ytdcjcanobiohnaa", sum := "b9a6dfb32b02b4aa07ff3735ff6897d61eb965096f4a40185348874640e92aa6", func := "loop.example/g00394/laws.FnExactGotOf", spec := "fnExactGotOf", apart := false }
def FnExactGotOfSaid : Prop := fnExactGotOfRow.holds Try.pinned (OpenSpec.ofChange fnExactGotOfSpec)

/-- ITS FALSE NEIGHBOUR: 'it returns false'. Refute it at one input. -/
def fnExactGotOfWrong : ChangeSpec := { name := "fnExactGotOf", fn := fun _ => fun
  | [d1, d2] => { results := [.lit (.bool false)], args := [d1, d2] }
  | _ => none }
def FnExactGotOfWrongFalsely : Prop := fnExactGotOfRow.holds Try.pinned (OpenSpec.ofChange fnExactGotOfWrong)

/-- 'laws.FnExactReadAsk': WHATEVER THE INPUT: true; the input reads as it did. -/
def fnExactReadAskSpec : ChangeSpec := { name := "fnExactReadAsk", fn := fun _ => fun
  | [d] => { results := [.lit (.bool true)], args := [d] }
  | _ => none }
def fnExactReadAskRow : OpenClaim := { program := "ytdcjcanobiohnaa", sum := "b9a6dfb32b02b4aa07ff3735ff6897d61eb965096f4a40185348874640e92aa6", func := "loop.example/g00394/laws.FnExactReadAsk", spec := "fnExactReadAsk", unfollowed := true, recurses := true, apart := false }
def FnExactReadAskSaid : Prop := fnExactReadAskRow.holds Try.pinned (OpenSpec.ofChange fnExactReadAskSpec)

/-- ITS FALSE NEIGHBOUR: 'it returns false'. Refute it at one input. -/
def fnExactReadAskWrong : ChangeSpec := { name := "fnExactReadAsk", fn := fun _ => fun
  | [d] => { results := [.lit (.bool false)], args := [d] }
  | _ => none }
def FnExactReadAskWrongFalsely : Prop := fnExactReadAskRow.holds Try.pinned (OpenSpec.ofChange fnExactReadAskWrong)

/-- 'laws.FnExactPlansOk': WHATEVER THE INPUT: true; the input reads as it did. -/
def fnExactPlansOkSpec : ChangeSpec := { name := "fnExactPlansOk", fn := fun _ => fun
  | [d1, d2] => { results := [.lit (.bool true)], args := [d1, d2] }
  | _ => none }
def fnExactPlansOkRow : OpenClaim := { program := "ytdcjcanobiohnaa", sum := "b9a6dfb32b02b4aa07ff3735ff6897d61eb965096f4a40185348874640e92aa6", func := "loop.example/g00394/laws.FnExactPlansOk", spec := "fnExactPlansOk", apart := false }
def FnExactPlansOkSaid : Prop := fnExactPlansOkRow.holds Try.pinned (OpenSpec.ofChange fnExactPlansOkSpec)

/-- ITS FALSE NEIGHBOUR: 'it returns false'. Refute it at one input. -/
def fnExactPlansOkWrong : ChangeSpec := { name := "fnExactPlansOk", fn := fun _ => fun
  | [d1, d2] => { results := [.lit (.bool false)], args := [d1, d2] }
  | _ => none }
def FnExactPlansOkWrongFalsely : Prop := fnExactPlansOkRow.holds Try.pinned (OpenSpec.ofChange fnExactPlansOkWrong)

/- THE SECOND FORM. 'bulk': how many values and letters a reading holds, each counted each time it is reached (what is shared counts as often as it is met; a slice's spare places count too). A statement '..UptoSaid' is the law's where the arguments, and the package variables that the reading takes, are together of bulk at most 1048576: NARROWER than '..Said'. Prove '..Said' where nothing that the law and all that it calls make is longer than what came in: it says more and counts as full. Else prove '..UptoSaid'. A law counts once. -/
mutual
def uptoBulk {H : Type} : DataW H → Nat
  | .lit (.string bytes) => bytes.length + 1
  | .lit _ => 1
  | .nil => 1
  | .ptr d => uptoBulk d + 1
  | .slice elems spare => uptoBulkAll elems + uptoBulkAll spare + 1
  | .agg parts => uptoBulkAll parts + 1
  | .iface _ d => uptoBulk d + 1
  | .map entries => uptoBulkEntries entries + 1
  | .held _ => 1
def uptoBulkAll {H : Type} : List (DataW H) → Nat
  | [] => 0
  | d :: r => uptoBulk d + uptoBulkAll r
def uptoBulkEntries {H : Type} : List (Lit × DataW H) → Nat
  | [] => 0
  | x :: r => uptoBulkEntry x + uptoBulkEntries r
def uptoBulkEntry {H : Type} : Lit × DataW H → Nat
  | (.string bytes, d) => bytes.length + uptoBulk d + 1
  | (_, d) => uptoBulk d + 1
 end
def uptoSmall : (H : Type) → List (DataW H) → Bool := fun _ ds => decide (uptoBulkAll ds ≤ 1048576)
def OpenSpec.upto (s : _root_.Go.ChangeSpec) : _root_.Go.OpenSpec := { _root_.Go.OpenSpec.ofChange s with cond := some uptoSmall }

/-- 'laws.FnExactStaysOf', WHERE WHAT IT READS IS OF BULK AT MOST 1048576: true; the input reads as it did. -/
def fnExactStaysOfUptoRow : OpenClaim := { program := "ytdcjcanobiohnaa", sum := "b9a6dfb32b02b4aa07ff3735ff6897d61eb965096f4a40185348874640e92aa6", func := "loop.example/g00394/laws.FnExactStaysOf", spec := "fnExactStaysOf", unfollowed := true, recurses := true, apart := false, narrowed := true }
def FnExactStaysOfUptoSaid : Prop := fnExactStaysOfUptoRow.holds Try.pinned (OpenSpec.upto fnExactStaysOfSpec)

/-- 'laws.FnExactClientNew', WHERE WHAT IT READS IS OF BULK AT MOST 1048576: true; the input reads as it did. -/
def fnExactClientNewUptoRow : OpenClaim := { program := "ytdcjcanobiohnaa", sum := "b9a6dfb32b02b4aa07ff3735ff6897d61eb965096f4a40185348874640e92aa6", func := "loop.example/g00394/laws.FnExactClientNew", spec := "fnExactClientNew", apart := false, narrowed := true }
def FnExactClientNewUptoSaid : Prop := fnExactClientNewUptoRow.holds Try.pinned (OpenSpec.upto fnExactClientNewSpec)

/-- 'laws.FnExactReplyBody', WHERE WHAT IT READS IS OF BULK AT MOST 1048576: true; the input reads as it did. -/
def fnExactReplyBodyUptoRow : OpenClaim := { program := "ytdcjcanobiohnaa", sum := "b9a6dfb32b02b4aa07ff3735ff6897d61eb965096f4a40185348874640e92aa6", func := "loop.example/g00394/laws.FnExactReplyBody", spec := "fnExactReplyBody", unfollowed := true, recurses := true, apart := false, narrowed := true }
def FnExactReplyBodyUptoSaid : Prop := fnExactReplyBodyUptoRow.holds Try.pinned (OpenSpec.upto fnExactReplyBodySpec)

/-- 'laws.FnExactReplyText', WHERE WHAT IT READS IS OF BULK AT MOST 1048576: true; the input reads as it did. -/
def fnExactReplyTextUptoRow : OpenClaim := { program := "ytdcjcanobiohnaa", sum := "b9a6dfb32b02b4aa07ff3735ff6897d61eb965096f4a40185348874640e92aa6", func := "loop.example/g00394/laws.FnExactReplyText", spec := "fnExactReplyText", unfollowed := true, recurses := true, apart := false, narrowed := true }
def FnExactReplyTextUptoSaid : Prop := fnExactReplyTextUptoRow.holds Try.pinned (OpenSpec.upto fnExactReplyTextSpec)

/-- 'laws.FnExactGotOf', WHERE WHAT IT READS IS OF BULK AT MOST 1048576: true; the input reads as it did. -/
def fnExactGotOfUptoRow : OpenClaim := { program := "ytdcjcanobiohnaa", sum := "b9a6dfb32b02b4aa07ff3735ff6897d61eb965096f4a40185348874640e92aa6", func := "loop.example/g00394/laws.FnExactGotOf", spec := "fnExactGotOf", apart := false, narrowed := true }
def FnExactGotOfUptoSaid : Prop := fnExactGotOfUptoRow.holds Try.pinned (OpenSpec.upto fnExactGotOfSpec)

/-- 'laws.FnExactReadAsk', WHERE WHAT IT READS IS OF BULK AT MOST 1048576: true; the input reads as it did. -/
def fnExactReadAskUptoRow : OpenClaim := { program := "ytdcjcanobiohnaa", sum := "b9a6dfb32b02b4aa07ff3735ff6897d61eb965096f4a40185348874640e92aa6", func := "loop.example/g00394/laws.FnExactReadAsk", spec := "fnExactReadAsk", unfollowed := true, recurses := true, apart := false, narrowed := true }
def FnExactReadAskUptoSaid : Prop := fnExactReadAskUptoRow.holds Try.pinned (OpenSpec.upto fnExactReadAskSpec)

/-- 'laws.FnExactPlansOk', WHERE WHAT IT READS IS OF BULK AT MOST 1048576: true; the input reads as it did. -/
def fnExactPlansOkUptoRow : OpenClaim := { program := "ytdcjcanobiohnaa", sum := "b9a6dfb32b02b4aa07ff3735ff6897d61eb965096f4a40185348874640e92aa6", func := "loop.example/g00394/laws.FnExactPlansOk", spec := "fnExactPlansOk", apart := false, narrowed := true }
def FnExactPlansOkUptoSaid : Prop := fnExactPlansOkUptoRow.holds Try.pinned (OpenSpec.upto fnExactPlansOkSpec)

end Rows
end Go.Proofs.Ytdcjcanobiohnaa

/-
  No cell of these rows narrows 'for every input' (looked for: loops, veiled, ifaces, maps, wideKeys, modest, calm, conditions, laid).
  DERIVED. THE GIVEN ROWS OF THIS SEAT. 12 by the template 'for every input the law returns true; each argument reads behind the call as it read before'; 0 by the template 'total and deterministic' (their statements: YtfeebnbookfpmaaTotals.lean).
  GIVEN WITH THE SEED: the statements are not yours to turn. If you find one false, say at which input.
  Laid BY PROGRAM, IN A SANDBOX (cutbox-rows.mjs): the forced cells as the released guide's own fill.sh prints them over the translation cc437790c6eef444… (all of the seat's roots in one cut). By AI agents, Wed Nov 11 2026. No macro, syntax, notation, axiom, sorry.
-/
import Derived.Test.YtfeebnbookfpmaaChecked
import GoSem.Claim
import GoSem.ClaimJoined
import GoSem.ClaimMapViews
import Derived.JoinedTies
import Derived.KernelRfl
namespace Go.Proofs.Ytfeebnbookfpmaa
/- THE CELL 'sum', in the pinned program and in every row, IS THE sha256 OF THE DUMP (.gsa) THAT YtfeebnbookfpmaaProg.lean LOADS. Nothing in Lean hashes anything: it is a label: what it is worth is what the hold of that sum in a sandbox is worth. -/
noncomputable def Try.pinned : Pinned := { name := "ytfeebnbookfpmaa", sum := "cc437790c6eef444c0bfd6fe57964625430f664791896e9f6a2f2c7c721a8d2b", checked := Try.checked }
namespace Rows
def none {H : Type} : Left H := { results := [], args := [] }

/-- 'laws.FnExactEventOk': WHATEVER THE INPUT: true; the input reads as it did. -/
def fnExactEventOkSpec : ChangeSpec := { name := "fnExactEventOk", fn := fun _ => fun
  | [d] => { results := [.lit (.bool true)], args := [d] }
  | _ => none }
def fnExactEventOkRow : OpenClaim := { program := "ytfeebnbookfpmaa", sum := "cc437790c6eef444c0bfd6fe57964625430f664791896e9f6a2f2c7c721a8d2b", func := "loop.example/g00394/laws.FnExactEventOk", spec := "fnExactEventOk", apart := false }
def FnExactEventOkSaid : Prop := fnExactEventOkRow.holds Try.pinned (OpenSpec.ofChange fnExactEventOkSpec)

/-- ITS FALSE NEIGHBOUR: 'it returns false'. Refute it at one input. -/
def fnExactEventOkWrong : ChangeSpec := { name := "fnExactEventOk", fn := fun _ => fun
  | [d] => { results := [.lit (.bool false)], args := [d] }
  | _ => none }
def FnExactEventOkWrongFalsely : Prop := fnExactEventOkRow.holds Try.pinned (OpenSpec.ofChange fnExactEventOkWrong)

/-- 'laws.FnExactRulesOk': WHATEVER THE INPUT: true; the input reads as it did. -/
def fnExactRulesOkSpec : ChangeSpec := { name := "fnExactRulesOk", fn := fun _ => fun
  | [d] => { results := [.lit (.bool true)], args := [d] }
  | _ => none }
def fnExactRulesOkRow : OpenClaim := { program := "ytfeebnbookfpmaa", sum := "cc437790c6eef444c0bfd6fe57964625430f664791896e9f6a2f2c7c721a8d2b", func := "loop.example/g00394/laws.FnExactRulesOk", spec := "fnExactRulesOk", apart := false }
def FnExactRulesOkSaid : Prop := fnExactRulesOkRow.holds Try.pinned (OpenSpec.ofChange fnExactRulesOkSpec)

/-- ITS FALSE NEIGHBOUR: 'it returns false'. Refute it at one input. -/
def fnExactRulesOkWrong : ChangeSpec := { name := "fnExactRulesOk", fn := fun _ => fun
  | [d] => { results := [.lit (.bool false)], args := [d] }
  | _ => none }
def FnExactRulesOkWrongFalsely : Prop := fnExactRulesOkRow.holds Try.pinned (OpenSpec.ofChange fnExactRulesOkWrong)

/-- 'laws.FnExactAskOk': WHATEVER THE INPUT: true; the input reads as it did. -/
def fnExactAskOkSpec : ChangeSpec := { name := "fnExactAskOk", fn := fun _ => fun
  | [d] => { results := [.lit (.bool true)], args := [d] }
  | _ => none }
def fnExactAskOkRow : OpenClaim := { program := "ytfeebnbookfpmaa", sum := "cc437790c6eef444c0bfd6fe57964625430f664791896e9f6a2f2c7c721a8d2b", func := "loop.example/g00394/laws.FnExactAskOk", spec := "fnExactAskOk", unfollowed := true, recurses := true, apart := false }
def FnExactAskOkSaid : Prop := fnExactAskOkRow.holds Try.pinned (OpenSpec.ofChange fnExactAskOkSpec)

/-- ITS FALSE NEIGHBOUR: 'it returns false'. Refute it at one input. -/
def fnExactAskOkWrong : ChangeSpec := { name := "fnExactAskOk", fn := fun _ => fun
  | [d] => { results := [.lit (.bool false)], args := [d] }
  | _ => none }
def FnExactAskOkWrongFalsely : Prop := fnExactAskOkRow.holds Try.pinned (OpenSpec.ofChange fnExactAskOkWrong)

/-- 'laws.FnExactListed': WHATEVER THE INPUT: true; the input reads as it did. -/
def fnExactListedSpec : ChangeSpec := { name := "fnExactListed", fn := fun _ => fun
  | [d1, d2] => { results := [.lit (.bool true)], args := [d1, d2] }
  | _ => none }
def fnExactListedRow : OpenClaim := { program := "ytfeebnbookfpmaa", sum := "cc437790c6eef444c0bfd6fe57964625430f664791896e9f6a2f2c7c721a8d2b", func := "loop.example/g00394/laws.FnExactListed", spec := "fnExactListed", apart := false }
def FnExactListedSaid : Prop := fnExactListedRow.holds Try.pinned (OpenSpec.ofChange fnExactListedSpec)

/-- ITS FALSE NEIGHBOUR: 'it returns false'. Refute it at one input. -/
def fnExactListedWrong : ChangeSpec := { name := "fnExactListed", fn := fun _ => fun
  | [d1, d2] => { results := [.lit (.bool false)], args := [d1, d2] }
  | _ => none }
def FnExactListedWrongFalsely : Prop := fnExactListedRow.holds Try.pinned (OpenSpec.ofChange fnExactListedWrong)

/-- 'laws.FnExactPlanAt': WHATEVER THE INPUT: true; the input reads as it did. -/
def fnExactPlanAtSpec : ChangeSpec := { name := "fnExactPlanAt", fn := fun _ => fun
  | [d1, d2] => { results := [.lit (.bool true)], args := [d1, d2] }
  | _ => none }
def fnExactPlanAtRow : OpenClaim := { program := "ytfeebnbookfpmaa", sum := "cc437790c6eef444c0bfd6fe57964625430f664791896e9f6a2f2c7c721a8d2b", func := "loop.example/g00394/laws.FnExactPlanAt", spec := "fnExactPlanAt", unfollowed := true, recurses := true, apart := false }
def FnExactPlanAtSaid : Prop := fnExactPlanAtRow.holds Try.pinned (OpenSpec.ofChange fnExactPlanAtSpec)

/-- ITS FALSE NEIGHBOUR: 'it returns false'. Refute it at one input. -/
def fnExactPlanAtWrong : ChangeSpec := { name := "fnExactPlanAt", fn := fun _ => fun
  | [d1, d2] => { results := [.lit (.bool false)], args := [d1, d2] }
  | _ => none }
def FnExactPlanAtWrongFalsely : Prop := fnExactPlanAtRow.holds Try.pinned (OpenSpec.ofChange fnExactPlanAtWrong)

/-- 'laws.FnExactSameAnswers': WHATEVER THE INPUT: true; the input reads as it did. -/
def fnExactSameAnswersSpec : ChangeSpec := { name := "fnExactSameAnswers", fn := fun _ => fun
  | [d1, d2] => { results := [.lit (.bool true)], args := [d1, d2] }
  | _ => none }
def fnExactSameAnswersRow : OpenClaim := { program := "ytfeebnbookfpmaa", sum := "cc437790c6eef444c0bfd6fe57964625430f664791896e9f6a2f2c7c721a8d2b", func := "loop.example/g00394/laws.FnExactSameAnswers", spec := "fnExactSameAnswers", unfollowed := true, recurses := true, apart := false }
def FnExactSameAnswersSaid : Prop := fnExactSameAnswersRow.holds Try.pinned (OpenSpec.ofChange fnExactSameAnswersSpec)

/-- ITS FALSE NEIGHBOUR: 'it returns false'. Refute it at one input. -/
def fnExactSameAnswersWrong : ChangeSpec := { name := "fnExactSameAnswers", fn := fun _ => fun
  | [d1, d2] => { results := [.lit (.bool false)], args := [d1, d2] }
  | _ => none }
def FnExactSameAnswersWrongFalsely : Prop := fnExactSameAnswersRow.holds Try.pinned (OpenSpec.ofChange fnExactSameAnswersWrong)

/-- 'laws.FnExactReplyOk': WHATEVER THE INPUT: true; the input reads as it did. -/
def fnExactReplyOkSpec : ChangeSpec := { name := "fnExactReplyOk", fn := fun _ => fun
  | [d] => { results := [.lit (.bool true)], args := [d] }
  | _ => none }
def fnExactReplyOkRow : OpenClaim := { program := "ytfeebnbookfpmaa", sum := "cc437790c6eef444c0bfd6fe57964625430f664791896e9f6a2f2c7c721a8d2b", func := "loop.example/g00394/laws.FnExactReplyOk", spec := "fnExactReplyOk", unfollowed := true, recurses := true, apart := false }
def FnExactReplyOkSaid : Prop := fnExactReplyOkRow.holds Try.pinned (OpenSpec.ofChange fnExactReplyOkSpec)

/-- ITS FALSE NEIGHBOUR: 'it returns false'. Refute it at one input. -/
def fnExactReplyOkWrong : ChangeSpec := { name := "fnExactReplyOk", fn := fun _ => fun
  | [d] => { results := [.lit (.bool false)], args := [d] }
  | _ => none }
def FnExactReplyOkWrongFalsely : Prop := fnExactReplyOkRow.holds Try.pinned (OpenSpec.ofChange fnExactReplyOkWrong)

/-- 'laws.FnExactWholeOf': WHATEVER THE INPUT: true; the input reads as it did. -/
def fnExactWholeOfSpec : ChangeSpec := { name := "fnExactWholeOf", fn := fun _ => fun
  | [d] => { results := [.lit (.bool true)], args := [d] }
  | _ => none }
def fnExactWholeOfRow : OpenClaim := { program := "ytfeebnbookfpmaa", sum := "cc437790c6eef444c0bfd6fe57964625430f664791896e9f6a2f2c7c721a8d2b", func := "loop.example/g00394/laws.FnExactWholeOf", spec := "fnExactWholeOf", unfollowed := true, recurses := true, apart := false }
def FnExactWholeOfSaid : Prop := fnExactWholeOfRow.holds Try.pinned (OpenSpec.ofChange fnExactWholeOfSpec)

/-- ITS FALSE NEIGHBOUR: 'it returns false'. Refute it at one input. -/
def fnExactWholeOfWrong : ChangeSpec := { name := "fnExactWholeOf", fn := fun _ => fun
  | [d] => { results := [.lit (.bool false)], args := [d] }
  | _ => none }
def FnExactWholeOfWrongFalsely : Prop := fnExactWholeOfRow.holds Try.pinned (OpenSpec.ofChange fnExactWholeOfWrong)

/-- 'laws.FnExactDeltaOf': WHATEVER THE INPUT: true; the input reads as it did. -/
def fnExactDeltaOfSpec : ChangeSpec := { name := "fnExactDeltaOf", fn := fun _ => fun
  | [d1, d2] => { results := [.lit (.bool true)], args := [d1, d2] }
  | _ => none }
def fnExactDeltaOfRow : OpenClaim := { program := "ytfeebnbookfpmaa", sum := "cc437790c6eef444c0bfd6fe57964625430f664791896e9f6a2f2c7c721a8d2b", func := "loop.example/g00394/laws.FnExactDeltaOf", spec := "fnExactDeltaOf", unfollowed := true, recurses := true, apart := false }
def FnExactDeltaOfSaid : Prop := fnExactDeltaOfRow.holds Try.pinned (OpenSpec.ofChange fnExactDeltaOfSpec)

/-- ITS FALSE NEIGHBOUR: 'it returns false'. Refute it at one input. -/
def fnExactDeltaOfWrong : ChangeSpec := { name := "fnExactDeltaOf", fn := fun _ => fun
  | [d1, d2] => { results := [.lit (.bool false)], args := [d1, d2] }
  | _ => none }
def FnExactDeltaOfWrongFalsely : Prop := fnExactDeltaOfRow.holds Try.pinned (OpenSpec.ofChange fnExactDeltaOfWrong)

/-- 'laws.FnExactMerged': WHATEVER THE INPUT: true; the input reads as it did. -/
def fnExactMergedSpec : ChangeSpec := { name := "fnExactMerged", fn := fun _ => fun
  | [d1, d2, d3] => { results := [.lit (.bool true)], args := [d1, d2, d3] }
  | _ => none }
def fnExactMergedRow : OpenClaim := { program := "ytfeebnbookfpmaa", sum := "cc437790c6eef444c0bfd6fe57964625430f664791896e9f6a2f2c7c721a8d2b", func := "loop.example/g00394/laws.FnExactMerged", spec := "fnExactMerged", apart := false }
def FnExactMergedSaid : Prop := fnExactMergedRow.holds Try.pinned (OpenSpec.ofChange fnExactMergedSpec)

/-- ITS FALSE NEIGHBOUR: 'it returns false'. Refute it at one input. -/
def fnExactMergedWrong : ChangeSpec := { name := "fnExactMerged", fn := fun _ => fun
  | [d1, d2, d3] => { results := [.lit (.bool false)], args := [d1, d2, d3] }
  | _ => none }
def FnExactMergedWrongFalsely : Prop := fnExactMergedRow.holds Try.pinned (OpenSpec.ofChange fnExactMergedWrong)

/-- 'laws.FnExactCrlBody': WHATEVER THE INPUT: true; the input reads as it did. -/
def fnExactCrlBodySpec : ChangeSpec := { name := "fnExactCrlBody", fn := fun _ => fun
  | [d] => { results := [.lit (.bool true)], args := [d] }
  | _ => none }
def fnExactCrlBodyRow : OpenClaim := { program := "ytfeebnbookfpmaa", sum := "cc437790c6eef444c0bfd6fe57964625430f664791896e9f6a2f2c7c721a8d2b", func := "loop.example/g00394/laws.FnExactCrlBody", spec := "fnExactCrlBody", unfollowed := true, recurses := true, apart := false }
def FnExactCrlBodySaid : Prop := fnExactCrlBodyRow.holds Try.pinned (OpenSpec.ofChange fnExactCrlBodySpec)

/-- ITS FALSE NEIGHBOUR: 'it returns false'. Refute it at one input. -/
def fnExactCrlBodyWrong : ChangeSpec := { name := "fnExactCrlBody", fn := fun _ => fun
  | [d] => { results := [.lit (.bool false)], args := [d] }
  | _ => none }
def FnExactCrlBodyWrongFalsely : Prop := fnExactCrlBodyRow.holds Try.pinned (OpenSpec.ofChange fnExactCrlBodyWrong)

/-- 'laws.FnExactAskText': WHATEVER THE INPUT: true; the input reads as it did. -/
def fnExactAskTextSpec : ChangeSpec := { name := "fnExactAskText", fn := fun _ => fun
  | [d] => { results := [.lit (.bool true)], args := [d] }
  | _ => none }
def fnExactAskTextRow : OpenClaim := { program := "ytfeebnbookfpmaa", sum := "cc437790c6eef444c0bfd6fe57964625430f664791896e9f6a2f2c7c721a8d2b", func := "loop.example/g00394/laws.FnExactAskText", spec := "fnExactAskText", unfollowed := true, recurses := true, apart := false }
def FnExactAskTextSaid : Prop := fnExactAskTextRow.holds Try.pinned (OpenSpec.ofChange fnExactAskTextSpec)

/-- ITS FALSE NEIGHBOUR: 'it returns false'. Refute it at one input. -/
def fnExactAskTextWrong : ChangeSpec := { name := "fnExactAskText", fn := fun _ => fun
  | [d] => { results := [.lit (.bool false)], args := [d] }
  | _ => none }
def FnExactAskTextWrongFalsely : Prop := fnExactAskTextRow.holds Try.pinned (OpenSpec.ofChange fnExactAskTextWrong)

/- THE SECOND FORM. 'bulk': how many values and letters a reading holds, each counted each time it is reached (what is shared counts as often as it is met; a slice's spare places count too). A statement '..UptoSaid' is the law's where the arguments, and the package variables that the reading takes, are together of bulk at most 1048576: NARROWER than '..Said'. Prove '..Said' where nothing that the law and all that it calls make is longer than what came in: it says more and counts as full. Else prove '..UptoSaid'. A law counts once. -/
mutual
def uptoBulk {H : Type} : DataW H → Nat
  | .lit (.string bytes) => bytes.length + 1
  | .lit _ => 1
  | .nil => 1
  | .ptr d => uptoBulk d + 1
  | .slice elems spare => uptoBulkAll elems + uptoBulkAll spare + 1
  | .agg parts => uptoBulkAll parts + 1
  | .iface _ d => uptoBulk d + 1
  | .map entries => uptoBulkEntries entries + 1
  | .held _ => 1
def uptoBulkAll {H : Type} : List (DataW H) → Nat
  | [] => 0
  | d :: r => uptoBulk d + uptoBulkAll r
def uptoBulkEntries {H : Type} : List (Lit × DataW H) → Nat
  | [] => 0
  | x :: r => uptoBulkEntry x + uptoBulkEntries r
def uptoBulkEntry {H : Type} : Lit × DataW H → Nat
  | (.string bytes, d) => bytes.length + uptoBulk d + 1
  | (_, d) => uptoBulk d + 1
 end
def uptoSmall : (H : Type) → List (DataW H) → Bool := fun _ ds => decide (uptoBulkAll ds ≤ 1048576)
def OpenSpec.upto (s : _root_.Go.ChangeSpec) : _root_.Go.OpenSpec := { _root_.Go.OpenSpec.ofChange s with cond := some uptoSmall }

/-- 'laws.FnExactEventOk', WHERE WHAT IT READS IS OF BULK AT MOST 1048576: true; the input reads as it did. -/
def fnExactEventOkUptoRow : OpenClaim := { program := "ytfeebnbookfpmaa", sum := "cc437790c6eef444c0bfd6fe57964625430f664791896e9f6a2f2c7c721a8d2b", func := "loop.example/g00394/laws.FnExactEventOk", spec := "fnExactEventOk", apart := false, narrowed := true }
def FnExactEventOkUptoSaid : Prop := fnExactEventOkUptoRow.holds Try.pinned (OpenSpec.upto fnExactEventOkSpec)

/-- 'laws.FnExactRulesOk', WHERE WHAT IT READS IS OF BULK AT MOST 1048576: true; the input reads as it did. -/
def fnExactRulesOkUptoRow : OpenClaim := { program := "ytfeebnbookfpmaa", sum := "cc437790c6eef444c0bfd6fe57964625430f664791896e9f6a2f2c7c721a8d2b", func := "loop.example/g00394/laws.FnExactRulesOk", spec := "fnExactRulesOk", apart := false, narrowed := true }
def FnExactRulesOkUptoSaid : Prop := fnExactRulesOkUptoRow.holds Try.pinned (OpenSpec.upto fnExactRulesOkSpec)

/-- 'laws.FnExactAskOk', WHERE WHAT IT READS IS OF BULK AT MOST 1048576: true; the input reads as it did. -/
def fnExactAskOkUptoRow : OpenClaim := { program := "ytfeebnbookfpmaa", sum := "cc437790c6eef444c0bfd6fe57964625430f664791896e9f6a2f2c7c721a8d2b", func := "loop.example/g00394/laws.FnExactAskOk", spec := "fnExactAskOk", unfollowed := true, recurses := true, apart := false, narrowed := true }
def FnExactAskOkUptoSaid : Prop := fnExactAskOkUptoRow.holds Try.pinned (OpenSpec.upto fnExactAskOkSpec)

/-- 'laws.FnExactListed', WHERE WHAT IT READS IS OF BULK AT MOST 1048576: true; the input reads as it did. -/
def fnExactListedUptoRow : OpenClaim := { program := "ytfeebnbookfpmaa", sum := "cc437790c6eef444c0bfd6fe57964625430f664791896e9f6a2f2c7c721a8d2b", func := "loop.example/g00394/laws.FnExactListed", spec := "fnExactListed", apart := false, narrowed := true }
def FnExactListedUptoSaid : Prop := fnExactListedUptoRow.holds Try.pinned (OpenSpec.upto fnExactListedSpec)

/-- 'laws.FnExactPlanAt', WHERE WHAT IT READS IS OF BULK AT MOST 1048576: true; the input reads as it did. -/
def fnExactPlanAtUptoRow : OpenClaim := { program := "ytfeebnbookfpmaa", sum := "cc437790c6eef444c0bfd6fe57964625430f664791896e9f6a2f2c7c721a8d2b", func := "loop.example/g00394/laws.FnExactPlanAt", spec := "fnExactPlanAt", unfollowed := true, recurses := true, apart := false, narrowed := true }
def FnExactPlanAtUptoSaid : Prop := fnExactPlanAtUptoRow.holds Try.pinned (OpenSpec.upto fnExactPlanAtSpec)

/-- 'laws.FnExactSameAnswers', WHERE WHAT IT READS IS OF BULK AT MOST 1048576: true; the input reads as it did. -/
def fnExactSameAnswersUptoRow : OpenClaim := { program := "ytfeebnbookfpmaa", sum := "cc437790c6eef444c0bfd6fe57964625430f664791896e9f6a2f2c7c721a8d2b", func := "loop.example/g00394/laws.FnExactSameAnswers", spec := "fnExactSameAnswers", unfollowed := true, recurses := true, apart := false, narrowed := true }
def FnExactSameAnswersUptoSaid : Prop := fnExactSameAnswersUptoRow.holds Try.pinned (OpenSpec.upto fnExactSameAnswersSpec)

/-- 'laws.FnExactReplyOk', WHERE WHAT IT READS IS OF BULK AT MOST 1048576: true; the input reads as it did. -/
def fnExactReplyOkUptoRow : OpenClaim := { program := "ytfeebnbookfpmaa", sum := "cc437790c6eef444c0bfd6fe57964625430f664791896e9f6a2f2c7c721a8d2b", func := "loop.example/g00394/laws.FnExactReplyOk", spec := "fnExactReplyOk", unfollowed := true, recurses := true, apart := false, narrowed := true }
def FnExactReplyOkUptoSaid : Prop := fnExactReplyOkUptoRow.holds Try.pinned (OpenSpec.upto fnExactReplyOkSpec)

/-- 'laws.FnExactWholeOf', WHERE WHAT IT READS IS OF BULK AT MOST 1048576: true; the input reads as it did. -/
def fnExactWholeOfUptoRow : OpenClaim := { program := "ytfeebnbookfpmaa", sum := "cc437790c6eef444c0bfd6fe57964625430f664791896e9f6a2f2c7c721a8d2b", func := "loop.example/g00394/laws.FnExactWholeOf", spec := "fnExactWholeOf", unfollowed := true, recurses := true, apart := false, narrowed := true }
def FnExactWholeOfUptoSaid : Prop := fnExactWholeOfUptoRow.holds Try.pinned (OpenSpec.upto fnExactWholeOfSpec)

/-- 'laws.FnExactDeltaOf', WHERE WHAT IT READS IS OF BULK AT MOST 1048576: true; the input reads as it did. -/
def fnExactDeltaOfUptoRow : OpenClaim := { program := "ytfeebnbookfpmaa", sum := "cc437790c6eef444c0bfd6fe57964625430f664791896e9f6a2f2c7c721a8d2b", func := "loop.example/g00394/laws.FnExactDeltaOf", spec := "fnExactDeltaOf", unfollowed := true, recurses := true, apart := false, narrowed := true }
def FnExactDeltaOfUptoSaid : Prop := fnExactDeltaOfUptoRow.holds Try.pinned (OpenSpec.upto fnExactDeltaOfSpec)

/-- 'laws.FnExactMerged', WHERE WHAT IT READS IS OF BULK AT MOST 1048576: true; the input reads as it did. -/
def fnExactMergedUptoRow : OpenClaim := { program := "ytfeebnbookfpmaa", sum := "cc437790c6eef444c0bfd6fe57964625430f664791896e9f6a2f2c7c721a8d2b", func := "loop.example/g00394/laws.FnExactMerged", spec := "fnExactMerged", apart := false, narrowed := true }
def FnExactMergedUptoSaid : Prop := fnExactMergedUptoRow.holds Try.pinned (OpenSpec.upto fnExactMergedSpec)

/-- 'laws.FnExactCrlBody', WHERE WHAT IT READS IS OF BULK AT MOST 1048576: true; the input reads as it did. -/
def fnExactCrlBodyUptoRow : OpenClaim := { program := "ytfeebnbookfpmaa", sum := "cc437790c6eef444c0bfd6fe57964625430f664791896e9f6a2f2c7c721a8d2b", func := "loop.example/g00394/laws.FnExactCrlBody", spec := "fnExactCrlBody", unfollowed := true, recurses := true, apart := false, narrowed := true }
def FnExactCrlBodyUptoSaid : Prop := fnExactCrlBodyUptoRow.holds Try.pinned (OpenSpec.upto fnExactCrlBodySpec)

/-- 'laws.FnExactAskText', WHERE WHAT IT READS IS OF BULK AT MOST 1048576: true; the input reads as it did. -/
def fnExactAskTextUptoRow : OpenClaim := { program := "ytfeebnbookfpmaa", sum := "cc437790c6eef444c0bfd6fe57964625430f664791896e9f6a2f2c7c721a8d2b", func := "loop.example/g00394/laws.FnExactAskText", spec := "fnExactAskText", unfollowed := true, recurses := true, apart := false, narrowed := true }
def FnExactAskTextUptoSaid : Prop := fnExactAskTextUptoRow.holds Try.pinned (OpenSpec.upto fnExactAskTextSpec)

end Rows
end Go.Proofs.Ytfeebnbookfpmaa

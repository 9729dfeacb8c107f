/-
  NARROWER THAN 'FOR EVERY INPUT', by the rows' own cells (each row's printed sentence says how): FnExactCertText: laid · FnExactPathText: laid · FnExactSameWay: laid · FnExactReadCrl: laid · FnExactReadCert: laid.
  DERIVED. THE GIVEN ROWS OF THIS SEAT. 5 by the template 'for every input the law returns true; each argument reads behind the call as it read before'; 0 by the template 'total and deterministic' (their statements: YtoaoncnbimcdgaaDoorTotals.lean).
  GIVEN WITH THE SEED: the statements are not yours to turn. If you find one false, say at which input.
  Laid BY PROGRAM, IN A SANDBOX (cutbox-rows.mjs): the forced cells as the released guide's own fill.sh prints them over the translation 34530fcf4c9282b3… (all of the seat's roots in one cut). By AI agents, Wed Nov 11 2026. No macro, syntax, notation, axiom, sorry.
-/
import Derived.Test.YtoaoncnbimcdgaaDoorChecked
import GoSem.PinnedTables
import GoSem.Claim
import GoSem.ClaimJoined
import GoSem.ClaimMapViews
import Derived.JoinedTies
import Derived.KernelRfl
namespace Go.Proofs.YtoaoncnbimcdgaaDoor
/- THE CELL 'sum', in the pinned program and in every row, IS THE sha256 OF THE DUMP (.gsa) THAT YtoaoncnbimcdgaaDoorProg.lean LOADS. Nothing in Lean hashes anything: it is a label: what it is worth is what the hold of that sum in a sandbox is worth. -/
noncomputable def Tryd.pinned : Pinned := { name := "ytoaoncnbimcdgaadoor", sum := "34530fcf4c9282b35756900a587e7700357a7df76a17359d4e42bc73ca102624", checked := Tryd.checked }
namespace Rows
def none {H : Type} : Left H := { results := [], args := [] }

/- WHAT THE LISTED PACKAGE-LEVEL VARIABLES READ AS WHEN THE CALL BEGINS. Each datum BY PROGRAM (the guide's laid-datum.mjs) off the statement by which the dump's own 'gosem.cut.vars' lays the variable. In a bare row this is a premise. The card (YtoaoncnbimcdgaaDoorCards.lean) ties it to the program's text. -/
def laid_unicode_utf8_acceptRanges {H : Type} : DataW H := .agg [.agg [.lit (.int .u8 128), .lit (.int .u8 191)], .agg [.lit (.int .u8 160), .lit (.int .u8 191)], .agg [.lit (.int .u8 128), .lit (.int .u8 159)], .agg [.lit (.int .u8 144), .lit (.int .u8 191)], .agg [.lit (.int .u8 128), .lit (.int .u8 143)], .agg [.lit (.int .u8 0), .lit (.int .u8 0)], .agg [.lit (.int .u8 0), .lit (.int .u8 0)], .agg [.lit (.int .u8 0), .lit (.int .u8 0)], .agg [.lit (.int .u8 0), .lit (.int .u8 0)], .agg [.lit (.int .u8 0), .lit (.int .u8 0)], .agg [.lit (.int .u8 0), .lit (.int .u8 0)], .agg [.lit (.int .u8 0), .lit (.int .u8 0)], .agg [.lit (.int .u8 0), .lit (.int .u8 0)], .agg [.lit (.int .u8 0), .lit (.int .u8 0)], .agg [.lit (.int .u8 0), .lit (.int .u8 0)], .agg [.lit (.int .u8 0), .lit (.int .u8 0)]]
/-- One of Go's own tables, pinned by name: the form's constant. -/
def laid_unicode_utf8_first : DataW Unit := Go.Pinned.utf8First

/-- 'laws.FnExactCertText': WHATEVER THE INPUT: true; the input reads as it did. -/
def fnExactCertTextSpec : ChangeSpec := { name := "fnExactCertText", fn := fun _ => fun
  | [d] => { results := [.lit (.bool true)], args := [d] }
  | _ => none }
def fnExactCertTextRow : OpenClaim := { program := "ytoaoncnbimcdgaadoor", sum := "34530fcf4c9282b35756900a587e7700357a7df76a17359d4e42bc73ca102624", func := "loop.example/g00394/laws.FnExactCertText", spec := "fnExactCertText", inPlace := ["internal/bytealg.CountString", "internal/bytealg.IndexByteString", "internal/bytealg.IndexString"], unfollowed := true, recurses := true, named := ["unicode/utf8.first", "unicode/utf8.acceptRanges", "internal/bytealg.MaxLen"], apart := false, laid := [("unicode/utf8.acceptRanges", laid_unicode_utf8_acceptRanges), ("unicode/utf8.first", laid_unicode_utf8_first)] }
def FnExactCertTextSaid : Prop := fnExactCertTextRow.holds Tryd.pinned (OpenSpec.ofChange fnExactCertTextSpec)

/-- ITS FALSE NEIGHBOUR: 'it returns false'. Refute it at one input. -/
def fnExactCertTextWrong : ChangeSpec := { name := "fnExactCertText", fn := fun _ => fun
  | [d] => { results := [.lit (.bool false)], args := [d] }
  | _ => none }
def FnExactCertTextWrongFalsely : Prop := fnExactCertTextRow.holds Tryd.pinned (OpenSpec.ofChange fnExactCertTextWrong)

/-- 'laws.FnExactPathText': WHATEVER THE INPUT: true; the input reads as it did. -/
def fnExactPathTextSpec : ChangeSpec := { name := "fnExactPathText", fn := fun _ => fun
  | [d] => { results := [.lit (.bool true)], args := [d] }
  | _ => none }
def fnExactPathTextRow : OpenClaim := { program := "ytoaoncnbimcdgaadoor", sum := "34530fcf4c9282b35756900a587e7700357a7df76a17359d4e42bc73ca102624", func := "loop.example/g00394/laws.FnExactPathText", spec := "fnExactPathText", inPlace := ["internal/bytealg.CountString", "internal/bytealg.IndexByteString", "internal/bytealg.IndexString"], unfollowed := true, recurses := true, named := ["unicode/utf8.first", "unicode/utf8.acceptRanges", "internal/bytealg.MaxLen"], apart := false, laid := [("unicode/utf8.acceptRanges", laid_unicode_utf8_acceptRanges), ("unicode/utf8.first", laid_unicode_utf8_first)] }
def FnExactPathTextSaid : Prop := fnExactPathTextRow.holds Tryd.pinned (OpenSpec.ofChange fnExactPathTextSpec)

/-- ITS FALSE NEIGHBOUR: 'it returns false'. Refute it at one input. -/
def fnExactPathTextWrong : ChangeSpec := { name := "fnExactPathText", fn := fun _ => fun
  | [d] => { results := [.lit (.bool false)], args := [d] }
  | _ => none }
def FnExactPathTextWrongFalsely : Prop := fnExactPathTextRow.holds Tryd.pinned (OpenSpec.ofChange fnExactPathTextWrong)

/-- 'laws.FnExactSameWay': WHATEVER THE INPUT: true; the input reads as it did. -/
def fnExactSameWaySpec : ChangeSpec := { name := "fnExactSameWay", fn := fun _ => fun
  | [d1, d2] => { results := [.lit (.bool true)], args := [d1, d2] }
  | _ => none }
def fnExactSameWayRow : OpenClaim := { program := "ytoaoncnbimcdgaadoor", sum := "34530fcf4c9282b35756900a587e7700357a7df76a17359d4e42bc73ca102624", func := "loop.example/g00394/laws.FnExactSameWay", spec := "fnExactSameWay", inPlace := ["internal/bytealg.CountString", "internal/bytealg.IndexByteString", "internal/bytealg.IndexString"], unfollowed := true, recurses := true, named := ["unicode/utf8.first", "unicode/utf8.acceptRanges", "internal/bytealg.MaxLen"], apart := false, laid := [("unicode/utf8.acceptRanges", laid_unicode_utf8_acceptRanges), ("unicode/utf8.first", laid_unicode_utf8_first)] }
def FnExactSameWaySaid : Prop := fnExactSameWayRow.holds Tryd.pinned (OpenSpec.ofChange fnExactSameWaySpec)

/-- ITS FALSE NEIGHBOUR: 'it returns false'. Refute it at one input. -/
def fnExactSameWayWrong : ChangeSpec := { name := "fnExactSameWay", fn := fun _ => fun
  | [d1, d2] => { results := [.lit (.bool false)], args := [d1, d2] }
  | _ => none }
def FnExactSameWayWrongFalsely : Prop := fnExactSameWayRow.holds Tryd.pinned (OpenSpec.ofChange fnExactSameWayWrong)

/-- 'laws.FnExactReadCrl': WHATEVER THE INPUT: true; the input reads as it did. -/
def fnExactReadCrlSpec : ChangeSpec := { name := "fnExactReadCrl", fn := fun _ => fun
  | [d] => { results := [.lit (.bool true)], args := [d] }
  | _ => none }
def fnExactReadCrlRow : OpenClaim := { program := "ytoaoncnbimcdgaadoor", sum := "34530fcf4c9282b35756900a587e7700357a7df76a17359d4e42bc73ca102624", func := "loop.example/g00394/laws.FnExactReadCrl", spec := "fnExactReadCrl", inPlace := ["internal/bytealg.CountString", "internal/bytealg.IndexByteString", "internal/bytealg.IndexString"], unfollowed := true, recurses := true, named := ["unicode/utf8.first", "unicode/utf8.acceptRanges", "internal/bytealg.MaxLen"], apart := false, laid := [("unicode/utf8.acceptRanges", laid_unicode_utf8_acceptRanges), ("unicode/utf8.first", laid_unicode_utf8_first)] }
def FnExactReadCrlSaid : Prop := fnExactReadCrlRow.holds Tryd.pinned (OpenSpec.ofChange fnExactReadCrlSpec)

/-- ITS FALSE NEIGHBOUR: 'it returns false'. Refute it at one input. -/
def fnExactReadCrlWrong : ChangeSpec := { name := "fnExactReadCrl", fn := fun _ => fun
  | [d] => { results := [.lit (.bool false)], args := [d] }
  | _ => none }
def FnExactReadCrlWrongFalsely : Prop := fnExactReadCrlRow.holds Tryd.pinned (OpenSpec.ofChange fnExactReadCrlWrong)

/-- 'laws.FnExactReadCert': WHATEVER THE INPUT: true; the input reads as it did. -/
def fnExactReadCertSpec : ChangeSpec := { name := "fnExactReadCert", fn := fun _ => fun
  | [d] => { results := [.lit (.bool true)], args := [d] }
  | _ => none }
def fnExactReadCertRow : OpenClaim := { program := "ytoaoncnbimcdgaadoor", sum := "34530fcf4c9282b35756900a587e7700357a7df76a17359d4e42bc73ca102624", func := "loop.example/g00394/laws.FnExactReadCert", spec := "fnExactReadCert", inPlace := ["internal/bytealg.CountString", "internal/bytealg.IndexByteString", "internal/bytealg.IndexString"], unfollowed := true, recurses := true, named := ["unicode/utf8.first", "unicode/utf8.acceptRanges", "internal/bytealg.MaxLen"], apart := false, laid := [("unicode/utf8.acceptRanges", laid_unicode_utf8_acceptRanges), ("unicode/utf8.first", laid_unicode_utf8_first)] }
def FnExactReadCertSaid : Prop := fnExactReadCertRow.holds Tryd.pinned (OpenSpec.ofChange fnExactReadCertSpec)

/-- ITS FALSE NEIGHBOUR: 'it returns false'. Refute it at one input. -/
def fnExactReadCertWrong : ChangeSpec := { name := "fnExactReadCert", fn := fun _ => fun
  | [d] => { results := [.lit (.bool false)], args := [d] }
  | _ => none }
def FnExactReadCertWrongFalsely : Prop := fnExactReadCertRow.holds Tryd.pinned (OpenSpec.ofChange fnExactReadCertWrong)

/- THE SECOND FORM. 'bulk': how many values and letters a reading holds, each counted each time it is reached (what is shared counts as often as it is met; a slice's spare places count too). A statement '..UptoSaid' is the law's where the arguments, and the package variables that the reading takes, are together of bulk at most 1048576: NARROWER than '..Said'. Prove '..Said' where nothing that the law and all that it calls make is longer than what came in: it says more and counts as full. Else prove '..UptoSaid'. A law counts once. -/
mutual
def uptoBulk {H : Type} : DataW H → Nat
  | .lit (.string bytes) => bytes.length + 1
  | .lit _ => 1
  | .nil => 1
  | .ptr d => uptoBulk d + 1
  | .slice elems spare => uptoBulkAll elems + uptoBulkAll spare + 1
  | .agg parts => uptoBulkAll parts + 1
  | .iface _ d => uptoBulk d + 1
  | .map entries => uptoBulkEntries entries + 1
  | .held _ => 1
def uptoBulkAll {H : Type} : List (DataW H) → Nat
  | [] => 0
  | d :: r => uptoBulk d + uptoBulkAll r
def uptoBulkEntries {H : Type} : List (Lit × DataW H) → Nat
  | [] => 0
  | x :: r => uptoBulkEntry x + uptoBulkEntries r
def uptoBulkEntry {H : Type} : Lit × DataW H → Nat
  | (.string bytes, d) => bytes.length + uptoBulk d + 1
  | (_, d) => uptoBulk d + 1
 end
def uptoSmall : (H : Type) → List (DataW H) → Bool := fun _ ds => decide (uptoBulkAll ds ≤ 1048576)
def OpenSpec.upto (s : _root_.Go.ChangeSpec) : _root_.Go.OpenSpec := { _root_.Go.OpenSpec.ofChange s with cond := some uptoSmall }

/-- 'laws.FnExactCertText', WHERE WHAT IT READS IS OF BULK AT MOST 1048576: true; the input reads as it did. -/
def fnExactCertTextUptoRow : OpenClaim := { program := "ytoaoncnbimcdgaadoor", sum := "34530fcf4c9282b35756900a587e7700357a7df76a17359d4e42bc73ca102624", func := "loop.example/g00394/laws.FnExactCertText", spec := "fnExactCertText", inPlace := ["internal/bytealg.CountString", "internal/bytealg.IndexByteString", "internal/bytealg.IndexString"], unfollowed := true, recurses := true, named := ["unicode/utf8.first", "unicode/utf8.acceptRanges", "internal/bytealg.MaxLen"], apart := false, laid := [("unicode/utf8.acceptRanges", laid_unicode_utf8_acceptRanges), ("unicode/utf8.first", laid_unicode_utf8_first)], narrowed := true }
def FnExactCertTextUptoSaid : Prop := fnExactCertTextUptoRow.holds Tryd.pinned (OpenSpec.upto fnExactCertTextSpec)

/-- 'laws.FnExactPathText', WHERE WHAT IT READS IS OF BULK AT MOST 1048576: true; the input reads as it did. -/
def fnExactPathTextUptoRow : OpenClaim := { program := "ytoaoncnbimcdgaadoor", sum := "34530fcf4c9282b35756900a587e7700357a7df76a17359d4e42bc73ca102624", func := "loop.example/g00394/laws.FnExactPathText", spec := "fnExactPathText", inPlace := ["internal/bytealg.CountString", "internal/bytealg.IndexByteString", "internal/bytealg.IndexString"], unfollowed := true, recurses := true, named := ["unicode/utf8.first", "unicode/utf8.acceptRanges", "internal/bytealg.MaxLen"], apart := false, laid := [("unicode/utf8.acceptRanges", laid_unicode_utf8_acceptRanges), ("unicode/utf8.first", laid_unicode_utf8_first)], narrowed := true }
def FnExactPathTextUptoSaid : Prop := fnExactPathTextUptoRow.holds Tryd.pinned (OpenSpec.upto fnExactPathTextSpec)

/-- 'laws.FnExactSameWay', WHERE WHAT IT READS IS OF BULK AT MOST 1048576: true; the input reads as it did. -/
def fnExactSameWayUptoRow : OpenClaim := { program := "ytoaoncnbimcdgaadoor", sum := "34530fcf4c9282b35756900a587e7700357a7df76a17359d4e42bc73ca102624", func := "loop.example/g00394/laws.FnExactSameWay", spec := "fnExactSameWay", inPlace := ["internal/bytealg.CountString", "internal/bytealg.IndexByteString", "internal/bytealg.IndexString"], unfollowed := true, recurses := true, named := ["unicode/utf8.first", "unicode/utf8.acceptRanges", "internal/bytealg.MaxLen"], apart := false, laid := [("unicode/utf8.acceptRanges", laid_unicode_utf8_acceptRanges), ("unicode/utf8.first", laid_unicode_utf8_first)], narrowed := true }
def FnExactSameWayUptoSaid : Prop := fnExactSameWayUptoRow.holds Tryd.pinned (OpenSpec.upto fnExactSameWaySpec)

/-- 'laws.FnExactReadCrl', WHERE WHAT IT READS IS OF BULK AT MOST 1048576: true; the input reads as it did. -/
def fnExactReadCrlUptoRow : OpenClaim := { program := "ytoaoncnbimcdgaadoor", sum := "34530fcf4c9282b35756900a587e7700357a7df76a17359d4e42bc73ca102624", func := "loop.example/g00394/laws.FnExactReadCrl", spec := "fnExactReadCrl", inPlace := ["internal/bytealg.CountString", "internal/bytealg.IndexByteString", "internal/bytealg.IndexString"], unfollowed := true, recurses := true, named := ["unicode/utf8.first", "unicode/utf8.acceptRanges", "internal/bytealg.MaxLen"], apart := false, laid := [("unicode/utf8.acceptRanges", laid_unicode_utf8_acceptRanges), ("unicode/utf8.first", laid_unicode_utf8_first)], narrowed := true }
def FnExactReadCrlUptoSaid : Prop := fnExactReadCrlUptoRow.holds Tryd.pinned (OpenSpec.upto fnExactReadCrlSpec)

/-- 'laws.FnExactReadCert', WHERE WHAT IT READS IS OF BULK AT MOST 1048576: true; the input reads as it did. -/
def fnExactReadCertUptoRow : OpenClaim := { program := "ytoaoncnbimcdgaadoor", sum := "34530fcf4c9282b35756900a587e7700357a7df76a17359d4e42bc73ca102624", func := "loop.example/g00394/laws.FnExactReadCert", spec := "fnExactReadCert", inPlace := ["internal/bytealg.CountString", "internal/bytealg.IndexByteString", "internal/bytealg.IndexString"], unfollowed := true, recurses := true, named := ["unicode/utf8.first", "unicode/utf8.acceptRanges", "internal/bytealg.MaxLen"], apart := false, laid := [("unicode/utf8.acceptRanges", laid_unicode_utf8_acceptRanges), ("unicode/utf8.first", laid_unicode_utf8_first)], narrowed := true }
def FnExactReadCertUptoSaid : Prop := fnExactReadCertUptoRow.holds Tryd.pinned (OpenSpec.upto fnExactReadCertSpec)

end Rows
end Go.Proofs.YtoaoncnbimcdgaaDoor

/-
  DERIVED. GIVEN WITH THE SEED: THE CARDS: each row of YtnpokacipeobdaaDoorRows.lean that lists a variable, with what it lists TIED to the program's text (the seventh form; the later family's looks); each row that meets fmt, with fmt's text TOLD by the authors' own Lean function (tested against real Go, not proved from fmt's source: count such statements apart). THE CARD IS WHAT COUNTS. Prove the row's statement (the work); the ties are given (YtnpokacipeobdaaDoorTie.lean); close each card by the builder's one call (the guide's Derived/Test/ToyasCard.lean, 'card_holds'). Laid BY PROGRAM, IN A SANDBOX (cutbox-door.mjs). By AI agents, Wed Nov 11 2026. No macro, syntax, notation, axiom, sorry.
-/
import Derived.Test.YtnpokacipeobdaaDoorRows
import GoSem.ClaimSeven
namespace Go.Proofs.YtnpokacipeobdaaDoor
namespace Rows

/-- THE TIED CARD OF 'laws.FnExactCrlOk'. -/
def fnExactCrlOkCard : Claim7 := { stood := { row := fnExactCrlOkRow, standIns := [], harness := (true, "e5244161cc4c78230393f1ed3c2e8725a1372d7c8d20b83cab863c9cc4ce2a6d"), looks := false }, kinds := [], alts := [], laidByText := true, laidKinds := [.data, .pinned], laidTests := true, laidLooks := .later }
def FnExactCrlOkCardSaid : Prop := Claim7.holds Tryd.pinned (.plain (OpenSpec.ofChange fnExactCrlOkSpec)) fnExactCrlOkCard

/-- THE TIED CARD OF 'laws.FnExactShowReply'. -/
def fnExactShowReplyCard : Claim7 := { stood := { row := fnExactShowReplyRow, standIns := [], harness := (true, "e5244161cc4c78230393f1ed3c2e8725a1372d7c8d20b83cab863c9cc4ce2a6d"), looks := false }, kinds := [], alts := [], laidByText := true, laidKinds := [.data, .data, .data], laidTests := true, laidLooks := .later }
def FnExactShowReplyCardSaid : Prop := Claim7.holds Tryd.pinned (.plain (OpenSpec.ofChange fnExactShowReplySpec)) fnExactShowReplyCard

/-- THE TIED CARD OF 'laws.FnExactCertOk'. -/
def fnExactCertOkCard : Claim7 := { stood := { row := fnExactCertOkRow, standIns := [], harness := (true, "e5244161cc4c78230393f1ed3c2e8725a1372d7c8d20b83cab863c9cc4ce2a6d"), looks := false }, kinds := [], alts := [], laidByText := true, laidKinds := [.data, .pinned], laidTests := true, laidLooks := .later }
def FnExactCertOkCardSaid : Prop := Claim7.holds Tryd.pinned (.plain (OpenSpec.ofChange fnExactCertOkSpec)) fnExactCertOkCard

/-- THE TIED CARD OF 'laws.FnExactCrlText'. -/
def fnExactCrlTextCard : Claim7 := { stood := { row := fnExactCrlTextRow, standIns := [], harness := (true, "e5244161cc4c78230393f1ed3c2e8725a1372d7c8d20b83cab863c9cc4ce2a6d"), looks := false }, kinds := [], alts := [], laidByText := true, laidKinds := [.data, .pinned], laidTests := true, laidLooks := .later }
def FnExactCrlTextCardSaid : Prop := Claim7.holds Tryd.pinned (.plain (OpenSpec.ofChange fnExactCrlTextSpec)) fnExactCrlTextCard

/-- THE TIED CARD OF 'laws.FnExactShowClient'. -/
def fnExactShowClientCard : Claim7 := { stood := { row := fnExactShowClientRow, standIns := [], harness := (true, "e5244161cc4c78230393f1ed3c2e8725a1372d7c8d20b83cab863c9cc4ce2a6d"), looks := false }, kinds := [], alts := [], laidByText := true, laidKinds := [.data, .data, .data], laidTests := true, laidLooks := .later }
def FnExactShowClientCardSaid : Prop := Claim7.holds Tryd.pinned (.plain (OpenSpec.ofChange fnExactShowClientSpec)) fnExactShowClientCard

/-- THE SECOND FORM's CARD OF 'laws.FnExactCrlOk'. -/
def fnExactCrlOkUptoCard : Claim7 := { stood := { row := fnExactCrlOkUptoRow, standIns := [], harness := (true, "e5244161cc4c78230393f1ed3c2e8725a1372d7c8d20b83cab863c9cc4ce2a6d"), looks := false }, kinds := [], alts := [], laidByText := true, laidKinds := [.data, .pinned], laidTests := true, laidLooks := .later }
def FnExactCrlOkUptoCardSaid : Prop := Claim7.holds Tryd.pinned (.plain (OpenSpec.upto fnExactCrlOkSpec)) fnExactCrlOkUptoCard

/-- THE SECOND FORM's CARD OF 'laws.FnExactShowReply'. -/
def fnExactShowReplyUptoCard : Claim7 := { stood := { row := fnExactShowReplyUptoRow, standIns := [], harness := (true, "e5244161cc4c78230393f1ed3c2e8725a1372d7c8d20b83cab863c9cc4ce2a6d"), looks := false }, kinds := [], alts := [], laidByText := true, laidKinds := [.data, .data, .data], laidTests := true, laidLooks := .later }
def FnExactShowReplyUptoCardSaid : Prop := Claim7.holds Tryd.pinned (.plain (OpenSpec.upto fnExactShowReplySpec)) fnExactShowReplyUptoCard

/-- THE SECOND FORM's CARD OF 'laws.FnExactCertOk'. -/
def fnExactCertOkUptoCard : Claim7 := { stood := { row := fnExactCertOkUptoRow, standIns := [], harness := (true, "e5244161cc4c78230393f1ed3c2e8725a1372d7c8d20b83cab863c9cc4ce2a6d"), looks := false }, kinds := [], alts := [], laidByText := true, laidKinds := [.data, .pinned], laidTests := true, laidLooks := .later }
def FnExactCertOkUptoCardSaid : Prop := Claim7.holds Tryd.pinned (.plain (OpenSpec.upto fnExactCertOkSpec)) fnExactCertOkUptoCard

/-- THE SECOND FORM's CARD OF 'laws.FnExactCrlText'. -/
def fnExactCrlTextUptoCard : Claim7 := { stood := { row := fnExactCrlTextUptoRow, standIns := [], harness := (true, "e5244161cc4c78230393f1ed3c2e8725a1372d7c8d20b83cab863c9cc4ce2a6d"), looks := false }, kinds := [], alts := [], laidByText := true, laidKinds := [.data, .pinned], laidTests := true, laidLooks := .later }
def FnExactCrlTextUptoCardSaid : Prop := Claim7.holds Tryd.pinned (.plain (OpenSpec.upto fnExactCrlTextSpec)) fnExactCrlTextUptoCard

/-- THE SECOND FORM's CARD OF 'laws.FnExactShowClient'. -/
def fnExactShowClientUptoCard : Claim7 := { stood := { row := fnExactShowClientUptoRow, standIns := [], harness := (true, "e5244161cc4c78230393f1ed3c2e8725a1372d7c8d20b83cab863c9cc4ce2a6d"), looks := false }, kinds := [], alts := [], laidByText := true, laidKinds := [.data, .data, .data], laidTests := true, laidLooks := .later }
def FnExactShowClientUptoCardSaid : Prop := Claim7.holds Tryd.pinned (.plain (OpenSpec.upto fnExactShowClientSpec)) fnExactShowClientUptoCard
end Rows
end Go.Proofs.YtnpokacipeobdaaDoor

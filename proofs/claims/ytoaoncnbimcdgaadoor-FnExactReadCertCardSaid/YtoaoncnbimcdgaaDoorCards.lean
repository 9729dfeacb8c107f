/-
  DERIVED. GIVEN WITH THE SEED: THE CARDS: each row of YtoaoncnbimcdgaaDoorRows.lean that lists a variable, with what it lists TIED to the program's text (the seventh form; the later family's looks); each row that meets fmt, with fmt's text TOLD by the authors' own Lean function (tested against real Go, not proved from fmt's source: count such statements apart). THE CARD IS WHAT COUNTS. Prove the row's statement (the work); the ties are given (YtoaoncnbimcdgaaDoorTie.lean); close each card by the builder's one call (the guide's Derived/Test/ToyasCard.lean, 'card_holds'). Laid BY PROGRAM, IN A SANDBOX (cutbox-door.mjs). By AI agents, Wed Nov 11 2026. No macro, syntax, notation, axiom, sorry.
-/
import Derived.Test.YtoaoncnbimcdgaaDoorRows
import GoSem.ClaimSeven
namespace Go.Proofs.YtoaoncnbimcdgaaDoor
namespace Rows

/-- THE TIED CARD OF 'laws.FnExactCertText'. -/
def fnExactCertTextCard : Claim7 := { stood := { row := fnExactCertTextRow, standIns := [], harness := (true, "dc4a8296a2e13f5f6ea5e46122feafbdf4021c914aca4bb390d1753b26e154da"), looks := false }, kinds := [], alts := [], laidByText := true, laidKinds := [.data, .pinned], laidTests := true, laidLooks := .later }
def FnExactCertTextCardSaid : Prop := Claim7.holds Tryd.pinned (.plain (OpenSpec.ofChange fnExactCertTextSpec)) fnExactCertTextCard

/-- THE TIED CARD OF 'laws.FnExactPathText'. -/
def fnExactPathTextCard : Claim7 := { stood := { row := fnExactPathTextRow, standIns := [], harness := (true, "dc4a8296a2e13f5f6ea5e46122feafbdf4021c914aca4bb390d1753b26e154da"), looks := false }, kinds := [], alts := [], laidByText := true, laidKinds := [.data, .pinned], laidTests := true, laidLooks := .later }
def FnExactPathTextCardSaid : Prop := Claim7.holds Tryd.pinned (.plain (OpenSpec.ofChange fnExactPathTextSpec)) fnExactPathTextCard

/-- THE TIED CARD OF 'laws.FnExactSameWay'. -/
def fnExactSameWayCard : Claim7 := { stood := { row := fnExactSameWayRow, standIns := [], harness := (true, "dc4a8296a2e13f5f6ea5e46122feafbdf4021c914aca4bb390d1753b26e154da"), looks := false }, kinds := [], alts := [], laidByText := true, laidKinds := [.data, .pinned], laidTests := true, laidLooks := .later }
def FnExactSameWayCardSaid : Prop := Claim7.holds Tryd.pinned (.plain (OpenSpec.ofChange fnExactSameWaySpec)) fnExactSameWayCard

/-- THE TIED CARD OF 'laws.FnExactReadCrl'. -/
def fnExactReadCrlCard : Claim7 := { stood := { row := fnExactReadCrlRow, standIns := [], harness := (true, "dc4a8296a2e13f5f6ea5e46122feafbdf4021c914aca4bb390d1753b26e154da"), looks := false }, kinds := [], alts := [], laidByText := true, laidKinds := [.data, .pinned], laidTests := true, laidLooks := .later }
def FnExactReadCrlCardSaid : Prop := Claim7.holds Tryd.pinned (.plain (OpenSpec.ofChange fnExactReadCrlSpec)) fnExactReadCrlCard

/-- THE TIED CARD OF 'laws.FnExactReadCert'. -/
def fnExactReadCertCard : Claim7 := { stood := { row := fnExactReadCertRow, standIns := [], harness := (true, "dc4a8296a2e13f5f6ea5e46122feafbdf4021c914aca4bb390d1753b26e154da"), looks := false }, kinds := [], alts := [], laidByText := true, laidKinds := [.data, .pinned], laidTests := true, laidLooks := .later }
def FnExactReadCertCardSaid : Prop := Claim7.holds Tryd.pinned (.plain (OpenSpec.ofChange fnExactReadCertSpec)) fnExactReadCertCard

/-- THE SECOND FORM's CARD OF 'laws.FnExactCertText'. -/
def fnExactCertTextUptoCard : Claim7 := { stood := { row := fnExactCertTextUptoRow, standIns := [], harness := (true, "dc4a8296a2e13f5f6ea5e46122feafbdf4021c914aca4bb390d1753b26e154da"), looks := false }, kinds := [], alts := [], laidByText := true, laidKinds := [.data, .pinned], laidTests := true, laidLooks := .later }
def FnExactCertTextUptoCardSaid : Prop := Claim7.holds Tryd.pinned (.plain (OpenSpec.upto fnExactCertTextSpec)) fnExactCertTextUptoCard

/-- THE SECOND FORM's CARD OF 'laws.FnExactPathText'. -/
def fnExactPathTextUptoCard : Claim7 := { stood := { row := fnExactPathTextUptoRow, standIns := [], harness := (true, "dc4a8296a2e13f5f6ea5e46122feafbdf4021c914aca4bb390d1753b26e154da"), looks := false }, kinds := [], alts := [], laidByText := true, laidKinds := [.data, .pinned], laidTests := true, laidLooks := .later }
def FnExactPathTextUptoCardSaid : Prop := Claim7.holds Tryd.pinned (.plain (OpenSpec.upto fnExactPathTextSpec)) fnExactPathTextUptoCard

/-- THE SECOND FORM's CARD OF 'laws.FnExactSameWay'. -/
def fnExactSameWayUptoCard : Claim7 := { stood := { row := fnExactSameWayUptoRow, standIns := [], harness := (true, "dc4a8296a2e13f5f6ea5e46122feafbdf4021c914aca4bb390d1753b26e154da"), looks := false }, kinds := [], alts := [], laidByText := true, laidKinds := [.data, .pinned], laidTests := true, laidLooks := .later }
def FnExactSameWayUptoCardSaid : Prop := Claim7.holds Tryd.pinned (.plain (OpenSpec.upto fnExactSameWaySpec)) fnExactSameWayUptoCard

/-- THE SECOND FORM's CARD OF 'laws.FnExactReadCrl'. -/
def fnExactReadCrlUptoCard : Claim7 := { stood := { row := fnExactReadCrlUptoRow, standIns := [], harness := (true, "dc4a8296a2e13f5f6ea5e46122feafbdf4021c914aca4bb390d1753b26e154da"), looks := false }, kinds := [], alts := [], laidByText := true, laidKinds := [.data, .pinned], laidTests := true, laidLooks := .later }
def FnExactReadCrlUptoCardSaid : Prop := Claim7.holds Tryd.pinned (.plain (OpenSpec.upto fnExactReadCrlSpec)) fnExactReadCrlUptoCard

/-- THE SECOND FORM's CARD OF 'laws.FnExactReadCert'. -/
def fnExactReadCertUptoCard : Claim7 := { stood := { row := fnExactReadCertUptoRow, standIns := [], harness := (true, "dc4a8296a2e13f5f6ea5e46122feafbdf4021c914aca4bb390d1753b26e154da"), looks := false }, kinds := [], alts := [], laidByText := true, laidKinds := [.data, .pinned], laidTests := true, laidLooks := .later }
def FnExactReadCertUptoCardSaid : Prop := Claim7.holds Tryd.pinned (.plain (OpenSpec.upto fnExactReadCertSpec)) fnExactReadCertUptoCard
end Rows
end Go.Proofs.YtoaoncnbimcdgaaDoor

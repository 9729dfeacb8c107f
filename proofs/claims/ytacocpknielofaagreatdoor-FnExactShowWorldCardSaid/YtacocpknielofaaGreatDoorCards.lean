/-
  DERIVED. GIVEN WITH THE SEED: THE CARDS: each row of YtacocpknielofaaGreatDoorRows.lean that lists a variable, with what it lists TIED to the program's text (the seventh form; the later family's looks); each row that meets fmt, with fmt's text TOLD by the authors' own Lean function (tested against real Go, not proved from fmt's source: count such statements apart). THE CARD IS WHAT COUNTS. Prove the row's statement (the work); the ties are given (YtacocpknielofaaGreatDoorTie.lean); close each card by the builder's one call (the guide's Derived/Test/ToyasCard.lean, 'card_holds'). Laid BY PROGRAM, IN A SANDBOX (cutbox-door.mjs). By AI agents, Wed Nov 11 2026. No macro, syntax, notation, axiom, sorry.
-/
import Derived.Test.YtacocpknielofaaGreatDoorRows
import GoSem.ClaimSeven
namespace Go.Proofs.YtacocpknielofaaGreatDoor
namespace Rows

/-- THE TIED CARD OF 'laws.FnExactStoreOk'. -/
def fnExactStoreOkCard : Claim7 := { stood := { row := fnExactStoreOkRow, standIns := [], harness := (true, "6ef4c5167499f271c45cef60066f30e642d75d705cff5e052a4204389b25b055"), looks := false }, kinds := [], alts := [], laidByText := true, laidKinds := [.data, .pinned], laidTests := true, laidLooks := .later }
def FnExactStoreOkCardSaid : Prop := Claim7.holds Tryz.pinned (.plain (OpenSpec.ofChange fnExactStoreOkSpec)) fnExactStoreOkCard

/-- THE TIED CARD OF 'laws.FnExactServerOk'. -/
def fnExactServerOkCard : Claim7 := { stood := { row := fnExactServerOkRow, standIns := [], harness := (true, "6ef4c5167499f271c45cef60066f30e642d75d705cff5e052a4204389b25b055"), looks := false }, kinds := [], alts := [], laidByText := true, laidKinds := [.data, .pinned], laidTests := true, laidLooks := .later }
def FnExactServerOkCardSaid : Prop := Claim7.holds Tryz.pinned (.plain (OpenSpec.ofChange fnExactServerOkSpec)) fnExactServerOkCard

/-- THE TIED CARD OF 'laws.FnExactShowWorld'. -/
def fnExactShowWorldCard : Claim7 := { stood := { row := fnExactShowWorldRow, standIns := [], harness := (true, "6ef4c5167499f271c45cef60066f30e642d75d705cff5e052a4204389b25b055"), looks := false }, kinds := [], alts := [], laidByText := true, laidKinds := [.data, .data, .data], laidTests := true, laidLooks := .later }
def FnExactShowWorldCardSaid : Prop := Claim7.holds Tryz.pinned (.plain (OpenSpec.ofChange fnExactShowWorldSpec)) fnExactShowWorldCard

/-- THE TIED CARD OF 'laws.FnExactAddCrl'. -/
def fnExactAddCrlCard : Claim7 := { stood := { row := fnExactAddCrlRow, standIns := [], harness := (true, "6ef4c5167499f271c45cef60066f30e642d75d705cff5e052a4204389b25b055"), looks := false }, kinds := [], alts := [], laidByText := true, laidKinds := [.data, .pinned], laidTests := true, laidLooks := .later }
def FnExactAddCrlCardSaid : Prop := Claim7.holds Tryz.pinned (.plain (OpenSpec.ofChange fnExactAddCrlSpec)) fnExactAddCrlCard

/-- THE TIED CARD OF 'laws.FnExactAddCert'. -/
def fnExactAddCertCard : Claim7 := { stood := { row := fnExactAddCertRow, standIns := [], harness := (true, "6ef4c5167499f271c45cef60066f30e642d75d705cff5e052a4204389b25b055"), looks := false }, kinds := [], alts := [], laidByText := true, laidKinds := [.data, .pinned], laidTests := true, laidLooks := .later }
def FnExactAddCertCardSaid : Prop := Claim7.holds Tryz.pinned (.plain (OpenSpec.ofChange fnExactAddCertSpec)) fnExactAddCertCard

/-- THE TIED CARD OF 'laws.FnExactWaysTo'. -/
def fnExactWaysToCard : Claim7 := { stood := { row := fnExactWaysToRow, standIns := [], harness := (true, "6ef4c5167499f271c45cef60066f30e642d75d705cff5e052a4204389b25b055"), looks := false }, kinds := [], alts := [], laidByText := true, laidKinds := [.data, .pinned], laidTests := true, laidLooks := .later }
def FnExactWaysToCardSaid : Prop := Claim7.holds Tryz.pinned (.plain (OpenSpec.ofChange fnExactWaysToSpec)) fnExactWaysToCard

/-- THE TIED CARD OF 'laws.FnExactLearnCrl'. -/
def fnExactLearnCrlCard : Claim7 := { stood := { row := fnExactLearnCrlRow, standIns := [], harness := (true, "6ef4c5167499f271c45cef60066f30e642d75d705cff5e052a4204389b25b055"), looks := false }, kinds := [], alts := [], laidByText := true, laidKinds := [.data, .pinned], laidTests := true, laidLooks := .later }
def FnExactLearnCrlCardSaid : Prop := Claim7.holds Tryz.pinned (.plain (OpenSpec.ofChange fnExactLearnCrlSpec)) fnExactLearnCrlCard

/-- THE TIED CARD OF 'laws.FnExactLearn'. -/
def fnExactLearnCard : Claim7 := { stood := { row := fnExactLearnRow, standIns := [], harness := (true, "6ef4c5167499f271c45cef60066f30e642d75d705cff5e052a4204389b25b055"), looks := false }, kinds := [], alts := [], laidByText := true, laidKinds := [.data, .pinned], laidTests := true, laidLooks := .later }
def FnExactLearnCardSaid : Prop := Claim7.holds Tryz.pinned (.plain (OpenSpec.ofChange fnExactLearnSpec)) fnExactLearnCard

/-- THE SECOND FORM's CARD OF 'laws.FnExactStoreOk'. -/
def fnExactStoreOkUptoCard : Claim7 := { stood := { row := fnExactStoreOkUptoRow, standIns := [], harness := (true, "6ef4c5167499f271c45cef60066f30e642d75d705cff5e052a4204389b25b055"), looks := false }, kinds := [], alts := [], laidByText := true, laidKinds := [.data, .pinned], laidTests := true, laidLooks := .later }
def FnExactStoreOkUptoCardSaid : Prop := Claim7.holds Tryz.pinned (.plain (OpenSpec.upto fnExactStoreOkSpec)) fnExactStoreOkUptoCard

/-- THE SECOND FORM's CARD OF 'laws.FnExactServerOk'. -/
def fnExactServerOkUptoCard : Claim7 := { stood := { row := fnExactServerOkUptoRow, standIns := [], harness := (true, "6ef4c5167499f271c45cef60066f30e642d75d705cff5e052a4204389b25b055"), looks := false }, kinds := [], alts := [], laidByText := true, laidKinds := [.data, .pinned], laidTests := true, laidLooks := .later }
def FnExactServerOkUptoCardSaid : Prop := Claim7.holds Tryz.pinned (.plain (OpenSpec.upto fnExactServerOkSpec)) fnExactServerOkUptoCard

/-- THE SECOND FORM's CARD OF 'laws.FnExactShowWorld'. -/
def fnExactShowWorldUptoCard : Claim7 := { stood := { row := fnExactShowWorldUptoRow, standIns := [], harness := (true, "6ef4c5167499f271c45cef60066f30e642d75d705cff5e052a4204389b25b055"), looks := false }, kinds := [], alts := [], laidByText := true, laidKinds := [.data, .data, .data], laidTests := true, laidLooks := .later }
def FnExactShowWorldUptoCardSaid : Prop := Claim7.holds Tryz.pinned (.plain (OpenSpec.upto fnExactShowWorldSpec)) fnExactShowWorldUptoCard

/-- THE SECOND FORM's CARD OF 'laws.FnExactAddCrl'. -/
def fnExactAddCrlUptoCard : Claim7 := { stood := { row := fnExactAddCrlUptoRow, standIns := [], harness := (true, "6ef4c5167499f271c45cef60066f30e642d75d705cff5e052a4204389b25b055"), looks := false }, kinds := [], alts := [], laidByText := true, laidKinds := [.data, .pinned], laidTests := true, laidLooks := .later }
def FnExactAddCrlUptoCardSaid : Prop := Claim7.holds Tryz.pinned (.plain (OpenSpec.upto fnExactAddCrlSpec)) fnExactAddCrlUptoCard

/-- THE SECOND FORM's CARD OF 'laws.FnExactAddCert'. -/
def fnExactAddCertUptoCard : Claim7 := { stood := { row := fnExactAddCertUptoRow, standIns := [], harness := (true, "6ef4c5167499f271c45cef60066f30e642d75d705cff5e052a4204389b25b055"), looks := false }, kinds := [], alts := [], laidByText := true, laidKinds := [.data, .pinned], laidTests := true, laidLooks := .later }
def FnExactAddCertUptoCardSaid : Prop := Claim7.holds Tryz.pinned (.plain (OpenSpec.upto fnExactAddCertSpec)) fnExactAddCertUptoCard

/-- THE SECOND FORM's CARD OF 'laws.FnExactWaysTo'. -/
def fnExactWaysToUptoCard : Claim7 := { stood := { row := fnExactWaysToUptoRow, standIns := [], harness := (true, "6ef4c5167499f271c45cef60066f30e642d75d705cff5e052a4204389b25b055"), looks := false }, kinds := [], alts := [], laidByText := true, laidKinds := [.data, .pinned], laidTests := true, laidLooks := .later }
def FnExactWaysToUptoCardSaid : Prop := Claim7.holds Tryz.pinned (.plain (OpenSpec.upto fnExactWaysToSpec)) fnExactWaysToUptoCard

/-- THE SECOND FORM's CARD OF 'laws.FnExactLearnCrl'. -/
def fnExactLearnCrlUptoCard : Claim7 := { stood := { row := fnExactLearnCrlUptoRow, standIns := [], harness := (true, "6ef4c5167499f271c45cef60066f30e642d75d705cff5e052a4204389b25b055"), looks := false }, kinds := [], alts := [], laidByText := true, laidKinds := [.data, .pinned], laidTests := true, laidLooks := .later }
def FnExactLearnCrlUptoCardSaid : Prop := Claim7.holds Tryz.pinned (.plain (OpenSpec.upto fnExactLearnCrlSpec)) fnExactLearnCrlUptoCard

/-- THE SECOND FORM's CARD OF 'laws.FnExactLearn'. -/
def fnExactLearnUptoCard : Claim7 := { stood := { row := fnExactLearnUptoRow, standIns := [], harness := (true, "6ef4c5167499f271c45cef60066f30e642d75d705cff5e052a4204389b25b055"), looks := false }, kinds := [], alts := [], laidByText := true, laidKinds := [.data, .pinned], laidTests := true, laidLooks := .later }
def FnExactLearnUptoCardSaid : Prop := Claim7.holds Tryz.pinned (.plain (OpenSpec.upto fnExactLearnSpec)) fnExactLearnUptoCard
end Rows
end Go.Proofs.YtacocpknielofaaGreatDoor

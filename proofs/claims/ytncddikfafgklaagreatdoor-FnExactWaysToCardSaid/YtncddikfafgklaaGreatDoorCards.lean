/-
  DERIVED. GIVEN WITH THE SEED: THE CARDS: each row of YtncddikfafgklaaGreatDoorRows.lean that lists a variable, with what it lists TIED to the program's text (the seventh form; the later family's looks); each row that meets fmt, with fmt's text TOLD by the authors' own Lean function (tested against real Go, not proved from fmt's source: count such statements apart). THE CARD IS WHAT COUNTS. Prove the row's statement (the work); the ties are given (YtncddikfafgklaaGreatDoorTie.lean); close each card by the builder's one call (the guide's Derived/Test/ToyasCard.lean, 'card_holds'). Laid BY PROGRAM, IN A SANDBOX (cutbox-door.mjs). By AI agents, Wed Nov 11 2026. No macro, syntax, notation, axiom, sorry.
-/
import Derived.Test.YtncddikfafgklaaGreatDoorRows
import GoSem.ClaimSeven
namespace Go.Proofs.YtncddikfafgklaaGreatDoor
namespace Rows

/-- THE TIED CARD OF 'laws.FnExactWaysTo'. -/
def fnExactWaysToCard : Claim7 := { stood := { row := fnExactWaysToRow, standIns := [], harness := (true, "3af7d6177bb16748eb82d5a8a57bce160999c70f09408867df969814c19dbb3d"), looks := false }, kinds := [], alts := [], laidByText := true, laidKinds := [.data, .pinned], laidTests := true, laidLooks := .later }
def FnExactWaysToCardSaid : Prop := Claim7.holds Tryz.pinned (.plain (OpenSpec.ofChange fnExactWaysToSpec)) fnExactWaysToCard

/-- THE TIED CARD OF 'laws.FnWays'. -/
def fnWaysCard : Claim7 := { stood := { row := fnWaysRow, standIns := [], harness := (true, "3af7d6177bb16748eb82d5a8a57bce160999c70f09408867df969814c19dbb3d"), looks := false }, kinds := [], alts := [], laidByText := true, laidKinds := [.data, .pinned], laidTests := true, laidLooks := .later }
def FnWaysCardSaid : Prop := Claim7.holds Tryz.pinned (.plain (OpenSpec.ofChange fnWaysSpec)) fnWaysCard

/-- THE TIED CARD OF 'laws.FnStores'. -/
def fnStoresCard : Claim7 := { stood := { row := fnStoresRow, standIns := [], harness := (true, "3af7d6177bb16748eb82d5a8a57bce160999c70f09408867df969814c19dbb3d"), looks := false }, kinds := [], alts := [], laidByText := true, laidKinds := [.data, .pinned], laidTests := true, laidLooks := .later }
def FnStoresCardSaid : Prop := Claim7.holds Tryz.pinned (.plain (OpenSpec.ofChange fnStoresSpec)) fnStoresCard

/-- THE SECOND FORM's CARD OF 'laws.FnExactWaysTo'. -/
def fnExactWaysToUptoCard : Claim7 := { stood := { row := fnExactWaysToUptoRow, standIns := [], harness := (true, "3af7d6177bb16748eb82d5a8a57bce160999c70f09408867df969814c19dbb3d"), looks := false }, kinds := [], alts := [], laidByText := true, laidKinds := [.data, .pinned], laidTests := true, laidLooks := .later }
def FnExactWaysToUptoCardSaid : Prop := Claim7.holds Tryz.pinned (.plain (OpenSpec.upto fnExactWaysToSpec)) fnExactWaysToUptoCard

/-- THE SECOND FORM's CARD OF 'laws.FnWays'. -/
def fnWaysUptoCard : Claim7 := { stood := { row := fnWaysUptoRow, standIns := [], harness := (true, "3af7d6177bb16748eb82d5a8a57bce160999c70f09408867df969814c19dbb3d"), looks := false }, kinds := [], alts := [], laidByText := true, laidKinds := [.data, .pinned], laidTests := true, laidLooks := .later }
def FnWaysUptoCardSaid : Prop := Claim7.holds Tryz.pinned (.plain (OpenSpec.upto fnWaysSpec)) fnWaysUptoCard

/-- THE SECOND FORM's CARD OF 'laws.FnStores'. -/
def fnStoresUptoCard : Claim7 := { stood := { row := fnStoresUptoRow, standIns := [], harness := (true, "3af7d6177bb16748eb82d5a8a57bce160999c70f09408867df969814c19dbb3d"), looks := false }, kinds := [], alts := [], laidByText := true, laidKinds := [.data, .pinned], laidTests := true, laidLooks := .later }
def FnStoresUptoCardSaid : Prop := Claim7.holds Tryz.pinned (.plain (OpenSpec.upto fnStoresSpec)) fnStoresUptoCard
end Rows
end Go.Proofs.YtncddikfafgklaaGreatDoor

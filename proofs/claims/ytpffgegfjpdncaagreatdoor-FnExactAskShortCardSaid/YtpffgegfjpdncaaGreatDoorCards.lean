/-
  DERIVED. GIVEN WITH THE SEED: THE CARDS: each row of YtpffgegfjpdncaaGreatDoorRows.lean that lists a variable, with what it lists TIED to the program's text (the seventh form; the later family's looks); each row that meets fmt, with fmt's text TOLD by the authors' own Lean function (tested against real Go, not proved from fmt's source: count such statements apart). THE CARD IS WHAT COUNTS. Prove the row's statement (the work); the ties are given (YtpffgegfjpdncaaGreatDoorTie.lean); close each card by the builder's one call (the guide's Derived/Test/ToyasCard.lean, 'card_holds'). Laid BY PROGRAM, IN A SANDBOX (cutbox-door.mjs). By AI agents, Wed Nov 11 2026. No macro, syntax, notation, axiom, sorry.
-/
import Derived.Test.YtpffgegfjpdncaaGreatDoorRows
import GoSem.ClaimSeven
namespace Go.Proofs.YtpffgegfjpdncaaGreatDoor
namespace Rows

/-- THE TIED CARD OF 'laws.FnExactTurnHead'. -/
def fnExactTurnHeadCard : Claim7 := { stood := { row := fnExactTurnHeadRow, standIns := [], harness := (true, "2534b8cd01c3311f0ce9038054385b87c8db6123be02f4b69961d81b6013cedc"), looks := false }, kinds := [], alts := [], laidByText := true, laidKinds := [.data, .data, .data], laidTests := true, laidLooks := .later }
def FnExactTurnHeadCardSaid : Prop := Claim7.holds Tryz.pinned (.plain (OpenSpec.ofChange fnExactTurnHeadSpec)) fnExactTurnHeadCard

/-- THE TIED CARD OF 'laws.FnDerivNo'. -/
def fnDerivNoCard : Claim7 := { stood := { row := fnDerivNoRow, standIns := [], harness := (true, "2534b8cd01c3311f0ce9038054385b87c8db6123be02f4b69961d81b6013cedc"), looks := false }, kinds := [], alts := [], laidByText := true, laidKinds := [.data, .data, .data], laidTests := true, laidLooks := .later }
def FnDerivNoCardSaid : Prop := Claim7.holds Tryz.pinned (.plain (OpenSpec.ofChange fnDerivNoSpec)) fnDerivNoCard

/-- THE TIED CARD OF 'laws.FnExactAskShort'. -/
def fnExactAskShortCard : Claim7 := { stood := { row := fnExactAskShortRow, standIns := [], harness := (true, "2534b8cd01c3311f0ce9038054385b87c8db6123be02f4b69961d81b6013cedc"), looks := false }, kinds := [], alts := [], laidByText := true, laidKinds := [.data, .data, .data], laidTests := true, laidLooks := .later }
def FnExactAskShortCardSaid : Prop := Claim7.holds Tryz.pinned (.plain (OpenSpec.ofChange fnExactAskShortSpec)) fnExactAskShortCard

/-- THE TIED CARD OF 'laws.FnExactAskMany'. -/
def fnExactAskManyCard : Claim7 := { stood := { row := fnExactAskManyRow, standIns := [], harness := (true, "2534b8cd01c3311f0ce9038054385b87c8db6123be02f4b69961d81b6013cedc"), looks := false }, kinds := [], alts := [], laidByText := true, laidKinds := [.data, .data, .data], laidTests := true, laidLooks := .later }
def FnExactAskManyCardSaid : Prop := Claim7.holds Tryz.pinned (.plain (OpenSpec.ofChange fnExactAskManySpec)) fnExactAskManyCard

/-- THE SECOND FORM's CARD OF 'laws.FnExactTurnHead'. -/
def fnExactTurnHeadUptoCard : Claim7 := { stood := { row := fnExactTurnHeadUptoRow, standIns := [], harness := (true, "2534b8cd01c3311f0ce9038054385b87c8db6123be02f4b69961d81b6013cedc"), looks := false }, kinds := [], alts := [], laidByText := true, laidKinds := [.data, .data, .data], laidTests := true, laidLooks := .later }
def FnExactTurnHeadUptoCardSaid : Prop := Claim7.holds Tryz.pinned (.plain (OpenSpec.upto fnExactTurnHeadSpec)) fnExactTurnHeadUptoCard

/-- THE SECOND FORM's CARD OF 'laws.FnDerivNo'. -/
def fnDerivNoUptoCard : Claim7 := { stood := { row := fnDerivNoUptoRow, standIns := [], harness := (true, "2534b8cd01c3311f0ce9038054385b87c8db6123be02f4b69961d81b6013cedc"), looks := false }, kinds := [], alts := [], laidByText := true, laidKinds := [.data, .data, .data], laidTests := true, laidLooks := .later }
def FnDerivNoUptoCardSaid : Prop := Claim7.holds Tryz.pinned (.plain (OpenSpec.upto fnDerivNoSpec)) fnDerivNoUptoCard

/-- THE SECOND FORM's CARD OF 'laws.FnExactAskShort'. -/
def fnExactAskShortUptoCard : Claim7 := { stood := { row := fnExactAskShortUptoRow, standIns := [], harness := (true, "2534b8cd01c3311f0ce9038054385b87c8db6123be02f4b69961d81b6013cedc"), looks := false }, kinds := [], alts := [], laidByText := true, laidKinds := [.data, .data, .data], laidTests := true, laidLooks := .later }
def FnExactAskShortUptoCardSaid : Prop := Claim7.holds Tryz.pinned (.plain (OpenSpec.upto fnExactAskShortSpec)) fnExactAskShortUptoCard

/-- THE SECOND FORM's CARD OF 'laws.FnExactAskMany'. -/
def fnExactAskManyUptoCard : Claim7 := { stood := { row := fnExactAskManyUptoRow, standIns := [], harness := (true, "2534b8cd01c3311f0ce9038054385b87c8db6123be02f4b69961d81b6013cedc"), looks := false }, kinds := [], alts := [], laidByText := true, laidKinds := [.data, .data, .data], laidTests := true, laidLooks := .later }
def FnExactAskManyUptoCardSaid : Prop := Claim7.holds Tryz.pinned (.plain (OpenSpec.upto fnExactAskManySpec)) fnExactAskManyUptoCard
end Rows
end Go.Proofs.YtpffgegfjpdncaaGreatDoor

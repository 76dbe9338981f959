/-
  DERIVED. GIVEN WITH THE SEED: THE CARDS: each row of YthfmfeghipjpdaaDoorRows.lean that lists a variable, with what it lists TIED to the program's text (the seventh form; the later family's looks); each row that meets fmt, with fmt's text TOLD by the authors' own Lean function (tested against real Go, not proved from fmt's source: count such statements apart). THE CARD IS WHAT COUNTS. Prove the row's statement (the work); the ties are given (YthfmfeghipjpdaaDoorTie.lean); close each card by the builder's one call (the guide's Derived/Test/ToyasCard.lean, 'card_holds'). Laid BY PROGRAM, IN A SANDBOX (cutbox-door.mjs). By AI agents, Wed Nov 11 2026. No macro, syntax, notation, axiom, sorry.
-/
import Derived.Test.YthfmfeghipjpdaaDoorRows
import GoSem.ClaimSeven
namespace Go.Proofs.YthfmfeghipjpdaaDoor
namespace Rows

/-- THE TIED CARD OF 'laws.FnExactAreNuts'. -/
def fnExactAreNutsCard : Claim7 := { stood := { row := fnExactAreNutsRow, standIns := [], harness := (true, "de2b098b83672cfa973a86aa16ff7a77e37c87b5899a8058bb5c65d2f673a63a"), looks := false }, kinds := [], alts := [], laidByText := true, laidKinds := [.data, .pinned], laidTests := true, laidLooks := .later }
def FnExactAreNutsCardSaid : Prop := Claim7.holds Tryd.pinned (.plain (OpenSpec.ofChange fnExactAreNutsSpec)) fnExactAreNutsCard

/-- THE TIED CARD OF 'laws.FnExactNutsIn'. -/
def fnExactNutsInCard : Claim7 := { stood := { row := fnExactNutsInRow, standIns := [], harness := (true, "de2b098b83672cfa973a86aa16ff7a77e37c87b5899a8058bb5c65d2f673a63a"), looks := false }, kinds := [], alts := [], laidByText := true, laidKinds := [.data, .pinned], laidTests := true, laidLooks := .later }
def FnExactNutsInCardSaid : Prop := Claim7.holds Tryd.pinned (.plain (OpenSpec.ofChange fnExactNutsInSpec)) fnExactNutsInCard

/-- THE TIED CARD OF 'laws.FnExactNutsInPart'. -/
def fnExactNutsInPartCard : Claim7 := { stood := { row := fnExactNutsInPartRow, standIns := [], harness := (true, "de2b098b83672cfa973a86aa16ff7a77e37c87b5899a8058bb5c65d2f673a63a"), looks := false }, kinds := [], alts := [], laidByText := true, laidKinds := [.data, .pinned], laidTests := true, laidLooks := .later }
def FnExactNutsInPartCardSaid : Prop := Claim7.holds Tryd.pinned (.plain (OpenSpec.ofChange fnExactNutsInPartSpec)) fnExactNutsInPartCard

/-- THE TIED CARD OF 'laws.FnExactPutNut'. -/
def fnExactPutNutCard : Claim7 := { stood := { row := fnExactPutNutRow, standIns := [], harness := (true, "de2b098b83672cfa973a86aa16ff7a77e37c87b5899a8058bb5c65d2f673a63a"), looks := false }, kinds := [], alts := [], laidByText := true, laidKinds := [.data, .pinned], laidTests := true, laidLooks := .later }
def FnExactPutNutCardSaid : Prop := Claim7.holds Tryd.pinned (.plain (OpenSpec.ofChange fnExactPutNutSpec)) fnExactPutNutCard

/-- THE TIED CARD OF 'laws.FnExactRichestPart'. -/
def fnExactRichestPartCard : Claim7 := { stood := { row := fnExactRichestPartRow, standIns := [], harness := (true, "de2b098b83672cfa973a86aa16ff7a77e37c87b5899a8058bb5c65d2f673a63a"), looks := false }, kinds := [], alts := [], laidByText := true, laidKinds := [.data, .pinned], laidTests := true, laidLooks := .later }
def FnExactRichestPartCardSaid : Prop := Claim7.holds Tryd.pinned (.plain (OpenSpec.ofChange fnExactRichestPartSpec)) fnExactRichestPartCard

/-- THE TIED CARD OF 'laws.FnExactTurnNuts'. -/
def fnExactTurnNutsCard : Claim7 := { stood := { row := fnExactTurnNutsRow, standIns := [], harness := (true, "de2b098b83672cfa973a86aa16ff7a77e37c87b5899a8058bb5c65d2f673a63a"), looks := false }, kinds := [], alts := [], laidByText := true, laidKinds := [.data, .pinned], laidTests := true, laidLooks := .later }
def FnExactTurnNutsCardSaid : Prop := Claim7.holds Tryd.pinned (.plain (OpenSpec.ofChange fnExactTurnNutsSpec)) fnExactTurnNutsCard

/-- THE TIED CARD OF 'laws.FnExactSameNuts'. -/
def fnExactSameNutsCard : Claim7 := { stood := { row := fnExactSameNutsRow, standIns := [], harness := (true, "de2b098b83672cfa973a86aa16ff7a77e37c87b5899a8058bb5c65d2f673a63a"), looks := false }, kinds := [], alts := [], laidByText := true, laidKinds := [.data, .pinned], laidTests := true, laidLooks := .later }
def FnExactSameNutsCardSaid : Prop := Claim7.holds Tryd.pinned (.plain (OpenSpec.ofChange fnExactSameNutsSpec)) fnExactSameNutsCard

/-- THE TIED CARD OF 'laws.FnExactRowNuts'. -/
def fnExactRowNutsCard : Claim7 := { stood := { row := fnExactRowNutsRow, standIns := [], harness := (true, "de2b098b83672cfa973a86aa16ff7a77e37c87b5899a8058bb5c65d2f673a63a"), looks := false }, kinds := [], alts := [], laidByText := true, laidKinds := [.data, .pinned], laidTests := true, laidLooks := .later }
def FnExactRowNutsCardSaid : Prop := Claim7.holds Tryd.pinned (.plain (OpenSpec.ofChange fnExactRowNutsSpec)) fnExactRowNutsCard

/-- THE TIED CARD OF 'laws.FnExactColumnNuts'. -/
def fnExactColumnNutsCard : Claim7 := { stood := { row := fnExactColumnNutsRow, standIns := [], harness := (true, "de2b098b83672cfa973a86aa16ff7a77e37c87b5899a8058bb5c65d2f673a63a"), looks := false }, kinds := [], alts := [], laidByText := true, laidKinds := [.data, .pinned], laidTests := true, laidLooks := .later }
def FnExactColumnNutsCardSaid : Prop := Claim7.holds Tryd.pinned (.plain (OpenSpec.ofChange fnExactColumnNutsSpec)) fnExactColumnNutsCard

/-- THE TIED CARD OF 'laws.FnExactNutsText'. -/
def fnExactNutsTextCard : Claim7 := { stood := { row := fnExactNutsTextRow, standIns := [], harness := (true, "de2b098b83672cfa973a86aa16ff7a77e37c87b5899a8058bb5c65d2f673a63a"), looks := false }, kinds := [], alts := [], laidByText := true, laidKinds := [.data, .pinned], laidTests := true, laidLooks := .later }
def FnExactNutsTextCardSaid : Prop := Claim7.holds Tryd.pinned (.plain (OpenSpec.ofChange fnExactNutsTextSpec)) fnExactNutsTextCard

/-- THE TIED CARD OF 'laws.FnExactParseNuts'. -/
def fnExactParseNutsCard : Claim7 := { stood := { row := fnExactParseNutsRow, standIns := [], harness := (true, "de2b098b83672cfa973a86aa16ff7a77e37c87b5899a8058bb5c65d2f673a63a"), looks := false }, kinds := [], alts := [], laidByText := true, laidKinds := [.data, .pinned], laidTests := true, laidLooks := .later }
def FnExactParseNutsCardSaid : Prop := Claim7.holds Tryd.pinned (.plain (OpenSpec.ofChange fnExactParseNutsSpec)) fnExactParseNutsCard

/-- THE SECOND FORM's CARD OF 'laws.FnExactAreNuts'. -/
def fnExactAreNutsUptoCard : Claim7 := { stood := { row := fnExactAreNutsUptoRow, standIns := [], harness := (true, "de2b098b83672cfa973a86aa16ff7a77e37c87b5899a8058bb5c65d2f673a63a"), looks := false }, kinds := [], alts := [], laidByText := true, laidKinds := [.data, .pinned], laidTests := true, laidLooks := .later }
def FnExactAreNutsUptoCardSaid : Prop := Claim7.holds Tryd.pinned (.plain (OpenSpec.upto fnExactAreNutsSpec)) fnExactAreNutsUptoCard

/-- THE SECOND FORM's CARD OF 'laws.FnExactNutsIn'. -/
def fnExactNutsInUptoCard : Claim7 := { stood := { row := fnExactNutsInUptoRow, standIns := [], harness := (true, "de2b098b83672cfa973a86aa16ff7a77e37c87b5899a8058bb5c65d2f673a63a"), looks := false }, kinds := [], alts := [], laidByText := true, laidKinds := [.data, .pinned], laidTests := true, laidLooks := .later }
def FnExactNutsInUptoCardSaid : Prop := Claim7.holds Tryd.pinned (.plain (OpenSpec.upto fnExactNutsInSpec)) fnExactNutsInUptoCard

/-- THE SECOND FORM's CARD OF 'laws.FnExactNutsInPart'. -/
def fnExactNutsInPartUptoCard : Claim7 := { stood := { row := fnExactNutsInPartUptoRow, standIns := [], harness := (true, "de2b098b83672cfa973a86aa16ff7a77e37c87b5899a8058bb5c65d2f673a63a"), looks := false }, kinds := [], alts := [], laidByText := true, laidKinds := [.data, .pinned], laidTests := true, laidLooks := .later }
def FnExactNutsInPartUptoCardSaid : Prop := Claim7.holds Tryd.pinned (.plain (OpenSpec.upto fnExactNutsInPartSpec)) fnExactNutsInPartUptoCard

/-- THE SECOND FORM's CARD OF 'laws.FnExactPutNut'. -/
def fnExactPutNutUptoCard : Claim7 := { stood := { row := fnExactPutNutUptoRow, standIns := [], harness := (true, "de2b098b83672cfa973a86aa16ff7a77e37c87b5899a8058bb5c65d2f673a63a"), looks := false }, kinds := [], alts := [], laidByText := true, laidKinds := [.data, .pinned], laidTests := true, laidLooks := .later }
def FnExactPutNutUptoCardSaid : Prop := Claim7.holds Tryd.pinned (.plain (OpenSpec.upto fnExactPutNutSpec)) fnExactPutNutUptoCard

/-- THE SECOND FORM's CARD OF 'laws.FnExactRichestPart'. -/
def fnExactRichestPartUptoCard : Claim7 := { stood := { row := fnExactRichestPartUptoRow, standIns := [], harness := (true, "de2b098b83672cfa973a86aa16ff7a77e37c87b5899a8058bb5c65d2f673a63a"), looks := false }, kinds := [], alts := [], laidByText := true, laidKinds := [.data, .pinned], laidTests := true, laidLooks := .later }
def FnExactRichestPartUptoCardSaid : Prop := Claim7.holds Tryd.pinned (.plain (OpenSpec.upto fnExactRichestPartSpec)) fnExactRichestPartUptoCard

/-- THE SECOND FORM's CARD OF 'laws.FnExactTurnNuts'. -/
def fnExactTurnNutsUptoCard : Claim7 := { stood := { row := fnExactTurnNutsUptoRow, standIns := [], harness := (true, "de2b098b83672cfa973a86aa16ff7a77e37c87b5899a8058bb5c65d2f673a63a"), looks := false }, kinds := [], alts := [], laidByText := true, laidKinds := [.data, .pinned], laidTests := true, laidLooks := .later }
def FnExactTurnNutsUptoCardSaid : Prop := Claim7.holds Tryd.pinned (.plain (OpenSpec.upto fnExactTurnNutsSpec)) fnExactTurnNutsUptoCard

/-- THE SECOND FORM's CARD OF 'laws.FnExactSameNuts'. -/
def fnExactSameNutsUptoCard : Claim7 := { stood := { row := fnExactSameNutsUptoRow, standIns := [], harness := (true, "de2b098b83672cfa973a86aa16ff7a77e37c87b5899a8058bb5c65d2f673a63a"), looks := false }, kinds := [], alts := [], laidByText := true, laidKinds := [.data, .pinned], laidTests := true, laidLooks := .later }
def FnExactSameNutsUptoCardSaid : Prop := Claim7.holds Tryd.pinned (.plain (OpenSpec.upto fnExactSameNutsSpec)) fnExactSameNutsUptoCard

/-- THE SECOND FORM's CARD OF 'laws.FnExactRowNuts'. -/
def fnExactRowNutsUptoCard : Claim7 := { stood := { row := fnExactRowNutsUptoRow, standIns := [], harness := (true, "de2b098b83672cfa973a86aa16ff7a77e37c87b5899a8058bb5c65d2f673a63a"), looks := false }, kinds := [], alts := [], laidByText := true, laidKinds := [.data, .pinned], laidTests := true, laidLooks := .later }
def FnExactRowNutsUptoCardSaid : Prop := Claim7.holds Tryd.pinned (.plain (OpenSpec.upto fnExactRowNutsSpec)) fnExactRowNutsUptoCard

/-- THE SECOND FORM's CARD OF 'laws.FnExactColumnNuts'. -/
def fnExactColumnNutsUptoCard : Claim7 := { stood := { row := fnExactColumnNutsUptoRow, standIns := [], harness := (true, "de2b098b83672cfa973a86aa16ff7a77e37c87b5899a8058bb5c65d2f673a63a"), looks := false }, kinds := [], alts := [], laidByText := true, laidKinds := [.data, .pinned], laidTests := true, laidLooks := .later }
def FnExactColumnNutsUptoCardSaid : Prop := Claim7.holds Tryd.pinned (.plain (OpenSpec.upto fnExactColumnNutsSpec)) fnExactColumnNutsUptoCard

/-- THE SECOND FORM's CARD OF 'laws.FnExactNutsText'. -/
def fnExactNutsTextUptoCard : Claim7 := { stood := { row := fnExactNutsTextUptoRow, standIns := [], harness := (true, "de2b098b83672cfa973a86aa16ff7a77e37c87b5899a8058bb5c65d2f673a63a"), looks := false }, kinds := [], alts := [], laidByText := true, laidKinds := [.data, .pinned], laidTests := true, laidLooks := .later }
def FnExactNutsTextUptoCardSaid : Prop := Claim7.holds Tryd.pinned (.plain (OpenSpec.upto fnExactNutsTextSpec)) fnExactNutsTextUptoCard

/-- THE SECOND FORM's CARD OF 'laws.FnExactParseNuts'. -/
def fnExactParseNutsUptoCard : Claim7 := { stood := { row := fnExactParseNutsUptoRow, standIns := [], harness := (true, "de2b098b83672cfa973a86aa16ff7a77e37c87b5899a8058bb5c65d2f673a63a"), looks := false }, kinds := [], alts := [], laidByText := true, laidKinds := [.data, .pinned], laidTests := true, laidLooks := .later }
def FnExactParseNutsUptoCardSaid : Prop := Claim7.holds Tryd.pinned (.plain (OpenSpec.upto fnExactParseNutsSpec)) fnExactParseNutsUptoCard
end Rows
end Go.Proofs.YthfmfeghipjpdaaDoor

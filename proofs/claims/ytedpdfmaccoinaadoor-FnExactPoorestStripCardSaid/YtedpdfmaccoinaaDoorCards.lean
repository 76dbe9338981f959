/-
  DERIVED. GIVEN WITH THE SEED: THE CARDS: each row of YtedpdfmaccoinaaDoorRows.lean that lists a variable, with what it lists TIED to the program's text (the seventh form; the later family's looks); each row that meets fmt, with fmt's text TOLD by the authors' own Lean function (tested against real Go, not proved from fmt's source: count such statements apart). THE CARD IS WHAT COUNTS. Prove the row's statement (the work); the ties are given (YtedpdfmaccoinaaDoorTie.lean); close each card by the builder's one call (the guide's Derived/Test/ToyasCard.lean, 'card_holds'). Laid BY PROGRAM, IN A SANDBOX (cutbox-door.mjs). By AI agents, Wed Nov 11 2026. No macro, syntax, notation, axiom, sorry.
-/
import Derived.Test.YtedpdfmaccoinaaDoorRows
import GoSem.ClaimSeven
namespace Go.Proofs.YtedpdfmaccoinaaDoor
namespace Rows

/-- THE TIED CARD OF 'laws.FnExactCountParts'. -/
def fnExactCountPartsCard : Claim7 := { stood := { row := fnExactCountPartsRow, standIns := [], harness := (true, "b84f85ae059af165f45389407e804c359bed9f452aa4b8f8901f336ccee0c3f0"), looks := false }, kinds := [], alts := [], laidByText := true, laidKinds := [.data, .pinned], laidTests := true, laidLooks := .later }
def FnExactCountPartsCardSaid : Prop := Claim7.holds Tryd.pinned (.plain (OpenSpec.ofChange fnExactCountPartsSpec)) fnExactCountPartsCard

/-- THE TIED CARD OF 'laws.FnExactGreatestPart'. -/
def fnExactGreatestPartCard : Claim7 := { stood := { row := fnExactGreatestPartRow, standIns := [], harness := (true, "b84f85ae059af165f45389407e804c359bed9f452aa4b8f8901f336ccee0c3f0"), looks := false }, kinds := [], alts := [], laidByText := true, laidKinds := [.data, .pinned], laidTests := true, laidLooks := .later }
def FnExactGreatestPartCardSaid : Prop := Claim7.holds Tryd.pinned (.plain (OpenSpec.ofChange fnExactGreatestPartSpec)) fnExactGreatestPartCard

/-- THE TIED CARD OF 'laws.FnExactEvenBreak'. -/
def fnExactEvenBreakCard : Claim7 := { stood := { row := fnExactEvenBreakRow, standIns := [], harness := (true, "b84f85ae059af165f45389407e804c359bed9f452aa4b8f8901f336ccee0c3f0"), looks := false }, kinds := [], alts := [], laidByText := true, laidKinds := [.data, .pinned], laidTests := true, laidLooks := .later }
def FnExactEvenBreakCardSaid : Prop := Claim7.holds Tryd.pinned (.plain (OpenSpec.ofChange fnExactEvenBreakSpec)) fnExactEvenBreakCard

/-- THE TIED CARD OF 'laws.FnExactEqualBreaks'. -/
def fnExactEqualBreaksCard : Claim7 := { stood := { row := fnExactEqualBreaksRow, standIns := [], harness := (true, "b84f85ae059af165f45389407e804c359bed9f452aa4b8f8901f336ccee0c3f0"), looks := false }, kinds := [], alts := [], laidByText := true, laidKinds := [.data, .pinned], laidTests := true, laidLooks := .later }
def FnExactEqualBreaksCardSaid : Prop := Claim7.holds Tryd.pinned (.plain (OpenSpec.ofChange fnExactEqualBreaksSpec)) fnExactEqualBreaksCard

/-- THE TIED CARD OF 'laws.FnExactPoorestStrip'. -/
def fnExactPoorestStripCard : Claim7 := { stood := { row := fnExactPoorestStripRow, standIns := [], harness := (true, "b84f85ae059af165f45389407e804c359bed9f452aa4b8f8901f336ccee0c3f0"), looks := false }, kinds := [], alts := [], laidByText := true, laidKinds := [.data, .pinned], laidTests := true, laidLooks := .later }
def FnExactPoorestStripCardSaid : Prop := Claim7.holds Tryd.pinned (.plain (OpenSpec.ofChange fnExactPoorestStripSpec)) fnExactPoorestStripCard

/-- THE TIED CARD OF 'laws.FnExactFirstStrips'. -/
def fnExactFirstStripsCard : Claim7 := { stood := { row := fnExactFirstStripsRow, standIns := [], harness := (true, "b84f85ae059af165f45389407e804c359bed9f452aa4b8f8901f336ccee0c3f0"), looks := false }, kinds := [], alts := [], laidByText := true, laidKinds := [.data, .pinned], laidTests := true, laidLooks := .later }
def FnExactFirstStripsCardSaid : Prop := Claim7.holds Tryd.pinned (.plain (OpenSpec.ofChange fnExactFirstStripsSpec)) fnExactFirstStripsCard

/-- THE TIED CARD OF 'laws.FnExactPoorestPiece'. -/
def fnExactPoorestPieceCard : Claim7 := { stood := { row := fnExactPoorestPieceRow, standIns := [], harness := (true, "b84f85ae059af165f45389407e804c359bed9f452aa4b8f8901f336ccee0c3f0"), looks := false }, kinds := [], alts := [], laidByText := true, laidKinds := [.data, .pinned], laidTests := true, laidLooks := .later }
def FnExactPoorestPieceCardSaid : Prop := Claim7.holds Tryd.pinned (.plain (OpenSpec.ofChange fnExactPoorestPieceSpec)) fnExactPoorestPieceCard

/-- THE TIED CARD OF 'laws.FnExactFewestPieces'. -/
def fnExactFewestPiecesCard : Claim7 := { stood := { row := fnExactFewestPiecesRow, standIns := [], harness := (true, "b84f85ae059af165f45389407e804c359bed9f452aa4b8f8901f336ccee0c3f0"), looks := false }, kinds := [], alts := [], laidByText := true, laidKinds := [.data, .pinned], laidTests := true, laidLooks := .later }
def FnExactFewestPiecesCardSaid : Prop := Claim7.holds Tryd.pinned (.plain (OpenSpec.ofChange fnExactFewestPiecesSpec)) fnExactFewestPiecesCard

/-- THE SECOND FORM's CARD OF 'laws.FnExactCountParts'. -/
def fnExactCountPartsUptoCard : Claim7 := { stood := { row := fnExactCountPartsUptoRow, standIns := [], harness := (true, "b84f85ae059af165f45389407e804c359bed9f452aa4b8f8901f336ccee0c3f0"), looks := false }, kinds := [], alts := [], laidByText := true, laidKinds := [.data, .pinned], laidTests := true, laidLooks := .later }
def FnExactCountPartsUptoCardSaid : Prop := Claim7.holds Tryd.pinned (.plain (OpenSpec.upto fnExactCountPartsSpec)) fnExactCountPartsUptoCard

/-- THE SECOND FORM's CARD OF 'laws.FnExactGreatestPart'. -/
def fnExactGreatestPartUptoCard : Claim7 := { stood := { row := fnExactGreatestPartUptoRow, standIns := [], harness := (true, "b84f85ae059af165f45389407e804c359bed9f452aa4b8f8901f336ccee0c3f0"), looks := false }, kinds := [], alts := [], laidByText := true, laidKinds := [.data, .pinned], laidTests := true, laidLooks := .later }
def FnExactGreatestPartUptoCardSaid : Prop := Claim7.holds Tryd.pinned (.plain (OpenSpec.upto fnExactGreatestPartSpec)) fnExactGreatestPartUptoCard

/-- THE SECOND FORM's CARD OF 'laws.FnExactEvenBreak'. -/
def fnExactEvenBreakUptoCard : Claim7 := { stood := { row := fnExactEvenBreakUptoRow, standIns := [], harness := (true, "b84f85ae059af165f45389407e804c359bed9f452aa4b8f8901f336ccee0c3f0"), looks := false }, kinds := [], alts := [], laidByText := true, laidKinds := [.data, .pinned], laidTests := true, laidLooks := .later }
def FnExactEvenBreakUptoCardSaid : Prop := Claim7.holds Tryd.pinned (.plain (OpenSpec.upto fnExactEvenBreakSpec)) fnExactEvenBreakUptoCard

/-- THE SECOND FORM's CARD OF 'laws.FnExactEqualBreaks'. -/
def fnExactEqualBreaksUptoCard : Claim7 := { stood := { row := fnExactEqualBreaksUptoRow, standIns := [], harness := (true, "b84f85ae059af165f45389407e804c359bed9f452aa4b8f8901f336ccee0c3f0"), looks := false }, kinds := [], alts := [], laidByText := true, laidKinds := [.data, .pinned], laidTests := true, laidLooks := .later }
def FnExactEqualBreaksUptoCardSaid : Prop := Claim7.holds Tryd.pinned (.plain (OpenSpec.upto fnExactEqualBreaksSpec)) fnExactEqualBreaksUptoCard

/-- THE SECOND FORM's CARD OF 'laws.FnExactPoorestStrip'. -/
def fnExactPoorestStripUptoCard : Claim7 := { stood := { row := fnExactPoorestStripUptoRow, standIns := [], harness := (true, "b84f85ae059af165f45389407e804c359bed9f452aa4b8f8901f336ccee0c3f0"), looks := false }, kinds := [], alts := [], laidByText := true, laidKinds := [.data, .pinned], laidTests := true, laidLooks := .later }
def FnExactPoorestStripUptoCardSaid : Prop := Claim7.holds Tryd.pinned (.plain (OpenSpec.upto fnExactPoorestStripSpec)) fnExactPoorestStripUptoCard

/-- THE SECOND FORM's CARD OF 'laws.FnExactFirstStrips'. -/
def fnExactFirstStripsUptoCard : Claim7 := { stood := { row := fnExactFirstStripsUptoRow, standIns := [], harness := (true, "b84f85ae059af165f45389407e804c359bed9f452aa4b8f8901f336ccee0c3f0"), looks := false }, kinds := [], alts := [], laidByText := true, laidKinds := [.data, .pinned], laidTests := true, laidLooks := .later }
def FnExactFirstStripsUptoCardSaid : Prop := Claim7.holds Tryd.pinned (.plain (OpenSpec.upto fnExactFirstStripsSpec)) fnExactFirstStripsUptoCard

/-- THE SECOND FORM's CARD OF 'laws.FnExactPoorestPiece'. -/
def fnExactPoorestPieceUptoCard : Claim7 := { stood := { row := fnExactPoorestPieceUptoRow, standIns := [], harness := (true, "b84f85ae059af165f45389407e804c359bed9f452aa4b8f8901f336ccee0c3f0"), looks := false }, kinds := [], alts := [], laidByText := true, laidKinds := [.data, .pinned], laidTests := true, laidLooks := .later }
def FnExactPoorestPieceUptoCardSaid : Prop := Claim7.holds Tryd.pinned (.plain (OpenSpec.upto fnExactPoorestPieceSpec)) fnExactPoorestPieceUptoCard

/-- THE SECOND FORM's CARD OF 'laws.FnExactFewestPieces'. -/
def fnExactFewestPiecesUptoCard : Claim7 := { stood := { row := fnExactFewestPiecesUptoRow, standIns := [], harness := (true, "b84f85ae059af165f45389407e804c359bed9f452aa4b8f8901f336ccee0c3f0"), looks := false }, kinds := [], alts := [], laidByText := true, laidKinds := [.data, .pinned], laidTests := true, laidLooks := .later }
def FnExactFewestPiecesUptoCardSaid : Prop := Claim7.holds Tryd.pinned (.plain (OpenSpec.upto fnExactFewestPiecesSpec)) fnExactFewestPiecesUptoCard
end Rows
end Go.Proofs.YtedpdfmaccoinaaDoor

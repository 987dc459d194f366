/-
  DERIVED. GIVEN WITH THE SEED: THE CARDS: each row of YtnahjgiihddofaaDoorRows.lean that lists a variable, with what it lists TIED to the program's text (the seventh form; the later family's looks); each row that meets fmt, with fmt's text TOLD by the authors' own Lean function (tested against real Go, not proved from fmt's source: count such statements apart). THE CARD IS WHAT COUNTS. Prove the row's statement (the work); the ties are given (YtnahjgiihddofaaDoorTie.lean); close each card by the builder's one call (the guide's Derived/Test/ToyasCard.lean, 'card_holds'). Laid BY PROGRAM, IN A SANDBOX (cutbox-door.mjs). By AI agents, Wed Nov 11 2026. No macro, syntax, notation, axiom, sorry.
-/
import Derived.Test.YtnahjgiihddofaaDoorRows
import GoSem.ClaimSeven
namespace Go.Proofs.YtnahjgiihddofaaDoor
namespace Rows

/-- THE TIED CARD OF 'quillonlaw02.TextPlaces'. -/
def textPlacesCard : Claim7 := { stood := { row := textPlacesRow, standIns := [], harness := (true, "9daa27f7b17d973dc0d395a0e93842338107a63f86bc1ba8781c7b687b7ed017"), looks := false }, kinds := [], alts := [], laidByText := true, laidKinds := [.data, .data, .data], laidTests := true, laidLooks := .later }
def TextPlacesCardSaid : Prop := Claim7.holds Tryd.pinned (.plain (OpenSpec.ofChange textPlacesSpec)) textPlacesCard

/-- THE TIED CARD OF 'quillonlaw02.TextTurned'. -/
def textTurnedCard : Claim7 := { stood := { row := textTurnedRow, standIns := [], harness := (true, "9daa27f7b17d973dc0d395a0e93842338107a63f86bc1ba8781c7b687b7ed017"), looks := false }, kinds := [], alts := [], laidByText := true, laidKinds := [.data, .data, .data], laidTests := true, laidLooks := .later }
def TextTurnedCardSaid : Prop := Claim7.holds Tryd.pinned (.plain (OpenSpec.ofChange textTurnedSpec)) textTurnedCard

/-- THE SECOND FORM's CARD OF 'quillonlaw02.TextPlaces'. -/
def textPlacesUptoCard : Claim7 := { stood := { row := textPlacesUptoRow, standIns := [], harness := (true, "9daa27f7b17d973dc0d395a0e93842338107a63f86bc1ba8781c7b687b7ed017"), looks := false }, kinds := [], alts := [], laidByText := true, laidKinds := [.data, .data, .data], laidTests := true, laidLooks := .later }
def TextPlacesUptoCardSaid : Prop := Claim7.holds Tryd.pinned (.plain (OpenSpec.upto textPlacesSpec)) textPlacesUptoCard

/-- THE SECOND FORM's CARD OF 'quillonlaw02.TextTurned'. -/
def textTurnedUptoCard : Claim7 := { stood := { row := textTurnedUptoRow, standIns := [], harness := (true, "9daa27f7b17d973dc0d395a0e93842338107a63f86bc1ba8781c7b687b7ed017"), looks := false }, kinds := [], alts := [], laidByText := true, laidKinds := [.data, .data, .data], laidTests := true, laidLooks := .later }
def TextTurnedUptoCardSaid : Prop := Claim7.holds Tryd.pinned (.plain (OpenSpec.upto textTurnedSpec)) textTurnedUptoCard
end Rows
end Go.Proofs.YtnahjgiihddofaaDoor

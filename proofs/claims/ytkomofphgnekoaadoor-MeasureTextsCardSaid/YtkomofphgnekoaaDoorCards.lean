/-
  DERIVED. GIVEN WITH THE SEED: THE CARDS: each row of YtkomofphgnekoaaDoorRows.lean that lists a variable, with what it lists TIED to the program's text (the seventh form; the later family's looks); each row that meets fmt, with fmt's text TOLD by the authors' own Lean function (tested against real Go, not proved from fmt's source: count such statements apart). THE CARD IS WHAT COUNTS. Prove the row's statement (the work); the ties are given (YtkomofphgnekoaaDoorTie.lean); close each card by the builder's one call (the guide's Derived/Test/ToyasCard.lean, 'card_holds'). Laid BY PROGRAM, IN A SANDBOX (cutbox-door.mjs). By AI agents, Wed Nov 11 2026. No macro, syntax, notation, axiom, sorry.
-/
import Derived.Test.YtkomofphgnekoaaDoorRows
import GoSem.ClaimSeven
namespace Go.Proofs.YtkomofphgnekoaaDoor
namespace Rows

/-- THE TIED CARD OF 'frisketlaw01.MeasureBack'. -/
def measureBackCard : Claim7 := { stood := { row := measureBackRow, standIns := [], harness := (true, "7d60ee93d9904dd7dcc5e4ccaa35cb33d1182c1d8cac0b0017870f14f4b56c88"), looks := true }, kinds := [], alts := [], laidByText := true, laidKinds := [.data, .data, .data, .data, .pinned], laidTests := true, laidLooks := .later }
def MeasureBackCardSaid : Prop := Claim7.holds Tryd.pinned (.plain (OpenSpec.ofChange measureBackSpec)) measureBackCard

/-- THE TIED CARD OF 'frisketlaw01.MeasureTexts'. -/
def measureTextsCard : Claim7 := { stood := { row := measureTextsRow, standIns := [], harness := (true, "7d60ee93d9904dd7dcc5e4ccaa35cb33d1182c1d8cac0b0017870f14f4b56c88"), looks := true }, kinds := [], alts := [], laidByText := true, laidKinds := [.data, .data, .data, .data, .pinned], laidTests := true, laidLooks := .later }
def MeasureTextsCardSaid : Prop := Claim7.holds Tryd.pinned (.plain (OpenSpec.ofChange measureTextsSpec)) measureTextsCard

/-- THE SECOND FORM's CARD OF 'frisketlaw01.MeasureBack'. -/
def measureBackUptoCard : Claim7 := { stood := { row := measureBackUptoRow, standIns := [], harness := (true, "7d60ee93d9904dd7dcc5e4ccaa35cb33d1182c1d8cac0b0017870f14f4b56c88"), looks := true }, kinds := [], alts := [], laidByText := true, laidKinds := [.data, .data, .data, .data, .pinned], laidTests := true, laidLooks := .later }
def MeasureBackUptoCardSaid : Prop := Claim7.holds Tryd.pinned (.plain (OpenSpec.upto measureBackSpec)) measureBackUptoCard

/-- THE SECOND FORM's CARD OF 'frisketlaw01.MeasureTexts'. -/
def measureTextsUptoCard : Claim7 := { stood := { row := measureTextsUptoRow, standIns := [], harness := (true, "7d60ee93d9904dd7dcc5e4ccaa35cb33d1182c1d8cac0b0017870f14f4b56c88"), looks := true }, kinds := [], alts := [], laidByText := true, laidKinds := [.data, .data, .data, .data, .pinned], laidTests := true, laidLooks := .later }
def MeasureTextsUptoCardSaid : Prop := Claim7.holds Tryd.pinned (.plain (OpenSpec.upto measureTextsSpec)) measureTextsUptoCard
end Rows
end Go.Proofs.YtkomofphgnekoaaDoor

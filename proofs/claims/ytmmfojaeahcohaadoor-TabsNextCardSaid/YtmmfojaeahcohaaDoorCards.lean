/-
  DERIVED. GIVEN WITH THE SEED: THE CARDS: each row of YtmmfojaeahcohaaDoorRows.lean that lists a variable, with what it lists TIED to the program's text (the seventh form; the later family's looks); each row that meets fmt, with fmt's text TOLD by the authors' own Lean function (tested against real Go, not proved from fmt's source: count such statements apart). THE CARD IS WHAT COUNTS. Prove the row's statement (the work); the ties are given (YtmmfojaeahcohaaDoorTie.lean); close each card by the builder's one call (the guide's Derived/Test/ToyasCard.lean, 'card_holds'). Laid BY PROGRAM, IN A SANDBOX (cutbox-door.mjs). By AI agents, Wed Nov 11 2026. No macro, syntax, notation, axiom, sorry.
-/
import Derived.Test.YtmmfojaeahcohaaDoorRows
import GoSem.ClaimSeven
namespace Go.Proofs.YtmmfojaeahcohaaDoor
namespace Rows

/-- THE TIED CARD OF 'frisketlaw12.TabsNext'. -/
def tabsNextCard : Claim7 := { stood := { row := tabsNextRow, standIns := [], harness := (true, "01902152f054e85065bcdfe0dc0f902546f4e54d39a8c42bfb073e228ba69729"), looks := true }, kinds := [], alts := [], laidByText := true, laidKinds := [.data, .data, .data], laidTests := true, laidLooks := .later }
def TabsNextCardSaid : Prop := Claim7.holds Tryd.pinned (.plain (OpenSpec.ofChange tabsNextSpec)) tabsNextCard

/-- THE TIED CARD OF 'frisketlaw12.TabsBack'. -/
def tabsBackCard : Claim7 := { stood := { row := tabsBackRow, standIns := [], harness := (true, "01902152f054e85065bcdfe0dc0f902546f4e54d39a8c42bfb073e228ba69729"), looks := true }, kinds := [], alts := [], laidByText := true, laidKinds := [.data, .data, .data], laidTests := true, laidLooks := .later }
def TabsBackCardSaid : Prop := Claim7.holds Tryd.pinned (.plain (OpenSpec.ofChange tabsBackSpec)) tabsBackCard

/-- THE SECOND FORM's CARD OF 'frisketlaw12.TabsNext'. -/
def tabsNextUptoCard : Claim7 := { stood := { row := tabsNextUptoRow, standIns := [], harness := (true, "01902152f054e85065bcdfe0dc0f902546f4e54d39a8c42bfb073e228ba69729"), looks := true }, kinds := [], alts := [], laidByText := true, laidKinds := [.data, .data, .data], laidTests := true, laidLooks := .later }
def TabsNextUptoCardSaid : Prop := Claim7.holds Tryd.pinned (.plain (OpenSpec.upto tabsNextSpec)) tabsNextUptoCard

/-- THE SECOND FORM's CARD OF 'frisketlaw12.TabsBack'. -/
def tabsBackUptoCard : Claim7 := { stood := { row := tabsBackUptoRow, standIns := [], harness := (true, "01902152f054e85065bcdfe0dc0f902546f4e54d39a8c42bfb073e228ba69729"), looks := true }, kinds := [], alts := [], laidByText := true, laidKinds := [.data, .data, .data], laidTests := true, laidLooks := .later }
def TabsBackUptoCardSaid : Prop := Claim7.holds Tryd.pinned (.plain (OpenSpec.upto tabsBackSpec)) tabsBackUptoCard
end Rows
end Go.Proofs.YtmmfojaeahcohaaDoor

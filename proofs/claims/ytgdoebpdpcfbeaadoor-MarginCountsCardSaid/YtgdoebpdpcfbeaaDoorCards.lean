/-
  DERIVED. GIVEN WITH THE SEED: THE CARDS: each row of YtgdoebpdpcfbeaaDoorRows.lean that lists a variable, with what it lists TIED to the program's text (the seventh form; the later family's looks); each row that meets fmt, with fmt's text TOLD by the authors' own Lean function (tested against real Go, not proved from fmt's source: count such statements apart). THE CARD IS WHAT COUNTS. Prove the row's statement (the work); the ties are given (YtgdoebpdpcfbeaaDoorTie.lean); close each card by the builder's one call (the guide's Derived/Test/ToyasCard.lean, 'card_holds'). Laid BY PROGRAM, IN A SANDBOX (cutbox-door.mjs). By AI agents, Wed Nov 11 2026. No macro, syntax, notation, axiom, sorry.
-/
import Derived.Test.YtgdoebpdpcfbeaaDoorRows
import GoSem.ClaimSeven
namespace Go.Proofs.YtgdoebpdpcfbeaaDoor
namespace Rows

/-- THE TIED CARD OF 'frisketlaw14.MarginCounts'. -/
def marginCountsCard : Claim7 := { stood := { row := marginCountsRow, standIns := [], harness := (true, "5ac6621a315f00d2501a47cb84ebeeadf18c16770c7549ecd657ebadf9dee487"), looks := false }, kinds := [], alts := [], laidByText := true, laidKinds := [.data, .data, .data], laidTests := true, laidLooks := .later }
def MarginCountsCardSaid : Prop := Claim7.holds Tryd.pinned (.plain (OpenSpec.ofChange marginCountsSpec)) marginCountsCard

/-- THE TIED CARD OF 'frisketlaw14.MarginOff'. -/
def marginOffCard : Claim7 := { stood := { row := marginOffRow, standIns := [], harness := (true, "5ac6621a315f00d2501a47cb84ebeeadf18c16770c7549ecd657ebadf9dee487"), looks := false }, kinds := [], alts := [], laidByText := true, laidKinds := [.data, .data, .data], laidTests := true, laidLooks := .later }
def MarginOffCardSaid : Prop := Claim7.holds Tryd.pinned (.plain (OpenSpec.ofChange marginOffSpec)) marginOffCard

/-- THE TIED CARD OF 'frisketlaw14.MarginMade'. -/
def marginMadeCard : Claim7 := { stood := { row := marginMadeRow, standIns := [], harness := (true, "5ac6621a315f00d2501a47cb84ebeeadf18c16770c7549ecd657ebadf9dee487"), looks := false }, kinds := [], alts := [], laidByText := true, laidKinds := [.data, .data, .data, .data, .pinned], laidTests := true, laidLooks := .later }
def MarginMadeCardSaid : Prop := Claim7.holds Tryd.pinned (.plain (OpenSpec.ofChange marginMadeSpec)) marginMadeCard

/-- THE SECOND FORM's CARD OF 'frisketlaw14.MarginCounts'. -/
def marginCountsUptoCard : Claim7 := { stood := { row := marginCountsUptoRow, standIns := [], harness := (true, "5ac6621a315f00d2501a47cb84ebeeadf18c16770c7549ecd657ebadf9dee487"), looks := false }, kinds := [], alts := [], laidByText := true, laidKinds := [.data, .data, .data], laidTests := true, laidLooks := .later }
def MarginCountsUptoCardSaid : Prop := Claim7.holds Tryd.pinned (.plain (OpenSpec.upto marginCountsSpec)) marginCountsUptoCard

/-- THE SECOND FORM's CARD OF 'frisketlaw14.MarginOff'. -/
def marginOffUptoCard : Claim7 := { stood := { row := marginOffUptoRow, standIns := [], harness := (true, "5ac6621a315f00d2501a47cb84ebeeadf18c16770c7549ecd657ebadf9dee487"), looks := false }, kinds := [], alts := [], laidByText := true, laidKinds := [.data, .data, .data], laidTests := true, laidLooks := .later }
def MarginOffUptoCardSaid : Prop := Claim7.holds Tryd.pinned (.plain (OpenSpec.upto marginOffSpec)) marginOffUptoCard

/-- THE SECOND FORM's CARD OF 'frisketlaw14.MarginMade'. -/
def marginMadeUptoCard : Claim7 := { stood := { row := marginMadeUptoRow, standIns := [], harness := (true, "5ac6621a315f00d2501a47cb84ebeeadf18c16770c7549ecd657ebadf9dee487"), looks := false }, kinds := [], alts := [], laidByText := true, laidKinds := [.data, .data, .data, .data, .pinned], laidTests := true, laidLooks := .later }
def MarginMadeUptoCardSaid : Prop := Claim7.holds Tryd.pinned (.plain (OpenSpec.upto marginMadeSpec)) marginMadeUptoCard
end Rows
end Go.Proofs.YtgdoebpdpcfbeaaDoor

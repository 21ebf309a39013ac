/-
  DERIVED. GIVEN WITH THE SEED: THE CARDS: each row of YtmoloaneidledaaDoorRows.lean that lists a variable, with what it lists TIED to the program's text (the seventh form; the later family's looks); each row that meets fmt, with fmt's text TOLD by the authors' own Lean function (tested against real Go, not proved from fmt's source: count such statements apart). THE CARD IS WHAT COUNTS. Prove the row's statement (the work); the ties are given (YtmoloaneidledaaDoorTie.lean); close each card by the builder's one call (the guide's Derived/Test/ToyasCard.lean, 'card_holds'). Laid BY PROGRAM, IN A SANDBOX (cutbox-door.mjs). By AI agents, Wed Nov 11 2026. No macro, syntax, notation, axiom, sorry.
-/
import Derived.Test.YtmoloaneidledaaDoorRows
import GoSem.ClaimSeven
namespace Go.Proofs.YtmoloaneidledaaDoor
namespace Rows

/-- THE TIED CARD OF 'frisketlaw26.ReferData'. -/
def referDataCard : Claim7 := { stood := { row := referDataRow, standIns := [], harness := (true, "204bf793b3d20fc9ce9b74073bcb7c1bbad76b0f6e6f88d5566ead00ccc63828"), looks := false }, kinds := [], alts := [], laidByText := true, laidKinds := [.data, .pinned], laidTests := true, laidLooks := .later }
def ReferDataCardSaid : Prop := Claim7.holds Tryd.pinned (.plain (OpenSpec.ofChange referDataSpec)) referDataCard

/-- THE TIED CARD OF 'frisketlaw26.ReferWrites'. -/
def referWritesCard : Claim7 := { stood := { row := referWritesRow, standIns := [], harness := (true, "204bf793b3d20fc9ce9b74073bcb7c1bbad76b0f6e6f88d5566ead00ccc63828"), looks := false }, kinds := [], alts := [], laidByText := true, laidKinds := [.data, .pinned], laidTests := true, laidLooks := .later }
def ReferWritesCardSaid : Prop := Claim7.holds Tryd.pinned (.plain (OpenSpec.ofChange referWritesSpec)) referWritesCard

/-- THE TIED CARD OF 'frisketlaw26.ReferTells'. -/
def referTellsCard : Claim7 := { stood := { row := referTellsRow, standIns := [], harness := (true, "204bf793b3d20fc9ce9b74073bcb7c1bbad76b0f6e6f88d5566ead00ccc63828"), looks := false }, kinds := [], alts := [], laidByText := true, laidKinds := [.data, .data, .data, .data, .pinned], laidTests := true, laidLooks := .later }
def ReferTellsCardSaid : Prop := Claim7.holds Tryd.pinned (.plain (OpenSpec.ofChange referTellsSpec)) referTellsCard

/-- THE SECOND FORM's CARD OF 'frisketlaw26.ReferData'. -/
def referDataUptoCard : Claim7 := { stood := { row := referDataUptoRow, standIns := [], harness := (true, "204bf793b3d20fc9ce9b74073bcb7c1bbad76b0f6e6f88d5566ead00ccc63828"), looks := false }, kinds := [], alts := [], laidByText := true, laidKinds := [.data, .pinned], laidTests := true, laidLooks := .later }
def ReferDataUptoCardSaid : Prop := Claim7.holds Tryd.pinned (.plain (OpenSpec.upto referDataSpec)) referDataUptoCard

/-- THE SECOND FORM's CARD OF 'frisketlaw26.ReferWrites'. -/
def referWritesUptoCard : Claim7 := { stood := { row := referWritesUptoRow, standIns := [], harness := (true, "204bf793b3d20fc9ce9b74073bcb7c1bbad76b0f6e6f88d5566ead00ccc63828"), looks := false }, kinds := [], alts := [], laidByText := true, laidKinds := [.data, .pinned], laidTests := true, laidLooks := .later }
def ReferWritesUptoCardSaid : Prop := Claim7.holds Tryd.pinned (.plain (OpenSpec.upto referWritesSpec)) referWritesUptoCard

/-- THE SECOND FORM's CARD OF 'frisketlaw26.ReferTells'. -/
def referTellsUptoCard : Claim7 := { stood := { row := referTellsUptoRow, standIns := [], harness := (true, "204bf793b3d20fc9ce9b74073bcb7c1bbad76b0f6e6f88d5566ead00ccc63828"), looks := false }, kinds := [], alts := [], laidByText := true, laidKinds := [.data, .data, .data, .data, .pinned], laidTests := true, laidLooks := .later }
def ReferTellsUptoCardSaid : Prop := Claim7.holds Tryd.pinned (.plain (OpenSpec.upto referTellsSpec)) referTellsUptoCard
end Rows
end Go.Proofs.YtmoloaneidledaaDoor

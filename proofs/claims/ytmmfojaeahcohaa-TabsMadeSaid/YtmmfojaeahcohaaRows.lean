/-
  No cell of these rows narrows 'for every input' (looked for: loops, veiled, ifaces, maps, wideKeys, modest, calm, conditions, laid).
  DERIVED. THE GIVEN ROWS OF THIS SEAT. 5 by the template 'for every input the law returns true; each argument reads behind the call as it read before'; 0 by the template 'total and deterministic' (their statements: YtmmfojaeahcohaaTotals.lean).
  GIVEN WITH THE SEED: the statements are not yours to turn. If you find one false, say at which input.
  Laid BY PROGRAM, IN A SANDBOX (cutbox-rows.mjs): the forced cells as the released guide's own fill.sh prints them over the translation ccd2c61dc4ba06ef… (all of the seat's roots in one cut). By AI agents, Wed Nov 11 2026. No macro, syntax, notation, axiom, sorry.
-/
import Derived.Test.YtmmfojaeahcohaaChecked
import GoSem.Claim
import GoSem.ClaimJoined
import GoSem.ClaimMapViews
import Derived.JoinedTies
import Derived.KernelRfl
namespace Go.Proofs.Ytmmfojaeahcohaa
/- THE CELL 'sum', in the pinned program and in every row, IS THE sha256 OF THE DUMP (.gsa) THAT YtmmfojaeahcohaaProg.lean LOADS. Nothing in Lean hashes anything: it is a label: what it is worth is what the hold of that sum in a sandbox is worth. -/
noncomputable def Try.pinned : Pinned := { name := "ytmmfojaeahcohaa", sum := "ccd2c61dc4ba06efa7039a5f920e9d6d2f76ea0dfe41b4f82c50332b6b102ee0", checked := Try.checked }
namespace Rows
def none {H : Type} : Left H := { results := [], args := [] }

/-- 'frisketlaw12.TabsRaw': WHATEVER THE INPUT: true; the input reads as it did. -/
def tabsRawSpec : ChangeSpec := { name := "tabsRaw", fn := fun _ => fun
  | [d] => { results := [.lit (.bool true)], args := [d] }
  | _ => none }
def tabsRawRow : OpenClaim := { program := "ytmmfojaeahcohaa", sum := "ccd2c61dc4ba06efa7039a5f920e9d6d2f76ea0dfe41b4f82c50332b6b102ee0", func := "frisket/frisketlaw12.TabsRaw", spec := "tabsRaw", inPlace := ["internal/bytealg.IndexByteString", "internal/bytealg.IndexString"], unfollowed := true, recurses := true, named := ["internal/bytealg.MaxLen"], apart := false }
def TabsRawSaid : Prop := tabsRawRow.holds Try.pinned (OpenSpec.ofChange tabsRawSpec)

/-- ITS FALSE NEIGHBOUR: 'it returns false'. Refute it at one input. -/
def tabsRawWrong : ChangeSpec := { name := "tabsRaw", fn := fun _ => fun
  | [d] => { results := [.lit (.bool false)], args := [d] }
  | _ => none }
def TabsRawWrongFalsely : Prop := tabsRawRow.holds Try.pinned (OpenSpec.ofChange tabsRawWrong)

/-- 'frisketlaw12.TabsMade': WHATEVER THE INPUT: true; the input reads as it did. -/
def tabsMadeSpec : ChangeSpec := { name := "tabsMade", fn := fun _ => fun
  | [d] => { results := [.lit (.bool true)], args := [d] }
  | _ => none }
def tabsMadeRow : OpenClaim := { program := "ytmmfojaeahcohaa", sum := "ccd2c61dc4ba06efa7039a5f920e9d6d2f76ea0dfe41b4f82c50332b6b102ee0", func := "frisket/frisketlaw12.TabsMade", spec := "tabsMade", inPlace := ["internal/bytealg.IndexByteString", "internal/bytealg.IndexString"], unfollowed := true, recurses := true, named := ["internal/bytealg.MaxLen"], apart := false }
def TabsMadeSaid : Prop := tabsMadeRow.holds Try.pinned (OpenSpec.ofChange tabsMadeSpec)

/-- ITS FALSE NEIGHBOUR: 'it returns false'. Refute it at one input. -/
def tabsMadeWrong : ChangeSpec := { name := "tabsMade", fn := fun _ => fun
  | [d] => { results := [.lit (.bool false)], args := [d] }
  | _ => none }
def TabsMadeWrongFalsely : Prop := tabsMadeRow.holds Try.pinned (OpenSpec.ofChange tabsMadeWrong)

/-- 'frisketlaw12.TabsStand': WHATEVER THE INPUT: true; the input reads as it did. -/
def tabsStandSpec : ChangeSpec := { name := "tabsStand", fn := fun _ => fun
  | [d] => { results := [.lit (.bool true)], args := [d] }
  | _ => none }
def tabsStandRow : OpenClaim := { program := "ytmmfojaeahcohaa", sum := "ccd2c61dc4ba06efa7039a5f920e9d6d2f76ea0dfe41b4f82c50332b6b102ee0", func := "frisket/frisketlaw12.TabsStand", spec := "tabsStand", inPlace := ["internal/bytealg.IndexByteString", "internal/bytealg.IndexString"], unfollowed := true, recurses := true, named := ["internal/bytealg.MaxLen"], apart := false }
def TabsStandSaid : Prop := tabsStandRow.holds Try.pinned (OpenSpec.ofChange tabsStandSpec)

/-- ITS FALSE NEIGHBOUR: 'it returns false'. Refute it at one input. -/
def tabsStandWrong : ChangeSpec := { name := "tabsStand", fn := fun _ => fun
  | [d] => { results := [.lit (.bool false)], args := [d] }
  | _ => none }
def TabsStandWrongFalsely : Prop := tabsStandRow.holds Try.pinned (OpenSpec.ofChange tabsStandWrong)

/-- 'frisketlaw12.TabsSplit': WHATEVER THE INPUT: true; the input reads as it did. -/
def tabsSplitSpec : ChangeSpec := { name := "tabsSplit", fn := fun _ => fun
  | [d] => { results := [.lit (.bool true)], args := [d] }
  | _ => none }
def tabsSplitRow : OpenClaim := { program := "ytmmfojaeahcohaa", sum := "ccd2c61dc4ba06efa7039a5f920e9d6d2f76ea0dfe41b4f82c50332b6b102ee0", func := "frisket/frisketlaw12.TabsSplit", spec := "tabsSplit", inPlace := ["internal/bytealg.IndexByteString", "internal/bytealg.IndexString"], unfollowed := true, recurses := true, named := ["internal/bytealg.MaxLen"], apart := false }
def TabsSplitSaid : Prop := tabsSplitRow.holds Try.pinned (OpenSpec.ofChange tabsSplitSpec)

/-- ITS FALSE NEIGHBOUR: 'it returns false'. Refute it at one input. -/
def tabsSplitWrong : ChangeSpec := { name := "tabsSplit", fn := fun _ => fun
  | [d] => { results := [.lit (.bool false)], args := [d] }
  | _ => none }
def TabsSplitWrongFalsely : Prop := tabsSplitRow.holds Try.pinned (OpenSpec.ofChange tabsSplitWrong)

/-- 'frisketlaw12.TabsParses': WHATEVER THE INPUT: true; the input reads as it did. -/
def tabsParsesSpec : ChangeSpec := { name := "tabsParses", fn := fun _ => fun
  | [d1, d2, d3] => { results := [.lit (.bool true)], args := [d1, d2, d3] }
  | _ => none }
def tabsParsesRow : OpenClaim := { program := "ytmmfojaeahcohaa", sum := "ccd2c61dc4ba06efa7039a5f920e9d6d2f76ea0dfe41b4f82c50332b6b102ee0", func := "frisket/frisketlaw12.TabsParses", spec := "tabsParses", inPlace := ["internal/bytealg.IndexByteString", "internal/bytealg.IndexString"], unfollowed := true, recurses := true, named := ["internal/bytealg.MaxLen"], apart := false }
def TabsParsesSaid : Prop := tabsParsesRow.holds Try.pinned (OpenSpec.ofChange tabsParsesSpec)

/-- ITS FALSE NEIGHBOUR: 'it returns false'. Refute it at one input. -/
def tabsParsesWrong : ChangeSpec := { name := "tabsParses", fn := fun _ => fun
  | [d1, d2, d3] => { results := [.lit (.bool false)], args := [d1, d2, d3] }
  | _ => none }
def TabsParsesWrongFalsely : Prop := tabsParsesRow.holds Try.pinned (OpenSpec.ofChange tabsParsesWrong)

/- THE SECOND FORM. 'bulk': how many values and letters a reading holds, each counted each time it is reached (what is shared counts as often as it is met; a slice's spare places count too). A statement '..UptoSaid' is the law's where the arguments, and the package variables that the reading takes, are together of bulk at most 1048576: NARROWER than '..Said'. Prove '..Said' where nothing that the law and all that it calls make is longer than what came in: it says more and counts as full. Else prove '..UptoSaid'. A law counts once. -/
mutual
def uptoBulk {H : Type} : DataW H → Nat
  | .lit (.string bytes) => bytes.length + 1
  | .lit _ => 1
  | .nil => 1
  | .ptr d => uptoBulk d + 1
  | .slice elems spare => uptoBulkAll elems + uptoBulkAll spare + 1
  | .agg parts => uptoBulkAll parts + 1
  | .iface _ d => uptoBulk d + 1
  | .map entries => uptoBulkEntries entries + 1
  | .held _ => 1
def uptoBulkAll {H : Type} : List (DataW H) → Nat
  | [] => 0
  | d :: r => uptoBulk d + uptoBulkAll r
def uptoBulkEntries {H : Type} : List (Lit × DataW H) → Nat
  | [] => 0
  | x :: r => uptoBulkEntry x + uptoBulkEntries r
def uptoBulkEntry {H : Type} : Lit × DataW H → Nat
  | (.string bytes, d) => bytes.length + uptoBulk d + 1
  | (_, d) => uptoBulk d + 1
 end
def uptoSmall : (H : Type) → List (DataW H) → Bool := fun _ ds => decide (uptoBulkAll ds ≤ 1048576)
def OpenSpec.upto (s : _root_.Go.ChangeSpec) : _root_.Go.OpenSpec := { _root_.Go.OpenSpec.ofChange s with cond := some uptoSmall }

/-- 'frisketlaw12.TabsRaw', WHERE WHAT IT READS IS OF BULK AT MOST 1048576: true; the input reads as it did. -/
def tabsRawUptoRow : OpenClaim := { program := "ytmmfojaeahcohaa", sum := "ccd2c61dc4ba06efa7039a5f920e9d6d2f76ea0dfe41b4f82c50332b6b102ee0", func := "frisket/frisketlaw12.TabsRaw", spec := "tabsRaw", inPlace := ["internal/bytealg.IndexByteString", "internal/bytealg.IndexString"], unfollowed := true, recurses := true, named := ["internal/bytealg.MaxLen"], apart := false, narrowed := true }
def TabsRawUptoSaid : Prop := tabsRawUptoRow.holds Try.pinned (OpenSpec.upto tabsRawSpec)

/-- 'frisketlaw12.TabsMade', WHERE WHAT IT READS IS OF BULK AT MOST 1048576: true; the input reads as it did. -/
def tabsMadeUptoRow : OpenClaim := { program := "ytmmfojaeahcohaa", sum := "ccd2c61dc4ba06efa7039a5f920e9d6d2f76ea0dfe41b4f82c50332b6b102ee0", func := "frisket/frisketlaw12.TabsMade", spec := "tabsMade", inPlace := ["internal/bytealg.IndexByteString", "internal/bytealg.IndexString"], unfollowed := true, recurses := true, named := ["internal/bytealg.MaxLen"], apart := false, narrowed := true }
def TabsMadeUptoSaid : Prop := tabsMadeUptoRow.holds Try.pinned (OpenSpec.upto tabsMadeSpec)

/-- 'frisketlaw12.TabsStand', WHERE WHAT IT READS IS OF BULK AT MOST 1048576: true; the input reads as it did. -/
def tabsStandUptoRow : OpenClaim := { program := "ytmmfojaeahcohaa", sum := "ccd2c61dc4ba06efa7039a5f920e9d6d2f76ea0dfe41b4f82c50332b6b102ee0", func := "frisket/frisketlaw12.TabsStand", spec := "tabsStand", inPlace := ["internal/bytealg.IndexByteString", "internal/bytealg.IndexString"], unfollowed := true, recurses := true, named := ["internal/bytealg.MaxLen"], apart := false, narrowed := true }
def TabsStandUptoSaid : Prop := tabsStandUptoRow.holds Try.pinned (OpenSpec.upto tabsStandSpec)

/-- 'frisketlaw12.TabsSplit', WHERE WHAT IT READS IS OF BULK AT MOST 1048576: true; the input reads as it did. -/
def tabsSplitUptoRow : OpenClaim := { program := "ytmmfojaeahcohaa", sum := "ccd2c61dc4ba06efa7039a5f920e9d6d2f76ea0dfe41b4f82c50332b6b102ee0", func := "frisket/frisketlaw12.TabsSplit", spec := "tabsSplit", inPlace := ["internal/bytealg.IndexByteString", "internal/bytealg.IndexString"], unfollowed := true, recurses := true, named := ["internal/bytealg.MaxLen"], apart := false, narrowed := true }
def TabsSplitUptoSaid : Prop := tabsSplitUptoRow.holds Try.pinned (OpenSpec.upto tabsSplitSpec)

/-- 'frisketlaw12.TabsParses', WHERE WHAT IT READS IS OF BULK AT MOST 1048576: true; the input reads as it did. -/
def tabsParsesUptoRow : OpenClaim := { program := "ytmmfojaeahcohaa", sum := "ccd2c61dc4ba06efa7039a5f920e9d6d2f76ea0dfe41b4f82c50332b6b102ee0", func := "frisket/frisketlaw12.TabsParses", spec := "tabsParses", inPlace := ["internal/bytealg.IndexByteString", "internal/bytealg.IndexString"], unfollowed := true, recurses := true, named := ["internal/bytealg.MaxLen"], apart := false, narrowed := true }
def TabsParsesUptoSaid : Prop := tabsParsesUptoRow.holds Try.pinned (OpenSpec.upto tabsParsesSpec)

end Rows
end Go.Proofs.Ytmmfojaeahcohaa

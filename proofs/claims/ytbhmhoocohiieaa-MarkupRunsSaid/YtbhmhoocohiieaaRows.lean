/-
  No cell of these rows narrows 'for every input' (looked for: loops, veiled, ifaces, maps, wideKeys, modest, calm, conditions, laid).
  DERIVED. THE GIVEN ROWS OF THIS SEAT. 2 by the template 'for every input the law returns true; each argument reads behind the call as it read before'; 0 by the template 'total and deterministic' (their statements: YtbhmhoocohiieaaTotals.lean).
  GIVEN WITH THE SEED: the statements are not yours to turn. If you find one false, say at which input.
  Laid BY PROGRAM, IN A SANDBOX (cutbox-rows.mjs): the forced cells as the released guide's own fill.sh prints them over the translation 4d4a037bdcebe6d0… (all of the seat's roots in one cut). By AI agents, Wed Nov 11 2026. No macro, syntax, notation, axiom, sorry.
-/
import Derived.Test.YtbhmhoocohiieaaChecked
import GoSem.Claim
import GoSem.ClaimJoined
import GoSem.ClaimMapViews
import Derived.JoinedTies
import Derived.KernelRfl
namespace Go.Proofs.Ytbhmhoocohiieaa
/- THE CELL 'sum', in the pinned program and in every row, IS THE sha256 OF THE DUMP (.gsa) THAT YtbhmhoocohiieaaProg.lean LOADS. Nothing in Lean hashes anything: it is a label: what it is worth is what the hold of that sum in a sandbox is worth. -/
noncomputable def Try.pinned : Pinned := { name := "ytbhmhoocohiieaa", sum := "4d4a037bdcebe6d076a7ff59276c548540d3d9cd6168cc7b47be512fbae3d989", checked := Try.checked }
namespace Rows
def none {H : Type} : Left H := { results := [], args := [] }

/-- 'frisketlaw32.MarkupNames': WHATEVER THE INPUT: true; the input reads as it did. -/
def markupNamesSpec : ChangeSpec := { name := "markupNames", fn := fun _ => fun
  | [d1, d2] => { results := [.lit (.bool true)], args := [d1, d2] }
  | _ => none }
def markupNamesRow : OpenClaim := { program := "ytbhmhoocohiieaa", sum := "4d4a037bdcebe6d076a7ff59276c548540d3d9cd6168cc7b47be512fbae3d989", func := "frisket/frisketlaw32.MarkupNames", spec := "markupNames", inPlace := ["internal/bytealg.IndexByteString", "internal/bytealg.IndexString"], unfollowed := true, recurses := true, named := ["internal/bytealg.MaxLen"], apart := false }
def MarkupNamesSaid : Prop := markupNamesRow.holds Try.pinned (OpenSpec.ofChange markupNamesSpec)

/-- ITS FALSE NEIGHBOUR: 'it returns false'. Refute it at one input. -/
def markupNamesWrong : ChangeSpec := { name := "markupNames", fn := fun _ => fun
  | [d1, d2] => { results := [.lit (.bool false)], args := [d1, d2] }
  | _ => none }
def MarkupNamesWrongFalsely : Prop := markupNamesRow.holds Try.pinned (OpenSpec.ofChange markupNamesWrong)

/-- 'frisketlaw32.MarkupRuns': WHATEVER THE INPUT: true; the input reads as it did. -/
def markupRunsSpec : ChangeSpec := { name := "markupRuns", fn := fun _ => fun
  | [d] => { results := [.lit (.bool true)], args := [d] }
  | _ => none }
def markupRunsRow : OpenClaim := { program := "ytbhmhoocohiieaa", sum := "4d4a037bdcebe6d076a7ff59276c548540d3d9cd6168cc7b47be512fbae3d989", func := "frisket/frisketlaw32.MarkupRuns", spec := "markupRuns", inPlace := ["internal/bytealg.IndexByteString", "internal/bytealg.IndexString"], unfollowed := true, recurses := true, named := ["internal/bytealg.MaxLen"], apart := false }
def MarkupRunsSaid : Prop := markupRunsRow.holds Try.pinned (OpenSpec.ofChange markupRunsSpec)

/-- ITS FALSE NEIGHBOUR: 'it returns false'. Refute it at one input. -/
def markupRunsWrong : ChangeSpec := { name := "markupRuns", fn := fun _ => fun
  | [d] => { results := [.lit (.bool false)], args := [d] }
  | _ => none }
def MarkupRunsWrongFalsely : Prop := markupRunsRow.holds Try.pinned (OpenSpec.ofChange markupRunsWrong)

/- THE SECOND FORM. 'bulk': how many values and letters a reading holds, each counted each time it is reached (what is shared counts as often as it is met; a slice's spare places count too). A statement '..UptoSaid' is the law's where the arguments, and the package variables that the reading takes, are together of bulk at most 1048576: NARROWER than '..Said'. Prove '..Said' where nothing that the law and all that it calls make is longer than what came in: it says more and counts as full. Else prove '..UptoSaid'. A law counts once. -/
mutual
def uptoBulk {H : Type} : DataW H → Nat
  | .lit (.string bytes) => bytes.length + 1
  | .lit _ => 1
  | .nil => 1
  | .ptr d => uptoBulk d + 1
  | .slice elems spare => uptoBulkAll elems + uptoBulkAll spare + 1
  | .agg parts => uptoBulkAll parts + 1
  | .iface _ d => uptoBulk d + 1
  | .map entries => uptoBulkEntries entries + 1
  | .held _ => 1
def uptoBulkAll {H : Type} : List (DataW H) → Nat
  | [] => 0
  | d :: r => uptoBulk d + uptoBulkAll r
def uptoBulkEntries {H : Type} : List (Lit × DataW H) → Nat
  | [] => 0
  | x :: r => uptoBulkEntry x + uptoBulkEntries r
def uptoBulkEntry {H : Type} : Lit × DataW H → Nat
  | (.string bytes, d) => bytes.length + uptoBulk d + 1
  | (_, d) => uptoBulk d + 1
 end
def uptoSmall : (H : Type) → List (DataW H) → Bool := fun _ ds => decide (uptoBulkAll ds ≤ 1048576)
def OpenSpec.upto (s : _root_.Go.ChangeSpec) : _root_.Go.OpenSpec := { _root_.Go.OpenSpec.ofChange s with cond := some uptoSmall }

/-- 'frisketlaw32.MarkupNames', WHERE WHAT IT READS IS OF BULK AT MOST 1048576: true; the input reads as it did. -/
def markupNamesUptoRow : OpenClaim := { program := "ytbhmhoocohiieaa", sum := "4d4a037bdcebe6d076a7ff59276c548540d3d9cd6168cc7b47be512fbae3d989", func := "frisket/frisketlaw32.MarkupNames", spec := "markupNames", inPlace := ["internal/bytealg.IndexByteString", "internal/bytealg.IndexString"], unfollowed := true, recurses := true, named := ["internal/bytealg.MaxLen"], apart := false, narrowed := true }
def MarkupNamesUptoSaid : Prop := markupNamesUptoRow.holds Try.pinned (OpenSpec.upto markupNamesSpec)

/-- 'frisketlaw32.MarkupRuns', WHERE WHAT IT READS IS OF BULK AT MOST 1048576: true; the input reads as it did. -/
def markupRunsUptoRow : OpenClaim := { program := "ytbhmhoocohiieaa", sum := "4d4a037bdcebe6d076a7ff59276c548540d3d9cd6168cc7b47be512fbae3d989", func := "frisket/frisketlaw32.MarkupRuns", spec := "markupRuns", inPlace := ["internal/bytealg.IndexByteString", "internal/bytealg.IndexString"], unfollowed := true, recurses := true, named := ["internal/bytealg.MaxLen"], apart := false, narrowed := true }
def MarkupRunsUptoSaid : Prop := markupRunsUptoRow.holds Try.pinned (OpenSpec.upto markupRunsSpec)

end Rows
end Go.Proofs.Ytbhmhoocohiieaa

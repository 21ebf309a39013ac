/-
  No cell of these rows narrows 'for every input' (looked for: loops, veiled, ifaces, maps, wideKeys, modest, calm, conditions, laid).
  DERIVED. THE GIVEN ROWS OF THIS SEAT. 4 by the template 'for every input the law returns true; each argument reads behind the call as it read before'; 0 by the template 'total and deterministic' (their statements: YtkomofphgnekoaaTotals.lean).
  GIVEN WITH THE SEED: the statements are not yours to turn. If you find one false, say at which input.
  Laid BY PROGRAM, IN A SANDBOX (cutbox-rows.mjs): the forced cells as the released guide's own fill.sh prints them over the translation 12c83d3b29969160… (all of the seat's roots in one cut). By AI agents, Wed Nov 11 2026. No macro, syntax, notation, axiom, sorry.
-/
import Derived.Test.YtkomofphgnekoaaChecked
import GoSem.Claim
import GoSem.ClaimJoined
import GoSem.ClaimMapViews
import Derived.JoinedTies
import Derived.KernelRfl
namespace Go.Proofs.Ytkomofphgnekoaa
/- THE CELL 'sum', in the pinned program and in every row, IS THE sha256 OF THE DUMP (.gsa) THAT YtkomofphgnekoaaProg.lean LOADS. Nothing in Lean hashes anything: it is a label: what it is worth is what the hold of that sum in a sandbox is worth. -/
noncomputable def Try.pinned : Pinned := { name := "ytkomofphgnekoaa", sum := "12c83d3b299691603f3c960601ca07d06e063fcd13474aae32f8d3bc391ef843", checked := Try.checked }
namespace Rows
def none {H : Type} : Left H := { results := [], args := [] }

/-- 'frisketlaw01.MeasureLeft': WHATEVER THE INPUT: true; the input reads as it did. -/
def measureLeftSpec : ChangeSpec := { name := "measureLeft", fn := fun _ => fun
  | [d] => { results := [.lit (.bool true)], args := [d] }
  | _ => none }
def measureLeftRow : OpenClaim := { program := "ytkomofphgnekoaa", sum := "12c83d3b299691603f3c960601ca07d06e063fcd13474aae32f8d3bc391ef843", func := "frisket/frisketlaw01.MeasureLeft", spec := "measureLeft", unfollowed := true, recurses := true, apart := false }
def MeasureLeftSaid : Prop := measureLeftRow.holds Try.pinned (OpenSpec.ofChange measureLeftSpec)

/-- ITS FALSE NEIGHBOUR: 'it returns false'. Refute it at one input. -/
def measureLeftWrong : ChangeSpec := { name := "measureLeft", fn := fun _ => fun
  | [d] => { results := [.lit (.bool false)], args := [d] }
  | _ => none }
def MeasureLeftWrongFalsely : Prop := measureLeftRow.holds Try.pinned (OpenSpec.ofChange measureLeftWrong)

/-- 'frisketlaw01.MeasureSums': WHATEVER THE INPUT: true; the input reads as it did. -/
def measureSumsSpec : ChangeSpec := { name := "measureSums", fn := fun _ => fun
  | [d] => { results := [.lit (.bool true)], args := [d] }
  | _ => none }
def measureSumsRow : OpenClaim := { program := "ytkomofphgnekoaa", sum := "12c83d3b299691603f3c960601ca07d06e063fcd13474aae32f8d3bc391ef843", func := "frisket/frisketlaw01.MeasureSums", spec := "measureSums", unfollowed := true, recurses := true, apart := false }
def MeasureSumsSaid : Prop := measureSumsRow.holds Try.pinned (OpenSpec.ofChange measureSumsSpec)

/-- ITS FALSE NEIGHBOUR: 'it returns false'. Refute it at one input. -/
def measureSumsWrong : ChangeSpec := { name := "measureSums", fn := fun _ => fun
  | [d] => { results := [.lit (.bool false)], args := [d] }
  | _ => none }
def MeasureSumsWrongFalsely : Prop := measureSumsRow.holds Try.pinned (OpenSpec.ofChange measureSumsWrong)

/-- 'frisketlaw01.MeasureReads': WHATEVER THE INPUT: true; the input reads as it did. -/
def measureReadsSpec : ChangeSpec := { name := "measureReads", fn := fun _ => fun
  | [d1, d2, d3] => { results := [.lit (.bool true)], args := [d1, d2, d3] }
  | _ => none }
def measureReadsRow : OpenClaim := { program := "ytkomofphgnekoaa", sum := "12c83d3b299691603f3c960601ca07d06e063fcd13474aae32f8d3bc391ef843", func := "frisket/frisketlaw01.MeasureReads", spec := "measureReads", unfollowed := true, recurses := true, apart := false }
def MeasureReadsSaid : Prop := measureReadsRow.holds Try.pinned (OpenSpec.ofChange measureReadsSpec)

/-- ITS FALSE NEIGHBOUR: 'it returns false'. Refute it at one input. -/
def measureReadsWrong : ChangeSpec := { name := "measureReads", fn := fun _ => fun
  | [d1, d2, d3] => { results := [.lit (.bool false)], args := [d1, d2, d3] }
  | _ => none }
def MeasureReadsWrongFalsely : Prop := measureReadsRow.holds Try.pinned (OpenSpec.ofChange measureReadsWrong)

/-- 'frisketlaw01.MeasureBits': WHATEVER THE INPUT: true; the input reads as it did. -/
def measureBitsSpec : ChangeSpec := { name := "measureBits", fn := fun _ => fun
  | [d1, d2, d3] => { results := [.lit (.bool true)], args := [d1, d2, d3] }
  | _ => none }
def measureBitsRow : OpenClaim := { program := "ytkomofphgnekoaa", sum := "12c83d3b299691603f3c960601ca07d06e063fcd13474aae32f8d3bc391ef843", func := "frisket/frisketlaw01.MeasureBits", spec := "measureBits", unfollowed := true, recurses := true, apart := false }
def MeasureBitsSaid : Prop := measureBitsRow.holds Try.pinned (OpenSpec.ofChange measureBitsSpec)

/-- ITS FALSE NEIGHBOUR: 'it returns false'. Refute it at one input. -/
def measureBitsWrong : ChangeSpec := { name := "measureBits", fn := fun _ => fun
  | [d1, d2, d3] => { results := [.lit (.bool false)], args := [d1, d2, d3] }
  | _ => none }
def MeasureBitsWrongFalsely : Prop := measureBitsRow.holds Try.pinned (OpenSpec.ofChange measureBitsWrong)

/- THE SECOND FORM. 'bulk': how many values and letters a reading holds, each counted each time it is reached (what is shared counts as often as it is met; a slice's spare places count too). A statement '..UptoSaid' is the law's where the arguments, and the package variables that the reading takes, are together of bulk at most 1048576: NARROWER than '..Said'. Prove '..Said' where nothing that the law and all that it calls make is longer than what came in: it says more and counts as full. Else prove '..UptoSaid'. A law counts once. -/
mutual
def uptoBulk {H : Type} : DataW H → Nat
  | .lit (.string bytes) => bytes.length + 1
  | .lit _ => 1
  | .nil => 1
  | .ptr d => uptoBulk d + 1
  | .slice elems spare => uptoBulkAll elems + uptoBulkAll spare + 1
  | .agg parts => uptoBulkAll parts + 1
  | .iface _ d => uptoBulk d + 1
  | .map entries => uptoBulkEntries entries + 1
  | .held _ => 1
def uptoBulkAll {H : Type} : List (DataW H) → Nat
  | [] => 0
  | d :: r => uptoBulk d + uptoBulkAll r
def uptoBulkEntries {H : Type} : List (Lit × DataW H) → Nat
  | [] => 0
  | x :: r => uptoBulkEntry x + uptoBulkEntries r
def uptoBulkEntry {H : Type} : Lit × DataW H → Nat
  | (.string bytes, d) => bytes.length + uptoBulk d + 1
  | (_, d) => uptoBulk d + 1
 end
def uptoSmall : (H : Type) → List (DataW H) → Bool := fun _ ds => decide (uptoBulkAll ds ≤ 1048576)
def OpenSpec.upto (s : _root_.Go.ChangeSpec) : _root_.Go.OpenSpec := { _root_.Go.OpenSpec.ofChange s with cond := some uptoSmall }

/-- 'frisketlaw01.MeasureLeft', WHERE WHAT IT READS IS OF BULK AT MOST 1048576: true; the input reads as it did. -/
def measureLeftUptoRow : OpenClaim := { program := "ytkomofphgnekoaa", sum := "12c83d3b299691603f3c960601ca07d06e063fcd13474aae32f8d3bc391ef843", func := "frisket/frisketlaw01.MeasureLeft", spec := "measureLeft", unfollowed := true, recurses := true, apart := false, narrowed := true }
def MeasureLeftUptoSaid : Prop := measureLeftUptoRow.holds Try.pinned (OpenSpec.upto measureLeftSpec)

/-- 'frisketlaw01.MeasureSums', WHERE WHAT IT READS IS OF BULK AT MOST 1048576: true; the input reads as it did. -/
def measureSumsUptoRow : OpenClaim := { program := "ytkomofphgnekoaa", sum := "12c83d3b299691603f3c960601ca07d06e063fcd13474aae32f8d3bc391ef843", func := "frisket/frisketlaw01.MeasureSums", spec := "measureSums", unfollowed := true, recurses := true, apart := false, narrowed := true }
def MeasureSumsUptoSaid : Prop := measureSumsUptoRow.holds Try.pinned (OpenSpec.upto measureSumsSpec)

/-- 'frisketlaw01.MeasureReads', WHERE WHAT IT READS IS OF BULK AT MOST 1048576: true; the input reads as it did. -/
def measureReadsUptoRow : OpenClaim := { program := "ytkomofphgnekoaa", sum := "12c83d3b299691603f3c960601ca07d06e063fcd13474aae32f8d3bc391ef843", func := "frisket/frisketlaw01.MeasureReads", spec := "measureReads", unfollowed := true, recurses := true, apart := false, narrowed := true }
def MeasureReadsUptoSaid : Prop := measureReadsUptoRow.holds Try.pinned (OpenSpec.upto measureReadsSpec)

/-- 'frisketlaw01.MeasureBits', WHERE WHAT IT READS IS OF BULK AT MOST 1048576: true; the input reads as it did. -/
def measureBitsUptoRow : OpenClaim := { program := "ytkomofphgnekoaa", sum := "12c83d3b299691603f3c960601ca07d06e063fcd13474aae32f8d3bc391ef843", func := "frisket/frisketlaw01.MeasureBits", spec := "measureBits", unfollowed := true, recurses := true, apart := false, narrowed := true }
def MeasureBitsUptoSaid : Prop := measureBitsUptoRow.holds Try.pinned (OpenSpec.upto measureBitsSpec)

end Rows
end Go.Proofs.Ytkomofphgnekoaa

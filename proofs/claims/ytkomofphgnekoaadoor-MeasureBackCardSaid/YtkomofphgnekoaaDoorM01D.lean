/- What the laws' parameters hold; the table of powers of ten. -/
import Derived.Test.YtkomofphgnekoaaDoorM01C
import Derived.Test.YtkomofphgnekoaaDoorOpens
import Derived.Test.YtkomofphgnekoaaDoorRows
import Derived.Lib.LaidTab
import Derived.MakeChecks
import Derived.Stop.LaidErr
set_option linter.unusedVariables false
set_option linter.unusedSimpArgs false
namespace Go.Proofs.YtkomofphgnekoaaDoor
open Go.Shelf Go.RowKit Go.Lib Go.Aids Go.MapLit Go.Opens Go.Proofs.YtkomofphgnekoaaDoorW.PrintWords

abbrev kInt : Kd Int := Kd.int .i64
abbrev kThree := Kd.pair kInt (Kd.pair kInt kInt)
def wfI (n : Int) : Prop := (Lit.int .i64 n).wf = true
theorem o3 : Opens Tryd.prog 3 kInt wfI := Opens.int Tryd.underlying3 (by kernel_rfl)
theorem o23 : Opens Tryd.prog 23 kThree (fun p => wfI p.1 ∧ wfI p.2.1 ∧ wfI p.2.2) :=
  Opens.struct (d := kThree) Tryd.underlying23 (by kernel_rfl) (Fields.cons o3 rfl (Fields.cons o3 rfl (Fields.one o3 rfl)))
theorem three_is {w : World} {a : Int × Int × Int} {cs : Array Value} (h : kThree.K w a cs.toList) : cs = #[.int .i64 a.1, .int .i64 a.2.1, .int .i64 a.2.2] := by
  obtain ⟨c1, c2, e, h1, d1, d2, e2, h2, h3⟩ := h
  have g1 : c1 = [.int .i64 a.1] := h1
  have g2 : d1 = [.int .i64 a.2.1] := h2
  have g3 : d2 = [.int .i64 a.2.2] := h3
  subst g1 g2 g3 e2
  apply Array.ext'
  simpa using e
theorem tab_of {W : World} (h : laidMetH Tryd.prog Rows.measureBackRow.laid W) : Tab W := by
  rw [MakeChecks.laidMetH_plain _ _ _ (by kernel_rfl)] at h
  have h2 : laidMet Tryd.prog [("internal/strconv.uint64pow10", Lib.tabData .u64 Lib.pow10Tab), ("unicode/utf8.acceptRanges", Rows.laid_unicode_utf8_acceptRanges), ("unicode/utf8.first", Rows.laid_unicode_utf8_first)] W := h.tail.tail
  exact Lib.tabIs_of_head gPow (t := 89) (e := 81) (n := 20) (by kernel_rfl) (by kernel_rfl) (by kernel_rfl) (by kernel_rfl) (by kernel_rfl) h2
theorem back_row {W w : World} {cs : Array Value} {a : Int × Int × Int} (n : Int) (h : kThree.K W a cs.toList) (ht : Tab w) : Calls Tryd.prog 3 #[.int .i64 n, .agg cs] w fun e w' => e = .returned (.bool true) ∧ Below w.heap.size w w' := by
  rw [three_is h]
  exact back_calls _ _ _ _ w ht
end Go.Proofs.YtkomofphgnekoaaDoor

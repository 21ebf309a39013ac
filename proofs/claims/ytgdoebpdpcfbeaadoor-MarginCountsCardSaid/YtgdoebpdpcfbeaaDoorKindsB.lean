/- What the law MarginCounts' row gives: the table, the numbers. -/
import Derived.Test.YtgdoebpdpcfbeaaDoorKinds
import Derived.Test.YtgdoebpdpcfbeaaDoorWalkH
import Derived.Test.YtgdoebpdpcfbeaaDoorRows
import Derived.Lib.LaidTab
import Derived.MakeChecks
import Derived.Stop.LaidErr
set_option linter.unusedVariables false
set_option linter.unusedSimpArgs false
namespace Go.Proofs.YtgdoebpdpcfbeaaDoor
open Go.Shelf Go.RowKit Go.Lib Go.Aids Go.Opens Go.Proofs.YtgdoebpdpcfbeaaDoorW.PrintWords

theorem tab_of {W : World} (h : laidMetH Tryd.prog Rows.marginCountsRow.laid W) : Tab W := by
  rw [MakeChecks.laidMetH_plain _ _ _ (by kernel_rfl)] at h
  have h2 : laidMet Tryd.prog [("internal/strconv.uint64pow10", Lib.tabData .u64 Lib.pow10Tab)] W := h.tail.tail
  exact Lib.tabIs_of_head gPow (t := 106) (e := 79) (n := 20) (by kernel_rfl) (by kernel_rfl) (by kernel_rfl) (by kernel_rfl) (by kernel_rfl) h2
theorem counts_row {W w : World} {cs : Array Value} {a : Bool × Int × Int × Int × Int × Int} (h : kNum.K W a cs.toList) (kk : Int) (ht : Tab w) : Calls Tryd.prog 3 #[.agg cs, .int .i64 kk] w fun e w' => e = .returned (.bool true) ∧ Below w.heap.size w w' := by
  rw [num_is h]
  exact counts_calls _ _ _ _ _ _ kk w ht
end Go.Proofs.YtgdoebpdpcfbeaaDoor

/- What the laws' parameters hold. -/
import Derived.Test.YtgdoebpdpcfbeaaDoorWalkD
import Derived.Test.YtgdoebpdpcfbeaaDoorOpens
set_option linter.unusedVariables false
set_option linter.unusedSimpArgs false
namespace Go.Proofs.YtgdoebpdpcfbeaaDoor
open Go.Shelf Go.RowKit Go.Lib Go.Aids Go.Opens Go.Proofs.YtgdoebpdpcfbeaaDoorW.PrintWords

abbrev kInt : Kd Int := Kd.int .i64
abbrev kNum := Kd.pair Kd.bool (Kd.pair kInt (Kd.pair kInt (Kd.pair kInt (Kd.pair kInt kInt))))
def wfI (n : Int) : Prop := (Lit.int .i64 n).wf = true
def wfB (b : Bool) : Prop := True
theorem o3 : Opens Tryd.prog 3 kInt wfI := Opens.int Tryd.underlying3 (by kernel_rfl)
theorem o4 : Opens Tryd.prog 4 Kd.bool wfB := (Opens.bool Tryd.underlying4 (by kernel_rfl)).imp (fun _ h => h)
theorem o23 : Opens Tryd.prog 23 kNum (fun p => wfB p.1 ∧ wfI p.2.1 ∧ wfI p.2.2.1 ∧ wfI p.2.2.2.1 ∧ wfI p.2.2.2.2.1 ∧ wfI p.2.2.2.2.2) :=
  Opens.struct (d := kNum) Tryd.underlying23 (by kernel_rfl) (Fields.cons o4 rfl (Fields.cons o3 rfl (Fields.cons o3 rfl (Fields.cons o3 rfl (Fields.cons o3 rfl (Fields.one o3 rfl))))))
theorem num_is {w : World} {a : Bool × Int × Int × Int × Int × Int} {cs : Array Value} (h : kNum.K w a cs.toList) : Value.agg cs = num a.1 a.2.1 a.2.2.1 a.2.2.2.1 a.2.2.2.2.1 a.2.2.2.2.2 := by
  obtain ⟨c1, c2, e, h1, d1, d2, e2, h2, f1, f2, e3, h3, i1, i2, e4, h4, j1, j2, e5, h5, h6⟩ := h
  have g1 : c1 = [.bool a.1] := h1
  have g2 : d1 = [.int .i64 a.2.1] := h2
  have g3 : f1 = [.int .i64 a.2.2.1] := h3
  have g4 : i1 = [.int .i64 a.2.2.2.1] := h4
  have g5 : j1 = [.int .i64 a.2.2.2.2.1] := h5
  have g6 : j2 = [.int .i64 a.2.2.2.2.2] := h6
  subst g1 g2 g3 g4 g5 g6 e5 e4 e3 e2
  congr 1
  apply Array.ext'
  simpa using e
theorem off_row {W w : World} {cs : Array Value} {a : Bool × Int × Int × Int × Int × Int} (h : kNum.K W a cs.toList) : Calls Tryd.prog 4 #[.agg cs] w fun e w' => e = .returned (.bool true) ∧ Below w.heap.size w w' := by
  rw [num_is h]
  exact off_calls _ _ _ _ _ _ w
end Go.Proofs.YtgdoebpdpcfbeaaDoor

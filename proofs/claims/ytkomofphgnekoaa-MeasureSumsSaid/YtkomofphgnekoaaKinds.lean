/- What the laws' parameters hold. -/
import Derived.Test.YtkomofphgnekoaaPureC
import Derived.Test.YtkomofphgnekoaaOpens
set_option linter.unusedVariables false
set_option linter.unusedSimpArgs false
namespace Go.Proofs.Ytkomofphgnekoaa
open Go.Shelf Go.RowKit Go.Lib Go.Aids Go.MapLit Go.Opens Go.Proofs.YtkomofphgnekoaaW.PrintWords

abbrev kInt : Kd Int := Kd.int .i64
abbrev kThree := Kd.pair kInt (Kd.pair kInt kInt)
abbrev kFive := Kd.pair kInt (Kd.pair kInt (Kd.pair kInt (Kd.pair kInt kInt)))
def wfI (n : Int) : Prop := (Lit.int .i64 n).wf = true
theorem o3 : Opens Try.prog 3 kInt wfI := Opens.int Try.underlying3 (by kernel_rfl)
theorem o23 : Opens Try.prog 23 kFive (fun p => wfI p.1 ∧ wfI p.2.1 ∧ wfI p.2.2.1 ∧ wfI p.2.2.2.1 ∧ wfI p.2.2.2.2) :=
  Opens.struct (d := kFive) Try.underlying23 (by kernel_rfl) (Fields.cons o3 rfl (Fields.cons o3 rfl (Fields.cons o3 rfl (Fields.cons o3 rfl (Fields.one o3 rfl)))))
theorem o30 : Opens Try.prog 30 kThree (fun p => wfI p.1 ∧ wfI p.2.1 ∧ wfI p.2.2) :=
  Opens.struct (d := kThree) Try.underlying30 (by kernel_rfl) (Fields.cons o3 rfl (Fields.cons o3 rfl (Fields.one o3 rfl)))
theorem three_is {w : World} {a : Int × Int × Int} {cs : Array Value} (h : kThree.K w a cs.toList) : cs = #[.int .i64 a.1, .int .i64 a.2.1, .int .i64 a.2.2] := by
  obtain ⟨c1, c2, e, h1, d1, d2, e2, h2, h3⟩ := h
  have g1 : c1 = [.int .i64 a.1] := h1
  have g2 : d1 = [.int .i64 a.2.1] := h2
  have g3 : d2 = [.int .i64 a.2.2] := h3
  subst g1 g2 g3 e2
  apply Array.ext'
  simpa using e
theorem five_is {w : World} {a : Int × Int × Int × Int × Int} {cs : Array Value} (h : kFive.K w a cs.toList) : cs = #[.int .i64 a.1, .int .i64 a.2.1, .int .i64 a.2.2.1, .int .i64 a.2.2.2.1, .int .i64 a.2.2.2.2] := by
  obtain ⟨c1, c2, e, h1, d1, d2, e2, h2, f1, f2, e3, h3, i1, i2, e4, h4, h5⟩ := h
  have g1 : c1 = [.int .i64 a.1] := h1
  have g2 : d1 = [.int .i64 a.2.1] := h2
  have g3 : f1 = [.int .i64 a.2.2.1] := h3
  have g4 : i1 = [.int .i64 a.2.2.2.1] := h4
  have g5 : i2 = [.int .i64 a.2.2.2.2] := h5
  subst g1 g2 g3 g4 g5 e4 e3 e2
  apply Array.ext'
  simpa using e
theorem left_row {W w : World} {cs : Array Value} {a : Int × Int × Int × Int × Int} (h : kFive.K W a cs.toList) : Calls Try.prog 3 #[.agg cs] w fun e w' => e = .returned (.bool true) ∧ Below w.heap.size w w' := by
  rw [five_is h]
  exact left_calls _ _ _ _ _ w left_same
end Go.Proofs.Ytkomofphgnekoaa

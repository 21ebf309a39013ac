/- Merged: T12XL. -/
import Derived.Test.YtmmfojaeahcohaaZX0
import Derived.Test.YtmmfojaeahcohaaOpens
set_option linter.unusedVariables false
set_option linter.unusedSimpArgs false
namespace Go.Proofs.Ytmmfojaeahcohaa
open Go.RowKit Go.Opens Go.Lib Go.Aids Go.Proofs.YtmmfojaeahcohaaW.PrintWords Go.Proofs.Ytmmfojaeahcohaa.PTabsMade

def wfI4 (n : Int) : Prop := (Lit.int .i64 n).wf = true
theorem p3 : Opens Try.prog 3 kI wfI4 := Opens.int Try.underlying3 (by kernel_rfl)
def wfI23 (l : List Int) : Prop := l.length ≤ 9223372036854775807 ∧ ∀ a ∈ l, wfI4 a
theorem p23 : Opens Try.prog 23 (Kd.slice 3 kI) wfI23 := Opens.slice p3 Try.underlying23 (by kernel_rfl)
abbrev kMade := Kd.pair (Kd.slice 3 kI) (Kd.pair (Kd.slice 3 kI) (Kd.pair kI kI))
def wfMade (p : List Int × List Int × Int × Int) : Prop := wfI23 p.1 ∧ wfI23 p.2.1 ∧ wfI4 p.2.2.1 ∧ wfI4 p.2.2.2
theorem p44 : Opens Try.prog 44 kMade wfMade :=
  Opens.struct (d := kMade) Try.underlying44 (by kernel_rfl) (Fields.cons p23 rfl (Fields.cons p23 rfl (Fields.cons p3 rfl (Fields.one p3 rfl))))
theorem made_row {W : World} {cs : Array Value} {a : List Int × List Int × Int × Int} (hK : kMade.K W a cs.toList) :
    Calls Try.prog 4 #[.agg cs] W fun e w' => e = .returned (.bool true) ∧ Below W.heap.size W w' := by
  obtain ⟨l, st, tab, lead⟩ := a
  obtain ⟨c0, c1, e0, ⟨A, c, rfl, hc, hA⟩, ⟨d0, d1, rfl, ⟨B, d, rfl, hd, hB⟩, ⟨f0, f1, rfl, h2, h3⟩⟩⟩ := hK
  have g2 : f0 = [.int .i64 tab] := h2
  have g3 : f1 = [.int .i64 lead] := h3
  subst g2 g3
  have hcs : cs = #[.slice A l.length c, .slice B st.length d, .int .i64 tab, .int .i64 lead] := by
    apply Array.ext'
    simpa using e0
  rw [hcs]
  exact law4_calls A B c d l st tab lead W hA hc hB hd
end Go.Proofs.Ytmmfojaeahcohaa

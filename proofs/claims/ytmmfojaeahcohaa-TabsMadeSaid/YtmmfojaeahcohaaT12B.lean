/- Walks of layer 12: a colour, a name. -/
import Derived.WalkKit
import Derived.WalkLawsBesides
import Derived.WalkSpells
import Derived.Deep.QuietTactic
import Derived.BigQuiet
import Derived.StillTailTactics
import Derived.LoopTactic
import Derived.LoopN
import Derived.Deep.LoopGhost
import Derived.Lib.Hide
import Derived.Laws.Pointers
import Derived.Test.YtmmfojaeahcohaaShelf
import Derived.Test.YtmmfojaeahcohaaAids
import Derived.Test.YtmmfojaeahcohaaT12A
set_option linter.unusedVariables false
set_option linter.unusedSimpArgs false
namespace Go.Proofs.Ytmmfojaeahcohaa
open Go.Shelf Go.RowKit Go.Lib Go.Aids Go.Proofs.YtmmfojaeahcohaaW.PrintWords

theorem bad75 (w : World) : PredAt Try.prog 75 #[] encR badR w := fun W r _ => by
  unfold FnGives badR
  by_cases h1 : r < 33 <;> by_cases h2 : 126 < r
  all_goals
    have z1 : (r : Int) < 33 ↔ r < 33 := by omega
    have z2 : (126 : Int) < (r : Int) ↔ 126 < r := by omega
    go_enter Try.func75, Try.ntmps75
    go_wp2
    all_goals first | (exfalso; omega) | (go_ret; exact ⟨by first | (simp [h1, h2]; done) | (simp [h1, h2]; omega), 0, rfl⟩)
theorem bad76 (w : World) : PredAt Try.prog 76 #[] encR badR w := fun W r _ => by
  unfold FnGives badR
  by_cases h1 : r < 33 <;> by_cases h2 : 126 < r
  all_goals
    have z1 : (r : Int) < 33 ↔ r < 33 := by omega
    have z2 : (126 : Int) < (r : Int) ↔ 126 < r := by omega
    go_enter Try.func76, Try.ntmps76
    go_wp2
    all_goals first | (exfalso; omega) | (go_ret; exact ⟨by first | (simp [h1, h2]; done) | (simp [h1, h2]; omega), 0, rfl⟩)
theorem colour_calls (s : ByteArray) (w : World) : Calls Try.prog 54 #[.string s] w fun e w' => e = .returned (.bool (colB s)) ∧ Below w.heap.size w w' := by
  have hC := Lib.hid (fun w => Try.strings_ContainsFunc 75 #[] (enters_of Try.func75 (by kernel_rfl) rfl) _ s w (bad75 w))
  unfold colB
  rw [← seen_iff]
  by_cases h2 : s.size ≤ 20
  · rw [decide_eq_true h2]
    have d2 : decide ((s.size : Int) ≤ 20) = true := decide_eq_true (by omega)
    have d4 : decide (s.size ≤ 20) = true := decide_eq_true (by omega)
    go_enter Try.func54, Try.ntmps54
    go_wp2_with (go_at_call 74; refine (hC.out _).mono ?_; rintro e w' ⟨rfl, hb⟩)
    go_ret
    exact ⟨by simp, hb⟩
  · rw [decide_eq_false h2]
    have d2 : decide ((s.size : Int) ≤ 20) = false := decide_eq_false (by omega)
    have d4 : decide (s.size ≤ 20) = false := decide_eq_false (by omega)
    go_enter Try.func54, Try.ntmps54
    go_wp2
    go_ret
    exact ⟨rfl, Below.refl _ _⟩
theorem named_calls (s : ByteArray) (w : World) : Calls Try.prog 55 #[.string s] w fun e w' => e = .returned (.bool (nameB s)) ∧ Below w.heap.size w w' := by
  have hC := Lib.hid (fun w => Try.strings_ContainsFunc 76 #[] (enters_of Try.func76 (by kernel_rfl) rfl) _ s w (bad76 w))
  unfold nameB
  rw [← seen_iff]
  by_cases h1 : 1 ≤ s.size
  · by_cases h2 : s.size ≤ 10
    · rw [decide_eq_true h1, decide_eq_true h2]
      have d1 : decide ((1 : Int) ≤ s.size) = true := decide_eq_true (by omega)
      have d2 : decide ((s.size : Int) ≤ 10) = true := decide_eq_true (by omega)
      have d3 : decide (1 ≤ s.size) = true := decide_eq_true (by omega)
      have d4 : decide (s.size ≤ 10) = true := decide_eq_true (by omega)
      go_enter Try.func55, Try.ntmps55
      go_wp2_with (go_at_call 74; refine (hC.out _).mono ?_; rintro e w' ⟨rfl, hb⟩)
      go_ret
      exact ⟨by simp, hb⟩
    · rw [decide_eq_true h1, decide_eq_false h2]
      have d1 : decide ((1 : Int) ≤ s.size) = true := decide_eq_true (by omega)
      have d2 : decide ((s.size : Int) ≤ 10) = false := decide_eq_false (by omega)
      have d3 : decide (1 ≤ s.size) = true := decide_eq_true (by omega)
      have d4 : decide (s.size ≤ 10) = false := decide_eq_false (by omega)
      go_enter Try.func55, Try.ntmps55
      go_wp2
      go_ret
      exact ⟨rfl, Below.refl _ _⟩
  · rw [decide_eq_false h1]
    have d1 : decide ((1 : Int) ≤ s.size) = false := decide_eq_false (by omega)
    have d3 : decide (1 ≤ s.size) = false := decide_eq_false (by omega)
    go_enter Try.func55, Try.ntmps55
    go_wp2
    go_ret
    exact ⟨rfl, Below.refl _ _⟩
end Go.Proofs.Ytmmfojaeahcohaa

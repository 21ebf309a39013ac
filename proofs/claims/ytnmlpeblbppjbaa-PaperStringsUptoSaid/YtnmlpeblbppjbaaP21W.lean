/- Walks of layer 21: register's named, none, ask, New, Value. -/
import Derived.WalkKit
import Derived.WalkLawsBesides
import Derived.WalkSpells
import Derived.Deep.QuietTactic
import Derived.BigQuiet
import Derived.StillTailTactics
import Derived.LoopTactic
import Derived.LoopN
import Derived.Deep.LoopGhost
import Derived.Lib.Hide
import Derived.Laws.Pointers
import Derived.Test.YtnmlpeblbppjbaaShelf
import Derived.Test.YtnmlpeblbppjbaaAids
import Derived.Test.YtnmlpeblbppjbaaP21B
set_option linter.unusedVariables false
set_option linter.unusedSimpArgs false
namespace Go.Proofs.Ytnmlpeblbppjbaa
open Go.Shelf Go.RowKit Go.Lib Go.Aids Go.MapLit Go.Proofs.YtnmlpeblbppjbaaW.PrintWords

theorem badN_pred (w : World) : PredAt Try.prog 29 #[] encR badN w := fun W r _ => by
  unfold FnGives badN
  by_cases h1 : r < 33 <;> by_cases h2 : 126 < r <;> by_cases h3 : r = 93
  all_goals
    have z1 : (r : Int) < 33 ↔ r < 33 := by omega
    have z2 : (126 : Int) < (r : Int) ↔ 126 < r := by omega
    have z3 : (r : Int) = 93 ↔ r = 93 := by omega
    go_enter Try.func29, Try.ntmps29
    go_wp2
    all_goals first | (exfalso; omega) | (go_ret; exact ⟨by first | (simp [h1, h2, h3]; done) | (simp [h1, h2, h3]; omega), 0, rfl⟩)
theorem named_calls (s : ByteArray) (w : World) : Calls Try.prog 23 #[.string s] w fun e w' => e = .returned (.bool (namedB s)) ∧ Below w.heap.size w w' := by
  have hC := Lib.hid (fun w => Try.strings_ContainsFunc 29 #[] (enters_of Try.func29 (by kernel_rfl) rfl) _ s w (badN_pred w))
  unfold namedB
  rw [← named_iff]
  by_cases h1 : 1 ≤ s.size
  · by_cases h2 : s.size ≤ 20
    · rw [decide_eq_true h1, decide_eq_true h2]
      have d1 : decide ((1 : Int) ≤ s.size) = true := decide_eq_true (by omega)
      have d2 : decide ((s.size : Int) ≤ 20) = true := decide_eq_true (by omega)
      have d3 : decide (1 ≤ s.size) = true := decide_eq_true (by omega)
      have d4 : decide (s.size ≤ 20) = true := decide_eq_true (by omega)
      go_enter Try.func23, Try.ntmps23
      go_wp2_with (go_at_call 28; refine (hC.out _).mono ?_; rintro e w' ⟨rfl, hb⟩)
      go_ret
      exact ⟨by simp, hb⟩
    · rw [decide_eq_true h1, decide_eq_false h2]
      have d1 : decide ((1 : Int) ≤ s.size) = true := decide_eq_true (by omega)
      have d2 : decide ((s.size : Int) ≤ 20) = false := decide_eq_false (by omega)
      have d3 : decide (1 ≤ s.size) = true := decide_eq_true (by omega)
      have d4 : decide (s.size ≤ 20) = false := decide_eq_false (by omega)
      go_enter Try.func23, Try.ntmps23
      go_wp2
      go_ret
      exact ⟨rfl, Below.refl _ _⟩
  · rw [decide_eq_false h1]
    have d1 : decide ((1 : Int) ≤ s.size) = false := decide_eq_false (by omega)
    have d3 : decide (1 ≤ s.size) = false := decide_eq_false (by omega)
    go_enter Try.func23, Try.ntmps23
    go_wp2
    go_ret
    exact ⟨rfl, Below.refl _ _⟩
/-- An empty book. -/
structure Bok (w : World) (b m : Nat) : Prop where
  cell : w.cell? ⟨b, 0, none⟩ = some (.map (some m))
  map : w.heap[m]? = some (.map #[] 0)
  lt : b < w.heap.size
theorem new_calls (w : World) : Calls Try.prog 12 #[] w fun e w' => e = .returned (.pointer (some ⟨w.heap.size + 1, 0, none⟩)) ∧ Bok w' (w.heap.size + 1) w.heap.size ∧ Below w.heap.size w w' := by
  have hmm := @run_makeMap Try.prog
  go_enter Try.func12, Try.ntmps12
  go_wp2
  go_ret
  refine ⟨by simp, ⟨?_, ?_, ?_⟩, ((Below.refl _ w).alloc (Nat.le_refl _) _).alloc (by simp) _⟩
  · simp
  · exact (Below.heap_alloc _ _ _ (by simp)).trans (heap_alloc_new w _)
  · simp
theorem none_calls (w : World) (b m : Nat) (h : Bok w b m) : Calls Try.prog 22 #[.pointer (some ⟨b, 0, none⟩)] w fun e w' => e = .returned (.bool false) ∧ w = w' := by
  have c0 := h.cell
  have hl := h.lt
  have heq : ∀ W, (binOp .eql 57 (.map (some m)) (.map none)).run Try.prog W = .ok (.bool false) W := fun W => run_eql_map_nil (P := Try.prog) W 57 9 62 (some m) Try.underlying57
  clear h
  go_enter Try.func22, Try.ntmps22
  go_wp2
  go_ret
  exact ⟨rfl, rfl⟩
theorem ask_calls (w : World) (b m : Nat) (s : ByteArray) (h : Bok w b m) : Calls Try.prog 18 #[.pointer (some ⟨b, 0, none⟩), .string s, .bool true, .int .i64 0] w fun e w' => e = .returned (.int .i64 (if namedB s = true then 0 else 6)) ∧ Below w.heap.size w w' := by
  have HN := Lib.hid (fun W => named_calls s W)
  have HO := Lib.hid (none_calls w b m h)
  clear h
  cases hq : namedB s
  · rw [hq] at HN
    clear hq
    go_enter Try.func18, Try.ntmps18
    go_wp2_with (first | (go_at_call 22; refine HO.out.mono ?_; rintro e w1 ⟨rfl, rfl⟩) | (go_at_call 23; refine (HN.out _).mono ?_; rintro e w' ⟨rfl, hb⟩))
    go_ret
    exact ⟨rfl, hb⟩
  · rw [hq] at HN
    clear hq
    go_enter Try.func18, Try.ntmps18
    go_wp2_with (first | (go_at_call 22; refine HO.out.mono ?_; rintro e w1 ⟨rfl, rfl⟩) | (go_at_call 23; refine (HN.out _).mono ?_; rintro e w' ⟨rfl, hb⟩))
    go_ret
    exact ⟨rfl, hb⟩
theorem zero62 (w : World) : (zeroValue 62).run Try.prog w = .ok (.agg #[.int .i64 0, .int .i64 0, .string ⟨#[]⟩]) w := by kernel_rfl
theorem field62 (W : World) : (Instr.field 62 (.agg #[.int .i64 0, .int .i64 0, .string ⟨#[]⟩]) 0).run Try.prog W = .ok (.int .i64 0) W := by kernel_rfl
theorem keyS : KeyLit Try.prog 9 Value.string := KeyLit.string Try.underlying9
theorem value_calls (w : World) (b m : Nat) (s : ByteArray) (h : Bok w b m) (hm : m < w.heap.size) : Calls Try.prog 13 #[.pointer (some ⟨b, 0, none⟩), .string s] w fun e w' => e = .returned (.tuple #[.int .i64 0, .int .i64 (if namedB s = true then 0 else 6)]) ∧ Below w.heap.size w w' := by
  have HA := Lib.hid (ask_calls w b m s h)
  have HH := Lib.hid h
  clear h
  cases hq : namedB s
  · rw [hq] at HA
    clear hq
    go_enter Try.func13, Try.ntmps13
    go_wp2_with (go_at_call 18; refine HA.out.mono ?_; rintro e w1 ⟨rfl, hb⟩)
    go_ret2
    exact ⟨rfl, hb⟩
  · rw [hq] at HA
    clear hq
    have hfd := fun W => field62 W
    go_enter Try.func13, Try.ntmps13
    go_wp2_with (go_at_call 18; refine HA.out.mono ?_; rintro e w1 ⟨rfl, hb⟩; have c1 := (hb.cell HH.out.lt).trans HH.out.cell; have l1 : b < w1.heap.size := Nat.lt_of_lt_of_le HH.out.lt hb.size; have hk : (Instr.lookup 57 (.map (some m)) (.string s) false).run Try.prog w1 = .ok (.agg #[.int .i64 0, .int .i64 0, .string ⟨#[]⟩]) w1 := run_lookup Value.string (fun v : Int => (Value.agg #[.int .i64 v, .int .i64 0, .string ⟨#[]⟩])) keyS Try.underlying57 zero62 [] s (w := w1) (b := m) ((hb.block m hm).trans HH.out.map) false)
    go_ret2
    exact ⟨rfl, hb⟩
end Go.Proofs.Ytnmlpeblbppjbaa

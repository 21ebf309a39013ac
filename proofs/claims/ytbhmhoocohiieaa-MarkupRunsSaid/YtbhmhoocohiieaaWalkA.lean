/- Walks of functions that MarkupNames reaches. -/
import Derived.WalkKit
import Derived.WalkLawsBesides
import Derived.WalkSpells
import Derived.Deep.QuietTactic
import Derived.BigQuiet
import Derived.Lib.Hide
import Derived.Test.YtbhmhoocohiieaaProg
import Derived.Test.YtbhmhoocohiieaaShelf
set_option linter.unusedVariables false
set_option linter.unusedSimpArgs false
namespace Go.Proofs.Ytbhmhoocohiieaa
open Go.Shelf Go.RowKit Go.Lib

def badR (r : Nat) : Bool := decide (r < 33) || decide (126 < r)

theorem text1_pred (w : World) : PredAt Try.prog 22 #[] encR badR w := fun W r _ => by
  unfold FnGives badR
  by_cases h1 : r < 33 <;> by_cases h2 : 126 < r
  all_goals
    have z1 : (r : Int) < 33 ↔ r < 33 := by omega
    have z2 : (126 : Int) < (r : Int) ↔ 126 < r := by omega
    go_enter Try.func22, Try.ntmps22
    go_wp2
    all_goals first | (exfalso; omega) | (go_ret; exact ⟨by simp [h1, h2], 0, rfl⟩)

def textB (s : ByteArray) (lo hi : Int) : Bool := decide (lo ≤ s.size) && (decide ((s.size : Int) ≤ hi) && !decide (0 ≤ Lib.idxFunc badR true s))

theorem text_calls (s : ByteArray) (lo hi : Int) (w : World) :
    Calls Try.prog 16 #[.string s, .int .i64 lo, .int .i64 hi] w fun e w' => e = .returned (.bool (textB s lo hi)) ∧ Below w.heap.size w w' := by
  have hC := Try.strings_ContainsFunc 22 #[] (enters_of Try.func22 (by kernel_rfl) rfl) _ s w (text1_pred w)
  by_cases h1 : lo ≤ (s.size : Int)
  · by_cases h2 : (s.size : Int) ≤ hi
    · rw [show textB s lo hi = !decide (0 ≤ Lib.idxFunc badR true s) by simp [textB, h1, h2]]
      go_enter Try.func16, Try.ntmps16
      go_wp2_with (go_at_call 21; refine hC.mono ?_; rintro e w' ⟨rfl, hb⟩)
      go_ret
      exact ⟨rfl, hb⟩
    · rw [show textB s lo hi = false by simp [textB, h2]]
      go_enter Try.func16, Try.ntmps16
      go_wp2
      go_ret
      exact ⟨rfl, Below.refl _ _⟩
  · rw [show textB s lo hi = false by simp [textB, h1]]
    go_enter Try.func16, Try.ntmps16
    go_wp2
    go_ret
    exact ⟨rfl, Below.refl _ _⟩

theorem text_is {s : ByteArray} {lo hi : Int} {b : Bool} (h : textB s lo hi = b) (w : World) :
    Calls Try.prog 16 #[.string s, .int .i64 lo, .int .i64 hi] w fun e w' => e = .returned (.bool b) ∧ Below w.heap.size w w' := by
  rw [← h]; exact text_calls s lo hi w
theorem textB_nil : textB ⟨#[]⟩ 0 20 = true := by decide
theorem bcell {W w1 : World} (hb : Below W.heap.size W w1) : (∀ b o, b < W.heap.size → w1.cell? ⟨b, o, none⟩ = W.cell? ⟨b, o, none⟩) ∧ (∀ b o, b < W.heap.size → w1.frozen? ⟨b, o, none⟩ = W.frozen? ⟨b, o, none⟩) :=
  ⟨fun b o h => hb.cell (p := ⟨b, o, none⟩) h, fun b o h => hb.frozen (p := ⟨b, o, none⟩) h⟩

set_option maxHeartbeats 2000000 in
/-- raster.Valid at a mark that has a name alone. -/
theorem valid_calls (s : ByteArray) (w : World) :
    Calls Try.prog 10 #[.agg #[.int .i64 0, .int .i64 0, .int .i64 0, .int .i64 0, .int .i64 1, .string ⟨#[]⟩, .string s, .string ⟨#[]⟩, .slice none 0 0]] w fun e w' => e = .returned (.bool (textB s 1 10)) ∧ Below w.heap.size w w' := by
  have H1 := Lib.hid textB_nil
  obtain ⟨b, hb⟩ : ∃ b, textB s 1 10 = b := ⟨_, rfl⟩
  have H2 := Lib.hid hb
  rw [hb]
  clear hb
  cases b
  all_goals
    go_enter Try.func10, Try.ntmps10
    go_wp2_with (first | (go_at_call 15; go_in) | (go_at_call 16; (with_reducible refine (text_is H1.out _).mono ?_); rintro e w1 ⟨rfl, hb1⟩; obtain ⟨hc1, hf1⟩ := bcell hb1; have hz1 : w.heap.size < w1.heap.size := (by have h := hb1.size; simp at h; omega)) | (go_at_call 16; (with_reducible refine (text_is H2.out _).mono ?_); rintro e w2 ⟨rfl, hb2⟩; obtain ⟨hc2, hf2⟩ := bcell hb2))
    go_ret
    have h1 := hb1.size
    simp at h1
    exact ⟨rfl, (((Below.refl _ w).alloc (Nat.le_refl _) _).trans (hb1.mono (by simp))).trans (hb2.mono (by omega))⟩

end Go.Proofs.Ytbhmhoocohiieaa

/- Walks of layer 12: glyph.Valid: a motion down. (Printed by gen_valid12.py.) -/
import Derived.Test.YtmmfojaeahcohaaT12B
set_option linter.unusedVariables false
set_option linter.unusedSimpArgs false
namespace Go.Proofs.Ytmmfojaeahcohaa
open Go.Shelf Go.RowKit Go.Lib Go.Aids Go.Proofs.YtmmfojaeahcohaaW.PrintWords

set_option maxRecDepth 100000 in
set_option maxHeartbeats 4000000 in
theorem valid_3 (w f s : Int) (nm cl : ByteArray) (A : Option Addr) (c m : Nat) (h0 : ¬ w < -1000000) (h1 : ¬ 1000000 < w) (h2 : ¬ f < 0) (h3 : ¬ s < 0) (hc : colB cl = true) (hm63 : m ≤ 9223372036854775807) (W1 : World) :
    Calls Try.prog 24 #[.agg #[.int .i64 3, .int .i64 w, .int .i64 f, .int .i64 s, .string nm, .string cl, .slice A m c]] W1 fun e W' => e = .returned (.bool (bareB f s cl m && decide (nm.toList = []))) ∧ Below W1.heap.size W1 W' := by
  have HC := Lib.hid (fun W => colour_calls cl W)
  rw [hc] at HC
  clear hc
  unfold bareB
  all_goals go_enter Try.func24, Try.ntmps24
  all_goals go_wp2_with (go_at_call 54; (with_reducible refine (HC.out _).mono ?_); rintro e w2 ⟨rfl, hb2⟩; obtain ⟨hc2, hf2⟩ := bcell hb2; have hz2 : W1.heap.size < w2.heap.size := (by have h := hb2.size; simp at h; omega); have HB2 := Lib.hid (((Below.refl _ W1).alloc (Nat.le_refl _) _).trans (hb2.mono (by simp))); clear hb2)
  all_goals
    go_ret
    exact ⟨by first | (simp [*, nat0, int0, emp0]; done) | (simp [*, nat0, int0, emp0]; omega), HB2.out⟩

end Go.Proofs.Ytmmfojaeahcohaa

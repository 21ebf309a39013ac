/- Walks of layer 12: glyph.Valid of any box. -/
import Derived.Test.YtmmfojaeahcohaaT12D4
set_option linter.unusedVariables false
set_option linter.unusedSimpArgs false
namespace Go.Proofs.Ytmmfojaeahcohaa
open Go.Shelf Go.RowKit Go.Lib Go.Aids Go.Opens Go.Proofs.YtmmfojaeahcohaaW.PrintWords

set_option maxRecDepth 100000 in
set_option maxHeartbeats 4000000 in
theorem valid_x (k w f s : Int) (nm cl : ByteArray) (A : Option Addr) (c m : Nat) (k0 : ¬ k = 0) (k1 : ¬ k = 1) (k2 : ¬ k = 2) (k3 : ¬ k = 3) (k4 : ¬ k = 4) (k5 : ¬ k = 5) (k6 : ¬ k = 6) (h0 : ¬ w < -1000000) (h1 : ¬ 1000000 < w) (h2 : ¬ f < 0) (h3 : ¬ s < 0) (hc : colB cl = true) (hm63 : m ≤ 9223372036854775807) (W1 : World) :
    Calls Try.prog 24 #[.agg #[.int .i64 k, .int .i64 w, .int .i64 f, .int .i64 s, .string nm, .string cl, .slice A m c]] W1 fun e W' => e = .returned (.bool false) ∧ Below W1.heap.size W1 W' := by
  have HC := Lib.hid (fun W => colour_calls cl W)
  rw [hc] at HC
  clear hc
  go_enter Try.func24, Try.ntmps24
  go_wp2_with (go_at_call 54; (with_reducible refine (HC.out _).mono ?_); rintro e w2 ⟨rfl, hb2⟩; obtain ⟨hc2, hf2⟩ := bcell hb2; have hz2 : W1.heap.size < w2.heap.size := (by have h := hb2.size; simp at h; omega); have HB2 := Lib.hid (((Below.refl _ W1).alloc (Nat.le_refl _) _).trans (hb2.mono (by simp))); clear hb2)
  all_goals
    go_ret
    exact ⟨rfl, HB2.out⟩
/-- A box, as a value. -/
abbrev boxV (k w f s : Int) (nm cl : ByteArray) (A : Option Addr) (m c : Nat) : Value := .agg #[.int .i64 k, .int .i64 w, .int .i64 f, .int .i64 s, .string nm, .string cl, .slice A m c]
theorem gvalid_calls (k w f s : Int) (nm cl : ByteArray) (A : Option Addr) (c : Nat) (l : List Int) (hl : l.length ≤ 9223372036854775807) (W1 : World) (hC : kI.C W1 A l.length l) :
    Calls Try.prog 24 #[boxV k w f s nm cl A l.length c] W1 fun e W' => e = .returned (.bool (validB k w f s nm cl l)) ∧ Below W1.heap.size W1 W' := by
  unfold validB
  by_cases h0 : w < -1000000
  · rw [if_pos (.inl h0)]; exact valid_w1 k w f s nm cl A c l h0 W1
  by_cases h1 : 1000000 < w
  · rw [if_pos (.inr (.inl h1))]; exact valid_w2 k w f s nm cl A c l h0 h1 W1
  by_cases h2 : f < 0
  · rw [if_pos (.inr (.inr (.inl h2)))]; exact valid_f k w f s nm cl A c l h0 h1 h2 W1
  by_cases h3 : s < 0
  · rw [if_pos (.inr (.inr (.inr h3)))]; exact valid_s k w f s nm cl A c l h0 h1 h2 h3 W1
  rw [if_neg (by omega)]
  cases hc : colB cl
  · exact valid_c k w f s nm cl A c l h0 h1 h2 h3 hc W1
  rw [Bool.true_and]
  unfold kindB
  by_cases k0 : k = 0
  · subst k0; rw [if_pos rfl]; exact valid_0 w f s nm cl A c l.length h0 h1 h2 h3 hc hl W1
  rw [if_neg k0]
  by_cases k1 : k = 1
  · subst k1; rw [if_pos rfl]; exact valid_1 w f s nm cl A c l.length h0 h1 h2 h3 hc hl W1
  rw [if_neg k1]
  by_cases k4 : k = 4
  · subst k4; rw [if_pos rfl]; exact valid_4 w f s nm cl A c l h0 h1 h2 h3 hc hl W1 hC
  rw [if_neg k4]
  by_cases k5 : k = 5
  · subst k5; rw [if_pos rfl]; exact valid_5 w f s nm cl A c l.length h0 h1 h2 h3 hc hl W1
  rw [if_neg k5]
  by_cases k2 : k = 2
  · subst k2; rw [if_pos (by omega)]; exact valid_2 w f s nm cl A c l.length h0 h1 h2 h3 hc hl W1
  by_cases k3 : k = 3
  · subst k3; rw [if_pos (by omega)]; exact valid_3 w f s nm cl A c l.length h0 h1 h2 h3 hc hl W1
  by_cases k6 : k = 6
  · subst k6; rw [if_pos (by omega)]; exact valid_6 w f s nm cl A c l.length h0 h1 h2 h3 hc hl W1
  rw [if_neg (by omega)]
  exact valid_x k w f s nm cl A c l.length k0 k1 k2 k3 k4 k5 k6 h0 h1 h2 h3 hc hl W1
end Go.Proofs.Ytmmfojaeahcohaa

/- Walks of layer 12: glyph.Valid: boxes whose numbers are none. (Printed by gen_valid12.py.) -/
import Derived.Test.YtmmfojaeahcohaaT12B
set_option linter.unusedVariables false
set_option linter.unusedSimpArgs false
namespace Go.Proofs.Ytmmfojaeahcohaa
open Go.Shelf Go.RowKit Go.Lib Go.Aids Go.Proofs.YtmmfojaeahcohaaW.PrintWords

set_option maxRecDepth 100000 in
set_option maxHeartbeats 4000000 in
theorem valid_w1 (k w f s : Int) (nm cl : ByteArray) (A : Option Addr) (c : Nat) (l : List Int) (h : w < -1000000) (W1 : World) :
    Calls Try.prog 24 #[.agg #[.int .i64 k, .int .i64 w, .int .i64 f, .int .i64 s, .string nm, .string cl, .slice A l.length c]] W1 fun e W' => e = .returned (.bool false) ∧ Below W1.heap.size W1 W' := by
  have d1 : decide (w < -1000000) = true := decide_eq_true h
  go_enter Try.func24, Try.ntmps24
  go_wp2
  all_goals
    go_ret
    exact ⟨rfl, (Below.refl _ _).alloc (Nat.le_refl _) _⟩

set_option maxRecDepth 100000 in
set_option maxHeartbeats 4000000 in
theorem valid_w2 (k w f s : Int) (nm cl : ByteArray) (A : Option Addr) (c : Nat) (l : List Int) (h0 : ¬ w < -1000000) (h : 1000000 < w) (W1 : World) :
    Calls Try.prog 24 #[.agg #[.int .i64 k, .int .i64 w, .int .i64 f, .int .i64 s, .string nm, .string cl, .slice A l.length c]] W1 fun e W' => e = .returned (.bool false) ∧ Below W1.heap.size W1 W' := by
  go_enter Try.func24, Try.ntmps24
  go_wp2
  all_goals
    go_ret
    exact ⟨rfl, (Below.refl _ _).alloc (Nat.le_refl _) _⟩

set_option maxRecDepth 100000 in
set_option maxHeartbeats 4000000 in
theorem valid_f (k w f s : Int) (nm cl : ByteArray) (A : Option Addr) (c : Nat) (l : List Int) (h0 : ¬ w < -1000000) (h1 : ¬ 1000000 < w) (h : f < 0) (W1 : World) :
    Calls Try.prog 24 #[.agg #[.int .i64 k, .int .i64 w, .int .i64 f, .int .i64 s, .string nm, .string cl, .slice A l.length c]] W1 fun e W' => e = .returned (.bool false) ∧ Below W1.heap.size W1 W' := by
  go_enter Try.func24, Try.ntmps24
  go_wp2
  all_goals
    go_ret
    exact ⟨rfl, (Below.refl _ _).alloc (Nat.le_refl _) _⟩

set_option maxRecDepth 100000 in
set_option maxHeartbeats 4000000 in
theorem valid_s (k w f s : Int) (nm cl : ByteArray) (A : Option Addr) (c : Nat) (l : List Int) (h0 : ¬ w < -1000000) (h1 : ¬ 1000000 < w) (h2 : ¬ f < 0) (h : s < 0) (W1 : World) :
    Calls Try.prog 24 #[.agg #[.int .i64 k, .int .i64 w, .int .i64 f, .int .i64 s, .string nm, .string cl, .slice A l.length c]] W1 fun e W' => e = .returned (.bool false) ∧ Below W1.heap.size W1 W' := by
  go_enter Try.func24, Try.ntmps24
  go_wp2
  all_goals
    go_ret
    exact ⟨rfl, (Below.refl _ _).alloc (Nat.le_refl _) _⟩

end Go.Proofs.Ytmmfojaeahcohaa

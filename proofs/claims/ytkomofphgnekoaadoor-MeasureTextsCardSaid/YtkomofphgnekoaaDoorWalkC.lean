/- Walks of layer 1's reader: scales. -/
import Derived.Test.YtkomofphgnekoaaDoorWalkB
set_option linter.unusedVariables false
set_option linter.unusedSimpArgs false
namespace Go.Proofs.YtkomofphgnekoaaDoor
open Go.Shelf Go.RowKit Go.Lib Go.Aids Go.MapLit

abbrev SS := List (Int × Int)
abbrev eK : Int → Value := Value.int .u8
abbrev eV : Int → Value := Value.int .i64
theorem keyU : KeyLit Tryd.prog 5 eK := KeyLit.int Tryd.underlying5
theorem zeroI (w : World) : (zeroValue 3).run Tryd.prog w = .ok (.int .i64 0) w := by kernel_rfl
def scL (size vs : Int) : SS := [(117, 1), (112, 10), (80, 120), (105, 720), (99, 283), (109, wrap64 (10 * size)), (110, wrap64 (5 * size)), (118, vs)]
def MS (l : SS) (n : Nat) : Obj := .map (litEs eK eV l) n
def scT (size vs : Int) (n : Nat) : SS := (scL size vs).take n

set_option maxHeartbeats 1000000 in
theorem scales_calls (size vs here : Int) (w : World) :
    Calls Tryd.prog 14 #[.agg #[.int .i64 size, .int .i64 vs, .int .i64 here]] w fun e w' => e = .returned (.map (some (w.heap.size + 1))) ∧ MapIs eK eV w' (w.heap.size + 1) (scL size vs) ∧ Below w.heap.size w w' := by
  obtain ⟨W0, hW0⟩ : ∃ W, W = w.alloc (.cells #[.int .i64 size, .int .i64 vs, .int .i64 here] 23) := ⟨_, rfl⟩
  have hsz : W0.heap.size = w.heap.size + 1 := by rw [hW0]; simp
  have hmm := @run_makeMap Tryd.prog
  have H : ∀ (n : Nat) (k v : Int), find (scT size vs n) k = none → scT size vs n ++ [(k, v)] = scT size vs (n + 1) → (scT size vs n).length = n →
      (Instr.mapUpdate 39 (.map (some (w.heap.size + 1))) (.int .u8 k) (.int .i64 v)).run Tryd.prog (W0.alloc (MS (scT size vs n) n)) = .ok () (W0.alloc (MS (scT size vs (n + 1)) (n + 1))) := by
    intro n k v h1 h2 h3
    have := run_insert eK eV keyU Tryd.underlying39 (scT size vs n) k v h1 W0
    rw [h2, h3, hsz] at this
    exact this
  have h1 : (Instr.mapUpdate 39 (.map (some (w.heap.size + 1))) (.int .u8 117) (.int .i64 1)).run Tryd.prog (W0.alloc (.map #[] 0)) = .ok () (W0.alloc (MS (scT size vs 1) 1)) := H 0 117 1 rfl rfl rfl
  have h2 := H 1 112 10 rfl rfl rfl
  have h3 := H 2 80 120 rfl rfl rfl
  have h4 := H 3 105 720 rfl rfl rfl
  have h5 := H 4 99 283 rfl rfl rfl
  have h6 := H 5 109 (wrap64 (10 * size)) rfl rfl rfl
  have h7 := H 6 110 (wrap64 (5 * size)) rfl rfl rfl
  have h8 := H 7 118 vs rfl rfl rfl
  clear H
  subst hW0
  go_enter Tryd.func14, Tryd.ntmps14
  go_wp2
  go_ret
  exact ⟨rfl, by have := MapIs.made eK eV (w.alloc (.cells #[.int .i64 size, .int .i64 vs, .int .i64 here] 23)) (scL size vs); rw [hsz] at this; exact this, ((Below.refl _ w).alloc (Nat.le_refl _) _).alloc (by simp) _⟩
end Go.Proofs.YtkomofphgnekoaaDoor

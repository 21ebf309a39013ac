/- Walks of layer 1's reader: Eval. -/
import Derived.Test.YtkomofphgnekoaaDoorWalkL
import Derived.Test.YtkomofphgnekoaaDoorPureA
set_option linter.unusedVariables false
set_option linter.unusedSimpArgs false
namespace Go.Proofs.YtkomofphgnekoaaDoor
open Go.Shelf Go.RowKit Go.Lib Go.Aids Go.MapLit Go.Proofs.YtkomofphgnekoaaDoorW.PrintWords

theorem run_m (c : Cx) (m : Nat) : ∀ f j, run { c with m := m } f j = run c f j
  | 0, j => by cases j <;> rfl
  | f + 1, .oper a0 deep => by
    simp only [run, run_m c m f]
    rfl
  | f + 1, .expr a deep => by
    simp only [run, run_m c m f]
  | f + 1, .loop x a0 deep => by
    simp only [run, run_m c m f]
    rfl
theorem okB_ok {s : ByteArray} {scale : Nat} {size vs here : Int} (h : okB scale size vs here = true) (hs : s.size ≤ 4611686018427387904) (hsc : scale < 256) (m : Nat) (mute : Bool) : Cx.Ok ⟨s, scale, size, vs, here, m, mute⟩ := by
  unfold okB at h
  simp only [Bool.and_eq_true, decide_eq_true_eq] at h
  obtain ⟨⟨⟨⟨h1, h2⟩, h3⟩, h4⟩, h5⟩ := h
  have a1 : 0 ≤ size := by omega
  have a2 : size ≤ 1000000 := by omega
  have a3 : 0 ≤ vs := by omega
  have a4 : vs ≤ 1000000 := by omega
  refine ⟨hs, a1, a2, a3, a4, h4, h5, hsc, ?_⟩
  unfold scL at h1
  rw [wrap64_in _ (by omega) (by omega), wrap64_in _ (by omega) (by omega)] at h1
  simp only [find_cons, find_none] at h1
  rw [show (117 : Int) = ((117 : Nat) : Int) from rfl, show (112 : Int) = ((112 : Nat) : Int) from rfl, show (80 : Int) = ((80 : Nat) : Int) from rfl, show (105 : Int) = ((105 : Nat) : Int) from rfl, show (99 : Int) = ((99 : Nat) : Int) from rfl, show (109 : Int) = ((109 : Nat) : Int) from rfl, show (110 : Int) = ((110 : Nat) : Int) from rfl, show (118 : Int) = ((118 : Nat) : Int) from rfl] at h1
  simp only [int_nat] at h1
  exact h1

def fuelOf (s : ByteArray) : Nat := 2 * s.size + 2
def evalRun (s : ByteArray) (scale : Nat) (size vs here : Int) (mute : Bool) : Out := run ⟨s, scale, size, vs, here, 0, mute⟩ (fuelOf s) (.expr 0 0)
def evalO (s : ByteArray) (scale : Nat) (size vs here : Int) : Int × Int :=
  if okB scale size vs here then wholeN s.size (evalRun s scale size vs here false) else (0, 1)
theorem evalRun_stuck (s : ByteArray) (scale : Nat) (size vs here : Int) (mute : Bool) : evalRun s scale size vs here mute ≠ .stuck :=
  run_fuel _ _ _ (Nat.zero_le _) (by show 2 * (s.size - 0) + 2 ≤ 2 * s.size + 2; omega)

theorem whole14_calls (s : ByteArray) (scale : Nat) (size vs here : Int) (w : World) (hsc : scale < 256) (hs : s.size ≤ 4611686018427387904) :
    Calls Tryd.prog 17 #[.string s, .int .u8 scale, .agg #[.int .i64 size, .int .i64 vs, .int .i64 here], .func (.func 18) #[] #[]] w fun e w' => e = .returned (.tuple #[.int .i64 (evalO s scale size vs here).1, .int .i64 (evalO s scale size vs here).2]) ∧ Below w.heap.size w w' := by
  unfold evalO
  rcases hob : okB scale size vs here with _ | _
  · exact whole14_arg s scale size vs here w hsc hob
  · refine whole14_read s scale size vs here w hsc hob _ (evalRun_stuck _ _ _ _ _ _) (fun k h => run_die _ _ _ k h) hs fun W b m h => ?_
    have ok := okB_ok (s := s) hob hs hsc m false
    have e : run ⟨s, scale, size, vs, here, m, false⟩ (fuelOf s) (.expr 0 0) = evalRun s scale size vs here false := run_m ⟨s, scale, size, vs, here, 0, false⟩ m _ _
    have hns := evalRun_stuck s scale size vs here false
    rw [← e] at hns ⊢
    exact eval1_calls W b _ _ h ok hns

theorem eval_calls (s : ByteArray) (scale : Nat) (size vs here : Int) (w : World) (hsc : scale < 256) (hs : s.size ≤ 4611686018427387904) :
    Calls Tryd.prog 6 #[.string s, .int .u8 scale, .agg #[.int .i64 size, .int .i64 vs, .int .i64 here]] w fun e w' => e = .returned (.tuple #[.int .i64 (evalO s scale size vs here).1, .int .i64 (evalO s scale size vs here).2]) ∧ Below w.heap.size w w' := by
  have HO := Lib.hid (fun W => whole14_calls s scale size vs here W hsc hs)
  obtain ⟨r, hr⟩ : ∃ r, evalO s scale size vs here = r := ⟨_, rfl⟩
  rw [hr] at HO ⊢
  clear hr
  go_enter Tryd.func6, Tryd.ntmps6
  go_wp2_with (go_at_call 17; refine (HO.out _).mono ?_; rintro e w1 ⟨rfl, hb⟩)
  go_ret2
  exact ⟨rfl, ((Below.refl _ w).alloc (Nat.le_refl _) _).trans (hb.mono (by simp))⟩
end Go.Proofs.YtkomofphgnekoaaDoor

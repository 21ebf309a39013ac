/- Walks: the fixed example, the law MeasureLeft. -/
import Derived.Test.YtkomofphgnekoaaDigits
set_option linter.unusedVariables false
set_option linter.unusedSimpArgs false
namespace Go.Proofs.Ytkomofphgnekoaa
open Go.Shelf Go.RowKit Go.Lib Go.Aids Go.MapLit Go.Proofs.YtkomofphgnekoaaW.PrintWords

theorem sane_eval : evalO ⟨#[49, 105, 43, 50, 112, 42, 51]⟩ 117 0 0 0 = (2220, 0) := by decide +kernel
theorem sane_calls (w : World) : Calls Try.prog 9 #[] w fun e w' => e = .returned (.bool true) ∧ Below w.heap.size w w' := by
  have H := fun W => eval_calls ⟨#[49, 105, 43, 50, 112, 42, 51]⟩ 117 0 0 0 W (by decide) (by decide)
  rw [sane_eval] at H
  have HH := Lib.hid H
  clear H
  go_enter Try.func9, Try.ntmps9
  go_wp2_with (go_at_call 8; refine (HH.out _).mono ?_; rintro e w1 ⟨rfl, hb⟩)
  go_ret
  exact ⟨rfl, hb⟩

def opsS : ByteArray := ⟨#[43, 45, 42, 47, 37, 60, 62, 61, 38, 58]⟩
def opAt (i : Nat) : ByteArray := opsS.extract i (i + 1)
def leftA (a b c i j : Nat) : ByteArray := digs a ++ opAt i ++ digs b ++ opAt j ++ digs c
def leftB (a b c i j : Nat) : ByteArray := ⟨#[40]⟩ ++ digs a ++ opAt i ++ digs b ++ ⟨#[41]⟩ ++ opAt j ++ digs c
theorem u64_range (A : Int) : 0 ≤ IntKind.u64.wrap A ∧ IntKind.u64.wrap A < 18446744073709551616 := by rw [IntKind.wrap_u64]; omega
theorem u64_mod (A k : Int) (hk : 0 < k) (hk2 : k ≤ 1000000) : ∃ n : Nat, (n : Int) < k ∧ (IntKind.u64.wrap A).tmod k = n ∧ wrap64 n = n := by
  have := u64_range A
  have e : (IntKind.u64.wrap A).tmod k = (IntKind.u64.wrap A) % k := Int.tmod_eq_emod_of_nonneg this.1
  have h0 := Int.emod_nonneg (IntKind.u64.wrap A) (show k ≠ 0 by omega)
  have h1 := Int.emod_lt_of_pos (IntKind.u64.wrap A) hk
  refine ⟨((IntKind.u64.wrap A) % k).toNat, by omega, by rw [e]; omega, wrap64_in _ (by omega) (by omega)⟩
theorem u64_3000 (A : Int) : ∃ n : Nat, n < 3000 ∧ (IntKind.u64.wrap A).tmod 3000 = n ∧ wrap64 n = n := by
  obtain ⟨n, h1, h2, h3⟩ := u64_mod A 3000 (by decide) (by decide)
  exact ⟨n, by clear h2 h3; omega, h2, h3⟩
theorem u64_10 (A : Int) : ∃ n : Nat, n < 10 ∧ (IntKind.u64.wrap A).tmod 10 = n ∧ wrap64 n = n := by
  obtain ⟨n, h1, h2, h3⟩ := u64_mod A 10 (by decide) (by decide)
  exact ⟨n, by clear h2 h3; omega, h2, h3⟩
theorem wrap_succ (i : Nat) (h : i < 10) : wrap64 ((i : Int) + 1) = (i : Int) + 1 := wrap64_in _ (by omega) (by omega)
theorem digs_size (n : Nat) (h : n < 10000) : (digs n).size ≤ 4 := by
  have h1 : ∀ m, m < 10 → (digs m).size = 1 := fun m hm => by rw [digs, dif_pos hm]; rfl
  have step : ∀ m k, (m < 10 → True) → (digs (m / 10)).size ≤ k → 1 ≤ k + 1 → (digs m).size ≤ k + 1 := by
    intro m k _ hk _
    rw [digs]
    split
    · rw [one_size]; omega
    · rw [ByteArray.size_append, one_size]; omega
  have a1 : (digs (n / 10 / 10 / 10)).size ≤ 1 := by rw [h1 _ (by omega)]; omega
  exact step n 3 (fun _ => trivial) (step (n / 10) 2 (fun _ => trivial) (step (n / 10 / 10) 1 (fun _ => trivial) a1 (by omega)) (by omega)) (by omega)

theorem run_op (s : ByteArray) (hs : s.size = 10) (i : Nat) (hi : i < 10) (W : World) :
    (Instr.slice 9 (.string s) (some (.int .i64 (i : Int))) (some (.int .i64 ((i : Int) + 1))) none).run Try.prog W = .ok (.string (s.extract i (i + 1))) W := by
  have h := Go.Aids.run_cut (P := Try.prog) 9 Try.underlying9 s .i64 (i : Int) ((i : Int) + 1) (by omega) (by omega) (by rw [hs]; omega) W
  rw [show ((i : Int)).toNat = i by omega, show ((i : Int) + 1).toNat = i + 1 by omega] at h
  exact h
theorem belowN {B : Nat} {w W : World} (h : Below B w W) (n : Nat) : Below B w (W.drewN n) := ⟨h.os, h.tape, h.output, h.size, h.block⟩
theorem belowStep {B : Nat} {w W W' : World} (h : Below B w W) (k : Below W.heap.size W W') (hB : B ≤ W.heap.size) : Below B w W' := h.trans (k.mono hB)
theorem opAt_size (i : Nat) (h : i < 10) : (opAt i).size = 1 := by
  rw [opAt, ByteArray.size_extract, show opsS.size = 10 from rfl]; omega
set_option maxRecDepth 100000 in
set_option maxHeartbeats 4000000 in
theorem left_calls (A B C op th : Int) (w : World) (HP : ∀ a b c i j : Nat, a < 3000 → b < 3000 → c < 3000 → i < 10 → j < 10 → evalO (leftA a b c i j) 117 0 0 0 = evalO (leftB a b c i j) 117 0 0 0) :
    Calls Try.prog 3 #[.agg #[.int .i64 A, .int .i64 B, .int .i64 C, .int .i64 op, .int .i64 th]] w fun e w' => e = .returned (.bool true) ∧ Below w.heap.size w w' := by
  obtain ⟨a, ha, hA, wA⟩ := u64_3000 A
  obtain ⟨b, hb, hB, wB⟩ := u64_3000 B
  obtain ⟨c, hc, hC, wC⟩ := u64_3000 C
  obtain ⟨i, hi, hI, wI⟩ := u64_10 op
  obtain ⟨j, hj, hJ, wJ⟩ := u64_10 th
  have wi1 := wrap_succ i hi
  have wj1 := wrap_succ j hj
  have ci : ∀ W, (Instr.slice 9 (.string ⟨#[43, 45, 42, 47, 37, 60, 62, 61, 38, 58]⟩) (some (.int .i64 (wrap64 ((IntKind.u64.wrap op).tmod 10)))) (some (.int .i64 (wrap64 (wrap64 ((IntKind.u64.wrap op).tmod 10) + 1)))) none).run Try.prog W = .ok (.string (opAt i)) W := by
    intro W
    rw [hI, wI, wi1]
    exact run_op ⟨#[43, 45, 42, 47, 37, 60, 62, 61, 38, 58]⟩ rfl i hi W
  have cj : ∀ W, (Instr.slice 9 (.string ⟨#[43, 45, 42, 47, 37, 60, 62, 61, 38, 58]⟩) (some (.int .i64 (wrap64 ((IntKind.u64.wrap th).tmod 10)))) (some (.int .i64 (wrap64 (wrap64 ((IntKind.u64.wrap th).tmod 10) + 1)))) none).run Try.prog W = .ok (.string (opAt j)) W := by
    intro W
    rw [hJ, wJ, wj1]
    exact run_op ⟨#[43, 45, 42, 47, 37, 60, 62, 61, 38, 58]⟩ rfl j hj W
  have ua := fun W => digits_calls a W (Nat.lt_trans ha (by decide))
  have ub := fun W => digits_calls b W (Nat.lt_trans hb (by decide))
  have uc := fun W => digits_calls c W (Nat.lt_trans hc (by decide))
  have hp := HP a b c i j ha hb hc hi hj
  clear HP
  have sa := digs_size a (Nat.lt_trans ha (by decide))
  have sb := digs_size b (Nat.lt_trans hb (by decide))
  have sc := digs_size c (Nat.lt_trans hc (by decide))
  have si := opAt_size i hi
  have sj := opAt_size j hj
  have hA' : ∀ _ : Unit, (IntKind.u64.wrap A).tmod 3000 = a := fun _ => hA
  have hB' : ∀ _ : Unit, (IntKind.u64.wrap B).tmod 3000 = b := fun _ => hB
  have hC' : ∀ _ : Unit, (IntKind.u64.wrap C).tmod 3000 = c := fun _ => hC
  have hI' : ∀ _ : Unit, (IntKind.u64.wrap op).tmod 10 = i := fun _ => hI
  have hJ' : ∀ _ : Unit, (IntKind.u64.wrap th).tmod 10 = j := fun _ => hJ
  clear hA hB hC hI hJ
  have Hua := Lib.hid ua
  have Hub := Lib.hid ub
  have Huc := Lib.hid uc
  have sA : (leftA a b c i j).size ≤ 100 := by simp only [leftA, ByteArray.size_append]; omega
  have sB : (leftB a b c i j).size ≤ 100 := by simp only [leftB, ByteArray.size_append, show (ByteArray.mk #[40]).size = 1 from rfl, show (ByteArray.mk #[41]).size = 1 from rfl]; omega
  have E1 := fun W => eval_calls (leftA a b c i j) 117 0 0 0 W (by decide) (by omega)
  have E2 := fun W => eval_calls (leftB a b c i j) 117 0 0 0 W (by decide) (by omega)
  rw [← hp] at E2
  generalize evalO (leftA a b c i j) 117 0 0 0 = r at E1 E2
  obtain ⟨rx, ry⟩ := r
  have S1 := fun W => sane_calls W
  have HE1 := Lib.hid E1
  have HE2 := Lib.hid E2
  have HS1 := Lib.hid S1
  clear ua ub uc hp E1 E2 S1 sA sB
  go_enter Try.func3, Try.ntmps3
  go_wp2
  go_quiet (fail)
  rename Nat => nq0
  go_wp2_with fail
  simp only [hA' (), wA]
  refine (Hua.out _).mono ?_
  rintro e w1 ⟨rfl, b1⟩
  go_wp2_with fail
  simp only [hB' (), wB]
  refine (Hub.out _).mono ?_
  rintro e w2 ⟨rfl, b2⟩
  go_wp2_with fail
  simp only [hC' (), wC]
  refine (Huc.out _).mono ?_
  rintro e w3 ⟨rfl, b3⟩
  go_wp2_with fail
  go_quiet (fail)
  go_wp2_with fail
  refine (HE1.out _).mono ?_
  rintro e w4 ⟨rfl, b4⟩
  go_wp2_with fail
  refine (HE2.out _).mono ?_
  rintro e w5 ⟨rfl, b5⟩
  go_wp2_with fail
  refine (HS1.out _).mono ?_
  rintro e w6 ⟨rfl, b6⟩
  go_wp2_with fail
  go_ret
  have q0 := belowN ((Below.refl w.heap.size w).alloc (Nat.le_refl _) (Obj.cells #[Value.int IntKind.i64 A, Value.int IntKind.i64 B, Value.int IntKind.i64 C, Value.int IntKind.i64 op, Value.int IntKind.i64 th] 23)) nq0
  have q1 := belowStep q0 b1 q0.size
  have q2 := belowStep q1 b2 q1.size
  have q3 := belowStep q2 b3 q2.size
  have q3 := belowN q3 nq
  have q4 := belowStep q3 b4 q3.size
  have q5 := belowStep q4 b5 q4.size
  exact ⟨rfl, belowStep q5 b6 q5.size⟩
end Go.Proofs.Ytkomofphgnekoaa

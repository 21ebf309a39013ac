/- Walks of layer 14: the fixed example, Made, MarginOff. -/
import Derived.Test.YtgdoebpdpcfbeaaDoorWalkC
set_option linter.unusedVariables false
set_option linter.unusedSimpArgs false
namespace Go.Proofs.YtgdoebpdpcfbeaaDoor
open Go.Shelf Go.RowKit Go.Lib Go.Aids Go.Proofs.YtgdoebpdpcfbeaaDoorW.PrintWords Go.Proofs.YtgdoebpdpcfbeaaDoorW.PrintMore

/-- The fixed example's call. -/
theorem take_ten (w : World) : Calls Tryd.prog 7 #[num true 10 5 0 0 0] w fun e' w' => e' = .returned (.tuple #[.string ⟨#[32, 49, 48]⟩, num true 11 5 0 0 0, .int .i64 0]) ∧ Below w.heap.size w w' := by
  have hf : Fit 10 5 0 0 0 := ⟨by decide, by decide, by decide, by decide, by decide, by decide, by decide, by decide, by decide, by decide⟩
  have HI : Hid (∀ W, Below w.heap.size w W → Calls Tryd.prog 15 #[.int .i64 10] W fun e' w' => e' = .returned (.string ⟨#[49, 48]⟩) ∧ Below W.heap.size W w') := Lib.hid (fun W _ => by
    refine (Tryd.strconv_Itoa_small 10 (by decide) W).mono ?_
    rintro e' w' ⟨rfl, rfl⟩
    exact ⟨by rw [show (Lib.decDigits 10).toArray = #[49, 48] by decide +kernel], Below.refl _ _⟩)
  exact show_lowP hf (by decide) (by unfold wrap64; omega) (by decide) w ⟨#[49, 48]⟩ (by decide) HI 1 1 (by decide) ⟨by decide, rfl⟩ (blanks 1) (blanks_size 1 (by decide)) (Lib.hid (fun W => rep_calls 1 (by decide) W))

set_option maxRecDepth 100000 in
set_option maxHeartbeats 4000000 in
theorem sane_calls (w : World) : Calls Tryd.prog 9 #[] w fun e' w' => e' = .returned (.bool true) ∧ Below w.heap.size w w' := by
  have HT := Lib.hid (fun W => take_ten W)
  go_enter Tryd.func9, Tryd.ntmps9
  go_wp2_with (go_at_call 7; refine (HT.out _).mono ?_; rintro e' w1 ⟨rfl, hb⟩)
  go_ret
  exact ⟨rfl, hb.alloc hb.size _⟩

theorem u64_range (A : Int) : 0 ≤ IntKind.u64.wrap A ∧ IntKind.u64.wrap A < 18446744073709551616 := by rw [IntKind.wrap_u64]; omega
theorem u64_mod (A k : Int) (hk : 0 < k) (hk2 : k ≤ 2000000) : ∃ n : Int, 0 ≤ n ∧ n < k ∧ (IntKind.u64.wrap A).tmod k = n ∧ wrap64 n = n := by
  have := u64_range A
  have e : (IntKind.u64.wrap A).tmod k = (IntKind.u64.wrap A) % k := Int.tmod_eq_emod_of_nonneg this.1
  have h0 := Int.emod_nonneg (IntKind.u64.wrap A) (show k ≠ 0 by omega)
  have h1 := Int.emod_lt_of_pos (IntKind.u64.wrap A) hk
  refine ⟨(IntKind.u64.wrap A) % k, h0, h1, e, ?_⟩
  unfold wrap64; omega
theorem made_calls (on : Bool) (n0 e0 s0 i0 k0 : Int) (w : World) : ∃ n e s i k, Fit n e s i k ∧ ∀ W, Calls Tryd.prog 6 #[num on n0 e0 s0 i0 k0] W fun e' w' => e' = .returned (num on n e s i k) ∧ Below W.heap.size W w' := by
  obtain ⟨n, n1, n2, n3, n4⟩ := u64_mod n0 1000001 (by decide) (by decide)
  obtain ⟨e, e1, e2, e3, e4⟩ := u64_mod e0 1000 (by decide) (by decide)
  obtain ⟨s, s1, s2, s3, s4⟩ := u64_mod s0 101 (by decide) (by decide)
  obtain ⟨i, i1, i2, i3, i4⟩ := u64_mod i0 101 (by decide) (by decide)
  obtain ⟨k, k1, k2, k3, k4⟩ := u64_mod k0 1001 (by decide) (by decide)
  refine ⟨n, 1 + e, s, i, k, ⟨n1, by clear n3 e3 s3 i3 k3; omega, by clear n3 e3 s3 i3 k3; omega, by clear n3 e3 s3 i3 k3; omega, s1, by clear n3 e3 s3 i3 k3; omega, i1, by clear n3 e3 s3 i3 k3; omega, k1, by clear n3 e3 s3 i3 k3; omega⟩, fun W => ?_⟩
  refine PMade.frisketlaw14_Made.calls on n0 e0 s0 i0 k0 on n (1 + e) s i k W ?_
  unfold PMade.frisketlaw14_Made.f
  have he : wrap64 (1 + e) = 1 + e := by clear n3 e3 s3 i3 k3; unfold wrap64; omega
  rw [n3, e3, s3, i3, k3, n4, e4, s4, i4, k4, he]
theorem Nb.set0 {w : World} {b : Nat} {on : Bool} {n e s i k : Int} (h : Nb w b on n e s i k) (on' : Bool) : Nb (w.setCell ⟨b, 0, none⟩ (.bool on')) b on' n e s i k := by
  unfold Nb at h ⊢
  simp [World.setCell, Array.getElem?_modify, h]
theorem belowStep {B : Nat} {w W W' : World} (h : Below B w W) (k : Below W.heap.size W W') (hB : B ≤ W.heap.size) : Below B w W' := h.trans (k.mono hB)

set_option maxRecDepth 100000 in
set_option maxHeartbeats 4000000 in
theorem off_calls (on : Bool) (n0 e0 s0 i0 k0 : Int) (w : World) : Calls Tryd.prog 4 #[num on n0 e0 s0 i0 k0] w fun e' w' => e' = .returned (.bool true) ∧ Below w.heap.size w w' := by
  obtain ⟨n, e, s, i, k, hf, hM⟩ := made_calls on n0 e0 s0 i0 k0 w
  have HM := Lib.hid hM
  have HT := Lib.hid (fun W => take_off hf W)
  have HF := Lib.hid (fun W => field_off hf W)
  have HS := Lib.hid (fun W => sane_calls W)
  clear hM
  go_enter Tryd.func4, Tryd.ntmps4
  go_wp2_with fail
  refine (HM.out _).mono ?_
  rintro e' w1 ⟨rfl, b1⟩
  have B1 : Below w.heap.size w w1 := belowStep ((Below.refl _ w).alloc (Nat.le_refl _) _) b1 (by simp)
  have hz1 := B1.size
  have X1 := Nb.new w1 false n e s i k
  have D1 := B1.alloc hz1 (.cells #[.bool false, .int .i64 n, .int .i64 e, .int .i64 s, .int .i64 i, .int .i64 k] 23)
  have hz0 : w.heap.size ≤ w1.heap.size := hz1
  clear B1 b1 hz1
  go_wp2_with fail
  generalize hG : w1.alloc (.cells #[.bool false, .int .i64 n, .int .i64 e, .int .i64 s, .int .i64 i, .int .i64 k] 23) = g1 at *
  clear hG
  refine (HT.out _).mono ?_
  rintro e' w2 ⟨rfl, b2⟩
  have D2 := belowStep D1 b2 D1.size
  have X2 := X1.below b2
  have Y2 := Nb.new w2 false n e s i k
  have E2 := D2.alloc D2.size (.cells #[.bool false, .int .i64 n, .int .i64 e, .int .i64 s, .int .i64 i, .int .i64 k] 23)
  have X3 := X2.alloc (.cells #[.bool false, .int .i64 n, .int .i64 e, .int .i64 s, .int .i64 i, .int .i64 k] 23)
  obtain ⟨c0, c1, c2, c3, c4, c5, cf, cl⟩ := X3.cells
  go_wp2_with fail
  generalize hG : w2.alloc (.cells #[.bool false, .int .i64 n, .int .i64 e, .int .i64 s, .int .i64 i, .int .i64 k] 23) = g2 at *
  clear hG c0 c1 c2 c3 c4 c5 cf cl
  refine (HF.out _).mono ?_
  rintro e' w3 ⟨rfl, b3⟩
  have D3 := belowStep E2 b3 E2.size
  obtain ⟨c0, c1, c2, c3, c4, c5, cf, cl⟩ := (X3.below b3).cells
  obtain ⟨d0, d1, d2, d3, d4, d5, df, dl⟩ := (Y2.below b3).cells
  go_wp2_with fail
  refine (HS.out _).mono ?_
  rintro e' w4 ⟨rfl, b4⟩
  go_wp2_with fail
  go_ret
  exact ⟨rfl, belowStep D3 b4 D3.size⟩
end Go.Proofs.YtgdoebpdpcfbeaaDoor

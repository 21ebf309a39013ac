/- Walks of layer 14: the law MarginCounts. -/
import Derived.Test.YtgdoebpdpcfbeaaDoorWalkG
set_option linter.unusedVariables false
set_option linter.unusedSimpArgs false
namespace Go.Proofs.YtgdoebpdpcfbeaaDoor
open Go.Shelf Go.RowKit Go.Lib Go.Aids Go.Proofs.YtgdoebpdpcfbeaaDoorW.PrintWords

theorem rem20 (k : Int) (h0 : 0 ≤ k) : ∃ q : Int, 0 ≤ q ∧ q ≤ 19 ∧ ∀ _ : Unit, k.tmod 20 = q := by
  refine ⟨k % 20, by omega, by omega, fun _ => Int.tmod_eq_emod_of_nonneg h0⟩
theorem Fit.next {n e s i k : Int} (h : Fit n e s i k) : Fit (nextN n) e s i 0 := by
  have h0 := h.n0
  have h1 := h.n1
  refine ⟨?_, ?_, h.e0, h.e1, h.s0, h.s1, h.i0, h.i1, by decide, by decide⟩ <;> unfold nextN <;> split <;> omega
theorem Fit.skip {n e s i k : Int} (h : Fit n e s i k) (hk : 0 < k) : Fit n e s i (k - 1) :=
  ⟨h.n0, h.n1, h.e0, h.e1, h.s0, h.s1, h.i0, h.i1, by have := h.k0; omega, by have := h.k1; omega⟩

set_option maxRecDepth 100000 in
set_option maxHeartbeats 8000000 in
theorem counts_calls (on : Bool) (n0 e0 s0 i0 k0 kk : Int) (w : World) (ht : Tab w) : Calls Tryd.prog 3 #[num on n0 e0 s0 i0 k0, .int .i64 kk] w fun e' w' => e' = .returned (.bool true) ∧ Below w.heap.size w w' := by
  obtain ⟨n, e, s, i, k, hf, hM⟩ := made_calls on n0 e0 s0 i0 k0 w
  obtain ⟨L, l1, l2, l3, l4⟩ := u64_mod kk 200 (by decide) (by decide)
  obtain ⟨q, q1, q2, q3⟩ := rem20 k hf.k0
  have hf2 : Fit n e s i q := ⟨hf.n0, hf.n1, hf.e0, hf.e1, hf.s0, hf.s1, hf.i0, hf.i1, q1, by clear l3; omega⟩
  have HM := Lib.hid hM
  have HS := Lib.hid (fun W => sane_calls W)
  have HF := Lib.hid hf2
  clear hM hf hf2
  go_enter Tryd.func3, Tryd.ntmps3
  go_wp2_with fail
  refine (HM.out _).mono ?_
  rintro e' w1 ⟨rfl, b1⟩
  have B1 : Below w.heap.size w w1 := belowStep ((Below.refl _ w).alloc (Nat.le_refl _) _) b1 (by simp)
  have hz1 := B1.size
  go_wp2_with fail
  simp only [q3 ()]
  have X1 := Nb.new w1 true n e s i q
  have D1 := B1.alloc hz1 (.cells #[.bool true, .int .i64 n, .int .i64 e, .int .i64 s, .int .i64 i, .int .i64 q] 23)
  have hx : w.heap.size ≤ w1.heap.size := hz1
  clear B1 b1 hz1 HM q3
  generalize hG : w1.alloc (.cells #[.bool true, .int .i64 n, .int .i64 e, .int .i64 s, .int .i64 i, .int .i64 q] 23) = g1 at *
  clear hG
  obtain ⟨x, hxx⟩ : ∃ x, w1.heap.size = x := ⟨_, rfl⟩
  rw [hxx] at X1 hx ⊢
  clear hxx
  go_loopw [6, 7, 8] (fun a b c wr => ∃ (j : Nat) (n k : Int), (j : Int) ≤ L ∧ a = .int .i64 n ∧ b = .int .i64 k ∧ c = .int .i64 j ∧ Hid (Fit n e s i k) ∧ Nb wr x true n e s i k ∧ Below w.heap.size w wr) (fun _ _ c _ => L.toNat - (RowKit.intOf c).toNat)
  case atStart => exact ⟨0, n, q, l1, rfl, rfl, rfl, HF, X1, D1⟩
  case round =>
    clear X1 D1 HF q1 q2
    obtain ⟨j, n, k, hj, rfl, rfl, rfl, HF, X, B⟩ := hrel
    have hwj : wrap64 ((j : Int) + 1) = (j : Int) + 1 := by clear l3; unfold wrap64; omega
    by_cases hlt : (j : Int) < L
    · have htr := ht.below (B.mono (Nat.le_refl _))
      have hk0 := HF.out.k0
      have hn0 := HF.out.n0
      have hn1 := HF.out.n1
      have he0 : e ≠ 0 := by have := HF.out.e0; clear l3; omega
      obtain ⟨c0, c1, c2, c3, c4, c5, cf, cl⟩ := X.cells
      have hBs := B.size
      have hkm : wrap64 (k - 1) = k - 1 := by have := HF.out.k1; clear l3; unfold wrap64; omega
      have hjn : (j : Int) + 1 ≤ L := by clear l3; omega
      have hme : L.toNat - ((j : Int) + 1).toNat < L.toNat - (j : Int).toNat := by clear l3; omega
      go_wp2_with fail
      clear l3 hlt hj
      by_cases hkp : 0 < k
      · skip
        have HT := Lib.hid (take_A HF.out hkp wr)
        try clear hn
        try clear hmn HFm hm8
        try clear hn0 hn1
        refine HT.out.mono ?_
        rintro e' w2 ⟨rfl, b2⟩
        have B2 := belowStep B b2 hBs
        have X2 := (X.below b2).alloc (.cells #[.bool true, .int .i64 n, .int .i64 e, .int .i64 s, .int .i64 i, .int .i64 (k - 1)] 23)
        have Y2 := Nb.new w2 true n e s i (k - 1)
        have E2 := B2.alloc B2.size (.cells #[.bool true, .int .i64 n, .int .i64 e, .int .i64 s, .int .i64 i, .int .i64 (k - 1)] 23)
        clear c0 c1 c2 c3 c4 c5 cf cl HT b2
        obtain ⟨c0, c1, c2, c3, c4, c5, cf, cl⟩ := X2.cells
        obtain ⟨d0, d1, d2, d3, d4, d5, df, dl⟩ := Y2.cells
        have hE2 := E2.size
        go_wp2
        go_roundw
        case rel => exact ⟨j + 1, n, (k - 1), hjn, rfl, by rw [hkm], rfl, Lib.hid (HF.out.skip hkp), X2.put true n e s i (k - 1), put6_below E2 hx true n e s i (k - 1)⟩
        case measure => exact hme
      · obtain rfl : k = 0 := by omega
        obtain ⟨m, hmn⟩ : ∃ m : Nat, (m : Int) = n := ⟨n.toNat, by omega⟩
        have HFm : Hid (Fit m e s i 0) := Lib.hid (by rw [hmn]; exact HF.out)
        have hm8 : m < 100000000 := by omega
        by_cases hm : n.tmod e = 0
        · have hmB : (n.tmod e == 0) = true := by rw [hm]; rfl
          clear hm
          obtain ⟨T, hT⟩ : ∃ T, pad (dec m) = T := ⟨_, rfl⟩
          have hT3 : decide ((T.size : Int) < 3) = false := by have := pad_size (dec m); rw [hT] at this; rw [decide_eq_false_iff_not]; omega
          have HD := Lib.hid (fun W => digits_calls m W hm8)
          rw [hT, hmn] at HD
          by_cases hn : n = 1000000
          · have hn1w : wrap64 (n + 1) = n + 1 := by unfold wrap64; omega
            have hgt : decide ((1000000 : Int) < n + 1) = true := by rw [decide_eq_true_iff]; omega
            have hfit := HF.out.next
            rw [nextN, if_pos hn] at hfit
            have HT := Lib.hid ((by have h := take_B HFm.out (by rw [hmn]; exact hmB) wr htr; rw [hmn, nextN, if_pos hn, hT] at h; exact h : Calls Tryd.prog 7 #[num true n e s i 0] wr fun e' w' => e' = .returned (.tuple #[.string T, num true 0 e s i 0, .int .i64 0]) ∧ Below wr.heap.size wr w'))
            try clear hn
            try clear hmn HFm hm8
            try clear hn0 hn1
            refine HT.out.mono ?_
            rintro e' w2 ⟨rfl, b2⟩
            have B2 := belowStep B b2 hBs
            have X2 := (X.below b2).alloc (.cells #[.bool true, .int .i64 0, .int .i64 e, .int .i64 s, .int .i64 i, .int .i64 0] 23)
            have Y2 := Nb.new w2 true 0 e s i 0
            have E2 := B2.alloc B2.size (.cells #[.bool true, .int .i64 0, .int .i64 e, .int .i64 s, .int .i64 i, .int .i64 0] 23)
            clear c0 c1 c2 c3 c4 c5 cf cl HT b2
            obtain ⟨c0, c1, c2, c3, c4, c5, cf, cl⟩ := X2.cells
            obtain ⟨d0, d1, d2, d3, d4, d5, df, dl⟩ := Y2.cells
            have hE2 := E2.size
            go_wp2_with fail
            refine (HD.out _).mono ?_
            rintro e' w3 ⟨rfl, b3⟩
            have X3 := X2.below b3
            have E3 := belowStep E2 b3 hE2
            have Y3 := Y2.below b3
            clear c0 c1 c2 c3 c4 c5 cf cl d0 d1 d2 d3 d4 d5 df dl
            obtain ⟨c0, c1, c2, c3, c4, c5, cf, cl⟩ := X3.cells
            obtain ⟨d0, d1, d2, d3, d4, d5, df, dl⟩ := Y3.cells
            go_wp2
            go_roundw
            case rel => exact ⟨j + 1, 0, 0, hjn, rfl, rfl, rfl, Lib.hid (hfit), X3.put true 0 e s i 0, put6_below E3 hx true 0 e s i 0⟩
            case measure => exact hme
          · have hn1w : wrap64 (n + 1) = n + 1 := by unfold wrap64; omega
            have hgt : decide ((1000000 : Int) < n + 1) = false := by rw [decide_eq_false_iff_not]; omega
            have hfit := HF.out.next
            rw [nextN, if_neg hn] at hfit
            have HT := Lib.hid ((by have h := take_B HFm.out (by rw [hmn]; exact hmB) wr htr; rw [hmn, nextN, if_neg hn, hT] at h; exact h : Calls Tryd.prog 7 #[num true n e s i 0] wr fun e' w' => e' = .returned (.tuple #[.string T, num true (n + 1) e s i 0, .int .i64 0]) ∧ Below wr.heap.size wr w'))
            try clear hn
            try clear hmn HFm hm8
            try clear hn0 hn1
            refine HT.out.mono ?_
            rintro e' w2 ⟨rfl, b2⟩
            have B2 := belowStep B b2 hBs
            have X2 := (X.below b2).alloc (.cells #[.bool true, .int .i64 (n + 1), .int .i64 e, .int .i64 s, .int .i64 i, .int .i64 0] 23)
            have Y2 := Nb.new w2 true (n + 1) e s i 0
            have E2 := B2.alloc B2.size (.cells #[.bool true, .int .i64 (n + 1), .int .i64 e, .int .i64 s, .int .i64 i, .int .i64 0] 23)
            clear c0 c1 c2 c3 c4 c5 cf cl HT b2
            obtain ⟨c0, c1, c2, c3, c4, c5, cf, cl⟩ := X2.cells
            obtain ⟨d0, d1, d2, d3, d4, d5, df, dl⟩ := Y2.cells
            have hE2 := E2.size
            go_wp2_with fail
            refine (HD.out _).mono ?_
            rintro e' w3 ⟨rfl, b3⟩
            have X3 := X2.below b3
            have E3 := belowStep E2 b3 hE2
            have Y3 := Y2.below b3
            clear c0 c1 c2 c3 c4 c5 cf cl d0 d1 d2 d3 d4 d5 df dl
            obtain ⟨c0, c1, c2, c3, c4, c5, cf, cl⟩ := X3.cells
            obtain ⟨d0, d1, d2, d3, d4, d5, df, dl⟩ := Y3.cells
            go_wp2
            go_roundw
            case rel => exact ⟨j + 1, (n + 1), 0, hjn, by rw [hn1w], rfl, rfl, Lib.hid (hfit), X3.put true (n + 1) e s i 0, put6_below E3 hx true (n + 1) e s i 0⟩
            case measure => exact hme
        · have hm' : (n.tmod e == 0) = false := by simp [hm]
          clear hm
          by_cases hn : n = 1000000
          · have hn1w : wrap64 (n + 1) = n + 1 := by unfold wrap64; omega
            have hgt : decide ((1000000 : Int) < n + 1) = true := by rw [decide_eq_true_iff]; omega
            have hfit := HF.out.next
            rw [nextN, if_pos hn] at hfit
            have HT := Lib.hid ((by have h := take_C HF.out hm' wr; rw [nextN, if_pos hn] at h; exact h : Calls Tryd.prog 7 #[num true n e s i 0] wr fun e' w' => e' = .returned (.tuple #[.string ⟨#[32, 32, 32]⟩, num true 0 e s i 0, .int .i64 0]) ∧ Below wr.heap.size wr w'))
            try clear hn
            try clear hmn HFm hm8
            try clear hn0 hn1
            refine HT.out.mono ?_
            rintro e' w2 ⟨rfl, b2⟩
            have B2 := belowStep B b2 hBs
            have X2 := (X.below b2).alloc (.cells #[.bool true, .int .i64 0, .int .i64 e, .int .i64 s, .int .i64 i, .int .i64 0] 23)
            have Y2 := Nb.new w2 true 0 e s i 0
            have E2 := B2.alloc B2.size (.cells #[.bool true, .int .i64 0, .int .i64 e, .int .i64 s, .int .i64 i, .int .i64 0] 23)
            clear c0 c1 c2 c3 c4 c5 cf cl HT b2
            obtain ⟨c0, c1, c2, c3, c4, c5, cf, cl⟩ := X2.cells
            obtain ⟨d0, d1, d2, d3, d4, d5, df, dl⟩ := Y2.cells
            have hE2 := E2.size
            go_wp2
            go_roundw
            case rel => exact ⟨j + 1, 0, 0, hjn, rfl, rfl, rfl, Lib.hid (hfit), X2.put true 0 e s i 0, put6_below E2 hx true 0 e s i 0⟩
            case measure => exact hme
          · have hn1w : wrap64 (n + 1) = n + 1 := by unfold wrap64; omega
            have hgt : decide ((1000000 : Int) < n + 1) = false := by rw [decide_eq_false_iff_not]; omega
            have hfit := HF.out.next
            rw [nextN, if_neg hn] at hfit
            have HT := Lib.hid ((by have h := take_C HF.out hm' wr; rw [nextN, if_neg hn] at h; exact h : Calls Tryd.prog 7 #[num true n e s i 0] wr fun e' w' => e' = .returned (.tuple #[.string ⟨#[32, 32, 32]⟩, num true (n + 1) e s i 0, .int .i64 0]) ∧ Below wr.heap.size wr w'))
            try clear hn
            try clear hmn HFm hm8
            try clear hn0 hn1
            refine HT.out.mono ?_
            rintro e' w2 ⟨rfl, b2⟩
            have B2 := belowStep B b2 hBs
            have X2 := (X.below b2).alloc (.cells #[.bool true, .int .i64 (n + 1), .int .i64 e, .int .i64 s, .int .i64 i, .int .i64 0] 23)
            have Y2 := Nb.new w2 true (n + 1) e s i 0
            have E2 := B2.alloc B2.size (.cells #[.bool true, .int .i64 (n + 1), .int .i64 e, .int .i64 s, .int .i64 i, .int .i64 0] 23)
            clear c0 c1 c2 c3 c4 c5 cf cl HT b2
            obtain ⟨c0, c1, c2, c3, c4, c5, cf, cl⟩ := X2.cells
            obtain ⟨d0, d1, d2, d3, d4, d5, df, dl⟩ := Y2.cells
            have hE2 := E2.size
            go_wp2
            go_roundw
            case rel => exact ⟨j + 1, (n + 1), 0, hjn, by rw [hn1w], rfl, rfl, Lib.hid (hfit), X2.put true (n + 1) e s i 0, put6_below E2 hx true (n + 1) e s i 0⟩
            case measure => exact hme
    · obtain rfl : (j : Int) = L := by clear l3; omega
      go_wp2_with (go_at_call 9; refine (HS.out _).mono ?_; rintro e' w5 ⟨rfl, b5⟩)
      go_ret
      exact ⟨rfl, belowStep B b5 B.size⟩
end Go.Proofs.YtgdoebpdpcfbeaaDoor

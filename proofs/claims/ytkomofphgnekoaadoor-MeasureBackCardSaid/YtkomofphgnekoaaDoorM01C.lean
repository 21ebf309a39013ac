/- Walks: the fixed example, MeasureBack. -/
import Derived.Test.YtkomofphgnekoaaDoorM01B
import Derived.Test.YtkomofphgnekoaaDoorWalkM
set_option linter.unusedVariables false
set_option linter.unusedSimpArgs false
namespace Go.Proofs.YtkomofphgnekoaaDoor
open Go.Shelf Go.RowKit Go.Lib Go.Aids Go.MapLit

theorem sane_eval : evalO ⟨#[49, 105, 43, 50, 112, 42, 51]⟩ 117 0 0 0 = (2220, 0) := by decide +kernel
theorem sane_calls (w : World) : Calls Tryd.prog 7 #[] w fun e w' => e = .returned (.bool true) ∧ Below w.heap.size w w' := by
  have H := fun W => eval_calls ⟨#[49, 105, 43, 50, 112, 42, 51]⟩ 117 0 0 0 W (by decide) (by decide)
  rw [sane_eval] at H
  have HH := Lib.hid H
  clear H
  go_enter Tryd.func7, Tryd.ntmps7
  go_wp2_with (go_at_call 6; refine (HH.out _).mono ?_; rintro e w1 ⟨rfl, hb⟩)
  go_ret
  exact ⟨rfl, hb⟩
theorem u64_range (A : Int) : 0 ≤ IntKind.u64.wrap A ∧ IntKind.u64.wrap A < 18446744073709551616 := by rw [IntKind.wrap_u64]; omega
theorem u64_mod (A k : Int) (hk : 0 < k) (hk2 : k ≤ 1000000000) : ∃ n : Nat, (n : Int) < k ∧ (IntKind.u64.wrap A).tmod k = n ∧ wrap64 n = n := by
  have := u64_range A
  have e : (IntKind.u64.wrap A).tmod k = (IntKind.u64.wrap A) % k := Int.tmod_eq_emod_of_nonneg this.1
  have h0 := Int.emod_nonneg (IntKind.u64.wrap A) (show k ≠ 0 by omega)
  have h1 := Int.emod_lt_of_pos (IntKind.u64.wrap A) hk
  refine ⟨((IntKind.u64.wrap A) % k).toNat, by omega, by rw [e]; omega, wrap64_in _ (by omega) (by omega)⟩
theorem run_up (i : Nat) (hi : i < 2) (W : World) : (Instr.index 9 (.string ⟨#[117, 112]⟩) (.int .i64 (i : Int))).run Tryd.prog W = .ok (.int .u8 ((if i = 0 then 117 else 112 : Nat) : Int)) W := by
  rcases (show i = 0 ∨ i = 1 by omega) with rfl | rfl
  · rfl
  · rfl
theorem up_is (i : Nat) : (if i = 0 then 117 else 112 : Nat) = 117 ∨ (if i = 0 then 117 else 112 : Nat) = 112 := by split <;> simp
theorem textT_size (k b : Nat) (hk : k < 1000000000) : (textT k b).size ≤ 100 := by
  have h := text_list k b
  have h1 := congrArg List.length h
  rw [Array.length_toList] at h1
  have e : (textT k b).data.size = (textT k b).size := rfl
  rw [← e, h1, List.length_append, List.length_append, List.length_singleton]
  have h2 := dl_len 9 (k / unitN b) (by decide) (by have := Nat.div_le_self k (unitN b); omega)
  have h3 : (dotL (partO (restN k b))).length ≤ 5 := by
    have h4 : (partO (restN k b)).length ≤ 4 := trimR_len (partL (restN k b))
    generalize partO (restN k b) = p at *
    unfold dotL
    split
    · simp
    · simp; omega
  omega
set_option maxRecDepth 100000 in
set_option maxHeartbeats 4000000 in
theorem back_calls (n a b c : Int) (w : World) (ht : Tab w) : Calls Tryd.prog 3 #[.int .i64 n, .agg #[.int .i64 a, .int .i64 b, .int .i64 c]] w fun e w' => e = .returned (.bool true) ∧ Below w.heap.size w w' := by
  obtain ⟨k, hk, hK, wK⟩ := u64_mod n 1000000000 (by decide) (by decide)
  obtain ⟨x, hx, hX, wX⟩ := u64_mod a 1001 (by decide) (by decide)
  obtain ⟨y, hy, hY, wY⟩ := u64_mod b 1001 (by decide) (by decide)
  have hk2 : k < 1000000000 := by omega
  have hok : okB 118 x y 0 = true := by
    unfold okB
    have e1 : (find (scL (x : Int) y) ((118 : Nat) : Int)).isSome = true := rfl
    have e2 : decide (min (x : Int) y ≥ 0) = true := decide_eq_true (by omega)
    have e3 : decide (max (x : Int) y ≤ 1000000) = true := decide_eq_true (by omega)
    rw [e1, e2, e3]
    rfl
  have HE : Hid (∀ s b W, s = textT k b → b = 117 ∨ b = 112 → Calls Tryd.prog 6 #[.string s, .int .u8 118, .agg #[.int .i64 x, .int .i64 y, .int .i64 0]] W fun e w' => e = .returned (.tuple #[.int .i64 k, .int .i64 0]) ∧ Below W.heap.size W w') := Lib.hid (fun s b W hs hb => by
    have h := eval_calls s 118 x y 0 W (by decide) (by have := textT_size k b hk2; rw [hs]; omega)
    rw [hs, back_text k b hk2 hb x y hok] at h
    rw [hs]
    exact h)
  have HT : Hid (∀ b W, b = 117 ∨ b = 112 → Below w.heap.size w W → Calls Tryd.prog 5 #[.int .i64 k, .int .u8 (b : Nat)] W fun e w' => e = .returned (.tuple #[.string (textT k b), .int .i64 0]) ∧ Below W.heap.size W w') := Lib.hid (fun b W hb hW => text_good k b (by omega) (hb.elim Or.inl (fun h => Or.inr (Or.inl h))) W (ht.below hW))
  have HS := Lib.hid (fun W => sane_calls W)
  have HK' : ∀ _ : Unit, (IntKind.u64.wrap n).tmod 1000000000 = k := fun _ => hK
  have HX' : ∀ _ : Unit, (IntKind.u64.wrap a).tmod 1001 = x := fun _ => hX
  have HY' : ∀ _ : Unit, (IntKind.u64.wrap b).tmod 1001 = y := fun _ => hY
  clear hK hX hY hk hx hy ht hok
  go_enter Tryd.func3, Tryd.ntmps3
  go_wp2_with fail
  simp only [HK' (), HX' (), HY' (), wK, wX, wY]
  obtain ⟨W1, hW1⟩ : ∃ W, (w.alloc (.cells #[.int .i64 a, .int .i64 b, .int .i64 c] 23)).alloc (.cells #[.int .i64 x, .int .i64 y, .int .i64 0] 23) = W := ⟨_, rfl⟩
  have HC : Hid (W1.cell? ⟨w.heap.size + 1, 0, none⟩ = some (.int .i64 x) ∧ W1.cell? ⟨w.heap.size + 1, 1, none⟩ = some (.int .i64 y) ∧ W1.cell? ⟨w.heap.size + 1, 2, none⟩ = some (.int .i64 0) ∧ w.heap.size + 1 < W1.heap.size) := Lib.hid (by rw [← hW1]; simp)
  have HB1 := Lib.hid (show Below w.heap.size w W1 by rw [← hW1]; exact ((Below.refl _ _).alloc (Nat.le_refl _) _).alloc (by simp) _)
  rw [hW1]
  clear hW1
  go_loopg [7] 2 (fun gk s7 wx => ∃ i : Nat, i + gk = 2 ∧ s7 = .int .i64 i ∧ Hid (Below W1.heap.size W1 wx))
  case atStart => exact ⟨0, by omega, rfl, Lib.hid (Below.refl _ _)⟩
  case round =>
    obtain ⟨i, hi, rfl, HB⟩ := hrel
    by_cases hlt : i < 2
    · have i0 : decide ((i : Int) < 2) = true := decide_eq_true (by omega)
      obtain ⟨g', rfl⟩ : ∃ g', gk = g' + 1 := ⟨gk - 1, by omega⟩
      have c0 := (HB.out.cell (p := ⟨w.heap.size + 1, 0, none⟩) HC.out.2.2.2).trans HC.out.1
      have c1 := (HB.out.cell (p := ⟨w.heap.size + 1, 1, none⟩) HC.out.2.2.2).trans HC.out.2.1
      have c2 := (HB.out.cell (p := ⟨w.heap.size + 1, 2, none⟩) HC.out.2.2.2).trans HC.out.2.2.1
      have hx : ∀ W, (Instr.index 9 (.string ⟨#[117, 112]⟩) (.int .i64 (i : Int))).run Tryd.prog W = .ok (.int .u8 ((if i = 0 then 117 else 112 : Nat) : Int)) W := fun W => run_up i hlt W
      have hu := Lib.hid (up_is i)
      generalize (if i = 0 then 117 else 112 : Nat) = bb at hx hu
      go_wp2_with (first
        | (go_at_call 5; refine (HT.out _ _ hu.out (HB1.out.trans (HB.out.mono HB1.out.size))).mono ?_; rintro e w1 ⟨rfl, b1⟩; have d0 := (b1.cell (p := ⟨w.heap.size + 1, 0, none⟩) (Nat.lt_of_lt_of_le HC.out.2.2.2 HB.out.size)).trans c0; have d1 := (b1.cell (p := ⟨w.heap.size + 1, 1, none⟩) (Nat.lt_of_lt_of_le HC.out.2.2.2 HB.out.size)).trans c1; have d2 := (b1.cell (p := ⟨w.heap.size + 1, 2, none⟩) (Nat.lt_of_lt_of_le HC.out.2.2.2 HB.out.size)).trans c2)
        | (go_at_call 6; refine (HE.out _ _ _ rfl hu.out).mono ?_; rintro e w2 ⟨rfl, b2⟩))
      go_roundg g'
      case measure => omega
      case rel => exact ⟨i + 1, by omega, by rfl, Lib.hid ((HB.out.trans (b1.mono HB.out.size)).trans (b2.mono (HB.out.trans (b1.mono HB.out.size)).size))⟩
    · have i0 : decide ((i : Int) < 2) = false := decide_eq_false (by omega)
      go_wp2_with (go_at_call 7; refine (HS.out _).mono ?_; rintro e w1 ⟨rfl, b1⟩)
      go_ret
      have q := HB1.out.trans (HB.out.mono HB1.out.size)
      exact ⟨rfl, q.trans (b1.mono q.size)⟩
end Go.Proofs.YtkomofphgnekoaaDoor

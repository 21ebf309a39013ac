/- Walks of layer 1's reader: row, number. -/
import Derived.Test.YtkomofphgnekoaaDoorWalkA
import Derived.Test.YtkomofphgnekoaaDoorMapLit
set_option linter.unusedVariables false
set_option linter.unusedSimpArgs false
namespace Go.Proofs.YtkomofphgnekoaaDoor
open Go.Shelf Go.RowKit Go.Lib Go.Aids Go.MapLit

theorem Kp.dr {b : Nat} {w w1 : World} (h : Kp b w w1) (n : Nat) : Kp b w (w1.drewN n) := h.trans (Kp.drewN b _ n)
theorem Kp.st {b : Nat} {w w1 : World} (h : Kp b w w1) (o : Nat) (v : Value) : Kp b w (w1.setCell ⟨b, o, none⟩ v) := h.trans (Kp.set _ b o v)
theorem Rd.set1 {w : World} {b a a0 : Nat} {c : Cx} (h : Rd w b c a0) : Rd (w.setCell ⟨b, 1, none⟩ (.int .i64 ((a : Int) + 1))) b c (a + 1) := h.set (a + 1)
/-- The reader and what stays, of the walk's world. -/

theorem rowF_bound (s : ByteArray) : ∀ k n a, a ≤ (rowF s k n a).2 ∧ (rowF s k n a).2 ≤ a + k ∧ ((rowF s k n a).1 + 1) ≤ (n + 1) * 10 ^ ((rowF s k n a).2 - a) ∧ (a ≤ s.size → (rowF s k n a).2 ≤ s.size)
  | 0, n, a => by simp [rowF]
  | k + 1, n, a => by
    unfold rowF
    split
    · rename_i hd
      obtain ⟨h1, h2, h3, h4⟩ := rowF_bound s k (n * 10 + (pk s a - 48)) (a + 1)
      have hlt := pk_lt (show pk s a ≠ 0 by unfold isDig at hd; omega)
      refine ⟨by omega, by omega, ?_, fun _ => h4 (by omega)⟩
      refine Nat.le_trans h3 ?_
      rw [show (rowF s k (n * 10 + (pk s a - 48)) (a + 1)).2 - a = ((rowF s k (n * 10 + (pk s a - 48)) (a + 1)).2 - (a + 1)) + 1 by omega, Nat.pow_succ, Nat.mul_comm (10 ^ _) 10, ← Nat.mul_assoc]
      refine Nat.mul_le_mul_right _ ?_
      unfold isDig at hd
      omega
    · simp

set_option maxHeartbeats 1000000 in
theorem row_calls (w : World) (b a : Nat) (c : Cx) (h : Rd w b c a) (hs : c.s.size ≤ 4611686018427387904) (ha : a ≤ c.s.size) :
    Calls Tryd.prog 57 #[.pointer (some ⟨b, 0, none⟩)] w fun e w' => e = .returned (.tuple #[.int .i64 (rowF c.s 9 0 a).1, .int .i64 ((rowF c.s 9 0 a).2 - a : Nat)]) ∧ Kp b w w' ∧ Rd w' b c (rowF c.s 9 0 a).2 := by
  obtain ⟨r, hr⟩ : ∃ r, rowF c.s 9 0 a = r := ⟨_, rfl⟩
  rw [hr]
  have Hr := Lib.hid hr
  clear hr
  go_enter Tryd.func57, Tryd.ntmps57
  go_wp2
  go_loopg [2, 3] 9 (fun k v u wr => ∃ n m a' : Nat, v = .int .i64 n ∧ u = .int .i64 m ∧ Rd wr b c a' ∧ Kp b w wr ∧ m + k = 9 ∧ Hid (a' = a + m) ∧ n < 10 ^ m ∧ a' ≤ c.s.size ∧ Hid (rowF c.s k n a' = r))
  case atStart => exact ⟨0, 0, a, rfl, rfl, h, Kp.refl _ _, rfl, Lib.hid rfl, by decide, ha, Hr⟩
  case round =>
    obtain ⟨n, m, a', rfl, rfl, hrd, hkp, hmk, hae, hn, hal, H⟩ := hrel
    have hn9 : n < 1000000000 := Nat.lt_of_lt_of_le hn (by
      have : 10 ^ m ≤ 10 ^ 9 := Nat.pow_le_pow_right (by decide) (by omega)
      simpa using this)
    obtain ⟨-, h1, -, -, -, -, -, -, hf⟩ := hrd.cells
    rcases Nat.eq_zero_or_pos gk with h0 | h0
    · subst h0
      obtain rfl : m = 9 := by omega
      have := H.out
      rw [rowF] at this
      subst this
      go_wp2
      go_ret2
      have := hae.out
      refine ⟨?_, hkp, hrd⟩
      show Ending.returned (.tuple #[.int .i64 n, .int .i64 9]) = Ending.returned (.tuple #[.int .i64 n, .int .i64 (a' - a : Nat)])
      rw [show a' - a = 9 by omega]; rfl
    · obtain ⟨k', rfl⟩ : ∃ k', gk = k' + 1 := ⟨gk - 1, by omega⟩
      have hm9 : (m : Int) < 9 := by omega
      have hp256 := pk_256 c.s a'
      by_cases hd : isDig c.s a'
      · have hd' := hd
        unfold isDig at hd'
        have hp1 : (48 : Int) ≤ (pk c.s a' : Nat) := by omega
        have hp2 : ((pk c.s a' : Nat) : Int) ≤ 57 := by omega
        have hlt := pk_lt (show pk c.s a' ≠ 0 by omega)
        have hwp : IntKind.u8.wrap (((pk c.s a' : Nat) : Int) - 48) = ((pk c.s a' : Nat) : Int) - 48 := IntWalk.u8_in _ (by omega)
        go_wp2_with (go_at_call 43; (with_reducible refine (peek_calls _ b a' c (by (repeat (first | assumption | with_reducible apply Rd.drewN | with_reducible apply Rd.set1 | with_reducible apply Rd.set))) hs).mono ?_); rintro e w1 ⟨rfl, dn, rfl⟩)
        go_roundg k'
        case measure => omega
        case rel =>
          have hH := H.out
          rw [rowF, if_pos hd] at hH
          refine ⟨n * 10 + (pk c.s a' - 48), m + 1, a' + 1, by go_num, by go_num, by (repeat (first | assumption | with_reducible apply Rd.drewN | with_reducible apply Rd.set1 | with_reducible apply Rd.set)), by (repeat (first | assumption | with_reducible exact Kp.refl _ _ | with_reducible apply Kp.dr | with_reducible apply Kp.st)), by omega, Lib.hid (by have := hae.out; omega), ?_, by omega, Lib.hid hH⟩
          rw [Nat.pow_succ]; omega
      · go_wp2_with (go_at_call 43; (with_reducible refine (peek_calls _ b a' c (by (repeat (first | assumption | with_reducible apply Rd.drewN | with_reducible apply Rd.set1 | with_reducible apply Rd.set))) hs).mono ?_); rintro e w1 ⟨rfl, dn, rfl⟩)
        all_goals first | (exfalso; unfold isDig at hd; omega) | skip
        all_goals
          go_ret2
          have hH := H.out
          rw [rowF, if_neg hd] at hH
          subst hH
          have := hae.out
          refine ⟨?_, by (repeat (first | assumption | with_reducible exact Kp.refl _ _ | with_reducible apply Kp.dr | with_reducible apply Kp.st)), by (repeat (first | assumption | with_reducible apply Rd.drewN | with_reducible apply Rd.set1 | with_reducible apply Rd.set))⟩
          show Ending.returned (.tuple #[.int .i64 n, .int .i64 m]) = Ending.returned (.tuple #[.int .i64 n, .int .i64 (a' - a : Nat)])
          rw [show a' - a = m by omega]
end Go.Proofs.YtkomofphgnekoaaDoor

/- Walks: whether a record has a field of a line's letter. -/
import Derived.WalkKit
import Derived.WalkLawsBesides
import Derived.WalkSpells
import Derived.Deep.QuietTactic
import Derived.BigQuiet
import Derived.Lib.Hide
import Derived.Test.YtmoloaneidledaaDoorR26M
import Derived.Test.YtmoloaneidledaaDoorShelf
set_option linter.unusedVariables false
set_option linter.unusedSimpArgs false
namespace Go.Proofs.YtmoloaneidledaaDoor
open Go.Shelf Go.RowKit Go.Lib

theorem belowN {B : Nat} {a w : World} (h : Below B a w) (n : Nat) : Below B a (w.drewN n) := ⟨h.os, h.tape, h.output, h.size, h.block⟩
theorem beqI (a b : Int) : (a == b) = decide (a = b) := by by_cases h : a = b <;> simp [h]
/-- The fields' cells, below a block. -/
def Flds (n₀ : Nat) (W : World) (A : Option Addr) (r : List Fld) : Prop :=
  ∀ m (h : m < r.length), ∃ b off, A = some ⟨b, off, none⟩ ∧ b < n₀ ∧ W.cell? ⟨b, off + m * 2, none⟩ = some (.int .u8 r[m].c) ∧ W.cell? ⟨b, off + m * 2 + 1, none⟩ = some (.string r[m].t)
theorem Flds.below {n₀ : Nat} {W W' : World} {A : Option Addr} {r : List Fld} (h : Flds n₀ W A r) (hb : Below n₀ W W') : Flds n₀ W' A r := fun m hm => by
  obtain ⟨b, off, e, hlt, c0, c1⟩ := h m hm
  exact ⟨b, off, e, hlt, (hb.cell (p := ⟨b, off + m * 2, none⟩) hlt).trans c0, (hb.cell (p := ⟨b, off + m * 2 + 1, none⟩) hlt).trans c1⟩
theorem hasF_drop (r : List Fld) (c : Int) (k : Nat) (h : k < r.length) : hasF (r.drop k) c = (decide (r[k].c = c) || hasF (r.drop (k + 1)) c) := by
  rw [List.drop_eq_getElem_cons h]; rfl
set_option maxHeartbeats 1000000 in
theorem same36_calls (c : Int) (t x : ByteArray) (Bx : Nat) (hx : 1 < x.size) (w : World) (hB : w.cell? ⟨Bx, 0, none⟩ = some (.string x)) :
    Calls Tryd.prog 36 #[.agg #[.int .u8 c, .string t], .pointer (some ⟨Bx, 0, none⟩)] w fun e w' => e = .returned (.bool (decide (c = pk x 1))) ∧ Below w.heap.size w w' := by
  have hlt : Bx < w.heap.size := World.block_lt_of_cell? w _ hB
  go_enter Tryd.func36, Tryd.ntmps36
  have hW := pk_get x 1 hx
  have hi : (1 : Int) < x.size := by omega
  obtain ⟨W1, hW1⟩ : ∃ W1, w.alloc (.cells #[.int .u8 c, .string t] 58) = W1 := ⟨_, rfl⟩
  have k0 : W1.cell? ⟨w.heap.size, 0, none⟩ = some (.int .u8 c) := by rw [← hW1]; simp
  have hb1 : Below w.heap.size w W1 := by rw [← hW1]; exact (Below.refl _ w).alloc (Nat.le_refl _) _
  have kB : W1.cell? ⟨Bx, 0, none⟩ = some (.string x) := (hb1.cell (p := ⟨Bx, 0, none⟩) hlt).trans hB
  go_wp2
  clear hW1
  go_quiet (fail)
  go_wp2
  go_ret
  exact ⟨by rw [hW, ← beqI]; rfl, belowN hb1 _⟩
set_option maxRecDepth 100000 in
set_option maxHeartbeats 2000000 in
theorem index51_calls (A : Option Addr) (cap : Nat) (r : List Fld) (hz : r.length ≤ 1000000000) (x : ByteArray) (Bx : Nat) (hx : 1 < x.size) (w : World) (hI : Flds w.heap.size w A r) (hB : w.cell? ⟨Bx, 0, none⟩ = some (.string x)) :
    Calls Tryd.prog 51 #[.slice A r.length cap, .func (.func 36) #[] #[.pointer (some ⟨Bx, 0, none⟩)]] w fun e w' => (∃ k : Int, e = .returned (.int .i64 k) ∧ decide (0 ≤ k) = hasF r (pk x 1)) ∧ Below w.heap.size w w' := by
  have hlt : Bx < w.heap.size := World.block_lt_of_cell? w _ hB
  have HI := Lib.hid hI
  have HB := Lib.hid hB
  clear hI hB
  go_enter Tryd.func51, Tryd.ntmps51
  go_wp2
  go_loopw [8] (fun i wr => ∃ k : Nat, k ≤ r.length ∧ i = .int .i64 k ∧ Below w.heap.size w wr ∧ Hid (hasF (r.drop k) (pk x 1) = hasF r (pk x 1))) (fun i _ => r.length - (RowKit.intOf i).toNat)
  case atStart => exact ⟨0, Nat.zero_le _, rfl, Below.refl _ _, Lib.hid rfl⟩
  case round =>
    obtain ⟨k, hk, rfl, hb, H⟩ := hrel
    by_cases hkl : k < r.length
    · obtain ⟨b, off, rfl, hbl, c0, c1⟩ := HI.out.below hb k hkl
      have hbr : b < wr.heap.size := by have := hb.size; omega
      have hBr := (hb.cell (p := ⟨Bx, 0, none⟩) hlt).trans HB.out
      have h := H.out
      rw [hasF_drop r _ k hkl] at h
      obtain ⟨f, hf⟩ : ∃ f, r[k] = f := ⟨_, rfl⟩
      rw [hf] at c0 c1 h
      have HC := Lib.hid (same36_calls f.c f.t x Bx hx wr hBr)
      clear hBr hf H
      by_cases h1 : f.c = pk x 1
      · rw [decide_eq_true h1] at HC h
        have HH := Lib.hid h
        clear h h1
        go_wp2_with (go_at_call 36; refine HC.out.mono ?_; rintro e w1 ⟨rfl, hb1⟩)
        go_ret
        exact ⟨⟨_, rfl, by rw [← HH.out]; simp⟩, hb.trans (hb1.mono hb.size)⟩
      · rw [decide_eq_false h1] at HC h
        have HH := Lib.hid h
        clear h h1
        go_wp2_with (go_at_call 36; refine HC.out.mono ?_; rintro e w1 ⟨rfl, hb1⟩)
        go_roundw
        case rel => exact ⟨k + 1, by omega, by go_num, hb.trans (hb1.mono hb.size), Lib.hid (by rw [← HH.out, Bool.false_or])⟩
        case measure => simp [RowKit.intOf]; omega
    · obtain rfl : k = r.length := by omega
      have h := H.out
      rw [List.drop_length] at h
      have HH := Lib.hid h
      clear h H
      go_wp2
      go_ret
      exact ⟨⟨_, rfl, by rw [← HH.out]; rfl⟩, hb⟩
set_option maxHeartbeats 1000000 in
theorem contains35_calls (A : Option Addr) (cap : Nat) (r : List Fld) (hz : r.length ≤ 1000000000) (x : ByteArray) (Bx : Nat) (hx : 1 < x.size) (w : World) (hI : Flds w.heap.size w A r) (hB : w.cell? ⟨Bx, 0, none⟩ = some (.string x)) :
    Calls Tryd.prog 35 #[.slice A r.length cap, .func (.func 36) #[] #[.pointer (some ⟨Bx, 0, none⟩)]] w fun e w' => e = .returned (.bool (hasF r (pk x 1))) ∧ Below w.heap.size w w' := by
  have HC := Lib.hid (index51_calls A cap r hz x Bx hx w hI hB)
  clear hI hB
  go_enter Tryd.func35, Tryd.ntmps35
  go_wp2_with (go_at_call 51; refine HC.out.mono ?_; rintro e w1 ⟨⟨k, rfl, hk⟩, hb1⟩)
  go_ret
  exact ⟨by rw [← hk]; rfl, hb1⟩
theorem cap34_calls (c : Int) (w : World) : Calls Tryd.prog 34 #[.int .u8 c] w fun e w' => e = .returned (.bool (capB c)) ∧ w = w' := by
  unfold capB
  by_cases h1 : 65 ≤ c
  · by_cases h2 : c ≤ 90
    · go_enter Tryd.func34, Tryd.ntmps34
      go_wp2
      go_ret
      exact ⟨by simp [h1, h2], rfl⟩
    · go_enter Tryd.func34, Tryd.ntmps34
      go_wp2
      go_ret
      exact ⟨by simp [h1, h2], rfl⟩
  · go_enter Tryd.func34, Tryd.ntmps34
    go_wp2
    go_ret
    exact ⟨by simp; omega, rfl⟩
end Go.Proofs.YtmoloaneidledaaDoor

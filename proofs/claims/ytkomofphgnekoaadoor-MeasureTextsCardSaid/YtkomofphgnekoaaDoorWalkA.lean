/- Walks of layer 1's reader: peek, held, blanks, row. -/
import Derived.Test.YtkomofphgnekoaaDoorModel
import Derived.WalkKit
import Derived.WalkSpells
import Derived.WalkLawsBesides
import Derived.Deep.QuietTactic
import Derived.StillTailTactics
import Derived.LoopTactic
import Derived.LoopN
import Derived.Lib.Hide
import Derived.Deep.LoopGhost
set_option linter.unusedVariables false
set_option linter.unusedSimpArgs false
namespace Go.Proofs.YtkomofphgnekoaaDoor
open Go.Shelf Go.RowKit Go.Lib Go.Aids

/-- The reader lies in block b, at a place. -/
structure Rd (w : World) (b : Nat) (c : Cx) (a : Nat) : Prop where
  blk : w.heap[b]? = some (.cells #[.string c.s, .int .i64 a, .int .u8 c.scale, .int .i64 c.size, .int .i64 c.vs, .int .i64 c.here, .map (some c.m), .bool c.mute] 52 (0, 0))
/-- All but block b stays. -/
structure Kp (b : Nat) (w w' : World) : Prop where
  os : w'.os = w.os
  tape : w'.tape = w.tape
  output : w'.output = w.output
  size : w.heap.size ≤ w'.heap.size
  block : ∀ k, k < w.heap.size → k ≠ b → w'.heap[k]? = w.heap[k]?
theorem Kp.refl (b : Nat) (w : World) : Kp b w w := ⟨rfl, rfl, rfl, Nat.le_refl _, fun _ _ _ => rfl⟩
theorem Kp.trans {b : Nat} {w w1 w2 : World} (h : Kp b w w1) (k : Kp b w1 w2) : Kp b w w2 :=
  ⟨k.os.trans h.os, k.tape.trans h.tape, k.output.trans h.output, Nat.le_trans h.size k.size, fun i hi hb => (k.block i (Nat.lt_of_lt_of_le hi h.size) hb).trans (h.block i hi hb)⟩
theorem Kp.drewN (b : Nat) (w : World) (n : Nat) : Kp b w (w.drewN n) := ⟨rfl, rfl, rfl, Nat.le_refl _, fun _ _ _ => rfl⟩
theorem Kp.set (w : World) (b o : Nat) (v : Value) : Kp b w (w.setCell ⟨b, o, none⟩ v) :=
  ⟨rfl, rfl, rfl, by simp, fun k hk hb => Below.heap_setCell w _ v k hb⟩
theorem Kp.below {b : Nat} {w w' : World} (h : Below w.heap.size w w') : Kp b w w' := ⟨h.os, h.tape, h.output, h.size, fun k hk _ => h.block k hk⟩
theorem Rd.lt {w : World} {b a : Nat} {c : Cx} (h : Rd w b c a) : b < w.heap.size := by
  have := h.blk
  rw [Array.getElem?_eq_some_iff] at this
  exact this.1
theorem Rd.drewN {w : World} {b a : Nat} {c : Cx} (h : Rd w b c a) (n : Nat) : Rd (w.drewN n) b c a := ⟨h.blk⟩
theorem Rd.below {w w' : World} {b a : Nat} {c : Cx} (h : Rd w b c a) (hb : Below w.heap.size w w') : Rd w' b c a := ⟨(hb.block b h.lt).trans h.blk⟩
theorem Rd.cells {w : World} {b a : Nat} {c : Cx} (h : Rd w b c a) :
    w.cell? ⟨b, 0, none⟩ = some (.string c.s) ∧ w.cell? ⟨b, 1, none⟩ = some (.int .i64 a) ∧ w.cell? ⟨b, 2, none⟩ = some (.int .u8 c.scale) ∧ w.cell? ⟨b, 3, none⟩ = some (.int .i64 c.size) ∧
    w.cell? ⟨b, 4, none⟩ = some (.int .i64 c.vs) ∧ w.cell? ⟨b, 5, none⟩ = some (.int .i64 c.here) ∧ w.cell? ⟨b, 6, none⟩ = some (.map (some c.m)) ∧ w.cell? ⟨b, 7, none⟩ = some (.bool c.mute) ∧ w.frozen? ⟨b, 1, none⟩ = false := by
  have := h.blk
  refine ⟨?_, ?_, ?_, ?_, ?_, ?_, ?_, ?_, ?_⟩ <;> simp [World.cell?, World.frozen?, this]
theorem Rd.set {w : World} {b a : Nat} {c : Cx} (h : Rd w b c a) (a' : Nat) : Rd (w.setCell ⟨b, 1, none⟩ (.int .i64 a')) b c a' := by
  have := h.blk
  refine ⟨?_⟩
  simp [World.setCell, Array.getElem?_modify, this]

theorem pk_lt {s : ByteArray} {a : Nat} (h : pk s a ≠ 0) : a < s.size := by
  unfold pk at h
  by_cases hl : a < s.size
  · exact hl
  · rw [dif_neg hl] at h; exact absurd rfl h
theorem pk_256 (s : ByteArray) (a : Nat) : pk s a < 256 := by
  unfold pk
  split
  · exact UInt8.toNat_lt _
  · omega

/-- What is thrown. -/
abbrev thrown (k : Int) : Ending := .panicked [{ v := .iface 73 (.agg #[.int .i64 k]), recovered := false }]

set_option maxHeartbeats 400000 in
theorem peek_calls (w : World) (b a : Nat) (c : Cx) (h : Rd w b c a) (hs : c.s.size ≤ 4611686018427387904) :
    Calls Tryd.prog 43 #[.pointer (some ⟨b, 0, none⟩)] w fun e w' => e = .returned (.int .u8 (pk c.s a)) ∧ ∃ n, w' = w.drewN n := by
  obtain ⟨h0, h1, -, -, -, -, -, -, -⟩ := h.cells
  by_cases hlt : a < c.s.size
  · have hp : pk c.s a = c.s[a].toNat := by unfold pk; rw [dif_pos hlt]
    rw [hp]
    have hi : (a : Int) < c.s.size := by omega
    go_enter Tryd.func43, Tryd.ntmps43
    go_wp2
    go_quiet (fail)
    go_wp2
    go_quiet (fail)
    go_wp2
    go_ret
    exact ⟨rfl, _, World.drewN_drewN _ _ _⟩
  · have hp : pk c.s a = 0 := by unfold pk; rw [dif_neg hlt]
    rw [hp]
    have hi : ¬ (a : Int) < c.s.size := by omega
    go_enter Tryd.func43, Tryd.ntmps43
    go_wp2
    go_quiet (fail)
    go_wp2
    go_ret
    exact ⟨rfl, _, rfl⟩

theorem held_calls (w : World) (b a : Nat) (c : Cx) (n : Int) (h : Rd w b c a) :
    Calls Tryd.prog 44 #[.pointer (some ⟨b, 0, none⟩), .int .i64 n] w fun e w' => w' = w ∧ match heldO c n a with | .ok n _ => e = .returned (.int .i64 n) | .die k => e = thrown k | .stuck => False := by
  obtain ⟨-, -, -, -, -, -, -, h7, -⟩ := h.cells
  unfold heldO
  rcases hm : c.mute with _ | _
  · rw [hm] at h7
    by_cases hb : big n
    · rw [if_neg (by simp), if_pos hb]
      unfold big at hb
      go_enter Tryd.func44, Tryd.ntmps44
      go_wp2
      all_goals first | (exfalso; omega) | skip
      all_goals exact ⟨rfl, rfl, rfl⟩
    · rw [if_neg (by simp), if_neg hb]
      unfold big at hb
      go_enter Tryd.func44, Tryd.ntmps44
      go_wp2
      all_goals first | (exfalso; omega) | skip
      go_ret
      exact ⟨rfl, rfl⟩
  · rw [hm] at h7
    rw [if_pos rfl]
    go_enter Tryd.func44, Tryd.ntmps44
    go_wp2
    go_ret
    exact ⟨rfl, rfl⟩

theorem skipF_le (s : ByteArray) : ∀ k a, a + k ≤ s.size → skipF s k a ≤ s.size
  | 0, a, h => h
  | k + 1, a, h => by
    unfold skipF
    split
    · exact skipF_le s k (a + 1) (by omega)
    · omega
theorem skip_le (s : ByteArray) (deep a : Nat) (h : a ≤ s.size) : skip s deep a ≤ s.size := by
  unfold skip
  split
  · exact skipF_le s _ a (by omega)
  · exact h

set_option maxHeartbeats 1000000 in
theorem blanks_calls (w : World) (b a deep : Nat) (c : Cx) (h : Rd w b c a) (hs : c.s.size ≤ 4611686018427387904) (ha : a ≤ c.s.size) (hd : deep ≤ 1000) :
    Calls Tryd.prog 34 #[.pointer (some ⟨b, 0, none⟩), .int .i64 deep] w fun e w' => e = .returned (.tuple #[]) ∧ Kp b w w' ∧ Rd w' b c (skip c.s deep a) := by
  obtain ⟨r, hr⟩ : ∃ r, skip c.s deep a = r := ⟨_, rfl⟩
  rw [hr]
  have Hr := Lib.hid hr
  clear hr
  go_enter Tryd.func34, Tryd.ntmps34
  go_wp2
  go_loopg [4] (c.s.size - a) (fun k v wr => ∃ a' : Nat, Rd wr b c a' ∧ Kp b w wr ∧ a' + k = c.s.size ∧ Hid ((if 0 < deep then skipF c.s k a' else a') = r))
  case atStart => exact ⟨a, h, Kp.refl _ _, by omega, Hr.out⟩
  case round =>
    obtain ⟨a', hrd, hkp, hk, H⟩ := hrel
    obtain ⟨-, h1, -, -, -, -, -, -, hf⟩ := hrd.cells
    by_cases hd0 : 0 < deep
    · by_cases hp : pk c.s a' = 32
      · have hlt := pk_lt (show pk c.s a' ≠ 0 by omega)
        obtain ⟨k', rfl⟩ : ∃ k', gk = k' + 1 := ⟨gk - 1, by omega⟩
        have hp' : ((pk c.s a' : Nat) : Int) = 32 := by omega
        go_wp2_with (go_at_call 43; (with_reducible refine (peek_calls _ b a' c hrd hs).mono ?_); rintro e w1 ⟨rfl, n, rfl⟩)
        go_roundg k'
        case measure => omega
        case rel =>
          refine ⟨a' + 1, (hrd.drewN n).set (a' + 1), hkp.trans ((Kp.drewN b _ n).trans (Kp.set _ b 1 _)), by omega, ?_⟩
          have := H.out
          rw [if_pos hd0, skipF, if_pos hp] at this
          show _ = _
          rw [if_pos hd0]; exact this
      · have hp' : ¬ ((pk c.s a' : Nat) : Int) = 32 := by omega
        go_wp2_with (go_at_call 43; (with_reducible refine (peek_calls _ b a' c hrd hs).mono ?_); rintro e w1 ⟨rfl, n, rfl⟩)
        go_end0
        have := H.out
        rw [if_pos hd0] at this
        have e : skipF c.s gk a' = a' := by cases gk <;> simp [skipF, hp]
        rw [e] at this
        subst this
        exact ⟨rfl, hkp.trans (Kp.drewN b _ n), hrd.drewN n⟩
    · go_wp2
      go_end0
      have := H.out
      rw [if_neg hd0] at this
      subst this
      exact ⟨rfl, hkp, hrd⟩
end Go.Proofs.YtkomofphgnekoaaDoor

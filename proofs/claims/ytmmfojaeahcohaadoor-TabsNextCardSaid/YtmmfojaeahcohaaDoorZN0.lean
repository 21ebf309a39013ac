/- Merged: T12A, T12B, T12C, T12D, T12D0, T12D1, T12D2, T12D3, T12D5, T12D6, T12D4, T12E, T12F, T12G, T12H, T12I, T12J, T12K, T12L, T12M, D12A, D12B, D12D, D12E. -/
import Derived.Test.YtmmfojaeahcohaaDoorShelf
import Derived.Lib.Strings
import Derived.WalkKit
import Derived.WalkLawsBesides
import Derived.WalkSpells
import Derived.Deep.QuietTactic
import Derived.BigQuiet
import Derived.StillTailTactics
import Derived.LoopTactic
import Derived.LoopN
import Derived.Deep.LoopGhost
import Derived.Lib.Hide
import Derived.Laws.Pointers
import Derived.Test.YtmmfojaeahcohaaDoorAids
import Derived.Test.YtmmfojaeahcohaaDoorOpens
import Derived.Test.YtmmfojaeahcohaaDoorPTabsNextx0
import Derived.Laws.CopyRow
import Derived.Laws.MakeOwn
import Derived.Deep.RegionLaw
import Derived.Test.YtmmfojaeahcohaaDoorWMore
import Derived.Test.YtmmfojaeahcohaaDoorNextN
import Derived.Test.YtmmfojaeahcohaaDoorNextO
import Derived.Test.YtmmfojaeahcohaaDoorNextR
import Derived.Test.YtmmfojaeahcohaaDoorNextP
import Derived.Lib.Join
import Derived.Lib.SmallJoins
import Derived.Lib.AppendIntMem
import Derived.Deep.RegionHeld3
import Derived.Maps.AppendAt
import Derived.Deep.AppendLies
import Derived.Lib.FrozenHead
set_option linter.unusedVariables false
set_option linter.unusedSimpArgs false
namespace Go.Proofs.YtmmfojaeahcohaaDoor
open Go.Lib

/-- The byte at a place; beyond the end 0. -/
def pk (s : ByteArray) (a : Nat) : Nat := if h : a < s.size then s[a].toNat else 0
theorem pk_get (s : ByteArray) (a : Nat) (h : a < s.size) : pk s a = s[a].toNat := by unfold pk; rw [dif_pos h]
theorem pk_256 (s : ByteArray) (a : Nat) : pk s a < 256 := by
  unfold pk
  split
  · exact UInt8.toNat_lt _
  · decide
/-- A byte that can be seen. -/
def okN (c : Nat) : Bool := decide (33 ≤ c ∧ c ≤ 126)
def allOk (s : ByteArray) (i : Nat) : Bool := (List.range (s.size - i)).all fun k => okN (pk s (i + k))
theorem allOk_iff (s : ByteArray) (i : Nat) : allOk s i = true ↔ ∀ k, i ≤ k → k < s.size → okN (pk s k) = true := by
  unfold allOk
  rw [List.all_eq_true]
  constructor
  · intro h k h1 h2
    have := h (k - i) (List.mem_range.2 (by omega))
    rwa [show i + (k - i) = k by omega] at this
  · intro h k hk
    have := List.mem_range.1 hk
    exact h (i + k) (by omega) (by omega)
theorem allOk_step (s : ByteArray) (i : Nat) (h : i < s.size) : allOk s i = (okN (pk s i) && allOk s (i + 1)) := by
  rw [Bool.eq_iff_iff, Bool.and_eq_true, allOk_iff, allOk_iff]
  constructor
  · exact fun q => ⟨q i (Nat.le_refl _) h, fun k h1 h2 => q k (by omega) h2⟩
  · rintro ⟨q1, q2⟩ k h1 h2
    by_cases e : k = i
    · subst e; exact q1
    · exact q2 k (by omega) h2
theorem allOk_end (s : ByteArray) (i : Nat) (h : ¬ i < s.size) : allOk s i = true := (allOk_iff s i).2 fun k h1 h2 => by omega
/-- A rune that is none of these. -/
def badR (r : Nat) : Bool := decide (r < 33) || decide (126 < r)
theorem decode_low {s : ByteArray} {p : Nat} (h : p < s.size) (hb : pk s p < 128) : Utf8.decode s p = (pk s p, 1) := by
  rw [pk_get s p h] at hb ⊢
  have e : s.get! p = s[p] := by
    show (s.data[p]! : UInt8) = s.data[p]
    rw [getElem!_pos]
  unfold Utf8.decode
  simp only [Nat.add_zero, e]
  rw [if_pos hb]
theorem decode_high {s : ByteArray} {p : Nat} (h : p < s.size) (hb : ¬ pk s p < 128) : 128 ≤ (Utf8.decode s p).1 := by
  rw [pk_get s p h] at hb
  have e : s.get! p = s[p] := by
    show (s.data[p]! : UInt8) = s.data[p]
    rw [getElem!_pos]
  unfold Utf8.decode
  simp only [Nat.add_zero, e]
  rw [if_neg hb]
  unfold Utf8.runeError
  repeat' split
  all_goals first | (simp; done) | (rename_i h1; simp at h1 ⊢; omega)
theorem idx_ok (s : ByteArray) : ∀ f p, s.size ≤ p + f → (Lib.idxFuncFrom badR true s f p = -1 ↔ ∀ k, p ≤ k → k < s.size → okN (pk s k) = true)
  | 0, p, h => by
    unfold Lib.idxFuncFrom
    exact ⟨fun _ k h1 h2 => by omega, fun _ => rfl⟩
  | f + 1, p, h => by
    unfold Lib.idxFuncFrom
    by_cases hp : p < s.size
    · rw [if_pos hp]
      by_cases hb : pk s p < 128
      · rw [decode_low hp hb]
        simp only
        by_cases hs : okN (pk s p) = true
        · have hs' := hs
          unfold okN at hs'
          rw [decide_eq_true_eq] at hs'
          rw [if_neg (by unfold badR; simp; omega), idx_ok s f (p + 1) (by omega)]
          constructor
          · intro h k h1 h2
            by_cases e : k = p
            · subst e; exact hs
            · exact h k (by omega) h2
          · exact fun h k h1 h2 => h k (by omega) h2
        · have hs' := hs
          unfold okN at hs'
          rw [decide_eq_true_eq] at hs'
          rw [if_pos (by unfold badR; simp; omega)]
          exact ⟨fun e => by omega, fun h => absurd (h p (Nat.le_refl _) hp) hs⟩
      · have hd := decode_high hp hb
        rw [if_pos (by unfold badR; simp; omega)]
        refine ⟨fun e => by omega, fun h => ?_⟩
        have := h p (Nat.le_refl _) hp
        unfold okN at this
        rw [decide_eq_true_eq] at this
        omega
    · rw [if_neg hp]
      exact ⟨fun _ k h1 h2 => by omega, fun _ => rfl⟩
theorem seen_iff (s : ByteArray) : (!decide (0 ≤ Lib.idxFunc badR true s)) = allOk s 0 := by
  rw [Bool.eq_iff_iff, allOk_iff]
  have h := idx_ok s s.size 0 (by omega)
  have hr := Lib.idxFunc_range badR true s
  unfold Lib.idxFunc at hr ⊢
  simp only [Bool.not_eq_true', decide_eq_false_iff_not]
  rw [← h]
  omega
theorem nat0 (m : Nat) : ((m : Int) == 0) = decide (m = 0) := by
  rw [Bool.eq_iff_iff, beq_iff_eq, decide_eq_true_eq]; omega
theorem int0 (m : Int) : (m == 0) = decide (m = 0) := by
  rw [Bool.eq_iff_iff, beq_iff_eq, decide_eq_true_eq]
theorem emp0 (l : List UInt8) : l.isEmpty = decide (l = []) := by
  cases l <;> simp
/-- A colour; a glyph's name. -/
def colB (s : ByteArray) : Bool := decide (s.size ≤ 20) && allOk s 0
def nameB (s : ByteArray) : Bool := decide (1 ≤ s.size) && (decide (s.size ≤ 10) && allOk s 0)
/-- A stroke's letter. -/
def strokeB (s : ByteArray) : Bool := decide (s.size = 1) && (decide (pk s 0 = 108) || (decide (pk s 0 = 99) || (decide (pk s 0 = 101) || (decide (pk s 0 = 97) || decide (pk s 0 = 126)))))
def farB (n : Int) : Bool := decide (n < -1000000) || decide (1000000 < n)
/-- A box. -/
def bareB (f s : Int) (c : ByteArray) (m : Nat) : Bool := decide (f = 0) && (decide (s = 0) && (decide (c.toList = []) && decide (m = 0)))
def kindB (k w f s : Int) (n c : ByteArray) (l : List Int) : Bool :=
  if k = 0 then nameB n && decide (l.length = 0)
  else if k = 1 then (decide (n.toList = []) || decide (n.toList = [126])) && (decide (c.toList = []) && decide (l.length = 0))
  else if k = 4 then decide (f = 0) && (decide (s = 0) && (strokeB n && (decide (l.length ≤ 40) && !l.any farB)))
  else if k = 5 then bareB f s c l.length && (decide (n.toList = []) && decide (w = 0))
  else if k = 2 ∨ k = 3 ∨ k = 6 then bareB f s c l.length && decide (n.toList = [])
  else false
def validB (k w f s : Int) (n c : ByteArray) (l : List Int) : Bool :=
  if w < -1000000 ∨ 1000000 < w ∨ f < 0 ∨ s < 0 then false else colB c && kindB k w f s n c l
end Go.Proofs.YtmmfojaeahcohaaDoor

set_option linter.unusedVariables false
set_option linter.unusedSimpArgs false
namespace Go.Proofs.YtmmfojaeahcohaaDoor
open Go.Shelf Go.RowKit Go.Lib Go.Aids Go.Proofs.YtmmfojaeahcohaaDoorW.PrintWords

theorem bad75 (w : World) : PredAt Tryd.prog 71 #[] encR badR w := fun W r _ => by
  unfold FnGives badR
  by_cases h1 : r < 33 <;> by_cases h2 : 126 < r
  all_goals
    have z1 : (r : Int) < 33 ↔ r < 33 := by omega
    have z2 : (126 : Int) < (r : Int) ↔ 126 < r := by omega
    go_enter Tryd.func71, Tryd.ntmps71
    go_wp2
    all_goals first | (exfalso; omega) | (go_ret; exact ⟨by first | (simp [h1, h2]; done) | (simp [h1, h2]; omega), 0, rfl⟩)
theorem bad76 (w : World) : PredAt Tryd.prog 72 #[] encR badR w := fun W r _ => by
  unfold FnGives badR
  by_cases h1 : r < 33 <;> by_cases h2 : 126 < r
  all_goals
    have z1 : (r : Int) < 33 ↔ r < 33 := by omega
    have z2 : (126 : Int) < (r : Int) ↔ 126 < r := by omega
    go_enter Tryd.func72, Tryd.ntmps72
    go_wp2
    all_goals first | (exfalso; omega) | (go_ret; exact ⟨by first | (simp [h1, h2]; done) | (simp [h1, h2]; omega), 0, rfl⟩)
theorem colour_calls (s : ByteArray) (w : World) : Calls Tryd.prog 50 #[.string s] w fun e w' => e = .returned (.bool (colB s)) ∧ Below w.heap.size w w' := by
  have hC := Lib.hid (fun w => Tryd.strings_ContainsFunc 71 #[] (enters_of Tryd.func71 (by kernel_rfl) rfl) _ s w (bad75 w))
  unfold colB
  rw [← seen_iff]
  by_cases h2 : s.size ≤ 20
  · rw [decide_eq_true h2]
    have d2 : decide ((s.size : Int) ≤ 20) = true := decide_eq_true (by omega)
    have d4 : decide (s.size ≤ 20) = true := decide_eq_true (by omega)
    go_enter Tryd.func50, Tryd.ntmps50
    go_wp2_with (go_at_call 70; refine (hC.out _).mono ?_; rintro e w' ⟨rfl, hb⟩)
    go_ret
    exact ⟨by simp, hb⟩
  · rw [decide_eq_false h2]
    have d2 : decide ((s.size : Int) ≤ 20) = false := decide_eq_false (by omega)
    have d4 : decide (s.size ≤ 20) = false := decide_eq_false (by omega)
    go_enter Tryd.func50, Tryd.ntmps50
    go_wp2
    go_ret
    exact ⟨rfl, Below.refl _ _⟩
theorem named_calls (s : ByteArray) (w : World) : Calls Tryd.prog 51 #[.string s] w fun e w' => e = .returned (.bool (nameB s)) ∧ Below w.heap.size w w' := by
  have hC := Lib.hid (fun w => Tryd.strings_ContainsFunc 72 #[] (enters_of Tryd.func72 (by kernel_rfl) rfl) _ s w (bad76 w))
  unfold nameB
  rw [← seen_iff]
  by_cases h1 : 1 ≤ s.size
  · by_cases h2 : s.size ≤ 10
    · rw [decide_eq_true h1, decide_eq_true h2]
      have d1 : decide ((1 : Int) ≤ s.size) = true := decide_eq_true (by omega)
      have d2 : decide ((s.size : Int) ≤ 10) = true := decide_eq_true (by omega)
      have d3 : decide (1 ≤ s.size) = true := decide_eq_true (by omega)
      have d4 : decide (s.size ≤ 10) = true := decide_eq_true (by omega)
      go_enter Tryd.func51, Tryd.ntmps51
      go_wp2_with (go_at_call 70; refine (hC.out _).mono ?_; rintro e w' ⟨rfl, hb⟩)
      go_ret
      exact ⟨by simp, hb⟩
    · rw [decide_eq_true h1, decide_eq_false h2]
      have d1 : decide ((1 : Int) ≤ s.size) = true := decide_eq_true (by omega)
      have d2 : decide ((s.size : Int) ≤ 10) = false := decide_eq_false (by omega)
      have d3 : decide (1 ≤ s.size) = true := decide_eq_true (by omega)
      have d4 : decide (s.size ≤ 10) = false := decide_eq_false (by omega)
      go_enter Tryd.func51, Tryd.ntmps51
      go_wp2
      go_ret
      exact ⟨rfl, Below.refl _ _⟩
  · rw [decide_eq_false h1]
    have d1 : decide ((1 : Int) ≤ s.size) = false := decide_eq_false (by omega)
    have d3 : decide (1 ≤ s.size) = false := decide_eq_false (by omega)
    go_enter Tryd.func51, Tryd.ntmps51
    go_wp2
    go_ret
    exact ⟨rfl, Below.refl _ _⟩
end Go.Proofs.YtmmfojaeahcohaaDoor

set_option linter.unusedVariables false
set_option linter.unusedSimpArgs false
namespace Go.Proofs.YtmmfojaeahcohaaDoor
open Go.Shelf Go.RowKit Go.Lib Go.Aids Go.Proofs.YtmmfojaeahcohaaDoorW.PrintWords

set_option maxRecDepth 100000 in
set_option maxHeartbeats 4000000 in
theorem valid_w1 (k w f s : Int) (nm cl : ByteArray) (A : Option Addr) (c : Nat) (l : List Int) (h : w < -1000000) (W1 : World) :
    Calls Tryd.prog 27 #[.agg #[.int .i64 k, .int .i64 w, .int .i64 f, .int .i64 s, .string nm, .string cl, .slice A l.length c]] W1 fun e W' => e = .returned (.bool false) ∧ Below W1.heap.size W1 W' := by
  have d1 : decide (w < -1000000) = true := decide_eq_true h
  go_enter Tryd.func27, Tryd.ntmps27
  go_wp2
  all_goals
    go_ret
    exact ⟨rfl, (Below.refl _ _).alloc (Nat.le_refl _) _⟩

set_option maxRecDepth 100000 in
set_option maxHeartbeats 4000000 in
theorem valid_w2 (k w f s : Int) (nm cl : ByteArray) (A : Option Addr) (c : Nat) (l : List Int) (h0 : ¬ w < -1000000) (h : 1000000 < w) (W1 : World) :
    Calls Tryd.prog 27 #[.agg #[.int .i64 k, .int .i64 w, .int .i64 f, .int .i64 s, .string nm, .string cl, .slice A l.length c]] W1 fun e W' => e = .returned (.bool false) ∧ Below W1.heap.size W1 W' := by
  go_enter Tryd.func27, Tryd.ntmps27
  go_wp2
  all_goals
    go_ret
    exact ⟨rfl, (Below.refl _ _).alloc (Nat.le_refl _) _⟩

set_option maxRecDepth 100000 in
set_option maxHeartbeats 4000000 in
theorem valid_f (k w f s : Int) (nm cl : ByteArray) (A : Option Addr) (c : Nat) (l : List Int) (h0 : ¬ w < -1000000) (h1 : ¬ 1000000 < w) (h : f < 0) (W1 : World) :
    Calls Tryd.prog 27 #[.agg #[.int .i64 k, .int .i64 w, .int .i64 f, .int .i64 s, .string nm, .string cl, .slice A l.length c]] W1 fun e W' => e = .returned (.bool false) ∧ Below W1.heap.size W1 W' := by
  go_enter Tryd.func27, Tryd.ntmps27
  go_wp2
  all_goals
    go_ret
    exact ⟨rfl, (Below.refl _ _).alloc (Nat.le_refl _) _⟩

set_option maxRecDepth 100000 in
set_option maxHeartbeats 4000000 in
theorem valid_s (k w f s : Int) (nm cl : ByteArray) (A : Option Addr) (c : Nat) (l : List Int) (h0 : ¬ w < -1000000) (h1 : ¬ 1000000 < w) (h2 : ¬ f < 0) (h : s < 0) (W1 : World) :
    Calls Tryd.prog 27 #[.agg #[.int .i64 k, .int .i64 w, .int .i64 f, .int .i64 s, .string nm, .string cl, .slice A l.length c]] W1 fun e W' => e = .returned (.bool false) ∧ Below W1.heap.size W1 W' := by
  go_enter Tryd.func27, Tryd.ntmps27
  go_wp2
  all_goals
    go_ret
    exact ⟨rfl, (Below.refl _ _).alloc (Nat.le_refl _) _⟩

end Go.Proofs.YtmmfojaeahcohaaDoor

set_option linter.unusedVariables false
set_option linter.unusedSimpArgs false
namespace Go.Proofs.YtmmfojaeahcohaaDoor
open Go.Shelf Go.RowKit Go.Lib Go.Aids Go.Proofs.YtmmfojaeahcohaaDoorW.PrintWords

set_option maxRecDepth 100000 in
set_option maxHeartbeats 4000000 in
theorem valid_c (k w f s : Int) (nm cl : ByteArray) (A : Option Addr) (c : Nat) (l : List Int) (h0 : ¬ w < -1000000) (h1 : ¬ 1000000 < w) (h2 : ¬ f < 0) (h3 : ¬ s < 0) (hc : colB cl = false) (W1 : World) :
    Calls Tryd.prog 27 #[.agg #[.int .i64 k, .int .i64 w, .int .i64 f, .int .i64 s, .string nm, .string cl, .slice A l.length c]] W1 fun e W' => e = .returned (.bool false) ∧ Below W1.heap.size W1 W' := by
  have HC := Lib.hid (fun W => colour_calls cl W)
  rw [hc] at HC
  clear hc
  go_enter Tryd.func27, Tryd.ntmps27
  go_wp2_with (go_at_call 50; (with_reducible refine (HC.out _).mono ?_); rintro e w2 ⟨rfl, hb2⟩; obtain ⟨hc2, hf2⟩ := bcell hb2; have hz2 : W1.heap.size < w2.heap.size := (by have h := hb2.size; simp at h; omega); have HB2 := Lib.hid (((Below.refl _ W1).alloc (Nat.le_refl _) _).trans (hb2.mono (by simp))); clear hb2)
  all_goals
    go_ret
    exact ⟨rfl, HB2.out⟩

end Go.Proofs.YtmmfojaeahcohaaDoor

set_option linter.unusedVariables false
set_option linter.unusedSimpArgs false
namespace Go.Proofs.YtmmfojaeahcohaaDoor
open Go.Shelf Go.RowKit Go.Lib Go.Aids Go.Proofs.YtmmfojaeahcohaaDoorW.PrintWords

set_option maxRecDepth 100000 in
set_option maxHeartbeats 4000000 in
theorem valid_0 (w f s : Int) (nm cl : ByteArray) (A : Option Addr) (c m : Nat) (h0 : ¬ w < -1000000) (h1 : ¬ 1000000 < w) (h2 : ¬ f < 0) (h3 : ¬ s < 0) (hc : colB cl = true) (hm63 : m ≤ 9223372036854775807) (W1 : World) :
    Calls Tryd.prog 27 #[.agg #[.int .i64 0, .int .i64 w, .int .i64 f, .int .i64 s, .string nm, .string cl, .slice A m c]] W1 fun e W' => e = .returned (.bool (nameB nm && decide (m = 0))) ∧ Below W1.heap.size W1 W' := by
  have HC := Lib.hid (fun W => colour_calls cl W)
  rw [hc] at HC
  clear hc
  have HN := Lib.hid (fun W => named_calls nm W)
  obtain ⟨N, hN⟩ : ∃ N, nameB nm = N := ⟨_, rfl⟩
  rw [hN] at HN ⊢
  clear hN
  cases N
  all_goals go_enter Tryd.func27, Tryd.ntmps27
  all_goals go_wp2_with (first | (go_at_call 50; (with_reducible refine (HC.out _).mono ?_); rintro e w2 ⟨rfl, hb2⟩; obtain ⟨hc2, hf2⟩ := bcell hb2; have hz2 : W1.heap.size < w2.heap.size := (by have h := hb2.size; simp at h; omega); have HB2 := Lib.hid (((Below.refl _ W1).alloc (Nat.le_refl _) _).trans (hb2.mono (by simp))); clear hb2) | (go_at_call 51; (with_reducible refine (HN.out _).mono ?_); rintro e w3 ⟨rfl, hb3⟩; obtain ⟨hc3, hf3⟩ := bcell hb3; have hz3 : W1.heap.size < w3.heap.size := (by have h := hb3.size; omega); have HB3 := Lib.hid (HB2.out.trans (hb3.mono HB2.out.size)); clear hb3))
  all_goals
    go_ret
    first
      | exact ⟨by first | (simp [*, nat0, int0, emp0]; done) | (simp [*, nat0, int0, emp0]; omega), HB3.out⟩
      | exact ⟨by first | (simp [*, nat0, int0, emp0]; done) | (simp [*, nat0, int0, emp0]; omega), HB2.out⟩

end Go.Proofs.YtmmfojaeahcohaaDoor

set_option linter.unusedVariables false
set_option linter.unusedSimpArgs false
namespace Go.Proofs.YtmmfojaeahcohaaDoor
open Go.Shelf Go.RowKit Go.Lib Go.Aids Go.Proofs.YtmmfojaeahcohaaDoorW.PrintWords

set_option maxRecDepth 100000 in
set_option maxHeartbeats 4000000 in
theorem valid_1 (w f s : Int) (nm cl : ByteArray) (A : Option Addr) (c m : Nat) (h0 : ¬ w < -1000000) (h1 : ¬ 1000000 < w) (h2 : ¬ f < 0) (h3 : ¬ s < 0) (hc : colB cl = true) (hm63 : m ≤ 9223372036854775807) (W1 : World) :
    Calls Tryd.prog 27 #[.agg #[.int .i64 1, .int .i64 w, .int .i64 f, .int .i64 s, .string nm, .string cl, .slice A m c]] W1 fun e W' => e = .returned (.bool ((decide (nm.toList = []) || decide (nm.toList = [126])) && (decide (cl.toList = []) && decide (m = 0)))) ∧ Below W1.heap.size W1 W' := by
  have HC := Lib.hid (fun W => colour_calls cl W)
  rw [hc] at HC
  clear hc
  all_goals go_enter Tryd.func27, Tryd.ntmps27
  all_goals go_wp2_with (go_at_call 50; (with_reducible refine (HC.out _).mono ?_); rintro e w2 ⟨rfl, hb2⟩; obtain ⟨hc2, hf2⟩ := bcell hb2; have hz2 : W1.heap.size < w2.heap.size := (by have h := hb2.size; simp at h; omega); have HB2 := Lib.hid (((Below.refl _ W1).alloc (Nat.le_refl _) _).trans (hb2.mono (by simp))); clear hb2)
  all_goals
    go_ret
    exact ⟨by first | (simp [*, nat0, int0, emp0]; done) | (simp [*, nat0, int0, emp0]; omega), HB2.out⟩

end Go.Proofs.YtmmfojaeahcohaaDoor

set_option linter.unusedVariables false
set_option linter.unusedSimpArgs false
namespace Go.Proofs.YtmmfojaeahcohaaDoor
open Go.Shelf Go.RowKit Go.Lib Go.Aids Go.Proofs.YtmmfojaeahcohaaDoorW.PrintWords

set_option maxRecDepth 100000 in
set_option maxHeartbeats 4000000 in
theorem valid_2 (w f s : Int) (nm cl : ByteArray) (A : Option Addr) (c m : Nat) (h0 : ¬ w < -1000000) (h1 : ¬ 1000000 < w) (h2 : ¬ f < 0) (h3 : ¬ s < 0) (hc : colB cl = true) (hm63 : m ≤ 9223372036854775807) (W1 : World) :
    Calls Tryd.prog 27 #[.agg #[.int .i64 2, .int .i64 w, .int .i64 f, .int .i64 s, .string nm, .string cl, .slice A m c]] W1 fun e W' => e = .returned (.bool (bareB f s cl m && decide (nm.toList = []))) ∧ Below W1.heap.size W1 W' := by
  have HC := Lib.hid (fun W => colour_calls cl W)
  rw [hc] at HC
  clear hc
  unfold bareB
  all_goals go_enter Tryd.func27, Tryd.ntmps27
  all_goals go_wp2_with (go_at_call 50; (with_reducible refine (HC.out _).mono ?_); rintro e w2 ⟨rfl, hb2⟩; obtain ⟨hc2, hf2⟩ := bcell hb2; have hz2 : W1.heap.size < w2.heap.size := (by have h := hb2.size; simp at h; omega); have HB2 := Lib.hid (((Below.refl _ W1).alloc (Nat.le_refl _) _).trans (hb2.mono (by simp))); clear hb2)
  all_goals
    go_ret
    exact ⟨by first | (simp [*, nat0, int0, emp0]; done) | (simp [*, nat0, int0, emp0]; omega), HB2.out⟩

end Go.Proofs.YtmmfojaeahcohaaDoor

set_option linter.unusedVariables false
set_option linter.unusedSimpArgs false
namespace Go.Proofs.YtmmfojaeahcohaaDoor
open Go.Shelf Go.RowKit Go.Lib Go.Aids Go.Proofs.YtmmfojaeahcohaaDoorW.PrintWords

set_option maxRecDepth 100000 in
set_option maxHeartbeats 4000000 in
theorem valid_3 (w f s : Int) (nm cl : ByteArray) (A : Option Addr) (c m : Nat) (h0 : ¬ w < -1000000) (h1 : ¬ 1000000 < w) (h2 : ¬ f < 0) (h3 : ¬ s < 0) (hc : colB cl = true) (hm63 : m ≤ 9223372036854775807) (W1 : World) :
    Calls Tryd.prog 27 #[.agg #[.int .i64 3, .int .i64 w, .int .i64 f, .int .i64 s, .string nm, .string cl, .slice A m c]] W1 fun e W' => e = .returned (.bool (bareB f s cl m && decide (nm.toList = []))) ∧ Below W1.heap.size W1 W' := by
  have HC := Lib.hid (fun W => colour_calls cl W)
  rw [hc] at HC
  clear hc
  unfold bareB
  all_goals go_enter Tryd.func27, Tryd.ntmps27
  all_goals go_wp2_with (go_at_call 50; (with_reducible refine (HC.out _).mono ?_); rintro e w2 ⟨rfl, hb2⟩; obtain ⟨hc2, hf2⟩ := bcell hb2; have hz2 : W1.heap.size < w2.heap.size := (by have h := hb2.size; simp at h; omega); have HB2 := Lib.hid (((Below.refl _ W1).alloc (Nat.le_refl _) _).trans (hb2.mono (by simp))); clear hb2)
  all_goals
    go_ret
    exact ⟨by first | (simp [*, nat0, int0, emp0]; done) | (simp [*, nat0, int0, emp0]; omega), HB2.out⟩

end Go.Proofs.YtmmfojaeahcohaaDoor

set_option linter.unusedVariables false
set_option linter.unusedSimpArgs false
namespace Go.Proofs.YtmmfojaeahcohaaDoor
open Go.Shelf Go.RowKit Go.Lib Go.Aids Go.Proofs.YtmmfojaeahcohaaDoorW.PrintWords

set_option maxRecDepth 100000 in
set_option maxHeartbeats 4000000 in
theorem valid_5 (w f s : Int) (nm cl : ByteArray) (A : Option Addr) (c m : Nat) (h0 : ¬ w < -1000000) (h1 : ¬ 1000000 < w) (h2 : ¬ f < 0) (h3 : ¬ s < 0) (hc : colB cl = true) (hm63 : m ≤ 9223372036854775807) (W1 : World) :
    Calls Tryd.prog 27 #[.agg #[.int .i64 5, .int .i64 w, .int .i64 f, .int .i64 s, .string nm, .string cl, .slice A m c]] W1 fun e W' => e = .returned (.bool (bareB f s cl m && (decide (nm.toList = []) && decide (w = 0)))) ∧ Below W1.heap.size W1 W' := by
  have HC := Lib.hid (fun W => colour_calls cl W)
  rw [hc] at HC
  clear hc
  unfold bareB
  all_goals go_enter Tryd.func27, Tryd.ntmps27
  all_goals go_wp2_with (go_at_call 50; (with_reducible refine (HC.out _).mono ?_); rintro e w2 ⟨rfl, hb2⟩; obtain ⟨hc2, hf2⟩ := bcell hb2; have hz2 : W1.heap.size < w2.heap.size := (by have h := hb2.size; simp at h; omega); have HB2 := Lib.hid (((Below.refl _ W1).alloc (Nat.le_refl _) _).trans (hb2.mono (by simp))); clear hb2)
  all_goals
    go_ret
    exact ⟨by first | (simp [*, nat0, int0, emp0]; done) | (simp [*, nat0, int0, emp0]; omega), HB2.out⟩

end Go.Proofs.YtmmfojaeahcohaaDoor

set_option linter.unusedVariables false
set_option linter.unusedSimpArgs false
namespace Go.Proofs.YtmmfojaeahcohaaDoor
open Go.Shelf Go.RowKit Go.Lib Go.Aids Go.Proofs.YtmmfojaeahcohaaDoorW.PrintWords

set_option maxRecDepth 100000 in
set_option maxHeartbeats 4000000 in
theorem valid_6 (w f s : Int) (nm cl : ByteArray) (A : Option Addr) (c m : Nat) (h0 : ¬ w < -1000000) (h1 : ¬ 1000000 < w) (h2 : ¬ f < 0) (h3 : ¬ s < 0) (hc : colB cl = true) (hm63 : m ≤ 9223372036854775807) (W1 : World) :
    Calls Tryd.prog 27 #[.agg #[.int .i64 6, .int .i64 w, .int .i64 f, .int .i64 s, .string nm, .string cl, .slice A m c]] W1 fun e W' => e = .returned (.bool (bareB f s cl m && decide (nm.toList = []))) ∧ Below W1.heap.size W1 W' := by
  have HC := Lib.hid (fun W => colour_calls cl W)
  rw [hc] at HC
  clear hc
  unfold bareB
  all_goals go_enter Tryd.func27, Tryd.ntmps27
  all_goals go_wp2_with (go_at_call 50; (with_reducible refine (HC.out _).mono ?_); rintro e w2 ⟨rfl, hb2⟩; obtain ⟨hc2, hf2⟩ := bcell hb2; have hz2 : W1.heap.size < w2.heap.size := (by have h := hb2.size; simp at h; omega); have HB2 := Lib.hid (((Below.refl _ W1).alloc (Nat.le_refl _) _).trans (hb2.mono (by simp))); clear hb2)
  all_goals
    go_ret
    exact ⟨by first | (simp [*, nat0, int0, emp0]; done) | (simp [*, nat0, int0, emp0]; omega), HB2.out⟩

end Go.Proofs.YtmmfojaeahcohaaDoor

set_option linter.unusedVariables false
set_option linter.unusedSimpArgs false
namespace Go.Proofs.YtmmfojaeahcohaaDoor
open Go.Shelf Go.RowKit Go.Lib Go.Aids Go.Opens Go.Proofs.YtmmfojaeahcohaaDoorW.PrintWords

abbrev kI : Kd Int := Kd.int .i64
theorem ints_at {w : World} {A : Option Addr} {l : List Int} (h : kI.C w A l.length l) (hn : 0 < l.length) : ∃ b off, A = some ⟨b, off, none⟩ ∧ b < w.heap.size ∧
    ∀ k (hk : k < l.length), w.cell? ⟨b, off + k, none⟩ = some (.int .i64 l[k]) := by
  obtain ⟨b, off, hA, hb, hc⟩ := C_at h (by show 0 < 1; omega) hn
  refine ⟨b, off, hA, hb, fun i hi => ?_⟩
  obtain ⟨c, _, hk, hcell⟩ := hc i hi
  have e : c = [.int .i64 l[i]] := hk
  subst e
  have := hcell 0 _ rfl
  rw [show kI.sz = 1 from rfl, Nat.mul_one] at this
  exact this
theorem stroke_is (c : UInt8) : decide (0 ≤ Lib.indexByte (⟨#[108, 99, 101, 97, 126]⟩ : ByteArray).data.toList c) = strokeB ⟨#[c]⟩ := by
  have : ∀ c : UInt8, decide (0 ≤ Lib.indexByte [108, 99, 101, 97, 126] c) = (decide (c.toNat = 108) || (decide (c.toNat = 99) || (decide (c.toNat = 101) || (decide (c.toNat = 97) || decide (c.toNat = 126))))) := by
    intro c
    have h := c.toNat_lt
    obtain ⟨n, hn⟩ : ∃ n, c.toNat = n := ⟨_, rfl⟩
    have e : c = UInt8.ofNat n := by rw [← hn]; simp
    rw [hn] at h ⊢
    subst e
    clear hn
    revert n
    decide +kernel
  show decide (0 ≤ Lib.indexByte [108, 99, 101, 97, 126] c) = _
  rw [this c]
  unfold strokeB
  have e1 : (⟨#[c]⟩ : ByteArray).size = 1 := rfl
  have e2 : pk ⟨#[c]⟩ 0 = c.toNat := rfl
  rw [e1, e2]
  rfl
theorem far_pred (w : World) : PredAt Tryd.prog 52 #[] (Value.int .i64) farB w := fun W r _ => by
  unfold FnGives farB
  by_cases h1 : r < -1000000 <;> by_cases h2 : 1000000 < r
  all_goals
    go_enter Tryd.func52, Tryd.ntmps52
    go_wp2
    all_goals first | (exfalso; omega) | (go_ret; exact ⟨by first | (simp [h1, h2]; done) | (simp [h1, h2]; omega), 0, rfl⟩)
theorem drewN_below {B : Nat} (W : World) (q : Nat) : Below B W (W.drewN q) := belowN (Below.refl _ _) q
theorem fars_calls (A : Option Addr) (c : Nat) (l : List Int) (w : World) (h : kI.C w A l.length l) (hl : l.length ≤ 9223372036854775807) :
    Calls Tryd.prog 32 #[.slice A l.length c, .func (.func 52) #[] #[]] w fun e w' => e = .returned (.bool (l.any farB)) ∧ Below w.heap.size w w' := by
  rcases Nat.eq_zero_or_pos l.length with h0 | h0
  · have e : l = [] := List.eq_nil_of_length_eq_zero h0
    subst e
    refine (Tryd.slices_ContainsFunc_empty (α := Int) A c _ w).mono ?_
    rintro e w' ⟨rfl, rfl⟩
    exact ⟨rfl, Below.refl _ _⟩
  · obtain ⟨b, off, rfl, hb, hc⟩ := ints_at h h0
    refine (Tryd.slices_ContainsFunc (Value.int .i64) farB 52 #[] (enters_of Tryd.func52 (by kernel_rfl) rfl) b off l.length c l w (far_pred w) (Nat.le_refl _) hl fun j hj => ?_).mono ?_
    · rw [hc j hj, getElem!_pos l j hj]
    · rintro e w' ⟨rfl, q, rfl⟩
      rw [List.take_of_length_le (Nat.le_refl _)]
      exact ⟨rfl, drewN_below w q⟩
set_option maxRecDepth 100000 in
set_option maxHeartbeats 4000000 in
theorem valid_4 (w f s : Int) (nm cl : ByteArray) (A : Option Addr) (c : Nat) (l : List Int) (h0 : ¬ w < -1000000) (h1 : ¬ 1000000 < w) (h2 : ¬ f < 0) (h3 : ¬ s < 0) (hc : colB cl = true) (hl : l.length ≤ 9223372036854775807) (W1 : World) (hC : kI.C W1 A l.length l) :
    Calls Tryd.prog 27 #[.agg #[.int .i64 4, .int .i64 w, .int .i64 f, .int .i64 s, .string nm, .string cl, .slice A l.length c]] W1 fun e W' => e = .returned (.bool (decide (f = 0) && (decide (s = 0) && (strokeB nm && (decide (l.length ≤ 40) && !l.any farB))))) ∧ Below W1.heap.size W1 W' := by
  have HC := Lib.hid (fun W => colour_calls cl W)
  have HF := Lib.hid (fun W h => fars_calls A c l W h hl)
  have HK := Lib.hid hC
  rw [hc] at HC
  obtain ⟨G, hG⟩ : ∃ G, l.any farB = G := ⟨_, rfl⟩
  rw [hG] at HF ⊢
  clear hc hG hC
  obtain ⟨m, hm⟩ : ∃ m, l.length = m := ⟨_, rfl⟩
  rw [hm] at HF HK hl
  simp only [hm]
  clear hm
  by_cases hn : nm.size = 1
  · obtain ⟨b, rfl⟩ : ∃ b, nm = ⟨#[b]⟩ := by
      obtain ⟨⟨L⟩⟩ := nm
      have : L.length = 1 := hn
      match L, this with
      | [b], _ => exact ⟨b, rfl⟩
    have HS := Lib.hid (fun W => Tryd.strings_Contains_one ⟨#[108, 99, 101, 97, 126]⟩ b W)
    rw [stroke_is] at HS
    obtain ⟨S, hS⟩ : ∃ S, strokeB ⟨#[b]⟩ = S := ⟨_, rfl⟩
    rw [hS] at HS ⊢
    clear hS
    have hn1 : ((⟨#[b]⟩ : ByteArray).size : Int) = 1 := rfl
    have hm1 : ((m : Int) ≤ 40) ↔ (m ≤ 40) := by omega
    cases S <;> cases G <;> by_cases hm40 : m ≤ 40
    all_goals go_enter Tryd.func27, Tryd.ntmps27
    all_goals go_wp2_with (first
      | (go_at_call 50; (with_reducible refine (HC.out _).mono ?_); rintro e w2 ⟨rfl, hb2⟩; obtain ⟨hc2, hf2⟩ := bcell hb2; have hz2 : W1.heap.size < w2.heap.size := (by have h := hb2.size; simp at h; omega); have HB2 := Lib.hid (((Below.refl _ W1).alloc (Nat.le_refl _) _).trans (hb2.mono (by simp))); clear hb2)
      | (go_at_call 53; (with_reducible refine (HS.out _).mono ?_); rintro e w3 ⟨rfl, rfl⟩)
      | (go_at_call 32; (with_reducible refine (HF.out _ (Kd.C_below HK.out HB2.out)).mono ?_); rintro e w4 ⟨rfl, hb4⟩; have HB4 := Lib.hid (HB2.out.trans (hb4.mono HB2.out.size)); clear hb4))
    all_goals
      go_ret
      first
        | exact ⟨by first | (simp [*, nat0, int0, emp0]; done) | (simp [*, nat0, int0, emp0]; omega), HB4.out⟩
        | exact ⟨by first | (simp [*, nat0, int0, emp0]; done) | (simp [*, nat0, int0, emp0]; omega), HB2.out⟩
  · have hS : strokeB nm = false := by unfold strokeB; rw [decide_eq_false hn]; rfl
    rw [hS]
    have hn1 : ¬ (nm.size : Int) = 1 := by omega
    clear hS HF HK
    go_enter Tryd.func27, Tryd.ntmps27
    go_wp2_with (go_at_call 50; (with_reducible refine (HC.out _).mono ?_); rintro e w2 ⟨rfl, hb2⟩; obtain ⟨hc2, hf2⟩ := bcell hb2; have hz2 : W1.heap.size < w2.heap.size := (by have h := hb2.size; simp at h; omega); have HB2 := Lib.hid (((Below.refl _ W1).alloc (Nat.le_refl _) _).trans (hb2.mono (by simp))); clear hb2)
    all_goals
      go_ret
      exact ⟨by first | (simp [*, nat0, int0, emp0]; done) | (simp [*, nat0, int0, emp0]; omega), HB2.out⟩
end Go.Proofs.YtmmfojaeahcohaaDoor

set_option linter.unusedVariables false
set_option linter.unusedSimpArgs false
namespace Go.Proofs.YtmmfojaeahcohaaDoor
open Go.Shelf Go.RowKit Go.Lib Go.Aids Go.Opens Go.Proofs.YtmmfojaeahcohaaDoorW.PrintWords

set_option maxRecDepth 100000 in
set_option maxHeartbeats 4000000 in
theorem valid_x (k w f s : Int) (nm cl : ByteArray) (A : Option Addr) (c m : Nat) (k0 : ¬ k = 0) (k1 : ¬ k = 1) (k2 : ¬ k = 2) (k3 : ¬ k = 3) (k4 : ¬ k = 4) (k5 : ¬ k = 5) (k6 : ¬ k = 6) (h0 : ¬ w < -1000000) (h1 : ¬ 1000000 < w) (h2 : ¬ f < 0) (h3 : ¬ s < 0) (hc : colB cl = true) (hm63 : m ≤ 9223372036854775807) (W1 : World) :
    Calls Tryd.prog 27 #[.agg #[.int .i64 k, .int .i64 w, .int .i64 f, .int .i64 s, .string nm, .string cl, .slice A m c]] W1 fun e W' => e = .returned (.bool false) ∧ Below W1.heap.size W1 W' := by
  have HC := Lib.hid (fun W => colour_calls cl W)
  rw [hc] at HC
  clear hc
  go_enter Tryd.func27, Tryd.ntmps27
  go_wp2_with (go_at_call 50; (with_reducible refine (HC.out _).mono ?_); rintro e w2 ⟨rfl, hb2⟩; obtain ⟨hc2, hf2⟩ := bcell hb2; have hz2 : W1.heap.size < w2.heap.size := (by have h := hb2.size; simp at h; omega); have HB2 := Lib.hid (((Below.refl _ W1).alloc (Nat.le_refl _) _).trans (hb2.mono (by simp))); clear hb2)
  all_goals
    go_ret
    exact ⟨rfl, HB2.out⟩
/-- A box, as a value. -/
abbrev boxV (k w f s : Int) (nm cl : ByteArray) (A : Option Addr) (m c : Nat) : Value := .agg #[.int .i64 k, .int .i64 w, .int .i64 f, .int .i64 s, .string nm, .string cl, .slice A m c]
theorem gvalid_calls (k w f s : Int) (nm cl : ByteArray) (A : Option Addr) (c : Nat) (l : List Int) (hl : l.length ≤ 9223372036854775807) (W1 : World) (hC : kI.C W1 A l.length l) :
    Calls Tryd.prog 27 #[boxV k w f s nm cl A l.length c] W1 fun e W' => e = .returned (.bool (validB k w f s nm cl l)) ∧ Below W1.heap.size W1 W' := by
  unfold validB
  by_cases h0 : w < -1000000
  · rw [if_pos (.inl h0)]; exact valid_w1 k w f s nm cl A c l h0 W1
  by_cases h1 : 1000000 < w
  · rw [if_pos (.inr (.inl h1))]; exact valid_w2 k w f s nm cl A c l h0 h1 W1
  by_cases h2 : f < 0
  · rw [if_pos (.inr (.inr (.inl h2)))]; exact valid_f k w f s nm cl A c l h0 h1 h2 W1
  by_cases h3 : s < 0
  · rw [if_pos (.inr (.inr (.inr h3)))]; exact valid_s k w f s nm cl A c l h0 h1 h2 h3 W1
  rw [if_neg (by omega)]
  cases hc : colB cl
  · exact valid_c k w f s nm cl A c l h0 h1 h2 h3 hc W1
  rw [Bool.true_and]
  unfold kindB
  by_cases k0 : k = 0
  · subst k0; rw [if_pos rfl]; exact valid_0 w f s nm cl A c l.length h0 h1 h2 h3 hc hl W1
  rw [if_neg k0]
  by_cases k1 : k = 1
  · subst k1; rw [if_pos rfl]; exact valid_1 w f s nm cl A c l.length h0 h1 h2 h3 hc hl W1
  rw [if_neg k1]
  by_cases k4 : k = 4
  · subst k4; rw [if_pos rfl]; exact valid_4 w f s nm cl A c l h0 h1 h2 h3 hc hl W1 hC
  rw [if_neg k4]
  by_cases k5 : k = 5
  · subst k5; rw [if_pos rfl]; exact valid_5 w f s nm cl A c l.length h0 h1 h2 h3 hc hl W1
  rw [if_neg k5]
  by_cases k2 : k = 2
  · subst k2; rw [if_pos (by omega)]; exact valid_2 w f s nm cl A c l.length h0 h1 h2 h3 hc hl W1
  by_cases k3 : k = 3
  · subst k3; rw [if_pos (by omega)]; exact valid_3 w f s nm cl A c l.length h0 h1 h2 h3 hc hl W1
  by_cases k6 : k = 6
  · subst k6; rw [if_pos (by omega)]; exact valid_6 w f s nm cl A c l.length h0 h1 h2 h3 hc hl W1
  rw [if_neg (by omega)]
  exact valid_x k w f s nm cl A c l.length k0 k1 k2 k3 k4 k5 k6 h0 h1 h2 h3 hc hl W1
end Go.Proofs.YtmmfojaeahcohaaDoor

set_option linter.unusedVariables false
set_option linter.unusedSimpArgs false
namespace Go.Proofs.YtmmfojaeahcohaaDoor
open Go.Shelf Go.RowKit Go.Lib Go.Aids Go.Opens Go.Proofs.YtmmfojaeahcohaaDoorW.PrintWords Go.Proofs.YtmmfojaeahcohaaDoor.PTabsNext

def validS (x : S56) : Bool := validB x.f0 x.f1 x.f2 x.f3 x.f4 x.f5 x.f6
theorem boxes_at {w : World} {A : Option Addr} {l : List S56} (h : Kd.C k56 w A l.length l) (hn : 0 < l.length) : ∃ b off, A = some ⟨b, off, none⟩ ∧ b < w.heap.size ∧
    ∀ k (hk : k < l.length), ∃ A6 c6, w.cell? ⟨b, off + k * 7, none⟩ = some (.int .i64 l[k].f0) ∧ w.cell? ⟨b, off + k * 7 + 1, none⟩ = some (.int .i64 l[k].f1) ∧ w.cell? ⟨b, off + k * 7 + 2, none⟩ = some (.int .i64 l[k].f2) ∧ w.cell? ⟨b, off + k * 7 + 3, none⟩ = some (.int .i64 l[k].f3) ∧
      w.cell? ⟨b, off + k * 7 + 4, none⟩ = some (.string l[k].f4) ∧ w.cell? ⟨b, off + k * 7 + 5, none⟩ = some (.string l[k].f5) ∧ w.cell? ⟨b, off + k * 7 + 6, none⟩ = some (.slice A6 l[k].f6.length c6) ∧ l[k].f6.length ≤ c6 ∧ kI.C w A6 l[k].f6.length l[k].f6 := by
  obtain ⟨b, off, hA, hb, hc⟩ := C_at h (by show 0 < 7; omega) hn
  refine ⟨b, off, hA, hb, fun i hi => ?_⟩
  obtain ⟨c, _, hk, hcell⟩ := hc i hi
  obtain ⟨A6, c6, e, l6, g6⟩ := k56_open hk
  subst e
  exact ⟨A6, c6, hcell 0 _ rfl, hcell 1 _ rfl, hcell 2 _ rfl, hcell 3 _ rfl, hcell 4 _ rfl, hcell 5 _ rfl, hcell 6 _ rfl, l6, g6⟩
theorem cells_at {w : World} {A : Option Addr} {l : List (List S56)} (h : Kd.C (Kd.slice 56 k56) w A l.length l) (hn : 0 < l.length) : ∃ b off, A = some ⟨b, off, none⟩ ∧ b < w.heap.size ∧
    ∀ k (hk : k < l.length), ∃ A6 c6, w.cell? ⟨b, off + k, none⟩ = some (.slice A6 l[k].length c6) ∧ l[k].length ≤ c6 ∧ Kd.C k56 w A6 l[k].length l[k] := by
  obtain ⟨b, off, hA, hb, hc⟩ := C_at h (by show 0 < 1; omega) hn
  refine ⟨b, off, hA, hb, fun i hi => ?_⟩
  obtain ⟨c, _, hk, hcell⟩ := hc i hi
  obtain ⟨A6, c6, e, l6, g6⟩ := hk
  subst e
  have := hcell 0 _ rfl
  rw [show (Kd.slice 56 k56).sz = 1 from rfl, Nat.mul_one] at this
  exact ⟨A6, c6, this, l6, g6⟩
/-- What a function tells of a box. -/
def Tells (w : World) (g : Nat) (lb : Array Value) (p : S56 → Bool) : Prop := ∀ (W : World), Below w.heap.size w W → ∀ (x : S56) (A : Option Addr) (c : Nat), x.f6.length ≤ 9223372036854775807 → kI.C W A x.f6.length x.f6 →
  Calls Tryd.prog g (#[boxV x.f0 x.f1 x.f2 x.f3 x.f4 x.f5 A x.f6.length c] ++ lb) W fun e w' => e = .returned (.bool (p x)) ∧ Below W.heap.size W w'
theorem bad_calls (k w f s : Int) (nm cl : ByteArray) (A : Option Addr) (c : Nat) (l : List Int) (hl : l.length ≤ 9223372036854775807) (W1 : World) (hC : kI.C W1 A l.length l) :
    Calls Tryd.prog 26 #[boxV k w f s nm cl A l.length c] W1 fun e W' => e = .returned (.bool (!validB k w f s nm cl l)) ∧ Below W1.heap.size W1 W' := by
  have HV := Lib.hid (fun W h => gvalid_calls k w f s nm cl A c l hl W h)
  obtain ⟨R, hR⟩ : ∃ R, validB k w f s nm cl l = R := ⟨_, rfl⟩
  rw [hR] at HV ⊢
  have HC := Lib.hid (Kd.C_below hC ((Below.refl _ W1).alloc (Nat.le_refl _) (.cells #[.int .i64 k, .int .i64 w, .int .i64 f, .int .i64 s, .string nm, .string cl, .slice A l.length c] 56)))
  clear hC hR
  go_enter Tryd.func26, Tryd.ntmps26
  go_wp2_with fail
  refine (HV.out _ HC.out).mono ?_
  rintro e w2 ⟨rfl, hb⟩
  have HB := Lib.hid (((Below.refl _ W1).alloc (Nat.le_refl _) (.cells #[.int .i64 k, .int .i64 w, .int .i64 f, .int .i64 s, .string nm, .string cl, .slice A l.length c] 56)).trans (hb.mono (by simp)))
  clear hb
  go_wp2_with fail
  go_ret
  exact ⟨rfl, HB.out⟩
theorem bad_tells (w : World) : Tells w 26 #[] (fun x => !validS x) := fun W _ x A c hl hC => bad_calls x.f0 x.f1 x.f2 x.f3 x.f4 x.f5 A c x.f6 hl W hC
set_option maxHeartbeats 2000000 in
theorem ibox_calls (g : Nat) (lb : Array Value) (eg : ∀ args w, (callFunc g args).run Tryd.prog w = .ok (.enter g args) w) (p : S56 → Bool) (A : Option Addr) (c : Nat) (L : List S56) (hL : L.length ≤ 9223372036854775807) (hc : L.length ≤ c) (w : World) (hC : Kd.C k56 w A L.length L) (hn : ∀ x ∈ L, x.f6.length ≤ 9223372036854775807) (hp : Tells w g lb p) :
    Calls Tryd.prog 55 #[.slice A L.length c, .func (.func g) #[] lb] w fun e w' => ∃ r : Int, e = .returned (.int .i64 r) ∧ decide (0 ≤ r) = L.any p ∧ Below w.heap.size w w' := by
  have HC := Lib.hid hC
  have HP := Lib.hid hp
  have HN := Lib.hid hn
  clear hC hp hn
  go_enter Tryd.func55, Tryd.ntmps55
  go_wp2_with fail
  go_loopg [8] L.length (fun gk s8 wx => ∃ i : Nat, i + gk = L.length ∧ s8 = .int .i64 i ∧ Hid (L.any p = (L.drop i).any p) ∧ Hid (Below w.heap.size w wx))
  case atStart => exact ⟨0, by omega, rfl, Lib.hid rfl, Lib.hid (Below.refl _ _)⟩
  case round =>
    obtain ⟨i, hi, rfl, HD, HB⟩ := hrel
    by_cases hlt : i < L.length
    · have i0 : (i : Int) < L.length := by omega
      obtain ⟨b, off, rfl, hbl, hcell⟩ := boxes_at (Kd.C_below HC.out HB.out) (by omega)
      obtain ⟨A6, c6, c0, c1, c2, c3, c4, c5, c6c, l6, g6⟩ := hcell i hlt
      have hd : L.drop i = L[i] :: L.drop (i + 1) := List.drop_eq_getElem_cons hlt
      have hany : (L.drop i).any p = (p L[i] || (L.drop (i + 1)).any p) := by rw [hd, List.any_cons]
      have HX := Lib.hid (HP.out wr HB.out L[i] A6 c6 (HN.out _ (List.getElem_mem hlt)) g6)
      have HD2 := Lib.hid (HD.out.trans hany)
      obtain ⟨x, hx⟩ : ∃ x, L[i] = x := ⟨_, rfl⟩
      rw [hx] at HX HD2 c0 c1 c2 c3 c4 c5 c6c
      obtain ⟨q, hq⟩ : ∃ q, p x = q := ⟨_, rfl⟩
      rw [hq] at HX HD2
      clear hcell hd hany hx hq g6 l6
      have hent : ∀ args w, (callFunc g args).run Tryd.prog w = .ok (.enter g args) w := eg
      obtain ⟨g', rfl⟩ : ∃ g', gk = g' + 1 := ⟨gk - 1, by omega⟩
      cases q
      · go_wp2_with fail
        refine HX.out.mono ?_
        rintro e w2 ⟨rfl, hb⟩
        have HB2 := Lib.hid (HB.out.trans (hb.mono HB.out.size))
        clear hb
        go_wp2_with fail
        go_roundg g'
        case measure => omega
        case rel => exact ⟨i + 1, by omega, by go_num, Lib.hid (by rw [HD2.out, Bool.false_or]), HB2⟩
      · go_wp2_with fail
        refine HX.out.mono ?_
        rintro e w2 ⟨rfl, hb⟩
        have HB2 := Lib.hid (HB.out.trans (hb.mono HB.out.size))
        clear hb
        go_wp2_with fail
        go_ret
        exact ⟨i, rfl, by rw [HD2.out, Bool.true_or, decide_eq_true (by omega)], HB2.out⟩
    · have i0 : ¬ ((i : Int) < L.length) := by omega
      have hd : L.drop i = [] := List.drop_eq_nil_of_le (by omega)
      have HD2 := Lib.hid (HD.out.trans (by rw [hd]; rfl : (L.drop i).any p = false))
      clear hd
      go_wp2_with fail
      go_ret
      exact ⟨-1, rfl, by rw [HD2.out]; rfl, HB.out⟩
theorem cbox_calls (g : Nat) (lb : Array Value) (eg : ∀ args w, (callFunc g args).run Tryd.prog w = .ok (.enter g args) w) (p : S56 → Bool) (A : Option Addr) (c : Nat) (L : List S56) (hL : L.length ≤ 9223372036854775807) (hc : L.length ≤ c) (w : World) (hC : Kd.C k56 w A L.length L) (hn : ∀ x ∈ L, x.f6.length ≤ 9223372036854775807) (hp : Tells w g lb p) :
    Calls Tryd.prog 30 #[.slice A L.length c, .func (.func g) #[] lb] w fun e w' => e = .returned (.bool (L.any p)) ∧ Below w.heap.size w w' := by
  have HI := Lib.hid (ibox_calls g lb eg p A c L hL hc w hC hn hp)
  obtain ⟨q, hq⟩ : ∃ q, L.any p = q := ⟨_, rfl⟩
  rw [hq] at HI ⊢
  clear hC hp hn hq eg
  go_enter Tryd.func30, Tryd.ntmps30
  go_wp2_with fail
  refine HI.out.mono ?_
  rintro e w2 ⟨r, rfl, hr, hb⟩
  go_wp2_with fail
  go_ret
  exact ⟨rfl, hb⟩
end Go.Proofs.YtmmfojaeahcohaaDoor

set_option linter.unusedVariables false
set_option linter.unusedSimpArgs false
namespace Go.Proofs.YtmmfojaeahcohaaDoor
open Go.Shelf Go.RowKit Go.Lib Go.Aids Go.Opens Go.Proofs.YtmmfojaeahcohaaDoorW.PrintWords Go.Proofs.YtmmfojaeahcohaaDoor.PTabsNext

/-- What a function tells of a cell. -/
def TellsC (w : World) (g : Nat) (lb : Array Value) (p : List S56 → Bool) : Prop := ∀ (W : World), Below w.heap.size w W → ∀ (x : List S56) (A : Option Addr) (c : Nat), x.length ≤ c → (∀ y ∈ x, y.f6.length ≤ 9223372036854775807) → Kd.C k56 W A x.length x →
  Calls Tryd.prog g (#[.slice A x.length c] ++ lb) W fun e w' => e = .returned (.bool (p x)) ∧ Below W.heap.size W w'
set_option maxHeartbeats 2000000 in
theorem icell_calls (g : Nat) (lb : Array Value) (eg : ∀ args w, (callFunc g args).run Tryd.prog w = .ok (.enter g args) w) (p : List S56 → Bool) (A : Option Addr) (c : Nat) (L : List (List S56)) (hL : L.length ≤ 9223372036854775807) (hc : L.length ≤ c) (w : World) (hC : Kd.C (Kd.slice 56 k56) w A L.length L) (hn : ∀ y ∈ L, ∀ x ∈ y, x.f6.length ≤ 9223372036854775807) (hp : TellsC w g lb p) :
    Calls Tryd.prog 54 #[.slice A L.length c, .func (.func g) #[] lb] w fun e w' => ∃ r : Int, e = .returned (.int .i64 r) ∧ decide (0 ≤ r) = L.any p ∧ Below w.heap.size w w' := by
  have HC := Lib.hid hC
  have HP := Lib.hid hp
  have HN := Lib.hid hn
  clear hC hp hn
  go_enter Tryd.func54, Tryd.ntmps54
  go_wp2_with fail
  go_loopg [8] L.length (fun gk s8 wx => ∃ i : Nat, i + gk = L.length ∧ s8 = .int .i64 i ∧ Hid (L.any p = (L.drop i).any p) ∧ Hid (Below w.heap.size w wx))
  case atStart => exact ⟨0, by omega, rfl, Lib.hid rfl, Lib.hid (Below.refl _ _)⟩
  case round =>
    obtain ⟨i, hi, rfl, HD, HB⟩ := hrel
    by_cases hlt : i < L.length
    · have i0 : (i : Int) < L.length := by omega
      obtain ⟨b, off, rfl, hbl, hcell⟩ := cells_at (Kd.C_below HC.out HB.out) (by omega)
      obtain ⟨A6, c6, c0, l6, g6⟩ := hcell i hlt
      have hd : L.drop i = L[i] :: L.drop (i + 1) := List.drop_eq_getElem_cons hlt
      have hany : (L.drop i).any p = (p L[i] || (L.drop (i + 1)).any p) := by rw [hd, List.any_cons]
      have HX := Lib.hid (HP.out wr HB.out L[i] A6 c6 l6 (HN.out _ (List.getElem_mem hlt)) g6)
      have HD2 := Lib.hid (HD.out.trans hany)
      obtain ⟨x, hx⟩ : ∃ x, L[i] = x := ⟨_, rfl⟩
      rw [hx] at HX HD2 c0
      obtain ⟨q, hq⟩ : ∃ q, p x = q := ⟨_, rfl⟩
      rw [hq] at HX HD2
      clear hcell hd hany hx hq g6 l6
      have hent : ∀ args w, (callFunc g args).run Tryd.prog w = .ok (.enter g args) w := eg
      obtain ⟨g', rfl⟩ : ∃ g', gk = g' + 1 := ⟨gk - 1, by omega⟩
      cases q
      · go_wp2_with fail
        refine HX.out.mono ?_
        rintro e w2 ⟨rfl, hb⟩
        have HB2 := Lib.hid (HB.out.trans (hb.mono HB.out.size))
        clear hb
        go_wp2_with fail
        go_roundg g'
        case measure => omega
        case rel => exact ⟨i + 1, by omega, by go_num, Lib.hid (by rw [HD2.out, Bool.false_or]), HB2⟩
      · go_wp2_with fail
        refine HX.out.mono ?_
        rintro e w2 ⟨rfl, hb⟩
        have HB2 := Lib.hid (HB.out.trans (hb.mono HB.out.size))
        clear hb
        go_wp2_with fail
        go_ret
        exact ⟨i, rfl, by rw [HD2.out, Bool.true_or, decide_eq_true (by omega)], HB2.out⟩
    · have i0 : ¬ ((i : Int) < L.length) := by omega
      have hd : L.drop i = [] := List.drop_eq_nil_of_le (by omega)
      have HD2 := Lib.hid (HD.out.trans (by rw [hd]; rfl : (L.drop i).any p = false))
      clear hd
      go_wp2_with fail
      go_ret
      exact ⟨-1, rfl, by rw [HD2.out]; rfl, HB.out⟩
theorem ccell_calls (g : Nat) (lb : Array Value) (eg : ∀ args w, (callFunc g args).run Tryd.prog w = .ok (.enter g args) w) (p : List S56 → Bool) (A : Option Addr) (c : Nat) (L : List (List S56)) (hL : L.length ≤ 9223372036854775807) (hc : L.length ≤ c) (w : World) (hC : Kd.C (Kd.slice 56 k56) w A L.length L) (hn : ∀ y ∈ L, ∀ x ∈ y, x.f6.length ≤ 9223372036854775807) (hp : TellsC w g lb p) :
    Calls Tryd.prog 28 #[.slice A L.length c, .func (.func g) #[] lb] w fun e w' => e = .returned (.bool (L.any p)) ∧ Below w.heap.size w w' := by
  have HI := Lib.hid (icell_calls g lb eg p A c L hL hc w hC hn hp)
  obtain ⟨q, hq⟩ : ∃ q, L.any p = q := ⟨_, rfl⟩
  rw [hq] at HI ⊢
  clear hC hp hn hq eg
  go_enter Tryd.func28, Tryd.ntmps28
  go_wp2_with fail
  refine HI.out.mono ?_
  rintro e w2 ⟨r, rfl, hr, hb⟩
  go_wp2_with fail
  go_ret
  exact ⟨rfl, hb⟩

/-- The variable that holds 'bad'. -/
def BadAt (w : World) (v : Nat) : Prop := w.cell? ⟨v, 0, none⟩ = some (.func (.func 26) #[] #[]) ∧ v < w.heap.size
theorem BadAt.below {w w1 : World} {v : Nat} (h : BadAt w v) (hb : Below w.heap.size w w1) : BadAt w1 v := ⟨(hb.cell (p := ⟨v, 0, none⟩) h.2).trans h.1, Nat.lt_of_lt_of_le h.2 hb.size⟩
theorem e23 : ∀ args w, (callFunc 26 args).run Tryd.prog w = .ok (.enter 26 args) w := enters_of Tryd.func26 (by kernel_rfl) rfl
theorem e27 : ∀ args w, (callFunc 29 args).run Tryd.prog w = .ok (.enter 29 args) w := enters_of Tryd.func29 (by kernel_rfl) rfl
theorem e29 : ∀ args w, (callFunc 31 args).run Tryd.prog w = .ok (.enter 31 args) w := enters_of Tryd.func31 (by kernel_rfl) rfl
theorem fn27_calls (v : Nat) (x : List S56) (A : Option Addr) (c : Nat) (hx : x.length ≤ c) (hn : ∀ y ∈ x, y.f6.length ≤ 9223372036854775807) (W : World) (hv : BadAt W v) (hC : Kd.C k56 W A x.length x) :
    Calls Tryd.prog 29 #[.slice A x.length c, .pointer (some ⟨v, 0, none⟩)] W fun e w' => e = .returned (.bool (x.any fun y => !validS y)) ∧ Below W.heap.size W w' := by
  have hl : x.length ≤ 9223372036854775807 := hC.2.1
  have HI := Lib.hid (cbox_calls 26 #[] e23 (fun y => !validS y) A c x hl hx W hC hn (bad_tells W))
  obtain ⟨q, hq⟩ : ∃ q, (x.any fun y => !validS y) = q := ⟨_, rfl⟩
  rw [hq] at HI ⊢
  have c0 := hv.1
  clear hC hn hq hv
  go_enter Tryd.func29, Tryd.ntmps29
  go_wp2_with fail
  refine HI.out.mono ?_
  rintro e w2 ⟨rfl, hb⟩
  go_wp2_with fail
  go_ret
  exact ⟨rfl, hb⟩
theorem fn27_tells (w : World) (v : Nat) (hv : BadAt w v) : TellsC w 29 #[.pointer (some ⟨v, 0, none⟩)] (fun x => x.any fun y => !validS y) := fun W hb x A c hx hn hC => fn27_calls v x A c hx hn W (hv.below hb) hC
def fillB (x : S56) : Bool := !validS x || (decide (x.f0 ≠ 0) && decide (x.f0 ≠ 5))
set_option maxRecDepth 100000 in
set_option maxHeartbeats 4000000 in
theorem fn29_calls (v : Nat) (x : S56) (A : Option Addr) (c : Nat) (hl : x.f6.length ≤ 9223372036854775807) (W : World) (hv : BadAt W v) (hC : kI.C W A x.f6.length x.f6) :
    Calls Tryd.prog 31 #[boxV x.f0 x.f1 x.f2 x.f3 x.f4 x.f5 A x.f6.length c, .pointer (some ⟨v, 0, none⟩)] W fun e w' => e = .returned (.bool (fillB x)) ∧ Below W.heap.size W w' := by
  obtain ⟨k, w0, f, s, nm, cl, l⟩ := x
  have HV := Lib.hid (fun W h => bad_calls k w0 f s nm cl A c l hl W h)
  have hv2 : fillB ⟨k, w0, f, s, nm, cl, l⟩ = (!validB k w0 f s nm cl l || (decide (k ≠ 0) && decide (k ≠ 5))) := rfl
  obtain ⟨R, hR⟩ : ∃ R, validB k w0 f s nm cl l = R := ⟨_, rfl⟩
  rw [hR] at HV hv2
  rw [hv2]
  have hb0 := (Below.refl _ W).alloc (Nat.le_refl _) (.cells #[.int .i64 k, .int .i64 w0, .int .i64 f, .int .i64 s, .string nm, .string cl, .slice A l.length c] 56)
  have HC := Lib.hid (Kd.C_below hC hb0)
  have HB0 := Lib.hid hb0
  have c0 := (hv.below hb0).1
  have c1 := hv.1
  have hv3 := hv.2
  clear hC hR hv2 hv hb0
  cases R
  all_goals
    by_cases k0 : k = 0
    all_goals by_cases k5 : k = 5
    all_goals try subst k0
    all_goals try subst k5
    all_goals
      first
        | (exfalso; omega)
        | (go_enter Tryd.func31, Tryd.ntmps31
           go_wp2_with fail
           refine (HV.out _ HC.out).mono ?_
           rintro e w2 ⟨rfl, hb⟩
           obtain ⟨hc2, hf2⟩ := bcell hb
           have hz2 : W.heap.size < w2.heap.size := (by have h := hb.size; simp at h; omega)
           have HB := Lib.hid (HB0.out.trans (hb.mono (by simp)))
           clear hb
           go_wp2_with fail
           go_ret
           exact ⟨by simp [*], HB.out⟩)
theorem fn29_tells (w : World) (v : Nat) (hv : BadAt w v) : Tells w 31 #[.pointer (some ⟨v, 0, none⟩)] fillB := fun W hb x A c hl hC => fn29_calls v x A c hl W (hv.below hb) hC
def markB (m : Int) : Bool := decide (m ≠ 0) && decide (m ≠ 1)
theorem mark_pred (w : World) : PredAt Tryd.prog 33 #[] (Value.int .i64) markB w := fun W r _ => by
  unfold FnGives markB
  by_cases h1 : r = 0 <;> by_cases h2 : r = 1
  all_goals
    go_enter Tryd.func33, Tryd.ntmps33
    go_wp2
    all_goals first | (exfalso; omega) | (go_ret; exact ⟨by first | (simp [h1, h2]; done) | (simp [h1, h2]; omega), 0, rfl⟩)
theorem marks_calls (A : Option Addr) (c : Nat) (l : List Int) (w : World) (h : kI.C w A l.length l) (hl : l.length ≤ 9223372036854775807) :
    Calls Tryd.prog 32 #[.slice A l.length c, .func (.func 33) #[] #[]] w fun e w' => e = .returned (.bool (l.any markB)) ∧ Below w.heap.size w w' := by
  rcases Nat.eq_zero_or_pos l.length with h0 | h0
  · have e : l = [] := List.eq_nil_of_length_eq_zero h0
    subst e
    refine (Tryd.slices_ContainsFunc_empty (α := Int) A c _ w).mono ?_
    rintro e w' ⟨rfl, rfl⟩
    exact ⟨rfl, Below.refl _ _⟩
  · obtain ⟨b, off, rfl, hb, hc⟩ := ints_at h h0
    refine (Tryd.slices_ContainsFunc (Value.int .i64) markB 33 #[] (enters_of Tryd.func33 (by kernel_rfl) rfl) b off l.length c l w (mark_pred w) (Nat.le_refl _) hl fun j hj => ?_).mono ?_
    · rw [hc j hj, getElem!_pos l j hj]
    · rintro e w' ⟨rfl, q, rfl⟩
      rw [List.take_of_length_le (Nat.le_refl _)]
      exact ⟨rfl, drewN_below w q⟩
end Go.Proofs.YtmmfojaeahcohaaDoor

set_option linter.unusedVariables false
set_option linter.unusedSimpArgs false
namespace Go.Proofs.YtmmfojaeahcohaaDoor
open Go.Shelf Go.RowKit Go.Lib Go.Aids Go.Opens Go.Proofs.YtmmfojaeahcohaaDoorW.PrintWords Go.Proofs.YtmmfojaeahcohaaDoor.PTabsNext

def kindT (c : Int) : Bool := decide (c = 76) || (decide (c = 82) || decide (c = 67))
def okStops : Int → List S41 → Bool
  | _, [] => true
  | last, t :: r => decide (last < t.f0) && (decide (t.f0 ≤ 1000000) && (kindT t.f1 && okStops t.f0 r))
def tvalidB (L : List S41) (ev : Int) : Bool := okStops (-1) L && (decide (L.length ≤ 40) && (decide (0 ≤ ev) && decide (ev ≤ 1000000)))
theorem lrc_is (c : Int) (h0 : 0 ≤ c) (h1 : c < 256) : decide (Lib.indexByte (⟨#[76, 82, 67]⟩ : ByteArray).data.toList c.toNat.toUInt8 < 0) = !kindT c := by
  obtain ⟨n, rfl⟩ : ∃ n : Nat, c = n := ⟨c.toNat, by omega⟩
  have h : n < 256 := by omega
  have : ∀ n : Nat, n < 256 → decide (Lib.indexByte [76, 82, 67] n.toUInt8 < 0) = !(decide (n = 76) || (decide (n = 82) || decide (n = 67))) := by decide +kernel
  have e : kindT (n : Int) = (decide (n = 76) || (decide (n = 82) || decide (n = 67))) := by
    unfold kindT
    have e1 : ((n : Int) = 76) ↔ n = 76 := by omega
    have e2 : ((n : Int) = 82) ↔ n = 82 := by omega
    have e3 : ((n : Int) = 67) ↔ n = 67 := by omega
    simp only [e1, e2, e3]
  rw [e]
  exact this n h
theorem stops_at {w : World} {A : Option Addr} {l : List S41} (h : Kd.C k41 w A l.length l) (hn : 0 < l.length) : ∃ b off, A = some ⟨b, off, none⟩ ∧ b < w.heap.size ∧
    ∀ k (hk : k < l.length), w.cell? ⟨b, off + k * 2, none⟩ = some (.int .i64 l[k].f0) ∧ w.cell? ⟨b, off + k * 2 + 1, none⟩ = some (.int .u8 l[k].f1) := by
  obtain ⟨b, off, hA, hb, hc⟩ := C_at h (by show 0 < 2; omega) hn
  refine ⟨b, off, hA, hb, fun i hi => ?_⟩
  obtain ⟨c, _, hk, hcell⟩ := hc i hi
  have e := k41_open hk
  subst e
  exact ⟨hcell 0 _ rfl, hcell 1 _ rfl⟩
set_option maxRecDepth 100000 in
set_option maxHeartbeats 4000000 in
theorem tvalid_calls (A : Option Addr) (c : Nat) (L : List S41) (ev : Int) (hc : L.length ≤ c) (hb : ∀ t ∈ L, 0 ≤ t.f1 ∧ t.f1 < 256) (w : World) (hC : Kd.C k41 w A L.length L) :
    Calls Tryd.prog 7 #[.agg #[.slice A L.length c, .int .i64 ev]] w fun e w' => e = .returned (.bool (tvalidB L ev)) ∧ Below w.heap.size w w' := by
  have HC := Lib.hid hC
  have HH := Lib.hid hb
  have hl : L.length ≤ 9223372036854775807 := hC.2.1
  obtain ⟨V, hV⟩ : ∃ V, tvalidB L ev = V := ⟨_, rfl⟩
  have HV := Lib.hid hV
  rw [hV]
  clear hC hb hV
  go_enter Tryd.func7, Tryd.ntmps7
  go_wp2_with fail
  obtain ⟨g, hg⟩ : ∃ g, w.heap.size = g := ⟨_, rfl⟩
  obtain ⟨W0, hW0⟩ : ∃ W, w.alloc (.cells #[.slice A L.length c, .int .i64 ev] 24) = W := ⟨_, rfl⟩
  have c0 : W0.cell? ⟨g, 0, none⟩ = some (.slice A L.length c) := by rw [← hW0, ← hg]; simp
  have c1 : W0.cell? ⟨g, 1, none⟩ = some (.int .i64 ev) := by rw [← hW0, ← hg]; simp
  have gl : g < W0.heap.size := by rw [← hW0, ← hg]; simp
  have HB0 := Lib.hid (show Below w.heap.size w W0 by rw [← hW0]; exact (Below.refl _ _).alloc (Nat.le_refl _) _)
  rw [hW0]
  simp only [hg]
  have HG := Lib.hid hg
  clear hW0 hg
  go_loopg [3, 9] L.length (fun gk s3 s9 wx => ∃ (i : Nat) (last : Int), i + gk = L.length ∧ s3 = .int .i64 last ∧ s9 = .int .i64 i ∧ Hid (okStops (-1) L = okStops last (L.drop i)) ∧ Hid (Below W0.heap.size W0 wx))
  case atStart => exact ⟨0, -1, by omega, rfl, rfl, Lib.hid rfl, Lib.hid (Below.refl _ _)⟩
  case round =>
    obtain ⟨i, last, hi, rfl, rfl, HD, HB⟩ := hrel
    have k0 := (HB.out.cell (p := ⟨g, 0, none⟩) gl).trans c0
    have k1 := (HB.out.cell (p := ⟨g, 1, none⟩) gl).trans c1
    have kl : g < wr.heap.size := Nat.lt_of_lt_of_le gl HB.out.size
    by_cases hlt : i < L.length
    · have i0 : (i : Int) < L.length := by omega
      obtain ⟨b, off, rfl, hbl, hcell⟩ := stops_at (Kd.C_below HC.out (HB0.out.trans (HB.out.mono HB0.out.size))) (by omega)
      obtain ⟨d0, d1⟩ := hcell i hlt
      have hd : L.drop i = L[i] :: L.drop (i + 1) := List.drop_eq_getElem_cons hlt
      have hst : okStops last (L.drop i) = (decide (last < L[i].f0) && (decide (L[i].f0 ≤ 1000000) && (kindT L[i].f1 && okStops L[i].f0 (L.drop (i + 1))))) := by rw [hd]; rfl
      have hbk := HH.out _ (List.getElem_mem hlt)
      have hlr := lrc_is L[i].f1 hbk.1 hbk.2
      obtain ⟨at_, hat⟩ : ∃ x, L[i].f0 = x := ⟨_, rfl⟩
      obtain ⟨kd, hkd⟩ : ∃ x, L[i].f1 = x := ⟨_, rfl⟩
      rw [hat, hkd] at hst
      rw [hkd] at hlr d1
      rw [hat] at d0
      have HI := Lib.hid (fun W => Tryd.strings_IndexByte ⟨#[76, 82, 67]⟩ kd W)
      obtain ⟨R, hR⟩ : ∃ R, Lib.indexByte (⟨#[76, 82, 67]⟩ : ByteArray).data.toList kd.toNat.toUInt8 = R := ⟨_, rfl⟩
      rw [hR] at HI hlr
      obtain ⟨q, hq⟩ : ∃ q, kindT kd = q := ⟨_, rfl⟩
      rw [hq] at hst hlr
      have HS := Lib.hid hst
      have HR2 := Lib.hid hlr
      clear hcell hd hst hbk hat hkd hR hq hlr hbl
      have hno : Hid (∀ z : Bool, okStops last (L.drop i) = z → (z = false → V = false)) := Lib.hid (fun z hz e => by
        rw [← HV.out]; unfold tvalidB; rw [HD.out, hz, e]; rfl)
      by_cases h1 : at_ ≤ last
      · have hV : Hid (V = false) := Lib.hid (hno.out false (by rw [HS.out, decide_eq_false (by omega)]; rfl) rfl)
        go_wp2_with fail
        go_ret
        exact ⟨by rw [hV.out]; rfl, HB0.out.trans ((HB.out.mono HB0.out.size).alloc (by have := HB0.out.size; have := HB.out.size; omega) _)⟩
      by_cases h2 : 1000000 < at_
      · have hV : Hid (V = false) := Lib.hid (hno.out false (by rw [HS.out, decide_eq_false (by omega : ¬ at_ ≤ 1000000)]; simp) rfl)
        go_wp2_with fail
        go_ret
        exact ⟨by rw [hV.out]; rfl, HB0.out.trans ((HB.out.mono HB0.out.size).alloc (by have := HB0.out.size; have := HB.out.size; omega) _)⟩
      cases q
      · have hR3 : R < 0 := of_decide_eq_true HR2.out
        have hV : Hid (V = false) := Lib.hid (hno.out false (by rw [HS.out]; simp) rfl)
        go_wp2_with (go_at_call 17; refine (HI.out _).mono ?_; rintro e w2 ⟨rfl, rfl⟩)
        go_ret
        exact ⟨by rw [hV.out]; rfl, HB0.out.trans ((HB.out.mono HB0.out.size).alloc (by have := HB0.out.size; have := HB.out.size; omega) _)⟩
      · have hR3 : ¬ R < 0 := of_decide_eq_false HR2.out
        obtain ⟨g', rfl⟩ : ∃ g', gk = g' + 1 := ⟨gk - 1, by omega⟩
        go_wp2_with (go_at_call 17; refine (HI.out _).mono ?_; rintro e w2 ⟨rfl, rfl⟩)
        go_roundg g'
        case measure => omega
        case rel => exact ⟨i + 1, at_, by omega, rfl, by go_num, Lib.hid (by rw [HD.out, HS.out, decide_eq_true (by omega : last < at_), decide_eq_true (by omega : at_ ≤ 1000000)]; rfl), Lib.hid (HB.out.alloc HB.out.size _)⟩
    · have i0 : ¬ ((i : Int) < L.length) := by omega
      have hd : L.drop i = [] := List.drop_eq_nil_of_le (by omega)
      have HV2 : Hid (V = (decide (L.length ≤ 40) && (decide (0 ≤ ev) && decide (ev ≤ 1000000)))) := Lib.hid (by
        rw [← HV.out]; unfold tvalidB; rw [HD.out, hd]; rfl)
      obtain ⟨m, hm⟩ : ∃ m, L.length = m := ⟨_, rfl⟩
      rw [hm] at HV2
      have hm1 : ((L.length : Nat) : Int) ≤ 40 ↔ m ≤ 40 := by omega
      clear hd
      by_cases e1 : m ≤ 40
      all_goals by_cases e2 : 0 ≤ ev
      all_goals by_cases e3 : ev ≤ 1000000
      all_goals
        have HV3 := HV2.out
        simp only [e1, e2, e3, decide_true, decide_false, Bool.and_true, Bool.and_false, Bool.true_and, Bool.false_and] at HV3
        have HV4 := Lib.hid HV3
        clear HV3
        first
          | (have j0 : ((L.length : Nat) : Int) ≤ 40 := by omega)
          | (have j0 : ¬ ((L.length : Nat) : Int) ≤ 40 := by omega)
        go_wp2_with fail
        all_goals go_ret
        all_goals exact ⟨by first | (rw [HV4.out]; done) | (rw [HV4.out]; rfl), HB0.out.trans (HB.out.mono HB0.out.size)⟩
end Go.Proofs.YtmmfojaeahcohaaDoor

set_option linter.unusedVariables false
set_option linter.unusedSimpArgs false
namespace Go.Proofs.YtmmfojaeahcohaaDoor
open Go.Shelf Go.RowKit Go.Lib Go.Aids Go.Opens Go.Proofs.YtmmfojaeahcohaaDoorW.PrintWords Go.Proofs.YtmmfojaeahcohaaDoor.PTabsNext

theorem info56 : (Tryd.prog.info? 56).map (fun i => (i.zero, i.size, i.bytes)) = some (some (.agg #[.int .i64 0, .int .i64 0, .int .i64 0, .int .i64 0, .string ⟨#[]⟩, .string ⟨#[]⟩, .slice none 0 0]), 7, 88) := by kernel_rfl
def repC (x : List Value) (n : Nat) : List Value := (List.replicate n x).flatten
theorem repC_len (x : List Value) (hx : x.length = 7) : ∀ n, (repC x n).length = n * 7
  | 0 => rfl
  | n + 1 => by
    have := repC_len x hx n
    unfold repC at this ⊢
    rw [List.replicate_succ, List.flatten_cons, List.length_append, this, hx]; omega
theorem repC_add (x : List Value) (a b : Nat) : repC x (a + b) = repC x a ++ repC x b := by
  unfold repC
  rw [← List.flatten_append, List.replicate_append_replicate]
theorem repC_one (x : List Value) : repC x 1 = x := by simp [repC]
theorem repC_mem (x : List Value) (n : Nat) : ∀ u ∈ repC x n, u ∈ x := by
  intro u hu
  unfold repC at hu
  rw [List.mem_flatten] at hu
  obtain ⟨l, hl, hu⟩ := hu
  rw [List.mem_replicate] at hl
  rw [hl.2] at hu; exact hu
/-- The row of which the first k boxes are laid. -/
structure Filled (w : World) (g n k : Nat) (x : List Value) : Prop where
  ex : ∃ cur : Array Value, w.heap[g]? = some (.cells cur 56 (0, 0)) ∧ cur.size = n * 7 ∧ cur.toList.take (k * 7) = repC x k
theorem run_copy_boxes (w : World) (ty : TypeId) (g o dLen dCap : Nat) (a : Addr) (sLen sCap m : Nat) (cur : Array Value) (cs : List Value)
    (hg : w.heap[g]? = some (.cells cur 56 (0, 0))) (hm : Nat.min sLen dLen = m) (hn : cs.length = m * 7)
    (hsrc : ∀ j v, cs[j]? = some v → w.cell? (a.add j) = some v) (hfit : o + cs.length ≤ cur.size) (h1 : ∀ v ∈ cs, v.oneCell' = true) :
    (Builtin.copy_ #[57, 57] ty #[.slice (some ⟨g, o, none⟩) dLen dCap, .slice (some a) sLen sCap]).run Tryd.prog w =
      .ok (goInt m) (w.setRow g (cur.toList.take o ++ cs ++ cur.toList.drop (o + cs.length)).toArray) := by
  obtain ⟨i0, hi, hz0, hz1, hz2⟩ := info_parts info56
  have hl := run_loadCells_list (P := Tryd.prog) w a cs hsrc
  have hst := run_storeCells_at Tryd.prog g o 56 cs 0 cur w hg (by simpa using hfit) h1
  rw [hn] at hl
  subst hm
  simp [Builtin.copy_, run_underlying Tryd.underlying57, Builtin.lenOf, Builtin.firstCells, sizeOf, typeInfo, hi, hz1, hl, hst]
theorem below_setRow' {B g : Nat} {w0 w : World} (hb : Below B w0 w) (hBg : B ≤ g) (cs : Array Value) : Below B w0 (w.setRow g cs) :=
  hb.trans ⟨rfl, rfl, rfl, by simp [World.setRow], fun k hk => setRow_other w g k cs (by omega)⟩
/-- m boxes more, out of the row itself or out of another. -/
theorem Filled.more {w : World} {g n k : Nat} {x : List Value} (h : Filled w g n k x) (hx : x.length = 7) (m : Nat) (hm : k + m ≤ n) (hox : ∀ u ∈ x, u.oneCell' = true) (ty : TypeId) (a : Addr) (sLen sCap dLen dCap : Nat) (hmin : Nat.min sLen dLen = m)
    (hsrc : ∀ j v, (repC x m)[j]? = some v → w.cell? (a.add j) = some v) :
    ∃ w', (Builtin.copy_ #[57, 57] ty #[.slice (some ⟨g, k * 7, none⟩) dLen dCap, .slice (some a) sLen sCap]).run Tryd.prog w = .ok (goInt m) w' ∧ Filled w' g n (k + m) x ∧ ∀ B w0, Below B w0 w → B ≤ g → Below B w0 w' := by
  obtain ⟨cur, hg, hs, ht⟩ := h.ex
  have hl := repC_len x hx m
  refine ⟨_, run_copy_boxes w ty g (k * 7) dLen dCap a sLen sCap m cur (repC x m) hg hmin hl hsrc (by rw [hl, hs]; omega) (fun v hv => hox v (repC_mem x m v hv)), ⟨_, setRow_heap w g _ _ 56 _ hg, ?_, ?_⟩, fun B w0 hb hB => below_setRow' hb hB _⟩
  · simp only [List.size_toArray, List.length_append, List.length_take, List.length_drop, Array.length_toList, hl, hs]
    omega
  · have e : (k + m) * 7 = (cur.toList.take (k * 7) ++ repC x m).length := by
      rw [List.length_append, List.length_take, hl, Array.length_toList, hs]; omega
    rw [e]
    show (cur.toList.take (k * 7) ++ repC x m ++ _).take _ = _
    rw [List.take_left, ht, repC_add]
theorem Filled.src {w : World} {g n k : Nat} {x : List Value} (h : Filled w g n k x) (hx : x.length = 7) (m : Nat) (hm : m ≤ k) : ∀ j v, (repC x m)[j]? = some v → w.cell? ((⟨g, 0, none⟩ : Addr).add j) = some v := by
  obtain ⟨cur, hg, hs, ht⟩ := h.ex
  intro j v hj
  have hjl : j < m * 7 := by
    have := (List.getElem?_eq_some_iff.1 hj).1
    rw [repC_len x hx m] at this
    exact this
  have ead : ((⟨g, 0, none⟩ : Addr).add j) = ⟨g, j, none⟩ := by
    simp [Addr.add]
    intro h; omega
  rw [ead, Lib.cell_of_heap hg]
  have e1 : repC x k = repC x m ++ repC x (k - m) := by rw [← repC_add, show m + (k - m) = k by omega]
  have e2 : (repC x k)[j]? = some v := by
    rw [e1, List.getElem?_append_left (by rw [repC_len x hx m]; exact hjl)]; exact hj
  rw [← ht, List.getElem?_take, if_pos (by omega)] at e2
  rw [← e2, Array.getElem?_toList]
theorem Filled.own {w : World} {g n : Nat} {x : List Value} (h : Filled w g n n x) (hx : x.length = 7) (base : Nat) (hb : base ≤ g) (hn : n ≤ maxLen) : w.ownsRow base 56 7 (.slice (some ⟨g, 0, none⟩) n n) n (repC x n) := by
  obtain ⟨cur, hg, hs, ht⟩ := h.ex
  exact ⟨repC_len x hx n, .inr ⟨g, n, cur, rfl, hb, hg, Nat.le_refl _, hn, hs, ht⟩⟩
end Go.Proofs.YtmmfojaeahcohaaDoor

set_option linter.unusedVariables false
set_option linter.unusedSimpArgs false
namespace Go.Proofs.YtmmfojaeahcohaaDoor
open Go.Shelf Go.RowKit Go.Lib Go.Aids Go.Opens Go.Proofs.YtmmfojaeahcohaaDoorW.PrintWords Go.Proofs.YtmmfojaeahcohaaDoor.PTabsNext

theorem step_copy_boxes {ops : Array Oper} {o : Oper} {a : Act} {w : World} {K : Act → World → Prop} {Q : Exit → Act → World → Prop} {E : Prop} (hgd : o.guard = none) (d s : Operand)
    (ho : o.op = .call { callee := .builtin .copy, args := #[d, s], argTypes := #[57, 57] }) (g n k : Nat) (x : List Value) (h : Filled w g n k x) (hx : x.length = 7) (m : Nat) (hm : k + m ≤ n) (hox : ∀ u ∈ x, u.oneCell' = true)
    (ad : Addr) (sLen sCap dLen dCap : Nat) (hmin : Nat.min sLen dLen = m) (hsrc : ∀ j v, (repC x m)[j]? = some v → w.cell? (ad.add j) = some v) (hd : a.eval d = .slice (some ⟨g, k * 7, none⟩) dLen dCap) (hs : a.eval s = .slice (some ad) sLen sCap)
    (hK : ∀ w', Filled w' g n (k + m) x → (∀ B w0, Below B w0 w → B ≤ g → Below B w0 w') → K (a.put o.dst (goInt m)) w') :
    if Region.wanted o (yielded ops a.tmps) = true then Oper.wp Tryd.prog o a w K Q else E := by
  have hw : Region.wanted o (yielded ops a.tmps) = true := by simp [Region.wanted, hgd]
  rw [if_pos hw]
  obtain ⟨w', hr, h1, h2⟩ := h.more hx m hm hox o.type ad sLen sCap dLen dCap hmin hsrc
  unfold Oper.wp
  simp [execOp, ho, resolve, invoke, builtin, hd, hs, hr, Result.andThen]
  exact hK w' h1 h2
theorem wpList_copy_boxes {ops : Array Oper} {rest : List Oper} {o : Oper} {a : Act} {w : World} {Q : Exit → Act → World → Prop} (hgd : o.guard = none) (d s : Operand)
    (ho : o.op = .call { callee := .builtin .copy, args := #[d, s], argTypes := #[57, 57] }) (g n k : Nat) (x : List Value) (h : Filled w g n k x) (hx : x.length = 7) (m : Nat) (hm : k + m ≤ n) (hox : ∀ u ∈ x, u.oneCell' = true)
    (ad : Addr) (sLen sCap dLen dCap : Nat) (hmin : Nat.min sLen dLen = m) (hsrc : ∀ j v, (repC x m)[j]? = some v → w.cell? (ad.add j) = some v) (hd : a.eval d = .slice (some ⟨g, k * 7, none⟩) dLen dCap) (hs : a.eval s = .slice (some ad) sLen sCap)
    (hK : ∀ w', Filled w' g n (k + m) x → (∀ B w0, Below B w0 w → B ≤ g → Below B w0 w') → wpList Tryd.prog ops Q rest (a.put o.dst (goInt m)) w') :
    wpList Tryd.prog ops Q (o :: rest) a w := by
  refine wpList_plain hgd fun K hK2 => ?_
  obtain ⟨w', hr, h1, h2⟩ := h.more hx m hm hox o.type ad sLen sCap dLen dCap hmin hsrc
  unfold Oper.wp
  simp [execOp, ho, resolve, invoke, builtin, hd, hs, hr, Result.andThen]
  exact hK2 _ _ (hK w' h1 h2)
theorem filled_new (w : World) (n : Nat) (x : List Value) (c : Array Value) (hc : c.size = n * 7) : Filled (w.alloc (.cells c 56)) w.heap.size n 0 x :=
  ⟨⟨c, heap_alloc_new w _, hc, by simp [repC]⟩⟩

set_option maxRecDepth 100000 in
set_option maxHeartbeats 4000000 in
theorem repeat_calls (b o cx n : Nat) (x : List Value) (hx : x.length = 7) (hox : ∀ u ∈ x, u.oneCell' = true) (hn : n ≤ 1000000000) (w : World) (hsrc : ∀ j v, x[j]? = some v → w.cell? ((⟨b, o, none⟩ : Addr).add j) = some v) (hb : b < w.heap.size) :
    Calls Tryd.prog 57 #[.slice (some ⟨b, o, none⟩) 1 cx, .int .i64 n] w fun e w' => ∃ g, e = .returned (.slice (some ⟨g, 0, none⟩) n n) ∧ w'.ownsRow w.heap.size 56 7 (.slice (some ⟨g, 0, none⟩) n n) n (repC x n) ∧ Below w.heap.size w w' := by
  have HM := Lib.hid (fun W => Tryd.bits_Mul 1 n (by omega) (by omega) W)
  have e0 : (1 * n / 18446744073709551616 : Nat) = 0 := by omega
  have e1 : (1 * n % 18446744073709551616 : Nat) = n := by omega
  rw [e0, e1] at HM
  have n0 : ¬ (n : Int) < 0 := by omega
  have n1 : decide ((9223372036854775807 : Int) < (n : Int)) = false := decide_eq_false (by omega)
  have n2 : (n : Int) ≤ 9223372036854775807 := by omega
  have w1 : IntKind.u64.wrap (n : Int) = (n : Int) := by unfold IntKind.wrap; simp [IntKind.signed, IntKind.bits]; omega
  have w2 : IntKind.i64.wrap (n : Int) = (n : Int) := by rw [IntKind.wrap_i64]; omega
  obtain ⟨i0, hi, hz0, hz1, hz2⟩ := info_parts info56
  have hmk : ∀ u : World, (Instr.makeSlice 57 (.int .i64 (n : Int)) (.int .i64 (n : Int))).run Tryd.prog u =
      .ok (.slice (some ⟨u.heap.size, 0, none⟩) n n) (u.alloc (.cells (madeCells #[.int .i64 0, .int .i64 0, .int .i64 0, .int .i64 0, .string ⟨#[]⟩, .string ⟨#[]⟩, .slice none 0 0] (n * 7)) 56)) := fun u => by
    have h := run_make (P := Tryd.prog) u 57 56 i0 (.agg #[.int .i64 0, .int .i64 0, .int .i64 0, .int .i64 0, .string ⟨#[]⟩, .string ⟨#[]⟩, .slice none 0 0]) Tryd.underlying57 hi hz0 .i64 .i64 (n : Int) (n : Int) (by omega) (Int.le_refl _) (by rw [hz2]; omega) (by omega)
    have e : (n : Int).toNat = n := by simp
    rw [e, hz1] at h
    exact h
  have HSR := Lib.hid hsrc
  clear hsrc e0 e1 hi hz0 hz1 hz2
  go_enter Tryd.func57, Tryd.ntmps57
  have hsr : ∀ j v, (repC x (Nat.min 1 n))[j]? = some v → w.cell? ((⟨b, o, none⟩ : Addr).add j) = some v := by
    rcases Nat.eq_zero_or_pos n with h | h
    · rw [h, show Nat.min 1 0 = 0 from rfl]
      intro j v hj
      simp [repC] at hj
    · rw [show Nat.min 1 n = 1 by show min 1 n = 1; omega, repC_one]
      exact HSR.out
  have HS2 := Lib.hid hsr
  clear hsr
  obtain ⟨m0, hm0⟩ : ∃ m0, Nat.min 1 n = m0 := ⟨_, rfl⟩
  rw [hm0] at HS2
  have hm1 : m0 ≤ n ∧ (0 < n → 0 < m0) := by rw [← hm0]; show min 1 n ≤ n ∧ (0 < n → 0 < min 1 n); omega
  obtain ⟨hm2, hm3⟩ := hm1
  have HM0 := Lib.hid hm0
  have HM3 := Lib.hid hm3
  clear hm0 hm3
  obtain ⟨zs, hzs⟩ : ∃ zs, madeCells #[.int .i64 0, .int .i64 0, .int .i64 0, .int .i64 0, .string ⟨#[]⟩, .string ⟨#[]⟩, .slice none 0 0] (n * 7) = zs := ⟨_, rfl⟩
  have hzl : Hid (zs.size = n * 7) := Lib.hid (by rw [← hzs]; simp [madeCells])
  rw [hzs] at hmk
  clear hzs
  have HS3 : Hid (∀ j v, (repC x m0)[j]? = some v → (w.alloc (.cells zs 56)).cell? ((⟨b, o, none⟩ : Addr).add j) = some v) := Lib.hid (fun j v hj => (World.cell?_alloc_lt w _ _ (by unfold Addr.add; split <;> exact hb)).trans (HS2.out j v hj))
  go_wp2_with (first
    | (go_at_call 74; refine (HM.out _).mono ?_; rintro e w3 ⟨rfl, hw3⟩; rw [hw3]; clear hw3 w3)
    | ((with_reducible refine gate_builtin (b := .copy) (xs := #[.tmp 31, .tmp 32]) rfl ?_); refine wpList_copy_boxes rfl _ _ rfl w.heap.size n 0 x (filled_new w n x zs hzl.out) hx m0 (by omega) hox ⟨b, o, none⟩ 1 cx n n HM0.out HS3.out (by rfl) (by rfl) ?_; intro w4 hf4 hb4; have HF4 := Lib.hid hf4; have HB4 := Lib.hid (hb4 w.heap.size w ((Below.refl _ _).alloc (Nat.le_refl _) _) (Nat.le_refl _)); clear hf4 hb4))
  rw [Nat.zero_add] at HF4
  clear hmk w1 w2 n1 n2 HM HSR HS2 HS3 HM0 hzl hb n0
  go_loopg [8] n (fun gk s8 wx => ∃ k : Nat, n ≤ k + gk ∧ s8 = .int .i64 k ∧ k ≤ n ∧ Hid (0 < n → 0 < k) ∧ Hid (Filled wx w.heap.size n k x) ∧ Hid (Below w.heap.size w wx))
  case atStart => exact ⟨m0, by omega, rfl, hm2, HM3, HF4, HB4⟩
  case round =>
    obtain ⟨k, hk, rfl, hkn, HP, HF, HB⟩ := hrel
    have HX := Lib.hid hx
    have HOX := Lib.hid hox
    clear hx hox
    by_cases hlt : k < n
    · have i0 : (k : Int) < n := by omega
      have i1 : ¬ k = n := by omega
      have i3 : ¬ n = k := by omega
      have i2 : ¬ (k : Int) = n := by omega
      have hp := HP.out (by omega)
      obtain ⟨m, hm⟩ : ∃ m, Nat.min k (n - k) = m := ⟨_, rfl⟩
      have hmk2 : m ≤ k ∧ k + m ≤ n ∧ 0 < m := by rw [← hm]; show min k (n - k) ≤ k ∧ k + min k (n - k) ≤ n ∧ 0 < min k (n - k); omega
      obtain ⟨hm4, hm5, hm6⟩ := hmk2
      have HMm := Lib.hid hm
      have hwr : IntKind.i64.wrap ((k : Int) + (m : Int)) = (k : Int) + (m : Int) := by rw [IntKind.wrap_i64]; omega
      have HFd : Hid (Filled wr.drew w.heap.size n k x) := Lib.hid ⟨HF.out.ex⟩
      have HSm := Lib.hid (HFd.out.src HX.out m hm4)
      obtain ⟨g', rfl⟩ : ∃ g', gk = g' + 1 := ⟨gk - 1, by omega⟩
      clear hm
      go_wp2_with fail
      go_region_law (refine step_copy_boxes (by rfl) (.tmp 41) (.tmp 44) (by rfl) w.heap.size n k x HFd.out HX.out m hm5 HOX.out ⟨w.heap.size, 0, none⟩ k n (n - k) (n - k) HMm.out HSm.out (by simp [Act.eval, Act.put]) (by simp [Act.eval, Act.put]) ?_; intro w5 hf5 hb5; have HF5 := Lib.hid hf5; have HB5 := Lib.hid (hb5 w.heap.size w HB.out.drew (Nat.le_refl _)); clear hf5 hb5)
      all_goals
        go_wp2_with fail
        go_roundg g'
        case measure => omega
        case rel => exact ⟨k + m, by omega, by go_num, hm5, Lib.hid (fun _ => by omega), HF5, HB5⟩
    · have hkn2 : k = n := by omega
      subst hkn2
      have i0 : ¬ ((k : Int) < k) := by omega
      go_wp2_with fail
      go_ret
      exact ⟨_, rfl, HF.out.own HX.out _ (Nat.le_refl _) (by unfold maxLen; omega), HB.out⟩
end Go.Proofs.YtmmfojaeahcohaaDoor

set_option linter.unusedVariables false
set_option linter.unusedSimpArgs false
namespace Go.Proofs.YtmmfojaeahcohaaDoor
open Go.Shelf Go.RowKit Go.Lib Go.Aids Go.Opens Go.Proofs.YtmmfojaeahcohaaDoorW.PrintWords Go.Proofs.YtmmfojaeahcohaaDoor.PTabsNext

theorem reps_append {α : Type} {R : α → List Value → Prop} {size : Nat} {ps : List α} {cs : List Value} (h : Reps R size ps cs) : ∀ (n : Nat) (qs : List α) (ds : List Value), qs.length = n → Reps R size qs ds → Reps R size (ps ++ qs) (cs ++ ds)
  | 0, qs, ds, hn, k => by
    have e1 : qs = [] := List.eq_nil_of_length_eq_zero hn
    subst e1
    have e2 : ds = [] := List.eq_nil_of_length_eq_zero (by have := k.1; simpa using this)
    subst e2
    simpa using h
  | n + 1, qs, ds, hn, k => by
    have hq : qs = qs.take n ++ [qs[n]'(by omega)] := by
      rw [← List.take_succ_eq_append_getElem (by omega), List.take_of_length_le (by omega)]
    have hdl : ds.length = (n + 1) * size := by rw [k.1, hn]
    have hd : ds = ds.take (n * size) ++ (ds.drop (n * size)).take size := by
      have e := List.take_of_length_le (l := ds.drop (n * size)) (i := size) (by rw [List.length_drop, hdl, Nat.add_mul]; omega)
      rw [e, List.take_append_drop]
    have k1 : Reps R size (qs.take n) (ds.take (n * size)) := by
      refine ⟨by rw [List.length_take, List.length_take, hdl, hn, Nat.min_eq_left (Nat.mul_le_mul_right _ (by omega)), Nat.min_eq_left (by omega)], fun j p hj => ?_⟩
      have hjn : j < n := by
        have := (List.getElem?_eq_some_iff.1 hj).1
        rw [List.length_take] at this; omega
      rw [List.getElem?_take, if_pos hjn] at hj
      have := k.2 j p hj
      have e : ((ds.take (n * size)).drop (j * size)).take size = (ds.drop (j * size)).take size := by
        rw [List.drop_take, List.take_take]
        congr 1
        have : j * size + size ≤ n * size := by rw [← Nat.succ_mul]; exact Nat.mul_le_mul_right _ hjn
        omega
      rw [e]; exact this
    have k2 := k.2 n _ (List.getElem?_eq_getElem (by omega))
    have := (reps_append h n _ _ (by rw [List.length_take]; omega) k1).snoc k2 (by rw [List.length_take, List.length_drop, hdl, Nat.add_mul]; omega)
    rw [hq, hd, ← List.append_assoc, ← List.append_assoc]
    simpa using this
/-- Rows of boxes that a relation describes. -/
abbrev BoxR := S56 → List Value → Prop
def OneC (R : BoxR) : Prop := ∀ p c, R p c → ∀ u ∈ c, u.oneCell' = true
theorem oneC_K (w : World) : OneC (k56.K w) := fun p c h => k56.K_one h
theorem reps_one {R : BoxR} (hR : OneC R) {ps : List S56} {cs : List Value} (h : Reps R 7 ps cs) : ∀ u ∈ cs, u.oneCell' = true := by
  intro u hu
  obtain ⟨i, hi, rfl⟩ := List.mem_iff_getElem.1 hu
  have hl := h.1
  have hq : i / 7 < ps.length := by omega
  refine hR _ _ (h.2 (i / 7) _ (List.getElem?_eq_getElem hq)) _ ?_
  rw [List.mem_iff_getElem?]
  refine ⟨i % 7, ?_⟩
  rw [List.getElem?_take, if_pos (Nat.mod_lt _ (by omega)), List.getElem?_drop, show i / 7 * 7 + i % 7 = i by omega, List.getElem?_eq_getElem hi]
theorem run_append_boxes {W : World} (R : BoxR) (hR : OneC R) (base : Nat) (ty : TypeId) (v : Value) (ps qs : List S56) (HO : OwnRow R 56 7 W base v ps) (A : Option Addr) (c : Nat) (hC : ReadsRow R 7 W A qs.length qs)
    (hsmall : ps.length + qs.length ≤ 1000000000000) (hbase : base ≤ W.heap.size) :
    ∃ v1 w1, (Builtin.append_ #[57, 57] ty #[v, .slice A qs.length c]).run Tryd.prog W = .ok v1 w1 ∧ OwnRow R 56 7 w1 base v1 (ps ++ qs) ∧ W.grownBy w1 v.ownBlock ∧ (v1.ownBlock = v.ownBlock ∨ v1.ownBlock = some W.heap.size) := by
  obtain ⟨i0, hi, hz0, hz1, hz2⟩ := info_parts info56
  obtain ⟨cs, ho, hr⟩ := HO
  cases A with
  | none =>
    rcases Nat.eq_zero_or_pos qs.length with h0 | h0
    · have e : qs = [] := List.eq_nil_of_length_eq_zero h0
      subst e
      refine ⟨v, W, ?_, by simpa using ⟨cs, ho, hr⟩, ⟨rfl, rfl, rfl, Nat.le_refl _, fun _ _ _ => rfl⟩, .inl rfl⟩
      rcases ho.2 with ⟨rfl, _⟩ | ⟨g, cap, cur, rfl, _, _, hnc, _⟩
      · simp [Builtin.append_, run_underlying Tryd.underlying57, sizeOf, typeInfo, hi, Builtin.lenOf, Builtin.firstCells]
      · simp [Builtin.append_, run_underlying Tryd.underlying57, sizeOf, typeInfo, hi, Builtin.lenOf, Builtin.firstCells, hnc, storeCells]
    · obtain ⟨ad, h, _⟩ := hC.2.2 h0
      cases h
  | some ad =>
    obtain ⟨inner, hri, hcell⟩ := hC.inner_
    obtain ⟨v1, w1, hrun, hown, hg, _, hat⟩ := run_append_own_at (P := Tryd.prog) W base 57 ty 56 i0 (.agg #[.int .i64 0, .int .i64 0, .int .i64 0, .int .i64 0, .string ⟨#[]⟩, .string ⟨#[]⟩, .slice none 0 0]) 7 88 Tryd.underlying57 hi hz0 hz1 hz2 rfl (by decide) v ps.length cs ho ad qs.length c inner hri.1 hcell (reps_one hR hri) (by unfold maxLen; omega) (by omega) hbase
    refine ⟨v1, w1, hrun, ⟨cs ++ inner, by rw [List.length_append]; exact hown, reps_append hr _ _ _ rfl hri⟩, hg, hat⟩
theorem wpList_append_boxes {ops : Array Oper} {rest : List Oper} {o : Oper} {a : Act} {Q : Exit → Act → World → Prop} {W : World} (R : BoxR) (hR : OneC R) (hgd : o.guard = none) (s x : Operand)
    (ho : o.op = .call { callee := .builtin .append, args := #[s, x], argTypes := #[57, 57] }) (base : Nat) (v : Value) (ps qs : List S56) (hs : a.eval s = v) (HO : OwnRow R 56 7 W base v ps) (A : Option Addr) (m c : Nat) (hx : a.eval x = .slice A m c) (hm : m = qs.length) (hC : ReadsRow R 7 W A qs.length qs)
    (hsmall : ps.length + qs.length ≤ 1000000000000) (hbase : base ≤ W.heap.size)
    (h : ∀ v1 w1, OwnRow R 56 7 w1 base v1 (ps ++ qs) → W.grownBy w1 v.ownBlock → wpList Tryd.prog ops Q rest (a.put o.dst v1) w1) :
    wpList Tryd.prog ops Q (o :: rest) a W := by
  subst hm
  refine wpList_plain hgd fun K hK2 => ?_
  obtain ⟨v1, w1, hr, hown, hg, _⟩ := run_append_boxes R hR base o.type v ps qs HO A c hC hsmall hbase
  unfold Oper.wp
  simp [execOp, ho, resolve, invoke, builtin, hs, hx, hr, Result.andThen]
  exact hK2 _ _ (h v1 w1 hown hg)
theorem or_base {R : BoxR} {w : World} {base : Nat} {v : Value} {ps : List S56} (h : OwnRow R 56 7 w base v ps) (k : Nat) (hk : v.ownBlock = some k) : base ≤ k := by
  obtain ⟨inner, ho, _⟩ := h
  exact own_base ho k hk
theorem or_grown {R : BoxR} {W W1 w0 : World} {base : Nat} {v : Value} {ps : List S56} (HO : OwnRow R 56 7 W base v ps) (HB : Below base w0 W) (hbase : base ≤ W.heap.size) (hg : W.grownBy W1 v.ownBlock) : Below base w0 W1 :=
  HB.grown hg hbase (fun k hk => or_base HO k hk)
end Go.Proofs.YtmmfojaeahcohaaDoor

set_option linter.unusedVariables false
set_option linter.unusedSimpArgs false
namespace Go.Proofs.YtmmfojaeahcohaaDoor
open Go.Shelf Go.RowKit Go.Lib Go.Aids Go.Opens Go.Proofs.YtmmfojaeahcohaaDoorW.PrintWords Go.Proofs.YtmmfojaeahcohaaDoor.PTabsNext

def rightS (r : Int) : S56 := ⟨2, r, 0, 0, ⟨#[]⟩, ⟨#[]⟩, []⟩
def rightC (r : Int) : List Value := [.int .i64 2, .int .i64 r, .int .i64 0, .int .i64 0, .string ⟨#[]⟩, .string ⟨#[]⟩, .slice none 0 0]
def boxC (x : S56) (A : Option Addr) (c : Nat) : List Value := [.int .i64 x.f0, .int .i64 x.f1, .int .i64 x.f2, .int .i64 x.f3, .string x.f4, .string x.f5, .slice A x.f6.length c]
def manyL (far : Int) (x : S56) : Nat := if x.f0 = 0 ∧ 0 < x.f1 then (far / x.f1).toNat else 0
def wayL (far : Int) (x : S56) : List S56 := (if far - (manyL far x : Int) * x.f1 = 0 then [] else [rightS (far - (manyL far x : Int) * x.f1)]) ++ List.replicate (manyL far x) x
theorem right_K (w : World) (r : Int) : k56.K w (rightS r) (rightC r) := k56_mk w (rightS r) (A6 := none) (c6 := 0) (Nat.le_refl _) ⟨rfl, Nat.zero_le _, fun h => absurd h (Nat.lt_irrefl 0)⟩
theorem many_le (far : Int) (x : S56) (hf : 0 < far) (hf2 : far ≤ 1000000000) : manyL far x ≤ 1000000000 ∧ (manyL far x : Int) * x.f1 ≤ far ∧ (x.f0 = 0 → 0 < x.f1 → 0 ≤ (manyL far x : Int) * x.f1) := by
  unfold manyL
  split
  · rename_i h
    have h1 := Int.ediv_nonneg (Int.le_of_lt hf) (Int.le_of_lt h.2)
    have h2 := Int.ediv_mul_le far (Int.ne_of_gt h.2)
    have h3 := Int.ediv_le_self x.f1 (Int.le_of_lt hf)
    have h4 : ((far / x.f1).toNat : Int) = far / x.f1 := Int.toNat_of_nonneg h1
    rw [h4]
    refine ⟨by omega, h2, fun _ _ => Int.mul_nonneg h1 (Int.le_of_lt h.2)⟩
  · exact ⟨by omega, by simp; omega, fun _ _ => by simp⟩
theorem reps_rep {R : BoxR} {x : S56} {cs : List Value} (h : R x cs) (hl : cs.length = 7) : ∀ n, Reps R 7 (List.replicate n x) (repC cs n)
  | 0 => Reps.none _ _
  | n + 1 => by
    have := (reps_rep h hl n).snoc h hl
    rw [List.replicate_succ', repC_add, repC_one]
    exact this
theorem or_reads {R : BoxR} {w : World} {base : Nat} {v : Value} {ps : List S56} (h : OwnRow R 56 7 w base v ps) : ∃ A c, v = .slice A ps.length c ∧ ReadsRow R 7 w A ps.length ps := by
  obtain ⟨A, c, e, _, hr⟩ := OwnRow.reads h
  exact ⟨A, c, e, hr⟩
theorem reads_new {R : BoxR} (W : World) (cs : Array Value) (B : Nat) (hB : B = W.heap.size) (hl : cs.size = 7) (x : S56) (h : R x cs.toList) : ReadsRow R 7 (W.alloc (.cells cs 56)) (some ⟨B, 0, none⟩) [x].length [x] := by
  subst hB
  refine ⟨rfl, by simp, fun _ => ⟨_, rfl, fun j p hj => ?_⟩⟩
  match j, hj with
  | 0, hj =>
    injection hj with hj
    subst hj
    refine ⟨cs.toList, by simpa using hl, h, fun i u hi => ?_⟩
    have ead : ((⟨W.heap.size, 0, none⟩ : Addr).add (0 * 7 + i)) = ⟨W.heap.size, i, none⟩ := by
      simp [Addr.add]
      intro h; omega
    rw [ead, World.cell?_alloc_at _ _ _ _ rfl]
    simpa using hi
  | j + 1, hj => simp at hj
theorem src_new (W : World) (cs : List Value) (B : Nat) (hB : B = W.heap.size) : ∀ j v, cs[j]? = some v → (W.alloc (.cells cs.toArray 56)).cell? ((⟨B, 0, none⟩ : Addr).add j) = some v := by
  intro j v hj
  have ead : ((⟨B, 0, none⟩ : Addr).add j) = ⟨B, j, none⟩ := by
    simp [Addr.add]
    intro h; omega
  rw [ead, World.cell?_alloc_at _ _ _ _ hB]
  simpa using hj
set_option maxRecDepth 100000 in
set_option maxHeartbeats 400000 in
theorem way_calls (R : BoxR) (hR : OneC R) (far : Int) (x : S56) (A : Option Addr) (c : Nat) (hf : 0 < far) (hf2 : far ≤ 1000000000) (hw : -1000000 ≤ x.f1 ∧ x.f1 ≤ 1000000) (hRx : R x (boxC x A c)) (hRz : ∀ r, R (rightS r) (rightC r)) (w : World) :
    Calls Tryd.prog 36 #[.int .i64 far, boxV x.f0 x.f1 x.f2 x.f3 x.f4 x.f5 A x.f6.length c] w fun e w' => ∃ v, e = .returned v ∧ OwnRow R 56 7 w' w.heap.size v (wayL far x) ∧ Below w.heap.size w w' := by
  have hml := many_le far x hf hf2
  have HWL : Hid (wayL far x = (if far - (manyL far x : Int) * x.f1 = 0 then [] else [rightS (far - (manyL far x : Int) * x.f1)]) ++ List.replicate (manyL far x) x) := Lib.hid rfl
  obtain ⟨L, hL⟩ : ∃ L, wayL far x = L := ⟨_, rfl⟩
  rw [hL] at HWL ⊢
  clear hL
  obtain ⟨m, hm⟩ : ∃ m, manyL far x = m := ⟨_, rfl⟩
  have hmm : Hid ((x.f0 = 0 → 0 < x.f1 → far / x.f1 = (m : Int)) ∧ (¬ (x.f0 = 0 ∧ 0 < x.f1) → m = 0)) := Lib.hid (by
    rw [← hm]
    unfold manyL
    constructor
    · intro h1 h2
      rw [if_pos ⟨h1, h2⟩]
      exact (Int.toNat_of_nonneg (Int.ediv_nonneg (Int.le_of_lt hf) (Int.le_of_lt h2))).symm
    · intro h
      rw [if_neg h])
  rw [hm] at hml HWL
  clear hm
  obtain ⟨k, w0, f, s, nm, cl, l⟩ := x
  obtain ⟨hm1, hm2, hm3⟩ := hml
  have HRx := Lib.hid hRx
  have HRz := Lib.hid hRz
  have HRR := Lib.hid hR
  clear hRx hRz hR
  simp only at hw hm2 hm3 HWL
  have hmax : max far 0 = far := by omega
  have e0 : 0 ≤ far := by omega
  have hw630 : wrap64 ((m : Int) * w0) = (m : Int) * w0 := by
    have h1 : -1000000000000000 ≤ (m : Int) * w0 := by
      rcases Int.lt_or_le w0 0 with h | h
      · have : (m : Int) * (-w0) ≤ 1000000000 * 1000000 := Int.mul_le_mul (by omega) (by omega) (by omega) (by omega)
        rw [Int.mul_neg] at this; omega
      · have := Int.mul_nonneg (show (0 : Int) ≤ m by omega) h
        omega
    unfold wrap64; omega
  obtain ⟨P, hP⟩ : ∃ P, (m : Int) * w0 = P := ⟨_, rfl⟩
  have hP2 : -1000000000000000 ≤ P := by
    rw [← hP]
    rcases Int.lt_or_le w0 0 with h | h
    · have : (m : Int) * (-w0) ≤ 1000000000 * 1000000 := Int.mul_le_mul (by omega) (by omega) (by omega) (by omega)
      rw [Int.mul_neg] at this; omega
    · have := Int.mul_nonneg (show (0 : Int) ≤ m by omega) h
      omega
  have hw63 := hw630.trans hP
  clear hw630
  rw [hP] at hm2 hm3 HWL
  obtain ⟨r, hr⟩ : ∃ r, far - P = r := ⟨_, rfl⟩
  have hws : wrap64 (far - P) = r := by rw [← hr]; unfold wrap64; omega
  rw [hr] at HWL
  have hd1 : Hid (far / w0 = (m : Int) ∨ ¬ (k = 0 ∧ 0 < w0)) := Lib.hid (by
    by_cases h : k = 0 ∧ 0 < w0
    · exact .inl (hmm.out.1 h.1 h.2)
    · exact .inr h)
  have HL : Hid (L = if r = 0 then List.replicate m ⟨k, w0, f, s, nm, cl, l⟩ else rightS r :: List.replicate m ⟨k, w0, f, s, nm, cl, l⟩) := Lib.hid (by rw [HWL.out]; split <;> rfl)
  have HMM := hmm
  clear hmm hd1 HWL hw hm3
  by_cases hk : k = 0 ∧ 0 < w0
  · obtain ⟨hk0, hw0⟩ := hk
    subst hk0
    have hq : far / w0 = (m : Int) := HMM.out.1 rfl hw0
    have hq2 : far.tdiv w0 = (m : Int) := by rw [Int.tdiv_eq_ediv_of_nonneg e0]; exact hq
    have hw00 : ¬ w0 = 0 := by omega
    clear hP
    by_cases hr0 : r = 0
    · subst hr0
      have HL2 : Hid (L = List.replicate m ⟨0, w0, f, s, nm, cl, l⟩) := Lib.hid (by rw [HL.out, if_pos rfl])
      go_enter Tryd.func36, Tryd.ntmps36
      go_wp2_with fail
      clear hq hq2 hmax hw63 hws hm2 hP2
      have hb0 : Below w.heap.size w ((w.alloc (.cells #[.int .i64 0, .int .i64 w0, .int .i64 f, .int .i64 s, .string nm, .string cl, .slice A l.length c] 56)).alloc (.cells #[.int .i64 0, .int .i64 w0, .int .i64 f, .int .i64 s, .string nm, .string cl, .slice A l.length c] 56)) := ((Below.refl _ _).alloc (Nat.le_refl _) _).alloc (by simp) _
      have HRP := Lib.hid (repeat_calls (w.heap.size + 1) 0 1 m (boxC ⟨0, w0, f, s, nm, cl, l⟩ A c) rfl (HRR.out _ _ HRx.out) hm1 ((w.alloc (.cells #[.int .i64 0, .int .i64 w0, .int .i64 f, .int .i64 s, .string nm, .string cl, .slice A l.length c] 56)).alloc (.cells #[.int .i64 0, .int .i64 w0, .int .i64 f, .int .i64 s, .string nm, .string cl, .slice A l.length c] 56)) (fun j v hj => by
        have ead : ((⟨w.heap.size + 1, 0, none⟩ : Addr).add j) = ⟨w.heap.size + 1, j, none⟩ := by
          simp [Addr.add]
          intro h; omega
        rw [ead, World.cell?_alloc_at _ _ _ _ (by simp)]
        simpa [boxC] using hj) (by simp))
      have HB0 := Lib.hid hb0
      clear hb0
      refine HRP.out.mono ?_
      rintro e w5 ⟨g5, rfl, ho5, hb5⟩
      have O5 : OwnRow R 56 7 w5 ((w.alloc (.cells #[.int .i64 0, .int .i64 w0, .int .i64 f, .int .i64 s, .string nm, .string cl, .slice A l.length c] 56)).alloc (.cells #[.int .i64 0, .int .i64 w0, .int .i64 f, .int .i64 s, .string nm, .string cl, .slice A l.length c] 56)).heap.size (.slice (some ⟨g5, 0, none⟩) m m) (List.replicate m ⟨0, w0, f, s, nm, cl, l⟩) := ⟨_, by rw [List.length_replicate]; exact ho5, reps_rep HRx.out rfl m⟩
      obtain ⟨A5, c5, e5, R5⟩ := or_reads O5
      injection e5 with e6 e7 e8
      have HR5 := Lib.hid R5
      have HB5 := Lib.hid (HB0.out.trans (hb5.mono (by simp; omega)))
      rw [← e6] at HR5
      clear ho5 hb5 O5 R5 e6 e7 e8 A5 c5
      go_wp2_with (at_builtin; refine wpList_append_boxes R HRR.out rfl _ _ rfl w.heap.size (.slice none 0 0) [] (List.replicate m ⟨0, w0, f, s, nm, cl, l⟩) (by rfl) (OwnRow.none_ _ _ _ _ _) (some ⟨g5, 0, none⟩) m m (by rfl) (by rw [List.length_replicate]) HR5.out (by rw [List.length_replicate]; simp; omega) HB5.out.size ?_; intro v6 w6 ho6 hg6; have HO6 := Lib.hid ho6; have HB6 := Lib.hid (HB5.out.grown hg6 HB5.out.size (fun k hk => by simp [Value.ownBlock] at hk)); clear ho6 hg6)
      go_ret
      exact ⟨_, rfl, by rw [HL2.out]; exact HO6.out, HB6.out⟩
    · have HL2 : Hid (L = [rightS r] ++ List.replicate m ⟨0, w0, f, s, nm, cl, l⟩) := Lib.hid (by rw [HL.out, if_neg hr0]; rfl)
      have HRR2 := Lib.hid (reads_new (R := R) (w.alloc (.cells #[.int .i64 0, .int .i64 w0, .int .i64 f, .int .i64 s, .string nm, .string cl, .slice A l.length c] 56)) #[.int .i64 2, .int .i64 r, .int .i64 0, .int .i64 0, .string ⟨#[]⟩, .string ⟨#[]⟩, .slice none 0 0] (w.heap.size + 1) (by simp) rfl (rightS r) (HRz.out r))
      have HBB := Lib.hid (((Below.refl (w.heap.size + 1) (w.alloc (.cells #[.int .i64 0, .int .i64 w0, .int .i64 f, .int .i64 s, .string nm, .string cl, .slice A l.length c] 56))).alloc (by simp) (.cells #[.int .i64 2, .int .i64 r, .int .i64 0, .int .i64 0, .string ⟨#[]⟩, .string ⟨#[]⟩, .slice none 0 0] 56)))
      have HB00 := Lib.hid ((Below.refl w.heap.size w).alloc (Nat.le_refl _) (.cells #[.int .i64 0, .int .i64 w0, .int .i64 f, .int .i64 s, .string nm, .string cl, .slice A l.length c] 56))
      go_enter Tryd.func36, Tryd.ntmps36
      go_wp2_with (at_builtin; refine wpList_append_boxes R HRR.out rfl _ _ rfl (w.heap.size + 1) (.slice none 0 0) [] [rightS r] (by rfl) (OwnRow.none_ _ _ _ _ _) (some ⟨w.heap.size + 1, 0, none⟩) 1 1 (by rfl) rfl HRR2.out (by simp) (by simp) ?_; intro v5 w5 ho5 hg5; have hb5 := HBB.out.grown hg5 (by simp) (fun k hk => by simp [Value.ownBlock] at hk); have hc5 : ∀ o, w5.cell? ⟨w.heap.size, o, none⟩ = (w.alloc (.cells #[.int .i64 0, .int .i64 w0, .int .i64 f, .int .i64 s, .string nm, .string cl, .slice A l.length c] 56)).cell? ⟨w.heap.size, o, none⟩ := (fun o => hb5.cell (p := ⟨w.heap.size, o, none⟩) (Nat.lt_succ_self _)); have hl5 : w.heap.size < w5.heap.size := (by have := hb5.size; simp at this; omega); have HO5 := Lib.hid ho5; have HB5 := Lib.hid hb5; clear ho5 hg5 hb5)
      clear hq hq2 hmax hw63 hws hm2 hP2
      have HRP := Lib.hid (repeat_calls w5.heap.size 0 1 m (boxC ⟨0, w0, f, s, nm, cl, l⟩ A c) rfl (HRR.out _ _ HRx.out) hm1 (w5.alloc (.cells #[.int .i64 0, .int .i64 w0, .int .i64 f, .int .i64 s, .string nm, .string cl, .slice A l.length c] 56)) (src_new w5 (boxC ⟨0, w0, f, s, nm, cl, l⟩ A c) w5.heap.size rfl) (by simp))
      have HB6 := Lib.hid (HB5.out.alloc (by have := HB5.out.size; simp at this; omega) (.cells #[.int .i64 0, .int .i64 w0, .int .i64 f, .int .i64 s, .string nm, .string cl, .slice A l.length c] 56))
      refine HRP.out.mono ?_
      rintro e w7 ⟨g7, rfl, ho7, hb7⟩
      have O7 : OwnRow R 56 7 w7 (w5.alloc (.cells #[.int .i64 0, .int .i64 w0, .int .i64 f, .int .i64 s, .string nm, .string cl, .slice A l.length c] 56)).heap.size (.slice (some ⟨g7, 0, none⟩) m m) (List.replicate m ⟨0, w0, f, s, nm, cl, l⟩) := ⟨_, by rw [List.length_replicate]; exact ho7, reps_rep HRx.out rfl m⟩
      obtain ⟨A7, c7, e7, R7⟩ := or_reads O7
      injection e7 with e8 e9 e10
      rw [← e8] at R7
      have HR7 := Lib.hid R7
      have HO7 := Lib.hid (OwnRow.below HO5.out ((((Below.refl w5.heap.size w5).alloc (Nat.le_refl _) (.cells #[.int .i64 0, .int .i64 w0, .int .i64 f, .int .i64 s, .string nm, .string cl, .slice A l.length c] 56))).trans (hb7.mono (by simp))))
      have HB7 := Lib.hid (HB6.out.trans (hb7.mono (by have := HB5.out.size; simp at this ⊢; omega)))
      clear ho7 hb7 O7 R7 e8 e9 e10 A7 c7
      go_wp2_with (at_builtin; refine wpList_append_boxes R HRR.out rfl _ _ rfl (w.heap.size + 1) v5 [rightS r] (List.replicate m ⟨0, w0, f, s, nm, cl, l⟩) (by rfl) HO7.out (some ⟨g7, 0, none⟩) m m (by rfl) (by rw [List.length_replicate]) HR7.out (by rw [List.length_replicate]; simp; omega) (by have := HB7.out.size; simpa using this) ?_; intro v8 w8 ho8 hg8; have HO8 := Lib.hid ho8; have HB8 := Lib.hid (or_grown HO7.out HB7.out (by have := HB7.out.size; simpa using this) hg8); clear ho8 hg8)
      go_ret
      exact ⟨_, rfl, by rw [HL2.out]; exact OwnRow.lower HO8.out (Nat.le_succ _), HB00.out.trans (HB8.out.mono (Nat.le_succ _))⟩
  · have hm0 : m = 0 := HMM.out.2 hk
    subst hm0
    have hP0 : P = 0 := by rw [← hP]; simp
    have hr0 : ¬ r = 0 := by omega
    have hrf : r = far := by omega
    subst hrf
    have z1 : wrap64 0 = 0 := by unfold wrap64; omega
    have z2 : wrap64 r = r := by unfold wrap64; omega
    clear hw63 hws hP HMM
    by_cases hk0 : k = 0
    · subst hk0
      have hw0 : ¬ 0 < w0 := fun h => hk ⟨rfl, h⟩
      clear hk
      have HL2 : Hid (L = [rightS r] ++ []) := Lib.hid (by rw [HL.out, if_neg hr0]; rfl)
      have HRR2 := Lib.hid (reads_new (R := R) (w.alloc (.cells #[.int .i64 0, .int .i64 w0, .int .i64 f, .int .i64 s, .string nm, .string cl, .slice A l.length c] 56)) #[.int .i64 2, .int .i64 r, .int .i64 0, .int .i64 0, .string ⟨#[]⟩, .string ⟨#[]⟩, .slice none 0 0] (w.heap.size + 1) (by simp) rfl (rightS r) (HRz.out r))
      have HBB := Lib.hid (((Below.refl (w.heap.size + 1) (w.alloc (.cells #[.int .i64 0, .int .i64 w0, .int .i64 f, .int .i64 s, .string nm, .string cl, .slice A l.length c] 56))).alloc (by simp) (.cells #[.int .i64 2, .int .i64 r, .int .i64 0, .int .i64 0, .string ⟨#[]⟩, .string ⟨#[]⟩, .slice none 0 0] 56)))
      have HB00 := Lib.hid ((Below.refl w.heap.size w).alloc (Nat.le_refl _) (.cells #[.int .i64 0, .int .i64 w0, .int .i64 f, .int .i64 s, .string nm, .string cl, .slice A l.length c] 56))
      go_enter Tryd.func36, Tryd.ntmps36
      go_wp2_with (at_builtin; refine wpList_append_boxes R HRR.out rfl _ _ rfl (w.heap.size + 1) (.slice none 0 0) [] [rightS r] (by rfl) (OwnRow.none_ _ _ _ _ _) (some ⟨w.heap.size + 1, 0, none⟩) 1 1 (by rfl) rfl HRR2.out (by simp) (by simp) ?_; intro v5 w5 ho5 hg5; have hb5 := HBB.out.grown hg5 (by simp) (fun k hk => by simp [Value.ownBlock] at hk); have hc5 : ∀ o, w5.cell? ⟨w.heap.size, o, none⟩ = (w.alloc (.cells #[.int .i64 0, .int .i64 w0, .int .i64 f, .int .i64 s, .string nm, .string cl, .slice A l.length c] 56)).cell? ⟨w.heap.size, o, none⟩ := (fun o => hb5.cell (p := ⟨w.heap.size, o, none⟩) (Nat.lt_succ_self _)); have hl5 : w.heap.size < w5.heap.size := (by have := hb5.size; simp at this; omega); have HO5 := Lib.hid ho5; have HB5 := Lib.hid hb5; clear ho5 hg5 hb5)
      have HRP := Lib.hid (repeat_calls w5.heap.size 0 1 0 (boxC ⟨0, w0, f, s, nm, cl, l⟩ A c) rfl (HRR.out _ _ HRx.out) hm1 (w5.alloc (.cells #[.int .i64 0, .int .i64 w0, .int .i64 f, .int .i64 s, .string nm, .string cl, .slice A l.length c] 56)) (src_new w5 (boxC ⟨0, w0, f, s, nm, cl, l⟩ A c) w5.heap.size rfl) (by simp))
      have HB6 := Lib.hid (HB5.out.alloc (by have := HB5.out.size; simp at this; omega) (.cells #[.int .i64 0, .int .i64 w0, .int .i64 f, .int .i64 s, .string nm, .string cl, .slice A l.length c] 56))
      rw [show ((0 : Nat) : Int) = 0 from rfl] at HRP
      refine HRP.out.mono ?_
      rintro e w7 ⟨g7, rfl, ho7, hb7⟩
      have O7 : OwnRow R 56 7 w7 (w5.alloc (.cells #[.int .i64 0, .int .i64 w0, .int .i64 f, .int .i64 s, .string nm, .string cl, .slice A l.length c] 56)).heap.size (.slice (some ⟨g7, 0, none⟩) 0 0) (List.replicate 0 ⟨0, w0, f, s, nm, cl, l⟩) := ⟨_, by rw [List.length_replicate]; exact ho7, reps_rep HRx.out rfl 0⟩
      obtain ⟨A7, c7, e7, R7⟩ := or_reads O7
      injection e7 with e8 e9 e10
      rw [← e8] at R7
      rw [List.replicate_zero] at R7
      have HR7 := Lib.hid R7
      have HO7 := Lib.hid (OwnRow.below HO5.out ((((Below.refl w5.heap.size w5).alloc (Nat.le_refl _) (.cells #[.int .i64 0, .int .i64 w0, .int .i64 f, .int .i64 s, .string nm, .string cl, .slice A l.length c] 56))).trans (hb7.mono (by simp))))
      have HB7 := Lib.hid (HB6.out.trans (hb7.mono (by have := HB5.out.size; simp at this ⊢; omega)))
      clear ho7 hb7 O7 R7 e8 e9 e10 A7 c7
      go_wp2_with (at_builtin; refine wpList_append_boxes R HRR.out rfl _ _ rfl (w.heap.size + 1) v5 [rightS r] [] (by rfl) HO7.out (some ⟨g7, 0, none⟩) 0 0 (by rfl) rfl HR7.out (by simp) (by have := HB7.out.size; simpa using this) ?_; intro v8 w8 ho8 hg8; have HO8 := Lib.hid ho8; have HB8 := Lib.hid (or_grown HO7.out HB7.out (by have := HB7.out.size; simpa using this) hg8); clear ho8 hg8)
      go_ret
      exact ⟨_, rfl, by rw [HL2.out]; exact OwnRow.lower HO8.out (Nat.le_succ _), HB00.out.trans (HB8.out.mono (Nat.le_succ _))⟩

    · clear hk
      have HL2 : Hid (L = [rightS r] ++ []) := Lib.hid (by rw [HL.out, if_neg hr0]; rfl)
      have HRR2 := Lib.hid (reads_new (R := R) (w.alloc (.cells #[.int .i64 k, .int .i64 w0, .int .i64 f, .int .i64 s, .string nm, .string cl, .slice A l.length c] 56)) #[.int .i64 2, .int .i64 r, .int .i64 0, .int .i64 0, .string ⟨#[]⟩, .string ⟨#[]⟩, .slice none 0 0] (w.heap.size + 1) (by simp) rfl (rightS r) (HRz.out r))
      have HBB := Lib.hid (((Below.refl (w.heap.size + 1) (w.alloc (.cells #[.int .i64 k, .int .i64 w0, .int .i64 f, .int .i64 s, .string nm, .string cl, .slice A l.length c] 56))).alloc (by simp) (.cells #[.int .i64 2, .int .i64 r, .int .i64 0, .int .i64 0, .string ⟨#[]⟩, .string ⟨#[]⟩, .slice none 0 0] 56)))
      have HB00 := Lib.hid ((Below.refl w.heap.size w).alloc (Nat.le_refl _) (.cells #[.int .i64 k, .int .i64 w0, .int .i64 f, .int .i64 s, .string nm, .string cl, .slice A l.length c] 56))
      go_enter Tryd.func36, Tryd.ntmps36
      go_wp2_with (at_builtin; refine wpList_append_boxes R HRR.out rfl _ _ rfl (w.heap.size + 1) (.slice none 0 0) [] [rightS r] (by rfl) (OwnRow.none_ _ _ _ _ _) (some ⟨w.heap.size + 1, 0, none⟩) 1 1 (by rfl) rfl HRR2.out (by simp) (by simp) ?_; intro v5 w5 ho5 hg5; have hb5 := HBB.out.grown hg5 (by simp) (fun k hk => by simp [Value.ownBlock] at hk); have hc5 : ∀ o, w5.cell? ⟨w.heap.size, o, none⟩ = (w.alloc (.cells #[.int .i64 k, .int .i64 w0, .int .i64 f, .int .i64 s, .string nm, .string cl, .slice A l.length c] 56)).cell? ⟨w.heap.size, o, none⟩ := (fun o => hb5.cell (p := ⟨w.heap.size, o, none⟩) (Nat.lt_succ_self _)); have hl5 : w.heap.size < w5.heap.size := (by have := hb5.size; simp at this; omega); have HO5 := Lib.hid ho5; have HB5 := Lib.hid hb5; clear ho5 hg5 hb5)
      have HRP := Lib.hid (repeat_calls w5.heap.size 0 1 0 (boxC ⟨k, w0, f, s, nm, cl, l⟩ A c) rfl (HRR.out _ _ HRx.out) hm1 (w5.alloc (.cells #[.int .i64 k, .int .i64 w0, .int .i64 f, .int .i64 s, .string nm, .string cl, .slice A l.length c] 56)) (src_new w5 (boxC ⟨k, w0, f, s, nm, cl, l⟩ A c) w5.heap.size rfl) (by simp))
      have HB6 := Lib.hid (HB5.out.alloc (by have := HB5.out.size; simp at this; omega) (.cells #[.int .i64 k, .int .i64 w0, .int .i64 f, .int .i64 s, .string nm, .string cl, .slice A l.length c] 56))
      rw [show ((0 : Nat) : Int) = 0 from rfl] at HRP
      refine HRP.out.mono ?_
      rintro e w7 ⟨g7, rfl, ho7, hb7⟩
      have O7 : OwnRow R 56 7 w7 (w5.alloc (.cells #[.int .i64 k, .int .i64 w0, .int .i64 f, .int .i64 s, .string nm, .string cl, .slice A l.length c] 56)).heap.size (.slice (some ⟨g7, 0, none⟩) 0 0) (List.replicate 0 ⟨k, w0, f, s, nm, cl, l⟩) := ⟨_, by rw [List.length_replicate]; exact ho7, reps_rep HRx.out rfl 0⟩
      obtain ⟨A7, c7, e7, R7⟩ := or_reads O7
      injection e7 with e8 e9 e10
      rw [← e8] at R7
      rw [List.replicate_zero] at R7
      have HR7 := Lib.hid R7
      have HO7 := Lib.hid (OwnRow.below HO5.out ((((Below.refl w5.heap.size w5).alloc (Nat.le_refl _) (.cells #[.int .i64 k, .int .i64 w0, .int .i64 f, .int .i64 s, .string nm, .string cl, .slice A l.length c] 56))).trans (hb7.mono (by simp))))
      have HB7 := Lib.hid (HB6.out.trans (hb7.mono (by have := HB5.out.size; simp at this ⊢; omega)))
      clear ho7 hb7 O7 R7 e8 e9 e10 A7 c7
      go_wp2_with (at_builtin; refine wpList_append_boxes R HRR.out rfl _ _ rfl (w.heap.size + 1) v5 [rightS r] [] (by rfl) HO7.out (some ⟨g7, 0, none⟩) 0 0 (by rfl) rfl HR7.out (by simp) (by have := HB7.out.size; simpa using this) ?_; intro v8 w8 ho8 hg8; have HO8 := Lib.hid ho8; have HB8 := Lib.hid (or_grown HO7.out HB7.out (by have := HB7.out.size; simpa using this) hg8); clear ho8 hg8)
      go_ret
      exact ⟨_, rfl, by rw [HL2.out]; exact OwnRow.lower HO8.out (Nat.le_succ _), HB00.out.trans (HB8.out.mono (Nat.le_succ _))⟩
end Go.Proofs.YtmmfojaeahcohaaDoor

set_option linter.unusedVariables false
set_option linter.unusedSimpArgs false
namespace Go.Proofs.YtmmfojaeahcohaaDoor
open Go.Lib Go.RowKit Go.Proofs.YtmmfojaeahcohaaDoorW.PrintWords Go.Proofs.YtmmfojaeahcohaaDoorW.PrintMore Go.Proofs.YtmmfojaeahcohaaDoor.PTabsNext

theorem wrap64_in (n : Int) (h0 : -9223372036854775808 ≤ n) (h1 : n ≤ 9223372036854775807) : wrap64 n = n := by unfold wrap64; omega
theorem wrap_s (a n : Nat) (h : a < n) (hn : n ≤ 4611686018427387904) : wrap64 ((a : Int) + 1) = ((a + 1 : Nat) : Int) := by rw [wrap64_in _ (by omega) (by omega)]; rfl
def wideS (x : S56) : Int := if x.f0 = 0 ∨ x.f0 = 1 ∨ x.f0 = 2 ∨ x.f0 = 4 ∨ x.f0 = 6 then x.f1 else 0
def widthL : List S56 → Int
  | [] => 0
  | x :: r => wideS x + widthL r
theorem rd28 (L : List S56) (a : Nat) (h : a < L.length) : rd_T56 L (a : Int) = L[a] := by
  simp [rd_T56, List.getD, h]
theorem rd68 (L : List S41) (a : Nat) (h : a < L.length) : rd_T41 L (a : Int) = L[a] := by
  simp [rd_T41, List.getD, h]
/-- Boxes whose widths are no greater than widths are. -/
def Wid (L : List S56) : Prop := ∀ x ∈ L, -1000000 ≤ x.f1 ∧ x.f1 ≤ 1000000
theorem wideS_b (x : S56) (h : -1000000 ≤ x.f1 ∧ x.f1 ≤ 1000000) : -1000000 ≤ wideS x ∧ wideS x ≤ 1000000 := by
  unfold wideS; split <;> omega
theorem widthL_b : ∀ L : List S56, Wid L → -(1000000 * (L.length : Int)) ≤ widthL L ∧ widthL L ≤ 1000000 * (L.length : Int)
  | [], _ => by simp [widthL]
  | x :: r, h => by
    have h1 := widthL_b r (fun y hy => h y (by simp [hy]))
    have h2 := wideS_b x (h x (by simp))
    have e : widthL (x :: r) = wideS x + widthL r := rfl
    have l : ((x :: r).length : Int) = (r.length : Int) + 1 := by simp
    rw [e, l]; omega
theorem width_l (L : List S56) (hW : Wid L) (hn : L.length ≤ 1000000) : ∀ f i (acc : Int), i ≤ L.length → L.length ≤ i + f → -(1000000 * (i : Int)) ≤ acc → acc ≤ 1000000 * (i : Int) →
    glyph_Width.l0 (f + 1) acc L (L.length : Int) (i : Nat) = some (acc + widthL (L.drop i))
  | f, i, acc, h1, h2, h3, h4 => by
    by_cases hlt : i < L.length
    · obtain ⟨f', rfl⟩ : ∃ f', f = f' + 1 := ⟨f - 1, by omega⟩
      have hd : L.drop i = L[i] :: L.drop (i + 1) := List.drop_eq_getElem_cons hlt
      have hb := hW _ (List.getElem_mem hlt)
      have e : widthL (L.drop i) = wideS L[i] + widthL (L.drop (i + 1)) := by rw [hd]; rfl
      rw [glyph_Width.l0, if_pos (by omega), if_pos (by omega), if_pos (by omega), rd28 L i hlt, wrap_s i L.length hlt (by omega), wrap64_in _ (by omega) (by omega), e]
      have ih1 := width_l L hW hn f' (i + 1) (acc + L[i].f1) (by omega) (by omega) (by omega) (by omega)
      have ih0 := width_l L hW hn f' (i + 1) acc (by omega) (by omega) (by omega) (by omega)
      rw [ih1, ih0]
      unfold wideS
      repeat' split
      all_goals first | (congr 1; omega) | (exfalso; omega)
    · have hd : L.drop i = [] := List.drop_eq_nil_of_le (by omega)
      rw [glyph_Width.l0, if_neg (by omega), hd]
      simp [widthL]
theorem width_f (L : List S56) (hW : Wid L) (hn : L.length ≤ 1000000) : glyph_Width.f (L.length + 1) L = some (widthL L) := by
  unfold glyph_Width.f
  have := width_l L hW hn L.length 0 0 (by omega) (by omega) (by simp) (by simp)
  rw [Int.zero_add] at this
  exact this
theorem width_calls (A : Option Addr) (c : Nat) (L : List S56) (hW : Wid L) (hn : L.length ≤ 1000000) (w : World) (hC : Kd.C k56 w A L.length L) (hc : L.length ≤ c) :
    Calls Tryd.prog 34 #[.slice A L.length c] w fun e w' => e = .returned (.int .i64 (widthL L)) ∧ Below w.heap.size w w' :=
  glyph_Width.calls _ A c L _ w hC hc (width_f L hW hn)
/-- The next stop. -/
def nextL : List S41 → Int → Int → Int → Int × Int × Bool
  | [], last, ev, at_ => if ev = 0 then (0, 0, false) else (last + ((max (at_ - last) 0) / ev + 1) * ev, 76, true)
  | t :: r, last, ev, at_ => if at_ < t.f0 then (t.f0, t.f1, true) else nextL r t.f0 ev at_
/-- What stops that are valid are. -/
def Stp (L : List S41) : Prop := ∀ t ∈ L, 0 ≤ t.f0 ∧ t.f0 ≤ 1000000
theorem okStops_stp : ∀ (L : List S41) (last : Int), -1 ≤ last → okStops last L = true → Stp L
  | [], _, _, _ => fun t h => by cases h
  | t :: r, last, h0, h => by
    have e : okStops last (t :: r) = (decide (last < t.f0) && (decide (t.f0 ≤ 1000000) && (kindT t.f1 && okStops t.f0 r))) := rfl
    rw [e] at h
    simp only [Bool.and_eq_true, decide_eq_true_eq] at h
    obtain ⟨h1, h2, h3, h4⟩ := h
    intro u hu
    rw [List.mem_cons] at hu
    rcases hu with rfl | hu
    · exact ⟨by omega, h2⟩
    · exact okStops_stp r t.f0 (by omega) h4 u hu
theorem step_bound (X ev : Int) (hx : 0 ≤ X) (hx2 : X ≤ 10000000000000) (he : 0 < ev) (he2 : ev ≤ 1000000) : 0 ≤ X / ev ∧ X / ev ≤ X ∧ 0 ≤ (X / ev + 1) * ev ∧ (X / ev + 1) * ev ≤ X + ev ∧ X < (X / ev + 1) * ev := by
  have h1 := Int.ediv_nonneg hx (Int.le_of_lt he)
  have h2 := Int.ediv_mul_le X (Int.ne_of_gt he)
  have h3 := Int.ediv_le_self ev hx
  have h4 := Int.lt_ediv_add_one_mul_self X he
  have h5 : (X / ev + 1) * ev = X / ev * ev + ev := by rw [Int.add_mul, Int.one_mul]
  rw [h5] at h4 ⊢
  have h6 := Int.mul_nonneg h1 (Int.le_of_lt he)
  exact ⟨h1, h3, by omega, by omega, h4⟩
theorem next_l (L : List S41) (ev at_ : Int) (hS : Stp L) (hn : L.length ≤ 1000000) (h0 : 0 ≤ ev) (h1 : ev ≤ 1000000) (ha0 : -1000000000000 ≤ at_) (ha1 : at_ ≤ 1000000000000) : ∀ f i (last : Int), i ≤ L.length → L.length ≤ i + f → 0 ≤ last → last ≤ 1000000 →
    tabs_next.l0 (f + 1) at_ last L (L.length : Int) (i : Nat) L ev = some (nextL (L.drop i) last ev at_)
  | f, i, last, h2, h3, h4, h5 => by
    by_cases hlt : i < L.length
    · obtain ⟨f', rfl⟩ : ∃ f', f = f' + 1 := ⟨f - 1, by omega⟩
      have hd : L.drop i = L[i] :: L.drop (i + 1) := List.drop_eq_getElem_cons hlt
      have hb := hS _ (List.getElem_mem hlt)
      rw [tabs_next.l0, if_pos (by omega), if_pos (by omega), if_pos (by omega), rd68 L i hlt, wrap_s i L.length hlt (by omega), hd]
      unfold nextL
      by_cases hg : at_ < L[i].f0
      · rw [if_pos hg, if_pos (by omega)]
      · rw [if_neg hg, if_neg (by omega)]
        exact next_l L ev at_ hS hn h0 h1 ha0 ha1 f' (i + 1) L[i].f0 (by omega) (by omega) hb.1 hb.2
    · have hd : L.drop i = [] := List.drop_eq_nil_of_le (by omega)
      rw [tabs_next.l0, if_neg (by omega), hd]
      unfold nextL
      by_cases he : ev = 0
      · rw [if_pos he, if_pos he]
      · rw [if_neg he, if_neg he]
        have hm : mx (wrap64 (at_ - last)) 0 = max (at_ - last) 0 := by
          rw [wrap64_in _ (by omega) (by omega)]
          unfold mx
          split <;> omega
        rw [hm]
        obtain ⟨X, hX⟩ : ∃ X, max (at_ - last) 0 = X := ⟨_, rfl⟩
        rw [hX]
        have hX1 : 0 ≤ X ∧ X ≤ 1000000000000 := by omega
        obtain ⟨b1, b2, b3, b4, _⟩ := step_bound X ev hX1.1 (by omega) (by omega) h1
        clear hX hm
        obtain ⟨q, hq⟩ : ∃ q, X / ev = q := ⟨_, rfl⟩
        rw [hq] at b1 b2 b3 b4 ⊢
        clear hq
        rw [wrap64_in q (by omega) (by omega), wrap64_in (q + 1) (by omega) (by omega)]
        obtain ⟨p, hp⟩ : ∃ p, (q + 1) * ev = p := ⟨_, rfl⟩
        rw [hp] at b3 b4 ⊢
        rw [wrap64_in p (by omega) (by omega), wrap64_in _ (by omega) (by omega)]
theorem next_f (L : List S41) (ev at_ : Int) (hS : Stp L) (hn : L.length ≤ 1000000) (h0 : 0 ≤ ev) (h1 : ev ≤ 1000000) (ha0 : -1000000000000 ≤ at_) (ha1 : at_ ≤ 1000000000000) : tabs_next.f (L.length + 1) L ev at_ = some (nextL L 0 ev at_) := by
  unfold tabs_next.f
  exact next_l L ev at_ hS hn h0 h1 ha0 ha1 L.length 0 0 (by omega) (by omega) (by omega) (by omega)
theorem next_calls (A : Option Addr) (c : Nat) (L : List S41) (ev at_ : Int) (hS : Stp L) (hn : L.length ≤ 1000000) (h0 : 0 ≤ ev) (h1 : ev ≤ 1000000) (ha0 : -1000000000000 ≤ at_) (ha1 : at_ ≤ 1000000000000) (w : World) (hC : Kd.C k41 w A L.length L) (hc : L.length ≤ c) :
    Calls Tryd.prog 21 #[.agg #[.slice A L.length c, .int .i64 ev], .int .i64 at_] w fun e w' => e = .returned (.tuple #[.agg #[.int .i64 (nextL L 0 ev at_).1, .int .u8 (nextL L 0 ev at_).2.1], .bool (nextL L 0 ev at_).2.2]) ∧ Below w.heap.size w w' :=
  tabs_next.calls _ A c L ev at_ _ _ _ w hC hc (next_f L ev at_ hS hn h0 h1 ha0 ha1)
theorem next_bound (L : List S41) (ev at_ : Int) (hS : Stp L) (h0 : 0 ≤ ev) (h1 : ev ≤ 1000000) (ha0 : -1000000000000 ≤ at_) (ha1 : at_ ≤ 1000000000000) : ∀ last, 0 ≤ last → last ≤ 1000000 → 0 ≤ (nextL L last ev at_).1 ∧ (nextL L last ev at_).1 ≤ (max at_ 1000000) + 1000000 := by
  induction L with
  | nil =>
    intro last h2 h3
    unfold nextL
    by_cases he : ev = 0
    · rw [if_pos he]; simp only; omega
    · rw [if_neg he]
      simp only
      obtain ⟨X, hX⟩ : ∃ X, max (at_ - last) 0 = X := ⟨_, rfl⟩
      rw [hX]
      have hX1 : 0 ≤ X ∧ X ≤ 1000000000000 ∧ last + X ≤ max at_ 1000000 := by omega
      obtain ⟨b1, b2, b3, b4, _⟩ := step_bound X ev hX1.1 (by omega) (by omega) h1
      omega
  | cons t r ih =>
    intro last h2 h3
    have hb := hS t (by simp)
    unfold nextL
    by_cases hg : at_ < t.f0
    · rw [if_pos hg]; simp only; omega
    · rw [if_neg hg]
      exact ih (fun u hu => hS u (by simp [hu])) t.f0 hb.1 hb.2
/-- Half of a width, rounded down. -/
theorem half_f (n : Int) (h0 : -1000000000000 ≤ n) (h1 : n ≤ 1000000000000) : tabs_half.f n = some (n / 2) := by
  unfold tabs_half.f
  have e : Go.bits .and .i64 n 1 = n % 2 := by
    have h127 : (BitVec.ofInt 64 1).toNat = 2 ^ 1 - 1 := by decide
    have key : (BitVec.ofInt 64 n &&& BitVec.ofInt 64 1).toNat = (n % ((2 ^ 64 : Nat) : Int)).toNat % 2 ^ 1 := by
      rw [BitVec.toNat_and, BitVec.toNat_ofInt, h127, Nat.and_two_pow_sub_one_eq_mod]
    show IntKind.i64.wrap ((BitVec.ofInt 64 n &&& BitVec.ofInt 64 1).toNat : Nat) = n % 2
    rw [key, IntKind.wrap_i64]
    omega
  rw [e, wrap64_in (n - n % 2) (by omega) (by omega)]
  have e2 : (n - n % 2).tdiv 2 = n / 2 := by
    have : n - n % 2 = 2 * (n / 2) := by omega
    rw [this, Int.mul_comm, Int.mul_tdiv_cancel _ (by omega)]
  rw [e2, wrap64_in _ (by omega) (by omega)]
theorem half_calls (n : Int) (h0 : -1000000000000 ≤ n) (h1 : n ≤ 1000000000000) (w : World) : Calls Tryd.prog 35 #[.int .i64 n] w fun e w' => e = .returned (.int .i64 (n / 2)) ∧ Below w.heap.size w w' :=
  (tabs_half.calls n _ w (half_f n h0 h1)).mono fun e w' ⟨h, hd⟩ => ⟨h, hd.below⟩
end Go.Proofs.YtmmfojaeahcohaaDoor

set_option linter.unusedVariables false
set_option linter.unusedSimpArgs false
namespace Go.Proofs.YtmmfojaeahcohaaDoor
open Go.Shelf Go.RowKit Go.Lib Go.Aids Go.Opens Go.Proofs.YtmmfojaeahcohaaDoorW.PrintWords Go.Proofs.YtmmfojaeahcohaaDoorW.PrintMore Go.Proofs.YtmmfojaeahcohaaDoor.PTabsNext

theorem wrapI (n : Int) (h0 : -9223372036854775808 ≤ n) (h1 : n ≤ 9223372036854775807) : wrap64 n = n := by unfold wrap64; omega
theorem wrapS (a n : Nat) (h : a < n) (hn : n ≤ 9223372036854775807) : wrap64 ((a : Int) + 1) = ((a + 1 : Nat) : Int) := by rw [wrapI _ (by omega) (by omega)]; rfl
def cv (x : S41) : S44 := ⟨x.f0, x.f1⟩
theorem cv0 (x : S41) : (cv x).f0 = x.f0 := rfl
theorem cv1 (x : S41) : (cv x).f1 = x.f1 := rfl
theorem beqI (a b : Int) : (a == b) = decide (a = b) := by by_cases h : a = b <;> simp [h]
theorem rd84 (L : List S41) (a : Nat) (h : a < L.length) : rd_T44 (L.map cv) (a : Int) = cv L[a] := by
  simp [rd_T44, h]
theorem rtv_l (L : List S41) (ev : Int) (hL : L.length ≤ 9223372036854775807) : ∀ f i (last : Int), L.length ≤ i + f → ((i = 0 ∧ last = -1) ∨ (∃ h : i - 1 < L.length, 0 < i ∧ last = L[i - 1].f0 ∧ 0 ≤ last)) →
    frisketref12_Valid.l0 (f + 1) (i : Nat) (L.map cv) ev = some (okStops last (L.drop i) && (decide (L.length ≤ 40) && (decide (0 ≤ ev) && decide (ev ≤ 1000000))))
  | f, i, last, h, hlast => by
    rw [frisketref12_Valid.l0]
    simp only [List.length_map]
    by_cases hlt : i < L.length
    · obtain ⟨f', rfl⟩ : ∃ f', f = f' + 1 := ⟨f - 1, by omega⟩
      have hd : L.drop i = L[i] :: L.drop (i + 1) := List.drop_eq_getElem_cons hlt
      have ih : 0 ≤ L[i].f0 → frisketref12_Valid.l0 (f' + 1) ((i + 1 : Nat) : Int) (L.map cv) ev = some (okStops L[i].f0 (L.drop (i + 1)) && (decide (L.length ≤ 40) && (decide (0 ≤ ev) && decide (ev ≤ 1000000)))) := fun h0 =>
        rtv_l L ev hL f' (i + 1) L[i].f0 (by omega) (.inr ⟨by omega, by omega, rfl, h0⟩)
      rw [if_pos (by omega), if_pos (by omega), rd84 L i hlt, hd]
      obtain ⟨t, ht⟩ : ∃ t, L[i] = t := ⟨_, rfl⟩
      rw [ht] at ih ⊢
      have e : okStops last (t :: L.drop (i + 1)) = (decide (last < t.f0) && (decide (t.f0 ≤ 1000000) && (kindT t.f1 && okStops t.f0 (L.drop (i + 1))))) := rfl
      rw [e, cv0, cv1]
      by_cases h0 : t.f0 < 0
      · rw [if_pos h0, decide_eq_false (by rcases hlast with ⟨_, h⟩ | ⟨_, _, _, h⟩ <;> omega)]; rfl
      · rw [if_neg h0]
        have ih := ih (by omega)
        by_cases h1 : t.f0 > 1000000
        · rw [if_pos h1, decide_eq_false (by omega : ¬ t.f0 ≤ 1000000)]; simp
        · rw [if_neg h1, decide_eq_true (by omega : t.f0 ≤ 1000000), wrapS i L.length hlt hL, ih]
          have tail : (if (i : Int) > 0 then (if 0 ≤ (wrap64 ((i : Int) - 1)) then (if (wrap64 ((i : Int) - 1)) < (L.length : Int) then (if ((rd_T44 (L.map cv) (wrap64 ((i : Int) - 1))).f0) ≥ t.f0 then (some false) else some (okStops t.f0 (L.drop (i + 1)) && (decide (L.length ≤ 40) && (decide (0 ≤ ev) && decide (ev ≤ 1000000))))) else (none)) else (none)) else some (okStops t.f0 (L.drop (i + 1)) && (decide (L.length ≤ 40) && (decide (0 ≤ ev) && decide (ev ≤ 1000000))))) = some (decide (last < t.f0) && (okStops t.f0 (L.drop (i + 1)) && (decide (L.length ≤ 40) && (decide (0 ≤ ev) && decide (ev ≤ 1000000))))) := by
            rcases hlast with ⟨h2, h3⟩ | ⟨h2, h3, h4, h5⟩
            · rw [if_neg (by omega), decide_eq_true (by omega : last < t.f0)]; rfl
            · have ew : wrap64 ((i : Int) - 1) = ((i - 1 : Nat) : Int) := by rw [wrapI _ (by omega) (by omega)]; omega
              rw [if_pos (by omega), ew, if_pos (by omega), if_pos (by omega), rd84 L (i - 1) h2, cv0, ← h4]
              by_cases h6 : last < t.f0
              · rw [if_neg (by omega), decide_eq_true h6]; rfl
              · rw [if_pos (by omega), decide_eq_false h6]; rfl
          rw [tail]
          unfold kindT
          by_cases k1 : t.f1 = 76
          · rw [if_pos k1, decide_eq_true k1]
            cases decide (last < t.f0) <;> simp
          · rw [if_neg k1, decide_eq_false k1]
            by_cases k2 : t.f1 = 82
            · rw [if_pos k2, decide_eq_true k2]
              cases decide (last < t.f0) <;> simp
            · rw [if_neg k2, decide_eq_false k2]
              by_cases k3 : t.f1 = 67
              · rw [if_pos k3, decide_eq_true k3]
                cases decide (last < t.f0) <;> simp
              · rw [if_neg k3, decide_eq_false k3]
                simp
    · have hd : L.drop i = [] := List.drop_eq_nil_of_le (by omega)
      rw [if_neg (by omega), hd]
      show _ = some (true && _)
      by_cases h1 : L.length ≤ 40
      · rw [if_pos (by omega), decide_eq_true h1]
        by_cases h2 : 0 ≤ ev
        · rw [if_pos h2, decide_eq_true h2]; rfl
        · rw [if_neg (by omega), decide_eq_false h2]; rfl
      · rw [if_neg (by omega), decide_eq_false h1]; rfl
theorem rtv_f (L : List S41) (ev : Int) (hL : L.length ≤ 9223372036854775807) (k : Nat) (hk : L.length + 1 ≤ k) : frisketref12_Valid.f k (L.map cv) ev = some (tvalidB L ev) := by
  obtain ⟨g, rfl⟩ : ∃ g, k = g + 1 := ⟨k - 1, by omega⟩
  exact rtv_l L ev hL g 0 (-1) (by omega) (.inl ⟨rfl, rfl⟩)
theorem rnext_l (L : List S41) (ev at_ : Int) (hS : Stp L) (hn : L.length ≤ 1000000) (h0 : 0 ≤ ev) (h1 : ev ≤ 1000000) (ha0 : -1000000000000 ≤ at_) (ha1 : at_ ≤ 1000000000000) : ∀ f i (last : Int), i ≤ L.length → L.length ≤ i + f → 0 ≤ last → last ≤ 1000000 →
    frisketref12_Next.l0 (f + 1) at_ last (i : Nat) (L.map cv) ev = some (nextL (L.drop i) last ev at_)
  | f, i, last, h2, h3, h4, h5 => by
    rw [frisketref12_Next.l0]
    simp only [List.length_map]
    by_cases hlt : i < L.length
    · obtain ⟨f', rfl⟩ : ∃ f', f = f' + 1 := ⟨f - 1, by omega⟩
      have hd : L.drop i = L[i] :: L.drop (i + 1) := List.drop_eq_getElem_cons hlt
      have hb := hS _ (List.getElem_mem hlt)
      rw [if_pos (by omega), if_pos (by omega), rd84 L i hlt, wrapS i L.length hlt (by omega), hd]
      unfold nextL
      rw [cv0, cv1]
      by_cases hg : at_ < L[i].f0
      · rw [if_pos hg, if_pos (by omega)]
      · rw [if_neg hg, if_neg (by omega)]
        exact rnext_l L ev at_ hS hn h0 h1 ha0 ha1 f' (i + 1) L[i].f0 (by omega) (by omega) hb.1 hb.2
    · have hd : L.drop i = [] := List.drop_eq_nil_of_le (by omega)
      rw [if_neg (by omega), hd]
      unfold nextL
      by_cases he : ev = 0
      · rw [if_pos he, if_pos he]
      · rw [if_neg he, if_neg he]
        by_cases hg : at_ ≥ last
        · rw [if_pos hg]
          have hm : max (at_ - last) 0 = at_ - last := by omega
          rw [hm]
          obtain ⟨X, hX⟩ : ∃ X, at_ - last = X := ⟨_, rfl⟩
          rw [hX]
          have hX1 : 0 ≤ X ∧ X ≤ 1000000000000 := by omega
          rw [wrapI X (by omega) (by omega), Int.tdiv_eq_ediv_of_nonneg hX1.1]
          obtain ⟨b1, b2, b3, b4, _⟩ := step_bound X ev hX1.1 (by omega) (by omega) h1
          clear hX hm
          obtain ⟨q, hq⟩ : ∃ q, X / ev = q := ⟨_, rfl⟩
          rw [hq] at b1 b2 b3 b4 ⊢
          clear hq
          rw [wrapI q (by omega) (by omega), wrapI (q + 1) (by omega) (by omega)]
          obtain ⟨p, hp⟩ : ∃ p, (q + 1) * ev = p := ⟨_, rfl⟩
          rw [hp] at b3 b4 ⊢
          rw [wrapI p (by omega) (by omega), wrapI _ (by omega) (by omega)]
        · rw [if_neg hg]
          have hm : max (at_ - last) 0 = 0 := by omega
          rw [hm, Int.zero_ediv, wrapI (1 * ev) (by omega) (by omega), wrapI _ (by omega) (by omega)]
          rfl
theorem rnext_f (L : List S41) (ev at_ : Int) (hok : tvalidB L ev = true) (ha0 : -1000000000000 ≤ at_) (ha1 : at_ ≤ 1000000000000) : frisketref12_Next.f (L.length + 1) (L.map cv) ev at_ = some (nextL L 0 ev at_) := by
  have h := hok
  unfold tvalidB at h
  simp only [Bool.and_eq_true, decide_eq_true_eq] at h
  obtain ⟨h1, h2, h3, h4⟩ := h
  unfold frisketref12_Next.f
  rw [rtv_f L ev (by omega) _ (Nat.le_refl _), Option.bind_some, if_pos hok]
  exact rnext_l L ev at_ (okStops_stp L (-1) (by omega) h1) (by omega) h3 h4 ha0 ha1 L.length 0 0 (by omega) (by omega) (by omega) (by omega)
theorem rAs_l (L : List S41) (ev : Int) (hL : L.length ≤ 8000000000000) : ∀ f i, i ≤ L.length → L.length ≤ i + f → frisketlaw12_As.l0 (f + 1) (i : Nat) L ev ((L.take i).map cv) ev = some (L.map cv, ev)
  | f, i, h0, h => by
    rw [frisketlaw12_As.l0]
    by_cases hlt : i < L.length
    · obtain ⟨f', rfl⟩ : ∃ f', f = f' + 1 := ⟨f - 1, by omega⟩
      rw [if_pos (by omega), if_pos (by omega), if_pos (by simp; omega), rd68 L i hlt, wrapS i L.length hlt (by omega)]
      have e : (L.take i).map cv ++ [(⟨L[i].f0, L[i].f1⟩ : S44)] = (L.take (i + 1)).map cv := by
        rw [List.take_succ_eq_append_getElem hlt, List.map_append]; rfl
      rw [e]
      exact rAs_l L ev hL f' (i + 1) (by omega) (by omega)
    · rw [if_neg (by omega), List.take_of_length_le (by omega)]
theorem rAs_f (L : List S41) (ev : Int) (hL : L.length ≤ 8000000000000) : frisketlaw12_As.f (L.length + 1) L ev = some (L.map cv, ev) := by
  exact rAs_l L ev hL L.length 0 (by omega) (by omega)
theorem as_calls (A : Option Addr) (c : Nat) (L : List S41) (ev : Int) (hL : L.length ≤ 8000000000000) (w : World) (hC : Kd.C k41 w A L.length L) (hc : L.length ≤ c) :
    Calls Tryd.prog 9 #[.agg #[.slice A L.length c, .int .i64 ev]] w fun e w' => ∃ B d, e = .returned (.agg #[.slice B (L.map cv).length d, .int .i64 ev]) ∧ (L.map cv).length ≤ d ∧ Kd.C k44 w' B (L.map cv).length (L.map cv) ∧ Below w.heap.size w w' := by
  refine (frisketlaw12_As.calls _ A c L ev _ _ w hC hc (rAs_f L ev hL)).mono ?_
  rintro e w' ⟨v, rfl, hR, hb⟩
  obtain ⟨B, d, rfl, hd, hC'⟩ := Kd.R_reads hR
  exact ⟨B, d, rfl, hd, hC', hb⟩
theorem as2_calls (A : Option Addr) (c : Nat) (L : List S41) (ev : Int) (hL : L.length ≤ 8000000000000) (w : World) (hC : Kd.C k41 w A L.length L) (hc : L.length ≤ c) :
    Calls Tryd.prog 9 #[.agg #[.slice A L.length c, .int .i64 ev]] w fun e w' => ∃ B d, e = .returned (.agg #[.slice B L.length d, .int .i64 ev]) ∧ L.length ≤ d ∧ Kd.C k44 w' B L.length (L.map cv) ∧ Below w.heap.size w w' := by
  have h := as_calls A c L ev hL w hC hc
  simp only [List.length_map] at h
  exact h
theorem rvalid_calls (A : Option Addr) (c : Nat) (L : List S41) (ev : Int) (w : World) (hC : Kd.C k44 w A L.length (L.map cv)) (hc : L.length ≤ c) :
    Calls Tryd.prog 8 #[.agg #[.slice A L.length c, .int .i64 ev]] w fun e w' => e = .returned (.bool (tvalidB L ev)) ∧ Below w.heap.size w w' := by
  have h1 : (L.map cv).length = L.length := List.length_map ..
  have h := frisketref12_Valid.calls (L.length + 1) A c (L.map cv) ev (tvalidB L ev) w (by rw [h1]; exact hC) (by rw [h1]; exact hc) (rtv_f L ev hC.2.1 _ (Nat.le_refl _))
  rw [h1] at h
  exact h
theorem rnext_calls (A : Option Addr) (c : Nat) (L : List S41) (ev at_ : Int) (hok : tvalidB L ev = true) (ha0 : -1000000000000 ≤ at_) (ha1 : at_ ≤ 1000000000000) (w : World) (hC : Kd.C k44 w A L.length (L.map cv)) (hc : L.length ≤ c) :
    Calls Tryd.prog 13 #[.agg #[.slice A L.length c, .int .i64 ev], .int .i64 at_] w fun e w' => e = .returned (.tuple #[.agg #[.int .i64 (nextL L 0 ev at_).1, .int .u8 (nextL L 0 ev at_).2.1], .bool (nextL L 0 ev at_).2.2]) ∧ Below w.heap.size w w' := by
  have h1 : (L.map cv).length = L.length := List.length_map ..
  have h := frisketref12_Next.calls (L.length + 1) A c (L.map cv) ev at_ _ _ _ w (by rw [h1]; exact hC) (by rw [h1]; exact hc) (rnext_f L ev at_ hok ha0 ha1)
  rw [h1] at h
  exact h
end Go.Proofs.YtmmfojaeahcohaaDoor

set_option linter.unusedVariables false
set_option linter.unusedSimpArgs false
namespace Go.Proofs.YtmmfojaeahcohaaDoor
open Go.Shelf Go.RowKit Go.Lib Go.Aids Go.Proofs.YtmmfojaeahcohaaDoorW.PrintWords Go.Proofs.YtmmfojaeahcohaaDoor.PTabsNext

theorem wrap64_inB (n : Int) (h0 : -9223372036854775808 ≤ n) (h1 : n ≤ 9223372036854775807) : wrap64 n = n := by unfold wrap64; omega
/-- One byte. -/
def one (b : Nat) : ByteArray := ⟨#[UInt8.ofNat b]⟩
/-- A number's digits. -/
def digs (n : Nat) : ByteArray := if h : n < 10 then one (48 + n) else digs (n / 10) ++ one (48 + n % 10)
termination_by n
decreasing_by omega
theorem ba_assoc (a b c : ByteArray) : a ++ b ++ c = a ++ (b ++ c) := ByteArray.append_assoc
theorem ba_nil (a : ByteArray) : (⟨#[]⟩ : ByteArray) ++ a = a := ByteArray.empty_append
theorem num_one (n : Nat) (h : n < 10) : strOfNums ([wrap64 (48 + ((n : Int))) % 256] : List Int) = one (48 + n) := by
  rw [wrap64_inB _ (by omega) (by omega)]
  have : n = 0 ∨ n = 1 ∨ n = 2 ∨ n = 3 ∨ n = 4 ∨ n = 5 ∨ n = 6 ∨ n = 7 ∨ n = 8 ∨ n = 9 := by omega
  rcases this with rfl | rfl | rfl | rfl | rfl | rfl | rfl | rfl | rfl | rfl <;> rfl
theorem one_size (n : Nat) : (one n).size = 1 := rfl
theorem digs_split (n : Nat) (h : ¬ n < 10) : digs n = digs (n / 10) ++ one (48 + n % 10) := by rw [digs, dif_neg h]
theorem digs_low (n : Nat) : digs n = (if n < 10 then ⟨#[]⟩ else digs (n / 10)) ++ one (48 + n % 10) := by
  by_cases h : n < 10
  · rw [digs, dif_pos h, if_pos h, ba_nil, Nat.mod_eq_of_lt h]
  · rw [digs, dif_neg h, if_neg h]
theorem digs_size (n : Nat) (h : n < 10000000) : (digs n).size ≤ 7 := by
  have h1 : ∀ m, m < 10 → (digs m).size ≤ 1 := fun m hm => by rw [digs, dif_pos hm]; exact Nat.le_refl _
  have step : ∀ m k, (digs (m / 10)).size ≤ k → (digs m).size ≤ k + 1 := by
    intro m k hk
    rw [digs]
    split
    · rw [one_size]; omega
    · rw [ByteArray.size_append, one_size]; omega
  exact step _ 6 (step _ 5 (step _ 4 (step _ 3 (step _ 2 (step _ 1 (h1 _ (by omega)))))))
theorem l0_digs : ∀ (k n : Nat) (x : ByteArray), n < 10000000 → n ≤ 10 * k + 9 → x.size + n ≤ 1000000000000000 → frisketref01_Digits.l0 (k + 1) n x = some ((if n < 10 then ⟨#[]⟩ else digs (n / 10)) ++ x) := by
  intro k
  induction k with
  | zero =>
    intro n x hn hk hx
    rw [frisketref01_Digits.l0]
    rw [if_neg (by omega), if_pos (by omega), ba_nil]
  | succ k ih =>
    intro n x hn hk hx
    rw [frisketref01_Digits.l0]
    by_cases h : n < 10
    · rw [if_neg (by omega), if_pos h, ba_nil]
    · rw [if_pos (by omega), if_neg h, Option.bind_some]
      have e1 : wrap64 (Int.tdiv (n : Int) 10) = ((n / 10 : Nat) : Int) := by rw [Int.tdiv_eq_ediv_of_nonneg (by omega), wrap64_inB _ (by omega) (by omega)]; omega
      have e2 : Int.tmod ((n / 10 : Nat) : Int) 10 = ((n / 10 % 10 : Nat) : Int) := by rw [Int.tmod_eq_emod_of_nonneg (by omega)]; omega
      rw [e1, e2, num_one _ (by omega)]
      have hsz : (one (48 + n / 10 % 10) ++ x).size = 1 + x.size := by rw [ByteArray.size_append, one_size]
      rw [if_pos (by rw [one_size]; omega), ih (n / 10) _ (by omega) (by omega) (by rw [hsz]; omega), digs_low (n / 10), ba_assoc]
theorem digits_f (n : Nat) (hn : n < 10000000) (k : Nat) (hk : n ≤ 10 * k + 9) : frisketref01_Digits.f (k + 1) n = some (digs n) := by
  unfold frisketref01_Digits.f
  have e2 : Int.tmod (n : Int) 10 = ((n % 10 : Nat) : Int) := by rw [Int.tmod_eq_emod_of_nonneg (by omega)]; omega
  rw [e2, num_one _ (by omega), l0_digs k n _ hn hk (by rw [one_size]; omega), ← digs_low]
theorem digs_dec : ∀ k n, n ≤ k → digs n = ⟨(Lib.decDigits n).toArray⟩
  | 0, n, h => by
    obtain rfl : n = 0 := by omega
    rw [digs, Lib.decDigits]; rfl
  | k + 1, n, h => by
    by_cases hn : n < 10
    · rw [digs, Lib.decDigits, dif_pos hn, dif_pos hn]; rfl
    · rw [digs, Lib.decDigits, dif_neg hn, dif_neg hn, digs_dec k (n / 10) (by omega)]
      apply ByteArray.ext
      simp [ByteArray.data_append, one]
abbrev Tab (w : World) : Prop := Lib.TabIs Tryd.prog w "internal/strconv.uint64pow10" .u64 Lib.pow10Tab
theorem itoa_calls (n : Nat) (hn : n ≤ 9223372036854775807) (w : World) (ht : Tab w) : Calls Tryd.prog 18 #[.int .i64 n] w fun e w' => e = .returned (.string (digs n)) ∧ Below w.heap.size w w' := by
  refine (Tryd.strconv_Itoa n (by omega) (by omega) w ht).mono ?_
  rintro e w' ⟨rfl, k, os, rfl⟩
  refine ⟨?_, Lib.below_grow _ w (Nat.le_refl _) k os⟩
  have e1 : Lib.itoa (n : Int) = Lib.decDigits n := by unfold Lib.itoa; rw [if_neg (by omega)]; rfl
  rw [e1, digs_dec n n (Nat.le_refl _)]
/-- What is written. -/
def itemL (t : S41) : ByteArray := digs t.f0.toNat ++ ⟨#[117]⟩ ++ ⟨#[t.f1.toNat.toUInt8]⟩
def bytes (l : List UInt8) : ByteArray := ⟨l.toArray⟩
theorem bytes_app (a b : List UInt8) : bytes (a ++ b) = bytes a ++ bytes b := by
  unfold bytes
  apply ByteArray.ext
  simp [ByteArray.data_append]
theorem bytes_of (s : ByteArray) : bytes s.data.toList = s := rfl
def wordsI (L : List S41) : List ByteArray := L.map itemL
def wordsE (ev : Int) : List ByteArray := if ev > 0 then [⟨#[84]⟩, digs ev.toNat ++ ⟨#[117]⟩] else []
def joinB (l : List ByteArray) : ByteArray := bytes (Lib.join (l.map (·.data.toList)) [32])
def textS (L : List S41) (ev : Int) : ByteArray := joinB (wordsI L ++ wordsE ev)
theorem join_snoc (P : List (List UInt8)) (h : P ≠ []) (x sep : List UInt8) : Lib.join (P ++ [x]) sep = Lib.join P sep ++ (sep ++ x) := by
  cases P with
  | nil => exact absurd rfl h
  | cons a r =>
    rw [List.cons_append, Lib.join_cons, Lib.join_cons, List.append_assoc]
    congr 1
    unfold Lib.joinTail
    simp
theorem joinB_nil : joinB [] = ⟨#[]⟩ := rfl
theorem joinB_one (x : ByteArray) : joinB [x] = x := by
  unfold joinB
  rw [List.map_singleton, Lib.join_one, bytes_of]
theorem joinB_snoc (P : List ByteArray) (h : P ≠ []) (x : ByteArray) : joinB (P ++ [x]) = joinB P ++ ⟨#[32]⟩ ++ x := by
  unfold joinB
  rw [List.map_append, List.map_singleton, join_snoc _ (by simpa using h), bytes_app, bytes_app, bytes_of, ba_assoc]
  rfl
theorem text_none (L : List S41) (ev : Int) (h : ¬ ev > 0) : textS L ev = joinB (wordsI L) := by
  unfold textS wordsE
  rw [if_neg h, List.append_nil]
theorem text_every (ev : Int) (h : ev > 0) : textS [] ev = ⟨#[84, 32]⟩ ++ digs ev.toNat ++ ⟨#[117]⟩ := by
  unfold textS wordsE wordsI
  rw [if_pos h, List.map_nil, List.nil_append, show [(⟨#[84]⟩ : ByteArray), digs ev.toNat ++ ⟨#[117]⟩] = [⟨#[84]⟩] ++ [digs ev.toNat ++ ⟨#[117]⟩] from rfl, joinB_snoc _ (by simp), joinB_one, show (⟨#[84, 32]⟩ : ByteArray) = ⟨#[84]⟩ ++ ⟨#[32]⟩ from rfl]
  simp only [ba_assoc]
theorem text_full (L : List S41) (ev : Int) (hL : L ≠ []) (h : ev > 0) : textS L ev = joinB (wordsI L) ++ ⟨#[32]⟩ ++ (⟨#[84, 32]⟩ ++ digs ev.toNat ++ ⟨#[117]⟩) := by
  unfold textS wordsE
  have hw : wordsI L ≠ [] := by unfold wordsI; simpa using hL
  rw [if_pos h, show wordsI L ++ [(⟨#[84]⟩ : ByteArray), digs ev.toNat ++ ⟨#[117]⟩] = (wordsI L ++ [⟨#[84]⟩]) ++ [digs ev.toNat ++ ⟨#[117]⟩] by rw [List.append_assoc]; rfl, joinB_snoc _ (by simp), joinB_snoc _ hw]
  rw [show (⟨#[84, 32]⟩ : ByteArray) = ⟨#[84]⟩ ++ ⟨#[32]⟩ from rfl]
  simp only [ba_assoc]
theorem words_take (L : List S41) (i : Nat) (h : i < L.length) : wordsI (L.take (i + 1)) = wordsI (L.take i) ++ [itemL L[i]] := by
  unfold wordsI
  rw [List.take_succ_eq_append_getElem h, List.map_append, List.map_singleton]
theorem item_size (t : S41) (h1 : t.f0 ≤ 1000000) : (itemL t).size ≤ 9 := by
  unfold itemL
  have := digs_size t.f0.toNat (by omega)
  simp only [ByteArray.size_append, show (ByteArray.mk #[117]).size = 1 from rfl, show (ByteArray.mk #[t.f1.toNat.toUInt8]).size = 1 from rfl]
  omega
theorem text_size (L : List S41) (h : ∀ t ∈ L, t.f0 ≤ 1000000) : ∀ i, i ≤ L.length → (joinB (wordsI (L.take i))).size ≤ 10 * i
  | 0, _ => by rw [List.take_zero]; exact Nat.le_refl 0
  | i + 1, hi => by
    have h1 := text_size L h i (by omega)
    rw [words_take L i (by omega)]
    have h2 := item_size L[i] (h _ (List.getElem_mem _))
    by_cases h0 : wordsI (L.take i) = []
    · rw [h0, List.nil_append, joinB_one]; omega
    · rw [joinB_snoc _ h0]
      simp only [ByteArray.size_append, show (ByteArray.mk #[32]).size = 1 from rfl]
      omega
end Go.Proofs.YtmmfojaeahcohaaDoor

set_option linter.unusedVariables false
set_option linter.unusedSimpArgs false
namespace Go.Proofs.YtmmfojaeahcohaaDoor
open Go.Shelf Go.RowKit Go.Lib Go.Aids Go.Opens Go.Proofs.YtmmfojaeahcohaaDoorW.PrintWords Go.Proofs.YtmmfojaeahcohaaDoor.PTabsNext

theorem gPow : Tryd.prog.globalNamed "internal/strconv.uint64pow10" = some 1 := by kernel_rfl
theorem Tab.below {w w' : World} (h : Tab w) (hb : Below w.heap.size w w') : Tab w' := _root_.Go.Joins.tab_stays gPow h hb (Nat.le_refl _)
theorem info9w : (Tryd.prog.info? 9).map (fun i => (i.zero, i.size, i.bytes)) = some (some (.string ⟨#[]⟩), 1, 16) := by kernel_rfl
theorem step_word {ops : Array Oper} {o : Oper} {a : Act} {W : World} {K : Act → World → Prop} {Q : Exit → Act → World → Prop} {E : Prop} (hgd : o.guard = none) (s x : Operand)
    (ho : o.op = .call { callee := .builtin .append, args := #[s, x], argTypes := #[48, 48] }) (base n : Nat) (v : Value) (xs : List ByteArray) (hs : a.eval s = v) (HO : W.ownsRow base 9 1 v n (xs.map Value.string)) (g : Nat) (hx : a.eval x = .slice (some ⟨g, 0, none⟩) 1 1)
    (y : ByteArray) (HY : W.heap[g]? = some (.cells #[.string y] 9 (0, 0))) (HB : base ≤ W.heap.size) (hsmall : n ≤ 1000)
    (h : ∀ v1 w1, w1.ownsRow base 9 1 v1 (n + 1) ((xs ++ [y]).map Value.string) → W.grownBy w1 v.ownBlock → K (a.put o.dst v1) w1) :
    if Region.wanted o (yielded ops a.tmps) = true then Oper.wp Tryd.prog o a W K Q else E := by
  have hw : Region.wanted o (yielded ops a.tmps) = true := by simp [Region.wanted, hgd]
  rw [if_pos hw]
  obtain ⟨i0, hi, hz0, hz1, hz2⟩ := info_parts info9w
  obtain ⟨v1, w1, hr, hown, hg, _⟩ := run_append_own_at (P := Tryd.prog) W base 48 o.type 9 i0 (.string ⟨#[]⟩) 1 16 Tryd.underlying48 hi hz0 hz1 hz2 rfl (by decide) v n (xs.map Value.string) HO ⟨g, 0, none⟩ 1 1 [.string y] rfl (World.news_of_block HY) (by simp [Value.oneCell']) (by unfold maxLen; omega) (by omega) HB
  unfold Oper.wp
  simp [execOp, ho, resolve, invoke, builtin, hs, hx, hr, Result.andThen]
  exact h v1 w1 (by simpa using hown) hg
theorem wpList_words {ops : Array Oper} {rest : List Oper} {o : Oper} {a : Act} {W : World} {Q : Exit → Act → World → Prop} (hgd : o.guard = none) (s x : Operand)
    (ho : o.op = .call { callee := .builtin .append, args := #[s, x], argTypes := #[48, 48] }) (base n : Nat) (v : Value) (xs : List ByteArray) (hs : a.eval s = v) (HO : W.ownsRow base 9 1 v n (xs.map Value.string)) (g : Nat) (hx : a.eval x = .slice (some ⟨g, 0, none⟩) 2 2)
    (y z : ByteArray) (HY : W.heap[g]? = some (.cells #[.string y, .string z] 9 (0, 0))) (HB : base ≤ W.heap.size) (hsmall : n ≤ 1000)
    (h : ∀ v1 w1, w1.ownsRow base 9 1 v1 (n + 2) ((xs ++ [y, z]).map Value.string) → W.grownBy w1 v.ownBlock → wpList Tryd.prog ops Q rest (a.put o.dst v1) w1) : wpList Tryd.prog ops Q (o :: rest) a W := by
  obtain ⟨i0, hi, hz0, hz1, hz2⟩ := info_parts info9w
  refine wpList_append_lies W hgd s x 48 ho base 9 i0 (.string ⟨#[]⟩) 1 16 Tryd.underlying48 hi hz0 hz1 hz2 rfl (by decide) v n (xs.map Value.string) hs HO ⟨g, 0, none⟩ 2 2 [.string y, .string z] hx rfl (World.news_of_block HY) (by simp [Value.oneCell']) (by decide) (by unfold maxLen; omega) (by omega) HB _ rfl ?_
  intro g1 cap w' h1 h2 _ _
  exact h _ w' (by simpa using h1) h2
theorem row_keep {W W' : World} {base : Nat} {v : Value} {n : Nat} {xs : List Value} (h : W.ownsRow base 9 1 v n xs) (hb : Below W.heap.size W W') : W'.ownsRow base 9 1 v n xs := by
  refine ⟨h.1, ?_⟩
  rcases h.2 with h2 | ⟨g, cap, cur, e, h3, h4, h5⟩
  · exact .inl h2
  · exact .inr ⟨g, cap, cur, e, h3, (hb.block g (Array.getElem?_eq_some_iff.1 h4).1).trans h4, h5⟩
end Go.Proofs.YtmmfojaeahcohaaDoor

set_option linter.unusedVariables false
set_option linter.unusedSimpArgs false
namespace Go.Proofs.YtmmfojaeahcohaaDoor
open Go.Shelf Go.RowKit Go.Lib Go.Aids Go.Opens Go.Proofs.YtmmfojaeahcohaaDoorW.PrintWords Go.Proofs.YtmmfojaeahcohaaDoor.PTabsNext

def Stp2 (L : List S41) : Prop := ∀ t ∈ L, 0 ≤ t.f0 ∧ t.f0 ≤ 1000000 ∧ (t.f1 = 76 ∨ t.f1 = 82 ∨ t.f1 = 67)
theorem okStops_stp2 : ∀ (L : List S41) (last : Int), -1 ≤ last → okStops last L = true → Stp2 L
  | [], _, _, _ => fun t ht => by cases ht
  | x :: r, last, h0, h => by
    have e : okStops last (x :: r) = (decide (last < x.f0) && (decide (x.f0 ≤ 1000000) && (kindT x.f1 && okStops x.f0 r))) := rfl
    rw [e] at h
    simp only [Bool.and_eq_true, decide_eq_true_eq] at h
    intro t ht
    rcases List.mem_cons.1 ht with rfl | ht
    · have hk := h.2.2.1
      unfold kindT at hk
      simp only [Bool.or_eq_true, decide_eq_true_eq] at hk
      exact ⟨by omega, h.2.1, hk⟩
    · exact okStops_stp2 r x.f0 (by omega) h.2.2.2 t ht
theorem enc_kind (c : Int) (h : c = 76 ∨ c = 82 ∨ c = 67) : Utf8.encode (wrap32 c) = ⟨#[c.toNat.toUInt8]⟩ ∧ wrap32 c = c := by
  rcases h with rfl | rfl | rfl <;> exact ⟨by rw [show wrap32 _ = _ by unfold wrap32; rfl]; rfl, by unfold wrap32; rfl⟩
theorem i32_wrap (c : Int) : IntKind.i32.wrap (wrap32 c) = wrap32 c := by
  have e : ∀ x, IntKind.i32.wrap x = wrap32 x := fun x => by simp [IntKind.wrap, wrap32, IntKind.signed, IntKind.bits]; split <;> omega
  rw [e]; unfold wrap32; omega
theorem item_eq (t : S41) (D E : ByteArray) (hD : digs t.f0.toNat = D) (hE : (⟨#[t.f1.toNat.toUInt8]⟩ : ByteArray) = E) : itemL t = D ++ ⟨#[117]⟩ ++ E := by
  unfold itemL
  rw [hD, hE]
theorem toList_map (l : List ByteArray) (k : Nat) (x : ByteArray) (h : l[k]? = some x) : (l.map Value.string)[k]? = some (.string x) := by simp [h]
theorem words_small (L : List S41) (h : ∀ t ∈ L, t.f0 ≤ 1000000) (hn : L.length ≤ 40) (ev : Int) (h1 : ev ≤ 1000000) : (Lib.join ((wordsI L ++ wordsE ev).map (·.data.toList)) [32]).length ≤ 1000 := by
  have h2 := text_size L h L.length (Nat.le_refl _)
  rw [List.take_length] at h2
  have e : (Lib.join ((wordsI L ++ wordsE ev).map (·.data.toList)) [32]).length = (textS L ev).size := by
    show _ = ((Lib.join ((wordsI L ++ wordsE ev).map (·.data.toList)) [32]).toArray).size
    simp
  rw [e]
  by_cases hev : ev > 0
  · have h3 := digs_size ev.toNat (by omega)
    by_cases hL : L = []
    · subst hL
      rw [text_every ev hev]
      simp only [ByteArray.size_append, show (ByteArray.mk #[117]).size = 1 from rfl, show (ByteArray.mk #[84, 32]).size = 2 from rfl]
      omega
    · rw [text_full L ev hL hev]
      simp only [ByteArray.size_append, show (ByteArray.mk #[117]).size = 1 from rfl, show (ByteArray.mk #[84, 32]).size = 2 from rfl, show (ByteArray.mk #[32]).size = 1 from rfl]
      omega
  · rw [text_none L ev hev]; omega
theorem row_cells {W : World} {base : Nat} {v : Value} {n : Nat} {xs : List Value} (h : W.ownsRow base 9 1 v n xs) (hn : 0 < n) : ∃ g c, v = .slice (some ⟨g, 0, none⟩) n c ∧ n ≤ c ∧ g < W.heap.size ∧ ∀ (j : Nat) x, xs[j]? = some x → W.cell? ⟨g, 0 + j, none⟩ = some x := by
  have hF := World.ownsRowF_of h
  rcases h.2 with ⟨_, h0⟩ | ⟨g, cap, cur, e, h3, h4, h5, h6⟩
  · omega
  · refine ⟨g, cap, e, h5, (Array.getElem?_eq_some_iff.1 h4).1, fun j x hx => ?_⟩
    have := hF.cells (g := g) (by rw [e]; rfl) j x hx
    have ead : ((⟨g, 0, none⟩ : Addr).add j) = ⟨g, 0 + j, none⟩ := by
      simp [Addr.add]
      intro h; omega
    rw [← ead]
    exact this
theorem join_calls (g c : Nat) (xs : List ByteArray) (n : Nat) (hn : xs.length = n) (hn0 : n ≤ 1000) (W : World) (hcells : ∀ (j : Nat) x, (xs.map Value.string)[j]? = some x → W.cell? ⟨g, 0 + j, none⟩ = some x) (hg : g < W.heap.size) (hc : n ≤ c) (hlen : (Lib.join (xs.map (·.data.toList)) [32]).length ≤ 1000) :
    Calls Tryd.prog 19 #[.slice (some ⟨g, 0, none⟩) n c, .string ⟨#[32]⟩] W fun e w' => e = .returned (.string (joinB xs)) ∧ Below W.heap.size W w' := by
  subst hn
  exact Tryd.strings_Join g 0 c xs ⟨#[32]⟩ W (fun j x hx => hcells j _ (toList_map xs j x hx)) hg (by omega) hc (Nat.le_trans hlen (by decide))
theorem row_zero {W : World} {base : Nat} {v : Value} {xs : List Value} (h : W.ownsRow base 9 1 v 0 xs) : ∃ a c, v = .slice a 0 c := by
  rcases h.2 with ⟨e, _⟩ | ⟨g, cap, cur, e, _⟩
  · exact ⟨none, 0, e⟩
  · exact ⟨_, cap, e⟩
set_option maxRecDepth 100000 in
set_option maxHeartbeats 4000000 in
theorem text_good (A : Option Addr) (c : Nat) (L : List S41) (ev : Int) (hc : L.length ≤ c) (hb : ∀ t ∈ L, 0 ≤ t.f1 ∧ t.f1 < 256) (w : World) (ht : Tab w) (hC : Kd.C k41 w A L.length L) (hv : tvalidB L ev = true) :
    Calls Tryd.prog 10 #[.agg #[.slice A L.length c, .int .i64 ev]] w fun e w' => e = .returned (.tuple #[.string (textS L ev), .int .i64 0]) ∧ Below w.heap.size w w' := by
  have hv2 := hv
  unfold tvalidB at hv2
  simp only [Bool.and_eq_true, decide_eq_true_eq] at hv2
  have HS := Lib.hid (okStops_stp2 L (-1) (by omega) hv2.1)
  have hn : L.length ≤ 40 := hv2.2.1
  have he0 := hv2.2.2.1
  have he1 := hv2.2.2.2
  have HC := Lib.hid hC
  have HV := Lib.hid (fun W (h : Below w.heap.size w W) => tvalid_calls A c L ev hc hb W (Kd.C_below hC h))
  rw [hv] at HV
  have HI := Lib.hid (fun W (h : Below w.heap.size w W) n hn => itoa_calls n hn W (ht.below h))
  have HJ0 := Lib.hid (fun a c W => Tryd.strings_Join_none a c ⟨#[32]⟩ W)
  have HTX : Hid (textS L ev = joinB (wordsI L ++ wordsE ev)) := Lib.hid rfl
  have HSZ := Lib.hid (words_small L (fun t ht => (okStops_stp2 L (-1) (by omega) hv2.1 t ht).2.1) hn ev he1)
  obtain ⟨T, hT⟩ : ∃ T, textS L ev = T := ⟨_, rfl⟩
  rw [hT] at HTX ⊢
  clear hv2 hC hb ht hv hT
  go_enter Tryd.func10, Tryd.ntmps10
  have HB0 := Lib.hid ((Below.refl w.heap.size w).alloc (Nat.le_refl _) (.cells #[.slice A L.length c, .int .i64 ev] 24))
  obtain ⟨g, hg⟩ : ∃ g, w.heap.size = g := ⟨_, rfl⟩
  have HG := Lib.hid hg
  have HCC : Hid ((w.alloc (.cells #[.slice A L.length c, .int .i64 ev] 24)).cell? ⟨g, 0, none⟩ = some (.slice A L.length c) ∧ (w.alloc (.cells #[.slice A L.length c, .int .i64 ev] 24)).cell? ⟨g, 1, none⟩ = some (.int .i64 ev) ∧ g < (w.alloc (.cells #[.slice A L.length c, .int .i64 ev] 24)).heap.size) := Lib.hid (by subst hg; simp)
  go_upto_region 1 with fail
  obtain ⟨W0, hW0⟩ : ∃ W, w.alloc (.cells #[.slice A L.length c, .int .i64 ev] 24) = W := ⟨_, rfl⟩
  simp only [hW0, hg] at HB0 HCC ⊢
  clear hW0
  obtain ⟨c0, c1, gl⟩ := HCC.out
  have HV2 := Lib.hid (HV.out W0 (by rw [hg]; exact HB0.out))
  clear HCC HV
  go_upto_region 5 with (go_at_call 7; refine HV2.out.mono ?_; rintro e w1 ⟨rfl, b1⟩; have k0 := (b1.cell (p := ⟨g, 0, none⟩) gl).trans c0; have k1 := (b1.cell (p := ⟨g, 1, none⟩) gl).trans c1; have kl : g < w1.heap.size := Nat.lt_of_lt_of_le gl b1.size)
  have HB1 : Hid (Below w.heap.size w w1) := Lib.hid (by
    have h0 := HB0.out
    rw [← HG.out] at h0
    exact h0.trans (b1.mono h0.size))
  have HI2 := Lib.hid (fun W (h : Below w1.heap.size w1 W) n hn => HI.out W (HB1.out.trans (h.mono HB1.out.size)) n hn)
  have HGL : Hid (g ≤ w1.heap.size) := Lib.hid (Nat.le_of_lt kl)
  clear hg HI HV2 HB0 c0 c1 gl b1
  go_loopg [4, 13] L.length (fun gk s4 s13 wx => ∃ i : Nat, i + gk = L.length ∧ s13 = .int .i64 i ∧ Hid (wx.ownsRow w1.heap.size 9 1 s4 i ((wordsI (L.take i)).map Value.string)) ∧ Hid (Below w1.heap.size w1 wx))
  case atStart => exact ⟨0, by omega, rfl, Lib.hid (World.ownsRow_nil _ _ _ _), Lib.hid (Below.refl _ _)⟩
  case round =>
    obtain ⟨i, hi, rfl, HO, HB⟩ := hrel
    by_cases hlt : i < L.length
    · have i0 : (i : Int) < L.length := by omega
      have p0 : decide ((i : Int) < (L.length : Int)) = true := decide_eq_true i0
      obtain ⟨g', rfl⟩ : ∃ g', gk = g' + 1 := ⟨gk - 1, by omega⟩
      obtain ⟨b, off, rfl, hbl, hcell⟩ := stops_at (Kd.C_below HC.out (HB1.out.trans (HB.out.mono HB1.out.size))) (by omega)
      obtain ⟨d0, d1⟩ := hcell i hlt
      have hst := HS.out _ (List.getElem_mem hlt)
      have HWT := Lib.hid (words_take L i hlt)
      obtain ⟨t, hT⟩ : ∃ t, L[i] = t := ⟨_, rfl⟩
      rw [hT] at d0 d1 hst HWT
      have hek := enc_kind t.f1 hst.2.2
      have hds := digs_size t.f0.toNat (by omega)
      have HIT := Lib.hid (fun D E hD hE => item_eq t D E hD hE)
      have ef : ((t.f0.toNat : Nat) : Int) = t.f0 := Int.toNat_of_nonneg hst.1
      have HI3 : Hid (∀ W, Below w1.heap.size w1 W → Calls Tryd.prog 18 #[.int .i64 t.f0] W fun e w' => e = .returned (.string (digs t.f0.toNat)) ∧ Below W.heap.size W w') := Lib.hid (fun W h => by
        have := HI2.out W h t.f0.toNat (by omega)
        rw [ef] at this
        exact this)
      obtain ⟨D, hD⟩ : ∃ D, digs t.f0.toNat = D := ⟨_, rfl⟩
      obtain ⟨E, hE⟩ : ∃ E, (⟨#[t.f1.toNat.toUInt8]⟩ : ByteArray) = E := ⟨_, rfl⟩
      have hEs : E.size = 1 := by rw [← hE]; rfl
      have hit := HIT.out D E hD hE
      obtain ⟨y, hy⟩ : ∃ y, itemL t = y := ⟨_, rfl⟩
      rw [hy] at hit HWT
      rw [hD] at hds HI3
      rw [hE] at hek
      obtain ⟨f0, hf0⟩ : ∃ x, t.f0 = x := ⟨_, rfl⟩
      obtain ⟨f1, hf1⟩ : ∃ x, t.f1 = x := ⟨_, rfl⟩
      rw [hf0] at d0 HI3
      rw [hf1] at d1 hek
      have he1' := hek.1
      have he2' := hek.2
      have he3' : Utf8.encode f1 = E := by rw [← he2']; exact he1'
      have he4' : IntKind.i32.wrap f1 = f1 := by rw [← he2'] ; exact i32_wrap f1
      have he5' : Utf8.encode (IntKind.i32.wrap f1) = E := by rw [he4']; exact he3'
      have s1 : (9223372036854775807 < D.size + 1) = False := eq_false (by omega)
      have s2 : (9223372036854775807 < D.size + 1 + E.size) = False := eq_false (by omega)
      have s3 : (9223372036854775807 < D.size + 1 + 1) = False := eq_false (by omega)
      have s4 : (9223372036854775807 < D.size + 2) = False := eq_false (by omega)
      have s5 : (9223372036854775807 < D.size + (1 + 1)) = False := eq_false (by omega)
      have s6 : (9223372036854775807 < D.size + (1 + E.size)) = False := eq_false (by omega)
      have HY := Lib.hid hit
      have HLT := Lib.hid (show i ≤ 1000 by omega)
      clear hcell hT hst hD hE hy hf0 hf1 HIT ef hek hit
      go_upto_region 7 with fail
      have HOW0 := Lib.hid (row_keep HO.out ((Below.refl wr.heap.size wr).alloc (Nat.le_refl _) (.cells #[.int .i64 f0, .int .u8 f1] 41)))
      have HBW0 := Lib.hid (HB.out.alloc HB.out.size (.cells #[.int .i64 f0, .int .u8 f1] 41))
      have HQ0 : Hid ((wr.alloc (.cells #[.int .i64 f0, .int .u8 f1] 41)).cell? ⟨wr.heap.size, 0, none⟩ = some (.int .i64 f0) ∧ (wr.alloc (.cells #[.int .i64 f0, .int .u8 f1] 41)).cell? ⟨wr.heap.size, 1, none⟩ = some (.int .u8 f1) ∧ wr.heap.size < (wr.alloc (.cells #[.int .i64 f0, .int .u8 f1] 41)).heap.size) := Lib.hid (by simp)
      have HLQ := Lib.hid (fun k (hk : u4.ownBlock = some k) => (HO.out.lt k hk))
      obtain ⟨W1, hW1⟩ : ∃ W, wr.alloc (.cells #[.int .i64 f0, .int .u8 f1] 41) = W := ⟨_, rfl⟩
      simp only [hW1] at HOW0 HBW0 HQ0 ⊢
      clear hW1
      obtain ⟨q, hq⟩ : ∃ q, wr.heap.size = q := ⟨_, rfl⟩
      simp only [hq] at HQ0 HLQ ⊢
      have HQQ := Lib.hid hq
      clear hq d0 d1 HO
      obtain ⟨ps, hps⟩ : ∃ ps, wordsI (L.take i) = ps := ⟨_, rfl⟩
      rw [hps] at HOW0 HWT
      clear hps
      have hN : Below W1.heap.size W1 W1.drew := (Below.refl _ _).drew
      have HK := Lib.hid (show ∀ w' : World, Below W1.heap.size W1 w' → w'.cell? ⟨q, 0, none⟩ = some (.int .i64 f0) ∧ w'.cell? ⟨q, 1, none⟩ = some (.int .u8 f1) from fun w' h => ⟨(h.cell (p := ⟨q, 0, none⟩) HQ0.out.2.2).trans HQ0.out.1, (h.cell (p := ⟨q, 1, none⟩) HQ0.out.2.2).trans HQ0.out.2.1⟩)
      have HOW := Lib.hid (show ∀ W o, Below W1.heap.size W1 W → (W.alloc o).ownsRow w1.heap.size 9 1 u4 i (ps.map Value.string) from fun W o h => row_keep (row_keep HOW0.out h) ((Below.refl W.heap.size W).alloc (Nat.le_refl _) o))
      have HBW := Lib.hid (show ∀ W, Below W1.heap.size W1 W → Below w1.heap.size w1 W from fun W h => HBW0.out.trans (h.mono HBW0.out.size))
      have HKA := Lib.hid (show ∀ W o, Below W1.heap.size W1 W → (W.alloc o).cell? ⟨q, 0, none⟩ = some (.int .i64 f0) ∧ (W.alloc o).cell? ⟨q, 1, none⟩ = some (.int .u8 f1) from fun W o h => HK.out (W.alloc o) (h.alloc h.size o))
      have HKG := Lib.hid (show ∀ W w6 o, Below W1.heap.size W1 W → (W.alloc o).grownBy w6 u4.ownBlock → w6.cell? ⟨q, 0, none⟩ = some (.int .i64 f0) ∧ w6.cell? ⟨q, 1, none⟩ = some (.int .u8 f1) from fun W w6 o h hg => by
        have hk := HK.out (W.alloc o) (h.alloc h.size o)
        have hlt : q < (W.alloc o).heap.size := Nat.lt_of_lt_of_le HQ0.out.2.2 (h.alloc h.size o).size
        have hne : some q ≠ u4.ownBlock := fun e => by have := (HLQ.out q e.symm).2; omega
        exact ⟨(hg.cell_far ⟨q, 0, none⟩ hlt hne).trans hk.1, (hg.cell_far ⟨q, 1, none⟩ hlt hne).trans hk.2⟩)
      have HB6 := Lib.hid (show ∀ W w6 o, Below W1.heap.size W1 W → (W.alloc o).grownBy w6 u4.ownBlock → Below w1.heap.size w1 w6 from fun W w6 o h hg => by
        have h1 := (HBW.out W h).alloc (HBW.out W h).size o
        exact h1.grown hg h1.size (fun k hk => (HLQ.out k hk).1))
      go_region_held3 (fun w' => w'.cell? ⟨q, 0, none⟩ = some (.int .i64 f0) ∧ w'.cell? ⟨q, 1, none⟩ = some (.int .u8 f1))
        (first | exact HK.out _ (by assumption) | exact HKA.out _ _ (by assumption) | exact HKG.out _ _ _ (by assumption) (by assumption))
        (first
          | (go_at_call 18; refine (HI3.out _ (HBW.out _ hN)).mono ?_; rintro e w5 ⟨rfl, hb5⟩; have hN := Below.trans hN (hb5.mono hN.size))
          | (refine step_word (by rfl) _ _ (by rfl) w1.heap.size i u4 ps (by rfl) (HOW.out _ _ hN) _ (by rfl) (D ++ ⟨#[117]⟩ ++ E) (heap_alloc_new _ _) ((HBW.out _ hN).alloc (HBW.out _ hN).size _).size HLT.out ?_; intro v1 w6 hown6 hg6; have hB6 := HB6.out _ _ _ hN hg6))
      have HNO : Hid (w6.ownsRow w1.heap.size 9 1 v1 (i + 1) ((wordsI (L.take (i + 1))).map Value.string)) := Lib.hid (by rw [HWT.out, HY.out]; exact hown6)
      have HB7 := Lib.hid hB6
      clear hown6 hB6 hg6
      go_wp2_with fail
      go_roundg g'
      case measure => omega
      case rel => exact ⟨i + 1, by omega, by go_num, HNO, HB7⟩
    · obtain rfl : i = L.length := by omega
      have p0 : decide ((L.length : Int) < (L.length : Int)) = false := decide_eq_false (by omega)
      have HO2 := HO.out
      rw [List.take_length] at HO2
      have k2 := (HB.out.cell (p := ⟨g, 1, none⟩) kl).trans k1
      have HLL := Lib.hid (show (wordsI L).length = L.length by unfold wordsI; simp)
      have HEV : Hid (Calls Tryd.prog 18 #[.int .i64 ev] wr fun e w' => e = .returned (.string (digs ev.toNat)) ∧ Below wr.heap.size wr w') := Lib.hid (by
        have := HI2.out wr HB.out ev.toNat (by omega)
        rw [Int.toNat_of_nonneg he0] at this
        exact this)
      have HROW := Lib.hid HO2
      clear HI2 HO k1 HC HS
      by_cases hev : ev > 0
      · have q0 : decide (ev > 0) = true := decide_eq_true hev
        have q1 : decide (0 < ev) = true := decide_eq_true hev
        have hds := digs_size ev.toNat (by omega)
        have HWE : Hid (wordsE ev = [⟨#[84]⟩, digs ev.toNat ++ ⟨#[117]⟩]) := Lib.hid (by unfold wordsE; rw [if_pos hev])
        obtain ⟨D, hD⟩ : ∃ D, digs ev.toNat = D := ⟨_, rfl⟩
        rw [hD] at hds HEV HWE
        clear hD
        go_wp2_with (first
          | (go_at_call 18; refine HEV.out.mono ?_; rintro e w7 ⟨rfl, b7⟩; have HB8 := HB.out.trans (b7.mono HB.out.size); have HOW7 := row_keep (row_keep HROW.out b7) ((Below.refl w7.heap.size w7).alloc (Nat.le_refl _) (.cells #[.string ⟨#[84]⟩, .string (D ++ ⟨#[117]⟩)] 9)))
          | (at_builtin; refine wpList_words rfl (.tmp 33) (.tmp 38) rfl w1.heap.size L.length u4 (wordsI L) rfl HOW7 _ rfl ⟨#[84]⟩ (D ++ ⟨#[117]⟩) (heap_alloc_new _ _) ?hB ?hS ?_; (case hB => exact (HB8.alloc HB8.size _).size); (case hS => exact Nat.le_trans hn (by decide)); intro v1 w8 hown8 hg8; have HB9 := (HB8.alloc HB8.size (.cells #[.string ⟨#[84]⟩, .string (D ++ ⟨#[117]⟩)] 9)).grown hg8 (HB8.alloc HB8.size _).size (fun k hk => (HOW7.lt k hk).1); obtain ⟨g8, c8, rfl, hc8, hl8, hcells⟩ := row_cells hown8 (Nat.succ_pos _); have HJ := Lib.hid (join_calls g8 c8 (wordsI L ++ wordsE ev) (L.length + 2) (by rw [List.length_append, HLL.out, HWE.out]; rfl) (Nat.le_trans (Nat.add_le_add_right hn 2) (by decide)) w8 (by rw [HWE.out]; exact hcells) hl8 hc8 HSZ.out); clear hown8 hg8 hcells hl8)
          | (go_at_call 19; refine HJ.out.mono ?_; rintro e w9 ⟨rfl, b9⟩))
        go_ret2
        have r1 := HB1.out.trans (HB9.mono HB1.out.size)
        exact ⟨by rw [HTX.out]; rfl, r1.trans (b9.mono r1.size)⟩
      · have q0 : decide (ev > 0) = false := decide_eq_false hev
        have q1 : decide (0 < ev) = false := decide_eq_false hev
        have q2 : ¬ (0 < ev) := hev
        have HWE : Hid (wordsE ev = []) := Lib.hid (by unfold wordsE; rw [if_neg hev])
        by_cases hL : L.length = 0
        · rw [hL] at HROW
          obtain ⟨a, c9, rfl⟩ := row_zero HROW.out
          have HTE : Hid (T = ⟨#[]⟩) := Lib.hid (by
            have : L = [] := List.eq_nil_of_length_eq_zero hL
            rw [HTX.out, HWE.out, this]; rfl)
          clear hL
          go_wp2_with (go_at_call 19; refine (HJ0.out _ _ _).mono ?_; rintro e w9 ⟨rfl, rfl⟩)
          go_ret2
          exact ⟨by rw [HTE.out]; rfl, HB1.out.trans (HB.out.mono HB1.out.size)⟩
        · obtain ⟨g8, c8, rfl, hc8, hl8, hcells⟩ := row_cells HROW.out (Nat.pos_of_ne_zero hL)
          have HJ := Lib.hid (join_calls g8 c8 (wordsI L ++ wordsE ev) L.length (by rw [List.length_append, HLL.out, HWE.out]; rfl) (Nat.le_trans hn (by decide)) wr (by rw [HWE.out, List.append_nil]; exact hcells) hl8 hc8 HSZ.out)
          clear hcells hl8 hL
          go_wp2_with (go_at_call 19; refine HJ.out.mono ?_; rintro e w9 ⟨rfl, b9⟩)
          go_ret2
          have r1 := HB1.out.trans (HB.out.mono HB1.out.size)
          exact ⟨by rw [HTX.out]; rfl, r1.trans (b9.mono r1.size)⟩
set_option maxRecDepth 100000 in
set_option maxHeartbeats 2000000 in
theorem text_bad (A : Option Addr) (c : Nat) (L : List S41) (ev : Int) (hc : L.length ≤ c) (hb : ∀ t ∈ L, 0 ≤ t.f1 ∧ t.f1 < 256) (w : World) (hC : Kd.C k41 w A L.length L) (hv : tvalidB L ev = false) :
    Calls Tryd.prog 10 #[.agg #[.slice A L.length c, .int .i64 ev]] w fun e w' => e = .returned (.tuple #[.string ⟨#[]⟩, .int .i64 1]) ∧ Below w.heap.size w w' := by
  have HV := Lib.hid (fun W (h : Below w.heap.size w W) => tvalid_calls A c L ev hc hb W (Kd.C_below hC h))
  rw [hv] at HV
  clear hC hb hv
  go_enter Tryd.func10, Tryd.ntmps10
  have HB0 := Lib.hid ((Below.refl w.heap.size w).alloc (Nat.le_refl _) (.cells #[.slice A L.length c, .int .i64 ev] 24))
  go_wp2_with (go_at_call 7; refine (HV.out _ HB0.out).mono ?_; rintro e w1 ⟨rfl, b1⟩)
  go_ret2
  exact ⟨rfl, HB0.out.trans (b1.mono HB0.out.size)⟩
theorem text_calls (A : Option Addr) (c : Nat) (L : List S41) (ev : Int) (hc : L.length ≤ c) (hb : ∀ t ∈ L, 0 ≤ t.f1 ∧ t.f1 < 256) (w : World) (ht : Tab w) (hC : Kd.C k41 w A L.length L) :
    Calls Tryd.prog 10 #[.agg #[.slice A L.length c, .int .i64 ev]] w fun e w' => e = .returned (.tuple #[.string (if tvalidB L ev then (textS L ev, (0 : Int)) else (⟨#[]⟩, 1)).1, .int .i64 (if tvalidB L ev then (textS L ev, (0 : Int)) else (⟨#[]⟩, 1)).2]) ∧ Below w.heap.size w w' := by
  cases hv : tvalidB L ev
  · exact text_bad A c L ev hc hb w hC hv
  · exact text_good A c L ev hc hb w ht hC hv
end Go.Proofs.YtmmfojaeahcohaaDoor

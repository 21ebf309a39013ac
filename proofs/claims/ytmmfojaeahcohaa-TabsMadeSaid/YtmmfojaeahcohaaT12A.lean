/- Plain words of layer 12: bytes that can be seen, names, colours. -/
import Derived.Test.YtmmfojaeahcohaaShelf
import Derived.Lib.Strings
set_option linter.unusedVariables false
set_option linter.unusedSimpArgs false
namespace Go.Proofs.Ytmmfojaeahcohaa
open Go.Lib

/-- The byte at a place; beyond the end 0. -/
def pk (s : ByteArray) (a : Nat) : Nat := if h : a < s.size then s[a].toNat else 0
theorem pk_get (s : ByteArray) (a : Nat) (h : a < s.size) : pk s a = s[a].toNat := by unfold pk; rw [dif_pos h]
theorem pk_256 (s : ByteArray) (a : Nat) : pk s a < 256 := by
  unfold pk
  split
  · exact UInt8.toNat_lt _
  · decide
/-- A byte that can be seen. -/
def okN (c : Nat) : Bool := decide (33 ≤ c ∧ c ≤ 126)
def allOk (s : ByteArray) (i : Nat) : Bool := (List.range (s.size - i)).all fun k => okN (pk s (i + k))
theorem allOk_iff (s : ByteArray) (i : Nat) : allOk s i = true ↔ ∀ k, i ≤ k → k < s.size → okN (pk s k) = true := by
  unfold allOk
  rw [List.all_eq_true]
  constructor
  · intro h k h1 h2
    have := h (k - i) (List.mem_range.2 (by omega))
    rwa [show i + (k - i) = k by omega] at this
  · intro h k hk
    have := List.mem_range.1 hk
    exact h (i + k) (by omega) (by omega)
theorem allOk_step (s : ByteArray) (i : Nat) (h : i < s.size) : allOk s i = (okN (pk s i) && allOk s (i + 1)) := by
  rw [Bool.eq_iff_iff, Bool.and_eq_true, allOk_iff, allOk_iff]
  constructor
  · exact fun q => ⟨q i (Nat.le_refl _) h, fun k h1 h2 => q k (by omega) h2⟩
  · rintro ⟨q1, q2⟩ k h1 h2
    by_cases e : k = i
    · subst e; exact q1
    · exact q2 k (by omega) h2
theorem allOk_end (s : ByteArray) (i : Nat) (h : ¬ i < s.size) : allOk s i = true := (allOk_iff s i).2 fun k h1 h2 => by omega
/-- A rune that is none of these. -/
def badR (r : Nat) : Bool := decide (r < 33) || decide (126 < r)
theorem decode_low {s : ByteArray} {p : Nat} (h : p < s.size) (hb : pk s p < 128) : Utf8.decode s p = (pk s p, 1) := by
  rw [pk_get s p h] at hb ⊢
  have e : s.get! p = s[p] := by
    show (s.data[p]! : UInt8) = s.data[p]
    rw [getElem!_pos]
  unfold Utf8.decode
  simp only [Nat.add_zero, e]
  rw [if_pos hb]
theorem decode_high {s : ByteArray} {p : Nat} (h : p < s.size) (hb : ¬ pk s p < 128) : 128 ≤ (Utf8.decode s p).1 := by
  rw [pk_get s p h] at hb
  have e : s.get! p = s[p] := by
    show (s.data[p]! : UInt8) = s.data[p]
    rw [getElem!_pos]
  unfold Utf8.decode
  simp only [Nat.add_zero, e]
  rw [if_neg hb]
  unfold Utf8.runeError
  repeat' split
  all_goals first | (simp; done) | (rename_i h1; simp at h1 ⊢; omega)
theorem idx_ok (s : ByteArray) : ∀ f p, s.size ≤ p + f → (Lib.idxFuncFrom badR true s f p = -1 ↔ ∀ k, p ≤ k → k < s.size → okN (pk s k) = true)
  | 0, p, h => by
    unfold Lib.idxFuncFrom
    exact ⟨fun _ k h1 h2 => by omega, fun _ => rfl⟩
  | f + 1, p, h => by
    unfold Lib.idxFuncFrom
    by_cases hp : p < s.size
    · rw [if_pos hp]
      by_cases hb : pk s p < 128
      · rw [decode_low hp hb]
        simp only
        by_cases hs : okN (pk s p) = true
        · have hs' := hs
          unfold okN at hs'
          rw [decide_eq_true_eq] at hs'
          rw [if_neg (by unfold badR; simp; omega), idx_ok s f (p + 1) (by omega)]
          constructor
          · intro h k h1 h2
            by_cases e : k = p
            · subst e; exact hs
            · exact h k (by omega) h2
          · exact fun h k h1 h2 => h k (by omega) h2
        · have hs' := hs
          unfold okN at hs'
          rw [decide_eq_true_eq] at hs'
          rw [if_pos (by unfold badR; simp; omega)]
          exact ⟨fun e => by omega, fun h => absurd (h p (Nat.le_refl _) hp) hs⟩
      · have hd := decode_high hp hb
        rw [if_pos (by unfold badR; simp; omega)]
        refine ⟨fun e => by omega, fun h => ?_⟩
        have := h p (Nat.le_refl _) hp
        unfold okN at this
        rw [decide_eq_true_eq] at this
        omega
    · rw [if_neg hp]
      exact ⟨fun _ k h1 h2 => by omega, fun _ => rfl⟩
theorem seen_iff (s : ByteArray) : (!decide (0 ≤ Lib.idxFunc badR true s)) = allOk s 0 := by
  rw [Bool.eq_iff_iff, allOk_iff]
  have h := idx_ok s s.size 0 (by omega)
  have hr := Lib.idxFunc_range badR true s
  unfold Lib.idxFunc at hr ⊢
  simp only [Bool.not_eq_true', decide_eq_false_iff_not]
  rw [← h]
  omega
theorem nat0 (m : Nat) : ((m : Int) == 0) = decide (m = 0) := by
  rw [Bool.eq_iff_iff, beq_iff_eq, decide_eq_true_eq]; omega
theorem int0 (m : Int) : (m == 0) = decide (m = 0) := by
  rw [Bool.eq_iff_iff, beq_iff_eq, decide_eq_true_eq]
theorem emp0 (l : List UInt8) : l.isEmpty = decide (l = []) := by
  cases l <;> simp
/-- A colour; a glyph's name. -/
def colB (s : ByteArray) : Bool := decide (s.size ≤ 20) && allOk s 0
def nameB (s : ByteArray) : Bool := decide (1 ≤ s.size) && (decide (s.size ≤ 10) && allOk s 0)
/-- A stroke's letter. -/
def strokeB (s : ByteArray) : Bool := decide (s.size = 1) && (decide (pk s 0 = 108) || (decide (pk s 0 = 99) || (decide (pk s 0 = 101) || (decide (pk s 0 = 97) || decide (pk s 0 = 126)))))
def farB (n : Int) : Bool := decide (n < -1000000) || decide (1000000 < n)
/-- A box. -/
def bareB (f s : Int) (c : ByteArray) (m : Nat) : Bool := decide (f = 0) && (decide (s = 0) && (decide (c.toList = []) && decide (m = 0)))
def kindB (k w f s : Int) (n c : ByteArray) (l : List Int) : Bool :=
  if k = 0 then nameB n && decide (l.length = 0)
  else if k = 1 then (decide (n.toList = []) || decide (n.toList = [126])) && (decide (c.toList = []) && decide (l.length = 0))
  else if k = 4 then decide (f = 0) && (decide (s = 0) && (strokeB n && (decide (l.length ≤ 40) && !l.any farB)))
  else if k = 5 then bareB f s c l.length && (decide (n.toList = []) && decide (w = 0))
  else if k = 2 ∨ k = 3 ∨ k = 6 then bareB f s c l.length && decide (n.toList = [])
  else false
def validB (k w f s : Int) (n c : ByteArray) (l : List Int) : Bool :=
  if w < -1000000 ∨ 1000000 < w ∨ f < 0 ∨ s < 0 then false else colB c && kindB k w f s n c l
end Go.Proofs.Ytmmfojaeahcohaa

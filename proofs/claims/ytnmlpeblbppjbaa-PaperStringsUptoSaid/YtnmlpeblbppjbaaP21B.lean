/- Names and values of labels (chapter 21), in plain Lean. -/
import Derived.Shelf.GgClosure.StringsIndexFunc
import Derived.Test.YtnmlpeblbppjbaaP21A
set_option linter.unusedVariables false
set_option linter.unusedSimpArgs false
namespace Go.Proofs.Ytnmlpeblbppjbaa
open Go.Lib

/-- The byte at a place, 0 at the end. -/
def pk (s : ByteArray) (a : Nat) : Nat := if h : a < s.size then s[a].toNat else 0
theorem pk_get (s : ByteArray) (a : Nat) (h : a < s.size) : pk s a = s[a].toNat := by unfold pk; rw [dif_pos h]
theorem pk_256 (s : ByteArray) (a : Nat) : pk s a < 256 := by
  unfold pk
  split
  · exact UInt8.toNat_lt _
  · decide
/-- A byte of a name. -/
def okN (c : Nat) : Bool := decide (33 ≤ c ∧ c ≤ 126 ∧ c ≠ 93)
def allOk (s : ByteArray) (i : Nat) : Bool := (List.range (s.size - i)).all fun k => okN (pk s (i + k))
theorem allOk_iff (s : ByteArray) (i : Nat) : allOk s i = true ↔ ∀ k, i ≤ k → k < s.size → okN (pk s k) = true := by
  unfold allOk
  rw [List.all_eq_true]
  constructor
  · intro h k h1 h2
    have := h (k - i) (List.mem_range.2 (by omega))
    rwa [show i + (k - i) = k by omega] at this
  · intro h k hk
    have := List.mem_range.1 hk
    exact h (i + k) (by omega) (by omega)
theorem allOk_step (s : ByteArray) (i : Nat) (h : i < s.size) : allOk s i = (okN (pk s i) && allOk s (i + 1)) := by
  rw [Bool.eq_iff_iff, Bool.and_eq_true, allOk_iff, allOk_iff]
  constructor
  · exact fun q => ⟨q i (Nat.le_refl _) h, fun k h1 h2 => q k (by omega) h2⟩
  · rintro ⟨q1, q2⟩ k h1 h2
    by_cases e : k = i
    · subst e; exact q1
    · exact q2 k (by omega) h2
theorem allOk_end (s : ByteArray) (i : Nat) (h : ¬ i < s.size) : allOk s i = true := (allOk_iff s i).2 fun k h1 h2 => by omega
/-- A rune that is none of a name's bytes. -/
def badN (r : Nat) : Bool := decide (r < 33) || (decide (126 < r) || decide (r = 93))
theorem decode_low {s : ByteArray} {p : Nat} (h : p < s.size) (hb : pk s p < 128) : Utf8.decode s p = (pk s p, 1) := by
  rw [pk_get s p h] at hb ⊢
  have e : s.get! p = s[p] := by
    show (s.data[p]! : UInt8) = s.data[p]
    rw [getElem!_pos]
  unfold Utf8.decode
  simp only [Nat.add_zero, e]
  rw [if_pos hb]
theorem decode_high {s : ByteArray} {p : Nat} (h : p < s.size) (hb : ¬ pk s p < 128) : 128 ≤ (Utf8.decode s p).1 := by
  rw [pk_get s p h] at hb
  have e : s.get! p = s[p] := by
    show (s.data[p]! : UInt8) = s.data[p]
    rw [getElem!_pos]
  unfold Utf8.decode
  simp only [Nat.add_zero, e]
  rw [if_neg hb]
  unfold Utf8.runeError
  repeat' split
  all_goals first | (simp; done) | (rename_i h1; simp at h1 ⊢; omega)
theorem idx_ok (s : ByteArray) : ∀ f p, s.size ≤ p + f → (Lib.idxFuncFrom badN true s f p = -1 ↔ ∀ k, p ≤ k → k < s.size → okN (pk s k) = true)
  | 0, p, h => by
    unfold Lib.idxFuncFrom
    exact ⟨fun _ k h1 h2 => by omega, fun _ => rfl⟩
  | f + 1, p, h => by
    unfold Lib.idxFuncFrom
    by_cases hp : p < s.size
    · rw [if_pos hp]
      by_cases hb : pk s p < 128
      · rw [decode_low hp hb]
        simp only
        by_cases hs : okN (pk s p) = true
        · have hs' := hs
          unfold okN at hs'
          rw [decide_eq_true_eq] at hs'
          rw [if_neg (by unfold badN; simp; omega), idx_ok s f (p + 1) (by omega)]
          constructor
          · intro h k h1 h2
            by_cases e : k = p
            · subst e; exact hs
            · exact h k (by omega) h2
          · exact fun h k h1 h2 => h k (by omega) h2
        · have hs' := hs
          unfold okN at hs'
          rw [decide_eq_true_eq] at hs'
          rw [if_pos (by unfold badN; simp; omega)]
          exact ⟨fun e => by omega, fun h => absurd (h p (Nat.le_refl _) hp) hs⟩
      · have hd := decode_high hp hb
        rw [if_pos (by unfold badN; simp; omega)]
        refine ⟨fun e => by omega, fun h => ?_⟩
        have := h p (Nat.le_refl _) hp
        unfold okN at this
        rw [decide_eq_true_eq] at this
        omega
    · rw [if_neg hp]
      exact ⟨fun _ k h1 h2 => by omega, fun _ => rfl⟩
theorem named_iff (s : ByteArray) : (!decide (0 ≤ Lib.idxFunc badN true s)) = allOk s 0 := by
  rw [Bool.eq_iff_iff, allOk_iff]
  have h := idx_ok s s.size 0 (by omega)
  have hr := Lib.idxFunc_range badN true s
  unfold Lib.idxFunc at hr ⊢
  simp only [Bool.not_eq_true', decide_eq_false_iff_not]
  rw [← h]
  omega
def namedB (s : ByteArray) : Bool := decide (1 ≤ s.size) && (decide (s.size ≤ 20) && allOk s 0)
/-- A byte that no value has. -/
def cleanF (v : ByteArray) (i : Nat) : Bool := (List.range (v.size - i)).all fun k => decide (pk v (i + k) ≠ 10 ∧ pk v (i + k) ≠ 92)
def fitsB (n v : ByteArray) : Bool := decide (n.size ≤ 18) && (namedB ((⟨#[114, 58]⟩ : ByteArray) ++ n) && (cleanF v 0 && (decide (pk v 0 ≠ 32) && decide (pk v 0 ≠ 34))))
def textO (L : List Lab) : ByteArray × Int := if L.all (fun p => fitsB p.1 p.2) = true then (textP L, 0) else (⟨#[]⟩, 1)
end Go.Proofs.Ytnmlpeblbppjbaa

/- Plain laws on texts that are searched by a predicate on runes. -/
import Derived.Shelf.GgClosure.StringsIndexFunc
import Derived.Lib.IndexLaws
set_option linter.unusedVariables false
set_option linter.unusedSimpArgs false
namespace Go.PureA

theorem decode_low (s : ByteArray) (i : Nat) (h : (s.get! i).toNat < 128) : Utf8.decode s i = ((s.get! i).toNat, 1) := by
  unfold Utf8.decode
  simp [h]
theorem decode_high (s : ByteArray) (i : Nat) (h : 128 ≤ (s.get! i).toNat) : 128 ≤ (Utf8.decode s i).1 := by
  have h0 : ¬ (s.get! i).toNat < 128 := by omega
  unfold Utf8.decode
  simp only [Nat.add_zero]
  rw [if_neg h0]
  split
  · split
    · rename_i h1; exact h1
    · simp [Utf8.runeError]
  · split
    · split
      · rename_i h1
        simp at h1
        show 128 ≤ _
        have := h1.1
        simp
        omega
      · simp [Utf8.runeError]
    · split
      · split
        · rename_i h1
          simp at h1
          show 128 ≤ _
          have := h1.1
          simp
          omega
        · simp [Utf8.runeError]
      · simp [Utf8.runeError]

theorem get_at (s : ByteArray) (i : Nat) (h : i < s.size) : s.get! i = s.data.toList[i]'(by simpa using h) := by
  rw [ByteArray.get!]
  simp [h]

theorem idx_from (p : Nat → Bool) (hp : ∀ r, 128 ≤ r → p r = true) (s : ByteArray) : ∀ (f pos : Nat), s.size ≤ pos + f →
    decide (0 ≤ Lib.idxFuncFrom p true s f pos) = (s.data.toList.drop pos).any fun c => p c.toNat
  | 0, pos, h => by
    rw [List.drop_of_length_le (by simpa using h)]
    simp [Lib.idxFuncFrom]
  | f + 1, pos, h => by
    by_cases hlt : pos < s.size
    · have hd : s.data.toList.drop pos = s.data.toList[pos]'(by simpa using hlt) :: s.data.toList.drop (pos + 1) := List.drop_eq_getElem_cons (by simpa using hlt)
      rw [hd, List.any_cons, ← get_at s pos hlt]
      unfold Lib.idxFuncFrom
      rw [if_pos hlt]
      by_cases hb : (s.get! pos).toNat < 128
      · rw [decode_low s pos hb]
        by_cases hq : p (s.get! pos).toNat = true
        · rw [if_pos hq, hq]
          simp
        · rw [if_neg hq, idx_from p hp s f (pos + 1) (by omega)]
          simp [hq]
      · have h1 := hp _ (decode_high s pos (by omega))
        have h2 := hp (s.get! pos).toNat (by omega)
        rw [if_pos h1, h2]
        simp
    · rw [Lib.idxFuncFrom_end _ _ _ _ _ hlt, List.drop_of_length_le (by simpa using hlt)]
      simp
theorem idx_any (p : Nat → Bool) (hp : ∀ r, 128 ≤ r → p r = true) (s : ByteArray) : decide (0 ≤ Lib.idxFunc p true s) = s.data.toList.any fun c => p c.toNat := by
  have h := idx_from p hp s s.size 0 (by omega)
  rw [List.drop_zero] at h
  exact h

theorem indexByte_any (c : UInt8) : ∀ l : List UInt8, decide (0 ≤ Lib.indexByte l c) = l.any fun b => b == c
  | [] => rfl
  | b :: l => by
    have ih := indexByte_any c l
    have hg := Lib.indexByte_ge l c
    unfold Lib.indexByte
    rw [List.any_cons, ← ih]
    by_cases h : (b == c) = true
    · rw [if_pos h, h]; rfl
    · have h' : (b == c) = false := by simpa using h
      rw [if_neg h, h', Bool.false_or]
      by_cases h1 : Lib.indexByte l c = -1
      · rw [h1]; rfl
      · rw [if_neg (by simpa using h1)]
        have : 0 ≤ Lib.indexByte l c := by omega
        have h2 : 0 ≤ Lib.indexByte l c + 1 := by omega
        simp [this, h2]
end Go.PureA

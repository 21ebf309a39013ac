/- A number's digits, filled up to three. -/
import Derived.Test.YtgdoebpdpcfbeaaDoorPdigitsx1
import Derived.Test.YtgdoebpdpcfbeaaDoorWalkB
set_option linter.unusedVariables false
set_option linter.unusedSimpArgs false
namespace Go.Proofs.YtgdoebpdpcfbeaaDoor
open Go.Shelf Go.RowKit Go.Lib Go.Aids Go.Proofs.YtgdoebpdpcfbeaaDoorW.PrintWords

/-- One byte. -/
def one (b : Nat) : ByteArray := ⟨#[UInt8.ofNat b]⟩
/-- A number's digits. -/
def dec (n : Nat) : ByteArray := ⟨(Lib.decDigits n).toArray⟩
theorem ba_list {a b : ByteArray} (h : a.data.toList = b.data.toList) : a = b := by
  obtain ⟨⟨a⟩⟩ := a
  obtain ⟨⟨b⟩⟩ := b
  exact congrArg (fun l => (⟨⟨l⟩⟩ : ByteArray)) h
theorem list_append (x y : ByteArray) : (x ++ y).data.toList = x.data.toList ++ y.data.toList := by rw [ByteArray.data_append, Array.toList_append]
theorem dec_low (n : Nat) : dec n = (if n < 10 then ⟨#[]⟩ else dec (n / 10)) ++ one (48 + n % 10) := by
  apply ba_list
  rw [list_append]
  by_cases h : n < 10
  · rw [if_pos h, Nat.mod_eq_of_lt h]
    show Lib.decDigits n = _
    rw [Lib.decDigits, dif_pos h]; rfl
  · rw [if_neg h]
    show Lib.decDigits n = Lib.decDigits (n / 10) ++ _
    rw [Lib.decDigits, dif_neg h]; rfl
theorem one_size (n : Nat) : (one n).size = 1 := rfl
theorem num_one (n : Nat) (h : n < 10) : strOfNums ([wrap64 (48 + ((n : Int))) % 256] : List Int) = one (48 + n) := by
  have hw : wrap64 (48 + (n : Int)) = 48 + n := by unfold wrap64; omega
  rw [hw]
  have : n = 0 ∨ n = 1 ∨ n = 2 ∨ n = 3 ∨ n = 4 ∨ n = 5 ∨ n = 6 ∨ n = 7 ∨ n = 8 ∨ n = 9 := by omega
  rcases this with rfl | rfl | rfl | rfl | rfl | rfl | rfl | rfl | rfl | rfl <;> rfl
theorem ba_assoc (a b c : ByteArray) : a ++ b ++ c = a ++ (b ++ c) := ByteArray.append_assoc
theorem ba_nil (a : ByteArray) : (⟨#[]⟩ : ByteArray) ++ a = a := ByteArray.empty_append
/-- Filled up from the front to three. -/
def pad (s : ByteArray) : ByteArray := blanks (3 - s.size) ++ s
theorem blanks_succ (c : Nat) : blanks (c + 1) = (⟨#[32]⟩ : ByteArray) ++ blanks c := by
  apply ba_list
  rw [list_append]
  rfl
theorem blanks_back (c : Nat) : blanks (c + 1) = blanks c ++ (⟨#[32]⟩ : ByteArray) := by
  induction c with
  | zero => rfl
  | succ c ih => rw [blanks_succ (c + 1), ih, ← ba_assoc, ← blanks_succ c, ih]
theorem l1_pad : ∀ (k : Nat) (x : ByteArray), 3 - x.size < k → x.size ≤ 100 → Pdigits.frisketlaw14_digits.l1 k x = some (pad x)
  | 0, x, h, _ => by omega
  | k + 1, x, h, hx => by
    rw [Pdigits.frisketlaw14_digits.l1]
    by_cases h3 : x.size < 3
    · have hs : ((⟨#[32]⟩ : ByteArray) ++ x).size = 1 + x.size := by rw [ByteArray.size_append]; rfl
      rw [if_pos (by omega), if_pos (by omega), l1_pad k _ (by rw [hs]; omega) (by rw [hs]; omega)]
      congr 1
      unfold pad
      rw [hs, ← ba_assoc, show 3 - x.size = (3 - (1 + x.size)) + 1 by omega, blanks_back]
    · rw [if_neg (by omega)]
      congr 1
      unfold pad
      rw [show 3 - x.size = 0 by omega]
      exact (ba_nil x).symm
theorem l0_pad : ∀ (k n : Nat) (x : ByteArray), n < 100000000 → x.size + n ≤ 200000000 → (x.size ≤ 50 ∧ n < 10 ^ (50 - x.size)) → n + 5 ≤ k → Pdigits.frisketlaw14_digits.l0 k n x = some (pad ((if n < 10 then ⟨#[]⟩ else dec (n / 10)) ++ x))
  | 0, n, x, hn, hx, h9, hk => by omega
  | k + 1, n, x, hn, hx, h9, hk => by
    rw [Pdigits.frisketlaw14_digits.l0]
    by_cases h : n < 10
    · rw [if_neg (by omega), if_pos h, ba_nil, l1_pad k x (by omega) (by omega)]
    · rw [if_pos (by omega), if_neg h, Option.bind_some]
      have e1 : wrap64 (Int.tdiv (n : Int) 10) = ((n / 10 : Nat) : Int) := by rw [Int.tdiv_eq_ediv_of_nonneg (by omega)]; unfold wrap64; omega
      have e2 : Int.tmod ((n / 10 : Nat) : Int) 10 = ((n / 10 % 10 : Nat) : Int) := by rw [Int.tmod_eq_emod_of_nonneg (by omega)]; omega
      rw [e1, e2, num_one _ (by omega)]
      have hsz : (one (48 + n / 10 % 10) ++ x).size = 1 + x.size := by rw [ByteArray.size_append, one_size]
      have hlt : x.size < 50 := by
        rcases Nat.lt_or_ge x.size 50 with h5 | h5
        · exact h5
        · rw [show 50 - x.size = 0 by omega] at h9; simp at h9; omega
      have h10 : n / 10 < 10 ^ (50 - (1 + x.size)) := by
        have := h9.2
        rw [show 50 - x.size = (50 - (1 + x.size)) + 1 by omega, Nat.pow_succ] at this
        omega
      rw [if_pos (by rw [one_size]; omega), l0_pad k (n / 10) _ (by omega) (by rw [hsz]; omega) (by rw [hsz]; exact ⟨by omega, h10⟩) (by omega), dec_low (n / 10), ba_assoc]
theorem digits_calls (n : Nat) (w : World) (hn : n < 100000000) : Calls Tryd.prog 8 #[.int .i64 n] w fun e w' => e = .returned (.string (pad (dec n))) ∧ Below w.heap.size w w' := by
  refine Pdigits.frisketlaw14_digits.calls (n + 5) n (pad (dec n)) w ?_
  unfold Pdigits.frisketlaw14_digits.f
  have e2 : Int.tmod (n : Int) 10 = ((n % 10 : Nat) : Int) := by rw [Int.tmod_eq_emod_of_nonneg (by omega)]; omega
  rw [e2, num_one _ (by omega), l0_pad (n + 5) n _ hn (by rw [one_size]; omega) (by rw [one_size]; exact ⟨by decide, Nat.lt_trans hn (by decide)⟩) (Nat.le_refl _), ← dec_low]
end Go.Proofs.YtgdoebpdpcfbeaaDoor

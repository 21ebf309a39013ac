/- Digits: what it hands back. -/
import Derived.Test.YtkomofphgnekoaaDoorPDigitsx1
import Derived.Test.YtkomofphgnekoaaDoorWalkM
set_option linter.unusedVariables false
set_option linter.unusedSimpArgs false
namespace Go.Proofs.YtkomofphgnekoaaDoor
open Go.Shelf Go.RowKit Go.Lib Go.Aids Go.MapLit Go.Proofs.YtkomofphgnekoaaDoorW.PrintWords

/-- One byte. -/
def one (b : Nat) : ByteArray := ⟨#[UInt8.ofNat b]⟩
/-- A number's digits. -/
def digs (n : Nat) : ByteArray := if h : n < 10 then one (48 + n) else digs (n / 10) ++ one (48 + n % 10)
termination_by n
decreasing_by omega
theorem ba_assoc (a b c : ByteArray) : a ++ b ++ c = a ++ (b ++ c) := ByteArray.append_assoc
theorem ba_nil (a : ByteArray) : (⟨#[]⟩ : ByteArray) ++ a = a := ByteArray.empty_append
theorem num_one (n : Nat) (h : n < 10) : strOfNums ([wrap64 (48 + ((n : Int))) % 256] : List Int) = one (48 + n) := by
  rw [wrap64_in _ (by omega) (by omega)]
  have : n = 0 ∨ n = 1 ∨ n = 2 ∨ n = 3 ∨ n = 4 ∨ n = 5 ∨ n = 6 ∨ n = 7 ∨ n = 8 ∨ n = 9 := by omega
  rcases this with rfl | rfl | rfl | rfl | rfl | rfl | rfl | rfl | rfl | rfl <;> rfl
theorem one_size (n : Nat) : (one n).size = 1 := rfl
theorem digs_split (n : Nat) (h : ¬ n < 10) : digs n = digs (n / 10) ++ one (48 + n % 10) := by rw [digs, dif_neg h]
theorem digs_low (n : Nat) : digs n = (if n < 10 then ⟨#[]⟩ else digs (n / 10)) ++ one (48 + n % 10) := by
  by_cases h : n < 10
  · rw [digs, dif_pos h, if_pos h, ba_nil, Nat.mod_eq_of_lt h]
  · rw [digs, dif_neg h, if_neg h]
theorem l0_digs : ∀ (k n : Nat) (x : ByteArray), n < 1000000000000 → n ≤ k → x.size + n ≤ 1000000000000000 → PDigits.frisketref01_Digits.l0 (k + 1) n x = some ((if n < 10 then ⟨#[]⟩ else digs (n / 10)) ++ x) := by
  intro k
  induction k with
  | zero =>
    intro n x hn hk hx
    obtain rfl : n = 0 := by omega
    rw [if_pos (by omega), ba_nil]
    rfl
  | succ k ih =>
    intro n x hn hk hx
    rw [PDigits.frisketref01_Digits.l0]
    by_cases h : n < 10
    · rw [if_neg (by omega), if_pos h, ba_nil]
    · rw [if_pos (by omega), if_neg h, Option.bind_some]
      have e1 : wrap64 (Int.tdiv (n : Int) 10) = ((n / 10 : Nat) : Int) := by rw [Int.tdiv_eq_ediv_of_nonneg (by omega), wrap64_in _ (by omega) (by omega)]; omega
      have e2 : Int.tmod ((n / 10 : Nat) : Int) 10 = ((n / 10 % 10 : Nat) : Int) := by rw [Int.tmod_eq_emod_of_nonneg (by omega)]; omega
      rw [e1, e2, num_one _ (by omega)]
      have hsz : (one (48 + n / 10 % 10) ++ x).size = 1 + x.size := by rw [ByteArray.size_append, one_size]
      rw [if_pos (by rw [one_size]; omega), ih (n / 10) _ (by omega) (by omega) (by rw [hsz]; omega), digs_low (n / 10), ba_assoc]
theorem digits_calls (n : Nat) (w : World) (hn : n < 1000000000000) : Calls Tryd.prog 21 #[.int .i64 n] w fun e w' => e = .returned (.string (digs n)) ∧ Below w.heap.size w w' := by
  refine PDigits.frisketref01_Digits.calls (n + 1) n (digs n) w ?_
  unfold PDigits.frisketref01_Digits.f
  have e2 : Int.tmod (n : Int) 10 = ((n % 10 : Nat) : Int) := by rw [Int.tmod_eq_emod_of_nonneg (by omega)]; omega
  rw [e2, num_one _ (by omega), l0_digs n n _ hn (Nat.le_refl _) (by rw [one_size]; omega), ← digs_low]
end Go.Proofs.YtkomofphgnekoaaDoor

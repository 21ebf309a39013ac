/- The reference of layer 21: IsName, good say what the plain model says. -/
import Derived.Test.YtnmlpeblbppjbaaP21B
import Derived.Test.YtnmlpeblbppjbaaRefS
set_option linter.unusedVariables false
set_option linter.unusedSimpArgs false
namespace Go.Proofs.Ytnmlpeblbppjbaa
open Go.Lib Go.RowKit Go.Proofs.YtnmlpeblbppjbaaW.PrintWords

theorem wrap64_in (n : Int) (h0 : -9223372036854775808 ≤ n) (h1 : n ≤ 9223372036854775807) : wrap64 n = n := by unfold wrap64; omega
theorem wrap_s (a n : Nat) (h : a < n) (hn : n ≤ 4611686018427387904) : wrap64 ((a : Int) + 1) = ((a + 1 : Nat) : Int) := by rw [wrap64_in _ (by omega) (by omega)]; rfl
theorem bt_pk (s : ByteArray) (a : Nat) (h : a < s.size) : bt s (a : Int) = (pk s a : Int) := by
  have : a < s.data.toList.length := by rw [Array.length_toList]; exact h
  simp [bt, pk, h]
theorem isName_l (s : ByteArray) (hs : s.size ≤ 4611686018427387904) : ∀ f i, s.size ≤ i + f → PStrings.frisketref02_IsName.l0 (f + 1) s (i : Nat) = some (allOk s i)
  | 0, i, h => by
    rw [PStrings.frisketref02_IsName.l0, if_neg (by omega), allOk_end s i (by omega)]
  | f + 1, i, h => by
    rw [PStrings.frisketref02_IsName.l0]
    by_cases hlt : i < s.size
    · rw [if_pos (by omega), if_pos (by omega), bt_pk s i hlt, allOk_step s i hlt]
      by_cases h1 : pk s i < 33
      · rw [if_pos (by omega), show okN (pk s i) = false by unfold okN; rw [decide_eq_false_iff_not]; omega]; rfl
      · rw [if_neg (by omega)]
        by_cases h2 : 126 < pk s i
        · rw [if_pos (by omega), show okN (pk s i) = false by unfold okN; rw [decide_eq_false_iff_not]; omega]; rfl
        · rw [if_neg (by omega)]
          by_cases h3 : pk s i = 93
          · rw [if_pos (by omega), show okN (pk s i) = false by unfold okN; rw [decide_eq_false_iff_not]; omega]; rfl
          · rw [if_neg (by omega), wrap_s i s.size hlt hs, isName_l s hs f (i + 1) (by omega), show okN (pk s i) = true by unfold okN; rw [decide_eq_true_eq]; omega]
            rfl
    · rw [if_neg (by omega), allOk_end s i hlt]
theorem isName_f (s : ByteArray) (hs : s.size ≤ 4611686018427387904) (k : Nat) (hk : s.size + 2 ≤ k) : PStrings.frisketref02_IsName.f k s = some (namedB s) := by
  obtain ⟨g, rfl⟩ : ∃ g, k = g + 2 := ⟨k - 2, by omega⟩
  unfold PStrings.frisketref02_IsName.f namedB
  by_cases h1 : s.size < 1
  · rw [if_pos (by omega), PStrings.frisketref02_IsName.j0, if_pos rfl, decide_eq_false (by omega : ¬ 1 ≤ s.size)]; rfl
  · rw [if_neg (by omega), PStrings.frisketref02_IsName.j0, decide_eq_true (by omega : 1 ≤ s.size)]
    by_cases h2 : 20 < s.size
    · rw [decide_eq_true (by omega : (s.size : Int) > 20), if_pos rfl, decide_eq_false (by omega : ¬ s.size ≤ 20)]; rfl
    · rw [decide_eq_false (by omega : ¬ (s.size : Int) > 20), if_neg (by decide), decide_eq_true (by omega : s.size ≤ 20)]
      have := isName_l s hs g 0 (by omega)
      exact this
theorem cleanF_end (v : ByteArray) (i : Nat) (h : ¬ i < v.size) : cleanF v i = true := by
  unfold cleanF
  rw [show v.size - i = 0 by omega]; rfl
theorem cleanF_step (v : ByteArray) (i : Nat) (h : i < v.size) : cleanF v i = (decide (pk v i ≠ 10 ∧ pk v i ≠ 92) && cleanF v (i + 1)) := by
  unfold cleanF
  rw [show v.size - i = (v.size - (i + 1)) + 1 by omega, List.range_succ_eq_map, List.all_cons, List.all_map]
  congr 1
  congr 1
  funext k
  show decide (pk v (i + (k + 1)) ≠ 10 ∧ pk v (i + (k + 1)) ≠ 92) = _
  rw [show i + (k + 1) = i + 1 + k by omega]
theorem good_l (n v : ByteArray) (hv : v.size ≤ 4611686018427387904) : ∀ f i, v.size ≤ i + f → PStrings.frisketref21_good.l0 (f + 1) (i : Nat) n v = some (cleanF v i)
  | 0, i, h => by
    rw [PStrings.frisketref21_good.l0, if_neg (by omega), cleanF_end v i (by omega)]
  | f + 1, i, h => by
    rw [PStrings.frisketref21_good.l0]
    by_cases hlt : i < v.size
    · rw [if_pos (by omega), if_pos (by omega), bt_pk v i hlt, cleanF_step v i hlt]
      by_cases h1 : pk v i = 10
      · rw [if_pos (by omega), decide_eq_false (by omega : ¬ (pk v i ≠ 10 ∧ pk v i ≠ 92))]; rfl
      · rw [if_neg (by omega)]
        by_cases h2 : pk v i = 92
        · rw [if_pos (by omega), decide_eq_false (by omega : ¬ (pk v i ≠ 10 ∧ pk v i ≠ 92))]; rfl
        · rw [if_neg (by omega), wrap_s i v.size hlt hv, good_l n v hv f (i + 1) (by omega), decide_eq_true (by omega : pk v i ≠ 10 ∧ pk v i ≠ 92)]
          rfl
    · rw [if_neg (by omega), cleanF_end v i hlt]
theorem good_f (n v : ByteArray) (hn : n.size ≤ 140737488351232) (hv : v.size ≤ 140737488351232) (k : Nat) (hk : n.size + v.size + 6 ≤ k) : PStrings.frisketref21_good.f k n v = some (fitsB n v) := by
  obtain ⟨g, rfl⟩ : ∃ g, k = g + 2 := ⟨k - 2, by omega⟩
  unfold PStrings.frisketref21_good.f fitsB
  have hsz : ((⟨#[114, 58]⟩ : ByteArray) ++ n).size = 2 + n.size := by rw [ByteArray.size_append]; rfl
  by_cases h1 : 18 < n.size
  · rw [if_pos (by omega), PStrings.frisketref21_good.j0, if_pos rfl, decide_eq_false (by omega : ¬ n.size ≤ 18)]; rfl
  · rw [if_neg (by omega), if_pos (by omega), isName_f _ (by rw [hsz]; omega) _ (by rw [hsz]; omega), decide_eq_true (by omega : n.size ≤ 18), Option.bind_some]
    cases hq : namedB ((⟨#[114, 58]⟩ : ByteArray) ++ n)
    · rw [if_neg (by decide), PStrings.frisketref21_good.j0, if_pos rfl]; rfl
    · rw [if_pos rfl]
      have hcl := good_l n v (by omega) g 0 (by omega)
      by_cases h2 : v.size = 0
      · have he : v.toList = [] := by
          rw [Lib.toList_data]
          apply List.eq_nil_of_length_eq_zero
          rw [Array.length_toList]; exact h2
        have hp : pk v 0 = 0 := by unfold pk; rw [dif_neg (by omega)]
        rw [if_pos he, PStrings.frisketref21_good.j0, if_neg (by decide), hp]
        refine Eq.trans hcl ?_
        simp
      · have he : ¬ v.toList = [] := by
          rw [Lib.toList_data]
          intro e
          have := congrArg List.length e
          rw [Array.length_toList] at this
          exact h2 this
        have hb : bt v 0 = (pk v 0 : Int) := bt_pk v 0 (by omega)
        rw [if_neg he, if_pos (by omega), hb]
        by_cases h3 : pk v 0 = 32
        · rw [if_pos (by omega), PStrings.frisketref21_good.j0, if_pos rfl, h3]
          simp
        · rw [if_neg (by omega), PStrings.frisketref21_good.j0]
          by_cases h4 : pk v 0 = 34
          · rw [if_pos (by rw [beq_iff_eq]; omega), h4]
            simp
          · rw [if_neg (by rw [beq_iff_eq]; omega), decide_eq_true h3, decide_eq_true h4]
            refine Eq.trans hcl ?_
            simp
end Go.Proofs.Ytnmlpeblbppjbaa

/- Walks of layer 14: Take, every way. -/
import Derived.Test.YtgdoebpdpcfbeaaDoorWalkD
import Derived.Test.YtgdoebpdpcfbeaaDoorWalkE
import Derived.Test.YtgdoebpdpcfbeaaDoorWalkF
import Derived.Test.YtgdoebpdpcfbeaaDoorPureA
import Derived.Lib.SmallJoins
import Derived.Lib.AppendIntMem
set_option linter.unusedVariables false
set_option linter.unusedSimpArgs false
namespace Go.Proofs.YtgdoebpdpcfbeaaDoor
open Go.Shelf Go.RowKit Go.Lib Go.Aids Go.Proofs.YtgdoebpdpcfbeaaDoorW.PrintWords

abbrev Tab (w : World) : Prop := Lib.TabIs Tryd.prog w "internal/strconv.uint64pow10" .u64 Lib.pow10Tab
theorem gPow : Tryd.prog.globalNamed "internal/strconv.uint64pow10" = some 1 := by kernel_rfl
theorem Tab.below {w w' : World} (h : Tab w) (hb : Below w.heap.size w w') : Tab w' := _root_.Go.Joins.tab_stays gPow h hb (Nat.le_refl _)
theorem dec_size : ∀ k n, 0 < k → n < 10 ^ k → (dec n).size ≤ k
  | 0, n, h, _ => absurd h (by decide)
  | k + 1, n, _, hn => by
    rw [dec_low]
    by_cases h : n < 10
    · rw [if_pos h, ByteArray.size_append, one_size]; show 0 + 1 ≤ k + 1; omega
    · rw [if_neg h, ByteArray.size_append, one_size]
      have hk : 0 < k := by
        rcases Nat.eq_zero_or_pos k with rfl | hk
        · simp at hn; omega
        · exact hk
      have := dec_size k (n / 10) hk (by rw [Nat.pow_succ] at hn; omega)
      omega
theorem itoa_calls (n : Nat) (hn : n < 100000000) (w : World) (ht : Tab w) : Calls Tryd.prog 15 #[.int .i64 n] w fun e w' => e = .returned (.string (dec n)) ∧ Below w.heap.size w w' := by
  refine (Tryd.strconv_Itoa n (by omega) (by omega) w ht).mono ?_
  rintro e w' ⟨rfl, k, os, rfl⟩
  refine ⟨?_, Lib.below_grow _ w (Nat.le_refl _) k os⟩
  have e1 : Lib.itoa (n : Int) = Lib.decDigits n := by unfold Lib.itoa; rw [if_neg (by omega)]; rfl
  rw [e1]
  rfl
theorem blanks_three : blanks 3 = ⟨#[32, 32, 32]⟩ := by decide
theorem take_A {n e s i k : Int} (h : Fit n e s i k) (hk : 0 < k) (w : World) : Calls Tryd.prog 7 #[num true n e s i k] w fun e' w' => e' = .returned (.tuple #[.string ⟨#[32, 32, 32]⟩, num true n e s i (k - 1), .int .i64 0]) ∧ Below w.heap.size w w' := by
  rw [← blanks_three]; exact take_skip h hk w
/-- The number behind. -/
def nextN (n : Int) : Int := if n = 1000000 then 0 else n + 1
theorem take_C {n e s i : Int} (h : Fit n e s i 0) (hm : (n.tmod e == 0) = false) (w : World) : Calls Tryd.prog 7 #[num true n e s i 0] w fun e' w' => e' = .returned (.tuple #[.string ⟨#[32, 32, 32]⟩, num true (nextN n) e s i 0, .int .i64 0]) ∧ Below w.heap.size w w' := by
  have h0 := h.n0
  have h1 := h.n1
  have e3 : blanks 3 ++ (⟨#[]⟩ : ByteArray) = ⟨#[32, 32, 32]⟩ := by decide
  by_cases hn : n = 1000000
  · have := none_top h hm (by unfold wrap64; omega) (by rw [hn]; rfl) w (blanks 3) (blanks_size 3 (by decide)) (Lib.hid (fun W => rep_calls 3 (by decide) W))
    rw [e3] at this
    rw [nextN, if_pos hn]; exact this
  · have := none_low h hm (by unfold wrap64; omega) (by rw [decide_eq_false_iff_not]; omega) w (blanks 3) (blanks_size 3 (by decide)) (Lib.hid (fun W => rep_calls 3 (by decide) W))
    rw [e3] at this
    rw [nextN, if_neg hn]; exact this
theorem take_B {m : Nat} {e s i : Int} (h : Fit m e s i 0) (hm : ((m : Int).tmod e == 0) = true) (w : World) (ht : Tab w) : Calls Tryd.prog 7 #[num true m e s i 0] w fun e' w' => e' = .returned (.tuple #[.string (pad (dec m)), num true (nextN m) e s i 0, .int .i64 0]) ∧ Below w.heap.size w w' := by
  have h0 := h.n0
  have h1 := h.n1
  have hsz := dec_size 8 m (by decide) (by omega)
  have HI : Hid (∀ W, Below w.heap.size w W → Calls Tryd.prog 15 #[.int .i64 m] W fun e' w' => e' = .returned (.string (dec m)) ∧ Below W.heap.size W w') := Lib.hid (fun W hb => itoa_calls m (by omega) W (ht.below hb))
  have hw : IntKind.i64.wrap (3 - ((dec m).size : Int)) = 3 - (dec m).size := IntWalk.i64_in _ (by generalize (dec m).size = z at hsz; omega)
  have hc : (if (0 : Int) < IntKind.i64.wrap (3 - ((dec m).size : Int)) then IntKind.i64.wrap (3 - ((dec m).size : Int)) else 0) = ((3 - (dec m).size : Nat) : Int) := by
    rw [hw]
    generalize (dec m).size = z at hsz
    split <;> omega
  have hle : 3 - (dec m).size ≤ 3 := Nat.sub_le _ _
  have HR := Lib.hid (fun W => rep_calls (3 - (dec m).size) hle W)
  have h100 : (dec m).size ≤ 100 := Nat.le_trans hsz (by decide)
  by_cases hn : (m : Int) = 1000000
  · rw [nextN, if_pos hn]
    exact show_top h hm (by unfold wrap64; omega) (by rw [hn]; rfl) w (dec m) h100 HI _ hc (blanks (3 - (dec m).size)) (blanks_size _ hle) HR
  · rw [nextN, if_neg hn]
    exact show_low h hm (by unfold wrap64; omega) (by rw [decide_eq_false_iff_not]; omega) w (dec m) h100 HI _ hc (blanks (3 - (dec m).size)) (blanks_size _ hle) HR
theorem pad_size (s : ByteArray) : ¬ (pad s).size < 3 := by
  have hb : ∀ c, (blanks c).size = c := by
    intro c
    induction c with
    | zero => rfl
    | succ c ih => rw [blanks_succ, ByteArray.size_append, ih]; show 1 + c = c + 1; omega
  unfold pad
  rw [ByteArray.size_append, hb]
  omega
end Go.Proofs.YtgdoebpdpcfbeaaDoor

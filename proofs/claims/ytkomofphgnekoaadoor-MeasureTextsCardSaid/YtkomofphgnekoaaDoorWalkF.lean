/- Walks of layer 1's reader: reckon. -/
import Derived.Test.YtkomofphgnekoaaDoorWalkE
set_option linter.unusedVariables false
set_option linter.unusedSimpArgs false
namespace Go.Proofs.YtkomofphgnekoaaDoor
open Go.Shelf Go.RowKit Go.Lib Go.Aids Go.MapLit

/-- How a quick Out ends: a number, or what is thrown. -/
def Ends (o : Out) (e : Ending) : Prop :=
  match o with
  | .ok n _ => e = .returned (.int .i64 n)
  | .die k => e = thrown k
  | .stuck => False
theorem held_ends (w : World) (b a : Nat) (c : Cx) (n : Int) (h : Rd w b c a) :
    Calls Tryd.prog 44 #[.pointer (some ⟨b, 0, none⟩), .int .i64 n] w fun e w' => w' = w ∧ Ends (heldO c n a) e :=
  (held_calls w b a c n h).mono fun e w' hh => hh

theorem mul_fits (x y : Int) (hx : -1000000000 ≤ x ∧ x ≤ 1000000000) (hy : -1000000000 ≤ y ∧ y ≤ 1000000000) : -1000000000000000000 ≤ x * y ∧ x * y ≤ 1000000000000000000 := by
  have h : (x * y).natAbs ≤ 1000000000 * 1000000000 := by
    rw [Int.natAbs_mul]
    exact Nat.mul_le_mul (by omega) (by omega)
  omega
theorem tdiv_fits (x y : Int) (hx : -1000000000 ≤ x ∧ x ≤ 1000000000) : -1000000000 ≤ x.tdiv y ∧ x.tdiv y ≤ 1000000000 := by
  have h : (x.tdiv y).natAbs ≤ x.natAbs := by rw [Int.natAbs_tdiv]; exact Nat.div_le_self _ _
  omega
theorem tmod_fits (x y : Int) (hx : -1000000000 ≤ x ∧ x ≤ 1000000000) : -1000000000 ≤ x.tmod y ∧ x.tmod y ≤ 1000000000 := by
  have h : (x.tmod y).natAbs ≤ x.natAbs := by rw [Int.natAbs_tmod]; exact Nat.mod_le _ _
  omega

set_option maxRecDepth 100000 in
set_option maxHeartbeats 8000000 in
theorem reckon_live (w : World) (b a : Nat) (c : Cx) (op : ByteArray) (x y : Int) (h : Rd w b c a) (hop : op ∈ ops) (hx : -1000000000 ≤ x ∧ x ≤ 1000000000) (hy : -1000000000 ≤ y ∧ y ≤ 1000000000)
    (hm : c.mute = false) (hz : ¬ ((op = ⟨#[47]⟩ ∨ op = ⟨#[37]⟩) ∧ y = 0)) :
    Calls Tryd.prog 37 #[.pointer (some ⟨b, 0, none⟩), .string op, .int .i64 x, .int .i64 y] w fun e w' => w' = w ∧ Ends (heldO c (reckonV op x y) a) e := by
  obtain ⟨-, -, -, -, -, -, -, h7, -⟩ := h.cells
  rw [hm] at h7
  have m1 := mul_fits x y hx hy
  have m2 := tdiv_fits x y hx
  have m3 := tmod_fits x y hx
  have w1 := wrap64_in (x * y) (by omega) (by omega)
  have w2 := wrap64_in (x.tdiv y) (by omega) (by omega)
  have w3 := wrap64_in (x.tmod y) (by omega) (by omega)
  obtain ⟨hx0, hx1⟩ := hx
  obtain ⟨hy0, hy1⟩ := hy
  clear m1 m2 m3
  obtain ⟨v, hv⟩ : ∃ v, reckonV op x y = v := ⟨_, rfl⟩
  obtain ⟨o, ho⟩ : ∃ o, heldO c v a = o := ⟨_, rfl⟩
  have Hh := Lib.hid (fun wz (hz : Rd wz b c a) => held_ends wz b a c (reckonV op x y) hz)
  rw [hv, ho]
  rw [hv, ho] at Hh
  have Hv := Lib.hid hv
  have HO0 := Lib.hid ho
  clear hv ho
  simp only [ops, List.mem_cons, List.not_mem_nil, or_false] at hop
  rcases o with ⟨n, t⟩ | k | _
  · rcases hop with rfl | rfl | rfl | rfl | rfl | rfl | rfl | rfl | rfl | rfl | rfl | rfl | rfl
    · have hv : (bitO (decide (x ≤ y))) = v := Hv.out
      go_enter Tryd.func37, Tryd.ntmps37
      go_wp2_with (first | (go_at_call 49; (with_reducible refine (bit_calls _ _).mono ?_); rintro e w1 ⟨rfl, rfl⟩) | (go_at_call 44; (with_reducible refine (Hh.out _ h).mono ?_); rintro e w5 ⟨rfl, rfl⟩))
      go_ret
      exact ⟨rfl, rfl⟩
    · have hv : (bitO (decide (x ≥ y))) = v := Hv.out
      go_enter Tryd.func37, Tryd.ntmps37
      go_wp2_with (first | (go_at_call 49; (with_reducible refine (bit_calls _ _).mono ?_); rintro e w1 ⟨rfl, rfl⟩) | (go_at_call 44; (with_reducible refine (Hh.out _ h).mono ?_); rintro e w5 ⟨rfl, rfl⟩))
      go_ret
      exact ⟨rfl, rfl⟩
    · have hv : (bitO (decide (x = y))) = v := Hv.out
      have hv2 : bitO (x == y) = v := by rw [← hv]; congr 1
      go_enter Tryd.func37, Tryd.ntmps37
      go_wp2_with (first | (go_at_call 49; (with_reducible refine (bit_calls _ _).mono ?_); rintro e w1 ⟨rfl, rfl⟩) | (go_at_call 44; (with_reducible refine (Hh.out _ h).mono ?_); rintro e w5 ⟨rfl, rfl⟩))
      go_ret
      exact ⟨rfl, rfl⟩
    · have hv : x + y = v := Hv.out
      go_enter Tryd.func37, Tryd.ntmps37
      go_wp2_with (first | (go_at_call 49; (with_reducible refine (bit_calls _ _).mono ?_); rintro e w1 ⟨rfl, rfl⟩) | (go_at_call 44; (with_reducible refine (Hh.out _ h).mono ?_); rintro e w5 ⟨rfl, rfl⟩))
      go_ret
      exact ⟨rfl, rfl⟩
    · have hv : x - y = v := Hv.out
      go_enter Tryd.func37, Tryd.ntmps37
      go_wp2_with (first | (go_at_call 49; (with_reducible refine (bit_calls _ _).mono ?_); rintro e w1 ⟨rfl, rfl⟩) | (go_at_call 44; (with_reducible refine (Hh.out _ h).mono ?_); rintro e w5 ⟨rfl, rfl⟩))
      go_ret
      exact ⟨rfl, rfl⟩
    · have hv : x * y = v := Hv.out
      have hwv : wrap64 v = v := by rw [← hv]; exact w1
      go_enter Tryd.func37, Tryd.ntmps37
      go_wp2_with (first | (go_at_call 49; (with_reducible refine (bit_calls _ _).mono ?_); rintro e w1 ⟨rfl, rfl⟩) | (go_at_call 44; (with_reducible refine (Hh.out _ h).mono ?_); rintro e w5 ⟨rfl, rfl⟩))
      go_ret
      exact ⟨rfl, rfl⟩
    · have hv : x.tdiv y = v := Hv.out
      have hwv : wrap64 v = v := by rw [← hv]; exact w2
      have hy : ¬ y = 0 := fun hy => hz ⟨by simp, hy⟩
      go_enter Tryd.func37, Tryd.ntmps37
      go_wp2_with (first | (go_at_call 49; (with_reducible refine (bit_calls _ _).mono ?_); rintro e w1 ⟨rfl, rfl⟩) | (go_at_call 44; (with_reducible refine (Hh.out _ h).mono ?_); rintro e w5 ⟨rfl, rfl⟩))
      go_ret
      exact ⟨rfl, rfl⟩
    · have hv : x.tmod y = v := Hv.out
      have hwv : wrap64 v = v := by rw [← hv]; exact w3
      have hy : ¬ y = 0 := fun hy => hz ⟨by simp, hy⟩
      go_enter Tryd.func37, Tryd.ntmps37
      go_wp2_with (first | (go_at_call 49; (with_reducible refine (bit_calls _ _).mono ?_); rintro e w1 ⟨rfl, rfl⟩) | (go_at_call 44; (with_reducible refine (Hh.out _ h).mono ?_); rintro e w5 ⟨rfl, rfl⟩))
      go_ret
      exact ⟨rfl, rfl⟩
    · have hv : (bitO (decide (x < y))) = v := Hv.out
      go_enter Tryd.func37, Tryd.ntmps37
      go_wp2_with (first | (go_at_call 49; (with_reducible refine (bit_calls _ _).mono ?_); rintro e w1 ⟨rfl, rfl⟩) | (go_at_call 44; (with_reducible refine (Hh.out _ h).mono ?_); rintro e w5 ⟨rfl, rfl⟩))
      go_ret
      exact ⟨rfl, rfl⟩
    · have hv : (bitO (decide (x > y))) = v := Hv.out
      go_enter Tryd.func37, Tryd.ntmps37
      go_wp2_with (first | (go_at_call 49; (with_reducible refine (bit_calls _ _).mono ?_); rintro e w1 ⟨rfl, rfl⟩) | (go_at_call 44; (with_reducible refine (Hh.out _ h).mono ?_); rintro e w5 ⟨rfl, rfl⟩))
      go_ret
      exact ⟨rfl, rfl⟩
    · have hv : (bitO (decide (x = y))) = v := Hv.out
      have hv2 : bitO (x == y) = v := by rw [← hv]; congr 1
      go_enter Tryd.func37, Tryd.ntmps37
      go_wp2_with (first | (go_at_call 49; (with_reducible refine (bit_calls _ _).mono ?_); rintro e w1 ⟨rfl, rfl⟩) | (go_at_call 44; (with_reducible refine (Hh.out _ h).mono ?_); rintro e w5 ⟨rfl, rfl⟩))
      go_ret
      exact ⟨rfl, rfl⟩
    · have hv : bitO (decide (x > 0) && decide (y > 0)) = v := Hv.out
      by_cases p1 : 0 < x <;> by_cases p2 : 0 < y
      all_goals
        simp only [p1, p2, gt_iff_lt, decide_true, decide_false, Bool.and_true, Bool.and_false, Bool.true_and, Bool.false_and, Bool.or_true, Bool.or_false, Bool.true_or, Bool.false_or] at hv
        go_enter Tryd.func37, Tryd.ntmps37
        go_wp2_with (first | (go_at_call 49; (with_reducible refine (bit_calls _ _).mono ?_); rintro e w1 ⟨rfl, rfl⟩) | (go_at_call 44; (with_reducible refine (Hh.out _ h).mono ?_); rintro e w5 ⟨rfl, rfl⟩))
        go_ret
        exact ⟨rfl, rfl⟩
    · have hv : bitO (decide (x > 0) || decide (y > 0)) = v := Hv.out
      by_cases p1 : 0 < x <;> by_cases p2 : 0 < y
      all_goals
        simp only [p1, p2, gt_iff_lt, decide_true, decide_false, Bool.and_true, Bool.and_false, Bool.true_and, Bool.false_and, Bool.or_true, Bool.or_false, Bool.true_or, Bool.false_or] at hv
        go_enter Tryd.func37, Tryd.ntmps37
        go_wp2_with (first | (go_at_call 49; (with_reducible refine (bit_calls _ _).mono ?_); rintro e w1 ⟨rfl, rfl⟩) | (go_at_call 44; (with_reducible refine (Hh.out _ h).mono ?_); rintro e w5 ⟨rfl, rfl⟩))
        go_ret
        exact ⟨rfl, rfl⟩
  · rcases hop with rfl | rfl | rfl | rfl | rfl | rfl | rfl | rfl | rfl | rfl | rfl | rfl | rfl
    · have hv : (bitO (decide (x ≤ y))) = v := Hv.out
      go_enter Tryd.func37, Tryd.ntmps37
      go_wp2_with (first | (go_at_call 49; (with_reducible refine (bit_calls _ _).mono ?_); rintro e w1 ⟨rfl, rfl⟩) | (go_at_call 44; (with_reducible refine (Hh.out _ h).mono ?_); rintro e w5 ⟨rfl, rfl⟩))
      exact ⟨rfl, rfl, rfl⟩
    · have hv : (bitO (decide (x ≥ y))) = v := Hv.out
      go_enter Tryd.func37, Tryd.ntmps37
      go_wp2_with (first | (go_at_call 49; (with_reducible refine (bit_calls _ _).mono ?_); rintro e w1 ⟨rfl, rfl⟩) | (go_at_call 44; (with_reducible refine (Hh.out _ h).mono ?_); rintro e w5 ⟨rfl, rfl⟩))
      exact ⟨rfl, rfl, rfl⟩
    · have hv : (bitO (decide (x = y))) = v := Hv.out
      have hv2 : bitO (x == y) = v := by rw [← hv]; congr 1
      go_enter Tryd.func37, Tryd.ntmps37
      go_wp2_with (first | (go_at_call 49; (with_reducible refine (bit_calls _ _).mono ?_); rintro e w1 ⟨rfl, rfl⟩) | (go_at_call 44; (with_reducible refine (Hh.out _ h).mono ?_); rintro e w5 ⟨rfl, rfl⟩))
      exact ⟨rfl, rfl, rfl⟩
    · have hv : x + y = v := Hv.out
      go_enter Tryd.func37, Tryd.ntmps37
      go_wp2_with (first | (go_at_call 49; (with_reducible refine (bit_calls _ _).mono ?_); rintro e w1 ⟨rfl, rfl⟩) | (go_at_call 44; (with_reducible refine (Hh.out _ h).mono ?_); rintro e w5 ⟨rfl, rfl⟩))
      exact ⟨rfl, rfl, rfl⟩
    · have hv : x - y = v := Hv.out
      go_enter Tryd.func37, Tryd.ntmps37
      go_wp2_with (first | (go_at_call 49; (with_reducible refine (bit_calls _ _).mono ?_); rintro e w1 ⟨rfl, rfl⟩) | (go_at_call 44; (with_reducible refine (Hh.out _ h).mono ?_); rintro e w5 ⟨rfl, rfl⟩))
      exact ⟨rfl, rfl, rfl⟩
    · have hv : x * y = v := Hv.out
      have hwv : wrap64 v = v := by rw [← hv]; exact w1
      go_enter Tryd.func37, Tryd.ntmps37
      go_wp2_with (first | (go_at_call 49; (with_reducible refine (bit_calls _ _).mono ?_); rintro e w1 ⟨rfl, rfl⟩) | (go_at_call 44; (with_reducible refine (Hh.out _ h).mono ?_); rintro e w5 ⟨rfl, rfl⟩))
      exact ⟨rfl, rfl, rfl⟩
    · have hv : x.tdiv y = v := Hv.out
      have hwv : wrap64 v = v := by rw [← hv]; exact w2
      have hy : ¬ y = 0 := fun hy => hz ⟨by simp, hy⟩
      go_enter Tryd.func37, Tryd.ntmps37
      go_wp2_with (first | (go_at_call 49; (with_reducible refine (bit_calls _ _).mono ?_); rintro e w1 ⟨rfl, rfl⟩) | (go_at_call 44; (with_reducible refine (Hh.out _ h).mono ?_); rintro e w5 ⟨rfl, rfl⟩))
      exact ⟨rfl, rfl, rfl⟩
    · have hv : x.tmod y = v := Hv.out
      have hwv : wrap64 v = v := by rw [← hv]; exact w3
      have hy : ¬ y = 0 := fun hy => hz ⟨by simp, hy⟩
      go_enter Tryd.func37, Tryd.ntmps37
      go_wp2_with (first | (go_at_call 49; (with_reducible refine (bit_calls _ _).mono ?_); rintro e w1 ⟨rfl, rfl⟩) | (go_at_call 44; (with_reducible refine (Hh.out _ h).mono ?_); rintro e w5 ⟨rfl, rfl⟩))
      exact ⟨rfl, rfl, rfl⟩
    · have hv : (bitO (decide (x < y))) = v := Hv.out
      go_enter Tryd.func37, Tryd.ntmps37
      go_wp2_with (first | (go_at_call 49; (with_reducible refine (bit_calls _ _).mono ?_); rintro e w1 ⟨rfl, rfl⟩) | (go_at_call 44; (with_reducible refine (Hh.out _ h).mono ?_); rintro e w5 ⟨rfl, rfl⟩))
      exact ⟨rfl, rfl, rfl⟩
    · have hv : (bitO (decide (x > y))) = v := Hv.out
      go_enter Tryd.func37, Tryd.ntmps37
      go_wp2_with (first | (go_at_call 49; (with_reducible refine (bit_calls _ _).mono ?_); rintro e w1 ⟨rfl, rfl⟩) | (go_at_call 44; (with_reducible refine (Hh.out _ h).mono ?_); rintro e w5 ⟨rfl, rfl⟩))
      exact ⟨rfl, rfl, rfl⟩
    · have hv : (bitO (decide (x = y))) = v := Hv.out
      have hv2 : bitO (x == y) = v := by rw [← hv]; congr 1
      go_enter Tryd.func37, Tryd.ntmps37
      go_wp2_with (first | (go_at_call 49; (with_reducible refine (bit_calls _ _).mono ?_); rintro e w1 ⟨rfl, rfl⟩) | (go_at_call 44; (with_reducible refine (Hh.out _ h).mono ?_); rintro e w5 ⟨rfl, rfl⟩))
      exact ⟨rfl, rfl, rfl⟩
    · have hv : bitO (decide (x > 0) && decide (y > 0)) = v := Hv.out
      by_cases p1 : 0 < x <;> by_cases p2 : 0 < y
      all_goals
        simp only [p1, p2, gt_iff_lt, decide_true, decide_false, Bool.and_true, Bool.and_false, Bool.true_and, Bool.false_and, Bool.or_true, Bool.or_false, Bool.true_or, Bool.false_or] at hv
        go_enter Tryd.func37, Tryd.ntmps37
        go_wp2_with (first | (go_at_call 49; (with_reducible refine (bit_calls _ _).mono ?_); rintro e w1 ⟨rfl, rfl⟩) | (go_at_call 44; (with_reducible refine (Hh.out _ h).mono ?_); rintro e w5 ⟨rfl, rfl⟩))
        exact ⟨rfl, rfl, rfl⟩
    · have hv : bitO (decide (x > 0) || decide (y > 0)) = v := Hv.out
      by_cases p1 : 0 < x <;> by_cases p2 : 0 < y
      all_goals
        simp only [p1, p2, gt_iff_lt, decide_true, decide_false, Bool.and_true, Bool.and_false, Bool.true_and, Bool.false_and, Bool.or_true, Bool.or_false, Bool.true_or, Bool.false_or] at hv
        go_enter Tryd.func37, Tryd.ntmps37
        go_wp2_with (first | (go_at_call 49; (with_reducible refine (bit_calls _ _).mono ?_); rintro e w1 ⟨rfl, rfl⟩) | (go_at_call 44; (with_reducible refine (Hh.out _ h).mono ?_); rintro e w5 ⟨rfl, rfl⟩))
        exact ⟨rfl, rfl, rfl⟩
  · exact absurd HO0.out heldO_stuck
end Go.Proofs.YtkomofphgnekoaaDoor

/- The reference of layer 21: Strings (turned from the printed text: facts for the sums of lengths). -/
import Derived.Test.YtnmlpeblbppjbaaPStringsx0
import Derived.Test.YtnmlpeblbppjbaaPStringsx1
namespace Go.Proofs.Ytnmlpeblbppjbaa.PStrings
open Go.RowKit Go.Proofs.YtnmlpeblbppjbaaW.PrintWords Go.Proofs.YtnmlpeblbppjbaaW.PrintLast Go.Proofs.YtnmlpeblbppjbaaW.PrintMore
attribute [local go_sem] max2_int min2_int max_two min_two max_three min_three max_four min_four   -- for this text's walks alone
set_option linter.unusedVariables false
set_option linter.unusedSimpArgs false

/-! ### frisketref21_Strings: function 6 -/
mutual
def frisketref21_Strings.l0 : Nat → List (S30) → Int → Option (ByteArray × Int)
  | 0, _, _ => none
  | k + 1, x0, x4 => if x4 < (x0.length : Int) then (if 0 ≤ x4 then ((frisketref21_good.f k ((rd_T30 x0 x4).f0) ((rd_T30 x0 x4).f1)).bind fun t104 => (if t104 = true then (frisketref21_Strings.l0 k x0 (wrap64 (x4 + 1))) else (some ((⟨#[]⟩ : ByteArray), 1)))) else (none)) else (frisketref21_Strings.l1 k x0 (⟨#[]⟩ : ByteArray) 0)
def frisketref21_Strings.l1 : Nat → List (S30) → ByteArray → Int → Option (ByteArray × Int)
  | 0, _, _, _ => none
  | k + 1, x0, x5, x6 => if x6 < (x0.length : Int) then (if 0 ≤ x6 then (frisketref21_Strings.l2 k x0 x5 x6 true ((rd_T30 x0 x6).f1) 0) else (none)) else (some (x5, 0))
def frisketref21_Strings.l2 : Nat → List (S30) → ByteArray → Int → Bool → ByteArray → Int → Option (ByteArray × Int)
  | 0, _, _, _, _, _, _ => none
  | k + 1, x0, x5, x6, x7, x8, x9 => if x9 < (x0.length : Int) then (if 0 ≤ x9 then (if 0 ≤ x6 then (if x6 < (x0.length : Int) then (if ((rd_T30 x0 x9).f0).toList = ((rd_T30 x0 x6).f0).toList then (if x7 = true then (frisketref21_Strings.l2 k x0 x5 x6 (decide (x9 ≥ x6)) ((rd_T30 x0 x9).f1) (wrap64 (x9 + 1))) else (frisketref21_Strings.l2 k x0 x5 x6 false ((rd_T30 x0 x9).f1) (wrap64 (x9 + 1)))) else (frisketref21_Strings.l2 k x0 x5 x6 x7 x8 (wrap64 (x9 + 1)))) else (none)) else (none)) else (none)) else (if x7 = true then (if 0 ≤ x6 then (if x6 < (x0.length : Int) then (if 6 + ((rd_T30 x0 x6).f0).size ≤ 9223372036854775807 then (if ((⟨#[46, 100, 115, 32, 114, 58]⟩ : ByteArray) ++ ((rd_T30 x0 x6).f0)).size + 1 ≤ 9223372036854775807 then (if (((⟨#[46, 100, 115, 32, 114, 58]⟩ : ByteArray) ++ ((rd_T30 x0 x6).f0)) ++ (⟨#[32]⟩ : ByteArray)).size + x8.size ≤ 9223372036854775807 then (if ((((⟨#[46, 100, 115, 32, 114, 58]⟩ : ByteArray) ++ ((rd_T30 x0 x6).f0)) ++ (⟨#[32]⟩ : ByteArray)) ++ x8).size + 1 ≤ 9223372036854775807 then (if x5.size + (((((⟨#[46, 100, 115, 32, 114, 58]⟩ : ByteArray) ++ ((rd_T30 x0 x6).f0)) ++ (⟨#[32]⟩ : ByteArray)) ++ x8) ++ (⟨#[10]⟩ : ByteArray)).size ≤ 9223372036854775807 then (frisketref21_Strings.l1 k x0 (x5 ++ (((((⟨#[46, 100, 115, 32, 114, 58]⟩ : ByteArray) ++ ((rd_T30 x0 x6).f0)) ++ (⟨#[32]⟩ : ByteArray)) ++ x8) ++ (⟨#[10]⟩ : ByteArray))) (wrap64 (x6 + 1))) else (none)) else (none)) else (none)) else (none)) else (none)) else (none)) else (none)) else (frisketref21_Strings.l1 k x0 x5 (wrap64 (x6 + 1))))
end
def frisketref21_Strings.f (k : Nat) (l0 : List (S30)) : Option (ByteArray × Int) := frisketref21_Strings.l0 k l0 0
theorem frisketref21_Strings.mono_l : ∀ k, (∀ y0 y1, LeO (frisketref21_Strings.l0 k y0 y1) (frisketref21_Strings.l0 (k + 1) y0 y1)) ∧ (∀ y0 y1 y2, LeO (frisketref21_Strings.l1 k y0 y1 y2) (frisketref21_Strings.l1 (k + 1) y0 y1 y2)) ∧ (∀ y0 y1 y2 y3 y4 y5, LeO (frisketref21_Strings.l2 k y0 y1 y2 y3 y4 y5) (frisketref21_Strings.l2 (k + 1) y0 y1 y2 y3 y4 y5))
  | 0 => ⟨fun _ _ r h => by simp [frisketref21_Strings.l0] at h, fun _ _ _ r h => by simp [frisketref21_Strings.l1] at h, fun _ _ _ _ _ _ r h => by simp [frisketref21_Strings.l2] at h⟩
  | k + 1 => by
    obtain ⟨ih0, ih1, ih2⟩ := frisketref21_Strings.mono_l k
    refine ⟨?_, ?_, ?_⟩
    · intro y0 y1
      unfold frisketref21_Strings.l0
      repeat' first
      | (with_reducible exact ih0 _ _)
      | (with_reducible exact ih1 _ _ _)
      | (with_reducible exact ih2 _ _ _ _ _ _)
      | (with_reducible exact frisketref21_good.mono _ _ _)
      | (with_reducible exact LeO.refl _)
      | (with_reducible exact LeO.none _)
      | (with_reducible refine LeO.ite ?_ ?_)
      | (with_reducible refine LeO.bind ?_ (fun _ => ?_))
      | exact ih0 _ _
      | exact ih1 _ _ _
      | exact ih2 _ _ _ _ _ _
      | exact frisketref21_good.mono _ _ _
      | exact LeO.none _
      | refine LeO.ite ?_ ?_
      | refine LeO.bind ?_ (fun _ => ?_)
    · intro y0 y1 y2
      unfold frisketref21_Strings.l1
      repeat' first
      | (with_reducible exact ih0 _ _)
      | (with_reducible exact ih1 _ _ _)
      | (with_reducible exact ih2 _ _ _ _ _ _)
      | (with_reducible exact frisketref21_good.mono _ _ _)
      | (with_reducible exact LeO.refl _)
      | (with_reducible exact LeO.none _)
      | (with_reducible refine LeO.ite ?_ ?_)
      | (with_reducible refine LeO.bind ?_ (fun _ => ?_))
      | exact ih0 _ _
      | exact ih1 _ _ _
      | exact ih2 _ _ _ _ _ _
      | exact frisketref21_good.mono _ _ _
      | exact LeO.none _
      | refine LeO.ite ?_ ?_
      | refine LeO.bind ?_ (fun _ => ?_)
    · intro y0 y1 y2 y3 y4 y5
      unfold frisketref21_Strings.l2
      repeat' first
      | (with_reducible exact ih0 _ _)
      | (with_reducible exact ih1 _ _ _)
      | (with_reducible exact ih2 _ _ _ _ _ _)
      | (with_reducible exact frisketref21_good.mono _ _ _)
      | (with_reducible exact LeO.refl _)
      | (with_reducible exact LeO.none _)
      | (with_reducible refine LeO.ite ?_ ?_)
      | (with_reducible refine LeO.bind ?_ (fun _ => ?_))
      | exact ih0 _ _
      | exact ih1 _ _ _
      | exact ih2 _ _ _ _ _ _
      | exact frisketref21_good.mono _ _ _
      | exact LeO.none _
      | refine LeO.ite ?_ ?_
      | refine LeO.bind ?_ (fun _ => ?_)
theorem frisketref21_Strings.mono : ∀ a0 k, LeO (frisketref21_Strings.f k a0) (frisketref21_Strings.f (k + 1) a0) := by
  intro a0 k
  obtain ⟨ih0, ih1, ih2⟩ := frisketref21_Strings.mono_l k
  unfold frisketref21_Strings.f
  repeat' first
      | (with_reducible exact ih0 _ _)
      | (with_reducible exact ih1 _ _ _)
      | (with_reducible exact ih2 _ _ _ _ _ _)
      | (with_reducible exact frisketref21_good.mono _ _ _)
      | (with_reducible exact LeO.refl _)
      | (with_reducible exact LeO.none _)
      | (with_reducible refine LeO.ite ?_ ?_)
      | (with_reducible refine LeO.bind ?_ (fun _ => ?_))
      | exact ih0 _ _
      | exact ih1 _ _ _
      | exact ih2 _ _ _ _ _ _
      | exact frisketref21_good.mono _ _ _
      | exact LeO.none _
      | refine LeO.ite ?_ ?_
      | refine LeO.bind ?_ (fun _ => ?_)
set_option maxHeartbeats 8000000 in
set_option maxRecDepth 100000 in
theorem frisketref21_Strings.calls (k : Nat) (A0 : Option Addr) (c0 : Nat) (l0 : List (S30)) (r1 : ByteArray) (r2 : Int) (w : World) (hr0 : Kd.C k30 w A0 l0.length l0) (hc0 : l0.length ≤ c0) (h : frisketref21_Strings.f k l0 = some (r1, r2)) :
    Calls Try.prog 6 #[.slice A0 l0.length c0] w fun e w' => e = .returned (.tuple #[.string r1, .int .i64 r2]) ∧ Below w.heap.size w w' := by
  have hu30 := Try.underlying30
  have HR0 := Aside0.mk hr0
  have HC0 := Aside0.mk hc0
  clear hr0 hc0
  have HB := Aside0.mk (Below.refl w.heap.size w)
  have H : (frisketref21_Strings.l0 k l0 0) = some (r1, r2) := h
  clear h
  have H' := Aside0.mk H
  clear H
  go_enter Try.func6, Try.ntmps6
  go_wp2
  repeat (go_quiet (fail); try go_wp2)
  go_loopg [4] k (fun kq v4 w' => ∃ (x4_1 : Int), v4 = .int .i64 x4_1 ∧ Aside0 (frisketref21_Strings.l0 kq l0 x4_1 = some (r1, r2)) ∧ Aside0 (kq ≤ k) ∧ Aside0 (Below w.heap.size w w'))
  case atStart => exact ⟨(0), (by first | rfl | (simp; done) | (simp [*]; done)), H', ⟨Nat.le_refl _⟩, ⟨by repeat (first | (with_reducible first | exact HB.out | apply below_alloc | apply pw_below_drewN | apply below_drew1) | exact HB.out)⟩⟩
  case round =>
    clear H'
    obtain ⟨x4_1, rfl, HA, HK1, HB⟩ := hrel
    cases gk with
    | zero => exact absurd HA.out (by simp [frisketref21_Strings.l0])
    | succ k1 =>
      have H := HA.out
      clear HA
      simp only [frisketref21_Strings.l0] at H
      by_cases c2 : x4_1 < (l0.length : Int)
      · rw [if_pos c2] at H
        have c2b0 : decide (x4_1 < (l0.length : Int)) = true := decide_eq_true c2
        clear c2
        by_cases c3 : 0 ≤ x4_1
        · rw [if_pos c3] at H
          have c3b0 : decide (0 ≤ x4_1) = true := decide_eq_true c3
          clear c3
          replace H := Option.bind_eq_some_iff.mp H
          obtain ⟨t104, A40, H⟩ := H
          replace H : (if t104 = true then (frisketref21_Strings.l0 k1 l0 (wrap64 (x4_1 + 1))) else (some ((⟨#[]⟩ : ByteArray), 1))) = some (r1, r2) := H
          have A4 := Aside0.mk A40
          clear A40
          by_cases c5 : t104 = true
          · subst c5
            have H1 : (frisketref21_Strings.l0 k1 l0 (wrap64 (x4_1 + 1))) = some (r1, r2) := by rw [if_pos rfl] at H; exact H
            clear H
            have H := H1
            clear H1
            have H' := Aside0.mk H
            clear H
            have p103 : 0 ≤ (x4_1 : Int) := of_decide_eq_true (by first | (with_reducible assumption) | assumption)
            have q103 : x4_1 < (l0.length : Int) := of_decide_eq_true (by first | (with_reducible assumption) | assumption)
            obtain ⟨ad103, e103, hx103_0, hx103_1⟩ := at_T30 HR0.out x4_1 p103 q103
            cases e103
            replace hx103_0 := (HB.out.cell (World.block_lt_of_cell? w _ hx103_0)).trans hx103_0
            replace hx103_1 := (HB.out.cell (World.block_lt_of_cell? w _ hx103_1)).trans hx103_1
            replace p103 := eq_true p103
            replace q103 := eq_true q103
            go_wp2_with (first | (go_at_call 11; (with_reducible refine (frisketref21_good.calls k1 ((rd_T30 l0 x4_1).f0) ((rd_T30 l0 x4_1).f1) true _ A4.out).mono ?_); rintro e w6 ⟨rfl, hb⟩; have n0_ := Aside0.mk (below_step (by repeat (first | (with_reducible first | exact HB.out | apply below_alloc | apply pw_below_drewN | apply below_drew1) | exact HB.out)) hb); clear HB; have HB := n0_; clear n0_; (try clear hb); (try clear hb2); (try clear hk); (try clear hi)))
            repeat (go_quiet (first | (go_at_call 11; (with_reducible refine (frisketref21_good.calls k1 ((rd_T30 l0 x4_1).f0) ((rd_T30 l0 x4_1).f1) true _ A4.out).mono ?_); rintro e w6 ⟨rfl, hb⟩; have n0_ := Aside0.mk (below_step (by repeat (first | (with_reducible first | exact HB.out | apply below_alloc | apply pw_below_drewN | apply below_drew1) | exact HB.out)) hb); clear HB; have HB := n0_; clear n0_; (try clear hb); (try clear hb2); (try clear hk); (try clear hi))); try go_wp2_with (first | (go_at_call 11; (with_reducible refine (frisketref21_good.calls k1 ((rd_T30 l0 x4_1).f0) ((rd_T30 l0 x4_1).f1) true _ A4.out).mono ?_); rintro e w6 ⟨rfl, hb⟩; have n0_ := Aside0.mk (below_step (by repeat (first | (with_reducible first | exact HB.out | apply below_alloc | apply pw_below_drewN | apply below_drew1) | exact HB.out)) hb); clear HB; have HB := n0_; clear n0_; (try clear hb); (try clear hb2); (try clear hk); (try clear hi))))
            go_roundg k1
            case measure => have := HK1.out; omega
            case rel => exact ⟨(wrap64 (x4_1 + 1)), (by first | rfl | (simp; done) | (simp [*]; done)), H', ⟨by have := HK1.out; omega⟩, ⟨by repeat (first | (with_reducible first | exact HB.out | apply below_alloc | apply pw_below_drewN | apply below_drew1) | exact HB.out)⟩⟩
          · replace c5 := Bool.eq_false_iff.mpr c5
            subst c5
            have H1 : (some ((⟨#[]⟩ : ByteArray), 1)) = some (r1, r2) := by rw [if_neg (show ¬ (false = true) by decide)] at H; exact H
            clear H
            have H := H1
            clear H1
            simp only [Option.some.injEq, Prod.mk.injEq] at H
            obtain ⟨rfl, rfl⟩ := H
            have p103 : 0 ≤ (x4_1 : Int) := of_decide_eq_true (by first | (with_reducible assumption) | assumption)
            have q103 : x4_1 < (l0.length : Int) := of_decide_eq_true (by first | (with_reducible assumption) | assumption)
            obtain ⟨ad103, e103, hx103_0, hx103_1⟩ := at_T30 HR0.out x4_1 p103 q103
            cases e103
            replace hx103_0 := (HB.out.cell (World.block_lt_of_cell? w _ hx103_0)).trans hx103_0
            replace hx103_1 := (HB.out.cell (World.block_lt_of_cell? w _ hx103_1)).trans hx103_1
            replace p103 := eq_true p103
            replace q103 := eq_true q103
            go_wp2_with (first | (go_at_call 11; (with_reducible refine (frisketref21_good.calls k1 ((rd_T30 l0 x4_1).f0) ((rd_T30 l0 x4_1).f1) false _ A4.out).mono ?_); rintro e w7 ⟨rfl, hb⟩; have n0_ := Aside0.mk (below_step (by repeat (first | (with_reducible first | exact HB.out | apply below_alloc | apply pw_below_drewN | apply below_drew1) | exact HB.out)) hb); clear HB; have HB := n0_; clear n0_; (try clear hb); (try clear hb2); (try clear hk); (try clear hi)))
            repeat (go_quiet (first | (go_at_call 11; (with_reducible refine (frisketref21_good.calls k1 ((rd_T30 l0 x4_1).f0) ((rd_T30 l0 x4_1).f1) false _ A4.out).mono ?_); rintro e w7 ⟨rfl, hb⟩; have n0_ := Aside0.mk (below_step (by repeat (first | (with_reducible first | exact HB.out | apply below_alloc | apply pw_below_drewN | apply below_drew1) | exact HB.out)) hb); clear HB; have HB := n0_; clear n0_; (try clear hb); (try clear hb2); (try clear hk); (try clear hi))); try go_wp2_with (first | (go_at_call 11; (with_reducible refine (frisketref21_good.calls k1 ((rd_T30 l0 x4_1).f0) ((rd_T30 l0 x4_1).f1) false _ A4.out).mono ?_); rintro e w7 ⟨rfl, hb⟩; have n0_ := Aside0.mk (below_step (by repeat (first | (with_reducible first | exact HB.out | apply below_alloc | apply pw_below_drewN | apply below_drew1) | exact HB.out)) hb); clear HB; have HB := n0_; clear n0_; (try clear hb); (try clear hb2); (try clear hk); (try clear hi))))
            go_ret2
            exact ⟨by first | rfl | (simp [errW_none, errW_some] <;> rfl) | (simp [*, errW_none, errW_some] <;> rfl), by repeat (first | (with_reducible first | exact HB.out | apply below_alloc | apply pw_below_drewN | apply below_drew1) | exact HB.out)⟩
        · rw [if_neg c3] at H
          exact absurd H (by simp)
      · rw [if_neg c2] at H
        have c2b0 : decide (x4_1 < (l0.length : Int)) = false := decide_eq_false c2
        clear c2
        have H' := Aside0.mk H
        clear H
        go_wp2
        repeat (go_quiet (fail); try go_wp2)
        go_loopg [5, 6] k1 (fun kq v5 v6 w' => ∃ (x5_2 : ByteArray) (x6_2 : Int), v5 = .string x5_2 ∧ v6 = .int .i64 x6_2 ∧ Aside0 (frisketref21_Strings.l1 kq l0 x5_2 x6_2 = some (r1, r2)) ∧ Aside0 (kq ≤ k1) ∧ Aside0 (Below w.heap.size w w'))
        case atStart => exact ⟨((⟨#[]⟩ : ByteArray)), (0), (by first | rfl | (simp; done) | (simp [*]; done)), (by first | rfl | (simp; done) | (simp [*]; done)), H', ⟨Nat.le_refl _⟩, ⟨by repeat (first | (with_reducible first | exact HB.out | apply below_alloc | apply pw_below_drewN | apply below_drew1) | exact HB.out)⟩⟩
        case round =>
          clear H'
          try clear p1
          try clear q1
          try clear hx1
          try clear c2
          try clear c2b0
          try clear p2
          try clear c3
          try clear c3b0
          try clear c5
          try clear c6
          try clear p6
          try clear hx103_0
          try clear hx103_1
          try clear p103
          try clear q103
          obtain ⟨x5_2, x6_2, rfl, rfl, HA, HK2, HB⟩ := hrel
          cases gk with
          | zero => exact absurd HA.out (by simp [frisketref21_Strings.l1])
          | succ k2 =>
            have H := HA.out
            clear HA
            simp only [frisketref21_Strings.l1] at H
            by_cases c8 : x6_2 < (l0.length : Int)
            · rw [if_pos c8] at H
              have c8b0 : decide (x6_2 < (l0.length : Int)) = true := decide_eq_true c8
              clear c8
              by_cases c9 : 0 ≤ x6_2
              · rw [if_pos c9] at H
                have c9b0 : decide (0 ≤ x6_2) = true := decide_eq_true c9
                clear c9
                have H' := Aside0.mk H
                clear H
                have p105 : 0 ≤ (x6_2 : Int) := of_decide_eq_true (by first | (with_reducible assumption) | assumption)
                have q105 : x6_2 < (l0.length : Int) := of_decide_eq_true (by first | (with_reducible assumption) | assumption)
                obtain ⟨ad105, e105, hx105_0, hx105_1⟩ := at_T30 HR0.out x6_2 p105 q105
                cases e105
                replace hx105_0 := (HB.out.cell (World.block_lt_of_cell? w _ hx105_0)).trans hx105_0
                replace hx105_1 := (HB.out.cell (World.block_lt_of_cell? w _ hx105_1)).trans hx105_1
                replace p105 := eq_true p105
                replace q105 := eq_true q105
                go_wp2
                repeat (go_quiet (fail); try go_wp2)
                go_loopg [7, 8, 9] k2 (fun kq v7 v8 v9 w' => ∃ (x7_3 : Bool) (x8_3 : ByteArray) (x9_3 : Int), v7 = .bool x7_3 ∧ v8 = .string x8_3 ∧ v9 = .int .i64 x9_3 ∧ Aside0 (frisketref21_Strings.l2 kq l0 x5_2 x6_2 x7_3 x8_3 x9_3 = some (r1, r2)) ∧ Aside0 (kq ≤ k2) ∧ Aside0 (Below w.heap.size w w'))
                case atStart => exact ⟨(true), ((rd_T30 l0 x6_2).f1), (0), (by first | rfl | (simp; done) | (simp [*]; done)), (by first | rfl | (simp; done) | (simp [*]; done)), (by first | rfl | (simp; done) | (simp [*]; done)), H', ⟨Nat.le_refl _⟩, ⟨by repeat (first | (with_reducible first | exact HB.out | apply below_alloc | apply pw_below_drewN | apply below_drew1) | exact HB.out)⟩⟩
                case round =>
                  clear H'
                  try clear p1
                  try clear q1
                  try clear hx1
                  try clear c2
                  try clear c2b0
                  try clear p2
                  try clear c3
                  try clear c3b0
                  try clear c5
                  try clear c6
                  try clear p6
                  try clear c8
                  try clear c8b0
                  try clear c9
                  try clear c9b0
                  try clear hx103_0
                  try clear hx103_1
                  try clear hx105_0
                  try clear hx105_1
                  try clear p1
                  try clear p103
                  try clear p105
                  try clear p2
                  try clear p6
                  try clear q1
                  try clear q103
                  try clear q105
                  obtain ⟨x7_3, x8_3, x9_3, rfl, rfl, rfl, HA, HK3, HB⟩ := hrel
                  cases gk with
                  | zero => exact absurd HA.out (by simp [frisketref21_Strings.l2])
                  | succ k3 =>
                    have H := HA.out
                    clear HA
                    simp only [frisketref21_Strings.l2] at H
                    by_cases c10 : x9_3 < (l0.length : Int)
                    · rw [if_pos c10] at H
                      have c10b0 : decide (x9_3 < (l0.length : Int)) = true := decide_eq_true c10
                      clear c10
                      by_cases c11 : 0 ≤ x9_3
                      · rw [if_pos c11] at H
                        have c11b0 : decide (0 ≤ x9_3) = true := decide_eq_true c11
                        clear c11
                        by_cases c12 : 0 ≤ x6_2
                        · rw [if_pos c12] at H
                          have c12b0 : decide (0 ≤ x6_2) = true := decide_eq_true c12
                          clear c12
                          by_cases c13 : x6_2 < (l0.length : Int)
                          · rw [if_pos c13] at H
                            have c13b0 : decide (x6_2 < (l0.length : Int)) = true := decide_eq_true c13
                            clear c13
                            by_cases c14 : ((rd_T30 l0 x9_3).f0).toList = ((rd_T30 l0 x6_2).f0).toList
                            · rw [if_pos c14] at H
                              have c14b0 : (((rd_T30 l0 x9_3).f0).toList == ((rd_T30 l0 x6_2).f0).toList) = true := beq_iff_eq.mpr c14
                              have c14b1 : (((rd_T30 l0 x9_3).f0).toList != ((rd_T30 l0 x6_2).f0).toList) = false := bne_eq_false_iff_eq.mpr c14
                              clear c14
                              by_cases c15 : x7_3 = true
                              · subst c15
                                have H1 : (frisketref21_Strings.l2 k3 l0 x5_2 x6_2 (decide (x9_3 ≥ x6_2)) ((rd_T30 l0 x9_3).f1) (wrap64 (x9_3 + 1))) = some (r1, r2) := by rw [if_pos rfl] at H; exact H
                                clear H
                                have H := H1
                                clear H1
                                have H' := Aside0.mk H
                                clear H
                                have p106 : 0 ≤ (x9_3 : Int) := of_decide_eq_true (by first | (with_reducible assumption) | assumption)
                                have q106 : x9_3 < (l0.length : Int) := of_decide_eq_true (by first | (with_reducible assumption) | assumption)
                                obtain ⟨ad106, e106, hx106_0, hx106_1⟩ := at_T30 HR0.out x9_3 p106 q106
                                obtain rfl : ad105 = ad106 := (by injection e106)
                                replace hx106_0 := (HB.out.cell (World.block_lt_of_cell? w _ hx106_0)).trans hx106_0
                                replace hx106_1 := (HB.out.cell (World.block_lt_of_cell? w _ hx106_1)).trans hx106_1
                                replace p106 := eq_true p106
                                replace q106 := eq_true q106
                                have p107 : 0 ≤ (x6_2 : Int) := of_decide_eq_true (by first | (with_reducible assumption) | assumption)
                                have q107 : x6_2 < (l0.length : Int) := of_decide_eq_true (by first | (with_reducible assumption) | assumption)
                                obtain ⟨ad107, e107, hx107_0, hx107_1⟩ := at_T30 HR0.out x6_2 p107 q107
                                obtain rfl : ad105 = ad107 := (by injection e107)
                                replace hx107_0 := (HB.out.cell (World.block_lt_of_cell? w _ hx107_0)).trans hx107_0
                                replace hx107_1 := (HB.out.cell (World.block_lt_of_cell? w _ hx107_1)).trans hx107_1
                                replace p107 := eq_true p107
                                replace q107 := eq_true q107
                                have p108 : 0 ≤ (x9_3 : Int) := of_decide_eq_true (by first | (with_reducible assumption) | assumption)
                                have q108 : x9_3 < (l0.length : Int) := of_decide_eq_true (by first | (with_reducible assumption) | assumption)
                                obtain ⟨ad108, e108, hx108_0, hx108_1⟩ := at_T30 HR0.out x9_3 p108 q108
                                obtain rfl : ad105 = ad108 := (by injection e108)
                                replace hx108_0 := (HB.out.cell (World.block_lt_of_cell? w _ hx108_0)).trans hx108_0
                                replace hx108_1 := (HB.out.cell (World.block_lt_of_cell? w _ hx108_1)).trans hx108_1
                                replace p108 := eq_true p108
                                replace q108 := eq_true q108
                                go_wp2
                                repeat (go_quiet (fail); try go_wp2)
                                go_roundg k3
                                case measure => have := HK1.out; have := HK2.out; have := HK3.out; omega
                                case rel => exact ⟨(decide (x9_3 ≥ x6_2)), ((rd_T30 l0 x9_3).f1), (wrap64 (x9_3 + 1)), (by first | rfl | (simp; done) | (simp [*]; done)), (by first | rfl | (simp; done) | (simp [*]; done)), (by first | rfl | (simp; done) | (simp [*]; done)), H', ⟨by have := HK1.out; have := HK2.out; have := HK3.out; omega⟩, ⟨by repeat (first | (with_reducible first | exact HB.out | apply below_alloc | apply pw_below_drewN | apply below_drew1) | exact HB.out)⟩⟩
                              · replace c15 := Bool.eq_false_iff.mpr c15
                                subst c15
                                have H1 : (frisketref21_Strings.l2 k3 l0 x5_2 x6_2 false ((rd_T30 l0 x9_3).f1) (wrap64 (x9_3 + 1))) = some (r1, r2) := by rw [if_neg (show ¬ (false = true) by decide)] at H; exact H
                                clear H
                                have H := H1
                                clear H1
                                have H' := Aside0.mk H
                                clear H
                                have p106 : 0 ≤ (x9_3 : Int) := of_decide_eq_true (by first | (with_reducible assumption) | assumption)
                                have q106 : x9_3 < (l0.length : Int) := of_decide_eq_true (by first | (with_reducible assumption) | assumption)
                                obtain ⟨ad106, e106, hx106_0, hx106_1⟩ := at_T30 HR0.out x9_3 p106 q106
                                obtain rfl : ad105 = ad106 := (by injection e106)
                                replace hx106_0 := (HB.out.cell (World.block_lt_of_cell? w _ hx106_0)).trans hx106_0
                                replace hx106_1 := (HB.out.cell (World.block_lt_of_cell? w _ hx106_1)).trans hx106_1
                                replace p106 := eq_true p106
                                replace q106 := eq_true q106
                                have p107 : 0 ≤ (x6_2 : Int) := of_decide_eq_true (by first | (with_reducible assumption) | assumption)
                                have q107 : x6_2 < (l0.length : Int) := of_decide_eq_true (by first | (with_reducible assumption) | assumption)
                                obtain ⟨ad107, e107, hx107_0, hx107_1⟩ := at_T30 HR0.out x6_2 p107 q107
                                obtain rfl : ad105 = ad107 := (by injection e107)
                                replace hx107_0 := (HB.out.cell (World.block_lt_of_cell? w _ hx107_0)).trans hx107_0
                                replace hx107_1 := (HB.out.cell (World.block_lt_of_cell? w _ hx107_1)).trans hx107_1
                                replace p107 := eq_true p107
                                replace q107 := eq_true q107
                                have p109 : 0 ≤ (x9_3 : Int) := of_decide_eq_true (by first | (with_reducible assumption) | assumption)
                                have q109 : x9_3 < (l0.length : Int) := of_decide_eq_true (by first | (with_reducible assumption) | assumption)
                                obtain ⟨ad109, e109, hx109_0, hx109_1⟩ := at_T30 HR0.out x9_3 p109 q109
                                obtain rfl : ad105 = ad109 := (by injection e109)
                                replace hx109_0 := (HB.out.cell (World.block_lt_of_cell? w _ hx109_0)).trans hx109_0
                                replace hx109_1 := (HB.out.cell (World.block_lt_of_cell? w _ hx109_1)).trans hx109_1
                                replace p109 := eq_true p109
                                replace q109 := eq_true q109
                                go_wp2
                                repeat (go_quiet (fail); try go_wp2)
                                go_roundg k3
                                case measure => have := HK1.out; have := HK2.out; have := HK3.out; omega
                                case rel => exact ⟨(false), ((rd_T30 l0 x9_3).f1), (wrap64 (x9_3 + 1)), (by first | rfl | (simp; done) | (simp [*]; done)), (by first | rfl | (simp; done) | (simp [*]; done)), (by first | rfl | (simp; done) | (simp [*]; done)), H', ⟨by have := HK1.out; have := HK2.out; have := HK3.out; omega⟩, ⟨by repeat (first | (with_reducible first | exact HB.out | apply below_alloc | apply pw_below_drewN | apply below_drew1) | exact HB.out)⟩⟩
                            · rw [if_neg c14] at H
                              have c14b0 : (((rd_T30 l0 x9_3).f0).toList == ((rd_T30 l0 x6_2).f0).toList) = false := beq_eq_false_iff_ne.mpr c14
                              have c14b1 : (((rd_T30 l0 x9_3).f0).toList != ((rd_T30 l0 x6_2).f0).toList) = true := bne_iff_ne.mpr c14
                              have H' := Aside0.mk H
                              clear H
                              have p106 : 0 ≤ (x9_3 : Int) := of_decide_eq_true (by first | (with_reducible assumption) | assumption)
                              have q106 : x9_3 < (l0.length : Int) := of_decide_eq_true (by first | (with_reducible assumption) | assumption)
                              obtain ⟨ad106, e106, hx106_0, hx106_1⟩ := at_T30 HR0.out x9_3 p106 q106
                              obtain rfl : ad105 = ad106 := (by injection e106)
                              replace hx106_0 := (HB.out.cell (World.block_lt_of_cell? w _ hx106_0)).trans hx106_0
                              replace hx106_1 := (HB.out.cell (World.block_lt_of_cell? w _ hx106_1)).trans hx106_1
                              replace p106 := eq_true p106
                              replace q106 := eq_true q106
                              have p107 : 0 ≤ (x6_2 : Int) := of_decide_eq_true (by first | (with_reducible assumption) | assumption)
                              have q107 : x6_2 < (l0.length : Int) := of_decide_eq_true (by first | (with_reducible assumption) | assumption)
                              obtain ⟨ad107, e107, hx107_0, hx107_1⟩ := at_T30 HR0.out x6_2 p107 q107
                              obtain rfl : ad105 = ad107 := (by injection e107)
                              replace hx107_0 := (HB.out.cell (World.block_lt_of_cell? w _ hx107_0)).trans hx107_0
                              replace hx107_1 := (HB.out.cell (World.block_lt_of_cell? w _ hx107_1)).trans hx107_1
                              replace p107 := eq_true p107
                              replace q107 := eq_true q107
                              go_wp2
                              repeat (go_quiet (fail); try go_wp2)
                              go_roundg k3
                              case measure => have := HK1.out; have := HK2.out; have := HK3.out; omega
                              case rel => exact ⟨(x7_3), (x8_3), (wrap64 (x9_3 + 1)), (by first | rfl | (simp; done) | (simp [*]; done)), (by first | rfl | (simp; done) | (simp [*]; done)), (by first | rfl | (simp; done) | (simp [*]; done)), H', ⟨by have := HK1.out; have := HK2.out; have := HK3.out; omega⟩, ⟨by repeat (first | (with_reducible first | exact HB.out | apply below_alloc | apply pw_below_drewN | apply below_drew1) | exact HB.out)⟩⟩
                          · rw [if_neg c13] at H
                            exact absurd H (by simp)
                        · rw [if_neg c12] at H
                          exact absurd H (by simp)
                      · rw [if_neg c11] at H
                        exact absurd H (by simp)
                    · rw [if_neg c10] at H
                      have c10b0 : decide (x9_3 < (l0.length : Int)) = false := decide_eq_false c10
                      clear c10
                      by_cases c16 : x7_3 = true
                      · subst c16
                        have H1 : (if 0 ≤ x6_2 then (if x6_2 < (l0.length : Int) then (if 6 + ((rd_T30 l0 x6_2).f0).size ≤ 9223372036854775807 then (if ((⟨#[46, 100, 115, 32, 114, 58]⟩ : ByteArray) ++ ((rd_T30 l0 x6_2).f0)).size + 1 ≤ 9223372036854775807 then (if (((⟨#[46, 100, 115, 32, 114, 58]⟩ : ByteArray) ++ ((rd_T30 l0 x6_2).f0)) ++ (⟨#[32]⟩ : ByteArray)).size + x8_3.size ≤ 9223372036854775807 then (if ((((⟨#[46, 100, 115, 32, 114, 58]⟩ : ByteArray) ++ ((rd_T30 l0 x6_2).f0)) ++ (⟨#[32]⟩ : ByteArray)) ++ x8_3).size + 1 ≤ 9223372036854775807 then (if x5_2.size + (((((⟨#[46, 100, 115, 32, 114, 58]⟩ : ByteArray) ++ ((rd_T30 l0 x6_2).f0)) ++ (⟨#[32]⟩ : ByteArray)) ++ x8_3) ++ (⟨#[10]⟩ : ByteArray)).size ≤ 9223372036854775807 then (frisketref21_Strings.l1 k3 l0 (x5_2 ++ (((((⟨#[46, 100, 115, 32, 114, 58]⟩ : ByteArray) ++ ((rd_T30 l0 x6_2).f0)) ++ (⟨#[32]⟩ : ByteArray)) ++ x8_3) ++ (⟨#[10]⟩ : ByteArray))) (wrap64 (x6_2 + 1))) else (none)) else (none)) else (none)) else (none)) else (none)) else (none)) else (none)) = some (r1, r2) := by rw [if_pos rfl] at H; exact H
                        clear H
                        have H := H1
                        clear H1
                        by_cases c17 : 0 ≤ x6_2
                        · rw [if_pos c17] at H
                          have c17b0 : decide (0 ≤ x6_2) = true := decide_eq_true c17
                          clear c17
                          by_cases c18 : x6_2 < (l0.length : Int)
                          · rw [if_pos c18] at H
                            have c18b0 : decide (x6_2 < (l0.length : Int)) = true := decide_eq_true c18
                            clear c18
                            by_cases c19 : 6 + ((rd_T30 l0 x6_2).f0).size ≤ 9223372036854775807
                            · rw [if_pos c19] at H
                              have c19b0 := eq_true c19
                              have c19b1 : decide (6 + ((rd_T30 l0 x6_2).f0).size ≤ 9223372036854775807) = true := decide_eq_true c19
                              try have c19b2 : (9223372036854775807 < 6 + ((rd_T30 l0 x6_2).f0).size) = False := eq_false (Nat.not_lt.2 c19)
                              by_cases c20 : ((⟨#[46, 100, 115, 32, 114, 58]⟩ : ByteArray) ++ ((rd_T30 l0 x6_2).f0)).size + 1 ≤ 9223372036854775807
                              · rw [if_pos c20] at H
                                have c20b0 := eq_true c20
                                have c20b1 : decide (((⟨#[46, 100, 115, 32, 114, 58]⟩ : ByteArray) ++ ((rd_T30 l0 x6_2).f0)).size + 1 ≤ 9223372036854775807) = true := decide_eq_true c20
                                try have c20b2 : (9223372036854775807 < ((⟨#[46, 100, 115, 32, 114, 58]⟩ : ByteArray) ++ ((rd_T30 l0 x6_2).f0)).size + 1) = False := eq_false (Nat.not_lt.2 c20)
                                by_cases c21 : (((⟨#[46, 100, 115, 32, 114, 58]⟩ : ByteArray) ++ ((rd_T30 l0 x6_2).f0)) ++ (⟨#[32]⟩ : ByteArray)).size + x8_3.size ≤ 9223372036854775807
                                · rw [if_pos c21] at H
                                  have c21b0 := eq_true c21
                                  have c21b1 : decide ((((⟨#[46, 100, 115, 32, 114, 58]⟩ : ByteArray) ++ ((rd_T30 l0 x6_2).f0)) ++ (⟨#[32]⟩ : ByteArray)).size + x8_3.size ≤ 9223372036854775807) = true := decide_eq_true c21
                                  try have c21b2 : (9223372036854775807 < (((⟨#[46, 100, 115, 32, 114, 58]⟩ : ByteArray) ++ ((rd_T30 l0 x6_2).f0)) ++ (⟨#[32]⟩ : ByteArray)).size + x8_3.size) = False := eq_false (Nat.not_lt.2 c21)
                                  by_cases c22 : ((((⟨#[46, 100, 115, 32, 114, 58]⟩ : ByteArray) ++ ((rd_T30 l0 x6_2).f0)) ++ (⟨#[32]⟩ : ByteArray)) ++ x8_3).size + 1 ≤ 9223372036854775807
                                  · rw [if_pos c22] at H
                                    have c22b0 := eq_true c22
                                    have c22b1 : decide (((((⟨#[46, 100, 115, 32, 114, 58]⟩ : ByteArray) ++ ((rd_T30 l0 x6_2).f0)) ++ (⟨#[32]⟩ : ByteArray)) ++ x8_3).size + 1 ≤ 9223372036854775807) = true := decide_eq_true c22
                                    try have c22b2 : (9223372036854775807 < ((((⟨#[46, 100, 115, 32, 114, 58]⟩ : ByteArray) ++ ((rd_T30 l0 x6_2).f0)) ++ (⟨#[32]⟩ : ByteArray)) ++ x8_3).size + 1) = False := eq_false (Nat.not_lt.2 c22)
                                    by_cases c23 : x5_2.size + (((((⟨#[46, 100, 115, 32, 114, 58]⟩ : ByteArray) ++ ((rd_T30 l0 x6_2).f0)) ++ (⟨#[32]⟩ : ByteArray)) ++ x8_3) ++ (⟨#[10]⟩ : ByteArray)).size ≤ 9223372036854775807
                                    · rw [if_pos c23] at H
                                      have c23b0 := eq_true c23
                                      have c23b1 : decide (x5_2.size + (((((⟨#[46, 100, 115, 32, 114, 58]⟩ : ByteArray) ++ ((rd_T30 l0 x6_2).f0)) ++ (⟨#[32]⟩ : ByteArray)) ++ x8_3) ++ (⟨#[10]⟩ : ByteArray)).size ≤ 9223372036854775807) = true := decide_eq_true c23
                                      try have c23b2 : (9223372036854775807 < x5_2.size + (((((⟨#[46, 100, 115, 32, 114, 58]⟩ : ByteArray) ++ ((rd_T30 l0 x6_2).f0)) ++ (⟨#[32]⟩ : ByteArray)) ++ x8_3) ++ (⟨#[10]⟩ : ByteArray)).size) = False := eq_false (Nat.not_lt.2 c23)
                                      have H' := Aside0.mk H
                                      clear H
                                      have p110 : 0 ≤ (x6_2 : Int) := of_decide_eq_true (by first | (with_reducible assumption) | assumption)
                                      have q110 : x6_2 < (l0.length : Int) := of_decide_eq_true (by first | (with_reducible assumption) | assumption)
                                      obtain ⟨ad110, e110, hx110_0, hx110_1⟩ := at_T30 HR0.out x6_2 p110 q110
                                      obtain rfl : ad105 = ad110 := (by injection e110)
                                      replace hx110_0 := (HB.out.cell (World.block_lt_of_cell? w _ hx110_0)).trans hx110_0
                                      replace hx110_1 := (HB.out.cell (World.block_lt_of_cell? w _ hx110_1)).trans hx110_1
                                      replace p110 := eq_true p110
                                      replace q110 := eq_true q110
                                      have nn0 : 6 + ((rd_T30 l0 x6_2).f0).size + 1 ≤ 9223372036854775807 := by have q := c20; simp only [ByteArray.size_append] at q; exact q
                                      have nt0 := eq_true nn0
                                      have nd0 : decide (6 + ((rd_T30 l0 x6_2).f0).size + 1 ≤ 9223372036854775807) = true := decide_eq_true nn0
                                      have nl0 : (9223372036854775807 < 6 + ((rd_T30 l0 x6_2).f0).size + 1) = False := eq_false (Nat.not_lt.2 nn0)
                                      have nn1 : 6 + ((rd_T30 l0 x6_2).f0).size + 1 + x8_3.size ≤ 9223372036854775807 := by have q := c21; simp only [ByteArray.size_append] at q; exact q
                                      have nt1 := eq_true nn1
                                      have nd1 : decide (6 + ((rd_T30 l0 x6_2).f0).size + 1 + x8_3.size ≤ 9223372036854775807) = true := decide_eq_true nn1
                                      have nl1 : (9223372036854775807 < 6 + ((rd_T30 l0 x6_2).f0).size + 1 + x8_3.size) = False := eq_false (Nat.not_lt.2 nn1)
                                      have nn2 : 6 + ((rd_T30 l0 x6_2).f0).size + 1 + x8_3.size + 1 ≤ 9223372036854775807 := by have q := c22; simp only [ByteArray.size_append] at q; exact q
                                      have nt2 := eq_true nn2
                                      have nd2 : decide (6 + ((rd_T30 l0 x6_2).f0).size + 1 + x8_3.size + 1 ≤ 9223372036854775807) = true := decide_eq_true nn2
                                      have nl2 : (9223372036854775807 < 6 + ((rd_T30 l0 x6_2).f0).size + 1 + x8_3.size + 1) = False := eq_false (Nat.not_lt.2 nn2)
                                      have nn3 : x5_2.size + (6 + ((rd_T30 l0 x6_2).f0).size + 1 + x8_3.size + 1) ≤ 9223372036854775807 := by have q := c23; simp only [ByteArray.size_append] at q; exact q
                                      have nt3 := eq_true nn3
                                      have nd3 : decide (x5_2.size + (6 + ((rd_T30 l0 x6_2).f0).size + 1 + x8_3.size + 1) ≤ 9223372036854775807) = true := decide_eq_true nn3
                                      have nl3 : (9223372036854775807 < x5_2.size + (6 + ((rd_T30 l0 x6_2).f0).size + 1 + x8_3.size + 1)) = False := eq_false (Nat.not_lt.2 nn3)
                                      go_wp2
                                      repeat (go_quiet (fail); try go_wp2)
                                      go_roundg k3
                                      case measure => have := HK1.out; have := HK2.out; have := HK3.out; omega
                                      case rel => exact ⟨(x5_2 ++ (((((⟨#[46, 100, 115, 32, 114, 58]⟩ : ByteArray) ++ ((rd_T30 l0 x6_2).f0)) ++ (⟨#[32]⟩ : ByteArray)) ++ x8_3) ++ (⟨#[10]⟩ : ByteArray))), (wrap64 (x6_2 + 1)), (by first | rfl | (simp; done) | (simp [*]; done)), (by first | rfl | (simp; done) | (simp [*]; done)), H', ⟨by have := HK1.out; have := HK2.out; have := HK3.out; omega⟩, ⟨by repeat (first | (with_reducible first | exact HB.out | apply below_alloc | apply pw_below_drewN | apply below_drew1) | exact HB.out)⟩⟩
                                    · rw [if_neg c23] at H
                                      exact absurd H (by simp)
                                  · rw [if_neg c22] at H
                                    exact absurd H (by simp)
                                · rw [if_neg c21] at H
                                  exact absurd H (by simp)
                              · rw [if_neg c20] at H
                                exact absurd H (by simp)
                            · rw [if_neg c19] at H
                              exact absurd H (by simp)
                          · rw [if_neg c18] at H
                            exact absurd H (by simp)
                        · rw [if_neg c17] at H
                          exact absurd H (by simp)
                      · replace c16 := Bool.eq_false_iff.mpr c16
                        subst c16
                        have H1 : (frisketref21_Strings.l1 k3 l0 x5_2 (wrap64 (x6_2 + 1))) = some (r1, r2) := by rw [if_neg (show ¬ (false = true) by decide)] at H; exact H
                        clear H
                        have H := H1
                        clear H1
                        have H' := Aside0.mk H
                        clear H
                        go_wp2
                        repeat (go_quiet (fail); try go_wp2)
                        go_roundg k3
                        case measure => have := HK1.out; have := HK2.out; have := HK3.out; omega
                        case rel => exact ⟨(x5_2), (wrap64 (x6_2 + 1)), (by first | rfl | (simp; done) | (simp [*]; done)), (by first | rfl | (simp; done) | (simp [*]; done)), H', ⟨by have := HK1.out; have := HK2.out; have := HK3.out; omega⟩, ⟨by repeat (first | (with_reducible first | exact HB.out | apply below_alloc | apply pw_below_drewN | apply below_drew1) | exact HB.out)⟩⟩
              · rw [if_neg c9] at H
                exact absurd H (by simp)
            · rw [if_neg c8] at H
              have c8b0 : decide (x6_2 < (l0.length : Int)) = false := decide_eq_false c8
              clear c8
              simp only [Option.some.injEq, Prod.mk.injEq] at H
              obtain ⟨rfl, rfl⟩ := H
              go_wp2
              repeat (go_quiet (fail); try go_wp2)
              go_ret2
              exact ⟨by first | rfl | (simp [errW_none, errW_some] <;> rfl) | (simp [*, errW_none, errW_some] <;> rfl), by repeat (first | (with_reducible first | exact HB.out | apply below_alloc | apply pw_below_drewN | apply below_drew1) | exact HB.out)⟩

end Go.Proofs.Ytnmlpeblbppjbaa.PStrings

/- Printed by the kit's print, over a shorter text. -/
import Derived.Test.YtmmfojaeahcohaaPTabsMadex0
import Derived.Test.YtmmfojaeahcohaaNextE
namespace Go.Proofs.Ytmmfojaeahcohaa.PTabsMade
open Go.RowKit Go.Proofs.YtmmfojaeahcohaaW.PrintWords Go.Proofs.YtmmfojaeahcohaaW.PrintLast Go.Proofs.YtmmfojaeahcohaaW.PrintMore
attribute [local go_sem] max2_int min2_int max_two min_two max_three min_three max_four min_four   -- for this text's walks alone
set_option linter.unusedVariables false
set_option linter.unusedSimpArgs false

/-! ### frisketlaw11_Row: function 46 -/
mutual
def frisketlaw11_Row.l0 : Nat → List Int → List (S28) → Int → Option ((List (S28)))
  | 0, _, _, _ => none
  | k + 1, x0, x3, x4 => if x4 < (x0.length : Int) then (frisketlaw11_Row.j1 k x0 x3 x4 (decide (x4 < 120))) else (frisketlaw11_Row.j1 k x0 x3 x4 false)
def frisketlaw11_Row.j1 : Nat → List Int → List (S28) → Int → Bool → Option ((List (S28)))
  | 0, _, _, _, _ => none
  | k + 1, x0, x3, x4, x13 => if x13 = true then (if 0 ≤ x4 then (if x4 < (x0.length : Int) then (if (Int.tmod (wrap64 (Int.tmod (IntKind.u64.wrap (rd x0 x4)) 100000)) 12) = 0 then (frisketlaw11_Row.j2 k x0 x3 x4 (wrap64 (Int.tmod (IntKind.u64.wrap (rd x0 x4)) 100000)) (Int.tmod (wrap64 (Int.tmod (IntKind.u64.wrap (rd x0 x4)) 100000)) 12) ((Int.tmod (wrap64 (Int.tmod (IntKind.u64.wrap (rd x0 x4)) 100000)) 12) == 0)) else (if (Int.tmod (wrap64 (Int.tmod (IntKind.u64.wrap (rd x0 x4)) 100000)) 12) = 1 then (frisketlaw11_Row.j2 k x0 x3 x4 (wrap64 (Int.tmod (IntKind.u64.wrap (rd x0 x4)) 100000)) (Int.tmod (wrap64 (Int.tmod (IntKind.u64.wrap (rd x0 x4)) 100000)) 12) ((Int.tmod (wrap64 (Int.tmod (IntKind.u64.wrap (rd x0 x4)) 100000)) 12) == 1)) else (frisketlaw11_Row.j2 k x0 x3 x4 (wrap64 (Int.tmod (IntKind.u64.wrap (rd x0 x4)) 100000)) (Int.tmod (wrap64 (Int.tmod (IntKind.u64.wrap (rd x0 x4)) 100000)) 12) ((Int.tmod (wrap64 (Int.tmod (IntKind.u64.wrap (rd x0 x4)) 100000)) 12) == 2)))) else (none)) else (none)) else (some x3)
def frisketlaw11_Row.j2 : Nat → List Int → List (S28) → Int → Int → Int → Bool → Option ((List (S28)))
  | 0, _, _, _, _, _, _ => none
  | k + 1, x0, x3, x4, x5, x24, x41 => if x41 = true then ((frisketlaw11_blank.f (Int.tmod (wrap64 (Int.tdiv x5 12)) 20)).bind fun bt199 => (if x3.length < 1599289640401 then (frisketlaw11_Row.l0 k x0 (x3 ++ [(⟨bt199.1, bt199.2.1, bt199.2.2.1, bt199.2.2.2.1, bt199.2.2.2.2.1, bt199.2.2.2.2.2.1, bt199.2.2.2.2.2.2⟩ : S28)]) (wrap64 (x4 + 1))) else (none))) else (if x24 = 3 then (frisketlaw11_Row.j3 k x0 x3 x4 x5 x24 (x24 == 3)) else (frisketlaw11_Row.j3 k x0 x3 x4 x5 x24 (x24 == 4)))
def frisketlaw11_Row.j3 : Nat → List Int → List (S28) → Int → Int → Int → Bool → Option ((List (S28)))
  | 0, _, _, _, _, _, _ => none
  | k + 1, x0, x3, x4, x5, x24, x52 => if x52 = true then (if x3.length < 1599289640401 then (frisketlaw11_Row.l0 k x0 (x3 ++ [(⟨5, 0, 0, 0, (⟨#[]⟩ : ByteArray), (⟨#[]⟩ : ByteArray), ([] : List Int)⟩ : S28)]) (wrap64 (x4 + 1))) else (none)) else (if x24 = 5 then (if x3.length < 1599289640401 then (frisketlaw11_Row.l0 k x0 (x3 ++ [(⟨1, 5, 0, 10, (⟨#[126]⟩ : ByteArray), (⟨#[]⟩ : ByteArray), ([] : List Int)⟩ : S28)]) (wrap64 (x4 + 1))) else (none)) else (if x24 = 6 then (if x3.length < 1599289640401 then (frisketlaw11_Row.l0 k x0 (x3 ++ [(⟨2, wrap64 ((Int.tmod (wrap64 (Int.tdiv x5 12)) 31) - 15), 0, 0, (⟨#[]⟩ : ByteArray), (⟨#[]⟩ : ByteArray), ([] : List Int)⟩ : S28)]) (wrap64 (x4 + 1))) else (none)) else (if x24 = 7 then (if x3.length < 1599289640401 then (frisketlaw11_Row.l0 k x0 (x3 ++ [(⟨6, Int.tmod (wrap64 (Int.tdiv x5 12)) 10, 0, 0, (⟨#[]⟩ : ByteArray), (⟨#[]⟩ : ByteArray), ([] : List Int)⟩ : S28)]) (wrap64 (x4 + 1))) else (none)) else (if 0 ≤ (Int.tmod (wrap64 (Int.tdiv x5 12)) 8) then (if (Int.tmod (wrap64 (Int.tdiv x5 12)) 8) ≤ (wrap64 ((Int.tmod (wrap64 (Int.tdiv x5 12)) 8) + 1)) then (if (wrap64 ((Int.tmod (wrap64 (Int.tdiv x5 12)) 8) + 1)) ≤ 8 then (if x3.length < 1599289640401 then (frisketlaw11_Row.l0 k x0 (x3 ++ [(⟨0, wrap64 (5 + (Int.tmod (wrap64 (Int.tdiv x5 12)) 12)), 0, 10, (⟨#[97, 98, 99, 100, 101, 102, 103, 104]⟩ : ByteArray).extract ((Int.tmod (wrap64 (Int.tdiv x5 12)) 8) : Int).toNat ((wrap64 ((Int.tmod (wrap64 (Int.tdiv x5 12)) 8) + 1)) : Int).toNat, (⟨#[]⟩ : ByteArray), ([] : List Int)⟩ : S28)]) (wrap64 (x4 + 1))) else (none)) else (none)) else (none)) else (none)))))
end
def frisketlaw11_Row.f (k : Nat) (l0 : List Int) : Option ((List (S28))) := frisketlaw11_Row.l0 k l0 ([] : List (S28)) 0
theorem frisketlaw11_Row.mono_l : ∀ k, (∀ y0 y1 y2, LeO (frisketlaw11_Row.l0 k y0 y1 y2) (frisketlaw11_Row.l0 (k + 1) y0 y1 y2)) ∧ (∀ y0 y1 y2 y3, LeO (frisketlaw11_Row.j1 k y0 y1 y2 y3) (frisketlaw11_Row.j1 (k + 1) y0 y1 y2 y3)) ∧ (∀ y0 y1 y2 y3 y4 y5, LeO (frisketlaw11_Row.j2 k y0 y1 y2 y3 y4 y5) (frisketlaw11_Row.j2 (k + 1) y0 y1 y2 y3 y4 y5)) ∧ (∀ y0 y1 y2 y3 y4 y5, LeO (frisketlaw11_Row.j3 k y0 y1 y2 y3 y4 y5) (frisketlaw11_Row.j3 (k + 1) y0 y1 y2 y3 y4 y5))
  | 0 => ⟨fun _ _ _ r h => by simp [frisketlaw11_Row.l0] at h, fun _ _ _ _ r h => by simp [frisketlaw11_Row.j1] at h, fun _ _ _ _ _ _ r h => by simp [frisketlaw11_Row.j2] at h, fun _ _ _ _ _ _ r h => by simp [frisketlaw11_Row.j3] at h⟩
  | k + 1 => by
    obtain ⟨ih0, ih1, ih2, ih3⟩ := frisketlaw11_Row.mono_l k
    refine ⟨?_, ?_, ?_, ?_⟩
    · intro y0 y1 y2
      unfold frisketlaw11_Row.l0
      repeat' first
      | (with_reducible exact ih0 _ _ _)
      | (with_reducible exact ih1 _ _ _ _)
      | (with_reducible exact ih2 _ _ _ _ _ _)
      | (with_reducible exact ih3 _ _ _ _ _ _)
      | (with_reducible exact LeO.refl _)
      | (with_reducible exact LeO.none _)
      | (with_reducible refine LeO.ite ?_ ?_)
      | (with_reducible refine LeO.bind ?_ (fun _ => ?_))
      | exact ih0 _ _ _
      | exact ih1 _ _ _ _
      | exact ih2 _ _ _ _ _ _
      | exact ih3 _ _ _ _ _ _
      | exact LeO.none _
      | refine LeO.ite ?_ ?_
      | refine LeO.bind ?_ (fun _ => ?_)
    · intro y0 y1 y2 y3
      unfold frisketlaw11_Row.j1
      repeat' first
      | (with_reducible exact ih0 _ _ _)
      | (with_reducible exact ih1 _ _ _ _)
      | (with_reducible exact ih2 _ _ _ _ _ _)
      | (with_reducible exact ih3 _ _ _ _ _ _)
      | (with_reducible exact LeO.refl _)
      | (with_reducible exact LeO.none _)
      | (with_reducible refine LeO.ite ?_ ?_)
      | (with_reducible refine LeO.bind ?_ (fun _ => ?_))
      | exact ih0 _ _ _
      | exact ih1 _ _ _ _
      | exact ih2 _ _ _ _ _ _
      | exact ih3 _ _ _ _ _ _
      | exact LeO.none _
      | refine LeO.ite ?_ ?_
      | refine LeO.bind ?_ (fun _ => ?_)
    · intro y0 y1 y2 y3 y4 y5
      unfold frisketlaw11_Row.j2
      repeat' first
      | (with_reducible exact ih0 _ _ _)
      | (with_reducible exact ih1 _ _ _ _)
      | (with_reducible exact ih2 _ _ _ _ _ _)
      | (with_reducible exact ih3 _ _ _ _ _ _)
      | (with_reducible exact LeO.refl _)
      | (with_reducible exact LeO.none _)
      | (with_reducible refine LeO.ite ?_ ?_)
      | (with_reducible refine LeO.bind ?_ (fun _ => ?_))
      | exact ih0 _ _ _
      | exact ih1 _ _ _ _
      | exact ih2 _ _ _ _ _ _
      | exact ih3 _ _ _ _ _ _
      | exact LeO.none _
      | refine LeO.ite ?_ ?_
      | refine LeO.bind ?_ (fun _ => ?_)
    · intro y0 y1 y2 y3 y4 y5
      unfold frisketlaw11_Row.j3
      repeat' first
      | (with_reducible exact ih0 _ _ _)
      | (with_reducible exact ih1 _ _ _ _)
      | (with_reducible exact ih2 _ _ _ _ _ _)
      | (with_reducible exact ih3 _ _ _ _ _ _)
      | (with_reducible exact LeO.refl _)
      | (with_reducible exact LeO.none _)
      | (with_reducible refine LeO.ite ?_ ?_)
      | (with_reducible refine LeO.bind ?_ (fun _ => ?_))
      | exact ih0 _ _ _
      | exact ih1 _ _ _ _
      | exact ih2 _ _ _ _ _ _
      | exact ih3 _ _ _ _ _ _
      | exact LeO.none _
      | refine LeO.ite ?_ ?_
      | refine LeO.bind ?_ (fun _ => ?_)
theorem frisketlaw11_Row.mono : ∀ a0 k, LeO (frisketlaw11_Row.f k a0) (frisketlaw11_Row.f (k + 1) a0) := by
  intro a0 k
  obtain ⟨ih0, ih1, ih2, ih3⟩ := frisketlaw11_Row.mono_l k
  unfold frisketlaw11_Row.f
  repeat' first
      | (with_reducible exact ih0 _ _ _)
      | (with_reducible exact ih1 _ _ _ _)
      | (with_reducible exact ih2 _ _ _ _ _ _)
      | (with_reducible exact ih3 _ _ _ _ _ _)
      | (with_reducible exact LeO.refl _)
      | (with_reducible exact LeO.none _)
      | (with_reducible refine LeO.ite ?_ ?_)
      | (with_reducible refine LeO.bind ?_ (fun _ => ?_))
      | exact ih0 _ _ _
      | exact ih1 _ _ _ _
      | exact ih2 _ _ _ _ _ _
      | exact ih3 _ _ _ _ _ _
      | exact LeO.none _
      | refine LeO.ite ?_ ?_
      | refine LeO.bind ?_ (fun _ => ?_)
set_option maxHeartbeats 8000000 in
set_option maxRecDepth 100000 in
theorem frisketlaw11_Row.calls (k : Nat) (A0 : Option Addr) (c0 : Nat) (l0 : List Int) (r : List (S28)) (w : World) (hr0 : Kd.C (Kd.int .i64) w A0 l0.length l0) (hc0 : l0.length ≤ c0) (h : frisketlaw11_Row.f k l0 = some r) :
    Calls Try.prog 46 #[.slice A0 l0.length c0] w fun e w' => ∃ v0_ : Value, e = .returned (v0_) ∧ Kd.S k28 28 w' w.heap.size (fun _ => True) v0_ r ∧ Below w.heap.size w w' := by
  have hu28 := Try.underlying28
  have HR0 := Aside0.mk hr0
  have HC0 := Aside0.mk hc0
  clear hr0 hc0
  have HB := Aside0.mk (Below.refl w.heap.size w)
  have H : (frisketlaw11_Row.l0 k l0 ([] : List (S28)) 0) = some r := h
  clear h
  have H' := Aside0.mk H
  clear H
  go_enter Try.func46, Try.ntmps46
  go_wp2
  go_loopg [3, 4] k (fun kq v3 v4 w' => ∃ (x3_1 : List (S28)) (x4_1 : Int), v4 = .int .i64 x4_1 ∧ Aside0 (frisketlaw11_Row.l0 kq l0 x3_1 x4_1 = some r) ∧ Aside0 (kq ≤ k) ∧ Aside0 (Kd.S k28 28 w' w.heap.size (fun _ => True) v3 x3_1) ∧ Aside0 (Below w.heap.size w w'))
  case atStart => exact ⟨(([] : List (S28))), (0), (by first | rfl | (simp; done) | (simp [*]; done)), H', ⟨Nat.le_refl _⟩, ⟨by first | exact Kd.S_nil _ _ _ _ _ | exact Kd.N_nil _ _ _ _ _ | exact Kd.V_nil _ _ _ _ _ | exact Kd.Q_nil _ _ _ _ _ | exact Kd.R_nil _ _ _ _ _⟩, ⟨by repeat (first | (with_reducible first | exact HB.out | apply below_alloc | apply pw_below_drewN | apply below_drew1) | exact HB.out)⟩⟩
  case round =>
    clear H'
    obtain ⟨x3_1, x4_1, rfl, HA, HK1, HO_3, HB⟩ := hrel
    cases gk with
    | zero => exact absurd HA.out (by simp [frisketlaw11_Row.l0])
    | succ k1 =>
      have H := HA.out
      clear HA
      simp only [frisketlaw11_Row.l0] at H
      have HC2 := Aside0.mk H
      clear H
      go_upto_region 3 with (fail)
      go_cut [13] (fun v13 wc => ∃ (kq : Nat) (x13_1 : Bool), v13 = .bool x13_1 ∧ Aside0 (frisketlaw11_Row.j1 kq l0 x3_1 x4_1 x13_1 = some r) ∧ Aside0 (kq ≤ k1) ∧ Aside0 (Kd.S k28 28 wc w.heap.size (fun _ => True) u3 x3_1) ∧ Aside0 (Below w.heap.size w wc))
      case first =>
        have H := HC2.out
        clear HC2
        by_cases c3 : x4_1 < (l0.length : Int)
        · rw [if_pos c3] at H
          have c3b0 : decide (x4_1 < (l0.length : Int)) = true := decide_eq_true c3
          clear c3
          (first | rw [c3b0] | (simp only [i64_w, i32_w]; rw [c3b0]) | skip)
          have H' := Aside0.mk H
          clear H
          go_wp2
          go_meet
          case rel => exact ⟨_, (decide (x4_1 < 120)), (by first | rfl | (simp; done) | (simp [*]; done)), H', ⟨by have := HK1.out; first | omega | exact Nat.le_refl _⟩, ⟨by (with_reducible repeat (first | apply Kd.S_alloc | apply Kd.S_drewN | apply Kd.S_drew)); exact HO_3.out⟩, ⟨by repeat (first | (with_reducible first | exact HB.out | apply below_alloc | apply pw_below_drewN | apply below_drew1) | exact HB.out)⟩⟩
        · rw [if_neg c3] at H
          have c3b0 : decide (x4_1 < (l0.length : Int)) = false := decide_eq_false c3
          clear c3
          (first | rw [c3b0] | (simp only [i64_w, i32_w]; rw [c3b0]) | skip)
          have H' := Aside0.mk H
          clear H
          go_wp2
          go_meet
          case rel => exact ⟨_, (false), (by first | rfl | (simp; done) | (simp [*]; done)), H', ⟨by have := HK1.out; first | omega | exact Nat.le_refl _⟩, ⟨by (with_reducible repeat (first | apply Kd.S_alloc | apply Kd.S_drewN | apply Kd.S_drew)); exact HO_3.out⟩, ⟨by repeat (first | (with_reducible first | exact HB.out | apply below_alloc | apply pw_below_drewN | apply below_drew1) | exact HB.out)⟩⟩
      case rest =>
        clear HC2
        try clear p2
        try clear c3
        try clear c3b0
        obtain ⟨kq, x13_1, rfl, HA, HJ1, HO_3, HB⟩ := hcut
        cases kq with
        | zero => exact absurd HA.out (by simp [frisketlaw11_Row.j1])
        | succ kj1 =>
          have H := HA.out
          clear HA
          simp only [frisketlaw11_Row.j1] at H
          by_cases c4 : x13_1 = true
          · subst c4
            have H1 : (if 0 ≤ x4_1 then (if x4_1 < (l0.length : Int) then (if (Int.tmod (wrap64 (Int.tmod (IntKind.u64.wrap (rd l0 x4_1)) 100000)) 12) = 0 then (frisketlaw11_Row.j2 kj1 l0 x3_1 x4_1 (wrap64 (Int.tmod (IntKind.u64.wrap (rd l0 x4_1)) 100000)) (Int.tmod (wrap64 (Int.tmod (IntKind.u64.wrap (rd l0 x4_1)) 100000)) 12) ((Int.tmod (wrap64 (Int.tmod (IntKind.u64.wrap (rd l0 x4_1)) 100000)) 12) == 0)) else (if (Int.tmod (wrap64 (Int.tmod (IntKind.u64.wrap (rd l0 x4_1)) 100000)) 12) = 1 then (frisketlaw11_Row.j2 kj1 l0 x3_1 x4_1 (wrap64 (Int.tmod (IntKind.u64.wrap (rd l0 x4_1)) 100000)) (Int.tmod (wrap64 (Int.tmod (IntKind.u64.wrap (rd l0 x4_1)) 100000)) 12) ((Int.tmod (wrap64 (Int.tmod (IntKind.u64.wrap (rd l0 x4_1)) 100000)) 12) == 1)) else (frisketlaw11_Row.j2 kj1 l0 x3_1 x4_1 (wrap64 (Int.tmod (IntKind.u64.wrap (rd l0 x4_1)) 100000)) (Int.tmod (wrap64 (Int.tmod (IntKind.u64.wrap (rd l0 x4_1)) 100000)) 12) ((Int.tmod (wrap64 (Int.tmod (IntKind.u64.wrap (rd l0 x4_1)) 100000)) 12) == 2)))) else (none)) else (none)) = some r := by rw [if_pos rfl] at H; exact H
            clear H
            have H := H1
            clear H1
            by_cases c5 : 0 ≤ x4_1
            · rw [if_pos c5] at H
              have c5b0 : decide (0 ≤ x4_1) = true := decide_eq_true c5
              clear c5
              by_cases c6 : x4_1 < (l0.length : Int)
              · rw [if_pos c6] at H
                have c6b0 : decide (x4_1 < (l0.length : Int)) = true := decide_eq_true c6
                clear c6
                have HC7 := Aside0.mk H
                clear H
                have p198 : 0 ≤ (x4_1 : Int) := of_decide_eq_true (by first | (with_reducible assumption) | assumption)
                have q198 : x4_1 < (l0.length : Int) := of_decide_eq_true (by first | (with_reducible assumption) | assumption)
                obtain ⟨ad198, e198, hx198_0⟩ := Kd.at_int HR0.out x4_1 p198 q198
                cases e198
                replace hx198_0 := (HB.out.cell (World.block_lt_of_cell? w _ hx198_0)).trans hx198_0
                replace p198 := eq_true p198
                replace q198 := eq_true q198
                go_upto_if 41 with (fail)
                go_cut [41] (fun v41 wc => ∃ (kq : Nat) (x41_6 : Bool), v41 = .bool x41_6 ∧ Aside0 (frisketlaw11_Row.j2 kq l0 x3_1 x4_1 (wrap64 (Int.tmod (IntKind.u64.wrap (rd l0 x4_1)) 100000)) (Int.tmod (wrap64 (Int.tmod (IntKind.u64.wrap (rd l0 x4_1)) 100000)) 12) x41_6 = some r) ∧ Aside0 (kq ≤ kj1) ∧ Aside0 (Kd.S k28 28 wc w.heap.size (fun _ => True) u3 x3_1) ∧ Aside0 (Below w.heap.size w wc))
                case first =>
                  have H := HC7.out
                  clear HC7
                  by_cases c8 : (Int.tmod (wrap64 (Int.tmod (IntKind.u64.wrap (rd l0 x4_1)) 100000)) 12) = 0
                  · rw [if_pos c8] at H
                    have c8b0 : ((Int.tmod (wrap64 (Int.tmod (IntKind.u64.wrap (rd l0 x4_1)) 100000)) 12) == 0) = true := beq_iff_eq.mpr c8
                    have c8b1 : ((Int.tmod (wrap64 (Int.tmod (IntKind.u64.wrap (rd l0 x4_1)) 100000)) 12) != 0) = false := bne_eq_false_iff_eq.mpr c8
                    clear c8
                    (first | rw [c8b0] | (simp only [i64_w, i32_w]; rw [c8b0]) | skip)
                    have H' := Aside0.mk H
                    clear H
                    go_wp2
                    go_meet
                    case rel => exact ⟨_, (((Int.tmod (wrap64 (Int.tmod (IntKind.u64.wrap (rd l0 x4_1)) 100000)) 12) == 0)), (by first | rfl | (simp; done) | (simp [*]; done)), H', ⟨by have := HK1.out; have := HJ1.out; first | omega | exact Nat.le_refl _⟩, ⟨by (with_reducible repeat (first | apply Kd.S_alloc | apply Kd.S_drewN | apply Kd.S_drew)); exact HO_3.out⟩, ⟨by repeat (first | (with_reducible first | exact HB.out | apply below_alloc | apply pw_below_drewN | apply below_drew1) | exact HB.out)⟩⟩
                  · rw [if_neg c8] at H
                    have c8b0 : ((Int.tmod (wrap64 (Int.tmod (IntKind.u64.wrap (rd l0 x4_1)) 100000)) 12) == 0) = false := beq_eq_false_iff_ne.mpr c8
                    have c8b1 : ((Int.tmod (wrap64 (Int.tmod (IntKind.u64.wrap (rd l0 x4_1)) 100000)) 12) != 0) = true := bne_iff_ne.mpr c8
                    (first | rw [c8b0] | (simp only [i64_w, i32_w]; rw [c8b0]) | skip)
                    by_cases c9 : (Int.tmod (wrap64 (Int.tmod (IntKind.u64.wrap (rd l0 x4_1)) 100000)) 12) = 1
                    · rw [if_pos c9] at H
                      have c9b0 : ((Int.tmod (wrap64 (Int.tmod (IntKind.u64.wrap (rd l0 x4_1)) 100000)) 12) == 1) = true := beq_iff_eq.mpr c9
                      have c9b1 : ((Int.tmod (wrap64 (Int.tmod (IntKind.u64.wrap (rd l0 x4_1)) 100000)) 12) != 1) = false := bne_eq_false_iff_eq.mpr c9
                      clear c9
                      have H' := Aside0.mk H
                      clear H
                      go_wp2
                      go_meet
                      case rel => exact ⟨_, (((Int.tmod (wrap64 (Int.tmod (IntKind.u64.wrap (rd l0 x4_1)) 100000)) 12) == 1)), (by first | rfl | (simp; done) | (simp [*]; done)), H', ⟨by have := HK1.out; have := HJ1.out; first | omega | exact Nat.le_refl _⟩, ⟨by (with_reducible repeat (first | apply Kd.S_alloc | apply Kd.S_drewN | apply Kd.S_drew)); exact HO_3.out⟩, ⟨by repeat (first | (with_reducible first | exact HB.out | apply below_alloc | apply pw_below_drewN | apply below_drew1) | exact HB.out)⟩⟩
                    · rw [if_neg c9] at H
                      have c9b0 : ((Int.tmod (wrap64 (Int.tmod (IntKind.u64.wrap (rd l0 x4_1)) 100000)) 12) == 1) = false := beq_eq_false_iff_ne.mpr c9
                      have c9b1 : ((Int.tmod (wrap64 (Int.tmod (IntKind.u64.wrap (rd l0 x4_1)) 100000)) 12) != 1) = true := bne_iff_ne.mpr c9
                      have H' := Aside0.mk H
                      clear H
                      go_wp2
                      go_meet
                      case rel => exact ⟨_, (((Int.tmod (wrap64 (Int.tmod (IntKind.u64.wrap (rd l0 x4_1)) 100000)) 12) == 2)), (by first | rfl | (simp; done) | (simp [*]; done)), H', ⟨by have := HK1.out; have := HJ1.out; first | omega | exact Nat.le_refl _⟩, ⟨by (with_reducible repeat (first | apply Kd.S_alloc | apply Kd.S_drewN | apply Kd.S_drew)); exact HO_3.out⟩, ⟨by repeat (first | (with_reducible first | exact HB.out | apply below_alloc | apply pw_below_drewN | apply below_drew1) | exact HB.out)⟩⟩
                case rest =>
                  clear HC7
                  try clear p1
                  try clear q1
                  try clear hx1
                  try clear p2
                  try clear c3
                  try clear c3b0
                  try clear c4
                  try clear c5
                  try clear c5b0
                  try clear c6
                  try clear c6b0
                  try clear p6
                  try clear c8
                  try clear c8b0
                  try clear c8b1
                  try clear c9
                  try clear c9b0
                  try clear c9b1
                  try clear hx198_0
                  try clear p198
                  try clear p2
                  try clear q198
                  obtain ⟨kq, x41_6, rfl, HA, HJ6, HO_3, HB⟩ := hcut
                  cases kq with
                  | zero => exact absurd HA.out (by simp [frisketlaw11_Row.j2])
                  | succ kj6 =>
                    have H := HA.out
                    clear HA
                    simp only [frisketlaw11_Row.j2] at H
                    by_cases c10 : x41_6 = true
                    · subst c10
                      have H1 : ((frisketlaw11_blank.f (Int.tmod (wrap64 (Int.tdiv (wrap64 (Int.tmod (IntKind.u64.wrap (rd l0 x4_1)) 100000)) 12)) 20)).bind fun bt199 => (if x3_1.length < 1599289640401 then (frisketlaw11_Row.l0 kj6 l0 (x3_1 ++ [(⟨bt199.1, bt199.2.1, bt199.2.2.1, bt199.2.2.2.1, bt199.2.2.2.2.1, bt199.2.2.2.2.2.1, bt199.2.2.2.2.2.2⟩ : S28)]) (wrap64 (x4_1 + 1))) else (none))) = some r := by rw [if_pos rfl] at H; exact H
                      clear H
                      have H := H1
                      clear H1
                      replace H := Option.bind_eq_some_iff.mp H
                      obtain ⟨⟨t199, t200, t201, t202, t203, t204, t205⟩, A110, H⟩ := H
                      replace H : (if x3_1.length < 1599289640401 then (frisketlaw11_Row.l0 kj6 l0 (x3_1 ++ [(⟨t199, t200, t201, t202, t203, t204, t205⟩ : S28)]) (wrap64 (x4_1 + 1))) else (none)) = some r := H
                      have A11 := Aside0.mk A110
                      clear A110
                      by_cases c12 : x3_1.length < 1599289640401
                      · rw [if_pos c12] at H
                        have LMc12 := Aside0.mk c12
                        clear c12
                        obtain ⟨y208, hy208⟩ : ∃ y_ : List (S28), y_ = (x3_1 ++ [(⟨t199, t200, t201, t202, t203, t204, t205⟩ : S28)]) := ⟨_, rfl⟩
                        replace H : (frisketlaw11_Row.l0 kj6 l0 y208 (wrap64 (x4_1 + 1))) = some r := by first | (rw [hy208]; with_reducible exact H) | (have H2_ := (Option.bind_some _ _).symm.trans H; rw [hy208]; with_reducible exact H2_) | (have H2_ := (Option.bind_some _ _).symm.trans H; with_reducible exact H2_) | with_reducible exact H | (rw [hy208]; exact H) | exact H
                        have Ny208 := Aside0.mk hy208
                        clear hy208
                        have H' := Aside0.mk H
                        clear H
                        go_wp2_with (first | ((with_reducible refine gate_callee (f := 64) rfl ?_); refine goesL_ (some 49) rfl rfl Try.func64 (by kernel_rfl) rfl #[.int .i64 (Int.tmod (wrap64 (Int.tdiv (wrap64 (Int.tmod (IntKind.u64.wrap (rd l0 x4_1)) 100000)) 12)) 20)] rfl (by (try simp only [List.map_toArray, List.map_cons, List.map_nil]); first | done | rfl | (simp only [List.length_drop, List.length_take]; rfl)) ?_; (with_reducible refine (frisketlaw11_blank.calls (Int.tmod (wrap64 (Int.tdiv (wrap64 (Int.tmod (IntKind.u64.wrap (rd l0 x4_1)) 100000)) 12)) 20) t199 t200 t201 t202 t203 t204 t205 _ A11.out).mono ?_); rintro e w13 ⟨v206, rfl, ho0, hb⟩; refine ⟨_, rfl, ?_⟩; have n0_ := Aside0.mk (Kd.S_elder' (by (with_reducible repeat (first | apply Kd.S_alloc | apply Kd.S_drewN | apply Kd.S_drew)); exact HO_3.out) (Kd.R_base ho0) hb); have n1_ := Aside0.mk (Kd.R_lower ho0 (below_size (by repeat (first | (with_reducible first | exact HB.out | apply below_alloc | apply pw_below_drewN | apply below_drew1) | exact HB.out)))); have n2_ := Aside0.mk (below_step (by repeat (first | (with_reducible first | exact HB.out | apply below_alloc | apply pw_below_drewN | apply below_drew1) | exact HB.out)) hb); clear HO_3; clear HB; have HO_3 := n0_; have HO207 := n1_; have HB := n2_; clear n0_ n1_ n2_; (try clear hb); (try clear hb2); (try clear hk); (try clear hi); (try clear ho0); obtain ⟨Ao15, co15, eo15⟩ := Kd.R_slice HO207.out; subst eo15) | ((with_reducible refine gate_builtin (b := .append) (xs := #[.tmp 45, .tmp 50]) rfl ?_); at_builtin; refine Kd.S_append k28 (w0 := w) w.heap.size rfl (.tmp 45) (.tmp 50) 31 28 (.agg #[(.int .i64 0), (.int .i64 0), (.int .i64 0), (.int .i64 0), (.string ⟨#[]⟩), (.string ⟨#[]⟩), (.slice none 0 0)]) 88 rfl Try.underlying31 info28 rfl (by decide) (by omega) u3 x3_1 (⟨t199, t200, t201, t202, t203, t204, t205⟩ : S28) [.int .i64 t199, .int .i64 t200, .int .i64 t201, .int .i64 t202, .string t203, .string t204, .slice Ao15 t205.length co15] (fun _ => True) (fun k_ => some k_ = (.slice Ao15 t205.length co15 : Value).ownBlock) rfl rfl ?aP (fun k_ hk_ => ((Kd.R_mono (ok' := fun k_ => ((fun _ => True)) k_ ∧ some k_ ≠ (u3 : Value).ownBlock) (Kd.R_apart' (HO207.out) (Kd.S_typed HO_3.out) (by decide)) (fun k_ hk => ⟨trivial, hk.2⟩))).1 k_ hk_.symm) ?aF ?aO ?aB ?aS ?aL ?_; (case aP => exact k28_mkM _ _ _ (⟨t199, t200, t201, t202, t203, t204, t205⟩ : S28) (Kd.R_mono (Kd.R_tight rfl (Kd.R_mono (ok' := fun k_ => ((fun _ => True)) k_ ∧ some k_ ≠ (u3 : Value).ownBlock) (Kd.R_apart' (HO207.out) (Kd.S_typed HO_3.out) (by decide)) (fun k_ hk => ⟨trivial, hk.2⟩))) (fun _ h_ => h_))); (case aB => exact (by repeat (first | (with_reducible first | exact HB.out | apply below_alloc | apply pw_below_drewN | apply below_drew1) | exact HB.out))); (case aF => exact (fun _ _ => trivial)); (case aO => exact (by (with_reducible repeat (first | apply Kd.S_alloc | apply Kd.S_drewN | apply Kd.S_drew)); exact Kd.S_mono HO_3.out (fun k_ hk => ⟨trivial, fun e_ => hk.2 e_⟩))); (case aS => exact (below_size (by repeat (first | (with_reducible first | exact HB.out | apply below_alloc | apply pw_below_drewN | apply below_drew1) | exact HB.out)))); (case aL => have := LMc12.out; omega); intro v209 w14 ho hb hg hat; rw [← Ny208.out] at ho; have n0_ := Aside0.mk (hb); have n1_ := Aside0.mk (ho); clear HB; clear HO_3; clear HO207; have HB := n0_; have HO210 := n1_; clear n0_ n1_; clear ho hb hg hat))
                        go_roundg kj6
                        case measure => have := HK1.out; have := HJ1.out; have := HJ6.out; omega
                        case rel => exact ⟨(y208), (wrap64 (x4_1 + 1)), (by first | rfl | (simp; done) | (simp [*]; done)), H', ⟨by have := HK1.out; have := HJ1.out; have := HJ6.out; omega⟩, ⟨by (with_reducible repeat (first | apply Kd.S_alloc | apply Kd.S_drewN | apply Kd.S_drew)); exact HO210.out⟩, ⟨by repeat (first | (with_reducible first | exact HB.out | apply below_alloc | apply pw_below_drewN | apply below_drew1) | exact HB.out)⟩⟩
                      · rw [if_neg c12] at H
                        exact absurd H (by simp)
                    · replace c10 := Bool.eq_false_iff.mpr c10
                      subst c10
                      have H1 : (if (Int.tmod (wrap64 (Int.tmod (IntKind.u64.wrap (rd l0 x4_1)) 100000)) 12) = 3 then (frisketlaw11_Row.j3 kj6 l0 x3_1 x4_1 (wrap64 (Int.tmod (IntKind.u64.wrap (rd l0 x4_1)) 100000)) (Int.tmod (wrap64 (Int.tmod (IntKind.u64.wrap (rd l0 x4_1)) 100000)) 12) ((Int.tmod (wrap64 (Int.tmod (IntKind.u64.wrap (rd l0 x4_1)) 100000)) 12) == 3)) else (frisketlaw11_Row.j3 kj6 l0 x3_1 x4_1 (wrap64 (Int.tmod (IntKind.u64.wrap (rd l0 x4_1)) 100000)) (Int.tmod (wrap64 (Int.tmod (IntKind.u64.wrap (rd l0 x4_1)) 100000)) 12) ((Int.tmod (wrap64 (Int.tmod (IntKind.u64.wrap (rd l0 x4_1)) 100000)) 12) == 4))) = some r := by rw [if_neg (show ¬ (false = true) by decide)] at H; exact H
                      clear H
                      have H := H1
                      clear H1
                      have HC16 := Aside0.mk H
                      clear H
                      go_upto_if 52 with (fail)
                      go_cut [52] (fun v52 wc => ∃ (kq : Nat) (x52_15 : Bool), v52 = .bool x52_15 ∧ Aside0 (frisketlaw11_Row.j3 kq l0 x3_1 x4_1 (wrap64 (Int.tmod (IntKind.u64.wrap (rd l0 x4_1)) 100000)) (Int.tmod (wrap64 (Int.tmod (IntKind.u64.wrap (rd l0 x4_1)) 100000)) 12) x52_15 = some r) ∧ Aside0 (kq ≤ kj6) ∧ Aside0 (Kd.S k28 28 wc w.heap.size (fun _ => True) u3 x3_1) ∧ Aside0 (Below w.heap.size w wc))
                      case first =>
                        have H := HC16.out
                        clear HC16
                        by_cases c17 : (Int.tmod (wrap64 (Int.tmod (IntKind.u64.wrap (rd l0 x4_1)) 100000)) 12) = 3
                        · rw [if_pos c17] at H
                          have c17b0 : ((Int.tmod (wrap64 (Int.tmod (IntKind.u64.wrap (rd l0 x4_1)) 100000)) 12) == 3) = true := beq_iff_eq.mpr c17
                          have c17b1 : ((Int.tmod (wrap64 (Int.tmod (IntKind.u64.wrap (rd l0 x4_1)) 100000)) 12) != 3) = false := bne_eq_false_iff_eq.mpr c17
                          clear c17
                          (first | rw [c17b0] | (simp only [i64_w, i32_w]; rw [c17b0]) | skip)
                          have H' := Aside0.mk H
                          clear H
                          go_wp2
                          go_meet
                          case rel => exact ⟨_, (((Int.tmod (wrap64 (Int.tmod (IntKind.u64.wrap (rd l0 x4_1)) 100000)) 12) == 3)), (by first | rfl | (simp; done) | (simp [*]; done)), H', ⟨by have := HK1.out; have := HJ1.out; have := HJ6.out; first | omega | exact Nat.le_refl _⟩, ⟨by (with_reducible repeat (first | apply Kd.S_alloc | apply Kd.S_drewN | apply Kd.S_drew)); exact HO_3.out⟩, ⟨by repeat (first | (with_reducible first | exact HB.out | apply below_alloc | apply pw_below_drewN | apply below_drew1) | exact HB.out)⟩⟩
                        · rw [if_neg c17] at H
                          have c17b0 : ((Int.tmod (wrap64 (Int.tmod (IntKind.u64.wrap (rd l0 x4_1)) 100000)) 12) == 3) = false := beq_eq_false_iff_ne.mpr c17
                          have c17b1 : ((Int.tmod (wrap64 (Int.tmod (IntKind.u64.wrap (rd l0 x4_1)) 100000)) 12) != 3) = true := bne_iff_ne.mpr c17
                          (first | rw [c17b0] | (simp only [i64_w, i32_w]; rw [c17b0]) | skip)
                          have H' := Aside0.mk H
                          clear H
                          go_wp2
                          go_meet
                          case rel => exact ⟨_, (((Int.tmod (wrap64 (Int.tmod (IntKind.u64.wrap (rd l0 x4_1)) 100000)) 12) == 4)), (by first | rfl | (simp; done) | (simp [*]; done)), H', ⟨by have := HK1.out; have := HJ1.out; have := HJ6.out; first | omega | exact Nat.le_refl _⟩, ⟨by (with_reducible repeat (first | apply Kd.S_alloc | apply Kd.S_drewN | apply Kd.S_drew)); exact HO_3.out⟩, ⟨by repeat (first | (with_reducible first | exact HB.out | apply below_alloc | apply pw_below_drewN | apply below_drew1) | exact HB.out)⟩⟩
                      case rest =>
                        clear HC16
                        try clear c1
                        try clear p1
                        try clear q1
                        try clear hx1
                        try clear p2
                        try clear c3
                        try clear c3b0
                        try clear c4
                        try clear c5
                        try clear c5b0
                        try clear c6
                        try clear c6b0
                        try clear p6
                        try clear c8
                        try clear c8b0
                        try clear c8b1
                        try clear c9
                        try clear c9b0
                        try clear c9b1
                        try clear c10
                        try clear c12
                        try clear c17
                        try clear c17b0
                        try clear c17b1
                        try clear hx198_0
                        try clear p1
                        try clear p198
                        try clear p2
                        try clear p6
                        try clear q1
                        try clear q198
                        obtain ⟨kq, x52_15, rfl, HA, HJ15, HO_3, HB⟩ := hcut
                        cases kq with
                        | zero => exact absurd HA.out (by simp [frisketlaw11_Row.j3])
                        | succ kj15 =>
                          have H := HA.out
                          clear HA
                          simp only [frisketlaw11_Row.j3] at H
                          by_cases c18 : x52_15 = true
                          · subst c18
                            have H1 : (if x3_1.length < 1599289640401 then (frisketlaw11_Row.l0 kj15 l0 (x3_1 ++ [(⟨5, 0, 0, 0, (⟨#[]⟩ : ByteArray), (⟨#[]⟩ : ByteArray), ([] : List Int)⟩ : S28)]) (wrap64 (x4_1 + 1))) else (none)) = some r := by rw [if_pos rfl] at H; exact H
                            clear H
                            have H := H1
                            clear H1
                            by_cases c19 : x3_1.length < 1599289640401
                            · rw [if_pos c19] at H
                              have LMc19 := Aside0.mk c19
                              clear c19
                              obtain ⟨y211, hy211⟩ : ∃ y_ : List (S28), y_ = (x3_1 ++ [(⟨5, 0, 0, 0, (⟨#[]⟩ : ByteArray), (⟨#[]⟩ : ByteArray), ([] : List Int)⟩ : S28)]) := ⟨_, rfl⟩
                              replace H : (frisketlaw11_Row.l0 kj15 l0 y211 (wrap64 (x4_1 + 1))) = some r := by first | (rw [hy211]; with_reducible exact H) | (have H2_ := (Option.bind_some _ _).symm.trans H; rw [hy211]; with_reducible exact H2_) | (have H2_ := (Option.bind_some _ _).symm.trans H; with_reducible exact H2_) | with_reducible exact H | (rw [hy211]; exact H) | exact H
                              have Ny211 := Aside0.mk hy211
                              clear hy211
                              have H' := Aside0.mk H
                              clear H
                              go_wp2_with (first | ((with_reducible refine gate_builtin (b := .append) (xs := #[.tmp 55, .tmp 57]) rfl ?_); at_builtin; refine Kd.S_append k28 (w0 := w) w.heap.size rfl (.tmp 55) (.tmp 57) 31 28 (.agg #[(.int .i64 0), (.int .i64 0), (.int .i64 0), (.int .i64 0), (.string ⟨#[]⟩), (.string ⟨#[]⟩), (.slice none 0 0)]) 88 rfl Try.underlying31 info28 rfl (by decide) (by omega) u3 x3_1 (⟨5, 0, 0, 0, (⟨#[]⟩ : ByteArray), (⟨#[]⟩ : ByteArray), ([] : List Int)⟩ : S28) [.int .i64 5, .int .i64 0, .int .i64 0, .int .i64 0, .string (⟨#[]⟩ : ByteArray), .string (⟨#[]⟩ : ByteArray), .slice none 0 0] (fun _ => True) (fun _ => False) rfl rfl ?aP (fun k_ hk_ => hk_.elim) ?aF ?aO ?aB ?aS ?aL ?_; (case aP => exact k28_mkM _ _ _ (⟨5, 0, 0, 0, (⟨#[]⟩ : ByteArray), (⟨#[]⟩ : ByteArray), ([] : List Int)⟩ : S28) (Kd.R_nil _ _ _ _ _)); (case aB => exact (by repeat (first | (with_reducible first | exact HB.out | apply below_alloc | apply pw_below_drewN | apply below_drew1) | exact HB.out))); (case aF => exact (fun _ _ => trivial)); (case aO => exact (by (with_reducible repeat (first | apply Kd.S_alloc | apply Kd.S_drewN | apply Kd.S_drew)); exact Kd.S_mono HO_3.out (fun k_ hk => ⟨trivial, fun e_ => e_⟩))); (case aS => exact (below_size (by repeat (first | (with_reducible first | exact HB.out | apply below_alloc | apply pw_below_drewN | apply below_drew1) | exact HB.out)))); (case aL => have := LMc19.out; omega); intro v212 w20 ho hb hg hat; rw [← Ny211.out] at ho; have n0_ := Aside0.mk (hb); have n1_ := Aside0.mk (ho); clear HB; clear HO_3; have HB := n0_; have HO213 := n1_; clear n0_ n1_; clear ho hb hg hat))
                              go_roundg kj15
                              case measure => have := HK1.out; have := HJ1.out; have := HJ6.out; have := HJ15.out; omega
                              case rel => exact ⟨(y211), (wrap64 (x4_1 + 1)), (by first | rfl | (simp; done) | (simp [*]; done)), H', ⟨by have := HK1.out; have := HJ1.out; have := HJ6.out; have := HJ15.out; omega⟩, ⟨by (with_reducible repeat (first | apply Kd.S_alloc | apply Kd.S_drewN | apply Kd.S_drew)); exact HO213.out⟩, ⟨by repeat (first | (with_reducible first | exact HB.out | apply below_alloc | apply pw_below_drewN | apply below_drew1) | exact HB.out)⟩⟩
                            · rw [if_neg c19] at H
                              exact absurd H (by simp)
                          · replace c18 := Bool.eq_false_iff.mpr c18
                            subst c18
                            have H1 : (if (Int.tmod (wrap64 (Int.tmod (IntKind.u64.wrap (rd l0 x4_1)) 100000)) 12) = 5 then (if x3_1.length < 1599289640401 then (frisketlaw11_Row.l0 kj15 l0 (x3_1 ++ [(⟨1, 5, 0, 10, (⟨#[126]⟩ : ByteArray), (⟨#[]⟩ : ByteArray), ([] : List Int)⟩ : S28)]) (wrap64 (x4_1 + 1))) else (none)) else (if (Int.tmod (wrap64 (Int.tmod (IntKind.u64.wrap (rd l0 x4_1)) 100000)) 12) = 6 then (if x3_1.length < 1599289640401 then (frisketlaw11_Row.l0 kj15 l0 (x3_1 ++ [(⟨2, wrap64 ((Int.tmod (wrap64 (Int.tdiv (wrap64 (Int.tmod (IntKind.u64.wrap (rd l0 x4_1)) 100000)) 12)) 31) - 15), 0, 0, (⟨#[]⟩ : ByteArray), (⟨#[]⟩ : ByteArray), ([] : List Int)⟩ : S28)]) (wrap64 (x4_1 + 1))) else (none)) else (if (Int.tmod (wrap64 (Int.tmod (IntKind.u64.wrap (rd l0 x4_1)) 100000)) 12) = 7 then (if x3_1.length < 1599289640401 then (frisketlaw11_Row.l0 kj15 l0 (x3_1 ++ [(⟨6, Int.tmod (wrap64 (Int.tdiv (wrap64 (Int.tmod (IntKind.u64.wrap (rd l0 x4_1)) 100000)) 12)) 10, 0, 0, (⟨#[]⟩ : ByteArray), (⟨#[]⟩ : ByteArray), ([] : List Int)⟩ : S28)]) (wrap64 (x4_1 + 1))) else (none)) else (if 0 ≤ (Int.tmod (wrap64 (Int.tdiv (wrap64 (Int.tmod (IntKind.u64.wrap (rd l0 x4_1)) 100000)) 12)) 8) then (if (Int.tmod (wrap64 (Int.tdiv (wrap64 (Int.tmod (IntKind.u64.wrap (rd l0 x4_1)) 100000)) 12)) 8) ≤ (wrap64 ((Int.tmod (wrap64 (Int.tdiv (wrap64 (Int.tmod (IntKind.u64.wrap (rd l0 x4_1)) 100000)) 12)) 8) + 1)) then (if (wrap64 ((Int.tmod (wrap64 (Int.tdiv (wrap64 (Int.tmod (IntKind.u64.wrap (rd l0 x4_1)) 100000)) 12)) 8) + 1)) ≤ 8 then (if x3_1.length < 1599289640401 then (frisketlaw11_Row.l0 kj15 l0 (x3_1 ++ [(⟨0, wrap64 (5 + (Int.tmod (wrap64 (Int.tdiv (wrap64 (Int.tmod (IntKind.u64.wrap (rd l0 x4_1)) 100000)) 12)) 12)), 0, 10, (⟨#[97, 98, 99, 100, 101, 102, 103, 104]⟩ : ByteArray).extract ((Int.tmod (wrap64 (Int.tdiv (wrap64 (Int.tmod (IntKind.u64.wrap (rd l0 x4_1)) 100000)) 12)) 8) : Int).toNat ((wrap64 ((Int.tmod (wrap64 (Int.tdiv (wrap64 (Int.tmod (IntKind.u64.wrap (rd l0 x4_1)) 100000)) 12)) 8) + 1)) : Int).toNat, (⟨#[]⟩ : ByteArray), ([] : List Int)⟩ : S28)]) (wrap64 (x4_1 + 1))) else (none)) else (none)) else (none)) else (none))))) = some r := by rw [if_neg (show ¬ (false = true) by decide)] at H; exact H
                            clear H
                            have H := H1
                            clear H1
                            by_cases c21 : (Int.tmod (wrap64 (Int.tmod (IntKind.u64.wrap (rd l0 x4_1)) 100000)) 12) = 5
                            · rw [if_pos c21] at H
                              have c21b0 : ((Int.tmod (wrap64 (Int.tmod (IntKind.u64.wrap (rd l0 x4_1)) 100000)) 12) == 5) = true := beq_iff_eq.mpr c21
                              have c21b1 : ((Int.tmod (wrap64 (Int.tmod (IntKind.u64.wrap (rd l0 x4_1)) 100000)) 12) != 5) = false := bne_eq_false_iff_eq.mpr c21
                              clear c21
                              by_cases c22 : x3_1.length < 1599289640401
                              · rw [if_pos c22] at H
                                have LMc22 := Aside0.mk c22
                                clear c22
                                obtain ⟨y214, hy214⟩ : ∃ y_ : List (S28), y_ = (x3_1 ++ [(⟨1, 5, 0, 10, (⟨#[126]⟩ : ByteArray), (⟨#[]⟩ : ByteArray), ([] : List Int)⟩ : S28)]) := ⟨_, rfl⟩
                                replace H : (frisketlaw11_Row.l0 kj15 l0 y214 (wrap64 (x4_1 + 1))) = some r := by first | (rw [hy214]; with_reducible exact H) | (have H2_ := (Option.bind_some _ _).symm.trans H; rw [hy214]; with_reducible exact H2_) | (have H2_ := (Option.bind_some _ _).symm.trans H; with_reducible exact H2_) | with_reducible exact H | (rw [hy214]; exact H) | exact H
                                have Ny214 := Aside0.mk hy214
                                clear hy214
                                have H' := Aside0.mk H
                                clear H
                                go_wp2_with (first | ((with_reducible refine gate_builtin (b := .append) (xs := #[.tmp 61, .tmp 63]) rfl ?_); at_builtin; refine Kd.S_append k28 (w0 := w) w.heap.size rfl (.tmp 61) (.tmp 63) 31 28 (.agg #[(.int .i64 0), (.int .i64 0), (.int .i64 0), (.int .i64 0), (.string ⟨#[]⟩), (.string ⟨#[]⟩), (.slice none 0 0)]) 88 rfl Try.underlying31 info28 rfl (by decide) (by omega) u3 x3_1 (⟨1, 5, 0, 10, (⟨#[126]⟩ : ByteArray), (⟨#[]⟩ : ByteArray), ([] : List Int)⟩ : S28) [.int .i64 1, .int .i64 5, .int .i64 0, .int .i64 10, .string (⟨#[126]⟩ : ByteArray), .string (⟨#[]⟩ : ByteArray), .slice none 0 0] (fun _ => True) (fun _ => False) rfl rfl ?aP (fun k_ hk_ => hk_.elim) ?aF ?aO ?aB ?aS ?aL ?_; (case aP => exact k28_mkM _ _ _ (⟨1, 5, 0, 10, (⟨#[126]⟩ : ByteArray), (⟨#[]⟩ : ByteArray), ([] : List Int)⟩ : S28) (Kd.R_nil _ _ _ _ _)); (case aB => exact (by repeat (first | (with_reducible first | exact HB.out | apply below_alloc | apply pw_below_drewN | apply below_drew1) | exact HB.out))); (case aF => exact (fun _ _ => trivial)); (case aO => exact (by (with_reducible repeat (first | apply Kd.S_alloc | apply Kd.S_drewN | apply Kd.S_drew)); exact Kd.S_mono HO_3.out (fun k_ hk => ⟨trivial, fun e_ => e_⟩))); (case aS => exact (below_size (by repeat (first | (with_reducible first | exact HB.out | apply below_alloc | apply pw_below_drewN | apply below_drew1) | exact HB.out)))); (case aL => have := LMc22.out; omega); intro v215 w23 ho hb hg hat; rw [← Ny214.out] at ho; have n0_ := Aside0.mk (hb); have n1_ := Aside0.mk (ho); clear HB; clear HO_3; have HB := n0_; have HO216 := n1_; clear n0_ n1_; clear ho hb hg hat))
                                go_roundg kj15
                                case measure => have := HK1.out; have := HJ1.out; have := HJ6.out; have := HJ15.out; omega
                                case rel => exact ⟨(y214), (wrap64 (x4_1 + 1)), (by first | rfl | (simp; done) | (simp [*]; done)), H', ⟨by have := HK1.out; have := HJ1.out; have := HJ6.out; have := HJ15.out; omega⟩, ⟨by (with_reducible repeat (first | apply Kd.S_alloc | apply Kd.S_drewN | apply Kd.S_drew)); exact HO216.out⟩, ⟨by repeat (first | (with_reducible first | exact HB.out | apply below_alloc | apply pw_below_drewN | apply below_drew1) | exact HB.out)⟩⟩
                              · rw [if_neg c22] at H
                                exact absurd H (by simp)
                            · rw [if_neg c21] at H
                              have c21b0 : ((Int.tmod (wrap64 (Int.tmod (IntKind.u64.wrap (rd l0 x4_1)) 100000)) 12) == 5) = false := beq_eq_false_iff_ne.mpr c21
                              have c21b1 : ((Int.tmod (wrap64 (Int.tmod (IntKind.u64.wrap (rd l0 x4_1)) 100000)) 12) != 5) = true := bne_iff_ne.mpr c21
                              by_cases c24 : (Int.tmod (wrap64 (Int.tmod (IntKind.u64.wrap (rd l0 x4_1)) 100000)) 12) = 6
                              · rw [if_pos c24] at H
                                have c24b0 : ((Int.tmod (wrap64 (Int.tmod (IntKind.u64.wrap (rd l0 x4_1)) 100000)) 12) == 6) = true := beq_iff_eq.mpr c24
                                have c24b1 : ((Int.tmod (wrap64 (Int.tmod (IntKind.u64.wrap (rd l0 x4_1)) 100000)) 12) != 6) = false := bne_eq_false_iff_eq.mpr c24
                                clear c24
                                by_cases c25 : x3_1.length < 1599289640401
                                · rw [if_pos c25] at H
                                  have LMc25 := Aside0.mk c25
                                  clear c25
                                  obtain ⟨y217, hy217⟩ : ∃ y_ : List (S28), y_ = (x3_1 ++ [(⟨2, wrap64 ((Int.tmod (wrap64 (Int.tdiv (wrap64 (Int.tmod (IntKind.u64.wrap (rd l0 x4_1)) 100000)) 12)) 31) - 15), 0, 0, (⟨#[]⟩ : ByteArray), (⟨#[]⟩ : ByteArray), ([] : List Int)⟩ : S28)]) := ⟨_, rfl⟩
                                  replace H : (frisketlaw11_Row.l0 kj15 l0 y217 (wrap64 (x4_1 + 1))) = some r := by first | (rw [hy217]; with_reducible exact H) | (have H2_ := (Option.bind_some _ _).symm.trans H; rw [hy217]; with_reducible exact H2_) | (have H2_ := (Option.bind_some _ _).symm.trans H; with_reducible exact H2_) | with_reducible exact H | (rw [hy217]; exact H) | exact H
                                  have Ny217 := Aside0.mk hy217
                                  clear hy217
                                  have H' := Aside0.mk H
                                  clear H
                                  go_wp2_with (first | ((with_reducible refine gate_builtin (b := .append) (xs := #[.tmp 67, .tmp 73]) rfl ?_); at_builtin; refine Kd.S_append k28 (w0 := w) w.heap.size rfl (.tmp 67) (.tmp 73) 31 28 (.agg #[(.int .i64 0), (.int .i64 0), (.int .i64 0), (.int .i64 0), (.string ⟨#[]⟩), (.string ⟨#[]⟩), (.slice none 0 0)]) 88 rfl Try.underlying31 info28 rfl (by decide) (by omega) u3 x3_1 (⟨2, wrap64 ((Int.tmod (wrap64 (Int.tdiv (wrap64 (Int.tmod (IntKind.u64.wrap (rd l0 x4_1)) 100000)) 12)) 31) - 15), 0, 0, (⟨#[]⟩ : ByteArray), (⟨#[]⟩ : ByteArray), ([] : List Int)⟩ : S28) [.int .i64 2, .int .i64 (wrap64 ((Int.tmod (wrap64 (Int.tdiv (wrap64 (Int.tmod (IntKind.u64.wrap (rd l0 x4_1)) 100000)) 12)) 31) - 15)), .int .i64 0, .int .i64 0, .string (⟨#[]⟩ : ByteArray), .string (⟨#[]⟩ : ByteArray), .slice none 0 0] (fun _ => True) (fun _ => False) rfl rfl ?aP (fun k_ hk_ => hk_.elim) ?aF ?aO ?aB ?aS ?aL ?_; (case aP => exact k28_mkM _ _ _ (⟨2, wrap64 ((Int.tmod (wrap64 (Int.tdiv (wrap64 (Int.tmod (IntKind.u64.wrap (rd l0 x4_1)) 100000)) 12)) 31) - 15), 0, 0, (⟨#[]⟩ : ByteArray), (⟨#[]⟩ : ByteArray), ([] : List Int)⟩ : S28) (Kd.R_nil _ _ _ _ _)); (case aB => exact (by repeat (first | (with_reducible first | exact HB.out | apply below_alloc | apply pw_below_drewN | apply below_drew1) | exact HB.out))); (case aF => exact (fun _ _ => trivial)); (case aO => exact (by (with_reducible repeat (first | apply Kd.S_alloc | apply Kd.S_drewN | apply Kd.S_drew)); exact Kd.S_mono HO_3.out (fun k_ hk => ⟨trivial, fun e_ => e_⟩))); (case aS => exact (below_size (by repeat (first | (with_reducible first | exact HB.out | apply below_alloc | apply pw_below_drewN | apply below_drew1) | exact HB.out)))); (case aL => have := LMc25.out; omega); intro v218 w26 ho hb hg hat; rw [← Ny217.out] at ho; have n0_ := Aside0.mk (hb); have n1_ := Aside0.mk (ho); clear HB; clear HO_3; have HB := n0_; have HO219 := n1_; clear n0_ n1_; clear ho hb hg hat))
                                  go_roundg kj15
                                  case measure => have := HK1.out; have := HJ1.out; have := HJ6.out; have := HJ15.out; omega
                                  case rel => exact ⟨(y217), (wrap64 (x4_1 + 1)), (by first | rfl | (simp; done) | (simp [*]; done)), H', ⟨by have := HK1.out; have := HJ1.out; have := HJ6.out; have := HJ15.out; omega⟩, ⟨by (with_reducible repeat (first | apply Kd.S_alloc | apply Kd.S_drewN | apply Kd.S_drew)); exact HO219.out⟩, ⟨by repeat (first | (with_reducible first | exact HB.out | apply below_alloc | apply pw_below_drewN | apply below_drew1) | exact HB.out)⟩⟩
                                · rw [if_neg c25] at H
                                  exact absurd H (by simp)
                              · rw [if_neg c24] at H
                                have c24b0 : ((Int.tmod (wrap64 (Int.tmod (IntKind.u64.wrap (rd l0 x4_1)) 100000)) 12) == 6) = false := beq_eq_false_iff_ne.mpr c24
                                have c24b1 : ((Int.tmod (wrap64 (Int.tmod (IntKind.u64.wrap (rd l0 x4_1)) 100000)) 12) != 6) = true := bne_iff_ne.mpr c24
                                by_cases c27 : (Int.tmod (wrap64 (Int.tmod (IntKind.u64.wrap (rd l0 x4_1)) 100000)) 12) = 7
                                · rw [if_pos c27] at H
                                  have c27b0 : ((Int.tmod (wrap64 (Int.tmod (IntKind.u64.wrap (rd l0 x4_1)) 100000)) 12) == 7) = true := beq_iff_eq.mpr c27
                                  have c27b1 : ((Int.tmod (wrap64 (Int.tmod (IntKind.u64.wrap (rd l0 x4_1)) 100000)) 12) != 7) = false := bne_eq_false_iff_eq.mpr c27
                                  clear c27
                                  by_cases c28 : x3_1.length < 1599289640401
                                  · rw [if_pos c28] at H
                                    have LMc28 := Aside0.mk c28
                                    clear c28
                                    obtain ⟨y220, hy220⟩ : ∃ y_ : List (S28), y_ = (x3_1 ++ [(⟨6, Int.tmod (wrap64 (Int.tdiv (wrap64 (Int.tmod (IntKind.u64.wrap (rd l0 x4_1)) 100000)) 12)) 10, 0, 0, (⟨#[]⟩ : ByteArray), (⟨#[]⟩ : ByteArray), ([] : List Int)⟩ : S28)]) := ⟨_, rfl⟩
                                    replace H : (frisketlaw11_Row.l0 kj15 l0 y220 (wrap64 (x4_1 + 1))) = some r := by first | (rw [hy220]; with_reducible exact H) | (have H2_ := (Option.bind_some _ _).symm.trans H; rw [hy220]; with_reducible exact H2_) | (have H2_ := (Option.bind_some _ _).symm.trans H; with_reducible exact H2_) | with_reducible exact H | (rw [hy220]; exact H) | exact H
                                    have Ny220 := Aside0.mk hy220
                                    clear hy220
                                    have H' := Aside0.mk H
                                    clear H
                                    go_wp2_with (first | ((with_reducible refine gate_builtin (b := .append) (xs := #[.tmp 77, .tmp 82]) rfl ?_); at_builtin; refine Kd.S_append k28 (w0 := w) w.heap.size rfl (.tmp 77) (.tmp 82) 31 28 (.agg #[(.int .i64 0), (.int .i64 0), (.int .i64 0), (.int .i64 0), (.string ⟨#[]⟩), (.string ⟨#[]⟩), (.slice none 0 0)]) 88 rfl Try.underlying31 info28 rfl (by decide) (by omega) u3 x3_1 (⟨6, Int.tmod (wrap64 (Int.tdiv (wrap64 (Int.tmod (IntKind.u64.wrap (rd l0 x4_1)) 100000)) 12)) 10, 0, 0, (⟨#[]⟩ : ByteArray), (⟨#[]⟩ : ByteArray), ([] : List Int)⟩ : S28) [.int .i64 6, .int .i64 (Int.tmod (wrap64 (Int.tdiv (wrap64 (Int.tmod (IntKind.u64.wrap (rd l0 x4_1)) 100000)) 12)) 10), .int .i64 0, .int .i64 0, .string (⟨#[]⟩ : ByteArray), .string (⟨#[]⟩ : ByteArray), .slice none 0 0] (fun _ => True) (fun _ => False) rfl rfl ?aP (fun k_ hk_ => hk_.elim) ?aF ?aO ?aB ?aS ?aL ?_; (case aP => exact k28_mkM _ _ _ (⟨6, Int.tmod (wrap64 (Int.tdiv (wrap64 (Int.tmod (IntKind.u64.wrap (rd l0 x4_1)) 100000)) 12)) 10, 0, 0, (⟨#[]⟩ : ByteArray), (⟨#[]⟩ : ByteArray), ([] : List Int)⟩ : S28) (Kd.R_nil _ _ _ _ _)); (case aB => exact (by repeat (first | (with_reducible first | exact HB.out | apply below_alloc | apply pw_below_drewN | apply below_drew1) | exact HB.out))); (case aF => exact (fun _ _ => trivial)); (case aO => exact (by (with_reducible repeat (first | apply Kd.S_alloc | apply Kd.S_drewN | apply Kd.S_drew)); exact Kd.S_mono HO_3.out (fun k_ hk => ⟨trivial, fun e_ => e_⟩))); (case aS => exact (below_size (by repeat (first | (with_reducible first | exact HB.out | apply below_alloc | apply pw_below_drewN | apply below_drew1) | exact HB.out)))); (case aL => have := LMc28.out; omega); intro v221 w29 ho hb hg hat; rw [← Ny220.out] at ho; have n0_ := Aside0.mk (hb); have n1_ := Aside0.mk (ho); clear HB; clear HO_3; have HB := n0_; have HO222 := n1_; clear n0_ n1_; clear ho hb hg hat))
                                    go_roundg kj15
                                    case measure => have := HK1.out; have := HJ1.out; have := HJ6.out; have := HJ15.out; omega
                                    case rel => exact ⟨(y220), (wrap64 (x4_1 + 1)), (by first | rfl | (simp; done) | (simp [*]; done)), H', ⟨by have := HK1.out; have := HJ1.out; have := HJ6.out; have := HJ15.out; omega⟩, ⟨by (with_reducible repeat (first | apply Kd.S_alloc | apply Kd.S_drewN | apply Kd.S_drew)); exact HO222.out⟩, ⟨by repeat (first | (with_reducible first | exact HB.out | apply below_alloc | apply pw_below_drewN | apply below_drew1) | exact HB.out)⟩⟩
                                  · rw [if_neg c28] at H
                                    exact absurd H (by simp)
                                · rw [if_neg c27] at H
                                  have c27b0 : ((Int.tmod (wrap64 (Int.tmod (IntKind.u64.wrap (rd l0 x4_1)) 100000)) 12) == 7) = false := beq_eq_false_iff_ne.mpr c27
                                  have c27b1 : ((Int.tmod (wrap64 (Int.tmod (IntKind.u64.wrap (rd l0 x4_1)) 100000)) 12) != 7) = true := bne_iff_ne.mpr c27
                                  obtain ⟨ji30, hji30⟩ : ∃ j_ : Int, (Int.tmod (wrap64 (Int.tdiv (wrap64 (Int.tmod (IntKind.u64.wrap (rd l0 x4_1)) 100000)) 12)) 8) = j_ := ⟨_, rfl⟩
                                  replace H : (if 0 ≤ (ji30) then (if (ji30) ≤ (wrap64 ((ji30) + 1)) then (if (wrap64 ((ji30) + 1)) ≤ 8 then (if x3_1.length < 1599289640401 then (frisketlaw11_Row.l0 kj15 l0 (x3_1 ++ [(⟨0, wrap64 (5 + (Int.tmod (wrap64 (Int.tdiv (wrap64 (Int.tmod (IntKind.u64.wrap (rd l0 x4_1)) 100000)) 12)) 12)), 0, 10, (⟨#[97, 98, 99, 100, 101, 102, 103, 104]⟩ : ByteArray).extract ((ji30) : Int).toNat ((wrap64 ((ji30) + 1)) : Int).toNat, (⟨#[]⟩ : ByteArray), ([] : List Int)⟩ : S28)]) (wrap64 (x4_1 + 1))) else (none)) else (none)) else (none)) else (none)) = some r := by first | (rw [hji30] at H; exact H) | (simp only [hji30] at H ⊢; exact H)
                                  by_cases c31 : 0 ≤ (ji30)
                                  · rw [if_pos c31] at H
                                    have c31b0 := eq_true c31
                                    have c31b1 : decide (0 ≤ (ji30)) = true := decide_eq_true c31
                                    clear c31
                                    by_cases c32 : (ji30) ≤ (wrap64 ((ji30) + 1))
                                    · rw [if_pos c32] at H
                                      have c32b0 := eq_true c32
                                      have c32b1 : decide ((ji30) ≤ (wrap64 ((ji30) + 1))) = true := decide_eq_true c32
                                      by_cases c33 : (wrap64 ((ji30) + 1)) ≤ 8
                                      · rw [if_pos c33] at H
                                        have c33b0 := eq_true c33
                                        have c33b1 : decide ((wrap64 ((ji30) + 1)) ≤ 8) = true := decide_eq_true c33
                                        by_cases c34 : x3_1.length < 1599289640401
                                        · rw [if_pos c34] at H
                                          have LMc34 := Aside0.mk c34
                                          clear c34
                                          obtain ⟨y223, hy223⟩ : ∃ y_ : List (S28), y_ = (x3_1 ++ [(⟨0, wrap64 (5 + (Int.tmod (wrap64 (Int.tdiv (wrap64 (Int.tmod (IntKind.u64.wrap (rd l0 x4_1)) 100000)) 12)) 12)), 0, 10, (⟨#[97, 98, 99, 100, 101, 102, 103, 104]⟩ : ByteArray).extract ((ji30) : Int).toNat ((wrap64 ((ji30) + 1)) : Int).toNat, (⟨#[]⟩ : ByteArray), ([] : List Int)⟩ : S28)]) := ⟨_, rfl⟩
                                          replace H : (frisketlaw11_Row.l0 kj15 l0 y223 (wrap64 (x4_1 + 1))) = some r := by first | (rw [hy223]; with_reducible exact H) | (have H2_ := (Option.bind_some _ _).symm.trans H; rw [hy223]; with_reducible exact H2_) | (have H2_ := (Option.bind_some _ _).symm.trans H; with_reducible exact H2_) | with_reducible exact H | (rw [hy223]; exact H) | exact H
                                          have Ny223 := Aside0.mk hy223
                                          clear hy223
                                          have H' := Aside0.mk H
                                          clear H
                                          go_wp2_with (first | ((with_reducible refine gate_builtin (b := .append) (xs := #[.tmp 25, .tmp 39]) rfl ?_); at_builtin; refine Kd.S_append k28 (w0 := w) w.heap.size rfl (.tmp 25) (.tmp 39) 31 28 (.agg #[(.int .i64 0), (.int .i64 0), (.int .i64 0), (.int .i64 0), (.string ⟨#[]⟩), (.string ⟨#[]⟩), (.slice none 0 0)]) 88 rfl Try.underlying31 info28 rfl (by decide) (by omega) u3 x3_1 (⟨0, wrap64 (5 + (Int.tmod (wrap64 (Int.tdiv (wrap64 (Int.tmod (IntKind.u64.wrap (rd l0 x4_1)) 100000)) 12)) 12)), 0, 10, (⟨#[97, 98, 99, 100, 101, 102, 103, 104]⟩ : ByteArray).extract ((ji30) : Int).toNat ((wrap64 ((ji30) + 1)) : Int).toNat, (⟨#[]⟩ : ByteArray), ([] : List Int)⟩ : S28) [.int .i64 0, .int .i64 (wrap64 (5 + (Int.tmod (wrap64 (Int.tdiv (wrap64 (Int.tmod (IntKind.u64.wrap (rd l0 x4_1)) 100000)) 12)) 12))), .int .i64 0, .int .i64 10, .string ((⟨#[97, 98, 99, 100, 101, 102, 103, 104]⟩ : ByteArray).extract ((ji30) : Int).toNat ((wrap64 ((ji30) + 1)) : Int).toNat), .string (⟨#[]⟩ : ByteArray), .slice none 0 0] (fun _ => True) (fun _ => False) rfl rfl ?aP (fun k_ hk_ => hk_.elim) ?aF ?aO ?aB ?aS ?aL ?_; (case aP => exact k28_mkM _ _ _ (⟨0, wrap64 (5 + (Int.tmod (wrap64 (Int.tdiv (wrap64 (Int.tmod (IntKind.u64.wrap (rd l0 x4_1)) 100000)) 12)) 12)), 0, 10, (⟨#[97, 98, 99, 100, 101, 102, 103, 104]⟩ : ByteArray).extract ((ji30) : Int).toNat ((wrap64 ((ji30) + 1)) : Int).toNat, (⟨#[]⟩ : ByteArray), ([] : List Int)⟩ : S28) (Kd.R_nil _ _ _ _ _)); (case aB => exact (by repeat (first | (with_reducible first | exact HB.out | apply below_alloc | apply pw_below_drewN | apply below_drew1) | exact HB.out))); (case aF => exact (fun _ _ => trivial)); (case aO => exact (by (with_reducible repeat (first | apply Kd.S_alloc | apply Kd.S_drewN | apply Kd.S_drew)); exact Kd.S_mono HO_3.out (fun k_ hk => ⟨trivial, fun e_ => e_⟩))); (case aS => exact (below_size (by repeat (first | (with_reducible first | exact HB.out | apply below_alloc | apply pw_below_drewN | apply below_drew1) | exact HB.out)))); (case aL => have := LMc34.out; omega); intro v224 w35 ho hb hg hat; rw [← Ny223.out] at ho; have n0_ := Aside0.mk (hb); have n1_ := Aside0.mk (ho); clear HB; clear HO_3; have HB := n0_; have HO225 := n1_; clear n0_ n1_; clear ho hb hg hat))
                                          go_roundg kj15
                                          case measure => have := HK1.out; have := HJ1.out; have := HJ6.out; have := HJ15.out; omega
                                          case rel => exact ⟨(y223), (wrap64 (x4_1 + 1)), (by first | rfl | (simp; done) | (simp [*]; done)), H', ⟨by have := HK1.out; have := HJ1.out; have := HJ6.out; have := HJ15.out; omega⟩, ⟨by (with_reducible repeat (first | apply Kd.S_alloc | apply Kd.S_drewN | apply Kd.S_drew)); exact HO225.out⟩, ⟨by repeat (first | (with_reducible first | exact HB.out | apply below_alloc | apply pw_below_drewN | apply below_drew1) | exact HB.out)⟩⟩
                                        · rw [if_neg c34] at H
                                          exact absurd H (by simp)
                                      · rw [if_neg c33] at H
                                        exact absurd H (by simp)
                                    · rw [if_neg c32] at H
                                      exact absurd H (by simp)
                                  · rw [if_neg c31] at H
                                    exact absurd H (by simp)
              · rw [if_neg c6] at H
                exact absurd H (by simp)
            · rw [if_neg c5] at H
              exact absurd H (by simp)
          · replace c4 := Bool.eq_false_iff.mpr c4
            subst c4
            have H1 : (some x3_1) = some r := by rw [if_neg (show ¬ (false = true) by decide)] at H; exact H
            clear H
            have H := H1
            clear H1
            obtain rfl := Option.some.inj H
            go_wp2
            go_ret
            exact ⟨_, by first | rfl | (simp [errW_none, errW_some] <;> rfl) | (simp [*, errW_none, errW_some] <;> rfl), by (with_reducible repeat (first | apply Kd.S_alloc | apply Kd.S_drewN | apply Kd.S_drew)); exact HO_3.out, by repeat (first | (with_reducible first | exact HB.out | apply below_alloc | apply pw_below_drewN | apply below_drew1) | exact HB.out)⟩

/-! ### frisketlaw12_line: function 13 -/
mutual
def frisketlaw12_line.l0 : Nat → List Int → List (List (S28)) → List Int → Int → Option ((List (List (S28))) × List Int)
  | 0, _, _, _, _ => none
  | k + 1, x0, x4, x5, x6 => if (wrap64 (x6 + 4)) ≤ (x0.length : Int) then (frisketlaw12_line.j1 k x0 x4 x5 x6 (decide (x6 < 40))) else (frisketlaw12_line.j1 k x0 x4 x5 x6 false)
def frisketlaw12_line.j1 : Nat → List Int → List (List (S28)) → List Int → Int → Bool → Option ((List (List (S28))) × List Int)
  | 0, _, _, _, _, _ => none
  | k + 1, x0, x4, x5, x6, x15 => if x15 = true then (if (x4.length : Int) > 0 then (if 0 ≤ x6 then (if x6 < (x0.length : Int) then (if x5.length < 17592186044416 then (if x6 ≤ (wrap64 (x6 + 4)) then (if (wrap64 (x6 + 4)) ≤ (x0.length : Int) then ((frisketlaw11_Row.f k ((x0.take ((wrap64 (x6 + 4)) : Int).toNat).drop (x6 : Int).toNat)).bind fun t231 => (if x4.length < 5864062014805 then (frisketlaw12_line.l0 k x0 (x4 ++ [t231]) (x5 ++ [wrap64 (Int.tmod (IntKind.u64.wrap (rd x0 x6)) 2)]) (wrap64 (x6 + 4))) else (none))) else (none)) else (none)) else (none)) else (none)) else (none)) else (if 0 ≤ x6 then (if x6 ≤ (wrap64 (x6 + 4)) then (if (wrap64 (x6 + 4)) ≤ (x0.length : Int) then ((frisketlaw11_Row.f k ((x0.take ((wrap64 (x6 + 4)) : Int).toNat).drop (x6 : Int).toNat)).bind fun t238 => (if x4.length < 5864062014805 then (frisketlaw12_line.l0 k x0 (x4 ++ [t238]) x5 (wrap64 (x6 + 4))) else (none))) else (none)) else (none)) else (none))) else (some (x4, x5))
end
def frisketlaw12_line.f (k : Nat) (l0 : List Int) : Option ((List (List (S28))) × List Int) := frisketlaw12_line.l0 k l0 ([] : List (List (S28))) ([] : List Int) 0
theorem frisketlaw12_line.mono_l : ∀ k, (∀ y0 y1 y2 y3, LeO (frisketlaw12_line.l0 k y0 y1 y2 y3) (frisketlaw12_line.l0 (k + 1) y0 y1 y2 y3)) ∧ (∀ y0 y1 y2 y3 y4, LeO (frisketlaw12_line.j1 k y0 y1 y2 y3 y4) (frisketlaw12_line.j1 (k + 1) y0 y1 y2 y3 y4))
  | 0 => ⟨fun _ _ _ _ r h => by simp [frisketlaw12_line.l0] at h, fun _ _ _ _ _ r h => by simp [frisketlaw12_line.j1] at h⟩
  | k + 1 => by
    obtain ⟨ih0, ih1⟩ := frisketlaw12_line.mono_l k
    refine ⟨?_, ?_⟩
    · intro y0 y1 y2 y3
      unfold frisketlaw12_line.l0
      repeat' first
      | (with_reducible exact ih0 _ _ _ _)
      | (with_reducible exact ih1 _ _ _ _ _)
      | (with_reducible exact frisketlaw11_Row.mono _ _)
      | (with_reducible exact LeO.refl _)
      | (with_reducible exact LeO.none _)
      | (with_reducible refine LeO.ite ?_ ?_)
      | (with_reducible refine LeO.bind ?_ (fun _ => ?_))
      | exact ih0 _ _ _ _
      | exact ih1 _ _ _ _ _
      | exact frisketlaw11_Row.mono _ _
      | exact LeO.none _
      | refine LeO.ite ?_ ?_
      | refine LeO.bind ?_ (fun _ => ?_)
    · intro y0 y1 y2 y3 y4
      unfold frisketlaw12_line.j1
      repeat' first
      | (with_reducible exact ih0 _ _ _ _)
      | (with_reducible exact ih1 _ _ _ _ _)
      | (with_reducible exact frisketlaw11_Row.mono _ _)
      | (with_reducible exact LeO.refl _)
      | (with_reducible exact LeO.none _)
      | (with_reducible refine LeO.ite ?_ ?_)
      | (with_reducible refine LeO.bind ?_ (fun _ => ?_))
      | exact ih0 _ _ _ _
      | exact ih1 _ _ _ _ _
      | exact frisketlaw11_Row.mono _ _
      | exact LeO.none _
      | refine LeO.ite ?_ ?_
      | refine LeO.bind ?_ (fun _ => ?_)
theorem frisketlaw12_line.mono : ∀ a0 k, LeO (frisketlaw12_line.f k a0) (frisketlaw12_line.f (k + 1) a0) := by
  intro a0 k
  obtain ⟨ih0, ih1⟩ := frisketlaw12_line.mono_l k
  unfold frisketlaw12_line.f
  repeat' first
      | (with_reducible exact ih0 _ _ _ _)
      | (with_reducible exact ih1 _ _ _ _ _)
      | (with_reducible exact frisketlaw11_Row.mono _ _)
      | (with_reducible exact LeO.refl _)
      | (with_reducible exact LeO.none _)
      | (with_reducible refine LeO.ite ?_ ?_)
      | (with_reducible refine LeO.bind ?_ (fun _ => ?_))
      | exact ih0 _ _ _ _
      | exact ih1 _ _ _ _ _
      | exact frisketlaw11_Row.mono _ _
      | exact LeO.none _
      | refine LeO.ite ?_ ?_
      | refine LeO.bind ?_ (fun _ => ?_)
set_option maxHeartbeats 8000000 in
set_option maxRecDepth 100000 in
theorem frisketlaw12_line.calls (k : Nat) (A0 : Option Addr) (c0 : Nat) (l0 : List Int) (r1 : List (List (S28))) (r2 : List Int) (w : World) (hr0 : Kd.C (Kd.int .i64) w A0 l0.length l0) (hc0 : l0.length ≤ c0) (h : frisketlaw12_line.f k l0 = some (r1, r2)) :
    Calls Try.prog 13 #[.slice A0 l0.length c0] w fun e w' => ∃ v0_ v1_ : Value, e = .returned (.tuple #[v0_, v1_]) ∧ Kd.R (Kd.slice 28 k28) 31 w' w.heap.size (fun k_ => some k_ ≠ (v1_ : Value).ownBlock) v0_ r1 ∧ Kd.R (Kd.int .i64) 3 w' w.heap.size (fun _ => True) v1_ r2 ∧ Below w.heap.size w w' := by
  have HR0 := Aside0.mk hr0
  have HC0 := Aside0.mk hc0
  clear hr0 hc0
  have HB := Aside0.mk (Below.refl w.heap.size w)
  have H : (frisketlaw12_line.l0 k l0 ([] : List (List (S28))) ([] : List Int) 0) = some (r1, r2) := h
  clear h
  have H' := Aside0.mk H
  clear H
  go_enter Try.func13, Try.ntmps13
  go_wp2
  go_loopg [4, 5, 6] k (fun kq v4 v5 v6 w' => ∃ (x4_1 : List (List (S28))) (x5_1 : List Int) (x6_1 : Int), v6 = .int .i64 x6_1 ∧ Aside0 (frisketlaw12_line.l0 kq l0 x4_1 x5_1 x6_1 = some (r1, r2)) ∧ Aside0 (kq ≤ k) ∧ Aside0 (Kd.R (Kd.slice 28 k28) 31 w' w.heap.size (fun k_ => some k_ ≠ (v5 : Value).ownBlock) v4 x4_1) ∧ Aside0 (Kd.R (Kd.int .i64) 3 w' w.heap.size (fun _ => True) v5 x5_1) ∧ Aside0 (Below w.heap.size w w'))
  case atStart => exact ⟨(([] : List (List (S28)))), (([] : List Int)), (0), (by first | rfl | (simp; done) | (simp [*]; done)), H', ⟨Nat.le_refl _⟩, ⟨by first | exact Kd.R_nil _ _ _ _ _ | exact Kd.N_nil _ _ _ _ _ | exact Kd.V_nil _ _ _ _ _ | exact Kd.Q_nil _ _ _ _ _ | exact Kd.S_nil _ _ _ _ _⟩, ⟨by first | exact Kd.R_nil _ _ _ _ _ | exact Kd.N_nil _ _ _ _ _ | exact Kd.V_nil _ _ _ _ _ | exact Kd.Q_nil _ _ _ _ _ | exact Kd.S_nil _ _ _ _ _⟩, ⟨by repeat (first | (with_reducible first | exact HB.out | apply below_alloc | apply pw_below_drewN | apply below_drew1) | exact HB.out)⟩⟩
  case round =>
    clear H'
    try clear c1
    obtain ⟨x4_1, x5_1, x6_1, rfl, HA, HK1, HO_4, HO_5, HB⟩ := hrel
    cases gk with
    | zero => exact absurd HA.out (by simp [frisketlaw12_line.l0])
    | succ k1 =>
      have H := HA.out
      clear HA
      simp only [frisketlaw12_line.l0] at H
      have HC2 := Aside0.mk H
      clear H
      go_upto_region 4 with (fail)
      go_cut [15] (fun v15 wc => ∃ (kq : Nat) (x15_1 : Bool), v15 = .bool x15_1 ∧ Aside0 (frisketlaw12_line.j1 kq l0 x4_1 x5_1 x6_1 x15_1 = some (r1, r2)) ∧ Aside0 (kq ≤ k1) ∧ Aside0 (Kd.R (Kd.slice 28 k28) 31 wc w.heap.size (fun k_ => some k_ ≠ (u5 : Value).ownBlock) u4 x4_1) ∧ Aside0 (Kd.R (Kd.int .i64) 3 wc w.heap.size (fun _ => True) u5 x5_1) ∧ Aside0 (Below w.heap.size w wc))
      case first =>
        have H := HC2.out
        clear HC2
        by_cases c3 : (wrap64 (x6_1 + 4)) ≤ (l0.length : Int)
        · rw [if_pos c3] at H
          have c3b0 : decide ((wrap64 (x6_1 + 4)) ≤ (l0.length : Int)) = true := decide_eq_true c3
          clear c3
          (first | rw [c3b0] | (simp only [i64_w, i32_w]; rw [c3b0]) | skip)
          have H' := Aside0.mk H
          clear H
          go_wp2
          go_meet
          case rel => exact ⟨_, (decide (x6_1 < 40)), (by first | rfl | (simp; done) | (simp [*]; done)), H', ⟨by have := HK1.out; first | omega | exact Nat.le_refl _⟩, ⟨by (with_reducible repeat (first | apply Kd.R_alloc | apply Kd.R_drewN | apply Kd.R_drew)); exact HO_4.out⟩, ⟨by (with_reducible repeat (first | apply Kd.R_alloc | apply Kd.R_drewN | apply Kd.R_drew)); exact HO_5.out⟩, ⟨by repeat (first | (with_reducible first | exact HB.out | apply below_alloc | apply pw_below_drewN | apply below_drew1) | exact HB.out)⟩⟩
        · rw [if_neg c3] at H
          have c3b0 : decide ((wrap64 (x6_1 + 4)) ≤ (l0.length : Int)) = false := decide_eq_false c3
          clear c3
          (first | rw [c3b0] | (simp only [i64_w, i32_w]; rw [c3b0]) | skip)
          have H' := Aside0.mk H
          clear H
          go_wp2
          go_meet
          case rel => exact ⟨_, (false), (by first | rfl | (simp; done) | (simp [*]; done)), H', ⟨by have := HK1.out; first | omega | exact Nat.le_refl _⟩, ⟨by (with_reducible repeat (first | apply Kd.R_alloc | apply Kd.R_drewN | apply Kd.R_drew)); exact HO_4.out⟩, ⟨by (with_reducible repeat (first | apply Kd.R_alloc | apply Kd.R_drewN | apply Kd.R_drew)); exact HO_5.out⟩, ⟨by repeat (first | (with_reducible first | exact HB.out | apply below_alloc | apply pw_below_drewN | apply below_drew1) | exact HB.out)⟩⟩
      case rest =>
        clear HC2
        try clear c1
        try clear p2
        try clear c3
        try clear c3b0
        obtain ⟨kq, x15_1, rfl, HA, HJ1, HO_4, HO_5, HB⟩ := hcut
        cases kq with
        | zero => exact absurd HA.out (by simp [frisketlaw12_line.j1])
        | succ kj1 =>
          have H := HA.out
          clear HA
          simp only [frisketlaw12_line.j1] at H
          by_cases c4 : x15_1 = true
          · subst c4
            have H1 : (if (x4_1.length : Int) > 0 then (if 0 ≤ x6_1 then (if x6_1 < (l0.length : Int) then (if x5_1.length < 17592186044416 then (if x6_1 ≤ (wrap64 (x6_1 + 4)) then (if (wrap64 (x6_1 + 4)) ≤ (l0.length : Int) then ((frisketlaw11_Row.f kj1 ((l0.take ((wrap64 (x6_1 + 4)) : Int).toNat).drop (x6_1 : Int).toNat)).bind fun t231 => (if x4_1.length < 5864062014805 then (frisketlaw12_line.l0 kj1 l0 (x4_1 ++ [t231]) (x5_1 ++ [wrap64 (Int.tmod (IntKind.u64.wrap (rd l0 x6_1)) 2)]) (wrap64 (x6_1 + 4))) else (none))) else (none)) else (none)) else (none)) else (none)) else (none)) else (if 0 ≤ x6_1 then (if x6_1 ≤ (wrap64 (x6_1 + 4)) then (if (wrap64 (x6_1 + 4)) ≤ (l0.length : Int) then ((frisketlaw11_Row.f kj1 ((l0.take ((wrap64 (x6_1 + 4)) : Int).toNat).drop (x6_1 : Int).toNat)).bind fun t238 => (if x4_1.length < 5864062014805 then (frisketlaw12_line.l0 kj1 l0 (x4_1 ++ [t238]) x5_1 (wrap64 (x6_1 + 4))) else (none))) else (none)) else (none)) else (none))) = some (r1, r2) := by rw [if_pos rfl] at H; exact H
            clear H
            have H := H1
            clear H1
            by_cases c5 : (x4_1.length : Int) > 0
            · rw [if_pos c5] at H
              have c5b0 : decide (0 < (x4_1.length : Int)) = true := decide_eq_true c5
              have c5b1 : decide (0 < x4_1.length) = true := decide_eq_true (by omega)
              clear c5
              by_cases c6 : 0 ≤ x6_1
              · rw [if_pos c6] at H
                have c6b0 : decide (0 ≤ x6_1) = true := decide_eq_true c6
                clear c6
                by_cases c7 : x6_1 < (l0.length : Int)
                · rw [if_pos c7] at H
                  have c7b0 : decide (x6_1 < (l0.length : Int)) = true := decide_eq_true c7
                  clear c7
                  by_cases c8 : x5_1.length < 17592186044416
                  · rw [if_pos c8] at H
                    have LMc8 := Aside0.mk c8
                    clear c8
                    obtain ⟨y227, hy227⟩ : ∃ y_ : List Int, y_ = (x5_1 ++ [wrap64 (Int.tmod (IntKind.u64.wrap (rd l0 x6_1)) 2)]) := ⟨_, rfl⟩
                    replace H : (if x6_1 ≤ (wrap64 (x6_1 + 4)) then (if (wrap64 (x6_1 + 4)) ≤ (l0.length : Int) then ((frisketlaw11_Row.f kj1 ((l0.take ((wrap64 (x6_1 + 4)) : Int).toNat).drop (x6_1 : Int).toNat)).bind fun t231 => (if x4_1.length < 5864062014805 then (frisketlaw12_line.l0 kj1 l0 (x4_1 ++ [t231]) y227 (wrap64 (x6_1 + 4))) else (none))) else (none)) else (none)) = some (r1, r2) := by first | (rw [hy227]; with_reducible exact H) | (have H2_ := (Option.bind_some _ _).symm.trans H; rw [hy227]; with_reducible exact H2_) | (have H2_ := (Option.bind_some _ _).symm.trans H; with_reducible exact H2_) | with_reducible exact H | (rw [hy227]; exact H) | exact H
                    have Ny227 := Aside0.mk hy227
                    clear hy227
                    have c9b0 := eq_true (of_decide_eq_true (by first | (with_reducible assumption) | assumption) : 0 ≤ x6_1)
                    by_cases c10 : x6_1 ≤ (wrap64 (x6_1 + 4))
                    · rw [if_pos c10] at H
                      have c10b0 := eq_true c10
                      have c10b1 : decide (x6_1 ≤ (wrap64 (x6_1 + 4))) = true := decide_eq_true c10
                      by_cases c11 : (wrap64 (x6_1 + 4)) ≤ (l0.length : Int)
                      · rw [if_pos c11] at H
                        have c11b0 := eq_true c11
                        have c11b1 : decide ((wrap64 (x6_1 + 4)) ≤ (l0.length : Int)) = true := decide_eq_true c11
                        replace H := Option.bind_eq_some_iff.mp H
                        obtain ⟨t231, A120, H⟩ := H
                        replace H : (if x4_1.length < 5864062014805 then (frisketlaw12_line.l0 kj1 l0 (x4_1 ++ [t231]) y227 (wrap64 (x6_1 + 4))) else (none)) = some (r1, r2) := H
                        have A12 := Aside0.mk A120
                        clear A120
                        by_cases c13 : x4_1.length < 5864062014805
                        · rw [if_pos c13] at H
                          have LMc13 := Aside0.mk c13
                          clear c13
                          obtain ⟨y234, hy234⟩ : ∃ y_ : List (List (S28)), y_ = (x4_1 ++ [t231]) := ⟨_, rfl⟩
                          replace H : (frisketlaw12_line.l0 kj1 l0 y234 y227 (wrap64 (x6_1 + 4))) = some (r1, r2) := by first | (rw [hy234]; with_reducible exact H) | (have H2_ := (Option.bind_some _ _).symm.trans H; rw [hy234]; with_reducible exact H2_) | (have H2_ := (Option.bind_some _ _).symm.trans H; with_reducible exact H2_) | with_reducible exact H | (rw [hy234]; exact H) | exact H
                          have Ny234 := Aside0.mk hy234
                          clear hy234
                          have H' := Aside0.mk H
                          clear H
                          obtain ⟨Ao14, co14, eo14⟩ := Kd.R_slice HO_4.out
                          subst eo14
                          have p226 : 0 ≤ (x6_1 : Int) := of_decide_eq_true (by first | (with_reducible assumption) | assumption)
                          have q226 : x6_1 < (l0.length : Int) := of_decide_eq_true (by first | (with_reducible assumption) | assumption)
                          obtain ⟨ad226, e226, hx226_0⟩ := Kd.at_int HR0.out x6_1 p226 q226
                          cases e226
                          replace hx226_0 := (HB.out.cell (World.block_lt_of_cell? w _ hx226_0)).trans hx226_0
                          replace p226 := eq_true p226
                          replace q226 := eq_true q226
                          go_wp2_with (first | ((with_reducible refine gate_builtin (b := .append) (xs := #[.tmp 21, .tmp 29]) rfl ?_); at_builtin; refine Kd.R_append (Kd.int .i64) (w0 := w) w.heap.size rfl (.tmp 21) (.tmp 29) 23 3 (.int .i64 0) 8 rfl Try.underlying23 info3 rfl (by decide) (by omega) u5 x5_1 (wrap64 (Int.tmod (IntKind.u64.wrap (rd l0 x6_1)) 2)) [.int .i64 (wrap64 (Int.tmod (IntKind.u64.wrap (rd l0 x6_1)) 2))] (fun _ => True) (fun _ => False) rfl rfl ?aP (fun _ hk => hk.elim) ?aF ?aO ?aB ?aS ?aL ?_; (case aP => exact rfl); (case aB => exact (by repeat (first | (with_reducible first | exact HB.out | apply below_alloc | apply pw_below_drewN | apply below_drew1) | exact HB.out))); (case aF => exact (fun _ _ => trivial)); (case aO => exact (by (with_reducible repeat (first | apply Kd.R_alloc | apply Kd.R_drewN | apply Kd.R_drew)); exact HO_5.out)); (case aS => exact (below_size (by repeat (first | (with_reducible first | exact HB.out | apply below_alloc | apply pw_below_drewN | apply below_drew1) | exact HB.out)))); (case aL => have := LMc8.out; omega); intro v228 w15 ho hb hg hat; rw [← Ny227.out] at ho; have n0_ := Aside0.mk (Kd.R_after (ok := (fun _ => True)) (by (with_reducible repeat (first | apply Kd.R_alloc | apply Kd.R_drewN | apply Kd.R_drew)); exact Kd.R_mono HO_4.out (fun _ hk => ⟨trivial, hk⟩)) hg hat); have n1_ := Aside0.mk (hb); have n2_ := Aside0.mk (ho); clear HO_4; clear HB; clear HO_5; have HO_4 := n0_; have HB := n1_; have HO229 := n2_; clear n0_ n1_ n2_; clear ho hb hg hat; obtain ⟨i016, hi016, _, hsz16, _⟩ := info_parts info3; obtain ⟨A16, hcut16, hA16, hC16⟩ := print_mid_of (P := Try.prog) (Value.int .i64) 0 23 3 .i64 .i64 Try.underlying23 hi016 hsz16 (some ad226) c0 l0 x6_1 (wrap64 (x6_1 + 4)) (of_decide_eq_true (by first | (with_reducible assumption) | assumption)) (by first | omega | exact of_decide_eq_true (by first | (with_reducible assumption) | assumption)) (of_decide_eq_true (by first | (with_reducible assumption) | assumption)) HC0.out; have HR230 := Aside0.mk (Kd.C_of_reads (h1 := fun _ => rfl) (hA16 _ (Kd.reads_of_C HR0.out))); have HC230 := Aside0.mk hC16; clear hA16 hC16 hi016 hsz16) | ((with_reducible refine gate_callee (f := 46) rfl ?_); refine goesL_ (some 37) rfl rfl Try.func46 (by kernel_rfl) rfl #[.slice A16 ((l0.take ((wrap64 (x6_1 + 4)) : Int).toNat).drop (x6_1 : Int).toNat).length (c0 - x6_1.toNat)] rfl (by (try simp only [List.map_toArray, List.map_cons, List.map_nil]); first | done | (rw [show ((l0.take ((wrap64 (x6_1 + 4)) : Int).toNat).drop (x6_1 : Int).toNat).length = ((wrap64 (x6_1 + 4)).toNat - x6_1.toNat) from (by rw [List.length_drop, List.length_take]; have h_ : ((wrap64 (x6_1 + 4)) : Int) ≤ (l0.length : Int) := of_decide_eq_true (by first | (with_reducible assumption) | assumption); omega)] <;> rfl) | rfl | (simp only [List.length_drop, List.length_take]; rfl)) ?_; (with_reducible refine (frisketlaw11_Row.calls kj1 _ _ ((l0.take ((wrap64 (x6_1 + 4)) : Int).toNat).drop (x6_1 : Int).toNat) t231 _ ?side1 ?side2 A12.out).mono ?_); (case side1 => repeat (first | exact (Kd.C_below HR230.out HB.out) | (with_reducible refine Kd.C_alloc ?_ _) | (with_reducible refine Kd.C_drewN ?_ _) | (with_reducible refine Kd.C_drew ?_))); (case side2 => exact HC230.out); rintro e w17 ⟨v232, rfl, ho0, hb⟩; refine ⟨_, rfl, ?_⟩; have n0_ := Aside0.mk (Kd.R_elder' (by (with_reducible repeat (first | apply Kd.R_alloc | apply Kd.R_drewN | apply Kd.R_drew)); exact HO_4.out) (Kd.S_base ho0) hb); have n1_ := Aside0.mk (Kd.R_below (by (with_reducible repeat (first | apply Kd.R_alloc | apply Kd.R_drewN | apply Kd.R_drew)); exact HO229.out) hb); have n2_ := Aside0.mk (Kd.S_lower (Kd.S_new' ho0 (Kd.R_lt (by (with_reducible repeat (first | apply Kd.R_alloc | apply Kd.R_drewN | apply Kd.R_drew)); exact HO229.out))) (below_size (by repeat (first | (with_reducible first | exact HB.out | apply below_alloc | apply pw_below_drewN | apply below_drew1) | exact HB.out)))); have n3_ := Aside0.mk (below_step (by repeat (first | (with_reducible first | exact HB.out | apply below_alloc | apply pw_below_drewN | apply below_drew1) | exact HB.out)) hb); clear HO_4; clear HO229; clear HB; have HO_4 := n0_; have HO229 := n1_; have HO233 := n2_; have HB := n3_; clear n0_ n1_ n2_ n3_; (try clear hb); (try clear hb2); (try clear hk); (try clear hi); (try clear ho0); obtain ⟨Ao19, co19, eo19⟩ := Kd.S_slice HO233.out; subst eo19) | ((with_reducible refine gate_builtin (b := .append) (xs := #[.tmp 31, .tmp 38]) rfl ?_); at_builtin; refine Kd.R_append (Kd.slice 28 k28) (w0 := w) w.heap.size rfl (.tmp 31) (.tmp 38) 22 31 (.slice none 0 0) 24 rfl Try.underlying22 info31 rfl (by decide) (by omega) (.slice Ao14 x4_1.length co14) x4_1 t231 [.slice Ao19 t231.length co19] (fun k_ => some k_ ≠ (v228 : Value).ownBlock) (fun k_ => ((fun k_ => some k_ ≠ (v228 : Value).ownBlock)) k_ ∧ some k_ ≠ (.slice Ao14 x4_1.length co14 : Value).ownBlock) rfl rfl ?aP (fun _ hk => hk) ?aF ?aO ?aB ?aS ?aL ?_; (case aP => exact Kd.M_row (Kd.R_mono (Kd.R_apart' ((Kd.S_R HO233.out)) (Kd.R_typed HO_4.out) (by decide)) (fun k_ hk => ⟨hk.1.2, hk.2⟩))); (case aB => exact (by repeat (first | (with_reducible first | exact HB.out | apply below_alloc | apply pw_below_drewN | apply below_drew1) | exact HB.out))); (case aF => exact (fun k_ hk => Kd.fresh' (Kd.R_lt (by (with_reducible repeat (first | apply Kd.R_alloc | apply Kd.R_drewN | apply Kd.R_drew)); exact HO229.out)) k_ hk)); (case aO => exact (by (with_reducible repeat (first | apply Kd.R_alloc | apply Kd.R_drewN | apply Kd.R_drew)); exact Kd.R_mono HO_4.out (fun _ hk => hk.1.2))); (case aS => exact (below_size (by repeat (first | (with_reducible first | exact HB.out | apply below_alloc | apply pw_below_drewN | apply below_drew1) | exact HB.out)))); (case aL => have := LMc13.out; omega); intro v235 w18 ho hb hg hat; rw [← Ny234.out] at ho; have n0_ := Aside0.mk (Kd.R_over' (by (with_reducible repeat (first | apply Kd.R_alloc | apply Kd.R_drewN | apply Kd.R_drew)); exact HO229.out) (Kd.R_typed (by (with_reducible repeat (first | apply Kd.R_alloc | apply Kd.R_drewN | apply Kd.R_drew)); exact HO_4.out)) (by decide) hg); have n1_ := Aside0.mk (hb); have n2_ := Aside0.mk (ho); clear HO229; clear HB; clear HO_4; clear HO233; have HO229 := n0_; have HB := n1_; have HO236 := n2_; clear n0_ n1_ n2_; clear ho hb hg hat))
                          go_roundg kj1
                          case measure => have := HK1.out; have := HJ1.out; omega
                          case rel => exact ⟨(y234), (y227), (wrap64 (x6_1 + 4)), (by first | rfl | (simp; done) | (simp [*]; done)), H', ⟨by have := HK1.out; have := HJ1.out; omega⟩, ⟨by (with_reducible repeat (first | apply Kd.R_alloc | apply Kd.R_drewN | apply Kd.R_drew)); exact HO236.out⟩, ⟨by (with_reducible repeat (first | apply Kd.R_alloc | apply Kd.R_drewN | apply Kd.R_drew)); exact HO229.out⟩, ⟨by repeat (first | (with_reducible first | exact HB.out | apply below_alloc | apply pw_below_drewN | apply below_drew1) | exact HB.out)⟩⟩
                        · rw [if_neg c13] at H
                          exact absurd H (by simp)
                      · rw [if_neg c11] at H
                        exact absurd H (by simp)
                    · rw [if_neg c10] at H
                      exact absurd H (by simp)
                  · rw [if_neg c8] at H
                    exact absurd H (by simp)
                · rw [if_neg c7] at H
                  exact absurd H (by simp)
              · rw [if_neg c6] at H
                exact absurd H (by simp)
            · rw [if_neg c5] at H
              have c5b0 : decide (0 < (x4_1.length : Int)) = false := decide_eq_false c5
              have c5b1 : decide (0 < x4_1.length) = false := decide_eq_false (by omega)
              clear c5
              by_cases c20 : 0 ≤ x6_1
              · rw [if_pos c20] at H
                have c20b0 := eq_true c20
                have c20b1 : decide (0 ≤ x6_1) = true := decide_eq_true c20
                clear c20
                by_cases c21 : x6_1 ≤ (wrap64 (x6_1 + 4))
                · rw [if_pos c21] at H
                  have c21b0 := eq_true c21
                  have c21b1 : decide (x6_1 ≤ (wrap64 (x6_1 + 4))) = true := decide_eq_true c21
                  by_cases c22 : (wrap64 (x6_1 + 4)) ≤ (l0.length : Int)
                  · rw [if_pos c22] at H
                    have c22b0 := eq_true c22
                    have c22b1 : decide ((wrap64 (x6_1 + 4)) ≤ (l0.length : Int)) = true := decide_eq_true c22
                    replace H := Option.bind_eq_some_iff.mp H
                    obtain ⟨t238, A230, H⟩ := H
                    replace H : (if x4_1.length < 5864062014805 then (frisketlaw12_line.l0 kj1 l0 (x4_1 ++ [t238]) x5_1 (wrap64 (x6_1 + 4))) else (none)) = some (r1, r2) := H
                    have A23 := Aside0.mk A230
                    clear A230
                    by_cases c24 : x4_1.length < 5864062014805
                    · rw [if_pos c24] at H
                      have LMc24 := Aside0.mk c24
                      clear c24
                      obtain ⟨y241, hy241⟩ : ∃ y_ : List (List (S28)), y_ = (x4_1 ++ [t238]) := ⟨_, rfl⟩
                      replace H : (frisketlaw12_line.l0 kj1 l0 y241 x5_1 (wrap64 (x6_1 + 4))) = some (r1, r2) := by first | (rw [hy241]; with_reducible exact H) | (have H2_ := (Option.bind_some _ _).symm.trans H; rw [hy241]; with_reducible exact H2_) | (have H2_ := (Option.bind_some _ _).symm.trans H; with_reducible exact H2_) | with_reducible exact H | (rw [hy241]; exact H) | exact H
                      have Ny241 := Aside0.mk hy241
                      clear hy241
                      have H' := Aside0.mk H
                      clear H
                      obtain ⟨Ao25, co25, eo25⟩ := Kd.R_slice HO_4.out
                      subst eo25
                      obtain ⟨i026, hi026, _, hsz26, _⟩ := info_parts info3
                      obtain ⟨A26, hcut26, hA26, hC26⟩ := print_mid_of (P := Try.prog) (Value.int .i64) 0 23 3 .i64 .i64 Try.underlying23 hi026 hsz26 A0 c0 l0 x6_1 (wrap64 (x6_1 + 4)) (of_decide_eq_true (by first | (with_reducible assumption) | assumption)) (by first | omega | exact of_decide_eq_true (by first | (with_reducible assumption) | assumption)) (of_decide_eq_true (by first | (with_reducible assumption) | assumption)) HC0.out
                      have HR237 := Aside0.mk (Kd.C_of_reads (h1 := fun _ => rfl) (hA26 _ (Kd.reads_of_C HR0.out)))
                      have HC237 := Aside0.mk hC26
                      clear hA26 hC26 hi026 hsz26
                      go_wp2_with (first | ((with_reducible refine gate_callee (f := 46) rfl ?_); refine goesL_ (some 37) rfl rfl Try.func46 (by kernel_rfl) rfl #[.slice A26 ((l0.take ((wrap64 (x6_1 + 4)) : Int).toNat).drop (x6_1 : Int).toNat).length (c0 - x6_1.toNat)] rfl (by (try simp only [List.map_toArray, List.map_cons, List.map_nil]); first | done | (rw [show ((l0.take ((wrap64 (x6_1 + 4)) : Int).toNat).drop (x6_1 : Int).toNat).length = ((wrap64 (x6_1 + 4)).toNat - x6_1.toNat) from (by rw [List.length_drop, List.length_take]; have h_ : ((wrap64 (x6_1 + 4)) : Int) ≤ (l0.length : Int) := of_decide_eq_true (by first | (with_reducible assumption) | assumption); omega)] <;> rfl) | rfl | (simp only [List.length_drop, List.length_take]; rfl)) ?_; (with_reducible refine (frisketlaw11_Row.calls kj1 _ _ ((l0.take ((wrap64 (x6_1 + 4)) : Int).toNat).drop (x6_1 : Int).toNat) t238 _ ?side1 ?side2 A23.out).mono ?_); (case side1 => repeat (first | exact (Kd.C_below HR237.out HB.out) | (with_reducible refine Kd.C_alloc ?_ _) | (with_reducible refine Kd.C_drewN ?_ _) | (with_reducible refine Kd.C_drew ?_))); (case side2 => exact HC237.out); rintro e w27 ⟨v239, rfl, ho0, hb⟩; refine ⟨_, rfl, ?_⟩; have n0_ := Aside0.mk (Kd.R_elder' (by (with_reducible repeat (first | apply Kd.R_alloc | apply Kd.R_drewN | apply Kd.R_drew)); exact HO_4.out) (Kd.S_base ho0) hb); have n1_ := Aside0.mk (Kd.R_below (by (with_reducible repeat (first | apply Kd.R_alloc | apply Kd.R_drewN | apply Kd.R_drew)); exact HO_5.out) hb); have n2_ := Aside0.mk (Kd.S_lower (Kd.S_new' ho0 (Kd.R_lt (by (with_reducible repeat (first | apply Kd.R_alloc | apply Kd.R_drewN | apply Kd.R_drew)); exact HO_5.out))) (below_size (by repeat (first | (with_reducible first | exact HB.out | apply below_alloc | apply pw_below_drewN | apply below_drew1) | exact HB.out)))); have n3_ := Aside0.mk (below_step (by repeat (first | (with_reducible first | exact HB.out | apply below_alloc | apply pw_below_drewN | apply below_drew1) | exact HB.out)) hb); clear HO_4; clear HO_5; clear HB; have HO_4 := n0_; have HO_5 := n1_; have HO240 := n2_; have HB := n3_; clear n0_ n1_ n2_ n3_; (try clear hb); (try clear hb2); (try clear hk); (try clear hi); (try clear ho0); obtain ⟨Ao29, co29, eo29⟩ := Kd.S_slice HO240.out; subst eo29) | ((with_reducible refine gate_builtin (b := .append) (xs := #[.tmp 31, .tmp 38]) rfl ?_); at_builtin; refine Kd.R_append (Kd.slice 28 k28) (w0 := w) w.heap.size rfl (.tmp 31) (.tmp 38) 22 31 (.slice none 0 0) 24 rfl Try.underlying22 info31 rfl (by decide) (by omega) (.slice Ao25 x4_1.length co25) x4_1 t238 [.slice Ao29 t238.length co29] (fun k_ => some k_ ≠ (u5 : Value).ownBlock) (fun k_ => ((fun k_ => some k_ ≠ (u5 : Value).ownBlock)) k_ ∧ some k_ ≠ (.slice Ao25 x4_1.length co25 : Value).ownBlock) rfl rfl ?aP (fun _ hk => hk) ?aF ?aO ?aB ?aS ?aL ?_; (case aP => exact Kd.M_row (Kd.R_mono (Kd.R_apart' ((Kd.S_R HO240.out)) (Kd.R_typed HO_4.out) (by decide)) (fun k_ hk => ⟨hk.1.2, hk.2⟩))); (case aB => exact (by repeat (first | (with_reducible first | exact HB.out | apply below_alloc | apply pw_below_drewN | apply below_drew1) | exact HB.out))); (case aF => exact (fun k_ hk => Kd.fresh' (Kd.R_lt (by (with_reducible repeat (first | apply Kd.R_alloc | apply Kd.R_drewN | apply Kd.R_drew)); exact HO_5.out)) k_ hk)); (case aO => exact (by (with_reducible repeat (first | apply Kd.R_alloc | apply Kd.R_drewN | apply Kd.R_drew)); exact Kd.R_mono HO_4.out (fun _ hk => hk.1))); (case aS => exact (below_size (by repeat (first | (with_reducible first | exact HB.out | apply below_alloc | apply pw_below_drewN | apply below_drew1) | exact HB.out)))); (case aL => have := LMc24.out; omega); intro v242 w28 ho hb hg hat; rw [← Ny241.out] at ho; have n0_ := Aside0.mk (Kd.R_over' (by (with_reducible repeat (first | apply Kd.R_alloc | apply Kd.R_drewN | apply Kd.R_drew)); exact HO_5.out) (Kd.R_typed (by (with_reducible repeat (first | apply Kd.R_alloc | apply Kd.R_drewN | apply Kd.R_drew)); exact HO_4.out)) (by decide) hg); have n1_ := Aside0.mk (hb); have n2_ := Aside0.mk (ho); clear HO_5; clear HB; clear HO_4; clear HO240; have HO_5 := n0_; have HB := n1_; have HO243 := n2_; clear n0_ n1_ n2_; clear ho hb hg hat))
                      go_roundg kj1
                      case measure => have := HK1.out; have := HJ1.out; omega
                      case rel => exact ⟨(y241), (x5_1), (wrap64 (x6_1 + 4)), (by first | rfl | (simp; done) | (simp [*]; done)), H', ⟨by have := HK1.out; have := HJ1.out; omega⟩, ⟨by (with_reducible repeat (first | apply Kd.R_alloc | apply Kd.R_drewN | apply Kd.R_drew)); exact HO243.out⟩, ⟨by (with_reducible repeat (first | apply Kd.R_alloc | apply Kd.R_drewN | apply Kd.R_drew)); exact HO_5.out⟩, ⟨by repeat (first | (with_reducible first | exact HB.out | apply below_alloc | apply pw_below_drewN | apply below_drew1) | exact HB.out)⟩⟩
                    · rw [if_neg c24] at H
                      exact absurd H (by simp)
                  · rw [if_neg c22] at H
                    exact absurd H (by simp)
                · rw [if_neg c21] at H
                  exact absurd H (by simp)
              · rw [if_neg c20] at H
                exact absurd H (by simp)
          · replace c4 := Bool.eq_false_iff.mpr c4
            subst c4
            have H1 : (some (x4_1, x5_1)) = some (r1, r2) := by rw [if_neg (show ¬ (false = true) by decide)] at H; exact H
            clear H
            have H := H1
            clear H1
            simp only [Option.some.injEq, Prod.mk.injEq] at H
            obtain ⟨rfl, rfl⟩ := H
            go_wp2
            go_ret2
            exact ⟨_, _, by first | rfl | (simp [errW_none, errW_some] <;> rfl) | (simp [*, errW_none, errW_some] <;> rfl), by (with_reducible repeat (first | apply Kd.R_alloc | apply Kd.R_drewN | apply Kd.R_drew)); exact HO_4.out, by (with_reducible repeat (first | apply Kd.R_alloc | apply Kd.R_drewN | apply Kd.R_drew)); exact HO_5.out, by repeat (first | (with_reducible first | exact HB.out | apply below_alloc | apply pw_below_drewN | apply below_drew1) | exact HB.out)⟩

end Go.Proofs.Ytmmfojaeahcohaa.PTabsMade

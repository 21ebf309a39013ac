-- PRINTED BY print.sh 35421559b90ae4d0a3588c463048766b98c2df88dd9212a6774a882060cdf62d: not written by this session
import Derived.Test.YtaokofnhkojllaaPEndsx0
namespace Go.Proofs.Ytaokofnhkojllaa.PEnds
open Go.RowKit Go.Proofs.YtaokofnhkojllaaW.PrintWords Go.Proofs.YtaokofnhkojllaaW.PrintLast Go.Proofs.YtaokofnhkojllaaW.PrintMore
attribute [local go_sem] max2_int min2_int max_two min_two max_three min_three max_four min_four   -- for this text's walks alone
set_option linter.unusedVariables false
set_option linter.unusedSimpArgs false

/-! ### frisketref10_Ends: function 12 -/
mutual
def frisketref10_Ends.l0 : Nat → List (S55) → Int → Option (Bool)
  | 0, _, _ => none
  | k + 1, x0, x3 => if x3 ≥ 0 then (if 0 ≤ x3 then (if x3 < (x0.length : Int) then (if ((rd_T55 x0 x3).f0) = 8 then (frisketref10_Ends.j1 k x0 x3 ((rd_T55 x0 x3).f0) true) else (if ((rd_T55 x0 x3).f0) = 10 then (frisketref10_Ends.j1 k x0 x3 ((rd_T55 x0 x3).f0) true) else (if ((rd_T55 x0 x3).f0) = 11 then (frisketref10_Ends.j1 k x0 x3 ((rd_T55 x0 x3).f0) true) else (frisketref10_Ends.j1 k x0 x3 ((rd_T55 x0 x3).f0) (((rd_T55 x0 x3).f0) == 21))))) else (none)) else (none)) else (some false)
def frisketref10_Ends.j1 : Nat → List (S55) → Int → Int → Bool → Option (Bool)
  | 0, _, _, _, _ => none
  | k + 1, x0, x3, x4, x30 => if x30 = true then (frisketref10_Ends.l0 k x0 (wrap64 (x3 - 1))) else (if x4 = 0 then (if 0 ≤ x3 then (if x3 < (x0.length : Int) then (if ((rd_T55 x0 x3).f1).toList = ([46] : List UInt8) then (frisketref10_Ends.j2 k x0 x3 ((rd_T55 x0 x3).f1) (((rd_T55 x0 x3).f1).toList == ([46] : List UInt8))) else (if ((rd_T55 x0 x3).f1).toList = ([63] : List UInt8) then (frisketref10_Ends.j2 k x0 x3 ((rd_T55 x0 x3).f1) (((rd_T55 x0 x3).f1).toList == ([63] : List UInt8))) else (frisketref10_Ends.j2 k x0 x3 ((rd_T55 x0 x3).f1) (((rd_T55 x0 x3).f1).toList == ([33] : List UInt8))))) else (none)) else (none)) else (some false))
def frisketref10_Ends.j2 : Nat → List (S55) → Int → ByteArray → Bool → Option (Bool)
  | 0, _, _, _, _ => none
  | k + 1, x0, x3, x37, x38 => if x38 = true then (some true) else (if x37.toList = ([34] : List UInt8) then (frisketref10_Ends.l0 k x0 (wrap64 (x3 - 1))) else (if x37.toList = ([39] : List UInt8) then (frisketref10_Ends.l0 k x0 (wrap64 (x3 - 1))) else (if x37.toList = ([41] : List UInt8) then (frisketref10_Ends.l0 k x0 (wrap64 (x3 - 1))) else (if x37.toList = ([93] : List UInt8) then (frisketref10_Ends.l0 k x0 (wrap64 (x3 - 1))) else (some false)))))
end
def frisketref10_Ends.f (k : Nat) (l0 : List (S55)) : Option (Bool) := frisketref10_Ends.l0 k l0 (wrap64 ((l0.length : Int) - 1))
theorem frisketref10_Ends.mono_l : ∀ k, (∀ y0 y1, LeO (frisketref10_Ends.l0 k y0 y1) (frisketref10_Ends.l0 (k + 1) y0 y1)) ∧ (∀ y0 y1 y2 y3, LeO (frisketref10_Ends.j1 k y0 y1 y2 y3) (frisketref10_Ends.j1 (k + 1) y0 y1 y2 y3)) ∧ (∀ y0 y1 y2 y3, LeO (frisketref10_Ends.j2 k y0 y1 y2 y3) (frisketref10_Ends.j2 (k + 1) y0 y1 y2 y3))
  | 0 => ⟨fun _ _ r h => by simp [frisketref10_Ends.l0] at h, fun _ _ _ _ r h => by simp [frisketref10_Ends.j1] at h, fun _ _ _ _ r h => by simp [frisketref10_Ends.j2] at h⟩
  | k + 1 => by
    obtain ⟨ih0, ih1, ih2⟩ := frisketref10_Ends.mono_l k
    refine ⟨?_, ?_, ?_⟩
    · intro y0 y1
      unfold frisketref10_Ends.l0
      repeat' first
      | (with_reducible exact ih0 _ _)
      | (with_reducible exact ih1 _ _ _ _)
      | (with_reducible exact ih2 _ _ _ _)
      | (with_reducible exact LeO.refl _)
      | (with_reducible exact LeO.none _)
      | (with_reducible refine LeO.ite ?_ ?_)
      | (with_reducible refine LeO.bind ?_ (fun _ => ?_))
      | exact ih0 _ _
      | exact ih1 _ _ _ _
      | exact ih2 _ _ _ _
      | exact LeO.none _
      | refine LeO.ite ?_ ?_
      | refine LeO.bind ?_ (fun _ => ?_)
    · intro y0 y1 y2 y3
      unfold frisketref10_Ends.j1
      repeat' first
      | (with_reducible exact ih0 _ _)
      | (with_reducible exact ih1 _ _ _ _)
      | (with_reducible exact ih2 _ _ _ _)
      | (with_reducible exact LeO.refl _)
      | (with_reducible exact LeO.none _)
      | (with_reducible refine LeO.ite ?_ ?_)
      | (with_reducible refine LeO.bind ?_ (fun _ => ?_))
      | exact ih0 _ _
      | exact ih1 _ _ _ _
      | exact ih2 _ _ _ _
      | exact LeO.none _
      | refine LeO.ite ?_ ?_
      | refine LeO.bind ?_ (fun _ => ?_)
    · intro y0 y1 y2 y3
      unfold frisketref10_Ends.j2
      repeat' first
      | (with_reducible exact ih0 _ _)
      | (with_reducible exact ih1 _ _ _ _)
      | (with_reducible exact ih2 _ _ _ _)
      | (with_reducible exact LeO.refl _)
      | (with_reducible exact LeO.none _)
      | (with_reducible refine LeO.ite ?_ ?_)
      | (with_reducible refine LeO.bind ?_ (fun _ => ?_))
      | exact ih0 _ _
      | exact ih1 _ _ _ _
      | exact ih2 _ _ _ _
      | exact LeO.none _
      | refine LeO.ite ?_ ?_
      | refine LeO.bind ?_ (fun _ => ?_)
theorem frisketref10_Ends.mono : ∀ a0 k, LeO (frisketref10_Ends.f k a0) (frisketref10_Ends.f (k + 1) a0) := by
  intro a0 k
  obtain ⟨ih0, ih1, ih2⟩ := frisketref10_Ends.mono_l k
  unfold frisketref10_Ends.f
  repeat' first
      | (with_reducible exact ih0 _ _)
      | (with_reducible exact ih1 _ _ _ _)
      | (with_reducible exact ih2 _ _ _ _)
      | (with_reducible exact LeO.refl _)
      | (with_reducible exact LeO.none _)
      | (with_reducible refine LeO.ite ?_ ?_)
      | (with_reducible refine LeO.bind ?_ (fun _ => ?_))
      | exact ih0 _ _
      | exact ih1 _ _ _ _
      | exact ih2 _ _ _ _
      | exact LeO.none _
      | refine LeO.ite ?_ ?_
      | refine LeO.bind ?_ (fun _ => ?_)
set_option maxHeartbeats 8000000 in
set_option maxRecDepth 100000 in
theorem frisketref10_Ends.calls (k : Nat) (A0 : Option Addr) (c0 : Nat) (l0 : List (S55)) (r : Bool) (w : World) (hr0 : Kd.C k55 w A0 l0.length l0) (hc0 : l0.length ≤ c0) (h : frisketref10_Ends.f k l0 = some r) :
    Calls Try.prog 12 #[.slice A0 l0.length c0] w fun e w' => e = .returned (.bool r) ∧ Drawn0 w w' := by
  have HR0 := Aside0.mk hr0
  have HC0 := Aside0.mk hc0
  clear hr0 hc0
  have H : (frisketref10_Ends.l0 k l0 (wrap64 ((l0.length : Int) - 1))) = some r := h
  clear h
  have H' := Aside0.mk H
  clear H
  go_enter Try.func12, Try.ntmps12
  go_wp2
  go_loopg [3] k (fun kq v3 w' => ∃ (x3_1 : Int), v3 = .int .i64 x3_1 ∧ Aside0 (frisketref10_Ends.l0 kq l0 x3_1 = some r) ∧ Aside0 (kq ≤ k) ∧ Drawn0 w w')
  case atStart => exact ⟨(wrap64 ((l0.length : Int) - 1)), (by first | rfl | (simp; done) | (simp [*]; done)), H', ⟨Nat.le_refl _⟩, by repeat (first | exact Drawn0.refl _ | apply Drawn0.step)⟩
  case round =>
    clear H'
    try clear c1
    obtain ⟨x3_1, rfl, HA, HK1, ⟨m1, rfl⟩⟩ := hrel
    cases gk with
    | zero => exact absurd HA.out (by simp [frisketref10_Ends.l0])
    | succ k1 =>
      have H := HA.out
      clear HA
      simp only [frisketref10_Ends.l0] at H
      by_cases c2 : x3_1 ≥ 0
      · rw [if_pos c2] at H
        have c2b0 : decide (0 ≤ x3_1) = true := decide_eq_true c2
        clear c2
        by_cases c3 : 0 ≤ x3_1
        · rw [if_pos c3] at H
          have c3b0 : decide (0 ≤ x3_1) = true := decide_eq_true c3
          clear c3
          by_cases c4 : x3_1 < (l0.length : Int)
          · rw [if_pos c4] at H
            have c4b0 : decide (x3_1 < (l0.length : Int)) = true := decide_eq_true c4
            clear c4
            have HC5 := Aside0.mk H
            clear H
            have p101 : 0 ≤ (x3_1 : Int) := of_decide_eq_true (by first | (with_reducible assumption) | assumption)
            have q101 : x3_1 < (l0.length : Int) := of_decide_eq_true (by first | (with_reducible assumption) | assumption)
            obtain ⟨ad101, e101, hx101_0, hx101_1, hx101_2⟩ := at_T55 HR0.out x3_1 p101 q101
            cases e101
            replace p101 := eq_true p101
            replace q101 := eq_true q101
            go_upto_region 5 with (fail)
            go_cut [30] (fun v30 wc => ∃ (kq : Nat) (x30_4 : Bool), v30 = .bool x30_4 ∧ Aside0 (frisketref10_Ends.j1 kq l0 x3_1 ((rd_T55 l0 x3_1).f0) x30_4 = some r) ∧ Aside0 (kq ≤ k1) ∧ Drawn0 w wc)
            case first =>
              have H := HC5.out
              clear HC5
              by_cases c6 : ((rd_T55 l0 x3_1).f0) = 8
              · rw [if_pos c6] at H
                have c6b0 : (((rd_T55 l0 x3_1).f0) == 8) = true := beq_iff_eq.mpr c6
                have c6b1 : (((rd_T55 l0 x3_1).f0) != 8) = false := bne_eq_false_iff_eq.mpr c6
                clear c6
                (first | rw [c6b0] | (simp only [i64_w, i32_w]; rw [c6b0]) | skip)
                have H' := Aside0.mk H
                clear H
                go_wp2
                go_meet
                case rel => exact ⟨_, (true), (by first | rfl | (simp; done) | (simp [*]; done)), H', ⟨by have := HK1.out; first | omega | exact Nat.le_refl _⟩, by repeat (first | exact Drawn0.refl _ | apply Drawn0.step)⟩
              · rw [if_neg c6] at H
                have c6b0 : (((rd_T55 l0 x3_1).f0) == 8) = false := beq_eq_false_iff_ne.mpr c6
                have c6b1 : (((rd_T55 l0 x3_1).f0) != 8) = true := bne_iff_ne.mpr c6
                (first | rw [c6b0] | (simp only [i64_w, i32_w]; rw [c6b0]) | skip)
                by_cases c7 : ((rd_T55 l0 x3_1).f0) = 10
                · rw [if_pos c7] at H
                  have c7b0 : (((rd_T55 l0 x3_1).f0) == 10) = true := beq_iff_eq.mpr c7
                  have c7b1 : (((rd_T55 l0 x3_1).f0) != 10) = false := bne_eq_false_iff_eq.mpr c7
                  clear c7
                  have H' := Aside0.mk H
                  clear H
                  go_wp2
                  go_meet
                  case rel => exact ⟨_, (true), (by first | rfl | (simp; done) | (simp [*]; done)), H', ⟨by have := HK1.out; first | omega | exact Nat.le_refl _⟩, by repeat (first | exact Drawn0.refl _ | apply Drawn0.step)⟩
                · rw [if_neg c7] at H
                  have c7b0 : (((rd_T55 l0 x3_1).f0) == 10) = false := beq_eq_false_iff_ne.mpr c7
                  have c7b1 : (((rd_T55 l0 x3_1).f0) != 10) = true := bne_iff_ne.mpr c7
                  by_cases c8 : ((rd_T55 l0 x3_1).f0) = 11
                  · rw [if_pos c8] at H
                    have c8b0 : (((rd_T55 l0 x3_1).f0) == 11) = true := beq_iff_eq.mpr c8
                    have c8b1 : (((rd_T55 l0 x3_1).f0) != 11) = false := bne_eq_false_iff_eq.mpr c8
                    clear c8
                    have H' := Aside0.mk H
                    clear H
                    go_wp2
                    go_meet
                    case rel => exact ⟨_, (true), (by first | rfl | (simp; done) | (simp [*]; done)), H', ⟨by have := HK1.out; first | omega | exact Nat.le_refl _⟩, by repeat (first | exact Drawn0.refl _ | apply Drawn0.step)⟩
                  · rw [if_neg c8] at H
                    have c8b0 : (((rd_T55 l0 x3_1).f0) == 11) = false := beq_eq_false_iff_ne.mpr c8
                    have c8b1 : (((rd_T55 l0 x3_1).f0) != 11) = true := bne_iff_ne.mpr c8
                    have H' := Aside0.mk H
                    clear H
                    go_wp2
                    go_meet
                    case rel => exact ⟨_, ((((rd_T55 l0 x3_1).f0) == 21)), (by first | rfl | (simp; done) | (simp [*]; done)), H', ⟨by have := HK1.out; first | omega | exact Nat.le_refl _⟩, by repeat (first | exact Drawn0.refl _ | apply Drawn0.step)⟩
            case rest =>
              clear HC5
              try clear c1
              try clear p1
              try clear q1
              try clear hx1
              try clear c2
              try clear c2b0
              try clear p2
              try clear c3
              try clear c3b0
              try clear c4
              try clear c4b0
              try clear c6
              try clear c6b0
              try clear c6b1
              try clear p6
              try clear c7
              try clear c7b0
              try clear c7b1
              try clear c8
              try clear c8b0
              try clear c8b1
              try clear hx101_0
              try clear hx101_1
              try clear hx101_2
              try clear p101
              try clear q101
              obtain ⟨kq, x30_4, rfl, HA, HJ4, ⟨mc4, rfl⟩⟩ := hcut
              cases kq with
              | zero => exact absurd HA.out (by simp [frisketref10_Ends.j1])
              | succ kj4 =>
                have H := HA.out
                clear HA
                simp only [frisketref10_Ends.j1] at H
                by_cases c9 : x30_4 = true
                · subst c9
                  have H1 : (frisketref10_Ends.l0 kj4 l0 (wrap64 (x3_1 - 1))) = some r := by rw [if_pos rfl] at H; exact H
                  clear H
                  have H := H1
                  clear H1
                  have H' := Aside0.mk H
                  clear H
                  go_wp2
                  go_roundg kj4
                  case measure => have := HK1.out; have := HJ4.out; omega
                  case rel => exact ⟨(wrap64 (x3_1 - 1)), (by first | rfl | (simp; done) | (simp [*]; done)), H', ⟨by have := HK1.out; have := HJ4.out; omega⟩, by repeat (first | exact Drawn0.refl _ | apply Drawn0.step)⟩
                · replace c9 := Bool.eq_false_iff.mpr c9
                  subst c9
                  have H1 : (if ((rd_T55 l0 x3_1).f0) = 0 then (if 0 ≤ x3_1 then (if x3_1 < (l0.length : Int) then (if ((rd_T55 l0 x3_1).f1).toList = ([46] : List UInt8) then (frisketref10_Ends.j2 kj4 l0 x3_1 ((rd_T55 l0 x3_1).f1) (((rd_T55 l0 x3_1).f1).toList == ([46] : List UInt8))) else (if ((rd_T55 l0 x3_1).f1).toList = ([63] : List UInt8) then (frisketref10_Ends.j2 kj4 l0 x3_1 ((rd_T55 l0 x3_1).f1) (((rd_T55 l0 x3_1).f1).toList == ([63] : List UInt8))) else (frisketref10_Ends.j2 kj4 l0 x3_1 ((rd_T55 l0 x3_1).f1) (((rd_T55 l0 x3_1).f1).toList == ([33] : List UInt8))))) else (none)) else (none)) else (some false)) = some r := by rw [if_neg (show ¬ (false = true) by decide)] at H; exact H
                  clear H
                  have H := H1
                  clear H1
                  by_cases c10 : ((rd_T55 l0 x3_1).f0) = 0
                  · rw [if_pos c10] at H
                    have c10b0 : (((rd_T55 l0 x3_1).f0) == 0) = true := beq_iff_eq.mpr c10
                    have c10b1 : (((rd_T55 l0 x3_1).f0) != 0) = false := bne_eq_false_iff_eq.mpr c10
                    clear c10
                    by_cases c11 : 0 ≤ x3_1
                    · rw [if_pos c11] at H
                      have c11b0 : decide (0 ≤ x3_1) = true := decide_eq_true c11
                      clear c11
                      by_cases c12 : x3_1 < (l0.length : Int)
                      · rw [if_pos c12] at H
                        have c12b0 : decide (x3_1 < (l0.length : Int)) = true := decide_eq_true c12
                        clear c12
                        have HC13 := Aside0.mk H
                        clear H
                        have p102 : 0 ≤ (x3_1 : Int) := of_decide_eq_true (by first | (with_reducible assumption) | assumption)
                        have q102 : x3_1 < (l0.length : Int) := of_decide_eq_true (by first | (with_reducible assumption) | assumption)
                        obtain ⟨ad102, e102, hx102_0, hx102_1, hx102_2⟩ := at_T55 HR0.out x3_1 p102 q102
                        obtain rfl : ad101 = ad102 := (by injection e102)
                        replace p102 := eq_true p102
                        replace q102 := eq_true q102
                        go_upto_if 38 with (fail)
                        go_cut [38] (fun v38 wc => ∃ (kq : Nat) (x38_12 : Bool), v38 = .bool x38_12 ∧ Aside0 (frisketref10_Ends.j2 kq l0 x3_1 ((rd_T55 l0 x3_1).f1) x38_12 = some r) ∧ Aside0 (kq ≤ kj4) ∧ Drawn0 w wc)
                        case first =>
                          have H := HC13.out
                          clear HC13
                          by_cases c14 : ((rd_T55 l0 x3_1).f1).toList = ([46] : List UInt8)
                          · rw [if_pos c14] at H
                            have c14b0 : (((rd_T55 l0 x3_1).f1).toList == ([46] : List UInt8)) = true := beq_iff_eq.mpr c14
                            have c14b1 : (((rd_T55 l0 x3_1).f1).toList != ([46] : List UInt8)) = false := bne_eq_false_iff_eq.mpr c14
                            clear c14
                            (first | rw [c14b0] | (simp only [i64_w, i32_w]; rw [c14b0]) | skip)
                            have H' := Aside0.mk H
                            clear H
                            go_wp2
                            go_meet
                            case rel => exact ⟨_, ((((rd_T55 l0 x3_1).f1).toList == ([46] : List UInt8))), (by first | rfl | (simp; done) | (simp [*]; done)), H', ⟨by have := HK1.out; have := HJ4.out; first | omega | exact Nat.le_refl _⟩, by repeat (first | exact Drawn0.refl _ | apply Drawn0.step)⟩
                          · rw [if_neg c14] at H
                            have c14b0 : (((rd_T55 l0 x3_1).f1).toList == ([46] : List UInt8)) = false := beq_eq_false_iff_ne.mpr c14
                            have c14b1 : (((rd_T55 l0 x3_1).f1).toList != ([46] : List UInt8)) = true := bne_iff_ne.mpr c14
                            (first | rw [c14b0] | (simp only [i64_w, i32_w]; rw [c14b0]) | skip)
                            by_cases c15 : ((rd_T55 l0 x3_1).f1).toList = ([63] : List UInt8)
                            · rw [if_pos c15] at H
                              have c15b0 : (((rd_T55 l0 x3_1).f1).toList == ([63] : List UInt8)) = true := beq_iff_eq.mpr c15
                              have c15b1 : (((rd_T55 l0 x3_1).f1).toList != ([63] : List UInt8)) = false := bne_eq_false_iff_eq.mpr c15
                              clear c15
                              have H' := Aside0.mk H
                              clear H
                              go_wp2
                              go_meet
                              case rel => exact ⟨_, ((((rd_T55 l0 x3_1).f1).toList == ([63] : List UInt8))), (by first | rfl | (simp; done) | (simp [*]; done)), H', ⟨by have := HK1.out; have := HJ4.out; first | omega | exact Nat.le_refl _⟩, by repeat (first | exact Drawn0.refl _ | apply Drawn0.step)⟩
                            · rw [if_neg c15] at H
                              have c15b0 : (((rd_T55 l0 x3_1).f1).toList == ([63] : List UInt8)) = false := beq_eq_false_iff_ne.mpr c15
                              have c15b1 : (((rd_T55 l0 x3_1).f1).toList != ([63] : List UInt8)) = true := bne_iff_ne.mpr c15
                              have H' := Aside0.mk H
                              clear H
                              go_wp2
                              go_meet
                              case rel => exact ⟨_, ((((rd_T55 l0 x3_1).f1).toList == ([33] : List UInt8))), (by first | rfl | (simp; done) | (simp [*]; done)), H', ⟨by have := HK1.out; have := HJ4.out; first | omega | exact Nat.le_refl _⟩, by repeat (first | exact Drawn0.refl _ | apply Drawn0.step)⟩
                        case rest =>
                          clear HC13
                          try clear c1
                          try clear p1
                          try clear q1
                          try clear hx1
                          try clear c2
                          try clear c2b0
                          try clear p2
                          try clear c3
                          try clear c3b0
                          try clear c4
                          try clear c4b0
                          try clear c6
                          try clear c6b0
                          try clear c6b1
                          try clear p6
                          try clear c7
                          try clear c7b0
                          try clear c7b1
                          try clear c8
                          try clear c8b0
                          try clear c8b1
                          try clear c9
                          try clear c10
                          try clear c10b0
                          try clear c10b1
                          try clear p10
                          try clear q10
                          try clear hx10
                          try clear c11
                          try clear c11b0
                          try clear c12
                          try clear c12b0
                          try clear c14
                          try clear c14b0
                          try clear c14b1
                          try clear c15
                          try clear c15b0
                          try clear c15b1
                          try clear hx101_0
                          try clear hx101_1
                          try clear hx101_2
                          try clear hx102_0
                          try clear hx102_1
                          try clear hx102_2
                          try clear p1
                          try clear p101
                          try clear p102
                          try clear p2
                          try clear p6
                          try clear q1
                          try clear q101
                          try clear q102
                          obtain ⟨kq, x38_12, rfl, HA, HJ12, ⟨mc12, rfl⟩⟩ := hcut
                          cases kq with
                          | zero => exact absurd HA.out (by simp [frisketref10_Ends.j2])
                          | succ kj12 =>
                            have H := HA.out
                            clear HA
                            simp only [frisketref10_Ends.j2] at H
                            by_cases c16 : x38_12 = true
                            · subst c16
                              have H1 : (some true) = some r := by rw [if_pos rfl] at H; exact H
                              clear H
                              have H := H1
                              clear H1
                              obtain rfl := Option.some.inj H
                              go_wp2
                              go_ret
                              exact ⟨by first | rfl | (simp; done) | (simp [*]; done), by repeat (first | exact Drawn0.refl _ | apply Drawn0.step)⟩
                            · replace c16 := Bool.eq_false_iff.mpr c16
                              subst c16
                              have H1 : (if ((rd_T55 l0 x3_1).f1).toList = ([34] : List UInt8) then (frisketref10_Ends.l0 kj12 l0 (wrap64 (x3_1 - 1))) else (if ((rd_T55 l0 x3_1).f1).toList = ([39] : List UInt8) then (frisketref10_Ends.l0 kj12 l0 (wrap64 (x3_1 - 1))) else (if ((rd_T55 l0 x3_1).f1).toList = ([41] : List UInt8) then (frisketref10_Ends.l0 kj12 l0 (wrap64 (x3_1 - 1))) else (if ((rd_T55 l0 x3_1).f1).toList = ([93] : List UInt8) then (frisketref10_Ends.l0 kj12 l0 (wrap64 (x3_1 - 1))) else (some false))))) = some r := by rw [if_neg (show ¬ (false = true) by decide)] at H; exact H
                              clear H
                              have H := H1
                              clear H1
                              by_cases c17 : ((rd_T55 l0 x3_1).f1).toList = ([34] : List UInt8)
                              · rw [if_pos c17] at H
                                have c17b0 : (((rd_T55 l0 x3_1).f1).toList == ([34] : List UInt8)) = true := beq_iff_eq.mpr c17
                                have c17b1 : (((rd_T55 l0 x3_1).f1).toList != ([34] : List UInt8)) = false := bne_eq_false_iff_eq.mpr c17
                                clear c17
                                have H' := Aside0.mk H
                                clear H
                                go_wp2
                                go_roundg kj12
                                case measure => have := HK1.out; have := HJ4.out; have := HJ12.out; omega
                                case rel => exact ⟨(wrap64 (x3_1 - 1)), (by first | rfl | (simp; done) | (simp [*]; done)), H', ⟨by have := HK1.out; have := HJ4.out; have := HJ12.out; omega⟩, by repeat (first | exact Drawn0.refl _ | apply Drawn0.step)⟩
                              · rw [if_neg c17] at H
                                have c17b0 : (((rd_T55 l0 x3_1).f1).toList == ([34] : List UInt8)) = false := beq_eq_false_iff_ne.mpr c17
                                have c17b1 : (((rd_T55 l0 x3_1).f1).toList != ([34] : List UInt8)) = true := bne_iff_ne.mpr c17
                                by_cases c18 : ((rd_T55 l0 x3_1).f1).toList = ([39] : List UInt8)
                                · rw [if_pos c18] at H
                                  have c18b0 : (((rd_T55 l0 x3_1).f1).toList == ([39] : List UInt8)) = true := beq_iff_eq.mpr c18
                                  have c18b1 : (((rd_T55 l0 x3_1).f1).toList != ([39] : List UInt8)) = false := bne_eq_false_iff_eq.mpr c18
                                  clear c18
                                  have H' := Aside0.mk H
                                  clear H
                                  go_wp2
                                  go_roundg kj12
                                  case measure => have := HK1.out; have := HJ4.out; have := HJ12.out; omega
                                  case rel => exact ⟨(wrap64 (x3_1 - 1)), (by first | rfl | (simp; done) | (simp [*]; done)), H', ⟨by have := HK1.out; have := HJ4.out; have := HJ12.out; omega⟩, by repeat (first | exact Drawn0.refl _ | apply Drawn0.step)⟩
                                · rw [if_neg c18] at H
                                  have c18b0 : (((rd_T55 l0 x3_1).f1).toList == ([39] : List UInt8)) = false := beq_eq_false_iff_ne.mpr c18
                                  have c18b1 : (((rd_T55 l0 x3_1).f1).toList != ([39] : List UInt8)) = true := bne_iff_ne.mpr c18
                                  by_cases c19 : ((rd_T55 l0 x3_1).f1).toList = ([41] : List UInt8)
                                  · rw [if_pos c19] at H
                                    have c19b0 : (((rd_T55 l0 x3_1).f1).toList == ([41] : List UInt8)) = true := beq_iff_eq.mpr c19
                                    have c19b1 : (((rd_T55 l0 x3_1).f1).toList != ([41] : List UInt8)) = false := bne_eq_false_iff_eq.mpr c19
                                    clear c19
                                    have H' := Aside0.mk H
                                    clear H
                                    go_wp2
                                    go_roundg kj12
                                    case measure => have := HK1.out; have := HJ4.out; have := HJ12.out; omega
                                    case rel => exact ⟨(wrap64 (x3_1 - 1)), (by first | rfl | (simp; done) | (simp [*]; done)), H', ⟨by have := HK1.out; have := HJ4.out; have := HJ12.out; omega⟩, by repeat (first | exact Drawn0.refl _ | apply Drawn0.step)⟩
                                  · rw [if_neg c19] at H
                                    have c19b0 : (((rd_T55 l0 x3_1).f1).toList == ([41] : List UInt8)) = false := beq_eq_false_iff_ne.mpr c19
                                    have c19b1 : (((rd_T55 l0 x3_1).f1).toList != ([41] : List UInt8)) = true := bne_iff_ne.mpr c19
                                    by_cases c20 : ((rd_T55 l0 x3_1).f1).toList = ([93] : List UInt8)
                                    · rw [if_pos c20] at H
                                      have c20b0 : (((rd_T55 l0 x3_1).f1).toList == ([93] : List UInt8)) = true := beq_iff_eq.mpr c20
                                      have c20b1 : (((rd_T55 l0 x3_1).f1).toList != ([93] : List UInt8)) = false := bne_eq_false_iff_eq.mpr c20
                                      clear c20
                                      have H' := Aside0.mk H
                                      clear H
                                      go_wp2
                                      go_roundg kj12
                                      case measure => have := HK1.out; have := HJ4.out; have := HJ12.out; omega
                                      case rel => exact ⟨(wrap64 (x3_1 - 1)), (by first | rfl | (simp; done) | (simp [*]; done)), H', ⟨by have := HK1.out; have := HJ4.out; have := HJ12.out; omega⟩, by repeat (first | exact Drawn0.refl _ | apply Drawn0.step)⟩
                                    · rw [if_neg c20] at H
                                      have c20b0 : (((rd_T55 l0 x3_1).f1).toList == ([93] : List UInt8)) = false := beq_eq_false_iff_ne.mpr c20
                                      have c20b1 : (((rd_T55 l0 x3_1).f1).toList != ([93] : List UInt8)) = true := bne_iff_ne.mpr c20
                                      obtain rfl := Option.some.inj H
                                      go_wp2
                                      go_ret
                                      exact ⟨by first | rfl | (simp; done) | (simp [*]; done), by repeat (first | exact Drawn0.refl _ | apply Drawn0.step)⟩
                      · rw [if_neg c12] at H
                        exact absurd H (by simp)
                    · rw [if_neg c11] at H
                      exact absurd H (by simp)
                  · rw [if_neg c10] at H
                    have c10b0 : (((rd_T55 l0 x3_1).f0) == 0) = false := beq_eq_false_iff_ne.mpr c10
                    have c10b1 : (((rd_T55 l0 x3_1).f0) != 0) = true := bne_iff_ne.mpr c10
                    obtain rfl := Option.some.inj H
                    go_wp2
                    go_ret
                    exact ⟨by first | rfl | (simp; done) | (simp [*]; done), by repeat (first | exact Drawn0.refl _ | apply Drawn0.step)⟩
          · rw [if_neg c4] at H
            exact absurd H (by simp)
        · rw [if_neg c3] at H
          exact absurd H (by simp)
      · rw [if_neg c2] at H
        have c2b0 : decide (0 ≤ x3_1) = false := decide_eq_false c2
        clear c2
        obtain rfl := Option.some.inj H
        go_wp2
        go_ret
        exact ⟨by first | rfl | (simp; done) | (simp [*]; done), by repeat (first | exact Drawn0.refl _ | apply Drawn0.step)⟩

end Go.Proofs.Ytaokofnhkojllaa.PEnds

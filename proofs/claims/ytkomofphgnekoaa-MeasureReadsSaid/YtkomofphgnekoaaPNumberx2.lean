-- PRINTED BY print.sh 35421559b90ae4d0a3588c463048766b98c2df88dd9212a6774a882060cdf62d: not written by this session
import Derived.Test.YtkomofphgnekoaaPNumberx0
import Derived.Test.YtkomofphgnekoaaPNumberx1
namespace Go.Proofs.Ytkomofphgnekoaa.PNumber
open Go.RowKit Go.Proofs.YtkomofphgnekoaaW.PrintWords Go.Proofs.YtkomofphgnekoaaW.PrintLast Go.Proofs.YtkomofphgnekoaaW.PrintMore
attribute [local go_sem] max2_int min2_int max_two min_two max_three min_three max_four min_four   -- for this text's walks alone
set_option linter.unusedVariables false
set_option linter.unusedSimpArgs false

/-! ### frisketref01_number: function 38 -/
mutual
def frisketref01_number.j1 : Nat → ByteArray → Int → Int → Int → Int → Int → Int → Int → Int → Int → Option (Int × Int × Int)
  | 0, _, _, _, _, _, _, _, _, _, _ => none
  | k + 1, x0, x1, x2, x11, x12, x13, x14, x107000, x107001, x107002 => if (wrap64 (x1 + 1)) < (x0.size : Int) then (if 0 ≤ x1 then (if x1 < (x0.size : Int) then (if (bt x0 x1) = 46 then (if 0 ≤ (wrap64 (x1 + 1)) then ((frisketref01_digit.f (bt x0 (wrap64 (x1 + 1)))).bind fun t108 => (frisketref01_number.j2 k x0 x1 x2 x11 x12 x13 (wrap64 (x1 - x14)) t108 x107000 x107001 x107002)) else (none)) else (frisketref01_number.j2 k x0 x1 x2 x11 x12 x13 (wrap64 (x1 - x14)) false x107000 x107001 x107002)) else (none)) else (none)) else (frisketref01_number.j2 k x0 x1 x2 x11 x12 x13 (wrap64 (x1 - x14)) false x107000 x107001 x107002)
def frisketref01_number.j2 : Nat → ByteArray → Int → Int → Int → Int → Int → Int → Bool → Int → Int → Int → Option (Int × Int × Int)
  | 0, _, _, _, _, _, _, _, _, _, _, _ => none
  | k + 1, x0, x1, x2, x11, x12, x13, x15, x66, x107000, x107001, x107002 => if x66 = true then (frisketref01_number.l1 k x0 (wrap64 (x1 + 1)) x2 x11 x12 x13 x15 (wrap64 (x1 + 1)) x107000 x107001 x107002) else (frisketref01_number.j4 k x0 x1 x2 x11 x12 x13 x15 x107000 x107001 x107002)
def frisketref01_number.j4 : Nat → ByteArray → Int → Int → Int → Int → Int → Int → Int → Int → Int → Option (Int × Int × Int)
  | 0, _, _, _, _, _, _, _, _, _, _ => none
  | k + 1, x0, x1, x2, x11, x12, x13, x15, x107000, x107001, x107002 => if x15 = 0 then (some (0, 0, 4)) else (if x1 < (x0.size : Int) then (if 0 ≤ x1 then ((frisketref01_isScale.f k (bt x0 x1)).bind fun t110 => (frisketref01_number.j5 k x0 x1 x2 x11 x12 x13 t110 x107000 x107001 x107002)) else (none)) else (frisketref01_number.j5 k x0 x1 x2 x11 x12 x13 false x107000 x107001 x107002))
def frisketref01_number.j5 : Nat → ByteArray → Int → Int → Int → Int → Int → Bool → Int → Int → Int → Option (Int × Int × Int)
  | 0, _, _, _, _, _, _, _, _, _, _ => none
  | k + 1, x0, x1, x2, x11, x12, x13, x114, x107000, x107001, x107002 => if x114 = true then (if 0 ≤ x1 then (if x1 < (x0.size : Int) then (frisketref01_number.j6 k (wrap64 (x1 + 1)) (bt x0 x1) x11 x12 x13 x107000 x107001 x107002) else (none)) else (none)) else (frisketref01_number.j6 k x1 x2 x11 x12 x13 x107000 x107001 x107002)
def frisketref01_number.j6 : Nat → Int → Int → Int → Int → Int → Int → Int → Int → Option (Int × Int × Int)
  | 0, _, _, _, _, _, _, _, _ => none
  | k + 1, x1, x2, x11, x12, x13, x107000, x107001, x107002 => (frisketref01_unit.f x2 x107000 x107001 x107002).bind fun t111 => (if x13 = 0 then (none) else ((frisketref01_within.f (wrap64 ((wrap64 (x11 * t111)) + (wrap64 (Int.tdiv (wrap64 (x12 * t111)) x13))))).bind fun t112 => (if t112 = true then (some (wrap64 ((wrap64 (x11 * t111)) + (wrap64 (Int.tdiv (wrap64 (x12 * t111)) x13))), x1, 0)) else (some (0, x1, 5)))))
def frisketref01_number.l1 : Nat → ByteArray → Int → Int → Int → Int → Int → Int → Int → Int → Int → Int → Option (Int × Int × Int)
  | 0, _, _, _, _, _, _, _, _, _, _, _ => none
  | k + 1, x0, x1, x2, x11, x12, x13, x15, x16, x107000, x107001, x107002 => if x1 < (x0.size : Int) then (if 0 ≤ x1 then ((frisketref01_digit.f (bt x0 x1)).bind fun t109 => (if t109 = true then (if (wrap64 (x1 - x16)) < 9 then (frisketref01_number.l1 k x0 (wrap64 (x1 + 1)) x2 x11 (wrap64 ((wrap64 (x12 * 10)) + (((bt x0 x1) - 48) % 256))) (wrap64 (x13 * 10)) x15 x16 x107000 x107001 x107002) else (frisketref01_number.j4 k x0 x1 x2 x11 x12 x13 (wrap64 (x15 + (wrap64 (x1 - x16)))) x107000 x107001 x107002)) else (frisketref01_number.j4 k x0 x1 x2 x11 x12 x13 (wrap64 (x15 + (wrap64 (x1 - x16)))) x107000 x107001 x107002))) else (none)) else (frisketref01_number.j4 k x0 x1 x2 x11 x12 x13 (wrap64 (x15 + (wrap64 (x1 - x16)))) x107000 x107001 x107002)
def frisketref01_number.l0 : Nat → ByteArray → Int → Int → Int → Int → Int → Int → Int → Int → Int → Option (Int × Int × Int)
  | 0, _, _, _, _, _, _, _, _, _, _ => none
  | k + 1, x0, x1, x2, x11, x12, x13, x14, x107000, x107001, x107002 => if x1 < (x0.size : Int) then (if 0 ≤ x1 then ((frisketref01_digit.f (bt x0 x1)).bind fun t107 => (if t107 = true then (if (wrap64 (x1 - x14)) < 9 then (frisketref01_number.l0 k x0 (wrap64 (x1 + 1)) x2 (wrap64 ((wrap64 (x11 * 10)) + (((bt x0 x1) - 48) % 256))) x12 x13 x14 x107000 x107001 x107002) else (frisketref01_number.j1 k x0 x1 x2 x11 x12 x13 x14 x107000 x107001 x107002)) else (frisketref01_number.j1 k x0 x1 x2 x11 x12 x13 x14 x107000 x107001 x107002))) else (none)) else (frisketref01_number.j1 k x0 x1 x2 x11 x12 x13 x14 x107000 x107001 x107002)
end
def frisketref01_number.f (k : Nat) (a0 : ByteArray) (a1 : Int) (a2 : Int) (a3_0 : Int) (a3_1 : Int) (a3_2 : Int) : Option (Int × Int × Int) := frisketref01_number.l0 k a0 a1 a2 0 0 1 a1 a3_0 a3_1 a3_2
theorem frisketref01_number.mono_l : ∀ k, (∀ y0 y1 y2 y3 y4 y5 y6 y7 y8 y9, LeO (frisketref01_number.j1 k y0 y1 y2 y3 y4 y5 y6 y7 y8 y9) (frisketref01_number.j1 (k + 1) y0 y1 y2 y3 y4 y5 y6 y7 y8 y9)) ∧ (∀ y0 y1 y2 y3 y4 y5 y6 y7 y8 y9 y10, LeO (frisketref01_number.j2 k y0 y1 y2 y3 y4 y5 y6 y7 y8 y9 y10) (frisketref01_number.j2 (k + 1) y0 y1 y2 y3 y4 y5 y6 y7 y8 y9 y10)) ∧ (∀ y0 y1 y2 y3 y4 y5 y6 y7 y8 y9, LeO (frisketref01_number.j4 k y0 y1 y2 y3 y4 y5 y6 y7 y8 y9) (frisketref01_number.j4 (k + 1) y0 y1 y2 y3 y4 y5 y6 y7 y8 y9)) ∧ (∀ y0 y1 y2 y3 y4 y5 y6 y7 y8 y9, LeO (frisketref01_number.j5 k y0 y1 y2 y3 y4 y5 y6 y7 y8 y9) (frisketref01_number.j5 (k + 1) y0 y1 y2 y3 y4 y5 y6 y7 y8 y9)) ∧ (∀ y0 y1 y2 y3 y4 y5 y6 y7, LeO (frisketref01_number.j6 k y0 y1 y2 y3 y4 y5 y6 y7) (frisketref01_number.j6 (k + 1) y0 y1 y2 y3 y4 y5 y6 y7)) ∧ (∀ y0 y1 y2 y3 y4 y5 y6 y7 y8 y9 y10, LeO (frisketref01_number.l1 k y0 y1 y2 y3 y4 y5 y6 y7 y8 y9 y10) (frisketref01_number.l1 (k + 1) y0 y1 y2 y3 y4 y5 y6 y7 y8 y9 y10)) ∧ (∀ y0 y1 y2 y3 y4 y5 y6 y7 y8 y9, LeO (frisketref01_number.l0 k y0 y1 y2 y3 y4 y5 y6 y7 y8 y9) (frisketref01_number.l0 (k + 1) y0 y1 y2 y3 y4 y5 y6 y7 y8 y9))
  | 0 => ⟨fun _ _ _ _ _ _ _ _ _ _ r h => by simp [frisketref01_number.j1] at h, fun _ _ _ _ _ _ _ _ _ _ _ r h => by simp [frisketref01_number.j2] at h, fun _ _ _ _ _ _ _ _ _ _ r h => by simp [frisketref01_number.j4] at h, fun _ _ _ _ _ _ _ _ _ _ r h => by simp [frisketref01_number.j5] at h, fun _ _ _ _ _ _ _ _ r h => by simp [frisketref01_number.j6] at h, fun _ _ _ _ _ _ _ _ _ _ _ r h => by simp [frisketref01_number.l1] at h, fun _ _ _ _ _ _ _ _ _ _ r h => by simp [frisketref01_number.l0] at h⟩
  | k + 1 => by
    obtain ⟨ih0, ih1, ih2, ih3, ih4, ih5, ih6⟩ := frisketref01_number.mono_l k
    refine ⟨?_, ?_, ?_, ?_, ?_, ?_, ?_⟩
    · intro y0 y1 y2 y3 y4 y5 y6 y7 y8 y9
      unfold frisketref01_number.j1
      repeat' first
      | (with_reducible exact ih0 _ _ _ _ _ _ _ _ _ _)
      | (with_reducible exact ih1 _ _ _ _ _ _ _ _ _ _ _)
      | (with_reducible exact ih2 _ _ _ _ _ _ _ _ _ _)
      | (with_reducible exact ih3 _ _ _ _ _ _ _ _ _ _)
      | (with_reducible exact ih4 _ _ _ _ _ _ _ _)
      | (with_reducible exact ih5 _ _ _ _ _ _ _ _ _ _ _)
      | (with_reducible exact ih6 _ _ _ _ _ _ _ _ _ _)
      | (with_reducible exact frisketref01_isScale.mono _ _)
      | (with_reducible exact LeO.refl _)
      | (with_reducible exact LeO.none _)
      | (with_reducible refine LeO.ite ?_ ?_)
      | (with_reducible refine LeO.bind ?_ (fun _ => ?_))
      | exact ih0 _ _ _ _ _ _ _ _ _ _
      | exact ih1 _ _ _ _ _ _ _ _ _ _ _
      | exact ih2 _ _ _ _ _ _ _ _ _ _
      | exact ih3 _ _ _ _ _ _ _ _ _ _
      | exact ih4 _ _ _ _ _ _ _ _
      | exact ih5 _ _ _ _ _ _ _ _ _ _ _
      | exact ih6 _ _ _ _ _ _ _ _ _ _
      | exact frisketref01_isScale.mono _ _
      | exact LeO.none _
      | refine LeO.ite ?_ ?_
      | refine LeO.bind ?_ (fun _ => ?_)
    · intro y0 y1 y2 y3 y4 y5 y6 y7 y8 y9 y10
      unfold frisketref01_number.j2
      repeat' first
      | (with_reducible exact ih0 _ _ _ _ _ _ _ _ _ _)
      | (with_reducible exact ih1 _ _ _ _ _ _ _ _ _ _ _)
      | (with_reducible exact ih2 _ _ _ _ _ _ _ _ _ _)
      | (with_reducible exact ih3 _ _ _ _ _ _ _ _ _ _)
      | (with_reducible exact ih4 _ _ _ _ _ _ _ _)
      | (with_reducible exact ih5 _ _ _ _ _ _ _ _ _ _ _)
      | (with_reducible exact ih6 _ _ _ _ _ _ _ _ _ _)
      | (with_reducible exact frisketref01_isScale.mono _ _)
      | (with_reducible exact LeO.refl _)
      | (with_reducible exact LeO.none _)
      | (with_reducible refine LeO.ite ?_ ?_)
      | (with_reducible refine LeO.bind ?_ (fun _ => ?_))
      | exact ih0 _ _ _ _ _ _ _ _ _ _
      | exact ih1 _ _ _ _ _ _ _ _ _ _ _
      | exact ih2 _ _ _ _ _ _ _ _ _ _
      | exact ih3 _ _ _ _ _ _ _ _ _ _
      | exact ih4 _ _ _ _ _ _ _ _
      | exact ih5 _ _ _ _ _ _ _ _ _ _ _
      | exact ih6 _ _ _ _ _ _ _ _ _ _
      | exact frisketref01_isScale.mono _ _
      | exact LeO.none _
      | refine LeO.ite ?_ ?_
      | refine LeO.bind ?_ (fun _ => ?_)
    · intro y0 y1 y2 y3 y4 y5 y6 y7 y8 y9
      unfold frisketref01_number.j4
      repeat' first
      | (with_reducible exact ih0 _ _ _ _ _ _ _ _ _ _)
      | (with_reducible exact ih1 _ _ _ _ _ _ _ _ _ _ _)
      | (with_reducible exact ih2 _ _ _ _ _ _ _ _ _ _)
      | (with_reducible exact ih3 _ _ _ _ _ _ _ _ _ _)
      | (with_reducible exact ih4 _ _ _ _ _ _ _ _)
      | (with_reducible exact ih5 _ _ _ _ _ _ _ _ _ _ _)
      | (with_reducible exact ih6 _ _ _ _ _ _ _ _ _ _)
      | (with_reducible exact frisketref01_isScale.mono _ _)
      | (with_reducible exact LeO.refl _)
      | (with_reducible exact LeO.none _)
      | (with_reducible refine LeO.ite ?_ ?_)
      | (with_reducible refine LeO.bind ?_ (fun _ => ?_))
      | exact ih0 _ _ _ _ _ _ _ _ _ _
      | exact ih1 _ _ _ _ _ _ _ _ _ _ _
      | exact ih2 _ _ _ _ _ _ _ _ _ _
      | exact ih3 _ _ _ _ _ _ _ _ _ _
      | exact ih4 _ _ _ _ _ _ _ _
      | exact ih5 _ _ _ _ _ _ _ _ _ _ _
      | exact ih6 _ _ _ _ _ _ _ _ _ _
      | exact frisketref01_isScale.mono _ _
      | exact LeO.none _
      | refine LeO.ite ?_ ?_
      | refine LeO.bind ?_ (fun _ => ?_)
    · intro y0 y1 y2 y3 y4 y5 y6 y7 y8 y9
      unfold frisketref01_number.j5
      repeat' first
      | (with_reducible exact ih0 _ _ _ _ _ _ _ _ _ _)
      | (with_reducible exact ih1 _ _ _ _ _ _ _ _ _ _ _)
      | (with_reducible exact ih2 _ _ _ _ _ _ _ _ _ _)
      | (with_reducible exact ih3 _ _ _ _ _ _ _ _ _ _)
      | (with_reducible exact ih4 _ _ _ _ _ _ _ _)
      | (with_reducible exact ih5 _ _ _ _ _ _ _ _ _ _ _)
      | (with_reducible exact ih6 _ _ _ _ _ _ _ _ _ _)
      | (with_reducible exact frisketref01_isScale.mono _ _)
      | (with_reducible exact LeO.refl _)
      | (with_reducible exact LeO.none _)
      | (with_reducible refine LeO.ite ?_ ?_)
      | (with_reducible refine LeO.bind ?_ (fun _ => ?_))
      | exact ih0 _ _ _ _ _ _ _ _ _ _
      | exact ih1 _ _ _ _ _ _ _ _ _ _ _
      | exact ih2 _ _ _ _ _ _ _ _ _ _
      | exact ih3 _ _ _ _ _ _ _ _ _ _
      | exact ih4 _ _ _ _ _ _ _ _
      | exact ih5 _ _ _ _ _ _ _ _ _ _ _
      | exact ih6 _ _ _ _ _ _ _ _ _ _
      | exact frisketref01_isScale.mono _ _
      | exact LeO.none _
      | refine LeO.ite ?_ ?_
      | refine LeO.bind ?_ (fun _ => ?_)
    · intro y0 y1 y2 y3 y4 y5 y6 y7
      unfold frisketref01_number.j6
      repeat' first
      | (with_reducible exact ih0 _ _ _ _ _ _ _ _ _ _)
      | (with_reducible exact ih1 _ _ _ _ _ _ _ _ _ _ _)
      | (with_reducible exact ih2 _ _ _ _ _ _ _ _ _ _)
      | (with_reducible exact ih3 _ _ _ _ _ _ _ _ _ _)
      | (with_reducible exact ih4 _ _ _ _ _ _ _ _)
      | (with_reducible exact ih5 _ _ _ _ _ _ _ _ _ _ _)
      | (with_reducible exact ih6 _ _ _ _ _ _ _ _ _ _)
      | (with_reducible exact frisketref01_isScale.mono _ _)
      | (with_reducible exact LeO.refl _)
      | (with_reducible exact LeO.none _)
      | (with_reducible refine LeO.ite ?_ ?_)
      | (with_reducible refine LeO.bind ?_ (fun _ => ?_))
      | exact ih0 _ _ _ _ _ _ _ _ _ _
      | exact ih1 _ _ _ _ _ _ _ _ _ _ _
      | exact ih2 _ _ _ _ _ _ _ _ _ _
      | exact ih3 _ _ _ _ _ _ _ _ _ _
      | exact ih4 _ _ _ _ _ _ _ _
      | exact ih5 _ _ _ _ _ _ _ _ _ _ _
      | exact ih6 _ _ _ _ _ _ _ _ _ _
      | exact frisketref01_isScale.mono _ _
      | exact LeO.none _
      | refine LeO.ite ?_ ?_
      | refine LeO.bind ?_ (fun _ => ?_)
    · intro y0 y1 y2 y3 y4 y5 y6 y7 y8 y9 y10
      unfold frisketref01_number.l1
      repeat' first
      | (with_reducible exact ih0 _ _ _ _ _ _ _ _ _ _)
      | (with_reducible exact ih1 _ _ _ _ _ _ _ _ _ _ _)
      | (with_reducible exact ih2 _ _ _ _ _ _ _ _ _ _)
      | (with_reducible exact ih3 _ _ _ _ _ _ _ _ _ _)
      | (with_reducible exact ih4 _ _ _ _ _ _ _ _)
      | (with_reducible exact ih5 _ _ _ _ _ _ _ _ _ _ _)
      | (with_reducible exact ih6 _ _ _ _ _ _ _ _ _ _)
      | (with_reducible exact frisketref01_isScale.mono _ _)
      | (with_reducible exact LeO.refl _)
      | (with_reducible exact LeO.none _)
      | (with_reducible refine LeO.ite ?_ ?_)
      | (with_reducible refine LeO.bind ?_ (fun _ => ?_))
      | exact ih0 _ _ _ _ _ _ _ _ _ _
      | exact ih1 _ _ _ _ _ _ _ _ _ _ _
      | exact ih2 _ _ _ _ _ _ _ _ _ _
      | exact ih3 _ _ _ _ _ _ _ _ _ _
      | exact ih4 _ _ _ _ _ _ _ _
      | exact ih5 _ _ _ _ _ _ _ _ _ _ _
      | exact ih6 _ _ _ _ _ _ _ _ _ _
      | exact frisketref01_isScale.mono _ _
      | exact LeO.none _
      | refine LeO.ite ?_ ?_
      | refine LeO.bind ?_ (fun _ => ?_)
    · intro y0 y1 y2 y3 y4 y5 y6 y7 y8 y9
      unfold frisketref01_number.l0
      repeat' first
      | (with_reducible exact ih0 _ _ _ _ _ _ _ _ _ _)
      | (with_reducible exact ih1 _ _ _ _ _ _ _ _ _ _ _)
      | (with_reducible exact ih2 _ _ _ _ _ _ _ _ _ _)
      | (with_reducible exact ih3 _ _ _ _ _ _ _ _ _ _)
      | (with_reducible exact ih4 _ _ _ _ _ _ _ _)
      | (with_reducible exact ih5 _ _ _ _ _ _ _ _ _ _ _)
      | (with_reducible exact ih6 _ _ _ _ _ _ _ _ _ _)
      | (with_reducible exact frisketref01_isScale.mono _ _)
      | (with_reducible exact LeO.refl _)
      | (with_reducible exact LeO.none _)
      | (with_reducible refine LeO.ite ?_ ?_)
      | (with_reducible refine LeO.bind ?_ (fun _ => ?_))
      | exact ih0 _ _ _ _ _ _ _ _ _ _
      | exact ih1 _ _ _ _ _ _ _ _ _ _ _
      | exact ih2 _ _ _ _ _ _ _ _ _ _
      | exact ih3 _ _ _ _ _ _ _ _ _ _
      | exact ih4 _ _ _ _ _ _ _ _
      | exact ih5 _ _ _ _ _ _ _ _ _ _ _
      | exact ih6 _ _ _ _ _ _ _ _ _ _
      | exact frisketref01_isScale.mono _ _
      | exact LeO.none _
      | refine LeO.ite ?_ ?_
      | refine LeO.bind ?_ (fun _ => ?_)
theorem frisketref01_number.mono : ∀ a0 a1 a2 a3 a4 a5 k, LeO (frisketref01_number.f k a0 a1 a2 a3 a4 a5) (frisketref01_number.f (k + 1) a0 a1 a2 a3 a4 a5) := by
  intro a0 a1 a2 a3 a4 a5 k
  obtain ⟨ih0, ih1, ih2, ih3, ih4, ih5, ih6⟩ := frisketref01_number.mono_l k
  unfold frisketref01_number.f
  repeat' first
      | (with_reducible exact ih0 _ _ _ _ _ _ _ _ _ _)
      | (with_reducible exact ih1 _ _ _ _ _ _ _ _ _ _ _)
      | (with_reducible exact ih2 _ _ _ _ _ _ _ _ _ _)
      | (with_reducible exact ih3 _ _ _ _ _ _ _ _ _ _)
      | (with_reducible exact ih4 _ _ _ _ _ _ _ _)
      | (with_reducible exact ih5 _ _ _ _ _ _ _ _ _ _ _)
      | (with_reducible exact ih6 _ _ _ _ _ _ _ _ _ _)
      | (with_reducible exact frisketref01_isScale.mono _ _)
      | (with_reducible exact LeO.refl _)
      | (with_reducible exact LeO.none _)
      | (with_reducible refine LeO.ite ?_ ?_)
      | (with_reducible refine LeO.bind ?_ (fun _ => ?_))
      | exact ih0 _ _ _ _ _ _ _ _ _ _
      | exact ih1 _ _ _ _ _ _ _ _ _ _ _
      | exact ih2 _ _ _ _ _ _ _ _ _ _
      | exact ih3 _ _ _ _ _ _ _ _ _ _
      | exact ih4 _ _ _ _ _ _ _ _
      | exact ih5 _ _ _ _ _ _ _ _ _ _ _
      | exact ih6 _ _ _ _ _ _ _ _ _ _
      | exact frisketref01_isScale.mono _ _
      | exact LeO.none _
      | refine LeO.ite ?_ ?_
      | refine LeO.bind ?_ (fun _ => ?_)
set_option maxHeartbeats 8000000 in
set_option maxRecDepth 100000 in
theorem frisketref01_number.calls (k : Nat) (a0 : ByteArray) (a1 : Int) (a2 : Int) (a3_0 : Int) (a3_1 : Int) (a3_2 : Int) (r1 : Int) (r2 : Int) (r3 : Int) (w : World) (h : frisketref01_number.f k a0 a1 a2 a3_0 a3_1 a3_2 = some (r1, r2, r3)) :
    Calls Try.prog 38 #[.string a0, .int .i64 a1, .int .u8 a2, .agg #[.int .i64 a3_0, .int .i64 a3_1, .int .i64 a3_2]] w fun e w' => e = .returned (.tuple #[.int .i64 r1, .int .i64 r2, .int .i64 r3]) ∧ Below w.heap.size w w' := by
  have hu51 := Try.underlying51
  have HB := Aside0.mk (Below.refl w.heap.size w)
  have H : (frisketref01_number.l0 k a0 a1 a2 0 0 1 a1 a3_0 a3_1 a3_2) = some (r1, r2, r3) := h
  clear h
  have HC5 := Aside0.mk H
  clear H
  go_enter Try.func38, Try.ntmps38
  go_upto_block 0 with (first | ((with_reducible refine gate_dst (N := 7) rfl ?_); refine box_event ?hg (N := 7) ?hd (cs := #[.int .i64 a3_0, .int .i64 a3_1, .int .i64 a3_2]) (t := 51) ?hr ?_; (case hd => rfl); (case hg => rfl); (case hr => first | (go_simp; done) | (go_simp; rfl)); intro gb106 hg w6 hbox hb; have n0_ := Aside0.mk (below_step (by repeat (first | (with_reducible first | exact HB.out | apply below_alloc | apply pw_below_drewN | apply below_drew1) | exact HB.out)) hb); have n1_ := Aside0.mk (hbox); have n2_ := Aside0.mk ((by rw [hg]; exact (below_size (by repeat (first | (with_reducible first | exact HB.out | apply below_alloc | apply pw_below_drewN | apply below_drew1) | exact HB.out))) : w.heap.size ≤ gb106)); have n3_ := Aside0.mk ((by rw [hg]; exact (below_size (by repeat (first | (with_reducible first | exact HB.out | apply below_alloc | apply pw_below_drewN | apply below_drew1) | exact HB.out))) : w.heap.size ≤ gb106)); clear HB; have HB := n0_; have BK106 := n1_; have GW106 := n2_; have GE106 := n3_; clear n0_ n1_ n2_ n3_; clear hb hbox hg))
  (try simp only [Act.put, List.setIfInBounds_toArray, List.set_cons_zero, List.set_cons_succ])
  go_cut [1, 11] (fun v1 v11 wc => ∃ (kq : Nat) (x1_4 : Int) (x11_4 : Int), v1 = .int .i64 x1_4 ∧ v11 = .int .i64 x11_4 ∧ Aside0 (frisketref01_number.j1 kq a0 x1_4 a2 x11_4 0 1 a1 a3_0 a3_1 a3_2 = some (r1, r2, r3)) ∧ Aside0 (kq ≤ k) ∧ Aside0 (wc.heap[gb106]? = some (.cells #[.int .i64 a3_0, .int .i64 a3_1, .int .i64 a3_2] 51 (0, 0))) ∧ Aside0 (Below w.heap.size w wc))
  case first =>
    have H := HC5.out
    clear HC5
    have H' := Aside0.mk H
    clear H
    go_wp2
    go_loopg [1, 11] k (fun kq v1 v11 w' => ∃ (x1_1 : Int) (x11_1 : Int), v1 = .int .i64 x1_1 ∧ v11 = .int .i64 x11_1 ∧ Aside0 (frisketref01_number.l0 kq a0 x1_1 a2 x11_1 0 1 a1 a3_0 a3_1 a3_2 = some (r1, r2, r3)) ∧ Aside0 (kq ≤ k) ∧ Aside0 (w'.heap[gb106]? = some (.cells #[.int .i64 a3_0, .int .i64 a3_1, .int .i64 a3_2] 51 (0, 0))) ∧ Aside0 (Below w.heap.size w w'))
    case atStart => exact ⟨(a1), (0), (by first | rfl | (simp; done) | (simp [*]; done)), (by first | rfl | (simp; done) | (simp [*]; done)), H', ⟨Nat.le_refl _⟩, ⟨by (with_reducible repeat (first | refine blk_drewN ?_ _ | refine blk_drew ?_ | refine blk_alloc ?_ _)); exact BK106.out⟩, ⟨by repeat (first | (with_reducible first | exact HB.out | apply below_alloc | apply pw_below_drewN | apply below_drew1 | refine below_set ?_ GE106.out) | exact HB.out)⟩⟩
    case round =>
      clear H'
      try clear p2
      try clear c3
      obtain ⟨x1_1, x11_1, rfl, rfl, HA, HK1, BK106, HB⟩ := hrel
      cases gk with
      | zero => exact absurd HA.out (by simp [frisketref01_number.l0])
      | succ k1 =>
        have H := HA.out
        clear HA
        simp only [frisketref01_number.l0] at H
        by_cases c7 : x1_1 < (a0.size : Int)
        · rw [if_pos c7] at H
          have c7b0 : decide (x1_1 < (a0.size : Int)) = true := decide_eq_true c7
          clear c7
          (first | rw [c7b0] | (simp only [i64_w, i32_w]; rw [c7b0]) | skip)
          by_cases c8 : 0 ≤ x1_1
          · rw [if_pos c8] at H
            have c8b0 : decide (0 ≤ x1_1) = true := decide_eq_true c8
            clear c8
            replace H := Option.bind_eq_some_iff.mp H
            obtain ⟨t107, A100, H⟩ := H
            replace H : (if t107 = true then (if (wrap64 (x1_1 - a1)) < 9 then (frisketref01_number.l0 k1 a0 (wrap64 (x1_1 + 1)) a2 (wrap64 ((wrap64 (x11_1 * 10)) + (((bt a0 x1_1) - 48) % 256))) 0 1 a1 a3_0 a3_1 a3_2) else (frisketref01_number.j1 k1 a0 x1_1 a2 x11_1 0 1 a1 a3_0 a3_1 a3_2)) else (frisketref01_number.j1 k1 a0 x1_1 a2 x11_1 0 1 a1 a3_0 a3_1 a3_2)) = some (r1, r2, r3) := H
            have A10 := Aside0.mk A100
            clear A100
            by_cases c11 : t107 = true
            · subst c11
              have H1 : (if (wrap64 (x1_1 - a1)) < 9 then (frisketref01_number.l0 k1 a0 (wrap64 (x1_1 + 1)) a2 (wrap64 ((wrap64 (x11_1 * 10)) + (((bt a0 x1_1) - 48) % 256))) 0 1 a1 a3_0 a3_1 a3_2) else (frisketref01_number.j1 k1 a0 x1_1 a2 x11_1 0 1 a1 a3_0 a3_1 a3_2)) = some (r1, r2, r3) := by rw [if_pos rfl] at H; exact H
              clear H
              have H := H1
              clear H1
              by_cases c12 : (wrap64 (x1_1 - a1)) < 9
              · rw [if_pos c12] at H
                have c12b0 : decide ((wrap64 (x1_1 - a1)) < 9) = true := decide_eq_true c12
                clear c12
                have H' := Aside0.mk H
                clear H
                have p9 : 0 ≤ (x1_1 : Int) := of_decide_eq_true (by first | (with_reducible assumption) | assumption)
                have q9 : x1_1 < (a0.size : Int) := of_decide_eq_true (by first | (with_reducible assumption) | assumption)
                have hx9 := bt_at a0 x1_1
                replace p9 := eq_true p9
                replace q9 := eq_true q9
                go_wp2_with (first | (go_at_call 48; (with_reducible refine (frisketref01_digit.calls (bt a0 x1_1) true _ A10.out).mono ?_); rintro e w' ⟨rfl, ⟨nd, rfl⟩⟩; have p13 : 0 ≤ (x1_1 : Int) := of_decide_eq_true (by first | (with_reducible assumption) | assumption); have q13 : x1_1 < (a0.size : Int) := of_decide_eq_true (by first | (with_reducible assumption) | assumption); have hx13 := bt_at a0 x1_1; replace p13 := eq_true p13; replace q13 := eq_true q13))
                go_roundg k1
                case measure => have := HK1.out; omega
                case rel => exact ⟨(wrap64 (x1_1 + 1)), (wrap64 ((wrap64 (x11_1 * 10)) + (((bt a0 x1_1) - 48) % 256))), (by first | rfl | (simp; done) | (simp [*]; done)), (by first | rfl | (simp; done) | (simp [*]; done)), H', ⟨by have := HK1.out; omega⟩, ⟨by (with_reducible repeat (first | refine blk_drewN ?_ _ | refine blk_drew ?_ | refine blk_alloc ?_ _)); exact BK106.out⟩, ⟨by repeat (first | (with_reducible first | exact HB.out | apply below_alloc | apply pw_below_drewN | apply below_drew1 | refine below_set ?_ GE106.out) | exact HB.out)⟩⟩
              · rw [if_neg c12] at H
                have c12b0 : decide ((wrap64 (x1_1 - a1)) < 9) = false := decide_eq_false c12
                clear c12
                have H' := Aside0.mk H
                clear H
                have p9 : 0 ≤ (x1_1 : Int) := of_decide_eq_true (by first | (with_reducible assumption) | assumption)
                have q9 : x1_1 < (a0.size : Int) := of_decide_eq_true (by first | (with_reducible assumption) | assumption)
                have hx9 := bt_at a0 x1_1
                replace p9 := eq_true p9
                replace q9 := eq_true q9
                go_wp2_with (first | (go_at_call 48; (with_reducible refine (frisketref01_digit.calls (bt a0 x1_1) true _ A10.out).mono ?_); rintro e w' ⟨rfl, ⟨nd, rfl⟩⟩))
                go_meet
                case rel => exact ⟨_, (x1_1), (x11_1), (by first | rfl | (simp; done) | (simp [*]; done)), (by first | rfl | (simp; done) | (simp [*]; done)), H', ⟨by have := HK1.out; first | omega | exact Nat.le_refl _⟩, ⟨by (with_reducible repeat (first | refine blk_drewN ?_ _ | refine blk_drew ?_ | refine blk_alloc ?_ _)); exact BK106.out⟩, ⟨by repeat (first | (with_reducible first | exact HB.out | apply below_alloc | apply pw_below_drewN | apply below_drew1 | refine below_set ?_ GE106.out) | exact HB.out)⟩⟩
            · replace c11 := Bool.eq_false_iff.mpr c11
              subst c11
              have H1 : (frisketref01_number.j1 k1 a0 x1_1 a2 x11_1 0 1 a1 a3_0 a3_1 a3_2) = some (r1, r2, r3) := by rw [if_neg (show ¬ (false = true) by decide)] at H; exact H
              clear H
              have H := H1
              clear H1
              have H' := Aside0.mk H
              clear H
              have p9 : 0 ≤ (x1_1 : Int) := of_decide_eq_true (by first | (with_reducible assumption) | assumption)
              have q9 : x1_1 < (a0.size : Int) := of_decide_eq_true (by first | (with_reducible assumption) | assumption)
              have hx9 := bt_at a0 x1_1
              replace p9 := eq_true p9
              replace q9 := eq_true q9
              go_wp2_with (first | (go_at_call 48; (with_reducible refine (frisketref01_digit.calls (bt a0 x1_1) false _ A10.out).mono ?_); rintro e w' ⟨rfl, ⟨nd, rfl⟩⟩))
              go_meet
              case rel => exact ⟨_, (x1_1), (x11_1), (by first | rfl | (simp; done) | (simp [*]; done)), (by first | rfl | (simp; done) | (simp [*]; done)), H', ⟨by have := HK1.out; first | omega | exact Nat.le_refl _⟩, ⟨by (with_reducible repeat (first | refine blk_drewN ?_ _ | refine blk_drew ?_ | refine blk_alloc ?_ _)); exact BK106.out⟩, ⟨by repeat (first | (with_reducible first | exact HB.out | apply below_alloc | apply pw_below_drewN | apply below_drew1 | refine below_set ?_ GE106.out) | exact HB.out)⟩⟩
          · rw [if_neg c8] at H
            exact absurd H (by simp)
        · rw [if_neg c7] at H
          have c7b0 : decide (x1_1 < (a0.size : Int)) = false := decide_eq_false c7
          clear c7
          (first | rw [c7b0] | (simp only [i64_w, i32_w]; rw [c7b0]) | skip)
          have H' := Aside0.mk H
          clear H
          go_wp2
          go_meet
          case rel => exact ⟨_, (x1_1), (x11_1), (by first | rfl | (simp; done) | (simp [*]; done)), (by first | rfl | (simp; done) | (simp [*]; done)), H', ⟨by have := HK1.out; first | omega | exact Nat.le_refl _⟩, ⟨by (with_reducible repeat (first | refine blk_drewN ?_ _ | refine blk_drew ?_ | refine blk_alloc ?_ _)); exact BK106.out⟩, ⟨by repeat (first | (with_reducible first | exact HB.out | apply below_alloc | apply pw_below_drewN | apply below_drew1 | refine below_set ?_ GE106.out) | exact HB.out)⟩⟩
  case rest =>
    clear HC5
    try clear c1
    try clear p1
    try clear q1
    try clear hx1
    try clear p2
    try clear c3
    try clear p6
    try clear c7
    try clear c7b0
    try clear c8
    try clear c8b0
    try clear p9
    try clear q9
    try clear hx9
    try clear c11
    try clear c12
    try clear c12b0
    try clear p13
    try clear q13
    try clear hx13
    try clear p13
    try clear p2
    try clear p9
    try clear q13
    try clear q9
    obtain ⟨kq, x1_4, x11_4, rfl, rfl, HA, HJ4, BK106, HB⟩ := hcut
    cases kq with
    | zero => exact absurd HA.out (by simp [frisketref01_number.j1])
    | succ kj4 =>
      have H := HA.out
      clear HA
      simp only [frisketref01_number.j1] at H
      have HC14 := Aside0.mk H
      clear H
      go_upto_region 7 with (fail)
      go_cut [66] (fun v66 wc => ∃ (kq : Nat) (x66_13 : Bool), v66 = .bool x66_13 ∧ Aside0 (frisketref01_number.j2 kq a0 x1_4 a2 x11_4 0 1 (wrap64 (x1_4 - a1)) x66_13 a3_0 a3_1 a3_2 = some (r1, r2, r3)) ∧ Aside0 (kq ≤ kj4) ∧ Aside0 (wc.heap[gb106]? = some (.cells #[.int .i64 a3_0, .int .i64 a3_1, .int .i64 a3_2] 51 (0, 0))) ∧ Aside0 (Below w.heap.size w wc))
      case first =>
        have H := HC14.out
        clear HC14
        by_cases c15 : (wrap64 (x1_4 + 1)) < (a0.size : Int)
        · rw [if_pos c15] at H
          have c15b0 : decide ((wrap64 (x1_4 + 1)) < (a0.size : Int)) = true := decide_eq_true c15
          clear c15
          (first | rw [c15b0] | (simp only [i64_w, i32_w]; rw [c15b0]) | skip)
          by_cases c16 : 0 ≤ x1_4
          · rw [if_pos c16] at H
            have c16b0 : decide (0 ≤ x1_4) = true := decide_eq_true c16
            clear c16
            by_cases c17 : x1_4 < (a0.size : Int)
            · rw [if_pos c17] at H
              have c17b0 : decide (x1_4 < (a0.size : Int)) = true := decide_eq_true c17
              clear c17
              by_cases c19 : (bt a0 x1_4) = 46
              · rw [if_pos c19] at H
                have c19b0 : ((bt a0 x1_4) == 46) = true := beq_iff_eq.mpr c19
                have c19b1 : ((bt a0 x1_4) != 46) = false := bne_eq_false_iff_eq.mpr c19
                clear c19
                obtain ⟨ji20, hji20⟩ : ∃ j_ : Int, (wrap64 (x1_4 + 1)) = j_ := ⟨_, rfl⟩
                replace H : (if 0 ≤ (ji20) then ((frisketref01_digit.f (bt a0 (ji20))).bind fun t108 => (frisketref01_number.j2 kj4 a0 x1_4 a2 x11_4 0 1 (wrap64 (x1_4 - a1)) t108 a3_0 a3_1 a3_2)) else (none)) = some (r1, r2, r3) := by first | (rw [hji20] at H; exact H) | (simp only [hji20] at H ⊢; exact H)
                (try rw [hji20] at c15b0)
                have hji20w : (IntKind.i64.wrap (x1_4 + 1)) = ji20 := (i64_w _).trans hji20
                by_cases c21 : 0 ≤ (ji20)
                · rw [if_pos c21] at H
                  have c21b0 : decide (0 ≤ (ji20)) = true := decide_eq_true c21
                  clear c21
                  replace H := Option.bind_eq_some_iff.mp H
                  obtain ⟨t108, A230, H⟩ := H
                  replace H : (frisketref01_number.j2 kj4 a0 x1_4 a2 x11_4 0 1 (wrap64 (x1_4 - a1)) t108 a3_0 a3_1 a3_2) = some (r1, r2, r3) := H
                  have A23 := Aside0.mk A230
                  clear A230
                  have H' := Aside0.mk H
                  clear H
                  have p18 : 0 ≤ (x1_4 : Int) := of_decide_eq_true (by first | (with_reducible assumption) | assumption)
                  have q18 : x1_4 < (a0.size : Int) := of_decide_eq_true (by first | (with_reducible assumption) | assumption)
                  have hx18 := bt_at a0 x1_4
                  replace p18 := eq_true p18
                  replace q18 := eq_true q18
                  have p22 : 0 ≤ ((ji20) : Int) := of_decide_eq_true (by first | (with_reducible assumption) | assumption)
                  have q22 : (ji20) < (a0.size : Int) := of_decide_eq_true (by first | (with_reducible assumption) | assumption)
                  have hx22 := bt_at a0 (ji20)
                  replace p22 := eq_true p22
                  replace q22 := eq_true q22
                  go_wp2_with (first | (go_at_call 48; (with_reducible refine (frisketref01_digit.calls (bt a0 (ji20)) t108 _ A23.out).mono ?_); rintro e w' ⟨rfl, ⟨nd, rfl⟩⟩))
                  go_meet
                  case rel => exact ⟨_, (t108), (by first | rfl | (simp; done) | (simp [*]; done)), H', ⟨by have := HJ4.out; first | omega | exact Nat.le_refl _⟩, ⟨by (with_reducible repeat (first | refine blk_drewN ?_ _ | refine blk_drew ?_ | refine blk_alloc ?_ _)); exact BK106.out⟩, ⟨by repeat (first | (with_reducible first | exact HB.out | apply below_alloc | apply pw_below_drewN | apply below_drew1 | refine below_set ?_ GE106.out) | exact HB.out)⟩⟩
                · rw [if_neg c21] at H
                  exact absurd H (by simp)
              · rw [if_neg c19] at H
                have c19b0 : ((bt a0 x1_4) == 46) = false := beq_eq_false_iff_ne.mpr c19
                have c19b1 : ((bt a0 x1_4) != 46) = true := bne_iff_ne.mpr c19
                have H' := Aside0.mk H
                clear H
                have p18 : 0 ≤ (x1_4 : Int) := of_decide_eq_true (by first | (with_reducible assumption) | assumption)
                have q18 : x1_4 < (a0.size : Int) := of_decide_eq_true (by first | (with_reducible assumption) | assumption)
                have hx18 := bt_at a0 x1_4
                replace p18 := eq_true p18
                replace q18 := eq_true q18
                go_wp2
                go_meet
                case rel => exact ⟨_, (false), (by first | rfl | (simp; done) | (simp [*]; done)), H', ⟨by have := HJ4.out; first | omega | exact Nat.le_refl _⟩, ⟨by (with_reducible repeat (first | refine blk_drewN ?_ _ | refine blk_drew ?_ | refine blk_alloc ?_ _)); exact BK106.out⟩, ⟨by repeat (first | (with_reducible first | exact HB.out | apply below_alloc | apply pw_below_drewN | apply below_drew1 | refine below_set ?_ GE106.out) | exact HB.out)⟩⟩
            · rw [if_neg c17] at H
              exact absurd H (by simp)
          · rw [if_neg c16] at H
            exact absurd H (by simp)
        · rw [if_neg c15] at H
          have c15b0 : decide ((wrap64 (x1_4 + 1)) < (a0.size : Int)) = false := decide_eq_false c15
          clear c15
          (first | rw [c15b0] | (simp only [i64_w, i32_w]; rw [c15b0]) | skip)
          have H' := Aside0.mk H
          clear H
          go_wp2
          go_meet
          case rel => exact ⟨_, (false), (by first | rfl | (simp; done) | (simp [*]; done)), H', ⟨by have := HJ4.out; first | omega | exact Nat.le_refl _⟩, ⟨by (with_reducible repeat (first | refine blk_drewN ?_ _ | refine blk_drew ?_ | refine blk_alloc ?_ _)); exact BK106.out⟩, ⟨by repeat (first | (with_reducible first | exact HB.out | apply below_alloc | apply pw_below_drewN | apply below_drew1 | refine below_set ?_ GE106.out) | exact HB.out)⟩⟩
      case rest =>
        clear HC14
        try clear c1
        try clear p1
        try clear q1
        try clear hx1
        try clear c2
        try clear p2
        try clear q2
        try clear hx2
        try clear c3
        try clear p6
        try clear c7
        try clear c7b0
        try clear c8
        try clear c8b0
        try clear p9
        try clear q9
        try clear hx9
        try clear c11
        try clear c12
        try clear c12b0
        try clear p13
        try clear q13
        try clear hx13
        try clear c15
        try clear c15b0
        try clear c16
        try clear c16b0
        try clear c17
        try clear c17b0
        try clear p18
        try clear q18
        try clear hx18
        try clear c19
        try clear c19b0
        try clear c19b1
        try clear c21
        try clear c21b0
        try clear p22
        try clear q22
        try clear hx22
        try clear p1
        try clear p13
        try clear p18
        try clear p2
        try clear p22
        try clear p6
        try clear p9
        try clear q1
        try clear q13
        try clear q18
        try clear q22
        try clear q9
        obtain ⟨kq, x66_13, rfl, HA, HJ13, BK106, HB⟩ := hcut
        cases kq with
        | zero => exact absurd HA.out (by simp [frisketref01_number.j2])
        | succ kj13 =>
          have H := HA.out
          clear HA
          simp only [frisketref01_number.j2] at H
          have HC24 := Aside0.mk H
          clear H
          go_upto_if 66 with (fail)
          go_cut [1, 12, 13, 15] (fun v1 v12 v13 v15 wc => ∃ (kq : Nat) (x1_23 : Int) (x12_23 : Int) (x13_23 : Int) (x15_23 : Int), v1 = .int .i64 x1_23 ∧ v12 = .int .i64 x12_23 ∧ v13 = .int .i64 x13_23 ∧ v15 = .int .i64 x15_23 ∧ Aside0 (frisketref01_number.j4 kq a0 x1_23 a2 x11_4 x12_23 x13_23 x15_23 a3_0 a3_1 a3_2 = some (r1, r2, r3)) ∧ Aside0 (kq ≤ kj13) ∧ Aside0 (wc.heap[gb106]? = some (.cells #[.int .i64 a3_0, .int .i64 a3_1, .int .i64 a3_2] 51 (0, 0))) ∧ Aside0 (Below w.heap.size w wc))
          case first =>
            have H := HC24.out
            clear HC24
            by_cases c25 : x66_13 = true
            · subst c25
              have H1 : (frisketref01_number.l1 kj13 a0 (wrap64 (x1_4 + 1)) a2 x11_4 0 1 (wrap64 (x1_4 - a1)) (wrap64 (x1_4 + 1)) a3_0 a3_1 a3_2) = some (r1, r2, r3) := by rw [if_pos rfl] at H; exact H
              clear H
              have H := H1
              clear H1
              have H' := Aside0.mk H
              clear H
              go_wp2
              go_loopg [1, 12, 13] kj13 (fun kq v1 v12 v13 w' => ∃ (x1_3 : Int) (x12_3 : Int) (x13_3 : Int), v1 = .int .i64 x1_3 ∧ v12 = .int .i64 x12_3 ∧ v13 = .int .i64 x13_3 ∧ Aside0 (frisketref01_number.l1 kq a0 x1_3 a2 x11_4 x12_3 x13_3 (wrap64 (x1_4 - a1)) (wrap64 (x1_4 + 1)) a3_0 a3_1 a3_2 = some (r1, r2, r3)) ∧ Aside0 (kq ≤ kj13) ∧ Aside0 (w'.heap[gb106]? = some (.cells #[.int .i64 a3_0, .int .i64 a3_1, .int .i64 a3_2] 51 (0, 0))) ∧ Aside0 (Below w.heap.size w w'))
              case atStart => exact ⟨(wrap64 (x1_4 + 1)), (0), (1), (by first | rfl | (simp; done) | (simp [*]; done)), (by first | rfl | (simp; done) | (simp [*]; done)), (by first | rfl | (simp; done) | (simp [*]; done)), H', ⟨Nat.le_refl _⟩, ⟨by (with_reducible repeat (first | refine blk_drewN ?_ _ | refine blk_drew ?_ | refine blk_alloc ?_ _)); exact BK106.out⟩, ⟨by repeat (first | (with_reducible first | exact HB.out | apply below_alloc | apply pw_below_drewN | apply below_drew1 | refine below_set ?_ GE106.out) | exact HB.out)⟩⟩
              case round =>
                clear H'
                try clear c1
                try clear p1
                try clear q1
                try clear hx1
                try clear c2
                try clear p2
                try clear q2
                try clear hx2
                try clear c3
                try clear p6
                try clear c7
                try clear c7b0
                try clear c8
                try clear c8b0
                try clear p9
                try clear q9
                try clear hx9
                try clear c11
                try clear c12
                try clear c12b0
                try clear p13
                try clear q13
                try clear hx13
                try clear c15
                try clear c15b0
                try clear c16
                try clear c16b0
                try clear c17
                try clear c17b0
                try clear p18
                try clear q18
                try clear hx18
                try clear c19
                try clear c19b0
                try clear c19b1
                try clear c21
                try clear c21b0
                try clear p22
                try clear q22
                try clear hx22
                try clear c25
                try clear p1
                try clear p13
                try clear p18
                try clear p2
                try clear p22
                try clear p6
                try clear p9
                try clear q1
                try clear q13
                try clear q18
                try clear q2
                try clear q22
                try clear q9
                obtain ⟨x1_3, x12_3, x13_3, rfl, rfl, rfl, HA, HK3, BK106, HB⟩ := hrel
                cases gk with
                | zero => exact absurd HA.out (by simp [frisketref01_number.l1])
                | succ k3 =>
                  have H := HA.out
                  clear HA
                  simp only [frisketref01_number.l1] at H
                  by_cases c26 : x1_3 < (a0.size : Int)
                  · rw [if_pos c26] at H
                    have c26b0 : decide (x1_3 < (a0.size : Int)) = true := decide_eq_true c26
                    clear c26
                    (first | rw [c26b0] | (simp only [i64_w, i32_w]; rw [c26b0]) | skip)
                    by_cases c27 : 0 ≤ x1_3
                    · rw [if_pos c27] at H
                      have c27b0 : decide (0 ≤ x1_3) = true := decide_eq_true c27
                      clear c27
                      replace H := Option.bind_eq_some_iff.mp H
                      obtain ⟨t109, A290, H⟩ := H
                      replace H : (if t109 = true then (if (wrap64 (x1_3 - (wrap64 (x1_4 + 1)))) < 9 then (frisketref01_number.l1 k3 a0 (wrap64 (x1_3 + 1)) a2 x11_4 (wrap64 ((wrap64 (x12_3 * 10)) + (((bt a0 x1_3) - 48) % 256))) (wrap64 (x13_3 * 10)) (wrap64 (x1_4 - a1)) (wrap64 (x1_4 + 1)) a3_0 a3_1 a3_2) else (frisketref01_number.j4 k3 a0 x1_3 a2 x11_4 x12_3 x13_3 (wrap64 ((wrap64 (x1_4 - a1)) + (wrap64 (x1_3 - (wrap64 (x1_4 + 1)))))) a3_0 a3_1 a3_2)) else (frisketref01_number.j4 k3 a0 x1_3 a2 x11_4 x12_3 x13_3 (wrap64 ((wrap64 (x1_4 - a1)) + (wrap64 (x1_3 - (wrap64 (x1_4 + 1)))))) a3_0 a3_1 a3_2)) = some (r1, r2, r3) := H
                      have A29 := Aside0.mk A290
                      clear A290
                      by_cases c30 : t109 = true
                      · subst c30
                        have H1 : (if (wrap64 (x1_3 - (wrap64 (x1_4 + 1)))) < 9 then (frisketref01_number.l1 k3 a0 (wrap64 (x1_3 + 1)) a2 x11_4 (wrap64 ((wrap64 (x12_3 * 10)) + (((bt a0 x1_3) - 48) % 256))) (wrap64 (x13_3 * 10)) (wrap64 (x1_4 - a1)) (wrap64 (x1_4 + 1)) a3_0 a3_1 a3_2) else (frisketref01_number.j4 k3 a0 x1_3 a2 x11_4 x12_3 x13_3 (wrap64 ((wrap64 (x1_4 - a1)) + (wrap64 (x1_3 - (wrap64 (x1_4 + 1)))))) a3_0 a3_1 a3_2)) = some (r1, r2, r3) := by rw [if_pos rfl] at H; exact H
                        clear H
                        have H := H1
                        clear H1
                        by_cases c31 : (wrap64 (x1_3 - (wrap64 (x1_4 + 1)))) < 9
                        · rw [if_pos c31] at H
                          have c31b0 : decide ((wrap64 (x1_3 - (wrap64 (x1_4 + 1)))) < 9) = true := decide_eq_true c31
                          clear c31
                          have H' := Aside0.mk H
                          clear H
                          have p28 : 0 ≤ (x1_3 : Int) := of_decide_eq_true (by first | (with_reducible assumption) | assumption)
                          have q28 : x1_3 < (a0.size : Int) := of_decide_eq_true (by first | (with_reducible assumption) | assumption)
                          have hx28 := bt_at a0 x1_3
                          replace p28 := eq_true p28
                          replace q28 := eq_true q28
                          go_wp2_with (first | (go_at_call 48; (with_reducible refine (frisketref01_digit.calls (bt a0 x1_3) true _ A29.out).mono ?_); rintro e w' ⟨rfl, ⟨nd, rfl⟩⟩; have p32 : 0 ≤ (x1_3 : Int) := of_decide_eq_true (by first | (with_reducible assumption) | assumption); have q32 : x1_3 < (a0.size : Int) := of_decide_eq_true (by first | (with_reducible assumption) | assumption); have hx32 := bt_at a0 x1_3; replace p32 := eq_true p32; replace q32 := eq_true q32))
                          go_roundg k3
                          case measure => have := HJ4.out; have := HJ13.out; have := HK3.out; omega
                          case rel => exact ⟨(wrap64 (x1_3 + 1)), (wrap64 ((wrap64 (x12_3 * 10)) + (((bt a0 x1_3) - 48) % 256))), (wrap64 (x13_3 * 10)), (by first | rfl | (simp; done) | (simp [*]; done)), (by first | rfl | (simp; done) | (simp [*]; done)), (by first | rfl | (simp; done) | (simp [*]; done)), H', ⟨by have := HJ4.out; have := HJ13.out; have := HK3.out; omega⟩, ⟨by (with_reducible repeat (first | refine blk_drewN ?_ _ | refine blk_drew ?_ | refine blk_alloc ?_ _)); exact BK106.out⟩, ⟨by repeat (first | (with_reducible first | exact HB.out | apply below_alloc | apply pw_below_drewN | apply below_drew1 | refine below_set ?_ GE106.out) | exact HB.out)⟩⟩
                        · rw [if_neg c31] at H
                          have c31b0 : decide ((wrap64 (x1_3 - (wrap64 (x1_4 + 1)))) < 9) = false := decide_eq_false c31
                          clear c31
                          have H' := Aside0.mk H
                          clear H
                          have p28 : 0 ≤ (x1_3 : Int) := of_decide_eq_true (by first | (with_reducible assumption) | assumption)
                          have q28 : x1_3 < (a0.size : Int) := of_decide_eq_true (by first | (with_reducible assumption) | assumption)
                          have hx28 := bt_at a0 x1_3
                          replace p28 := eq_true p28
                          replace q28 := eq_true q28
                          go_wp2_with (first | (go_at_call 48; (with_reducible refine (frisketref01_digit.calls (bt a0 x1_3) true _ A29.out).mono ?_); rintro e w' ⟨rfl, ⟨nd, rfl⟩⟩))
                          go_meet
                          case rel => exact ⟨_, (x1_3), (x12_3), (x13_3), (wrap64 ((wrap64 (x1_4 - a1)) + (wrap64 (x1_3 - (wrap64 (x1_4 + 1)))))), (by first | rfl | (simp; done) | (simp [*]; done)), (by first | rfl | (simp; done) | (simp [*]; done)), (by first | rfl | (simp; done) | (simp [*]; done)), (by first | rfl | (simp; done) | (simp [*]; done)), H', ⟨by have := HJ4.out; have := HJ13.out; have := HK3.out; first | omega | exact Nat.le_refl _⟩, ⟨by (with_reducible repeat (first | refine blk_drewN ?_ _ | refine blk_drew ?_ | refine blk_alloc ?_ _)); exact BK106.out⟩, ⟨by repeat (first | (with_reducible first | exact HB.out | apply below_alloc | apply pw_below_drewN | apply below_drew1 | refine below_set ?_ GE106.out) | exact HB.out)⟩⟩
                      · replace c30 := Bool.eq_false_iff.mpr c30
                        subst c30
                        have H1 : (frisketref01_number.j4 k3 a0 x1_3 a2 x11_4 x12_3 x13_3 (wrap64 ((wrap64 (x1_4 - a1)) + (wrap64 (x1_3 - (wrap64 (x1_4 + 1)))))) a3_0 a3_1 a3_2) = some (r1, r2, r3) := by rw [if_neg (show ¬ (false = true) by decide)] at H; exact H
                        clear H
                        have H := H1
                        clear H1
                        have H' := Aside0.mk H
                        clear H
                        have p28 : 0 ≤ (x1_3 : Int) := of_decide_eq_true (by first | (with_reducible assumption) | assumption)
                        have q28 : x1_3 < (a0.size : Int) := of_decide_eq_true (by first | (with_reducible assumption) | assumption)
                        have hx28 := bt_at a0 x1_3
                        replace p28 := eq_true p28
                        replace q28 := eq_true q28
                        go_wp2_with (first | (go_at_call 48; (with_reducible refine (frisketref01_digit.calls (bt a0 x1_3) false _ A29.out).mono ?_); rintro e w' ⟨rfl, ⟨nd, rfl⟩⟩))
                        go_meet
                        case rel => exact ⟨_, (x1_3), (x12_3), (x13_3), (wrap64 ((wrap64 (x1_4 - a1)) + (wrap64 (x1_3 - (wrap64 (x1_4 + 1)))))), (by first | rfl | (simp; done) | (simp [*]; done)), (by first | rfl | (simp; done) | (simp [*]; done)), (by first | rfl | (simp; done) | (simp [*]; done)), (by first | rfl | (simp; done) | (simp [*]; done)), H', ⟨by have := HJ4.out; have := HJ13.out; have := HK3.out; first | omega | exact Nat.le_refl _⟩, ⟨by (with_reducible repeat (first | refine blk_drewN ?_ _ | refine blk_drew ?_ | refine blk_alloc ?_ _)); exact BK106.out⟩, ⟨by repeat (first | (with_reducible first | exact HB.out | apply below_alloc | apply pw_below_drewN | apply below_drew1 | refine below_set ?_ GE106.out) | exact HB.out)⟩⟩
                    · rw [if_neg c27] at H
                      exact absurd H (by simp)
                  · rw [if_neg c26] at H
                    have c26b0 : decide (x1_3 < (a0.size : Int)) = false := decide_eq_false c26
                    clear c26
                    (first | rw [c26b0] | (simp only [i64_w, i32_w]; rw [c26b0]) | skip)
                    have H' := Aside0.mk H
                    clear H
                    go_wp2
                    go_meet
                    case rel => exact ⟨_, (x1_3), (x12_3), (x13_3), (wrap64 ((wrap64 (x1_4 - a1)) + (wrap64 (x1_3 - (wrap64 (x1_4 + 1)))))), (by first | rfl | (simp; done) | (simp [*]; done)), (by first | rfl | (simp; done) | (simp [*]; done)), (by first | rfl | (simp; done) | (simp [*]; done)), (by first | rfl | (simp; done) | (simp [*]; done)), H', ⟨by have := HJ4.out; have := HJ13.out; have := HK3.out; first | omega | exact Nat.le_refl _⟩, ⟨by (with_reducible repeat (first | refine blk_drewN ?_ _ | refine blk_drew ?_ | refine blk_alloc ?_ _)); exact BK106.out⟩, ⟨by repeat (first | (with_reducible first | exact HB.out | apply below_alloc | apply pw_below_drewN | apply below_drew1 | refine below_set ?_ GE106.out) | exact HB.out)⟩⟩
            · replace c25 := Bool.eq_false_iff.mpr c25
              subst c25
              have H1 : (frisketref01_number.j4 kj13 a0 x1_4 a2 x11_4 0 1 (wrap64 (x1_4 - a1)) a3_0 a3_1 a3_2) = some (r1, r2, r3) := by rw [if_neg (show ¬ (false = true) by decide)] at H; exact H
              clear H
              have H := H1
              clear H1
              have H' := Aside0.mk H
              clear H
              go_wp2
              go_meet
              case rel => exact ⟨_, (x1_4), (0), (1), ((wrap64 (x1_4 - a1))), (by first | rfl | (simp; done) | (simp [*]; done)), (by first | rfl | (simp; done) | (simp [*]; done)), (by first | rfl | (simp; done) | (simp [*]; done)), (by first | rfl | (simp; done) | (simp [*]; done)), H', ⟨by have := HJ4.out; have := HJ13.out; first | omega | exact Nat.le_refl _⟩, ⟨by (with_reducible repeat (first | refine blk_drewN ?_ _ | refine blk_drew ?_ | refine blk_alloc ?_ _)); exact BK106.out⟩, ⟨by repeat (first | (with_reducible first | exact HB.out | apply below_alloc | apply pw_below_drewN | apply below_drew1 | refine below_set ?_ GE106.out) | exact HB.out)⟩⟩
          case rest =>
            clear HC24
            try clear c1
            try clear p1
            try clear q1
            try clear hx1
            try clear c2
            try clear p2
            try clear q2
            try clear hx2
            try clear c3
            try clear p3
            try clear q3
            try clear hx3
            try clear p6
            try clear c7
            try clear c7b0
            try clear c8
            try clear c8b0
            try clear p9
            try clear q9
            try clear hx9
            try clear c11
            try clear c12
            try clear c12b0
            try clear p13
            try clear q13
            try clear hx13
            try clear c15
            try clear c15b0
            try clear c16
            try clear c16b0
            try clear c17
            try clear c17b0
            try clear p18
            try clear q18
            try clear hx18
            try clear c19
            try clear c19b0
            try clear c19b1
            try clear c21
            try clear c21b0
            try clear p22
            try clear q22
            try clear hx22
            try clear c25
            try clear c26
            try clear c26b0
            try clear c27
            try clear c27b0
            try clear p28
            try clear q28
            try clear hx28
            try clear c30
            try clear c31
            try clear c31b0
            try clear p32
            try clear q32
            try clear hx32
            try clear p1
            try clear p13
            try clear p18
            try clear p2
            try clear p22
            try clear p28
            try clear p32
            try clear p6
            try clear p9
            try clear q1
            try clear q13
            try clear q18
            try clear q2
            try clear q22
            try clear q28
            try clear q32
            try clear q9
            obtain ⟨kq, x1_23, x12_23, x13_23, x15_23, rfl, rfl, rfl, rfl, HA, HJ23, BK106, HB⟩ := hcut
            cases kq with
            | zero => exact absurd HA.out (by simp [frisketref01_number.j4])
            | succ kj23 =>
              have H := HA.out
              clear HA
              simp only [frisketref01_number.j4] at H
              by_cases c33 : x15_23 = 0
              · rw [if_pos c33] at H
                have c33b0 : (x15_23 == 0) = true := beq_iff_eq.mpr c33
                have c33b1 : (x15_23 != 0) = false := bne_eq_false_iff_eq.mpr c33
                clear c33
                simp only [Option.some.injEq, Prod.mk.injEq] at H
                obtain ⟨rfl, rfl, rfl⟩ := H
                go_wp2
                go_ret3
                exact ⟨by first | rfl | (simp [errW_none, errW_some] <;> rfl) | (simp [*, errW_none, errW_some] <;> rfl), by repeat (first | (with_reducible first | exact HB.out | apply below_alloc | apply pw_below_drewN | apply below_drew1 | refine below_set ?_ GE106.out) | exact HB.out)⟩
              · rw [if_neg c33] at H
                have c33b0 : (x15_23 == 0) = false := beq_eq_false_iff_ne.mpr c33
                have c33b1 : (x15_23 != 0) = true := bne_iff_ne.mpr c33
                have HC34 := Aside0.mk H
                clear H
                go_upto_region 17 with (fail)
                go_cut [114] (fun v114 wc => ∃ (kq : Nat) (x114_33 : Bool), v114 = .bool x114_33 ∧ Aside0 (frisketref01_number.j5 kq a0 x1_23 a2 x11_4 x12_23 x13_23 x114_33 a3_0 a3_1 a3_2 = some (r1, r2, r3)) ∧ Aside0 (kq ≤ kj23) ∧ Aside0 (wc.heap[gb106]? = some (.cells #[.int .i64 a3_0, .int .i64 a3_1, .int .i64 a3_2] 51 (0, 0))) ∧ Aside0 (Below w.heap.size w wc))
                case first =>
                  have H := HC34.out
                  clear HC34
                  by_cases c35 : x1_23 < (a0.size : Int)
                  · rw [if_pos c35] at H
                    have c35b0 : decide (x1_23 < (a0.size : Int)) = true := decide_eq_true c35
                    clear c35
                    (first | rw [c35b0] | (simp only [i64_w, i32_w]; rw [c35b0]) | skip)
                    by_cases c36 : 0 ≤ x1_23
                    · rw [if_pos c36] at H
                      have c36b0 : decide (0 ≤ x1_23) = true := decide_eq_true c36
                      clear c36
                      replace H := Option.bind_eq_some_iff.mp H
                      obtain ⟨t110, A380, H⟩ := H
                      replace H : (frisketref01_number.j5 kj23 a0 x1_23 a2 x11_4 x12_23 x13_23 t110 a3_0 a3_1 a3_2) = some (r1, r2, r3) := H
                      have A38 := Aside0.mk A380
                      clear A380
                      have H' := Aside0.mk H
                      clear H
                      have p37 : 0 ≤ (x1_23 : Int) := of_decide_eq_true (by first | (with_reducible assumption) | assumption)
                      have q37 : x1_23 < (a0.size : Int) := of_decide_eq_true (by first | (with_reducible assumption) | assumption)
                      have hx37 := bt_at a0 x1_23
                      replace p37 := eq_true p37
                      replace q37 := eq_true q37
                      go_wp2_with (first | (go_at_call 47; (with_reducible refine (frisketref01_isScale.calls kj23 (bt a0 x1_23) t110 _ A38.out).mono ?_); rintro e w' ⟨rfl, ⟨nd, rfl⟩⟩))
                      go_meet
                      case rel => exact ⟨_, (t110), (by first | rfl | (simp; done) | (simp [*]; done)), H', ⟨by have := HJ4.out; have := HJ13.out; have := HJ23.out; first | omega | exact Nat.le_refl _⟩, ⟨by (with_reducible repeat (first | refine blk_drewN ?_ _ | refine blk_drew ?_ | refine blk_alloc ?_ _)); exact BK106.out⟩, ⟨by repeat (first | (with_reducible first | exact HB.out | apply below_alloc | apply pw_below_drewN | apply below_drew1 | refine below_set ?_ GE106.out) | exact HB.out)⟩⟩
                    · rw [if_neg c36] at H
                      exact absurd H (by simp)
                  · rw [if_neg c35] at H
                    have c35b0 : decide (x1_23 < (a0.size : Int)) = false := decide_eq_false c35
                    clear c35
                    (first | rw [c35b0] | (simp only [i64_w, i32_w]; rw [c35b0]) | skip)
                    have H' := Aside0.mk H
                    clear H
                    go_wp2
                    go_meet
                    case rel => exact ⟨_, (false), (by first | rfl | (simp; done) | (simp [*]; done)), H', ⟨by have := HJ4.out; have := HJ13.out; have := HJ23.out; first | omega | exact Nat.le_refl _⟩, ⟨by (with_reducible repeat (first | refine blk_drewN ?_ _ | refine blk_drew ?_ | refine blk_alloc ?_ _)); exact BK106.out⟩, ⟨by repeat (first | (with_reducible first | exact HB.out | apply below_alloc | apply pw_below_drewN | apply below_drew1 | refine below_set ?_ GE106.out) | exact HB.out)⟩⟩
                case rest =>
                  clear HC34
                  try clear c1
                  try clear p1
                  try clear q1
                  try clear hx1
                  try clear c2
                  try clear p2
                  try clear q2
                  try clear hx2
                  try clear c3
                  try clear p3
                  try clear q3
                  try clear hx3
                  try clear p6
                  try clear c7
                  try clear c7b0
                  try clear c8
                  try clear c8b0
                  try clear p9
                  try clear q9
                  try clear hx9
                  try clear c11
                  try clear c12
                  try clear c12b0
                  try clear p13
                  try clear q13
                  try clear hx13
                  try clear c15
                  try clear c15b0
                  try clear c16
                  try clear c16b0
                  try clear c17
                  try clear c17b0
                  try clear p18
                  try clear q18
                  try clear hx18
                  try clear c19
                  try clear c19b0
                  try clear c19b1
                  try clear c21
                  try clear c21b0
                  try clear p22
                  try clear q22
                  try clear hx22
                  try clear c25
                  try clear c26
                  try clear c26b0
                  try clear c27
                  try clear c27b0
                  try clear p28
                  try clear q28
                  try clear hx28
                  try clear c30
                  try clear c31
                  try clear c31b0
                  try clear p32
                  try clear q32
                  try clear hx32
                  try clear c33
                  try clear c33b0
                  try clear c33b1
                  try clear c35
                  try clear c35b0
                  try clear c36
                  try clear c36b0
                  try clear p37
                  try clear q37
                  try clear hx37
                  try clear c38
                  try clear p1
                  try clear p13
                  try clear p18
                  try clear p2
                  try clear p22
                  try clear p28
                  try clear p3
                  try clear p32
                  try clear p37
                  try clear p6
                  try clear p9
                  try clear q1
                  try clear q13
                  try clear q18
                  try clear q2
                  try clear q22
                  try clear q28
                  try clear q3
                  try clear q32
                  try clear q37
                  try clear q9
                  obtain ⟨kq, x114_33, rfl, HA, HJ33, BK106, HB⟩ := hcut
                  cases kq with
                  | zero => exact absurd HA.out (by simp [frisketref01_number.j5])
                  | succ kj33 =>
                    have H := HA.out
                    clear HA
                    simp only [frisketref01_number.j5] at H
                    have HC39 := Aside0.mk H
                    clear H
                    go_upto_if 114 with (fail)
                    go_cut [1, 2] (fun v1 v2 wc => ∃ (kq : Nat) (x1_38 : Int) (x2_38 : Int), v1 = .int .i64 x1_38 ∧ v2 = .int .u8 x2_38 ∧ Aside0 (frisketref01_number.j6 kq x1_38 x2_38 x11_4 x12_23 x13_23 a3_0 a3_1 a3_2 = some (r1, r2, r3)) ∧ Aside0 (kq ≤ kj33) ∧ Aside0 (wc.heap[gb106]? = some (.cells #[.int .i64 a3_0, .int .i64 a3_1, .int .i64 a3_2] 51 (0, 0))) ∧ Aside0 (Below w.heap.size w wc))
                    case first =>
                      have H := HC39.out
                      clear HC39
                      by_cases c40 : x114_33 = true
                      · subst c40
                        have H1 : (if 0 ≤ x1_23 then (if x1_23 < (a0.size : Int) then (frisketref01_number.j6 kj33 (wrap64 (x1_23 + 1)) (bt a0 x1_23) x11_4 x12_23 x13_23 a3_0 a3_1 a3_2) else (none)) else (none)) = some (r1, r2, r3) := by rw [if_pos rfl] at H; exact H
                        clear H
                        have H := H1
                        clear H1
                        by_cases c41 : 0 ≤ x1_23
                        · rw [if_pos c41] at H
                          have c41b0 : decide (0 ≤ x1_23) = true := decide_eq_true c41
                          clear c41
                          (first | rw [c41b0] | (simp only [i64_w, i32_w]; rw [c41b0]) | skip)
                          by_cases c42 : x1_23 < (a0.size : Int)
                          · rw [if_pos c42] at H
                            have c42b0 : decide (x1_23 < (a0.size : Int)) = true := decide_eq_true c42
                            clear c42
                            have H' := Aside0.mk H
                            clear H
                            have p43 : 0 ≤ (x1_23 : Int) := of_decide_eq_true (by first | (with_reducible assumption) | assumption)
                            have q43 : x1_23 < (a0.size : Int) := of_decide_eq_true (by first | (with_reducible assumption) | assumption)
                            have hx43 := bt_at a0 x1_23
                            replace p43 := eq_true p43
                            replace q43 := eq_true q43
                            go_wp2
                            go_meet
                            case rel => exact ⟨_, (wrap64 (x1_23 + 1)), (bt a0 x1_23), (by first | rfl | (simp; done) | (simp [*]; done)), (by first | rfl | (simp; done) | (simp [*]; done)), H', ⟨by have := HJ4.out; have := HJ13.out; have := HJ23.out; have := HJ33.out; first | omega | exact Nat.le_refl _⟩, ⟨by (with_reducible repeat (first | refine blk_drewN ?_ _ | refine blk_drew ?_ | refine blk_alloc ?_ _)); exact BK106.out⟩, ⟨by repeat (first | (with_reducible first | exact HB.out | apply below_alloc | apply pw_below_drewN | apply below_drew1 | refine below_set ?_ GE106.out) | exact HB.out)⟩⟩
                          · rw [if_neg c42] at H
                            exact absurd H (by simp)
                        · rw [if_neg c41] at H
                          exact absurd H (by simp)
                      · replace c40 := Bool.eq_false_iff.mpr c40
                        subst c40
                        have H1 : (frisketref01_number.j6 kj33 x1_23 a2 x11_4 x12_23 x13_23 a3_0 a3_1 a3_2) = some (r1, r2, r3) := by rw [if_neg (show ¬ (false = true) by decide)] at H; exact H
                        clear H
                        have H := H1
                        clear H1
                        have H' := Aside0.mk H
                        clear H
                        go_wp2
                        go_meet
                        case rel => exact ⟨_, (x1_23), (a2), (by first | rfl | (simp; done) | (simp [*]; done)), (by first | rfl | (simp; done) | (simp [*]; done)), H', ⟨by have := HJ4.out; have := HJ13.out; have := HJ23.out; have := HJ33.out; first | omega | exact Nat.le_refl _⟩, ⟨by (with_reducible repeat (first | refine blk_drewN ?_ _ | refine blk_drew ?_ | refine blk_alloc ?_ _)); exact BK106.out⟩, ⟨by repeat (first | (with_reducible first | exact HB.out | apply below_alloc | apply pw_below_drewN | apply below_drew1 | refine below_set ?_ GE106.out) | exact HB.out)⟩⟩
                    case rest =>
                      clear HC39
                      try clear c1
                      try clear p1
                      try clear q1
                      try clear hx1
                      try clear c2
                      try clear p2
                      try clear q2
                      try clear hx2
                      try clear c3
                      try clear p3
                      try clear q3
                      try clear hx3
                      try clear c4
                      try clear p4
                      try clear q4
                      try clear hx4
                      try clear p6
                      try clear c7
                      try clear c7b0
                      try clear c8
                      try clear c8b0
                      try clear p9
                      try clear q9
                      try clear hx9
                      try clear c11
                      try clear c12
                      try clear c12b0
                      try clear p13
                      try clear q13
                      try clear hx13
                      try clear c15
                      try clear c15b0
                      try clear c16
                      try clear c16b0
                      try clear c17
                      try clear c17b0
                      try clear p18
                      try clear q18
                      try clear hx18
                      try clear c19
                      try clear c19b0
                      try clear c19b1
                      try clear c21
                      try clear c21b0
                      try clear p22
                      try clear q22
                      try clear hx22
                      try clear c25
                      try clear c26
                      try clear c26b0
                      try clear c27
                      try clear c27b0
                      try clear p28
                      try clear q28
                      try clear hx28
                      try clear c30
                      try clear c31
                      try clear c31b0
                      try clear p32
                      try clear q32
                      try clear hx32
                      try clear c33
                      try clear c33b0
                      try clear c33b1
                      try clear c35
                      try clear c35b0
                      try clear c36
                      try clear c36b0
                      try clear p37
                      try clear q37
                      try clear hx37
                      try clear c38
                      try clear c40
                      try clear c41
                      try clear c41b0
                      try clear c42
                      try clear c42b0
                      try clear p43
                      try clear q43
                      try clear hx43
                      try clear p1
                      try clear p13
                      try clear p18
                      try clear p2
                      try clear p22
                      try clear p28
                      try clear p3
                      try clear p32
                      try clear p37
                      try clear p43
                      try clear p6
                      try clear p9
                      try clear q1
                      try clear q13
                      try clear q18
                      try clear q2
                      try clear q22
                      try clear q28
                      try clear q3
                      try clear q32
                      try clear q37
                      try clear q43
                      try clear q9
                      obtain ⟨kq, x1_38, x2_38, rfl, rfl, HA, HJ38, BK106, HB⟩ := hcut
                      cases kq with
                      | zero => exact absurd HA.out (by simp [frisketref01_number.j6])
                      | succ kj38 =>
                        have H := HA.out
                        clear HA
                        simp only [frisketref01_number.j6] at H
                        replace H := Option.bind_eq_some_iff.mp H
                        obtain ⟨t111, A440, H⟩ := H
                        replace H : (if x13_23 = 0 then (none) else ((frisketref01_within.f (wrap64 ((wrap64 (x11_4 * t111)) + (wrap64 (Int.tdiv (wrap64 (x12_23 * t111)) x13_23))))).bind fun t112 => (if t112 = true then (some (wrap64 ((wrap64 (x11_4 * t111)) + (wrap64 (Int.tdiv (wrap64 (x12_23 * t111)) x13_23))), x1_38, 0)) else (some (0, x1_38, 5))))) = some (r1, r2, r3) := H
                        have A44 := Aside0.mk A440
                        clear A440
                        by_cases c45 : x13_23 = 0
                        · rw [if_pos c45] at H
                          exact absurd H (by simp)
                        · rw [if_neg c45] at H
                          have c45b0 : (x13_23 == 0) = false := beq_eq_false_iff_ne.mpr c45
                          have c45b1 : (x13_23 != 0) = true := bne_iff_ne.mpr c45
                          replace H := Option.bind_eq_some_iff.mp H
                          obtain ⟨t112, A460, H⟩ := H
                          replace H : (if t112 = true then (some (wrap64 ((wrap64 (x11_4 * t111)) + (wrap64 (Int.tdiv (wrap64 (x12_23 * t111)) x13_23))), x1_38, 0)) else (some (0, x1_38, 5))) = some (r1, r2, r3) := H
                          have A46 := Aside0.mk A460
                          clear A460
                          by_cases c47 : t112 = true
                          · subst c47
                            have H1 : (some (wrap64 ((wrap64 (x11_4 * t111)) + (wrap64 (Int.tdiv (wrap64 (x12_23 * t111)) x13_23))), x1_38, 0)) = some (r1, r2, r3) := by rw [if_pos rfl] at H; exact H
                            clear H
                            have H := H1
                            clear H1
                            simp only [Option.some.injEq, Prod.mk.injEq] at H
                            obtain ⟨rfl, rfl, rfl⟩ := H
                            have hcz48_0 : wc.cell? ⟨gb106, 0, none⟩ = some (.int .i64 a3_0) := (blk_cell BK106.out 0).trans rfl
                            have hcz48_1 : wc.cell? ⟨gb106, 1, none⟩ = some (.int .i64 a3_1) := (blk_cell BK106.out 1).trans rfl
                            have hcz48_2 : wc.cell? ⟨gb106, 2, none⟩ = some (.int .i64 a3_2) := (blk_cell BK106.out 2).trans rfl
                            have hfz48_0 := blk_frozen BK106.out 0
                            have hfz48_1 := blk_frozen BK106.out 1
                            have hfz48_2 := blk_frozen BK106.out 2
                            go_wp2_with (first | ((with_reducible refine gate_callee (f := 49) rfl ?_); refine goesL_ (some 122) rfl rfl Try.func49 (by kernel_rfl) rfl #[.int .u8 x2_38, .agg #[.int .i64 a3_0, .int .i64 a3_1, .int .i64 a3_2]] rfl (by (try simp only [List.map_toArray, List.map_cons, List.map_nil]); first | done | rfl | (simp only [List.length_drop, List.length_take]; rfl)) ?_; (with_reducible refine (frisketref01_unit.calls x2_38 a3_0 a3_1 a3_2 t111 _ A44.out).mono ?_); rintro e w49 ⟨rfl, hb⟩; refine ⟨_, rfl, ?_⟩; have n0_ := Aside0.mk (blk_below (g := gb106) (o := .cells #[.int .i64 a3_0, .int .i64 a3_1, .int .i64 a3_2] 51 (0, 0)) (by (with_reducible repeat (first | refine blk_drewN ?_ _ | refine blk_drew ?_ | refine blk_alloc ?_ _)); exact BK106.out) hb); have n1_ := Aside0.mk (below_step (by repeat (first | (with_reducible first | exact HB.out | apply below_alloc | apply pw_below_drewN | apply below_drew1 | refine below_set ?_ GE106.out) | exact HB.out)) hb); clear BK106; clear HB; have BK106 := n0_; have HB := n1_; clear n0_ n1_; (try clear hb); (try clear hb2); (try clear hk); (try clear hi)) | ((with_reducible refine gate_callee (f := 40) rfl ?_); refine goesL_ (some 133) rfl rfl Try.func40 (by kernel_rfl) rfl #[.int .i64 (wrap64 ((wrap64 (x11_4 * t111)) + (wrap64 (Int.tdiv (wrap64 (x12_23 * t111)) x13_23))))] rfl (by (try simp only [List.map_toArray, List.map_cons, List.map_nil]); first | done | rfl | (simp only [List.length_drop, List.length_take]; rfl)) ?_; (with_reducible refine (frisketref01_within.calls (wrap64 ((wrap64 (x11_4 * t111)) + (wrap64 (Int.tdiv (wrap64 (x12_23 * t111)) x13_23)))) true _ A46.out).mono ?_); rintro e w' ⟨rfl, ⟨nd, rfl⟩⟩; refine ⟨_, rfl, ?_⟩))
                            go_ret3
                            exact ⟨by first | rfl | (simp [errW_none, errW_some] <;> rfl) | (simp [*, errW_none, errW_some] <;> rfl), by repeat (first | (with_reducible first | exact HB.out | apply below_alloc | apply pw_below_drewN | apply below_drew1 | refine below_set ?_ GE106.out) | exact HB.out)⟩
                          · replace c47 := Bool.eq_false_iff.mpr c47
                            subst c47
                            have H1 : (some (0, x1_38, 5)) = some (r1, r2, r3) := by rw [if_neg (show ¬ (false = true) by decide)] at H; exact H
                            clear H
                            have H := H1
                            clear H1
                            simp only [Option.some.injEq, Prod.mk.injEq] at H
                            obtain ⟨rfl, rfl, rfl⟩ := H
                            have hcz50_0 : wc.cell? ⟨gb106, 0, none⟩ = some (.int .i64 a3_0) := (blk_cell BK106.out 0).trans rfl
                            have hcz50_1 : wc.cell? ⟨gb106, 1, none⟩ = some (.int .i64 a3_1) := (blk_cell BK106.out 1).trans rfl
                            have hcz50_2 : wc.cell? ⟨gb106, 2, none⟩ = some (.int .i64 a3_2) := (blk_cell BK106.out 2).trans rfl
                            have hfz50_0 := blk_frozen BK106.out 0
                            have hfz50_1 := blk_frozen BK106.out 1
                            have hfz50_2 := blk_frozen BK106.out 2
                            go_wp2_with (first | ((with_reducible refine gate_callee (f := 49) rfl ?_); refine goesL_ (some 122) rfl rfl Try.func49 (by kernel_rfl) rfl #[.int .u8 x2_38, .agg #[.int .i64 a3_0, .int .i64 a3_1, .int .i64 a3_2]] rfl (by (try simp only [List.map_toArray, List.map_cons, List.map_nil]); first | done | rfl | (simp only [List.length_drop, List.length_take]; rfl)) ?_; (with_reducible refine (frisketref01_unit.calls x2_38 a3_0 a3_1 a3_2 t111 _ A44.out).mono ?_); rintro e w51 ⟨rfl, hb⟩; refine ⟨_, rfl, ?_⟩; have n0_ := Aside0.mk (blk_below (g := gb106) (o := .cells #[.int .i64 a3_0, .int .i64 a3_1, .int .i64 a3_2] 51 (0, 0)) (by (with_reducible repeat (first | refine blk_drewN ?_ _ | refine blk_drew ?_ | refine blk_alloc ?_ _)); exact BK106.out) hb); have n1_ := Aside0.mk (below_step (by repeat (first | (with_reducible first | exact HB.out | apply below_alloc | apply pw_below_drewN | apply below_drew1 | refine below_set ?_ GE106.out) | exact HB.out)) hb); clear BK106; clear HB; have BK106 := n0_; have HB := n1_; clear n0_ n1_; (try clear hb); (try clear hb2); (try clear hk); (try clear hi)) | ((with_reducible refine gate_callee (f := 40) rfl ?_); refine goesL_ (some 133) rfl rfl Try.func40 (by kernel_rfl) rfl #[.int .i64 (wrap64 ((wrap64 (x11_4 * t111)) + (wrap64 (Int.tdiv (wrap64 (x12_23 * t111)) x13_23))))] rfl (by (try simp only [List.map_toArray, List.map_cons, List.map_nil]); first | done | rfl | (simp only [List.length_drop, List.length_take]; rfl)) ?_; (with_reducible refine (frisketref01_within.calls (wrap64 ((wrap64 (x11_4 * t111)) + (wrap64 (Int.tdiv (wrap64 (x12_23 * t111)) x13_23)))) false _ A46.out).mono ?_); rintro e w' ⟨rfl, ⟨nd, rfl⟩⟩; refine ⟨_, rfl, ?_⟩))
                            go_ret3
                            exact ⟨by first | rfl | (simp [errW_none, errW_some] <;> rfl) | (simp [*, errW_none, errW_some] <;> rfl), by repeat (first | (with_reducible first | exact HB.out | apply below_alloc | apply pw_below_drewN | apply below_drew1 | refine below_set ?_ GE106.out) | exact HB.out)⟩

end Go.Proofs.Ytkomofphgnekoaa.PNumber

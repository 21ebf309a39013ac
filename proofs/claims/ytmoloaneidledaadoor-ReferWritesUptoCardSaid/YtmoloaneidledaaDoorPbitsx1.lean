-- PRINTED BY print.sh 35421559b90ae4d0a3588c463048766b98c2df88dd9212a6774a882060cdf62d: not written by this session
import Derived.Test.YtmoloaneidledaaDoorPbitsx0
namespace Go.Proofs.YtmoloaneidledaaDoor.Pbits
open Go.RowKit Go.Proofs.YtmoloaneidledaaDoorW.PrintWords Go.Proofs.YtmoloaneidledaaDoorW.PrintLast Go.Proofs.YtmoloaneidledaaDoorW.PrintMore
attribute [local go_sem] max2_int min2_int max_two min_two max_three min_three max_four min_four   -- for this text's walks alone
set_option linter.unusedVariables false
set_option linter.unusedSimpArgs false

/-! ### frisketlaw26_bits: function 8 -/
def frisketlaw26_bits.l0 : Nat → List Int → ByteArray → Int → Option (ByteArray)
  | 0, _, _, _ => none
  | k + 1, x0, x3, x4 => if x4 < (x0.length : Int) then ((some (([(⟨#[10]⟩ : ByteArray), (⟨#[10, 10]⟩ : ByteArray), (⟨#[37, 65, 32, 65, 110, 110, 32, 76, 101, 101, 10]⟩ : ByteArray), (⟨#[37, 65, 32, 66, 111, 32, 65, 120, 10]⟩ : ByteArray), (⟨#[37, 84, 32, 79, 110, 32, 84, 121, 112, 101, 10]⟩ : ByteArray), (⟨#[37, 68, 32, 77, 97, 121, 32, 49, 57, 56, 52, 10]⟩ : ByteArray), (⟨#[37, 74, 32, 65, 99, 116, 97, 10]⟩ : ByteArray), (⟨#[37, 73, 32, 80, 114, 101, 115, 115, 10]⟩ : ByteArray), (⟨#[37, 88, 32, 120, 10]⟩ : ByteArray), (⟨#[109, 111, 114, 101, 32, 119, 111, 114, 100, 115, 10]⟩ : ByteArray), (⟨#[37, 97, 10]⟩ : ByteArray), (⟨#[37]⟩ : ByteArray), (⟨#[32]⟩ : ByteArray), (⟨#[46, 91, 10]⟩ : ByteArray), (⟨#[46, 93, 10]⟩ : ByteArray), (⟨#[108, 101, 101, 10]⟩ : ByteArray), (⟨#[116, 121, 112, 10]⟩ : ByteArray), (⟨#[97, 120, 32, 49, 57, 56, 52, 10]⟩ : ByteArray), (⟨#[46, 91, 93, 10]⟩ : ByteArray), (⟨#[116, 101, 120, 116, 10]⟩ : ByteArray), (⟨#[37, 84, 32, 90, 111, 111, 10]⟩ : ByteArray), (⟨#[37, 68, 32, 55, 10]⟩ : ByteArray), (⟨#[122, 111]⟩ : ByteArray), (⟨#[97]⟩ : ByteArray)] : List ByteArray) : List ByteArray)).bind fun y101 => (if 0 ≤ x4 then (if (y101.length : Int) = 0 then (none) else (if 0 ≤ (Int.tmod (wrap64 (rd x0 x4)) (y101.length : Int)) then (if (Int.tmod (wrap64 (rd x0 x4)) (y101.length : Int)) < (y101.length : Int) then (if x3.size + (rdOf ByteArray.empty y101 (Int.tmod (wrap64 (rd x0 x4)) (y101.length : Int))).size ≤ 9223372036854775807 then (frisketlaw26_bits.l0 k x0 (x3 ++ (rdOf ByteArray.empty y101 (Int.tmod (wrap64 (rd x0 x4)) (y101.length : Int)))) (wrap64 (x4 + 1))) else (none)) else (none)) else (none))) else (none))) else (some x3)
def frisketlaw26_bits.f (k : Nat) (l0 : List Int) : Option (ByteArray) := frisketlaw26_bits.l0 k l0 (⟨#[]⟩ : ByteArray) 0
theorem frisketlaw26_bits.mono_l : ∀ k, (∀ y0 y1 y2, LeO (frisketlaw26_bits.l0 k y0 y1 y2) (frisketlaw26_bits.l0 (k + 1) y0 y1 y2))
  | 0 => fun _ _ _ r h => by simp [frisketlaw26_bits.l0] at h
  | k + 1 => by
    have ih0 := frisketlaw26_bits.mono_l k
    · intro y0 y1 y2
      unfold frisketlaw26_bits.l0
      repeat' first
      | (with_reducible exact ih0 _ _ _)
      | (with_reducible exact LeO.refl _)
      | (with_reducible exact LeO.none _)
      | (with_reducible refine LeO.ite ?_ ?_)
      | (with_reducible refine LeO.bind ?_ (fun _ => ?_))
      | exact ih0 _ _ _
      | exact LeO.none _
      | refine LeO.ite ?_ ?_
      | refine LeO.bind ?_ (fun _ => ?_)
theorem frisketlaw26_bits.mono : ∀ a0 k, LeO (frisketlaw26_bits.f k a0) (frisketlaw26_bits.f (k + 1) a0) := by
  intro a0 k
  have ih0 := frisketlaw26_bits.mono_l k
  unfold frisketlaw26_bits.f
  repeat' first
      | (with_reducible exact ih0 _ _ _)
      | (with_reducible exact LeO.refl _)
      | (with_reducible exact LeO.none _)
      | (with_reducible refine LeO.ite ?_ ?_)
      | (with_reducible refine LeO.bind ?_ (fun _ => ?_))
      | exact ih0 _ _ _
      | exact LeO.none _
      | refine LeO.ite ?_ ?_
      | refine LeO.bind ?_ (fun _ => ?_)
set_option maxHeartbeats 8000000 in
set_option maxRecDepth 100000 in
theorem frisketlaw26_bits.calls (k : Nat) (A0 : Option Addr) (c0 : Nat) (l0 : List Int) (r : ByteArray) (w : World) (hr0 : Kd.C (Kd.int .u8) w A0 l0.length l0) (hc0 : l0.length ≤ c0) (h : frisketlaw26_bits.f k l0 = some r) :
    Calls Tryd.prog 8 #[.slice A0 l0.length c0] w fun e w' => e = .returned (.string r) ∧ Below w.heap.size w w' := by
  have HR0 := Aside0.mk hr0
  have HC0 := Aside0.mk hc0
  clear hr0 hc0
  have HB := Aside0.mk (Below.refl w.heap.size w)
  have H : (frisketlaw26_bits.l0 k l0 (⟨#[]⟩ : ByteArray) 0) = some r := h
  clear h
  have H' := Aside0.mk H
  clear H
  go_enter Tryd.func8, Tryd.ntmps8
  go_wp2
  go_loopg [3, 4] k (fun kq v3 v4 w' => ∃ (x3_1 : ByteArray) (x4_1 : Int), v3 = .string x3_1 ∧ v4 = .int .i64 x4_1 ∧ Aside0 (frisketlaw26_bits.l0 kq l0 x3_1 x4_1 = some r) ∧ Aside0 (kq ≤ k) ∧ Aside0 (Below w.heap.size w w'))
  case atStart => exact ⟨((⟨#[]⟩ : ByteArray)), (0), (by first | rfl | (simp; done) | (simp [*]; done)), (by first | rfl | (simp; done) | (simp [*]; done)), H', ⟨Nat.le_refl _⟩, ⟨by repeat (first | (with_reducible first | exact HB.out | apply below_alloc | apply pw_below_drewN | apply below_drew1) | exact HB.out)⟩⟩
  case round =>
    clear H'
    obtain ⟨x3_1, x4_1, rfl, rfl, HA, HK1, HB⟩ := hrel
    cases gk with
    | zero => exact absurd HA.out (by simp [frisketlaw26_bits.l0])
    | succ k1 =>
      have H := HA.out
      clear HA
      simp only [frisketlaw26_bits.l0] at H
      by_cases c2 : x4_1 < (l0.length : Int)
      · rw [if_pos c2] at H
        have c2b0 : decide (x4_1 < (l0.length : Int)) = true := decide_eq_true c2
        clear c2
        obtain ⟨y101, hy101⟩ : ∃ y_ : List ByteArray, y_ = (([(⟨#[10]⟩ : ByteArray), (⟨#[10, 10]⟩ : ByteArray), (⟨#[37, 65, 32, 65, 110, 110, 32, 76, 101, 101, 10]⟩ : ByteArray), (⟨#[37, 65, 32, 66, 111, 32, 65, 120, 10]⟩ : ByteArray), (⟨#[37, 84, 32, 79, 110, 32, 84, 121, 112, 101, 10]⟩ : ByteArray), (⟨#[37, 68, 32, 77, 97, 121, 32, 49, 57, 56, 52, 10]⟩ : ByteArray), (⟨#[37, 74, 32, 65, 99, 116, 97, 10]⟩ : ByteArray), (⟨#[37, 73, 32, 80, 114, 101, 115, 115, 10]⟩ : ByteArray), (⟨#[37, 88, 32, 120, 10]⟩ : ByteArray), (⟨#[109, 111, 114, 101, 32, 119, 111, 114, 100, 115, 10]⟩ : ByteArray), (⟨#[37, 97, 10]⟩ : ByteArray), (⟨#[37]⟩ : ByteArray), (⟨#[32]⟩ : ByteArray), (⟨#[46, 91, 10]⟩ : ByteArray), (⟨#[46, 93, 10]⟩ : ByteArray), (⟨#[108, 101, 101, 10]⟩ : ByteArray), (⟨#[116, 121, 112, 10]⟩ : ByteArray), (⟨#[97, 120, 32, 49, 57, 56, 52, 10]⟩ : ByteArray), (⟨#[46, 91, 93, 10]⟩ : ByteArray), (⟨#[116, 101, 120, 116, 10]⟩ : ByteArray), (⟨#[37, 84, 32, 90, 111, 111, 10]⟩ : ByteArray), (⟨#[37, 68, 32, 55, 10]⟩ : ByteArray), (⟨#[122, 111]⟩ : ByteArray), (⟨#[97]⟩ : ByteArray)] : List ByteArray)) := ⟨_, rfl⟩
        replace H : (if 0 ≤ x4_1 then (if (y101.length : Int) = 0 then (none) else (if 0 ≤ (Int.tmod (wrap64 (rd l0 x4_1)) (y101.length : Int)) then (if (Int.tmod (wrap64 (rd l0 x4_1)) (y101.length : Int)) < (y101.length : Int) then (if x3_1.size + (rdOf ByteArray.empty y101 (Int.tmod (wrap64 (rd l0 x4_1)) (y101.length : Int))).size ≤ 9223372036854775807 then (frisketlaw26_bits.l0 k1 l0 (x3_1 ++ (rdOf ByteArray.empty y101 (Int.tmod (wrap64 (rd l0 x4_1)) (y101.length : Int)))) (wrap64 (x4_1 + 1))) else (none)) else (none)) else (none))) else (none)) = some r := by first | (rw [hy101]; with_reducible exact H) | (have H2_ := (Option.bind_some _ _).symm.trans H; rw [hy101]; with_reducible exact H2_) | (have H2_ := (Option.bind_some _ _).symm.trans H; with_reducible exact H2_) | with_reducible exact H | (rw [hy101]; exact H) | exact H
        have Ny101 := Aside0.mk hy101
        clear hy101
        by_cases c3 : 0 ≤ x4_1
        · rw [if_pos c3] at H
          have c3b0 : decide (0 ≤ x4_1) = true := decide_eq_true c3
          clear c3
          by_cases c4 : (y101.length : Int) = 0
          · rw [if_pos c4] at H
            exact absurd H (by simp)
          · rw [if_neg c4] at H
            have c4b0 : ((y101.length : Int) == 0) = false := beq_eq_false_iff_ne.mpr c4
            have c4b1 : ((y101.length : Int) != 0) = true := bne_iff_ne.mpr c4
            have c4b2 : ¬ (y101 = []) := fun h_ => c4 (by rw [h_]; rfl)
            obtain ⟨ji5, hji5⟩ : ∃ j_ : Int, (Int.tmod (wrap64 (rd l0 x4_1)) (y101.length : Int)) = j_ := ⟨_, rfl⟩
            replace H : (if 0 ≤ (ji5) then (if (ji5) < (y101.length : Int) then (if x3_1.size + (rdOf ByteArray.empty y101 (ji5)).size ≤ 9223372036854775807 then (frisketlaw26_bits.l0 k1 l0 (x3_1 ++ (rdOf ByteArray.empty y101 (ji5))) (wrap64 (x4_1 + 1))) else (none)) else (none)) else (none)) = some r := by first | (rw [hji5] at H; exact H) | (simp only [hji5] at H ⊢; exact H)
            by_cases c6 : 0 ≤ (ji5)
            · rw [if_pos c6] at H
              have c6b0 : decide (0 ≤ (ji5)) = true := decide_eq_true c6
              clear c6
              by_cases c7 : (ji5) < (y101.length : Int)
              · rw [if_pos c7] at H
                have c7b0 : decide ((ji5) < (y101.length : Int)) = true := decide_eq_true c7
                clear c7
                by_cases c8 : x3_1.size + (rdOf ByteArray.empty y101 (ji5)).size ≤ 9223372036854775807
                · rw [if_pos c8] at H
                  have c8b0 := eq_true c8
                  have c8b1 : decide (x3_1.size + (rdOf ByteArray.empty y101 (ji5)).size ≤ 9223372036854775807) = true := decide_eq_true c8
                  try have c8b2 : (9223372036854775807 < x3_1.size + (rdOf ByteArray.empty y101 (ji5)).size) = False := eq_false (Nat.not_lt.2 c8)
                  have H' := Aside0.mk H
                  clear H
                  go_wp2_with (first | ((with_reducible refine gate_dst (N := 12) rfl ?_); refine Kd.R_lit Kd.string _ 9 ?hg (N := 12) ?hd (xs := ([(⟨#[10]⟩ : ByteArray), (⟨#[10, 10]⟩ : ByteArray), (⟨#[37, 65, 32, 65, 110, 110, 32, 76, 101, 101, 10]⟩ : ByteArray), (⟨#[37, 65, 32, 66, 111, 32, 65, 120, 10]⟩ : ByteArray), (⟨#[37, 84, 32, 79, 110, 32, 84, 121, 112, 101, 10]⟩ : ByteArray), (⟨#[37, 68, 32, 77, 97, 121, 32, 49, 57, 56, 52, 10]⟩ : ByteArray), (⟨#[37, 74, 32, 65, 99, 116, 97, 10]⟩ : ByteArray), (⟨#[37, 73, 32, 80, 114, 101, 115, 115, 10]⟩ : ByteArray), (⟨#[37, 88, 32, 120, 10]⟩ : ByteArray), (⟨#[109, 111, 114, 101, 32, 119, 111, 114, 100, 115, 10]⟩ : ByteArray), (⟨#[37, 97, 10]⟩ : ByteArray), (⟨#[37]⟩ : ByteArray), (⟨#[32]⟩ : ByteArray), (⟨#[46, 91, 10]⟩ : ByteArray), (⟨#[46, 93, 10]⟩ : ByteArray), (⟨#[108, 101, 101, 10]⟩ : ByteArray), (⟨#[116, 121, 112, 10]⟩ : ByteArray), (⟨#[97, 120, 32, 49, 57, 56, 52, 10]⟩ : ByteArray), (⟨#[46, 91, 93, 10]⟩ : ByteArray), (⟨#[116, 101, 120, 116, 10]⟩ : ByteArray), (⟨#[37, 84, 32, 90, 111, 111, 10]⟩ : ByteArray), (⟨#[37, 68, 32, 55, 10]⟩ : ByteArray), (⟨#[122, 111]⟩ : ByteArray), (⟨#[97]⟩ : ByteArray)] : List ByteArray)) (inner := [.string (⟨#[10]⟩ : ByteArray), .string (⟨#[10, 10]⟩ : ByteArray), .string (⟨#[37, 65, 32, 65, 110, 110, 32, 76, 101, 101, 10]⟩ : ByteArray), .string (⟨#[37, 65, 32, 66, 111, 32, 65, 120, 10]⟩ : ByteArray), .string (⟨#[37, 84, 32, 79, 110, 32, 84, 121, 112, 101, 10]⟩ : ByteArray), .string (⟨#[37, 68, 32, 77, 97, 121, 32, 49, 57, 56, 52, 10]⟩ : ByteArray), .string (⟨#[37, 74, 32, 65, 99, 116, 97, 10]⟩ : ByteArray), .string (⟨#[37, 73, 32, 80, 114, 101, 115, 115, 10]⟩ : ByteArray), .string (⟨#[37, 88, 32, 120, 10]⟩ : ByteArray), .string (⟨#[109, 111, 114, 101, 32, 119, 111, 114, 100, 115, 10]⟩ : ByteArray), .string (⟨#[37, 97, 10]⟩ : ByteArray), .string (⟨#[37]⟩ : ByteArray), .string (⟨#[32]⟩ : ByteArray), .string (⟨#[46, 91, 10]⟩ : ByteArray), .string (⟨#[46, 93, 10]⟩ : ByteArray), .string (⟨#[108, 101, 101, 10]⟩ : ByteArray), .string (⟨#[116, 121, 112, 10]⟩ : ByteArray), .string (⟨#[97, 120, 32, 49, 57, 56, 52, 10]⟩ : ByteArray), .string (⟨#[46, 91, 93, 10]⟩ : ByteArray), .string (⟨#[116, 101, 120, 116, 10]⟩ : ByteArray), .string (⟨#[37, 84, 32, 90, 111, 111, 10]⟩ : ByteArray), .string (⟨#[37, 68, 32, 55, 10]⟩ : ByteArray), .string (⟨#[122, 111]⟩ : ByteArray), .string (⟨#[97]⟩ : ByteArray)]) (ok := fun _ => True) (okp := fun _ => True) ?hr ?hp (fun _ hk => hk) trivial (Below.refl _ _) (Nat.le_refl _) (by simp) ?_; (case hd => rfl); (case hg => rfl); (case hr => first | (go_simp; done) | (go_simp; rfl)); (case hp => exact (Reps.one (show Kd.M Kd.string _ _ _ (⟨#[10]⟩ : ByteArray) [.string (⟨#[10]⟩ : ByteArray)] from rfl) (Reps.one (show Kd.M Kd.string _ _ _ (⟨#[10, 10]⟩ : ByteArray) [.string (⟨#[10, 10]⟩ : ByteArray)] from rfl) (Reps.one (show Kd.M Kd.string _ _ _ (⟨#[37, 65, 32, 65, 110, 110, 32, 76, 101, 101, 10]⟩ : ByteArray) [.string (⟨#[37, 65, 32, 65, 110, 110, 32, 76, 101, 101, 10]⟩ : ByteArray)] from rfl) (Reps.one (show Kd.M Kd.string _ _ _ (⟨#[37, 65, 32, 66, 111, 32, 65, 120, 10]⟩ : ByteArray) [.string (⟨#[37, 65, 32, 66, 111, 32, 65, 120, 10]⟩ : ByteArray)] from rfl) (Reps.one (show Kd.M Kd.string _ _ _ (⟨#[37, 84, 32, 79, 110, 32, 84, 121, 112, 101, 10]⟩ : ByteArray) [.string (⟨#[37, 84, 32, 79, 110, 32, 84, 121, 112, 101, 10]⟩ : ByteArray)] from rfl) (Reps.one (show Kd.M Kd.string _ _ _ (⟨#[37, 68, 32, 77, 97, 121, 32, 49, 57, 56, 52, 10]⟩ : ByteArray) [.string (⟨#[37, 68, 32, 77, 97, 121, 32, 49, 57, 56, 52, 10]⟩ : ByteArray)] from rfl) (Reps.one (show Kd.M Kd.string _ _ _ (⟨#[37, 74, 32, 65, 99, 116, 97, 10]⟩ : ByteArray) [.string (⟨#[37, 74, 32, 65, 99, 116, 97, 10]⟩ : ByteArray)] from rfl) (Reps.one (show Kd.M Kd.string _ _ _ (⟨#[37, 73, 32, 80, 114, 101, 115, 115, 10]⟩ : ByteArray) [.string (⟨#[37, 73, 32, 80, 114, 101, 115, 115, 10]⟩ : ByteArray)] from rfl) (Reps.one (show Kd.M Kd.string _ _ _ (⟨#[37, 88, 32, 120, 10]⟩ : ByteArray) [.string (⟨#[37, 88, 32, 120, 10]⟩ : ByteArray)] from rfl) (Reps.one (show Kd.M Kd.string _ _ _ (⟨#[109, 111, 114, 101, 32, 119, 111, 114, 100, 115, 10]⟩ : ByteArray) [.string (⟨#[109, 111, 114, 101, 32, 119, 111, 114, 100, 115, 10]⟩ : ByteArray)] from rfl) (Reps.one (show Kd.M Kd.string _ _ _ (⟨#[37, 97, 10]⟩ : ByteArray) [.string (⟨#[37, 97, 10]⟩ : ByteArray)] from rfl) (Reps.one (show Kd.M Kd.string _ _ _ (⟨#[37]⟩ : ByteArray) [.string (⟨#[37]⟩ : ByteArray)] from rfl) (Reps.one (show Kd.M Kd.string _ _ _ (⟨#[32]⟩ : ByteArray) [.string (⟨#[32]⟩ : ByteArray)] from rfl) (Reps.one (show Kd.M Kd.string _ _ _ (⟨#[46, 91, 10]⟩ : ByteArray) [.string (⟨#[46, 91, 10]⟩ : ByteArray)] from rfl) (Reps.one (show Kd.M Kd.string _ _ _ (⟨#[46, 93, 10]⟩ : ByteArray) [.string (⟨#[46, 93, 10]⟩ : ByteArray)] from rfl) (Reps.one (show Kd.M Kd.string _ _ _ (⟨#[108, 101, 101, 10]⟩ : ByteArray) [.string (⟨#[108, 101, 101, 10]⟩ : ByteArray)] from rfl) (Reps.one (show Kd.M Kd.string _ _ _ (⟨#[116, 121, 112, 10]⟩ : ByteArray) [.string (⟨#[116, 121, 112, 10]⟩ : ByteArray)] from rfl) (Reps.one (show Kd.M Kd.string _ _ _ (⟨#[97, 120, 32, 49, 57, 56, 52, 10]⟩ : ByteArray) [.string (⟨#[97, 120, 32, 49, 57, 56, 52, 10]⟩ : ByteArray)] from rfl) (Reps.one (show Kd.M Kd.string _ _ _ (⟨#[46, 91, 93, 10]⟩ : ByteArray) [.string (⟨#[46, 91, 93, 10]⟩ : ByteArray)] from rfl) (Reps.one (show Kd.M Kd.string _ _ _ (⟨#[116, 101, 120, 116, 10]⟩ : ByteArray) [.string (⟨#[116, 101, 120, 116, 10]⟩ : ByteArray)] from rfl) (Reps.one (show Kd.M Kd.string _ _ _ (⟨#[37, 84, 32, 90, 111, 111, 10]⟩ : ByteArray) [.string (⟨#[37, 84, 32, 90, 111, 111, 10]⟩ : ByteArray)] from rfl) (Reps.one (show Kd.M Kd.string _ _ _ (⟨#[37, 68, 32, 55, 10]⟩ : ByteArray) [.string (⟨#[37, 68, 32, 55, 10]⟩ : ByteArray)] from rfl) (Reps.one (show Kd.M Kd.string _ _ _ (⟨#[122, 111]⟩ : ByteArray) [.string (⟨#[122, 111]⟩ : ByteArray)] from rfl) (Reps.one (show Kd.M Kd.string _ _ _ (⟨#[97]⟩ : ByteArray) [.string (⟨#[97]⟩ : ByteArray)] from rfl) (Reps.none _ _)))))))))))))))))))))))))); intro v102 w9 ho10 hb hg_ hnew_; clear hg_ hnew_; (first | rw [← Ny101.out] at ho10 | (simp only [Int.reduceToNat] at ho10; rw [← Ny101.out] at ho10)); have n0_ := Aside0.mk (Kd.R_lower ho10 (below_size (by repeat (first | (with_reducible first | exact HB.out | apply below_alloc | apply pw_below_drewN | apply below_drew1) | exact HB.out)))); have n1_ := Aside0.mk (below_step (by repeat (first | (with_reducible first | exact HB.out | apply below_alloc | apply pw_below_drewN | apply below_drew1) | exact HB.out)) hb); clear HB; have HO103 := n0_; have HB := n1_; clear n0_ n1_; clear hb ho10; have p104 : 0 ≤ (x4_1 : Int) := of_decide_eq_true (by first | (with_reducible assumption) | assumption); have q104 : x4_1 < (l0.length : Int) := of_decide_eq_true (by first | (with_reducible assumption) | assumption); obtain ⟨ad104, e104, hx104_0⟩ := Kd.at_int HR0.out x4_1 p104 q104; cases e104; replace hx104_0 := (HB.out.cell (World.block_lt_of_cell? w _ hx104_0)).trans hx104_0; replace p104 := eq_true p104; replace q104 := eq_true q104; obtain ⟨Ao11, co11, eo11⟩ := Kd.R_slice HO103.out; subst eo11; have p105 : 0 ≤ ((ji5) : Int) := of_decide_eq_true (by first | (with_reducible assumption) | assumption); have q105 : (ji5) < (y101.length : Int) := of_decide_eq_true (by first | (with_reducible assumption) | assumption); obtain ⟨ad105, e105, hx105_0⟩ := Kd.at_string (Kd.R_reads' HO103.out).2.2 (ji5) p105 q105; cases e105; replace p105 := eq_true p105; replace q105 := eq_true q105))
                  go_roundg k1
                  case measure => have := HK1.out; omega
                  case rel => exact ⟨(x3_1 ++ (rdOf ByteArray.empty y101 (ji5))), (wrap64 (x4_1 + 1)), (by first | rfl | (simp; done) | (simp only [← hji5] <;> (first | rfl | simp)) | (simp [*]; done)), (by first | rfl | (simp; done) | (simp [*]; done)), H', ⟨by have := HK1.out; omega⟩, ⟨by repeat (first | (with_reducible first | exact HB.out | apply below_alloc | apply pw_below_drewN | apply below_drew1) | exact HB.out)⟩⟩
                · rw [if_neg c8] at H
                  exact absurd H (by simp)
              · rw [if_neg c7] at H
                exact absurd H (by simp)
            · rw [if_neg c6] at H
              exact absurd H (by simp)
        · rw [if_neg c3] at H
          exact absurd H (by simp)
      · rw [if_neg c2] at H
        have c2b0 : decide (x4_1 < (l0.length : Int)) = false := decide_eq_false c2
        clear c2
        obtain rfl := Option.some.inj H
        go_wp2
        go_ret
        exact ⟨by first | rfl | (simp [errW_none, errW_some] <;> rfl) | (simp [*, errW_none, errW_some] <;> rfl), by repeat (first | (with_reducible first | exact HB.out | apply below_alloc | apply pw_below_drewN | apply below_drew1) | exact HB.out)⟩

end Go.Proofs.YtmoloaneidledaaDoor.Pbits

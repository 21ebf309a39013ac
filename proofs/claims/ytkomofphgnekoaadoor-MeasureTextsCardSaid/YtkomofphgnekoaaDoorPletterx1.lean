-- PRINTED BY print.sh 35421559b90ae4d0a3588c463048766b98c2df88dd9212a6774a882060cdf62d: not written by this session
import Derived.Test.YtkomofphgnekoaaDoorPletterx0
namespace Go.Proofs.YtkomofphgnekoaaDoor.Pletter
open Go.RowKit Go.Proofs.YtkomofphgnekoaaDoorW.PrintWords Go.Proofs.YtkomofphgnekoaaDoorW.PrintLast Go.Proofs.YtkomofphgnekoaaDoorW.PrintMore
attribute [local go_sem] max2_int min2_int max_two min_two max_three min_three max_four min_four   -- for this text's walks alone
set_option linter.unusedVariables false
set_option linter.unusedSimpArgs false

/-! ### frisketlaw01_letter: function 8 -/
def frisketlaw01_letter.f (a0 : Int) : Option (Int) := if a0 ≥ 0 then (if a0 < 256 then (some ((a0) % 256)) else (if 0 ≤ (Int.tmod (IntKind.u64.wrap (a0)) 8) then (if (Int.tmod (IntKind.u64.wrap (a0)) 8) < 8 then (some (bt (⟨#[117, 112, 80, 105, 99, 109, 110, 118]⟩ : ByteArray) (Int.tmod (IntKind.u64.wrap (a0)) 8))) else (none)) else (none))) else (if 0 ≤ (Int.tmod (IntKind.u64.wrap (a0)) 8) then (if (Int.tmod (IntKind.u64.wrap (a0)) 8) < 8 then (some (bt (⟨#[117, 112, 80, 105, 99, 109, 110, 118]⟩ : ByteArray) (Int.tmod (IntKind.u64.wrap (a0)) 8))) else (none)) else (none))
set_option maxHeartbeats 8000000 in
set_option maxRecDepth 100000 in
theorem frisketlaw01_letter.calls (a0 : Int) (r : Int) (w : World) (h : frisketlaw01_letter.f a0 = some r) :
    Calls Tryd.prog 8 #[.int .i64 a0] w fun e w' => e = .returned (.int .u8 r) ∧ Drawn0 w w' := by
  have H : (if a0 ≥ 0 then (if a0 < 256 then (some ((a0) % 256)) else (if 0 ≤ (Int.tmod (IntKind.u64.wrap (a0)) 8) then (if (Int.tmod (IntKind.u64.wrap (a0)) 8) < 8 then (some (bt (⟨#[117, 112, 80, 105, 99, 109, 110, 118]⟩ : ByteArray) (Int.tmod (IntKind.u64.wrap (a0)) 8))) else (none)) else (none))) else (if 0 ≤ (Int.tmod (IntKind.u64.wrap (a0)) 8) then (if (Int.tmod (IntKind.u64.wrap (a0)) 8) < 8 then (some (bt (⟨#[117, 112, 80, 105, 99, 109, 110, 118]⟩ : ByteArray) (Int.tmod (IntKind.u64.wrap (a0)) 8))) else (none)) else (none))) = some r := h
  clear h
  by_cases c2 : a0 ≥ 0
  · rw [if_pos c2] at H
    have c2b0 : decide (0 ≤ a0) = true := decide_eq_true c2
    clear c2
    by_cases c3 : a0 < 256
    · rw [if_pos c3] at H
      have c3b0 : decide (a0 < 256) = true := decide_eq_true c3
      clear c3
      obtain rfl := Option.some.inj H
      go_enter Tryd.func8, Tryd.ntmps8
      go_wp2
      go_ret
      exact ⟨by first | rfl | (simp; done) | (simp [*]; done), by repeat (first | exact Drawn0.refl _ | apply Drawn0.step)⟩
    · rw [if_neg c3] at H
      have c3b0 : decide (a0 < 256) = false := decide_eq_false c3
      clear c3
      obtain ⟨ji4, hji4⟩ : ∃ j_ : Int, (Int.tmod (IntKind.u64.wrap (a0)) 8) = j_ := ⟨_, rfl⟩
      replace H : (if 0 ≤ (ji4) then (if (ji4) < 8 then (some (bt (⟨#[117, 112, 80, 105, 99, 109, 110, 118]⟩ : ByteArray) (ji4))) else (none)) else (none)) = some r := by first | (rw [hji4] at H; exact H) | (simp only [hji4] at H ⊢; exact H)
      by_cases c5 : 0 ≤ (ji4)
      · rw [if_pos c5] at H
        have c5b0 : decide (0 ≤ (ji4)) = true := decide_eq_true c5
        clear c5
        by_cases c6 : (ji4) < 8
        · rw [if_pos c6] at H
          have c6b0 : decide ((ji4) < 8) = true := decide_eq_true c6
          clear c6
          obtain rfl := Option.some.inj H
          have p7 : 0 ≤ ((ji4) : Int) := of_decide_eq_true (by first | (with_reducible assumption) | assumption)
          have q7 : (ji4) < (8 : Int) := of_decide_eq_true (by first | (with_reducible assumption) | assumption)
          have hx7 := bt_at (⟨#[117, 112, 80, 105, 99, 109, 110, 118]⟩ : ByteArray) (ji4)
          replace p7 := eq_true p7
          replace q7 := eq_true q7
          go_enter Tryd.func8, Tryd.ntmps8
          go_wp2
          go_ret
          exact ⟨by first | rfl | (simp; done) | (simp only [← hji4] <;> (first | rfl | simp)) | (simp [*]; done), by repeat (first | exact Drawn0.refl _ | apply Drawn0.step)⟩
        · rw [if_neg c6] at H
          exact absurd H (by simp)
      · rw [if_neg c5] at H
        exact absurd H (by simp)
  · rw [if_neg c2] at H
    have c2b0 : decide (0 ≤ a0) = false := decide_eq_false c2
    clear c2
    obtain ⟨ji8, hji8⟩ : ∃ j_ : Int, (Int.tmod (IntKind.u64.wrap (a0)) 8) = j_ := ⟨_, rfl⟩
    replace H : (if 0 ≤ (ji8) then (if (ji8) < 8 then (some (bt (⟨#[117, 112, 80, 105, 99, 109, 110, 118]⟩ : ByteArray) (ji8))) else (none)) else (none)) = some r := by first | (rw [hji8] at H; exact H) | (simp only [hji8] at H ⊢; exact H)
    by_cases c9 : 0 ≤ (ji8)
    · rw [if_pos c9] at H
      have c9b0 : decide (0 ≤ (ji8)) = true := decide_eq_true c9
      clear c9
      by_cases c10 : (ji8) < 8
      · rw [if_pos c10] at H
        have c10b0 : decide ((ji8) < 8) = true := decide_eq_true c10
        clear c10
        obtain rfl := Option.some.inj H
        have p11 : 0 ≤ ((ji8) : Int) := of_decide_eq_true (by first | (with_reducible assumption) | assumption)
        have q11 : (ji8) < (8 : Int) := of_decide_eq_true (by first | (with_reducible assumption) | assumption)
        have hx11 := bt_at (⟨#[117, 112, 80, 105, 99, 109, 110, 118]⟩ : ByteArray) (ji8)
        replace p11 := eq_true p11
        replace q11 := eq_true q11
        go_enter Tryd.func8, Tryd.ntmps8
        go_wp2
        go_ret
        exact ⟨by first | rfl | (simp; done) | (simp only [← hji8] <;> (first | rfl | simp)) | (simp [*]; done), by repeat (first | exact Drawn0.refl _ | apply Drawn0.step)⟩
      · rw [if_neg c10] at H
        exact absurd H (by simp)
    · rw [if_neg c9] at H
      exact absurd H (by simp)

end Go.Proofs.YtkomofphgnekoaaDoor.Pletter

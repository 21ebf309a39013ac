/- Walks of layer 21: strings.IndexRune in a line feed and a backslash, of runes that are no ASCII. -/
import Derived.WalkMore
import Derived.ScopeJumps
import Derived.Test.YtnmlpeblbppjbaaP21X
set_option linter.unusedVariables false
set_option linter.unusedSimpArgs false
namespace Go.Proofs.Ytnmlpeblbppjbaa
open Go.Shelf Go.RowKit Go.Lib Go.Aids Go.MapLit Go.Proofs.YtnmlpeblbppjbaaW.PrintWords

set_option maxRecDepth 100000 in
set_option maxHeartbeats 2000000 in
theorem irune_err (w : World) :
    Calls Try.prog 24 #[.string ⟨#[10, 92]⟩, .int .i32 65533] w fun e w' => e = .returned (.int .i64 (-1)) ∧ ∃ pos, w' = w.iter ⟨#[10, 92]⟩ pos := by
  go_enter Try.func24, Try.ntmps24
  go_wp2
  go_loopg [5, 6] 2 (fun g _ _ wx => ∃ i : Nat, i + g = 2 ∧ wx = w.iter ⟨#[10, 92]⟩ i)
  case atStart => exact ⟨0, rfl, rfl⟩
  case round =>
    obtain ⟨i, hig, rfl⟩ := hrel
    have h3 : (i = 2 ∧ gk = 0) ∨ (i = 1 ∧ gk = 1) ∨ (i = 0 ∧ gk = 2) := by omega
    rcases h3 with ⟨rfl, rfl⟩ | ⟨rfl, rfl⟩ | ⟨rfl, rfl⟩
    · have hnx := run_next_end (P := Try.prog) w ⟨#[10, 92]⟩ 2
      go_wp2
      go_ret
      exact ⟨rfl, _, rfl⟩
    · have hnx := fun ty => run_next_ascii (P := Try.prog) w ⟨#[10, 92]⟩ 1 ty (by decide) (by decide)
      go_wp2
      go_roundg 0
      case measure => omega
      case rel => exact ⟨2, rfl, rfl⟩
    · have hnx := fun ty => run_next_ascii (P := Try.prog) w ⟨#[10, 92]⟩ 0 ty (by decide) (by decide)
      go_wp2
      go_roundg 1
      case measure => omega
      case rel => exact ⟨1, rfl, rfl⟩
theorem run_from {P : Program} (t : TypeId) (ht : P.underlying t = some .string) (s : ByteArray) (k : IntKind) (i : Nat) (h2 : i ≤ s.size) (W : World) :
    (Instr.slice t (.string s) (some (.int k (i : Int))) none none).run P W = .ok (.string (s.extract i s.size)) W := by
  have e1 := run_sliceBound (P := P) (w := W) k (i : Int) s.size .sliceB (by omega) (by omega)
  simp [Instr.slice, run_underlying ht, Instr.sliceBounds, e1, Result.andThen]
theorem cut_two (W : World) : (Instr.slice 9 (.string ⟨#[10, 92]⟩) (some (.int .i64 2)) none none).run Try.prog W = .ok (.string ⟨#[]⟩) W :=
  run_from (P := Try.prog) 9 Try.underlying9 ⟨#[10, 92]⟩ .i64 2 (by decide) W
theorem below_dr {w W : World} {base n : Nat} (hb : Below base w W) : Below base w (W.drewN n) := ⟨hb.os, hb.tape, hb.output, hb.size, hb.block⟩
theorem enc_two (r : Nat) (h1 : 128 ≤ r) (h2 : r < 2048) : ∃ x y : UInt8, Utf8.encode (r : Int) = ⟨#[x, y]⟩ ∧ 128 ≤ y.toNat := by
  have hv : Utf8.valid (r : Int) = true := by unfold Utf8.valid; simp; omega
  refine ⟨UInt8.ofNat (0xC0 + r / 64), UInt8.ofNat (0x80 + r % 64), ?_, ?_⟩
  · unfold Utf8.encode
    simp only [hv, if_true]
    rw [show ((r : Int)).toNat = r by omega, if_neg (by omega), if_pos (by omega)]
  · rw [UInt8.toNat_ofNat']; omega
theorem encode_size_le' (T : ByteArray) (r : Nat) (h : Utf8.encode (r : Int) = T) : T.size ≤ 4 := by rw [← h]; exact encode_size_le _
theorem enc_more (r : Nat) (h1 : 2048 ≤ r) : 2 < (Utf8.encode (r : Int)).size := by
  unfold Utf8.encode
  simp only
  have hc : 2048 ≤ (if Utf8.valid (r : Int) = true then ((r : Int)).toNat else Utf8.runeError) := by
    split
    · omega
    · decide
  generalize (if Utf8.valid (r : Int) = true then ((r : Int)).toNat else Utf8.runeError) = c at hc
  rw [if_neg (by omega), if_neg (by omega)]
  split
  · show 2 < 3; decide
  · show 2 < 4; decide
set_option maxRecDepth 100000 in
set_option maxHeartbeats 2000000 in
theorem irune_high (r : Nat) (w : World) (h1 : 128 ≤ r) (h2 : r ≤ 1114111) (h3 : r ≠ 65533) :
    Calls Try.prog 24 #[.string ⟨#[10, 92]⟩, .int .i32 r] w fun e w' => e = .returned (.int .i64 (-1)) ∧ Below w.heap.size w w' := by
  have HV := Lib.hid (fun W => Try.utf8_ValidRune (r : Int) W)
  have d0 : decide ((0 : Int) ≤ r) = true := decide_eq_true (by omega)
  have d1 : decide ((r : Int) < 128) = false := decide_eq_false (by omega)
  have e1 : ((r : Int) == 65533) = false := by rw [beq_eq_false_iff_ne]; omega
  rcases hv : Lib.validRune (r : Int) with _ | _
  · rw [hv] at HV
    clear hv
    go_enter Try.func24, Try.ntmps24
    go_wp2_with (go_at_call 31; refine (HV.out _).mono ?_; rintro e w1 ⟨rfl, hw1⟩; subst hw1)
    go_ret
    exact ⟨rfl, Below.refl _ _⟩
  · rw [hv] at HV
    clear hv
    by_cases h4 : 2048 ≤ r
    · have hz := enc_more r h4
      obtain ⟨T, hT⟩ : ∃ T, Utf8.encode (r : Int) = T := ⟨_, rfl⟩
      have hT2 : Utf8.encode (wrap32 (r : Int)) = T := by rw [show wrap32 (r : Int) = r by unfold wrap32; omega]; exact hT
      rw [hT] at hz
      have dz : decide ((T.size : Int) - 1 < 2) = false := decide_eq_false (by omega)
      have hzz := encode_size_le' T r hT
      have hw : IntKind.i64.wrap ((T.size : Int) - 1) = (T.size : Int) - 1 := IntWalk.i64_in _ (by omega)
      go_enter Try.func24, Try.ntmps24
      go_wp2_with (go_at_call 31; refine (HV.out _).mono ?_; rintro e w1 ⟨rfl, hw1⟩; subst hw1)
      go_step3
      go_wp2
      go_loopw [9] (fun i wr => wr = w1 ∧ i = .int .i64 ((T.size : Int) - 1)) (fun _ _ => 0)
      case atStart => exact ⟨rfl, rfl⟩
      case round =>
        obtain ⟨rfl, rfl⟩ := hrel
        go_wp2
        rw [Exit.noGoto_ret]
        go_ret
        exact ⟨rfl, Below.refl _ _⟩
    · obtain ⟨x, y, hT, hy⟩ := enc_two r h1 (by omega)
      have hT2 : Utf8.encode (wrap32 (r : Int)) = ⟨#[x, y]⟩ := by rw [show wrap32 (r : Int) = r by unfold wrap32; omega]; exact hT
      have hw2 : IntKind.i64.wrap 2 = 2 := by decide
      have hcut := fun W => cut_two W
      have HI : Hid (∀ c W, Calls Try.prog 30 #[.string ⟨#[]⟩, .int .u8 c] W fun e w' => e = .returned (.int .i64 (-1)) ∧ ∃ n, w' = W.drewN n) := Lib.hid fun c W => by
        refine (Try.strings_IndexByte ⟨#[]⟩ c W).mono ?_
        rintro e w' ⟨rfl, rfl⟩
        exact ⟨rfl, 0, rfl⟩
      go_enter Try.func24, Try.ntmps24
      go_wp2_with (go_at_call 31; refine (HV.out _).mono ?_; rintro e w1 ⟨rfl, hw1⟩; subst hw1)
      go_step3
      go_wp2
      have n1 : ((((⟨#[10, 92]⟩ : ByteArray)[1]'(by decide)).toNat : Int) != (((⟨#[x, y]⟩ : ByteArray)[1]'(by show 1 < 2; decide)).toNat : Int)) = true := by
        show (((92 : Nat) : Int) != (y.toNat : Int)) = true
        rw [bne_iff_ne]; omega
      have n2 : ((92 : Int) != (y.toNat : Int)) = true := by rw [bne_iff_ne]; omega
      go_loopw [9] (fun i wr => wr = w1 ∧ i = .int .i64 1) (fun _ _ => 0)
      case atStart => exact ⟨rfl, rfl⟩
      case round =>
        obtain ⟨rfl, rfl⟩ := hrel
        go_wp2
        go_step3
        go_wp2
        go_quiet (fail)
        go_wp2
        generalize hW : World.drewN _ _ = W7
        have HB : Below wr.heap.size wr W7 := by rw [← hW]; exact below_dr (Below.refl _ _)
        clear hW
        go_quiet ((go_at_call 30; exact Calls.quiet_of (HI.out _ _)))
        go_wp2
        rw [Exit.noGoto_ret]
        go_wp2
        rw [Exit.noGoto_ret]
        go_ret
        exact ⟨rfl, below_dr HB⟩
end Go.Proofs.Ytnmlpeblbppjbaa

/- Walks of layer 12: glyph.Valid: a stroke; a box of no kind; any box. -/
import Derived.Test.YtmmfojaeahcohaaT12C
import Derived.Test.YtmmfojaeahcohaaT12D
import Derived.Test.YtmmfojaeahcohaaT12D0
import Derived.Test.YtmmfojaeahcohaaT12D1
import Derived.Test.YtmmfojaeahcohaaT12D2
import Derived.Test.YtmmfojaeahcohaaT12D3
import Derived.Test.YtmmfojaeahcohaaT12D5
import Derived.Test.YtmmfojaeahcohaaT12D6
import Derived.Test.YtmmfojaeahcohaaOpens
set_option linter.unusedVariables false
set_option linter.unusedSimpArgs false
namespace Go.Proofs.Ytmmfojaeahcohaa
open Go.Shelf Go.RowKit Go.Lib Go.Aids Go.Opens Go.Proofs.YtmmfojaeahcohaaW.PrintWords

abbrev kI : Kd Int := Kd.int .i64
theorem ints_at {w : World} {A : Option Addr} {l : List Int} (h : kI.C w A l.length l) (hn : 0 < l.length) : ∃ b off, A = some ⟨b, off, none⟩ ∧ b < w.heap.size ∧
    ∀ k (hk : k < l.length), w.cell? ⟨b, off + k, none⟩ = some (.int .i64 l[k]) := by
  obtain ⟨b, off, hA, hb, hc⟩ := C_at h (by show 0 < 1; omega) hn
  refine ⟨b, off, hA, hb, fun i hi => ?_⟩
  obtain ⟨c, _, hk, hcell⟩ := hc i hi
  have e : c = [.int .i64 l[i]] := hk
  subst e
  have := hcell 0 _ rfl
  rw [show kI.sz = 1 from rfl, Nat.mul_one] at this
  exact this
theorem stroke_is (c : UInt8) : decide (0 ≤ Lib.indexByte (⟨#[108, 99, 101, 97, 126]⟩ : ByteArray).data.toList c) = strokeB ⟨#[c]⟩ := by
  have : ∀ c : UInt8, decide (0 ≤ Lib.indexByte [108, 99, 101, 97, 126] c) = (decide (c.toNat = 108) || (decide (c.toNat = 99) || (decide (c.toNat = 101) || (decide (c.toNat = 97) || decide (c.toNat = 126))))) := by
    intro c
    have h := c.toNat_lt
    obtain ⟨n, hn⟩ : ∃ n, c.toNat = n := ⟨_, rfl⟩
    have e : c = UInt8.ofNat n := by rw [← hn]; simp
    rw [hn] at h ⊢
    subst e
    clear hn
    revert n
    decide +kernel
  show decide (0 ≤ Lib.indexByte [108, 99, 101, 97, 126] c) = _
  rw [this c]
  unfold strokeB
  have e1 : (⟨#[c]⟩ : ByteArray).size = 1 := rfl
  have e2 : pk ⟨#[c]⟩ 0 = c.toNat := rfl
  rw [e1, e2]
  rfl
theorem far_pred (w : World) : PredAt Try.prog 56 #[] (Value.int .i64) farB w := fun W r _ => by
  unfold FnGives farB
  by_cases h1 : r < -1000000 <;> by_cases h2 : 1000000 < r
  all_goals
    go_enter Try.func56, Try.ntmps56
    go_wp2
    all_goals first | (exfalso; omega) | (go_ret; exact ⟨by first | (simp [h1, h2]; done) | (simp [h1, h2]; omega), 0, rfl⟩)
theorem drewN_below {B : Nat} (W : World) (q : Nat) : Below B W (W.drewN q) := belowN (Below.refl _ _) q
theorem fars_calls (A : Option Addr) (c : Nat) (l : List Int) (w : World) (h : kI.C w A l.length l) (hl : l.length ≤ 9223372036854775807) :
    Calls Try.prog 30 #[.slice A l.length c, .func (.func 56) #[] #[]] w fun e w' => e = .returned (.bool (l.any farB)) ∧ Below w.heap.size w w' := by
  rcases Nat.eq_zero_or_pos l.length with h0 | h0
  · have e : l = [] := List.eq_nil_of_length_eq_zero h0
    subst e
    refine (Try.slices_ContainsFunc_empty (α := Int) A c _ w).mono ?_
    rintro e w' ⟨rfl, rfl⟩
    exact ⟨rfl, Below.refl _ _⟩
  · obtain ⟨b, off, rfl, hb, hc⟩ := ints_at h h0
    refine (Try.slices_ContainsFunc (Value.int .i64) farB 56 #[] (enters_of Try.func56 (by kernel_rfl) rfl) b off l.length c l w (far_pred w) (Nat.le_refl _) hl fun j hj => ?_).mono ?_
    · rw [hc j hj, getElem!_pos l j hj]
    · rintro e w' ⟨rfl, q, rfl⟩
      rw [List.take_of_length_le (Nat.le_refl _)]
      exact ⟨rfl, drewN_below w q⟩
set_option maxRecDepth 100000 in
set_option maxHeartbeats 4000000 in
theorem valid_4 (w f s : Int) (nm cl : ByteArray) (A : Option Addr) (c : Nat) (l : List Int) (h0 : ¬ w < -1000000) (h1 : ¬ 1000000 < w) (h2 : ¬ f < 0) (h3 : ¬ s < 0) (hc : colB cl = true) (hl : l.length ≤ 9223372036854775807) (W1 : World) (hC : kI.C W1 A l.length l) :
    Calls Try.prog 24 #[.agg #[.int .i64 4, .int .i64 w, .int .i64 f, .int .i64 s, .string nm, .string cl, .slice A l.length c]] W1 fun e W' => e = .returned (.bool (decide (f = 0) && (decide (s = 0) && (strokeB nm && (decide (l.length ≤ 40) && !l.any farB))))) ∧ Below W1.heap.size W1 W' := by
  have HC := Lib.hid (fun W => colour_calls cl W)
  have HF := Lib.hid (fun W h => fars_calls A c l W h hl)
  have HK := Lib.hid hC
  rw [hc] at HC
  obtain ⟨G, hG⟩ : ∃ G, l.any farB = G := ⟨_, rfl⟩
  rw [hG] at HF ⊢
  clear hc hG hC
  obtain ⟨m, hm⟩ : ∃ m, l.length = m := ⟨_, rfl⟩
  rw [hm] at HF HK hl
  simp only [hm]
  clear hm
  by_cases hn : nm.size = 1
  · obtain ⟨b, rfl⟩ : ∃ b, nm = ⟨#[b]⟩ := by
      obtain ⟨⟨L⟩⟩ := nm
      have : L.length = 1 := hn
      match L, this with
      | [b], _ => exact ⟨b, rfl⟩
    have HS := Lib.hid (fun W => Try.strings_Contains_one ⟨#[108, 99, 101, 97, 126]⟩ b W)
    rw [stroke_is] at HS
    obtain ⟨S, hS⟩ : ∃ S, strokeB ⟨#[b]⟩ = S := ⟨_, rfl⟩
    rw [hS] at HS ⊢
    clear hS
    have hn1 : ((⟨#[b]⟩ : ByteArray).size : Int) = 1 := rfl
    have hm1 : ((m : Int) ≤ 40) ↔ (m ≤ 40) := by omega
    cases S <;> cases G <;> by_cases hm40 : m ≤ 40
    all_goals go_enter Try.func24, Try.ntmps24
    all_goals go_wp2_with (first
      | (go_at_call 54; (with_reducible refine (HC.out _).mono ?_); rintro e w2 ⟨rfl, hb2⟩; obtain ⟨hc2, hf2⟩ := bcell hb2; have hz2 : W1.heap.size < w2.heap.size := (by have h := hb2.size; simp at h; omega); have HB2 := Lib.hid (((Below.refl _ W1).alloc (Nat.le_refl _) _).trans (hb2.mono (by simp))); clear hb2)
      | (go_at_call 57; (with_reducible refine (HS.out _).mono ?_); rintro e w3 ⟨rfl, rfl⟩)
      | (go_at_call 30; (with_reducible refine (HF.out _ (Kd.C_below HK.out HB2.out)).mono ?_); rintro e w4 ⟨rfl, hb4⟩; have HB4 := Lib.hid (HB2.out.trans (hb4.mono HB2.out.size)); clear hb4))
    all_goals
      go_ret
      first
        | exact ⟨by first | (simp [*, nat0, int0, emp0]; done) | (simp [*, nat0, int0, emp0]; omega), HB4.out⟩
        | exact ⟨by first | (simp [*, nat0, int0, emp0]; done) | (simp [*, nat0, int0, emp0]; omega), HB2.out⟩
  · have hS : strokeB nm = false := by unfold strokeB; rw [decide_eq_false hn]; rfl
    rw [hS]
    have hn1 : ¬ (nm.size : Int) = 1 := by omega
    clear hS HF HK
    go_enter Try.func24, Try.ntmps24
    go_wp2_with (go_at_call 54; (with_reducible refine (HC.out _).mono ?_); rintro e w2 ⟨rfl, hb2⟩; obtain ⟨hc2, hf2⟩ := bcell hb2; have hz2 : W1.heap.size < w2.heap.size := (by have h := hb2.size; simp at h; omega); have HB2 := Lib.hid (((Below.refl _ W1).alloc (Nat.le_refl _) _).trans (hb2.mono (by simp))); clear hb2)
    all_goals
      go_ret
      exact ⟨by first | (simp [*, nat0, int0, emp0]; done) | (simp [*, nat0, int0, emp0]; omega), HB2.out⟩
end Go.Proofs.Ytmmfojaeahcohaa

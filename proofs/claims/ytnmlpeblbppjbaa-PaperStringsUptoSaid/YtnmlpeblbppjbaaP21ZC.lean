/- Walks of layer 21: fits. -/
import Derived.Test.YtnmlpeblbppjbaaP21ZB
set_option linter.unusedVariables false
set_option linter.unusedSimpArgs false
namespace Go.Proofs.Ytnmlpeblbppjbaa
open Go.Shelf Go.RowKit Go.Lib Go.Aids Go.MapLit Go.Proofs.YtnmlpeblbppjbaaW.PrintWords

theorem pfx_one (v : ByteArray) (c : UInt8) (hc : c ≠ 0) : Lib.hasPrefix v.data.toList (⟨#[c]⟩ : ByteArray).data.toList = decide (pk v 0 = c.toNat) := by
  obtain ⟨⟨L⟩⟩ := v
  cases L with
  | nil =>
    have h0 : pk ⟨⟨[]⟩⟩ 0 = 0 := rfl
    have h1 : Lib.hasPrefix (⟨⟨[]⟩⟩ : ByteArray).data.toList (⟨#[c]⟩ : ByteArray).data.toList = false := rfl
    rw [h0, h1]
    have : ¬ (0 : Nat) = c.toNat := by
      intro h
      apply hc
      exact UInt8.toNat_inj.1 h.symm
    simp [this]
  | cons x L =>
    have h0 : pk ⟨⟨x :: L⟩⟩ 0 = x.toNat := by
      rw [pk_get _ _ (by show 0 < (x :: L).length; simp)]
      rfl
    have h1 : Lib.hasPrefix (⟨⟨x :: L⟩⟩ : ByteArray).data.toList (⟨#[c]⟩ : ByteArray).data.toList = (c == x) := by
      show (c == x && List.isPrefixOf [] L) = _
      simp
    rw [h0, h1]
    by_cases h : c = x
    · subst h; simp
    · have : ¬ x.toNat = c.toNat := fun e => h (UInt8.toNat_inj.1 e.symm)
      simp [h, this]
theorem pfx_calls (v : ByteArray) (c : UInt8) (hc : c ≠ 0) (w : World) :
    Calls Try.prog 15 #[.string v, .string ⟨#[c]⟩] w fun e w' => e = .returned (.bool (decide (pk v 0 = c.toNat))) ∧ w' = w := by
  rw [← pfx_one v c hc]
  exact Try.strings_HasPrefix v ⟨#[c]⟩ w

set_option maxRecDepth 100000 in
set_option maxHeartbeats 4000000 in
theorem fits_calls (n v : ByteArray) (w : World) (hn : n.size ≤ 140737488351232) (hv : v.size ≤ 140737488351232) :
    Calls Try.prog 8 #[.agg #[.string n, .string v]] w fun e w' => e = .returned (.bool (fitsB n v)) ∧ Below w.heap.size w w' := by
  have HNew := Lib.hid (fun W => new_calls W)
  have HVal := Lib.hid (fun W b m h hm => value_calls W b m ((⟨#[114, 58]⟩ : ByteArray) ++ n) h hm)
  obtain ⟨E, hE⟩ : ∃ E, (if namedB ((⟨#[114, 58]⟩ : ByteArray) ++ n) = true then (0 : Int) else 6) = E := ⟨_, rfl⟩
  rw [hE] at HVal
  have HE := Lib.hid hE
  clear hE
  have hadd : decide ((2 : Nat) + n.size ≤ 9223372036854775807) = true := decide_eq_true (by omega)
  have hadd2 : 2 + n.size ≤ 9223372036854775807 := by omega
  have HC := Lib.hid (fun W => cany_calls v W hv)
  have H1 := Lib.hid (fun W => pfx_calls v 32 (by decide) W)
  have H2 := Lib.hid (fun W => pfx_calls v 34 (by decide) W)
  obtain ⟨C, hC⟩ : ∃ C, (!cleanF v 0) = C := ⟨_, rfl⟩
  obtain ⟨P1, hP1⟩ : ∃ C, decide (pk v 0 = (32 : UInt8).toNat) = C := ⟨_, rfl⟩
  obtain ⟨P2, hP2⟩ : ∃ C, decide (pk v 0 = (34 : UInt8).toNat) = C := ⟨_, rfl⟩
  obtain ⟨F, hF⟩ : ∃ C, fitsB n v = C := ⟨_, rfl⟩
  rw [hC] at HC
  rw [hP1] at H1
  rw [hP2] at H2
  rw [hF]
  have HF : Hid (F = (decide (n.size ≤ 18) && (decide (E = 0) && (!C && (!P1 && !P2))))) := Lib.hid (by
    rw [← hF, ← hC, ← hP1, ← hP2, ← HE.out]
    unfold fitsB
    cases namedB ((⟨#[114, 58]⟩ : ByteArray) ++ n) <;> simp)
  have HEE : Hid (E = 0 ∨ E = 6) := Lib.hid (by rw [← HE.out]; split; exact Or.inl rfl; exact Or.inr rfl)
  clear hC hP1 hP2 hF HE
  go_enter Try.func8, Try.ntmps8
  go_wp2_with fail
  obtain ⟨W0, hW0⟩ : ∃ W, w.alloc (.cells #[.string n, .string v] 28) = W := ⟨_, rfl⟩
  obtain ⟨g, hg⟩ : ∃ g, w.heap.size = g := ⟨_, rfl⟩
  have k0 : W0.cell? ⟨g, 0, none⟩ = some (.string n) := by rw [← hW0, ← hg]; simp
  have k1 : W0.cell? ⟨g, 1, none⟩ = some (.string v) := by rw [← hW0, ← hg]; simp
  have gl : g < W0.heap.size := by rw [← hW0, ← hg]; simp
  have HB0 : Hid (Below g w W0) := Lib.hid (by rw [← hW0, ← hg]; exact (Below.refl _ _).alloc (Nat.le_refl _) _)
  have HG := Lib.hid hg
  rw [hW0, hg]
  clear hW0 hg
  go_region_with (first | (go_at_call 12; refine (HNew.out _).mono ?_; rintro e w1 ⟨rfl, hbok, hb1⟩; have k10 := (hb1.cell gl).trans k0; have k11 := (hb1.cell gl).trans k1; have gl1 : g < w1.heap.size := Nat.lt_of_lt_of_le gl hb1.size; have HB1 := Lib.hid hb1; have HK := Lib.hid hbok; clear hb1 hbok) | (go_at_call 13; refine (HVal.out _ _ _ HK.out (by have := HK.out.lt; omega)).mono ?_; rintro e w2 ⟨rfl, hb2⟩; have k20 := (hb2.cell gl1).trans k10; have k21 := (hb2.cell gl1).trans k11; have gl2 : g < w2.heap.size := Nat.lt_of_lt_of_le gl1 hb2.size; have HB2 := Lib.hid hb2; clear hb2))
  all_goals
    have HBB : Hid (Below w.heap.size w w2) := Lib.hid (by
      rw [HG.out]
      have b0 := HB0.out.drew
      have b1 := HB1.out
      have b2 := HB2.out
      have z1 := b1.size
      have z2 := b2.size
      exact (b0.trans (b1.mono (by first | omega | (simp at gl ⊢; omega)))).trans (b2.mono (by first | omega | (simp at gl ⊢; omega))))
    clear HB0 HB1 HB2 HVal HNew HK k0 k1 k10 k11 gl gl1
    by_cases hs : 18 < n.size
    · have HF2 : Hid (F = false) := Lib.hid (by rw [HF.out, decide_eq_false (by omega)]; rfl)
      have hs2 : (18 : Int) < n.size := by omega
      go_wp2_with fail
      go_ret
      exact ⟨by rw [HF2.out]; rfl, HBB.out⟩
    have hs2 : (n.size : Int) ≤ 18 := by omega
    have hs3 : ¬ ((18 : Int) < n.size) := by omega
    rcases HEE.out with rfl | rfl
    · have HF3 : Hid (F = (!C && (!P1 && !P2))) := Lib.hid (by rw [HF.out, decide_eq_true (by omega)]; rfl)
      clear HF HEE hs
      cases C <;> cases P1 <;> cases P2
      all_goals
        go_wp2_with (first | (go_at_call 14; refine (HC.out _).mono ?_; rintro e w3 ⟨rfl, hb3⟩; have HB3 := Lib.hid hb3; have k31 := (hb3.cell gl2).trans k21; clear hb3) | (go_at_call 15; refine (H1.out _).mono ?_; rintro e w4 ⟨rfl, rfl⟩) | (go_at_call 15; refine (H2.out _).mono ?_; rintro e w4 ⟨rfl, rfl⟩))
        go_ret
        exact ⟨by rw [HF3.out]; rfl, HBB.out.trans (HB3.out.mono HBB.out.size)⟩
    · have HF3 : Hid (F = false) := Lib.hid (by rw [HF.out, decide_eq_true (by omega)]; rfl)
      clear HF HEE hs
      go_wp2_with fail
      go_ret
      exact ⟨by rw [HF3.out]; rfl, HBB.out⟩
end Go.Proofs.Ytnmlpeblbppjbaa

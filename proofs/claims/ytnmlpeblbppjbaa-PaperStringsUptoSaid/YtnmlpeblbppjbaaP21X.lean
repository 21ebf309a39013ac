/- Walks of layer 21: strings.IndexAny of a line feed and a backslash, long texts. -/
import Derived.Test.YtnmlpeblbppjbaaP21W
import Derived.Test.YtnmlpeblbppjbaaP21C
set_option linter.unusedVariables false
set_option linter.unusedSimpArgs false
namespace Go.Proofs.Ytnmlpeblbppjbaa
open Go.Shelf Go.RowKit Go.Lib Go.Aids Go.MapLit Go.Proofs.YtnmlpeblbppjbaaW.PrintWords

theorem zero69 (w : World) : (zeroValue 69).run Try.prog w = .ok (.agg (Array.replicate 256 (.bool false))) w := by kernel_rfl
theorem two_low : ∀ (j : Nat) (b : UInt8), (⟨#[10, 92]⟩ : ByteArray).data.toList[j]? = some b → b.toNat < 128
  | 0, b, h => by injection h with h; subst h; decide
  | 1, b, h => by injection h with h; subst h; decide
  | j + 2, b, h => by cases h
theorem contains_two (x : UInt8) : ([10, 92] : List UInt8).contains x = !decide (x.toNat ≠ 10 ∧ x.toNat ≠ 92) := by
  rw [Bool.eq_iff_iff]
  simp only [List.contains_iff_mem, List.mem_cons, List.not_mem_nil, or_false, Bool.not_eq_true', decide_eq_false_iff_not]
  rw [← UInt8.toNat_inj, ← UInt8.toNat_inj]
  show x.toNat = 10 ∨ x.toNat = 92 ↔ _
  omega
set_option maxHeartbeats 2000000 in
theorem iany_long (s : ByteArray) (w : World) (h8 : 8 < s.size) (hs : s.size ≤ 140737488351232) :
    Calls Try.prog 19 #[.string s, .string ⟨#[10, 92]⟩] w fun e w' => ∃ r : Int, e = .returned (.int .i64 r) ∧ decide (0 ≤ r) = !cleanF s 0 ∧ Below w.heap.size w w' := by
  have HM := Lib.hid (fun W => Try.strings_makeASCIISet zero69 ⟨#[10, 92]⟩ W (by decide) two_low)
  have HU := Lib.hid (fun W => Try.strings_shouldUseASCIISet (s.size : Int) W)
  rw [decide_eq_true (by omega : (8 : Int) < s.size)] at HU
  have hsz := Lib.setCells_size (⟨#[10, 92]⟩ : ByteArray).data.toList
  have hone := Lib.setCells_one (⟨#[10, 92]⟩ : ByteArray).data.toList
  obtain ⟨CS, hCS⟩ : ∃ CS, Lib.setCells (⟨#[10, 92]⟩ : ByteArray).data.toList = CS := ⟨_, rfl⟩
  have hat : ∀ x : UInt8, CS[x.toNat]? = some (.bool (!decide (x.toNat ≠ 10 ∧ x.toNat ≠ 92))) := fun x => by
    rw [← hCS, ← contains_two]
    exact Lib.setCells_at _ x
  rw [hCS] at HM hsz hone
  have hsc : (storeCells ⟨w.heap.size + 1, 0, none⟩ CS.toList 0).run Try.prog ((w.alloc (.cells CS 69)).alloc (.cells (Array.replicate 256 (.bool false)) 69)) = .ok () ((w.alloc (.cells CS 69)).alloc (.cells CS 69)) := by
    have := run_storeCells_new (P := Try.prog) (w.alloc (.cells CS 69)) 69 (Array.replicate 256 (.bool false)) CS (by rw [hsz]; kernel_rfl) (by rw [hsz, Array.size_replicate]) hone
    simpa using this
  have hcellAt : ∀ x : UInt8, ((w.alloc (.cells CS 69)).alloc (.cells CS 69)).cell? ⟨w.heap.size + 1, x.toNat, none⟩ = some (.bool (!decide (x.toNat ≠ 10 ∧ x.toNat ≠ 92))) := fun x => by
    rw [World.cell?_alloc_at _ _ _ _ (by simp), hat]
  have HC := Lib.hid hcellAt
  have HB := Lib.hid (((Below.refl w.heap.size w).alloc (Nat.le_refl _) (.cells CS 69)).alloc (by simp) (.cells CS 69))
  clear hat hCS hcellAt
  have hz := zero69
  go_enter Try.func19, Try.ntmps19
  go_wp2_with (first | (go_at_call 25; refine (HU.out _).mono ?_; rintro e w1 ⟨rfl, hw1⟩; rw [hw1]) | (go_at_call 26; refine (HM.out _).mono ?_; rintro e w1 ⟨rfl, hw1⟩; rw [hw1]))
  clear hsc hone
  obtain ⟨g, hg⟩ : ∃ g, w.heap.size + 1 = g := ⟨_, rfl⟩
  obtain ⟨W, hW⟩ : ∃ W, (w.alloc (.cells CS 69)).alloc (.cells CS 69) = W := ⟨_, rfl⟩
  rw [hW] at HC HB ⊢
  rw [hg] at HC
  simp only [hg]
  clear hW hg
  go_loopg [8] s.size (fun gk s8 wx => ∃ i : Nat, i + gk = s.size ∧ s8 = .int .i64 i ∧ wx = W ∧ Hid (cleanF s 0 = cleanF s i))
  case atStart => exact ⟨0, by omega, rfl, rfl, Lib.hid rfl⟩
  case round =>
    obtain ⟨i, hi, rfl, rfl, H⟩ := hrel
    by_cases hlt : i < s.size
    · have i0 : (i : Int) < s.size := by omega
      have hc := HC.out s[i]
      have hst := cleanF_step s i hlt
      rw [pk_get s i hlt] at hst
      rcases hv : decide (s[i].toNat ≠ 10 ∧ s[i].toNat ≠ 92) with _ | _
      · rw [hv] at hc hst
        have HK := Lib.hid (Try.asciiSet_contains g s[i] _ _ hc)
        have hfin := H.out.trans hst
        have HF := Lib.hid hfin
        clear hv hst hc hfin
        go_wp2_with (go_at_call 27; refine HK.out.mono ?_; rintro e w' ⟨rfl, hw'⟩; subst hw')
        go_ret
        exact ⟨i, rfl, by rw [HF.out, decide_eq_true (by omega)]; rfl, HB.out⟩
      · rw [hv] at hc hst
        have HK := Lib.hid (Try.asciiSet_contains g s[i] _ _ hc)
        have hfin := H.out.trans hst
        rw [Bool.true_and] at hfin
        have HF := Lib.hid hfin
        clear hv hst hc hfin
        obtain ⟨g', rfl⟩ : ∃ g', gk = g' + 1 := ⟨gk - 1, by omega⟩
        go_wp2_with (go_at_call 27; refine HK.out.mono ?_; rintro e w' ⟨rfl, hw'⟩; subst hw')
        go_roundg g'
        case measure => omega
        case rel => exact ⟨i + 1, by omega, by go_num, rfl, HF⟩
    · have hend := cleanF_end s i hlt
      have HF := Lib.hid (H.out.trans hend)
      clear hend
      go_wp2
      go_ret
      exact ⟨-1, rfl, by rw [HF.out]; decide, HB.out⟩
end Go.Proofs.Ytnmlpeblbppjbaa

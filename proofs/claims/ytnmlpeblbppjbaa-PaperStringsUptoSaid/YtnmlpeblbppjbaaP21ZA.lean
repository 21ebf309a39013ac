/- Walks of layer 21: strings.IndexAny of a line feed and a backslash, short texts. -/
import Derived.Lib.OthersKept
import Derived.Test.YtnmlpeblbppjbaaP21Z
set_option linter.unusedVariables false
set_option linter.unusedSimpArgs false
namespace Go.Proofs.Ytnmlpeblbppjbaa
open Go.Shelf Go.RowKit Go.Lib Go.Aids Go.MapLit Go.Proofs.YtnmlpeblbppjbaaW.PrintWords

theorem below_iter {base : Nat} {w0 w : World} {k : Nat} (h : Below base w0 w) (hk : base ≤ k) (s : ByteArray) (p : Nat) : Below base w0 (w.iterAt k s p) :=
  ⟨h.os, h.tape, h.output, by show w0.heap.size ≤ _; rw [show (w.iterAt k s p).heap.size = w.heap.size from Array.size_setIfInBounds]; exact h.size, fun j hj => (by
    show (w.heap.setIfInBounds k _)[j]? = _
    rw [Array.getElem?_setIfInBounds, if_neg (by omega)]
    exact h.block j hj)⟩
set_option maxRecDepth 100000 in
set_option maxHeartbeats 2000000 in
theorem iany_short (s : ByteArray) (w : World) (h8 : s.size ≤ 8) :
    Calls Try.prog 19 #[.string s, .string ⟨#[10, 92]⟩] w fun e w' => ∃ r : Int, e = .returned (.int .i64 r) ∧ decide (0 ≤ r) = !cleanF s 0 ∧ Below w.heap.size w w' := by
  have HU := Lib.hid (fun W => Try.strings_shouldUseASCIISet (s.size : Int) W)
  rw [decide_eq_false (by omega : ¬ (8 : Int) < s.size)] at HU
  go_enter Try.func19, Try.ntmps19
  go_wp2_with (go_at_call 25; refine (HU.out _).mono ?_; rintro e w1 ⟨rfl, hw1⟩; rw [hw1])
  go_loopg [9, 10] s.size (fun gk _ _ wx => ∃ i : Nat, s.size ≤ i + gk ∧ i ≤ s.size ∧ wx.heap[w.heap.size]? = some (.stringIter s i) ∧ Below w.heap.size w wx ∧ Hid (cleanF s 0 = cleanF s i))
  case atStart => exact ⟨0, by omega, by omega, heap_alloc_new w _, (Below.refl _ _).alloc (Nat.le_refl _) _, Lib.hid rfl⟩
  case round =>
    obtain ⟨i, hg, hi, hk, hB, H⟩ := hrel
    have HB := Lib.hid hB
    clear hB
    by_cases hlt : i < s.size
    · obtain ⟨g', rfl⟩ : ∃ g', gk = g' + 1 := ⟨gk - 1, by omega⟩
      by_cases h128 : pk s i < 128
      · have hnx := fun ty => run_next_ascii_at (P := Try.prog) wr w.heap.size s i ty hk hlt (by rw [← pk_get s i hlt]; exact h128)
        have hst := cleanF_step s i hlt
        rw [pk_get s i hlt] at hst h128
        have hcon := (Lib.contains_iff_indexByte [10, 92] s[i]).symm.trans (contains_two s[i])
        have HI := Lib.hid (fun W => Try.strings_IndexRune_ascii ⟨#[10, 92]⟩ s[i].toNat W (by omega) (by omega))
        have hback : ((s[i].toNat : Int)).toNat.toUInt8 = s[i] := by simp
        rw [hback] at HI
        obtain ⟨R, hR⟩ : ∃ R, Lib.indexByte ([10, 92] : List UInt8) s[i] = R := ⟨_, rfl⟩
        have hR2 : Lib.indexByte (⟨#[10, 92]⟩ : ByteArray).data.toList s[i] = R := hR
        rw [hR2] at HI
        rw [hR] at hcon
        have hh := iterAt_heap wr w.heap.size s i (i + 1) hk
        have HB2 := Lib.hid (below_iter HB.out (Nat.le_refl _) s (i + 1))
        rcases hv : decide (s[i].toNat ≠ 10 ∧ s[i].toNat ≠ 92) with _ | _
        · rw [hv] at hst hcon
          have HF := Lib.hid (H.out.trans hst)
          have hcon2 : decide (0 ≤ R) = true := hcon
          clear hcon hv hst hR hR2 hback h128 hh
          go_wp2_with (go_at_call 24; refine (HI.out _).mono ?_; rintro e w2 ⟨rfl, hw2⟩; rw [hw2])
          go_ret
          exact ⟨i, rfl, by rw [HF.out, decide_eq_true (by omega)]; rfl, HB2.out⟩
        · rw [hv] at hst hcon
          rw [Bool.true_and] at hst
          have HF := Lib.hid (H.out.trans hst)
          have hcon2 : decide (0 ≤ R) = false := hcon
          clear hcon hv hst hR hR2 hback h128
          have HH := Lib.hid hh
          clear hh
          go_wp2_with (go_at_call 24; refine (HI.out _).mono ?_; rintro e w2 ⟨rfl, hw2⟩; rw [hw2])
          go_roundg g'
          case measure => omega
          case rel => exact ⟨i + 1, by omega, by omega, HH.out, HB2.out, HF⟩
      · have hnx := fun ty => run_next_any_at (P := Try.prog) wr w.heap.size s i ty hk hlt
        obtain ⟨hsp, hcl⟩ := clean_span s i hlt h128
        have hd := Go.decode_high s i hlt (by rw [← pk_get s i hlt]; omega)
        have hm := (decode_span s i hlt).1
        obtain ⟨r, hr⟩ : ∃ r, (Utf8.decode s i).1 = r := ⟨_, rfl⟩
        obtain ⟨n, hn⟩ : ∃ n, (Utf8.decode s i).2 = n := ⟨_, rfl⟩
        rw [hr] at hd hm
        rw [hn] at hd hsp hcl
        simp only [hr, hn] at hnx
        clear hr hn
        have hd1 := hd.1
        have hd2 := hd.2
        clear hd
        have hh := iterAt_heap wr w.heap.size s i (i + n) hk
        have HB2 := Lib.hid (below_iter HB.out (Nat.le_refl _) s (i + n))
        have HF := Lib.hid (H.out.trans hcl)
        have HI : Hid (∀ W, Calls Try.prog 24 #[.string ⟨#[10, 92]⟩, .int .i32 r] W fun e w' => e = .returned (.int .i64 (-1)) ∧ Below W.heap.size W w') := Lib.hid fun W => by
          by_cases h5 : r = 65533
          · subst h5
            refine (irune_err W).mono ?_
            rintro e w' ⟨rfl, pos, rfl⟩
            exact ⟨rfl, (Below.refl _ _).alloc (Nat.le_refl _) _⟩
          · exact irune_high r W hd1 hm h5
        have hlt2 : w.heap.size < (wr.iterAt w.heap.size s (i + n)).heap.size := (Array.getElem?_eq_some_iff.1 hh).1
        have HH := Lib.hid hh
        have HL := Lib.hid hlt2
        clear hh hlt2 hcl h128 hm hd1
        go_wp2_with (go_at_call 24; refine (HI.out _).mono ?_; rintro e w2 ⟨rfl, hb2⟩; have HK2 := Lib.hid ((hb2.block _ HL.out).trans HH.out); have HB3 := Lib.hid (HB2.out.trans (hb2.mono HB2.out.size)); clear hb2)
        go_roundg g'
        case measure => omega
        case rel => exact ⟨i + n, by omega, hsp, HK2.out, HB3.out, HF⟩
    · have hend := cleanF_end s i hlt
      have HF := Lib.hid (H.out.trans hend)
      have hnx := fun ty => run_next_end_at (P := Try.prog) wr w.heap.size s i ty hk hlt
      clear hend
      go_wp2
      go_ret
      exact ⟨-1, rfl, by rw [HF.out]; decide, HB.out⟩
end Go.Proofs.Ytnmlpeblbppjbaa

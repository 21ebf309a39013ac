/- Walks of layer 10's reader: name in brackets, name whole, quoted. -/
import Derived.Test.YtaokofnhkojllaaWalkB
import Derived.Test.YtaokofnhkojllaaPureC
set_option linter.unusedVariables false
set_option linter.unusedSimpArgs false
namespace Go.Proofs.Ytaokofnhkojllaa
open Go.Shelf Go.RowKit Go.Lib Go.Aids Go.MapLit Go.Proofs.YtaokofnhkojllaaW.PrintWords

theorem Rd.top {w : World} {b base : Nat} {v : Value} {rest : ByteArray} {l : List Tok} (h : Rd w b base v rest l) : base ≤ w.heap.size := by
  have := h.ge; have := h.cells.2.2.2.2; omega
theorem ibyte_calls (R : ByteArray) (c : Nat) (hc : c < 256) (i : Int) (w : World) (hi : Lib.indexByte R.data.toList (UInt8.ofNat c) = i) :
    Calls Try.prog 55 #[.string R, .int .u8 c] w fun e w' => e = .returned (.int .i64 i) ∧ w = w' := by
  refine (Try.strings_IndexByte R c w).mono ?_
  rintro e w' ⟨rfl, rfl⟩
  refine ⟨?_, rfl⟩
  rw [← hi, show ((c : Int)).toNat.toUInt8 = UInt8.ofNat c from rfl]
set_option maxHeartbeats 1000000 in
theorem name_bracket (w : World) (b base : Nat) (v : Value) (s : ByteArray) (a : Nat) (l : List Tok) (x y : Nat) (h : At w b base v s a l) (hs : s.size ≤ 1000000) (h1 : pk s a = 91) :
    Calls Try.prog 40 #[.pointer (some ⟨b, 0, none⟩), .int .i64 x, .int .i64 y] w (TxtP b base s l w (bracketM x y s (a + 1))) := by
  have ha : a < s.size := pk_lt (by omega)
  have HT := Lib.hid (take_at 1 h hs (by omega))
  rw [ext_one s a ha, h1] at HT
  clear h1
  unfold bracketM
  simp only
  have hE := findB_le s (a + 1) 93 (by omega)
  have hI := index_rest s (a + 1) 93 (by omega) (by decide)
  obtain ⟨E, hEE⟩ : ∃ E, findB s (a + 1) 93 = E := ⟨_, rfl⟩
  rw [hEE] at hE hI ⊢
  clear hEE
  have hz := ext_size s (a + 1) (by omega)
  by_cases hlt : E < s.size
  · obtain ⟨k, rfl⟩ : ∃ k, E = a + 1 + k := ⟨E - (a + 1), by omega⟩
    rw [if_pos hlt, show a + 1 + k - (a + 1) = k by omega] at hI
    have HI := Lib.hid (fun W => ibyte_calls _ 93 (by decide) _ W hI)
    have hck := check_seg s (a + 1) (a + 1 + k) x y (by omega) (by omega)
    rw [show a + 1 + k - (a + 1) = k by omega] at hck ⊢
    rw [← ext_ext s (a + 1) 0 k (by omega)] at hck
    have hkz : (k : Int) ≤ (s.extract (a + 1) s.size).size := by rw [hz]; omega
    have hcut := ext_ext s (a + 1) 0 k (by omega)
    rw [Nat.add_zero] at hcut
    by_cases hok : x ≤ k ∧ k ≤ y ∧ allSeen s (a + 1) (a + 1 + k) = true
    · rw [if_pos ⟨hlt, hok⟩]
      have HC := Lib.hid (fun W => checked_ok ((s.extract (a + 1) s.size).extract 0 k) x y W (by rw [hck, decide_eq_true hok.1, decide_eq_true hok.2.1, hok.2.2]; rfl))
      have Hcut := Lib.hid hcut
      have Hz := Lib.hid hz
      clear hck hok hI hz hcut
      go_enter Try.func40, Try.ntmps40
      go_wp2_with fail
      refine HT.out.mono ?_
      rintro e w1 ⟨rfl, h1, b1⟩
      obtain ⟨c0, -, -, -, cl⟩ := h1.cells
      go_wp2_with fail
      refine (HI.out _).mono ?_
      rintro e w2 ⟨rfl, rfl⟩
      go_wp2_with fail
      refine (HC.out _).mono ?_
      rintro e w3 ⟨rfl, b3⟩
      have h3 := h1.below b3
      have B3 := b1.trans (b3.mono h1.top)
      clear c0 cl b3
      go_wp2_with fail
      refine (take_at (k + 1) h3 hs (by omega)).mono ?_
      rintro e w4 ⟨rfl, h4, b4⟩
      go_wp2
      go_ret
      rw [Hcut.out]
      exact ⟨rfl, ⟨v, h4⟩, B3.trans b4⟩
    · rw [if_neg (fun h => hok h.2)]
      have HC := Lib.hid (fun W => checked_bad ((s.extract (a + 1) s.size).extract 0 k) x y W (by
        rw [hck, Bool.eq_false_iff]
        intro e
        simp only [Bool.and_eq_true, decide_eq_true_eq] at e
        exact hok ⟨e.1.1, e.1.2, e.2⟩))
      have Hz := Lib.hid hz
      clear hck hok hI hz hcut
      go_enter Try.func40, Try.ntmps40
      go_wp2_with fail
      refine HT.out.mono ?_
      rintro e w1 ⟨rfl, h1, b1⟩
      obtain ⟨c0, -, -, -, cl⟩ := h1.cells
      go_wp2_with fail
      refine (HI.out _).mono ?_
      rintro e w2 ⟨rfl, rfl⟩
      go_wp2_with fail
      refine (HC.out _).mono ?_
      rintro e w3 ⟨o, rfl, b3⟩
      exact ⟨rfl, o, rfl, b1.trans (b3.mono h1.top)⟩
  · rw [if_neg hlt] at hI
    rw [if_neg (fun h => hlt h.1)]
    have HI := Lib.hid (fun W => ibyte_calls _ 93 (by decide) _ W hI)
    have Hz := Lib.hid hz
    clear hI hz
    go_enter Try.func40, Try.ntmps40
    go_wp2_with fail
    refine HT.out.mono ?_
    rintro e w1 ⟨rfl, h1, b1⟩
    obtain ⟨c0, -, -, -, cl⟩ := h1.cells
    go_wp2_with fail
    refine (HI.out _).mono ?_
    rintro e w2 ⟨rfl, rfl⟩
    go_wp2_with fail
    refine (bad_calls _).mono ?_
    rintro e w3 ⟨o, rfl, b3⟩
    exact ⟨rfl, o, rfl, b1.trans (b3.mono h1.top)⟩
set_option maxHeartbeats 1000000 in
theorem name_end (w : World) (b base : Nat) (v : Value) (s : ByteArray) (a : Nat) (l : List Tok) (x y : Nat) (h : At w b base v s a l) (hs : s.size ≤ 1000000) (ha : a ≤ s.size) (h1 : s.size < a + 1) :
    Calls Try.prog 40 #[.pointer (some ⟨b, 0, none⟩), .int .i64 x, .int .i64 y] w (Bad base w) := by
  have HT := Lib.hid (take_off 1 h hs ha h1)
  go_enter Try.func40, Try.ntmps40
  go_wp2_with fail
  refine HT.out.mono ?_
  rintro e w1 ⟨o, rfl, b1⟩
  exact ⟨rfl, o, rfl, b1⟩
theorem name_calls (w : World) (b base : Nat) (v : Value) (s : ByteArray) (a : Nat) (l : List Tok) (x y : Nat) (h : At w b base v s a l) (hs : s.size ≤ 1000000) (ha : a ≤ s.size) :
    Calls Try.prog 40 #[.pointer (some ⟨b, 0, none⟩), .int .i64 x, .int .i64 y] w (TxtP b base s l w (nameM x y s a)) := by
  unfold nameM
  by_cases h1 : pk s a = 40
  · rw [if_pos h1]; exact name_two w b base v s a l x y h hs h1
  · rw [if_neg h1]
    by_cases h2 : pk s a = 91
    · rw [if_pos h2]; exact name_bracket w b base v s a l x y h hs h2
    · rw [if_neg h2]
      by_cases hlt : a < s.size
      · exact name_other w b base v s a l x y h hs hlt h1 h2
      · have hz : pk s a = 0 := by unfold pk; rw [dif_neg hlt]
        rw [hz, if_neg (by decide)]
        exact name_end w b base v s a l x y h hs ha (by omega)

set_option maxHeartbeats 1000000 in
theorem quoted_calls (w : World) (b base : Nat) (v : Value) (s : ByteArray) (a : Nat) (l : List Tok) (h : At w b base v s a l) (hs : s.size ≤ 1000000) (ha : a ≤ s.size) :
    Calls Try.prog 39 #[.pointer (some ⟨b, 0, none⟩)] w (TxtP b base s l w (quotedM s a)) := by
  unfold quotedM
  by_cases hlt : a < s.size
  · have HT := Lib.hid (take_at 1 h hs (by omega))
    rw [ext_one s a hlt] at HT
    have hc := pk_256 s a
    simp only
    have hE := findB_le s (a + 1) (pk s a) (by omega)
    have hI := index_rest s (a + 1) (pk s a) (by omega) hc
    obtain ⟨c, hcc⟩ : ∃ c, pk s a = c := ⟨_, rfl⟩
    rw [hcc] at HT hc hE hI ⊢
    clear hcc
    by_cases h32 : c = 32
    · subst h32
      rw [if_neg (fun h => h.2.1 rfl)]
      clear hI hE
      go_enter Try.func39, Try.ntmps39
      go_wp2_with fail
      refine HT.out.mono ?_
      rintro e w1 ⟨rfl, h1, b1⟩
      go_wp2_with fail
      refine (bad_calls _).mono ?_
      rintro e w3 ⟨o, rfl, b3⟩
      exact ⟨rfl, o, rfl, b1.trans (b3.mono h1.top)⟩
    by_cases h9 : c = 9
    · subst h9
      rw [if_neg (fun h => h.2.2 rfl)]
      clear hI hE
      go_enter Try.func39, Try.ntmps39
      go_wp2_with fail
      refine HT.out.mono ?_
      rintro e w1 ⟨rfl, h1, b1⟩
      go_wp2_with fail
      refine (bad_calls _).mono ?_
      rintro e w3 ⟨o, rfl, b3⟩
      exact ⟨rfl, o, rfl, b1.trans (b3.mono h1.top)⟩
    rw [if_pos ⟨hlt, h32, h9⟩]
    have f1 : (UInt8.ofNat c == 32) = false := u8_ne hc (by decide) h32
    have f2 : (UInt8.ofNat c == 9) = false := u8_ne hc (by decide) h9
    obtain ⟨E, hEE⟩ : ∃ E, findB s (a + 1) c = E := ⟨_, rfl⟩
    rw [hEE] at hE hI ⊢
    clear hEE h32 h9
    have hz := ext_size s (a + 1) (by omega)
    by_cases hEl : E < s.size
    · obtain ⟨k, rfl⟩ : ∃ k, E = a + 1 + k := ⟨E - (a + 1), by omega⟩
      rw [if_pos hEl, show a + 1 + k - (a + 1) = k by omega] at hI
      rw [if_pos hEl]
      have hkz : (k : Int) ≤ (s.extract (a + 1) s.size).size := by rw [hz]; omega
      have hcut := ext_ext s (a + 1) 0 k (by omega)
      rw [Nat.add_zero] at hcut
      have HI := Lib.hid (fun W => Try.strings_Index_one (s.extract (a + 1) s.size) (UInt8.ofNat c) W)
      rw [hI] at HI
      have Hcut := Lib.hid hcut
      have Hz := Lib.hid hz
      clear hI hz hcut
      go_enter Try.func39, Try.ntmps39
      go_wp2_with fail
      refine HT.out.mono ?_
      rintro e w1 ⟨rfl, h1, b1⟩
      obtain ⟨c0, -, -, -, cl⟩ := h1.cells
      go_wp2_with fail
      refine (HI.out _).mono ?_
      rintro e w2 ⟨rfl, hw2⟩
      subst hw2
      go_wp2_with fail
      refine (take_at (k + 1) h1 hs (by omega)).mono ?_
      rintro e w4 ⟨rfl, h4, b4⟩
      go_wp2
      go_ret
      rw [Hcut.out]
      exact ⟨rfl, ⟨v, h4⟩, b1.trans b4⟩
    · rw [if_neg hEl] at hI
      rw [if_neg hEl]
      have HI := Lib.hid (fun W => Try.strings_Index_one (s.extract (a + 1) s.size) (UInt8.ofNat c) W)
      rw [hI] at HI
      have Hz := Lib.hid hz
      clear hI hz
      go_enter Try.func39, Try.ntmps39
      go_wp2_with fail
      refine HT.out.mono ?_
      rintro e w1 ⟨rfl, h1, b1⟩
      obtain ⟨c0, -, -, -, cl⟩ := h1.cells
      go_wp2_with fail
      refine (HI.out _).mono ?_
      rintro e w2 ⟨rfl, hw2⟩
      subst hw2
      go_wp2_with fail
      refine (bad_calls _).mono ?_
      rintro e w3 ⟨o, rfl, b3⟩
      exact ⟨rfl, o, rfl, b1.trans (b3.mono h1.top)⟩
  · rw [if_neg (fun h => hlt h.1)]
    have HT := Lib.hid (take_off 1 h hs ha (by omega))
    go_enter Try.func39, Try.ntmps39
    go_wp2_with fail
    refine HT.out.mono ?_
    rintro e w1 ⟨o, rfl, b1⟩
    exact ⟨rfl, o, rfl, b1⟩
end Go.Proofs.Ytaokofnhkojllaa

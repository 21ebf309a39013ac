/- Walks of layer 10's reader: name, quoted, row, size. -/
import Derived.Test.YtaokofnhkojllaaWalkA
set_option linter.unusedVariables false
set_option linter.unusedSimpArgs false
namespace Go.Proofs.Ytaokofnhkojllaa
open Go.Shelf Go.RowKit Go.Lib Go.Aids Go.MapLit Go.Proofs.YtaokofnhkojllaaW.PrintWords

/-- The reader at a place of its line. -/
abbrev At (w : World) (b base : Nat) (v : Value) (s : ByteArray) (a : Nat) (l : List Tok) : Prop := Rd w b base v (s.extract a s.size) l
theorem At.set {w : World} {b base : Nat} {v : Value} {s : ByteArray} {a : Nat} {l : List Tok} (h : At w b base v s a l) (c : Nat) : At (w.setCell ⟨b, 0, none⟩ (.string (s.extract c s.size))) b base v s c l := Rd.set0 h _
theorem take_at {w : World} {b base : Nat} {v : Value} {s : ByteArray} {a : Nat} {l : List Tok} (n : Nat) (h : At w b base v s a l) (hs : s.size ≤ 1000000) (hn : a + n ≤ s.size) :
    Calls Try.prog 26 #[.pointer (some ⟨b, 0, none⟩), .int .i64 n] w fun e w' => e = .returned (.string (s.extract a (a + n))) ∧ At w' b base v s (a + n) l ∧ Below base w w' := by
  have hz := ext_size s a (by omega)
  refine (take_calls w b base v _ l n h (by omega) (by omega)).mono ?_
  rintro e w' ⟨rfl, rfl⟩
  rw [ext_ext s a 0 n hn, ext_ext s a n _ (by omega), hz, show a + (s.size - a) = s.size by omega]
  exact ⟨rfl, h.set (a + n), (Below.refl _ _).setCell h.ge _⟩
theorem take_off {w : World} {b base : Nat} {v : Value} {s : ByteArray} {a : Nat} {l : List Tok} (n : Nat) (h : At w b base v s a l) (hs : s.size ≤ 1000000) (ha : a ≤ s.size) (hn : s.size < a + n) :
    Calls Try.prog 26 #[.pointer (some ⟨b, 0, none⟩), .int .i64 n] w (Bad base w) := by
  have hz := ext_size s a ha
  refine (take_bad w b base v _ l n h (by omega) (by omega)).mono ?_
  rintro e w' ⟨o, rfl, hb⟩
  exact ⟨o, rfl, hb.mono (by have := h.ge; have := h.cells.2.2.2.2; omega)⟩

/-- What a reader of a text leaves. -/
def TxtP (b base : Nat) (s : ByteArray) (l : List Tok) (w : World) (o : Option (ByteArray × Nat)) (e : Ending) (w' : World) : Prop := match o with
  | some (t, a) => e = .returned (.string t) ∧ (∃ v, At w' b base v s a l) ∧ Below base w w'
  | none => Bad base w e w'

theorem u8_eq (c k : Nat) (hc : c < 256) (hk : k < 256) : (UInt8.ofNat c == UInt8.ofNat k) = decide (c = k) := by
  rw [Bool.eq_iff_iff, beq_iff_eq, decide_eq_true_eq]
  constructor
  · intro h
    have := congrArg UInt8.toNat h
    rw [UInt8.toNat_ofNat', UInt8.toNat_ofNat'] at this
    omega
  · rintro rfl; rfl
theorem u8_ne {c k : Nat} (hc : c < 256) (hk : k < 256) (h : c ≠ k) : (UInt8.ofNat c == UInt8.ofNat k) = false := by rw [u8_eq c k hc hk]; exact decide_eq_false h
theorem oneS_size (c : Nat) : (oneS c).size = 1 := rfl
theorem pk_one (c : Nat) (hc : c < 256) : pk (oneS c) 0 = c := by
  have : pk (oneS c) 0 = (UInt8.ofNat c).toNat := rfl
  rw [this, UInt8.toNat_ofNat']; omega
theorem check_one (c : Nat) (hc : c < 256) : checkB (oneS c) 1 1 = seenB c := by
  unfold checkB
  rw [oneS_size]
  simp only [Nat.le_refl, decide_true, Bool.true_and]
  unfold allSeen
  simp [pk_one c hc]
set_option maxHeartbeats 1000000 in
theorem name_other (w : World) (b base : Nat) (v : Value) (s : ByteArray) (a : Nat) (l : List Tok) (x y : Nat) (h : At w b base v s a l) (hs : s.size ≤ 1000000) (ha : a < s.size) (h1 : pk s a ≠ 40) (h2 : pk s a ≠ 91) :
    Calls Try.prog 40 #[.pointer (some ⟨b, 0, none⟩), .int .i64 x, .int .i64 y] w (TxtP b base s l w (if seenB (pk s a) = true then some (oneS (pk s a), a + 1) else none)) := by
  have HT := Lib.hid (take_at 1 h hs (by omega))
  rw [ext_one s a ha] at HT
  have hc := pk_256 s a
  have f1 : (UInt8.ofNat (pk s a) == 40) = false := u8_ne hc (by decide) h1
  have f2 : (UInt8.ofNat (pk s a) == 91) = false := u8_ne hc (by decide) h2
  have hk := check_one _ hc
  obtain ⟨c, hcc⟩ : ∃ c, pk s a = c := ⟨_, rfl⟩
  rw [hcc] at HT f1 f2 hk ⊢
  clear h1 h2 hc hcc
  rcases hq : seenB c with _ | _
  · rw [hq] at hk
    have HC := Lib.hid (fun W => checked_bad (oneS c) 1 1 W hk)
    rw [if_neg (by decide)]
    clear hk hq
    go_enter Try.func40, Try.ntmps40
    go_wp2_with fail
    refine HT.out.mono ?_
    rintro e w1 ⟨rfl, h1, b1⟩
    go_wp2_with fail
    refine (HC.out _).mono ?_
    rintro e w2 ⟨o, rfl, b2⟩
    exact ⟨rfl, o, rfl, b1.trans (b2.mono (by have := h1.ge; have := h1.cells.2.2.2.2; omega))⟩
  · rw [hq] at hk
    have HC := Lib.hid (fun W => checked_ok (oneS c) 1 1 W hk)
    rw [if_pos rfl]
    clear hk hq
    go_enter Try.func40, Try.ntmps40
    go_wp2_with fail
    refine HT.out.mono ?_
    rintro e w1 ⟨rfl, h1, b1⟩
    go_wp2_with fail
    refine (HC.out _).mono ?_
    rintro e w2 ⟨rfl, b2⟩
    go_wp2
    go_ret
    exact ⟨rfl, ⟨v, h1.below b2⟩, b1.trans (b2.mono (by have := h1.ge; have := h1.cells.2.2.2.2; omega))⟩
theorem check_two (s : ByteArray) (a : Nat) (h : a + 2 ≤ s.size) : checkB (s.extract a (a + 2)) 2 2 = allSeen s a (a + 2) := by
  have hz : (s.extract a (a + 2)).size = 2 := by rw [ByteArray.size_extract]; omega
  unfold checkB
  rw [hz]
  simp only [Nat.le_refl, decide_true, Bool.true_and]
  rw [Bool.eq_iff_iff, allSeen_iff, allSeen_iff]
  constructor
  · intro q k h1 h2
    have := q (k - a) (by omega) (by omega)
    rwa [pk_ext s a (a + 2) (k - a) (by omega) h, show a + (k - a) = k by omega] at this
  · intro q k h1 h2
    rw [pk_ext s a (a + 2) k (by omega) h]
    exact q (a + k) (by omega) (by omega)
set_option maxHeartbeats 1000000 in
theorem name_two (w : World) (b base : Nat) (v : Value) (s : ByteArray) (a : Nat) (l : List Tok) (x y : Nat) (h : At w b base v s a l) (hs : s.size ≤ 1000000) (h1 : pk s a = 40) :
    Calls Try.prog 40 #[.pointer (some ⟨b, 0, none⟩), .int .i64 x, .int .i64 y] w (TxtP b base s l w (twoM s (a + 1))) := by
  have ha : a < s.size := pk_lt (by omega)
  have HT := Lib.hid (take_at 1 h hs (by omega))
  rw [ext_one s a ha, h1] at HT
  clear h1
  unfold twoM
  by_cases h2 : a + 1 + 2 ≤ s.size
  · rcases hq : allSeen s (a + 1) (a + 1 + 2) with _ | _
    · rw [if_neg (by rintro ⟨-, h⟩; cases h)]
      have HC := Lib.hid (fun W => checked_bad (s.extract (a + 1) (a + 1 + 2)) 2 2 W (by rw [check_two s (a + 1) h2, hq]))
      clear hq
      go_enter Try.func40, Try.ntmps40
      go_wp2_with fail
      refine HT.out.mono ?_
      rintro e w1 ⟨rfl, h1, b1⟩
      go_wp2_with fail
      refine (take_at 2 h1 hs h2).mono ?_
      rintro e w2 ⟨rfl, h2', b2⟩
      go_wp2_with fail
      refine (HC.out _).mono ?_
      rintro e w3 ⟨o, rfl, b3⟩
      exact ⟨rfl, o, rfl, (b1.trans b2).trans (b3.mono (by have := h2'.ge; have := h2'.cells.2.2.2.2; omega))⟩
    · rw [if_pos ⟨h2, rfl⟩]
      have HC := Lib.hid (fun W => checked_ok (s.extract (a + 1) (a + 1 + 2)) 2 2 W (by rw [check_two s (a + 1) h2, hq]))
      clear hq
      go_enter Try.func40, Try.ntmps40
      go_wp2_with fail
      refine HT.out.mono ?_
      rintro e w1 ⟨rfl, h1, b1⟩
      go_wp2_with fail
      refine (take_at 2 h1 hs h2).mono ?_
      rintro e w2 ⟨rfl, h2', b2⟩
      go_wp2_with fail
      refine (HC.out _).mono ?_
      rintro e w3 ⟨rfl, b3⟩
      go_wp2
      go_ret
      exact ⟨rfl, ⟨v, h2'.below b3⟩, (b1.trans b2).trans (b3.mono (by have := h2'.ge; have := h2'.cells.2.2.2.2; omega))⟩
  · rw [if_neg (fun h => h2 h.1)]
    go_enter Try.func40, Try.ntmps40
    go_wp2_with fail
    refine HT.out.mono ?_
    rintro e w1 ⟨rfl, h1, b1⟩
    go_wp2_with fail
    refine (take_off 2 h1 hs (by omega) (by omega)).mono ?_
    rintro e w2 ⟨o, rfl, b2⟩
    exact ⟨rfl, o, rfl, b1.trans b2⟩
end Go.Proofs.Ytaokofnhkojllaa

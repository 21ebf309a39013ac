/- Walks of layer 10's reader: size. -/
import Derived.Test.YtaokofnhkojllaaWalkD
set_option linter.unusedVariables false
set_option linter.unusedSimpArgs false
namespace Go.Proofs.Ytaokofnhkojllaa
open Go.Shelf Go.RowKit Go.Lib Go.Aids Go.MapLit Go.Proofs.YtaokofnhkojllaaW.PrintWords

def SizeP (b base : Nat) (s : ByteArray) (l : List Tok) (w : World) (o : Option (ByteArray × Nat × Nat)) (e : Ending) (w' : World) : Prop := match o with
  | some (t, n, a) => e = .returned (.tuple #[]) ∧ (∃ v, At w' b base v s a (l ++ [⟨11, t, n⟩])) ∧ Below base w w'
  | none => Bad base w e w'
theorem rest_at (s : ByteArray) (a k : Nat) (h : a + k < s.size) : ∃ hk : k < (s.extract a s.size).size, ((s.extract a s.size)[k]'hk).toNat = pk s (a + k) := by
  have hz : k < (s.extract a s.size).size := by rw [ByteArray.size_extract]; omega
  refine ⟨hz, ?_⟩
  rw [← pk_get _ _ hz, pk_ext s a s.size k h (Nat.le_refl _)]
theorem add_at (w : World) (b base : Nat) (v : Value) (s : ByteArray) (a : Nat) (l : List Tok) (k : Int) (t : ByteArray) (n : Int) (h : At w b base v s a l) (hl : l.length ≤ 1000000) :
    Calls Try.prog 28 #[.pointer (some ⟨b, 0, none⟩), .int .i64 k, .string t, .int .i64 n] w fun e w' => e = .returned (.tuple #[]) ∧ (∃ v', At w' b base v' s a (l ++ [⟨k, t, n⟩])) ∧ Below base w w' :=
  add_calls w b base v _ l ⟨k, t, n⟩ h hl
theorem rowF_one (s : ByteArray) (a : Nat) : rowF s 1 0 a = if digB (pk s a) = true then some (pk s a - 48) else none := by
  simp only [rowF]
  split
  · simp
  · rfl
theorem rowF_two (s : ByteArray) (a : Nat) : rowF s 2 0 a = if digB (pk s a) = true ∧ digB (pk s (a + 1)) = true then some ((pk s a - 48) * 10 + (pk s (a + 1) - 48)) else none := by
  simp only [rowF]
  by_cases h1 : digB (pk s a) = true
  · rw [if_pos h1]
    by_cases h2 : digB (pk s (a + 1)) = true
    · rw [if_pos h2, if_pos ⟨h1, h2⟩]; simp
    · rw [if_neg h2, if_neg (fun h => h2 h.2)]
  · rw [if_neg h1, if_neg (fun h => h1 h.1)]
/-- A row of so many digits, whether they are there or not. -/
theorem row_at (w : World) (b base : Nat) (v : Value) (s : ByteArray) (a : Nat) (l : List Tok) (n : Nat) (h : At w b base v s a l) (hs : s.size ≤ 1000000) (ha : a ≤ s.size) (h9 : n ≤ 9) (R : Option Nat) (hR : R = if a + n ≤ s.size then rowF s n 0 a else none) :
    Calls Try.prog 56 #[.pointer (some ⟨b, 0, none⟩), .int .i64 n] w (NumP b base s l w R (a + n)) := by
  rw [hR]
  by_cases hn : a + n ≤ s.size
  · rw [if_pos hn]; exact row_calls w b base v s a l n h hs hn h9
  · rw [if_neg hn]; exact row_off w b base v s a l n h hs ha (by omega)
def tok11 (t : ByteArray) (a : Nat) : Option Nat → Option (ByteArray × Nat × Nat)
  | some x => some (t, x, a)
  | none => none

set_option maxHeartbeats 2000000 in
theorem size_sign43 (w : World) (b base : Nat) (v : Value) (s : ByteArray) (a : Nat) (l : List Tok) (h : At w b base v s a l) (hs : s.size ≤ 1000000) (hl : l.length ≤ 1000000) (ha : a < s.size) (h0 : pk s a = 43) (R : Option Nat) (hR : R = if a + 1 + 1 ≤ s.size then rowF s 1 0 (a + 1) else none) :
    Calls Try.prog 41 #[.pointer (some ⟨b, 0, none⟩)] w (SizeP b base s l w (tok11 (oneS 43) (a + 2) R)) := by
  obtain ⟨i0, x0⟩ := rest_at s a 0 (by omega)
  rw [Nat.add_zero] at x0
  have hz := ext_size s a (by omega)
  have z1 : (0 : Int) < (s.extract a s.size).size := by omega
  have e0 : (s.extract a s.size).toList.isEmpty = false := by
    rw [Lib.toList_data]
    have : 0 < (s.extract a s.size).data.toList.length := by rw [Array.length_toList]; exact i0
    cases hq : (s.extract a s.size).data.toList with
    | nil => rw [hq] at this; cases this
    | cons _ _ => rfl
  rw [h0] at x0
  have HT := Lib.hid (take_at 1 h hs (by omega))
  rw [ext_one s a ha, h0] at HT
  have hh := h
  obtain ⟨c0, -, -, -, cl⟩ := h.cells
  have HR := Lib.hid hR
  have Hz := Lib.hid hz
  clear hz hR
  have HX0 := x0
  clear x0
  go_enter Try.func41, Try.ntmps41
  go_wp2_with fail
  refine HT.out.mono ?_
  rintro e w1 ⟨rfl, h1, b1⟩
  clear c0 cl
  go_wp2_with fail
  refine (row_at _ b base v s (a + 1) l 1 h1 hs (by omega) (by decide) R HR.out).mono ?_
  rcases R with _ | x
  · rintro e w2 ⟨o, rfl, b2⟩
    exact ⟨rfl, o, rfl, b1.trans b2⟩
  · rintro e w2 ⟨rfl, ⟨v2, h2⟩, b2⟩
    go_wp2_with fail
    refine (add_at _ b base v2 s _ l 11 (oneS 43) x h2 hl).mono ?_
    rintro e w3 ⟨rfl, ⟨v3, h3⟩, b3⟩
    go_wp2
    go_end0
    exact ⟨rfl, ⟨v3, h3⟩, (b1.trans b2).trans b3⟩
set_option maxHeartbeats 2000000 in
theorem size_sign45 (w : World) (b base : Nat) (v : Value) (s : ByteArray) (a : Nat) (l : List Tok) (h : At w b base v s a l) (hs : s.size ≤ 1000000) (hl : l.length ≤ 1000000) (ha : a < s.size) (h0 : pk s a = 45) (R : Option Nat) (hR : R = if a + 1 + 1 ≤ s.size then rowF s 1 0 (a + 1) else none) :
    Calls Try.prog 41 #[.pointer (some ⟨b, 0, none⟩)] w (SizeP b base s l w (tok11 (oneS 45) (a + 2) R)) := by
  obtain ⟨i0, x0⟩ := rest_at s a 0 (by omega)
  rw [Nat.add_zero] at x0
  have hz := ext_size s a (by omega)
  have z1 : (0 : Int) < (s.extract a s.size).size := by omega
  have e0 : (s.extract a s.size).toList.isEmpty = false := by
    rw [Lib.toList_data]
    have : 0 < (s.extract a s.size).data.toList.length := by rw [Array.length_toList]; exact i0
    cases hq : (s.extract a s.size).data.toList with
    | nil => rw [hq] at this; cases this
    | cons _ _ => rfl
  rw [h0] at x0
  have HT := Lib.hid (take_at 1 h hs (by omega))
  rw [ext_one s a ha, h0] at HT
  have hh := h
  obtain ⟨c0, -, -, -, cl⟩ := h.cells
  have HR := Lib.hid hR
  have Hz := Lib.hid hz
  clear hz hR
  have HX0 := x0
  clear x0
  go_enter Try.func41, Try.ntmps41
  go_wp2_with fail
  refine HT.out.mono ?_
  rintro e w1 ⟨rfl, h1, b1⟩
  clear c0 cl
  go_wp2_with fail
  refine (row_at _ b base v s (a + 1) l 1 h1 hs (by omega) (by decide) R HR.out).mono ?_
  rcases R with _ | x
  · rintro e w2 ⟨o, rfl, b2⟩
    exact ⟨rfl, o, rfl, b1.trans b2⟩
  · rintro e w2 ⟨rfl, ⟨v2, h2⟩, b2⟩
    go_wp2_with fail
    refine (add_at _ b base v2 s _ l 11 (oneS 45) x h2 hl).mono ?_
    rintro e w3 ⟨rfl, ⟨v3, h3⟩, b3⟩
    go_wp2
    go_end0
    exact ⟨rfl, ⟨v3, h3⟩, (b1.trans b2).trans b3⟩
set_option maxHeartbeats 2000000 in
theorem size_par (w : World) (b base : Nat) (v : Value) (s : ByteArray) (a : Nat) (l : List Tok) (h : At w b base v s a l) (hs : s.size ≤ 1000000) (hl : l.length ≤ 1000000) (ha : a < s.size) (h0 : pk s a = 40) (R : Option Nat) (hR : R = if a + 1 + 2 ≤ s.size then rowF s 2 0 (a + 1) else none) :
    Calls Try.prog 41 #[.pointer (some ⟨b, 0, none⟩)] w (SizeP b base s l w (tok11 ⟨#[]⟩ (a + 3) R)) := by
  obtain ⟨i0, x0⟩ := rest_at s a 0 (by omega)
  rw [Nat.add_zero] at x0
  have hz := ext_size s a (by omega)
  have z1 : (0 : Int) < (s.extract a s.size).size := by omega
  have e0 : (s.extract a s.size).toList.isEmpty = false := by
    rw [Lib.toList_data]
    have : 0 < (s.extract a s.size).data.toList.length := by rw [Array.length_toList]; exact i0
    cases hq : (s.extract a s.size).data.toList with
    | nil => rw [hq] at this; cases this
    | cons _ _ => rfl
  rw [h0] at x0
  have HT := Lib.hid (take_at 1 h hs (by omega))
  rw [ext_one s a ha] at HT
  have hh := h
  obtain ⟨c0, -, -, -, cl⟩ := h.cells
  have HR := Lib.hid hR
  have Hz := Lib.hid hz
  clear hz hR
  have HX0 := x0
  clear x0
  go_enter Try.func41, Try.ntmps41
  go_wp2_with fail
  refine HT.out.mono ?_
  rintro e w1 ⟨rfl, h1, b1⟩
  clear c0 cl
  go_wp2_with fail
  refine (row_at _ b base v s (a + 1) l 2 h1 hs (by omega) (by decide) R HR.out).mono ?_
  rcases R with _ | x
  · rintro e w2 ⟨o, rfl, b2⟩
    exact ⟨rfl, o, rfl, b1.trans b2⟩
  · rintro e w2 ⟨rfl, ⟨v2, h2⟩, b2⟩
    go_wp2_with fail
    refine (add_at _ b base v2 s _ l 11 ⟨#[]⟩ x h2 hl).mono ?_
    rintro e w3 ⟨rfl, ⟨v3, h3⟩, b3⟩
    go_wp2
    go_end0
    exact ⟨rfl, ⟨v3, h3⟩, (b1.trans b2).trans b3⟩
set_option maxHeartbeats 2000000 in
theorem size_big (w : World) (b base : Nat) (v : Value) (s : ByteArray) (a : Nat) (l : List Tok) (h : At w b base v s a l) (hs : s.size ≤ 1000000) (hl : l.length ≤ 1000000) (ha : a < s.size) (hyp : 49 ≤ pk s a ∧ pk s a ≤ 51) (h1 : digB (pk s (a + 1)) = true) (R : Option Nat) (hR : R = if a + 2 ≤ s.size then rowF s 2 0 (a) else none) :
    Calls Try.prog 41 #[.pointer (some ⟨b, 0, none⟩)] w (SizeP b base s l w (tok11 ⟨#[]⟩ (a + 2) R)) := by
  obtain ⟨i0, x0⟩ := rest_at s a 0 (by omega)
  rw [Nat.add_zero] at x0
  have hz := ext_size s a (by omega)
  have z1 : (0 : Int) < (s.extract a s.size).size := by omega
  have e0 : (s.extract a s.size).toList.isEmpty = false := by
    rw [Lib.toList_data]
    have : 0 < (s.extract a s.size).data.toList.length := by rw [Array.length_toList]; exact i0
    cases hq : (s.extract a s.size).data.toList with
    | nil => rw [hq] at this; cases this
    | cons _ _ => rfl
  have hd := dig_lt h1
  obtain ⟨i1, x1⟩ := rest_at s a 1 (by omega)
  unfold digB at h1
  rw [decide_eq_true_eq] at h1
  obtain ⟨d, hdd⟩ : ∃ d, pk s (a + 1) = d := ⟨_, rfl⟩
  rw [hdd] at x1 h1
  obtain ⟨c, hcc⟩ : ∃ c, pk s a = c := ⟨_, rfl⟩
  rw [hcc] at x0 hyp
  have f1 : ((c : Int) == 43) = false := by rw [beq_eq_false_iff_ne]; omega
  have f2 : ((c : Int) == 45) = false := by rw [beq_eq_false_iff_ne]; omega
  have f3 : ((c : Int) == 40) = false := by rw [beq_eq_false_iff_ne]; omega
  have g1 : decide ((49 : Int) ≤ c) = true := decide_eq_true (by omega)
  have g2 : decide ((c : Int) ≤ 51) = true := decide_eq_true (by omega)
  have g3 : decide ((48 : Int) ≤ d) = true := decide_eq_true (by omega)
  have g4 : decide ((d : Int) ≤ 57) = true := decide_eq_true (by omega)
  have z2 : (1 : Int) < (s.extract a s.size).size := by omega
  clear h1 hcc hdd hyp
  have h0 := h
  obtain ⟨c0, -, -, -, cl⟩ := h.cells
  have HR := Lib.hid hR
  have Hz := Lib.hid hz
  clear hz hR
  have HX0 := x0
  clear x0
  go_enter Try.func41, Try.ntmps41
  go_wp2_with fail
  refine (row_at _ b base v s (a) l 2 h0 hs (by omega) (by decide) R HR.out).mono ?_
  rcases R with _ | x
  · rintro e w2 ⟨o, rfl, b2⟩
    exact ⟨rfl, o, rfl, (Below.refl _ _).trans b2⟩
  · rintro e w2 ⟨rfl, ⟨v2, h2⟩, b2⟩
    go_wp2_with fail
    refine (add_at _ b base v2 s _ l 11 ⟨#[]⟩ x h2 hl).mono ?_
    rintro e w3 ⟨rfl, ⟨v3, h3⟩, b3⟩
    go_wp2
    go_end0
    exact ⟨rfl, ⟨v3, h3⟩, ((Below.refl _ _).trans b2).trans b3⟩
set_option maxHeartbeats 2000000 in
theorem size_low (w : World) (b base : Nat) (v : Value) (s : ByteArray) (a : Nat) (l : List Tok) (h : At w b base v s a l) (hs : s.size ≤ 1000000) (hl : l.length ≤ 1000000) (ha : a < s.size) (hyp : pk s a < 49) (hne : pk s a ≠ 43 ∧ pk s a ≠ 45 ∧ pk s a ≠ 40) (R : Option Nat) (hR : R = if a + 1 ≤ s.size then rowF s 1 0 (a) else none) :
    Calls Try.prog 41 #[.pointer (some ⟨b, 0, none⟩)] w (SizeP b base s l w (tok11 ⟨#[]⟩ (a + 1) R)) := by
  obtain ⟨i0, x0⟩ := rest_at s a 0 (by omega)
  rw [Nat.add_zero] at x0
  have hz := ext_size s a (by omega)
  have z1 : (0 : Int) < (s.extract a s.size).size := by omega
  have e0 : (s.extract a s.size).toList.isEmpty = false := by
    rw [Lib.toList_data]
    have : 0 < (s.extract a s.size).data.toList.length := by rw [Array.length_toList]; exact i0
    cases hq : (s.extract a s.size).data.toList with
    | nil => rw [hq] at this; cases this
    | cons _ _ => rfl
  obtain ⟨c, hcc⟩ : ∃ c, pk s a = c := ⟨_, rfl⟩
  rw [hcc] at x0 hyp hne
  have f1 : ((c : Int) == 43) = false := by rw [beq_eq_false_iff_ne]; omega
  have f2 : ((c : Int) == 45) = false := by rw [beq_eq_false_iff_ne]; omega
  have f3 : ((c : Int) == 40) = false := by rw [beq_eq_false_iff_ne]; omega
  have g1 : decide ((49 : Int) ≤ c) = false := decide_eq_false (by omega)
  clear hcc hyp hne
  have h0 := h
  obtain ⟨c0, -, -, -, cl⟩ := h.cells
  have HR := Lib.hid hR
  have Hz := Lib.hid hz
  clear hz hR
  have HX0 := x0
  clear x0
  go_enter Try.func41, Try.ntmps41
  go_wp2_with fail
  refine (row_at _ b base v s (a) l 1 h0 hs (by omega) (by decide) R HR.out).mono ?_
  rcases R with _ | x
  · rintro e w2 ⟨o, rfl, b2⟩
    exact ⟨rfl, o, rfl, (Below.refl _ _).trans b2⟩
  · rintro e w2 ⟨rfl, ⟨v2, h2⟩, b2⟩
    go_wp2_with fail
    refine (add_at _ b base v2 s _ l 11 ⟨#[]⟩ x h2 hl).mono ?_
    rintro e w3 ⟨rfl, ⟨v3, h3⟩, b3⟩
    go_wp2
    go_end0
    exact ⟨rfl, ⟨v3, h3⟩, ((Below.refl _ _).trans b2).trans b3⟩
set_option maxHeartbeats 2000000 in
theorem size_high (w : World) (b base : Nat) (v : Value) (s : ByteArray) (a : Nat) (l : List Tok) (h : At w b base v s a l) (hs : s.size ≤ 1000000) (hl : l.length ≤ 1000000) (ha : a < s.size) (hyp : 51 < pk s a)  (R : Option Nat) (hR : R = if a + 1 ≤ s.size then rowF s 1 0 (a) else none) :
    Calls Try.prog 41 #[.pointer (some ⟨b, 0, none⟩)] w (SizeP b base s l w (tok11 ⟨#[]⟩ (a + 1) R)) := by
  obtain ⟨i0, x0⟩ := rest_at s a 0 (by omega)
  rw [Nat.add_zero] at x0
  have hz := ext_size s a (by omega)
  have z1 : (0 : Int) < (s.extract a s.size).size := by omega
  have e0 : (s.extract a s.size).toList.isEmpty = false := by
    rw [Lib.toList_data]
    have : 0 < (s.extract a s.size).data.toList.length := by rw [Array.length_toList]; exact i0
    cases hq : (s.extract a s.size).data.toList with
    | nil => rw [hq] at this; cases this
    | cons _ _ => rfl
  obtain ⟨c, hcc⟩ : ∃ c, pk s a = c := ⟨_, rfl⟩
  rw [hcc] at x0 hyp
  have f1 : ((c : Int) == 43) = false := by rw [beq_eq_false_iff_ne]; omega
  have f2 : ((c : Int) == 45) = false := by rw [beq_eq_false_iff_ne]; omega
  have f3 : ((c : Int) == 40) = false := by rw [beq_eq_false_iff_ne]; omega
  have g1 : decide ((49 : Int) ≤ c) = true := decide_eq_true (by omega)
  have g2 : decide ((c : Int) ≤ 51) = false := decide_eq_false (by omega)
  clear hcc hyp
  have h0 := h
  obtain ⟨c0, -, -, -, cl⟩ := h.cells
  have HR := Lib.hid hR
  have Hz := Lib.hid hz
  clear hz hR
  have HX0 := x0
  clear x0
  go_enter Try.func41, Try.ntmps41
  go_wp2_with fail
  refine (row_at _ b base v s (a) l 1 h0 hs (by omega) (by decide) R HR.out).mono ?_
  rcases R with _ | x
  · rintro e w2 ⟨o, rfl, b2⟩
    exact ⟨rfl, o, rfl, (Below.refl _ _).trans b2⟩
  · rintro e w2 ⟨rfl, ⟨v2, h2⟩, b2⟩
    go_wp2_with fail
    refine (add_at _ b base v2 s _ l 11 ⟨#[]⟩ x h2 hl).mono ?_
    rintro e w3 ⟨rfl, ⟨v3, h3⟩, b3⟩
    go_wp2
    go_end0
    exact ⟨rfl, ⟨v3, h3⟩, ((Below.refl _ _).trans b2).trans b3⟩
set_option maxHeartbeats 2000000 in
theorem size_short (w : World) (b base : Nat) (v : Value) (s : ByteArray) (a : Nat) (l : List Tok) (h : At w b base v s a l) (hs : s.size ≤ 1000000) (hl : l.length ≤ 1000000) (ha : a < s.size) (hyp : 49 ≤ pk s a ∧ pk s a ≤ 51) (he : ¬ a + 1 < s.size)  (R : Option Nat) (hR : R = if a + 1 ≤ s.size then rowF s 1 0 (a) else none) :
    Calls Try.prog 41 #[.pointer (some ⟨b, 0, none⟩)] w (SizeP b base s l w (tok11 ⟨#[]⟩ (a + 1) R)) := by
  obtain ⟨i0, x0⟩ := rest_at s a 0 (by omega)
  rw [Nat.add_zero] at x0
  have hz := ext_size s a (by omega)
  have z1 : (0 : Int) < (s.extract a s.size).size := by omega
  have e0 : (s.extract a s.size).toList.isEmpty = false := by
    rw [Lib.toList_data]
    have : 0 < (s.extract a s.size).data.toList.length := by rw [Array.length_toList]; exact i0
    cases hq : (s.extract a s.size).data.toList with
    | nil => rw [hq] at this; cases this
    | cons _ _ => rfl
  obtain ⟨c, hcc⟩ : ∃ c, pk s a = c := ⟨_, rfl⟩
  rw [hcc] at x0 hyp
  have f1 : ((c : Int) == 43) = false := by rw [beq_eq_false_iff_ne]; omega
  have f2 : ((c : Int) == 45) = false := by rw [beq_eq_false_iff_ne]; omega
  have f3 : ((c : Int) == 40) = false := by rw [beq_eq_false_iff_ne]; omega
  have g1 : decide ((49 : Int) ≤ c) = true := decide_eq_true (by omega)
  have g2 : decide ((c : Int) ≤ 51) = true := decide_eq_true (by omega)
  have z2 : ¬ (1 : Int) < (s.extract a s.size).size := by omega
  clear hcc hyp
  have h0 := h
  obtain ⟨c0, -, -, -, cl⟩ := h.cells
  have HR := Lib.hid hR
  have Hz := Lib.hid hz
  clear hz hR
  have HX0 := x0
  clear x0
  go_enter Try.func41, Try.ntmps41
  go_wp2_with fail
  refine (row_at _ b base v s (a) l 1 h0 hs (by omega) (by decide) R HR.out).mono ?_
  rcases R with _ | x
  · rintro e w2 ⟨o, rfl, b2⟩
    exact ⟨rfl, o, rfl, (Below.refl _ _).trans b2⟩
  · rintro e w2 ⟨rfl, ⟨v2, h2⟩, b2⟩
    go_wp2_with fail
    refine (add_at _ b base v2 s _ l 11 ⟨#[]⟩ x h2 hl).mono ?_
    rintro e w3 ⟨rfl, ⟨v3, h3⟩, b3⟩
    go_wp2
    go_end0
    exact ⟨rfl, ⟨v3, h3⟩, ((Below.refl _ _).trans b2).trans b3⟩
set_option maxHeartbeats 2000000 in
theorem size_nodiga (w : World) (b base : Nat) (v : Value) (s : ByteArray) (a : Nat) (l : List Tok) (h : At w b base v s a l) (hs : s.size ≤ 1000000) (hl : l.length ≤ 1000000) (ha : a < s.size) (hyp : 49 ≤ pk s a ∧ pk s a ≤ 51) (he : a + 1 < s.size) (h1 : digB (pk s (a + 1)) = false) (hx : pk s (a + 1) < 48) (R : Option Nat) (hR : R = if a + 1 ≤ s.size then rowF s 1 0 (a) else none) :
    Calls Try.prog 41 #[.pointer (some ⟨b, 0, none⟩)] w (SizeP b base s l w (tok11 ⟨#[]⟩ (a + 1) R)) := by
  obtain ⟨i0, x0⟩ := rest_at s a 0 (by omega)
  rw [Nat.add_zero] at x0
  have hz := ext_size s a (by omega)
  have z1 : (0 : Int) < (s.extract a s.size).size := by omega
  have e0 : (s.extract a s.size).toList.isEmpty = false := by
    rw [Lib.toList_data]
    have : 0 < (s.extract a s.size).data.toList.length := by rw [Array.length_toList]; exact i0
    cases hq : (s.extract a s.size).data.toList with
    | nil => rw [hq] at this; cases this
    | cons _ _ => rfl
  obtain ⟨i1, x1⟩ := rest_at s a 1 (by omega)
  unfold digB at h1
  rw [decide_eq_false_iff_not] at h1
  obtain ⟨d, hdd⟩ : ∃ d, pk s (a + 1) = d := ⟨_, rfl⟩
  rw [hdd] at x1 h1 hx
  obtain ⟨c, hcc⟩ : ∃ c, pk s a = c := ⟨_, rfl⟩
  rw [hcc] at x0 hyp
  have f1 : ((c : Int) == 43) = false := by rw [beq_eq_false_iff_ne]; omega
  have f2 : ((c : Int) == 45) = false := by rw [beq_eq_false_iff_ne]; omega
  have f3 : ((c : Int) == 40) = false := by rw [beq_eq_false_iff_ne]; omega
  have g1 : decide ((49 : Int) ≤ c) = true := decide_eq_true (by omega)
  have g2 : decide ((c : Int) ≤ 51) = true := decide_eq_true (by omega)
  have z2 : (1 : Int) < (s.extract a s.size).size := by omega
  have g3 : decide ((48 : Int) ≤ d) = false := decide_eq_false (by omega)
  clear h1 hcc hdd hyp hx
  have h0 := h
  obtain ⟨c0, -, -, -, cl⟩ := h.cells
  have HR := Lib.hid hR
  have Hz := Lib.hid hz
  clear hz hR
  have HX0 := x0
  clear x0
  go_enter Try.func41, Try.ntmps41
  go_wp2_with fail
  refine (row_at _ b base v s (a) l 1 h0 hs (by omega) (by decide) R HR.out).mono ?_
  rcases R with _ | x
  · rintro e w2 ⟨o, rfl, b2⟩
    exact ⟨rfl, o, rfl, (Below.refl _ _).trans b2⟩
  · rintro e w2 ⟨rfl, ⟨v2, h2⟩, b2⟩
    go_wp2_with fail
    refine (add_at _ b base v2 s _ l 11 ⟨#[]⟩ x h2 hl).mono ?_
    rintro e w3 ⟨rfl, ⟨v3, h3⟩, b3⟩
    go_wp2
    go_end0
    exact ⟨rfl, ⟨v3, h3⟩, ((Below.refl _ _).trans b2).trans b3⟩
set_option maxHeartbeats 2000000 in
theorem size_nodigb (w : World) (b base : Nat) (v : Value) (s : ByteArray) (a : Nat) (l : List Tok) (h : At w b base v s a l) (hs : s.size ≤ 1000000) (hl : l.length ≤ 1000000) (ha : a < s.size) (hyp : 49 ≤ pk s a ∧ pk s a ≤ 51) (he : a + 1 < s.size) (h1 : digB (pk s (a + 1)) = false) (hx : ¬ pk s (a + 1) < 48) (R : Option Nat) (hR : R = if a + 1 ≤ s.size then rowF s 1 0 (a) else none) :
    Calls Try.prog 41 #[.pointer (some ⟨b, 0, none⟩)] w (SizeP b base s l w (tok11 ⟨#[]⟩ (a + 1) R)) := by
  obtain ⟨i0, x0⟩ := rest_at s a 0 (by omega)
  rw [Nat.add_zero] at x0
  have hz := ext_size s a (by omega)
  have z1 : (0 : Int) < (s.extract a s.size).size := by omega
  have e0 : (s.extract a s.size).toList.isEmpty = false := by
    rw [Lib.toList_data]
    have : 0 < (s.extract a s.size).data.toList.length := by rw [Array.length_toList]; exact i0
    cases hq : (s.extract a s.size).data.toList with
    | nil => rw [hq] at this; cases this
    | cons _ _ => rfl
  obtain ⟨i1, x1⟩ := rest_at s a 1 (by omega)
  unfold digB at h1
  rw [decide_eq_false_iff_not] at h1
  obtain ⟨d, hdd⟩ : ∃ d, pk s (a + 1) = d := ⟨_, rfl⟩
  rw [hdd] at x1 h1 hx
  obtain ⟨c, hcc⟩ : ∃ c, pk s a = c := ⟨_, rfl⟩
  rw [hcc] at x0 hyp
  have f1 : ((c : Int) == 43) = false := by rw [beq_eq_false_iff_ne]; omega
  have f2 : ((c : Int) == 45) = false := by rw [beq_eq_false_iff_ne]; omega
  have f3 : ((c : Int) == 40) = false := by rw [beq_eq_false_iff_ne]; omega
  have g1 : decide ((49 : Int) ≤ c) = true := decide_eq_true (by omega)
  have g2 : decide ((c : Int) ≤ 51) = true := decide_eq_true (by omega)
  have z2 : (1 : Int) < (s.extract a s.size).size := by omega
  have g3 : decide ((48 : Int) ≤ d) = true := decide_eq_true (by omega)
  have g4 : decide ((d : Int) ≤ 57) = false := decide_eq_false (by omega)
  clear h1 hcc hdd hyp hx
  have h0 := h
  obtain ⟨c0, -, -, -, cl⟩ := h.cells
  have HR := Lib.hid hR
  have Hz := Lib.hid hz
  clear hz hR
  have HX0 := x0
  clear x0
  go_enter Try.func41, Try.ntmps41
  go_wp2_with fail
  refine (row_at _ b base v s (a) l 1 h0 hs (by omega) (by decide) R HR.out).mono ?_
  rcases R with _ | x
  · rintro e w2 ⟨o, rfl, b2⟩
    exact ⟨rfl, o, rfl, (Below.refl _ _).trans b2⟩
  · rintro e w2 ⟨rfl, ⟨v2, h2⟩, b2⟩
    go_wp2_with fail
    refine (add_at _ b base v2 s _ l 11 ⟨#[]⟩ x h2 hl).mono ?_
    rintro e w3 ⟨rfl, ⟨v3, h3⟩, b3⟩
    go_wp2
    go_end0
    exact ⟨rfl, ⟨v3, h3⟩, ((Below.refl _ _).trans b2).trans b3⟩
set_option maxHeartbeats 2000000 in
theorem size_none (w : World) (b base : Nat) (v : Value) (s : ByteArray) (a : Nat) (l : List Tok) (h : At w b base v s a l) (ha : s.size ≤ a) :
    Calls Try.prog 41 #[.pointer (some ⟨b, 0, none⟩)] w (Bad base w) := by
  have e0 : (s.extract a s.size).toList.isEmpty = true := by
    rw [Lib.toList_data, ext_list, show s.size - a = 0 by omega, List.take_zero]; rfl
  have ht := h.top
  obtain ⟨c0, -, -, -, cl⟩ := h.cells
  go_enter Try.func41, Try.ntmps41
  go_wp2_with fail
  refine (bad_calls _).mono ?_
  rintro e w3 ⟨o, rfl, b3⟩
  exact ⟨rfl, o, rfl, b3.mono ht⟩
theorem size_calls (w : World) (b base : Nat) (v : Value) (s : ByteArray) (a : Nat) (l : List Tok) (h : At w b base v s a l) (hs : s.size ≤ 1000000) (hl : l.length ≤ 1000000) (ha : a ≤ s.size) :
    Calls Try.prog 41 #[.pointer (some ⟨b, 0, none⟩)] w (SizeP b base s l w (sizeM s a)) := by
  have one : ∀ k, k ≤ s.size → (if k + 1 ≤ s.size then rowF s 1 0 k else none) = if digB (pk s k) = true then some (pk s k - 48) else none := by
    intro k hk
    rw [rowF_one]
    by_cases h1 : digB (pk s k) = true
    · have := dig_lt h1
      rw [if_pos (by omega)]
    · rw [if_neg h1]; split <;> rfl
  have two : ∀ k, (if k + 2 ≤ s.size then rowF s 2 0 k else none) = if digB (pk s k) = true ∧ digB (pk s (k + 1)) = true then some ((pk s k - 48) * 10 + (pk s (k + 1) - 48)) else none := by
    intro k
    rw [rowF_two]
    by_cases h1 : digB (pk s k) = true ∧ digB (pk s (k + 1)) = true
    · have := dig_lt h1.2
      rw [if_pos (by omega)]
    · rw [if_neg h1]; split <;> rfl
  by_cases hlt : a < s.size
  · unfold sizeM
    by_cases h1 : pk s a = 43 ∨ pk s a = 45
    · rw [if_pos h1]
      have e : (if digB (pk s (a + 1)) = true then some (oneS (pk s a), pk s (a + 1) - 48, a + 2) else none) = tok11 (oneS (pk s a)) (a + 2) (if a + 1 + 1 ≤ s.size then rowF s 1 0 (a + 1) else none) := by
        rw [one (a + 1) (by omega)]
        split <;> rfl
      rw [e]
      rcases h1 with h1 | h1
      · have := size_sign43 w b base v s a l h hs hl hlt h1 _ rfl
        rw [h1]; exact this
      · have := size_sign45 w b base v s a l h hs hl hlt h1 _ rfl
        rw [h1]; exact this
    · rw [if_neg h1]
      by_cases h2 : pk s a = 40
      · rw [if_pos h2]
        have e : (if digB (pk s (a + 1)) = true ∧ digB (pk s (a + 2)) = true then some ((⟨#[]⟩ : ByteArray), (pk s (a + 1) - 48) * 10 + (pk s (a + 2) - 48), a + 3) else none) = tok11 ⟨#[]⟩ (a + 3) (if a + 1 + 2 ≤ s.size then rowF s 2 0 (a + 1) else none) := by
          rw [two (a + 1)]
          split <;> rfl
        rw [e]
        exact size_par w b base v s a l h hs hl hlt h2 _ rfl
      · rw [if_neg h2]
        have eo : (if digB (pk s a) = true then some ((⟨#[]⟩ : ByteArray), pk s a - 48, a + 1) else none) = tok11 ⟨#[]⟩ (a + 1) (if a + 1 ≤ s.size then rowF s 1 0 a else none) := by
          rw [one a ha]
          split <;> rfl
        by_cases h3 : 49 ≤ pk s a ∧ pk s a ≤ 51
        · rcases hd : digB (pk s (a + 1)) with _ | _
          · rw [if_neg (by rintro ⟨-, -, h⟩; cases h), eo]
            by_cases he : a + 1 < s.size
            · by_cases hx : pk s (a + 1) < 48
              · exact size_nodiga w b base v s a l h hs hl hlt h3 he hd hx _ rfl
              · exact size_nodigb w b base v s a l h hs hl hlt h3 he hd hx _ rfl
            · exact size_short w b base v s a l h hs hl hlt h3 he _ rfl
          · rw [if_pos ⟨h3.1, h3.2, rfl⟩]
            have hdg : digB (pk s a) = true := decide_eq_true (by omega)
            have e : some ((⟨#[]⟩ : ByteArray), (pk s a - 48) * 10 + (pk s (a + 1) - 48), a + 2) = tok11 ⟨#[]⟩ (a + 2) (if a + 2 ≤ s.size then rowF s 2 0 a else none) := by
              rw [two a, if_pos ⟨hdg, hd⟩]
              rfl
            rw [e]
            exact size_big w b base v s a l h hs hl hlt h3 hd _ rfl
        · rw [if_neg (fun h => h3 ⟨h.1, h.2.1⟩), eo]
          by_cases h4 : pk s a < 49
          · exact size_low w b base v s a l h hs hl hlt h4 ⟨fun h => h1 (.inl h), fun h => h1 (.inr h), h2⟩ _ rfl
          · exact size_high w b base v s a l h hs hl hlt (by omega) _ rfl
  · have hz : pk s a = 0 := by unfold pk; rw [dif_neg hlt]
    have hn : sizeM s a = none := by
      unfold sizeM
      rw [hz, if_neg (by decide), if_neg (by decide), if_neg (by rintro ⟨h, -⟩; exact absurd h (by decide)), if_neg (by decide)]
    rw [hn]
    exact size_none w b base v s a l h (by omega)
end Go.Proofs.Ytaokofnhkojllaa

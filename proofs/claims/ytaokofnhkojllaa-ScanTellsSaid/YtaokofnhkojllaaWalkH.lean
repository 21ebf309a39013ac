/- Walks of layer 10's reader: escape's other ways. -/
import Derived.Test.YtaokofnhkojllaaWalkG
set_option linter.unusedVariables false
set_option linter.unusedSimpArgs false
namespace Go.Proofs.Ytaokofnhkojllaa
open Go.Shelf Go.RowKit Go.Lib Go.Aids Go.MapLit Go.Proofs.YtaokofnhkojllaaW.PrintWords

theorem cons_ext (s : ByteArray) (a : Nat) (h : a < s.size) : oneS (pk s a) ++ s.extract (a + 1) s.size = s.extract a s.size := by
  apply ba_eq
  rw [ByteArray.data_append, Array.toList_append, ext_list, ext_list]
  have hl : a < s.data.toList.length := by rw [Array.length_toList]; exact h
  rw [List.drop_eq_getElem_cons hl, get_data s a h, show s.size - a = (s.size - (a + 1)) + 1 by omega, List.take_succ_cons]
  rfl
theorem back_at {w : World} {b base : Nat} {v : Value} {s : ByteArray} {a : Nat} {l : List Tok} (h : At w b base v s (a + 1) l) (ha : a < s.size) (c : Nat) (hc : pk s a = c) : At (w.setCell ⟨b, 0, none⟩ (.string (oneS c ++ s.extract (a + 1) s.size))) b base v s a l := by
  subst hc
  rw [cons_ext s a ha]
  exact Rd.set0 h _
def sizeE : Option (ByteArray × Nat × Nat) → Esc
  | some (t, n, b) => .go [⟨11, t, n⟩] b
  | none => .bad
theorem enc_low (c : Nat) (h : c < 128) : Utf8.encode (c : Int) = oneS c := by
  unfold Utf8.encode
  have hv : Utf8.valid (c : Int) = true := by unfold Utf8.valid; simp; omega
  simp only [hv, if_true]
  rw [show ((c : Int)).toNat = c by omega, if_pos h]
set_option maxHeartbeats 4000000 in
set_option maxRecDepth 100000 in
theorem esc_quotes (w : World) (b base : Nat) (v : Value) (s : ByteArray) (a : Nat) (l : List Tok) (h : At w b base v s a l) (hs : s.size ≤ 1000000) (hl : l.length ≤ 1000000) (ha : a < s.size) (k : Int) (hn : look simpleL (pk s a) = none) (hqk : look quotesL (pk s a) = some k) (O : Option (ByteArray × Nat)) (hO : quotedM s (a + 1) = O) :
    Calls Try.prog 27 #[.pointer (some ⟨b, 0, none⟩)] w (EscP b base s l w (namedE k O)) := by
  obtain ⟨T, hz, hx, hT⟩ := take_byte h hs ha
  have HT := Lib.hid hT
  have e0 := rest_full s a ha
  have i1 : (0 : Int) < T.size := by omega
  obtain ⟨c, hc⟩ : ∃ c, pk s a = c := ⟨_, rfl⟩
  rw [hc] at hn hqk hx
  have hf : find simpleI (c : Int) = none := (find_look simpleL c).trans hn
  have hq : find quotesI (c : Int) = some k := (find_look quotesL c).trans hqk
  have HO := Lib.hid hO
  clear hc hn hqk hO
  have HX := Lib.hid hx
  have Hf := Lib.hid hf
  have Hq := Lib.hid hq
  clear hx hT hf hq
  obtain ⟨c0, -, -, -, cl⟩ := h.cells
  go_enter Try.func27, Try.ntmps27
  go_wp2_with fail
  refine HT.out.mono ?_
  rintro e w1 ⟨rfl, h1, b1⟩
  clear c0 cl
  have x2 := HX.out
  go_wp2_with fail
  refine (simple_calls _).mono ?_
  rintro e w2 ⟨rfl, hm, b2⟩
  have h2 := h1.below b2
  have B2 := b1.trans (b2.mono h1.top)
  have hl2 := run_lookup eK eT keyU Try.underlying68 zeroT simpleI (c : Int) hm true
  rw [Hf.out] at hl2
  simp only [if_true, Option.map_none, Option.getD_none, Option.isSome_none] at hl2
  clear b1 b2
  have h3 := h2.below ((Below.refl _ _).alloc (Nat.le_refl _) (.cells #[.int .i64 0, .string ⟨#[]⟩, .int .i64 0] 28))
  have B3 := B2.alloc h2.top (.cells #[.int .i64 0, .string ⟨#[]⟩, .int .i64 0] 28)
  have HH := Lib.hid hm
  clear hm x2
  go_wp2_with fail
  refine (quotes_calls _).mono ?_
  rintro e w4 ⟨rfl, hm4, b4⟩
  have h4 := h3.below b4
  have B4 := B3.trans (b4.mono h3.top)
  rw [show (w2.alloc (.cells #[.int .i64 0, .string ⟨#[]⟩, .int .i64 0] 28)).heap.size = w2.heap.size + 1 by simp] at hm4
  have hl4 := run_lookup eK eI keyU Try.underlying71 zeroI quotesI (c : Int) hm4 true
  rw [Hq.out] at hl4
  simp only [if_true, Option.map_none, Option.getD_none, Option.isSome_none, Option.map_some, Option.getD_some, Option.isSome_some] at hl4
  have HM := Lib.hid hm4
  clear hl2 hm4 b4 B3 h3 h2 B2
  obtain ⟨c0, -, f0, -, cl⟩ := h4.cells
  have hC := quoted_calls _ b base v s (a + 1) l h4 hs (by omega)
  rw [HO.out] at hC
  have HC := Lib.hid hC
  clear hC
  go_wp2_with fail
  refine HC.out.mono ?_
  rcases O with _ | ⟨t, a'⟩
  · rintro e w5 ⟨o, rfl, b5⟩
    exact ⟨rfl, o, rfl, B4.trans b5⟩
  · rintro e w5 ⟨rfl, ⟨v5, h5⟩, b5⟩
    have B5 := B4.trans b5
    clear c0 cl f0 hl4 b5
    go_wp2_with fail
    refine (add_at _ b base v5 s _ l k t 0 h5 hl).mono ?_
    rintro e w6 ⟨rfl, ⟨v6, h6⟩, b6⟩
    go_wp2
    go_ret
    exact ⟨rfl, ⟨v6, h6⟩, B5.trans b6⟩

set_option maxHeartbeats 4000000 in
set_option maxRecDepth 100000 in
theorem esc_102 (w : World) (b base : Nat) (v : Value) (s : ByteArray) (a : Nat) (l : List Tok) (h : At w b base v s a l) (hs : s.size ≤ 1000000) (hl : l.length ≤ 1000000) (ha : a < s.size) (hk : pk s a = 102) (O : Option (ByteArray × Nat)) (hO : nameM 1 20 s (a + 1) = O) :
    Calls Try.prog 27 #[.pointer (some ⟨b, 0, none⟩)] w (EscP b base s l w (namedE 10 O)) := by
  obtain ⟨T, hz, hx, hT⟩ := take_byte h hs ha
  have HT := Lib.hid hT
  have e0 := rest_full s a ha
  have i1 : (0 : Int) < T.size := by omega
  rw [hk] at hx
  have hf : find simpleI (102 : Int) = none := rfl
  have hq : find quotesI (102 : Int) = none := rfl
  have HO := Lib.hid hO
  clear hk hO
  have HX := Lib.hid hx
  have Hf := Lib.hid hf
  have Hq := Lib.hid hq
  clear hx hT hf hq
  obtain ⟨c0, -, -, -, cl⟩ := h.cells
  go_enter Try.func27, Try.ntmps27
  go_wp2_with fail
  refine HT.out.mono ?_
  rintro e w1 ⟨rfl, h1, b1⟩
  clear c0 cl
  have x2 := HX.out
  go_wp2_with fail
  refine (simple_calls _).mono ?_
  rintro e w2 ⟨rfl, hm, b2⟩
  have h2 := h1.below b2
  have B2 := b1.trans (b2.mono h1.top)
  have hl2 := run_lookup eK eT keyU Try.underlying68 zeroT simpleI (102 : Int) hm true
  rw [Hf.out] at hl2
  simp only [if_true, Option.map_none, Option.getD_none, Option.isSome_none] at hl2
  clear b1 b2
  have h3 := h2.below ((Below.refl _ _).alloc (Nat.le_refl _) (.cells #[.int .i64 0, .string ⟨#[]⟩, .int .i64 0] 28))
  have B3 := B2.alloc h2.top (.cells #[.int .i64 0, .string ⟨#[]⟩, .int .i64 0] 28)
  have HH := Lib.hid hm
  clear hm x2
  go_wp2_with fail
  refine (quotes_calls _).mono ?_
  rintro e w4 ⟨rfl, hm4, b4⟩
  have h4 := h3.below b4
  have B4 := B3.trans (b4.mono h3.top)
  rw [show (w2.alloc (.cells #[.int .i64 0, .string ⟨#[]⟩, .int .i64 0] 28)).heap.size = w2.heap.size + 1 by simp] at hm4
  have hl4 := run_lookup eK eI keyU Try.underlying71 zeroI quotesI (102 : Int) hm4 true
  rw [Hq.out] at hl4
  simp only [if_true, Option.map_none, Option.getD_none, Option.isSome_none, Option.map_some, Option.getD_some, Option.isSome_some] at hl4
  have HM := Lib.hid hm4
  clear hl2 hm4 b4 B3 h3 h2 B2
  obtain ⟨c0, -, f0, -, cl⟩ := h4.cells
  have hC := name_calls _ b base v s (a + 1) l 1 20 h4 hs (by omega)
  rw [HO.out] at hC
  have HC := Lib.hid hC
  clear hC
  go_wp2_with fail
  refine HC.out.mono ?_
  rcases O with _ | ⟨t, a'⟩
  · rintro e w5 ⟨o, rfl, b5⟩
    exact ⟨rfl, o, rfl, B4.trans b5⟩
  · rintro e w5 ⟨rfl, ⟨v5, h5⟩, b5⟩
    have B5 := B4.trans b5
    clear c0 cl f0 hl4 b5
    go_wp2_with fail
    refine (add_at _ b base v5 s _ l 10 t 0 h5 hl).mono ?_
    rintro e w6 ⟨rfl, ⟨v6, h6⟩, b6⟩
    go_wp2
    go_ret
    exact ⟨rfl, ⟨v6, h6⟩, B5.trans b6⟩

set_option maxHeartbeats 4000000 in
set_option maxRecDepth 100000 in
theorem esc_109 (w : World) (b base : Nat) (v : Value) (s : ByteArray) (a : Nat) (l : List Tok) (h : At w b base v s a l) (hs : s.size ≤ 1000000) (hl : l.length ≤ 1000000) (ha : a < s.size) (hk : pk s a = 109) (O : Option (ByteArray × Nat)) (hO : nameM 0 20 s (a + 1) = O) :
    Calls Try.prog 27 #[.pointer (some ⟨b, 0, none⟩)] w (EscP b base s l w (namedE 21 O)) := by
  obtain ⟨T, hz, hx, hT⟩ := take_byte h hs ha
  have HT := Lib.hid hT
  have e0 := rest_full s a ha
  have i1 : (0 : Int) < T.size := by omega
  rw [hk] at hx
  have hf : find simpleI (109 : Int) = none := rfl
  have hq : find quotesI (109 : Int) = none := rfl
  have HO := Lib.hid hO
  clear hk hO
  have HX := Lib.hid hx
  have Hf := Lib.hid hf
  have Hq := Lib.hid hq
  clear hx hT hf hq
  obtain ⟨c0, -, -, -, cl⟩ := h.cells
  go_enter Try.func27, Try.ntmps27
  go_wp2_with fail
  refine HT.out.mono ?_
  rintro e w1 ⟨rfl, h1, b1⟩
  clear c0 cl
  have x2 := HX.out
  go_wp2_with fail
  refine (simple_calls _).mono ?_
  rintro e w2 ⟨rfl, hm, b2⟩
  have h2 := h1.below b2
  have B2 := b1.trans (b2.mono h1.top)
  have hl2 := run_lookup eK eT keyU Try.underlying68 zeroT simpleI (109 : Int) hm true
  rw [Hf.out] at hl2
  simp only [if_true, Option.map_none, Option.getD_none, Option.isSome_none] at hl2
  clear b1 b2
  have h3 := h2.below ((Below.refl _ _).alloc (Nat.le_refl _) (.cells #[.int .i64 0, .string ⟨#[]⟩, .int .i64 0] 28))
  have B3 := B2.alloc h2.top (.cells #[.int .i64 0, .string ⟨#[]⟩, .int .i64 0] 28)
  have HH := Lib.hid hm
  clear hm x2
  go_wp2_with fail
  refine (quotes_calls _).mono ?_
  rintro e w4 ⟨rfl, hm4, b4⟩
  have h4 := h3.below b4
  have B4 := B3.trans (b4.mono h3.top)
  rw [show (w2.alloc (.cells #[.int .i64 0, .string ⟨#[]⟩, .int .i64 0] 28)).heap.size = w2.heap.size + 1 by simp] at hm4
  have hl4 := run_lookup eK eI keyU Try.underlying71 zeroI quotesI (109 : Int) hm4 true
  rw [Hq.out] at hl4
  simp only [if_true, Option.map_none, Option.getD_none, Option.isSome_none, Option.map_some, Option.getD_some, Option.isSome_some] at hl4
  have HM := Lib.hid hm4
  clear hl2 hm4 b4 B3 h3 h2 B2
  obtain ⟨c0, -, f0, -, cl⟩ := h4.cells
  have hC := name_calls _ b base v s (a + 1) l 0 20 h4 hs (by omega)
  rw [HO.out] at hC
  have HC := Lib.hid hC
  clear hC
  go_wp2_with fail
  refine HC.out.mono ?_
  rcases O with _ | ⟨t, a'⟩
  · rintro e w5 ⟨o, rfl, b5⟩
    exact ⟨rfl, o, rfl, B4.trans b5⟩
  · rintro e w5 ⟨rfl, ⟨v5, h5⟩, b5⟩
    have B5 := B4.trans b5
    clear c0 cl f0 hl4 b5
    go_wp2_with fail
    refine (add_at _ b base v5 s _ l 21 t 0 h5 hl).mono ?_
    rintro e w6 ⟨rfl, ⟨v6, h6⟩, b6⟩
    go_wp2
    go_ret
    exact ⟨rfl, ⟨v6, h6⟩, B5.trans b6⟩

set_option maxHeartbeats 4000000 in
set_option maxRecDepth 100000 in
theorem esc_107 (w : World) (b base : Nat) (v : Value) (s : ByteArray) (a : Nat) (l : List Tok) (h : At w b base v s a l) (hs : s.size ≤ 1000000) (hl : l.length ≤ 1000000) (ha : a < s.size) (hk : pk s a = 107) (O : Option (ByteArray × Nat)) (hO : nameM 1 20 s (a + 1) = O) :
    Calls Try.prog 27 #[.pointer (some ⟨b, 0, none⟩)] w (EscP b base s l w (namedE 19 O)) := by
  obtain ⟨T, hz, hx, hT⟩ := take_byte h hs ha
  have HT := Lib.hid hT
  have e0 := rest_full s a ha
  have i1 : (0 : Int) < T.size := by omega
  rw [hk] at hx
  have hf : find simpleI (107 : Int) = none := rfl
  have hq : find quotesI (107 : Int) = none := rfl
  have HO := Lib.hid hO
  clear hk hO
  have HX := Lib.hid hx
  have Hf := Lib.hid hf
  have Hq := Lib.hid hq
  clear hx hT hf hq
  obtain ⟨c0, -, -, -, cl⟩ := h.cells
  go_enter Try.func27, Try.ntmps27
  go_wp2_with fail
  refine HT.out.mono ?_
  rintro e w1 ⟨rfl, h1, b1⟩
  clear c0 cl
  have x2 := HX.out
  go_wp2_with fail
  refine (simple_calls _).mono ?_
  rintro e w2 ⟨rfl, hm, b2⟩
  have h2 := h1.below b2
  have B2 := b1.trans (b2.mono h1.top)
  have hl2 := run_lookup eK eT keyU Try.underlying68 zeroT simpleI (107 : Int) hm true
  rw [Hf.out] at hl2
  simp only [if_true, Option.map_none, Option.getD_none, Option.isSome_none] at hl2
  clear b1 b2
  have h3 := h2.below ((Below.refl _ _).alloc (Nat.le_refl _) (.cells #[.int .i64 0, .string ⟨#[]⟩, .int .i64 0] 28))
  have B3 := B2.alloc h2.top (.cells #[.int .i64 0, .string ⟨#[]⟩, .int .i64 0] 28)
  have HH := Lib.hid hm
  clear hm x2
  go_wp2_with fail
  refine (quotes_calls _).mono ?_
  rintro e w4 ⟨rfl, hm4, b4⟩
  have h4 := h3.below b4
  have B4 := B3.trans (b4.mono h3.top)
  rw [show (w2.alloc (.cells #[.int .i64 0, .string ⟨#[]⟩, .int .i64 0] 28)).heap.size = w2.heap.size + 1 by simp] at hm4
  have hl4 := run_lookup eK eI keyU Try.underlying71 zeroI quotesI (107 : Int) hm4 true
  rw [Hq.out] at hl4
  simp only [if_true, Option.map_none, Option.getD_none, Option.isSome_none, Option.map_some, Option.getD_some, Option.isSome_some] at hl4
  have HM := Lib.hid hm4
  clear hl2 hm4 b4 B3 h3 h2 B2
  obtain ⟨c0, -, f0, -, cl⟩ := h4.cells
  have hC := name_calls _ b base v s (a + 1) l 1 20 h4 hs (by omega)
  rw [HO.out] at hC
  have HC := Lib.hid hC
  clear hC
  go_wp2_with fail
  refine HC.out.mono ?_
  rcases O with _ | ⟨t, a'⟩
  · rintro e w5 ⟨o, rfl, b5⟩
    exact ⟨rfl, o, rfl, B4.trans b5⟩
  · rintro e w5 ⟨rfl, ⟨v5, h5⟩, b5⟩
    have B5 := B4.trans b5
    clear c0 cl f0 hl4 b5
    go_wp2_with fail
    refine (add_at _ b base v5 s _ l 19 t 0 h5 hl).mono ?_
    rintro e w6 ⟨rfl, ⟨v6, h6⟩, b6⟩
    go_wp2
    go_ret
    exact ⟨rfl, ⟨v6, h6⟩, B5.trans b6⟩

set_option maxHeartbeats 4000000 in
set_option maxRecDepth 100000 in
theorem esc_40 (w : World) (b base : Nat) (v : Value) (s : ByteArray) (a : Nat) (l : List Tok) (h : At w b base v s a l) (hs : s.size ≤ 1000000) (hl : l.length ≤ 1000000) (ha : a < s.size) (hk : pk s a = 40) (O : Option (ByteArray × Nat)) (hO : nameM 1 10 s a = O) :
    Calls Try.prog 27 #[.pointer (some ⟨b, 0, none⟩)] w (EscP b base s l w (namedE 0 O)) := by
  obtain ⟨T, hz, hx, hT⟩ := take_byte h hs ha
  have HT := Lib.hid hT
  have e0 := rest_full s a ha
  have i1 : (0 : Int) < T.size := by omega
  rw [hk] at hx
  have hf : find simpleI (40 : Int) = none := rfl
  have hq : find quotesI (40 : Int) = none := rfl
  have HO := Lib.hid hO
  have HK := Lib.hid hk
  have henc : Utf8.encode 40 = oneS 40 := enc_low 40 (by decide)
  clear hk hO
  have HX := Lib.hid hx
  have Hf := Lib.hid hf
  have Hq := Lib.hid hq
  clear hx hT hf hq
  obtain ⟨c0, -, -, -, cl⟩ := h.cells
  go_enter Try.func27, Try.ntmps27
  go_wp2_with fail
  refine HT.out.mono ?_
  rintro e w1 ⟨rfl, h1, b1⟩
  clear c0 cl
  have x2 := HX.out
  go_wp2_with fail
  refine (simple_calls _).mono ?_
  rintro e w2 ⟨rfl, hm, b2⟩
  have h2 := h1.below b2
  have B2 := b1.trans (b2.mono h1.top)
  have hl2 := run_lookup eK eT keyU Try.underlying68 zeroT simpleI (40 : Int) hm true
  rw [Hf.out] at hl2
  simp only [if_true, Option.map_none, Option.getD_none, Option.isSome_none] at hl2
  clear b1 b2
  have h3 := h2.below ((Below.refl _ _).alloc (Nat.le_refl _) (.cells #[.int .i64 0, .string ⟨#[]⟩, .int .i64 0] 28))
  have B3 := B2.alloc h2.top (.cells #[.int .i64 0, .string ⟨#[]⟩, .int .i64 0] 28)
  have HH := Lib.hid hm
  clear hm x2
  go_wp2_with fail
  refine (quotes_calls _).mono ?_
  rintro e w4 ⟨rfl, hm4, b4⟩
  have h4 := h3.below b4
  have B4 := B3.trans (b4.mono h3.top)
  rw [show (w2.alloc (.cells #[.int .i64 0, .string ⟨#[]⟩, .int .i64 0] 28)).heap.size = w2.heap.size + 1 by simp] at hm4
  have hl4 := run_lookup eK eI keyU Try.underlying71 zeroI quotesI (40 : Int) hm4 true
  rw [Hq.out] at hl4
  simp only [if_true, Option.map_none, Option.getD_none, Option.isSome_none, Option.map_some, Option.getD_some, Option.isSome_some] at hl4
  have HM := Lib.hid hm4
  clear hl2 hm4 b4 B3 h3 h2 B2
  obtain ⟨c0, -, f0, -, cl⟩ := h4.cells
  have h5' := back_at h4 ha 40 HK.out
  have B5' := B4.setCell (p := ⟨b, 0, none⟩) h4.ge (.string (oneS 40 ++ s.extract (a + 1) s.size))
  have hC := name_calls _ b base v s a l 1 10 h5' hs (by omega)
  rw [HO.out] at hC
  have HC := Lib.hid hC
  clear hC
  go_wp2_with fail
  refine HC.out.mono ?_
  rcases O with _ | ⟨t, a'⟩
  · rintro e w5 ⟨o, rfl, b5⟩
    exact ⟨rfl, o, rfl, B5'.trans b5⟩
  · rintro e w5 ⟨rfl, ⟨v5, h5⟩, b5⟩
    have B5 := B5'.trans b5
    clear c0 cl f0 hl4 b5
    go_wp2_with fail
    refine (add_at _ b base v5 s _ l 0 t 0 h5 hl).mono ?_
    rintro e w6 ⟨rfl, ⟨v6, h6⟩, b6⟩
    go_wp2
    go_ret
    exact ⟨rfl, ⟨v6, h6⟩, B5.trans b6⟩

set_option maxHeartbeats 4000000 in
set_option maxRecDepth 100000 in
theorem esc_91 (w : World) (b base : Nat) (v : Value) (s : ByteArray) (a : Nat) (l : List Tok) (h : At w b base v s a l) (hs : s.size ≤ 1000000) (hl : l.length ≤ 1000000) (ha : a < s.size) (hk : pk s a = 91) (O : Option (ByteArray × Nat)) (hO : nameM 1 10 s a = O) :
    Calls Try.prog 27 #[.pointer (some ⟨b, 0, none⟩)] w (EscP b base s l w (namedE 0 O)) := by
  obtain ⟨T, hz, hx, hT⟩ := take_byte h hs ha
  have HT := Lib.hid hT
  have e0 := rest_full s a ha
  have i1 : (0 : Int) < T.size := by omega
  rw [hk] at hx
  have hf : find simpleI (91 : Int) = none := rfl
  have hq : find quotesI (91 : Int) = none := rfl
  have HO := Lib.hid hO
  have HK := Lib.hid hk
  have henc : Utf8.encode 91 = oneS 91 := enc_low 91 (by decide)
  clear hk hO
  have HX := Lib.hid hx
  have Hf := Lib.hid hf
  have Hq := Lib.hid hq
  clear hx hT hf hq
  obtain ⟨c0, -, -, -, cl⟩ := h.cells
  go_enter Try.func27, Try.ntmps27
  go_wp2_with fail
  refine HT.out.mono ?_
  rintro e w1 ⟨rfl, h1, b1⟩
  clear c0 cl
  have x2 := HX.out
  go_wp2_with fail
  refine (simple_calls _).mono ?_
  rintro e w2 ⟨rfl, hm, b2⟩
  have h2 := h1.below b2
  have B2 := b1.trans (b2.mono h1.top)
  have hl2 := run_lookup eK eT keyU Try.underlying68 zeroT simpleI (91 : Int) hm true
  rw [Hf.out] at hl2
  simp only [if_true, Option.map_none, Option.getD_none, Option.isSome_none] at hl2
  clear b1 b2
  have h3 := h2.below ((Below.refl _ _).alloc (Nat.le_refl _) (.cells #[.int .i64 0, .string ⟨#[]⟩, .int .i64 0] 28))
  have B3 := B2.alloc h2.top (.cells #[.int .i64 0, .string ⟨#[]⟩, .int .i64 0] 28)
  have HH := Lib.hid hm
  clear hm x2
  go_wp2_with fail
  refine (quotes_calls _).mono ?_
  rintro e w4 ⟨rfl, hm4, b4⟩
  have h4 := h3.below b4
  have B4 := B3.trans (b4.mono h3.top)
  rw [show (w2.alloc (.cells #[.int .i64 0, .string ⟨#[]⟩, .int .i64 0] 28)).heap.size = w2.heap.size + 1 by simp] at hm4
  have hl4 := run_lookup eK eI keyU Try.underlying71 zeroI quotesI (91 : Int) hm4 true
  rw [Hq.out] at hl4
  simp only [if_true, Option.map_none, Option.getD_none, Option.isSome_none, Option.map_some, Option.getD_some, Option.isSome_some] at hl4
  have HM := Lib.hid hm4
  clear hl2 hm4 b4 B3 h3 h2 B2
  obtain ⟨c0, -, f0, -, cl⟩ := h4.cells
  have h5' := back_at h4 ha 91 HK.out
  have B5' := B4.setCell (p := ⟨b, 0, none⟩) h4.ge (.string (oneS 91 ++ s.extract (a + 1) s.size))
  have hC := name_calls _ b base v s a l 1 10 h5' hs (by omega)
  rw [HO.out] at hC
  have HC := Lib.hid hC
  clear hC
  go_wp2_with fail
  refine HC.out.mono ?_
  rcases O with _ | ⟨t, a'⟩
  · rintro e w5 ⟨o, rfl, b5⟩
    exact ⟨rfl, o, rfl, B5'.trans b5⟩
  · rintro e w5 ⟨rfl, ⟨v5, h5⟩, b5⟩
    have B5 := B5'.trans b5
    clear c0 cl f0 hl4 b5
    go_wp2_with fail
    refine (add_at _ b base v5 s _ l 0 t 0 h5 hl).mono ?_
    rintro e w6 ⟨rfl, ⟨v6, h6⟩, b6⟩
    go_wp2
    go_ret
    exact ⟨rfl, ⟨v6, h6⟩, B5.trans b6⟩

set_option maxHeartbeats 4000000 in
set_option maxRecDepth 100000 in
theorem esc_115 (w : World) (b base : Nat) (v : Value) (s : ByteArray) (a : Nat) (l : List Tok) (h : At w b base v s a l) (hs : s.size ≤ 1000000) (hl : l.length ≤ 1000000) (ha : a < s.size) (hk : pk s a = 115) (O : Option (ByteArray × Nat × Nat)) (hO : sizeM s (a + 1) = O) :
    Calls Try.prog 27 #[.pointer (some ⟨b, 0, none⟩)] w (EscP b base s l w (sizeE O)) := by
  obtain ⟨T, hz, hx, hT⟩ := take_byte h hs ha
  have HT := Lib.hid hT
  have e0 := rest_full s a ha
  have i1 : (0 : Int) < T.size := by omega
  rw [hk] at hx
  have hf : find simpleI (115 : Int) = none := rfl
  have hq : find quotesI (115 : Int) = none := rfl
  have HO := Lib.hid hO
  clear hk hO
  have HX := Lib.hid hx
  have Hf := Lib.hid hf
  have Hq := Lib.hid hq
  clear hx hT hf hq
  obtain ⟨c0, -, -, -, cl⟩ := h.cells
  go_enter Try.func27, Try.ntmps27
  go_wp2_with fail
  refine HT.out.mono ?_
  rintro e w1 ⟨rfl, h1, b1⟩
  clear c0 cl
  have x2 := HX.out
  go_wp2_with fail
  refine (simple_calls _).mono ?_
  rintro e w2 ⟨rfl, hm, b2⟩
  have h2 := h1.below b2
  have B2 := b1.trans (b2.mono h1.top)
  have hl2 := run_lookup eK eT keyU Try.underlying68 zeroT simpleI (115 : Int) hm true
  rw [Hf.out] at hl2
  simp only [if_true, Option.map_none, Option.getD_none, Option.isSome_none] at hl2
  clear b1 b2
  have h3 := h2.below ((Below.refl _ _).alloc (Nat.le_refl _) (.cells #[.int .i64 0, .string ⟨#[]⟩, .int .i64 0] 28))
  have B3 := B2.alloc h2.top (.cells #[.int .i64 0, .string ⟨#[]⟩, .int .i64 0] 28)
  have HH := Lib.hid hm
  clear hm x2
  go_wp2_with fail
  refine (quotes_calls _).mono ?_
  rintro e w4 ⟨rfl, hm4, b4⟩
  have h4 := h3.below b4
  have B4 := B3.trans (b4.mono h3.top)
  rw [show (w2.alloc (.cells #[.int .i64 0, .string ⟨#[]⟩, .int .i64 0] 28)).heap.size = w2.heap.size + 1 by simp] at hm4
  have hl4 := run_lookup eK eI keyU Try.underlying71 zeroI quotesI (115 : Int) hm4 true
  rw [Hq.out] at hl4
  simp only [if_true, Option.map_none, Option.getD_none, Option.isSome_none, Option.map_some, Option.getD_some, Option.isSome_some] at hl4
  have HM := Lib.hid hm4
  clear hl2 hm4 b4 B3 h3 h2 B2
  obtain ⟨c0, -, f0, -, cl⟩ := h4.cells
  have hC := size_calls _ b base v s (a + 1) l h4 hs hl (by omega)
  rw [HO.out] at hC
  have HC := Lib.hid hC
  clear hC
  go_wp2_with fail
  refine HC.out.mono ?_
  rcases O with _ | ⟨t, n, a'⟩
  · rintro e w5 ⟨o, rfl, b5⟩
    exact ⟨rfl, o, rfl, B4.trans b5⟩
  · rintro e w5 ⟨rfl, ⟨v5, h5⟩, b5⟩
    go_wp2
    go_ret
    exact ⟨rfl, ⟨v5, h5⟩, B4.trans b5⟩

set_option maxHeartbeats 4000000 in
set_option maxRecDepth 100000 in
theorem esc_99 (w : World) (b base : Nat) (v : Value) (s : ByteArray) (a : Nat) (l : List Tok) (h : At w b base v s a l) (hs : s.size ≤ 1000000) (hl : l.length ≤ 1000000) (ha : a < s.size) (hk : pk s a = 99) :
    Calls Try.prog 27 #[.pointer (some ⟨b, 0, none⟩)] w (EscP b base s l w (.stop [⟨20, ⟨#[]⟩, 0⟩])) := by
  obtain ⟨T, hz, hx, hT⟩ := take_byte h hs ha
  have HT := Lib.hid hT
  have e0 := rest_full s a ha
  have i1 : (0 : Int) < T.size := by omega
  rw [hk] at hx
  have hf : find simpleI (99 : Int) = none := rfl
  have hq : find quotesI (99 : Int) = none := rfl
  clear hk
  have HX := Lib.hid hx
  have Hf := Lib.hid hf
  have Hq := Lib.hid hq
  clear hx hT hf hq
  obtain ⟨c0, -, -, -, cl⟩ := h.cells
  go_enter Try.func27, Try.ntmps27
  go_wp2_with fail
  refine HT.out.mono ?_
  rintro e w1 ⟨rfl, h1, b1⟩
  clear c0 cl
  have x2 := HX.out
  go_wp2_with fail
  refine (simple_calls _).mono ?_
  rintro e w2 ⟨rfl, hm, b2⟩
  have h2 := h1.below b2
  have B2 := b1.trans (b2.mono h1.top)
  have hl2 := run_lookup eK eT keyU Try.underlying68 zeroT simpleI (99 : Int) hm true
  rw [Hf.out] at hl2
  simp only [if_true, Option.map_none, Option.getD_none, Option.isSome_none] at hl2
  clear b1 b2
  have h3 := h2.below ((Below.refl _ _).alloc (Nat.le_refl _) (.cells #[.int .i64 0, .string ⟨#[]⟩, .int .i64 0] 28))
  have B3 := B2.alloc h2.top (.cells #[.int .i64 0, .string ⟨#[]⟩, .int .i64 0] 28)
  have HH := Lib.hid hm
  clear hm x2
  go_wp2_with fail
  refine (quotes_calls _).mono ?_
  rintro e w4 ⟨rfl, hm4, b4⟩
  have h4 := h3.below b4
  have B4 := B3.trans (b4.mono h3.top)
  rw [show (w2.alloc (.cells #[.int .i64 0, .string ⟨#[]⟩, .int .i64 0] 28)).heap.size = w2.heap.size + 1 by simp] at hm4
  have hl4 := run_lookup eK eI keyU Try.underlying71 zeroI quotesI (99 : Int) hm4 true
  rw [Hq.out] at hl4
  simp only [if_true, Option.map_none, Option.getD_none, Option.isSome_none, Option.map_some, Option.getD_some, Option.isSome_some] at hl4
  have HM := Lib.hid hm4
  clear hl2 hm4 b4 B3 h3 h2 B2
  obtain ⟨c0, -, f0, -, cl⟩ := h4.cells
  go_wp2_with fail
  refine (add_at _ b base v s _ l 20 ⟨#[]⟩ 0 h4 hl).mono ?_
  rintro e w6 ⟨rfl, ⟨v6, h6⟩, b6⟩
  go_wp2
  go_ret
  exact ⟨rfl, ⟨v6, _, h6⟩, B4.trans b6⟩

set_option maxHeartbeats 4000000 in
set_option maxRecDepth 100000 in
theorem esc_34 (w : World) (b base : Nat) (v : Value) (s : ByteArray) (a : Nat) (l : List Tok) (h : At w b base v s a l) (hs : s.size ≤ 1000000) (hl : l.length ≤ 1000000) (ha : a < s.size) (hk : pk s a = 34) :
    Calls Try.prog 27 #[.pointer (some ⟨b, 0, none⟩)] w (EscP b base s l w (.stop [])) := by
  obtain ⟨T, hz, hx, hT⟩ := take_byte h hs ha
  have HT := Lib.hid hT
  have e0 := rest_full s a ha
  have i1 : (0 : Int) < T.size := by omega
  rw [hk] at hx
  have hf : find simpleI (34 : Int) = none := rfl
  have hq : find quotesI (34 : Int) = none := rfl
  clear hk
  have HX := Lib.hid hx
  have Hf := Lib.hid hf
  have Hq := Lib.hid hq
  clear hx hT hf hq
  obtain ⟨c0, -, -, -, cl⟩ := h.cells
  go_enter Try.func27, Try.ntmps27
  go_wp2_with fail
  refine HT.out.mono ?_
  rintro e w1 ⟨rfl, h1, b1⟩
  clear c0 cl
  have x2 := HX.out
  go_wp2_with fail
  refine (simple_calls _).mono ?_
  rintro e w2 ⟨rfl, hm, b2⟩
  have h2 := h1.below b2
  have B2 := b1.trans (b2.mono h1.top)
  have hl2 := run_lookup eK eT keyU Try.underlying68 zeroT simpleI (34 : Int) hm true
  rw [Hf.out] at hl2
  simp only [if_true, Option.map_none, Option.getD_none, Option.isSome_none] at hl2
  clear b1 b2
  have h3 := h2.below ((Below.refl _ _).alloc (Nat.le_refl _) (.cells #[.int .i64 0, .string ⟨#[]⟩, .int .i64 0] 28))
  have B3 := B2.alloc h2.top (.cells #[.int .i64 0, .string ⟨#[]⟩, .int .i64 0] 28)
  have HH := Lib.hid hm
  clear hm x2
  go_wp2_with fail
  refine (quotes_calls _).mono ?_
  rintro e w4 ⟨rfl, hm4, b4⟩
  have h4 := h3.below b4
  have B4 := B3.trans (b4.mono h3.top)
  rw [show (w2.alloc (.cells #[.int .i64 0, .string ⟨#[]⟩, .int .i64 0] 28)).heap.size = w2.heap.size + 1 by simp] at hm4
  have hl4 := run_lookup eK eI keyU Try.underlying71 zeroI quotesI (34 : Int) hm4 true
  rw [Hq.out] at hl4
  simp only [if_true, Option.map_none, Option.getD_none, Option.isSome_none, Option.map_some, Option.getD_some, Option.isSome_some] at hl4
  have HM := Lib.hid hm4
  clear hl2 hm4 b4 B3 h3 h2 B2
  obtain ⟨c0, -, f0, -, cl⟩ := h4.cells
  go_wp2
  go_ret
  exact ⟨rfl, ⟨v, _, by rw [List.append_nil]; exact h4⟩, B4⟩

set_option maxHeartbeats 4000000 in
set_option maxRecDepth 100000 in
theorem esc_123 (w : World) (b base : Nat) (v : Value) (s : ByteArray) (a : Nat) (l : List Tok) (h : At w b base v s a l) (hs : s.size ≤ 1000000) (hl : l.length ≤ 1000000) (ha : a < s.size) (hk : pk s a = 123) :
    Calls Try.prog 27 #[.pointer (some ⟨b, 0, none⟩)] w (EscP b base s l w (.go [] (a + 1))) := by
  obtain ⟨T, hz, hx, hT⟩ := take_byte h hs ha
  have HT := Lib.hid hT
  have e0 := rest_full s a ha
  have i1 : (0 : Int) < T.size := by omega
  rw [hk] at hx
  have hf : find simpleI (123 : Int) = none := rfl
  have hq : find quotesI (123 : Int) = none := rfl
  clear hk
  have HX := Lib.hid hx
  have Hf := Lib.hid hf
  have Hq := Lib.hid hq
  clear hx hT hf hq
  obtain ⟨c0, -, -, -, cl⟩ := h.cells
  go_enter Try.func27, Try.ntmps27
  go_wp2_with fail
  refine HT.out.mono ?_
  rintro e w1 ⟨rfl, h1, b1⟩
  clear c0 cl
  have x2 := HX.out
  go_wp2_with fail
  refine (simple_calls _).mono ?_
  rintro e w2 ⟨rfl, hm, b2⟩
  have h2 := h1.below b2
  have B2 := b1.trans (b2.mono h1.top)
  have hl2 := run_lookup eK eT keyU Try.underlying68 zeroT simpleI (123 : Int) hm true
  rw [Hf.out] at hl2
  simp only [if_true, Option.map_none, Option.getD_none, Option.isSome_none] at hl2
  clear b1 b2
  have h3 := h2.below ((Below.refl _ _).alloc (Nat.le_refl _) (.cells #[.int .i64 0, .string ⟨#[]⟩, .int .i64 0] 28))
  have B3 := B2.alloc h2.top (.cells #[.int .i64 0, .string ⟨#[]⟩, .int .i64 0] 28)
  have HH := Lib.hid hm
  clear hm x2
  go_wp2_with fail
  refine (quotes_calls _).mono ?_
  rintro e w4 ⟨rfl, hm4, b4⟩
  have h4 := h3.below b4
  have B4 := B3.trans (b4.mono h3.top)
  rw [show (w2.alloc (.cells #[.int .i64 0, .string ⟨#[]⟩, .int .i64 0] 28)).heap.size = w2.heap.size + 1 by simp] at hm4
  have hl4 := run_lookup eK eI keyU Try.underlying71 zeroI quotesI (123 : Int) hm4 true
  rw [Hq.out] at hl4
  simp only [if_true, Option.map_none, Option.getD_none, Option.isSome_none, Option.map_some, Option.getD_some, Option.isSome_some] at hl4
  have HM := Lib.hid hm4
  clear hl2 hm4 b4 B3 h3 h2 B2
  obtain ⟨c0, -, f0, -, cl⟩ := h4.cells
  go_wp2
  go_ret
  exact ⟨rfl, ⟨v, by rw [List.append_nil]; exact h4⟩, B4⟩

set_option maxHeartbeats 4000000 in
set_option maxRecDepth 100000 in
theorem esc_125 (w : World) (b base : Nat) (v : Value) (s : ByteArray) (a : Nat) (l : List Tok) (h : At w b base v s a l) (hs : s.size ≤ 1000000) (hl : l.length ≤ 1000000) (ha : a < s.size) (hk : pk s a = 125) :
    Calls Try.prog 27 #[.pointer (some ⟨b, 0, none⟩)] w (EscP b base s l w (.go [] (a + 1))) := by
  obtain ⟨T, hz, hx, hT⟩ := take_byte h hs ha
  have HT := Lib.hid hT
  have e0 := rest_full s a ha
  have i1 : (0 : Int) < T.size := by omega
  rw [hk] at hx
  have hf : find simpleI (125 : Int) = none := rfl
  have hq : find quotesI (125 : Int) = none := rfl
  clear hk
  have HX := Lib.hid hx
  have Hf := Lib.hid hf
  have Hq := Lib.hid hq
  clear hx hT hf hq
  obtain ⟨c0, -, -, -, cl⟩ := h.cells
  go_enter Try.func27, Try.ntmps27
  go_wp2_with fail
  refine HT.out.mono ?_
  rintro e w1 ⟨rfl, h1, b1⟩
  clear c0 cl
  have x2 := HX.out
  go_wp2_with fail
  refine (simple_calls _).mono ?_
  rintro e w2 ⟨rfl, hm, b2⟩
  have h2 := h1.below b2
  have B2 := b1.trans (b2.mono h1.top)
  have hl2 := run_lookup eK eT keyU Try.underlying68 zeroT simpleI (125 : Int) hm true
  rw [Hf.out] at hl2
  simp only [if_true, Option.map_none, Option.getD_none, Option.isSome_none] at hl2
  clear b1 b2
  have h3 := h2.below ((Below.refl _ _).alloc (Nat.le_refl _) (.cells #[.int .i64 0, .string ⟨#[]⟩, .int .i64 0] 28))
  have B3 := B2.alloc h2.top (.cells #[.int .i64 0, .string ⟨#[]⟩, .int .i64 0] 28)
  have HH := Lib.hid hm
  clear hm x2
  go_wp2_with fail
  refine (quotes_calls _).mono ?_
  rintro e w4 ⟨rfl, hm4, b4⟩
  have h4 := h3.below b4
  have B4 := B3.trans (b4.mono h3.top)
  rw [show (w2.alloc (.cells #[.int .i64 0, .string ⟨#[]⟩, .int .i64 0] 28)).heap.size = w2.heap.size + 1 by simp] at hm4
  have hl4 := run_lookup eK eI keyU Try.underlying71 zeroI quotesI (125 : Int) hm4 true
  rw [Hq.out] at hl4
  simp only [if_true, Option.map_none, Option.getD_none, Option.isSome_none, Option.map_some, Option.getD_some, Option.isSome_some] at hl4
  have HM := Lib.hid hm4
  clear hl2 hm4 b4 B3 h3 h2 B2
  obtain ⟨c0, -, f0, -, cl⟩ := h4.cells
  go_wp2
  go_ret
  exact ⟨rfl, ⟨v, by rw [List.append_nil]; exact h4⟩, B4⟩

set_option maxHeartbeats 4000000 in
set_option maxRecDepth 100000 in
theorem esc_seen (w : World) (b base : Nat) (v : Value) (s : ByteArray) (a : Nat) (l : List Tok) (h : At w b base v s a l) (hs : s.size ≤ 1000000) (hl : l.length ≤ 1000000) (ha : a < s.size) (hn : look simpleL (pk s a) = none) (hqn : look quotesL (pk s a) = none) (hne : pk s a ≠ 40 ∧ pk s a ≠ 91 ∧ pk s a ≠ 102 ∧ pk s a ≠ 109 ∧ pk s a ≠ 107 ∧ pk s a ≠ 115 ∧ pk s a ≠ 99 ∧ pk s a ≠ 34 ∧ pk s a ≠ 123 ∧ pk s a ≠ 125) (hsn : 32 < pk s a ∧ pk s a < 127) (C : Nat) (hC : pk s a = C) :
    Calls Try.prog 27 #[.pointer (some ⟨b, 0, none⟩)] w (EscP b base s l w (.go [⟨0, oneS C, 0⟩] (a + 1))) := by
  obtain ⟨T, hz, hx, hT⟩ := take_byte h hs ha
  have HT := Lib.hid hT
  have e0 := rest_full s a ha
  have i1 : (0 : Int) < T.size := by omega
  obtain ⟨c, hc⟩ : ∃ c, pk s a = c := ⟨_, rfl⟩
  rw [hc] at hC hn hqn hx hne hsn
  have hf : find simpleI (c : Int) = none := (find_look simpleL c).trans hn
  have hq : find quotesI (c : Int) = none := (find_look quotesL c).trans hqn
  have n40 : ((c : Int) == 40) = false := by rw [beq_eq_false_iff_ne]; omega
  have n91 : ((c : Int) == 91) = false := by rw [beq_eq_false_iff_ne]; omega
  have n102 : ((c : Int) == 102) = false := by rw [beq_eq_false_iff_ne]; omega
  have n109 : ((c : Int) == 109) = false := by rw [beq_eq_false_iff_ne]; omega
  have n107 : ((c : Int) == 107) = false := by rw [beq_eq_false_iff_ne]; omega
  have n115 : ((c : Int) == 115) = false := by rw [beq_eq_false_iff_ne]; omega
  have n99 : ((c : Int) == 99) = false := by rw [beq_eq_false_iff_ne]; omega
  have n34 : ((c : Int) == 34) = false := by rw [beq_eq_false_iff_ne]; omega
  have n123 : ((c : Int) == 123) = false := by rw [beq_eq_false_iff_ne]; omega
  have n125 : ((c : Int) == 125) = false := by rw [beq_eq_false_iff_ne]; omega
  subst hC
  have henc : Utf8.encode (wrap32 (c : Int)) = oneS c := by
    rw [show wrap32 (c : Int) = c by unfold wrap32; omega]
    exact enc_low c (by omega)
  have d1 : decide ((32 : Int) < c) = true := decide_eq_true (by omega)
  have d2 : decide ((c : Int) < 127) = true := decide_eq_true (by omega)
  clear hc hn hqn hne hsn
  have HX := Lib.hid hx
  have Hf := Lib.hid hf
  have Hq := Lib.hid hq
  clear hx hT hf hq
  obtain ⟨c0, -, -, -, cl⟩ := h.cells
  go_enter Try.func27, Try.ntmps27
  go_wp2_with fail
  refine HT.out.mono ?_
  rintro e w1 ⟨rfl, h1, b1⟩
  clear c0 cl
  have x2 := HX.out
  go_wp2_with fail
  refine (simple_calls _).mono ?_
  rintro e w2 ⟨rfl, hm, b2⟩
  have h2 := h1.below b2
  have B2 := b1.trans (b2.mono h1.top)
  have hl2 := run_lookup eK eT keyU Try.underlying68 zeroT simpleI (c : Int) hm true
  rw [Hf.out] at hl2
  simp only [if_true, Option.map_none, Option.getD_none, Option.isSome_none] at hl2
  clear b1 b2
  have h3 := h2.below ((Below.refl _ _).alloc (Nat.le_refl _) (.cells #[.int .i64 0, .string ⟨#[]⟩, .int .i64 0] 28))
  have B3 := B2.alloc h2.top (.cells #[.int .i64 0, .string ⟨#[]⟩, .int .i64 0] 28)
  have HH := Lib.hid hm
  clear hm x2
  go_wp2_with fail
  refine (quotes_calls _).mono ?_
  rintro e w4 ⟨rfl, hm4, b4⟩
  have h4 := h3.below b4
  have B4 := B3.trans (b4.mono h3.top)
  rw [show (w2.alloc (.cells #[.int .i64 0, .string ⟨#[]⟩, .int .i64 0] 28)).heap.size = w2.heap.size + 1 by simp] at hm4
  have hl4 := run_lookup eK eI keyU Try.underlying71 zeroI quotesI (c : Int) hm4 true
  rw [Hq.out] at hl4
  simp only [if_true, Option.map_none, Option.getD_none, Option.isSome_none, Option.map_some, Option.getD_some, Option.isSome_some] at hl4
  have HM := Lib.hid hm4
  clear hl2 hm4 b4 B3 h3 h2 B2
  obtain ⟨c0, -, f0, -, cl⟩ := h4.cells
  go_wp2_with fail
  refine (add_at _ b base v s _ l 0 (oneS c) 0 h4 hl).mono ?_
  rintro e w6 ⟨rfl, ⟨v6, h6⟩, b6⟩
  go_wp2
  go_ret
  exact ⟨rfl, ⟨v6, h6⟩, B4.trans b6⟩

set_option maxHeartbeats 4000000 in
set_option maxRecDepth 100000 in
theorem esc_low (w : World) (b base : Nat) (v : Value) (s : ByteArray) (a : Nat) (l : List Tok) (h : At w b base v s a l) (hs : s.size ≤ 1000000) (hl : l.length ≤ 1000000) (ha : a < s.size) (hn : look simpleL (pk s a) = none) (hqn : look quotesL (pk s a) = none) (hne : pk s a ≠ 40 ∧ pk s a ≠ 91 ∧ pk s a ≠ 102 ∧ pk s a ≠ 109 ∧ pk s a ≠ 107 ∧ pk s a ≠ 115 ∧ pk s a ≠ 99 ∧ pk s a ≠ 34 ∧ pk s a ≠ 123 ∧ pk s a ≠ 125) (hsn : pk s a ≤ 32) :
    Calls Try.prog 27 #[.pointer (some ⟨b, 0, none⟩)] w (EscP b base s l w (.go [] (a + 1))) := by
  obtain ⟨T, hz, hx, hT⟩ := take_byte h hs ha
  have HT := Lib.hid hT
  have e0 := rest_full s a ha
  have i1 : (0 : Int) < T.size := by omega
  obtain ⟨c, hc⟩ : ∃ c, pk s a = c := ⟨_, rfl⟩
  rw [hc] at hn hqn hx hne hsn
  have hf : find simpleI (c : Int) = none := (find_look simpleL c).trans hn
  have hq : find quotesI (c : Int) = none := (find_look quotesL c).trans hqn
  have n40 : ((c : Int) == 40) = false := by rw [beq_eq_false_iff_ne]; omega
  have n91 : ((c : Int) == 91) = false := by rw [beq_eq_false_iff_ne]; omega
  have n102 : ((c : Int) == 102) = false := by rw [beq_eq_false_iff_ne]; omega
  have n109 : ((c : Int) == 109) = false := by rw [beq_eq_false_iff_ne]; omega
  have n107 : ((c : Int) == 107) = false := by rw [beq_eq_false_iff_ne]; omega
  have n115 : ((c : Int) == 115) = false := by rw [beq_eq_false_iff_ne]; omega
  have n99 : ((c : Int) == 99) = false := by rw [beq_eq_false_iff_ne]; omega
  have n34 : ((c : Int) == 34) = false := by rw [beq_eq_false_iff_ne]; omega
  have n123 : ((c : Int) == 123) = false := by rw [beq_eq_false_iff_ne]; omega
  have n125 : ((c : Int) == 125) = false := by rw [beq_eq_false_iff_ne]; omega
  have d1 : decide ((32 : Int) < c) = false := decide_eq_false (by omega)
  clear hc hn hqn hne hsn
  have HX := Lib.hid hx
  have Hf := Lib.hid hf
  have Hq := Lib.hid hq
  clear hx hT hf hq
  obtain ⟨c0, -, -, -, cl⟩ := h.cells
  go_enter Try.func27, Try.ntmps27
  go_wp2_with fail
  refine HT.out.mono ?_
  rintro e w1 ⟨rfl, h1, b1⟩
  clear c0 cl
  have x2 := HX.out
  go_wp2_with fail
  refine (simple_calls _).mono ?_
  rintro e w2 ⟨rfl, hm, b2⟩
  have h2 := h1.below b2
  have B2 := b1.trans (b2.mono h1.top)
  have hl2 := run_lookup eK eT keyU Try.underlying68 zeroT simpleI (c : Int) hm true
  rw [Hf.out] at hl2
  simp only [if_true, Option.map_none, Option.getD_none, Option.isSome_none] at hl2
  clear b1 b2
  have h3 := h2.below ((Below.refl _ _).alloc (Nat.le_refl _) (.cells #[.int .i64 0, .string ⟨#[]⟩, .int .i64 0] 28))
  have B3 := B2.alloc h2.top (.cells #[.int .i64 0, .string ⟨#[]⟩, .int .i64 0] 28)
  have HH := Lib.hid hm
  clear hm x2
  go_wp2_with fail
  refine (quotes_calls _).mono ?_
  rintro e w4 ⟨rfl, hm4, b4⟩
  have h4 := h3.below b4
  have B4 := B3.trans (b4.mono h3.top)
  rw [show (w2.alloc (.cells #[.int .i64 0, .string ⟨#[]⟩, .int .i64 0] 28)).heap.size = w2.heap.size + 1 by simp] at hm4
  have hl4 := run_lookup eK eI keyU Try.underlying71 zeroI quotesI (c : Int) hm4 true
  rw [Hq.out] at hl4
  simp only [if_true, Option.map_none, Option.getD_none, Option.isSome_none, Option.map_some, Option.getD_some, Option.isSome_some] at hl4
  have HM := Lib.hid hm4
  clear hl2 hm4 b4 B3 h3 h2 B2
  obtain ⟨c0, -, f0, -, cl⟩ := h4.cells
  go_wp2
  go_ret
  exact ⟨rfl, ⟨v, by rw [List.append_nil]; exact h4⟩, B4⟩

set_option maxHeartbeats 4000000 in
set_option maxRecDepth 100000 in
theorem esc_high (w : World) (b base : Nat) (v : Value) (s : ByteArray) (a : Nat) (l : List Tok) (h : At w b base v s a l) (hs : s.size ≤ 1000000) (hl : l.length ≤ 1000000) (ha : a < s.size) (hn : look simpleL (pk s a) = none) (hqn : look quotesL (pk s a) = none) (hne : pk s a ≠ 40 ∧ pk s a ≠ 91 ∧ pk s a ≠ 102 ∧ pk s a ≠ 109 ∧ pk s a ≠ 107 ∧ pk s a ≠ 115 ∧ pk s a ≠ 99 ∧ pk s a ≠ 34 ∧ pk s a ≠ 123 ∧ pk s a ≠ 125) (hsn : 127 ≤ pk s a) :
    Calls Try.prog 27 #[.pointer (some ⟨b, 0, none⟩)] w (EscP b base s l w (.go [] (a + 1))) := by
  obtain ⟨T, hz, hx, hT⟩ := take_byte h hs ha
  have HT := Lib.hid hT
  have e0 := rest_full s a ha
  have i1 : (0 : Int) < T.size := by omega
  obtain ⟨c, hc⟩ : ∃ c, pk s a = c := ⟨_, rfl⟩
  rw [hc] at hn hqn hx hne hsn
  have hf : find simpleI (c : Int) = none := (find_look simpleL c).trans hn
  have hq : find quotesI (c : Int) = none := (find_look quotesL c).trans hqn
  have n40 : ((c : Int) == 40) = false := by rw [beq_eq_false_iff_ne]; omega
  have n91 : ((c : Int) == 91) = false := by rw [beq_eq_false_iff_ne]; omega
  have n102 : ((c : Int) == 102) = false := by rw [beq_eq_false_iff_ne]; omega
  have n109 : ((c : Int) == 109) = false := by rw [beq_eq_false_iff_ne]; omega
  have n107 : ((c : Int) == 107) = false := by rw [beq_eq_false_iff_ne]; omega
  have n115 : ((c : Int) == 115) = false := by rw [beq_eq_false_iff_ne]; omega
  have n99 : ((c : Int) == 99) = false := by rw [beq_eq_false_iff_ne]; omega
  have n34 : ((c : Int) == 34) = false := by rw [beq_eq_false_iff_ne]; omega
  have n123 : ((c : Int) == 123) = false := by rw [beq_eq_false_iff_ne]; omega
  have n125 : ((c : Int) == 125) = false := by rw [beq_eq_false_iff_ne]; omega
  have d1 : decide ((32 : Int) < c) = true := decide_eq_true (by omega)
  have d2 : decide ((c : Int) < 127) = false := decide_eq_false (by omega)
  clear hc hn hqn hne hsn
  have HX := Lib.hid hx
  have Hf := Lib.hid hf
  have Hq := Lib.hid hq
  clear hx hT hf hq
  obtain ⟨c0, -, -, -, cl⟩ := h.cells
  go_enter Try.func27, Try.ntmps27
  go_wp2_with fail
  refine HT.out.mono ?_
  rintro e w1 ⟨rfl, h1, b1⟩
  clear c0 cl
  have x2 := HX.out
  go_wp2_with fail
  refine (simple_calls _).mono ?_
  rintro e w2 ⟨rfl, hm, b2⟩
  have h2 := h1.below b2
  have B2 := b1.trans (b2.mono h1.top)
  have hl2 := run_lookup eK eT keyU Try.underlying68 zeroT simpleI (c : Int) hm true
  rw [Hf.out] at hl2
  simp only [if_true, Option.map_none, Option.getD_none, Option.isSome_none] at hl2
  clear b1 b2
  have h3 := h2.below ((Below.refl _ _).alloc (Nat.le_refl _) (.cells #[.int .i64 0, .string ⟨#[]⟩, .int .i64 0] 28))
  have B3 := B2.alloc h2.top (.cells #[.int .i64 0, .string ⟨#[]⟩, .int .i64 0] 28)
  have HH := Lib.hid hm
  clear hm x2
  go_wp2_with fail
  refine (quotes_calls _).mono ?_
  rintro e w4 ⟨rfl, hm4, b4⟩
  have h4 := h3.below b4
  have B4 := B3.trans (b4.mono h3.top)
  rw [show (w2.alloc (.cells #[.int .i64 0, .string ⟨#[]⟩, .int .i64 0] 28)).heap.size = w2.heap.size + 1 by simp] at hm4
  have hl4 := run_lookup eK eI keyU Try.underlying71 zeroI quotesI (c : Int) hm4 true
  rw [Hq.out] at hl4
  simp only [if_true, Option.map_none, Option.getD_none, Option.isSome_none, Option.map_some, Option.getD_some, Option.isSome_some] at hl4
  have HM := Lib.hid hm4
  clear hl2 hm4 b4 B3 h3 h2 B2
  obtain ⟨c0, -, f0, -, cl⟩ := h4.cells
  go_wp2
  go_ret
  exact ⟨rfl, ⟨v, by rw [List.append_nil]; exact h4⟩, B4⟩

end Go.Proofs.Ytaokofnhkojllaa

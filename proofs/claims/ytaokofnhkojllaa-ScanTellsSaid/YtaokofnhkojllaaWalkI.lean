/- Walks of layer 10's reader: escape whole; line. -/
import Derived.Test.YtaokofnhkojllaaWalkH
set_option linter.unusedVariables false
set_option linter.unusedSimpArgs false
namespace Go.Proofs.Ytaokofnhkojllaa
open Go.Shelf Go.RowKit Go.Lib Go.Aids Go.MapLit Go.Proofs.YtaokofnhkojllaaW.PrintWords

theorem esc_calls (w : World) (b base : Nat) (v : Value) (s : ByteArray) (a : Nat) (l : List Tok) (h : At w b base v s a l) (hs : s.size ≤ 1000000) (hl : l.length ≤ 1000000) (ha : a < s.size) :
    Calls Try.prog 27 #[.pointer (some ⟨b, 0, none⟩)] w (EscP b base s l w (escM s a)) := by
  rcases h1 : look simpleL (pk s a) with _ | t
  · rcases h2 : look quotesL (pk s a) with _ | k
    · have e : escM s a = if pk s a = 40 ∨ pk s a = 91 then namedE 0 (nameM 1 10 s a)
          else if pk s a = 102 then namedE 10 (nameM 1 20 s (a + 1))
          else if pk s a = 109 then namedE 21 (nameM 0 20 s (a + 1))
          else if pk s a = 107 then namedE 19 (nameM 1 20 s (a + 1))
          else if pk s a = 115 then sizeE (sizeM s (a + 1))
          else if pk s a = 99 then .stop [⟨20, ⟨#[]⟩, 0⟩]
          else if pk s a = 34 then .stop []
          else if pk s a = 123 ∨ pk s a = 125 then .go [] (a + 1)
          else if seenB (pk s a) = true then .go [⟨0, oneS (pk s a), 0⟩] (a + 1) else .go [] (a + 1) := by
        unfold escM
        simp only [h1, h2]
        rfl
      rw [e]
      by_cases c1 : pk s a = 40 ∨ pk s a = 91
      · rw [if_pos c1]
        rcases c1 with c1 | c1
        · exact esc_40 w b base v s a l h hs hl ha c1 _ rfl
        · exact esc_91 w b base v s a l h hs hl ha c1 _ rfl
      rw [if_neg c1]
      by_cases c2 : pk s a = 102
      · rw [if_pos c2]; exact esc_102 w b base v s a l h hs hl ha c2 _ rfl
      rw [if_neg c2]
      by_cases c3 : pk s a = 109
      · rw [if_pos c3]; exact esc_109 w b base v s a l h hs hl ha c3 _ rfl
      rw [if_neg c3]
      by_cases c4 : pk s a = 107
      · rw [if_pos c4]; exact esc_107 w b base v s a l h hs hl ha c4 _ rfl
      rw [if_neg c4]
      by_cases c5 : pk s a = 115
      · rw [if_pos c5]; exact esc_115 w b base v s a l h hs hl ha c5 _ rfl
      rw [if_neg c5]
      by_cases c6 : pk s a = 99
      · rw [if_pos c6]; exact esc_99 w b base v s a l h hs hl ha c6
      rw [if_neg c6]
      by_cases c7 : pk s a = 34
      · rw [if_pos c7]; exact esc_34 w b base v s a l h hs hl ha c7
      rw [if_neg c7]
      by_cases c8 : pk s a = 123 ∨ pk s a = 125
      · rw [if_pos c8]
        rcases c8 with c8 | c8
        · exact esc_123 w b base v s a l h hs hl ha c8
        · exact esc_125 w b base v s a l h hs hl ha c8
      rw [if_neg c8]
      have hne : pk s a ≠ 40 ∧ pk s a ≠ 91 ∧ pk s a ≠ 102 ∧ pk s a ≠ 109 ∧ pk s a ≠ 107 ∧ pk s a ≠ 115 ∧ pk s a ≠ 99 ∧ pk s a ≠ 34 ∧ pk s a ≠ 123 ∧ pk s a ≠ 125 := by omega
      by_cases c9 : seenB (pk s a) = true
      · rw [if_pos c9]
        unfold seenB at c9
        rw [decide_eq_true_eq] at c9
        exact esc_seen w b base v s a l h hs hl ha h1 h2 hne (by omega) _ rfl
      · rw [if_neg c9]
        unfold seenB at c9
        rw [decide_eq_true_eq] at c9
        by_cases c10 : pk s a ≤ 32
        · exact esc_low w b base v s a l h hs hl ha h1 h2 hne c10
        · exact esc_high w b base v s a l h hs hl ha h1 h2 hne (by omega)
    · have e : escM s a = namedE k (quotedM s (a + 1)) := by
        unfold escM
        simp only [h1, h2]
      rw [e]
      exact esc_quotes w b base v s a l h hs hl ha k h1 h2 _ rfl
  · have e : escM s a = .go [t] (a + 1) := by
      unfold escM
      simp only [h1]
    rw [e]
    exact esc_simple w b base v s a l h hs hl ha t h1
theorem rest_none (s : ByteArray) (a : Nat) (ha : s.size ≤ a) : (s.extract a s.size).toList.isEmpty = true := by
  rw [Lib.toList_data, ext_list, show s.size - a = 0 by omega, List.take_zero]; rfl
set_option maxHeartbeats 1000000 in
theorem esc_end (w : World) (b base : Nat) (v : Value) (s : ByteArray) (a : Nat) (l : List Tok) (h : At w b base v s a l) (ha : s.size ≤ a) :
    Calls Try.prog 27 #[.pointer (some ⟨b, 0, none⟩)] w fun e w' => e = .returned (.bool true) ∧ w = w' := by
  have e0 := rest_none s a ha
  obtain ⟨c0, -, -, -, cl⟩ := h.cells
  go_enter Try.func27, Try.ntmps27
  go_wp2
  go_ret
  exact ⟨rfl, rfl⟩

/-- What line leaves. -/
def LineP (b base : Nat) (w : World) (o : Option (List Tok)) (e : Ending) (w' : World) : Prop := match o with
  | some l => e = .returned (.tuple #[]) ∧ (∃ v R, Rd w' b base v R l) ∧ Below base w w'
  | none => Bad base w e w'
theorem trim_start (s : ByteArray) : (⟨(Lib.trimPrefix s.data.toList [92, 33]).toArray⟩ : ByteArray) = s.extract (startM s) s.size := by
  apply ba_eq
  rw [ext_list]
  have key : ∀ k, (s.data.toList.drop k).take (s.size - k) = s.data.toList.drop k := fun k => List.take_of_length_le (by rw [List.length_drop, Array.length_toList]; exact Nat.le_refl _)
  rw [key]
  have hp : ∀ k c, c < 256 → (pk s k = c ∧ k < s.size ↔ s.data.toList[k]? = some (UInt8.ofNat c)) := fun k c hc => ⟨fun h => (list_pk s k c hc).2 ⟨h.2, h.1⟩, fun h => ⟨((list_pk s k c hc).1 h).2, ((list_pk s k c hc).1 h).1⟩⟩
  have h0 := hp 0 92 (by decide)
  have h1 := hp 1 33 (by decide)
  have l0 : pk s 0 = 92 → 0 < s.size := fun h => pk_lt (by omega)
  have l1 : pk s 1 = 33 → 1 < s.size := fun h => pk_lt (by omega)
  unfold startM Lib.trimPrefix
  by_cases q : pk s 0 = 92 ∧ pk s 1 = 33
  · rw [if_pos q]
    have e0 := h0.1 ⟨q.1, l0 q.1⟩
    have e1 := h1.1 ⟨q.2, l1 q.2⟩
    generalize s.data.toList = L at *
    match L, e0, e1 with
    | x :: y :: r, e0, e1 =>
      simp at e0 e1
      subst e0 e1
      rfl
  · rw [if_neg q]
    generalize s.data.toList = L at *
    match L, h0, h1 with
    | [], h0, h1 => rfl
    | [x], h0, h1 =>
      have : Lib.hasPrefix [x] [92, 33] = false := by
        show (([92, 33] : List UInt8).isPrefixOf [x]) = false
        simp [List.isPrefixOf]
      simp [this]
    | x :: y :: r, h0, h1 =>
      have : Lib.hasPrefix (x :: y :: r) [92, 33] = false := by
        rw [Bool.eq_false_iff]
        intro hh
        simp [Lib.hasPrefix] at hh
        apply q
        obtain ⟨q1, q2⟩ := hh
        exact ⟨(h0.2 (by rw [← q1]; rfl)).1, (h1.2 (by rw [← q2]; rfl)).1⟩
      simp [this]
theorem startM_le (s : ByteArray) : startM s ≤ s.size := by
  unfold startM
  split
  · rename_i h
    have := pk_lt (s := s) (a := 1) (by omega)
    omega
  · omega
set_option maxHeartbeats 4000000 in
set_option maxRecDepth 100000 in
theorem line_calls (w : World) (b base : Nat) (v : Value) (s : ByteArray) (h : Rd w b base v s []) (hs : s.size ≤ 100000) :
    Calls Try.prog 18 #[.pointer (some ⟨b, 0, none⟩)] w (LineP b base w (lineM s)) := by
  have hT := fun W => Try.strings_TrimPrefix s ⟨#[92, 33]⟩ W
  have e : (⟨(Lib.trimPrefix s.data.toList (⟨#[92, 33]⟩ : ByteArray).data.toList).toArray⟩ : ByteArray) = s.extract (startM s) s.size := trim_start s
  simp only [e] at hT
  have HT := Lib.hid hT
  obtain ⟨R, hR⟩ : ∃ R, lineM s = R := ⟨_, rfl⟩
  rw [hR]
  unfold lineM at hR
  have HR := Lib.hid hR
  have hst := startM_le s
  obtain ⟨p0, hp0⟩ : ∃ p, startM s = p := ⟨_, rfl⟩
  rw [hp0] at HT HR hst
  have hge := h.ge
  have HA : At (w.setCell ⟨b, 0, none⟩ (.string (s.extract p0 s.size))) b base v s p0 [] := Rd.set0 h _
  have HB := (Below.refl base w).setCell (p := ⟨b, 0, none⟩) hge (.string (s.extract p0 s.size))
  clear hT e hR hp0
  obtain ⟨c0, -, f0, -, cl⟩ := h.cells
  go_enter Try.func18, Try.ntmps18
  go_wp2_with fail
  refine (HT.out _).mono ?_
  rintro e w1 ⟨rfl, hw1⟩
  subst hw1
  go_wp2
  go_loopg [] s.size (fun gk wr => ∃ (v1 : Value) (a : Nat) (l1 : List Tok), At wr b base v1 s a l1 ∧ Below base w1 wr ∧ a ≤ s.size ∧ l1.length ≤ a ∧ s.size ≤ a + gk ∧ Hid (lineF s gk l1 a = R))
  case atStart => exact ⟨v, p0, [], HA, HB, hst, Nat.zero_le _, by omega, HR⟩
  case round =>
    obtain ⟨v1, a, l1, hA, hB, ha, hl, hf, H⟩ := hrel
    clear HA HB c0 f0 cl HT HR h hst
    have hr := H.out
    have htop := hA.top
    obtain ⟨k0, -, g0, -, kl⟩ := hA.cells
    by_cases hlt : a < s.size
    · obtain ⟨g', rfl⟩ : ∃ g', gk = g' + 1 := ⟨gk - 1, by omega⟩
      rw [lineF, if_pos hlt] at hr
      obtain ⟨T, hz, hx, hTk⟩ := take_byte hA (by omega) hlt
      have e0 := rest_full s a hlt
      have i1 : (0 : Int) < T.size := by omega
      have HTk := Lib.hid hTk
      have hc := pk_256 s a
      have hends := fun t q (e : stepM s a = .go t q) => stepM_end hlt e
      unfold stepM at hr hends
      simp only at hr hends
      obtain ⟨c, hcc⟩ : ∃ c, pk s a = c := ⟨_, rfl⟩
      rw [hcc] at hr hends hx hc
      clear hTk hcc H
      have HX := Lib.hid hx
      by_cases c92 : c = 92
      · subst c92
        rw [if_pos rfl] at hr hends
        have Hr := Lib.hid hr
        have He := Lib.hid hends
        clear hr hends hx
        go_wp2_with fail
        refine HTk.out.mono ?_
        rintro e w2 ⟨rfl, h2, b2⟩
        have x2 := HX.out
        clear k0 g0 kl
        by_cases hlt2 : a + 1 < s.size
        · have hC := esc_calls w2 b base v1 s (a + 1) l1 h2 (by omega) (by omega) hlt2
          obtain ⟨O, hO⟩ : ∃ O, escM s (a + 1) = O := ⟨_, rfl⟩
          have hr := Hr.out
          have hends := He.out
          rw [if_pos hlt2, hO] at hr
          rw [if_pos hlt2, hO] at hends
          rw [hO] at hC
          have HC := Lib.hid hC
          have Hr2 := Lib.hid hr
          have He2 := Lib.hid hends
          clear hC hr hends hO Hr He
          go_wp2_with fail
          refine HC.out.mono ?_
          rcases O with _ | ⟨t, q⟩ | t
          · rintro e w3 ⟨o, rfl, b3⟩
            rw [← Hr2.out]
            exact ⟨rfl, o, rfl, (hB.trans b2).trans b3⟩
          · rintro e w3 ⟨rfl, ⟨v3, h3⟩, b3⟩
            obtain ⟨q1, q2, q3⟩ := He2.out t q rfl
            have Hr3 := Lib.hid (show lineF s g' (l1 ++ t) q = R from Hr2.out)
            have hlen : (l1 ++ t).length ≤ q := by rw [List.length_append]; omega
            clear Hr2 He2 x2
            go_wp2
            go_roundg g'
            case measure => omega
            case rel => exact ⟨v3, q, l1 ++ t, h3, (hB.trans b2).trans b3, q2, hlen, by omega, Hr3⟩
          · rintro e w3 ⟨rfl, ⟨v3, R3, h3⟩, b3⟩
            go_wp2
            go_end0
            rw [← Hr2.out]
            exact ⟨rfl, ⟨v3, R3, h3⟩, (hB.trans b2).trans b3⟩
        · have HC := Lib.hid (esc_end w2 b base v1 s (a + 1) l1 h2 (by omega))
          have hr := Hr.out
          rw [if_neg hlt2] at hr
          have Hr2 := Lib.hid (show lineF s g' (l1 ++ []) (a + 1) = R from hr)
          rw [List.append_nil] at Hr2
          clear hr Hr He
          go_wp2_with fail
          refine HC.out.mono ?_
          rintro e w3 ⟨rfl, rfl⟩
          clear x2
          go_wp2
          go_roundg g'
          case measure => omega
          case rel => exact ⟨v1, a + 1, l1, h2, hB.trans b2, by omega, by omega, by omega, Hr2⟩
      rw [if_neg c92] at hr
      have n92 : ((c : Int) == 92) = false := by rw [beq_eq_false_iff_ne]; omega
      clear hends
      by_cases c32 : c = 32
      · subst c32
        rw [if_pos rfl] at hr
        have Hr := Lib.hid (show lineF s g' (l1 ++ [⟨1, ⟨#[]⟩, 0⟩]) (a + 1) = R from hr)
        clear hr hx c92
        go_wp2_with fail
        refine HTk.out.mono ?_
        rintro e w2 ⟨rfl, h2, b2⟩
        have x2 := HX.out
        clear k0 g0 kl
        go_wp2_with fail
        refine (add_at _ b base v1 s _ l1 1 ⟨#[]⟩ 0 h2 (by omega)).mono ?_
        rintro e w3 ⟨rfl, ⟨v3, h3⟩, b3⟩
        clear x2
        go_wp2
        go_roundg g'
        case measure => omega
        case rel => exact ⟨v3, a + 1, _, h3, (hB.trans b2).trans b3, by omega, by rw [List.length_append]; simp; omega, by omega, Hr⟩
      rw [if_neg c32] at hr
      have n32 : ((c : Int) == 32) = false := by rw [beq_eq_false_iff_ne]; omega
      by_cases c9 : c = 9
      · subst c9
        rw [if_pos rfl] at hr
        have Hr := Lib.hid (show lineF s g' (l1 ++ [⟨2, ⟨#[]⟩, 0⟩]) (a + 1) = R from hr)
        clear hr hx c92 c32
        go_wp2_with fail
        refine HTk.out.mono ?_
        rintro e w2 ⟨rfl, h2, b2⟩
        have x2 := HX.out
        clear k0 g0 kl
        go_wp2_with fail
        refine (add_at _ b base v1 s _ l1 2 ⟨#[]⟩ 0 h2 (by omega)).mono ?_
        rintro e w3 ⟨rfl, ⟨v3, h3⟩, b3⟩
        clear x2
        go_wp2
        go_roundg g'
        case measure => omega
        case rel => exact ⟨v3, a + 1, _, h3, (hB.trans b2).trans b3, by omega, by rw [List.length_append]; simp; omega, by omega, Hr⟩
      rw [if_neg c9] at hr
      have n9 : ((c : Int) == 9) = false := by rw [beq_eq_false_iff_ne]; omega
      by_cases cs : seenB c = true
      · rw [if_pos cs] at hr
        have Hr := Lib.hid (show lineF s g' (l1 ++ [⟨0, oneS c, 0⟩]) (a + 1) = R from hr)
        unfold seenB at cs
        rw [decide_eq_true_eq] at cs
        have henc : Utf8.encode (c : Int) = oneS c := enc_low c (by omega)
        have henc2 : Utf8.encode (wrap32 (c : Int)) = oneS c := by
          rw [show wrap32 (c : Int) = c by unfold wrap32; omega]
          exact enc_low c (by omega)
        have d1 : decide ((32 : Int) < c) = true := decide_eq_true (by omega)
        have d2 : decide ((c : Int) < 127) = true := decide_eq_true (by omega)
        clear hr hx c92 c32 c9 cs
        go_wp2_with fail
        refine HTk.out.mono ?_
        rintro e w2 ⟨rfl, h2, b2⟩
        have x2 := HX.out
        clear k0 g0 kl
        go_wp2_with fail
        refine (add_at _ b base v1 s _ l1 0 (oneS c) 0 h2 (by omega)).mono ?_
        rintro e w3 ⟨rfl, ⟨v3, h3⟩, b3⟩
        clear x2
        go_wp2
        go_roundg g'
        case measure => omega
        case rel => exact ⟨v3, a + 1, _, h3, (hB.trans b2).trans b3, by omega, by rw [List.length_append]; simp; omega, by omega, Hr⟩
      · rw [if_neg cs] at hr
        have Hr := Lib.hid (show lineF s g' (l1 ++ []) (a + 1) = R from hr)
        rw [List.append_nil] at Hr
        unfold seenB at cs
        rw [decide_eq_true_eq] at cs
        by_cases cl32 : c ≤ 32
        · have d1 : decide ((32 : Int) < c) = false := decide_eq_false (by omega)
          clear hr hx c92 c32 c9 cs
          go_wp2_with fail
          refine HTk.out.mono ?_
          rintro e w2 ⟨rfl, h2, b2⟩
          have x2 := HX.out
          clear k0 g0 kl
          go_wp2
          clear x2
          go_roundg g'
          case measure => omega
          case rel => exact ⟨v1, a + 1, l1, h2, hB.trans b2, by omega, by omega, by omega, Hr⟩
        · have d1 : decide ((32 : Int) < c) = true := decide_eq_true (by omega)
          have d2 : decide ((c : Int) < 127) = false := decide_eq_false (by omega)
          clear hr hx c92 c32 c9 cs
          go_wp2_with fail
          refine HTk.out.mono ?_
          rintro e w2 ⟨rfl, h2, b2⟩
          have x2 := HX.out
          clear k0 g0 kl
          go_wp2
          clear x2
          go_roundg g'
          case measure => omega
          case rel => exact ⟨v1, a + 1, l1, h2, hB.trans b2, by omega, by omega, by omega, Hr⟩
    · have e0 := rest_none s a (by omega)
      have hr2 : some l1 = R := by
        rcases gk with _ | g'
        · exact hr
        · rw [lineF, if_neg hlt] at hr; exact hr
      have Hr := Lib.hid hr2
      clear hr hr2 H
      go_wp2
      go_end0
      rw [← Hr.out]
      exact ⟨rfl, ⟨v1, _, hA⟩, hB⟩
end Go.Proofs.Ytaokofnhkojllaa

/- The reference of layer 10: Ends; the law ScanTells. -/
import Derived.Test.YtaokofnhkojllaaKindsB
set_option linter.unusedVariables false
set_option linter.unusedSimpArgs false
namespace Go.Proofs.Ytaokofnhkojllaa
open Go.RowKit Go.Opens Go.Lib Go.Aids Go.Proofs.YtaokofnhkojllaaW.PrintWords

theorem txt_is (s : ByteArray) (c : Nat) (hc : c < 256) : s.toList = [UInt8.ofNat c] ↔ (s.size = 1 ∧ pk s 0 = c) := by
  rw [Lib.toList_data]
  constructor
  · intro h
    have h1 : s.size = 1 := by
      have := congrArg List.length h
      rw [Array.length_toList] at this
      exact this
    refine ⟨h1, ?_⟩
    have := (list_pk s 0 c hc).1 (by rw [h]; rfl)
    exact this.2
  · rintro ⟨h1, h2⟩
    have := one_of_size h1
    rw [h2] at this
    rw [this]
theorem j2_f (l : List Tok) (f : Nat) (x3 : Int) (s : ByteArray) (b : Bool) (hs : b = true ↔ (s.size = 1 ∧ pk s 0 = 33) ∨ b = true) :
    PEnds.frisketref10_Ends.j2 (f + 1) (l.map cE) x3 s b = if b = true then some true else if s.size = 1 ∧ (pk s 0 = 34 ∨ pk s 0 = 39 ∨ pk s 0 = 41 ∨ pk s 0 = 93) then PEnds.frisketref10_Ends.l0 f (l.map cE) (wrap64 (x3 - 1)) else some false := by
  rw [PEnds.frisketref10_Ends.j2]
  by_cases hb : b = true
  · rw [if_pos hb, if_pos hb]
  · rw [if_neg hb, if_neg hb]
    have t34 := txt_is s 34 (by decide)
    have t39 := txt_is s 39 (by decide)
    have t41 := txt_is s 41 (by decide)
    have t93 := txt_is s 93 (by decide)
    rw [show UInt8.ofNat 34 = 34 from rfl] at t34
    rw [show UInt8.ofNat 39 = 39 from rfl] at t39
    rw [show UInt8.ofNat 41 = 41 from rfl] at t41
    rw [show UInt8.ofNat 93 = 93 from rfl] at t93
    by_cases h1 : s.toList = [34]
    · rw [if_pos h1, if_pos ⟨(t34.1 h1).1, .inl (t34.1 h1).2⟩]
    · rw [if_neg h1]
      by_cases h2 : s.toList = [39]
      · rw [if_pos h2, if_pos ⟨(t39.1 h2).1, .inr (.inl (t39.1 h2).2)⟩]
      · rw [if_neg h2]
        by_cases h3 : s.toList = [41]
        · rw [if_pos h3, if_pos ⟨(t41.1 h3).1, .inr (.inr (.inl (t41.1 h3).2))⟩]
        · rw [if_neg h3]
          by_cases h4 : s.toList = [93]
          · rw [if_pos h4, if_pos ⟨(t93.1 h4).1, .inr (.inr (.inr (t93.1 h4).2))⟩]
          · rw [if_neg h4, if_neg]
            rintro ⟨q1, q | q | q | q⟩
            · exact h1 (t34.2 ⟨q1, q⟩)
            · exact h2 (t39.2 ⟨q1, q⟩)
            · exact h3 (t41.2 ⟨q1, q⟩)
            · exact h4 (t93.2 ⟨q1, q⟩)
theorem j1_f (l : List Tok) (f k : Nat) (hk : k < l.length) (b : Bool) (h8 : b = true ↔ (l[k].kind = 8 ∨ l[k].kind = 10 ∨ l[k].kind = 11 ∨ l[k].kind = 21)) :
    PEnds.frisketref10_Ends.j1 (f + 2) (l.map cE) k l[k].kind b = match tellM l[k] with | some b => some b | none => PEnds.frisketref10_Ends.l0 (if b = true then f + 1 else f) (l.map cE) (wrap64 ((k : Int) - 1)) := by
  rw [PEnds.frisketref10_Ends.j1]
  unfold tellM
  by_cases hb : b = true
  · rw [if_pos hb, if_pos (h8.1 hb), if_pos hb]
  · rw [if_neg hb, if_neg (fun h => hb (h8.2 h)), if_neg hb]
    by_cases h0 : l[k].kind = 0
    · rw [if_pos h0, if_neg (show ¬ (l[k].kind ≠ 0) from fun h => h h0), if_pos (show 0 ≤ (k : Int) by omega), if_pos (show (k : Int) < ((l.map cE).length : Int) by rw [List.length_map]; omega), rdE l k hk]
      have t46 := txt_is l[k].text 46 (by decide)
      have t63 := txt_is l[k].text 63 (by decide)
      have t33 := txt_is l[k].text 33 (by decide)
      rw [show UInt8.ofNat 46 = 46 from rfl] at t46
      rw [show UInt8.ofNat 63 = 63 from rfl] at t63
      rw [show UInt8.ofNat 33 = 33 from rfl] at t33
      have e1 : (cE l[k]).f1 = l[k].text := rfl
      rw [e1]
      have ex : ∃ b2 : Bool, (b2 = true ↔ (l[k].text.size = 1 ∧ (pk l[k].text 0 = 46 ∨ pk l[k].text 0 = 63 ∨ pk l[k].text 0 = 33))) ∧
          (if l[k].text.toList = [46] then PEnds.frisketref10_Ends.j2 (f + 1) (l.map cE) k l[k].text (l[k].text.toList == [46]) else if l[k].text.toList = [63] then PEnds.frisketref10_Ends.j2 (f + 1) (l.map cE) k l[k].text (l[k].text.toList == [63]) else PEnds.frisketref10_Ends.j2 (f + 1) (l.map cE) k l[k].text (l[k].text.toList == [33])) = PEnds.frisketref10_Ends.j2 (f + 1) (l.map cE) k l[k].text b2 := by
        by_cases q1 : l[k].text.toList = [46]
        · exact ⟨true, ⟨fun _ => ⟨(t46.1 q1).1, .inl (t46.1 q1).2⟩, fun _ => rfl⟩, by rw [if_pos q1, beq_iff_eq.2 q1]⟩
        · by_cases q2 : l[k].text.toList = [63]
          · exact ⟨true, ⟨fun _ => ⟨(t63.1 q2).1, .inr (.inl (t63.1 q2).2)⟩, fun _ => rfl⟩, by rw [if_neg q1, if_pos q2, beq_iff_eq.2 q2]⟩
          · refine ⟨l[k].text.toList == [33], ⟨fun h => ?_, fun h => ?_⟩, by rw [if_neg q1, if_neg q2]⟩
            · have := t33.1 (beq_iff_eq.1 h)
              exact ⟨this.1, .inr (.inr this.2)⟩
            · obtain ⟨p1, p | p | p⟩ := h
              · exact absurd (t46.2 ⟨p1, p⟩) q1
              · exact absurd (t63.2 ⟨p1, p⟩) q2
              · exact beq_iff_eq.2 (t33.2 ⟨p1, p⟩)
      obtain ⟨b2, hb2, e2⟩ := ex
      rw [e2, j2_f l f k l[k].text b2 ⟨fun h => .inr h, fun h => h.elim (fun q => hb2.2 ⟨q.1, .inr (.inr q.2)⟩) id⟩]
      by_cases hs : l[k].text.size = 1
      · rw [if_neg (show ¬ (l[k].text.size ≠ 1) from fun h => h hs)]
        by_cases hd : pk l[k].text 0 = 46 ∨ pk l[k].text 0 = 63 ∨ pk l[k].text 0 = 33
        · rw [if_pos (hb2.2 ⟨hs, hd⟩), if_pos hd]
        · rw [if_neg (fun h => hd (hb2.1 h).2), if_neg hd]
          by_cases hq : pk l[k].text 0 = 34 ∨ pk l[k].text 0 = 39 ∨ pk l[k].text 0 = 41 ∨ pk l[k].text 0 = 93
          · rw [if_pos ⟨hs, hq⟩, if_pos hq]
          · rw [if_neg (fun h => hq h.2), if_neg hq]
      · rw [if_pos (show l[k].text.size ≠ 1 from hs), if_neg (show ¬ (b2 = true) from fun h => hs (hb2.1 h).1), if_neg (show ¬ (l[k].text.size = 1 ∧ _) from fun h => hs h.1)]
    · rw [if_neg h0, if_pos h0]
theorem ends_f (l : List Tok) (hn : l.length ≤ 1000000) : ∀ k f, k ≤ l.length → 3 * k + 1 ≤ f → PEnds.frisketref10_Ends.l0 f (l.map cE) ((k : Int) - 1) = some (endsF l k)
  | 0, f, h1, h2 => by
    obtain ⟨f, rfl⟩ : ∃ g, f = g + 1 := ⟨f - 1, by omega⟩
    rw [PEnds.frisketref10_Ends.l0, if_neg (by omega)]
    rfl
  | k + 1, f, h1, h2 => by
    obtain ⟨f, rfl⟩ : ∃ g, f = g + 3 := ⟨f - 3, by omega⟩
    have hk : k < l.length := by omega
    rw [show (((k + 1 : Nat) : Int) - 1) = (k : Int) by omega, PEnds.frisketref10_Ends.l0, if_pos (by omega), if_pos (by omega), if_pos (by rw [List.length_map]; omega), rdE l k hk]
    have e0 : (cE l[k]).f0 = l[k].kind := rfl
    rw [e0]
    have ex : ∃ b : Bool, (b = true ↔ (l[k].kind = 8 ∨ l[k].kind = 10 ∨ l[k].kind = 11 ∨ l[k].kind = 21)) ∧
        (if l[k].kind = 8 then PEnds.frisketref10_Ends.j1 (f + 2) (l.map cE) k l[k].kind true else if l[k].kind = 10 then PEnds.frisketref10_Ends.j1 (f + 2) (l.map cE) k l[k].kind true else if l[k].kind = 11 then PEnds.frisketref10_Ends.j1 (f + 2) (l.map cE) k l[k].kind true else PEnds.frisketref10_Ends.j1 (f + 2) (l.map cE) k l[k].kind (l[k].kind == 21)) = PEnds.frisketref10_Ends.j1 (f + 2) (l.map cE) k l[k].kind b := by
      by_cases q1 : l[k].kind = 8
      · exact ⟨true, ⟨fun _ => .inl q1, fun _ => rfl⟩, by rw [if_pos q1]⟩
      · by_cases q2 : l[k].kind = 10
        · exact ⟨true, ⟨fun _ => .inr (.inl q2), fun _ => rfl⟩, by rw [if_neg q1, if_pos q2]⟩
        · by_cases q3 : l[k].kind = 11
          · exact ⟨true, ⟨fun _ => .inr (.inr (.inl q3)), fun _ => rfl⟩, by rw [if_neg q1, if_neg q2, if_pos q3]⟩
          · refine ⟨l[k].kind == 21, ⟨fun h => .inr (.inr (.inr (beq_iff_eq.1 h))), fun h => beq_iff_eq.2 (by omega)⟩, by rw [if_neg q1, if_neg q2, if_neg q3]⟩
    obtain ⟨b, hb, eb⟩ := ex
    rw [eb, j1_f l f k hk b hb, endsF, List.getElem?_eq_getElem hk]
    simp only []
    rcases tellM l[k] with _ | r
    · simp only []
      rw [wrap64_in _ (by omega) (by omega)]
      refine ends_f l hn k _ (by omega) ?_
      split <;> omega
    · rfl
theorem rends_calls (A : Option Addr) (c : Nat) (l : List Tok) (w : World) (hC : kTok.C w A l.length l) (hc : l.length ≤ c) (hn : l.length ≤ 1000000) :
    Calls Try.prog 12 #[.slice A l.length c] w fun e w' => e = .returned (.bool (endsM l)) ∧ Below w.heap.size w w' := by
  have h := PEnds.frisketref10_Ends.calls (3 * l.length + 1) A c (l.map cE) (endsM l) w (C_cE hC) (by rw [List.length_map]; exact hc) (by
    unfold PEnds.frisketref10_Ends.f
    rw [List.length_map, wrap64_in _ (by omega) (by omega)]
    exact ends_f l hn l.length _ (Nat.le_refl _) (by omega))
  rw [List.length_map] at h
  exact h.mono fun e w' h => ⟨h.1, h.2.below⟩

set_option maxHeartbeats 2000000 in
theorem tells_calls (A : Option Addr) (c : Nat) (l : List Tok) (w : World) (hC : kTok.C w A l.length l) (hc : l.length ≤ c) :
    Calls Try.prog 6 #[.slice A l.length c] w fun e w' => e = .returned (.bool true) ∧ Below w.heap.size w w' := by
  have HS := Lib.hid (fun W => sane_calls W)
  by_cases hbig : 200 < l.length
  · go_enter Try.func6, Try.ntmps6
    go_wp2_with (go_at_call 7; refine (HS.out _).mono ?_; rintro e w1 ⟨rfl, hb⟩)
    go_ret
    exact ⟨rfl, hb⟩
  have HE := Lib.hid (fun A c W (h : kTok.C W A l.length l) => ends_calls A c l (by omega) W (toks_of h))
  have HL := Lib.hid (fun A c W (h : kTok.C W A l.length l) => lead_calls A c l (by omega) W (toks_of h))
  have HA := Lib.hid (fun W (h : kTok.C W A l.length l) => as_calls A c l W h hc (by omega))
  have Hre := Lib.hid (fun A c W (h : kTok.C W A l.length l) (hc : l.length ≤ c) => rends_calls A c l W h hc (by omega))
  have Hrl := Lib.hid (fun A c W (h : kTok.C W A l.length l) (hc : l.length ≤ c) => rlead_calls A c l W h hc (by omega))
  obtain ⟨b, hb⟩ : ∃ b, endsM l = b := ⟨_, rfl⟩
  obtain ⟨n, hn⟩ : ∃ n, leadM l = n := ⟨_, rfl⟩
  rw [hb] at HE Hre
  rw [hn] at HL Hrl
  have HC := Lib.hid hC
  clear hb hn hC
  go_enter Try.func6, Try.ntmps6
  go_wp2_with fail
  refine (HE.out _ _ _ HC.out).mono ?_
  rintro e w1 ⟨rfl, b1⟩
  have C1 := Lib.hid (C_row HC.out b1)
  go_wp2_with fail
  refine (HA.out _ C1.out).mono ?_
  rintro e w2 ⟨A2, c2, rfl, hc2, C2, b2⟩
  have D2 := Lib.hid (C_row C1.out b2)
  have B2 := b1.trans (b2.mono b1.size)
  clear b1 b2
  go_wp2_with fail
  refine (Hre.out _ _ _ C2 hc2).mono ?_
  rintro e w3 ⟨rfl, b3⟩
  have D3 := Lib.hid (C_row D2.out b3)
  have B3 := B2.trans (b3.mono B2.size)
  clear b3 C2 hc2
  go_wp2_with fail
  refine (HL.out _ _ _ D3.out).mono ?_
  rintro e w4 ⟨rfl, b4⟩
  have D4 := Lib.hid (C_row D3.out b4)
  have B4 := B3.trans (b4.mono B3.size)
  clear b4
  go_wp2_with fail
  refine (HA.out _ D4.out).mono ?_
  rintro e w5 ⟨A5, c5, rfl, hc5, C5, b5⟩
  have B5 := B4.trans (b5.mono B4.size)
  clear b5
  go_wp2_with fail
  refine (Hrl.out _ _ _ C5 hc5).mono ?_
  rintro e w6 ⟨rfl, b6⟩
  have B6 := B5.trans (b6.mono B5.size)
  clear b6 C5 hc5
  go_wp2_with fail
  refine (HS.out _).mono ?_
  rintro e w7 ⟨rfl, b7⟩
  go_wp2
  go_ret
  exact ⟨rfl, B6.trans (b7.mono B6.size)⟩
end Go.Proofs.Ytaokofnhkojllaa

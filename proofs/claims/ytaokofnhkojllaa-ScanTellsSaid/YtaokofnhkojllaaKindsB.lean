/- The reference of layer 10: as, Ends, Lead, Same, over tokens. -/
import Derived.Test.YtaokofnhkojllaaKinds
import Derived.Test.YtaokofnhkojllaaWalkM
import Derived.Test.YtaokofnhkojllaaPEndsx1
import Derived.Test.YtaokofnhkojllaaPLeadx1
import Derived.Test.YtaokofnhkojllaaPasx1
import Derived.Test.YtaokofnhkojllaaPSamex2
set_option linter.unusedVariables false
set_option linter.unusedSimpArgs false
namespace Go.Proofs.Ytaokofnhkojllaa
open Go.RowKit Go.Opens Go.Lib Go.Aids Go.Proofs.YtaokofnhkojllaaW.PrintWords

def cE (t : Tok) : PEnds.S55 := ⟨t.kind, t.text, t.n⟩
theorem C_cE {w : World} {A : Option Addr} {l : List Tok} (h : kTok.C w A l.length l) : Kd.C PEnds.k55 w A (l.map cE).length (l.map cE) := by
  obtain ⟨h1, h2, h3⟩ := h
  refine ⟨rfl, by rw [List.length_map]; exact h2, fun hn => ?_⟩
  rw [List.length_map] at hn
  obtain ⟨ad, e, hc⟩ := h3 hn
  refine ⟨ad, e, fun j p hj => ?_⟩
  rw [List.getElem?_map] at hj
  obtain ⟨t, ht, rfl⟩ := Option.map_eq_some_iff.1 hj
  obtain ⟨c, c1, c2, c3⟩ := hc j t ht
  have e := tok_cells c2
  subst e
  exact ⟨_, c1, PEnds.k55_mk w _, c3⟩

def cL (t : Tok) : PLead.S55 := ⟨t.kind, t.text, t.n⟩
theorem C_cL {w : World} {A : Option Addr} {l : List Tok} (h : kTok.C w A l.length l) : Kd.C PLead.k55 w A (l.map cL).length (l.map cL) := by
  obtain ⟨h1, h2, h3⟩ := h
  refine ⟨rfl, by rw [List.length_map]; exact h2, fun hn => ?_⟩
  rw [List.length_map] at hn
  obtain ⟨ad, e, hc⟩ := h3 hn
  refine ⟨ad, e, fun j p hj => ?_⟩
  rw [List.getElem?_map] at hj
  obtain ⟨t, ht, rfl⟩ := Option.map_eq_some_iff.1 hj
  obtain ⟨c, c1, c2, c3⟩ := hc j t ht
  have e := tok_cells c2
  subst e
  exact ⟨_, c1, PLead.k55_mk w _, c3⟩

def cA (t : Tok) : Pas.S28 := ⟨t.kind, t.text, t.n⟩
theorem C_cA {w : World} {A : Option Addr} {l : List Tok} (h : kTok.C w A l.length l) : Kd.C Pas.k28 w A (l.map cA).length (l.map cA) := by
  obtain ⟨h1, h2, h3⟩ := h
  refine ⟨rfl, by rw [List.length_map]; exact h2, fun hn => ?_⟩
  rw [List.length_map] at hn
  obtain ⟨ad, e, hc⟩ := h3 hn
  refine ⟨ad, e, fun j p hj => ?_⟩
  rw [List.getElem?_map] at hj
  obtain ⟨t, ht, rfl⟩ := Option.map_eq_some_iff.1 hj
  obtain ⟨c, c1, c2, c3⟩ := hc j t ht
  have e := tok_cells c2
  subst e
  exact ⟨_, c1, Pas.k28_mk w _, c3⟩

def cB (t : Tok) : Pas.S55 := ⟨t.kind, t.text, t.n⟩
theorem C_cB {w : World} {A : Option Addr} {l : List Tok} (h : kTok.C w A l.length l) : Kd.C Pas.k55 w A (l.map cB).length (l.map cB) := by
  obtain ⟨h1, h2, h3⟩ := h
  refine ⟨rfl, by rw [List.length_map]; exact h2, fun hn => ?_⟩
  rw [List.length_map] at hn
  obtain ⟨ad, e, hc⟩ := h3 hn
  refine ⟨ad, e, fun j p hj => ?_⟩
  rw [List.getElem?_map] at hj
  obtain ⟨t, ht, rfl⟩ := Option.map_eq_some_iff.1 hj
  obtain ⟨c, c1, c2, c3⟩ := hc j t ht
  have e := tok_cells c2
  subst e
  exact ⟨_, c1, Pas.k55_mk w _, c3⟩

def cS (t : Tok) : PSame.S55 := ⟨t.kind, t.text, t.n⟩
theorem C_cS {w : World} {A : Option Addr} {l : List Tok} (h : kTok.C w A l.length l) : Kd.C PSame.k55 w A (l.map cS).length (l.map cS) := by
  obtain ⟨h1, h2, h3⟩ := h
  refine ⟨rfl, by rw [List.length_map]; exact h2, fun hn => ?_⟩
  rw [List.length_map] at hn
  obtain ⟨ad, e, hc⟩ := h3 hn
  refine ⟨ad, e, fun j p hj => ?_⟩
  rw [List.getElem?_map] at hj
  obtain ⟨t, ht, rfl⟩ := Option.map_eq_some_iff.1 hj
  obtain ⟨c, c1, c2, c3⟩ := hc j t ht
  have e := tok_cells c2
  subst e
  exact ⟨_, c1, PSame.k55_mk w _, c3⟩

theorem C_back_cB {w : World} {A : Option Addr} {l : List Tok} (h : Kd.C Pas.k55 w A (l.map cB).length (l.map cB)) : kTok.C w A l.length l := by
  obtain ⟨h1, h2, h3⟩ := h
  rw [List.length_map] at h1 h2 h3
  refine ⟨rfl, h2, fun hn => ?_⟩
  obtain ⟨ad, e, hc⟩ := h3 hn
  refine ⟨ad, e, fun j t hj => ?_⟩
  obtain ⟨c, c1, c2, c3⟩ := hc j (cB t) (by rw [List.getElem?_map, hj]; rfl)
  have e := Pas.k55_open c2
  subst e
  exact ⟨_, c1, ⟨[.int .i64 t.kind], [.string t.text, .int .i64 t.n], rfl, rfl, ⟨[.string t.text], [.int .i64 t.n], rfl, rfl, rfl⟩⟩, c3⟩

theorem toks_of {w : World} {A : Option Addr} {l : List Tok} (h : kTok.C w A l.length l) : Toks w.heap.size w A l := fun m hm => by
  obtain ⟨b, off, rfl, hb, hc⟩ := toks_at h (by omega)
  obtain ⟨c0, c1, c2⟩ := hc m hm
  have e : l.getD m tok0 = l[m] := by simp [List.getD, hm]
  rw [e]
  exact ⟨b, off, rfl, hb, c0, c1, c2⟩
theorem C_row {w : World} {A : Option Addr} {l : List Tok} (h : kTok.C w A l.length l) {w' : World} (hb : Below w.heap.size w w') : kTok.C w' A l.length l := Kd.C_below h hb
theorem C_own {w : World} {base : Nat} {v : Value} {l : List Tok} (h : w.ownsRow base 28 3 v l.length (cellsOf l)) (hl : l.length ≤ 9223372036854775807) : ∃ A n, v = .slice A l.length n ∧ l.length ≤ n ∧ kTok.C w A l.length l := by
  rcases Nat.eq_zero_or_pos l.length with h0 | h0
  · have e : l = [] := List.eq_nil_of_length_eq_zero h0
    subst e
    obtain ⟨A, n, e⟩ := own_slice h
    exact ⟨A, n, e, Nat.zero_le _, rfl, Nat.zero_le _, fun h => absurd h (by decide)⟩
  · obtain ⟨g, cap, rfl, hgb, hgl⟩ := h.form h0
    have hcap : l.length ≤ cap := by
      obtain ⟨h1, h2⟩ := h
      rcases h2 with ⟨h2, -⟩ | ⟨g', cap', cur, e, -, -, r⟩
      · cases h2
      · injection e with e1 e2 e3
        subst e3
        exact r.1
    refine ⟨_, _, rfl, hcap, rfl, hl, fun _ => ⟨⟨g, 0, none⟩, rfl, fun j t hj => ?_⟩⟩
    obtain ⟨hlt, rfl⟩ := List.getElem?_eq_some_iff.1 hj
    obtain ⟨c1, c2, c3⟩ := cellsOf_at l j hlt
    have hcl := cellsOf_len l
    refine ⟨[.int .i64 l[j].kind, .string l[j].text, .int .i64 l[j].n], rfl, ⟨[.int .i64 l[j].kind], [.string l[j].text, .int .i64 l[j].n], rfl, rfl, ⟨[.string l[j].text], [.int .i64 l[j].n], rfl, rfl, rfl⟩⟩, fun i u hi => ?_⟩
    have ead : ∀ q, ((⟨g, 0, none⟩ : Addr).add q) = ⟨g, q, none⟩ := fun q => by
      simp [Addr.add]
      intro h; omega
    rw [show kTok.sz = 3 from rfl, ead]
    match i, hi with
    | 0, hi => injection hi with hi; subst hi; rw [h.cellAt _ (by omega)]; exact c1
    | 1, hi => injection hi with hi; subst hi; rw [h.cellAt _ (by omega)]; exact c2
    | 2, hi => injection hi with hi; subst hi; rw [h.cellAt _ (by omega)]; exact c3
    | i + 3, hi => simp at hi

/-! The printed functions say what the model says. -/
theorem rdE (l : List Tok) (a : Nat) (h : a < l.length) : PEnds.rd_T55 (l.map cE) (a : Int) = cE l[a] := by
  unfold PEnds.rd_T55
  rw [show ((a : Int)).toNat = a by omega]
  simp [List.getD, h]
theorem rdL (l : List Tok) (a : Nat) (h : a < l.length) : PLead.rd_T55 (l.map cL) (a : Int) = cL l[a] := by
  unfold PLead.rd_T55
  rw [show ((a : Int)).toNat = a by omega]
  simp [List.getD, h]
theorem rdA (l : List Tok) (a : Nat) (h : a < l.length) : Pas.rd_T28 (l.map cA) (a : Int) = cA l[a] := by
  unfold Pas.rd_T28
  rw [show ((a : Int)).toNat = a by omega]
  simp [List.getD, h]
theorem wrap_s {a : Nat} {n : Nat} (h : a < n) (hn : n ≤ 1000000) : wrap64 ((a : Int) + 1) = ((a + 1 : Nat) : Int) := by rw [wrap64_in _ (by omega) (by omega)]; rfl
theorem lead_f (l : List Tok) (hn : l.length ≤ 1000000) : ∀ f a, a ≤ l.length → l.length ≤ a + f → PLead.frisketref10_Lead.l0 (f + 1) (l.map cL) a = some ((leadF l f a : Nat) : Int)
  | 0, a, h1, h2 => by
    rw [PLead.frisketref10_Lead.l0, List.length_map, if_neg (by omega)]
    rfl
  | f + 1, a, h1, h2 => by
    rw [PLead.frisketref10_Lead.l0, List.length_map]
    by_cases hlt : a < l.length
    · rw [if_pos (by omega), if_pos (by omega), rdL l a hlt, leadF, List.getElem?_eq_getElem hlt]
      by_cases hk : l[a].kind = 1
      · rw [if_pos (show (cL l[a]).f0 = 1 from hk)]
        simp only []
        rw [if_pos hk, wrap_s hlt hn, lead_f l hn f (a + 1) (by omega) (by omega)]
      · rw [if_neg (show ¬ (cL l[a]).f0 = 1 from hk)]
        simp only []
        rw [if_neg hk]
    · rw [if_neg (by omega), leadF, List.getElem?_eq_none (by omega)]
theorem rlead_calls (A : Option Addr) (c : Nat) (l : List Tok) (w : World) (hC : kTok.C w A l.length l) (hc : l.length ≤ c) (hn : l.length ≤ 1000000) :
    Calls Try.prog 15 #[.slice A l.length c] w fun e w' => e = .returned (.int .i64 (leadM l : Nat)) ∧ Below w.heap.size w w' := by
  have h := PLead.frisketref10_Lead.calls (l.length + 1) A c (l.map cL) (leadM l : Nat) w (C_cL hC) (by rw [List.length_map]; exact hc) (lead_f l hn l.length 0 (Nat.zero_le _) (by omega))
  rw [List.length_map] at h
  exact h.mono fun e w' h => ⟨h.1, h.2.below⟩
theorem as_f (l : List Tok) (hn : l.length ≤ 1000000) : ∀ f a, a ≤ l.length → l.length ≤ a + f → Pas.frisketlaw10_as.l0 (f + 1) (l.map cA) ((l.take a).map cB) a = some (l.map cB)
  | 0, a, h1, h2 => by
    rw [Pas.frisketlaw10_as.l0, List.length_map, if_neg (by omega), List.take_of_length_le (by omega)]
  | f + 1, a, h1, h2 => by
    rw [Pas.frisketlaw10_as.l0, List.length_map]
    by_cases hlt : a < l.length
    · rw [if_pos (by omega), if_pos (by omega), if_pos (by rw [List.length_map, List.length_take]; omega), rdA l a hlt, wrap_s hlt hn]
      have e : (l.take a).map cB ++ [(⟨(cA l[a]).f0, (cA l[a]).f1, (cA l[a]).f2⟩ : Pas.S55)] = (l.take (a + 1)).map cB := by
        rw [List.take_succ_eq_append_getElem hlt, List.map_append]
        rfl
      rw [e]
      exact as_f l hn f (a + 1) (by omega) (by omega)
    · rw [if_neg (by omega), List.take_of_length_le (by omega)]
theorem as_calls (A : Option Addr) (c : Nat) (l : List Tok) (w : World) (hC : kTok.C w A l.length l) (hc : l.length ≤ c) (hn : l.length ≤ 1000000) :
    Calls Try.prog 13 #[.slice A l.length c] w fun e w' => ∃ A' c', e = .returned (.slice A' l.length c') ∧ l.length ≤ c' ∧ kTok.C w' A' l.length l ∧ Below w.heap.size w w' := by
  have h := Pas.frisketlaw10_as.calls (l.length + 1) A c (l.map cA) (l.map cB) w (C_cA hC) (by rw [List.length_map]; exact hc) (by
    have := as_f l hn l.length 0 (Nat.zero_le _) (by omega)
    exact this)
  rw [List.length_map] at h
  refine h.mono ?_
  rintro e w' ⟨v, rfl, hR, hb⟩
  obtain ⟨A', c', rfl, hc', hC'⟩ := Kd.R_reads hR
  rw [List.length_map] at hc' 
  refine ⟨A', c', by rw [List.length_map], hc', C_back_cB hC', hb⟩
theorem same_f (l : List Tok) (hn : l.length ≤ 1000000) : ∀ f a, a ≤ l.length → l.length ≤ a + f → PSame.frisketref10_Same.l0 (f + 1) (l.map cS) (l.map cS) a = some true
  | 0, a, h1, h2 => by
    rw [PSame.frisketref10_Same.l0, List.length_map, if_neg (by omega)]
  | f + 1, a, h1, h2 => by
    rw [PSame.frisketref10_Same.l0, List.length_map]
    by_cases hlt : a < l.length
    · rw [if_pos (by omega), if_pos (by omega), if_pos (by omega), wrap_s hlt hn]
      simp only [beq_self_eq_true, Bool.not_true, Bool.or_self, Bool.false_eq_true, if_false]
      exact same_f l hn f (a + 1) (by omega) (by omega)
    · rw [if_neg (by omega)]
theorem same_calls (A : Option Addr) (c : Nat) (B : Option Addr) (d : Nat) (l : List Tok) (w : World) (hA : kTok.C w A l.length l) (hc : l.length ≤ c) (hB : kTok.C w B l.length l) (hd : l.length ≤ d) (hn : l.length ≤ 1000000) :
    Calls Try.prog 20 #[.slice A l.length c, .slice B l.length d] w fun e w' => e = .returned (.bool true) ∧ Below w.heap.size w w' := by
  have h := PSame.frisketref10_Same.calls (l.length + 1) A c (l.map cS) B d (l.map cS) true w (C_cS hA) (by rw [List.length_map]; exact hc) (C_cS hB) (by rw [List.length_map]; exact hd) (by
    unfold PSame.frisketref10_Same.f
    rw [if_pos rfl]
    exact same_f l hn l.length 0 (Nat.zero_le _) (by omega))
  simp only [List.length_map] at h
  exact h.mono fun e w' h => ⟨h.1, h.2.below⟩
end Go.Proofs.Ytaokofnhkojllaa

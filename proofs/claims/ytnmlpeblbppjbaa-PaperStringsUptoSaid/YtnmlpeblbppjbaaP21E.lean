/- The kind of a label: what the rows of labels hold. -/
import Derived.Test.YtnmlpeblbppjbaaOpens
import Derived.Test.YtnmlpeblbppjbaaP21ZD
import Derived.Test.YtnmlpeblbppjbaaP21D
set_option linter.unusedVariables false
set_option linter.unusedSimpArgs false
namespace Go.Proofs.Ytnmlpeblbppjbaa
open Go.RowKit Go.Opens Go.Lib Go.Aids Go.MapLit Go.Proofs.YtnmlpeblbppjbaaW.PrintWords

def kLab : Kd Lab := Kd.pair Kd.string Kd.string
theorem lab_cells {w : World} {m : Lab} {c : List Value} (h : kLab.K w m c) : c = [.string m.1, .string m.2] := by
  obtain ⟨c0, r0, rfl, h1, h2⟩ := h
  have e0 : c0 = [.string m.1] := h1
  have e1 : r0 = [.string m.2] := h2
  subst e0 e1
  rfl
theorem labs_at {w : World} {A : Option Addr} {l : List Lab} (h : kLab.C w A l.length l) (hn : 0 < l.length) : ∃ b off, A = some ⟨b, off, none⟩ ∧ b < w.heap.size ∧
    ∀ k (hk : k < l.length), w.cell? ⟨b, off + k * 2, none⟩ = some (.string l[k].1) ∧ w.cell? ⟨b, off + k * 2 + 1, none⟩ = some (.string l[k].2) := by
  obtain ⟨b, off, hA, hb, hc⟩ := C_at h (by show 0 < 2; omega) hn
  refine ⟨b, off, hA, hb, fun i hi => ?_⟩
  obtain ⟨c, _, hk, hcell⟩ := hc i hi
  have e := lab_cells hk
  subst e
  exact ⟨hcell 0 _ rfl, hcell 1 _ rfl⟩
/-- Labels of texts that are not great. -/
def Low (L : List Lab) : Prop := ∀ p ∈ L, p.1.size ≤ 1048576 ∧ p.2.size ≤ 1048576
theorem Low.small {L : List Lab} (h : Low L) : Small L := fun p hp => ⟨by have := (h p hp).1; omega, by have := (h p hp).2; omega⟩
def cellsL (l : List Lab) : List Value := l.flatMap fun p => [.string p.1, .string p.2]
theorem cellsL_len (l : List Lab) : (cellsL l).length = l.length * 2 := by
  induction l with
  | nil => rfl
  | cons x r ih =>
    show (_ :: _ :: cellsL r).length = _
    rw [List.length_cons, List.length_cons, ih, List.length_cons]; omega
theorem cellsL_snoc (l : List Lab) (x : Lab) : cellsL (l ++ [x]) = cellsL l ++ [.string x.1, .string x.2] := by simp [cellsL]
theorem cellsL_at : ∀ (l : List Lab) (j : Nat) (hj : j < l.length), (cellsL l)[j * 2]? = some (.string l[j].1) ∧ (cellsL l)[j * 2 + 1]? = some (.string l[j].2)
  | x :: r, 0, _ => ⟨rfl, rfl⟩
  | x :: r, j + 1, hj => by
    have := cellsL_at r j (by simpa using hj)
    rw [show (j + 1) * 2 = j * 2 + 1 + 1 by omega]
    exact this
theorem C_ownL {w : World} {base : Nat} {t : TypeId} {v : Value} {l : List Lab} (h : w.ownsRow base t 2 v l.length (cellsL l)) (hl : l.length ≤ 9223372036854775807) : ∃ A n, v = .slice A l.length n ∧ l.length ≤ n ∧ kLab.C w A l.length l := by
  rcases Nat.eq_zero_or_pos l.length with h0 | h0
  · have e : l = [] := List.eq_nil_of_length_eq_zero h0
    subst e
    obtain ⟨A, n, e⟩ := own_slice h
    exact ⟨A, n, e, Nat.zero_le _, rfl, Nat.zero_le _, fun h => absurd h (by decide)⟩
  · obtain ⟨g, cap, rfl, hgb, hgl⟩ := h.form h0
    have hcap : l.length ≤ cap := by
      obtain ⟨h1, h2⟩ := h
      rcases h2 with ⟨h2, -⟩ | ⟨g', cap', cur, e, -, -, r⟩
      · cases h2
      · injection e with e1 e2 e3
        subst e3
        exact r.1
    refine ⟨_, _, rfl, hcap, rfl, hl, fun _ => ⟨⟨g, 0, none⟩, rfl, fun j t hj => ?_⟩⟩
    obtain ⟨hlt, rfl⟩ := List.getElem?_eq_some_iff.1 hj
    obtain ⟨c1, c2⟩ := cellsL_at l j hlt
    have hcl := cellsL_len l
    refine ⟨[.string l[j].1, .string l[j].2], rfl, ⟨[.string l[j].1], [.string l[j].2], rfl, rfl, rfl⟩, fun i u hi => ?_⟩
    have ead : ∀ q, ((⟨g, 0, none⟩ : Addr).add q) = ⟨g, q, none⟩ := fun q => by
      simp [Addr.add]
      intro h; omega
    rw [show kLab.sz = 2 from rfl, ead]
    match i, hi with
    | 0, hi => injection hi with hi; subst hi; rw [h.cellAt _ (by omega)]; exact c1
    | 1, hi => injection hi with hi; subst hi; rw [h.cellAt _ (by omega)]; exact c2
    | i + 2, hi => simp at hi
theorem C_row {w : World} {A : Option Addr} {l : List Lab} (h : kLab.C w A l.length l) {w' : World} (hb : Below w.heap.size w w') : kLab.C w' A l.length l := Kd.C_below h hb
theorem C_cS {w : World} {A : Option Addr} {l : List Lab} (h : kLab.C w A l.length l) : Kd.C PStrings.k30 w A (l.map cS).length (l.map cS) := by
  obtain ⟨h1, h2, h3⟩ := h
  refine ⟨rfl, by rw [List.length_map]; exact h2, fun hn => ?_⟩
  rw [List.length_map] at hn
  obtain ⟨ad, e, hc⟩ := h3 hn
  refine ⟨ad, e, fun j p hj => ?_⟩
  rw [List.getElem?_map] at hj
  obtain ⟨t, ht, rfl⟩ := Option.map_eq_some_iff.1 hj
  obtain ⟨c, c1, c2, c3⟩ := hc j t ht
  have e := lab_cells c2
  subst e
  exact ⟨_, c1, PStrings.k30_mk w _, c3⟩
/-- The reference's Strings. -/
theorem rstrings_calls (A : Option Addr) (c : Nat) (L : List Lab) (w : World) (hC : kLab.C w A L.length L) (hc : L.length ≤ c) (hL : Low L) (hn : L.length ≤ 1000) :
    Calls Try.prog 6 #[.slice A L.length c] w fun e w' => e = .returned (.tuple #[.string (textO L).1, .int .i64 (textO L).2]) ∧ Below w.heap.size w w' := by
  obtain ⟨k, hk⟩ := strings_f L hL.small hn
  have h1 := C_cS hC
  have := PStrings.frisketref21_Strings.calls k A c (L.map cS) _ _ w h1 (by rw [List.length_map]; exact hc) hk
  rw [List.length_map] at this
  exact this
end Go.Proofs.Ytnmlpeblbppjbaa

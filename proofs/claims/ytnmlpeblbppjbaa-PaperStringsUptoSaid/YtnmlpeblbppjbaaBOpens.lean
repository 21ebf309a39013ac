/- From the reading of an argument that is of small bulk to the kinds of the printed words. -/
import Derived.Test.YtnmlpeblbppjbaaRows
import Derived.Test.YtnmlpeblbppjbaaOpens
set_option linter.unusedVariables false
set_option linter.unusedSimpArgs false
namespace Go.Proofs.Ytnmlpeblbppjbaa.BOpens
open Go Go.RowKit Go.ChangeShapes Go.WideShapes Go.Opens Go.Proofs.YtnmlpeblbppjbaaW.PrintWords
variable {P : Program}

theorem part_le {H : Type} {d : DataW H} {l : List (DataW H)} (h : d ∈ l) : Rows.uptoBulk d ≤ Rows.uptoBulkAll l := by
  induction l with
  | nil => cases h
  | cons x r ih =>
    simp only [Rows.uptoBulkAll]
    cases List.mem_cons.1 h with
    | inl e => subst e; omega
    | inr e => have := ih e; omega

/-- Whatever reads as a value of type t, of bulk at most N, is, by the kind d, some a of which wf holds. -/
structure BOpens (P : Program) (N : Nat) (t : TypeId) {α : Type} (d : Kd α) (wf : α → Prop) : Prop where
  size : P.cellsOf t = d.sz
  opens : ∀ {H : Type} {enc : TypeId × Value → H} {w : World} {base : Nat} {sp : Nat → Bool} {held : Bool} {fuel : Nat} {cs : List Value} {x : DataW H × List MemPlace},
    DataW.trod enc P w base sp held fuel t cs = some x → Rows.uptoBulk x.1 ≤ N → ∃ a, d.K w a cs ∧ wf a

theorem BOpens.of {N : Nat} {t : TypeId} {α : Type} {d : Kd α} {wf : α → Prop} (h : Opens P t d wf) : BOpens P N t d wf := ⟨h.size, fun hx _ => h.opens hx⟩
theorem BOpens.string {N : Nat} {t : TypeId} (ht : P.underlying t = some .string) (hs : P.cellsOf t = 1) : BOpens P N t Kd.string (fun s => s.size ≤ maxLen ∧ s.size ≤ N) := by
  refine ⟨hs, fun {H enc w base sp held fuel cs x} h hb => ?_⟩
  obtain ⟨n, rfl, rfl, hw⟩ := DataW.trod_string ht h
  refine ⟨n, rfl, hw, ?_⟩
  simp only [Rows.uptoBulk, Array.length_toList] at hb
  have : n.data.size = n.size := rfl
  omega
theorem BOpens.slice {N : Nat} {t e : TypeId} {α : Type} {d : Kd α} {wf : α → Prop} (he : BOpens P N e d wf) (ht : P.underlying t = some (.slice e)) (hs : P.cellsOf t = 1) :
    BOpens P N t (Kd.slice e d) (fun l => l.length ≤ 9223372036854775807 ∧ ∀ a ∈ l, wf a) := by
  refine ⟨hs, fun {H enc w base sp held fuel cs x} h hbk => ?_⟩
  rcases Go.Deep.open_slice ht h with ⟨rfl, _⟩ | ⟨a, len, cap, m, n, D, Pl, rfl, hb, hlc, hcap, hm, hx0, hel⟩
  · exact ⟨[], ⟨none, 0, rfl, Nat.le_refl _, rfl, by simp, fun h => absurd h (by simp)⟩, by simp, by simp⟩
  · have hlm : len ≤ m := by rw [hm]; split <;> omega
    have hbD : ∀ i, i < len → Rows.uptoBulk (D i) ≤ N := by
      intro i hi
      rw [hx0] at hbk
      simp only [Rows.uptoBulk] at hbk
      have := part_le (d := D i) (l := (List.range len).map D) (List.mem_map.2 ⟨i, List.mem_range.2 hi, rfl⟩)
      omega
    have hall : ∀ i, i < len → ∃ q : α, (∃ c, c.length = d.sz ∧ d.K w q c ∧ ∀ j u, c[j]? = some u → w.cell? (a.add (i * d.sz + j)) = some u) ∧ wf q := by
      intro i hi
      obtain ⟨cs', hc, htr⟩ := hel i (by omega)
      obtain ⟨q, hq, hw⟩ := he.opens htr (hbD i hi)
      obtain ⟨h1, h2⟩ := cells_of hc
      refine ⟨q, ⟨cs', d.K_len hq, hq, fun j u hu => ?_⟩, hw⟩
      have := h2 j u hu
      rw [Go.Deep.add_add, he.size] at this
      exact this
    have hex : ∃ l : List α, l.length = len ∧ ∀ i q, l[i]? = some q → (∃ c, c.length = d.sz ∧ d.K w q c ∧ ∀ j u, c[j]? = some u → w.cell? (a.add (i * d.sz + j)) = some u) ∧ wf q := by
      clear hel hm hlm h hlc hx0 hcap hbD hbk
      induction len with
      | zero => exact ⟨[], rfl, fun i q h => by simp at h⟩
      | succ k ih =>
        obtain ⟨l, h1, h2⟩ := ih (fun i hi => hall i (by omega))
        obtain ⟨q, hq⟩ := hall k (by omega)
        refine ⟨l ++ [q], by simp [h1], fun i q' hq' => ?_⟩
        by_cases hi : i < l.length
        · rw [List.getElem?_append_left hi] at hq'
          exact h2 i q' hq'
        · have hk : i = k := by
            have := (List.getElem?_eq_some_iff.1 hq').1
            simp at this
            omega
          subst hk
          rw [List.getElem?_append_right (by omega), h1] at hq'
          simp at hq'
          subst hq'
          exact hq
    obtain ⟨l, h1, h2⟩ := hex
    have hc64 : len ≤ 9223372036854775807 := by unfold maxLen at hcap; omega
    refine ⟨l, ⟨some a, cap, by rw [h1], by omega, rfl, by omega, fun _ => ⟨a, rfl, fun j q hq => (h2 j q hq).1⟩⟩, by omega, fun q hq => ?_⟩
    obtain ⟨i, hi, rfl⟩ := List.mem_iff_getElem.1 hq
    exact (h2 i _ (List.getElem?_eq_getElem hi)).2

/-- Fields in line, from cell off on. -/
structure BFields (P : Program) (N : Nat) (fs : List Go.Field) (off : Nat) {α : Type} (d : Kd α) (wf : α → Prop) : Prop where
  opens : ∀ {H : Type} {enc : TypeId × Value → H} {w : World} {base : Nat} {sp : Nat → Bool} {held : Bool} {n : Nat} {cs : List Value},
    (∀ (i : Nat) (f : Go.Field), fs[i]? = some f → ∃ x, DataW.trod enc P w base sp held n f.type ((cs.drop f.offset).take (P.cellsOf f.type)) = some x ∧ Rows.uptoBulk x.1 ≤ N) → cs.length = off + d.sz → ∃ a, d.K w a (cs.drop off) ∧ wf a
theorem BFields.one {N : Nat} {f : Go.Field} {off : Nat} {α : Type} {d : Kd α} {wf : α → Prop} (h : BOpens P N f.type d wf) (ho : f.offset = off) : BFields P N [f] off d wf := by
  refine ⟨fun {H enc w base sp held n cs} hall hl => ?_⟩
  obtain ⟨x, hx, hb⟩ := hall 0 f rfl
  rw [ho, List.take_of_length_le (by rw [List.length_drop, h.size]; omega)] at hx
  exact h.opens hx hb
theorem BFields.cons {N : Nat} {f : Go.Field} {fs : List Go.Field} {off : Nat} {α β : Type} {d : Kd α} {d2 : Kd β} {wf : α → Prop} {wf2 : β → Prop} (h : BOpens P N f.type d wf) (ho : f.offset = off) (h2 : BFields P N fs (off + d.sz) d2 wf2) :
    BFields P N (f :: fs) off (Kd.pair d d2) (fun p => wf p.1 ∧ wf2 p.2) := by
  refine ⟨fun {H enc w base sp held n cs} hall hl => ?_⟩
  have hl' : cs.length = off + (d.sz + d2.sz) := hl
  obtain ⟨x, hx, hxb⟩ := hall 0 f rfl
  rw [ho, h.size] at hx
  obtain ⟨a, ha, hwa⟩ := h.opens hx hxb
  obtain ⟨b, hb, hwb⟩ := h2.opens (H := H) (enc := enc) (w := w) (base := base) (sp := sp) (held := held) (n := n) (cs := cs) (fun i g hg => hall (i + 1) g (by simpa using hg)) (by omega)
  refine ⟨(a, b), ⟨_, _, ?_, ha, hb⟩, hwa, hwb⟩
  rw [← List.drop_drop, List.take_append_drop]
theorem BOpens.struct {N : Nat} {t : TypeId} {fs : Array Go.Field} {α : Type} {d : Kd α} {wf : α → Prop} (ht : P.underlying t = some (.struct fs)) (hs : P.cellsOf t = d.sz) (h : BFields P N fs.toList 0 d wf) : BOpens P N t d wf := by
  refine ⟨hs, fun {H enc w base sp held fuel cs x} hx hbk => ?_⟩
  obtain ⟨xs, n, _, hx1, hl, hn, hf⟩ := DataW.trod_struct ht hx
  have := h.opens (H := H) (enc := enc) (w := w) (base := base) (sp := sp) (held := held) (n := n) (cs := cs) (fun i f hi => ?_) (by omega)
  · simpa using this
  · have hi' : fs[i]? = some f := by simpa using hi
    have hlt : i < fs.size := (Array.getElem?_eq_some_iff.1 hi').1
    rw [hf i f hi']
    refine ⟨_, List.getElem?_eq_getElem (by omega), ?_⟩
    rw [hx1] at hbk
    simp only [Rows.uptoBulk] at hbk
    have := part_le (d := (xs[i]'(by omega)).1) (l := xs.map (·.1)) (List.mem_map.2 ⟨_, List.getElem_mem _, rfl⟩)
    omega
theorem BOpens.iso {N : Nat} {t : TypeId} {α β : Type} {d : Kd α} {wf : α → Prop} (h : BOpens P N t d wf) (f : β → α) (g : α → β) (hfg : ∀ a, f (g a) = a) : BOpens P N t (Kd.iso d f) (fun b => wf (f b)) := by
  refine ⟨h.size, fun hx hb => ?_⟩
  obtain ⟨a, h1, h2⟩ := h.opens hx hb
  exact ⟨g a, by show d.K _ (f (g a)) _; rw [hfg]; exact h1, by rw [hfg]; exact h2⟩
/-- A parameter that is a slice: its value and what it holds. -/
theorem open_rowB {N : Nat} {t e : TypeId} {α : Type} {d : Kd α} {wf : α → Prop} (he : BOpens P N e d wf) (ht : P.underlying t = some (.slice e)) (hs : P.cellsOf t = 1) {H : Type} {enc : TypeId × Value → H} {w : World} {base : Nat} {sp : Nat → Bool} {held : Bool} {v : Value} {x : DataW H} {ps : List MemPlace}
    (h : DataW.Trod enc P w base sp held t v x ps) (hb : Rows.uptoBulk x ≤ N) (hv : ∃ a n c, v = .slice a n c) : ∃ A c l, v = .slice A l.length c ∧ l.length ≤ c ∧ l.length ≤ 9223372036854775807 ∧ d.C w A l.length l ∧ ∀ a ∈ l, wf a := by
  obtain ⟨fuel, hf⟩ := h
  obtain ⟨l, ⟨A, c, h1, h2, h3⟩, h4, h5⟩ := (BOpens.slice he ht hs).opens hf hb
  obtain ⟨a0, n0, c0, rfl⟩ := hv
  simp [Value.cells] at h1
  obtain ⟨rfl, rfl, rfl⟩ := h1
  exact ⟨_, _, l, rfl, h2, h4, h3, h5⟩
end Go.Proofs.Ytnmlpeblbppjbaa.BOpens

/- From the reading of an argument to the kinds of the printed words: what a parameter of any plain depth holds. -/
import Derived.Test.YtmmfojaeahcohaaDoorWWords
import Derived.Deep.Slices
import Derived.OpenShut
set_option linter.unusedVariables false
set_option linter.unusedSimpArgs false
namespace Go.Opens
open Go.RowKit Go.ChangeShapes Go.WideShapes Go.Proofs.YtmmfojaeahcohaaDoorW.PrintWords
variable {P : Program}

/-- Whatever reads as a value of type t is, by the kind d, some a of which wf holds. -/
structure Opens (P : Program) (t : TypeId) {α : Type} (d : Kd α) (wf : α → Prop) : Prop where
  size : P.cellsOf t = d.sz
  opens : ∀ {H : Type} {enc : TypeId × Value → H} {w : World} {base : Nat} {sp : Nat → Bool} {held : Bool} {fuel : Nat} {cs : List Value} {x : DataW H × List MemPlace},
    DataW.trod enc P w base sp held fuel t cs = some x → ∃ a, d.K w a cs ∧ wf a

theorem Opens.int {t : TypeId} {k : IntKind} (ht : P.underlying t = some (.int k)) (hs : P.cellsOf t = 1) : Opens P t (Kd.int k) (fun n => (Lit.int k n).wf = true) := by
  refine ⟨hs, fun {H enc w base sp held fuel cs x} h => ?_⟩
  obtain ⟨n, rfl, _, hw⟩ := DataW.trod_int ht h
  exact ⟨n, rfl, hw⟩
theorem Opens.bool {t : TypeId} (ht : P.underlying t = some .bool) (hs : P.cellsOf t = 1) : Opens P t Kd.bool (fun _ => True) := by
  refine ⟨hs, fun {H enc w base sp held fuel cs x} h => ?_⟩
  obtain ⟨n, rfl, _⟩ := DataW.trod_bool ht h
  exact ⟨n, rfl, trivial⟩
theorem Opens.string {t : TypeId} (ht : P.underlying t = some .string) (hs : P.cellsOf t = 1) : Opens P t Kd.string (fun s => s.size ≤ maxLen) := by
  refine ⟨hs, fun {H enc w base sp held fuel cs x} h => ?_⟩
  obtain ⟨n, rfl, _, hw⟩ := DataW.trod_string ht h
  exact ⟨n, rfl, hw⟩
theorem Opens.imp {t : TypeId} {α : Type} {d : Kd α} {wf wf' : α → Prop} (h : Opens P t d wf) (hi : ∀ a, wf a → wf' a) : Opens P t d wf' :=
  ⟨h.size, fun hx => let ⟨a, h1, h2⟩ := h.opens hx; ⟨a, h1, hi a h2⟩⟩

theorem cells_of {w : World} {base n : Nat} {a : Addr} {cs : List Value} (h : w.cells? base a n = some cs) : cs.length = n ∧ ∀ i u, cs[i]? = some u → w.cell? (a.add i) = some u := by
  obtain ⟨_, h1, h2⟩ := World.cells?_some h
  refine ⟨h1, fun i u hu => ?_⟩
  have hi : i < n := by have := (List.getElem?_eq_some_iff.1 hu).1; omega
  rw [h2 i hi]; exact hu

theorem Opens.slice {t e : TypeId} {α : Type} {d : Kd α} {wf : α → Prop} (he : Opens P e d wf) (ht : P.underlying t = some (.slice e)) (hs : P.cellsOf t = 1) :
    Opens P t (Kd.slice e d) (fun l => l.length ≤ 9223372036854775807 ∧ ∀ a ∈ l, wf a) := by
  refine ⟨hs, fun {H enc w base sp held fuel cs x} h => ?_⟩
  rcases Go.Deep.open_slice ht h with ⟨rfl, _⟩ | ⟨a, len, cap, m, n, D, Pl, rfl, hb, hlc, hcap, hm, hx0, hel⟩
  · exact ⟨[], ⟨none, 0, rfl, Nat.le_refl _, rfl, by simp, fun h => absurd h (by simp)⟩, by simp, by simp⟩
  · have hlm : len ≤ m := by rw [hm]; split <;> omega
    have hall : ∀ i, i < len → ∃ q : α, (∃ c, c.length = d.sz ∧ d.K w q c ∧ ∀ j u, c[j]? = some u → w.cell? (a.add (i * d.sz + j)) = some u) ∧ wf q := by
      intro i hi
      obtain ⟨cs', hc, htr⟩ := hel i (by omega)
      obtain ⟨q, hq, hw⟩ := he.opens htr
      obtain ⟨h1, h2⟩ := cells_of hc
      refine ⟨q, ⟨cs', d.K_len hq, hq, fun j u hu => ?_⟩, hw⟩
      have := h2 j u hu
      rw [Go.Deep.add_add, he.size] at this
      exact this
    have hex : ∃ l : List α, l.length = len ∧ ∀ i q, l[i]? = some q → (∃ c, c.length = d.sz ∧ d.K w q c ∧ ∀ j u, c[j]? = some u → w.cell? (a.add (i * d.sz + j)) = some u) ∧ wf q := by
      clear hel hm hlm h hlc hx0 hcap
      induction len with
      | zero => exact ⟨[], rfl, fun i q h => by simp at h⟩
      | succ k ih =>
        obtain ⟨l, h1, h2⟩ := ih (fun i hi => hall i (by omega))
        obtain ⟨q, hq⟩ := hall k (by omega)
        refine ⟨l ++ [q], by simp [h1], fun i q' hq' => ?_⟩
        by_cases hi : i < l.length
        · rw [List.getElem?_append_left hi] at hq'
          exact h2 i q' hq'
        · have hk : i = k := by
            have := (List.getElem?_eq_some_iff.1 hq').1
            simp at this
            omega
          subst hk
          rw [List.getElem?_append_right (by omega), h1] at hq'
          simp at hq'
          subst hq'
          exact hq
    obtain ⟨l, h1, h2⟩ := hex
    have hc64 : len ≤ 9223372036854775807 := by unfold maxLen at hcap; omega
    refine ⟨l, ⟨some a, cap, by rw [h1], by omega, rfl, by omega, fun _ => ⟨a, rfl, fun j q hq => (h2 j q hq).1⟩⟩, by omega, fun q hq => ?_⟩
    obtain ⟨i, hi, rfl⟩ := List.mem_iff_getElem.1 hq
    exact (h2 i _ (List.getElem?_eq_getElem hi)).2

/-- Fields in line, from cell off on. -/
structure Fields (P : Program) (fs : List Go.Field) (off : Nat) {α : Type} (d : Kd α) (wf : α → Prop) : Prop where
  opens : ∀ {H : Type} {enc : TypeId × Value → H} {w : World} {base : Nat} {sp : Nat → Bool} {held : Bool} {n : Nat} {cs : List Value},
    (∀ (i : Nat) (f : Go.Field), fs[i]? = some f → ∃ x, DataW.trod enc P w base sp held n f.type ((cs.drop f.offset).take (P.cellsOf f.type)) = some x) → cs.length = off + d.sz → ∃ a, d.K w a (cs.drop off) ∧ wf a
theorem Fields.one {f : Go.Field} {off : Nat} {α : Type} {d : Kd α} {wf : α → Prop} (h : Opens P f.type d wf) (ho : f.offset = off) : Fields P [f] off d wf := by
  refine ⟨fun {H enc w base sp held n cs} hall hl => ?_⟩
  obtain ⟨x, hx⟩ := hall 0 f rfl
  rw [ho, List.take_of_length_le (by rw [List.length_drop, h.size]; omega)] at hx
  exact h.opens hx
theorem Fields.cons {f : Go.Field} {fs : List Go.Field} {off : Nat} {α β : Type} {d : Kd α} {d2 : Kd β} {wf : α → Prop} {wf2 : β → Prop} (h : Opens P f.type d wf) (ho : f.offset = off) (h2 : Fields P fs (off + d.sz) d2 wf2) :
    Fields P (f :: fs) off (Kd.pair d d2) (fun p => wf p.1 ∧ wf2 p.2) := by
  refine ⟨fun {H enc w base sp held n cs} hall hl => ?_⟩
  have hl' : cs.length = off + (d.sz + d2.sz) := hl
  obtain ⟨x, hx⟩ := hall 0 f rfl
  rw [ho, h.size] at hx
  obtain ⟨a, ha, hwa⟩ := h.opens hx
  obtain ⟨b, hb, hwb⟩ := h2.opens (H := H) (enc := enc) (w := w) (base := base) (sp := sp) (held := held) (n := n) (cs := cs) (fun i g hg => hall (i + 1) g (by simpa using hg)) (by omega)
  refine ⟨(a, b), ⟨_, _, ?_, ha, hb⟩, hwa, hwb⟩
  rw [← List.drop_drop, List.take_append_drop]
theorem Opens.struct {t : TypeId} {fs : Array Go.Field} {α : Type} {d : Kd α} {wf : α → Prop} (ht : P.underlying t = some (.struct fs)) (hs : P.cellsOf t = d.sz) (h : Fields P fs.toList 0 d wf) : Opens P t d wf := by
  refine ⟨hs, fun {H enc w base sp held fuel cs x} hx => ?_⟩
  obtain ⟨xs, n, _, _, hl, hn, hf⟩ := DataW.trod_struct ht hx
  have := h.opens (H := H) (enc := enc) (w := w) (base := base) (sp := sp) (held := held) (n := n) (cs := cs) (fun i f hi => ?_) (by omega)
  · simpa using this
  · have hi' : fs[i]? = some f := by simpa using hi
    have hlt : i < fs.size := (Array.getElem?_eq_some_iff.1 hi').1
    rw [hf i f hi']
    exact ⟨_, List.getElem?_eq_getElem (by omega)⟩
theorem Opens.iso {t : TypeId} {α β : Type} {d : Kd α} {wf : α → Prop} (h : Opens P t d wf) (f : β → α) (g : α → β) (hfg : ∀ a, f (g a) = a) : Opens P t (Kd.iso d f) (fun b => wf (f b)) := by
  refine ⟨h.size, fun hx => ?_⟩
  obtain ⟨a, h1, h2⟩ := h.opens hx
  exact ⟨g a, by show d.K _ (f (g a)) _; rw [hfg]; exact h1, by rw [hfg]; exact h2⟩

/-- A parameter that is a slice: its value and what it holds. -/
theorem open_row {t e : TypeId} {α : Type} {d : Kd α} {wf : α → Prop} (he : Opens P e d wf) (ht : P.underlying t = some (.slice e)) (hs : P.cellsOf t = 1) {H : Type} {enc : TypeId × Value → H} {w : World} {base : Nat} {sp : Nat → Bool} {held : Bool} {v : Value} {x : DataW H} {ps : List MemPlace}
    (h : DataW.Trod enc P w base sp held t v x ps) (hv : ∃ a n c, v = .slice a n c) : ∃ A c l, v = .slice A l.length c ∧ l.length ≤ c ∧ l.length ≤ 9223372036854775807 ∧ d.C w A l.length l ∧ ∀ a ∈ l, wf a := by
  obtain ⟨fuel, hf⟩ := h
  obtain ⟨l, ⟨A, c, h1, h2, h3⟩, h4, h5⟩ := (Opens.slice he ht hs).opens hf
  obtain ⟨a0, n0, c0, rfl⟩ := hv
  simp [Value.cells] at h1
  obtain ⟨rfl, rfl, rfl⟩ := h1
  exact ⟨_, _, l, rfl, h2, h4, h3, h5⟩

/-- A parameter that is a struct. -/
theorem open_agg {t : TypeId} {fs : Array Go.Field} {α : Type} {d : Kd α} {wf : α → Prop} (he : Opens P t d wf) (ht : P.underlying t = some (.struct fs)) {H : Type} {enc : TypeId × Value → H} {w : World} {base : Nat} {sp : Nat → Bool} {held : Bool} {v : Value} {x : DataW H} {ps : List MemPlace} {r : Reach} {b0 : Nat}
    (h : DataW.Trod enc P w base sp held t v x ps) (hv : Value.okWide P w r b0 t v) : ∃ cs a, v = .agg cs ∧ d.K w a cs.toList ∧ wf a := by
  obtain ⟨fuel, hf⟩ := h
  obtain ⟨a, h1, h2⟩ := he.opens hf
  obtain ⟨cs, rfl, _⟩ := okWide_struct ht hv
  exact ⟨cs, a, rfl, h1, h2⟩

/-- The elements of a row that is read, by their places. -/
theorem C_at {α : Type} {d : Kd α} {w : World} {A : Option Addr} {l : List α} (h : d.C w A l.length l) (hsz : 0 < d.sz) (hn : 0 < l.length) : ∃ b off, A = some ⟨b, off, none⟩ ∧ b < w.heap.size ∧
    ∀ i (hi : i < l.length), ∃ c, c.length = d.sz ∧ d.K w l[i] c ∧ ∀ j u, c[j]? = some u → w.cell? ⟨b, off + i * d.sz + j, none⟩ = some u := by
  obtain ⟨ad, rfl, hc⟩ := h.2.2 hn
  have hcell : ∀ i (hi : i < l.length), ∃ c, c.length = d.sz ∧ d.K w l[i] c ∧ ∀ j u, c[j]? = some u → w.cell? (ad.add (i * d.sz + j)) = some u := fun i hi => hc i _ (List.getElem?_eq_getElem hi)
  obtain ⟨c0, h1, h2, h3⟩ := hcell 0 hn
  have h0 : w.cell? ad = some (c0[0]'(by omega)) := by
    have := h3 0 _ (List.getElem?_eq_getElem (by omega))
    simpa [Addr.add] using this
  obtain ⟨b, off, spot⟩ := ad
  have hspot : spot = none := by
    cases spot with
    | none => rfl
    | some q =>
      exfalso
      unfold World.cell? at h0
      split at h0
      · simp at h0
      · cases h0
  subst hspot
  refine ⟨b, off, rfl, World.block_lt_of_cell? w ⟨b, off, none⟩ h0, fun i hi => ?_⟩
  obtain ⟨c, g1, g2, g3⟩ := hcell i hi
  refine ⟨c, g1, g2, fun j u hu => ?_⟩
  have := g3 j u hu
  unfold Addr.add at this
  split at this
  · rename_i hz
    have : i * d.sz = 0 := by omega
    have hj : j = 0 := by omega
    subst hj
    simp_all
  · simpa [Nat.add_assoc] using this
end Go.Opens

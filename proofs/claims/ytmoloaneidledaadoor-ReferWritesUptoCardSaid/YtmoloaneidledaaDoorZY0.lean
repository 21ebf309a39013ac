/- Merged: BOpens, MapLit, MapPut, R26X, R26YA, ShelfB, R26YB, R26YC, R26YD, R26YE, R26YF, R26YG, R26YH, R26YK. -/
import Derived.Test.YtmoloaneidledaaDoorRows
import Derived.Test.YtmoloaneidledaaDoorOpens
import Derived.WalkKit
import Derived.Maps.RangeRun
import Derived.Maps.RangeWalk
import Derived.Test.YtmoloaneidledaaDoorR26V
import Derived.Test.YtmoloaneidledaaDoorR26E
import Derived.Shelf.Strings.Builder1
import Derived.Test.YtmoloaneidledaaDoorProg
import Derived.LoopTactic
import Derived.LoopN
import Derived.Deep.LoopGhost
import Derived.Test.YtmoloaneidledaaDoorR26S
set_option linter.unusedVariables false
set_option linter.unusedSimpArgs false
namespace Go.Proofs.YtmoloaneidledaaDoor.BOpens
open Go Go.RowKit Go.ChangeShapes Go.WideShapes Go.Opens Go.Proofs.YtmoloaneidledaaDoorW.PrintWords
variable {P : Program}

theorem part_le {H : Type} {d : DataW H} {l : List (DataW H)} (h : d ∈ l) : Rows.uptoBulk d ≤ Rows.uptoBulkAll l := by
  induction l with
  | nil => cases h
  | cons x r ih =>
    simp only [Rows.uptoBulkAll]
    cases List.mem_cons.1 h with
    | inl e => subst e; omega
    | inr e => have := ih e; omega

/-- Whatever reads as a value of type t, of bulk at most N, is, by the kind d, some a of which wf holds. -/
structure BOpens (P : Program) (N : Nat) (t : TypeId) {α : Type} (d : Kd α) (wf : α → Prop) : Prop where
  size : P.cellsOf t = d.sz
  opens : ∀ {H : Type} {enc : TypeId × Value → H} {w : World} {base : Nat} {sp : Nat → Bool} {held : Bool} {fuel : Nat} {cs : List Value} {x : DataW H × List MemPlace},
    DataW.trod enc P w base sp held fuel t cs = some x → Rows.uptoBulk x.1 ≤ N → ∃ a, d.K w a cs ∧ wf a

theorem BOpens.of {N : Nat} {t : TypeId} {α : Type} {d : Kd α} {wf : α → Prop} (h : Opens P t d wf) : BOpens P N t d wf := ⟨h.size, fun hx _ => h.opens hx⟩
theorem BOpens.string {N : Nat} {t : TypeId} (ht : P.underlying t = some .string) (hs : P.cellsOf t = 1) : BOpens P N t Kd.string (fun s => s.size ≤ maxLen ∧ s.size ≤ N) := by
  refine ⟨hs, fun {H enc w base sp held fuel cs x} h hb => ?_⟩
  obtain ⟨n, rfl, rfl, hw⟩ := DataW.trod_string ht h
  refine ⟨n, rfl, hw, ?_⟩
  simp only [Rows.uptoBulk, Array.length_toList] at hb
  have : n.data.size = n.size := rfl
  omega
theorem BOpens.slice {N : Nat} {t e : TypeId} {α : Type} {d : Kd α} {wf : α → Prop} (he : BOpens P N e d wf) (ht : P.underlying t = some (.slice e)) (hs : P.cellsOf t = 1) :
    BOpens P N t (Kd.slice e d) (fun l => l.length ≤ 9223372036854775807 ∧ ∀ a ∈ l, wf a) := by
  refine ⟨hs, fun {H enc w base sp held fuel cs x} h hbk => ?_⟩
  rcases Go.Deep.open_slice ht h with ⟨rfl, _⟩ | ⟨a, len, cap, m, n, D, Pl, rfl, hb, hlc, hcap, hm, hx0, hel⟩
  · exact ⟨[], ⟨none, 0, rfl, Nat.le_refl _, rfl, by simp, fun h => absurd h (by simp)⟩, by simp, by simp⟩
  · have hlm : len ≤ m := by rw [hm]; split <;> omega
    have hbD : ∀ i, i < len → Rows.uptoBulk (D i) ≤ N := by
      intro i hi
      rw [hx0] at hbk
      simp only [Rows.uptoBulk] at hbk
      have := part_le (d := D i) (l := (List.range len).map D) (List.mem_map.2 ⟨i, List.mem_range.2 hi, rfl⟩)
      omega
    have hall : ∀ i, i < len → ∃ q : α, (∃ c, c.length = d.sz ∧ d.K w q c ∧ ∀ j u, c[j]? = some u → w.cell? (a.add (i * d.sz + j)) = some u) ∧ wf q := by
      intro i hi
      obtain ⟨cs', hc, htr⟩ := hel i (by omega)
      obtain ⟨q, hq, hw⟩ := he.opens htr (hbD i hi)
      obtain ⟨h1, h2⟩ := cells_of hc
      refine ⟨q, ⟨cs', d.K_len hq, hq, fun j u hu => ?_⟩, hw⟩
      have := h2 j u hu
      rw [Go.Deep.add_add, he.size] at this
      exact this
    have hex : ∃ l : List α, l.length = len ∧ ∀ i q, l[i]? = some q → (∃ c, c.length = d.sz ∧ d.K w q c ∧ ∀ j u, c[j]? = some u → w.cell? (a.add (i * d.sz + j)) = some u) ∧ wf q := by
      clear hel hm hlm h hlc hx0 hcap hbD hbk
      induction len with
      | zero => exact ⟨[], rfl, fun i q h => by simp at h⟩
      | succ k ih =>
        obtain ⟨l, h1, h2⟩ := ih (fun i hi => hall i (by omega))
        obtain ⟨q, hq⟩ := hall k (by omega)
        refine ⟨l ++ [q], by simp [h1], fun i q' hq' => ?_⟩
        by_cases hi : i < l.length
        · rw [List.getElem?_append_left hi] at hq'
          exact h2 i q' hq'
        · have hk : i = k := by
            have := (List.getElem?_eq_some_iff.1 hq').1
            simp at this
            omega
          subst hk
          rw [List.getElem?_append_right (by omega), h1] at hq'
          simp at hq'
          subst hq'
          exact hq
    obtain ⟨l, h1, h2⟩ := hex
    have hc64 : len ≤ 9223372036854775807 := by unfold maxLen at hcap; omega
    refine ⟨l, ⟨some a, cap, by rw [h1], by omega, rfl, by omega, fun _ => ⟨a, rfl, fun j q hq => (h2 j q hq).1⟩⟩, by omega, fun q hq => ?_⟩
    obtain ⟨i, hi, rfl⟩ := List.mem_iff_getElem.1 hq
    exact (h2 i _ (List.getElem?_eq_getElem hi)).2

/-- Fields in line, from cell off on. -/
structure BFields (P : Program) (N : Nat) (fs : List Go.Field) (off : Nat) {α : Type} (d : Kd α) (wf : α → Prop) : Prop where
  opens : ∀ {H : Type} {enc : TypeId × Value → H} {w : World} {base : Nat} {sp : Nat → Bool} {held : Bool} {n : Nat} {cs : List Value},
    (∀ (i : Nat) (f : Go.Field), fs[i]? = some f → ∃ x, DataW.trod enc P w base sp held n f.type ((cs.drop f.offset).take (P.cellsOf f.type)) = some x ∧ Rows.uptoBulk x.1 ≤ N) → cs.length = off + d.sz → ∃ a, d.K w a (cs.drop off) ∧ wf a
theorem BFields.one {N : Nat} {f : Go.Field} {off : Nat} {α : Type} {d : Kd α} {wf : α → Prop} (h : BOpens P N f.type d wf) (ho : f.offset = off) : BFields P N [f] off d wf := by
  refine ⟨fun {H enc w base sp held n cs} hall hl => ?_⟩
  obtain ⟨x, hx, hb⟩ := hall 0 f rfl
  rw [ho, List.take_of_length_le (by rw [List.length_drop, h.size]; omega)] at hx
  exact h.opens hx hb
theorem BFields.cons {N : Nat} {f : Go.Field} {fs : List Go.Field} {off : Nat} {α β : Type} {d : Kd α} {d2 : Kd β} {wf : α → Prop} {wf2 : β → Prop} (h : BOpens P N f.type d wf) (ho : f.offset = off) (h2 : BFields P N fs (off + d.sz) d2 wf2) :
    BFields P N (f :: fs) off (Kd.pair d d2) (fun p => wf p.1 ∧ wf2 p.2) := by
  refine ⟨fun {H enc w base sp held n cs} hall hl => ?_⟩
  have hl' : cs.length = off + (d.sz + d2.sz) := hl
  obtain ⟨x, hx, hxb⟩ := hall 0 f rfl
  rw [ho, h.size] at hx
  obtain ⟨a, ha, hwa⟩ := h.opens hx hxb
  obtain ⟨b, hb, hwb⟩ := h2.opens (H := H) (enc := enc) (w := w) (base := base) (sp := sp) (held := held) (n := n) (cs := cs) (fun i g hg => hall (i + 1) g (by simpa using hg)) (by omega)
  refine ⟨(a, b), ⟨_, _, ?_, ha, hb⟩, hwa, hwb⟩
  rw [← List.drop_drop, List.take_append_drop]
theorem BOpens.struct {N : Nat} {t : TypeId} {fs : Array Go.Field} {α : Type} {d : Kd α} {wf : α → Prop} (ht : P.underlying t = some (.struct fs)) (hs : P.cellsOf t = d.sz) (h : BFields P N fs.toList 0 d wf) : BOpens P N t d wf := by
  refine ⟨hs, fun {H enc w base sp held fuel cs x} hx hbk => ?_⟩
  obtain ⟨xs, n, _, hx1, hl, hn, hf⟩ := DataW.trod_struct ht hx
  have := h.opens (H := H) (enc := enc) (w := w) (base := base) (sp := sp) (held := held) (n := n) (cs := cs) (fun i f hi => ?_) (by omega)
  · simpa using this
  · have hi' : fs[i]? = some f := by simpa using hi
    have hlt : i < fs.size := (Array.getElem?_eq_some_iff.1 hi').1
    rw [hf i f hi']
    refine ⟨_, List.getElem?_eq_getElem (by omega), ?_⟩
    rw [hx1] at hbk
    simp only [Rows.uptoBulk] at hbk
    have := part_le (d := (xs[i]'(by omega)).1) (l := xs.map (·.1)) (List.mem_map.2 ⟨_, List.getElem_mem _, rfl⟩)
    omega
theorem BOpens.iso {N : Nat} {t : TypeId} {α β : Type} {d : Kd α} {wf : α → Prop} (h : BOpens P N t d wf) (f : β → α) (g : α → β) (hfg : ∀ a, f (g a) = a) : BOpens P N t (Kd.iso d f) (fun b => wf (f b)) := by
  refine ⟨h.size, fun hx hb => ?_⟩
  obtain ⟨a, h1, h2⟩ := h.opens hx hb
  exact ⟨g a, by show d.K _ (f (g a)) _; rw [hfg]; exact h1, by rw [hfg]; exact h2⟩
/-- A parameter that is a slice: its value and what it holds. -/
theorem open_rowB {N : Nat} {t e : TypeId} {α : Type} {d : Kd α} {wf : α → Prop} (he : BOpens P N e d wf) (ht : P.underlying t = some (.slice e)) (hs : P.cellsOf t = 1) {H : Type} {enc : TypeId × Value → H} {w : World} {base : Nat} {sp : Nat → Bool} {held : Bool} {v : Value} {x : DataW H} {ps : List MemPlace}
    (h : DataW.Trod enc P w base sp held t v x ps) (hb : Rows.uptoBulk x ≤ N) (hv : ∃ a n c, v = .slice a n c) : ∃ A c l, v = .slice A l.length c ∧ l.length ≤ c ∧ l.length ≤ 9223372036854775807 ∧ d.C w A l.length l ∧ ∀ a ∈ l, wf a := by
  obtain ⟨fuel, hf⟩ := h
  obtain ⟨l, ⟨A, c, h1, h2, h3⟩, h4, h5⟩ := (BOpens.slice he ht hs).opens hf hb
  obtain ⟨a0, n0, c0, rfl⟩ := hv
  simp [Value.cells] at h1
  obtain ⟨rfl, rfl, rfl⟩ := h1
  exact ⟨_, _, l, rfl, h2, h4, h3, h5⟩
end Go.Proofs.YtmoloaneidledaaDoor.BOpens

set_option linter.unusedVariables false
set_option linter.unusedSimpArgs false
namespace Go.MapLit
open Go.RowKit
open Go.ChangeMaps (setBlock)

/-- Keys of one kind: how they are compared. -/
structure KeyLit (P : Program) (K : TypeId) {α : Type} [DecidableEq α] (encK : α → Value) : Prop where
  kind : ∃ kd, P.underlying K = some kd ∧ ∀ x y, Instr.sameNow kd (encK x) (encK y) = some (decide (x = y))
  check : ∀ e x w, (Instr.checkKey e 10000 K (encK x)).run P w = .ok () w
  same : ∀ x, Instr.sameBits 10000 (encK x) (encK x) = true

theorem KeyLit.string {P : Program} {K : TypeId} (h : P.underlying K = some .string) : KeyLit P K Value.string := by
  refine ⟨⟨_, h, fun x y => ?_⟩, fun e x w => ?_, fun x => ?_⟩
  · simp only [Instr.sameNow]
    congr 1
    rw [Bool.eq_iff_iff, MapKept.bytes_beq]; simp
  · rw [show (10000 : Nat) = 9999 + 1 from rfl, Instr.checkKey]
    simp [run_underlying h, Result.andThen]
  · simp only [Instr.sameBits]; exact (MapKept.bytes_beq x x).2 rfl
theorem KeyLit.int {P : Program} {K : TypeId} {k : IntKind} (h : P.underlying K = some (.int k)) : KeyLit P K (Value.int k) := by
  refine ⟨⟨_, h, fun x y => ?_⟩, fun e x w => ?_, fun x => ?_⟩
  · simp only [Instr.sameNow, if_true]
    congr 1
  · rw [show (10000 : Nat) = 9999 + 1 from rfl, Instr.checkKey]
    simp [run_underlying h, Result.andThen]
  · simp [Instr.sameBits]

section
variable {P : Program} {α β : Type} (encK : α → Value) (encV : β → Value)

/-- The entries of a literal, in the order of its text. -/
def litEs (l : List (α × β)) : Array MapEntry := (l.zipIdx.map fun p => (⟨encK p.1.1, encV p.1.2, p.2⟩ : MapEntry)).toArray
/-- Block b is the map of these pairs. -/
def MapIs (w : World) (b : Nat) (l : List (α × β)) : Prop := w.heap[b]? = some (.map (litEs encK encV l) l.length)

theorem litEs_push (l : List (α × β)) (k : α) (v : β) : (litEs encK encV l).push ⟨encK k, encV v, l.length⟩ = litEs encK encV (l ++ [(k, v)]) := by
  simp [litEs, List.zipIdx_append]

def find [DecidableEq α] (l : List (α × β)) (k : α) : Option β := (l.find? fun p => decide (k = p.1)).map (·.2)

theorem findNow_zip [DecidableEq α] (kd : TypeDesc) (hkd : ∀ x y, Instr.sameNow kd (encK x) (encK y) = some (decide (x = y))) (k : α) : ∀ (l : List (α × β)) (i n : Nat),
    ∃ r, Instr.findNow kd (encK k) ((l.zipIdx n).map fun p => (⟨encK p.1.1, encV p.1.2, p.2⟩ : MapEntry)) i = some r ∧ r.map (·.2) = (find l k).map encV ∧ (r = none ↔ find l k = none)
  | [], i, n => ⟨none, rfl, rfl, by simp [find]⟩
  | p :: l, i, n => by
    simp only [List.zipIdx_cons, List.map_cons, Instr.findNow, hkd]
    by_cases h : k = p.1
    · refine ⟨some (i, encV p.2), ?_, ?_, ?_⟩ <;> simp [h, find]
    · obtain ⟨r, h1, h2, h3⟩ := findNow_zip kd hkd k l (i + 1) (n + 1)
      refine ⟨r, ?_, ?_, ?_⟩
      · simp [h, h1]
      · simpa [find, h] using h2
      · simpa [find, h] using h3

theorem findNow_lit [DecidableEq α] (kd : TypeDesc) (hkd : ∀ x y, Instr.sameNow kd (encK x) (encK y) = some (decide (x = y))) (k : α) (l : List (α × β)) :
    ∃ r, Instr.findNow kd (encK k) (litEs encK encV l).toList 0 = some r ∧ r.map (·.2) = (find l k).map encV ∧ (r = none ↔ find l k = none) := by
  have := findNow_zip encK encV kd hkd k l 0 0
  simpa [litEs] using this

/-- A new key laid into the map that was just made. -/
theorem run_insert [DecidableEq α] {t K E : TypeId} (hk : KeyLit P K encK) (ht : P.underlying t = some (.map K E)) (l : List (α × β)) (k : α) (v : β) (hnew : find l k = none) (w : World) :
    (Instr.mapUpdate t (.map (some w.heap.size)) (encK k) (encV v)).run P (w.alloc (.map (litEs encK encV l) l.length)) = .ok () (w.alloc (.map (litEs encK encV (l ++ [(k, v)])) (l.length + 1))) := by
  obtain ⟨kd, h1, h2⟩ := hk.kind
  obtain ⟨r, h3, _, h4⟩ := findNow_lit encK encV kd h2 k l
  have hr : r = none := h4.2 hnew
  subst hr
  have hb : (w.alloc (.map (litEs encK encV l) l.length)).heap[w.heap.size]? = some (.map (litEs encK encV l) l.length) := heap_alloc_new w _
  have hget : ∀ W : World, W.heap[w.heap.size]? = some (.map (litEs encK encV l) l.length) → (getObj w.heap.size).run P W = .ok (.map (litEs encK encV l) l.length) W := by
    intro W h
    simp [getObj, Sem.run, h]
  simp only [Instr.mapUpdate, Sem.run_bind, run_underlying ht, Result.andThen, hget _ hb, hk.check, Instr.findKey, run_underlying h1, h3, Sem.run_pure]
  simp only [setObj, Sem.run, hb]
  rw [litEs_push]
  congr 1
  have e : ∀ o : Obj, (w.alloc o).heap = w.heap.push o := fun _ => rfl
  have e2 : ∀ o : Obj, (w.heap.push (.map (litEs encK encV l) l.length)).setIfInBounds w.heap.size o = w.heap.push o := fun o => by
    apply Array.ext_getElem?
    intro i
    rw [Array.getElem?_setIfInBounds, Array.getElem?_push, Array.getElem?_push]
    by_cases h : w.heap.size = i
    · subst h; simp
    · rw [if_neg h, if_neg (fun e => h e.symm), if_neg (fun e => h e.symm)]
  show ({ w.alloc (.map (litEs encK encV l) l.length) with heap := (w.heap.push (.map (litEs encK encV l) l.length)).setIfInBounds w.heap.size _ } : World) = _
  rw [e2]; rfl

theorem run_lookup [DecidableEq α] {t K E : TypeId} (hk : KeyLit P K encK) (ht : P.underlying t = some (.map K E)) {z : Value} (hz : ∀ w, (zeroValue E).run P w = .ok z w) (l : List (α × β)) (k : α) {w : World} {b : Nat} (hb : MapIs encK encV w b l) (ok : Bool) :
    (Instr.lookup t (.map (some b)) (encK k) ok).run P w = .ok (if ok then .tuple #[((find l k).map encV).getD z, .bool (find l k).isSome] else ((find l k).map encV).getD z) w := by
  obtain ⟨kd, h1, h2⟩ := hk.kind
  obtain ⟨r, h3, h5, h4⟩ := findNow_lit encK encV kd h2 k l
  have hget : (getObj b).run P w = .ok (.map (litEs encK encV l) l.length) w := by
    have hb' : w.heap[b]? = some (.map (litEs encK encV l) l.length) := hb
    simp [getObj, Sem.run, hb']
  simp only [Instr.lookup, Sem.run_bind, run_underlying ht, Result.andThen, hget, hk.check, Instr.findKey, run_underlying h1, h3, Sem.run_pure]
  cases hf : find l k with
  | none =>
    have hr : r = none := h4.2 hf
    subst hr
    simp only [Sem.run_bind, hz, Result.andThen, Sem.run_pure, Option.map_none, Option.getD_none, Option.isSome_none]
  | some v =>
    cases r with
    | none => simp [h4.1 rfl] at hf
    | some q =>
      rw [hf] at h5
      simp at h5
      simp only [Sem.run_pure, Option.map_some, Option.getD_some, Option.isSome_some, ← h5]
      cases ok <;> simp

theorem MapIs.below {w w' : World} {b : Nat} {l : List (α × β)} (h : MapIs encK encV w b l) (hb : Below w.heap.size w w') : MapIs encK encV w' b l := by
  have hlt : b < w.heap.size := by
    unfold MapIs at h
    exact (Array.getElem?_eq_some_iff.1 h).1
  exact (hb.block b hlt).trans h
theorem MapIs.made (w : World) (l : List (α × β)) : MapIs encK encV (w.alloc (.map (litEs encK encV l) l.length)) w.heap.size l := heap_alloc_new w _
theorem MapIs.grown {w w' : World} {b : Nat} {l : List (α × β)} (h : MapIs encK encV w b l) {row : Option Nat} (hg : w.grownBy w' row) (hr : some b ≠ row) : MapIs encK encV w' b l := by
  have hlt : b < w.heap.size := by
    unfold MapIs at h
    exact (Array.getElem?_eq_some_iff.1 h).1
  exact (hg.block b hlt hr).trans h

theorem litEs_mem {l : List (α × β)} {e : MapEntry} (h : e ∈ (litEs encK encV l).toList) : ∃ (i : Nat) (hi : i < l.length), e = ⟨encK l[i].1, encV l[i].2, i⟩ := by
  simp only [litEs, List.mem_map] at h
  obtain ⟨⟨p, i⟩, hp, rfl⟩ := h
  have := List.mem_zipIdx' hp
  exact ⟨i, this.1, by simp [this.2]⟩
theorem litEs_at {l : List (α × β)} (i : Nat) (hi : i < l.length) : (⟨encK l[i].1, encV l[i].2, i⟩ : MapEntry) ∈ (litEs encK encV l).toList := by
  simp only [litEs, List.mem_map]
  exact ⟨(l[i], i), List.mk_mem_zipIdx_iff_getElem?.2 (by simp [hi]), rfl⟩
theorem litEs_born (l : List (α × β)) : ((litEs encK encV l).toList.map (·.born)).Nodup := by
  have : ((litEs encK encV l).toList.map (·.born)) = List.range l.length := by
    apply List.ext_getElem
    · simp [litEs]
    · intro i h1 h2
      simp [litEs]
  rw [this]
  exact List.nodup_range

/-- Where a range over the map stands: the iterator's block. -/
def IterIs (w : World) (r b n : Nat) (seen : Array Nat) : Prop := ∃ c0, n ≤ c0 ∧ w.heap[r]? = some (.mapIter (some b) n seen c0)

theorem run_range {t K E : TypeId} (ht : P.underlying t = some (.map K E)) (l : List (α × β)) {w : World} {b : Nat} (hb : MapIs encK encV w b l) :
    (Instr.range t (.map (some b))).run P w = .ok (.pointer (some ⟨w.heap.size, 0, none⟩)) (w.alloc (.mapIter (some b) l.length #[] l.length)) :=
  run_range_map w t K E b _ _ ht hb
theorem IterIs.made (w : World) (b n : Nat) : IterIs (w.alloc (.mapIter (some b) n #[] n)) w.heap.size b n #[] := ⟨n, Nat.le_refl _, heap_alloc_new w _⟩

/-- One step of a range over the map: nothing is left, or one that has not come yet comes. -/
theorem wpList_next_lit {w : World} {ops : Array Oper} {rest : List Oper} {o : Oper} {a : Act} {Q : Exit → Act → World → Prop}
    (hg : o.guard = none) (it : Operand) (hop : o.op = Op.next it false) (l : List (α × β)) (b r : Nat) (seen : Array Nat) (hit : a.eval it = .pointer (some ⟨r, 0, none⟩))
    (hr : IterIs w r b l.length seen) (hb : MapIs encK encV w b l)
    (hDone : (∀ i, i < l.length → seen.contains i = true) → wpList P ops Q rest (a.put o.dst (.tuple #[.bool false])) w)
    (hMore : ∀ (i : Nat) (k : α) (v : β) (w' : World), l[i]? = some (k, v) → seen.contains i = false → IterIs w' r b l.length (seen.push i) → MapIs encK encV w' b l → w.grownBy w' (some r) → w'.heap.size = w.heap.size →
      (Instr.entry (.pointer (some ⟨r, 0, none⟩))).run P w' = .ok (.tuple #[encK k, encV v]) w' → wpList P ops Q rest (a.put o.dst (.tuple #[.bool true, encK k, encV v])) w') :
    wpList P ops Q (o :: rest) a w := by
  obtain ⟨c0, hc0, hr⟩ := hr
  have hold : ∀ x ∈ (litEs encK encV l).toList, x.born < l.length := by
    intro x hx
    obtain ⟨i, hi, rfl⟩ := litEs_mem encK encV hx
    exact hi
  refine wpList_plain hg fun K' hK' => ?_
  unfold Oper.wp
  rcases run_next_at (P := P) w o.type r b l.length c0 seen (litEs encK encV l) l.length hr hb hold hc0 with ⟨h0, hrun⟩ | ⟨e, he, w1, hw1, hrun⟩
  · simp [execOp, hop, hit, hrun, Result.andThen]
    refine hK' _ _ (hDone fun i hi => ?_)
    have := all_seen _ _ h0 _ (litEs_at encK encV i hi)
    exact this
  · obtain ⟨he1, he2⟩ := mem_left he
    obtain ⟨i, hi, rfl⟩ := litEs_mem encK encV he1
    simp [execOp, hop, hit, hrun, Result.andThen]
    have hne : r ≠ b := by
      intro h
      subst h
      have hb' : w.heap[r]? = _ := hb
      rw [hr] at hb'
      cases hb'
    have hr1 : w1.heap[r]? = some (.mapIter (some b) l.length seen c0) := by rcases hw1 with rfl | rfl <;> exact hr
    have hb1 : w1.heap[b]? = some (.map (litEs encK encV l) l.length) := by rcases hw1 with rfl | rfl <;> exact hb
    have hsz : w1.heap.size = w.heap.size := by rcases hw1 with rfl | rfl <;> rfl
    have hlt : r < w1.heap.size := (Array.getElem?_eq_some_iff.1 hr1).1
    have h1 : (setBlock w1 r (.mapIter (some b) l.length (seen.push i) l.length)).heap[r]? = some (.mapIter (some b) l.length (seen.push i) l.length) := by
      simp [setBlock, hlt]
    have h2 : (setBlock w1 r (.mapIter (some b) l.length (seen.push i) l.length)).heap[b]? = some (.map (litEs encK encV l) l.length) := by
      simp only [setBlock, Array.getElem?_setIfInBounds]
      rw [if_neg (by omega)]
      exact hb1
    refine hK' _ _ (hMore i l[i].1 l[i].2 _ (by simp [hi]) he2 ⟨_, Nat.le_refl _, h1⟩ h2 ?_ (by simp [setBlock, hsz]) (run_entry_at _ r b l.length seen _ l.length _ h1 h2 he1 (litEs_born encK encV l)))
    refine ⟨?_, ?_, ?_, ?_, ?_⟩
    · rcases hw1 with rfl | rfl <;> rfl
    · rcases hw1 with rfl | rfl <;> rfl
    · rcases hw1 with rfl | rfl <;> rfl
    · simp [setBlock, hsz]
    · intro k hk hne
      simp only [setBlock, Array.getElem?_setIfInBounds]
      rw [if_neg (by intro h; subst h; exact hne rfl)]
      rcases hw1 with rfl | rfl <;> rfl
end

/-- How many are still to come. -/
def left (n : Nat) (seen : Array Nat) : Nat := ((List.range n).filter fun i => !seen.contains i).length
theorem left_push {n i : Nat} {seen : Array Nat} (hi : i < n) (h : seen.contains i = false) : left n (seen.push i) < left n seen := by
  refine filter_lt (fun j => !seen.contains j) (fun j => !(seen.push i).contains j) ?_ i ?_ ?_ (List.range n) (by simpa using hi)
  · intro x hx
    rw [contains_push] at hx
    cases hc : seen.contains x
    · rfl
    · rw [hc] at hx; simp at hx
  · show (!seen.contains i) = true
    rw [h]; rfl
  · show (!(seen.push i).contains i) = false
    rw [contains_push]; simp
end Go.MapLit

set_option linter.unusedVariables false
set_option linter.unusedSimpArgs false
namespace Go.MapLit
open Go.RowKit

section
variable {P : Program} {α β : Type} (encK : α → Value) (encV : β → Value)
/-- A key laid: over the old one, or behind all. -/
def upd [DecidableEq α] : List (α × β) → α → β → List (α × β)
  | [], k, v => [(k, v)]
  | p :: l, k, v => if k = p.1 then (k, v) :: l else p :: upd l k v
theorem find_cons [DecidableEq α] (p : α × β) (l : List (α × β)) (k : α) : find (p :: l) k = if k = p.1 then some p.2 else find l k := by
  unfold find
  by_cases h : k = p.1
  · rw [List.find?_cons_of_pos (by simpa using h), if_pos h]; rfl
  · rw [List.find?_cons_of_neg (by simpa using h), if_neg h]
theorem upd_new [DecidableEq α] (k : α) (v : β) : ∀ l : List (α × β), find l k = none → upd l k v = l ++ [(k, v)]
  | [], _ => rfl
  | p :: l, h => by
    rw [find_cons] at h
    by_cases e : k = p.1
    · rw [if_pos e] at h; cases h
    · rw [if_neg e] at h
      rw [upd, if_neg e, upd_new k v l h]; rfl
theorem find_upd [DecidableEq α] (k j : α) (v : β) : ∀ l : List (α × β), find (upd l k v) j = if j = k then some v else find l j
  | [] => by
    rw [upd, find_cons]
  | p :: l => by
    rw [upd]
    by_cases e : k = p.1
    · rw [if_pos e, find_cons, find_cons]
      by_cases q : j = k
      · rw [if_pos q, if_pos q]
      · rw [if_neg q, if_neg q, if_neg (fun h => q (h.trans e.symm))]
    · rw [if_neg e, find_cons, find_cons, find_upd k j v l]
      by_cases q : j = p.1
      · rw [if_pos q, if_pos q, if_neg (fun h => e (h.symm.trans q))]
      · rw [if_neg q, if_neg q]
theorem keys_upd [DecidableEq α] (k : α) (v : β) : ∀ l : List (α × β), (upd l k v).map (·.1) = if find l k = none then l.map (·.1) ++ [k] else l.map (·.1)
  | [] => rfl
  | p :: l => by
    rw [upd, find_cons]
    by_cases e : k = p.1
    · rw [if_pos e, if_pos e, if_neg (by simp), List.map_cons, List.map_cons, ← e]
    · rw [if_neg e, if_neg e, List.map_cons, keys_upd k v l, List.map_cons]
      split <;> rfl
theorem upd_set [DecidableEq α] (kd : TypeDesc) (hkd : ∀ x y, Instr.sameNow kd (encK x) (encK y) = some (decide (x = y))) (k : α) (v : β) : ∀ (l : List (α × β)) (i n : Nat), find l k ≠ none →
    ∃ (j : Nat) (v0 : β), l[j]? = some (k, v0) ∧ Instr.findNow kd (encK k) ((l.zipIdx n).map fun p => (⟨encK p.1.1, encV p.1.2, p.2⟩ : MapEntry)) i = some (some (i + j, encV v0)) ∧ upd l k v = l.set j (k, v)
  | [], i, n, h => absurd rfl h
  | p :: l, i, n, h => by
    rw [find_cons] at h
    simp only [List.zipIdx_cons, List.map_cons, Instr.findNow, hkd]
    by_cases e : k = p.1
    · refine ⟨0, p.2, ?_, ?_, ?_⟩
      · show some p = some (k, p.2); rw [e]
      · simp [e]
      · rw [upd, if_pos e]; rfl
    · rw [if_neg e] at h
      obtain ⟨j, v0, h1, h2, h3⟩ := upd_set kd hkd k v l (i + 1) (n + 1) h
      refine ⟨j + 1, v0, h1, ?_, ?_⟩
      · simp only [e, decide_false]
        rw [h2, show i + 1 + j = i + (j + 1) by omega]
      · rw [upd, if_neg e, h3]; rfl
theorem litEs_get (l : List (α × β)) (i : Nat) : (litEs encK encV l)[i]? = l[i]?.map fun p => (⟨encK p.1, encV p.2, i⟩ : MapEntry) := by
  unfold litEs
  rw [List.getElem?_toArray, List.getElem?_map, List.getElem?_zipIdx]
  cases l[i]? <;> simp
theorem litEs_set (l : List (α × β)) (j : Nat) (k : α) (v : β) : ((litEs encK encV l).modify j fun e => { e with key := encK k, val := encV v }) = litEs encK encV (l.set j (k, v)) := by
  apply Array.ext_getElem?
  intro i
  rw [Array.getElem?_modify, litEs_get, litEs_get, List.getElem?_set]
  by_cases h : j = i
  · subst h
    rw [if_pos rfl, if_pos rfl]
    by_cases hj : j < l.length
    · rw [if_pos hj, List.getElem?_eq_getElem hj]; rfl
    · rw [if_neg hj, List.getElem?_eq_none (by omega)]; rfl
  · rw [if_neg h, if_neg h]
/-- The world with a block's map laid anew. -/
def laid (w : World) (b : Nat) (l : List (α × β)) : World := { w with heap := w.heap.setIfInBounds b (.map (litEs encK encV l) l.length) }
theorem run_put [DecidableEq α] {t K E : TypeId} (hk : KeyLit P K encK) (ht : P.underlying t = some (.map K E)) (l : List (α × β)) (k : α) (v : β) {w : World} {b : Nat} (hb : MapIs encK encV w b l) :
    (Instr.mapUpdate t (.map (some b)) (encK k) (encV v)).run P w = .ok () (laid encK encV w b (upd l k v)) := by
  obtain ⟨kd, h1, h2⟩ := hk.kind
  have hb' : w.heap[b]? = some (.map (litEs encK encV l) l.length) := hb
  have hget : (getObj b).run P w = .ok (.map (litEs encK encV l) l.length) w := by
    simp [getObj, Sem.run, hb']
  by_cases hnew : find l k = none
  · obtain ⟨r, h3, _, h4⟩ := findNow_lit encK encV kd h2 k l
    have hr : r = none := h4.2 hnew
    subst hr
    simp only [Instr.mapUpdate, Sem.run_bind, run_underlying ht, Result.andThen, hget, hk.check, Instr.findKey, run_underlying h1, h3, Sem.run_pure]
    simp only [setObj, Sem.run, hb']
    rw [litEs_push, upd_new k v l hnew]
    unfold laid
    rw [List.length_append]
    rfl
  · obtain ⟨j, v0, h3, h4, h5⟩ := upd_set encK encV kd h2 k v l 0 0 hnew
    have h4' : Instr.findNow kd (encK k) (litEs encK encV l).toList 0 = some (some (0 + j, encV v0)) := h4
    have hkey : ((litEs encK encV l)[j]?).map (·.key) = some (encK k) := by
      rw [litEs_get, h3]; rfl
    simp only [Instr.mapUpdate, Sem.run_bind, run_underlying ht, Result.andThen, hget, hk.check, Instr.findKey, run_underlying h1, h4', Sem.run_pure, Nat.zero_add, hkey, Option.getD_some, Instr.keyThatStays, hk.same, if_true]
    simp only [setObj, Sem.run, hb']
    rw [litEs_set, h5]
    unfold laid
    rw [List.length_set]
theorem MapIs.laid {w : World} {b : Nat} {l : List (α × β)} (h : MapIs encK encV w b l) (l' : List (α × β)) : MapIs encK encV (laid encK encV w b l') b l' := by
  unfold MapIs Go.MapLit.laid
  have hb : b < w.heap.size := by
    unfold MapIs at h
    rw [Array.getElem?_eq_some_iff] at h; exact h.1
  show (w.heap.setIfInBounds b _)[b]? = _
  rw [Array.getElem?_setIfInBounds, if_pos rfl, if_pos hb]
theorem laid_other (w : World) (b k : Nat) (l : List (α × β)) (h : k ≠ b) : (laid encK encV w b l).heap[k]? = w.heap[k]? := by
  show (w.heap.setIfInBounds b _)[k]? = _
  rw [Array.getElem?_setIfInBounds, if_neg (fun e => h e.symm)]
theorem laid_below {base : Nat} {w0 w : World} {b : Nat} (h : Below base w0 w) (hb : base ≤ b) (l : List (α × β)) : Below base w0 (laid encK encV w b l) :=
  ⟨h.os, h.tape, h.output, by show w0.heap.size ≤ _; rw [show (laid encK encV w b l).heap.size = w.heap.size from Array.size_setIfInBounds]; exact h.size, fun k hk => (laid_other encK encV w b k l (by omega)).trans (h.block k hk)⟩
end
end Go.MapLit

set_option linter.unusedVariables false
set_option linter.unusedSimpArgs false
namespace Go.Proofs.YtmoloaneidledaaDoor
open Go.Shelf Go.RowKit Go.Lib Go.MapLit

/-- A field can stand behind others. -/
def okF (p : List Fld) (f : Fld) : Bool := capB f.c && (decide (f.t.size ≠ 0) && (!decide (0 ≤ Lib.indexByte f.t.data.toList 10) && !(hasF p f.c && decide (f.c ≠ 65))))
def goodFrom : List Fld → List Fld → Bool
  | _, [] => true
  | p, f :: r => okF p f && goodFrom (p ++ [f]) r
def goodB (r : List Fld) : Bool := goodFrom [] r && decide (0 < r.length)
theorem goodFrom_at (r : List Fld) (k : Nat) (h : k < r.length) : goodFrom (r.take k) (r.drop k) = (okF (r.take k) r[k] && goodFrom (r.take (k + 1)) (r.drop (k + 1))) := by
  rw [List.drop_eq_getElem_cons h, List.take_succ_eq_append_getElem h]; rfl
theorem hasF_snoc (r : List Fld) (f : Fld) (c : Int) : hasF (r ++ [f]) c = (hasF r c || decide (f.c = c)) := by simp [hasF]
abbrev MB := List (Int × Bool)
def seenM (r : List Fld) : MB := r.foldl (fun M f => upd M f.c true) []
theorem seen_snoc (r : List Fld) (f : Fld) : seenM (r ++ [f]) = upd (seenM r) f.c true := by simp [seenM]
theorem find_seen (c : Int) : ∀ (n : Nat) (r : List Fld), r.length = n → find (seenM r) c = if hasF r c = true then some true else none
  | 0, r, h => by
    have : r = [] := List.eq_nil_of_length_eq_zero h
    subst this
    rfl
  | n + 1, r, h => by
    rcases List.eq_nil_or_concat r with e | ⟨q, f, e⟩
    · subst e; simp at h
    · rw [List.concat_eq_append] at e
      subst e
      rw [seen_snoc, find_upd, find_seen c n q (by simpa using h), hasF_snoc]
      by_cases hc : c = f.c
      · subst hc
        simp
      · rw [if_neg hc, decide_eq_false (fun q => hc q.symm), Bool.or_false]
theorem key5 : KeyLit Tryd.prog 5 (Value.int .u8) := KeyLit.int Tryd.underlying5
theorem zero4 (w : World) : (zeroValue 4).run Tryd.prog w = .ok (.bool false) w := by kernel_rfl
abbrev MapB (W : World) (g : Nat) (M : MB) : Prop := MapIs (Value.int .u8) Value.bool W g M
set_option maxRecDepth 100000 in
set_option maxHeartbeats 4000000 in
theorem good_calls (A : Option Addr) (cap : Nat) (r : List Fld) (hr : r.length ≤ 10000000) (w : World) (hI : Flds w.heap.size w A r) :
    Calls Tryd.prog 28 #[.slice A r.length cap] w fun e w' => e = .returned (.bool (goodB r)) ∧ Below w.heap.size w w' := by
  have HI := Lib.hid hI
  have HG := Lib.hid (show goodB r = (goodFrom [] r && decide (0 < r.length)) from rfl)
  obtain ⟨gb, hgb⟩ : ∃ gb, goodB r = gb := ⟨_, rfl⟩
  rw [hgb] at HG ⊢
  clear hI hgb
  have hm0 : MapB (w.alloc (.map (litEs (Value.int .u8) Value.bool []) ([] : MB).length)) w.heap.size [] := MapIs.made _ _ w []
  obtain ⟨W0, hW0⟩ : ∃ W0, w.alloc (.map (litEs (Value.int .u8) Value.bool []) ([] : MB).length) = W0 := ⟨_, rfl⟩
  have hsz0 : W0.heap.size = w.heap.size + 1 := by rw [← hW0]; simp
  have hb0 : Below w.heap.size w W0 := by rw [← hW0]; exact (Below.refl _ w).alloc (Nat.le_refl _) _
  have hmk : (Instr.makeMap 85 none).run Tryd.prog w = .ok (.map (some w.heap.size)) W0 := by rw [← hW0]; rfl
  rw [hW0] at hm0
  have HM0 := Lib.hid hm0
  clear hm0 hW0
  go_enter Tryd.func28, Tryd.ntmps28
  go_wp2
  go_loopw [9] (fun i wr => ∃ k : Nat, k ≤ r.length ∧ i = .int .i64 k ∧ Below w.heap.size w wr ∧ w.heap.size < wr.heap.size ∧ Hid (MapB wr w.heap.size (seenM (r.take k))) ∧ Hid (goodFrom (r.take k) (r.drop k) = goodFrom [] r)) (fun i _ => r.length - (RowKit.intOf i).toNat)
  case atStart => exact ⟨0, Nat.zero_le _, rfl, hb0, by omega, HM0, Lib.hid rfl⟩
  case round =>
    obtain ⟨k, hk, rfl, hb, hgl, HM, H⟩ := hrel
    clear hmk
    by_cases hkl : k < r.length
    · obtain ⟨b, off, rfl, hbl, c0, c1⟩ := HI.out.below hb k hkl
      have hbr : b < wr.heap.size := by omega
      have h := H.out
      rw [goodFrom_at r k hkl] at h
      have hsn : seenM (r.take (k + 1)) = upd (seenM (r.take k)) r[k].c true := by rw [List.take_succ_eq_append_getElem hkl, seen_snoc]
      have hfs := find_seen r[k].c _ (r.take k) rfl
      obtain ⟨f, hf⟩ : ∃ f, r[k] = f := ⟨_, rfl⟩
      rw [hf] at c0 c1 h hsn hfs
      obtain ⟨p, hp⟩ : ∃ p, r.take k = p := ⟨_, rfl⟩
      rw [hp] at h hsn hfs HM
      obtain ⟨p1, hp1⟩ : ∃ p1, r.take (k + 1) = p1 := ⟨_, rfl⟩
      rw [hp1] at h hsn
      have HP1 := Lib.hid hp1
      clear hf hp hp1 H
      obtain ⟨V, hV⟩ : ∃ V, wr.alloc (.cells #[.int .u8 f.c, .string f.t] 58) = V := ⟨_, rfl⟩
      have hmV : MapB V w.heap.size (seenM p) := by rw [← hV]; exact MapIs.below _ _ HM.out ((Below.refl _ wr).alloc (Nat.le_refl _) _)
      have hVs : V.heap.size = wr.heap.size + 1 := by rw [← hV]; simp
      have hbV : Below w.heap.size w V := by rw [← hV]; exact hb.alloc hb.size _
      have v0 : V.cell? ⟨wr.heap.size, 0, none⟩ = some (.int .u8 f.c) := by rw [← hV]; simp
      have v1 : V.cell? ⟨wr.heap.size, 1, none⟩ = some (.string f.t) := by rw [← hV]; simp
      have hlk := run_lookup (Value.int .u8) Value.bool key5 Tryd.underlying85 zero4 (seenM p) f.c (w := V) (b := w.heap.size) hmV false
      have hup := run_put (Value.int .u8) Value.bool key5 Tryd.underlying85 (seenM p) f.c true (w := V) (b := w.heap.size) hmV
      obtain ⟨W2, hW2⟩ : ∃ W2, laid (Value.int .u8) Value.bool V w.heap.size (upd (seenM p) f.c true) = W2 := ⟨_, rfl⟩
      have hm2 : MapB W2 w.heap.size (upd (seenM p) f.c true) := by rw [← hW2]; exact MapIs.laid _ _ hmV _
      have hb2 : Below w.heap.size w W2 := by rw [← hW2]; exact laid_below _ _ hbV (Nat.le_refl _) _
      have hs2 : W2.heap.size = V.heap.size := by rw [← hW2]; exact Array.size_setIfInBounds
      rw [hW2] at hup
      rw [hfs] at hlk
      have H34 := Lib.hid (cap34_calls f.c V)
      have H48 := Lib.hid (Tryd.strings_Contains_one f.t 10 V)
      clear hW2 hfs hmV HM
      have hok : okF p f = (capB f.c && (decide (f.t.size ≠ 0) && (!decide (0 ≤ Lib.indexByte f.t.data.toList 10) && !(hasF p f.c && decide (f.c ≠ 65))))) := rfl
      have hno : okF p f = false → gb = false := fun q => by rw [HG.out, ← h, q]; rfl
      by_cases hc : capB f.c = false
      · rw [hc] at H34 hok
        have hgb := hno hok
        clear h hno hc hlk hup hok
        go_wp2_with (go_at_call 34; refine H34.out.mono ?_; rintro e w' ⟨rfl, rfl⟩)
        go_ret
        exact ⟨by rw [hgb]; rfl, hbV⟩
      rw [show capB f.c = true by simpa using hc] at H34 hok
      by_cases hz : f.t.size = 0
      · have hte : f.t.toList.isEmpty = true := by
          rw [Lib.toList_data, List.isEmpty_iff, ← List.length_eq_zero_iff, Array.length_toList]; exact hz
        have hgb := hno (by rw [hok, decide_eq_false (by omega)]; rfl)
        clear h hno hc hlk hup hok hz
        go_wp2_with (go_at_call 34; refine H34.out.mono ?_; rintro e w' ⟨rfl, rfl⟩)
        go_ret
        exact ⟨by rw [hgb]; rfl, hbV⟩
      have hte : f.t.toList.isEmpty = false := by
        rw [Lib.toList_data, List.isEmpty_eq_false_iff]
        intro e
        apply hz
        have := congrArg List.length e
        rw [Array.length_toList] at this
        exact this
      rw [decide_eq_true (show f.t.size ≠ 0 from hz)] at hok
      by_cases h10 : 0 ≤ Lib.indexByte f.t.data.toList 10
      · have hgb := hno (by rw [hok, decide_eq_true h10]; rfl)
        rw [decide_eq_true h10] at H48
        clear h hno hc hlk hup hok hz h10
        go_wp2_with (first | (go_at_call 34; refine H34.out.mono ?_; rintro e w' ⟨rfl, rfl⟩) | (go_at_call 48; refine H48.out.mono ?_; rintro e w' ⟨rfl, rfl⟩))
        go_ret
        exact ⟨by rw [hgb]; rfl, hbV⟩
      rw [decide_eq_false h10] at H48 hok
      have hlk' : (Instr.lookup 85 (.map (some w.heap.size)) (.int .u8 f.c) false).run Tryd.prog V = .ok (.bool (hasF p f.c)) V := by
        rw [hlk]
        cases hasF p f.c <;> rfl
      clear hlk
      by_cases hh : hasF p f.c = true
      · rw [hh] at hlk' hok
        by_cases h65 : f.c = 65
        · have k65 : (f.c != 65) = false := by rw [h65]; rfl
          rw [decide_eq_false (show ¬ f.c ≠ 65 by omega)] at hok
          have HH := Lib.hid (show goodFrom p1 (r.drop (k + 1)) = goodFrom [] r by rw [← h, hok]; rfl)
          have HM2 := Lib.hid (show MapB W2 w.heap.size (seenM p1) by rw [hsn]; exact hm2)
          clear h hno hc hok hz h10 hm2 hsn h65
          go_wp2_with (first | (go_at_call 34; refine H34.out.mono ?_; rintro e w' ⟨rfl, rfl⟩) | (go_at_call 48; refine H48.out.mono ?_; rintro e w' ⟨rfl, rfl⟩))
          go_roundw
          case rel => exact ⟨k + 1, by omega, by go_num, hb2, by omega, by rw [HP1.out]; exact HM2, by rw [HP1.out]; exact HH⟩
          case measure => simp [RowKit.intOf]; omega
        · have k65 : (f.c != 65) = true := by rw [bne_iff_ne]; exact h65
          have hgb := hno (by rw [hok, decide_eq_true (show f.c ≠ 65 from h65)]; rfl)
          clear h hno hc hup hok hz h10 h65
          go_wp2_with (first | (go_at_call 34; refine H34.out.mono ?_; rintro e w' ⟨rfl, rfl⟩) | (go_at_call 48; refine H48.out.mono ?_; rintro e w' ⟨rfl, rfl⟩))
          go_ret
          exact ⟨by rw [hgb]; rfl, hbV⟩
      · have hhf : hasF p f.c = false := by simpa using hh
        rw [hhf] at hlk' hok
        have HH := Lib.hid (show goodFrom p1 (r.drop (k + 1)) = goodFrom [] r by rw [← h, hok]; rfl)
        have HM2 := Lib.hid (show MapB W2 w.heap.size (seenM p1) by rw [hsn]; exact hm2)
        clear h hno hc hok hz h10 hm2 hsn hh hhf
        go_wp2_with (first | (go_at_call 34; refine H34.out.mono ?_; rintro e w' ⟨rfl, rfl⟩) | (go_at_call 48; refine H48.out.mono ?_; rintro e w' ⟨rfl, rfl⟩))
        go_roundw
        case rel => exact ⟨k + 1, by omega, by go_num, hb2, by omega, by rw [HP1.out]; exact HM2, by rw [HP1.out]; exact HH⟩
        case measure => simp [RowKit.intOf]; omega
    · obtain rfl : k = r.length := by omega
      have h := H.out
      rw [List.drop_length, List.take_length, goodFrom] at h
      have hgb : gb = decide (0 < r.length) := by rw [HG.out, ← h]; rfl
      clear h H HM
      go_wp2
      go_ret
      exact ⟨by rw [hgb]; simp, hb⟩
end Go.Proofs.YtmoloaneidledaaDoor

set_option linter.unusedVariables false
set_option linter.unusedSimpArgs false
namespace Go.Proofs.YtmoloaneidledaaDoor
open Go.Shelf Go.RowKit Go.Lib

/-- The records' cells, below a block. -/
def Recs (n₀ : Nat) (W : World) (A : Option Addr) (l : List (List Fld)) : Prop :=
  ∀ m (h : m < l.length), ∃ b off A' c', A = some ⟨b, off, none⟩ ∧ b < n₀ ∧ W.cell? ⟨b, off + m, none⟩ = some (.slice A' l[m].length c') ∧ l[m].length ≤ c' ∧ Flds n₀ W A' l[m]
theorem Recs.below {n₀ : Nat} {W W' : World} {A : Option Addr} {l : List (List Fld)} (h : Recs n₀ W A l) (hb : Below n₀ W W') : Recs n₀ W' A l := fun m hm => by
  obtain ⟨b, off, A', c', e, hlt, c0, cc, c1⟩ := h m hm
  exact ⟨b, off, A', c', e, hlt, (hb.cell (p := ⟨b, off + m, none⟩) hlt).trans c0, cc, c1.below hb⟩
theorem Flds.more {n₀ n : Nat} {W : World} {A : Option Addr} {r : List Fld} (h : Flds n₀ W A r) (hn : n₀ ≤ n) : Flds n W A r := fun m hm => by
  obtain ⟨b, off, e, hlt, c0, c1⟩ := h m hm
  exact ⟨b, off, e, by omega, c0, c1⟩
theorem Recs.more {n₀ n : Nat} {W : World} {A : Option Addr} {l : List (List Fld)} (h : Recs n₀ W A l) (hn : n₀ ≤ n) : Recs n W A l := fun m hm => by
  obtain ⟨b, off, A', c', e, hlt, c0, cc, c1⟩ := h m hm
  exact ⟨b, off, A', c', e, by omega, c0, cc, c1.more hn⟩
theorem not27_calls (A : Option Addr) (cap : Nat) (r : List Fld) (hr : r.length ≤ 10000000) (w : World) (hI : Flds w.heap.size w A r) :
    Calls Tryd.prog 27 #[.slice A r.length cap] w fun e w' => e = .returned (.bool (!goodB r)) ∧ Below w.heap.size w w' := by
  have HC := Lib.hid (good_calls A cap r hr w hI)
  clear hI
  go_enter Tryd.func27, Tryd.ntmps27
  go_wp2_with (go_at_call 28; refine HC.out.mono ?_; rintro e w1 ⟨rfl, hb1⟩)
  go_ret
  exact ⟨rfl, hb1⟩
theorem all_drop (l : List (List Fld)) (k : Nat) (h : k < l.length) : (l.drop k).all goodB = (goodB l[k] && (l.drop (k + 1)).all goodB) := by
  rw [List.drop_eq_getElem_cons h]; rfl
set_option maxRecDepth 100000 in
set_option maxHeartbeats 2000000 in
theorem index47_calls (A : Option Addr) (cap : Nat) (l : List (List Fld)) (hz : l.length ≤ 1000000000) (hr : ∀ r ∈ l, r.length ≤ 10000000) (w : World) (hI : Recs w.heap.size w A l) :
    Calls Tryd.prog 47 #[.slice A l.length cap, .func (.func 27) #[] #[]] w fun e w' => (∃ k : Int, e = .returned (.int .i64 k) ∧ decide (0 ≤ k) = !(l.all goodB)) ∧ Below w.heap.size w w' := by
  have HI := Lib.hid hI
  have HR := Lib.hid hr
  clear hI hr
  go_enter Tryd.func47, Tryd.ntmps47
  go_wp2
  go_loopw [8] (fun i wr => ∃ k : Nat, k ≤ l.length ∧ i = .int .i64 k ∧ Below w.heap.size w wr ∧ Hid ((l.drop k).all goodB = l.all goodB)) (fun i _ => l.length - (RowKit.intOf i).toNat)
  case atStart => exact ⟨0, Nat.zero_le _, rfl, Below.refl _ _, Lib.hid rfl⟩
  case round =>
    obtain ⟨k, hk, rfl, hb, H⟩ := hrel
    by_cases hkl : k < l.length
    · obtain ⟨b, off, A', c', rfl, hbl, c0, cc, c1⟩ := HI.out.below hb k hkl
      have hbr : b < wr.heap.size := by have := hb.size; omega
      have h := H.out
      rw [all_drop l k hkl] at h
      have hrl : l[k].length ≤ 10000000 := HR.out _ (List.getElem_mem hkl)
      obtain ⟨f, hf⟩ : ∃ f, l[k] = f := ⟨_, rfl⟩
      rw [hf] at c0 c1 h hrl
      have HC := Lib.hid (not27_calls A' c' f hrl wr (c1.more hb.size))
      clear hf H c1 cc
      by_cases h1 : goodB f = true
      · rw [h1] at HC h
        have HH := Lib.hid h
        clear h h1
        go_wp2_with (go_at_call 27; refine HC.out.mono ?_; rintro e w1 ⟨rfl, hb1⟩)
        go_roundw
        case rel => exact ⟨k + 1, by omega, by go_num, hb.trans (hb1.mono hb.size), Lib.hid (by rw [← HH.out, Bool.true_and])⟩
        case measure => simp [RowKit.intOf]; omega
      · rw [show goodB f = false by simpa using h1] at HC h
        have HH := Lib.hid h
        clear h h1
        go_wp2_with (go_at_call 27; refine HC.out.mono ?_; rintro e w1 ⟨rfl, hb1⟩)
        go_ret
        exact ⟨⟨_, rfl, by rw [← HH.out]; simp⟩, hb.trans (hb1.mono hb.size)⟩
    · obtain rfl : k = l.length := by omega
      have h := H.out
      rw [List.drop_length] at h
      have HH := Lib.hid h
      clear h H
      go_wp2
      go_ret
      exact ⟨⟨_, rfl, by rw [← HH.out]; rfl⟩, hb⟩
set_option maxHeartbeats 1000000 in
theorem contains26_calls (A : Option Addr) (cap : Nat) (l : List (List Fld)) (hz : l.length ≤ 1000000000) (hr : ∀ r ∈ l, r.length ≤ 10000000) (w : World) (hI : Recs w.heap.size w A l) :
    Calls Tryd.prog 26 #[.slice A l.length cap, .func (.func 27) #[] #[]] w fun e w' => e = .returned (.bool (!(l.all goodB))) ∧ Below w.heap.size w w' := by
  have HC := Lib.hid (index47_calls A cap l hz hr w hI)
  clear hI hr
  go_enter Tryd.func26, Tryd.ntmps26
  go_wp2_with (go_at_call 47; refine HC.out.mono ?_; rintro e w1 ⟨⟨k, rfl, hk⟩, hb1⟩)
  go_ret
  exact ⟨by rw [← hk]; rfl, hb1⟩
end Go.Proofs.YtmoloaneidledaaDoor

namespace Go.Proofs
open Go.Shelf
def Tryd.lays169_ren : Go.Shelf.Ren := ⟨fun | 169 => 30 | n => n, fun | 70 => 61 | 9 => 9 | 0 => 0 | 72 => 63 | 37 => 22 | 127 => 86 | 3 => 3 | 5 => 5 | n => n, fun | n => n⟩
theorem Tryd.lays169 : Go.Proofs.Lays.n169 Tryd.prog Tryd.lays169_ren := {
  mixed := by kernel_rfl
  f169 := Tryd.func30.trans (congrArg some (by kernel_rfl))
  t0 := Tryd.underlying0
  a0 := Tryd.isAgg0
  z0 := Tryd.sizeOf0
  v0 := Tryd.zeroValue0
  t3 := Tryd.underlying3
  a3 := Tryd.isAgg3
  z3 := Tryd.sizeOf3
  v3 := Tryd.zeroValue3
  t9 := Tryd.underlying9
  a9 := Tryd.isAgg9
  z9 := Tryd.sizeOf9
  v9 := Tryd.zeroValue9
  t37 := Tryd.underlying22
  a37 := Tryd.isAgg22
  z37 := Tryd.sizeOf22
  v37 := Tryd.zeroValue22
  t70 := Tryd.underlying61
  a70 := Tryd.isAgg61
  z70 := Tryd.sizeOf61
  v70 := Tryd.zeroValue61
  t72 := Tryd.underlying63
  a72 := Tryd.isAgg63
  z72 := Tryd.sizeOf63
  v72 := Tryd.zeroValue63
  t127 := Tryd.underlying86
  a127 := Tryd.isAgg86
  z127 := Tryd.sizeOf86
  v127 := Tryd.zeroValue86 }
theorem Tryd.Builder_Extra_169 : Builder.Extra Tryd.prog Tryd.lays169_ren := {
  sizeBuilder := by kernel_rfl
  liesBuilder := by kernel_rfl
  t5 := Tryd.underlying5
  a5 := Tryd.isAgg5
  z5 := Tryd.sizeOf5
  v5 := Tryd.zeroValue5
  infoByte := by kernel_rfl
  cellsByte := by kernel_rfl
  sizeByte := by kernel_rfl
  neB5 := by decide }
open Go.RowKit in

theorem Tryd.Builder_String (B b : Nat) (l : List UInt8) (w : World) (h : Lib.IsBuilder 63 5 B b (Lib.byteCells l) w) (h0 : l ≠ []) :
    Calls Tryd.prog 30 #[.pointer (some ⟨b, 0, none⟩)] w fun e w' => e = .returned (.string ⟨l.toArray⟩) ∧ Below B w w' := Any.Builder_String Tryd.lays169 Tryd.Builder_Extra_169 B b l w h h0
open Go.RowKit in

theorem Tryd.Builder_String_empty (B b : Nat) (w : World) (h : Lib.IsBuilder 63 5 B b [] w) (hBw : B ≤ w.heap.size) :
    Calls Tryd.prog 30 #[.pointer (some ⟨b, 0, none⟩)] w fun e w' => e = .returned (.string ⟨#[]⟩) ∧ Below B w w' := Any.Builder_String_empty Tryd.lays169 Tryd.Builder_Extra_169 B b w h hBw
open Go.RowKit in

theorem Tryd.Builder_String_any (B b : Nat) (l : List UInt8) (w : World) (h : Lib.IsBuilder 63 5 B b (Lib.byteCells l) w) (hBw : B ≤ w.heap.size) :
    Calls Tryd.prog 30 #[.pointer (some ⟨b, 0, none⟩)] w fun e w' => e = .returned (.string ⟨l.toArray⟩) ∧ Below B w w' := Any.Builder_String_any Tryd.lays169 Tryd.Builder_Extra_169 B b l w h hBw
end Go.Proofs

set_option linter.unusedVariables false
set_option linter.unusedSimpArgs false
namespace Go.Proofs.YtmoloaneidledaaDoor
open Go.Shelf Go.RowKit Go.Lib

set_option maxHeartbeats 1000000 in
set_option maxRecDepth 100000 in
theorem copyCheck_used (b : Nat) (w : World) (h0 : w.cell? ⟨b, 0, none⟩ = some (.pointer (some ⟨b, 0, none⟩))) :
    Calls Tryd.prog 49 #[.pointer (some ⟨b, 0, none⟩)] w fun e w' => e = .returned (.tuple #[]) ∧ w' = w := by
  obtain ⟨j, hj, _⟩ := Option.map_eq_some_iff.1 Tryd.Builder_Extra_169.sizeBuilder
  go_enter Tryd.func49, Tryd.ntmps49
  go_wp2
  rw [Lib.run_neq_ptr_same w _ (by rfl) hj]
  go_wp2
  go_end0
  exact ⟨rfl, rfl⟩

set_option maxHeartbeats 1000000 in
set_option maxRecDepth 100000 in
theorem copyCheck_fresh (b : Nat) (w : World) (h0 : w.cell? ⟨b, 0, none⟩ = some (.pointer none)) (hsh : w.shape? b = some (63, 2)) (hfz : w.frozen? ⟨b, 0, none⟩ = false) :
    Calls Tryd.prog 49 #[.pointer (some ⟨b, 0, none⟩)] w fun e w' => e = .returned (.tuple #[]) ∧ w' = w.setCell ⟨b, 0, none⟩ (.pointer (some ⟨b, 0, none⟩)) := by
  obtain ⟨j, hj, hjs⟩ := Option.map_eq_some_iff.1 Tryd.Builder_Extra_169.sizeBuilder
  go_enter Tryd.func49, Tryd.ntmps49
  go_wp2
  rw [Lib.run_to_unsafe w ⟨b, 0, none⟩ (by rfl) (by rfl) hj (by rw [hjs]; decide) hsh (Nat.zero_lt_succ 1)]
  simp only [Result.andThen]
  rw [Oper.upon_value]
  go_wp2
  rw [run_callFunc_extern Tryd.func62 (by kernel_rfl) (by kernel_rfl) (by kernel_rfl) (e := Extern.AbiNoEscape.same) (by kernel_rfl)]
  rw [Lib.run_noEscape]
  simp only [Result.andThen]
  rw [Oper.upon_value]
  go_wp2
  rw [Lib.run_from_unsafe w ⟨b, 0, none⟩ (by rfl) (by rfl) hj hsh Tryd.Builder_Extra_169.liesBuilder]
  simp only [Result.andThen]
  rw [Oper.upon_value]
  go_wp2
  go_end0
  exact ⟨rfl, rfl⟩
theorem copyCheck_calls (B b : Nat) (bs : List Value) (w : World) (h : Lib.IsBuilder 63 5 B b bs w) :
    Calls Tryd.prog 49 #[.pointer (some ⟨b, 0, none⟩)] w fun e w' => e = .returned (.tuple #[]) ∧ (Lib.BuilderAt 63 5 B b (.pointer (some ⟨b, 0, none⟩)) bs w' ∧ Below B w w') := by
  rcases h with h | h
  · refine (copyCheck_fresh b w h.cell0 h.shape h.frozen0).mono ?_
    rintro e w' ⟨rfl, rfl⟩
    exact ⟨rfl, h.used _, (Below.refl B w).setCell (p := ⟨b, 0, none⟩) h.1 _⟩
  · refine (copyCheck_used b w h.cell0).mono ?_
    rintro e w' ⟨rfl, rfl⟩
    exact ⟨rfl, h, Below.refl B _⟩
set_option maxHeartbeats 2000000 in
set_option maxRecDepth 100000 in
theorem writeString_calls (B b : Nat) (bs : List Value) (s : ByteArray) (w : World) (h : Lib.IsBuilder 63 5 B b bs w) (hlen : bs.length + s.size ≤ 140737488355328) (hBw : B ≤ w.heap.size) :
    Calls Tryd.prog 29 #[.pointer (some ⟨b, 0, none⟩), .string s] w fun e w' => e = .returned (.tuple #[.int .i64 s.size, .nilIface]) ∧ (Lib.BuilderAt 63 5 B b (.pointer (some ⟨b, 0, none⟩)) (bs ++ Lib.strCells s) w' ∧ Below B w w') := by
  obtain ⟨i0, hi, hz0, hz1, hz2⟩ := info_parts Tryd.Builder_Extra_169.infoByte
  go_enter Tryd.func29, Tryd.ntmps29
  go_wp2_with (go_at_call 49; refine (copyCheck_calls B b bs _ h).mono ?_)
  rintro e w1 ⟨rfl, h1, hb1⟩
  obtain ⟨hB, v, hbk, hown, hne⟩ := h1
  have c0 : w1.cell? ⟨b, 0, none⟩ = some (.pointer (some ⟨b, 0, none⟩)) := by rw [Lib.cell_of_heap hbk]; rfl
  have c1 : w1.cell? ⟨b, 1, none⟩ = some v := by rw [Lib.cell_of_heap hbk]; rfl
  go_wp2_with (at_builtin; refine Lib.wpList_append_own_string _ rfl _ _ 22 9 rfl B 5 i0 (by rfl) (by rfl) hi hz0 hz1 hz2 _ _ _ rfl hown s rfl ?c3 ?c4 ?c5 ?_)
  case c3 => unfold maxLen; omega
  case c4 => omega
  case c5 => have := hb1.size; omega
  intro v' w2 hown' hgrow _
  have hlt : b < w1.heap.size := by
    rcases Nat.lt_or_ge b w1.heap.size with h' | h'
    · exact h'
    · simp [Array.getElem?_eq_none h'] at hbk
  have hb2 : w2.heap[b]? = some (.cells #[.pointer (some ⟨b, 0, none⟩), v] 63 (0, 0)) := by
    rw [hgrow.block b hlt (fun e => hne e.symm)]
    exact hbk
  have d0 : w2.cell? ⟨b, 0, none⟩ = some (.pointer (some ⟨b, 0, none⟩)) := by rw [Lib.cell_of_heap hb2]; rfl
  have d1 : w2.cell? ⟨b, 1, none⟩ = some v := by rw [Lib.cell_of_heap hb2]; rfl
  have f1 : w2.frozen? ⟨b, 1, none⟩ = false := Lib.frozen_of_heap hb2 1
  obtain ⟨ao, n', cap, rfl⟩ : ∃ ao n' cap, v' = .slice ao n' cap := by
    rcases hown'.2 with ⟨hv, _⟩ | ⟨g, cap, cur, hv, _⟩
    · exact ⟨_, _, _, hv⟩
    · exact ⟨_, _, _, hv⟩
  go_wp2
  go_ret2
  refine ⟨rfl, ?_, ?_⟩
  · exact Lib.BuilderAt.put (T := 63) (e := 5) hB hb2 (bs' := bs ++ Lib.strCells s) (by simpa [Lib.strCells_length] using hown') (by decide)
  · exact (hb1.grown hgrow (by have := hb1.size; omega) (fun k hk => (hown.lt k hk).1)).setCell (p := ⟨b, 1, none⟩) hB _
end Go.Proofs.YtmoloaneidledaaDoor

set_option linter.unusedVariables false
set_option linter.unusedSimpArgs false
namespace Go.Proofs.YtmoloaneidledaaDoor
open Go.Shelf Go.RowKit Go.Lib

def fieldW (f : Fld) : ByteArray := (((⟨#[37]⟩ ++ Utf8.encode f.c) ++ ⟨#[32]⟩) ++ f.t) ++ ⟨#[10]⟩
def joinF (T : ByteArray) (r : List Fld) : ByteArray := r.foldl (fun T f => T ++ fieldW f) T
def headO : Option ByteArray → ByteArray
  | none => ⟨#[]⟩
  | some T => T ++ ⟨#[10]⟩
def stepO (o : Option ByteArray) (r : List Fld) : Option ByteArray := some (joinF (headO o) r)
def textO (o : Option ByteArray) : ByteArray := o.getD ⟨#[]⟩
def accO (l : List (List Fld)) : Option ByteArray := l.foldl stepO none
def txt (l : List (List Fld)) : ByteArray := textO (accO l)
theorem joinF_snoc (T : ByteArray) (r : List Fld) (f : Fld) : joinF T (r ++ [f]) = joinF T r ++ fieldW f := by simp [joinF]
theorem accO_snoc (l : List (List Fld)) (r : List Fld) : accO (l ++ [r]) = stepO (accO l) r := by simp [accO]
theorem accO_none (l : List (List Fld)) : accO l = none ↔ l = [] := by
  rcases List.eq_nil_or_concat l with e | ⟨q, f, e⟩
  · subst e; simp [accO]
  · rw [List.concat_eq_append] at e
    subst e
    rw [accO_snoc]
    simp [stepO]
theorem head_take (l : List (List Fld)) (i : Nat) (h : i < l.length) : headO (accO (l.take i)) = if 0 < i then txt (l.take i) ++ ⟨#[10]⟩ else txt (l.take i) := by
  by_cases h0 : i = 0
  · subst h0; rfl
  · rw [if_pos (by omega)]
    have : accO (l.take i) ≠ none := by
      rw [Ne, accO_none]
      intro e
      have := congrArg List.length e
      rw [List.length_take, List.length_nil] at this
      omega
    unfold txt
    cases hq : accO (l.take i) with
    | none => exact absurd hq this
    | some T => rfl
theorem txt_take (l : List (List Fld)) (i : Nat) (h : i < l.length) : txt (l.take (i + 1)) = joinF (headO (accO (l.take i))) l[i] := by
  rw [List.take_succ_eq_append_getElem h]
  unfold txt
  rw [accO_snoc]
  rfl
theorem join_take (T : ByteArray) (r : List Fld) (k : Nat) (h : k < r.length) : joinF T (r.take (k + 1)) = joinF T (r.take k) ++ fieldW r[k] := by
  rw [List.take_succ_eq_append_getElem h, joinF_snoc]

/-! As lists of bytes. -/
def bytesF (f : Fld) : List UInt8 := 37 :: f.c.toNat.toUInt8 :: 32 :: (f.t.data.toList ++ [10])
theorem cap_bounds {c : Int} (h : capB c = true) : 65 ≤ c ∧ c ≤ 90 := by
  unfold capB at h
  simp only [Bool.and_eq_true, decide_eq_true_eq] at h
  exact h
theorem encode_cap (c : Int) (h : capB c = true) : Utf8.encode c = ⟨#[c.toNat.toUInt8]⟩ := by
  obtain ⟨h1, h2⟩ := cap_bounds h
  obtain ⟨n, rfl⟩ : ∃ n : Nat, c = n := ⟨c.toNat, by omega⟩
  have hn : n < 91 := by omega
  have hm : 65 ≤ n := by omega
  clear h h1 h2
  have : ∀ m : Fin 91, 65 ≤ m.1 → Utf8.encode ((m.1 : Nat) : Int) = ⟨#[((m.1 : Nat) : Int).toNat.toUInt8]⟩ := by decide
  exact this ⟨n, hn⟩ hm
theorem field_bytes (f : Fld) (h : capB f.c = true) : (fieldW f).data.toList = bytesF f := by
  unfold fieldW bytesF
  rw [encode_cap f.c h]
  simp [ByteArray.data_append]
theorem join_bytes : ∀ (r : List Fld) (T : ByteArray), (∀ f ∈ r, capB f.c = true) → (joinF T r).data.toList = T.data.toList ++ r.flatMap bytesF
  | [], T, _ => by simp [joinF]
  | f :: r, T, h => by
    have := join_bytes r (T ++ fieldW f) (fun g hg => h g (by simp [hg]))
    show (joinF (T ++ fieldW f) r).data.toList = _
    rw [this, ByteArray.data_append, Array.toList_append, field_bytes f (h f (by simp)), List.flatMap_cons, List.append_assoc]
def tailT : List (List Fld) → List UInt8
  | [] => []
  | r :: l => 10 :: (r.flatMap bytesF ++ tailT l)
theorem tail_bytes : ∀ (l : List (List Fld)) (T : ByteArray), (∀ r ∈ l, ∀ f ∈ r, capB f.c = true) → (textO (l.foldl stepO (some T))).data.toList = T.data.toList ++ tailT l
  | [], T, _ => by simp [textO, tailT]
  | r :: l, T, h => by
    have h1 := tail_bytes l (joinF (T ++ ⟨#[10]⟩) r) (fun g hg => h g (by simp [hg]))
    have h2 := join_bytes r (T ++ ⟨#[10]⟩) (h r (by simp))
    show (textO (l.foldl stepO (some (joinF (T ++ ⟨#[10]⟩) r)))).data.toList = _
    rw [h1, h2, ByteArray.data_append, Array.toList_append]
    simp [tailT]
theorem txt_bytes (r : List Fld) (l : List (List Fld)) (h : ∀ q ∈ r :: l, ∀ f ∈ q, capB f.c = true) : (txt (r :: l)).data.toList = r.flatMap bytesF ++ tailT l := by
  have h1 := tail_bytes l (joinF ⟨#[]⟩ r) (fun g hg => h g (by simp [hg]))
  have h2 := join_bytes r ⟨#[]⟩ (h r (by simp))
  show (textO (l.foldl stepO (some (joinF ⟨#[]⟩ r)))).data.toList = _
  rw [h1, h2]
  rfl

/-! What is written is read as the records. -/
theorem parts_cut : ∀ (a s rest : List UInt8), (∀ x ∈ a, x ≠ 10) → partsP (a ++ 10 :: rest) s = tx (s ++ a) :: partsP rest []
  | [], s, rest, _ => by simp [partsP]
  | c :: a, s, rest, h => by
    rw [List.cons_append, partsP, if_neg (h c (by simp)), parts_cut a (s ++ [c]) rest (fun x hx => h x (by simp [hx]))]
    simp
theorem no_ten : ∀ l : List UInt8, ¬ 0 ≤ indexByte l 10 → ∀ x ∈ l, x ≠ 10
  | [], _, x, h => by cases h
  | c :: cs, h, x, hx => by
    simp only [indexByte] at h
    by_cases h1 : c = 10
    · subst h1; simp at h
    · have h2 : (c == 10) = false := by simpa using h1
      rw [h2, if_neg (by simp)] at h
      rcases List.mem_cons.1 hx with e | e
      · rw [e]; exact h1
      · refine no_ten cs (fun q => h ?_) x e
        rw [if_neg (by simp; omega)]
        omega
theorem ok_parts {p : List Fld} {f : Fld} (h : okF p f = true) : capB f.c = true ∧ f.t.size ≠ 0 ∧ (∀ x ∈ f.t.data.toList, x ≠ 10) ∧ ¬ (f.c ≠ 65 ∧ hasF p f.c = true) := by
  unfold okF at h
  simp only [Bool.and_eq_true, decide_eq_true_eq, Bool.not_eq_true', decide_eq_false_iff_not, Bool.and_eq_false_iff] at h
  obtain ⟨h1, h2, h3, h4⟩ := h
  refine ⟨h1, h2, no_ten _ h3, fun ⟨a, b⟩ => ?_⟩
  rcases h4 with h4 | h4
  · rw [h4] at b; cases b
  · exact h4 a
theorem cap_byte {c : Int} (h : capB c = true) : ((c.toNat.toUInt8).toNat : Int) = c := by
  obtain ⟨h1, h2⟩ := cap_bounds h
  have : c.toNat.toUInt8.toNat = c.toNat := by
    rw [Nat.toUInt8, UInt8.toNat_ofNat']
    omega
  rw [this]; omega
theorem cap_ten {c : Int} (h : capB c = true) : c.toNat.toUInt8 ≠ 10 := by
  intro e
  have := cap_byte h
  rw [e] at this
  have h2 := cap_bounds h
  have : ((10 : UInt8).toNat : Int) = 10 := rfl
  omega
theorem pk_tx (l : List UInt8) (i : Nat) (h : i < l.length) : pk (tx l) i = (l[i]).toNat := by
  rw [pk_get _ _ (by rw [tx_size]; exact h)]
  rfl
theorem step_field (d : List (List Fld)) (q : List Fld) (f : Fld) (h : okF q f = true) : stepS (.on d q) (tx (37 :: f.c.toNat.toUInt8 :: 32 :: f.t.data.toList)) = .on d (q ++ [f]) := by
  obtain ⟨h1, h2, h3, h4⟩ := ok_parts h
  have hsz : f.t.data.toList.length = f.t.size := by rw [Array.length_toList]; rfl
  have p0 := pk_tx (37 :: f.c.toNat.toUInt8 :: 32 :: f.t.data.toList) 0 (by simp)
  have p1 := pk_tx (37 :: f.c.toNat.toUInt8 :: 32 :: f.t.data.toList) 1 (by simp)
  have p2 := pk_tx (37 :: f.c.toNat.toUInt8 :: 32 :: f.t.data.toList) 2 (by simp)
  have p1' : (pk (tx (37 :: f.c.toNat.toUInt8 :: 32 :: f.t.data.toList)) 1 : Int) = f.c := by rw [p1]; exact cap_byte h1
  have hs : (tx (37 :: f.c.toNat.toUInt8 :: 32 :: f.t.data.toList)).size = f.t.size + 3 := by rw [tx_size]; simp
  have hx : (tx (37 :: f.c.toNat.toUInt8 :: 32 :: f.t.data.toList)).extract 3 (f.t.size + 3) = f.t := by
    rw [tx_extract, List.take_of_length_le (by simp)]
    show tx (f.t.data.toList) = f.t
    exact tx_of _
  have e65 : pk (tx (37 :: f.c.toNat.toUInt8 :: 32 :: f.t.data.toList)) 1 ≠ 65 ↔ f.c ≠ 65 := by omega
  dsimp only [stepS]
  rw [hs]
  rw [if_neg (by omega), if_neg (by rw [p0]; exact fun q => q rfl), if_neg ?_, if_neg ?_]
  · rw [p1', hx]
  · rw [p1', e65]; exact h4
  · rw [p1', h1, p2]
    simp
    omega
theorem fold_rec26 (X : List UInt8) (d : List (List Fld)) : ∀ (r q : List Fld), goodFrom q r = true → (partsP (r.flatMap bytesF ++ X) []).foldl stepS (.on d q) = (partsP X []).foldl stepS (.on d (q ++ r))
  | [], q, _ => by simp
  | f :: r, q, h => by
    rw [goodFrom, Bool.and_eq_true] at h
    obtain ⟨h1, h2, h3, h4⟩ := ok_parts h.1
    have e : (f :: r).flatMap bytesF ++ X = (37 :: f.c.toNat.toUInt8 :: 32 :: f.t.data.toList) ++ 10 :: (r.flatMap bytesF ++ X) := by
      rw [List.flatMap_cons]
      simp [bytesF]
    rw [e, parts_cut _ [] _ ?_, List.foldl_cons, List.nil_append, step_field d q f h.1, fold_rec26 X d r (q ++ [f]) h.2]
    · simp
    · intro x hx
      rcases List.mem_cons.1 hx with e | hx
      · rw [e]; decide
      rcases List.mem_cons.1 hx with e | hx
      · rw [e]; exact cap_ten h1
      rcases List.mem_cons.1 hx with e | hx
      · rw [e]; decide
      exact h3 x hx
theorem good_parts {r : List Fld} (h : goodB r = true) : goodFrom [] r = true ∧ r ≠ [] := by
  unfold goodB at h
  simp only [Bool.and_eq_true, decide_eq_true_eq] at h
  exact ⟨h.1, fun e => by rw [e] at h; simp at h⟩
theorem good_cap : ∀ (r q : List Fld), goodFrom q r = true → ∀ f ∈ r, capB f.c = true
  | [], _, _, f, h => by cases h
  | g :: r, q, hg, f, h => by
    rw [goodFrom, Bool.and_eq_true] at hg
    rcases List.mem_cons.1 h with e | h
    · rw [e]; exact (ok_parts hg.1).1
    · exact good_cap r _ hg.2 f h
theorem fold_tail : ∀ (l : List (List Fld)) (d : List (List Fld)) (q : List Fld), q ≠ [] → l.all goodB = true → finS ((partsP (tailT l) []).foldl stepS (.on d q)) = finS (.on (d ++ q :: l) [])
  | [], d, q, hq, _ => by
    show finS (stepS (.on d q) (tx [])) = _
    rw [step_empty, flush, if_neg hq]
  | r :: l, d, q, hq, h => by
    rw [List.all_cons, Bool.and_eq_true] at h
    obtain ⟨h1, h2⟩ := good_parts h.1
    rw [tailT, partsP, if_pos rfl, List.foldl_cons, step_empty, flush, if_neg hq, fold_rec26 _ _ r [] h1, List.nil_append, fold_tail l (d ++ [q]) r h2 h.2]
    simp
theorem data_txt (l : List (List Fld)) (h : l.all goodB = true) (hn : l.length ≤ 500) : dataM (txt l) = (l, 0) := by
  have hc : ∀ q ∈ l, ∀ f ∈ q, capB f.c = true := fun q hq => good_cap q [] (good_parts (List.all_eq_true.1 h q hq)).1
  unfold dataM
  cases l with
  | nil => rfl
  | cons r l =>
    rw [List.all_cons, Bool.and_eq_true] at h
    obtain ⟨h1, h2⟩ := good_parts h.1
    rw [txt_bytes r l hc, fold_rec26 _ _ r [] h1, List.nil_append, fold_tail l [] r h2 h.2, finS]
    rw [show flush ([] ++ r :: l) [] = r :: l by simp [flush], if_neg (by omega)]
end Go.Proofs.YtmoloaneidledaaDoor

set_option linter.unusedVariables false
set_option linter.unusedSimpArgs false
namespace Go.Proofs.YtmoloaneidledaaDoor
open Go.Shelf Go.RowKit Go.Lib

def sumR (r : List Fld) : Nat := (r.map fun f => 2 + f.t.size).sum
def sumL (l : List (List Fld)) : Nat := (l.map fun r => 2 + sumR r).sum
theorem enc_size (i : Int) : (Utf8.encode i).size ≤ 4 := encode_size_le i
theorem field_size (f : Fld) : (fieldW f).size ≤ 4 * (2 + f.t.size) := by
  have := enc_size f.c
  unfold fieldW
  simp only [ByteArray.size_append]
  have e1 : (⟨#[37]⟩ : ByteArray).size = 1 := rfl
  have e2 : (⟨#[32]⟩ : ByteArray).size = 1 := rfl
  have e3 : (⟨#[10]⟩ : ByteArray).size = 1 := rfl
  omega
theorem join_size : ∀ (r : List Fld) (T : ByteArray), (joinF T r).size ≤ T.size + 4 * sumR r
  | [], T => by simp [joinF]
  | f :: r, T => by
    have h := join_size r (T ++ fieldW f)
    have h2 := field_size f
    rw [ByteArray.size_append] at h
    show (joinF (T ++ fieldW f) r).size ≤ _
    have : sumR (f :: r) = 2 + f.t.size + sumR r := by simp [sumR]
    omega
theorem sumL_snoc (l : List (List Fld)) (r : List Fld) : sumL (l ++ [r]) = sumL l + (2 + sumR r) := by simp [sumL]
theorem txt_size (l : List (List Fld)) : (txt l).size ≤ 4 * sumL l := by
  have : ∀ n (l : List (List Fld)), l.length = n → (txt l).size ≤ 4 * sumL l := by
    intro n
    induction n with
    | zero =>
      intro l h
      rw [List.eq_nil_of_length_eq_zero h]
      exact Nat.zero_le _
    | succ n ih =>
      intro l h
      rcases List.eq_nil_or_concat l with e | ⟨q, f, e⟩
      · rw [e]; exact Nat.zero_le _
      · rw [List.concat_eq_append] at e
        subst e
        have h1 := ih q (by simpa using h)
        have h2 := join_size f (headO (accO q))
        have h3 : (headO (accO q)).size ≤ (txt q).size + 1 := by
          unfold txt
          cases accO q with
          | none => exact Nat.zero_le _
          | some T => simp [headO, textO, ByteArray.size_append]; exact Nat.le_refl _
        have h4 : txt (q ++ [f]) = joinF (headO (accO q)) f := by unfold txt; rw [accO_snoc]; rfl
        rw [h4, sumL_snoc]
        omega
  exact this _ l rfl
theorem sumL_app (a b : List (List Fld)) : sumL (a ++ b) = sumL a + sumL b := by simp [sumL]
theorem sumR_app (a b : List Fld) : sumR (a ++ b) = sumR a + sumR b := by simp [sumR]
theorem sumL_take (l : List (List Fld)) (i : Nat) (h : i < l.length) : sumL (l.take i) + (2 + sumR l[i]) ≤ sumL l := by
  have h1 : sumL l = sumL (l.take i) + sumL (l.drop i) := by
    rw [← sumL_app, List.take_append_drop]
  rw [List.drop_eq_getElem_cons h] at h1
  have h2 : sumL (l[i] :: l.drop (i + 1)) = 2 + sumR l[i] + sumL (l.drop (i + 1)) := by unfold sumL; rw [List.map_cons, List.sum_cons]
  omega
theorem sumR_take (r : List Fld) (k : Nat) (h : k < r.length) : sumR (r.take k) + (2 + (r[k]).t.size) ≤ sumR r := by
  have h1 : sumR r = sumR (r.take k) + sumR (r.drop k) := by
    rw [← sumR_app, List.take_append_drop]
  rw [List.drop_eq_getElem_cons h] at h1
  have h2 : sumR (r[k] :: r.drop (k + 1)) = 2 + (r[k]).t.size + sumR (r.drop (k + 1)) := by unfold sumR; rw [List.map_cons, List.sum_cons]
  omega
theorem sumR_len (r : List Fld) : r.length ≤ sumR r := by
  induction r with
  | nil => exact Nat.zero_le _
  | cons f r ih =>
    have : sumR (f :: r) = 2 + f.t.size + sumR r := by simp [sumR]
    rw [List.length_cons]
    omega
/-- Records of a size that is asked. -/
def Light (l : List (List Fld)) : Prop := l.length ≤ 60 ∧ sumL l ≤ 3000
theorem Light.row {l : List (List Fld)} (h : Light l) (i : Nat) (hi : i < l.length) : sumR l[i] ≤ 3000 := by
  have := sumL_take l i hi
  have := h.2
  omega
theorem Light.rows {l : List (List Fld)} (h : Light l) : ∀ r ∈ l, r.length ≤ 3000 := fun r hr => by
  obtain ⟨i, hi, e⟩ := List.getElem_of_mem hr
  have := h.row i hi
  rw [e] at this
  have := sumR_len r
  omega
def needW : List (List Fld) → Nat
  | [] => 1
  | r :: l => r.length + 2 + needW l
theorem needW_drop (l : List (List Fld)) (i : Nat) (h : i < l.length) : needW (l.drop i) = (l[i]).length + 2 + needW (l.drop (i + 1)) := by
  rw [List.drop_eq_getElem_cons h]; rfl
theorem cells_app (T : ByteArray) (s : ByteArray) : Lib.byteCells (T ++ s).data.toList = Lib.byteCells T.data.toList ++ Lib.strCells s := by
  rw [ByteArray.data_append, Array.toList_append, Lib.byteCells_append]
  rfl
def writeM (l : List (List Fld)) : ByteArray × Int := if l.all goodB = true then (txt l, 0) else (⟨#[]⟩, 1)
theorem str10 (b q : Nat) (T : ByteArray) (s : ByteArray) (w : World) (h : Lib.IsBuilder 63 5 q b (Lib.byteCells T.data.toList) w) (hT : T.size ≤ 1000000) (hs : s.size ≤ 1000000) (hq : q ≤ w.heap.size) :
    Calls Tryd.prog 29 #[.pointer (some ⟨b, 0, none⟩), .string s] w fun e w' => e = .returned (.tuple #[.int .i64 s.size, .nilIface]) ∧ Lib.IsBuilder 63 5 q b (Lib.byteCells (T ++ s).data.toList) w' ∧ Below q w w' := by
  refine (writeString_calls q b _ s w h ?_ hq).mono ?_
  · rw [Lib.byteCells_length, Array.length_toList]
    show T.size + _ ≤ _
    omega
  · rintro e w' ⟨rfl, h1, h2⟩
    exact ⟨rfl, by rw [cells_app]; exact Or.inr h1, h2⟩
theorem bat_alloc {T e : TypeId} {B b : Nat} {p : Value} {bs : List Value} {w : World} (h : Lib.BuilderAt T e B b p bs w) (o : Obj) : Lib.BuilderAt T e B b p bs (w.alloc o) := by
  have hlt := h.lt
  obtain ⟨hB, v, hb, hown, hne⟩ := h
  exact ⟨hB, v, (Lib.alloc_old w o b hlt).trans hb, hown.alloc o, hne⟩
theorem isb_alloc {T e : TypeId} {B b : Nat} {bs : List Value} {w : World} (h : Lib.IsBuilder T e B b bs w) (o : Obj) : Lib.IsBuilder T e B b bs (w.alloc o) := h.imp (fun q => bat_alloc q o) (fun q => bat_alloc q o)
set_option maxRecDepth 100000 in
set_option maxHeartbeats 8000000 in
theorem write_calls (A : Option Addr) (cap : Nat) (l : List (List Fld)) (hl : Light l) (w : World) (hI : Recs w.heap.size w A l) :
    Calls Tryd.prog 10 #[.slice A l.length cap] w fun e w' => e = .returned (.tuple #[.string (writeM l).1, .int .i64 (writeM l).2]) ∧ Below w.heap.size w w' := by
  have hlen := hl.1
  have HL := Lib.hid hl
  have HI := Lib.hid hI
  have HC := Lib.hid (contains26_calls A cap l (by omega) (fun r hr => by have := hl.rows r hr; omega) w hI)
  clear hI hl
  have hG : (500 < (l.length : Int)) = False := by simp; omega
  by_cases hg : l.all goodB = true
  · have HO : Hid (writeM l = (txt l, 0)) := Lib.hid (by unfold writeM; rw [if_pos hg])
    have HGood := Lib.hid hg
    rw [hg] at HC
    clear hg
    go_enter Tryd.func10, Tryd.ntmps10
    go_wp2_with (go_at_call 26; refine HC.out.mono ?_; rintro e w1 ⟨rfl, hb1⟩)
    obtain ⟨q, hq⟩ : ∃ q, w1.heap.size = q := ⟨_, rfl⟩
    obtain ⟨W5, hW5⟩ : ∃ W, w1.alloc (.cells #[.pointer none, .slice none 0 0] 63) = W := ⟨_, rfl⟩
    have I5 := fresh_isBuilder 63 5 w1
    have B5 : Below w.heap.size w W5 := by rw [← hW5]; exact hb1.alloc hb1.size _
    rw [hW5, hq] at I5
    have hqw : w.heap.size ≤ q := by rw [← hq]; exact hb1.size
    have ql : q < W5.heap.size := by rw [← hW5, ← hq]; simp
    have HJ := Lib.hid I5
    have HB5 := Lib.hid B5
    simp only [hW5, hq]
    clear hW5 hq I5 B5 hb1 HC
    go_loopg [18] (needW l) (fun gk s18 wx => ∃ i : Nat, i ≤ l.length ∧ needW (l.drop i) ≤ gk ∧ s18 = .int .i64 i ∧ Hid (Lib.IsBuilder 63 5 q q (Lib.byteCells (txt (l.take i)).data.toList) wx) ∧ Hid (Below q W5 wx))
    case atStart => exact ⟨0, Nat.zero_le _, by rw [List.drop_zero]; exact Nat.le_refl _, rfl, HJ, Lib.hid (Below.refl _ _)⟩
    case round =>
      obtain ⟨i, hi, hk, rfl, J, B⟩ := hrel
      have hqr : q ≤ wr.heap.size := by have := B.out.size; omega
      by_cases hil : i < l.length
      · have hnd := needW_drop l i hil
        obtain ⟨b, off, A', c', rfl, hbl, c0, cc, c1⟩ := HI.out.below HB5.out i hil
        clear cc
        replace c0 := ((B.out.mono hqw).cell (p := ⟨b, off + i, none⟩) hbl).trans c0
        have hbr : b < wr.heap.size := by omega
        have hrow := HL.out.rows l[i] (List.getElem_mem hil)
        have hsz := txt_size (l.take i)
        have hst := sumL_take l i hil
        have hs3 := HL.out.2
        have hhd := head_take l i hil
        have htk := txt_take l i hil
        have HCap := Lib.hid (good_cap l[i] [] (good_parts (List.all_eq_true.1 HGood.out _ (List.getElem_mem hil))).1)
        obtain ⟨r, hr⟩ : ∃ r, l[i] = r := ⟨_, rfl⟩
        rw [hr] at c0 c1 hnd hrow hst htk HCap
        obtain ⟨T, hT⟩ : ∃ T, txt (l.take i) = T := ⟨_, rfl⟩
        rw [hT] at J hhd hsz
        obtain ⟨S, hS⟩ : ∃ S, headO (accO (l.take i)) = S := ⟨_, rfl⟩
        rw [hS] at htk hhd
        have hSz : S.size ≤ T.size + 1 := by
          rw [hhd]
          split
          · rw [ByteArray.size_append]; exact Nat.le_refl _
          · omega
        have HTK := Lib.hid htk
        have HRow := Lib.hid (c1.more (Nat.le_refl w.heap.size))
        have hSz2 : S.size ≤ 12001 := by omega
        have hRz : sumR r ≤ 3000 := by omega
        have hTz : T.size ≤ 12000 := by omega
        clear hr hT hS c1 hst hs3 htk hsz hSz
        obtain ⟨g1, rfl⟩ : ∃ g1, gk = g1 + 1 := ⟨gk - 1, by omega⟩
        by_cases h0 : 0 < i
        · rw [if_pos h0] at hhd
          have HW := Lib.hid (str10 q q T ⟨#[10]⟩ wr J.out (by omega) (by decide) hqr)
          rw [← hhd] at HW
          clear hhd
          go_wp2_with (go_at_call 29; refine HW.out.mono ?_; rintro e w6 ⟨rfl, h6, hb6⟩)
          have J6 := Lib.hid h6
          have B6 := Lib.hid (B.out.trans hb6)
          clear h6 hb6 HW
          go_loopg [28] g1 (fun gk s28 wx => ∃ k : Nat, k ≤ r.length ∧ (r.length - k) + 1 + needW (l.drop (i + 1)) ≤ gk ∧ gk ≤ g1 ∧ s28 = .int .i64 k ∧ Hid (Lib.IsBuilder 63 5 q q (Lib.byteCells (joinF S (r.take k)).data.toList) wx) ∧ Hid (Below q W5 wx))
          case atStart => exact ⟨0, Nat.zero_le _, by omega, Nat.le_refl _, rfl, J6, B6⟩
          case round =>
            clear J B J6 B6 c0
            obtain ⟨k, hk, hk2, hk3, rfl, J, B⟩ := hrel
            by_cases hkl : k < r.length
            · obtain ⟨b2, off2, rfl, hbl2, d0, d1⟩ := (HRow.out.below (B.out.mono hqw)) k hkl
              have hqx : q ≤ wr.heap.size := by have := B.out.size; omega
              have hbr2 : b2 < wr.heap.size := by omega
              have hjn := join_take S r k hkl
              have hjs := join_size (r.take k) S
              have hst := sumR_take r k hkl
              have hcp := cap_bounds (HCap.out r[k] (List.getElem_mem hkl))
              obtain ⟨f, hf⟩ : ∃ f, r[k] = f := ⟨_, rfl⟩
              rw [hf] at d0 d1 hjn hst hcp
              have hw32 : wrap32 f.c = f.c := by unfold wrap32; omega
              clear hcp
              obtain ⟨U, hU⟩ : ∃ U, joinF S (r.take k) = U := ⟨_, rfl⟩
              rw [hU] at hjn hjs J
              obtain ⟨E, hE⟩ : ∃ E, Utf8.encode (wrap32 f.c) = E := ⟨_, rfl⟩
              have hEs : E.size ≤ 4 := by rw [← hE]; exact enc_size _
              have hfs := field_size f
              have hfw : fieldW f = (((⟨#[37]⟩ ++ E) ++ ⟨#[32]⟩) ++ f.t) ++ ⟨#[10]⟩ := by rw [← hE, hw32]; rfl
              clear hw32
              have HJN := Lib.hid hjn
              have hUz : U.size ≤ 24001 := by omega
              have hfz : (fieldW f).size ≤ 12000 := by omega
              have htz : f.t.size ≤ 3000 := by omega
              clear hf hU hjn hjs hst hfs
              obtain ⟨V, hV⟩ : ∃ V, wr.alloc (.cells #[.int .u8 f.c, .string f.t] 58) = V := ⟨_, rfl⟩
              have v0 : V.cell? ⟨wr.heap.size, 0, none⟩ = some (.int .u8 f.c) := by rw [← hV]; simp
              have v1 : V.cell? ⟨wr.heap.size, 1, none⟩ = some (.string f.t) := by rw [← hV]; simp
              have JV := isb_alloc J.out (.cells #[.int .u8 f.c, .string f.t] 58)
              rw [hV] at JV
              have BV := Lib.hid (show Below q W5 V by rw [← hV]; exact B.out.alloc hqx _)
              have hqV : q ≤ V.heap.size := by rw [← hV]; simp; omega
              have HW := Lib.hid (str10 q q U (fieldW f) V JV (by omega) (by omega) hqV)
              clear JV J B
              rw [hfw] at HW HJN
              clear hfw
              have n0 : 1 + E.size ≤ 9223372036854775807 := by omega
              have n1 : 1 + E.size + 1 ≤ 9223372036854775807 := by omega
              have n2 : 1 + E.size + 1 + f.t.size ≤ 9223372036854775807 := by omega
              have n3 : 1 + E.size + 1 + f.t.size + 1 ≤ 9223372036854775807 := by omega
              have d0' : decide (1 + E.size ≤ 9223372036854775807) = true := decide_eq_true n0
              have d1' : decide (1 + E.size + 1 ≤ 9223372036854775807) = true := decide_eq_true n1
              have d2' : decide (1 + E.size + 1 + f.t.size ≤ 9223372036854775807) = true := decide_eq_true n2
              have d3' : decide (1 + E.size + 1 + f.t.size + 1 ≤ 9223372036854775807) = true := decide_eq_true n3
              obtain ⟨g2, rfl⟩ : ∃ g2, gk = g2 + 1 := ⟨gk - 1, by omega⟩
              go_wp2_with (go_at_call 29; refine HW.out.mono ?_; rintro e w7 ⟨rfl, h7, hb7⟩)
              go_roundg g2
              case measure => omega
              case rel => exact ⟨k + 1, by omega, by omega, by omega, by go_num, Lib.hid (by rw [HJN.out]; exact h7), Lib.hid (BV.out.trans hb7)⟩
            · obtain rfl : k = r.length := by omega
              rw [List.take_length] at J
              obtain ⟨g2, rfl⟩ : ∃ g2, gk = g2 + 1 := ⟨gk - 1, by omega⟩
              go_wp2
              go_roundg g2
              case measure => omega
              case rel => exact ⟨i + 1, by omega, by omega, by go_num, Lib.hid (by rw [HTK.out]; exact J.out), B⟩
        · rw [if_neg h0] at hhd
          have J6 : Hid (Lib.IsBuilder 63 5 q q (Lib.byteCells S.data.toList) wr) := Lib.hid (by rw [hhd]; exact J.out)
          have B6 := B
          clear hhd
          go_wp2
          go_loopg [28] g1 (fun gk s28 wx => ∃ k : Nat, k ≤ r.length ∧ (r.length - k) + 1 + needW (l.drop (i + 1)) ≤ gk ∧ gk ≤ g1 ∧ s28 = .int .i64 k ∧ Hid (Lib.IsBuilder 63 5 q q (Lib.byteCells (joinF S (r.take k)).data.toList) wx) ∧ Hid (Below q W5 wx))
          case atStart => exact ⟨0, Nat.zero_le _, by omega, Nat.le_refl _, rfl, J6, B6⟩
          case round =>
            clear J B J6 B6 c0
            obtain ⟨k, hk, hk2, hk3, rfl, J, B⟩ := hrel
            by_cases hkl : k < r.length
            · obtain ⟨b2, off2, rfl, hbl2, d0, d1⟩ := (HRow.out.below (B.out.mono hqw)) k hkl
              have hqx : q ≤ wr.heap.size := by have := B.out.size; omega
              have hbr2 : b2 < wr.heap.size := by omega
              have hjn := join_take S r k hkl
              have hjs := join_size (r.take k) S
              have hst := sumR_take r k hkl
              have hcp := cap_bounds (HCap.out r[k] (List.getElem_mem hkl))
              obtain ⟨f, hf⟩ : ∃ f, r[k] = f := ⟨_, rfl⟩
              rw [hf] at d0 d1 hjn hst hcp
              have hw32 : wrap32 f.c = f.c := by unfold wrap32; omega
              clear hcp
              obtain ⟨U, hU⟩ : ∃ U, joinF S (r.take k) = U := ⟨_, rfl⟩
              rw [hU] at hjn hjs J
              obtain ⟨E, hE⟩ : ∃ E, Utf8.encode (wrap32 f.c) = E := ⟨_, rfl⟩
              have hEs : E.size ≤ 4 := by rw [← hE]; exact enc_size _
              have hfs := field_size f
              have hfw : fieldW f = (((⟨#[37]⟩ ++ E) ++ ⟨#[32]⟩) ++ f.t) ++ ⟨#[10]⟩ := by rw [← hE, hw32]; rfl
              clear hw32
              have HJN := Lib.hid hjn
              have hUz : U.size ≤ 24001 := by omega
              have hfz : (fieldW f).size ≤ 12000 := by omega
              have htz : f.t.size ≤ 3000 := by omega
              clear hf hU hjn hjs hst hfs
              obtain ⟨V, hV⟩ : ∃ V, wr.alloc (.cells #[.int .u8 f.c, .string f.t] 58) = V := ⟨_, rfl⟩
              have v0 : V.cell? ⟨wr.heap.size, 0, none⟩ = some (.int .u8 f.c) := by rw [← hV]; simp
              have v1 : V.cell? ⟨wr.heap.size, 1, none⟩ = some (.string f.t) := by rw [← hV]; simp
              have JV := isb_alloc J.out (.cells #[.int .u8 f.c, .string f.t] 58)
              rw [hV] at JV
              have BV := Lib.hid (show Below q W5 V by rw [← hV]; exact B.out.alloc hqx _)
              have hqV : q ≤ V.heap.size := by rw [← hV]; simp; omega
              have HW := Lib.hid (str10 q q U (fieldW f) V JV (by omega) (by omega) hqV)
              clear JV J B
              rw [hfw] at HW HJN
              clear hfw
              have n0 : 1 + E.size ≤ 9223372036854775807 := by omega
              have n1 : 1 + E.size + 1 ≤ 9223372036854775807 := by omega
              have n2 : 1 + E.size + 1 + f.t.size ≤ 9223372036854775807 := by omega
              have n3 : 1 + E.size + 1 + f.t.size + 1 ≤ 9223372036854775807 := by omega
              have d0' : decide (1 + E.size ≤ 9223372036854775807) = true := decide_eq_true n0
              have d1' : decide (1 + E.size + 1 ≤ 9223372036854775807) = true := decide_eq_true n1
              have d2' : decide (1 + E.size + 1 + f.t.size ≤ 9223372036854775807) = true := decide_eq_true n2
              have d3' : decide (1 + E.size + 1 + f.t.size + 1 ≤ 9223372036854775807) = true := decide_eq_true n3
              obtain ⟨g2, rfl⟩ : ∃ g2, gk = g2 + 1 := ⟨gk - 1, by omega⟩
              go_wp2_with (go_at_call 29; refine HW.out.mono ?_; rintro e w7 ⟨rfl, h7, hb7⟩)
              go_roundg g2
              case measure => omega
              case rel => exact ⟨k + 1, by omega, by omega, by omega, by go_num, Lib.hid (by rw [HJN.out]; exact h7), Lib.hid (BV.out.trans hb7)⟩
            · obtain rfl : k = r.length := by omega
              rw [List.take_length] at J
              obtain ⟨g2, rfl⟩ : ∃ g2, gk = g2 + 1 := ⟨gk - 1, by omega⟩
              go_wp2
              go_roundg g2
              case measure => omega
              case rel => exact ⟨i + 1, by omega, by omega, by go_num, Lib.hid (by rw [HTK.out]; exact J.out), B⟩
      · obtain rfl : i = l.length := by omega
        rw [List.take_length] at J
        have HS := Lib.hid (Tryd.Builder_String_any q q (txt l).data.toList wr J.out hqr)
        go_wp2_with (go_at_call 30; refine HS.out.mono ?_; rintro e w6 ⟨rfl, hb6⟩)
        go_ret2
        exact ⟨by rw [HO.out]; rfl, HB5.out.trans ((B.out.trans hb6).mono hqw)⟩
  · have HO : Hid (writeM l = (⟨#[]⟩, 1)) := Lib.hid (by unfold writeM; rw [if_neg hg])
    rw [show l.all goodB = false by simpa using hg] at HC
    clear hg
    go_enter Tryd.func10, Tryd.ntmps10
    go_wp2_with (go_at_call 26; refine HC.out.mono ?_; rintro e w1 ⟨rfl, hb1⟩)
    go_ret2
    exact ⟨by rw [HO.out]; rfl, hb1⟩
end Go.Proofs.YtmoloaneidledaaDoor

set_option linter.unusedVariables false
set_option linter.unusedSimpArgs false
namespace Go.Proofs.YtmoloaneidledaaDoor
open Go.Shelf Go.RowKit Go.Lib

theorem ten_in : ∀ l : List UInt8, 10 ∈ l → 0 ≤ indexByte l 10
  | [], h => by cases h
  | c :: cs, h => by
    simp only [indexByte]
    by_cases h1 : c = 10
    · subst h1; simp
    · have h2 : (c == 10) = false := by simpa using h1
      rw [h2, if_neg (by simp)]
      have := ten_in cs (by
        rcases List.mem_cons.1 h with e | e
        · exact absurd e.symm h1
        · exact e)
      rw [if_neg (by simp; omega)]
      omega
theorem ten_out (l : List UInt8) (h : ∀ x ∈ l, x ≠ 10) : ¬ 0 ≤ indexByte l 10 := by
  induction l with
  | nil => simp [indexByte]
  | cons c cs ih =>
    simp only [indexByte]
    have h1 : c ≠ 10 := h c (by simp)
    have h2 : (c == 10) = false := by simpa using h1
    have h3 := ih fun x hx => h x (by simp [hx])
    have h4 := indexByte_ge cs 10
    rw [h2, if_neg (by simp), if_pos (by simp; omega)]
    omega
theorem Flds.drewN {n₀ : Nat} {W : World} {A : Option Addr} {r : List Fld} (h : Flds n₀ W A r) (n : Nat) : Flds n₀ (W.drewN n) A r := h
theorem Flds.take {n₀ : Nat} {W : World} {A : Option Addr} {r : List Fld} (h : Flds n₀ W A r) (k : Nat) : Flds n₀ W A (r.take k) := fun m hm => by
  rw [List.length_take] at hm
  obtain ⟨b, off, e, hlt, c0, c1⟩ := h m (by omega)
  exact ⟨b, off, e, hlt, by rw [List.getElem_take]; exact c0, by rw [List.getElem_take]; exact c1⟩
set_option maxRecDepth 100000 in
set_option maxHeartbeats 2000000 in
theorem rhas_calls (A : Option Addr) (cap : Nat) (r : List Fld) (c : Int) (hz : r.length ≤ 1000000000) (w : World) (hI : Flds w.heap.size w A r) :
    Calls Tryd.prog 32 #[.slice A r.length cap, .int .u8 c] w fun e w' => e = .returned (.bool (hasF r c)) ∧ ∃ n, w' = w.drewN n := by
  have HI := Lib.hid hI
  clear hI
  go_enter Tryd.func32, Tryd.ntmps32
  go_wp2
  go_loopw [5] (fun i wr => ∃ k n : Nat, k ≤ r.length ∧ i = .int .i64 k ∧ wr = w.drewN n ∧ Hid (hasF (r.drop k) c = hasF r c)) (fun i _ => r.length - (RowKit.intOf i).toNat)
  case atStart => exact ⟨0, 0, Nat.zero_le _, rfl, rfl, Lib.hid rfl⟩
  case round =>
    obtain ⟨k, n, hk, rfl, rfl, H⟩ := hrel
    by_cases hkl : k < r.length
    · obtain ⟨b, off, rfl, hbl, c0, c1⟩ := HI.out k hkl
      have h := H.out
      rw [hasF_drop r _ k hkl] at h
      obtain ⟨f, hf⟩ : ∃ f, r[k] = f := ⟨_, rfl⟩
      rw [hf] at c0 c1 h
      clear hf H c1
      by_cases h1 : f.c = c
      · rw [decide_eq_true h1] at h
        have HH := Lib.hid h
        have h1' : (f.c == c) = true := by rw [beq_iff_eq]; exact h1
        clear h h1
        go_wp2
        go_ret
        exact ⟨by rw [← HH.out]; rfl, _, by first | rfl | exact World.drewN_drewN _ _ _⟩
      · rw [decide_eq_false h1] at h
        have HH := Lib.hid h
        have h1' : (f.c == c) = false := by rw [beq_eq_false_iff_ne]; exact h1
        clear h h1
        go_wp2
        go_roundw
        case rel => exact ⟨k + 1, _, by omega, by go_num, rfl, Lib.hid (by rw [← HH.out, Bool.false_or])⟩
        case measure => simp [RowKit.intOf]; omega
    · obtain rfl : k = r.length := by omega
      have h := H.out
      rw [List.drop_length] at h
      have HH := Lib.hid h
      clear h H
      go_wp2
      go_ret
      exact ⟨by rw [← HH.out]; rfl, _, rfl⟩
theorem rcap_calls (c : Int) (w : World) : Calls Tryd.prog 31 #[.int .u8 c] w fun e w' => e = .returned (.bool (capB c)) ∧ ∃ n, w' = w.drewN n := by
  unfold capB
  by_cases h1 : 65 ≤ c
  · by_cases h2 : c ≤ 90
    · go_enter Tryd.func31, Tryd.ntmps31
      go_wp2
      go_ret
      exact ⟨by simp [h1, h2], 0, rfl⟩
    · go_enter Tryd.func31, Tryd.ntmps31
      go_wp2
      go_ret
      exact ⟨by simp [h1, h2], 0, rfl⟩
  · go_enter Tryd.func31, Tryd.ntmps31
    go_wp2
    go_ret
    exact ⟨by simp; omega, 0, rfl⟩
end Go.Proofs.YtmoloaneidledaaDoor

set_option linter.unusedVariables false
set_option linter.unusedSimpArgs false
namespace Go.Proofs.YtmoloaneidledaaDoor
open Go.Shelf Go.RowKit Go.Lib

theorem sumR_drop (r : List Fld) (k : Nat) (h : k < r.length) : sumR (r.drop k) = 2 + (r[k]).t.size + sumR (r.drop (k + 1)) := by
  rw [List.drop_eq_getElem_cons h]; unfold sumR; rw [List.map_cons, List.sum_cons]
theorem sumL_drop (l : List (List Fld)) (i : Nat) (h : i < l.length) : sumL (l.drop i) = 2 + sumR l[i] + sumL (l.drop (i + 1)) := by
  rw [List.drop_eq_getElem_cons h]; unfold sumL; rw [List.map_cons, List.sum_cons]
theorem bad_at (l : List (List Fld)) (i : Nat) (h : i < l.length) (hb : goodB l[i] = false) : writeM l = (⟨#[]⟩, 1) := by
  unfold writeM
  rw [if_neg]
  intro q
  rw [List.all_eq_true.1 q l[i] (List.getElem_mem h)] at hb
  cases hb
theorem bad_from (l : List (List Fld)) (i : Nat) (h : i < l.length) (r : List Fld) (hr : l[i] = r) (k : Nat) (hk : k < r.length) (hg : goodFrom (r.take k) (r.drop k) = goodFrom [] r) (hf : okF (r.take k) r[k] = false) : writeM l = (⟨#[]⟩, 1) := by
  apply bad_at l i h
  rw [hr]
  unfold goodB
  rw [← hg, goodFrom_at r k hk, hf]
  rfl
theorem conv_byte (c : Int) (w : World) : (convert 22 9 (.slice (some ⟨w.heap.size, 0, none⟩) 1 1)).run Tryd.prog (w.alloc (.cells #[.int .u8 c] 5)) = .ok (.string ⟨#[c.toNat.toUInt8]⟩) (w.alloc (.cells #[.int .u8 c] 5)) :=
  run_convert_bytes_arg _ 22 5 Tryd.underlying22 Tryd.underlying5 w.heap.size 0 1 1 [c] rfl (fun i hi => by
    obtain rfl : i = 0 := by omega
    simp) 9 Tryd.underlying9
set_option maxRecDepth 100000 in
set_option maxHeartbeats 8000000 in
theorem rwrite_calls (A : Option Addr) (cap : Nat) (l : List (List Fld)) (hl : Light l) (w : World) (hI : Recs w.heap.size w A l) :
    Calls Tryd.prog 11 #[.slice A l.length cap] w fun e w' => e = .returned (.tuple #[.string (writeM l).1, .int .i64 (writeM l).2]) ∧ Below w.heap.size w w' := by
  have hlen := hl.1
  have HL := Lib.hid hl
  have HI := Lib.hid hI
  clear hI hl
  have hG : (500 < (l.length : Int)) = False := by simp; omega
  go_enter Tryd.func11, Tryd.ntmps11
  go_wp2
  go_loopg [4, 5] (sumL l + 1) (fun gk s4 s5 wx => ∃ i : Nat, i ≤ l.length ∧ sumL (l.drop i) + 1 ≤ gk ∧ s4 = .string (txt (l.take i)) ∧ s5 = .int .i64 i ∧ Hid ((l.take i).all goodB = true) ∧ Below w.heap.size w wx)
  case atStart => exact ⟨0, Nat.zero_le _, by rw [List.drop_zero]; exact Nat.le_refl _, rfl, rfl, Lib.hid rfl, Below.refl _ _⟩
  case round =>
    obtain ⟨i, hi, hk, rfl, rfl, HA, hb⟩ := hrel
    by_cases hil : i < l.length
    · have hnd := sumL_drop l i hil
      obtain ⟨b, off, A', c', rfl, hbl, c0, cc, c1⟩ := HI.out i hil
      have c0r := (hb.cell (p := ⟨b, off + i, none⟩) hbl).trans c0
      have hbr : b < wr.heap.size := by have := hb.size; omega
      have hrow := HL.out.rows l[i] (List.getElem_mem hil)
      have hsz := txt_size (l.take i)
      have hst := sumL_take l i hil
      have hs3 := HL.out.2
      have hhd := head_take l i hil
      have htk := txt_take l i hil
      have HBad := Lib.hid (bad_at l i hil)
      have HFrom := Lib.hid (bad_from l i hil)
      have HTake := Lib.hid (List.take_succ_eq_append_getElem hil)
      obtain ⟨r, hr⟩ : ∃ r, l[i] = r := ⟨_, rfl⟩
      rw [hr] at c0 c0r c1 cc hnd hrow hst htk HBad HTake
      replace HFrom := Lib.hid (HFrom.out r hr)
      obtain ⟨T, hT⟩ : ∃ T, txt (l.take i) = T := ⟨_, rfl⟩
      rw [hT] at hhd hsz
      simp only [hT]
      obtain ⟨S, hS⟩ : ∃ S, headO (accO (l.take i)) = S := ⟨_, rfl⟩
      rw [hS] at htk hhd
      have hSz : S.size ≤ T.size + 1 := by
        rw [hhd]
        split
        · rw [ByteArray.size_append]; exact Nat.le_refl _
        · omega
      have HTK := Lib.hid htk
      have HRow := Lib.hid c1
      have hSz2 : S.size ≤ 12001 := by omega
      have hRz : sumR r ≤ 3000 := by omega
      have hTz : T.size ≤ 12000 := by omega
      clear hr hT hS c1 hst hs3 htk hsz hSz
      by_cases hr0 : r.length = 0
      · have hr0' : ((r.length : Int) == 0) = true := by rw [hr0]; rfl
        have hB : writeM l = (⟨#[]⟩, 1) := HBad.out (by unfold goodB; rw [decide_eq_false (show ¬ 0 < r.length by omega), Bool.and_false])
        have HB := Lib.hid hB
        clear hB hhd hr0
        go_wp2
        go_ret2
        exact ⟨by rw [HB.out]; rfl, hb⟩
      have hr0' : ((r.length : Int) == 0) = false := by rw [beq_eq_false_iff_ne]; omega
      obtain ⟨g1, rfl⟩ : ∃ g1, gk = g1 + 1 := ⟨gk - 1, by omega⟩
      by_cases h0 : 0 < i
      · rw [if_pos h0] at hhd
        have n0 : T.size + 1 ≤ 9223372036854775807 := by omega
        have hhd' := hhd.symm
        clear hhd
        go_wp2
        clear hhd' n0
        go_loopg [4, 6] g1 (fun gk s4 s6 wx => ∃ k : Nat, k ≤ r.length ∧ sumR (r.drop k) + 1 + sumL (l.drop (i + 1)) + 1 ≤ gk ∧ gk ≤ g1 ∧ s4 = .string (joinF S (r.take k)) ∧ s6 = .int .i64 k ∧ Hid (goodFrom (r.take k) (r.drop k) = goodFrom [] r) ∧ Hid (Below w.heap.size w wx))
        case atStart => exact ⟨0, Nat.zero_le _, by rw [List.drop_zero]; omega, Nat.le_refl _, rfl, rfl, Lib.hid rfl, Lib.hid hb⟩
        case round =>
          clear hb c0r
          obtain ⟨k, hk', hk2, hk3, rfl, rfl, HF, HBx⟩ := hrel
          have c0x := (HBx.out.cell (p := ⟨b, off + i, none⟩) hbl).trans c0
          by_cases hkl : k < r.length
          · obtain ⟨b2, off2, rfl, hbl2, d0, d1⟩ := (HRow.out.below HBx.out) k hkl
            have hbr2 : b2 < wr.heap.size := by have := HBx.out.size; omega
            have hnd2 := sumR_drop r k hkl
            have hjn := join_take S r k hkl
            have hjs := join_size (r.take k) S
            have hst := sumR_take r k hkl
            have HBadF := Lib.hid (HFrom.out k hkl HF.out)
            have hgt := goodFrom_at r k hkl
            rw [HF.out] at hgt
            have hkc : k ≤ c' := by omega
            have hpl : (r.take k).length = k := by rw [List.length_take]; omega
            have hfl := (HRow.out.below HBx.out).take k
            obtain ⟨f, hf⟩ : ∃ f, r[k] = f := ⟨_, rfl⟩
            rw [hf] at d0 d1 hjn hst hnd2 HBadF hgt
            obtain ⟨p, hp⟩ : ∃ p, r.take k = p := ⟨_, rfl⟩
            rw [hp] at hjn hjs hst HBadF hgt hpl hfl
            try simp only [hp]
            obtain ⟨U, hU⟩ : ∃ U, joinF S p = U := ⟨_, rfl⟩
            rw [hU] at hjn hjs
            try simp only [hU]
            have HJN := Lib.hid hjn
            have HNext : Hid (okF p f = true → goodFrom (r.take (k + 1)) (r.drop (k + 1)) = goodFrom [] r) := Lib.hid (fun q => by rw [hgt, q]; rfl)
            have hUz : U.size ≤ 24001 := by omega
            have htz : f.t.size ≤ 3000 := by omega
            clear hf hp hU hjn hjs hst hgt
            obtain ⟨x, hx⟩ : ∃ x, wr.heap.size = x := ⟨_, rfl⟩
            obtain ⟨V, hV⟩ : ∃ V, wr.alloc (.cells #[.int .u8 f.c, .string f.t] 69) = V := ⟨_, rfl⟩
            have v0 : V.cell? ⟨x, 0, none⟩ = some (.int .u8 f.c) := by rw [← hV, ← hx]; simp
            have v1 : V.cell? ⟨x, 1, none⟩ = some (.string f.t) := by rw [← hV, ← hx]; simp
            have xl : x < V.heap.size := by rw [← hV, ← hx]; simp
            have bV : Below w.heap.size w V := by rw [← hV]; exact HBx.out.alloc HBx.out.size _
            have c0v := (bV.cell (p := ⟨b, off + i, none⟩) hbl).trans c0
            have BV := Lib.hid bV
            have hFV : Flds V.heap.size V (some ⟨b2, off2, none⟩) p := by
              refine (hfl.below (show Below w.heap.size wr V by rw [← hV]; exact (Below.refl _ _).alloc HBx.out.size _)).more bV.size
            have H32 := Lib.hid (fun n => rhas_calls (some ⟨b2, off2, none⟩) c' p f.c (by omega) (V.drewN n) hFV)
            rw [hpl] at H32
            have H31 := Lib.hid (fun W => rcap_calls f.c W)
            have HOk : Hid (okF p f = (capB f.c && (decide (f.t.size ≠ 0) && (!decide (0 ≤ indexByte f.t.data.toList 10) && !(hasF p f.c && decide (f.c ≠ 65)))))) := Lib.hid rfl
            clear hfl hFV bV hpl
            go_wp2
            try simp only [hx, hV]
            clear hx hV
            by_cases hc : capB f.c = false
            · rw [hc] at H31 HOk
              have HB := Lib.hid (HBadF.out (by rw [HOk.out]; rfl))
              clear hc
              go_quiet ((go_at_call 31; first | exact H31.out _ | exact Calls.quiet_of (H31.out _)))
              go_wp2
              go_ret2
              exact ⟨by rw [HB.out]; rfl, belowN BV.out _⟩
            replace hc : capB f.c = true := by simpa using hc
            rw [hc] at H31 HOk
            by_cases hz : f.t.size = 0
            · have hte : f.t.toList.isEmpty = true := by
                rw [Lib.toList_data, List.isEmpty_iff, ← List.length_eq_zero_iff, Array.length_toList]; exact hz
              have HB := Lib.hid (HBadF.out (by rw [HOk.out, decide_eq_false (by omega)]; rfl))
              clear hz
              go_quiet ((go_at_call 31; first | exact H31.out _ | exact Calls.quiet_of (H31.out _)))
              go_wp2
              go_ret2
              exact ⟨by rw [HB.out]; rfl, belowN BV.out _⟩
            have hte : f.t.toList.isEmpty = false := by
              rw [Lib.toList_data, List.isEmpty_eq_false_iff]
              intro e
              apply hz
              have := congrArg List.length e
              rw [Array.length_toList] at this
              exact this
            rw [decide_eq_true (show f.t.size ≠ 0 from hz)] at HOk
            by_cases h65 : f.c = 65
            · have k65 : (f.c != 65) = false := by rw [h65]; rfl
              rw [decide_eq_false (show ¬ f.c ≠ 65 by omega), Bool.and_false] at HOk
              clear h65 H32 hz
              go_quiet ((go_at_call 31; first | exact H31.out _ | exact Calls.quiet_of (H31.out _)))
              obtain ⟨g2, rfl⟩ : ∃ g2, gk = g2 + 1 := ⟨gk - 1, by omega⟩
              go_wp2
              go_loopg [8] g2 (fun gk s8 wx => ∃ j : Nat, j ≤ f.t.size ∧ (f.t.size - j) + 1 + sumR (r.drop (k + 1)) + 1 + sumL (l.drop (i + 1)) + 1 ≤ gk ∧ gk ≤ g2 ∧ s8 = .int .i64 j ∧ Hid (∀ x ∈ f.t.data.toList.take j, x ≠ 10) ∧ Hid (Below V.heap.size V wx))
              case atStart => exact ⟨0, Nat.zero_le _, by omega, Nat.le_refl _, rfl, Lib.hid (fun x hx => by cases hx), Lib.hid (belowN (Below.refl _ _) _)⟩
              case round =>
                obtain ⟨j, hj, hj2, hj3, rfl, HT, HV⟩ := hrel
                have v0' := (HV.out.cell (p := ⟨x, 0, none⟩) xl).trans v0
                have v1' := (HV.out.cell (p := ⟨x, 1, none⟩) xl).trans v1
                have hjb := BV.out.trans (HV.out.mono BV.out.size)
                have HJB := Lib.hid hjb
                clear hjb
                by_cases hjl : j < f.t.size
                · have j0 : (j : Int) < f.t.size := by omega
                  by_cases h10 : f.t[j] = 10
                  · have hin : okF p f = false := by
                      have : 0 ≤ indexByte f.t.data.toList 10 := ten_in _ (by
                        rw [← h10]
                        exact List.getElem_mem (l := f.t.data.toList) (n := j) (by rw [Array.length_toList]; exact hjl))
                      unfold okF
                      rw [decide_eq_true this]
                      simp
                    have HB := Lib.hid (HBadF.out hin)
                    have k10 : ((f.t[j].toNat : Int) == 10) = true := by rw [h10]; rfl
                    clear h10 hin
                    go_wp2
                    go_ret2
                    exact ⟨by rw [HB.out]; rfl, HJB.out⟩
                  · have hnx : Hid (∀ x ∈ f.t.data.toList.take (j + 1), x ≠ 10) := Lib.hid (by
                      intro y hy
                      rw [List.take_succ_eq_append_getElem (by rw [Array.length_toList]; exact hjl), List.mem_append, List.mem_singleton] at hy
                      rcases hy with hy | hy
                      · exact HT.out y hy
                      · rw [hy]; exact h10)
                    have k10 : ((f.t[j].toNat : Int) == 10) = false := by
                      rw [beq_eq_false_iff_ne]
                      intro e
                      apply h10
                      apply UInt8.toNat_inj.1
                      have : f.t[j].toNat = 10 := by omega
                      rw [this]; rfl
                    obtain ⟨g3, rfl⟩ : ∃ g3, gk = g3 + 1 := ⟨gk - 1, by omega⟩
                    clear h10
                    go_wp2
                    go_roundg g3
                    case measure => omega
                    case rel => exact ⟨j + 1, by omega, by omega, by omega, by go_num, hnx, HV⟩
                · obtain rfl : j = f.t.size := by omega
                  have hok : okF p f = true := by
                    have ht := HT.out
                    rw [List.take_of_length_le (by rw [Array.length_toList]; exact Nat.le_refl _)] at ht
                    rw [HOk.out, decide_eq_false (ten_out _ ht)]
                    rfl
                  have HNX := Lib.hid (HNext.out hok)
                  have henc : Utf8.encode f.c = ⟨#[f.c.toNat.toUInt8]⟩ := encode_cap f.c hc
                  have hfw : fieldW f = (((⟨#[37]⟩ ++ ⟨#[f.c.toNat.toUInt8]⟩) ++ ⟨#[32]⟩) ++ f.t) ++ ⟨#[10]⟩ := by rw [← henc]; rfl
                  have hcb := cap_bounds hc
                  obtain ⟨g3, rfl⟩ : ∃ g3, gk = g3 + 1 := ⟨gk - 1, by omega⟩
                  have m0 : U.size + 1 ≤ 9223372036854775807 := by omega
                  have m1 : U.size + 1 + 1 ≤ 9223372036854775807 := by omega
                  have m2 : U.size + 1 + 1 + 1 ≤ 9223372036854775807 := by omega
                  have m3 : U.size + 1 + 1 + 1 + f.t.size ≤ 9223372036854775807 := by omega
                  have m4 : U.size + 1 + 1 + 1 + f.t.size + 1 ≤ 9223372036854775807 := by omega
                  have hcv := conv_byte f.c wr
                  have v1'' := (((Below.refl wr.heap.size wr).alloc (Nat.le_refl _) (.cells #[.int .u8 f.c] 5)).cell (p := ⟨x, 1, none⟩) (by have := HV.out.size; show x < _; omega)).trans v1'
                  clear hok henc HT
                  go_wp2
                  go_roundg g3
                  case measure => omega
                  case rel => exact ⟨k + 1, by omega, by omega, by omega, by rw [HJN.out, hfw]; simp [ByteArray.append_assoc], by go_num, HNX, Lib.hid (HJB.out.alloc HJB.out.size _)⟩
            · have k65 : (f.c != 65) = true := by rw [bne_iff_ne]; exact h65
              rw [decide_eq_true (show f.c ≠ 65 from h65), Bool.and_true] at HOk
              by_cases hh : hasF p f.c = true
              · rw [hh] at HOk H32
                have HB := Lib.hid (HBadF.out (by rw [HOk.out]; simp))
                clear h65 hz hh
                go_quiet (first | (go_at_call 31; first | exact H31.out _ | exact Calls.quiet_of (H31.out _)) | (go_at_call 32; first | exact H32.out _ | exact Calls.quiet_of (H32.out _)))
                go_wp2
                go_ret2
                exact ⟨by rw [HB.out]; rfl, belowN BV.out _⟩
              rw [show hasF p f.c = false by simpa using hh] at HOk H32
              clear h65 hz hh
              go_quiet (first | (go_at_call 31; first | exact H31.out _ | exact Calls.quiet_of (H31.out _)) | (go_at_call 32; first | exact H32.out _ | exact Calls.quiet_of (H32.out _)))
              obtain ⟨g2, rfl⟩ : ∃ g2, gk = g2 + 1 := ⟨gk - 1, by omega⟩
              go_wp2
              go_loopg [8] g2 (fun gk s8 wx => ∃ j : Nat, j ≤ f.t.size ∧ (f.t.size - j) + 1 + sumR (r.drop (k + 1)) + 1 + sumL (l.drop (i + 1)) + 1 ≤ gk ∧ gk ≤ g2 ∧ s8 = .int .i64 j ∧ Hid (∀ x ∈ f.t.data.toList.take j, x ≠ 10) ∧ Hid (Below V.heap.size V wx))
              case atStart => exact ⟨0, Nat.zero_le _, by omega, Nat.le_refl _, rfl, Lib.hid (fun x hx => by cases hx), Lib.hid (belowN (Below.refl _ _) _)⟩
              case round =>
                obtain ⟨j, hj, hj2, hj3, rfl, HT, HV⟩ := hrel
                have v0' := (HV.out.cell (p := ⟨x, 0, none⟩) xl).trans v0
                have v1' := (HV.out.cell (p := ⟨x, 1, none⟩) xl).trans v1
                have hjb := BV.out.trans (HV.out.mono BV.out.size)
                have HJB := Lib.hid hjb
                clear hjb
                by_cases hjl : j < f.t.size
                · have j0 : (j : Int) < f.t.size := by omega
                  by_cases h10 : f.t[j] = 10
                  · have hin : okF p f = false := by
                      have : 0 ≤ indexByte f.t.data.toList 10 := ten_in _ (by
                        rw [← h10]
                        exact List.getElem_mem (l := f.t.data.toList) (n := j) (by rw [Array.length_toList]; exact hjl))
                      unfold okF
                      rw [decide_eq_true this]
                      simp
                    have HB := Lib.hid (HBadF.out hin)
                    have k10 : ((f.t[j].toNat : Int) == 10) = true := by rw [h10]; rfl
                    clear h10 hin
                    go_wp2
                    go_ret2
                    exact ⟨by rw [HB.out]; rfl, HJB.out⟩
                  · have hnx : Hid (∀ x ∈ f.t.data.toList.take (j + 1), x ≠ 10) := Lib.hid (by
                      intro y hy
                      rw [List.take_succ_eq_append_getElem (by rw [Array.length_toList]; exact hjl), List.mem_append, List.mem_singleton] at hy
                      rcases hy with hy | hy
                      · exact HT.out y hy
                      · rw [hy]; exact h10)
                    have k10 : ((f.t[j].toNat : Int) == 10) = false := by
                      rw [beq_eq_false_iff_ne]
                      intro e
                      apply h10
                      apply UInt8.toNat_inj.1
                      have : f.t[j].toNat = 10 := by omega
                      rw [this]; rfl
                    obtain ⟨g3, rfl⟩ : ∃ g3, gk = g3 + 1 := ⟨gk - 1, by omega⟩
                    clear h10
                    go_wp2
                    go_roundg g3
                    case measure => omega
                    case rel => exact ⟨j + 1, by omega, by omega, by omega, by go_num, hnx, HV⟩
                · obtain rfl : j = f.t.size := by omega
                  have hok : okF p f = true := by
                    have ht := HT.out
                    rw [List.take_of_length_le (by rw [Array.length_toList]; exact Nat.le_refl _)] at ht
                    rw [HOk.out, decide_eq_false (ten_out _ ht)]
                    rfl
                  have HNX := Lib.hid (HNext.out hok)
                  have henc : Utf8.encode f.c = ⟨#[f.c.toNat.toUInt8]⟩ := encode_cap f.c hc
                  have hfw : fieldW f = (((⟨#[37]⟩ ++ ⟨#[f.c.toNat.toUInt8]⟩) ++ ⟨#[32]⟩) ++ f.t) ++ ⟨#[10]⟩ := by rw [← henc]; rfl
                  have hcb := cap_bounds hc
                  obtain ⟨g3, rfl⟩ : ∃ g3, gk = g3 + 1 := ⟨gk - 1, by omega⟩
                  have m0 : U.size + 1 ≤ 9223372036854775807 := by omega
                  have m1 : U.size + 1 + 1 ≤ 9223372036854775807 := by omega
                  have m2 : U.size + 1 + 1 + 1 ≤ 9223372036854775807 := by omega
                  have m3 : U.size + 1 + 1 + 1 + f.t.size ≤ 9223372036854775807 := by omega
                  have m4 : U.size + 1 + 1 + 1 + f.t.size + 1 ≤ 9223372036854775807 := by omega
                  have hcv := conv_byte f.c wr
                  have v1'' := (((Below.refl wr.heap.size wr).alloc (Nat.le_refl _) (.cells #[.int .u8 f.c] 5)).cell (p := ⟨x, 1, none⟩) (by have := HV.out.size; show x < _; omega)).trans v1'
                  clear hok henc HT
                  go_wp2
                  go_roundg g3
                  case measure => omega
                  case rel => exact ⟨k + 1, by omega, by omega, by omega, by rw [HJN.out, hfw]; simp [ByteArray.append_assoc], by go_num, HNX, Lib.hid (HJB.out.alloc HJB.out.size _)⟩
          · obtain rfl : k = r.length := by omega
            rw [List.drop_length, List.take_length] at HF
            rw [List.take_length]
            have HA2 : Hid ((l.take (i + 1)).all goodB = true) := Lib.hid (by
              rw [HTake.out, List.all_append, HA.out, List.all_cons, List.all_nil, Bool.and_true, Bool.true_and]
              unfold goodB
              rw [← HF.out, decide_eq_true (by omega)]
              rfl)
            obtain ⟨g3, rfl⟩ : ∃ g3, gk = g3 + 1 := ⟨gk - 1, by omega⟩
            clear HF HA
            go_wp2
            go_roundg g3
            case measure => omega
            case rel => exact ⟨i + 1, by omega, by omega, by rw [HTK.out], by go_num, HA2, HBx.out⟩
      · rw [if_neg h0] at hhd
        subst hhd
        go_wp2
        go_loopg [4, 6] g1 (fun gk s4 s6 wx => ∃ k : Nat, k ≤ r.length ∧ sumR (r.drop k) + 1 + sumL (l.drop (i + 1)) + 1 ≤ gk ∧ gk ≤ g1 ∧ s4 = .string (joinF S (r.take k)) ∧ s6 = .int .i64 k ∧ Hid (goodFrom (r.take k) (r.drop k) = goodFrom [] r) ∧ Hid (Below w.heap.size w wx))
        case atStart => exact ⟨0, Nat.zero_le _, by rw [List.drop_zero]; omega, Nat.le_refl _, rfl, rfl, Lib.hid rfl, Lib.hid hb⟩
        case round =>
          clear hb c0r
          obtain ⟨k, hk', hk2, hk3, rfl, rfl, HF, HBx⟩ := hrel
          have c0x := (HBx.out.cell (p := ⟨b, off + i, none⟩) hbl).trans c0
          by_cases hkl : k < r.length
          · obtain ⟨b2, off2, rfl, hbl2, d0, d1⟩ := (HRow.out.below HBx.out) k hkl
            have hbr2 : b2 < wr.heap.size := by have := HBx.out.size; omega
            have hnd2 := sumR_drop r k hkl
            have hjn := join_take S r k hkl
            have hjs := join_size (r.take k) S
            have hst := sumR_take r k hkl
            have HBadF := Lib.hid (HFrom.out k hkl HF.out)
            have hgt := goodFrom_at r k hkl
            rw [HF.out] at hgt
            have hkc : k ≤ c' := by omega
            have hpl : (r.take k).length = k := by rw [List.length_take]; omega
            have hfl := (HRow.out.below HBx.out).take k
            obtain ⟨f, hf⟩ : ∃ f, r[k] = f := ⟨_, rfl⟩
            rw [hf] at d0 d1 hjn hst hnd2 HBadF hgt
            obtain ⟨p, hp⟩ : ∃ p, r.take k = p := ⟨_, rfl⟩
            rw [hp] at hjn hjs hst HBadF hgt hpl hfl
            try simp only [hp]
            obtain ⟨U, hU⟩ : ∃ U, joinF S p = U := ⟨_, rfl⟩
            rw [hU] at hjn hjs
            try simp only [hU]
            have HJN := Lib.hid hjn
            have HNext : Hid (okF p f = true → goodFrom (r.take (k + 1)) (r.drop (k + 1)) = goodFrom [] r) := Lib.hid (fun q => by rw [hgt, q]; rfl)
            have hUz : U.size ≤ 24001 := by omega
            have htz : f.t.size ≤ 3000 := by omega
            clear hf hp hU hjn hjs hst hgt
            obtain ⟨x, hx⟩ : ∃ x, wr.heap.size = x := ⟨_, rfl⟩
            obtain ⟨V, hV⟩ : ∃ V, wr.alloc (.cells #[.int .u8 f.c, .string f.t] 69) = V := ⟨_, rfl⟩
            have v0 : V.cell? ⟨x, 0, none⟩ = some (.int .u8 f.c) := by rw [← hV, ← hx]; simp
            have v1 : V.cell? ⟨x, 1, none⟩ = some (.string f.t) := by rw [← hV, ← hx]; simp
            have xl : x < V.heap.size := by rw [← hV, ← hx]; simp
            have bV : Below w.heap.size w V := by rw [← hV]; exact HBx.out.alloc HBx.out.size _
            have c0v := (bV.cell (p := ⟨b, off + i, none⟩) hbl).trans c0
            have BV := Lib.hid bV
            have hFV : Flds V.heap.size V (some ⟨b2, off2, none⟩) p := by
              refine (hfl.below (show Below w.heap.size wr V by rw [← hV]; exact (Below.refl _ _).alloc HBx.out.size _)).more bV.size
            have H32 := Lib.hid (fun n => rhas_calls (some ⟨b2, off2, none⟩) c' p f.c (by omega) (V.drewN n) hFV)
            rw [hpl] at H32
            have H31 := Lib.hid (fun W => rcap_calls f.c W)
            have HOk : Hid (okF p f = (capB f.c && (decide (f.t.size ≠ 0) && (!decide (0 ≤ indexByte f.t.data.toList 10) && !(hasF p f.c && decide (f.c ≠ 65)))))) := Lib.hid rfl
            clear hfl hFV bV hpl
            go_wp2
            try simp only [hx, hV]
            clear hx hV
            by_cases hc : capB f.c = false
            · rw [hc] at H31 HOk
              have HB := Lib.hid (HBadF.out (by rw [HOk.out]; rfl))
              clear hc
              go_quiet ((go_at_call 31; first | exact H31.out _ | exact Calls.quiet_of (H31.out _)))
              go_wp2
              go_ret2
              exact ⟨by rw [HB.out]; rfl, belowN BV.out _⟩
            replace hc : capB f.c = true := by simpa using hc
            rw [hc] at H31 HOk
            by_cases hz : f.t.size = 0
            · have hte : f.t.toList.isEmpty = true := by
                rw [Lib.toList_data, List.isEmpty_iff, ← List.length_eq_zero_iff, Array.length_toList]; exact hz
              have HB := Lib.hid (HBadF.out (by rw [HOk.out, decide_eq_false (by omega)]; rfl))
              clear hz
              go_quiet ((go_at_call 31; first | exact H31.out _ | exact Calls.quiet_of (H31.out _)))
              go_wp2
              go_ret2
              exact ⟨by rw [HB.out]; rfl, belowN BV.out _⟩
            have hte : f.t.toList.isEmpty = false := by
              rw [Lib.toList_data, List.isEmpty_eq_false_iff]
              intro e
              apply hz
              have := congrArg List.length e
              rw [Array.length_toList] at this
              exact this
            rw [decide_eq_true (show f.t.size ≠ 0 from hz)] at HOk
            by_cases h65 : f.c = 65
            · have k65 : (f.c != 65) = false := by rw [h65]; rfl
              rw [decide_eq_false (show ¬ f.c ≠ 65 by omega), Bool.and_false] at HOk
              clear h65 H32 hz
              go_quiet ((go_at_call 31; first | exact H31.out _ | exact Calls.quiet_of (H31.out _)))
              obtain ⟨g2, rfl⟩ : ∃ g2, gk = g2 + 1 := ⟨gk - 1, by omega⟩
              go_wp2
              go_loopg [8] g2 (fun gk s8 wx => ∃ j : Nat, j ≤ f.t.size ∧ (f.t.size - j) + 1 + sumR (r.drop (k + 1)) + 1 + sumL (l.drop (i + 1)) + 1 ≤ gk ∧ gk ≤ g2 ∧ s8 = .int .i64 j ∧ Hid (∀ x ∈ f.t.data.toList.take j, x ≠ 10) ∧ Hid (Below V.heap.size V wx))
              case atStart => exact ⟨0, Nat.zero_le _, by omega, Nat.le_refl _, rfl, Lib.hid (fun x hx => by cases hx), Lib.hid (belowN (Below.refl _ _) _)⟩
              case round =>
                obtain ⟨j, hj, hj2, hj3, rfl, HT, HV⟩ := hrel
                have v0' := (HV.out.cell (p := ⟨x, 0, none⟩) xl).trans v0
                have v1' := (HV.out.cell (p := ⟨x, 1, none⟩) xl).trans v1
                have hjb := BV.out.trans (HV.out.mono BV.out.size)
                have HJB := Lib.hid hjb
                clear hjb
                by_cases hjl : j < f.t.size
                · have j0 : (j : Int) < f.t.size := by omega
                  by_cases h10 : f.t[j] = 10
                  · have hin : okF p f = false := by
                      have : 0 ≤ indexByte f.t.data.toList 10 := ten_in _ (by
                        rw [← h10]
                        exact List.getElem_mem (l := f.t.data.toList) (n := j) (by rw [Array.length_toList]; exact hjl))
                      unfold okF
                      rw [decide_eq_true this]
                      simp
                    have HB := Lib.hid (HBadF.out hin)
                    have k10 : ((f.t[j].toNat : Int) == 10) = true := by rw [h10]; rfl
                    clear h10 hin
                    go_wp2
                    go_ret2
                    exact ⟨by rw [HB.out]; rfl, HJB.out⟩
                  · have hnx : Hid (∀ x ∈ f.t.data.toList.take (j + 1), x ≠ 10) := Lib.hid (by
                      intro y hy
                      rw [List.take_succ_eq_append_getElem (by rw [Array.length_toList]; exact hjl), List.mem_append, List.mem_singleton] at hy
                      rcases hy with hy | hy
                      · exact HT.out y hy
                      · rw [hy]; exact h10)
                    have k10 : ((f.t[j].toNat : Int) == 10) = false := by
                      rw [beq_eq_false_iff_ne]
                      intro e
                      apply h10
                      apply UInt8.toNat_inj.1
                      have : f.t[j].toNat = 10 := by omega
                      rw [this]; rfl
                    obtain ⟨g3, rfl⟩ : ∃ g3, gk = g3 + 1 := ⟨gk - 1, by omega⟩
                    clear h10
                    go_wp2
                    go_roundg g3
                    case measure => omega
                    case rel => exact ⟨j + 1, by omega, by omega, by omega, by go_num, hnx, HV⟩
                · obtain rfl : j = f.t.size := by omega
                  have hok : okF p f = true := by
                    have ht := HT.out
                    rw [List.take_of_length_le (by rw [Array.length_toList]; exact Nat.le_refl _)] at ht
                    rw [HOk.out, decide_eq_false (ten_out _ ht)]
                    rfl
                  have HNX := Lib.hid (HNext.out hok)
                  have henc : Utf8.encode f.c = ⟨#[f.c.toNat.toUInt8]⟩ := encode_cap f.c hc
                  have hfw : fieldW f = (((⟨#[37]⟩ ++ ⟨#[f.c.toNat.toUInt8]⟩) ++ ⟨#[32]⟩) ++ f.t) ++ ⟨#[10]⟩ := by rw [← henc]; rfl
                  have hcb := cap_bounds hc
                  obtain ⟨g3, rfl⟩ : ∃ g3, gk = g3 + 1 := ⟨gk - 1, by omega⟩
                  have m0 : U.size + 1 ≤ 9223372036854775807 := by omega
                  have m1 : U.size + 1 + 1 ≤ 9223372036854775807 := by omega
                  have m2 : U.size + 1 + 1 + 1 ≤ 9223372036854775807 := by omega
                  have m3 : U.size + 1 + 1 + 1 + f.t.size ≤ 9223372036854775807 := by omega
                  have m4 : U.size + 1 + 1 + 1 + f.t.size + 1 ≤ 9223372036854775807 := by omega
                  have hcv := conv_byte f.c wr
                  have v1'' := (((Below.refl wr.heap.size wr).alloc (Nat.le_refl _) (.cells #[.int .u8 f.c] 5)).cell (p := ⟨x, 1, none⟩) (by have := HV.out.size; show x < _; omega)).trans v1'
                  clear hok henc HT
                  go_wp2
                  go_roundg g3
                  case measure => omega
                  case rel => exact ⟨k + 1, by omega, by omega, by omega, by rw [HJN.out, hfw]; simp [ByteArray.append_assoc], by go_num, HNX, Lib.hid (HJB.out.alloc HJB.out.size _)⟩
            · have k65 : (f.c != 65) = true := by rw [bne_iff_ne]; exact h65
              rw [decide_eq_true (show f.c ≠ 65 from h65), Bool.and_true] at HOk
              by_cases hh : hasF p f.c = true
              · rw [hh] at HOk H32
                have HB := Lib.hid (HBadF.out (by rw [HOk.out]; simp))
                clear h65 hz hh
                go_quiet (first | (go_at_call 31; first | exact H31.out _ | exact Calls.quiet_of (H31.out _)) | (go_at_call 32; first | exact H32.out _ | exact Calls.quiet_of (H32.out _)))
                go_wp2
                go_ret2
                exact ⟨by rw [HB.out]; rfl, belowN BV.out _⟩
              rw [show hasF p f.c = false by simpa using hh] at HOk H32
              clear h65 hz hh
              go_quiet (first | (go_at_call 31; first | exact H31.out _ | exact Calls.quiet_of (H31.out _)) | (go_at_call 32; first | exact H32.out _ | exact Calls.quiet_of (H32.out _)))
              obtain ⟨g2, rfl⟩ : ∃ g2, gk = g2 + 1 := ⟨gk - 1, by omega⟩
              go_wp2
              go_loopg [8] g2 (fun gk s8 wx => ∃ j : Nat, j ≤ f.t.size ∧ (f.t.size - j) + 1 + sumR (r.drop (k + 1)) + 1 + sumL (l.drop (i + 1)) + 1 ≤ gk ∧ gk ≤ g2 ∧ s8 = .int .i64 j ∧ Hid (∀ x ∈ f.t.data.toList.take j, x ≠ 10) ∧ Hid (Below V.heap.size V wx))
              case atStart => exact ⟨0, Nat.zero_le _, by omega, Nat.le_refl _, rfl, Lib.hid (fun x hx => by cases hx), Lib.hid (belowN (Below.refl _ _) _)⟩
              case round =>
                obtain ⟨j, hj, hj2, hj3, rfl, HT, HV⟩ := hrel
                have v0' := (HV.out.cell (p := ⟨x, 0, none⟩) xl).trans v0
                have v1' := (HV.out.cell (p := ⟨x, 1, none⟩) xl).trans v1
                have hjb := BV.out.trans (HV.out.mono BV.out.size)
                have HJB := Lib.hid hjb
                clear hjb
                by_cases hjl : j < f.t.size
                · have j0 : (j : Int) < f.t.size := by omega
                  by_cases h10 : f.t[j] = 10
                  · have hin : okF p f = false := by
                      have : 0 ≤ indexByte f.t.data.toList 10 := ten_in _ (by
                        rw [← h10]
                        exact List.getElem_mem (l := f.t.data.toList) (n := j) (by rw [Array.length_toList]; exact hjl))
                      unfold okF
                      rw [decide_eq_true this]
                      simp
                    have HB := Lib.hid (HBadF.out hin)
                    have k10 : ((f.t[j].toNat : Int) == 10) = true := by rw [h10]; rfl
                    clear h10 hin
                    go_wp2
                    go_ret2
                    exact ⟨by rw [HB.out]; rfl, HJB.out⟩
                  · have hnx : Hid (∀ x ∈ f.t.data.toList.take (j + 1), x ≠ 10) := Lib.hid (by
                      intro y hy
                      rw [List.take_succ_eq_append_getElem (by rw [Array.length_toList]; exact hjl), List.mem_append, List.mem_singleton] at hy
                      rcases hy with hy | hy
                      · exact HT.out y hy
                      · rw [hy]; exact h10)
                    have k10 : ((f.t[j].toNat : Int) == 10) = false := by
                      rw [beq_eq_false_iff_ne]
                      intro e
                      apply h10
                      apply UInt8.toNat_inj.1
                      have : f.t[j].toNat = 10 := by omega
                      rw [this]; rfl
                    obtain ⟨g3, rfl⟩ : ∃ g3, gk = g3 + 1 := ⟨gk - 1, by omega⟩
                    clear h10
                    go_wp2
                    go_roundg g3
                    case measure => omega
                    case rel => exact ⟨j + 1, by omega, by omega, by omega, by go_num, hnx, HV⟩
                · obtain rfl : j = f.t.size := by omega
                  have hok : okF p f = true := by
                    have ht := HT.out
                    rw [List.take_of_length_le (by rw [Array.length_toList]; exact Nat.le_refl _)] at ht
                    rw [HOk.out, decide_eq_false (ten_out _ ht)]
                    rfl
                  have HNX := Lib.hid (HNext.out hok)
                  have henc : Utf8.encode f.c = ⟨#[f.c.toNat.toUInt8]⟩ := encode_cap f.c hc
                  have hfw : fieldW f = (((⟨#[37]⟩ ++ ⟨#[f.c.toNat.toUInt8]⟩) ++ ⟨#[32]⟩) ++ f.t) ++ ⟨#[10]⟩ := by rw [← henc]; rfl
                  have hcb := cap_bounds hc
                  obtain ⟨g3, rfl⟩ : ∃ g3, gk = g3 + 1 := ⟨gk - 1, by omega⟩
                  have m0 : U.size + 1 ≤ 9223372036854775807 := by omega
                  have m1 : U.size + 1 + 1 ≤ 9223372036854775807 := by omega
                  have m2 : U.size + 1 + 1 + 1 ≤ 9223372036854775807 := by omega
                  have m3 : U.size + 1 + 1 + 1 + f.t.size ≤ 9223372036854775807 := by omega
                  have m4 : U.size + 1 + 1 + 1 + f.t.size + 1 ≤ 9223372036854775807 := by omega
                  have hcv := conv_byte f.c wr
                  have v1'' := (((Below.refl wr.heap.size wr).alloc (Nat.le_refl _) (.cells #[.int .u8 f.c] 5)).cell (p := ⟨x, 1, none⟩) (by have := HV.out.size; show x < _; omega)).trans v1'
                  clear hok henc HT
                  go_wp2
                  go_roundg g3
                  case measure => omega
                  case rel => exact ⟨k + 1, by omega, by omega, by omega, by rw [HJN.out, hfw]; simp [ByteArray.append_assoc], by go_num, HNX, Lib.hid (HJB.out.alloc HJB.out.size _)⟩
          · obtain rfl : k = r.length := by omega
            rw [List.drop_length, List.take_length] at HF
            rw [List.take_length]
            have HA2 : Hid ((l.take (i + 1)).all goodB = true) := Lib.hid (by
              rw [HTake.out, List.all_append, HA.out, List.all_cons, List.all_nil, Bool.and_true, Bool.true_and]
              unfold goodB
              rw [← HF.out, decide_eq_true (by omega)]
              rfl)
            obtain ⟨g3, rfl⟩ : ∃ g3, gk = g3 + 1 := ⟨gk - 1, by omega⟩
            clear HF HA
            go_wp2
            go_roundg g3
            case measure => omega
            case rel => exact ⟨i + 1, by omega, by omega, by rw [HTK.out], by go_num, HA2, HBx.out⟩
    · obtain rfl : i = l.length := by omega
      have HA' := Lib.hid (show writeM l = (txt l, 0) by
        have := HA.out
        rw [List.take_length] at this
        unfold writeM
        rw [if_pos this])
      rw [List.take_length]
      clear HA
      go_wp2
      go_ret2
      exact ⟨by rw [HA'.out]; rfl, hb⟩
end Go.Proofs.YtmoloaneidledaaDoor

set_option linter.unusedVariables false
set_option linter.unusedSimpArgs false
namespace Go.Proofs.YtmoloaneidledaaDoor
open Go.Shelf Go.RowKit Go.Lib Go.Proofs.YtmoloaneidledaaDoor.Pdata Go.Proofs.YtmoloaneidledaaDoorW.PrintWords

theorem recs_58 {w : World} {A : Option Addr} {l : List (List Fld)} (h : Kd.C (Kd.slice 58 k58) w A l.length (l.map (List.map c58))) : Recs w.heap.size w A l := fun m hm => by
  have h' : Kd.C (Kd.slice 58 k58) w A (l.map (List.map c58)).length (l.map (List.map c58)) := by rw [List.length_map]; exact h
  obtain ⟨b, off, hA, hb, hc⟩ := Opens.C_at h' (by show 0 < 1; omega) (by rw [List.length_map]; omega)
  obtain ⟨c, _, hk, hcell⟩ := hc m (by rw [List.length_map]; exact hm)
  rw [List.getElem_map] at hk
  obtain ⟨A6, c6, e, l6, g6⟩ := hk
  subst e
  have h0 := hcell 0 _ rfl
  rw [show m * (Kd.slice 58 k58).sz = m from Nat.mul_one m, List.length_map] at h0
  rw [List.length_map] at l6
  refine ⟨b, off, A6, c6, hA, hb, h0, l6, fun k hk => ?_⟩
  obtain ⟨b2, off2, hA2, hb2, hc2⟩ := Opens.C_at g6 (by show 0 < 2; omega) (by rw [List.length_map]; omega)
  obtain ⟨c2, _, hk2, hcell2⟩ := hc2 k (by rw [List.length_map]; exact hk)
  obtain rfl := k58_open hk2
  rw [List.getElem_map] at hcell2
  exact ⟨b2, off2, hA2, hb2, hcell2 0 _ rfl, hcell2 1 _ rfl⟩
theorem recs_69 {w : World} {A : Option Addr} {l : List (List Fld)} (h : Kd.C (Kd.slice 69 k69) w A l.length (l.map (List.map c69))) : Recs w.heap.size w A l := fun m hm => by
  have h' : Kd.C (Kd.slice 69 k69) w A (l.map (List.map c69)).length (l.map (List.map c69)) := by rw [List.length_map]; exact h
  obtain ⟨b, off, hA, hb, hc⟩ := Opens.C_at h' (by show 0 < 1; omega) (by rw [List.length_map]; omega)
  obtain ⟨c, _, hk, hcell⟩ := hc m (by rw [List.length_map]; exact hm)
  rw [List.getElem_map] at hk
  obtain ⟨A6, c6, e, l6, g6⟩ := hk
  subst e
  have h0 := hcell 0 _ rfl
  rw [show m * (Kd.slice 69 k69).sz = m from Nat.mul_one m, List.length_map] at h0
  rw [List.length_map] at l6
  refine ⟨b, off, A6, c6, hA, hb, h0, l6, fun k hk => ?_⟩
  obtain ⟨b2, off2, hA2, hb2, hc2⟩ := Opens.C_at g6 (by show 0 < 2; omega) (by rw [List.length_map]; omega)
  obtain ⟨c2, _, hk2, hcell2⟩ := hc2 k (by rw [List.length_map]; exact hk)
  obtain rfl := k69_open hk2
  rw [List.getElem_map] at hcell2
  exact ⟨b2, off2, hA2, hb2, hcell2 0 _ rfl, hcell2 1 _ rfl⟩

/-- Records of which the sum of the sizes is a number. -/
def Sized (l : List (List Fld)) : Prop := l.length ≤ 1048576 ∧ ∀ r ∈ l, r.length ≤ 1048576 ∧ ∀ f ∈ r, f.t.size ≤ 1048576
theorem sumR_sized (r : List Fld) (h : ∀ f ∈ r, f.t.size ≤ 1048576) : sumR r ≤ r.length * 1048578 := by
  induction r with
  | nil => exact Nat.zero_le _
  | cons f r ih =>
    have e : sumR (f :: r) = 2 + f.t.size + sumR r := by unfold sumR; rw [List.map_cons, List.sum_cons]
    have h1 := h f (by simp)
    have h2 := ih fun g hg => h g (by simp [hg])
    rw [e, List.length_cons, Nat.add_mul]
    omega
theorem sumL_sized (l : List (List Fld)) (h : ∀ r ∈ l, r.length ≤ 1048576 ∧ ∀ f ∈ r, f.t.size ≤ 1048576) : sumL l ≤ l.length * 1200000000000 := by
  induction l with
  | nil => exact Nat.zero_le _
  | cons r l ih =>
    have e : sumL (r :: l) = 2 + sumR r + sumL l := by unfold sumL; rw [List.map_cons, List.sum_cons]
    obtain ⟨h1, h3⟩ := h r (by simp)
    have h2 := ih fun g hg => h g (by simp [hg])
    have h4 := sumR_sized r h3
    have h5 := Nat.mul_le_mul_right 1048578 h1
    rw [e, List.length_cons, Nat.add_mul]
    omega
theorem Sized.sum {l : List (List Fld)} (h : Sized l) : sumL l ≤ 1300000000000000000 := by
  have h1 := sumL_sized l h.2
  have h2 := Nat.mul_le_mul_right 1200000000000 h.1
  omega
def heavyM (l : List (List Fld)) : Bool := decide (3000 < sumL l) || decide (60 < l.length)
theorem light_of {l : List (List Fld)} (h : heavyM l = false) : Light l := by
  unfold heavyM at h
  simp only [Bool.or_eq_false_iff, decide_eq_false_iff_not] at h
  exact ⟨by omega, by omega⟩
set_option maxRecDepth 100000 in
set_option maxHeartbeats 4000000 in
theorem heavy_calls (A : Option Addr) (cap : Nat) (l : List (List Fld)) (hl : Sized l) (w : World) (hI : Recs w.heap.size w A l) :
    Calls Tryd.prog 9 #[.slice A l.length cap] w fun e w' => e = .returned (.bool (heavyM l)) ∧ Below w.heap.size w w' := by
  have hlen := hl.1
  have hsum := hl.sum
  have HL := Lib.hid hl
  have HI := Lib.hid hI
  clear hI hl
  go_enter Tryd.func9, Tryd.ntmps9
  go_wp2
  go_loopg [3, 4] (sumL l + 1) (fun gk s3 s4 wx => ∃ i n : Nat, i ≤ l.length ∧ sumL (l.drop i) + 1 ≤ gk ∧ s3 = .int .i64 n ∧ s4 = .int .i64 i ∧ n + sumL (l.drop i) = sumL l ∧ Below w.heap.size w wx)
  case atStart => exact ⟨0, 0, Nat.zero_le _, by rw [List.drop_zero]; exact Nat.le_refl _, rfl, rfl, by rw [List.drop_zero, Nat.zero_add], Below.refl _ _⟩
  case round =>
    obtain ⟨i, n, hi, hk, rfl, rfl, hn, hb⟩ := hrel
    by_cases hil : i < l.length
    · have hnd := sumL_drop l i hil
      obtain ⟨b, off, A', c', rfl, hbl, c0, cc, c1⟩ := HI.out i hil
      have hrow := (HL.out.2 l[i] (List.getElem_mem hil)).1
      obtain ⟨r, hr⟩ : ∃ r, l[i] = r := ⟨_, rfl⟩
      rw [hr] at c0 c1 cc hnd hrow
      have HRow := Lib.hid c1
      clear hr c1
      obtain ⟨g1, rfl⟩ : ∃ g1, gk = g1 + 1 := ⟨gk - 1, by omega⟩
      go_wp2
      go_loopg [3, 5] g1 (fun gk s3 s5 wx => ∃ k m : Nat, k ≤ r.length ∧ sumR (r.drop k) + 1 + sumL (l.drop (i + 1)) + 1 ≤ gk ∧ gk ≤ g1 ∧ s3 = .int .i64 m ∧ s5 = .int .i64 k ∧ m + sumR (r.drop k) + sumL (l.drop (i + 1)) = sumL l ∧ Below w.heap.size w wx)
      case atStart => exact ⟨0, n + 2, Nat.zero_le _, by rw [List.drop_zero]; omega, Nat.le_refl _, by go_num, rfl, by rw [List.drop_zero]; omega, hb⟩
      case round =>
        clear hb
        obtain ⟨k, m, hk', hk2, hk3, rfl, rfl, hm, hbx⟩ := hrel
        have c0x := (hbx.cell (p := ⟨b, off + i, none⟩) hbl).trans c0
        by_cases hkl : k < r.length
        · obtain ⟨b2, off2, rfl, hbl2, d0, d1⟩ := (HRow.out.below hbx) k hkl
          have hnd2 := sumR_drop r k hkl
          obtain ⟨f, hf⟩ : ∃ f, r[k] = f := ⟨_, rfl⟩
          rw [hf] at d0 d1 hnd2
          clear hf
          obtain ⟨g3, rfl⟩ : ∃ g3, gk = g3 + 1 := ⟨gk - 1, by omega⟩
          go_wp2
          go_roundg g3
          case measure => omega
          case rel => exact ⟨k + 1, m + 2 + f.t.size, by omega, by omega, by omega, by go_num, by go_num, by omega, hbx⟩
        · obtain rfl : k = r.length := by omega
          have e0 : sumR (r.drop r.length) = 0 := by rw [List.drop_length]; rfl
          obtain ⟨g3, rfl⟩ : ∃ g3, gk = g3 + 1 := ⟨gk - 1, by omega⟩
          go_wp2
          go_roundg g3
          case measure => omega
          case rel => exact ⟨i + 1, m, by omega, by omega, by go_num, by go_num, by omega, hbx⟩
    · obtain rfl : i = l.length := by omega
      have e0 : sumL (l.drop l.length) = 0 := by rw [List.drop_length]; rfl
      obtain rfl : n = sumL l := by omega
      clear hn e0
      by_cases h1 : 3000 < sumL l
      · have HH : Hid (heavyM l = true) := Lib.hid (by unfold heavyM; rw [decide_eq_true h1]; rfl)
        have d1 : decide ((3000 : Int) < (sumL l : Int)) = true := decide_eq_true (by omega)
        go_wp2
        go_ret
        exact ⟨by rw [HH.out]; rfl, hb⟩
      · have HH : Hid (heavyM l = decide (60 < l.length)) := Lib.hid (by unfold heavyM; rw [decide_eq_false h1]; rfl)
        have d1 : decide ((3000 : Int) < (sumL l : Int)) = false := decide_eq_false (by omega)
        go_wp2
        go_ret
        exact ⟨by rw [HH.out]; simp; omega, hb⟩
end Go.Proofs.YtmoloaneidledaaDoor

set_option linter.unusedVariables false
set_option linter.unusedSimpArgs false
namespace Go.Proofs.YtmoloaneidledaaDoor
open Go.Shelf Go.RowKit Go.Lib Go.Proofs.YtmoloaneidledaaDoor.Pdata Go.Proofs.YtmoloaneidledaaDoorW.PrintWords

theorem Recs.later {W W' : World} {A : Option Addr} {l : List (List Fld)} (h : Recs W.heap.size W A l) (hb : Below W.heap.size W W') : Recs W'.heap.size W' A l := (h.below hb).more hb.size
set_option maxRecDepth 100000 in
set_option maxHeartbeats 4000000 in
theorem law4_calls (A : Option Addr) (cap : Nat) (l : List (List Fld)) (hl : Sized l) (hc : l.length ≤ cap) (w : World) (hC : Kd.C (Kd.slice 58 k58) w A l.length (l.map (List.map c58))) :
    Calls Tryd.prog 4 #[.slice A l.length cap] w fun e w' => e = .returned (.bool true) ∧ Below w.heap.size w w' := by
  have hI := recs_58 hC
  have H9 := Lib.hid (heavy_calls A cap l hl w hI)
  have H6 := Lib.hid (fun W => sane_calls W)
  by_cases hh : heavyM l = true
  · rw [hh] at H9
    clear hh hC hI
    go_enter Tryd.func4, Tryd.ntmps4
    go_wp2_with (first | (go_at_call 9; refine H9.out.mono ?_; rintro e w1 ⟨rfl, b1⟩) | (go_at_call 6; refine (H6.out _).mono ?_; rintro e w2 ⟨rfl, b2⟩))
    go_ret
    exact ⟨rfl, b1.trans (b2.mono b1.size)⟩
  have hh' : heavyM l = false := by simpa using hh
  rw [hh'] at H9
  have hlt := light_of hh'
  have hD : l.length ≤ 500 := by have := hlt.1; omega
  have hR : ∀ r ∈ l, r.length ≤ 1000000 := fun r hr => by have := hlt.rows r hr; omega
  have H10 := Lib.hid (fun W (h : Recs W.heap.size W A l) => write_calls A cap l hlt W h)
  have H11 := Lib.hid (fun B b W (h : Recs W.heap.size W B l) => rwrite_calls B b l hlt W h)
  have H12 := Lib.hid (fun A c W hc hC => as_calls l hD hR A c W hc hC)
  have HI := Lib.hid hI
  have HC := Lib.hid hC
  have HL := Lib.hid hlt
  clear hh hh' hI hC
  by_cases hg : l.all goodB = true
  · have hw : writeM l = (txt l, 0) := by unfold writeM; rw [if_pos hg]
    rw [hw] at H10 H11
    have hdt := data_txt l hg hD
    have htz : (txt l).size ≤ 900000 := by
      have := txt_size l
      have := hlt.2
      omega
    have P13 := fun W => prog_calls (txt l) htz W
    rw [hdt] at P13
    have H13 := Lib.hid P13
    have H14 := Lib.hid (fun A B c b W hc hb hC hC' => same_calls l hD hR A B c b W hc hb hC hC')
    clear P13 hdt htz hw hg hlt hR
    obtain ⟨T, hT⟩ : ∃ T, txt l = T := ⟨_, rfl⟩
    rw [hT] at H10 H11 H13
    clear hT
    go_enter Tryd.func4, Tryd.ntmps4
    go_wp2_with (first
      | (go_at_call 9; refine H9.out.mono ?_; rintro e w1 ⟨rfl, b1⟩; clear H9; have B1 := b1)
      | (go_at_call 10; refine (H10.out _ (HI.out.later B1)).mono ?_; rintro e w2 ⟨rfl, b2⟩; clear H10; have B2 := B1.trans (b2.mono B1.size))
      | (go_at_call 12; go_loud (first
        | (with_reducible refine (H12.out _ _ _ hc (Kd.C_below HC.out B2)).mono ?_; rintro e w3 ⟨⟨G, g, rfl, hgc, hC3⟩, b3⟩; have B3 := B2.trans (b3.mono B2.size); clear B2)
        | (with_reducible refine (H12.out _ _ _ hxc (Kd.C_below hC5 (Below.refl _ _))).mono ?_; rintro e w6 ⟨⟨Y, y, rfl, hyc, hC6⟩, b6⟩; have B6 := B5.trans (b6.mono B5.size); clear hC5)
        | (with_reducible refine (H12.out _ _ _ hc (Kd.C_below HC.out B6)).mono ?_; rintro e w7 ⟨⟨Z, z, rfl, hzc, hC7⟩, b7⟩; have B7 := B6.trans (b7.mono B6.size))))
      | (go_at_call 11; refine (H11.out _ _ _ (recs_69 hC3)).mono ?_; rintro e w4 ⟨rfl, b4⟩; have B4 := B3.trans (b4.mono B3.size))
      | (go_at_call 13; refine (H13.out _).mono ?_; rintro e w5 ⟨⟨X, x, rfl, hxc, hC5⟩, b5⟩; have B5 := B4.trans (b5.mono B4.size))
      | (go_at_call 14; refine (H14.out _ _ _ _ _ hyc hzc (Kd.C_below hC6 b7) hC7).mono ?_; rintro e w8 ⟨rfl, b8⟩; have B8 := B7.trans (b8.mono B7.size))
      | (go_at_call 6; refine (H6.out _).mono ?_; rintro e w9 ⟨rfl, b9⟩))
    go_ret
    exact ⟨rfl, B8.trans (b9.mono B8.size)⟩
  · have hw : writeM l = (⟨#[]⟩, 1) := by unfold writeM; rw [if_neg hg]
    rw [hw] at H10 H11
    clear hw hg hlt hR
    go_enter Tryd.func4, Tryd.ntmps4
    go_wp2_with (first
      | (go_at_call 9; refine H9.out.mono ?_; rintro e w1 ⟨rfl, b1⟩; clear H9; have B1 := b1)
      | (go_at_call 10; refine (H10.out _ (HI.out.later B1)).mono ?_; rintro e w2 ⟨rfl, b2⟩; clear H10; have B2 := B1.trans (b2.mono B1.size))
      | (go_at_call 12; refine (H12.out _ _ _ hc (Kd.C_below HC.out B2)).mono ?_; rintro e w3 ⟨⟨G, g, rfl, hgc, hC3⟩, b3⟩; have B3 := B2.trans (b3.mono B2.size); clear B2)
      | (go_at_call 11; refine (H11.out _ _ _ (recs_69 hC3)).mono ?_; rintro e w4 ⟨rfl, b4⟩; have B4 := B3.trans (b4.mono B3.size))
      | (go_at_call 6; refine (H6.out _).mono ?_; rintro e w9 ⟨rfl, b9⟩))
    go_ret
    exact ⟨rfl, B4.trans (b9.mono B4.size)⟩
end Go.Proofs.YtmoloaneidledaaDoor

set_option linter.unusedVariables false
set_option linter.unusedSimpArgs false
namespace Go.Proofs.YtmoloaneidledaaDoor.BOpens
open Go Go.RowKit Go.ChangeShapes Go.WideShapes Go.Opens Go.Proofs.YtmoloaneidledaaDoorW.PrintWords
variable {P : Program}
theorem one_le {H : Type} (d : DataW H) : 1 ≤ Rows.uptoBulk d := by
  cases d with
  | lit l => cases l <;> simp [Rows.uptoBulk]
  | nil => simp [Rows.uptoBulk]
  | ptr d => simp [Rows.uptoBulk]
  | slice elems spare => simp [Rows.uptoBulk]
  | agg parts => simp [Rows.uptoBulk]
  | iface t d => simp [Rows.uptoBulk]
  | map entries => simp [Rows.uptoBulk]
  | held h => simp [Rows.uptoBulk]
theorem length_le {H : Type} (l : List (DataW H)) : l.length ≤ Rows.uptoBulkAll l := by
  induction l with
  | nil => simp [Rows.uptoBulkAll]
  | cons x r ih => have := one_le x; simp only [Rows.uptoBulkAll, List.length_cons]; omega
/-- The same as 'slice', with the length. -/
theorem BOpens.sliceN {N : Nat} {t e : TypeId} {α : Type} {d : Kd α} {wf : α → Prop} (he : BOpens P N e d wf) (ht : P.underlying t = some (.slice e)) (hs : P.cellsOf t = 1) :
    BOpens P N t (Kd.slice e d) (fun l => l.length ≤ N ∧ ∀ a ∈ l, wf a) := by
  refine ⟨hs, fun {H enc w base sp held fuel cs x} h hbk => ?_⟩
  obtain ⟨l, hK, _, hw⟩ := (BOpens.slice he ht hs).opens h hbk
  refine ⟨l, hK, ?_, hw⟩
  obtain ⟨A, c, hcs, _⟩ := hK
  rcases Go.Deep.open_slice ht h with ⟨hv, _⟩ | ⟨a, len, cap, m, n, D, Pl, hv, hb, hlc, hcap, hm, hx0, hel⟩
  · have hcs := hv.symm.trans hcs
    injection hcs with e1 e2
    injection e1 with e1 e3 e4
    omega
  · have hcs := hv.symm.trans hcs
    injection hcs with e1 e2
    injection e1 with e1 e3 e4
    rw [hx0] at hbk
    simp only [Rows.uptoBulk] at hbk
    have := length_le ((List.range len).map D)
    rw [List.length_map, List.length_range] at this
    omega
/-- A parameter that is a slice, with its length. -/
theorem open_rowN {N : Nat} {t e : TypeId} {α : Type} {d : Kd α} {wf : α → Prop} (he : BOpens P N e d wf) (ht : P.underlying t = some (.slice e)) (hs : P.cellsOf t = 1) {H : Type} {enc : TypeId × Value → H} {w : World} {base : Nat} {sp : Nat → Bool} {held : Bool} {v : Value} {x : DataW H} {ps : List MemPlace}
    (h : DataW.Trod enc P w base sp held t v x ps) (hb : Rows.uptoBulk x ≤ N) (hv : ∃ a n c, v = .slice a n c) : ∃ A c l, v = .slice A l.length c ∧ l.length ≤ c ∧ l.length ≤ N ∧ d.C w A l.length l ∧ ∀ a ∈ l, wf a := by
  obtain ⟨fuel, hf⟩ := h
  obtain ⟨l, ⟨A, c, h1, h2, h3⟩, h4, h5⟩ := (BOpens.sliceN he ht hs).opens hf hb
  obtain ⟨a0, n0, c0, rfl⟩ := hv
  simp [Value.cells] at h1
  obtain ⟨rfl, rfl, rfl⟩ := h1
  exact ⟨_, _, l, rfl, h2, h4, h3, h5⟩
end Go.Proofs.YtmoloaneidledaaDoor.BOpens
namespace Go.Proofs.YtmoloaneidledaaDoor
open Go.RowKit Go.Opens Go.Lib BOpens Go.Proofs.YtmoloaneidledaaDoor.Pdata Go.Proofs.YtmoloaneidledaaDoorW.PrintWords

def wfSB (s : ByteArray) : Prop := s.size ≤ maxLen ∧ s.size ≤ 1048576
theorem b5 : BOpens Tryd.prog 1048576 5 (Kd.int .u8) (fun n => (Lit.int .u8 n).wf = true) := BOpens.of (Opens.int Tryd.underlying5 (by kernel_rfl))
theorem b9 : BOpens Tryd.prog 1048576 9 Kd.string wfSB := BOpens.string Tryd.underlying9 (by kernel_rfl)
theorem b58 : BOpens Tryd.prog 1048576 58 k58 (fun p => (Lit.int .u8 p.f0).wf = true ∧ wfSB p.f1) :=
  BOpens.iso (BOpens.struct (d := Kd.pair (Kd.int .u8) Kd.string) Tryd.underlying58 (by kernel_rfl) (BFields.cons b5 rfl (BFields.one b9 rfl))) (fun x : S58 => (x.f0, x.f1)) (fun p => ⟨p.1, p.2⟩) (fun _ => rfl)
def wfR (r : List S58) : Prop := r.length ≤ 1048576 ∧ ∀ p ∈ r, (Lit.int .u8 p.f0).wf = true ∧ wfSB p.f1
theorem b42 : BOpens Tryd.prog 1048576 42 (Kd.slice 58 k58) wfR := BOpens.sliceN b58 Tryd.underlying42 (by kernel_rfl)
def unS (p : S58) : Fld := ⟨p.f0, p.f1⟩
theorem un_map (l : List (List S58)) : (l.map (List.map unS)).map (List.map c58) = l := by
  rw [List.map_map]
  conv => rhs; rw [← List.map_id l]
  apply List.map_congr_left
  intro r _
  show (r.map unS).map c58 = r
  rw [List.map_map]
  conv => rhs; rw [← List.map_id r]
  apply List.map_congr_left
  intro p _
  rfl
theorem law4_at (A : Option Addr) (c : Nat) (l : List (List S58)) (hc : l.length ≤ c) (hn : l.length ≤ 1048576) (hw : ∀ r ∈ l, wfR r) (w : World) (hC : Kd.C (Kd.slice 58 k58) w A l.length l) :
    Calls Tryd.prog 4 #[.slice A l.length c] w fun e w' => e = .returned (.bool true) ∧ Below w.heap.size w w' := by
  have hl : (l.map (List.map unS)).length = l.length := List.length_map _
  have h := law4_calls A c (l.map (List.map unS)) ⟨by omega, fun r hr => by
    obtain ⟨q, hq, rfl⟩ := List.mem_map.1 hr
    refine ⟨by rw [List.length_map]; exact (hw q hq).1, fun f hf => ?_⟩
    obtain ⟨p, hp, rfl⟩ := List.mem_map.1 hf
    exact ((hw q hq).2 p hp).2.2⟩ (by omega) w (by rw [un_map, hl]; exact hC)
  rw [hl] at h
  exact h
end Go.Proofs.YtmoloaneidledaaDoor

/- Maps that a program fills: a key laid anew, or over an old one. -/
import Derived.Test.YtnmlpeblbppjbaaMapLit
set_option linter.unusedVariables false
set_option linter.unusedSimpArgs false
namespace Go.MapLit
open Go.RowKit

section
variable {P : Program} {α β : Type} (encK : α → Value) (encV : β → Value)
/-- A key laid: over the old one, or behind all. -/
def upd [DecidableEq α] : List (α × β) → α → β → List (α × β)
  | [], k, v => [(k, v)]
  | p :: l, k, v => if k = p.1 then (k, v) :: l else p :: upd l k v
theorem find_cons [DecidableEq α] (p : α × β) (l : List (α × β)) (k : α) : find (p :: l) k = if k = p.1 then some p.2 else find l k := by
  unfold find
  by_cases h : k = p.1
  · rw [List.find?_cons_of_pos (by simpa using h), if_pos h]; rfl
  · rw [List.find?_cons_of_neg (by simpa using h), if_neg h]
theorem upd_new [DecidableEq α] (k : α) (v : β) : ∀ l : List (α × β), find l k = none → upd l k v = l ++ [(k, v)]
  | [], _ => rfl
  | p :: l, h => by
    rw [find_cons] at h
    by_cases e : k = p.1
    · rw [if_pos e] at h; cases h
    · rw [if_neg e] at h
      rw [upd, if_neg e, upd_new k v l h]; rfl
theorem find_upd [DecidableEq α] (k j : α) (v : β) : ∀ l : List (α × β), find (upd l k v) j = if j = k then some v else find l j
  | [] => by
    rw [upd, find_cons]
  | p :: l => by
    rw [upd]
    by_cases e : k = p.1
    · rw [if_pos e, find_cons, find_cons]
      by_cases q : j = k
      · rw [if_pos q, if_pos q]
      · rw [if_neg q, if_neg q, if_neg (fun h => q (h.trans e.symm))]
    · rw [if_neg e, find_cons, find_cons, find_upd k j v l]
      by_cases q : j = p.1
      · rw [if_pos q, if_pos q, if_neg (fun h => e (h.symm.trans q))]
      · rw [if_neg q, if_neg q]
theorem keys_upd [DecidableEq α] (k : α) (v : β) : ∀ l : List (α × β), (upd l k v).map (·.1) = if find l k = none then l.map (·.1) ++ [k] else l.map (·.1)
  | [] => rfl
  | p :: l => by
    rw [upd, find_cons]
    by_cases e : k = p.1
    · rw [if_pos e, if_pos e, if_neg (by simp), List.map_cons, List.map_cons, ← e]
    · rw [if_neg e, if_neg e, List.map_cons, keys_upd k v l, List.map_cons]
      split <;> rfl
theorem upd_set [DecidableEq α] (kd : TypeDesc) (hkd : ∀ x y, Instr.sameNow kd (encK x) (encK y) = some (decide (x = y))) (k : α) (v : β) : ∀ (l : List (α × β)) (i n : Nat), find l k ≠ none →
    ∃ (j : Nat) (v0 : β), l[j]? = some (k, v0) ∧ Instr.findNow kd (encK k) ((l.zipIdx n).map fun p => (⟨encK p.1.1, encV p.1.2, p.2⟩ : MapEntry)) i = some (some (i + j, encV v0)) ∧ upd l k v = l.set j (k, v)
  | [], i, n, h => absurd rfl h
  | p :: l, i, n, h => by
    rw [find_cons] at h
    simp only [List.zipIdx_cons, List.map_cons, Instr.findNow, hkd]
    by_cases e : k = p.1
    · refine ⟨0, p.2, ?_, ?_, ?_⟩
      · show some p = some (k, p.2); rw [e]
      · simp [e]
      · rw [upd, if_pos e]; rfl
    · rw [if_neg e] at h
      obtain ⟨j, v0, h1, h2, h3⟩ := upd_set kd hkd k v l (i + 1) (n + 1) h
      refine ⟨j + 1, v0, h1, ?_, ?_⟩
      · simp only [e, decide_false]
        rw [h2, show i + 1 + j = i + (j + 1) by omega]
      · rw [upd, if_neg e, h3]; rfl
theorem litEs_get (l : List (α × β)) (i : Nat) : (litEs encK encV l)[i]? = l[i]?.map fun p => (⟨encK p.1, encV p.2, i⟩ : MapEntry) := by
  unfold litEs
  rw [List.getElem?_toArray, List.getElem?_map, List.getElem?_zipIdx]
  cases l[i]? <;> simp
theorem litEs_set (l : List (α × β)) (j : Nat) (k : α) (v : β) : ((litEs encK encV l).modify j fun e => { e with key := encK k, val := encV v }) = litEs encK encV (l.set j (k, v)) := by
  apply Array.ext_getElem?
  intro i
  rw [Array.getElem?_modify, litEs_get, litEs_get, List.getElem?_set]
  by_cases h : j = i
  · subst h
    rw [if_pos rfl, if_pos rfl]
    by_cases hj : j < l.length
    · rw [if_pos hj, List.getElem?_eq_getElem hj]; rfl
    · rw [if_neg hj, List.getElem?_eq_none (by omega)]; rfl
  · rw [if_neg h, if_neg h]
/-- The world with a block's map laid anew. -/
def laid (w : World) (b : Nat) (l : List (α × β)) : World := { w with heap := w.heap.setIfInBounds b (.map (litEs encK encV l) l.length) }
theorem run_put [DecidableEq α] {t K E : TypeId} (hk : KeyLit P K encK) (ht : P.underlying t = some (.map K E)) (l : List (α × β)) (k : α) (v : β) {w : World} {b : Nat} (hb : MapIs encK encV w b l) :
    (Instr.mapUpdate t (.map (some b)) (encK k) (encV v)).run P w = .ok () (laid encK encV w b (upd l k v)) := by
  obtain ⟨kd, h1, h2⟩ := hk.kind
  have hb' : w.heap[b]? = some (.map (litEs encK encV l) l.length) := hb
  have hget : (getObj b).run P w = .ok (.map (litEs encK encV l) l.length) w := by
    simp [getObj, Sem.run, hb']
  by_cases hnew : find l k = none
  · obtain ⟨r, h3, _, h4⟩ := findNow_lit encK encV kd h2 k l
    have hr : r = none := h4.2 hnew
    subst hr
    simp only [Instr.mapUpdate, Sem.run_bind, run_underlying ht, Result.andThen, hget, hk.check, Instr.findKey, run_underlying h1, h3, Sem.run_pure]
    simp only [setObj, Sem.run, hb']
    rw [litEs_push, upd_new k v l hnew]
    unfold laid
    rw [List.length_append]
    rfl
  · obtain ⟨j, v0, h3, h4, h5⟩ := upd_set encK encV kd h2 k v l 0 0 hnew
    have h4' : Instr.findNow kd (encK k) (litEs encK encV l).toList 0 = some (some (0 + j, encV v0)) := h4
    have hkey : ((litEs encK encV l)[j]?).map (·.key) = some (encK k) := by
      rw [litEs_get, h3]; rfl
    simp only [Instr.mapUpdate, Sem.run_bind, run_underlying ht, Result.andThen, hget, hk.check, Instr.findKey, run_underlying h1, h4', Sem.run_pure, Nat.zero_add, hkey, Option.getD_some, Instr.keyThatStays, hk.same, if_true]
    simp only [setObj, Sem.run, hb']
    rw [litEs_set, h5]
    unfold laid
    rw [List.length_set]
theorem MapIs.laid {w : World} {b : Nat} {l : List (α × β)} (h : MapIs encK encV w b l) (l' : List (α × β)) : MapIs encK encV (laid encK encV w b l') b l' := by
  unfold MapIs Go.MapLit.laid
  have hb : b < w.heap.size := by
    unfold MapIs at h
    rw [Array.getElem?_eq_some_iff] at h; exact h.1
  show (w.heap.setIfInBounds b _)[b]? = _
  rw [Array.getElem?_setIfInBounds, if_pos rfl, if_pos hb]
theorem laid_other (w : World) (b k : Nat) (l : List (α × β)) (h : k ≠ b) : (laid encK encV w b l).heap[k]? = w.heap[k]? := by
  show (w.heap.setIfInBounds b _)[k]? = _
  rw [Array.getElem?_setIfInBounds, if_neg (fun e => h e.symm)]
theorem laid_below {base : Nat} {w0 w : World} {b : Nat} (h : Below base w0 w) (hb : base ≤ b) (l : List (α × β)) : Below base w0 (laid encK encV w b l) :=
  ⟨h.os, h.tape, h.output, by show w0.heap.size ≤ _; rw [show (laid encK encV w b l).heap.size = w.heap.size from Array.size_setIfInBounds]; exact h.size, fun k hk => (laid_other encK encV w b k l (by omega)).trans (h.block k hk)⟩
end
end Go.MapLit

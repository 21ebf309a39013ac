/- Maps that a literal makes: what their operations do, in the machine's own terms. -/
import Derived.WalkKit
import Derived.Maps.RangeRun
import Derived.Maps.RangeWalk
set_option linter.unusedVariables false
set_option linter.unusedSimpArgs false
namespace Go.MapLit
open Go.RowKit
open Go.ChangeMaps (setBlock)

/-- Keys of one kind: how they are compared. -/
structure KeyLit (P : Program) (K : TypeId) {α : Type} [DecidableEq α] (encK : α → Value) : Prop where
  kind : ∃ kd, P.underlying K = some kd ∧ ∀ x y, Instr.sameNow kd (encK x) (encK y) = some (decide (x = y))
  check : ∀ e x w, (Instr.checkKey e 10000 K (encK x)).run P w = .ok () w
  same : ∀ x, Instr.sameBits 10000 (encK x) (encK x) = true

theorem KeyLit.string {P : Program} {K : TypeId} (h : P.underlying K = some .string) : KeyLit P K Value.string := by
  refine ⟨⟨_, h, fun x y => ?_⟩, fun e x w => ?_, fun x => ?_⟩
  · simp only [Instr.sameNow]
    congr 1
    rw [Bool.eq_iff_iff, MapKept.bytes_beq]; simp
  · rw [show (10000 : Nat) = 9999 + 1 from rfl, Instr.checkKey]
    simp [run_underlying h, Result.andThen]
  · simp only [Instr.sameBits]; exact (MapKept.bytes_beq x x).2 rfl
theorem KeyLit.int {P : Program} {K : TypeId} {k : IntKind} (h : P.underlying K = some (.int k)) : KeyLit P K (Value.int k) := by
  refine ⟨⟨_, h, fun x y => ?_⟩, fun e x w => ?_, fun x => ?_⟩
  · simp only [Instr.sameNow, if_true]
    congr 1
  · rw [show (10000 : Nat) = 9999 + 1 from rfl, Instr.checkKey]
    simp [run_underlying h, Result.andThen]
  · simp [Instr.sameBits]

section
variable {P : Program} {α β : Type} (encK : α → Value) (encV : β → Value)

/-- The entries of a literal, in the order of its text. -/
def litEs (l : List (α × β)) : Array MapEntry := (l.zipIdx.map fun p => (⟨encK p.1.1, encV p.1.2, p.2⟩ : MapEntry)).toArray
/-- Block b is the map of these pairs. -/
def MapIs (w : World) (b : Nat) (l : List (α × β)) : Prop := w.heap[b]? = some (.map (litEs encK encV l) l.length)

theorem litEs_push (l : List (α × β)) (k : α) (v : β) : (litEs encK encV l).push ⟨encK k, encV v, l.length⟩ = litEs encK encV (l ++ [(k, v)]) := by
  simp [litEs, List.zipIdx_append]

def find [DecidableEq α] (l : List (α × β)) (k : α) : Option β := (l.find? fun p => decide (k = p.1)).map (·.2)

theorem findNow_zip [DecidableEq α] (kd : TypeDesc) (hkd : ∀ x y, Instr.sameNow kd (encK x) (encK y) = some (decide (x = y))) (k : α) : ∀ (l : List (α × β)) (i n : Nat),
    ∃ r, Instr.findNow kd (encK k) ((l.zipIdx n).map fun p => (⟨encK p.1.1, encV p.1.2, p.2⟩ : MapEntry)) i = some r ∧ r.map (·.2) = (find l k).map encV ∧ (r = none ↔ find l k = none)
  | [], i, n => ⟨none, rfl, rfl, by simp [find]⟩
  | p :: l, i, n => by
    simp only [List.zipIdx_cons, List.map_cons, Instr.findNow, hkd]
    by_cases h : k = p.1
    · refine ⟨some (i, encV p.2), ?_, ?_, ?_⟩ <;> simp [h, find]
    · obtain ⟨r, h1, h2, h3⟩ := findNow_zip kd hkd k l (i + 1) (n + 1)
      refine ⟨r, ?_, ?_, ?_⟩
      · simp [h, h1]
      · simpa [find, h] using h2
      · simpa [find, h] using h3

theorem findNow_lit [DecidableEq α] (kd : TypeDesc) (hkd : ∀ x y, Instr.sameNow kd (encK x) (encK y) = some (decide (x = y))) (k : α) (l : List (α × β)) :
    ∃ r, Instr.findNow kd (encK k) (litEs encK encV l).toList 0 = some r ∧ r.map (·.2) = (find l k).map encV ∧ (r = none ↔ find l k = none) := by
  have := findNow_zip encK encV kd hkd k l 0 0
  simpa [litEs] using this

/-- A new key laid into the map that was just made. -/
theorem run_insert [DecidableEq α] {t K E : TypeId} (hk : KeyLit P K encK) (ht : P.underlying t = some (.map K E)) (l : List (α × β)) (k : α) (v : β) (hnew : find l k = none) (w : World) :
    (Instr.mapUpdate t (.map (some w.heap.size)) (encK k) (encV v)).run P (w.alloc (.map (litEs encK encV l) l.length)) = .ok () (w.alloc (.map (litEs encK encV (l ++ [(k, v)])) (l.length + 1))) := by
  obtain ⟨kd, h1, h2⟩ := hk.kind
  obtain ⟨r, h3, _, h4⟩ := findNow_lit encK encV kd h2 k l
  have hr : r = none := h4.2 hnew
  subst hr
  have hb : (w.alloc (.map (litEs encK encV l) l.length)).heap[w.heap.size]? = some (.map (litEs encK encV l) l.length) := heap_alloc_new w _
  have hget : ∀ W : World, W.heap[w.heap.size]? = some (.map (litEs encK encV l) l.length) → (getObj w.heap.size).run P W = .ok (.map (litEs encK encV l) l.length) W := by
    intro W h
    simp [getObj, Sem.run, h]
  simp only [Instr.mapUpdate, Sem.run_bind, run_underlying ht, Result.andThen, hget _ hb, hk.check, Instr.findKey, run_underlying h1, h3, Sem.run_pure]
  simp only [setObj, Sem.run, hb]
  rw [litEs_push]
  congr 1
  have e : ∀ o : Obj, (w.alloc o).heap = w.heap.push o := fun _ => rfl
  have e2 : ∀ o : Obj, (w.heap.push (.map (litEs encK encV l) l.length)).setIfInBounds w.heap.size o = w.heap.push o := fun o => by
    apply Array.ext_getElem?
    intro i
    rw [Array.getElem?_setIfInBounds, Array.getElem?_push, Array.getElem?_push]
    by_cases h : w.heap.size = i
    · subst h; simp
    · rw [if_neg h, if_neg (fun e => h e.symm), if_neg (fun e => h e.symm)]
  show ({ w.alloc (.map (litEs encK encV l) l.length) with heap := (w.heap.push (.map (litEs encK encV l) l.length)).setIfInBounds w.heap.size _ } : World) = _
  rw [e2]; rfl

theorem run_lookup [DecidableEq α] {t K E : TypeId} (hk : KeyLit P K encK) (ht : P.underlying t = some (.map K E)) {z : Value} (hz : ∀ w, (zeroValue E).run P w = .ok z w) (l : List (α × β)) (k : α) {w : World} {b : Nat} (hb : MapIs encK encV w b l) (ok : Bool) :
    (Instr.lookup t (.map (some b)) (encK k) ok).run P w = .ok (if ok then .tuple #[((find l k).map encV).getD z, .bool (find l k).isSome] else ((find l k).map encV).getD z) w := by
  obtain ⟨kd, h1, h2⟩ := hk.kind
  obtain ⟨r, h3, h5, h4⟩ := findNow_lit encK encV kd h2 k l
  have hget : (getObj b).run P w = .ok (.map (litEs encK encV l) l.length) w := by
    have hb' : w.heap[b]? = some (.map (litEs encK encV l) l.length) := hb
    simp [getObj, Sem.run, hb']
  simp only [Instr.lookup, Sem.run_bind, run_underlying ht, Result.andThen, hget, hk.check, Instr.findKey, run_underlying h1, h3, Sem.run_pure]
  cases hf : find l k with
  | none =>
    have hr : r = none := h4.2 hf
    subst hr
    simp only [Sem.run_bind, hz, Result.andThen, Sem.run_pure, Option.map_none, Option.getD_none, Option.isSome_none]
  | some v =>
    cases r with
    | none => simp [h4.1 rfl] at hf
    | some q =>
      rw [hf] at h5
      simp at h5
      simp only [Sem.run_pure, Option.map_some, Option.getD_some, Option.isSome_some, ← h5]
      cases ok <;> simp

theorem MapIs.below {w w' : World} {b : Nat} {l : List (α × β)} (h : MapIs encK encV w b l) (hb : Below w.heap.size w w') : MapIs encK encV w' b l := by
  have hlt : b < w.heap.size := by
    unfold MapIs at h
    exact (Array.getElem?_eq_some_iff.1 h).1
  exact (hb.block b hlt).trans h
theorem MapIs.made (w : World) (l : List (α × β)) : MapIs encK encV (w.alloc (.map (litEs encK encV l) l.length)) w.heap.size l := heap_alloc_new w _
theorem MapIs.grown {w w' : World} {b : Nat} {l : List (α × β)} (h : MapIs encK encV w b l) {row : Option Nat} (hg : w.grownBy w' row) (hr : some b ≠ row) : MapIs encK encV w' b l := by
  have hlt : b < w.heap.size := by
    unfold MapIs at h
    exact (Array.getElem?_eq_some_iff.1 h).1
  exact (hg.block b hlt hr).trans h

theorem litEs_mem {l : List (α × β)} {e : MapEntry} (h : e ∈ (litEs encK encV l).toList) : ∃ (i : Nat) (hi : i < l.length), e = ⟨encK l[i].1, encV l[i].2, i⟩ := by
  simp only [litEs, List.mem_map] at h
  obtain ⟨⟨p, i⟩, hp, rfl⟩ := h
  have := List.mem_zipIdx' hp
  exact ⟨i, this.1, by simp [this.2]⟩
theorem litEs_at {l : List (α × β)} (i : Nat) (hi : i < l.length) : (⟨encK l[i].1, encV l[i].2, i⟩ : MapEntry) ∈ (litEs encK encV l).toList := by
  simp only [litEs, List.mem_map]
  exact ⟨(l[i], i), List.mk_mem_zipIdx_iff_getElem?.2 (by simp [hi]), rfl⟩
theorem litEs_born (l : List (α × β)) : ((litEs encK encV l).toList.map (·.born)).Nodup := by
  have : ((litEs encK encV l).toList.map (·.born)) = List.range l.length := by
    apply List.ext_getElem
    · simp [litEs]
    · intro i h1 h2
      simp [litEs]
  rw [this]
  exact List.nodup_range

/-- Where a range over the map stands: the iterator's block. -/
def IterIs (w : World) (r b n : Nat) (seen : Array Nat) : Prop := ∃ c0, n ≤ c0 ∧ w.heap[r]? = some (.mapIter (some b) n seen c0)

theorem run_range {t K E : TypeId} (ht : P.underlying t = some (.map K E)) (l : List (α × β)) {w : World} {b : Nat} (hb : MapIs encK encV w b l) :
    (Instr.range t (.map (some b))).run P w = .ok (.pointer (some ⟨w.heap.size, 0, none⟩)) (w.alloc (.mapIter (some b) l.length #[] l.length)) :=
  run_range_map w t K E b _ _ ht hb
theorem IterIs.made (w : World) (b n : Nat) : IterIs (w.alloc (.mapIter (some b) n #[] n)) w.heap.size b n #[] := ⟨n, Nat.le_refl _, heap_alloc_new w _⟩

/-- One step of a range over the map: nothing is left, or one that has not come yet comes. -/
theorem wpList_next_lit {w : World} {ops : Array Oper} {rest : List Oper} {o : Oper} {a : Act} {Q : Exit → Act → World → Prop}
    (hg : o.guard = none) (it : Operand) (hop : o.op = Op.next it false) (l : List (α × β)) (b r : Nat) (seen : Array Nat) (hit : a.eval it = .pointer (some ⟨r, 0, none⟩))
    (hr : IterIs w r b l.length seen) (hb : MapIs encK encV w b l)
    (hDone : (∀ i, i < l.length → seen.contains i = true) → wpList P ops Q rest (a.put o.dst (.tuple #[.bool false])) w)
    (hMore : ∀ (i : Nat) (k : α) (v : β) (w' : World), l[i]? = some (k, v) → seen.contains i = false → IterIs w' r b l.length (seen.push i) → MapIs encK encV w' b l → w.grownBy w' (some r) → w'.heap.size = w.heap.size →
      (Instr.entry (.pointer (some ⟨r, 0, none⟩))).run P w' = .ok (.tuple #[encK k, encV v]) w' → wpList P ops Q rest (a.put o.dst (.tuple #[.bool true, encK k, encV v])) w') :
    wpList P ops Q (o :: rest) a w := by
  obtain ⟨c0, hc0, hr⟩ := hr
  have hold : ∀ x ∈ (litEs encK encV l).toList, x.born < l.length := by
    intro x hx
    obtain ⟨i, hi, rfl⟩ := litEs_mem encK encV hx
    exact hi
  refine wpList_plain hg fun K' hK' => ?_
  unfold Oper.wp
  rcases run_next_at (P := P) w o.type r b l.length c0 seen (litEs encK encV l) l.length hr hb hold hc0 with ⟨h0, hrun⟩ | ⟨e, he, w1, hw1, hrun⟩
  · simp [execOp, hop, hit, hrun, Result.andThen]
    refine hK' _ _ (hDone fun i hi => ?_)
    have := all_seen _ _ h0 _ (litEs_at encK encV i hi)
    exact this
  · obtain ⟨he1, he2⟩ := mem_left he
    obtain ⟨i, hi, rfl⟩ := litEs_mem encK encV he1
    simp [execOp, hop, hit, hrun, Result.andThen]
    have hne : r ≠ b := by
      intro h
      subst h
      have hb' : w.heap[r]? = _ := hb
      rw [hr] at hb'
      cases hb'
    have hr1 : w1.heap[r]? = some (.mapIter (some b) l.length seen c0) := by rcases hw1 with rfl | rfl <;> exact hr
    have hb1 : w1.heap[b]? = some (.map (litEs encK encV l) l.length) := by rcases hw1 with rfl | rfl <;> exact hb
    have hsz : w1.heap.size = w.heap.size := by rcases hw1 with rfl | rfl <;> rfl
    have hlt : r < w1.heap.size := (Array.getElem?_eq_some_iff.1 hr1).1
    have h1 : (setBlock w1 r (.mapIter (some b) l.length (seen.push i) l.length)).heap[r]? = some (.mapIter (some b) l.length (seen.push i) l.length) := by
      simp [setBlock, hlt]
    have h2 : (setBlock w1 r (.mapIter (some b) l.length (seen.push i) l.length)).heap[b]? = some (.map (litEs encK encV l) l.length) := by
      simp only [setBlock, Array.getElem?_setIfInBounds]
      rw [if_neg (by omega)]
      exact hb1
    refine hK' _ _ (hMore i l[i].1 l[i].2 _ (by simp [hi]) he2 ⟨_, Nat.le_refl _, h1⟩ h2 ?_ (by simp [setBlock, hsz]) (run_entry_at _ r b l.length seen _ l.length _ h1 h2 he1 (litEs_born encK encV l)))
    refine ⟨?_, ?_, ?_, ?_, ?_⟩
    · rcases hw1 with rfl | rfl <;> rfl
    · rcases hw1 with rfl | rfl <;> rfl
    · rcases hw1 with rfl | rfl <;> rfl
    · simp [setBlock, hsz]
    · intro k hk hne
      simp only [setBlock, Array.getElem?_setIfInBounds]
      rw [if_neg (by intro h; subst h; exact hne rfl)]
      rcases hw1 with rfl | rfl <;> rfl
end

/-- How many are still to come. -/
def left (n : Nat) (seen : Array Nat) : Nat := ((List.range n).filter fun i => !seen.contains i).length
theorem left_push {n i : Nat} {seen : Array Nat} (hi : i < n) (h : seen.contains i = false) : left n (seen.push i) < left n seen := by
  refine filter_lt (fun j => !seen.contains j) (fun j => !(seen.push i).contains j) ?_ i ?_ ?_ (List.range n) (by simpa using hi)
  · intro x hx
    rw [contains_push] at hx
    cases hc : seen.contains x
    · rfl
    · rw [hc] at hx; simp at hx
  · show (!seen.contains i) = true
    rw [h]; rfl
  · show (!(seen.push i).contains i) = false
    rw [contains_push]; simp
end Go.MapLit

/- Merged: Aids, MapLit, PureA, PureB, WalkA, WalkB, PureC, WalkC, WalkD, WalkE, WalkF, WalkG, WalkH, WalkI, WalkJ, RefA, RefB, RefC, RefD, RefE, RefQ. -/
import Derived.Test.YtaokofnhkojllaaWWords
import Derived.Lib.ConvBytes
import Derived.WalkKit
import Derived.Maps.RangeRun
import Derived.Maps.RangeWalk
import Derived.Shelf.GgClosure.StringsIndexFunc
import Derived.WalkLawsBesides
import Derived.WalkSpells
import Derived.Deep.QuietTactic
import Derived.BigQuiet
import Derived.StillTailTactics
import Derived.LoopTactic
import Derived.LoopN
import Derived.Deep.LoopGhost
import Derived.Lib.Hide
import Derived.Defers
import Derived.Recover
import Derived.Laws.Pointers
import Derived.Test.YtaokofnhkojllaaProg
import Derived.Test.YtaokofnhkojllaaShelf
import Derived.Lib.IndexLaws
import Derived.Deep.RegionLaw
import Derived.Test.YtaokofnhkojllaaPnamedx1
import Derived.Laws.BytesArg
import Derived.Test.YtaokofnhkojllaaPsimplex1
set_option linter.unusedVariables false
set_option linter.unusedSimpArgs false
namespace Go.Aids
open Go.RowKit Go.Proofs.YtaokofnhkojllaaW.PrintWords
section
variable {P : Program} {ops : Array Oper} {rest : List Oper} {o : Oper} {a : Act} {Q : Exit → Act → World → Prop}
/-- append(v, x), x of one cell or several; behind 'at_builtin'. B: the number of the variadic's block. -/
theorem append_cells {w0 W : World} (base : Nat) (hgd : o.guard = none) (s x : Operand) (t e : TypeId) (z : Value) (size bytes B : Nat)
    (ho : o.op = .call { callee := .builtin .append, args := #[s, x], argTypes := #[t, t] })
    (ht : P.underlying t = some (.slice e)) (hinfo : (P.info? e).map (fun i => (i.zero, i.size, i.bytes)) = some (some z, size, bytes)) (hz : z.cells.size = size) (hs0 : 0 < size) (hb0 : 0 < bytes)
    (v : Value) (n : Nat) (xs ys : List Value) (hs : a.eval s = v) (hx : a.eval x = .slice (some ⟨B, 0, none⟩) 1 1) (hB : W.heap.size = B) (hys : ys.length = size) (h1 : ∀ u ∈ ys, u.oneCell' = true)
    (HO : W.ownsRow base e size v n xs) (HB : Below base w0 W) (hbase : base ≤ W.heap.size) (hl : (n + 1) * bytes ≤ 140737488355328)
    (h : ∀ v1 w1, w1.ownsRow base e size v1 (n + 1) (xs ++ ys) → Below base w0 w1 → W.grownBy w1 v.ownBlock → (v1.ownBlock = v.ownBlock ∨ ∃ b, v1.ownBlock = some b ∧ W.heap.size ≤ b) → wpList P ops Q rest (a.put o.dst v1) w1) :
    wpList P ops Q (o :: rest) a (W.alloc (.cells ys.toArray e)) := by
  subst hB
  exact print_append_cells base hgd s x t e z size bytes ho ht hinfo hz hs0 hb0 v n xs ys hs hx hys h1 HO HB hbase hl h

/-- '[]byte(s)': a new row that holds the bytes. -/
theorem wpList_bytes {w : World} (hg : o.guard = none) (x : Operand) (src dst e : TypeId) (hop : o.op = Op.convert src dst x) (hs : P.underlying src = some .string) (hd : P.underlying dst = some (.slice e)) (he : P.underlying e = some (.int .u8))
    (s : ByteArray) (hx : a.eval x = .string s)
    (hK : ∀ (w1 : World) (c : Nat), Below w.heap.size w w1 → w1.heap.size = w.heap.size + 1 → (∀ j, j < s.size → w1.cell? ⟨w.heap.size, j, none⟩ = some (.int .u8 (s.data.toList.getD j 0).toNat)) → wpList P ops Q rest (a.put o.dst (.slice (some ⟨w.heap.size, 0, none⟩) s.size c)) w1) :
    wpList P ops Q (o :: rest) a w := by
  refine wpList_plain hg fun K' hK' => ?_
  unfold Oper.wp
  have hrun := Go.Lib.run_convert_string_bytes (P := P) w src dst e s hs hd he
  simp only [execOp, hop, hx, Sem.run_bind, Sem.run_pure]
  rw [hrun]
  refine hK' _ _ (hK (Go.Lib.bytesWorld w e s) (grownCap w s.size 0 e) ⟨rfl, rfl, rfl, ?_, ?_⟩ (Go.Lib.bytesWorld_size w e s) fun j hj => Go.Lib.bytesWorld_cell w e s j hj)
  · rw [Go.Lib.bytesWorld_size]; omega
  · exact fun k hk => Go.Lib.bytesWorld_at_old w e s k hk
end
theorem run_cut {P : Program} (t : TypeId) (ht : P.underlying t = some .string) (s : ByteArray) (k : IntKind) (i j : Int) (h0 : 0 ≤ i) (h1 : i ≤ j) (h2 : j ≤ s.size) (W : World) :
    (Instr.slice t (.string s) (some (.int k i)) (some (.int k j)) none).run P W = .ok (.string (s.extract i.toNat j.toNat)) W := by
  have e1 := run_sliceBound (P := P) (w := W) k j s.size .sliceAlen (by omega) (by omega)
  have e2 := run_sliceBound (P := P) (w := W) k i j.toNat .sliceB (by omega) (by omega)
  simp [Instr.slice, run_underlying ht, Instr.sliceBounds, e1, e2, Result.andThen]
theorem belowN {B : Nat} {w W : World} (h : Below B w W) (n : Nat) : Below B w (W.drewN n) := ⟨h.os, h.tape, h.output, h.size, h.block⟩
theorem bcell {W w1 : World} (hb : Below W.heap.size W w1) : (∀ b o, b < W.heap.size → w1.cell? ⟨b, o, none⟩ = W.cell? ⟨b, o, none⟩) ∧ (∀ b o, b < W.heap.size → w1.frozen? ⟨b, o, none⟩ = W.frozen? ⟨b, o, none⟩) :=
  ⟨fun b o h => hb.cell (p := ⟨b, o, none⟩) h, fun b o h => hb.frozen (p := ⟨b, o, none⟩) h⟩
theorem take_snoc (s : ByteArray) (k : Nat) (h : k < s.size) : s.data.toList.take (k + 1) = s.data.toList.take k ++ [s[k]] := by
  rw [List.take_succ_eq_append_getElem (by simpa using h)]; rfl
end Go.Aids

set_option linter.unusedVariables false
set_option linter.unusedSimpArgs false
namespace Go.MapLit
open Go.RowKit
open Go.ChangeMaps (setBlock)

/-- Keys of one kind: how they are compared. -/
structure KeyLit (P : Program) (K : TypeId) {α : Type} [DecidableEq α] (encK : α → Value) : Prop where
  kind : ∃ kd, P.underlying K = some kd ∧ ∀ x y, Instr.sameNow kd (encK x) (encK y) = some (decide (x = y))
  check : ∀ e x w, (Instr.checkKey e 10000 K (encK x)).run P w = .ok () w
  same : ∀ x, Instr.sameBits 10000 (encK x) (encK x) = true

theorem KeyLit.string {P : Program} {K : TypeId} (h : P.underlying K = some .string) : KeyLit P K Value.string := by
  refine ⟨⟨_, h, fun x y => ?_⟩, fun e x w => ?_, fun x => ?_⟩
  · simp only [Instr.sameNow]
    congr 1
    rw [Bool.eq_iff_iff, MapKept.bytes_beq]; simp
  · rw [show (10000 : Nat) = 9999 + 1 from rfl, Instr.checkKey]
    simp [run_underlying h, Result.andThen]
  · simp only [Instr.sameBits]; exact (MapKept.bytes_beq x x).2 rfl
theorem KeyLit.int {P : Program} {K : TypeId} {k : IntKind} (h : P.underlying K = some (.int k)) : KeyLit P K (Value.int k) := by
  refine ⟨⟨_, h, fun x y => ?_⟩, fun e x w => ?_, fun x => ?_⟩
  · simp only [Instr.sameNow, if_true]
    congr 1
  · rw [show (10000 : Nat) = 9999 + 1 from rfl, Instr.checkKey]
    simp [run_underlying h, Result.andThen]
  · simp [Instr.sameBits]

section
variable {P : Program} {α β : Type} (encK : α → Value) (encV : β → Value)

/-- The entries of a literal, in the order of its text. -/
def litEs (l : List (α × β)) : Array MapEntry := (l.zipIdx.map fun p => (⟨encK p.1.1, encV p.1.2, p.2⟩ : MapEntry)).toArray
/-- Block b is the map of these pairs. -/
def MapIs (w : World) (b : Nat) (l : List (α × β)) : Prop := w.heap[b]? = some (.map (litEs encK encV l) l.length)

theorem litEs_push (l : List (α × β)) (k : α) (v : β) : (litEs encK encV l).push ⟨encK k, encV v, l.length⟩ = litEs encK encV (l ++ [(k, v)]) := by
  simp [litEs, List.zipIdx_append]

def find [DecidableEq α] (l : List (α × β)) (k : α) : Option β := (l.find? fun p => decide (k = p.1)).map (·.2)

theorem findNow_zip [DecidableEq α] (kd : TypeDesc) (hkd : ∀ x y, Instr.sameNow kd (encK x) (encK y) = some (decide (x = y))) (k : α) : ∀ (l : List (α × β)) (i n : Nat),
    ∃ r, Instr.findNow kd (encK k) ((l.zipIdx n).map fun p => (⟨encK p.1.1, encV p.1.2, p.2⟩ : MapEntry)) i = some r ∧ r.map (·.2) = (find l k).map encV ∧ (r = none ↔ find l k = none)
  | [], i, n => ⟨none, rfl, rfl, by simp [find]⟩
  | p :: l, i, n => by
    simp only [List.zipIdx_cons, List.map_cons, Instr.findNow, hkd]
    by_cases h : k = p.1
    · refine ⟨some (i, encV p.2), ?_, ?_, ?_⟩ <;> simp [h, find]
    · obtain ⟨r, h1, h2, h3⟩ := findNow_zip kd hkd k l (i + 1) (n + 1)
      refine ⟨r, ?_, ?_, ?_⟩
      · simp [h, h1]
      · simpa [find, h] using h2
      · simpa [find, h] using h3

theorem findNow_lit [DecidableEq α] (kd : TypeDesc) (hkd : ∀ x y, Instr.sameNow kd (encK x) (encK y) = some (decide (x = y))) (k : α) (l : List (α × β)) :
    ∃ r, Instr.findNow kd (encK k) (litEs encK encV l).toList 0 = some r ∧ r.map (·.2) = (find l k).map encV ∧ (r = none ↔ find l k = none) := by
  have := findNow_zip encK encV kd hkd k l 0 0
  simpa [litEs] using this

/-- A new key laid into the map that was just made. -/
theorem run_insert [DecidableEq α] {t K E : TypeId} (hk : KeyLit P K encK) (ht : P.underlying t = some (.map K E)) (l : List (α × β)) (k : α) (v : β) (hnew : find l k = none) (w : World) :
    (Instr.mapUpdate t (.map (some w.heap.size)) (encK k) (encV v)).run P (w.alloc (.map (litEs encK encV l) l.length)) = .ok () (w.alloc (.map (litEs encK encV (l ++ [(k, v)])) (l.length + 1))) := by
  obtain ⟨kd, h1, h2⟩ := hk.kind
  obtain ⟨r, h3, _, h4⟩ := findNow_lit encK encV kd h2 k l
  have hr : r = none := h4.2 hnew
  subst hr
  have hb : (w.alloc (.map (litEs encK encV l) l.length)).heap[w.heap.size]? = some (.map (litEs encK encV l) l.length) := heap_alloc_new w _
  have hget : ∀ W : World, W.heap[w.heap.size]? = some (.map (litEs encK encV l) l.length) → (getObj w.heap.size).run P W = .ok (.map (litEs encK encV l) l.length) W := by
    intro W h
    simp [getObj, Sem.run, h]
  simp only [Instr.mapUpdate, Sem.run_bind, run_underlying ht, Result.andThen, hget _ hb, hk.check, Instr.findKey, run_underlying h1, h3, Sem.run_pure]
  simp only [setObj, Sem.run, hb]
  rw [litEs_push]
  congr 1
  have e : ∀ o : Obj, (w.alloc o).heap = w.heap.push o := fun _ => rfl
  have e2 : ∀ o : Obj, (w.heap.push (.map (litEs encK encV l) l.length)).setIfInBounds w.heap.size o = w.heap.push o := fun o => by
    apply Array.ext_getElem?
    intro i
    rw [Array.getElem?_setIfInBounds, Array.getElem?_push, Array.getElem?_push]
    by_cases h : w.heap.size = i
    · subst h; simp
    · rw [if_neg h, if_neg (fun e => h e.symm), if_neg (fun e => h e.symm)]
  show ({ w.alloc (.map (litEs encK encV l) l.length) with heap := (w.heap.push (.map (litEs encK encV l) l.length)).setIfInBounds w.heap.size _ } : World) = _
  rw [e2]; rfl

theorem run_lookup [DecidableEq α] {t K E : TypeId} (hk : KeyLit P K encK) (ht : P.underlying t = some (.map K E)) {z : Value} (hz : ∀ w, (zeroValue E).run P w = .ok z w) (l : List (α × β)) (k : α) {w : World} {b : Nat} (hb : MapIs encK encV w b l) (ok : Bool) :
    (Instr.lookup t (.map (some b)) (encK k) ok).run P w = .ok (if ok then .tuple #[((find l k).map encV).getD z, .bool (find l k).isSome] else ((find l k).map encV).getD z) w := by
  obtain ⟨kd, h1, h2⟩ := hk.kind
  obtain ⟨r, h3, h5, h4⟩ := findNow_lit encK encV kd h2 k l
  have hget : (getObj b).run P w = .ok (.map (litEs encK encV l) l.length) w := by
    have hb' : w.heap[b]? = some (.map (litEs encK encV l) l.length) := hb
    simp [getObj, Sem.run, hb']
  simp only [Instr.lookup, Sem.run_bind, run_underlying ht, Result.andThen, hget, hk.check, Instr.findKey, run_underlying h1, h3, Sem.run_pure]
  cases hf : find l k with
  | none =>
    have hr : r = none := h4.2 hf
    subst hr
    simp only [Sem.run_bind, hz, Result.andThen, Sem.run_pure, Option.map_none, Option.getD_none, Option.isSome_none]
  | some v =>
    cases r with
    | none => simp [h4.1 rfl] at hf
    | some q =>
      rw [hf] at h5
      simp at h5
      simp only [Sem.run_pure, Option.map_some, Option.getD_some, Option.isSome_some, ← h5]
      cases ok <;> simp

theorem MapIs.below {w w' : World} {b : Nat} {l : List (α × β)} (h : MapIs encK encV w b l) (hb : Below w.heap.size w w') : MapIs encK encV w' b l := by
  have hlt : b < w.heap.size := by
    unfold MapIs at h
    exact (Array.getElem?_eq_some_iff.1 h).1
  exact (hb.block b hlt).trans h
theorem MapIs.made (w : World) (l : List (α × β)) : MapIs encK encV (w.alloc (.map (litEs encK encV l) l.length)) w.heap.size l := heap_alloc_new w _
theorem MapIs.grown {w w' : World} {b : Nat} {l : List (α × β)} (h : MapIs encK encV w b l) {row : Option Nat} (hg : w.grownBy w' row) (hr : some b ≠ row) : MapIs encK encV w' b l := by
  have hlt : b < w.heap.size := by
    unfold MapIs at h
    exact (Array.getElem?_eq_some_iff.1 h).1
  exact (hg.block b hlt hr).trans h

theorem litEs_mem {l : List (α × β)} {e : MapEntry} (h : e ∈ (litEs encK encV l).toList) : ∃ (i : Nat) (hi : i < l.length), e = ⟨encK l[i].1, encV l[i].2, i⟩ := by
  simp only [litEs, List.mem_map] at h
  obtain ⟨⟨p, i⟩, hp, rfl⟩ := h
  have := List.mem_zipIdx' hp
  exact ⟨i, this.1, by simp [this.2]⟩
theorem litEs_at {l : List (α × β)} (i : Nat) (hi : i < l.length) : (⟨encK l[i].1, encV l[i].2, i⟩ : MapEntry) ∈ (litEs encK encV l).toList := by
  simp only [litEs, List.mem_map]
  exact ⟨(l[i], i), List.mk_mem_zipIdx_iff_getElem?.2 (by simp [hi]), rfl⟩
theorem litEs_born (l : List (α × β)) : ((litEs encK encV l).toList.map (·.born)).Nodup := by
  have : ((litEs encK encV l).toList.map (·.born)) = List.range l.length := by
    apply List.ext_getElem
    · simp [litEs]
    · intro i h1 h2
      simp [litEs]
  rw [this]
  exact List.nodup_range

/-- Where a range over the map stands: the iterator's block. -/
def IterIs (w : World) (r b n : Nat) (seen : Array Nat) : Prop := ∃ c0, n ≤ c0 ∧ w.heap[r]? = some (.mapIter (some b) n seen c0)

theorem run_range {t K E : TypeId} (ht : P.underlying t = some (.map K E)) (l : List (α × β)) {w : World} {b : Nat} (hb : MapIs encK encV w b l) :
    (Instr.range t (.map (some b))).run P w = .ok (.pointer (some ⟨w.heap.size, 0, none⟩)) (w.alloc (.mapIter (some b) l.length #[] l.length)) :=
  run_range_map w t K E b _ _ ht hb
theorem IterIs.made (w : World) (b n : Nat) : IterIs (w.alloc (.mapIter (some b) n #[] n)) w.heap.size b n #[] := ⟨n, Nat.le_refl _, heap_alloc_new w _⟩

/-- One step of a range over the map: nothing is left, or one that has not come yet comes. -/
theorem wpList_next_lit {w : World} {ops : Array Oper} {rest : List Oper} {o : Oper} {a : Act} {Q : Exit → Act → World → Prop}
    (hg : o.guard = none) (it : Operand) (hop : o.op = Op.next it false) (l : List (α × β)) (b r : Nat) (seen : Array Nat) (hit : a.eval it = .pointer (some ⟨r, 0, none⟩))
    (hr : IterIs w r b l.length seen) (hb : MapIs encK encV w b l)
    (hDone : (∀ i, i < l.length → seen.contains i = true) → wpList P ops Q rest (a.put o.dst (.tuple #[.bool false])) w)
    (hMore : ∀ (i : Nat) (k : α) (v : β) (w' : World), l[i]? = some (k, v) → seen.contains i = false → IterIs w' r b l.length (seen.push i) → MapIs encK encV w' b l → w.grownBy w' (some r) → w'.heap.size = w.heap.size →
      (Instr.entry (.pointer (some ⟨r, 0, none⟩))).run P w' = .ok (.tuple #[encK k, encV v]) w' → wpList P ops Q rest (a.put o.dst (.tuple #[.bool true, encK k, encV v])) w') :
    wpList P ops Q (o :: rest) a w := by
  obtain ⟨c0, hc0, hr⟩ := hr
  have hold : ∀ x ∈ (litEs encK encV l).toList, x.born < l.length := by
    intro x hx
    obtain ⟨i, hi, rfl⟩ := litEs_mem encK encV hx
    exact hi
  refine wpList_plain hg fun K' hK' => ?_
  unfold Oper.wp
  rcases run_next_at (P := P) w o.type r b l.length c0 seen (litEs encK encV l) l.length hr hb hold hc0 with ⟨h0, hrun⟩ | ⟨e, he, w1, hw1, hrun⟩
  · simp [execOp, hop, hit, hrun, Result.andThen]
    refine hK' _ _ (hDone fun i hi => ?_)
    have := all_seen _ _ h0 _ (litEs_at encK encV i hi)
    exact this
  · obtain ⟨he1, he2⟩ := mem_left he
    obtain ⟨i, hi, rfl⟩ := litEs_mem encK encV he1
    simp [execOp, hop, hit, hrun, Result.andThen]
    have hne : r ≠ b := by
      intro h
      subst h
      have hb' : w.heap[r]? = _ := hb
      rw [hr] at hb'
      cases hb'
    have hr1 : w1.heap[r]? = some (.mapIter (some b) l.length seen c0) := by rcases hw1 with rfl | rfl <;> exact hr
    have hb1 : w1.heap[b]? = some (.map (litEs encK encV l) l.length) := by rcases hw1 with rfl | rfl <;> exact hb
    have hsz : w1.heap.size = w.heap.size := by rcases hw1 with rfl | rfl <;> rfl
    have hlt : r < w1.heap.size := (Array.getElem?_eq_some_iff.1 hr1).1
    have h1 : (setBlock w1 r (.mapIter (some b) l.length (seen.push i) l.length)).heap[r]? = some (.mapIter (some b) l.length (seen.push i) l.length) := by
      simp [setBlock, hlt]
    have h2 : (setBlock w1 r (.mapIter (some b) l.length (seen.push i) l.length)).heap[b]? = some (.map (litEs encK encV l) l.length) := by
      simp only [setBlock, Array.getElem?_setIfInBounds]
      rw [if_neg (by omega)]
      exact hb1
    refine hK' _ _ (hMore i l[i].1 l[i].2 _ (by simp [hi]) he2 ⟨_, Nat.le_refl _, h1⟩ h2 ?_ (by simp [setBlock, hsz]) (run_entry_at _ r b l.length seen _ l.length _ h1 h2 he1 (litEs_born encK encV l)))
    refine ⟨?_, ?_, ?_, ?_, ?_⟩
    · rcases hw1 with rfl | rfl <;> rfl
    · rcases hw1 with rfl | rfl <;> rfl
    · rcases hw1 with rfl | rfl <;> rfl
    · simp [setBlock, hsz]
    · intro k hk hne
      simp only [setBlock, Array.getElem?_setIfInBounds]
      rw [if_neg (by intro h; subst h; exact hne rfl)]
      rcases hw1 with rfl | rfl <;> rfl
end

/-- How many are still to come. -/
def left (n : Nat) (seen : Array Nat) : Nat := ((List.range n).filter fun i => !seen.contains i).length
theorem left_push {n i : Nat} {seen : Array Nat} (hi : i < n) (h : seen.contains i = false) : left n (seen.push i) < left n seen := by
  refine filter_lt (fun j => !seen.contains j) (fun j => !(seen.push i).contains j) ?_ i ?_ ?_ (List.range n) (by simpa using hi)
  · intro x hx
    rw [contains_push] at hx
    cases hc : seen.contains x
    · rfl
    · rw [hc] at hx; simp at hx
  · show (!seen.contains i) = true
    rw [h]; rfl
  · show (!(seen.push i).contains i) = false
    rw [contains_push]; simp
end Go.MapLit

set_option linter.unusedVariables false
set_option linter.unusedSimpArgs false
namespace Go.Proofs.Ytaokofnhkojllaa
open Go.Lib

/-- The byte at a place, 0 at the end. -/
def pk (s : ByteArray) (a : Nat) : Nat := if h : a < s.size then s[a].toNat else 0
theorem pk_get (s : ByteArray) (a : Nat) (h : a < s.size) : pk s a = s[a].toNat := by unfold pk; rw [dif_pos h]
theorem pk_lt {s : ByteArray} {a : Nat} (h : pk s a ≠ 0) : a < s.size := by
  unfold pk at h
  by_cases ha : a < s.size
  · exact ha
  · rw [dif_neg ha] at h; exact absurd rfl h
theorem pk_256 (s : ByteArray) (a : Nat) : pk s a < 256 := by
  unfold pk
  split
  · exact UInt8.toNat_lt _
  · decide
def seenB (c : Nat) : Bool := decide (33 ≤ c ∧ c ≤ 126)
def digB (c : Nat) : Bool := decide (48 ≤ c ∧ c ≤ 57)
/-- All bytes from a place to another one are seen. -/
def allSeen (s : ByteArray) (i j : Nat) : Bool := (List.range (j - i)).all fun k => seenB (pk s (i + k))
theorem allSeen_iff (s : ByteArray) (i j : Nat) : allSeen s i j = true ↔ ∀ k, i ≤ k → k < j → seenB (pk s k) = true := by
  unfold allSeen
  rw [List.all_eq_true]
  constructor
  · intro h k h1 h2
    have := h (k - i) (List.mem_range.2 (by omega))
    rwa [show i + (k - i) = k by omega] at this
  · intro h k hk
    have := List.mem_range.1 hk
    exact h (i + k) (by omega) (by omega)
/-- The first place of a byte from here on; the end, if there is none. -/
def findF (s : ByteArray) (q : Nat) : Nat → Nat → Nat
  | 0, a => a
  | f + 1, a => if pk s a = q then a else findF s q f (a + 1)
def findB (s : ByteArray) (a q : Nat) : Nat := findF s q (s.size - a) a
theorem findF_bound (s : ByteArray) (q : Nat) : ∀ f a, a ≤ findF s q f a ∧ findF s q f a ≤ a + f
  | 0, a => by simp [findF]
  | f + 1, a => by
    unfold findF
    split
    · omega
    · have := findF_bound s q f (a + 1); omega
theorem findB_le (s : ByteArray) (a q : Nat) (h : a ≤ s.size) : a ≤ findB s a q ∧ findB s a q ≤ s.size := by
  have := findF_bound s q (s.size - a) a
  unfold findB
  omega
theorem findF_not (s : ByteArray) (q : Nat) : ∀ f a k, a ≤ k → k < findF s q f a → pk s k ≠ q
  | 0, a, k, h1, h2 => by simp [findF] at h2; omega
  | f + 1, a, k, h1, h2 => by
    unfold findF at h2
    split at h2
    · omega
    · rename_i hne
      by_cases h : k = a
      · subst h; exact hne
      · exact findF_not s q f (a + 1) k (by omega) h2
theorem findF_at (s : ByteArray) (q : Nat) : ∀ f a, findF s q f a < a + f → pk s (findF s q f a) = q
  | 0, a, h => by simp [findF] at h
  | f + 1, a, h => by
    unfold findF at h ⊢
    split
    · assumption
    · rename_i hne
      rw [if_neg hne] at h
      exact findF_at s q f (a + 1) (by omega)
theorem findB_at (s : ByteArray) (a q : Nat) (h : findB s a q < s.size) (ha : a ≤ s.size) : pk s (findB s a q) = q := findF_at s q _ _ (by unfold findB at h; omega)
theorem findB_not (s : ByteArray) (a q k : Nat) (h1 : a ≤ k) (h2 : k < findB s a q) : pk s k ≠ q := findF_not s q _ _ k h1 h2
theorem findB_is (s : ByteArray) (a q e : Nat) (h1 : a ≤ e) (h2 : e ≤ s.size) (h3 : ∀ k, a ≤ k → k < e → pk s k ≠ q) (h4 : e < s.size → pk s e = q) : findB s a q = e := by
  have hb := findB_le s a q (by omega)
  rcases Nat.lt_trichotomy (findB s a q) e with h | h | h
  · exact absurd (findB_at s a q (by omega) (by omega)) (h3 _ hb.1 h)
  · exact h
  · exact absurd (h4 (by omega)) (findB_not s a q e h1 h)

/-- A token. -/
structure Tok where
  kind : Int
  text : ByteArray
  n : Int
abbrev oneS (c : Nat) : ByteArray := ⟨#[UInt8.ofNat c]⟩
def twoM (s : ByteArray) (a : Nat) : Option (ByteArray × Nat) := if a + 2 ≤ s.size ∧ allSeen s a (a + 2) = true then some (s.extract a (a + 2), a + 2) else none
def bracketM (least most : Nat) (s : ByteArray) (a : Nat) : Option (ByteArray × Nat) :=
  let e := findB s a 93
  if e < s.size ∧ least ≤ e - a ∧ e - a ≤ most ∧ allSeen s a e = true then some (s.extract a e, e + 1) else none
def nameM (least most : Nat) (s : ByteArray) (a : Nat) : Option (ByteArray × Nat) :=
  if pk s a = 40 then twoM s (a + 1) else if pk s a = 91 then bracketM least most s (a + 1) else if seenB (pk s a) = true then some (oneS (pk s a), a + 1) else none
def quotedM (s : ByteArray) (a : Nat) : Option (ByteArray × Nat) :=
  if a < s.size ∧ pk s a ≠ 32 ∧ pk s a ≠ 9 then
    (let e := findB s (a + 1) (pk s a)
     if e < s.size then some (s.extract (a + 1) e, e + 1) else none)
  else none
/-- What stands behind \s: its text, its number, where it ends. -/
def sizeM (s : ByteArray) (a : Nat) : Option (ByteArray × Nat × Nat) :=
  if pk s a = 43 ∨ pk s a = 45 then (if digB (pk s (a + 1)) = true then some (oneS (pk s a), pk s (a + 1) - 48, a + 2) else none)
  else if pk s a = 40 then (if digB (pk s (a + 1)) = true ∧ digB (pk s (a + 2)) = true then some (⟨#[]⟩, (pk s (a + 1) - 48) * 10 + (pk s (a + 2) - 48), a + 3) else none)
  else if 49 ≤ pk s a ∧ pk s a ≤ 51 ∧ digB (pk s (a + 1)) = true then some (⟨#[]⟩, (pk s a - 48) * 10 + (pk s (a + 1) - 48), a + 2)
  else if digB (pk s a) = true then some (⟨#[]⟩, pk s a - 48, a + 1) else none
def mi : ByteArray := ⟨#[109, 105]⟩
def up1 : ByteArray := ⟨#[45, 49, 110]⟩
def down1 : ByteArray := ⟨#[49, 110]⟩
/-- Escapes of one byte that are one token. -/
def simpleL : List (Nat × Tok) :=
  [(101, ⟨0, ⟨#[92]⟩, 0⟩), (92, ⟨0, ⟨#[92]⟩, 0⟩), (45, ⟨0, mi, 0⟩), (116, ⟨2, ⟨#[]⟩, 0⟩), (97, ⟨3, ⟨#[]⟩, 0⟩), (126, ⟨4, ⟨#[]⟩, 0⟩), (32, ⟨5, ⟨#[]⟩, 0⟩), (124, ⟨6, ⟨#[]⟩, 167⟩), (94, ⟨6, ⟨#[]⟩, 83⟩), (48, ⟨7, ⟨#[]⟩, 0⟩), (37, ⟨8, ⟨#[]⟩, 0⟩), (38, ⟨9, ⟨#[]⟩, 0⟩), (117, ⟨13, up1, 0⟩), (100, ⟨13, down1, 0⟩), (122, ⟨18, ⟨#[]⟩, 0⟩)]
def quotesL : List (Nat × Int) := [(104, 12), (118, 13), (120, 14), (108, 15), (68, 16), (111, 17)]
def look {β : Type} (l : List (Nat × β)) (k : Nat) : Option β := (l.find? fun p => decide (k = p.1)).map (·.2)
inductive Esc where
  | bad
  | go (l : List Tok) (a : Nat)
  | stop (l : List Tok)
def namedE (kind : Int) : Option (ByteArray × Nat) → Esc
  | some (t, a) => .go [⟨kind, t, 0⟩] a
  | none => .bad
/-- What stands behind a \ (a byte does). -/
def escM (s : ByteArray) (a : Nat) : Esc :=
  let c := pk s a
  match look simpleL c with
  | some t => .go [t] (a + 1)
  | none =>
    match look quotesL c with
    | some k => namedE k (quotedM s (a + 1))
    | none =>
      if c = 40 ∨ c = 91 then namedE 0 (nameM 1 10 s a)
      else if c = 102 then namedE 10 (nameM 1 20 s (a + 1))
      else if c = 109 then namedE 21 (nameM 0 20 s (a + 1))
      else if c = 107 then namedE 19 (nameM 1 20 s (a + 1))
      else if c = 115 then (match sizeM s (a + 1) with
        | some (t, n, b) => .go [⟨11, t, n⟩] b
        | none => .bad)
      else if c = 99 then .stop [⟨20, ⟨#[]⟩, 0⟩]
      else if c = 34 then .stop []
      else if c = 123 ∨ c = 125 then .go [] (a + 1)
      else if seenB c = true then .go [⟨0, oneS c, 0⟩] (a + 1) else .go [] (a + 1)
/-- One step of a line, at a place where a byte stands. -/
def stepM (s : ByteArray) (a : Nat) : Esc :=
  let c := pk s a
  if c = 92 then (if a + 1 < s.size then escM s (a + 1) else .go [] (a + 1))
  else if c = 32 then .go [⟨1, ⟨#[]⟩, 0⟩] (a + 1)
  else if c = 9 then .go [⟨2, ⟨#[]⟩, 0⟩] (a + 1)
  else if seenB c = true then .go [⟨0, oneS c, 0⟩] (a + 1) else .go [] (a + 1)
/-- A line from a place on, behind tokens. -/
def lineF (s : ByteArray) : Nat → List Tok → Nat → Option (List Tok)
  | 0, l, _ => some l
  | f + 1, l, a => if a < s.size then (match stepM s a with
      | .bad => none
      | .go t b => lineF s f (l ++ t) b
      | .stop t => some (l ++ t)) else some l
def startM (s : ByteArray) : Nat := if pk s 0 = 92 ∧ pk s 1 = 33 then 2 else 0
def lineM (s : ByteArray) : Option (List Tok) := lineF s s.size [] (startM s)
def hasLF (s : ByteArray) : Bool := decide (findB s 0 10 < s.size)

/-! Where steps end. -/
theorem twoM_end {s : ByteArray} {a b : Nat} {t : ByteArray} (h : twoM s a = some (t, b)) : a < b ∧ b ≤ s.size := by
  unfold twoM at h
  split at h
  · rename_i h1
    injection h with h; injection h with _ h; subst h; omega
  · cases h
theorem bracketM_end {x y : Nat} {s : ByteArray} {a b : Nat} {t : ByteArray} (h : bracketM x y s a = some (t, b)) (ha : a ≤ s.size) : a < b ∧ b ≤ s.size := by
  unfold bracketM at h
  simp only at h
  have := findB_le s a 93 ha
  split at h
  · rename_i h1
    injection h with h; injection h with _ h; subst h; omega
  · cases h
theorem nameM_end {x y : Nat} {s : ByteArray} {a b : Nat} {t : ByteArray} (h : nameM x y s a = some (t, b)) : a < b ∧ b ≤ s.size := by
  unfold nameM at h
  split at h
  · have := twoM_end h; omega
  · split at h
    · rename_i h1
      have := pk_lt (s := s) (a := a) (by omega)
      have := bracketM_end h (by omega); omega
    · split at h
      · rename_i h1
        injection h with h; injection h with _ h; subst h
        have := pk_lt (s := s) (a := a) (by intro e; rw [e] at h1; exact absurd h1 (by decide))
        omega
      · cases h
theorem quotedM_end {s : ByteArray} {a b : Nat} {t : ByteArray} (h : quotedM s a = some (t, b)) : a < b ∧ b ≤ s.size := by
  unfold quotedM at h
  split at h
  · rename_i h1
    simp only at h
    have := findB_le s (a + 1) (pk s a) (by omega)
    split at h
    · injection h with h; injection h with _ h; subst h; omega
    · cases h
  · cases h
theorem dig_lt {s : ByteArray} {a : Nat} (h : digB (pk s a) = true) : a < s.size := pk_lt (by intro e; rw [e] at h; exact absurd h (by decide))
theorem sizeM_end {s : ByteArray} {a b n : Nat} {t : ByteArray} (h : sizeM s a = some (t, n, b)) : a < b ∧ b ≤ s.size := by
  unfold sizeM at h
  split at h
  · split at h
    · rename_i h2
      have := dig_lt h2
      injection h with h; injection h with _ h; injection h with _ h; subst h; omega
    · cases h
  · split at h
    · split at h
      · rename_i h2
        have := dig_lt h2.2
        injection h with h; injection h with _ h; injection h with _ h; subst h; omega
      · cases h
    · split at h
      · rename_i h2
        have := dig_lt h2.2.2
        injection h with h; injection h with _ h; injection h with _ h; subst h; omega
      · split at h
        · rename_i h2
          have := dig_lt h2
          injection h with h; injection h with _ h; injection h with _ h; subst h; omega
        · cases h
theorem namedE_end {s : ByteArray} {a b : Nat} {k : Int} {o : Option (ByteArray × Nat)} {l : List Tok} (h : namedE k o = .go l b) (ho : ∀ t b, o = some (t, b) → a < b ∧ b ≤ s.size) : a < b ∧ b ≤ s.size ∧ l.length ≤ 1 := by
  rcases o with _ | ⟨t, c⟩
  · cases h
  · injection h with h1 h2; subst h1 h2; have := ho t c rfl; exact ⟨this.1, this.2, by simp⟩
theorem escM_end {s : ByteArray} {a b : Nat} {l : List Tok} (ha : a < s.size) (h : escM s a = .go l b) : a < b ∧ b ≤ s.size ∧ l.length ≤ 1 := by
  have one : ∀ {t : List Tok}, t.length ≤ 1 → Esc.go t (a + 1) = .go l b → a < b ∧ b ≤ s.size ∧ l.length ≤ 1 := by
    intro t ht e; injection e with e1 e2; subst e1 e2; exact ⟨by omega, by omega, ht⟩
  have two : a + 1 < b ∧ b ≤ s.size ∧ l.length ≤ 1 → a < b ∧ b ≤ s.size ∧ l.length ≤ 1 := fun h => ⟨by omega, h.2.1, h.2.2⟩
  unfold escM at h
  simp only at h
  split at h
  · exact one (by simp) h
  · split at h
    · exact two (namedE_end h fun t b e => quotedM_end e)
    · split at h
      · exact namedE_end h fun t b e => nameM_end e
      · split at h
        · exact two (namedE_end h fun t b e => nameM_end e)
        · split at h
          · exact two (namedE_end h fun t b e => nameM_end e)
          · split at h
            · exact two (namedE_end h fun t b e => nameM_end e)
            · split at h
              · split at h
                · rename_i t n c hs
                  have := sizeM_end hs
                  injection h with h1 h2; subst h1 h2; exact ⟨by omega, by omega, by simp⟩
                · cases h
              · split at h
                · cases h
                · split at h
                  · cases h
                  · split at h
                    · exact one (by simp) h
                    · split at h
                      · exact one (by simp) h
                      · exact one (by simp) h
theorem stepM_end {s : ByteArray} {a b : Nat} {l : List Tok} (ha : a < s.size) (h : stepM s a = .go l b) : a < b ∧ b ≤ s.size ∧ l.length ≤ 1 := by
  have one : ∀ {t : List Tok}, t.length ≤ 1 → Esc.go t (a + 1) = .go l b → a < b ∧ b ≤ s.size ∧ l.length ≤ 1 := by
    intro t ht e; injection e with e1 e2; subst e1 e2; exact ⟨by omega, by omega, ht⟩
  unfold stepM at h
  simp only at h
  split at h
  · split at h
    · have := escM_end (by omega) h; exact ⟨by omega, this.2.1, this.2.2⟩
    · exact one (by simp) h
  · split at h
    · exact one (by simp) h
    · split at h
      · exact one (by simp) h
      · split at h
        · exact one (by simp) h
        · exact one (by simp) h
/-- More rounds than bytes are left change nothing. -/
theorem lineF_more (s : ByteArray) : ∀ f g l a, s.size ≤ a + f → s.size ≤ a + g → lineF s f l a = lineF s g l a
  | 0, 0, _, _, _, _ => rfl
  | 0, g + 1, l, a, hf, _ => by unfold lineF; rw [if_neg (by omega)]
  | f + 1, 0, l, a, _, hg => by unfold lineF; rw [if_neg (by omega)]
  | f + 1, g + 1, l, a, hf, hg => by
    unfold lineF
    split
    · rename_i ha
      rcases hs : stepM s a with _ | ⟨t, b⟩ | t
      · rfl
      · have := stepM_end ha hs
        exact lineF_more s f g _ b (by omega) (by omega)
      · rfl
    · rfl

/-! Runes that are not seen are bytes that are not seen. -/
def badR (r : Nat) : Bool := decide (r < 33) || decide (126 < r)
theorem decode_low {s : ByteArray} {p : Nat} (h : p < s.size) (hb : pk s p < 128) : Utf8.decode s p = (pk s p, 1) := by
  rw [pk_get s p h] at hb ⊢
  have e : s.get! p = s[p] := by
    show (s.data[p]! : UInt8) = s.data[p]
    rw [getElem!_pos]
  unfold Utf8.decode
  simp only [Nat.add_zero, e]
  rw [if_pos hb]
theorem decode_high {s : ByteArray} {p : Nat} (h : p < s.size) (hb : ¬ pk s p < 128) : 128 ≤ (Utf8.decode s p).1 := by
  rw [pk_get s p h] at hb
  have e : s.get! p = s[p] := by
    show (s.data[p]! : UInt8) = s.data[p]
    rw [getElem!_pos]
  unfold Utf8.decode
  simp only [Nat.add_zero, e]
  rw [if_neg hb]
  unfold Utf8.runeError
  repeat' split
  all_goals first | (simp; done) | (rename_i h1; simp at h1 ⊢; omega)
theorem idx_seen (s : ByteArray) : ∀ f p, s.size ≤ p + f → (Lib.idxFuncFrom badR true s f p = -1 ↔ ∀ k, p ≤ k → k < s.size → seenB (pk s k) = true)
  | 0, p, h => by
    unfold Lib.idxFuncFrom
    exact ⟨fun _ k h1 h2 => by omega, fun _ => rfl⟩
  | f + 1, p, h => by
    unfold Lib.idxFuncFrom
    by_cases hp : p < s.size
    · rw [if_pos hp]
      by_cases hb : pk s p < 128
      · rw [decode_low hp hb]
        simp only
        by_cases hs : seenB (pk s p) = true
        · have hs' := hs
          unfold seenB at hs'
          rw [decide_eq_true_eq] at hs'
          rw [if_neg (by unfold badR; simp; omega), idx_seen s f (p + 1) (by omega)]
          constructor
          · intro h k h1 h2
            by_cases e : k = p
            · subst e; exact hs
            · exact h k (by omega) h2
          · exact fun h k h1 h2 => h k (by omega) h2
        · have hs' := hs
          unfold seenB at hs'
          rw [decide_eq_true_eq] at hs'
          rw [if_pos (by unfold badR; simp; omega)]
          exact ⟨fun e => by omega, fun h => absurd (h p (Nat.le_refl _) hp) hs⟩
      · have hd := decode_high hp hb
        rw [if_pos (by unfold badR; simp; omega)]
        refine ⟨fun e => by omega, fun h => ?_⟩
        have := h p (Nat.le_refl _) hp
        unfold seenB at this
        rw [decide_eq_true_eq] at this
        omega
    · rw [if_neg hp]
      exact ⟨fun _ k h1 h2 => by omega, fun _ => rfl⟩
theorem visible_iff (s : ByteArray) : (!decide (0 ≤ Lib.idxFunc badR true s)) = allSeen s 0 s.size := by
  rw [Bool.eq_iff_iff, allSeen_iff]
  have h := idx_seen s s.size 0 (by omega)
  have hr := Lib.idxFunc_range badR true s
  unfold Lib.idxFunc at hr ⊢
  simp only [Bool.not_eq_true', decide_eq_false_iff_not]
  rw [← h]
  omega
end Go.Proofs.Ytaokofnhkojllaa

set_option linter.unusedVariables false
set_option linter.unusedSimpArgs false
namespace Go.Proofs.Ytaokofnhkojllaa
open Go.Lib

/-- What a token at a line's end tells: it ends a sentence or does not, or the one ahead of it is asked. -/
def tellM (t : Tok) : Option Bool :=
  if t.kind = 8 ∨ t.kind = 10 ∨ t.kind = 11 ∨ t.kind = 21 then none
  else if t.kind ≠ 0 then some false
  else if t.text.size ≠ 1 then some false
  else if pk t.text 0 = 46 ∨ pk t.text 0 = 63 ∨ pk t.text 0 = 33 then some true
  else if pk t.text 0 = 34 ∨ pk t.text 0 = 39 ∨ pk t.text 0 = 41 ∨ pk t.text 0 = 93 then none else some false
/-- Of the first so many tokens. -/
def endsF (l : List Tok) : Nat → Bool
  | 0 => false
  | k + 1 => match l[k]? with
    | some t => (match tellM t with | some b => b | none => endsF l k)
    | none => false
def endsM (l : List Tok) : Bool := endsF l l.length
def leadF (l : List Tok) : Nat → Nat → Nat
  | 0, a => a
  | f + 1, a => match l[a]? with
    | some t => if t.kind = 1 then leadF l f (a + 1) else a
    | none => a
def leadM (l : List Tok) : Nat := leadF l l.length 0
theorem leadF_bound (l : List Tok) : ∀ f a, a ≤ leadF l f a ∧ leadF l f a ≤ a + f
  | 0, a => by simp [leadF]
  | f + 1, a => by
    unfold leadF
    split
    · split
      · have := leadF_bound l f (a + 1); omega
      · omega
    · omega
end Go.Proofs.Ytaokofnhkojllaa

set_option linter.unusedVariables false
set_option linter.unusedSimpArgs false
namespace Go.Proofs.Ytaokofnhkojllaa
open Go.Shelf Go.RowKit Go.Lib Go.Aids Go.MapLit Go.Proofs.YtaokofnhkojllaaW.PrintWords

theorem wrap64_in (n : Int) (h0 : -9223372036854775808 ≤ n) (h1 : n ≤ 9223372036854775807) : wrap64 n = n := by unfold wrap64; omega
theorem ext_list (s : ByteArray) (a b : Nat) : (s.extract a b).data.toList = (s.data.toList.drop a).take (b - a) := by
  rw [ByteArray.data_extract, Array.toList_extract]
theorem ba_eq {a b : ByteArray} (h : a.data.toList = b.data.toList) : a = b := by
  obtain ⟨⟨a⟩⟩ := a
  obtain ⟨⟨b⟩⟩ := b
  exact congrArg (fun l => (⟨⟨l⟩⟩ : ByteArray)) h
theorem ext_ext (s : ByteArray) (a i j : Nat) (h : a + j ≤ s.size) : (s.extract a s.size).extract i j = s.extract (a + i) (a + j) := by
  apply ba_eq
  rw [ext_list, ext_list, ext_list, List.drop_take, List.take_take, List.drop_drop]
  congr 1
  omega
theorem ext_size (s : ByteArray) (a : Nat) (h : a ≤ s.size) : (s.extract a s.size).size = s.size - a := by
  rw [ByteArray.size_extract]; omega
theorem pk_ext (s : ByteArray) (a j k : Nat) (h : a + k < j) (hj : j ≤ s.size) : pk (s.extract a j) k = pk s (a + k) := by
  have h1 : k < (s.extract a j).size := by rw [ByteArray.size_extract]; omega
  rw [pk_get _ _ h1, pk_get _ _ (by omega)]
  rw [ByteArray.getElem_extract]
theorem get_data (s : ByteArray) (a : Nat) (h : a < s.size) : s.data.toList[a]'(by rw [Array.length_toList]; exact h) = UInt8.ofNat (pk s a) := by
  rw [pk_get s a h]
  simp
  rfl
theorem ext_one (s : ByteArray) (a : Nat) (h : a < s.size) : s.extract a (a + 1) = oneS (pk s a) := by
  apply ba_eq
  rw [ext_list, show a + 1 - a = 1 by omega]
  have hl : a < s.data.toList.length := by rw [Array.length_toList]; exact h
  rw [List.drop_eq_getElem_cons hl, get_data s a h]
  rfl

/-- Tokens as cells. -/
def cellsOf (l : List Tok) : List Value := l.flatMap fun t => [.int .i64 t.kind, .string t.text, .int .i64 t.n]
theorem cellsOf_snoc (l : List Tok) (t : Tok) : cellsOf (l ++ [t]) = cellsOf l ++ [.int .i64 t.kind, .string t.text, .int .i64 t.n] := by simp [cellsOf]
theorem cellsOf_len (l : List Tok) : (cellsOf l).length = l.length * 3 := by
  induction l with
  | nil => rfl
  | cons p r ih => simp only [cellsOf, List.flatMap_cons, List.length_append] at *; simp [ih]; omega
theorem cellsOf_at (l : List Tok) (i : Nat) (hi : i < l.length) : (cellsOf l)[i * 3]? = some (.int .i64 l[i].kind) ∧ (cellsOf l)[i * 3 + 1]? = some (.string l[i].text) ∧ (cellsOf l)[i * 3 + 2]? = some (.int .i64 l[i].n) := by
  induction l generalizing i with
  | nil => simp at hi
  | cons p r ih =>
    cases i with
    | zero => simp [cellsOf]
    | succ i =>
      have := ih i (by simpa using hi)
      simp only [cellsOf, List.flatMap_cons, List.getElem_cons_succ] at *
      refine ⟨?_, ?_, ?_⟩
      · rw [show (i + 1) * 3 = (i * 3) + 1 + 1 + 1 by omega]; simpa using this.1
      · rw [show (i + 1) * 3 + 1 = (i * 3 + 1) + 1 + 1 + 1 by omega]; simpa using this.2.1
      · rw [show (i + 1) * 3 + 2 = (i * 3 + 2) + 1 + 1 + 1 by omega]; simpa using this.2.2

/-- The reader. -/
structure Rd (w : World) (b base : Nat) (v : Value) (rest : ByteArray) (l : List Tok) : Prop where
  blk : w.heap[b]? = some (.cells #[.string rest, v] 47 (0, 0))
  own : w.ownsRow base 28 3 v l.length (cellsOf l)
  ge : base ≤ b
theorem Rd.cells {w : World} {b base : Nat} {v : Value} {rest : ByteArray} {l : List Tok} (h : Rd w b base v rest l) :
    w.cell? ⟨b, 0, none⟩ = some (.string rest) ∧ w.cell? ⟨b, 1, none⟩ = some v ∧ w.frozen? ⟨b, 0, none⟩ = false ∧ w.frozen? ⟨b, 1, none⟩ = false ∧ b < w.heap.size := by
  have := h.blk
  refine ⟨?_, ?_, ?_, ?_, ?_⟩
  · simp [World.cell?, this]
  · simp [World.cell?, this]
  · simp [World.frozen?, this]
  · simp [World.frozen?, this]
  · rw [Array.getElem?_eq_some_iff] at this; exact this.1
theorem Rd.ne {w : World} {b base : Nat} {v : Value} {rest : ByteArray} {l : List Tok} (h : Rd w b base v rest l) : some b ≠ v.ownBlock := own_ne h.own h.blk (by decide)
theorem Rd.below {w w' : World} {b base : Nat} {v : Value} {rest : ByteArray} {l : List Tok} (h : Rd w b base v rest l) (hb : Below w.heap.size w w') : Rd w' b base v rest l :=
  ⟨(hb.block b h.cells.2.2.2.2).trans h.blk, own_move h.own fun k hk => hb.block k (own_lt h.own k hk), h.ge⟩
theorem Rd.set0 {w : World} {b base : Nat} {v : Value} {rest : ByteArray} {l : List Tok} (h : Rd w b base v rest l) (r : ByteArray) : Rd (w.setCell ⟨b, 0, none⟩ (.string r)) b base v r l := by
  refine ⟨?_, own_move h.own fun k hk => Below.heap_setCell _ _ _ _ (by rintro rfl; exact h.ne hk.symm), h.ge⟩
  have := h.blk
  simp [World.setCell, Array.getElem?_modify, this]

abbrev erW (p : Addr) : Value := .iface 87 (.pointer (some p))
abbrev thrownE (p : Addr) : Ending := .panicked [{ v := .iface 43 (.agg #[erW p]), recovered := false }]
def Bad (base : Nat) (w : World) (e : Ending) (w' : World) : Prop := ∃ o, e = thrownE o ∧ Below base w w'

theorem bad_calls (w : World) : Calls Try.prog 36 #[] w (Bad w.heap.size w) := by
  go_enter Try.func36, Try.ntmps36
  go_wp2_with (go_at_call 53; go_in)
  exact ⟨rfl, _, rfl, (Below.refl _ w).alloc (Nat.le_refl _) _⟩

theorem take_calls (w : World) (b base : Nat) (v : Value) (R : ByteArray) (l : List Tok) (n : Nat) (h : Rd w b base v R l) (hR : R.size ≤ 4611686018427387904) (hn : n ≤ R.size) :
    Calls Try.prog 26 #[.pointer (some ⟨b, 0, none⟩), .int .i64 n] w fun e w' => e = .returned (.string (R.extract 0 n)) ∧ w' = w.setCell ⟨b, 0, none⟩ (.string (R.extract n R.size)) := by
  obtain ⟨c0, c1, f0, f1, hl⟩ := h.cells
  have d : decide ((R.size : Int) < n) = false := decide_eq_false (by omega)
  go_enter Try.func26, Try.ntmps26
  go_wp2
  go_ret
  exact ⟨rfl, rfl⟩
theorem take_bad (w : World) (b base : Nat) (v : Value) (R : ByteArray) (l : List Tok) (n : Nat) (h : Rd w b base v R l) (hR : R.size ≤ 4611686018427387904) (hn : R.size < n) :
    Calls Try.prog 26 #[.pointer (some ⟨b, 0, none⟩), .int .i64 n] w (Bad w.heap.size w) := by
  obtain ⟨c0, c1, f0, f1, hl⟩ := h.cells
  have d : decide ((R.size : Int) < n) = true := decide_eq_true (by omega)
  go_enter Try.func26, Try.ntmps26
  go_wp2_with (go_at_call 36; refine (bad_calls _).mono ?_; rintro e w1 ⟨o, rfl, hb⟩)
  exact ⟨rfl, o, rfl, hb⟩

theorem info28 : (Try.prog.info? 28).map (fun i => (i.zero, i.size, i.bytes)) = some (some (.agg #[.int .i64 0, .string ⟨#[]⟩, .int .i64 0]), 3, 32) := by kernel_rfl
set_option maxHeartbeats 1000000 in
theorem add_calls (w : World) (b base : Nat) (v : Value) (R : ByteArray) (l : List Tok) (t : Tok) (h : Rd w b base v R l) (hl : l.length ≤ 1000000) :
    Calls Try.prog 28 #[.pointer (some ⟨b, 0, none⟩), .int .i64 t.kind, .string t.text, .int .i64 t.n] w fun e w' => e = .returned (.tuple #[]) ∧ (∃ v', Rd w' b base v' R (l ++ [t])) ∧ Below base w w' := by
  obtain ⟨c0, c1, f0, f1, hb⟩ := h.cells
  have hge := h.ge
  have hne := h.ne
  have hown := h.own
  have hbk := h.blk
  have HH := Lib.hid h
  clear h
  go_enter Try.func28, Try.ntmps28
  go_wp2_with (at_builtin; refine Go.Aids.append_cells (w0 := w) base rfl _ _ 23 28 (.agg #[.int .i64 0, .string ⟨#[]⟩, .int .i64 0]) 3 32 w.heap.size rfl Try.underlying23 info28 rfl (by decide) (by decide) v l.length (cellsOf l) [.int .i64 t.kind, .string t.text, .int .i64 t.n] rfl rfl rfl rfl (by simp [Value.oneCell']) hown (Below.refl _ _) (by omega) (by omega) ?_; intro v1 w1 hown1 hb1 hg1 hat1; have hbk1 := (hg1.block b hb hne).trans hbk; have k1 : w1.cell? ⟨b, 1, none⟩ = some v := (by simp [World.cell?, hbk1]); have q1 : w1.frozen? ⟨b, 1, none⟩ = false := (by simp [World.frozen?, hbk1]); clear hg1 hat1; obtain ⟨A1, n1, rfl⟩ := own_slice hown1)
  go_end0
  refine ⟨rfl, ⟨.slice A1 (l.length + 1) n1, ?_, ?_, hge⟩, hb1.setCell hge _⟩
  · simp [World.setCell, Array.getElem?_modify, hbk1]
  · have hne1 : some b ≠ (Value.slice A1 (l.length + 1) n1).ownBlock := own_ne hown1 hbk1 (by decide)
    rw [cellsOf_snoc, List.length_append]
    exact own_move hown1 fun k hk => Below.heap_setCell _ _ _ _ (by rintro rfl; exact hne1 hk.symm)

theorem badR_pred (w : World) : PredAt Try.prog 63 #[] encR badR w := fun W r _ => by
  unfold FnGives badR
  by_cases h1 : r < 33 <;> by_cases h2 : 126 < r
  all_goals
    have z1 : (r : Int) < 33 ↔ r < 33 := by omega
    have z2 : (126 : Int) < (r : Int) ↔ 126 < r := by omega
    go_enter Try.func63, Try.ntmps63
    go_wp2
    all_goals first | (exfalso; omega) | (go_ret; exact ⟨by simp [h1, h2], 0, rfl⟩)
theorem visible_calls (s : ByteArray) (w : World) : Calls Try.prog 61 #[.string s] w fun e w' => e = .returned (.bool (allSeen s 0 s.size)) ∧ Below w.heap.size w w' := by
  have hC := Try.strings_ContainsFunc 63 #[] (enters_of Try.func63 (by kernel_rfl) rfl) _ s w (badR_pred w)
  rw [← visible_iff]
  go_enter Try.func61, Try.ntmps61
  go_wp2_with (go_at_call 62; refine hC.mono ?_; rintro e w' ⟨rfl, hb⟩)
  go_ret
  exact ⟨rfl, hb⟩
def checkB (s : ByteArray) (least most : Nat) : Bool := decide (least ≤ s.size) && decide (s.size ≤ most) && allSeen s 0 s.size
theorem checked_ok (s : ByteArray) (least most : Nat) (w : World) (h : checkB s least most = true) :
    Calls Try.prog 54 #[.string s, .int .i64 least, .int .i64 most] w fun e w' => e = .returned (.string s) ∧ Below w.heap.size w w' := by
  unfold checkB at h
  simp only [Bool.and_eq_true, decide_eq_true_eq] at h
  obtain ⟨⟨h1, h2⟩, h3⟩ := h
  have HV := Lib.hid (fun W => visible_calls s W)
  rw [h3] at HV
  have d1 : decide (s.size < least) = false := decide_eq_false (by omega)
  have d2 : decide (most < s.size) = false := decide_eq_false (by omega)
  clear h3 h1 h2
  go_enter Try.func54, Try.ntmps54
  go_wp2_with (go_at_call 61; refine (HV.out _).mono ?_; rintro e w1 ⟨rfl, hb⟩)
  go_ret
  exact ⟨rfl, hb⟩
theorem checked_bad (s : ByteArray) (least most : Nat) (w : World) (h : checkB s least most = false) :
    Calls Try.prog 54 #[.string s, .int .i64 least, .int .i64 most] w (Bad w.heap.size w) := by
  unfold checkB at h
  by_cases h1 : least ≤ s.size
  · by_cases h2 : s.size ≤ most
    · have h3 : allSeen s 0 s.size = false := by
        rw [decide_eq_true h1, decide_eq_true h2] at h
        simpa using h
      have HV := Lib.hid (fun W => visible_calls s W)
      rw [h3] at HV
      have d1 : decide (s.size < least) = false := decide_eq_false (by omega)
      have d2 : decide (most < s.size) = false := decide_eq_false (by omega)
      clear h3 h1 h2 h
      go_enter Try.func54, Try.ntmps54
      go_wp2_with (first | (go_at_call 61; refine (HV.out _).mono ?_; rintro e w1 ⟨rfl, hb⟩) | (go_at_call 36; refine (bad_calls _).mono ?_; rintro e w2 ⟨o, rfl, hb2⟩))
      exact ⟨rfl, o, rfl, hb.trans (hb2.mono hb.size)⟩
    · have d1 : decide (s.size < least) = false := decide_eq_false (by omega)
      have d2 : decide (most < s.size) = true := decide_eq_true (by omega)
      clear h1 h2 h
      go_enter Try.func54, Try.ntmps54
      go_wp2_with (go_at_call 36; refine (bad_calls _).mono ?_; rintro e w2 ⟨o, rfl, hb2⟩)
      exact ⟨rfl, o, rfl, hb2⟩
  · have d1 : decide (s.size < least) = true := decide_eq_true (by omega)
    clear h1 h
    go_enter Try.func54, Try.ntmps54
    go_wp2_with (go_at_call 36; refine (bad_calls _).mono ?_; rintro e w2 ⟨o, rfl, hb2⟩)
    exact ⟨rfl, o, rfl, hb2⟩
end Go.Proofs.Ytaokofnhkojllaa

set_option linter.unusedVariables false
set_option linter.unusedSimpArgs false
namespace Go.Proofs.Ytaokofnhkojllaa
open Go.Shelf Go.RowKit Go.Lib Go.Aids Go.MapLit Go.Proofs.YtaokofnhkojllaaW.PrintWords

/-- The reader at a place of its line. -/
abbrev At (w : World) (b base : Nat) (v : Value) (s : ByteArray) (a : Nat) (l : List Tok) : Prop := Rd w b base v (s.extract a s.size) l
theorem At.set {w : World} {b base : Nat} {v : Value} {s : ByteArray} {a : Nat} {l : List Tok} (h : At w b base v s a l) (c : Nat) : At (w.setCell ⟨b, 0, none⟩ (.string (s.extract c s.size))) b base v s c l := Rd.set0 h _
theorem take_at {w : World} {b base : Nat} {v : Value} {s : ByteArray} {a : Nat} {l : List Tok} (n : Nat) (h : At w b base v s a l) (hs : s.size ≤ 1000000) (hn : a + n ≤ s.size) :
    Calls Try.prog 26 #[.pointer (some ⟨b, 0, none⟩), .int .i64 n] w fun e w' => e = .returned (.string (s.extract a (a + n))) ∧ At w' b base v s (a + n) l ∧ Below base w w' := by
  have hz := ext_size s a (by omega)
  refine (take_calls w b base v _ l n h (by omega) (by omega)).mono ?_
  rintro e w' ⟨rfl, rfl⟩
  rw [ext_ext s a 0 n hn, ext_ext s a n _ (by omega), hz, show a + (s.size - a) = s.size by omega]
  exact ⟨rfl, h.set (a + n), (Below.refl _ _).setCell h.ge _⟩
theorem take_off {w : World} {b base : Nat} {v : Value} {s : ByteArray} {a : Nat} {l : List Tok} (n : Nat) (h : At w b base v s a l) (hs : s.size ≤ 1000000) (ha : a ≤ s.size) (hn : s.size < a + n) :
    Calls Try.prog 26 #[.pointer (some ⟨b, 0, none⟩), .int .i64 n] w (Bad base w) := by
  have hz := ext_size s a ha
  refine (take_bad w b base v _ l n h (by omega) (by omega)).mono ?_
  rintro e w' ⟨o, rfl, hb⟩
  exact ⟨o, rfl, hb.mono (by have := h.ge; have := h.cells.2.2.2.2; omega)⟩

/-- What a reader of a text leaves. -/
def TxtP (b base : Nat) (s : ByteArray) (l : List Tok) (w : World) (o : Option (ByteArray × Nat)) (e : Ending) (w' : World) : Prop := match o with
  | some (t, a) => e = .returned (.string t) ∧ (∃ v, At w' b base v s a l) ∧ Below base w w'
  | none => Bad base w e w'

theorem u8_eq (c k : Nat) (hc : c < 256) (hk : k < 256) : (UInt8.ofNat c == UInt8.ofNat k) = decide (c = k) := by
  rw [Bool.eq_iff_iff, beq_iff_eq, decide_eq_true_eq]
  constructor
  · intro h
    have := congrArg UInt8.toNat h
    rw [UInt8.toNat_ofNat', UInt8.toNat_ofNat'] at this
    omega
  · rintro rfl; rfl
theorem u8_ne {c k : Nat} (hc : c < 256) (hk : k < 256) (h : c ≠ k) : (UInt8.ofNat c == UInt8.ofNat k) = false := by rw [u8_eq c k hc hk]; exact decide_eq_false h
theorem oneS_size (c : Nat) : (oneS c).size = 1 := rfl
theorem pk_one (c : Nat) (hc : c < 256) : pk (oneS c) 0 = c := by
  have : pk (oneS c) 0 = (UInt8.ofNat c).toNat := rfl
  rw [this, UInt8.toNat_ofNat']; omega
theorem check_one (c : Nat) (hc : c < 256) : checkB (oneS c) 1 1 = seenB c := by
  unfold checkB
  rw [oneS_size]
  simp only [Nat.le_refl, decide_true, Bool.true_and]
  unfold allSeen
  simp [pk_one c hc]
set_option maxHeartbeats 1000000 in
theorem name_other (w : World) (b base : Nat) (v : Value) (s : ByteArray) (a : Nat) (l : List Tok) (x y : Nat) (h : At w b base v s a l) (hs : s.size ≤ 1000000) (ha : a < s.size) (h1 : pk s a ≠ 40) (h2 : pk s a ≠ 91) :
    Calls Try.prog 40 #[.pointer (some ⟨b, 0, none⟩), .int .i64 x, .int .i64 y] w (TxtP b base s l w (if seenB (pk s a) = true then some (oneS (pk s a), a + 1) else none)) := by
  have HT := Lib.hid (take_at 1 h hs (by omega))
  rw [ext_one s a ha] at HT
  have hc := pk_256 s a
  have f1 : (UInt8.ofNat (pk s a) == 40) = false := u8_ne hc (by decide) h1
  have f2 : (UInt8.ofNat (pk s a) == 91) = false := u8_ne hc (by decide) h2
  have hk := check_one _ hc
  obtain ⟨c, hcc⟩ : ∃ c, pk s a = c := ⟨_, rfl⟩
  rw [hcc] at HT f1 f2 hk ⊢
  clear h1 h2 hc hcc
  rcases hq : seenB c with _ | _
  · rw [hq] at hk
    have HC := Lib.hid (fun W => checked_bad (oneS c) 1 1 W hk)
    rw [if_neg (by decide)]
    clear hk hq
    go_enter Try.func40, Try.ntmps40
    go_wp2_with fail
    refine HT.out.mono ?_
    rintro e w1 ⟨rfl, h1, b1⟩
    go_wp2_with fail
    refine (HC.out _).mono ?_
    rintro e w2 ⟨o, rfl, b2⟩
    exact ⟨rfl, o, rfl, b1.trans (b2.mono (by have := h1.ge; have := h1.cells.2.2.2.2; omega))⟩
  · rw [hq] at hk
    have HC := Lib.hid (fun W => checked_ok (oneS c) 1 1 W hk)
    rw [if_pos rfl]
    clear hk hq
    go_enter Try.func40, Try.ntmps40
    go_wp2_with fail
    refine HT.out.mono ?_
    rintro e w1 ⟨rfl, h1, b1⟩
    go_wp2_with fail
    refine (HC.out _).mono ?_
    rintro e w2 ⟨rfl, b2⟩
    go_wp2
    go_ret
    exact ⟨rfl, ⟨v, h1.below b2⟩, b1.trans (b2.mono (by have := h1.ge; have := h1.cells.2.2.2.2; omega))⟩
theorem check_two (s : ByteArray) (a : Nat) (h : a + 2 ≤ s.size) : checkB (s.extract a (a + 2)) 2 2 = allSeen s a (a + 2) := by
  have hz : (s.extract a (a + 2)).size = 2 := by rw [ByteArray.size_extract]; omega
  unfold checkB
  rw [hz]
  simp only [Nat.le_refl, decide_true, Bool.true_and]
  rw [Bool.eq_iff_iff, allSeen_iff, allSeen_iff]
  constructor
  · intro q k h1 h2
    have := q (k - a) (by omega) (by omega)
    rwa [pk_ext s a (a + 2) (k - a) (by omega) h, show a + (k - a) = k by omega] at this
  · intro q k h1 h2
    rw [pk_ext s a (a + 2) k (by omega) h]
    exact q (a + k) (by omega) (by omega)
set_option maxHeartbeats 1000000 in
theorem name_two (w : World) (b base : Nat) (v : Value) (s : ByteArray) (a : Nat) (l : List Tok) (x y : Nat) (h : At w b base v s a l) (hs : s.size ≤ 1000000) (h1 : pk s a = 40) :
    Calls Try.prog 40 #[.pointer (some ⟨b, 0, none⟩), .int .i64 x, .int .i64 y] w (TxtP b base s l w (twoM s (a + 1))) := by
  have ha : a < s.size := pk_lt (by omega)
  have HT := Lib.hid (take_at 1 h hs (by omega))
  rw [ext_one s a ha, h1] at HT
  clear h1
  unfold twoM
  by_cases h2 : a + 1 + 2 ≤ s.size
  · rcases hq : allSeen s (a + 1) (a + 1 + 2) with _ | _
    · rw [if_neg (by rintro ⟨-, h⟩; cases h)]
      have HC := Lib.hid (fun W => checked_bad (s.extract (a + 1) (a + 1 + 2)) 2 2 W (by rw [check_two s (a + 1) h2, hq]))
      clear hq
      go_enter Try.func40, Try.ntmps40
      go_wp2_with fail
      refine HT.out.mono ?_
      rintro e w1 ⟨rfl, h1, b1⟩
      go_wp2_with fail
      refine (take_at 2 h1 hs h2).mono ?_
      rintro e w2 ⟨rfl, h2', b2⟩
      go_wp2_with fail
      refine (HC.out _).mono ?_
      rintro e w3 ⟨o, rfl, b3⟩
      exact ⟨rfl, o, rfl, (b1.trans b2).trans (b3.mono (by have := h2'.ge; have := h2'.cells.2.2.2.2; omega))⟩
    · rw [if_pos ⟨h2, rfl⟩]
      have HC := Lib.hid (fun W => checked_ok (s.extract (a + 1) (a + 1 + 2)) 2 2 W (by rw [check_two s (a + 1) h2, hq]))
      clear hq
      go_enter Try.func40, Try.ntmps40
      go_wp2_with fail
      refine HT.out.mono ?_
      rintro e w1 ⟨rfl, h1, b1⟩
      go_wp2_with fail
      refine (take_at 2 h1 hs h2).mono ?_
      rintro e w2 ⟨rfl, h2', b2⟩
      go_wp2_with fail
      refine (HC.out _).mono ?_
      rintro e w3 ⟨rfl, b3⟩
      go_wp2
      go_ret
      exact ⟨rfl, ⟨v, h2'.below b3⟩, (b1.trans b2).trans (b3.mono (by have := h2'.ge; have := h2'.cells.2.2.2.2; omega))⟩
  · rw [if_neg (fun h => h2 h.1)]
    go_enter Try.func40, Try.ntmps40
    go_wp2_with fail
    refine HT.out.mono ?_
    rintro e w1 ⟨rfl, h1, b1⟩
    go_wp2_with fail
    refine (take_off 2 h1 hs (by omega) (by omega)).mono ?_
    rintro e w2 ⟨o, rfl, b2⟩
    exact ⟨rfl, o, rfl, b1.trans b2⟩
end Go.Proofs.Ytaokofnhkojllaa

set_option linter.unusedVariables false
set_option linter.unusedSimpArgs false
namespace Go.Proofs.Ytaokofnhkojllaa
open Go.Lib

theorem list_pk (s : ByteArray) (k c : Nat) (hc : c < 256) : s.data.toList[k]? = some (UInt8.ofNat c) ↔ (k < s.size ∧ pk s k = c) := by
  by_cases h : k < s.size
  · have hl : k < s.data.toList.length := by rw [Array.length_toList]; exact h
    rw [List.getElem?_eq_getElem hl, get_data s k h]
    constructor
    · intro e
      injection e with e
      refine ⟨h, ?_⟩
      have := congrArg UInt8.toNat e
      rw [UInt8.toNat_ofNat', UInt8.toNat_ofNat'] at this
      have := pk_256 s k
      omega
    · rintro ⟨-, e⟩; rw [e]
  · have hl : ¬ k < s.data.toList.length := by rw [Array.length_toList]; exact h
    rw [List.getElem?_eq_none (by omega)]
    constructor
    · intro e; cases e
    · rintro ⟨e, -⟩; exact absurd e h
/-- strings.IndexByte of what stands behind a place. -/
theorem index_rest (s : ByteArray) (a c : Nat) (ha : a ≤ s.size) (hc : c < 256) :
    Lib.indexByte (s.extract a s.size).data.toList (UInt8.ofNat c) = if findB s a c < s.size then ((findB s a c - a : Nat) : Int) else -1 := by
  have hb := findB_le s a c ha
  have hz := ext_size s a ha
  have hk : ∀ k, (s.extract a s.size).data.toList[k]? = some (UInt8.ofNat c) ↔ (a + k < s.size ∧ pk s (a + k) = c) := by
    intro k
    rw [list_pk _ _ _ hc, hz]
    constructor
    · rintro ⟨h1, h2⟩
      rw [pk_ext s a s.size k (by omega) (Nat.le_refl _)] at h2
      exact ⟨by omega, h2⟩
    · rintro ⟨h1, h2⟩
      rw [pk_ext s a s.size k (by omega) (Nat.le_refl _)]
      exact ⟨by omega, h2⟩
  have hge := Lib.indexByte_ge (s.extract a s.size).data.toList (UInt8.ofNat c)
  by_cases hf : findB s a c < s.size
  · rw [if_pos hf]
    have hat := findB_at s a c hf ha
    by_cases hm : Lib.indexByte (s.extract a s.size).data.toList (UInt8.ofNat c) = -1
    · exfalso
      have := Lib.indexByte_none hm (findB s a c - a)
      exact this ((hk _).2 ⟨by omega, by rw [show a + (findB s a c - a) = findB s a c by omega]; exact hat⟩)
    · obtain ⟨o, ho⟩ : ∃ o : Nat, Lib.indexByte (s.extract a s.size).data.toList (UInt8.ofNat c) = o := ⟨(Lib.indexByte (s.extract a s.size).data.toList (UInt8.ofNat c)).toNat, by omega⟩
      obtain ⟨h1, h2⟩ := Lib.indexByte_some ho
      obtain ⟨h3, h4⟩ := (hk o).1 h1
      have : findB s a c = a + o := findB_is s a c (a + o) (by omega) (by omega) (fun k q1 q2 e => h2 (k - a) (by omega) ((hk _).2 ⟨by omega, by rw [show a + (k - a) = k by omega]; exact e⟩)) (fun _ => h4)
      rw [ho, this]
      omega
  · rw [if_neg hf]
    by_cases hm : Lib.indexByte (s.extract a s.size).data.toList (UInt8.ofNat c) = -1
    · exact hm
    · exfalso
      obtain ⟨o, ho⟩ : ∃ o : Nat, Lib.indexByte (s.extract a s.size).data.toList (UInt8.ofNat c) = o := ⟨(Lib.indexByte (s.extract a s.size).data.toList (UInt8.ofNat c)).toNat, by omega⟩
      obtain ⟨h1, h2⟩ := Lib.indexByte_some ho
      obtain ⟨h3, h4⟩ := (hk o).1 h1
      exact findB_not s a c (a + o) (by omega) (by omega) h4
theorem ext_all (s : ByteArray) : s.extract 0 s.size = s := by
  apply ba_eq
  rw [ext_list, List.drop_zero, List.take_of_length_le (by rw [Array.length_toList]; exact Nat.le_refl _)]
theorem index_whole (s : ByteArray) (c : Nat) (hc : c < 256) : Lib.indexByte s.data.toList (UInt8.ofNat c) = if findB s 0 c < s.size then ((findB s 0 c : Nat) : Int) else -1 := by
  have := index_rest s 0 c (Nat.zero_le _) hc
  rw [ext_all] at this
  exact this
theorem check_seg (s : ByteArray) (a e x y : Nat) (h1 : a ≤ e) (h2 : e ≤ s.size) : checkB (s.extract a e) x y = (decide (x ≤ e - a) && decide (e - a ≤ y) && allSeen s a e) := by
  have hz : (s.extract a e).size = e - a := by rw [ByteArray.size_extract]; omega
  unfold checkB
  rw [hz]
  congr 1
  rw [Bool.eq_iff_iff, allSeen_iff, allSeen_iff]
  constructor
  · intro q k h3 h4
    have := q (k - a) (by omega) (by omega)
    rwa [pk_ext s a e (k - a) (by omega) h2, show a + (k - a) = k by omega] at this
  · intro q k h3 h4
    rw [pk_ext s a e k (by omega) h2]
    exact q (a + k) (by omega) (by omega)
end Go.Proofs.Ytaokofnhkojllaa

set_option linter.unusedVariables false
set_option linter.unusedSimpArgs false
namespace Go.Proofs.Ytaokofnhkojllaa
open Go.Shelf Go.RowKit Go.Lib Go.Aids Go.MapLit Go.Proofs.YtaokofnhkojllaaW.PrintWords

theorem Rd.top {w : World} {b base : Nat} {v : Value} {rest : ByteArray} {l : List Tok} (h : Rd w b base v rest l) : base ≤ w.heap.size := by
  have := h.ge; have := h.cells.2.2.2.2; omega
theorem ibyte_calls (R : ByteArray) (c : Nat) (hc : c < 256) (i : Int) (w : World) (hi : Lib.indexByte R.data.toList (UInt8.ofNat c) = i) :
    Calls Try.prog 55 #[.string R, .int .u8 c] w fun e w' => e = .returned (.int .i64 i) ∧ w = w' := by
  refine (Try.strings_IndexByte R c w).mono ?_
  rintro e w' ⟨rfl, rfl⟩
  refine ⟨?_, rfl⟩
  rw [← hi, show ((c : Int)).toNat.toUInt8 = UInt8.ofNat c from rfl]
set_option maxHeartbeats 1000000 in
theorem name_bracket (w : World) (b base : Nat) (v : Value) (s : ByteArray) (a : Nat) (l : List Tok) (x y : Nat) (h : At w b base v s a l) (hs : s.size ≤ 1000000) (h1 : pk s a = 91) :
    Calls Try.prog 40 #[.pointer (some ⟨b, 0, none⟩), .int .i64 x, .int .i64 y] w (TxtP b base s l w (bracketM x y s (a + 1))) := by
  have ha : a < s.size := pk_lt (by omega)
  have HT := Lib.hid (take_at 1 h hs (by omega))
  rw [ext_one s a ha, h1] at HT
  clear h1
  unfold bracketM
  simp only
  have hE := findB_le s (a + 1) 93 (by omega)
  have hI := index_rest s (a + 1) 93 (by omega) (by decide)
  obtain ⟨E, hEE⟩ : ∃ E, findB s (a + 1) 93 = E := ⟨_, rfl⟩
  rw [hEE] at hE hI ⊢
  clear hEE
  have hz := ext_size s (a + 1) (by omega)
  by_cases hlt : E < s.size
  · obtain ⟨k, rfl⟩ : ∃ k, E = a + 1 + k := ⟨E - (a + 1), by omega⟩
    rw [if_pos hlt, show a + 1 + k - (a + 1) = k by omega] at hI
    have HI := Lib.hid (fun W => ibyte_calls _ 93 (by decide) _ W hI)
    have hck := check_seg s (a + 1) (a + 1 + k) x y (by omega) (by omega)
    rw [show a + 1 + k - (a + 1) = k by omega] at hck ⊢
    rw [← ext_ext s (a + 1) 0 k (by omega)] at hck
    have hkz : (k : Int) ≤ (s.extract (a + 1) s.size).size := by rw [hz]; omega
    have hcut := ext_ext s (a + 1) 0 k (by omega)
    rw [Nat.add_zero] at hcut
    by_cases hok : x ≤ k ∧ k ≤ y ∧ allSeen s (a + 1) (a + 1 + k) = true
    · rw [if_pos ⟨hlt, hok⟩]
      have HC := Lib.hid (fun W => checked_ok ((s.extract (a + 1) s.size).extract 0 k) x y W (by rw [hck, decide_eq_true hok.1, decide_eq_true hok.2.1, hok.2.2]; rfl))
      have Hcut := Lib.hid hcut
      have Hz := Lib.hid hz
      clear hck hok hI hz hcut
      go_enter Try.func40, Try.ntmps40
      go_wp2_with fail
      refine HT.out.mono ?_
      rintro e w1 ⟨rfl, h1, b1⟩
      obtain ⟨c0, -, -, -, cl⟩ := h1.cells
      go_wp2_with fail
      refine (HI.out _).mono ?_
      rintro e w2 ⟨rfl, rfl⟩
      go_wp2_with fail
      refine (HC.out _).mono ?_
      rintro e w3 ⟨rfl, b3⟩
      have h3 := h1.below b3
      have B3 := b1.trans (b3.mono h1.top)
      clear c0 cl b3
      go_wp2_with fail
      refine (take_at (k + 1) h3 hs (by omega)).mono ?_
      rintro e w4 ⟨rfl, h4, b4⟩
      go_wp2
      go_ret
      rw [Hcut.out]
      exact ⟨rfl, ⟨v, h4⟩, B3.trans b4⟩
    · rw [if_neg (fun h => hok h.2)]
      have HC := Lib.hid (fun W => checked_bad ((s.extract (a + 1) s.size).extract 0 k) x y W (by
        rw [hck, Bool.eq_false_iff]
        intro e
        simp only [Bool.and_eq_true, decide_eq_true_eq] at e
        exact hok ⟨e.1.1, e.1.2, e.2⟩))
      have Hz := Lib.hid hz
      clear hck hok hI hz hcut
      go_enter Try.func40, Try.ntmps40
      go_wp2_with fail
      refine HT.out.mono ?_
      rintro e w1 ⟨rfl, h1, b1⟩
      obtain ⟨c0, -, -, -, cl⟩ := h1.cells
      go_wp2_with fail
      refine (HI.out _).mono ?_
      rintro e w2 ⟨rfl, rfl⟩
      go_wp2_with fail
      refine (HC.out _).mono ?_
      rintro e w3 ⟨o, rfl, b3⟩
      exact ⟨rfl, o, rfl, b1.trans (b3.mono h1.top)⟩
  · rw [if_neg hlt] at hI
    rw [if_neg (fun h => hlt h.1)]
    have HI := Lib.hid (fun W => ibyte_calls _ 93 (by decide) _ W hI)
    have Hz := Lib.hid hz
    clear hI hz
    go_enter Try.func40, Try.ntmps40
    go_wp2_with fail
    refine HT.out.mono ?_
    rintro e w1 ⟨rfl, h1, b1⟩
    obtain ⟨c0, -, -, -, cl⟩ := h1.cells
    go_wp2_with fail
    refine (HI.out _).mono ?_
    rintro e w2 ⟨rfl, rfl⟩
    go_wp2_with fail
    refine (bad_calls _).mono ?_
    rintro e w3 ⟨o, rfl, b3⟩
    exact ⟨rfl, o, rfl, b1.trans (b3.mono h1.top)⟩
set_option maxHeartbeats 1000000 in
theorem name_end (w : World) (b base : Nat) (v : Value) (s : ByteArray) (a : Nat) (l : List Tok) (x y : Nat) (h : At w b base v s a l) (hs : s.size ≤ 1000000) (ha : a ≤ s.size) (h1 : s.size < a + 1) :
    Calls Try.prog 40 #[.pointer (some ⟨b, 0, none⟩), .int .i64 x, .int .i64 y] w (Bad base w) := by
  have HT := Lib.hid (take_off 1 h hs ha h1)
  go_enter Try.func40, Try.ntmps40
  go_wp2_with fail
  refine HT.out.mono ?_
  rintro e w1 ⟨o, rfl, b1⟩
  exact ⟨rfl, o, rfl, b1⟩
theorem name_calls (w : World) (b base : Nat) (v : Value) (s : ByteArray) (a : Nat) (l : List Tok) (x y : Nat) (h : At w b base v s a l) (hs : s.size ≤ 1000000) (ha : a ≤ s.size) :
    Calls Try.prog 40 #[.pointer (some ⟨b, 0, none⟩), .int .i64 x, .int .i64 y] w (TxtP b base s l w (nameM x y s a)) := by
  unfold nameM
  by_cases h1 : pk s a = 40
  · rw [if_pos h1]; exact name_two w b base v s a l x y h hs h1
  · rw [if_neg h1]
    by_cases h2 : pk s a = 91
    · rw [if_pos h2]; exact name_bracket w b base v s a l x y h hs h2
    · rw [if_neg h2]
      by_cases hlt : a < s.size
      · exact name_other w b base v s a l x y h hs hlt h1 h2
      · have hz : pk s a = 0 := by unfold pk; rw [dif_neg hlt]
        rw [hz, if_neg (by decide)]
        exact name_end w b base v s a l x y h hs ha (by omega)

set_option maxHeartbeats 1000000 in
theorem quoted_calls (w : World) (b base : Nat) (v : Value) (s : ByteArray) (a : Nat) (l : List Tok) (h : At w b base v s a l) (hs : s.size ≤ 1000000) (ha : a ≤ s.size) :
    Calls Try.prog 39 #[.pointer (some ⟨b, 0, none⟩)] w (TxtP b base s l w (quotedM s a)) := by
  unfold quotedM
  by_cases hlt : a < s.size
  · have HT := Lib.hid (take_at 1 h hs (by omega))
    rw [ext_one s a hlt] at HT
    have hc := pk_256 s a
    simp only
    have hE := findB_le s (a + 1) (pk s a) (by omega)
    have hI := index_rest s (a + 1) (pk s a) (by omega) hc
    obtain ⟨c, hcc⟩ : ∃ c, pk s a = c := ⟨_, rfl⟩
    rw [hcc] at HT hc hE hI ⊢
    clear hcc
    by_cases h32 : c = 32
    · subst h32
      rw [if_neg (fun h => h.2.1 rfl)]
      clear hI hE
      go_enter Try.func39, Try.ntmps39
      go_wp2_with fail
      refine HT.out.mono ?_
      rintro e w1 ⟨rfl, h1, b1⟩
      go_wp2_with fail
      refine (bad_calls _).mono ?_
      rintro e w3 ⟨o, rfl, b3⟩
      exact ⟨rfl, o, rfl, b1.trans (b3.mono h1.top)⟩
    by_cases h9 : c = 9
    · subst h9
      rw [if_neg (fun h => h.2.2 rfl)]
      clear hI hE
      go_enter Try.func39, Try.ntmps39
      go_wp2_with fail
      refine HT.out.mono ?_
      rintro e w1 ⟨rfl, h1, b1⟩
      go_wp2_with fail
      refine (bad_calls _).mono ?_
      rintro e w3 ⟨o, rfl, b3⟩
      exact ⟨rfl, o, rfl, b1.trans (b3.mono h1.top)⟩
    rw [if_pos ⟨hlt, h32, h9⟩]
    have f1 : (UInt8.ofNat c == 32) = false := u8_ne hc (by decide) h32
    have f2 : (UInt8.ofNat c == 9) = false := u8_ne hc (by decide) h9
    obtain ⟨E, hEE⟩ : ∃ E, findB s (a + 1) c = E := ⟨_, rfl⟩
    rw [hEE] at hE hI ⊢
    clear hEE h32 h9
    have hz := ext_size s (a + 1) (by omega)
    by_cases hEl : E < s.size
    · obtain ⟨k, rfl⟩ : ∃ k, E = a + 1 + k := ⟨E - (a + 1), by omega⟩
      rw [if_pos hEl, show a + 1 + k - (a + 1) = k by omega] at hI
      rw [if_pos hEl]
      have hkz : (k : Int) ≤ (s.extract (a + 1) s.size).size := by rw [hz]; omega
      have hcut := ext_ext s (a + 1) 0 k (by omega)
      rw [Nat.add_zero] at hcut
      have HI := Lib.hid (fun W => Try.strings_Index_one (s.extract (a + 1) s.size) (UInt8.ofNat c) W)
      rw [hI] at HI
      have Hcut := Lib.hid hcut
      have Hz := Lib.hid hz
      clear hI hz hcut
      go_enter Try.func39, Try.ntmps39
      go_wp2_with fail
      refine HT.out.mono ?_
      rintro e w1 ⟨rfl, h1, b1⟩
      obtain ⟨c0, -, -, -, cl⟩ := h1.cells
      go_wp2_with fail
      refine (HI.out _).mono ?_
      rintro e w2 ⟨rfl, hw2⟩
      subst hw2
      go_wp2_with fail
      refine (take_at (k + 1) h1 hs (by omega)).mono ?_
      rintro e w4 ⟨rfl, h4, b4⟩
      go_wp2
      go_ret
      rw [Hcut.out]
      exact ⟨rfl, ⟨v, h4⟩, b1.trans b4⟩
    · rw [if_neg hEl] at hI
      rw [if_neg hEl]
      have HI := Lib.hid (fun W => Try.strings_Index_one (s.extract (a + 1) s.size) (UInt8.ofNat c) W)
      rw [hI] at HI
      have Hz := Lib.hid hz
      clear hI hz
      go_enter Try.func39, Try.ntmps39
      go_wp2_with fail
      refine HT.out.mono ?_
      rintro e w1 ⟨rfl, h1, b1⟩
      obtain ⟨c0, -, -, -, cl⟩ := h1.cells
      go_wp2_with fail
      refine (HI.out _).mono ?_
      rintro e w2 ⟨rfl, hw2⟩
      subst hw2
      go_wp2_with fail
      refine (bad_calls _).mono ?_
      rintro e w3 ⟨o, rfl, b3⟩
      exact ⟨rfl, o, rfl, b1.trans (b3.mono h1.top)⟩
  · rw [if_neg (fun h => hlt h.1)]
    have HT := Lib.hid (take_off 1 h hs ha (by omega))
    go_enter Try.func39, Try.ntmps39
    go_wp2_with fail
    refine HT.out.mono ?_
    rintro e w1 ⟨o, rfl, b1⟩
    exact ⟨rfl, o, rfl, b1⟩
end Go.Proofs.Ytaokofnhkojllaa

set_option linter.unusedVariables false
set_option linter.unusedSimpArgs false
namespace Go.Proofs.Ytaokofnhkojllaa
open Go.Shelf Go.RowKit Go.Lib Go.Aids Go.MapLit Go.Proofs.YtaokofnhkojllaaW.PrintWords

/-- So many digits from a place on. -/
def rowF (s : ByteArray) : Nat → Nat → Nat → Option Nat
  | 0, x, _ => some x
  | f + 1, x, a => if digB (pk s a) = true then rowF s f (x * 10 + (pk s a - 48)) (a + 1) else none
def NumP (b base : Nat) (s : ByteArray) (l : List Tok) (w : World) (o : Option Nat) (a : Nat) (e : Ending) (w' : World) : Prop := match o with
  | some x => e = .returned (.int .i64 x) ∧ (∃ v, At w' b base v s a l) ∧ Below base w w'
  | none => Bad base w e w'
set_option maxHeartbeats 2000000 in
theorem row_calls (w : World) (b base : Nat) (v : Value) (s : ByteArray) (a : Nat) (l : List Tok) (n : Nat) (h : At w b base v s a l) (hs : s.size ≤ 1000000) (hn : a + n ≤ s.size) (h9 : n ≤ 9) :
    Calls Try.prog 56 #[.pointer (some ⟨b, 0, none⟩), .int .i64 n] w (NumP b base s l w (rowF s n 0 a) (a + n)) := by
  have HT := Lib.hid (take_at n h hs hn)
  obtain ⟨R, hR⟩ : ∃ R, rowF s n 0 a = R := ⟨_, rfl⟩
  rw [hR]
  have HR := Lib.hid hR
  have hz : (s.extract a (a + n)).size = n := by rw [ByteArray.size_extract]; omega
  have hg : ∀ j, j < n → ((s.extract a (a + n)).data.toList.getD j 0).toNat = pk s (a + j) := by
    intro j hj
    have hl : j < (s.extract a (a + n)).data.toList.length := by rw [Array.length_toList]; exact Nat.lt_of_lt_of_eq hj hz.symm
    rw [List.getD_eq_getElem?_getD, List.getElem?_eq_getElem hl, get_data _ _ (by omega), pk_ext s a (a + n) j (by omega) hn]
    show (UInt8.ofNat (pk s (a + j))).toNat = pk s (a + j)
    have := pk_256 s (a + j)
    rw [UInt8.toNat_ofNat']; omega
  obtain ⟨T, hT⟩ : ∃ T, s.extract a (a + n) = T := ⟨_, rfl⟩
  rw [hT] at HT hz hg
  have HG := Lib.hid hg
  have Hz := Lib.hid hz
  clear hR hT hg
  go_enter Try.func56, Try.ntmps56
  go_wp2_with fail
  refine HT.out.mono ?_
  rintro e w1 ⟨rfl, h1, b1⟩
  go_wp2_with (refine wpList_bytes rfl _ 9 30 5 rfl Try.underlying9 Try.underlying30 Try.underlying5 T rfl ?_; intro w2 c b2 hw2 hcells; have h2 := h1.below b2; have B2 := b1.trans (b2.mono h1.top); clear b2)
  obtain ⟨B, hB⟩ : ∃ B, w1.heap.size = B := ⟨_, rfl⟩
  rw [hB] at hcells hw2
  have HC : Hid (∀ j, j < n → w2.cell? ⟨B, j, none⟩ = some (.int .u8 (pk s (a + j)))) := Lib.hid fun j hj => by rw [hcells j (by rw [Hz.out]; exact hj), HG.out j hj]
  rw [hB]
  clear hcells hB
  go_loop [5, 13] (fun x i => ∃ k X : Nat, i = .int .i64 k ∧ x = .int .i64 X ∧ k ≤ n ∧ X < 10 ^ k ∧ Hid (rowF s (n - k) X (a + k) = R)) (fun _ i => n - (RowKit.intOf i).toNat)
  case atStart => exact ⟨0, 0, rfl, rfl, Nat.zero_le _, by decide, HR⟩
  case round =>
    obtain ⟨k, X, rfl, rfl, hk, hX, H⟩ := hrel
    have hX9 : X < 1000000000 := Nat.lt_of_lt_of_le hX (by
      have : 10 ^ k ≤ 10 ^ 9 := Nat.pow_le_pow_right (by decide) (by omega)
      simpa using this)
    by_cases hlt : k < n
    · have hcell := HC.out k hlt
      have hBl : B < w2.heap.size := by omega
      have hr := H.out
      rw [show n - k = (n - (k + 1)) + 1 by omega, rowF] at hr
      have hc := pk_256 s (a + k)
      obtain ⟨c, hcc⟩ : ∃ c, pk s (a + k) = c := ⟨_, rfl⟩
      rw [hcc] at hcell hr hc
      clear hcc H
      by_cases hd : 48 ≤ c ∧ c ≤ 57
      · have hd2 : digB c = true := decide_eq_true hd
        rw [if_pos hd2] at hr
        have hp1 : (48 : Int) ≤ c := by omega
        have hp2 : (c : Int) ≤ 57 := by omega
        have hwp : IntKind.u8.wrap ((c : Int) - 48) = (c : Int) - 48 := IntWalk.u8_in _ (by omega)
        have HH := Lib.hid hr
        have hX2 : X * 10 + (c - 48) < 10 ^ (k + 1) := by rw [Nat.pow_succ]; omega
        have HX2 := Lib.hid hX2
        clear hr hd hd2 hX hX2
        go_wp2
        go_round
        case rel => exact ⟨k + 1, X * 10 + (c - 48), by go_num, by go_num, by omega, HX2.out, HH⟩
        case measure => simp [RowKit.intOf]; omega
      · have hd2 : ¬ digB c = true := by unfold digB; rw [decide_eq_true_eq]; exact hd
        rw [if_neg hd2] at hr
        subst hr
        by_cases h48 : c < 48
        · have d1 : decide ((c : Int) < 48) = true := decide_eq_true (by omega)
          clear hd hd2
          go_wp2_with (go_at_call 36; refine (bad_calls _).mono ?_; rintro e w3 ⟨o, rfl, b3⟩)
          exact ⟨rfl, o, rfl, B2.trans (b3.mono h2.top)⟩
        · have d1 : decide ((c : Int) < 48) = false := decide_eq_false (by omega)
          have d2 : decide ((57 : Int) < c) = true := decide_eq_true (by omega)
          clear hd hd2
          go_wp2_with (go_at_call 36; refine (bad_calls _).mono ?_; rintro e w3 ⟨o, rfl, b3⟩)
          exact ⟨rfl, o, rfl, B2.trans (b3.mono h2.top)⟩
    · obtain rfl : k = n := by omega
      have hr := H.out
      rw [Nat.sub_self, rowF] at hr
      subst hr
      go_wp2
      go_ret
      exact ⟨rfl, ⟨v, h2⟩, B2⟩
theorem row_off (w : World) (b base : Nat) (v : Value) (s : ByteArray) (a : Nat) (l : List Tok) (n : Nat) (h : At w b base v s a l) (hs : s.size ≤ 1000000) (ha : a ≤ s.size) (hn : s.size < a + n) :
    Calls Try.prog 56 #[.pointer (some ⟨b, 0, none⟩), .int .i64 n] w (Bad base w) := by
  have HT := Lib.hid (take_off n h hs ha hn)
  go_enter Try.func56, Try.ntmps56
  go_wp2_with fail
  refine HT.out.mono ?_
  rintro e w1 ⟨o, rfl, b1⟩
  exact ⟨rfl, o, rfl, b1⟩
end Go.Proofs.Ytaokofnhkojllaa

set_option linter.unusedVariables false
set_option linter.unusedSimpArgs false
namespace Go.Proofs.Ytaokofnhkojllaa
open Go.Shelf Go.RowKit Go.Lib Go.Aids Go.MapLit Go.Proofs.YtaokofnhkojllaaW.PrintWords

def SizeP (b base : Nat) (s : ByteArray) (l : List Tok) (w : World) (o : Option (ByteArray × Nat × Nat)) (e : Ending) (w' : World) : Prop := match o with
  | some (t, n, a) => e = .returned (.tuple #[]) ∧ (∃ v, At w' b base v s a (l ++ [⟨11, t, n⟩])) ∧ Below base w w'
  | none => Bad base w e w'
theorem rest_at (s : ByteArray) (a k : Nat) (h : a + k < s.size) : ∃ hk : k < (s.extract a s.size).size, ((s.extract a s.size)[k]'hk).toNat = pk s (a + k) := by
  have hz : k < (s.extract a s.size).size := by rw [ByteArray.size_extract]; omega
  refine ⟨hz, ?_⟩
  rw [← pk_get _ _ hz, pk_ext s a s.size k h (Nat.le_refl _)]
theorem add_at (w : World) (b base : Nat) (v : Value) (s : ByteArray) (a : Nat) (l : List Tok) (k : Int) (t : ByteArray) (n : Int) (h : At w b base v s a l) (hl : l.length ≤ 1000000) :
    Calls Try.prog 28 #[.pointer (some ⟨b, 0, none⟩), .int .i64 k, .string t, .int .i64 n] w fun e w' => e = .returned (.tuple #[]) ∧ (∃ v', At w' b base v' s a (l ++ [⟨k, t, n⟩])) ∧ Below base w w' :=
  add_calls w b base v _ l ⟨k, t, n⟩ h hl
theorem rowF_one (s : ByteArray) (a : Nat) : rowF s 1 0 a = if digB (pk s a) = true then some (pk s a - 48) else none := by
  simp only [rowF]
  split
  · simp
  · rfl
theorem rowF_two (s : ByteArray) (a : Nat) : rowF s 2 0 a = if digB (pk s a) = true ∧ digB (pk s (a + 1)) = true then some ((pk s a - 48) * 10 + (pk s (a + 1) - 48)) else none := by
  simp only [rowF]
  by_cases h1 : digB (pk s a) = true
  · rw [if_pos h1]
    by_cases h2 : digB (pk s (a + 1)) = true
    · rw [if_pos h2, if_pos ⟨h1, h2⟩]; simp
    · rw [if_neg h2, if_neg (fun h => h2 h.2)]
  · rw [if_neg h1, if_neg (fun h => h1 h.1)]
/-- A row of so many digits, whether they are there or not. -/
theorem row_at (w : World) (b base : Nat) (v : Value) (s : ByteArray) (a : Nat) (l : List Tok) (n : Nat) (h : At w b base v s a l) (hs : s.size ≤ 1000000) (ha : a ≤ s.size) (h9 : n ≤ 9) (R : Option Nat) (hR : R = if a + n ≤ s.size then rowF s n 0 a else none) :
    Calls Try.prog 56 #[.pointer (some ⟨b, 0, none⟩), .int .i64 n] w (NumP b base s l w R (a + n)) := by
  rw [hR]
  by_cases hn : a + n ≤ s.size
  · rw [if_pos hn]; exact row_calls w b base v s a l n h hs hn h9
  · rw [if_neg hn]; exact row_off w b base v s a l n h hs ha (by omega)
def tok11 (t : ByteArray) (a : Nat) : Option Nat → Option (ByteArray × Nat × Nat)
  | some x => some (t, x, a)
  | none => none

set_option maxHeartbeats 2000000 in
theorem size_sign43 (w : World) (b base : Nat) (v : Value) (s : ByteArray) (a : Nat) (l : List Tok) (h : At w b base v s a l) (hs : s.size ≤ 1000000) (hl : l.length ≤ 1000000) (ha : a < s.size) (h0 : pk s a = 43) (R : Option Nat) (hR : R = if a + 1 + 1 ≤ s.size then rowF s 1 0 (a + 1) else none) :
    Calls Try.prog 41 #[.pointer (some ⟨b, 0, none⟩)] w (SizeP b base s l w (tok11 (oneS 43) (a + 2) R)) := by
  obtain ⟨i0, x0⟩ := rest_at s a 0 (by omega)
  rw [Nat.add_zero] at x0
  have hz := ext_size s a (by omega)
  have z1 : (0 : Int) < (s.extract a s.size).size := by omega
  have e0 : (s.extract a s.size).toList.isEmpty = false := by
    rw [Lib.toList_data]
    have : 0 < (s.extract a s.size).data.toList.length := by rw [Array.length_toList]; exact i0
    cases hq : (s.extract a s.size).data.toList with
    | nil => rw [hq] at this; cases this
    | cons _ _ => rfl
  rw [h0] at x0
  have HT := Lib.hid (take_at 1 h hs (by omega))
  rw [ext_one s a ha, h0] at HT
  have hh := h
  obtain ⟨c0, -, -, -, cl⟩ := h.cells
  have HR := Lib.hid hR
  have Hz := Lib.hid hz
  clear hz hR
  have HX0 := x0
  clear x0
  go_enter Try.func41, Try.ntmps41
  go_wp2_with fail
  refine HT.out.mono ?_
  rintro e w1 ⟨rfl, h1, b1⟩
  clear c0 cl
  go_wp2_with fail
  refine (row_at _ b base v s (a + 1) l 1 h1 hs (by omega) (by decide) R HR.out).mono ?_
  rcases R with _ | x
  · rintro e w2 ⟨o, rfl, b2⟩
    exact ⟨rfl, o, rfl, b1.trans b2⟩
  · rintro e w2 ⟨rfl, ⟨v2, h2⟩, b2⟩
    go_wp2_with fail
    refine (add_at _ b base v2 s _ l 11 (oneS 43) x h2 hl).mono ?_
    rintro e w3 ⟨rfl, ⟨v3, h3⟩, b3⟩
    go_wp2
    go_end0
    exact ⟨rfl, ⟨v3, h3⟩, (b1.trans b2).trans b3⟩
set_option maxHeartbeats 2000000 in
theorem size_sign45 (w : World) (b base : Nat) (v : Value) (s : ByteArray) (a : Nat) (l : List Tok) (h : At w b base v s a l) (hs : s.size ≤ 1000000) (hl : l.length ≤ 1000000) (ha : a < s.size) (h0 : pk s a = 45) (R : Option Nat) (hR : R = if a + 1 + 1 ≤ s.size then rowF s 1 0 (a + 1) else none) :
    Calls Try.prog 41 #[.pointer (some ⟨b, 0, none⟩)] w (SizeP b base s l w (tok11 (oneS 45) (a + 2) R)) := by
  obtain ⟨i0, x0⟩ := rest_at s a 0 (by omega)
  rw [Nat.add_zero] at x0
  have hz := ext_size s a (by omega)
  have z1 : (0 : Int) < (s.extract a s.size).size := by omega
  have e0 : (s.extract a s.size).toList.isEmpty = false := by
    rw [Lib.toList_data]
    have : 0 < (s.extract a s.size).data.toList.length := by rw [Array.length_toList]; exact i0
    cases hq : (s.extract a s.size).data.toList with
    | nil => rw [hq] at this; cases this
    | cons _ _ => rfl
  rw [h0] at x0
  have HT := Lib.hid (take_at 1 h hs (by omega))
  rw [ext_one s a ha, h0] at HT
  have hh := h
  obtain ⟨c0, -, -, -, cl⟩ := h.cells
  have HR := Lib.hid hR
  have Hz := Lib.hid hz
  clear hz hR
  have HX0 := x0
  clear x0
  go_enter Try.func41, Try.ntmps41
  go_wp2_with fail
  refine HT.out.mono ?_
  rintro e w1 ⟨rfl, h1, b1⟩
  clear c0 cl
  go_wp2_with fail
  refine (row_at _ b base v s (a + 1) l 1 h1 hs (by omega) (by decide) R HR.out).mono ?_
  rcases R with _ | x
  · rintro e w2 ⟨o, rfl, b2⟩
    exact ⟨rfl, o, rfl, b1.trans b2⟩
  · rintro e w2 ⟨rfl, ⟨v2, h2⟩, b2⟩
    go_wp2_with fail
    refine (add_at _ b base v2 s _ l 11 (oneS 45) x h2 hl).mono ?_
    rintro e w3 ⟨rfl, ⟨v3, h3⟩, b3⟩
    go_wp2
    go_end0
    exact ⟨rfl, ⟨v3, h3⟩, (b1.trans b2).trans b3⟩
set_option maxHeartbeats 2000000 in
theorem size_par (w : World) (b base : Nat) (v : Value) (s : ByteArray) (a : Nat) (l : List Tok) (h : At w b base v s a l) (hs : s.size ≤ 1000000) (hl : l.length ≤ 1000000) (ha : a < s.size) (h0 : pk s a = 40) (R : Option Nat) (hR : R = if a + 1 + 2 ≤ s.size then rowF s 2 0 (a + 1) else none) :
    Calls Try.prog 41 #[.pointer (some ⟨b, 0, none⟩)] w (SizeP b base s l w (tok11 ⟨#[]⟩ (a + 3) R)) := by
  obtain ⟨i0, x0⟩ := rest_at s a 0 (by omega)
  rw [Nat.add_zero] at x0
  have hz := ext_size s a (by omega)
  have z1 : (0 : Int) < (s.extract a s.size).size := by omega
  have e0 : (s.extract a s.size).toList.isEmpty = false := by
    rw [Lib.toList_data]
    have : 0 < (s.extract a s.size).data.toList.length := by rw [Array.length_toList]; exact i0
    cases hq : (s.extract a s.size).data.toList with
    | nil => rw [hq] at this; cases this
    | cons _ _ => rfl
  rw [h0] at x0
  have HT := Lib.hid (take_at 1 h hs (by omega))
  rw [ext_one s a ha] at HT
  have hh := h
  obtain ⟨c0, -, -, -, cl⟩ := h.cells
  have HR := Lib.hid hR
  have Hz := Lib.hid hz
  clear hz hR
  have HX0 := x0
  clear x0
  go_enter Try.func41, Try.ntmps41
  go_wp2_with fail
  refine HT.out.mono ?_
  rintro e w1 ⟨rfl, h1, b1⟩
  clear c0 cl
  go_wp2_with fail
  refine (row_at _ b base v s (a + 1) l 2 h1 hs (by omega) (by decide) R HR.out).mono ?_
  rcases R with _ | x
  · rintro e w2 ⟨o, rfl, b2⟩
    exact ⟨rfl, o, rfl, b1.trans b2⟩
  · rintro e w2 ⟨rfl, ⟨v2, h2⟩, b2⟩
    go_wp2_with fail
    refine (add_at _ b base v2 s _ l 11 ⟨#[]⟩ x h2 hl).mono ?_
    rintro e w3 ⟨rfl, ⟨v3, h3⟩, b3⟩
    go_wp2
    go_end0
    exact ⟨rfl, ⟨v3, h3⟩, (b1.trans b2).trans b3⟩
set_option maxHeartbeats 2000000 in
theorem size_big (w : World) (b base : Nat) (v : Value) (s : ByteArray) (a : Nat) (l : List Tok) (h : At w b base v s a l) (hs : s.size ≤ 1000000) (hl : l.length ≤ 1000000) (ha : a < s.size) (hyp : 49 ≤ pk s a ∧ pk s a ≤ 51) (h1 : digB (pk s (a + 1)) = true) (R : Option Nat) (hR : R = if a + 2 ≤ s.size then rowF s 2 0 (a) else none) :
    Calls Try.prog 41 #[.pointer (some ⟨b, 0, none⟩)] w (SizeP b base s l w (tok11 ⟨#[]⟩ (a + 2) R)) := by
  obtain ⟨i0, x0⟩ := rest_at s a 0 (by omega)
  rw [Nat.add_zero] at x0
  have hz := ext_size s a (by omega)
  have z1 : (0 : Int) < (s.extract a s.size).size := by omega
  have e0 : (s.extract a s.size).toList.isEmpty = false := by
    rw [Lib.toList_data]
    have : 0 < (s.extract a s.size).data.toList.length := by rw [Array.length_toList]; exact i0
    cases hq : (s.extract a s.size).data.toList with
    | nil => rw [hq] at this; cases this
    | cons _ _ => rfl
  have hd := dig_lt h1
  obtain ⟨i1, x1⟩ := rest_at s a 1 (by omega)
  unfold digB at h1
  rw [decide_eq_true_eq] at h1
  obtain ⟨d, hdd⟩ : ∃ d, pk s (a + 1) = d := ⟨_, rfl⟩
  rw [hdd] at x1 h1
  obtain ⟨c, hcc⟩ : ∃ c, pk s a = c := ⟨_, rfl⟩
  rw [hcc] at x0 hyp
  have f1 : ((c : Int) == 43) = false := by rw [beq_eq_false_iff_ne]; omega
  have f2 : ((c : Int) == 45) = false := by rw [beq_eq_false_iff_ne]; omega
  have f3 : ((c : Int) == 40) = false := by rw [beq_eq_false_iff_ne]; omega
  have g1 : decide ((49 : Int) ≤ c) = true := decide_eq_true (by omega)
  have g2 : decide ((c : Int) ≤ 51) = true := decide_eq_true (by omega)
  have g3 : decide ((48 : Int) ≤ d) = true := decide_eq_true (by omega)
  have g4 : decide ((d : Int) ≤ 57) = true := decide_eq_true (by omega)
  have z2 : (1 : Int) < (s.extract a s.size).size := by omega
  clear h1 hcc hdd hyp
  have h0 := h
  obtain ⟨c0, -, -, -, cl⟩ := h.cells
  have HR := Lib.hid hR
  have Hz := Lib.hid hz
  clear hz hR
  have HX0 := x0
  clear x0
  go_enter Try.func41, Try.ntmps41
  go_wp2_with fail
  refine (row_at _ b base v s (a) l 2 h0 hs (by omega) (by decide) R HR.out).mono ?_
  rcases R with _ | x
  · rintro e w2 ⟨o, rfl, b2⟩
    exact ⟨rfl, o, rfl, (Below.refl _ _).trans b2⟩
  · rintro e w2 ⟨rfl, ⟨v2, h2⟩, b2⟩
    go_wp2_with fail
    refine (add_at _ b base v2 s _ l 11 ⟨#[]⟩ x h2 hl).mono ?_
    rintro e w3 ⟨rfl, ⟨v3, h3⟩, b3⟩
    go_wp2
    go_end0
    exact ⟨rfl, ⟨v3, h3⟩, ((Below.refl _ _).trans b2).trans b3⟩
set_option maxHeartbeats 2000000 in
theorem size_low (w : World) (b base : Nat) (v : Value) (s : ByteArray) (a : Nat) (l : List Tok) (h : At w b base v s a l) (hs : s.size ≤ 1000000) (hl : l.length ≤ 1000000) (ha : a < s.size) (hyp : pk s a < 49) (hne : pk s a ≠ 43 ∧ pk s a ≠ 45 ∧ pk s a ≠ 40) (R : Option Nat) (hR : R = if a + 1 ≤ s.size then rowF s 1 0 (a) else none) :
    Calls Try.prog 41 #[.pointer (some ⟨b, 0, none⟩)] w (SizeP b base s l w (tok11 ⟨#[]⟩ (a + 1) R)) := by
  obtain ⟨i0, x0⟩ := rest_at s a 0 (by omega)
  rw [Nat.add_zero] at x0
  have hz := ext_size s a (by omega)
  have z1 : (0 : Int) < (s.extract a s.size).size := by omega
  have e0 : (s.extract a s.size).toList.isEmpty = false := by
    rw [Lib.toList_data]
    have : 0 < (s.extract a s.size).data.toList.length := by rw [Array.length_toList]; exact i0
    cases hq : (s.extract a s.size).data.toList with
    | nil => rw [hq] at this; cases this
    | cons _ _ => rfl
  obtain ⟨c, hcc⟩ : ∃ c, pk s a = c := ⟨_, rfl⟩
  rw [hcc] at x0 hyp hne
  have f1 : ((c : Int) == 43) = false := by rw [beq_eq_false_iff_ne]; omega
  have f2 : ((c : Int) == 45) = false := by rw [beq_eq_false_iff_ne]; omega
  have f3 : ((c : Int) == 40) = false := by rw [beq_eq_false_iff_ne]; omega
  have g1 : decide ((49 : Int) ≤ c) = false := decide_eq_false (by omega)
  clear hcc hyp hne
  have h0 := h
  obtain ⟨c0, -, -, -, cl⟩ := h.cells
  have HR := Lib.hid hR
  have Hz := Lib.hid hz
  clear hz hR
  have HX0 := x0
  clear x0
  go_enter Try.func41, Try.ntmps41
  go_wp2_with fail
  refine (row_at _ b base v s (a) l 1 h0 hs (by omega) (by decide) R HR.out).mono ?_
  rcases R with _ | x
  · rintro e w2 ⟨o, rfl, b2⟩
    exact ⟨rfl, o, rfl, (Below.refl _ _).trans b2⟩
  · rintro e w2 ⟨rfl, ⟨v2, h2⟩, b2⟩
    go_wp2_with fail
    refine (add_at _ b base v2 s _ l 11 ⟨#[]⟩ x h2 hl).mono ?_
    rintro e w3 ⟨rfl, ⟨v3, h3⟩, b3⟩
    go_wp2
    go_end0
    exact ⟨rfl, ⟨v3, h3⟩, ((Below.refl _ _).trans b2).trans b3⟩
set_option maxHeartbeats 2000000 in
theorem size_high (w : World) (b base : Nat) (v : Value) (s : ByteArray) (a : Nat) (l : List Tok) (h : At w b base v s a l) (hs : s.size ≤ 1000000) (hl : l.length ≤ 1000000) (ha : a < s.size) (hyp : 51 < pk s a)  (R : Option Nat) (hR : R = if a + 1 ≤ s.size then rowF s 1 0 (a) else none) :
    Calls Try.prog 41 #[.pointer (some ⟨b, 0, none⟩)] w (SizeP b base s l w (tok11 ⟨#[]⟩ (a + 1) R)) := by
  obtain ⟨i0, x0⟩ := rest_at s a 0 (by omega)
  rw [Nat.add_zero] at x0
  have hz := ext_size s a (by omega)
  have z1 : (0 : Int) < (s.extract a s.size).size := by omega
  have e0 : (s.extract a s.size).toList.isEmpty = false := by
    rw [Lib.toList_data]
    have : 0 < (s.extract a s.size).data.toList.length := by rw [Array.length_toList]; exact i0
    cases hq : (s.extract a s.size).data.toList with
    | nil => rw [hq] at this; cases this
    | cons _ _ => rfl
  obtain ⟨c, hcc⟩ : ∃ c, pk s a = c := ⟨_, rfl⟩
  rw [hcc] at x0 hyp
  have f1 : ((c : Int) == 43) = false := by rw [beq_eq_false_iff_ne]; omega
  have f2 : ((c : Int) == 45) = false := by rw [beq_eq_false_iff_ne]; omega
  have f3 : ((c : Int) == 40) = false := by rw [beq_eq_false_iff_ne]; omega
  have g1 : decide ((49 : Int) ≤ c) = true := decide_eq_true (by omega)
  have g2 : decide ((c : Int) ≤ 51) = false := decide_eq_false (by omega)
  clear hcc hyp
  have h0 := h
  obtain ⟨c0, -, -, -, cl⟩ := h.cells
  have HR := Lib.hid hR
  have Hz := Lib.hid hz
  clear hz hR
  have HX0 := x0
  clear x0
  go_enter Try.func41, Try.ntmps41
  go_wp2_with fail
  refine (row_at _ b base v s (a) l 1 h0 hs (by omega) (by decide) R HR.out).mono ?_
  rcases R with _ | x
  · rintro e w2 ⟨o, rfl, b2⟩
    exact ⟨rfl, o, rfl, (Below.refl _ _).trans b2⟩
  · rintro e w2 ⟨rfl, ⟨v2, h2⟩, b2⟩
    go_wp2_with fail
    refine (add_at _ b base v2 s _ l 11 ⟨#[]⟩ x h2 hl).mono ?_
    rintro e w3 ⟨rfl, ⟨v3, h3⟩, b3⟩
    go_wp2
    go_end0
    exact ⟨rfl, ⟨v3, h3⟩, ((Below.refl _ _).trans b2).trans b3⟩
set_option maxHeartbeats 2000000 in
theorem size_short (w : World) (b base : Nat) (v : Value) (s : ByteArray) (a : Nat) (l : List Tok) (h : At w b base v s a l) (hs : s.size ≤ 1000000) (hl : l.length ≤ 1000000) (ha : a < s.size) (hyp : 49 ≤ pk s a ∧ pk s a ≤ 51) (he : ¬ a + 1 < s.size)  (R : Option Nat) (hR : R = if a + 1 ≤ s.size then rowF s 1 0 (a) else none) :
    Calls Try.prog 41 #[.pointer (some ⟨b, 0, none⟩)] w (SizeP b base s l w (tok11 ⟨#[]⟩ (a + 1) R)) := by
  obtain ⟨i0, x0⟩ := rest_at s a 0 (by omega)
  rw [Nat.add_zero] at x0
  have hz := ext_size s a (by omega)
  have z1 : (0 : Int) < (s.extract a s.size).size := by omega
  have e0 : (s.extract a s.size).toList.isEmpty = false := by
    rw [Lib.toList_data]
    have : 0 < (s.extract a s.size).data.toList.length := by rw [Array.length_toList]; exact i0
    cases hq : (s.extract a s.size).data.toList with
    | nil => rw [hq] at this; cases this
    | cons _ _ => rfl
  obtain ⟨c, hcc⟩ : ∃ c, pk s a = c := ⟨_, rfl⟩
  rw [hcc] at x0 hyp
  have f1 : ((c : Int) == 43) = false := by rw [beq_eq_false_iff_ne]; omega
  have f2 : ((c : Int) == 45) = false := by rw [beq_eq_false_iff_ne]; omega
  have f3 : ((c : Int) == 40) = false := by rw [beq_eq_false_iff_ne]; omega
  have g1 : decide ((49 : Int) ≤ c) = true := decide_eq_true (by omega)
  have g2 : decide ((c : Int) ≤ 51) = true := decide_eq_true (by omega)
  have z2 : ¬ (1 : Int) < (s.extract a s.size).size := by omega
  clear hcc hyp
  have h0 := h
  obtain ⟨c0, -, -, -, cl⟩ := h.cells
  have HR := Lib.hid hR
  have Hz := Lib.hid hz
  clear hz hR
  have HX0 := x0
  clear x0
  go_enter Try.func41, Try.ntmps41
  go_wp2_with fail
  refine (row_at _ b base v s (a) l 1 h0 hs (by omega) (by decide) R HR.out).mono ?_
  rcases R with _ | x
  · rintro e w2 ⟨o, rfl, b2⟩
    exact ⟨rfl, o, rfl, (Below.refl _ _).trans b2⟩
  · rintro e w2 ⟨rfl, ⟨v2, h2⟩, b2⟩
    go_wp2_with fail
    refine (add_at _ b base v2 s _ l 11 ⟨#[]⟩ x h2 hl).mono ?_
    rintro e w3 ⟨rfl, ⟨v3, h3⟩, b3⟩
    go_wp2
    go_end0
    exact ⟨rfl, ⟨v3, h3⟩, ((Below.refl _ _).trans b2).trans b3⟩
set_option maxHeartbeats 2000000 in
theorem size_nodiga (w : World) (b base : Nat) (v : Value) (s : ByteArray) (a : Nat) (l : List Tok) (h : At w b base v s a l) (hs : s.size ≤ 1000000) (hl : l.length ≤ 1000000) (ha : a < s.size) (hyp : 49 ≤ pk s a ∧ pk s a ≤ 51) (he : a + 1 < s.size) (h1 : digB (pk s (a + 1)) = false) (hx : pk s (a + 1) < 48) (R : Option Nat) (hR : R = if a + 1 ≤ s.size then rowF s 1 0 (a) else none) :
    Calls Try.prog 41 #[.pointer (some ⟨b, 0, none⟩)] w (SizeP b base s l w (tok11 ⟨#[]⟩ (a + 1) R)) := by
  obtain ⟨i0, x0⟩ := rest_at s a 0 (by omega)
  rw [Nat.add_zero] at x0
  have hz := ext_size s a (by omega)
  have z1 : (0 : Int) < (s.extract a s.size).size := by omega
  have e0 : (s.extract a s.size).toList.isEmpty = false := by
    rw [Lib.toList_data]
    have : 0 < (s.extract a s.size).data.toList.length := by rw [Array.length_toList]; exact i0
    cases hq : (s.extract a s.size).data.toList with
    | nil => rw [hq] at this; cases this
    | cons _ _ => rfl
  obtain ⟨i1, x1⟩ := rest_at s a 1 (by omega)
  unfold digB at h1
  rw [decide_eq_false_iff_not] at h1
  obtain ⟨d, hdd⟩ : ∃ d, pk s (a + 1) = d := ⟨_, rfl⟩
  rw [hdd] at x1 h1 hx
  obtain ⟨c, hcc⟩ : ∃ c, pk s a = c := ⟨_, rfl⟩
  rw [hcc] at x0 hyp
  have f1 : ((c : Int) == 43) = false := by rw [beq_eq_false_iff_ne]; omega
  have f2 : ((c : Int) == 45) = false := by rw [beq_eq_false_iff_ne]; omega
  have f3 : ((c : Int) == 40) = false := by rw [beq_eq_false_iff_ne]; omega
  have g1 : decide ((49 : Int) ≤ c) = true := decide_eq_true (by omega)
  have g2 : decide ((c : Int) ≤ 51) = true := decide_eq_true (by omega)
  have z2 : (1 : Int) < (s.extract a s.size).size := by omega
  have g3 : decide ((48 : Int) ≤ d) = false := decide_eq_false (by omega)
  clear h1 hcc hdd hyp hx
  have h0 := h
  obtain ⟨c0, -, -, -, cl⟩ := h.cells
  have HR := Lib.hid hR
  have Hz := Lib.hid hz
  clear hz hR
  have HX0 := x0
  clear x0
  go_enter Try.func41, Try.ntmps41
  go_wp2_with fail
  refine (row_at _ b base v s (a) l 1 h0 hs (by omega) (by decide) R HR.out).mono ?_
  rcases R with _ | x
  · rintro e w2 ⟨o, rfl, b2⟩
    exact ⟨rfl, o, rfl, (Below.refl _ _).trans b2⟩
  · rintro e w2 ⟨rfl, ⟨v2, h2⟩, b2⟩
    go_wp2_with fail
    refine (add_at _ b base v2 s _ l 11 ⟨#[]⟩ x h2 hl).mono ?_
    rintro e w3 ⟨rfl, ⟨v3, h3⟩, b3⟩
    go_wp2
    go_end0
    exact ⟨rfl, ⟨v3, h3⟩, ((Below.refl _ _).trans b2).trans b3⟩
set_option maxHeartbeats 2000000 in
theorem size_nodigb (w : World) (b base : Nat) (v : Value) (s : ByteArray) (a : Nat) (l : List Tok) (h : At w b base v s a l) (hs : s.size ≤ 1000000) (hl : l.length ≤ 1000000) (ha : a < s.size) (hyp : 49 ≤ pk s a ∧ pk s a ≤ 51) (he : a + 1 < s.size) (h1 : digB (pk s (a + 1)) = false) (hx : ¬ pk s (a + 1) < 48) (R : Option Nat) (hR : R = if a + 1 ≤ s.size then rowF s 1 0 (a) else none) :
    Calls Try.prog 41 #[.pointer (some ⟨b, 0, none⟩)] w (SizeP b base s l w (tok11 ⟨#[]⟩ (a + 1) R)) := by
  obtain ⟨i0, x0⟩ := rest_at s a 0 (by omega)
  rw [Nat.add_zero] at x0
  have hz := ext_size s a (by omega)
  have z1 : (0 : Int) < (s.extract a s.size).size := by omega
  have e0 : (s.extract a s.size).toList.isEmpty = false := by
    rw [Lib.toList_data]
    have : 0 < (s.extract a s.size).data.toList.length := by rw [Array.length_toList]; exact i0
    cases hq : (s.extract a s.size).data.toList with
    | nil => rw [hq] at this; cases this
    | cons _ _ => rfl
  obtain ⟨i1, x1⟩ := rest_at s a 1 (by omega)
  unfold digB at h1
  rw [decide_eq_false_iff_not] at h1
  obtain ⟨d, hdd⟩ : ∃ d, pk s (a + 1) = d := ⟨_, rfl⟩
  rw [hdd] at x1 h1 hx
  obtain ⟨c, hcc⟩ : ∃ c, pk s a = c := ⟨_, rfl⟩
  rw [hcc] at x0 hyp
  have f1 : ((c : Int) == 43) = false := by rw [beq_eq_false_iff_ne]; omega
  have f2 : ((c : Int) == 45) = false := by rw [beq_eq_false_iff_ne]; omega
  have f3 : ((c : Int) == 40) = false := by rw [beq_eq_false_iff_ne]; omega
  have g1 : decide ((49 : Int) ≤ c) = true := decide_eq_true (by omega)
  have g2 : decide ((c : Int) ≤ 51) = true := decide_eq_true (by omega)
  have z2 : (1 : Int) < (s.extract a s.size).size := by omega
  have g3 : decide ((48 : Int) ≤ d) = true := decide_eq_true (by omega)
  have g4 : decide ((d : Int) ≤ 57) = false := decide_eq_false (by omega)
  clear h1 hcc hdd hyp hx
  have h0 := h
  obtain ⟨c0, -, -, -, cl⟩ := h.cells
  have HR := Lib.hid hR
  have Hz := Lib.hid hz
  clear hz hR
  have HX0 := x0
  clear x0
  go_enter Try.func41, Try.ntmps41
  go_wp2_with fail
  refine (row_at _ b base v s (a) l 1 h0 hs (by omega) (by decide) R HR.out).mono ?_
  rcases R with _ | x
  · rintro e w2 ⟨o, rfl, b2⟩
    exact ⟨rfl, o, rfl, (Below.refl _ _).trans b2⟩
  · rintro e w2 ⟨rfl, ⟨v2, h2⟩, b2⟩
    go_wp2_with fail
    refine (add_at _ b base v2 s _ l 11 ⟨#[]⟩ x h2 hl).mono ?_
    rintro e w3 ⟨rfl, ⟨v3, h3⟩, b3⟩
    go_wp2
    go_end0
    exact ⟨rfl, ⟨v3, h3⟩, ((Below.refl _ _).trans b2).trans b3⟩
set_option maxHeartbeats 2000000 in
theorem size_none (w : World) (b base : Nat) (v : Value) (s : ByteArray) (a : Nat) (l : List Tok) (h : At w b base v s a l) (ha : s.size ≤ a) :
    Calls Try.prog 41 #[.pointer (some ⟨b, 0, none⟩)] w (Bad base w) := by
  have e0 : (s.extract a s.size).toList.isEmpty = true := by
    rw [Lib.toList_data, ext_list, show s.size - a = 0 by omega, List.take_zero]; rfl
  have ht := h.top
  obtain ⟨c0, -, -, -, cl⟩ := h.cells
  go_enter Try.func41, Try.ntmps41
  go_wp2_with fail
  refine (bad_calls _).mono ?_
  rintro e w3 ⟨o, rfl, b3⟩
  exact ⟨rfl, o, rfl, b3.mono ht⟩
theorem size_calls (w : World) (b base : Nat) (v : Value) (s : ByteArray) (a : Nat) (l : List Tok) (h : At w b base v s a l) (hs : s.size ≤ 1000000) (hl : l.length ≤ 1000000) (ha : a ≤ s.size) :
    Calls Try.prog 41 #[.pointer (some ⟨b, 0, none⟩)] w (SizeP b base s l w (sizeM s a)) := by
  have one : ∀ k, k ≤ s.size → (if k + 1 ≤ s.size then rowF s 1 0 k else none) = if digB (pk s k) = true then some (pk s k - 48) else none := by
    intro k hk
    rw [rowF_one]
    by_cases h1 : digB (pk s k) = true
    · have := dig_lt h1
      rw [if_pos (by omega)]
    · rw [if_neg h1]; split <;> rfl
  have two : ∀ k, (if k + 2 ≤ s.size then rowF s 2 0 k else none) = if digB (pk s k) = true ∧ digB (pk s (k + 1)) = true then some ((pk s k - 48) * 10 + (pk s (k + 1) - 48)) else none := by
    intro k
    rw [rowF_two]
    by_cases h1 : digB (pk s k) = true ∧ digB (pk s (k + 1)) = true
    · have := dig_lt h1.2
      rw [if_pos (by omega)]
    · rw [if_neg h1]; split <;> rfl
  by_cases hlt : a < s.size
  · unfold sizeM
    by_cases h1 : pk s a = 43 ∨ pk s a = 45
    · rw [if_pos h1]
      have e : (if digB (pk s (a + 1)) = true then some (oneS (pk s a), pk s (a + 1) - 48, a + 2) else none) = tok11 (oneS (pk s a)) (a + 2) (if a + 1 + 1 ≤ s.size then rowF s 1 0 (a + 1) else none) := by
        rw [one (a + 1) (by omega)]
        split <;> rfl
      rw [e]
      rcases h1 with h1 | h1
      · have := size_sign43 w b base v s a l h hs hl hlt h1 _ rfl
        rw [h1]; exact this
      · have := size_sign45 w b base v s a l h hs hl hlt h1 _ rfl
        rw [h1]; exact this
    · rw [if_neg h1]
      by_cases h2 : pk s a = 40
      · rw [if_pos h2]
        have e : (if digB (pk s (a + 1)) = true ∧ digB (pk s (a + 2)) = true then some ((⟨#[]⟩ : ByteArray), (pk s (a + 1) - 48) * 10 + (pk s (a + 2) - 48), a + 3) else none) = tok11 ⟨#[]⟩ (a + 3) (if a + 1 + 2 ≤ s.size then rowF s 2 0 (a + 1) else none) := by
          rw [two (a + 1)]
          split <;> rfl
        rw [e]
        exact size_par w b base v s a l h hs hl hlt h2 _ rfl
      · rw [if_neg h2]
        have eo : (if digB (pk s a) = true then some ((⟨#[]⟩ : ByteArray), pk s a - 48, a + 1) else none) = tok11 ⟨#[]⟩ (a + 1) (if a + 1 ≤ s.size then rowF s 1 0 a else none) := by
          rw [one a ha]
          split <;> rfl
        by_cases h3 : 49 ≤ pk s a ∧ pk s a ≤ 51
        · rcases hd : digB (pk s (a + 1)) with _ | _
          · rw [if_neg (by rintro ⟨-, -, h⟩; cases h), eo]
            by_cases he : a + 1 < s.size
            · by_cases hx : pk s (a + 1) < 48
              · exact size_nodiga w b base v s a l h hs hl hlt h3 he hd hx _ rfl
              · exact size_nodigb w b base v s a l h hs hl hlt h3 he hd hx _ rfl
            · exact size_short w b base v s a l h hs hl hlt h3 he _ rfl
          · rw [if_pos ⟨h3.1, h3.2, rfl⟩]
            have hdg : digB (pk s a) = true := decide_eq_true (by omega)
            have e : some ((⟨#[]⟩ : ByteArray), (pk s a - 48) * 10 + (pk s (a + 1) - 48), a + 2) = tok11 ⟨#[]⟩ (a + 2) (if a + 2 ≤ s.size then rowF s 2 0 a else none) := by
              rw [two a, if_pos ⟨hdg, hd⟩]
              rfl
            rw [e]
            exact size_big w b base v s a l h hs hl hlt h3 hd _ rfl
        · rw [if_neg (fun h => h3 ⟨h.1, h.2.1⟩), eo]
          by_cases h4 : pk s a < 49
          · exact size_low w b base v s a l h hs hl hlt h4 ⟨fun h => h1 (.inl h), fun h => h1 (.inr h), h2⟩ _ rfl
          · exact size_high w b base v s a l h hs hl hlt (by omega) _ rfl
  · have hz : pk s a = 0 := by unfold pk; rw [dif_neg hlt]
    have hn : sizeM s a = none := by
      unfold sizeM
      rw [hz, if_neg (by decide), if_neg (by decide), if_neg (by rintro ⟨h, -⟩; exact absurd h (by decide)), if_neg (by decide)]
    rw [hn]
    exact size_none w b base v s a l h (by omega)
end Go.Proofs.Ytaokofnhkojllaa

set_option linter.unusedVariables false
set_option linter.unusedSimpArgs false
namespace Go.Proofs.Ytaokofnhkojllaa
open Go.Shelf Go.RowKit Go.Lib Go.Aids Go.MapLit Go.Proofs.YtaokofnhkojllaaW.PrintWords

abbrev eK : Int → Value := Value.int .u8
abbrev eI : Int → Value := Value.int .i64
abbrev eT : Tok → Value := fun t => .agg #[.int .i64 t.kind, .string t.text, .int .i64 t.n]
theorem keyU : KeyLit Try.prog 5 eK := KeyLit.int Try.underlying5
theorem zeroI (w : World) : (zeroValue 3).run Try.prog w = .ok (.int .i64 0) w := by kernel_rfl
theorem zeroT (w : World) : (zeroValue 28).run Try.prog w = .ok (.agg #[.int .i64 0, .string ⟨#[]⟩, .int .i64 0]) w := by kernel_rfl
def simpleI : List (Int × Tok) := simpleL.map fun p => ((p.1 : Int), p.2)
def quotesI : List (Int × Int) := quotesL.map fun p => ((p.1 : Int), p.2)
theorem find_look {β : Type} (l : List (Nat × β)) (k : Nat) : find (l.map fun p => ((p.1 : Int), p.2)) (k : Int) = look l k := by
  unfold find look
  induction l with
  | nil => rfl
  | cons p l ih =>
    rw [List.map_cons, List.find?_cons, List.find?_cons]
    have e : decide ((k : Int) = (p.1 : Int)) = decide (k = p.1) := by rw [decide_eq_decide]; omega
    simp only [e]
    cases decide (k = p.1)
    · exact ih
    · rfl
def MT (l : List (Int × Tok)) (n : Nat) : Obj := .map (litEs eK eT l) n
def MI (l : List (Int × Int)) (n : Nat) : Obj := .map (litEs eK eI l) n

set_option maxHeartbeats 2000000 in
theorem quotes_calls (w : World) : Calls Try.prog 38 #[] w fun e w' => e = .returned (.map (some w.heap.size)) ∧ MapIs eK eI w' w.heap.size quotesI ∧ Below w.heap.size w w' := by
  have hmm := @run_makeMap Try.prog
  have H : ∀ (n : Nat) (k : Int) (v : Int), find (quotesI.take n) k = none → quotesI.take n ++ [(k, v)] = quotesI.take (n + 1) → (quotesI.take n).length = n →
      (Instr.mapUpdate 71 (.map (some w.heap.size)) (.int .u8 k) (eI v)).run Try.prog (w.alloc (MI (quotesI.take n) n)) = .ok () (w.alloc (MI (quotesI.take (n + 1)) (n + 1))) := by
    intro n k v h1 h2 h3
    have := run_insert eK eI keyU Try.underlying71 (quotesI.take n) k v h1 w
    rw [h2, h3] at this
    exact this
  have h1 : (Instr.mapUpdate 71 (.map (some w.heap.size)) (.int .u8 104) (.int .i64 12)).run Try.prog (w.alloc (.map #[] 0)) = .ok () (w.alloc (MI (quotesI.take 1) 1)) := H 0 104 12 rfl rfl rfl
  have h2 := H 1 118 13 rfl rfl rfl
  have h3 := H 2 120 14 rfl rfl rfl
  have h4 := H 3 108 15 rfl rfl rfl
  have h5 := H 4 68 16 rfl rfl rfl
  have h6 := H 5 111 17 rfl rfl rfl
  clear H
  go_enter Try.func38, Try.ntmps38
  go_wp2
  go_ret
  exact ⟨rfl, MapIs.made eK eI w quotesI, (Below.refl _ w).alloc (Nat.le_refl _) _⟩
set_option maxHeartbeats 2000000 in
theorem simple_calls (w : World) : Calls Try.prog 37 #[] w fun e w' => e = .returned (.map (some w.heap.size)) ∧ MapIs eK eT w' w.heap.size simpleI ∧ Below w.heap.size w w' := by
  have hmm := @run_makeMap Try.prog
  have H : ∀ (n : Nat) (k : Int) (v : Tok), find (simpleI.take n) k = none → simpleI.take n ++ [(k, v)] = simpleI.take (n + 1) → (simpleI.take n).length = n →
      (Instr.mapUpdate 68 (.map (some w.heap.size)) (.int .u8 k) (eT v)).run Try.prog (w.alloc (MT (simpleI.take n) n)) = .ok () (w.alloc (MT (simpleI.take (n + 1)) (n + 1))) := by
    intro n k v h1 h2 h3
    have := run_insert eK eT keyU Try.underlying68 (simpleI.take n) k v h1 w
    rw [h2, h3] at this
    exact this
  have h1 : (Instr.mapUpdate 68 (.map (some w.heap.size)) (.int .u8 101) (.agg #[.int .i64 0, .string ⟨#[92]⟩, .int .i64 0])).run Try.prog (w.alloc (.map #[] 0)) = .ok () (w.alloc (MT (simpleI.take 1) 1)) := H 0 101 ⟨0, ⟨#[92]⟩, 0⟩ rfl rfl rfl
  have h2 : (Instr.mapUpdate 68 (.map (some w.heap.size)) (.int .u8 92) (.agg #[.int .i64 0, .string ⟨#[92]⟩, .int .i64 0])).run Try.prog (w.alloc (MT (simpleI.take 1) 1)) = .ok () (w.alloc (MT (simpleI.take 2) 2)) := H 1 92 ⟨0, ⟨#[92]⟩, 0⟩ rfl rfl rfl
  have h3 : (Instr.mapUpdate 68 (.map (some w.heap.size)) (.int .u8 45) (.agg #[.int .i64 0, .string ⟨#[109, 105]⟩, .int .i64 0])).run Try.prog (w.alloc (MT (simpleI.take 2) 2)) = .ok () (w.alloc (MT (simpleI.take 3) 3)) := H 2 45 ⟨0, ⟨#[109, 105]⟩, 0⟩ rfl rfl rfl
  have h4 : (Instr.mapUpdate 68 (.map (some w.heap.size)) (.int .u8 116) (.agg #[.int .i64 2, .string ⟨#[]⟩, .int .i64 0])).run Try.prog (w.alloc (MT (simpleI.take 3) 3)) = .ok () (w.alloc (MT (simpleI.take 4) 4)) := H 3 116 ⟨2, ⟨#[]⟩, 0⟩ rfl rfl rfl
  have h5 : (Instr.mapUpdate 68 (.map (some w.heap.size)) (.int .u8 97) (.agg #[.int .i64 3, .string ⟨#[]⟩, .int .i64 0])).run Try.prog (w.alloc (MT (simpleI.take 4) 4)) = .ok () (w.alloc (MT (simpleI.take 5) 5)) := H 4 97 ⟨3, ⟨#[]⟩, 0⟩ rfl rfl rfl
  have h6 : (Instr.mapUpdate 68 (.map (some w.heap.size)) (.int .u8 126) (.agg #[.int .i64 4, .string ⟨#[]⟩, .int .i64 0])).run Try.prog (w.alloc (MT (simpleI.take 5) 5)) = .ok () (w.alloc (MT (simpleI.take 6) 6)) := H 5 126 ⟨4, ⟨#[]⟩, 0⟩ rfl rfl rfl
  have h7 : (Instr.mapUpdate 68 (.map (some w.heap.size)) (.int .u8 32) (.agg #[.int .i64 5, .string ⟨#[]⟩, .int .i64 0])).run Try.prog (w.alloc (MT (simpleI.take 6) 6)) = .ok () (w.alloc (MT (simpleI.take 7) 7)) := H 6 32 ⟨5, ⟨#[]⟩, 0⟩ rfl rfl rfl
  have h8 : (Instr.mapUpdate 68 (.map (some w.heap.size)) (.int .u8 124) (.agg #[.int .i64 6, .string ⟨#[]⟩, .int .i64 167])).run Try.prog (w.alloc (MT (simpleI.take 7) 7)) = .ok () (w.alloc (MT (simpleI.take 8) 8)) := H 7 124 ⟨6, ⟨#[]⟩, 167⟩ rfl rfl rfl
  have h9 : (Instr.mapUpdate 68 (.map (some w.heap.size)) (.int .u8 94) (.agg #[.int .i64 6, .string ⟨#[]⟩, .int .i64 83])).run Try.prog (w.alloc (MT (simpleI.take 8) 8)) = .ok () (w.alloc (MT (simpleI.take 9) 9)) := H 8 94 ⟨6, ⟨#[]⟩, 83⟩ rfl rfl rfl
  have h10 : (Instr.mapUpdate 68 (.map (some w.heap.size)) (.int .u8 48) (.agg #[.int .i64 7, .string ⟨#[]⟩, .int .i64 0])).run Try.prog (w.alloc (MT (simpleI.take 9) 9)) = .ok () (w.alloc (MT (simpleI.take 10) 10)) := H 9 48 ⟨7, ⟨#[]⟩, 0⟩ rfl rfl rfl
  have h11 : (Instr.mapUpdate 68 (.map (some w.heap.size)) (.int .u8 37) (.agg #[.int .i64 8, .string ⟨#[]⟩, .int .i64 0])).run Try.prog (w.alloc (MT (simpleI.take 10) 10)) = .ok () (w.alloc (MT (simpleI.take 11) 11)) := H 10 37 ⟨8, ⟨#[]⟩, 0⟩ rfl rfl rfl
  have h12 : (Instr.mapUpdate 68 (.map (some w.heap.size)) (.int .u8 38) (.agg #[.int .i64 9, .string ⟨#[]⟩, .int .i64 0])).run Try.prog (w.alloc (MT (simpleI.take 11) 11)) = .ok () (w.alloc (MT (simpleI.take 12) 12)) := H 11 38 ⟨9, ⟨#[]⟩, 0⟩ rfl rfl rfl
  have h13 : (Instr.mapUpdate 68 (.map (some w.heap.size)) (.int .u8 117) (.agg #[.int .i64 13, .string ⟨#[45, 49, 110]⟩, .int .i64 0])).run Try.prog (w.alloc (MT (simpleI.take 12) 12)) = .ok () (w.alloc (MT (simpleI.take 13) 13)) := H 12 117 ⟨13, ⟨#[45, 49, 110]⟩, 0⟩ rfl rfl rfl
  have h14 : (Instr.mapUpdate 68 (.map (some w.heap.size)) (.int .u8 100) (.agg #[.int .i64 13, .string ⟨#[49, 110]⟩, .int .i64 0])).run Try.prog (w.alloc (MT (simpleI.take 13) 13)) = .ok () (w.alloc (MT (simpleI.take 14) 14)) := H 13 100 ⟨13, ⟨#[49, 110]⟩, 0⟩ rfl rfl rfl
  have h15 : (Instr.mapUpdate 68 (.map (some w.heap.size)) (.int .u8 122) (.agg #[.int .i64 18, .string ⟨#[]⟩, .int .i64 0])).run Try.prog (w.alloc (MT (simpleI.take 14) 14)) = .ok () (w.alloc (MT (simpleI.take 15) 15)) := H 14 122 ⟨18, ⟨#[]⟩, 0⟩ rfl rfl rfl
  clear H
  go_enter Try.func37, Try.ntmps37
  go_wp2
  go_ret
  exact ⟨rfl, MapIs.made eK eT w simpleI, (Below.refl _ w).alloc (Nat.le_refl _) _⟩
end Go.Proofs.Ytaokofnhkojllaa

set_option linter.unusedVariables false
set_option linter.unusedSimpArgs false
namespace Go.Proofs.Ytaokofnhkojllaa
open Go.Shelf Go.RowKit Go.Lib Go.Aids Go.MapLit Go.Proofs.YtaokofnhkojllaaW.PrintWords

def EscP (b base : Nat) (s : ByteArray) (l : List Tok) (w : World) (o : Esc) (e : Ending) (w' : World) : Prop := match o with
  | .bad => Bad base w e w'
  | .go t a => e = .returned (.bool true) ∧ (∃ v, At w' b base v s a (l ++ t)) ∧ Below base w w'
  | .stop t => e = .returned (.bool false) ∧ (∃ v R, Rd w' b base v R (l ++ t)) ∧ Below base w w'
theorem seg_at (s : ByteArray) (a : Nat) (h : a < s.size) : ∃ hk : 0 < (s.extract a (a + 1)).size, ((s.extract a (a + 1))[0]'hk).toNat = pk s a := by
  have hz : 0 < (s.extract a (a + 1)).size := by rw [ByteArray.size_extract]; omega
  refine ⟨hz, ?_⟩
  rw [← pk_get _ _ hz, pk_ext s a (a + 1) 0 (by omega) (by omega), Nat.add_zero]
theorem rest_full (s : ByteArray) (a : Nat) (h : a < s.size) : (s.extract a s.size).toList.isEmpty = false := by
  obtain ⟨i0, -⟩ := rest_at s a 0 (by omega)
  rw [Lib.toList_data]
  have : 0 < (s.extract a s.size).data.toList.length := by rw [Array.length_toList]; exact i0
  cases hq : (s.extract a s.size).data.toList with
  | nil => rw [hq] at this; cases this
  | cons _ _ => rfl
theorem take_byte {w : World} {b base : Nat} {v : Value} {s : ByteArray} {a : Nat} {l : List Tok} (h : At w b base v s a l) (hs : s.size ≤ 1000000) (ha : a < s.size) :
    ∃ (T : ByteArray) (hz : 0 < T.size), (T[0]'hz).toNat = pk s a ∧ Calls Try.prog 26 #[.pointer (some ⟨b, 0, none⟩), .int .i64 1] w fun e w' => e = .returned (.string T) ∧ At w' b base v s (a + 1) l ∧ Below base w w' := by
  obtain ⟨hz, hx⟩ := seg_at s a ha
  exact ⟨_, hz, hx, take_at 1 h hs (by omega)⟩
set_option maxHeartbeats 4000000 in
set_option maxRecDepth 100000 in
theorem esc_simple (w : World) (b base : Nat) (v : Value) (s : ByteArray) (a : Nat) (l : List Tok) (h : At w b base v s a l) (hs : s.size ≤ 1000000) (hl : l.length ≤ 1000000) (ha : a < s.size) (t : Tok) (ht : look simpleL (pk s a) = some t) :
    Calls Try.prog 27 #[.pointer (some ⟨b, 0, none⟩)] w (EscP b base s l w (.go [t] (a + 1))) := by
  obtain ⟨T, hz, hx, hT⟩ := take_byte h hs ha
  have HT := Lib.hid hT
  have e0 := rest_full s a ha
  have i1 : (0 : Int) < T.size := by omega
  obtain ⟨c, hc⟩ : ∃ c, pk s a = c := ⟨_, rfl⟩
  rw [hc] at ht hx
  have hf : find simpleI (c : Int) = some t := (find_look simpleL c).trans ht
  have HX := Lib.hid hx
  have Hf := Lib.hid hf
  clear hx hT hc ht hf
  have htop := h.top
  obtain ⟨c0, -, -, -, cl⟩ := h.cells
  go_enter Try.func27, Try.ntmps27
  go_wp2_with fail
  refine HT.out.mono ?_
  rintro e w1 ⟨rfl, h1, b1⟩
  clear c0 cl
  have x2 := HX.out
  go_wp2_with fail
  refine (simple_calls _).mono ?_
  rintro e w2 ⟨rfl, hm, b2⟩
  have h2 := h1.below b2
  have B2 := b1.trans (b2.mono h1.top)
  have hl2 := run_lookup eK eT keyU Try.underlying68 zeroT simpleI c hm true
  rw [Hf.out] at hl2
  simp only [if_true, Option.map_some, Option.getD_some, Option.isSome_some] at hl2
  clear b1 b2
  have h3 := h2.below ((Below.refl _ _).alloc (Nat.le_refl _) (.cells #[.int .i64 t.kind, .string t.text, .int .i64 t.n] 28))
  obtain ⟨c0, c1, f0, f1, cl⟩ := h3.cells
  have hown := h3.own
  have hne := h3.ne
  have hbk := h3.blk
  have hge := h3.ge
  have htop := h3.top
  have HH := Lib.hid hm
  clear hm x2
  go_wp2
  have B3 := B2.alloc h2.top (.cells #[.int .i64 t.kind, .string t.text, .int .i64 t.n] 28)
  obtain ⟨g, hg⟩ : ∃ g, w2.heap.size = g := ⟨_, rfl⟩
  obtain ⟨W3, hW3⟩ : ∃ W, w2.alloc (.cells #[.int .i64 t.kind, .string t.text, .int .i64 t.n] 28) = W := ⟨_, rfl⟩
  have k0 : W3.cell? ⟨g, 0, none⟩ = some (.int .i64 t.kind) := by rw [← hW3, ← hg]; simp
  have k1 : W3.cell? ⟨g, 1, none⟩ = some (.string t.text) := by rw [← hW3, ← hg]; simp
  have k2 : W3.cell? ⟨g, 2, none⟩ = some (.int .i64 t.n) := by rw [← hW3, ← hg]; simp
  have kl : g < W3.heap.size := by rw [← hW3, ← hg]; simp
  rw [hW3] at c0 c1 f0 f1 cl hown hbk htop B3 h3 ⊢
  rw [hg]
  clear hW3 hg hl2 HT HX Hf HH
  go_region_law ((refine step_append_cells (w0 := w) base (by rfl) _ _ 23 28 (.agg #[.int .i64 0, .string ⟨#[]⟩, .int .i64 0]) 3 32 (by rfl) Try.underlying23 info28 rfl (by decide) (by decide) v l.length (cellsOf l) [.int .i64 t.kind, .string t.text, .int .i64 t.n] (by rfl) (by rfl) rfl (by simp [Value.oneCell']) hown.drew B3.drew htop (by omega) ?_; intro v1 w4 hown1 hb1 hg1 hat1; have hbk4 : w4.heap[b]? = some (.cells #[.string (s.extract (a + 1) s.size), v] 47 (0, 0)) := (hg1.block b cl hne).trans hbk; have q1 : w4.cell? ⟨b, 1, none⟩ = some v := (by simp [World.cell?, hbk4]); have q2 : w4.frozen? ⟨b, 1, none⟩ = false := (by simp [World.frozen?, hbk4]); clear hg1 hat1; obtain ⟨A1, n1, rfl⟩ := own_slice hown1))
  all_goals
    go_wp2
    go_ret
    refine ⟨rfl, ⟨.slice A1 (l.length + 1) n1, ?_, ?_, hge⟩, hb1.setCell hge _⟩
    · simp [World.setCell, Array.getElem?_modify, hbk4]
    · have hne1 : some b ≠ (Value.slice A1 (l.length + 1) n1).ownBlock := own_ne hown1 hbk4 (by decide)
      rw [cellsOf_snoc, List.length_append]
      exact own_move hown1 fun k hk => Below.heap_setCell _ _ _ _ (by rintro rfl; exact hne1 hk.symm)
end Go.Proofs.Ytaokofnhkojllaa

set_option linter.unusedVariables false
set_option linter.unusedSimpArgs false
namespace Go.Proofs.Ytaokofnhkojllaa
open Go.Shelf Go.RowKit Go.Lib Go.Aids Go.MapLit Go.Proofs.YtaokofnhkojllaaW.PrintWords

theorem cons_ext (s : ByteArray) (a : Nat) (h : a < s.size) : oneS (pk s a) ++ s.extract (a + 1) s.size = s.extract a s.size := by
  apply ba_eq
  rw [ByteArray.data_append, Array.toList_append, ext_list, ext_list]
  have hl : a < s.data.toList.length := by rw [Array.length_toList]; exact h
  rw [List.drop_eq_getElem_cons hl, get_data s a h, show s.size - a = (s.size - (a + 1)) + 1 by omega, List.take_succ_cons]
  rfl
theorem back_at {w : World} {b base : Nat} {v : Value} {s : ByteArray} {a : Nat} {l : List Tok} (h : At w b base v s (a + 1) l) (ha : a < s.size) (c : Nat) (hc : pk s a = c) : At (w.setCell ⟨b, 0, none⟩ (.string (oneS c ++ s.extract (a + 1) s.size))) b base v s a l := by
  subst hc
  rw [cons_ext s a ha]
  exact Rd.set0 h _
def sizeE : Option (ByteArray × Nat × Nat) → Esc
  | some (t, n, b) => .go [⟨11, t, n⟩] b
  | none => .bad
theorem enc_low (c : Nat) (h : c < 128) : Utf8.encode (c : Int) = oneS c := by
  unfold Utf8.encode
  have hv : Utf8.valid (c : Int) = true := by unfold Utf8.valid; simp; omega
  simp only [hv, if_true]
  rw [show ((c : Int)).toNat = c by omega, if_pos h]
set_option maxHeartbeats 4000000 in
set_option maxRecDepth 100000 in
theorem esc_quotes (w : World) (b base : Nat) (v : Value) (s : ByteArray) (a : Nat) (l : List Tok) (h : At w b base v s a l) (hs : s.size ≤ 1000000) (hl : l.length ≤ 1000000) (ha : a < s.size) (k : Int) (hn : look simpleL (pk s a) = none) (hqk : look quotesL (pk s a) = some k) (O : Option (ByteArray × Nat)) (hO : quotedM s (a + 1) = O) :
    Calls Try.prog 27 #[.pointer (some ⟨b, 0, none⟩)] w (EscP b base s l w (namedE k O)) := by
  obtain ⟨T, hz, hx, hT⟩ := take_byte h hs ha
  have HT := Lib.hid hT
  have e0 := rest_full s a ha
  have i1 : (0 : Int) < T.size := by omega
  obtain ⟨c, hc⟩ : ∃ c, pk s a = c := ⟨_, rfl⟩
  rw [hc] at hn hqk hx
  have hf : find simpleI (c : Int) = none := (find_look simpleL c).trans hn
  have hq : find quotesI (c : Int) = some k := (find_look quotesL c).trans hqk
  have HO := Lib.hid hO
  clear hc hn hqk hO
  have HX := Lib.hid hx
  have Hf := Lib.hid hf
  have Hq := Lib.hid hq
  clear hx hT hf hq
  obtain ⟨c0, -, -, -, cl⟩ := h.cells
  go_enter Try.func27, Try.ntmps27
  go_wp2_with fail
  refine HT.out.mono ?_
  rintro e w1 ⟨rfl, h1, b1⟩
  clear c0 cl
  have x2 := HX.out
  go_wp2_with fail
  refine (simple_calls _).mono ?_
  rintro e w2 ⟨rfl, hm, b2⟩
  have h2 := h1.below b2
  have B2 := b1.trans (b2.mono h1.top)
  have hl2 := run_lookup eK eT keyU Try.underlying68 zeroT simpleI (c : Int) hm true
  rw [Hf.out] at hl2
  simp only [if_true, Option.map_none, Option.getD_none, Option.isSome_none] at hl2
  clear b1 b2
  have h3 := h2.below ((Below.refl _ _).alloc (Nat.le_refl _) (.cells #[.int .i64 0, .string ⟨#[]⟩, .int .i64 0] 28))
  have B3 := B2.alloc h2.top (.cells #[.int .i64 0, .string ⟨#[]⟩, .int .i64 0] 28)
  have HH := Lib.hid hm
  clear hm x2
  go_wp2_with fail
  refine (quotes_calls _).mono ?_
  rintro e w4 ⟨rfl, hm4, b4⟩
  have h4 := h3.below b4
  have B4 := B3.trans (b4.mono h3.top)
  rw [show (w2.alloc (.cells #[.int .i64 0, .string ⟨#[]⟩, .int .i64 0] 28)).heap.size = w2.heap.size + 1 by simp] at hm4
  have hl4 := run_lookup eK eI keyU Try.underlying71 zeroI quotesI (c : Int) hm4 true
  rw [Hq.out] at hl4
  simp only [if_true, Option.map_none, Option.getD_none, Option.isSome_none, Option.map_some, Option.getD_some, Option.isSome_some] at hl4
  have HM := Lib.hid hm4
  clear hl2 hm4 b4 B3 h3 h2 B2
  obtain ⟨c0, -, f0, -, cl⟩ := h4.cells
  have hC := quoted_calls _ b base v s (a + 1) l h4 hs (by omega)
  rw [HO.out] at hC
  have HC := Lib.hid hC
  clear hC
  go_wp2_with fail
  refine HC.out.mono ?_
  rcases O with _ | ⟨t, a'⟩
  · rintro e w5 ⟨o, rfl, b5⟩
    exact ⟨rfl, o, rfl, B4.trans b5⟩
  · rintro e w5 ⟨rfl, ⟨v5, h5⟩, b5⟩
    have B5 := B4.trans b5
    clear c0 cl f0 hl4 b5
    go_wp2_with fail
    refine (add_at _ b base v5 s _ l k t 0 h5 hl).mono ?_
    rintro e w6 ⟨rfl, ⟨v6, h6⟩, b6⟩
    go_wp2
    go_ret
    exact ⟨rfl, ⟨v6, h6⟩, B5.trans b6⟩

set_option maxHeartbeats 4000000 in
set_option maxRecDepth 100000 in
theorem esc_102 (w : World) (b base : Nat) (v : Value) (s : ByteArray) (a : Nat) (l : List Tok) (h : At w b base v s a l) (hs : s.size ≤ 1000000) (hl : l.length ≤ 1000000) (ha : a < s.size) (hk : pk s a = 102) (O : Option (ByteArray × Nat)) (hO : nameM 1 20 s (a + 1) = O) :
    Calls Try.prog 27 #[.pointer (some ⟨b, 0, none⟩)] w (EscP b base s l w (namedE 10 O)) := by
  obtain ⟨T, hz, hx, hT⟩ := take_byte h hs ha
  have HT := Lib.hid hT
  have e0 := rest_full s a ha
  have i1 : (0 : Int) < T.size := by omega
  rw [hk] at hx
  have hf : find simpleI (102 : Int) = none := rfl
  have hq : find quotesI (102 : Int) = none := rfl
  have HO := Lib.hid hO
  clear hk hO
  have HX := Lib.hid hx
  have Hf := Lib.hid hf
  have Hq := Lib.hid hq
  clear hx hT hf hq
  obtain ⟨c0, -, -, -, cl⟩ := h.cells
  go_enter Try.func27, Try.ntmps27
  go_wp2_with fail
  refine HT.out.mono ?_
  rintro e w1 ⟨rfl, h1, b1⟩
  clear c0 cl
  have x2 := HX.out
  go_wp2_with fail
  refine (simple_calls _).mono ?_
  rintro e w2 ⟨rfl, hm, b2⟩
  have h2 := h1.below b2
  have B2 := b1.trans (b2.mono h1.top)
  have hl2 := run_lookup eK eT keyU Try.underlying68 zeroT simpleI (102 : Int) hm true
  rw [Hf.out] at hl2
  simp only [if_true, Option.map_none, Option.getD_none, Option.isSome_none] at hl2
  clear b1 b2
  have h3 := h2.below ((Below.refl _ _).alloc (Nat.le_refl _) (.cells #[.int .i64 0, .string ⟨#[]⟩, .int .i64 0] 28))
  have B3 := B2.alloc h2.top (.cells #[.int .i64 0, .string ⟨#[]⟩, .int .i64 0] 28)
  have HH := Lib.hid hm
  clear hm x2
  go_wp2_with fail
  refine (quotes_calls _).mono ?_
  rintro e w4 ⟨rfl, hm4, b4⟩
  have h4 := h3.below b4
  have B4 := B3.trans (b4.mono h3.top)
  rw [show (w2.alloc (.cells #[.int .i64 0, .string ⟨#[]⟩, .int .i64 0] 28)).heap.size = w2.heap.size + 1 by simp] at hm4
  have hl4 := run_lookup eK eI keyU Try.underlying71 zeroI quotesI (102 : Int) hm4 true
  rw [Hq.out] at hl4
  simp only [if_true, Option.map_none, Option.getD_none, Option.isSome_none, Option.map_some, Option.getD_some, Option.isSome_some] at hl4
  have HM := Lib.hid hm4
  clear hl2 hm4 b4 B3 h3 h2 B2
  obtain ⟨c0, -, f0, -, cl⟩ := h4.cells
  have hC := name_calls _ b base v s (a + 1) l 1 20 h4 hs (by omega)
  rw [HO.out] at hC
  have HC := Lib.hid hC
  clear hC
  go_wp2_with fail
  refine HC.out.mono ?_
  rcases O with _ | ⟨t, a'⟩
  · rintro e w5 ⟨o, rfl, b5⟩
    exact ⟨rfl, o, rfl, B4.trans b5⟩
  · rintro e w5 ⟨rfl, ⟨v5, h5⟩, b5⟩
    have B5 := B4.trans b5
    clear c0 cl f0 hl4 b5
    go_wp2_with fail
    refine (add_at _ b base v5 s _ l 10 t 0 h5 hl).mono ?_
    rintro e w6 ⟨rfl, ⟨v6, h6⟩, b6⟩
    go_wp2
    go_ret
    exact ⟨rfl, ⟨v6, h6⟩, B5.trans b6⟩

set_option maxHeartbeats 4000000 in
set_option maxRecDepth 100000 in
theorem esc_109 (w : World) (b base : Nat) (v : Value) (s : ByteArray) (a : Nat) (l : List Tok) (h : At w b base v s a l) (hs : s.size ≤ 1000000) (hl : l.length ≤ 1000000) (ha : a < s.size) (hk : pk s a = 109) (O : Option (ByteArray × Nat)) (hO : nameM 0 20 s (a + 1) = O) :
    Calls Try.prog 27 #[.pointer (some ⟨b, 0, none⟩)] w (EscP b base s l w (namedE 21 O)) := by
  obtain ⟨T, hz, hx, hT⟩ := take_byte h hs ha
  have HT := Lib.hid hT
  have e0 := rest_full s a ha
  have i1 : (0 : Int) < T.size := by omega
  rw [hk] at hx
  have hf : find simpleI (109 : Int) = none := rfl
  have hq : find quotesI (109 : Int) = none := rfl
  have HO := Lib.hid hO
  clear hk hO
  have HX := Lib.hid hx
  have Hf := Lib.hid hf
  have Hq := Lib.hid hq
  clear hx hT hf hq
  obtain ⟨c0, -, -, -, cl⟩ := h.cells
  go_enter Try.func27, Try.ntmps27
  go_wp2_with fail
  refine HT.out.mono ?_
  rintro e w1 ⟨rfl, h1, b1⟩
  clear c0 cl
  have x2 := HX.out
  go_wp2_with fail
  refine (simple_calls _).mono ?_
  rintro e w2 ⟨rfl, hm, b2⟩
  have h2 := h1.below b2
  have B2 := b1.trans (b2.mono h1.top)
  have hl2 := run_lookup eK eT keyU Try.underlying68 zeroT simpleI (109 : Int) hm true
  rw [Hf.out] at hl2
  simp only [if_true, Option.map_none, Option.getD_none, Option.isSome_none] at hl2
  clear b1 b2
  have h3 := h2.below ((Below.refl _ _).alloc (Nat.le_refl _) (.cells #[.int .i64 0, .string ⟨#[]⟩, .int .i64 0] 28))
  have B3 := B2.alloc h2.top (.cells #[.int .i64 0, .string ⟨#[]⟩, .int .i64 0] 28)
  have HH := Lib.hid hm
  clear hm x2
  go_wp2_with fail
  refine (quotes_calls _).mono ?_
  rintro e w4 ⟨rfl, hm4, b4⟩
  have h4 := h3.below b4
  have B4 := B3.trans (b4.mono h3.top)
  rw [show (w2.alloc (.cells #[.int .i64 0, .string ⟨#[]⟩, .int .i64 0] 28)).heap.size = w2.heap.size + 1 by simp] at hm4
  have hl4 := run_lookup eK eI keyU Try.underlying71 zeroI quotesI (109 : Int) hm4 true
  rw [Hq.out] at hl4
  simp only [if_true, Option.map_none, Option.getD_none, Option.isSome_none, Option.map_some, Option.getD_some, Option.isSome_some] at hl4
  have HM := Lib.hid hm4
  clear hl2 hm4 b4 B3 h3 h2 B2
  obtain ⟨c0, -, f0, -, cl⟩ := h4.cells
  have hC := name_calls _ b base v s (a + 1) l 0 20 h4 hs (by omega)
  rw [HO.out] at hC
  have HC := Lib.hid hC
  clear hC
  go_wp2_with fail
  refine HC.out.mono ?_
  rcases O with _ | ⟨t, a'⟩
  · rintro e w5 ⟨o, rfl, b5⟩
    exact ⟨rfl, o, rfl, B4.trans b5⟩
  · rintro e w5 ⟨rfl, ⟨v5, h5⟩, b5⟩
    have B5 := B4.trans b5
    clear c0 cl f0 hl4 b5
    go_wp2_with fail
    refine (add_at _ b base v5 s _ l 21 t 0 h5 hl).mono ?_
    rintro e w6 ⟨rfl, ⟨v6, h6⟩, b6⟩
    go_wp2
    go_ret
    exact ⟨rfl, ⟨v6, h6⟩, B5.trans b6⟩

set_option maxHeartbeats 4000000 in
set_option maxRecDepth 100000 in
theorem esc_107 (w : World) (b base : Nat) (v : Value) (s : ByteArray) (a : Nat) (l : List Tok) (h : At w b base v s a l) (hs : s.size ≤ 1000000) (hl : l.length ≤ 1000000) (ha : a < s.size) (hk : pk s a = 107) (O : Option (ByteArray × Nat)) (hO : nameM 1 20 s (a + 1) = O) :
    Calls Try.prog 27 #[.pointer (some ⟨b, 0, none⟩)] w (EscP b base s l w (namedE 19 O)) := by
  obtain ⟨T, hz, hx, hT⟩ := take_byte h hs ha
  have HT := Lib.hid hT
  have e0 := rest_full s a ha
  have i1 : (0 : Int) < T.size := by omega
  rw [hk] at hx
  have hf : find simpleI (107 : Int) = none := rfl
  have hq : find quotesI (107 : Int) = none := rfl
  have HO := Lib.hid hO
  clear hk hO
  have HX := Lib.hid hx
  have Hf := Lib.hid hf
  have Hq := Lib.hid hq
  clear hx hT hf hq
  obtain ⟨c0, -, -, -, cl⟩ := h.cells
  go_enter Try.func27, Try.ntmps27
  go_wp2_with fail
  refine HT.out.mono ?_
  rintro e w1 ⟨rfl, h1, b1⟩
  clear c0 cl
  have x2 := HX.out
  go_wp2_with fail
  refine (simple_calls _).mono ?_
  rintro e w2 ⟨rfl, hm, b2⟩
  have h2 := h1.below b2
  have B2 := b1.trans (b2.mono h1.top)
  have hl2 := run_lookup eK eT keyU Try.underlying68 zeroT simpleI (107 : Int) hm true
  rw [Hf.out] at hl2
  simp only [if_true, Option.map_none, Option.getD_none, Option.isSome_none] at hl2
  clear b1 b2
  have h3 := h2.below ((Below.refl _ _).alloc (Nat.le_refl _) (.cells #[.int .i64 0, .string ⟨#[]⟩, .int .i64 0] 28))
  have B3 := B2.alloc h2.top (.cells #[.int .i64 0, .string ⟨#[]⟩, .int .i64 0] 28)
  have HH := Lib.hid hm
  clear hm x2
  go_wp2_with fail
  refine (quotes_calls _).mono ?_
  rintro e w4 ⟨rfl, hm4, b4⟩
  have h4 := h3.below b4
  have B4 := B3.trans (b4.mono h3.top)
  rw [show (w2.alloc (.cells #[.int .i64 0, .string ⟨#[]⟩, .int .i64 0] 28)).heap.size = w2.heap.size + 1 by simp] at hm4
  have hl4 := run_lookup eK eI keyU Try.underlying71 zeroI quotesI (107 : Int) hm4 true
  rw [Hq.out] at hl4
  simp only [if_true, Option.map_none, Option.getD_none, Option.isSome_none, Option.map_some, Option.getD_some, Option.isSome_some] at hl4
  have HM := Lib.hid hm4
  clear hl2 hm4 b4 B3 h3 h2 B2
  obtain ⟨c0, -, f0, -, cl⟩ := h4.cells
  have hC := name_calls _ b base v s (a + 1) l 1 20 h4 hs (by omega)
  rw [HO.out] at hC
  have HC := Lib.hid hC
  clear hC
  go_wp2_with fail
  refine HC.out.mono ?_
  rcases O with _ | ⟨t, a'⟩
  · rintro e w5 ⟨o, rfl, b5⟩
    exact ⟨rfl, o, rfl, B4.trans b5⟩
  · rintro e w5 ⟨rfl, ⟨v5, h5⟩, b5⟩
    have B5 := B4.trans b5
    clear c0 cl f0 hl4 b5
    go_wp2_with fail
    refine (add_at _ b base v5 s _ l 19 t 0 h5 hl).mono ?_
    rintro e w6 ⟨rfl, ⟨v6, h6⟩, b6⟩
    go_wp2
    go_ret
    exact ⟨rfl, ⟨v6, h6⟩, B5.trans b6⟩

set_option maxHeartbeats 4000000 in
set_option maxRecDepth 100000 in
theorem esc_40 (w : World) (b base : Nat) (v : Value) (s : ByteArray) (a : Nat) (l : List Tok) (h : At w b base v s a l) (hs : s.size ≤ 1000000) (hl : l.length ≤ 1000000) (ha : a < s.size) (hk : pk s a = 40) (O : Option (ByteArray × Nat)) (hO : nameM 1 10 s a = O) :
    Calls Try.prog 27 #[.pointer (some ⟨b, 0, none⟩)] w (EscP b base s l w (namedE 0 O)) := by
  obtain ⟨T, hz, hx, hT⟩ := take_byte h hs ha
  have HT := Lib.hid hT
  have e0 := rest_full s a ha
  have i1 : (0 : Int) < T.size := by omega
  rw [hk] at hx
  have hf : find simpleI (40 : Int) = none := rfl
  have hq : find quotesI (40 : Int) = none := rfl
  have HO := Lib.hid hO
  have HK := Lib.hid hk
  have henc : Utf8.encode 40 = oneS 40 := enc_low 40 (by decide)
  clear hk hO
  have HX := Lib.hid hx
  have Hf := Lib.hid hf
  have Hq := Lib.hid hq
  clear hx hT hf hq
  obtain ⟨c0, -, -, -, cl⟩ := h.cells
  go_enter Try.func27, Try.ntmps27
  go_wp2_with fail
  refine HT.out.mono ?_
  rintro e w1 ⟨rfl, h1, b1⟩
  clear c0 cl
  have x2 := HX.out
  go_wp2_with fail
  refine (simple_calls _).mono ?_
  rintro e w2 ⟨rfl, hm, b2⟩
  have h2 := h1.below b2
  have B2 := b1.trans (b2.mono h1.top)
  have hl2 := run_lookup eK eT keyU Try.underlying68 zeroT simpleI (40 : Int) hm true
  rw [Hf.out] at hl2
  simp only [if_true, Option.map_none, Option.getD_none, Option.isSome_none] at hl2
  clear b1 b2
  have h3 := h2.below ((Below.refl _ _).alloc (Nat.le_refl _) (.cells #[.int .i64 0, .string ⟨#[]⟩, .int .i64 0] 28))
  have B3 := B2.alloc h2.top (.cells #[.int .i64 0, .string ⟨#[]⟩, .int .i64 0] 28)
  have HH := Lib.hid hm
  clear hm x2
  go_wp2_with fail
  refine (quotes_calls _).mono ?_
  rintro e w4 ⟨rfl, hm4, b4⟩
  have h4 := h3.below b4
  have B4 := B3.trans (b4.mono h3.top)
  rw [show (w2.alloc (.cells #[.int .i64 0, .string ⟨#[]⟩, .int .i64 0] 28)).heap.size = w2.heap.size + 1 by simp] at hm4
  have hl4 := run_lookup eK eI keyU Try.underlying71 zeroI quotesI (40 : Int) hm4 true
  rw [Hq.out] at hl4
  simp only [if_true, Option.map_none, Option.getD_none, Option.isSome_none, Option.map_some, Option.getD_some, Option.isSome_some] at hl4
  have HM := Lib.hid hm4
  clear hl2 hm4 b4 B3 h3 h2 B2
  obtain ⟨c0, -, f0, -, cl⟩ := h4.cells
  have h5' := back_at h4 ha 40 HK.out
  have B5' := B4.setCell (p := ⟨b, 0, none⟩) h4.ge (.string (oneS 40 ++ s.extract (a + 1) s.size))
  have hC := name_calls _ b base v s a l 1 10 h5' hs (by omega)
  rw [HO.out] at hC
  have HC := Lib.hid hC
  clear hC
  go_wp2_with fail
  refine HC.out.mono ?_
  rcases O with _ | ⟨t, a'⟩
  · rintro e w5 ⟨o, rfl, b5⟩
    exact ⟨rfl, o, rfl, B5'.trans b5⟩
  · rintro e w5 ⟨rfl, ⟨v5, h5⟩, b5⟩
    have B5 := B5'.trans b5
    clear c0 cl f0 hl4 b5
    go_wp2_with fail
    refine (add_at _ b base v5 s _ l 0 t 0 h5 hl).mono ?_
    rintro e w6 ⟨rfl, ⟨v6, h6⟩, b6⟩
    go_wp2
    go_ret
    exact ⟨rfl, ⟨v6, h6⟩, B5.trans b6⟩

set_option maxHeartbeats 4000000 in
set_option maxRecDepth 100000 in
theorem esc_91 (w : World) (b base : Nat) (v : Value) (s : ByteArray) (a : Nat) (l : List Tok) (h : At w b base v s a l) (hs : s.size ≤ 1000000) (hl : l.length ≤ 1000000) (ha : a < s.size) (hk : pk s a = 91) (O : Option (ByteArray × Nat)) (hO : nameM 1 10 s a = O) :
    Calls Try.prog 27 #[.pointer (some ⟨b, 0, none⟩)] w (EscP b base s l w (namedE 0 O)) := by
  obtain ⟨T, hz, hx, hT⟩ := take_byte h hs ha
  have HT := Lib.hid hT
  have e0 := rest_full s a ha
  have i1 : (0 : Int) < T.size := by omega
  rw [hk] at hx
  have hf : find simpleI (91 : Int) = none := rfl
  have hq : find quotesI (91 : Int) = none := rfl
  have HO := Lib.hid hO
  have HK := Lib.hid hk
  have henc : Utf8.encode 91 = oneS 91 := enc_low 91 (by decide)
  clear hk hO
  have HX := Lib.hid hx
  have Hf := Lib.hid hf
  have Hq := Lib.hid hq
  clear hx hT hf hq
  obtain ⟨c0, -, -, -, cl⟩ := h.cells
  go_enter Try.func27, Try.ntmps27
  go_wp2_with fail
  refine HT.out.mono ?_
  rintro e w1 ⟨rfl, h1, b1⟩
  clear c0 cl
  have x2 := HX.out
  go_wp2_with fail
  refine (simple_calls _).mono ?_
  rintro e w2 ⟨rfl, hm, b2⟩
  have h2 := h1.below b2
  have B2 := b1.trans (b2.mono h1.top)
  have hl2 := run_lookup eK eT keyU Try.underlying68 zeroT simpleI (91 : Int) hm true
  rw [Hf.out] at hl2
  simp only [if_true, Option.map_none, Option.getD_none, Option.isSome_none] at hl2
  clear b1 b2
  have h3 := h2.below ((Below.refl _ _).alloc (Nat.le_refl _) (.cells #[.int .i64 0, .string ⟨#[]⟩, .int .i64 0] 28))
  have B3 := B2.alloc h2.top (.cells #[.int .i64 0, .string ⟨#[]⟩, .int .i64 0] 28)
  have HH := Lib.hid hm
  clear hm x2
  go_wp2_with fail
  refine (quotes_calls _).mono ?_
  rintro e w4 ⟨rfl, hm4, b4⟩
  have h4 := h3.below b4
  have B4 := B3.trans (b4.mono h3.top)
  rw [show (w2.alloc (.cells #[.int .i64 0, .string ⟨#[]⟩, .int .i64 0] 28)).heap.size = w2.heap.size + 1 by simp] at hm4
  have hl4 := run_lookup eK eI keyU Try.underlying71 zeroI quotesI (91 : Int) hm4 true
  rw [Hq.out] at hl4
  simp only [if_true, Option.map_none, Option.getD_none, Option.isSome_none, Option.map_some, Option.getD_some, Option.isSome_some] at hl4
  have HM := Lib.hid hm4
  clear hl2 hm4 b4 B3 h3 h2 B2
  obtain ⟨c0, -, f0, -, cl⟩ := h4.cells
  have h5' := back_at h4 ha 91 HK.out
  have B5' := B4.setCell (p := ⟨b, 0, none⟩) h4.ge (.string (oneS 91 ++ s.extract (a + 1) s.size))
  have hC := name_calls _ b base v s a l 1 10 h5' hs (by omega)
  rw [HO.out] at hC
  have HC := Lib.hid hC
  clear hC
  go_wp2_with fail
  refine HC.out.mono ?_
  rcases O with _ | ⟨t, a'⟩
  · rintro e w5 ⟨o, rfl, b5⟩
    exact ⟨rfl, o, rfl, B5'.trans b5⟩
  · rintro e w5 ⟨rfl, ⟨v5, h5⟩, b5⟩
    have B5 := B5'.trans b5
    clear c0 cl f0 hl4 b5
    go_wp2_with fail
    refine (add_at _ b base v5 s _ l 0 t 0 h5 hl).mono ?_
    rintro e w6 ⟨rfl, ⟨v6, h6⟩, b6⟩
    go_wp2
    go_ret
    exact ⟨rfl, ⟨v6, h6⟩, B5.trans b6⟩

set_option maxHeartbeats 4000000 in
set_option maxRecDepth 100000 in
theorem esc_115 (w : World) (b base : Nat) (v : Value) (s : ByteArray) (a : Nat) (l : List Tok) (h : At w b base v s a l) (hs : s.size ≤ 1000000) (hl : l.length ≤ 1000000) (ha : a < s.size) (hk : pk s a = 115) (O : Option (ByteArray × Nat × Nat)) (hO : sizeM s (a + 1) = O) :
    Calls Try.prog 27 #[.pointer (some ⟨b, 0, none⟩)] w (EscP b base s l w (sizeE O)) := by
  obtain ⟨T, hz, hx, hT⟩ := take_byte h hs ha
  have HT := Lib.hid hT
  have e0 := rest_full s a ha
  have i1 : (0 : Int) < T.size := by omega
  rw [hk] at hx
  have hf : find simpleI (115 : Int) = none := rfl
  have hq : find quotesI (115 : Int) = none := rfl
  have HO := Lib.hid hO
  clear hk hO
  have HX := Lib.hid hx
  have Hf := Lib.hid hf
  have Hq := Lib.hid hq
  clear hx hT hf hq
  obtain ⟨c0, -, -, -, cl⟩ := h.cells
  go_enter Try.func27, Try.ntmps27
  go_wp2_with fail
  refine HT.out.mono ?_
  rintro e w1 ⟨rfl, h1, b1⟩
  clear c0 cl
  have x2 := HX.out
  go_wp2_with fail
  refine (simple_calls _).mono ?_
  rintro e w2 ⟨rfl, hm, b2⟩
  have h2 := h1.below b2
  have B2 := b1.trans (b2.mono h1.top)
  have hl2 := run_lookup eK eT keyU Try.underlying68 zeroT simpleI (115 : Int) hm true
  rw [Hf.out] at hl2
  simp only [if_true, Option.map_none, Option.getD_none, Option.isSome_none] at hl2
  clear b1 b2
  have h3 := h2.below ((Below.refl _ _).alloc (Nat.le_refl _) (.cells #[.int .i64 0, .string ⟨#[]⟩, .int .i64 0] 28))
  have B3 := B2.alloc h2.top (.cells #[.int .i64 0, .string ⟨#[]⟩, .int .i64 0] 28)
  have HH := Lib.hid hm
  clear hm x2
  go_wp2_with fail
  refine (quotes_calls _).mono ?_
  rintro e w4 ⟨rfl, hm4, b4⟩
  have h4 := h3.below b4
  have B4 := B3.trans (b4.mono h3.top)
  rw [show (w2.alloc (.cells #[.int .i64 0, .string ⟨#[]⟩, .int .i64 0] 28)).heap.size = w2.heap.size + 1 by simp] at hm4
  have hl4 := run_lookup eK eI keyU Try.underlying71 zeroI quotesI (115 : Int) hm4 true
  rw [Hq.out] at hl4
  simp only [if_true, Option.map_none, Option.getD_none, Option.isSome_none, Option.map_some, Option.getD_some, Option.isSome_some] at hl4
  have HM := Lib.hid hm4
  clear hl2 hm4 b4 B3 h3 h2 B2
  obtain ⟨c0, -, f0, -, cl⟩ := h4.cells
  have hC := size_calls _ b base v s (a + 1) l h4 hs hl (by omega)
  rw [HO.out] at hC
  have HC := Lib.hid hC
  clear hC
  go_wp2_with fail
  refine HC.out.mono ?_
  rcases O with _ | ⟨t, n, a'⟩
  · rintro e w5 ⟨o, rfl, b5⟩
    exact ⟨rfl, o, rfl, B4.trans b5⟩
  · rintro e w5 ⟨rfl, ⟨v5, h5⟩, b5⟩
    go_wp2
    go_ret
    exact ⟨rfl, ⟨v5, h5⟩, B4.trans b5⟩

set_option maxHeartbeats 4000000 in
set_option maxRecDepth 100000 in
theorem esc_99 (w : World) (b base : Nat) (v : Value) (s : ByteArray) (a : Nat) (l : List Tok) (h : At w b base v s a l) (hs : s.size ≤ 1000000) (hl : l.length ≤ 1000000) (ha : a < s.size) (hk : pk s a = 99) :
    Calls Try.prog 27 #[.pointer (some ⟨b, 0, none⟩)] w (EscP b base s l w (.stop [⟨20, ⟨#[]⟩, 0⟩])) := by
  obtain ⟨T, hz, hx, hT⟩ := take_byte h hs ha
  have HT := Lib.hid hT
  have e0 := rest_full s a ha
  have i1 : (0 : Int) < T.size := by omega
  rw [hk] at hx
  have hf : find simpleI (99 : Int) = none := rfl
  have hq : find quotesI (99 : Int) = none := rfl
  clear hk
  have HX := Lib.hid hx
  have Hf := Lib.hid hf
  have Hq := Lib.hid hq
  clear hx hT hf hq
  obtain ⟨c0, -, -, -, cl⟩ := h.cells
  go_enter Try.func27, Try.ntmps27
  go_wp2_with fail
  refine HT.out.mono ?_
  rintro e w1 ⟨rfl, h1, b1⟩
  clear c0 cl
  have x2 := HX.out
  go_wp2_with fail
  refine (simple_calls _).mono ?_
  rintro e w2 ⟨rfl, hm, b2⟩
  have h2 := h1.below b2
  have B2 := b1.trans (b2.mono h1.top)
  have hl2 := run_lookup eK eT keyU Try.underlying68 zeroT simpleI (99 : Int) hm true
  rw [Hf.out] at hl2
  simp only [if_true, Option.map_none, Option.getD_none, Option.isSome_none] at hl2
  clear b1 b2
  have h3 := h2.below ((Below.refl _ _).alloc (Nat.le_refl _) (.cells #[.int .i64 0, .string ⟨#[]⟩, .int .i64 0] 28))
  have B3 := B2.alloc h2.top (.cells #[.int .i64 0, .string ⟨#[]⟩, .int .i64 0] 28)
  have HH := Lib.hid hm
  clear hm x2
  go_wp2_with fail
  refine (quotes_calls _).mono ?_
  rintro e w4 ⟨rfl, hm4, b4⟩
  have h4 := h3.below b4
  have B4 := B3.trans (b4.mono h3.top)
  rw [show (w2.alloc (.cells #[.int .i64 0, .string ⟨#[]⟩, .int .i64 0] 28)).heap.size = w2.heap.size + 1 by simp] at hm4
  have hl4 := run_lookup eK eI keyU Try.underlying71 zeroI quotesI (99 : Int) hm4 true
  rw [Hq.out] at hl4
  simp only [if_true, Option.map_none, Option.getD_none, Option.isSome_none, Option.map_some, Option.getD_some, Option.isSome_some] at hl4
  have HM := Lib.hid hm4
  clear hl2 hm4 b4 B3 h3 h2 B2
  obtain ⟨c0, -, f0, -, cl⟩ := h4.cells
  go_wp2_with fail
  refine (add_at _ b base v s _ l 20 ⟨#[]⟩ 0 h4 hl).mono ?_
  rintro e w6 ⟨rfl, ⟨v6, h6⟩, b6⟩
  go_wp2
  go_ret
  exact ⟨rfl, ⟨v6, _, h6⟩, B4.trans b6⟩

set_option maxHeartbeats 4000000 in
set_option maxRecDepth 100000 in
theorem esc_34 (w : World) (b base : Nat) (v : Value) (s : ByteArray) (a : Nat) (l : List Tok) (h : At w b base v s a l) (hs : s.size ≤ 1000000) (hl : l.length ≤ 1000000) (ha : a < s.size) (hk : pk s a = 34) :
    Calls Try.prog 27 #[.pointer (some ⟨b, 0, none⟩)] w (EscP b base s l w (.stop [])) := by
  obtain ⟨T, hz, hx, hT⟩ := take_byte h hs ha
  have HT := Lib.hid hT
  have e0 := rest_full s a ha
  have i1 : (0 : Int) < T.size := by omega
  rw [hk] at hx
  have hf : find simpleI (34 : Int) = none := rfl
  have hq : find quotesI (34 : Int) = none := rfl
  clear hk
  have HX := Lib.hid hx
  have Hf := Lib.hid hf
  have Hq := Lib.hid hq
  clear hx hT hf hq
  obtain ⟨c0, -, -, -, cl⟩ := h.cells
  go_enter Try.func27, Try.ntmps27
  go_wp2_with fail
  refine HT.out.mono ?_
  rintro e w1 ⟨rfl, h1, b1⟩
  clear c0 cl
  have x2 := HX.out
  go_wp2_with fail
  refine (simple_calls _).mono ?_
  rintro e w2 ⟨rfl, hm, b2⟩
  have h2 := h1.below b2
  have B2 := b1.trans (b2.mono h1.top)
  have hl2 := run_lookup eK eT keyU Try.underlying68 zeroT simpleI (34 : Int) hm true
  rw [Hf.out] at hl2
  simp only [if_true, Option.map_none, Option.getD_none, Option.isSome_none] at hl2
  clear b1 b2
  have h3 := h2.below ((Below.refl _ _).alloc (Nat.le_refl _) (.cells #[.int .i64 0, .string ⟨#[]⟩, .int .i64 0] 28))
  have B3 := B2.alloc h2.top (.cells #[.int .i64 0, .string ⟨#[]⟩, .int .i64 0] 28)
  have HH := Lib.hid hm
  clear hm x2
  go_wp2_with fail
  refine (quotes_calls _).mono ?_
  rintro e w4 ⟨rfl, hm4, b4⟩
  have h4 := h3.below b4
  have B4 := B3.trans (b4.mono h3.top)
  rw [show (w2.alloc (.cells #[.int .i64 0, .string ⟨#[]⟩, .int .i64 0] 28)).heap.size = w2.heap.size + 1 by simp] at hm4
  have hl4 := run_lookup eK eI keyU Try.underlying71 zeroI quotesI (34 : Int) hm4 true
  rw [Hq.out] at hl4
  simp only [if_true, Option.map_none, Option.getD_none, Option.isSome_none, Option.map_some, Option.getD_some, Option.isSome_some] at hl4
  have HM := Lib.hid hm4
  clear hl2 hm4 b4 B3 h3 h2 B2
  obtain ⟨c0, -, f0, -, cl⟩ := h4.cells
  go_wp2
  go_ret
  exact ⟨rfl, ⟨v, _, by rw [List.append_nil]; exact h4⟩, B4⟩

set_option maxHeartbeats 4000000 in
set_option maxRecDepth 100000 in
theorem esc_123 (w : World) (b base : Nat) (v : Value) (s : ByteArray) (a : Nat) (l : List Tok) (h : At w b base v s a l) (hs : s.size ≤ 1000000) (hl : l.length ≤ 1000000) (ha : a < s.size) (hk : pk s a = 123) :
    Calls Try.prog 27 #[.pointer (some ⟨b, 0, none⟩)] w (EscP b base s l w (.go [] (a + 1))) := by
  obtain ⟨T, hz, hx, hT⟩ := take_byte h hs ha
  have HT := Lib.hid hT
  have e0 := rest_full s a ha
  have i1 : (0 : Int) < T.size := by omega
  rw [hk] at hx
  have hf : find simpleI (123 : Int) = none := rfl
  have hq : find quotesI (123 : Int) = none := rfl
  clear hk
  have HX := Lib.hid hx
  have Hf := Lib.hid hf
  have Hq := Lib.hid hq
  clear hx hT hf hq
  obtain ⟨c0, -, -, -, cl⟩ := h.cells
  go_enter Try.func27, Try.ntmps27
  go_wp2_with fail
  refine HT.out.mono ?_
  rintro e w1 ⟨rfl, h1, b1⟩
  clear c0 cl
  have x2 := HX.out
  go_wp2_with fail
  refine (simple_calls _).mono ?_
  rintro e w2 ⟨rfl, hm, b2⟩
  have h2 := h1.below b2
  have B2 := b1.trans (b2.mono h1.top)
  have hl2 := run_lookup eK eT keyU Try.underlying68 zeroT simpleI (123 : Int) hm true
  rw [Hf.out] at hl2
  simp only [if_true, Option.map_none, Option.getD_none, Option.isSome_none] at hl2
  clear b1 b2
  have h3 := h2.below ((Below.refl _ _).alloc (Nat.le_refl _) (.cells #[.int .i64 0, .string ⟨#[]⟩, .int .i64 0] 28))
  have B3 := B2.alloc h2.top (.cells #[.int .i64 0, .string ⟨#[]⟩, .int .i64 0] 28)
  have HH := Lib.hid hm
  clear hm x2
  go_wp2_with fail
  refine (quotes_calls _).mono ?_
  rintro e w4 ⟨rfl, hm4, b4⟩
  have h4 := h3.below b4
  have B4 := B3.trans (b4.mono h3.top)
  rw [show (w2.alloc (.cells #[.int .i64 0, .string ⟨#[]⟩, .int .i64 0] 28)).heap.size = w2.heap.size + 1 by simp] at hm4
  have hl4 := run_lookup eK eI keyU Try.underlying71 zeroI quotesI (123 : Int) hm4 true
  rw [Hq.out] at hl4
  simp only [if_true, Option.map_none, Option.getD_none, Option.isSome_none, Option.map_some, Option.getD_some, Option.isSome_some] at hl4
  have HM := Lib.hid hm4
  clear hl2 hm4 b4 B3 h3 h2 B2
  obtain ⟨c0, -, f0, -, cl⟩ := h4.cells
  go_wp2
  go_ret
  exact ⟨rfl, ⟨v, by rw [List.append_nil]; exact h4⟩, B4⟩

set_option maxHeartbeats 4000000 in
set_option maxRecDepth 100000 in
theorem esc_125 (w : World) (b base : Nat) (v : Value) (s : ByteArray) (a : Nat) (l : List Tok) (h : At w b base v s a l) (hs : s.size ≤ 1000000) (hl : l.length ≤ 1000000) (ha : a < s.size) (hk : pk s a = 125) :
    Calls Try.prog 27 #[.pointer (some ⟨b, 0, none⟩)] w (EscP b base s l w (.go [] (a + 1))) := by
  obtain ⟨T, hz, hx, hT⟩ := take_byte h hs ha
  have HT := Lib.hid hT
  have e0 := rest_full s a ha
  have i1 : (0 : Int) < T.size := by omega
  rw [hk] at hx
  have hf : find simpleI (125 : Int) = none := rfl
  have hq : find quotesI (125 : Int) = none := rfl
  clear hk
  have HX := Lib.hid hx
  have Hf := Lib.hid hf
  have Hq := Lib.hid hq
  clear hx hT hf hq
  obtain ⟨c0, -, -, -, cl⟩ := h.cells
  go_enter Try.func27, Try.ntmps27
  go_wp2_with fail
  refine HT.out.mono ?_
  rintro e w1 ⟨rfl, h1, b1⟩
  clear c0 cl
  have x2 := HX.out
  go_wp2_with fail
  refine (simple_calls _).mono ?_
  rintro e w2 ⟨rfl, hm, b2⟩
  have h2 := h1.below b2
  have B2 := b1.trans (b2.mono h1.top)
  have hl2 := run_lookup eK eT keyU Try.underlying68 zeroT simpleI (125 : Int) hm true
  rw [Hf.out] at hl2
  simp only [if_true, Option.map_none, Option.getD_none, Option.isSome_none] at hl2
  clear b1 b2
  have h3 := h2.below ((Below.refl _ _).alloc (Nat.le_refl _) (.cells #[.int .i64 0, .string ⟨#[]⟩, .int .i64 0] 28))
  have B3 := B2.alloc h2.top (.cells #[.int .i64 0, .string ⟨#[]⟩, .int .i64 0] 28)
  have HH := Lib.hid hm
  clear hm x2
  go_wp2_with fail
  refine (quotes_calls _).mono ?_
  rintro e w4 ⟨rfl, hm4, b4⟩
  have h4 := h3.below b4
  have B4 := B3.trans (b4.mono h3.top)
  rw [show (w2.alloc (.cells #[.int .i64 0, .string ⟨#[]⟩, .int .i64 0] 28)).heap.size = w2.heap.size + 1 by simp] at hm4
  have hl4 := run_lookup eK eI keyU Try.underlying71 zeroI quotesI (125 : Int) hm4 true
  rw [Hq.out] at hl4
  simp only [if_true, Option.map_none, Option.getD_none, Option.isSome_none, Option.map_some, Option.getD_some, Option.isSome_some] at hl4
  have HM := Lib.hid hm4
  clear hl2 hm4 b4 B3 h3 h2 B2
  obtain ⟨c0, -, f0, -, cl⟩ := h4.cells
  go_wp2
  go_ret
  exact ⟨rfl, ⟨v, by rw [List.append_nil]; exact h4⟩, B4⟩

set_option maxHeartbeats 4000000 in
set_option maxRecDepth 100000 in
theorem esc_seen (w : World) (b base : Nat) (v : Value) (s : ByteArray) (a : Nat) (l : List Tok) (h : At w b base v s a l) (hs : s.size ≤ 1000000) (hl : l.length ≤ 1000000) (ha : a < s.size) (hn : look simpleL (pk s a) = none) (hqn : look quotesL (pk s a) = none) (hne : pk s a ≠ 40 ∧ pk s a ≠ 91 ∧ pk s a ≠ 102 ∧ pk s a ≠ 109 ∧ pk s a ≠ 107 ∧ pk s a ≠ 115 ∧ pk s a ≠ 99 ∧ pk s a ≠ 34 ∧ pk s a ≠ 123 ∧ pk s a ≠ 125) (hsn : 32 < pk s a ∧ pk s a < 127) (C : Nat) (hC : pk s a = C) :
    Calls Try.prog 27 #[.pointer (some ⟨b, 0, none⟩)] w (EscP b base s l w (.go [⟨0, oneS C, 0⟩] (a + 1))) := by
  obtain ⟨T, hz, hx, hT⟩ := take_byte h hs ha
  have HT := Lib.hid hT
  have e0 := rest_full s a ha
  have i1 : (0 : Int) < T.size := by omega
  obtain ⟨c, hc⟩ : ∃ c, pk s a = c := ⟨_, rfl⟩
  rw [hc] at hC hn hqn hx hne hsn
  have hf : find simpleI (c : Int) = none := (find_look simpleL c).trans hn
  have hq : find quotesI (c : Int) = none := (find_look quotesL c).trans hqn
  have n40 : ((c : Int) == 40) = false := by rw [beq_eq_false_iff_ne]; omega
  have n91 : ((c : Int) == 91) = false := by rw [beq_eq_false_iff_ne]; omega
  have n102 : ((c : Int) == 102) = false := by rw [beq_eq_false_iff_ne]; omega
  have n109 : ((c : Int) == 109) = false := by rw [beq_eq_false_iff_ne]; omega
  have n107 : ((c : Int) == 107) = false := by rw [beq_eq_false_iff_ne]; omega
  have n115 : ((c : Int) == 115) = false := by rw [beq_eq_false_iff_ne]; omega
  have n99 : ((c : Int) == 99) = false := by rw [beq_eq_false_iff_ne]; omega
  have n34 : ((c : Int) == 34) = false := by rw [beq_eq_false_iff_ne]; omega
  have n123 : ((c : Int) == 123) = false := by rw [beq_eq_false_iff_ne]; omega
  have n125 : ((c : Int) == 125) = false := by rw [beq_eq_false_iff_ne]; omega
  subst hC
  have henc : Utf8.encode (wrap32 (c : Int)) = oneS c := by
    rw [show wrap32 (c : Int) = c by unfold wrap32; omega]
    exact enc_low c (by omega)
  have d1 : decide ((32 : Int) < c) = true := decide_eq_true (by omega)
  have d2 : decide ((c : Int) < 127) = true := decide_eq_true (by omega)
  clear hc hn hqn hne hsn
  have HX := Lib.hid hx
  have Hf := Lib.hid hf
  have Hq := Lib.hid hq
  clear hx hT hf hq
  obtain ⟨c0, -, -, -, cl⟩ := h.cells
  go_enter Try.func27, Try.ntmps27
  go_wp2_with fail
  refine HT.out.mono ?_
  rintro e w1 ⟨rfl, h1, b1⟩
  clear c0 cl
  have x2 := HX.out
  go_wp2_with fail
  refine (simple_calls _).mono ?_
  rintro e w2 ⟨rfl, hm, b2⟩
  have h2 := h1.below b2
  have B2 := b1.trans (b2.mono h1.top)
  have hl2 := run_lookup eK eT keyU Try.underlying68 zeroT simpleI (c : Int) hm true
  rw [Hf.out] at hl2
  simp only [if_true, Option.map_none, Option.getD_none, Option.isSome_none] at hl2
  clear b1 b2
  have h3 := h2.below ((Below.refl _ _).alloc (Nat.le_refl _) (.cells #[.int .i64 0, .string ⟨#[]⟩, .int .i64 0] 28))
  have B3 := B2.alloc h2.top (.cells #[.int .i64 0, .string ⟨#[]⟩, .int .i64 0] 28)
  have HH := Lib.hid hm
  clear hm x2
  go_wp2_with fail
  refine (quotes_calls _).mono ?_
  rintro e w4 ⟨rfl, hm4, b4⟩
  have h4 := h3.below b4
  have B4 := B3.trans (b4.mono h3.top)
  rw [show (w2.alloc (.cells #[.int .i64 0, .string ⟨#[]⟩, .int .i64 0] 28)).heap.size = w2.heap.size + 1 by simp] at hm4
  have hl4 := run_lookup eK eI keyU Try.underlying71 zeroI quotesI (c : Int) hm4 true
  rw [Hq.out] at hl4
  simp only [if_true, Option.map_none, Option.getD_none, Option.isSome_none, Option.map_some, Option.getD_some, Option.isSome_some] at hl4
  have HM := Lib.hid hm4
  clear hl2 hm4 b4 B3 h3 h2 B2
  obtain ⟨c0, -, f0, -, cl⟩ := h4.cells
  go_wp2_with fail
  refine (add_at _ b base v s _ l 0 (oneS c) 0 h4 hl).mono ?_
  rintro e w6 ⟨rfl, ⟨v6, h6⟩, b6⟩
  go_wp2
  go_ret
  exact ⟨rfl, ⟨v6, h6⟩, B4.trans b6⟩

set_option maxHeartbeats 4000000 in
set_option maxRecDepth 100000 in
theorem esc_low (w : World) (b base : Nat) (v : Value) (s : ByteArray) (a : Nat) (l : List Tok) (h : At w b base v s a l) (hs : s.size ≤ 1000000) (hl : l.length ≤ 1000000) (ha : a < s.size) (hn : look simpleL (pk s a) = none) (hqn : look quotesL (pk s a) = none) (hne : pk s a ≠ 40 ∧ pk s a ≠ 91 ∧ pk s a ≠ 102 ∧ pk s a ≠ 109 ∧ pk s a ≠ 107 ∧ pk s a ≠ 115 ∧ pk s a ≠ 99 ∧ pk s a ≠ 34 ∧ pk s a ≠ 123 ∧ pk s a ≠ 125) (hsn : pk s a ≤ 32) :
    Calls Try.prog 27 #[.pointer (some ⟨b, 0, none⟩)] w (EscP b base s l w (.go [] (a + 1))) := by
  obtain ⟨T, hz, hx, hT⟩ := take_byte h hs ha
  have HT := Lib.hid hT
  have e0 := rest_full s a ha
  have i1 : (0 : Int) < T.size := by omega
  obtain ⟨c, hc⟩ : ∃ c, pk s a = c := ⟨_, rfl⟩
  rw [hc] at hn hqn hx hne hsn
  have hf : find simpleI (c : Int) = none := (find_look simpleL c).trans hn
  have hq : find quotesI (c : Int) = none := (find_look quotesL c).trans hqn
  have n40 : ((c : Int) == 40) = false := by rw [beq_eq_false_iff_ne]; omega
  have n91 : ((c : Int) == 91) = false := by rw [beq_eq_false_iff_ne]; omega
  have n102 : ((c : Int) == 102) = false := by rw [beq_eq_false_iff_ne]; omega
  have n109 : ((c : Int) == 109) = false := by rw [beq_eq_false_iff_ne]; omega
  have n107 : ((c : Int) == 107) = false := by rw [beq_eq_false_iff_ne]; omega
  have n115 : ((c : Int) == 115) = false := by rw [beq_eq_false_iff_ne]; omega
  have n99 : ((c : Int) == 99) = false := by rw [beq_eq_false_iff_ne]; omega
  have n34 : ((c : Int) == 34) = false := by rw [beq_eq_false_iff_ne]; omega
  have n123 : ((c : Int) == 123) = false := by rw [beq_eq_false_iff_ne]; omega
  have n125 : ((c : Int) == 125) = false := by rw [beq_eq_false_iff_ne]; omega
  have d1 : decide ((32 : Int) < c) = false := decide_eq_false (by omega)
  clear hc hn hqn hne hsn
  have HX := Lib.hid hx
  have Hf := Lib.hid hf
  have Hq := Lib.hid hq
  clear hx hT hf hq
  obtain ⟨c0, -, -, -, cl⟩ := h.cells
  go_enter Try.func27, Try.ntmps27
  go_wp2_with fail
  refine HT.out.mono ?_
  rintro e w1 ⟨rfl, h1, b1⟩
  clear c0 cl
  have x2 := HX.out
  go_wp2_with fail
  refine (simple_calls _).mono ?_
  rintro e w2 ⟨rfl, hm, b2⟩
  have h2 := h1.below b2
  have B2 := b1.trans (b2.mono h1.top)
  have hl2 := run_lookup eK eT keyU Try.underlying68 zeroT simpleI (c : Int) hm true
  rw [Hf.out] at hl2
  simp only [if_true, Option.map_none, Option.getD_none, Option.isSome_none] at hl2
  clear b1 b2
  have h3 := h2.below ((Below.refl _ _).alloc (Nat.le_refl _) (.cells #[.int .i64 0, .string ⟨#[]⟩, .int .i64 0] 28))
  have B3 := B2.alloc h2.top (.cells #[.int .i64 0, .string ⟨#[]⟩, .int .i64 0] 28)
  have HH := Lib.hid hm
  clear hm x2
  go_wp2_with fail
  refine (quotes_calls _).mono ?_
  rintro e w4 ⟨rfl, hm4, b4⟩
  have h4 := h3.below b4
  have B4 := B3.trans (b4.mono h3.top)
  rw [show (w2.alloc (.cells #[.int .i64 0, .string ⟨#[]⟩, .int .i64 0] 28)).heap.size = w2.heap.size + 1 by simp] at hm4
  have hl4 := run_lookup eK eI keyU Try.underlying71 zeroI quotesI (c : Int) hm4 true
  rw [Hq.out] at hl4
  simp only [if_true, Option.map_none, Option.getD_none, Option.isSome_none, Option.map_some, Option.getD_some, Option.isSome_some] at hl4
  have HM := Lib.hid hm4
  clear hl2 hm4 b4 B3 h3 h2 B2
  obtain ⟨c0, -, f0, -, cl⟩ := h4.cells
  go_wp2
  go_ret
  exact ⟨rfl, ⟨v, by rw [List.append_nil]; exact h4⟩, B4⟩

set_option maxHeartbeats 4000000 in
set_option maxRecDepth 100000 in
theorem esc_high (w : World) (b base : Nat) (v : Value) (s : ByteArray) (a : Nat) (l : List Tok) (h : At w b base v s a l) (hs : s.size ≤ 1000000) (hl : l.length ≤ 1000000) (ha : a < s.size) (hn : look simpleL (pk s a) = none) (hqn : look quotesL (pk s a) = none) (hne : pk s a ≠ 40 ∧ pk s a ≠ 91 ∧ pk s a ≠ 102 ∧ pk s a ≠ 109 ∧ pk s a ≠ 107 ∧ pk s a ≠ 115 ∧ pk s a ≠ 99 ∧ pk s a ≠ 34 ∧ pk s a ≠ 123 ∧ pk s a ≠ 125) (hsn : 127 ≤ pk s a) :
    Calls Try.prog 27 #[.pointer (some ⟨b, 0, none⟩)] w (EscP b base s l w (.go [] (a + 1))) := by
  obtain ⟨T, hz, hx, hT⟩ := take_byte h hs ha
  have HT := Lib.hid hT
  have e0 := rest_full s a ha
  have i1 : (0 : Int) < T.size := by omega
  obtain ⟨c, hc⟩ : ∃ c, pk s a = c := ⟨_, rfl⟩
  rw [hc] at hn hqn hx hne hsn
  have hf : find simpleI (c : Int) = none := (find_look simpleL c).trans hn
  have hq : find quotesI (c : Int) = none := (find_look quotesL c).trans hqn
  have n40 : ((c : Int) == 40) = false := by rw [beq_eq_false_iff_ne]; omega
  have n91 : ((c : Int) == 91) = false := by rw [beq_eq_false_iff_ne]; omega
  have n102 : ((c : Int) == 102) = false := by rw [beq_eq_false_iff_ne]; omega
  have n109 : ((c : Int) == 109) = false := by rw [beq_eq_false_iff_ne]; omega
  have n107 : ((c : Int) == 107) = false := by rw [beq_eq_false_iff_ne]; omega
  have n115 : ((c : Int) == 115) = false := by rw [beq_eq_false_iff_ne]; omega
  have n99 : ((c : Int) == 99) = false := by rw [beq_eq_false_iff_ne]; omega
  have n34 : ((c : Int) == 34) = false := by rw [beq_eq_false_iff_ne]; omega
  have n123 : ((c : Int) == 123) = false := by rw [beq_eq_false_iff_ne]; omega
  have n125 : ((c : Int) == 125) = false := by rw [beq_eq_false_iff_ne]; omega
  have d1 : decide ((32 : Int) < c) = true := decide_eq_true (by omega)
  have d2 : decide ((c : Int) < 127) = false := decide_eq_false (by omega)
  clear hc hn hqn hne hsn
  have HX := Lib.hid hx
  have Hf := Lib.hid hf
  have Hq := Lib.hid hq
  clear hx hT hf hq
  obtain ⟨c0, -, -, -, cl⟩ := h.cells
  go_enter Try.func27, Try.ntmps27
  go_wp2_with fail
  refine HT.out.mono ?_
  rintro e w1 ⟨rfl, h1, b1⟩
  clear c0 cl
  have x2 := HX.out
  go_wp2_with fail
  refine (simple_calls _).mono ?_
  rintro e w2 ⟨rfl, hm, b2⟩
  have h2 := h1.below b2
  have B2 := b1.trans (b2.mono h1.top)
  have hl2 := run_lookup eK eT keyU Try.underlying68 zeroT simpleI (c : Int) hm true
  rw [Hf.out] at hl2
  simp only [if_true, Option.map_none, Option.getD_none, Option.isSome_none] at hl2
  clear b1 b2
  have h3 := h2.below ((Below.refl _ _).alloc (Nat.le_refl _) (.cells #[.int .i64 0, .string ⟨#[]⟩, .int .i64 0] 28))
  have B3 := B2.alloc h2.top (.cells #[.int .i64 0, .string ⟨#[]⟩, .int .i64 0] 28)
  have HH := Lib.hid hm
  clear hm x2
  go_wp2_with fail
  refine (quotes_calls _).mono ?_
  rintro e w4 ⟨rfl, hm4, b4⟩
  have h4 := h3.below b4
  have B4 := B3.trans (b4.mono h3.top)
  rw [show (w2.alloc (.cells #[.int .i64 0, .string ⟨#[]⟩, .int .i64 0] 28)).heap.size = w2.heap.size + 1 by simp] at hm4
  have hl4 := run_lookup eK eI keyU Try.underlying71 zeroI quotesI (c : Int) hm4 true
  rw [Hq.out] at hl4
  simp only [if_true, Option.map_none, Option.getD_none, Option.isSome_none, Option.map_some, Option.getD_some, Option.isSome_some] at hl4
  have HM := Lib.hid hm4
  clear hl2 hm4 b4 B3 h3 h2 B2
  obtain ⟨c0, -, f0, -, cl⟩ := h4.cells
  go_wp2
  go_ret
  exact ⟨rfl, ⟨v, by rw [List.append_nil]; exact h4⟩, B4⟩

end Go.Proofs.Ytaokofnhkojllaa

set_option linter.unusedVariables false
set_option linter.unusedSimpArgs false
namespace Go.Proofs.Ytaokofnhkojllaa
open Go.Shelf Go.RowKit Go.Lib Go.Aids Go.MapLit Go.Proofs.YtaokofnhkojllaaW.PrintWords

theorem esc_calls (w : World) (b base : Nat) (v : Value) (s : ByteArray) (a : Nat) (l : List Tok) (h : At w b base v s a l) (hs : s.size ≤ 1000000) (hl : l.length ≤ 1000000) (ha : a < s.size) :
    Calls Try.prog 27 #[.pointer (some ⟨b, 0, none⟩)] w (EscP b base s l w (escM s a)) := by
  rcases h1 : look simpleL (pk s a) with _ | t
  · rcases h2 : look quotesL (pk s a) with _ | k
    · have e : escM s a = if pk s a = 40 ∨ pk s a = 91 then namedE 0 (nameM 1 10 s a)
          else if pk s a = 102 then namedE 10 (nameM 1 20 s (a + 1))
          else if pk s a = 109 then namedE 21 (nameM 0 20 s (a + 1))
          else if pk s a = 107 then namedE 19 (nameM 1 20 s (a + 1))
          else if pk s a = 115 then sizeE (sizeM s (a + 1))
          else if pk s a = 99 then .stop [⟨20, ⟨#[]⟩, 0⟩]
          else if pk s a = 34 then .stop []
          else if pk s a = 123 ∨ pk s a = 125 then .go [] (a + 1)
          else if seenB (pk s a) = true then .go [⟨0, oneS (pk s a), 0⟩] (a + 1) else .go [] (a + 1) := by
        unfold escM
        simp only [h1, h2]
        rfl
      rw [e]
      by_cases c1 : pk s a = 40 ∨ pk s a = 91
      · rw [if_pos c1]
        rcases c1 with c1 | c1
        · exact esc_40 w b base v s a l h hs hl ha c1 _ rfl
        · exact esc_91 w b base v s a l h hs hl ha c1 _ rfl
      rw [if_neg c1]
      by_cases c2 : pk s a = 102
      · rw [if_pos c2]; exact esc_102 w b base v s a l h hs hl ha c2 _ rfl
      rw [if_neg c2]
      by_cases c3 : pk s a = 109
      · rw [if_pos c3]; exact esc_109 w b base v s a l h hs hl ha c3 _ rfl
      rw [if_neg c3]
      by_cases c4 : pk s a = 107
      · rw [if_pos c4]; exact esc_107 w b base v s a l h hs hl ha c4 _ rfl
      rw [if_neg c4]
      by_cases c5 : pk s a = 115
      · rw [if_pos c5]; exact esc_115 w b base v s a l h hs hl ha c5 _ rfl
      rw [if_neg c5]
      by_cases c6 : pk s a = 99
      · rw [if_pos c6]; exact esc_99 w b base v s a l h hs hl ha c6
      rw [if_neg c6]
      by_cases c7 : pk s a = 34
      · rw [if_pos c7]; exact esc_34 w b base v s a l h hs hl ha c7
      rw [if_neg c7]
      by_cases c8 : pk s a = 123 ∨ pk s a = 125
      · rw [if_pos c8]
        rcases c8 with c8 | c8
        · exact esc_123 w b base v s a l h hs hl ha c8
        · exact esc_125 w b base v s a l h hs hl ha c8
      rw [if_neg c8]
      have hne : pk s a ≠ 40 ∧ pk s a ≠ 91 ∧ pk s a ≠ 102 ∧ pk s a ≠ 109 ∧ pk s a ≠ 107 ∧ pk s a ≠ 115 ∧ pk s a ≠ 99 ∧ pk s a ≠ 34 ∧ pk s a ≠ 123 ∧ pk s a ≠ 125 := by omega
      by_cases c9 : seenB (pk s a) = true
      · rw [if_pos c9]
        unfold seenB at c9
        rw [decide_eq_true_eq] at c9
        exact esc_seen w b base v s a l h hs hl ha h1 h2 hne (by omega) _ rfl
      · rw [if_neg c9]
        unfold seenB at c9
        rw [decide_eq_true_eq] at c9
        by_cases c10 : pk s a ≤ 32
        · exact esc_low w b base v s a l h hs hl ha h1 h2 hne c10
        · exact esc_high w b base v s a l h hs hl ha h1 h2 hne (by omega)
    · have e : escM s a = namedE k (quotedM s (a + 1)) := by
        unfold escM
        simp only [h1, h2]
      rw [e]
      exact esc_quotes w b base v s a l h hs hl ha k h1 h2 _ rfl
  · have e : escM s a = .go [t] (a + 1) := by
      unfold escM
      simp only [h1]
    rw [e]
    exact esc_simple w b base v s a l h hs hl ha t h1
theorem rest_none (s : ByteArray) (a : Nat) (ha : s.size ≤ a) : (s.extract a s.size).toList.isEmpty = true := by
  rw [Lib.toList_data, ext_list, show s.size - a = 0 by omega, List.take_zero]; rfl
set_option maxHeartbeats 1000000 in
theorem esc_end (w : World) (b base : Nat) (v : Value) (s : ByteArray) (a : Nat) (l : List Tok) (h : At w b base v s a l) (ha : s.size ≤ a) :
    Calls Try.prog 27 #[.pointer (some ⟨b, 0, none⟩)] w fun e w' => e = .returned (.bool true) ∧ w = w' := by
  have e0 := rest_none s a ha
  obtain ⟨c0, -, -, -, cl⟩ := h.cells
  go_enter Try.func27, Try.ntmps27
  go_wp2
  go_ret
  exact ⟨rfl, rfl⟩

/-- What line leaves. -/
def LineP (b base : Nat) (w : World) (o : Option (List Tok)) (e : Ending) (w' : World) : Prop := match o with
  | some l => e = .returned (.tuple #[]) ∧ (∃ v R, Rd w' b base v R l) ∧ Below base w w'
  | none => Bad base w e w'
theorem trim_start (s : ByteArray) : (⟨(Lib.trimPrefix s.data.toList [92, 33]).toArray⟩ : ByteArray) = s.extract (startM s) s.size := by
  apply ba_eq
  rw [ext_list]
  have key : ∀ k, (s.data.toList.drop k).take (s.size - k) = s.data.toList.drop k := fun k => List.take_of_length_le (by rw [List.length_drop, Array.length_toList]; exact Nat.le_refl _)
  rw [key]
  have hp : ∀ k c, c < 256 → (pk s k = c ∧ k < s.size ↔ s.data.toList[k]? = some (UInt8.ofNat c)) := fun k c hc => ⟨fun h => (list_pk s k c hc).2 ⟨h.2, h.1⟩, fun h => ⟨((list_pk s k c hc).1 h).2, ((list_pk s k c hc).1 h).1⟩⟩
  have h0 := hp 0 92 (by decide)
  have h1 := hp 1 33 (by decide)
  have l0 : pk s 0 = 92 → 0 < s.size := fun h => pk_lt (by omega)
  have l1 : pk s 1 = 33 → 1 < s.size := fun h => pk_lt (by omega)
  unfold startM Lib.trimPrefix
  by_cases q : pk s 0 = 92 ∧ pk s 1 = 33
  · rw [if_pos q]
    have e0 := h0.1 ⟨q.1, l0 q.1⟩
    have e1 := h1.1 ⟨q.2, l1 q.2⟩
    generalize s.data.toList = L at *
    match L, e0, e1 with
    | x :: y :: r, e0, e1 =>
      simp at e0 e1
      subst e0 e1
      rfl
  · rw [if_neg q]
    generalize s.data.toList = L at *
    match L, h0, h1 with
    | [], h0, h1 => rfl
    | [x], h0, h1 =>
      have : Lib.hasPrefix [x] [92, 33] = false := by
        show (([92, 33] : List UInt8).isPrefixOf [x]) = false
        simp [List.isPrefixOf]
      simp [this]
    | x :: y :: r, h0, h1 =>
      have : Lib.hasPrefix (x :: y :: r) [92, 33] = false := by
        rw [Bool.eq_false_iff]
        intro hh
        simp [Lib.hasPrefix] at hh
        apply q
        obtain ⟨q1, q2⟩ := hh
        exact ⟨(h0.2 (by rw [← q1]; rfl)).1, (h1.2 (by rw [← q2]; rfl)).1⟩
      simp [this]
theorem startM_le (s : ByteArray) : startM s ≤ s.size := by
  unfold startM
  split
  · rename_i h
    have := pk_lt (s := s) (a := 1) (by omega)
    omega
  · omega
set_option maxHeartbeats 4000000 in
set_option maxRecDepth 100000 in
theorem line_calls (w : World) (b base : Nat) (v : Value) (s : ByteArray) (h : Rd w b base v s []) (hs : s.size ≤ 100000) :
    Calls Try.prog 18 #[.pointer (some ⟨b, 0, none⟩)] w (LineP b base w (lineM s)) := by
  have hT := fun W => Try.strings_TrimPrefix s ⟨#[92, 33]⟩ W
  have e : (⟨(Lib.trimPrefix s.data.toList (⟨#[92, 33]⟩ : ByteArray).data.toList).toArray⟩ : ByteArray) = s.extract (startM s) s.size := trim_start s
  simp only [e] at hT
  have HT := Lib.hid hT
  obtain ⟨R, hR⟩ : ∃ R, lineM s = R := ⟨_, rfl⟩
  rw [hR]
  unfold lineM at hR
  have HR := Lib.hid hR
  have hst := startM_le s
  obtain ⟨p0, hp0⟩ : ∃ p, startM s = p := ⟨_, rfl⟩
  rw [hp0] at HT HR hst
  have hge := h.ge
  have HA : At (w.setCell ⟨b, 0, none⟩ (.string (s.extract p0 s.size))) b base v s p0 [] := Rd.set0 h _
  have HB := (Below.refl base w).setCell (p := ⟨b, 0, none⟩) hge (.string (s.extract p0 s.size))
  clear hT e hR hp0
  obtain ⟨c0, -, f0, -, cl⟩ := h.cells
  go_enter Try.func18, Try.ntmps18
  go_wp2_with fail
  refine (HT.out _).mono ?_
  rintro e w1 ⟨rfl, hw1⟩
  subst hw1
  go_wp2
  go_loopg [] s.size (fun gk wr => ∃ (v1 : Value) (a : Nat) (l1 : List Tok), At wr b base v1 s a l1 ∧ Below base w1 wr ∧ a ≤ s.size ∧ l1.length ≤ a ∧ s.size ≤ a + gk ∧ Hid (lineF s gk l1 a = R))
  case atStart => exact ⟨v, p0, [], HA, HB, hst, Nat.zero_le _, by omega, HR⟩
  case round =>
    obtain ⟨v1, a, l1, hA, hB, ha, hl, hf, H⟩ := hrel
    clear HA HB c0 f0 cl HT HR h hst
    have hr := H.out
    have htop := hA.top
    obtain ⟨k0, -, g0, -, kl⟩ := hA.cells
    by_cases hlt : a < s.size
    · obtain ⟨g', rfl⟩ : ∃ g', gk = g' + 1 := ⟨gk - 1, by omega⟩
      rw [lineF, if_pos hlt] at hr
      obtain ⟨T, hz, hx, hTk⟩ := take_byte hA (by omega) hlt
      have e0 := rest_full s a hlt
      have i1 : (0 : Int) < T.size := by omega
      have HTk := Lib.hid hTk
      have hc := pk_256 s a
      have hends := fun t q (e : stepM s a = .go t q) => stepM_end hlt e
      unfold stepM at hr hends
      simp only at hr hends
      obtain ⟨c, hcc⟩ : ∃ c, pk s a = c := ⟨_, rfl⟩
      rw [hcc] at hr hends hx hc
      clear hTk hcc H
      have HX := Lib.hid hx
      by_cases c92 : c = 92
      · subst c92
        rw [if_pos rfl] at hr hends
        have Hr := Lib.hid hr
        have He := Lib.hid hends
        clear hr hends hx
        go_wp2_with fail
        refine HTk.out.mono ?_
        rintro e w2 ⟨rfl, h2, b2⟩
        have x2 := HX.out
        clear k0 g0 kl
        by_cases hlt2 : a + 1 < s.size
        · have hC := esc_calls w2 b base v1 s (a + 1) l1 h2 (by omega) (by omega) hlt2
          obtain ⟨O, hO⟩ : ∃ O, escM s (a + 1) = O := ⟨_, rfl⟩
          have hr := Hr.out
          have hends := He.out
          rw [if_pos hlt2, hO] at hr
          rw [if_pos hlt2, hO] at hends
          rw [hO] at hC
          have HC := Lib.hid hC
          have Hr2 := Lib.hid hr
          have He2 := Lib.hid hends
          clear hC hr hends hO Hr He
          go_wp2_with fail
          refine HC.out.mono ?_
          rcases O with _ | ⟨t, q⟩ | t
          · rintro e w3 ⟨o, rfl, b3⟩
            rw [← Hr2.out]
            exact ⟨rfl, o, rfl, (hB.trans b2).trans b3⟩
          · rintro e w3 ⟨rfl, ⟨v3, h3⟩, b3⟩
            obtain ⟨q1, q2, q3⟩ := He2.out t q rfl
            have Hr3 := Lib.hid (show lineF s g' (l1 ++ t) q = R from Hr2.out)
            have hlen : (l1 ++ t).length ≤ q := by rw [List.length_append]; omega
            clear Hr2 He2 x2
            go_wp2
            go_roundg g'
            case measure => omega
            case rel => exact ⟨v3, q, l1 ++ t, h3, (hB.trans b2).trans b3, q2, hlen, by omega, Hr3⟩
          · rintro e w3 ⟨rfl, ⟨v3, R3, h3⟩, b3⟩
            go_wp2
            go_end0
            rw [← Hr2.out]
            exact ⟨rfl, ⟨v3, R3, h3⟩, (hB.trans b2).trans b3⟩
        · have HC := Lib.hid (esc_end w2 b base v1 s (a + 1) l1 h2 (by omega))
          have hr := Hr.out
          rw [if_neg hlt2] at hr
          have Hr2 := Lib.hid (show lineF s g' (l1 ++ []) (a + 1) = R from hr)
          rw [List.append_nil] at Hr2
          clear hr Hr He
          go_wp2_with fail
          refine HC.out.mono ?_
          rintro e w3 ⟨rfl, rfl⟩
          clear x2
          go_wp2
          go_roundg g'
          case measure => omega
          case rel => exact ⟨v1, a + 1, l1, h2, hB.trans b2, by omega, by omega, by omega, Hr2⟩
      rw [if_neg c92] at hr
      have n92 : ((c : Int) == 92) = false := by rw [beq_eq_false_iff_ne]; omega
      clear hends
      by_cases c32 : c = 32
      · subst c32
        rw [if_pos rfl] at hr
        have Hr := Lib.hid (show lineF s g' (l1 ++ [⟨1, ⟨#[]⟩, 0⟩]) (a + 1) = R from hr)
        clear hr hx c92
        go_wp2_with fail
        refine HTk.out.mono ?_
        rintro e w2 ⟨rfl, h2, b2⟩
        have x2 := HX.out
        clear k0 g0 kl
        go_wp2_with fail
        refine (add_at _ b base v1 s _ l1 1 ⟨#[]⟩ 0 h2 (by omega)).mono ?_
        rintro e w3 ⟨rfl, ⟨v3, h3⟩, b3⟩
        clear x2
        go_wp2
        go_roundg g'
        case measure => omega
        case rel => exact ⟨v3, a + 1, _, h3, (hB.trans b2).trans b3, by omega, by rw [List.length_append]; simp; omega, by omega, Hr⟩
      rw [if_neg c32] at hr
      have n32 : ((c : Int) == 32) = false := by rw [beq_eq_false_iff_ne]; omega
      by_cases c9 : c = 9
      · subst c9
        rw [if_pos rfl] at hr
        have Hr := Lib.hid (show lineF s g' (l1 ++ [⟨2, ⟨#[]⟩, 0⟩]) (a + 1) = R from hr)
        clear hr hx c92 c32
        go_wp2_with fail
        refine HTk.out.mono ?_
        rintro e w2 ⟨rfl, h2, b2⟩
        have x2 := HX.out
        clear k0 g0 kl
        go_wp2_with fail
        refine (add_at _ b base v1 s _ l1 2 ⟨#[]⟩ 0 h2 (by omega)).mono ?_
        rintro e w3 ⟨rfl, ⟨v3, h3⟩, b3⟩
        clear x2
        go_wp2
        go_roundg g'
        case measure => omega
        case rel => exact ⟨v3, a + 1, _, h3, (hB.trans b2).trans b3, by omega, by rw [List.length_append]; simp; omega, by omega, Hr⟩
      rw [if_neg c9] at hr
      have n9 : ((c : Int) == 9) = false := by rw [beq_eq_false_iff_ne]; omega
      by_cases cs : seenB c = true
      · rw [if_pos cs] at hr
        have Hr := Lib.hid (show lineF s g' (l1 ++ [⟨0, oneS c, 0⟩]) (a + 1) = R from hr)
        unfold seenB at cs
        rw [decide_eq_true_eq] at cs
        have henc : Utf8.encode (c : Int) = oneS c := enc_low c (by omega)
        have henc2 : Utf8.encode (wrap32 (c : Int)) = oneS c := by
          rw [show wrap32 (c : Int) = c by unfold wrap32; omega]
          exact enc_low c (by omega)
        have d1 : decide ((32 : Int) < c) = true := decide_eq_true (by omega)
        have d2 : decide ((c : Int) < 127) = true := decide_eq_true (by omega)
        clear hr hx c92 c32 c9 cs
        go_wp2_with fail
        refine HTk.out.mono ?_
        rintro e w2 ⟨rfl, h2, b2⟩
        have x2 := HX.out
        clear k0 g0 kl
        go_wp2_with fail
        refine (add_at _ b base v1 s _ l1 0 (oneS c) 0 h2 (by omega)).mono ?_
        rintro e w3 ⟨rfl, ⟨v3, h3⟩, b3⟩
        clear x2
        go_wp2
        go_roundg g'
        case measure => omega
        case rel => exact ⟨v3, a + 1, _, h3, (hB.trans b2).trans b3, by omega, by rw [List.length_append]; simp; omega, by omega, Hr⟩
      · rw [if_neg cs] at hr
        have Hr := Lib.hid (show lineF s g' (l1 ++ []) (a + 1) = R from hr)
        rw [List.append_nil] at Hr
        unfold seenB at cs
        rw [decide_eq_true_eq] at cs
        by_cases cl32 : c ≤ 32
        · have d1 : decide ((32 : Int) < c) = false := decide_eq_false (by omega)
          clear hr hx c92 c32 c9 cs
          go_wp2_with fail
          refine HTk.out.mono ?_
          rintro e w2 ⟨rfl, h2, b2⟩
          have x2 := HX.out
          clear k0 g0 kl
          go_wp2
          clear x2
          go_roundg g'
          case measure => omega
          case rel => exact ⟨v1, a + 1, l1, h2, hB.trans b2, by omega, by omega, by omega, Hr⟩
        · have d1 : decide ((32 : Int) < c) = true := decide_eq_true (by omega)
          have d2 : decide ((c : Int) < 127) = false := decide_eq_false (by omega)
          clear hr hx c92 c32 c9 cs
          go_wp2_with fail
          refine HTk.out.mono ?_
          rintro e w2 ⟨rfl, h2, b2⟩
          have x2 := HX.out
          clear k0 g0 kl
          go_wp2
          clear x2
          go_roundg g'
          case measure => omega
          case rel => exact ⟨v1, a + 1, l1, h2, hB.trans b2, by omega, by omega, by omega, Hr⟩
    · have e0 := rest_none s a (by omega)
      have hr2 : some l1 = R := by
        rcases gk with _ | g'
        · exact hr
        · rw [lineF, if_neg hlt] at hr; exact hr
      have Hr := Lib.hid hr2
      clear hr hr2 H
      go_wp2
      go_end0
      rw [← Hr.out]
      exact ⟨rfl, ⟨v1, _, hA⟩, hB⟩
end Go.Proofs.Ytaokofnhkojllaa

set_option linter.unusedVariables false
set_option linter.unusedSimpArgs false
namespace Go.Proofs.Ytaokofnhkojllaa
open Go.Shelf Go.RowKit Go.Lib Go.Aids Go.MapLit Go.Proofs.YtaokofnhkojllaaW.PrintWords

theorem frame17 (u v : Value) : #[u, v] ++ Array.replicate (Try.f17.ntmps - #[u, v].size) undef = #[u, v, undef, undef, undef, undef, undef, undef, undef, undef, undef, undef, undef, undef, undef, undef] := by rw [Try.ntmps17]; rfl
theorem catch_idle (p q : Addr) (w : World) :
    CallsD Try.prog 17 #[.pointer (some p), .pointer (some q)] .returning w fun e u' w' => e = .returned (.tuple #[]) ∧ u' = .returning ∧ w' = w := by
  refine callsD_of_wpS Try.func17 rfl fun c₀ cs hu => ?_
  rw [frame17]
  apply wpS_seq
  apply wpS_region
  simp [wpOpsS, go_sem, recoverD, hu, Exit.thenS]
  refine wpS_of_wp ?_
  go_wp2
  cases c₀
  simp_all [bodyPostS, results, Try.results17]
theorem run_form (o : Value) (W : World) : (Instr.typeAssert (.iface 43 (.agg #[o])) 20 43 true).run Try.prog W = .ok (.tuple #[.agg #[o], .bool true]) W := by
  simp [Instr.typeAssert, run_underlying Try.underlying43, go_sem, Result.andThen]
set_option maxHeartbeats 1000000 in
theorem catch_panicking (g : Nat) (po : Addr) (older : List PanicEntry) (w : World) (hg : g + 1 < w.heap.size) (hc : w.cell? ⟨g, 0, none⟩ = some (.slice none 0 0)) (hz : w.frozen? ⟨g, 0, none⟩ = false) (hd : w.cell? ⟨g + 1, 0, none⟩ = some (.int .i64 0)) (hy : w.frozen? ⟨g + 1, 0, none⟩ = false) :
    CallsD Try.prog 17 #[.pointer (some ⟨g, 0, none⟩), .pointer (some ⟨g + 1, 0, none⟩)] (.panicking ({ v := .iface 43 (.agg #[erW po]), recovered := false } :: older)) w fun e u' w' =>
      e = .returned (.tuple #[]) ∧ u' = .panicking ({ v := .iface 43 (.agg #[erW po]), recovered := true } :: older) ∧ ∃ oo, w' = ((w.setCell ⟨g, 0, none⟩ (.slice none 0 0)).setCell ⟨g + 1, 0, none⟩ (.int .i64 4)).alloc oo := by
  refine callsD_of_wpS Try.func17 rfl fun c₀ cs hu => ?_
  rw [frame17]
  apply wpS_seq
  apply wpS_region
  simp [wpOpsS, go_sem, recoverD, hu, Exit.thenS]
  refine wpS_of_wp ?_
  have hta := run_form (erW po)
  have hg1 : g < w.heap.size := by omega
  go_wp2
  cases c₀
  simp_all [bodyPostS, results, Try.results17]
  exact ⟨_, rfl⟩

/-- A block of one cell. -/
def Bk (w : World) (b : Nat) (v : Value) (t : TypeId) : Prop := w.heap[b]? = some (.cells #[v] t (0, 0))
theorem Bk.cell {w : World} {b : Nat} {v : Value} {t : TypeId} (h : Bk w b v t) : w.cell? ⟨b, 0, none⟩ = some v := by
  unfold Bk at h; simp [World.cell?, h]
theorem Bk.free {w : World} {b : Nat} {v : Value} {t : TypeId} (h : Bk w b v t) : w.frozen? ⟨b, 0, none⟩ = false := by
  unfold Bk at h; simp [World.frozen?, h]
theorem Bk.lt {w : World} {b : Nat} {v : Value} {t : TypeId} (h : Bk w b v t) : b < w.heap.size := by
  unfold Bk at h; rw [Array.getElem?_eq_some_iff] at h; exact h.1
theorem Bk.new (w : World) (v : Value) (t : TypeId) : Bk (w.alloc (.cells #[v] t)) w.heap.size v t := heap_alloc_new w _
theorem Bk.alloc {w : World} {b : Nat} {v : Value} {t : TypeId} (h : Bk w b v t) (o : Obj) : Bk (w.alloc o) b v t := (Below.heap_alloc w o b h.lt).trans h
theorem Bk.bel {w w' : World} {b n : Nat} {v : Value} {t : TypeId} (h : Bk w b v t) (hb : Below n w w') (hn : b < n) : Bk w' b v t := (hb.block b hn).trans h
theorem Bk.set {w : World} {b : Nat} {v : Value} {t : TypeId} (h : Bk w b v t) (v' : Value) : Bk (w.setCell ⟨b, 0, none⟩ v') b v' t := by
  unfold Bk at *; simp [World.setCell, Array.getElem?_modify, h]
theorem Bk.other {w : World} {b g : Nat} {v : Value} {t : TypeId} (h : Bk w b v t) (v' : Value) (hne : b ≠ g) : Bk (w.setCell ⟨g, 0, none⟩ v') b v t := (Below.heap_setCell w _ v' b hne).trans h

/-- What Line hands back. -/
def lineL (s : ByteArray) : List Tok × Int := if 2000 < s.size ∨ hasLF s = true then ([], 1) else match lineM s with | some l => (l, 0) | none => ([], 4)
def LinePost (w : World) (l : List Tok) (k : Int) (e : Ending) (w' : World) : Prop := ∃ v, e = .returned (.tuple #[v, .int .i64 k]) ∧ w'.ownsRow w.heap.size 28 3 v l.length (cellsOf l) ∧ Below w.heap.size w w'
theorem LF_calls (s : ByteArray) (w : World) : Calls Try.prog 16 #[.string s, .string ⟨#[10]⟩] w fun e w' => e = .returned (.bool (hasLF s)) ∧ w = w' := by
  refine (Try.strings_Contains_one s 10 w).mono ?_
  rintro e w' ⟨rfl, rfl⟩
  refine ⟨?_, rfl⟩
  have h := index_whole s 10 (by decide)
  rw [show (UInt8.ofNat 10) = 10 from rfl] at h
  rw [h]
  unfold hasLF
  by_cases hf : findB s 0 10 < s.size
  · rw [if_pos hf, decide_eq_true hf, decide_eq_true (by omega)]
  · rw [if_neg hf, decide_eq_false hf]; rfl
/-- The two results' cells. -/
structure Two (w W : World) (v : Value) (k : Int) : Prop where
  r : Bk W w.heap.size v 23
  e : Bk W (w.heap.size + 1) (.int .i64 k) 24
  bel : Below w.heap.size w W
theorem Two.new (w : World) : Two w ((w.alloc (.cells #[.slice none 0 0] 23)).alloc (.cells #[.int .i64 0] 24)) (.slice none 0 0) 0 := by
  refine ⟨(Bk.new w _ _).alloc _, ?_, ((Below.refl _ w).alloc (Nat.le_refl _) _).alloc (by simp) _⟩
  have := Bk.new (w.alloc (.cells #[.slice none 0 0] 23)) (.int .i64 0) 24
  simpa using this
theorem Two.setR {w W : World} {v : Value} {k : Int} (h : Two w W v k) (v' : Value) : Two w (W.setCell ⟨w.heap.size, 0, none⟩ v') v' k :=
  ⟨h.r.set v', h.e.other v' (by omega), h.bel.setCell (Nat.le_refl _) _⟩
theorem Two.setE {w W : World} {v : Value} {k : Int} (h : Two w W v k) (k' : Int) : Two w (W.setCell ⟨w.heap.size + 1, 0, none⟩ (.int .i64 k')) v k' :=
  ⟨h.r.other _ (by omega), h.e.set _, h.bel.setCell (by show w.heap.size ≤ w.heap.size + 1; omega) _⟩
theorem Two.below {w W W' : World} {v : Value} {k : Int} (h : Two w W v k) (hb : Below (w.heap.size + 2) W W') : Two w W' v k :=
  ⟨h.r.bel hb (by omega), h.e.bel hb (by omega), h.bel.trans (hb.mono (by omega))⟩
theorem Two.alloc {w W : World} {v : Value} {k : Int} (h : Two w W v k) (o : Obj) : Two w (W.alloc o) v k :=
  ⟨h.r.alloc o, h.e.alloc o, h.bel.alloc h.bel.size o⟩
set_option maxRecDepth 100000 in
set_option maxHeartbeats 2000000 in
theorem Line_long (s : ByteArray) (w : World) (h : 2000 < s.size) : Calls Try.prog 8 #[.string s] w (LinePost w [] 1) := by
  have hmf : ∀ (fn : Fn) (first cap : Array Value) (w : World), (Instr.makeFunc fn first cap).run Try.prog w = .ok (.func fn first cap) w := fun _ _ _ _ => rfl
  have d1 : decide ((2000 : Int) < s.size) = true := decide_eq_true (by omega)
  go_enter_defers Try.func8, Try.ntmps8
  go_wp2
  have t := ((Two.new w).setR (.slice none 0 0)).setE 1
  have r0 := t.r.cell
  have r1 := t.e.cell
  have tb := t.bel
  simp [bodyPostD, Leaves, settle, results, Try.results8, go_sem, r0, r1]
  exact ⟨_, rfl, World.ownsRow_nil _ _ _ _, ((Below.refl _ w).alloc (Nat.le_refl _) _).alloc (by simp) _⟩
set_option maxRecDepth 100000 in
set_option maxHeartbeats 2000000 in
theorem Line_LF (s : ByteArray) (w : World) (h : ¬ 2000 < s.size) (hf : hasLF s = true) : Calls Try.prog 8 #[.string s] w (LinePost w [] 1) := by
  have hmf : ∀ (fn : Fn) (first cap : Array Value) (w : World), (Instr.makeFunc fn first cap).run Try.prog w = .ok (.func fn first cap) w := fun _ _ _ _ => rfl
  have d1 : decide ((2000 : Int) < s.size) = false := decide_eq_false (by omega)
  have HL := Lib.hid (fun W => LF_calls s W)
  rw [hf] at HL
  go_enter_defers Try.func8, Try.ntmps8
  go_wp2_with fail
  refine (HL.out _).mono ?_
  rintro e w1 ⟨rfl, rfl⟩
  go_wp2
  have t := ((Two.new w).setR (.slice none 0 0)).setE 1
  have r0 := t.r.cell
  have r1 := t.e.cell
  have tb := t.bel
  simp [bodyPostD, Leaves, settle, results, Try.results8, go_sem, r0, r1]
  exact ⟨_, rfl, World.ownsRow_nil _ _ _ _, ((Below.refl _ w).alloc (Nat.le_refl _) _).alloc (by simp) _⟩
set_option maxRecDepth 100000 in
set_option maxHeartbeats 4000000 in
theorem Line_ok (s : ByteArray) (w : World) (h : ¬ 2000 < s.size) (hf : hasLF s = false) (l : List Tok) (ho : lineM s = some l) : Calls Try.prog 8 #[.string s] w (LinePost w l 0) := by
  have hmf : ∀ (fn : Fn) (first cap : Array Value) (w : World), (Instr.makeFunc fn first cap).run Try.prog w = .ok (.func fn first cap) w := fun _ _ _ _ => rfl
  have d1 : decide ((2000 : Int) < s.size) = false := decide_eq_false (by omega)
  have HL := Lib.hid (fun W => LF_calls s W)
  rw [hf] at HL
  have Ho := Lib.hid ho
  have hs : s.size ≤ 100000 := by omega
  clear hf ho
  go_enter_defers Try.func8, Try.ntmps8
  go_wp2_with fail
  refine (HL.out _).mono ?_
  rintro e w1 ⟨rfl, hw⟩
  subst hw
  obtain ⟨W2, hW2⟩ : ∃ W, (w.alloc (.cells #[.slice none 0 0] 23)).alloc (.cells #[.int .i64 0] 24) = W := ⟨_, rfl⟩
  have t2 := Two.new w
  have hz2 : W2.heap.size = w.heap.size + 2 := by rw [← hW2]; simp
  rw [hW2] at t2
  have hrd : Rd (W2.alloc (.cells #[.string s, .slice none 0 0] 47)) W2.heap.size (w.heap.size + 2) (.slice none 0 0) s [] :=
    ⟨heap_alloc_new W2 _, World.ownsRow_nil _ _ _ _, by omega⟩
  rw [hz2] at hrd
  have hC := line_calls _ _ _ _ s hrd hs
  rw [Ho.out] at hC
  have t3 := t2.alloc (.cells #[.string s, .slice none 0 0] 47)
  have HC := Lib.hid hC
  have HW := Lib.hid hW2
  clear hC hW2
  go_wp2_with (go_at_call 18; rw [HW.out]; (with_reducible refine HC.out.mono ?_); rintro e w5 ⟨rfl, ⟨v5, R5, h5⟩, b5⟩; have t5 := t3.below b5; obtain ⟨q0, q1, q2, q3, q4⟩ := h5.cells; obtain ⟨A5, n5, rfl⟩ := own_slice h5.own; have q5 := t5.r.cell; have q6 := t5.r.free; have q7 := t5.e.cell; have q8 := t5.e.free)
  have t6 := (t5.setR (.slice A5 l.length n5)).setE 0
  refine leaves_cons (f := 17) (args := #[.pointer (some ⟨w.heap.size, 0, none⟩), .pointer (some ⟨w.heap.size + 1, 0, none⟩)]) (by simp) (by simp [go_sem]) ?_
  refine (catch_idle _ _ _).mono ?_
  rintro e u' w'' ⟨rfl, rfl, rfl⟩
  have r0 := t6.r.cell
  have r1 := t6.e.cell
  have tb := t6.bel
  have hown := own_weaken h5.own (show w.heap.size ≤ w.heap.size + 2 by omega)
  have hn0 : some w.heap.size ≠ (Value.slice A5 l.length n5).ownBlock := own_ne h5.own t5.r (by decide)
  have hn1 : some (w.heap.size + 1) ≠ (Value.slice A5 l.length n5).ownBlock := own_ne h5.own t5.e (by decide)
  have hown6 := own_move (own_move hown fun k hk => Below.heap_setCell w5 ⟨w.heap.size, 0, none⟩ (.slice A5 l.length n5) k (by rintro rfl; exact hn0 hk.symm)) fun k hk => Below.heap_setCell _ ⟨w.heap.size + 1, 0, none⟩ (.int .i64 0) k (by rintro rfl; exact hn1 hk.symm)
  simp [Leaves, settle, results, Try.results8, go_sem, r0, r1]
  exact ⟨_, rfl, hown6, tb⟩
set_option maxRecDepth 100000 in
set_option maxHeartbeats 4000000 in
theorem Line_bad (s : ByteArray) (w : World) (h : ¬ 2000 < s.size) (hf : hasLF s = false) (ho : lineM s = none) : Calls Try.prog 8 #[.string s] w (LinePost w [] 4) := by
  have hmf : ∀ (fn : Fn) (first cap : Array Value) (w : World), (Instr.makeFunc fn first cap).run Try.prog w = .ok (.func fn first cap) w := fun _ _ _ _ => rfl
  have d1 : decide ((2000 : Int) < s.size) = false := decide_eq_false (by omega)
  have HL := Lib.hid (fun W => LF_calls s W)
  rw [hf] at HL
  have Ho := Lib.hid ho
  have hs : s.size ≤ 100000 := by omega
  clear hf ho
  go_enter_defers Try.func8, Try.ntmps8
  go_wp2_with fail
  refine (HL.out _).mono ?_
  rintro e w1 ⟨rfl, hw⟩
  subst hw
  obtain ⟨W2, hW2⟩ : ∃ W, (w.alloc (.cells #[.slice none 0 0] 23)).alloc (.cells #[.int .i64 0] 24) = W := ⟨_, rfl⟩
  have t2 := Two.new w
  have hz2 : W2.heap.size = w.heap.size + 2 := by rw [← hW2]; simp
  rw [hW2] at t2
  have hrd : Rd (W2.alloc (.cells #[.string s, .slice none 0 0] 47)) W2.heap.size (w.heap.size + 2) (.slice none 0 0) s [] :=
    ⟨heap_alloc_new W2 _, World.ownsRow_nil _ _ _ _, by omega⟩
  rw [hz2] at hrd
  have hC := line_calls _ _ _ _ s hrd hs
  rw [Ho.out] at hC
  have t3 := t2.alloc (.cells #[.string s, .slice none 0 0] 47)
  have HC := Lib.hid hC
  have HW := Lib.hid hW2
  clear hC hW2
  go_wp2_with (go_at_call 18; rw [HW.out]; (with_reducible refine HC.out.mono ?_); rintro e w5 ⟨po, rfl, b5⟩; have t5 := t3.below b5)
  refine leaves_cons (f := 17) (args := #[.pointer (some ⟨w.heap.size, 0, none⟩), .pointer (some ⟨w.heap.size + 1, 0, none⟩)]) (by simp) (by simp [go_sem]) ?_
  refine (catch_panicking _ po [] _ t5.e.lt t5.r.cell t5.r.free t5.e.cell t5.e.free).mono ?_
  rintro e u' w'' ⟨rfl, rfl, oo, rfl⟩
  have t6 := ((t5.setR (.slice none 0 0)).setE 4).alloc oo
  have r0 := t6.r.cell
  have r1 := t6.e.cell
  have tb := t6.bel
  simp [Leaves, settle, results, Try.results8, go_sem, r0, r1]
  exact ⟨_, rfl, World.ownsRow_nil _ _ _ _, tb⟩
theorem Line_calls (s : ByteArray) (w : World) : Calls Try.prog 8 #[.string s] w (LinePost w (lineL s).1 (lineL s).2) := by
  unfold lineL
  by_cases h : 2000 < s.size
  · rw [if_pos (.inl h)]; exact Line_long s w h
  · rcases hf : hasLF s with _ | _
    · rw [if_neg (by rintro (h' | h'); exact h h'; cases h')]
      rcases ho : lineM s with _ | l
      · exact Line_bad s w h hf ho
      · exact Line_ok s w h hf l ho
    · rw [if_pos (.inr rfl)]; exact Line_LF s w h hf
end Go.Proofs.Ytaokofnhkojllaa

set_option linter.unusedVariables false
set_option linter.unusedSimpArgs false
namespace Go.Proofs.Ytaokofnhkojllaa
open Go.Shelf Go.RowKit Go.Lib Go.Aids Go.MapLit Go.Proofs.YtaokofnhkojllaaW.PrintWords

structure RR (w : World) (b base : Nat) (v : Value) (s : ByteArray) (a : Nat) (l : List Tok) (bad : Bool) : Prop where
  blk : w.heap[b]? = some (.cells #[.string s, .int .i64 a, v, .bool bad] 64 (0, 0))
  own : w.ownsRow base 55 3 v l.length (cellsOf l)
  ge : base ≤ b
section
variable {w : World} {b base : Nat} {v : Value} {s : ByteArray} {a : Nat} {l : List Tok} {bad : Bool}
theorem RR.cells (h : RR w b base v s a l bad) :
    w.cell? ⟨b, 0, none⟩ = some (.string s) ∧ w.cell? ⟨b, 1, none⟩ = some (.int .i64 a) ∧ w.cell? ⟨b, 2, none⟩ = some v ∧ w.cell? ⟨b, 3, none⟩ = some (.bool bad) ∧ w.frozen? ⟨b, 1, none⟩ = false ∧ w.frozen? ⟨b, 2, none⟩ = false ∧ w.frozen? ⟨b, 3, none⟩ = false ∧ b < w.heap.size := by
  have := h.blk
  refine ⟨by simp [World.cell?, this], by simp [World.cell?, this], by simp [World.cell?, this], by simp [World.cell?, this], by simp [World.frozen?, this], by simp [World.frozen?, this], by simp [World.frozen?, this], ?_⟩
  rw [Array.getElem?_eq_some_iff] at this; exact this.1
theorem RR.ne (h : RR w b base v s a l bad) : some b ≠ v.ownBlock := own_ne h.own h.blk (by decide)
theorem RR.top (h : RR w b base v s a l bad) : base ≤ w.heap.size := by
  have := h.ge; have := h.cells.2.2.2.2.2.2.2; omega
theorem RR.below {w' : World} (h : RR w b base v s a l bad) (hb : Below w.heap.size w w') : RR w' b base v s a l bad :=
  ⟨(hb.block b h.cells.2.2.2.2.2.2.2).trans h.blk, own_move h.own fun k hk => hb.block k (own_lt h.own k hk), h.ge⟩
theorem RR.drewN (h : RR w b base v s a l bad) (n : Nat) : RR (w.drewN n) b base v s a l bad := ⟨h.blk, own_move h.own fun _ _ => rfl, h.ge⟩
theorem RR.drew (h : RR w b base v s a l bad) : RR w.drew b base v s a l bad := ⟨h.blk, own_move h.own fun _ _ => rfl, h.ge⟩
theorem RR.set1 {a' : Nat} (h : RR w b base v s a' l bad) (i : Int) (e : i = a) : RR (w.setCell ⟨b, 1, none⟩ (.int .i64 i)) b base v s a l bad := by
  subst e
  refine ⟨?_, own_move h.own fun k hk => Below.heap_setCell _ _ _ _ (by rintro rfl; exact h.ne hk.symm), h.ge⟩
  have := h.blk
  simp [World.setCell, Array.getElem?_modify, this]
theorem RR.set3 {bad' : Bool} (h : RR w b base v s a l bad') : RR (w.setCell ⟨b, 3, none⟩ (.bool bad)) b base v s a l bad := by
  refine ⟨?_, own_move h.own fun k hk => Below.heap_setCell _ _ _ _ (by rintro rfl; exact h.ne hk.symm), h.ge⟩
  have := h.blk
  simp [World.setCell, Array.getElem?_modify, this]
theorem below_st {W : World} {o : Nat} {u : Value} (hb : Below base w W) (h : base ≤ b) : Below base w (W.setCell ⟨b, o, none⟩ u) := hb.setCell h _
theorem below_dr {W : World} {n : Nat} (hb : Below base w W) : Below base w (W.drewN n) := ⟨hb.os, hb.tape, hb.output, hb.size, hb.block⟩
end
theorem info55 : (Try.prog.info? 55).map (fun i => (i.zero, i.size, i.bytes)) = some (some (.agg #[.int .i64 0, .string ⟨#[]⟩, .int .i64 0]), 3, 32) := by kernel_rfl
set_option maxHeartbeats 1000000 in
theorem put_calls (w : World) (b base : Nat) (v : Value) (s : ByteArray) (a : Nat) (l : List Tok) (bad : Bool) (k : Int) (t : ByteArray) (n : Int) (h : RR w b base v s a l bad) (hl : l.length ≤ 1000000) :
    Calls Try.prog 31 #[.pointer (some ⟨b, 0, none⟩), .int .i64 k, .string t, .int .i64 n] w fun e w' => e = .returned (.tuple #[]) ∧ (∃ v', RR w' b base v' s a (l ++ [⟨k, t, n⟩]) bad) ∧ Below base w w' := by
  obtain ⟨c0, c1, c2, c3, f1, f2, f3, hb⟩ := h.cells
  have hge := h.ge
  have hne := h.ne
  have hown := h.own
  have hbk := h.blk
  clear h
  go_enter Try.func31, Try.ntmps31
  go_wp2_with (at_builtin; refine Go.Aids.append_cells (w0 := w) base rfl _ _ 35 55 (.agg #[.int .i64 0, .string ⟨#[]⟩, .int .i64 0]) 3 32 w.heap.size rfl Try.underlying35 info55 rfl (by decide) (by decide) v l.length (cellsOf l) [.int .i64 k, .string t, .int .i64 n] rfl rfl rfl rfl (by simp [Value.oneCell']) hown (Below.refl _ _) (by omega) (by omega) ?_; intro v1 w1 hown1 hb1 hg1 hat1; have hbk1 := (hg1.block b hb hne).trans hbk; have k1 : w1.cell? ⟨b, 2, none⟩ = some v := (by simp [World.cell?, hbk1]); have q1 : w1.frozen? ⟨b, 2, none⟩ = false := (by simp [World.frozen?, hbk1]); clear hg1 hat1; obtain ⟨A1, n1, rfl⟩ := own_slice hown1)
  go_end0
  refine ⟨rfl, ⟨.slice A1 (l.length + 1) n1, ?_, ?_, hge⟩, hb1.setCell hge _⟩
  · simp [World.setCell, Array.getElem?_modify, hbk1]
  · have hne1 : some b ≠ (Value.slice A1 (l.length + 1) n1).ownBlock := own_ne hown1 hbk1 (by decide)
    rw [cellsOf_snoc, List.length_append]
    exact own_move hown1 fun k hk => Below.heap_setCell _ _ _ _ (by rintro rfl; exact hne1 hk.symm)

theorem bt_pk (s : ByteArray) (a : Nat) (h : a < s.size) : bt s (a : Int) = (pk s a : Int) := by
  have : a < s.data.toList.length := by rw [Array.length_toList]; exact h
  simp [bt, pk, h]
theorem seen_f (c : Nat) : Pnamed.frisketref10_seen.f c = some (seenB c) := by
  unfold Pnamed.frisketref10_seen.f seenB
  split
  · refine congrArg some ?_; rw [decide_eq_decide]; omega
  · refine congrArg some ?_; symm; rw [decide_eq_false_iff_not]; omega
theorem drawn_n {w w' : World} (h : Drawn0 w w') : ∃ n, w' = w.drewN n := by
  obtain ⟨⟨n, h⟩⟩ := h
  exact ⟨n, h⟩
theorem seen_calls (c : Nat) (w : World) : Calls Try.prog 32 #[.int .u8 c] w fun e w' => e = .returned (.bool (seenB c)) ∧ ∃ n, w' = w.drewN n :=
  (Pnamed.frisketref10_seen.calls c _ w (seen_f c)).mono fun e w' h => ⟨h.1, drawn_n h.2⟩
theorem allSeen_step (s : ByteArray) (i j : Nat) (h : i < j) : allSeen s i j = (seenB (pk s i) && allSeen s (i + 1) j) := by
  rw [Bool.eq_iff_iff, Bool.and_eq_true, allSeen_iff, allSeen_iff]
  constructor
  · exact fun q => ⟨q i (Nat.le_refl _) h, fun k h1 h2 => q k (by omega) h2⟩
  · rintro ⟨q1, q2⟩ k h1 h2
    by_cases e : k = i
    · subst e; exact q1
    · exact q2 k (by omega) h2
theorem named_f (s : ByteArray) (hs : s.size ≤ 1000000) (j : Nat) (hj : j ≤ s.size) : ∀ f i, j ≤ i + f → Pnamed.frisketref10_named.l0 (f + 1) s j i = some (allSeen s i j)
  | 0, i, h => by
    rw [Pnamed.frisketref10_named.l0, if_neg (by omega)]
    have : allSeen s i j = true := (allSeen_iff s i j).2 fun k h1 h2 => by omega
    rw [this]
  | f + 1, i, h => by
    rw [Pnamed.frisketref10_named.l0]
    by_cases hlt : i < j
    · rw [if_pos (by omega), if_pos (by omega), if_pos (by omega), bt_pk s i (by omega), seen_f, allSeen_step s i j hlt]
      simp only [Option.bind_some]
      cases seenB (pk s i)
      · rfl
      · rw [if_pos rfl, show wrap64 ((i : Int) + 1) = ((i + 1 : Nat) : Int) by rw [wrap64_in _ (by omega) (by omega)]; rfl, named_f s hs j hj f (i + 1) (by omega)]
        rfl
    · rw [if_neg (by omega)]
      have : allSeen s i j = true := (allSeen_iff s i j).2 fun k h1 h2 => by omega
      rw [this]
theorem named_calls (s : ByteArray) (i j : Nat) (hs : s.size ≤ 1000000) (hj : j ≤ s.size) (w : World) : Calls Try.prog 57 #[.string s, .int .i64 i, .int .i64 j] w fun e w' => e = .returned (.bool (allSeen s i j)) ∧ ∃ n, w' = w.drewN n :=
  (Pnamed.frisketref10_named.calls (j + 1) s i j _ w (named_f s hs j hj j i (by omega))).mono fun e w' h => ⟨h.1, drawn_n h.2⟩

/-- What a reader of a text leaves. -/
def TxtR (b base : Nat) (s : ByteArray) (l : List Tok) (w : World) (o : Option (ByteArray × Nat)) (e : Ending) (w' : World) : Prop := match o with
  | some (t, a) => e = .returned (.string t) ∧ (∃ v, RR w' b base v s a l false) ∧ Below base w w'
  | none => e = .returned (.string ⟨#[]⟩) ∧ (∃ v a, RR w' b base v s a l true) ∧ Below base w w'
set_option maxHeartbeats 2000000 in
theorem rtwo_calls (w : World) (b base : Nat) (v : Value) (s : ByteArray) (a : Nat) (l : List Tok) (h : RR w b base v s a l false) (hs : s.size ≤ 1000000) (ha : a ≤ s.size) :
    Calls Try.prog 44 #[.pointer (some ⟨b, 0, none⟩)] w (TxtR b base s l w (twoM s a)) := by
  obtain ⟨c0, c1, c2, c3, f1, f2, f3, hb⟩ := h.cells
  have hge := h.ge
  have HH := Lib.hid h
  unfold twoM
  by_cases h2 : a + 2 ≤ s.size
  · have hN := fun W => named_calls s a (a + 2) hs h2 W
    have d : decide ((s.size : Int) < (a : Int) + 2) = false := decide_eq_false (by omega)
    rcases hq : allSeen s a (a + 2) with _ | _
    · rw [if_neg (by rintro ⟨-, h⟩; cases h)]
      rw [hq] at hN
      have HN := Lib.hid hN
      clear hN hq h
      go_enter Try.func44, Try.ntmps44
      go_wp2
      go_quiet ((go_at_call 57; exact Calls.quiet_of (HN.out _)))
      go_wp2
      go_ret
      exact ⟨rfl, ⟨v, a, by (repeat (first | exact HH.out | with_reducible apply RR.drewN | with_reducible apply RR.set3))⟩, by (repeat (first | exact Below.refl _ _ | exact hge | with_reducible apply below_dr | with_reducible apply below_st))⟩
    · rw [if_pos ⟨h2, rfl⟩]
      rw [hq] at hN
      have HN := Lib.hid hN
      have hcut := fun W => run_cut (P := Try.prog) 9 Try.underlying9 s .i64 a ((a : Int) + 2) (by omega) (by omega) (by omega) W
      rw [show ((a : Int)).toNat = a by omega, show ((a : Int) + 2).toNat = a + 2 by omega] at hcut
      clear hN hq h
      go_enter Try.func44, Try.ntmps44
      go_wp2
      go_quiet ((go_at_call 57; exact Calls.quiet_of (HN.out _)))
      go_wp2
      go_quiet (fail)
      go_wp2
      go_ret
      exact ⟨rfl, ⟨v, by (repeat (first | exact HH.out | with_reducible apply RR.drewN | (refine RR.set1 (a' := a) ?_ _ (by omega))))⟩, by (repeat (first | exact Below.refl _ _ | exact hge | with_reducible apply below_dr | with_reducible apply below_st))⟩
  · rw [if_neg (fun h => h2 h.1)]
    have d : decide ((s.size : Int) < (a : Int) + 2) = true := decide_eq_true (by omega)
    clear h
    go_enter Try.func44, Try.ntmps44
    go_wp2
    go_quiet (fail)
    go_wp2
    go_ret
    exact ⟨rfl, ⟨v, a, by (repeat (first | exact HH.out | with_reducible apply RR.drewN | with_reducible apply RR.set3))⟩, by (repeat (first | exact Below.refl _ _ | exact hge | with_reducible apply below_dr | with_reducible apply below_st))⟩
end Go.Proofs.Ytaokofnhkojllaa

set_option linter.unusedVariables false
set_option linter.unusedSimpArgs false
namespace Go.Proofs.Ytaokofnhkojllaa
open Go.Shelf Go.RowKit Go.Lib Go.Aids Go.MapLit Go.Proofs.YtaokofnhkojllaaW.PrintWords

set_option maxRecDepth 100000 in
set_option maxHeartbeats 4000000 in
theorem rbracket_calls (w : World) (b base : Nat) (v : Value) (s : ByteArray) (a : Nat) (l : List Tok) (x y : Nat) (h : RR w b base v s a l false) (hs : s.size ≤ 1000000) (ha : a ≤ s.size) (hx : x ≤ 1000) (hy : y ≤ 1000) :
    Calls Try.prog 45 #[.pointer (some ⟨b, 0, none⟩), .int .i64 x, .int .i64 y] w (TxtR b base s l w (bracketM x y s a)) := by
  obtain ⟨c0, c1, c2, c3, f1, f2, f3, hb⟩ := h.cells
  have hge := h.ge
  have HH := Lib.hid h
  clear h
  unfold bracketM
  simp only
  obtain ⟨E, hE⟩ : ∃ E, findB s a 93 = E := ⟨_, rfl⟩
  have hEb := findB_le s a 93 ha
  rw [hE] at hEb ⊢
  obtain ⟨hE1, hE2⟩ := hEb
  have HE := Lib.hid hE
  obtain ⟨O, hO⟩ : ∃ O, (if E < s.size ∧ x ≤ E - a ∧ E - a ≤ y ∧ allSeen s a E = true then some (s.extract a E, E + 1) else none) = O := ⟨_, rfl⟩
  rw [hO]
  have HO := Lib.hid hO
  clear hE hO
  go_enter Try.func45, Try.ntmps45
  go_wp2
  go_loop [7] (fun i => ∃ k : Nat, a ≤ k ∧ k ≤ E ∧ i = .int .i64 k) (fun i => s.size - (RowKit.intOf i).toNat)
  case atStart => exact ⟨a, Nat.le_refl _, hE1, rfl⟩
  case round =>
    obtain ⟨k, hk1, hk2, rfl⟩ := hrel
    by_cases hke : k < E
    · have hlt : k < s.size := by omega
      have hne := findB_not s a 93 k hk1 (by rw [HE.out]; exact hke)
      rw [pk_get s k hlt] at hne
      have hi : (k : Int) < s.size := by omega
      have g1 : ((s[k].toNat : Int) != 93) = true := by rw [bne_iff_ne]; omega
      clear hne
      go_wp2
      go_round
      case rel => exact ⟨k + 1, by omega, by omega, by go_num⟩
      case measure => simp [RowKit.intOf]; omega
    · obtain rfl : k = E := by omega
      by_cases hlt : k < s.size
      · have hat := findB_at s a 93 (by rw [HE.out]; exact hlt) ha
        rw [HE.out, pk_get s k hlt] at hat
        have hi : (k : Int) < s.size := by omega
        have g1 : ((s[k].toNat : Int) != 93) = false := by rw [hat]; rfl
        have g2 : ((k : Int) == (s.size : Int)) = false := by rw [beq_eq_false_iff_ne]; omega
        have g3 : (k == s.size) = false := by rw [beq_eq_false_iff_ne]; omega
        have hw : IntKind.i64.wrap ((k : Int) - a) = (k : Int) - a := IntWalk.i64_in _ (by omega)
        have hN := fun W => named_calls s a k hs (by omega) W
        have hcut := fun W => run_cut (P := Try.prog) 9 Try.underlying9 s .i64 a (k : Int) (by omega) (by omega) (by omega) W
        rw [show ((a : Int)).toNat = a by omega, show ((k : Int)).toNat = k by omega] at hcut
        by_cases hok : x ≤ k - a ∧ k - a ≤ y ∧ allSeen s a k = true
        · have d1 : decide ((k : Int) - a < x) = false := decide_eq_false (by omega)
          have d2 : decide ((y : Int) < (k : Int) - a) = false := decide_eq_false (by omega)
          have hO := HO.out
          rw [if_pos ⟨hlt, hok⟩] at hO
          subst hO
          rw [hok.2.2] at hN
          have HN := Lib.hid hN
          clear hN hok hat
          go_wp2
          go_quiet ((go_at_call 57; exact Calls.quiet_of (HN.out _)))
          go_wp2
          go_quiet (fail)
          go_wp2
          go_ret
          exact ⟨rfl, ⟨v, by (repeat (first | exact HH.out | with_reducible apply RR.drewN | (refine RR.set1 (a' := a) ?_ _ (by omega))))⟩, by (repeat (first | exact Below.refl _ _ | exact hge | with_reducible apply below_dr | with_reducible apply below_st))⟩
        · have hO := HO.out
          rw [if_neg (fun h => hok h.2)] at hO
          subst hO
          have fin : ∀ (n : Nat), RR ((w.drewN n).setCell ⟨b, 3, none⟩ (.bool true)) b base v s a l true := fun n => (HH.out.drewN n).set3
          by_cases hx1 : k - a < x
          · have d1 : decide ((k : Int) - a < x) = true := decide_eq_true (by omega)
            clear hN hok hat
            go_wp2
            go_quiet (fail)
            go_wp2
            go_ret
            exact ⟨rfl, ⟨v, a, fin _⟩, by (repeat (first | exact Below.refl _ _ | exact hge | with_reducible apply below_dr | with_reducible apply below_st))⟩
          · have d1 : decide ((k : Int) - a < x) = false := decide_eq_false (by omega)
            by_cases hy1 : y < k - a
            · have d2 : decide ((y : Int) < (k : Int) - a) = true := decide_eq_true (by omega)
              clear hN hok hat
              go_wp2
              go_quiet (fail)
              go_wp2
              go_ret
              exact ⟨rfl, ⟨v, a, fin _⟩, by (repeat (first | exact Below.refl _ _ | exact hge | with_reducible apply below_dr | with_reducible apply below_st))⟩
            · have d2 : decide ((y : Int) < (k : Int) - a) = false := decide_eq_false (by omega)
              have hse : allSeen s a k = false := by
                rcases hq : allSeen s a k with _ | _
                · rfl
                · exact absurd ⟨by omega, by omega, hq⟩ hok
              rw [hse] at hN
              have HN := Lib.hid hN
              clear hN hok hat hse
              go_wp2
              go_quiet ((go_at_call 57; exact Calls.quiet_of (HN.out _)))
              go_wp2
              go_ret
              exact ⟨rfl, ⟨v, a, fin _⟩, by (repeat (first | exact Below.refl _ _ | exact hge | with_reducible apply below_dr | with_reducible apply below_st))⟩
      · have hO := HO.out
        rw [if_neg (fun h => hlt h.1)] at hO
        subst hO
        have fin : ∀ (n : Nat), RR ((w.drewN n).setCell ⟨b, 3, none⟩ (.bool true)) b base v s a l true := fun n => (HH.out.drewN n).set3
        obtain rfl : k = s.size := by omega
        have g2 : ((s.size : Int) == (s.size : Int)) = true := by simp
        go_wp2
        go_quiet (fail)
        go_wp2
        go_ret
        exact ⟨rfl, ⟨v, a, fin _⟩, by (repeat (first | exact Below.refl _ _ | exact hge | with_reducible apply below_dr | with_reducible apply below_st))⟩
end Go.Proofs.Ytaokofnhkojllaa

set_option linter.unusedVariables false
set_option linter.unusedSimpArgs false
namespace Go.Proofs.Ytaokofnhkojllaa
open Go.Shelf Go.RowKit Go.Lib Go.Aids Go.MapLit Go.Proofs.YtaokofnhkojllaaW.PrintWords

theorem conv_one (W : World) (c g : Nat) (hg : W.heap.size = g) : (Go.convert 30 9 (.slice (some ⟨g, 0, none⟩) 1 1)).run Try.prog (W.alloc (.cells #[.int .u8 c] 5)) = .ok (.string (oneS c)) (W.alloc (.cells #[.int .u8 c] 5)) := by
  subst hg
  have h := run_convert_bytes_arg (P := Try.prog) (W.alloc (.cells #[.int .u8 c] 5)) 30 5 Try.underlying30 Try.underlying5 W.heap.size 0 1 1 [(c : Int)] rfl (fun i hi => by
    obtain rfl : i = 0 := by omega
    simp) 9 Try.underlying9
  exact h
set_option maxRecDepth 100000 in
set_option maxHeartbeats 4000000 in
theorem rname_calls (w : World) (b base : Nat) (v : Value) (s : ByteArray) (a : Nat) (l : List Tok) (x : Nat) (h : RR w b base v s a l false) (hs : s.size ≤ 1000000) (ha : a ≤ s.size) (hx : x ≤ 1000) :
    Calls Try.prog 46 #[.pointer (some ⟨b, 0, none⟩), .int .i64 x] w (TxtR b base s l w (nameM x 20 s a)) := by
  obtain ⟨c0, c1, c2, c3, f1, f2, f3, hb⟩ := h.cells
  have hge := h.ge
  have HH := Lib.hid h
  clear h
  have hw : IntKind.i64.wrap ((a : Int) + 1) = (a : Int) + 1 := IntWalk.i64_in _ (by omega)
  have Fin : Hid (∀ (n : Nat), RR ((w.drewN n).setCell ⟨b, 3, none⟩ (.bool true)) b base v s a l true) := Lib.hid fun n => (HH.out.drewN n).set3
  by_cases hlt : a < s.size
  · have hi : (a : Int) < s.size := by omega
    have hk := pk_get s a hlt
    have d0 : decide ((s.size : Int) ≤ a) = false := decide_eq_false (by omega)
    have d0' : decide (s.size ≤ a) = false := decide_eq_false (by omega)
    have hS := fun W => seen_calls s[a].toNat W
    rcases hq : seenB s[a].toNat with _ | _
    · have hn : nameM x 20 s a = none := by
        unfold nameM
        rw [hk, if_neg (by intro e; rw [e] at hq; exact absurd hq (by decide)), if_neg (by intro e; rw [e] at hq; exact absurd hq (by decide)), hq]
        rfl
      rw [hn]
      rw [hq] at hS
      have HS := Lib.hid hS
      clear hS hq hk hn
      go_enter Try.func46, Try.ntmps46
      go_wp2
      go_quiet ((go_at_call 32; exact Calls.quiet_of (HS.out _)))
      go_wp2
      go_ret
      exact ⟨rfl, ⟨v, a, Fin.out _⟩, below_st (below_dr (Below.refl _ _)) hge⟩
    · rw [hq] at hS
      have HS := Lib.hid hS
      have Go1 : Hid (∀ (n : Nat), RR ((w.drewN n).setCell ⟨b, 1, none⟩ (.int .i64 ((a : Int) + 1))) b base v s (a + 1) l false) := Lib.hid fun n => (HH.out.drewN n).set1 _ (by omega)
      have Bel1 : Hid (∀ (n : Nat), Below base w ((w.drewN n).setCell ⟨b, 1, none⟩ (.int .i64 ((a : Int) + 1)))) := Lib.hid fun n => below_st (below_dr (Below.refl _ _)) hge
      by_cases h40 : s[a].toNat = 40
      · have hn : nameM x 20 s a = twoM s (a + 1) := by
          unfold nameM
          rw [hk, if_pos h40]
        rw [hn]
        have g1 : ((s[a].toNat : Int) == 40) = true := by rw [h40]; rfl
        obtain ⟨O, hO⟩ : ∃ O, twoM s (a + 1) = O := ⟨_, rfl⟩
        rw [hO]
        have HC : Hid (∀ n, Calls Try.prog 44 #[.pointer (some ⟨b, 0, none⟩)] ((w.drewN n).setCell ⟨b, 1, none⟩ (.int .i64 ((a : Int) + 1))) (TxtR b base s l ((w.drewN n).setCell ⟨b, 1, none⟩ (.int .i64 ((a : Int) + 1))) O)) := Lib.hid fun n => by
          have := rtwo_calls _ b base v s (a + 1) l (Go1.out n) hs (by omega)
          rw [hO] at this
          exact this
        clear hS hq hk hn h40 hO
        go_enter Try.func46, Try.ntmps46
        go_wp2
        go_quiet ((go_at_call 32; exact Calls.quiet_of (HS.out _)))
        go_wp2
        go_quiet (fail)
        go_wp2_with fail
        refine (HC.out _).mono ?_
        rcases O with _ | ⟨t, a'⟩
        · rintro e w5 ⟨rfl, ⟨v5, a5, h5⟩, b5⟩
          go_wp2
          go_ret
          exact ⟨rfl, ⟨v5, a5, h5⟩, (Bel1.out _).trans b5⟩
        · rintro e w5 ⟨rfl, ⟨v5, h5⟩, b5⟩
          go_wp2
          go_ret
          exact ⟨rfl, ⟨v5, h5⟩, (Bel1.out _).trans b5⟩
      by_cases h91 : s[a].toNat = 91
      · have hn : nameM x 20 s a = bracketM x 20 s (a + 1) := by
          unfold nameM
          rw [hk, if_neg h40, if_pos h91]
        rw [hn]
        have g1 : ((s[a].toNat : Int) == 91) = true := by rw [h91]; rfl
        have g0 : ((s[a].toNat : Int) == 40) = false := by rw [h91]; rfl
        obtain ⟨O, hO⟩ : ∃ O, bracketM x 20 s (a + 1) = O := ⟨_, rfl⟩
        rw [hO]
        have HC : Hid (∀ n, Calls Try.prog 45 #[.pointer (some ⟨b, 0, none⟩), .int .i64 x, .int .i64 20] ((w.drewN n).setCell ⟨b, 1, none⟩ (.int .i64 ((a : Int) + 1))) (TxtR b base s l ((w.drewN n).setCell ⟨b, 1, none⟩ (.int .i64 ((a : Int) + 1))) O)) := Lib.hid fun n => by
          have := rbracket_calls _ b base v s (a + 1) l x 20 (Go1.out n) hs (by omega) hx (by decide)
          rw [hO] at this
          exact this
        clear hS hq hk hn h91 hO
        go_enter Try.func46, Try.ntmps46
        go_wp2
        go_quiet ((go_at_call 32; exact Calls.quiet_of (HS.out _)))
        go_wp2
        go_quiet (fail)
        go_wp2_with fail
        refine (HC.out _).mono ?_
        rcases O with _ | ⟨t, a'⟩
        · rintro e w5 ⟨rfl, ⟨v5, a5, h5⟩, b5⟩
          go_wp2
          go_ret
          exact ⟨rfl, ⟨v5, a5, h5⟩, (Bel1.out _).trans b5⟩
        · rintro e w5 ⟨rfl, ⟨v5, h5⟩, b5⟩
          go_wp2
          go_ret
          exact ⟨rfl, ⟨v5, h5⟩, (Bel1.out _).trans b5⟩
      have hn : nameM x 20 s a = some (oneS s[a].toNat, a + 1) := by
        unfold nameM
        rw [hk, if_neg h40, if_neg h91, if_pos hq]
      rw [hn]
      have g0 : ((s[a].toNat : Int) == 40) = false := by rw [beq_eq_false_iff_ne]; omega
      have g1 : ((s[a].toNat : Int) == 91) = false := by rw [beq_eq_false_iff_ne]; omega
      have hcv : ∀ n, (Go.convert 30 9 (.slice (some ⟨w.heap.size, 0, none⟩) 1 1)).run Try.prog (((w.drewN n).setCell ⟨b, 1, none⟩ (.int .i64 ((a : Int) + 1))).alloc (.cells #[.int .u8 s[a].toNat] 5)) = .ok (.string (oneS s[a].toNat)) (((w.drewN n).setCell ⟨b, 1, none⟩ (.int .i64 ((a : Int) + 1))).alloc (.cells #[.int .u8 s[a].toNat] 5)) := fun n => conv_one _ _ _ (by simp)
      clear hS hq hk hn h40 h91
      go_enter Try.func46, Try.ntmps46
      go_wp2
      go_quiet ((go_at_call 32; exact Calls.quiet_of (HS.out _)))
      go_wp2
      go_quiet (fail)
      go_wp2
      go_ret
      exact ⟨rfl, ⟨v, (Go1.out _).below ((Below.refl _ _).alloc (Nat.le_refl _) _)⟩, (Bel1.out _).alloc (by have := (Go1.out 0).top; simp at this ⊢; exact this) _⟩
  · have hn : nameM x 20 s a = none := by
      have hz : pk s a = 0 := by unfold pk; rw [dif_neg hlt]
      unfold nameM
      rw [hz, if_neg (by decide), if_neg (by decide), if_neg (by decide)]
    rw [hn]
    have d0 : decide ((s.size : Int) ≤ a) = true := decide_eq_true (by omega)
    have d0' : decide (s.size ≤ a) = true := decide_eq_true (by omega)
    clear hn
    go_enter Try.func46, Try.ntmps46
    go_wp2
    go_quiet (fail)
    go_wp2
    go_ret
    exact ⟨rfl, ⟨v, a, Fin.out _⟩, below_st (below_dr (Below.refl _ _)) hge⟩

set_option maxRecDepth 100000 in
set_option maxHeartbeats 4000000 in
theorem rquoted_calls (w : World) (b base : Nat) (v : Value) (s : ByteArray) (a : Nat) (l : List Tok) (h : RR w b base v s a l false) (hs : s.size ≤ 1000000) (ha : a ≤ s.size) :
    Calls Try.prog 43 #[.pointer (some ⟨b, 0, none⟩)] w (TxtR b base s l w (quotedM s a)) := by
  obtain ⟨c0, c1, c2, c3, f1, f2, f3, hb⟩ := h.cells
  have hge := h.ge
  have HH := Lib.hid h
  clear h
  have Fin : Hid (∀ (n : Nat), RR ((w.drewN n).setCell ⟨b, 3, none⟩ (.bool true)) b base v s a l true) := Lib.hid fun n => (HH.out.drewN n).set3
  by_cases hlt : a < s.size
  · have hi : (a : Int) < s.size := by omega
    have hk := pk_get s a hlt
    have d0 : decide ((s.size : Int) ≤ a) = false := decide_eq_false (by omega)
    have d0' : decide (s.size ≤ a) = false := decide_eq_false (by omega)
    by_cases h32 : s[a].toNat = 32
    · have hn : quotedM s a = none := by
        unfold quotedM
        rw [if_neg (by rintro ⟨-, q, -⟩; exact q (hk.trans h32))]
      rw [hn]
      have g1 : ((s[a].toNat : Int) == 32) = true := by rw [h32]; rfl
      clear hk hn h32
      go_enter Try.func43, Try.ntmps43
      go_wp2
      go_quiet (fail)
      go_wp2
      go_ret
      exact ⟨rfl, ⟨v, a, Fin.out _⟩, below_st (below_dr (Below.refl _ _)) hge⟩
    have g1 : ((s[a].toNat : Int) == 32) = false := by rw [beq_eq_false_iff_ne]; omega
    by_cases h9 : s[a].toNat = 9
    · have hn : quotedM s a = none := by
        unfold quotedM
        rw [if_neg (by rintro ⟨-, -, q⟩; exact q (hk.trans h9))]
      rw [hn]
      have g2 : ((s[a].toNat : Int) == 9) = true := by rw [h9]; rfl
      clear hk hn h9 h32
      go_enter Try.func43, Try.ntmps43
      go_wp2
      go_quiet (fail)
      go_wp2
      go_ret
      exact ⟨rfl, ⟨v, a, Fin.out _⟩, below_st (below_dr (Below.refl _ _)) hge⟩
    have g2 : ((s[a].toNat : Int) == 9) = false := by rw [beq_eq_false_iff_ne]; omega
    obtain ⟨O, hO⟩ : ∃ O, quotedM s a = O := ⟨_, rfl⟩
    rw [hO]
    unfold quotedM at hO
    rw [if_pos ⟨hlt, fun q => h32 (hk.symm.trans q), fun q => h9 (hk.symm.trans q)⟩] at hO
    simp only at hO
    obtain ⟨E, hE⟩ : ∃ E, findB s (a + 1) (pk s a) = E := ⟨_, rfl⟩
    obtain ⟨hE1, hE2⟩ := findB_le s (a + 1) (pk s a) (by omega)
    rw [hE] at hE1 hE2 hO
    have HO := Lib.hid hO
    have HE := Lib.hid hE
    have HK := Lib.hid hk
    clear hO hE h32 h9 hk
    go_enter Try.func43, Try.ntmps43
    go_wp2
    go_quiet (fail)
    go_wp2
    go_loopw [3] (fun i wr => ∃ k n : Nat, a + 1 ≤ k ∧ k ≤ E ∧ i = .int .i64 k ∧ wr = w.drewN n) (fun i _ => s.size - (RowKit.intOf i).toNat)
    case atStart => exact ⟨a + 1, _, Nat.le_refl _, hE1, rfl, rfl⟩
    case round =>
      obtain ⟨k, n, hk1, hk2, rfl, rfl⟩ := hrel
      by_cases hke : k < E
      · have hlk : k < s.size := by omega
        have hne := findB_not s (a + 1) (pk s a) k hk1 (by rw [HE.out]; exact hke)
        rw [pk_get s k hlk, HK.out] at hne
        have hik : (k : Int) < s.size := by omega
        have q1 : ((s[k].toNat : Int) != (s[a].toNat : Int)) = true := by rw [bne_iff_ne]; omega
        have q2 : (s[k].toNat != s[a].toNat) = true := by rw [bne_iff_ne]; exact hne
        have q3 : (s[k] != s[a]) = true := by rw [bne_iff_ne]; intro e; rw [e] at hne; exact hne rfl
        clear hne
        go_wp2
        go_quiet (fail)
        go_wp2
        go_roundw
        case rel => exact ⟨k + 1, _, by omega, by omega, by go_num, rfl⟩
        case measure => simp [RowKit.intOf]; omega
      · obtain rfl : k = E := by omega
        by_cases hlk : k < s.size
        · have hat := findB_at s (a + 1) (pk s a) (by rw [HE.out]; exact hlk) (by omega)
          rw [HE.out, pk_get s k hlk, HK.out] at hat
          have hik : (k : Int) < s.size := by omega
          have q1 : ((s[k].toNat : Int) != (s[a].toNat : Int)) = false := by rw [hat]; simp
          have q2 : (s[k].toNat != s[a].toNat) = false := by rw [hat]; simp
          have q4 : ((k : Int) == (s.size : Int)) = false := by rw [beq_eq_false_iff_ne]; omega
          have q5 : (k == s.size) = false := by rw [beq_eq_false_iff_ne]; omega
          have hcut := fun W => run_cut (P := Try.prog) 9 Try.underlying9 s .i64 ((a : Int) + 1) (k : Int) (by omega) (by omega) (by omega) W
          rw [show ((a : Int) + 1).toNat = a + 1 by omega, show ((k : Int)).toNat = k by omega] at hcut
          have hO := HO.out
          rw [if_pos hlk] at hO
          subst hO
          clear hat
          go_wp2
          go_quiet (fail)
          go_wp2
          go_quiet (fail)
          go_wp2
          go_ret
          exact ⟨rfl, ⟨v, (HH.out.drewN _).set1 _ (by omega)⟩, below_st (below_dr (Below.refl _ _)) hge⟩
        · obtain rfl : k = s.size := by omega
          have hO := HO.out
          rw [if_neg hlk] at hO
          subst hO
          have q4 : ((s.size : Int) == (s.size : Int)) = true := by simp
          go_wp2
          go_quiet (fail)
          go_wp2
          go_ret
          exact ⟨rfl, ⟨v, a, by first | exact Fin.out _ | (simp; exact Fin.out _)⟩, by (repeat (first | exact Below.refl _ _ | exact hge | with_reducible apply below_dr | with_reducible apply below_st))⟩
  · have hn : quotedM s a = none := by
      unfold quotedM
      rw [if_neg (fun h => hlt h.1)]
    rw [hn]
    have d0 : decide ((s.size : Int) ≤ a) = true := decide_eq_true (by omega)
    have d0' : decide (s.size ≤ a) = true := decide_eq_true (by omega)
    clear hn
    go_enter Try.func43, Try.ntmps43
    go_wp2
    go_quiet (fail)
    go_wp2
    go_ret
    exact ⟨rfl, ⟨v, a, Fin.out _⟩, below_st (below_dr (Below.refl _ _)) hge⟩
end Go.Proofs.Ytaokofnhkojllaa

set_option linter.unusedVariables false
set_option linter.unusedSimpArgs false
namespace Go.Proofs.Ytaokofnhkojllaa
open Go.Shelf Go.RowKit Go.Lib Go.Aids Go.MapLit Go.Proofs.YtaokofnhkojllaaW.PrintWords

theorem dig_calls (c : Nat) (w : World) : Calls Try.prog 58 #[.int .u8 c] w fun e w' => e = .returned (.bool (digB c)) ∧ w = w' := by
  by_cases h1 : 48 ≤ c
  · by_cases h2 : c ≤ 57
    · rw [show digB c = true from decide_eq_true ⟨h1, h2⟩]
      have d1 : decide ((48 : Int) ≤ c) = true := decide_eq_true (by omega)
      have d2 : decide ((c : Int) ≤ 57) = true := decide_eq_true (by omega)
      go_enter Try.func58, Try.ntmps58
      go_wp2
      go_ret
      exact ⟨rfl, rfl⟩
    · rw [show digB c = false from decide_eq_false (fun h => h2 h.2)]
      have d1 : decide ((48 : Int) ≤ c) = true := decide_eq_true (by omega)
      have d2 : decide ((c : Int) ≤ 57) = false := decide_eq_false (by omega)
      go_enter Try.func58, Try.ntmps58
      go_wp2
      go_ret
      exact ⟨rfl, rfl⟩
  · rw [show digB c = false from decide_eq_false (fun h => h1 h.1)]
    have d1 : decide ((48 : Int) ≤ c) = false := decide_eq_false (by omega)
    go_enter Try.func58, Try.ntmps58
    go_wp2
    go_ret
    exact ⟨rfl, rfl⟩
theorem dig_is (c : Nat) (b : Bool) (h : digB c = b) (w : World) : Calls Try.prog 58 #[.int .u8 c] w fun e w' => e = .returned (.bool b) ∧ ∃ n, w' = w.drewN n := by
  rw [← h]
  refine (dig_calls c w).mono ?_
  rintro e w' ⟨rfl, rfl⟩
  exact ⟨rfl, 0, rfl⟩
theorem dig_is2 (c : Nat) (b : Bool) (h : digB c = b) (w : World) : Calls Try.prog 58 #[.int .u8 c] w fun e w' => e = .returned (.bool b) ∧ w = w' := by
  rw [← h]; exact dig_calls c w
theorem run_from {P : Program} (t : TypeId) (ht : P.underlying t = some .string) (s : ByteArray) (k : IntKind) (i : Nat) (h2 : i ≤ s.size) (W : World) :
    (Instr.slice t (.string s) (some (.int k (i : Int))) none none).run P W = .ok (.string (s.extract i s.size)) W := by
  have e1 := run_sliceBound (P := P) (w := W) k (i : Int) s.size .sliceB (by omega) (by omega)
  simp [Instr.slice, run_underlying ht, Instr.sliceBounds, e1, Result.andThen]
/-- The byte so far behind a place; a blank at the end. -/
def qk (s : ByteArray) (a i : Nat) : Nat := if a + i < s.size then pk s (a + i) else 32
theorem q_dig (s : ByteArray) (a i : Nat) : digB (qk s a i) = digB (pk s (a + i)) := by
  unfold qk
  split
  · rfl
  · rename_i h
    have : pk s (a + i) = 0 := by unfold pk; rw [dif_neg h]
    rw [this]; rfl
theorem q_is (s : ByteArray) (a c : Nat) (h : c ≠ 0) (h2 : c ≠ 32) : qk s a 0 = c ↔ pk s a = c := by
  unfold qk
  rw [Nat.add_zero]
  split
  · exact Iff.rfl
  · rename_i h3
    have : pk s a = 0 := by unfold pk; rw [dif_neg h3]
    omega
theorem q_256 (s : ByteArray) (a i : Nat) : qk s a i < 256 := by
  unfold qk
  split
  · exact pk_256 _ _
  · decide
theorem tail_at (s : ByteArray) (a : Nat) (ha : a ≤ s.size) : ∃ R, s.extract a s.size ++ (⟨#[32, 32, 32]⟩ : ByteArray) = R ∧ 3 ≤ R.size ∧ R.size ≤ s.size + 3 ∧ ∀ i (hi : i < R.size), i < 3 → (R[i]'hi).toNat = qk s a i := by
  refine ⟨_, rfl, ?_, ?_, ?_⟩
  · rw [ByteArray.size_append, ByteArray.size_extract]; show 3 ≤ _ + 3; omega
  · rw [ByteArray.size_append, ByteArray.size_extract]; show _ + 3 ≤ _; omega
  · intro i hi h3
    unfold qk
    by_cases h : a + i < s.size
    · rw [if_pos h, ByteArray.getElem_append_left (by rw [ByteArray.size_extract]; omega), ByteArray.getElem_extract, pk_get _ _ h]
    · rw [if_neg h, ByteArray.getElem_append_right (by rw [ByteArray.size_extract]; omega)]
      have key : ∀ j (hj : j < (⟨#[32, 32, 32]⟩ : ByteArray).size), ((⟨#[32, 32, 32]⟩ : ByteArray)[j]'hj).toNat = 32 := by
        intro j hj
        have : j < 3 := hj
        match j, this with
        | 0, _ => rfl
        | 1, _ => rfl
        | 2, _ => rfl
      exact key _ _
theorem one_ext (R : ByteArray) (c : Nat) (h : 0 < R.size) (hc : (R[0]'h).toNat = c) : R.extract 0 1 = oneS c := by
  subst hc
  apply ByteArray.ext_getElem
  · rw [ByteArray.size_extract]; show min 1 R.size - 0 = 1; omega
  · intro i h1 h2
    have : i < 1 := h2
    obtain rfl : i = 0 := by omega
    rw [ByteArray.getElem_extract]
    show R[0 + 0] = UInt8.ofNat _
    simp
theorem u8w (i : Int) (h0 : 0 ≤ i) (h1 : i < 256) : IntKind.u8.wrap i = i := Int.emod_eq_of_lt h0 h1
def SizeR (b base : Nat) (s : ByteArray) (l : List Tok) (w : World) (o : Option (ByteArray × Nat × Nat)) (e : Ending) (w' : World) : Prop := match o with
  | some (t, n, a) => e = .returned (.tuple #[]) ∧ (∃ v, RR w' b base v s a (l ++ [⟨11, t, n⟩]) false) ∧ Below base w w'
  | none => e = .returned (.tuple #[]) ∧ (∃ v a l', RR w' b base v s a l' true) ∧ Below base w w'
theorem put_at (W : World) (b base : Nat) (v : Value) (s : ByteArray) (a : Nat) (l : List Tok) (bad : Bool) (k : Int) (t : ByteArray) (n : Int) (h : RR W b base v s a l bad) (hl : l.length ≤ 1000000) (N : Int) (hN : n = N) (T : ByteArray) (hT : t = T) :
    Calls Try.prog 31 #[.pointer (some ⟨b, 0, none⟩), .int .i64 k, .string t, .int .i64 n] W fun e w' => e = .returned (.tuple #[]) ∧ (∃ v', RR w' b base v' s a (l ++ [⟨k, T, N⟩]) bad) ∧ Below base W w' := by
  subst hN hT
  exact put_calls W b base v s a l bad k t n h hl

end Go.Proofs.Ytaokofnhkojllaa

set_option linter.unusedVariables false
set_option linter.unusedSimpArgs false
namespace Go.Proofs.Ytaokofnhkojllaa
open Go.Shelf Go.RowKit Go.Lib Go.Aids Go.MapLit Go.Proofs.YtaokofnhkojllaaW.PrintWords

/-- What simple answers. -/
def simR (c : Nat) : Tok × Bool := match look ((99, (⟨20, ⟨#[]⟩, 0⟩ : Tok)) :: simpleL) c with
  | some t => (t, true)
  | none => (⟨0, ⟨#[]⟩, 0⟩, false)
theorem simR_f (c : Nat) : Psimple.frisketref10_simple.f 1 c = some ((simR c).1.kind, (simR c).1.text, (simR c).1.n, (simR c).2) := by
  unfold Psimple.frisketref10_simple.f
  by_cases h : c ∈ [116, 97, 126, 32, 124, 94, 48, 37, 38, 122, 99, 117, 100, 101, 92, 45]
  · simp only [List.mem_cons, List.not_mem_nil, or_false] at h
    rcases h with h | h | h | h | h | h | h | h | h | h | h | h | h | h | h | h <;> subst h <;> rfl
  · simp only [List.mem_cons, List.not_mem_nil, or_false, not_or] at h
    obtain ⟨h1, h2, h3, h4, h5, h6, h7, h8, h9, h10, h11, h12, h13, h14, h15, h16⟩ := h
    have hn : simR c = (⟨0, ⟨#[]⟩, 0⟩, false) := by
      unfold simR simpleL look
      simp [h1, h2, h3, h4, h5, h6, h7, h8, h9, h10, h11, h12, h13, h14, h15, h16]
    rw [hn]
    rw [if_neg (by omega), if_neg (by omega), if_neg (by omega), if_neg (by omega), if_neg (by omega), if_neg (by omega), if_neg (by omega), if_neg (by omega), if_neg (by omega), if_neg (by omega), if_neg (by omega), if_neg (by omega), if_neg (by omega), if_neg (by omega)]
    show (if ((c : Int) == 92) = true then some (0, strOfNums [92], 0, true) else if (c : Int) = 45 then _ else _) = _
    rw [if_neg (by rw [beq_iff_eq]; omega), if_neg (by omega)]
theorem rsimple_calls (c : Nat) (w : World) (t : Tok) (is : Bool) (h : simR c = (t, is)) : Calls Try.prog 42 #[.int .u8 c] w fun e w' => e = .returned (.tuple #[.agg #[.int .i64 t.kind, .string t.text, .int .i64 t.n], .bool is]) ∧ Below w.heap.size w w' := by
  have := Psimple.frisketref10_simple.calls 1 c _ _ _ _ w (simR_f c)
  rw [h] at this
  exact this
def EscR (b base : Nat) (s : ByteArray) (l : List Tok) (w : World) (o : Esc) (e : Ending) (w' : World) : Prop := match o with
  | .bad => e = .returned (.tuple #[]) ∧ (∃ v a l', RR w' b base v s a l' true) ∧ Below base w w'
  | .go t a => e = .returned (.tuple #[]) ∧ (∃ v, RR w' b base v s a (l ++ t) false) ∧ Below base w w'
  | .stop t => e = .returned (.tuple #[]) ∧ (∃ v, RR w' b base v s s.size (l ++ t) false) ∧ Below base w w'
def escW (s : ByteArray) (a : Nat) : Esc := if a = 1 ∧ pk s a = 33 then .go [] (a + 1) else escM s a
theorem two_blk (w : World) (x y : Obj) : ((w.alloc x).alloc y).heap[w.heap.size]? = some x ∧ ((w.alloc x).alloc y).heap[w.heap.size + 1]? = some y := by
  constructor
  · show ((w.heap.push x).push y)[w.heap.size]? = some x
    rw [Array.getElem?_push, if_neg (by simp), Array.getElem?_push, if_pos rfl]
  · show ((w.heap.push x).push y)[w.heap.size + 1]? = some y
    rw [Array.getElem?_push, if_pos (by simp)]
end Go.Proofs.Ytaokofnhkojllaa

set_option linter.unusedVariables false
set_option linter.unusedSimpArgs false
namespace Go.Proofs.Ytaokofnhkojllaa
open Go.Shelf Go.RowKit Go.Lib Go.Aids Go.MapLit Go.Proofs.YtaokofnhkojllaaW.PrintWords

def QuoR (b base : Nat) (s : ByteArray) (l : List Tok) (w : World) (o : Option (ByteArray × Nat)) (e : Ending) (w' : World) : Prop :=
  TxtR b base s l w o e w' ∧ ∀ k, k ≠ b → w'.heap[k]? = w.heap[k]?
set_option maxRecDepth 100000 in
set_option maxHeartbeats 4000000 in
theorem rquoted2_calls (w : World) (b base : Nat) (v : Value) (s : ByteArray) (a : Nat) (l : List Tok) (h : RR w b base v s a l false) (hs : s.size ≤ 1000000) (ha : a ≤ s.size) :
    Calls Try.prog 43 #[.pointer (some ⟨b, 0, none⟩)] w (QuoR b base s l w (quotedM s a)) := by
  obtain ⟨c0, c1, c2, c3, f1, f2, f3, hb⟩ := h.cells
  have hge := h.ge
  have HH := Lib.hid h
  clear h
  have Fin : Hid (∀ (n : Nat), RR ((w.drewN n).setCell ⟨b, 3, none⟩ (.bool true)) b base v s a l true) := Lib.hid fun n => (HH.out.drewN n).set3
  by_cases hlt : a < s.size
  · have hi : (a : Int) < s.size := by omega
    have hk := pk_get s a hlt
    have d0 : decide ((s.size : Int) ≤ a) = false := decide_eq_false (by omega)
    have d0' : decide (s.size ≤ a) = false := decide_eq_false (by omega)
    by_cases h32 : s[a].toNat = 32
    · have hn : quotedM s a = none := by
        unfold quotedM
        rw [if_neg (by rintro ⟨-, q, -⟩; exact q (hk.trans h32))]
      rw [hn]
      have g1 : ((s[a].toNat : Int) == 32) = true := by rw [h32]; rfl
      clear hk hn h32
      go_enter Try.func43, Try.ntmps43
      go_wp2
      go_quiet (fail)
      go_wp2
      go_ret
      exact ⟨⟨rfl, ⟨v, a, Fin.out _⟩, below_st (below_dr (Below.refl _ _)) hge⟩, fun k hk => by first | rfl | exact Below.heap_setCell _ _ _ _ hk⟩
    have g1 : ((s[a].toNat : Int) == 32) = false := by rw [beq_eq_false_iff_ne]; omega
    by_cases h9 : s[a].toNat = 9
    · have hn : quotedM s a = none := by
        unfold quotedM
        rw [if_neg (by rintro ⟨-, -, q⟩; exact q (hk.trans h9))]
      rw [hn]
      have g2 : ((s[a].toNat : Int) == 9) = true := by rw [h9]; rfl
      clear hk hn h9 h32
      go_enter Try.func43, Try.ntmps43
      go_wp2
      go_quiet (fail)
      go_wp2
      go_ret
      exact ⟨⟨rfl, ⟨v, a, Fin.out _⟩, below_st (below_dr (Below.refl _ _)) hge⟩, fun k hk => by first | rfl | exact Below.heap_setCell _ _ _ _ hk⟩
    have g2 : ((s[a].toNat : Int) == 9) = false := by rw [beq_eq_false_iff_ne]; omega
    obtain ⟨O, hO⟩ : ∃ O, quotedM s a = O := ⟨_, rfl⟩
    rw [hO]
    unfold quotedM at hO
    rw [if_pos ⟨hlt, fun q => h32 (hk.symm.trans q), fun q => h9 (hk.symm.trans q)⟩] at hO
    simp only at hO
    obtain ⟨E, hE⟩ : ∃ E, findB s (a + 1) (pk s a) = E := ⟨_, rfl⟩
    obtain ⟨hE1, hE2⟩ := findB_le s (a + 1) (pk s a) (by omega)
    rw [hE] at hE1 hE2 hO
    have HO := Lib.hid hO
    have HE := Lib.hid hE
    have HK := Lib.hid hk
    clear hO hE h32 h9 hk
    go_enter Try.func43, Try.ntmps43
    go_wp2
    go_quiet (fail)
    go_wp2
    go_loopw [3] (fun i wr => ∃ k n : Nat, a + 1 ≤ k ∧ k ≤ E ∧ i = .int .i64 k ∧ wr = w.drewN n) (fun i _ => s.size - (RowKit.intOf i).toNat)
    case atStart => exact ⟨a + 1, _, Nat.le_refl _, hE1, rfl, rfl⟩
    case round =>
      obtain ⟨k, n, hk1, hk2, rfl, rfl⟩ := hrel
      by_cases hke : k < E
      · have hlk : k < s.size := by omega
        have hne := findB_not s (a + 1) (pk s a) k hk1 (by rw [HE.out]; exact hke)
        rw [pk_get s k hlk, HK.out] at hne
        have hik : (k : Int) < s.size := by omega
        have q1 : ((s[k].toNat : Int) != (s[a].toNat : Int)) = true := by rw [bne_iff_ne]; omega
        have q2 : (s[k].toNat != s[a].toNat) = true := by rw [bne_iff_ne]; exact hne
        have q3 : (s[k] != s[a]) = true := by rw [bne_iff_ne]; intro e; rw [e] at hne; exact hne rfl
        clear hne
        go_wp2
        go_quiet (fail)
        go_wp2
        go_roundw
        case rel => exact ⟨k + 1, _, by omega, by omega, by go_num, rfl⟩
        case measure => simp [RowKit.intOf]; omega
      · obtain rfl : k = E := by omega
        by_cases hlk : k < s.size
        · have hat := findB_at s (a + 1) (pk s a) (by rw [HE.out]; exact hlk) (by omega)
          rw [HE.out, pk_get s k hlk, HK.out] at hat
          have hik : (k : Int) < s.size := by omega
          have q1 : ((s[k].toNat : Int) != (s[a].toNat : Int)) = false := by rw [hat]; simp
          have q2 : (s[k].toNat != s[a].toNat) = false := by rw [hat]; simp
          have q4 : ((k : Int) == (s.size : Int)) = false := by rw [beq_eq_false_iff_ne]; omega
          have q5 : (k == s.size) = false := by rw [beq_eq_false_iff_ne]; omega
          have hcut := fun W => run_cut (P := Try.prog) 9 Try.underlying9 s .i64 ((a : Int) + 1) (k : Int) (by omega) (by omega) (by omega) W
          rw [show ((a : Int) + 1).toNat = a + 1 by omega, show ((k : Int)).toNat = k by omega] at hcut
          have hO := HO.out
          rw [if_pos hlk] at hO
          subst hO
          clear hat
          go_wp2
          go_quiet (fail)
          go_wp2
          go_quiet (fail)
          go_wp2
          go_ret
          exact ⟨⟨rfl, ⟨v, (HH.out.drewN _).set1 _ (by omega)⟩, below_st (below_dr (Below.refl _ _)) hge⟩, fun k hk => by first | rfl | exact Below.heap_setCell _ _ _ _ hk⟩
        · obtain rfl : k = s.size := by omega
          have hO := HO.out
          rw [if_neg hlk] at hO
          subst hO
          have q4 : ((s.size : Int) == (s.size : Int)) = true := by simp
          go_wp2
          go_quiet (fail)
          go_wp2
          go_ret
          exact ⟨⟨rfl, ⟨v, a, by first | exact Fin.out _ | (simp; exact Fin.out _)⟩, by (repeat (first | exact Below.refl _ _ | exact hge | with_reducible apply below_dr | with_reducible apply below_st))⟩, fun k hk => by first | rfl | exact Below.heap_setCell _ _ _ _ hk⟩
  · have hn : quotedM s a = none := by
      unfold quotedM
      rw [if_neg (fun h => hlt h.1)]
    rw [hn]
    have d0 : decide ((s.size : Int) ≤ a) = true := decide_eq_true (by omega)
    have d0' : decide (s.size ≤ a) = true := decide_eq_true (by omega)
    clear hn
    go_enter Try.func43, Try.ntmps43
    go_wp2
    go_quiet (fail)
    go_wp2
    go_ret
    exact ⟨⟨rfl, ⟨v, a, Fin.out _⟩, below_st (below_dr (Below.refl _ _)) hge⟩, fun k hk => by first | rfl | exact Below.heap_setCell _ _ _ _ hk⟩


end Go.Proofs.Ytaokofnhkojllaa

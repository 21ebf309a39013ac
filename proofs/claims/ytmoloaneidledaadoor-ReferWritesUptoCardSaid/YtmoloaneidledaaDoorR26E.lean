/- What the walk of refer.Data keeps from round to round. -/
import Derived.RangeFuncNested
import Derived.RangeFuncBox
import Derived.Test.YtmoloaneidledaaDoorR26M
import Derived.Test.YtmoloaneidledaaDoorR26L
set_option linter.unusedVariables false
set_option linter.unusedSimpArgs false
namespace Go.Proofs.YtmoloaneidledaaDoor
open Go Go.RowKit Go.Lib

/-- Cells lie as they lay. -/
structure KC (A B : World) : Prop where
  size : A.heap.size ≤ B.heap.size
  same : ∀ (k : Nat) (cur : Array Value) (t : TypeId), A.heap[k]? = some (Obj.cells cur t (0, 0)) → B.heap[k]? = A.heap[k]?
theorem KC.of_own {A B : World} {row : Option Nat} {n : Nat} (hg : A.grownBy B row) (hr : ∀ r, row = some r → n ≤ r ∧ ∃ o : Obj, A.heap[r]? = some o ∧ o.isCells = false) : KC A B :=
  ⟨hg.size, fun k cur t h => hg.block k (Array.getElem?_eq_some_iff.1 h).1 (fun e => by
    obtain ⟨_, o, ho, hc⟩ := hr k e.symm
    rw [h] at ho
    cases ho
    cases hc)⟩
theorem KC.boxed {A B : World} (h : KC A B) {b : Nat} {t : TypeId} {v : Value} (hb : Boxed A b t v) : Boxed B b t v := (h.same b _ _ hb).trans hb
theorem KC.row {A B : World} (h : KC A B) {base : Nat} {e : TypeId} {size n : Nat} {v : Value} {xs : List Value} (hr : A.ownsRow base e size v n xs) : B.ownsRow base e size v n xs :=
  row_of hr fun k cur _ _ hc => h.same k cur e hc
theorem KC.rows {tF : TypeId} {A B : World} (h : KC A B) {n₀ m : Nat} {hs : List Value} {d : List (List Fld)} (hr : Rows tF A n₀ m hs d) : Rows tF B n₀ m hs d := hr.of fun k cur _ _ hc => h.same k cur tF hc
theorem KC.alloc (A : World) (o : Obj) : KC A (A.alloc o) := ⟨by simp, fun k _ _ h => Below.heap_alloc _ _ _ (Array.getElem?_eq_some_iff.1 h).1⟩
/-- The records in memory: done ones, and the open one. -/
def Shape (n₀ : Nat) (W : World) (vo : Value) (d : List (List Fld)) (cur : List Fld) : Prop :=
  ∃ m hs, n₀ ≤ m ∧ m ≤ W.heap.size ∧ Rows 58 W n₀ m hs d ∧
    ((cur = [] ∧ W.ownsRow n₀ 42 1 vo hs.length hs) ∨ (cur ≠ [] ∧ ∃ hl, W.ownsRow n₀ 42 1 vo (hs.length + 1) (hs ++ [hl]) ∧ W.ownsRow m 58 2 hl cur.length (cellsF cur)))
theorem KC.shape {A B : World} (h : KC A B) {n₀ : Nat} {vo : Value} {d : List (List Fld)} {cur : List Fld} (hs : Shape n₀ A vo d cur) : Shape n₀ B vo d cur := by
  obtain ⟨m, l, h1, h2, h3, h4⟩ := hs
  refine ⟨m, l, h1, Nat.le_trans h2 h.size, h.rows h3, ?_⟩
  rcases h4 with ⟨e, h5⟩ | ⟨e, hl, h5, h6⟩
  · exact .inl ⟨e, h.row h5⟩
  · exact .inr ⟨e, hl, h.row h5, h.row h6⟩
/-- A store below the rows. -/
theorem Shape.low {W : World} {n₀ : Nat} {vo : Value} {d : List (List Fld)} {cur : List Fld} (hs : Shape n₀ W vo d cur) {p : Addr} (hp : p.block < n₀) (v : Value) : Shape n₀ (W.setCell p v) vo d cur := by
  have hb : ∀ k, n₀ ≤ k → (W.setCell p v).heap[k]? = W.heap[k]? := fun k hk => Below.heap_setCell _ _ _ _ (by omega)
  obtain ⟨m, l, h1, h2, h3, h4⟩ := hs
  refine ⟨m, l, h1, by simpa [World.setCell] using h2, h3.of fun k _ hk _ _ => hb k hk, ?_⟩
  rcases h4 with ⟨e, h5⟩ | ⟨e, hl, h5, h6⟩
  · exact .inl ⟨e, row_of h5 fun k _ hk _ _ => hb k hk⟩
  · exact .inr ⟨e, hl, row_of h5 fun k _ hk _ _ => hb k hk, row_of h6 fun k _ hk _ _ => hb k (by omega)⟩
/-- The open record is done. -/
theorem Shape.flush {W : World} {n₀ : Nat} {vo : Value} {d : List (List Fld)} {cur : List Fld} (hs : Shape n₀ W vo d cur) : Shape n₀ W vo (Go.Proofs.YtmoloaneidledaaDoor.flush d cur) [] := by
  obtain ⟨m, l, h1, h2, h3, h4⟩ := hs
  rcases h4 with ⟨e, h5⟩ | ⟨e, hl, h5, h6⟩
  · rw [Go.Proofs.YtmoloaneidledaaDoor.flush, if_pos e]
    exact ⟨m, l, h1, h2, h3, .inl ⟨rfl, h5⟩⟩
  · rw [Go.Proofs.YtmoloaneidledaaDoor.flush, if_neg e]
    refine ⟨W.heap.size, l ++ [hl], by omega, Nat.le_refl _, h3.snoc h2 h1 h6 (fun k hk => (h6.lt k hk).2), .inl ⟨rfl, ?_⟩⟩
    rw [List.length_append]
    exact h5
/-- Between two rounds. -/
structure Inv (h : Nat) (W : World) (d : List (List Fld)) (cur : List Fld) : Prop where
  r : Boxed W h 27 (.slice none 0 0)
  e : Boxed W (h + 1) 29 (.int .i64 0)
  o : ∃ vo, Boxed W (h + 2) 27 vo ∧ Shape (h + 7) W vo d cur
  b : Boxed W (h + 3) 4 (.bool (!decide (cur = [])))
theorem KC.inv {A B : World} (h : KC A B) {k : Nat} {d : List (List Fld)} {cur : List Fld} (hs : Inv k A d cur) : Inv k B d cur := by
  obtain ⟨h1, h2, ⟨vo, h3, h4⟩, h5⟩ := hs
  exact ⟨h.boxed h1, h.boxed h2, ⟨vo, h.boxed h3, h.shape h4⟩, h.boxed h5⟩
theorem boxed_far {W : World} {B : Nat} {t : TypeId} {u : Value} (h : Boxed W B t u) {p : Addr} (hp : B ≠ p.block) (v : Value) : Boxed (W.setCell p v) B t u := (Below.heap_setCell _ _ _ _ hp).trans h
/-- The iterator's own store. -/
theorem Inv.iter {W : World} {h : Nat} {d : List (List Fld)} {cur : List Fld} (hs : Inv h W d cur) (v : Value) : Inv h (W.setCell ⟨h + 4, 0, none⟩ v) d cur := by
  obtain ⟨h1, h2, ⟨vo, h3, h4⟩, h5⟩ := hs
  exact ⟨boxed_far h1 (by simp) v, boxed_far h2 (by simp) v, ⟨vo, boxed_far h3 (by simp) v, h4.low (by simp) v⟩, boxed_far h5 (by simp) v⟩
/-! Bounds. -/
theorem stepS_on (d : List (List Fld)) (r : List Fld) (x : ByteArray) : stepS (.on d r) x =
    if x.size = 0 then .on (flush d r) []
    else if pk x 0 ≠ 37 then (if r = [] then .bad 4 else .on d (addT r x))
    else if x.size < 4 ∨ capB (pk x 1) = false ∨ pk x 2 ≠ 32 then .bad 4
    else if pk x 1 ≠ 65 ∧ hasF r (pk x 1) = true then .bad 7
    else .on d (r ++ [⟨pk x 1, x.extract 3 x.size⟩]) := rfl
theorem fold_len : ∀ (l : List ByteArray) (d : List (List Fld)) (r : List Fld) (d' : List (List Fld)) (r' : List Fld), l.foldl stepS (.on d r) = .on d' r' →
    (flush d' r').length ≤ (flush d r).length + l.length ∧ r'.length ≤ r.length + l.length
  | [], d, r, d', r', h => by
    simp only [List.foldl_nil, St.on.injEq] at h
    obtain ⟨rfl, rfl⟩ := h
    simp
  | x :: l, d, r, d', r', h => by
    rw [List.foldl_cons] at h
    rw [stepS_on] at h
    have hf : ∀ q : List Fld, (flush d q).length ≤ (flush d r).length + 1 := fun q => by
      unfold flush
      split <;> split <;> simp <;> omega
    split at h
    · obtain ⟨h1, h2⟩ := fold_len l _ _ _ _ h
      rw [flush_flush] at h1
      simp at h1 h2 ⊢
      omega
    split at h
    · split at h
      · rw [foldl_bad] at h; cases h
      · obtain ⟨h1, h2⟩ := fold_len l _ _ _ _ h
        have := hf (addT r x)
        rw [addT_len] at h2
        simp
        omega
    split at h
    · rw [foldl_bad] at h; cases h
    split at h
    · rw [foldl_bad] at h; cases h
    · obtain ⟨h1, h2⟩ := fold_len l _ _ _ _ h
      have := hf (r ++ [⟨pk x 1, x.extract 3 x.size⟩])
      simp at h2 ⊢
      omega
theorem fold_text (M : Nat) : ∀ (l : List ByteArray) (d : List (List Fld)) (r : List Fld) (d' : List (List Fld)) (r' : List Fld) (b : Nat), (∀ x ∈ l, x.size ≤ M) → (∀ f ∈ r, f.t.size ≤ b) → l.foldl stepS (.on d r) = .on d' r' →
    ∀ f ∈ r', f.t.size ≤ b + l.length * (M + 1)
  | [], d, r, d', r', b, hM, hb, h => by
    simp only [List.foldl_nil, St.on.injEq] at h
    obtain ⟨rfl, rfl⟩ := h
    simpa using hb
  | x :: l, d, r, d', r', b, hM, hb, h => by
    rw [List.foldl_cons] at h
    have hx := hM x (List.mem_cons_self ..)
    have hl : ∀ y ∈ l, y.size ≤ M := fun y hy => hM y (List.mem_cons_of_mem _ hy)
    have hc : (x :: l).length * (M + 1) = l.length * (M + 1) + (M + 1) := by rw [List.length_cons, Nat.succ_mul]
    have fin : ∀ q : List Fld, (∀ f ∈ q, f.t.size ≤ b + (M + 1)) → ∀ d0, l.foldl stepS (.on d0 q) = .on d' r' → ∀ f ∈ r', f.t.size ≤ b + (x :: l).length * (M + 1) := fun q hq d0 h0 f hf => by
      have := fold_text M l _ _ _ _ _ hl hq h0 f hf
      omega
    rw [stepS_on] at h
    split at h
    · exact fin [] (by simp) _ h
    split at h
    · split at h
      · rw [foldl_bad] at h; cases h
      · refine fin _ ?_ _ h
        intro f hf
        rcases List.eq_nil_or_concat r with rfl | ⟨q, g, rfl⟩
        · simp [addT] at hf
        · rw [List.concat_eq_append] at hf hb
          have e : addT (q ++ [g]) x = q ++ [⟨g.c, g.t ++ tx [32] ++ x⟩] := by simp [addT]
          rw [e] at hf
          rcases List.mem_append.1 hf with h1 | h1
          · have := hb f (List.mem_append_left _ h1); omega
          · have hg := hb g (by simp)
            simp at h1
            subst h1
            simp only [ByteArray.size_append, tx_size, List.length_cons, List.length_nil]
            omega
    split at h
    · rw [foldl_bad] at h; cases h
    split at h
    · rw [foldl_bad] at h; cases h
    · refine fin _ ?_ _ h
      intro f hf
      rcases List.mem_append.1 hf with h1 | h1
      · have := hb f h1; omega
      · simp at h1
        subst h1
        simp only [ByteArray.size_extract]
        omega
end Go.Proofs.YtmoloaneidledaaDoor

/- Rows of records in memory: what an append, a store, a new block leave of them. -/
import Derived.Below
import Derived.Laws.OwnMore
import Derived.Maps.AppendAt
import Derived.Test.YtmoloaneidledaaDoorR26A
set_option linter.unusedVariables false
set_option linter.unusedSimpArgs false
namespace Go.Proofs.YtmoloaneidledaaDoor
open Go Go.RowKit

/-- The cells of a record. -/
def cellsF (r : List Fld) : List Value := r.flatMap fun f => [.int .u8 f.c, .string f.t]
theorem cellsF_nil : cellsF [] = [] := rfl
theorem cellsF_snoc (r : List Fld) (f : Fld) : cellsF (r ++ [f]) = cellsF r ++ [.int .u8 f.c, .string f.t] := by simp [cellsF]
theorem cellsF_len : ∀ r : List Fld, (cellsF r).length = r.length * 2
  | [] => rfl
  | f :: r => by
    have := cellsF_len r
    simp only [cellsF, List.flatMap_cons, List.length_append, List.length_cons, List.length_nil] at this ⊢
    omega
theorem cellsF_0 : ∀ (r : List Fld) (k : Nat) (h : k < r.length), (cellsF r)[k * 2]? = some (.int .u8 r[k].c)
  | f :: r, 0, _ => rfl
  | f :: r, k + 1, h => by
    have := cellsF_0 r k (by simpa using h)
    rw [show (k + 1) * 2 = k * 2 + 2 by omega]
    simpa [cellsF] using this
theorem cellsF_1 : ∀ (r : List Fld) (k : Nat) (h : k < r.length), (cellsF r)[k * 2 + 1]? = some (.string r[k].t)
  | f :: r, 0, _ => rfl
  | f :: r, k + 1, h => by
    have := cellsF_1 r k (by simpa using h)
    rw [show (k + 1) * 2 + 1 = k * 2 + 1 + 2 by omega]
    simpa [cellsF] using this
/-- A text laid behind the last field turns one cell. -/
theorem cellsF_addT (r : List Fld) (x : ByteArray) (f : Fld) (q : List Fld) (h : r = q ++ [f]) : cellsF (addT r x) = (cellsF r).set (q.length * 2 + 1) (.string (f.t ++ tx [32] ++ x)) := by
  subst h
  have e : addT (q ++ [f]) x = q ++ [⟨f.c, f.t ++ tx [32] ++ x⟩] := by simp [addT]
  rw [e, cellsF_snoc, cellsF_snoc, List.set_append_right _ _ (by rw [cellsF_len]; omega), cellsF_len, show q.length * 2 + 1 - q.length * 2 = 1 by omega]
  rfl
theorem addT_len (r : List Fld) (x : ByteArray) : (addT r x).length = r.length := by
  rcases List.eq_nil_or_concat r with rfl | ⟨q, f, rfl⟩
  · rfl
  · simp [addT]

/-- What lies in blocks that are as they were is owned as it was. -/
theorem row_of {W W' : World} {base : Nat} {e : TypeId} {size n : Nat} {v : Value} {xs : List Value} (h : W.ownsRow base e size v n xs)
    (hk : ∀ k cur, base ≤ k → v.ownBlock = some k → W.heap[k]? = some (.cells cur e (0, 0)) → W'.heap[k]? = W.heap[k]?) : W'.ownsRow base e size v n xs := by
  refine ⟨h.1, ?_⟩
  rcases h.2 with h0 | ⟨g, cap, cur, rfl, h1, h2, h3⟩
  · exact .inl h0
  · exact .inr ⟨g, cap, cur, rfl, h1, (hk g cur h1 rfl h2).trans h2, h3⟩
/-- The type of a row's block. -/
theorem row_type {W : World} {base : Nat} {e : TypeId} {size n : Nat} {v : Value} {xs : List Value} (h : W.ownsRow base e size v n xs) {k : Nat} (hv : v.ownBlock = some k) : base ≤ k ∧ k < W.heap.size ∧ ∃ cur, W.heap[k]? = some (.cells cur e (0, 0)) := by
  rcases h.2 with ⟨rfl, _⟩ | ⟨g, cap, cur, rfl, h1, h2, h3⟩
  · cases hv
  · obtain rfl : g = k := by simpa [Value.ownBlock] using hv
    exact ⟨h1, (Array.getElem?_eq_some_iff.1 h2).1, cur, h2⟩
theorem row_ne {W : World} {b1 b2 : Nat} {e1 e2 : TypeId} {s1 s2 n1 n2 : Nat} {v1 v2 : Value} {x1 x2 : List Value} (h1 : W.ownsRow b1 e1 s1 v1 n1 x1) (h2 : W.ownsRow b2 e2 s2 v2 n2 x2) (he : e1 ≠ e2) : v1.ownBlock = none ∨ v1.ownBlock ≠ v2.ownBlock := by
  cases hv : v1.ownBlock with
  | none => exact .inl rfl
  | some k =>
    refine .inr fun e => ?_
    obtain ⟨_, _, c1, k1⟩ := row_type h1 hv
    obtain ⟨_, _, c2, k2⟩ := row_type h2 e.symm
    rw [k1] at k2
    simp at k2
    exact he k2.2

/-- Records that lie below block m. -/
def Rows (tF : TypeId) (W : World) (n₀ m : Nat) (hs : List Value) (d : List (List Fld)) : Prop :=
  hs.length = d.length ∧ ∀ i (h : i < hs.length) (h' : i < d.length), W.ownsRow n₀ tF 2 hs[i] d[i].length (cellsF d[i]) ∧ (∀ k, hs[i].ownBlock = some k → k < m)
theorem Rows.nil (tF : TypeId) (W : World) (n₀ m : Nat) : Rows tF W n₀ m [] [] := ⟨rfl, fun i h => absurd h (Nat.not_lt_zero _)⟩
theorem Rows.of {tF : TypeId} {W W' : World} {n₀ m : Nat} {hs : List Value} {d : List (List Fld)} (h : Rows tF W n₀ m hs d)
    (hk : ∀ k cur, n₀ ≤ k → k < m → W.heap[k]? = some (.cells cur tF (0, 0)) → W'.heap[k]? = W.heap[k]?) : Rows tF W' n₀ m hs d :=
  ⟨h.1, fun i h1 h2 => ⟨row_of (h.2 i h1 h2).1 fun k cur hb hv hc => hk k cur hb ((h.2 i h1 h2).2 k hv) hc, (h.2 i h1 h2).2⟩⟩
theorem Rows.snoc {tF : TypeId} {W : World} {n₀ m m' : Nat} {hs : List Value} {d : List (List Fld)} (h : Rows tF W n₀ m hs d) (hm : m ≤ m') {v : Value} {r : List Fld} {b : Nat} (hb : n₀ ≤ b) (hr : W.ownsRow b tF 2 v r.length (cellsF r)) (hv : ∀ k, v.ownBlock = some k → k < m') :
    Rows tF W n₀ m' (hs ++ [v]) (d ++ [r]) := by
  refine ⟨by simp [h.1], fun i h1 h2 => ?_⟩
  by_cases hi : i < hs.length
  · rw [List.getElem_append_left hi, List.getElem_append_left (by rw [← h.1]; exact hi)]
    have := h.2 i hi (by rw [← h.1]; exact hi)
    exact ⟨this.1, fun k hk => Nat.lt_of_lt_of_le (this.2 k hk) hm⟩
  · have e : i = hs.length := by simp at h1; omega
    subst e
    have e2 : (d ++ [r])[hs.length]'h2 = r := by simp [h.1]
    rw [e2]
    simp only [List.getElem_append_right (Nat.le_refl _), Nat.sub_self, List.getElem_cons_zero]
    refine ⟨?_, hv⟩
    refine ⟨hr.1, ?_⟩
    rcases hr.2 with h0 | ⟨g, cap, cur, rfl, h1, h2, h3⟩
    · exact .inl h0
    · exact .inr ⟨g, cap, cur, rfl, by omega, h2, h3⟩
end Go.Proofs.YtmoloaneidledaaDoor

/- Walks of layer 12: slices.Repeat of one box. -/
import Derived.Test.YtmmfojaeahcohaaT12H
import Derived.Laws.CopyRow
import Derived.Laws.MakeOwn
import Derived.Deep.RegionLaw
set_option linter.unusedVariables false
set_option linter.unusedSimpArgs false
namespace Go.Proofs.Ytmmfojaeahcohaa
open Go.Shelf Go.RowKit Go.Lib Go.Aids Go.Opens Go.Proofs.YtmmfojaeahcohaaW.PrintWords Go.Proofs.Ytmmfojaeahcohaa.PTabsMade

theorem info28 : (Try.prog.info? 28).map (fun i => (i.zero, i.size, i.bytes)) = some (some (.agg #[.int .i64 0, .int .i64 0, .int .i64 0, .int .i64 0, .string ⟨#[]⟩, .string ⟨#[]⟩, .slice none 0 0]), 7, 88) := by kernel_rfl
def repC (x : List Value) (n : Nat) : List Value := (List.replicate n x).flatten
theorem repC_len (x : List Value) (hx : x.length = 7) : ∀ n, (repC x n).length = n * 7
  | 0 => rfl
  | n + 1 => by
    have := repC_len x hx n
    unfold repC at this ⊢
    rw [List.replicate_succ, List.flatten_cons, List.length_append, this, hx]; omega
theorem repC_add (x : List Value) (a b : Nat) : repC x (a + b) = repC x a ++ repC x b := by
  unfold repC
  rw [← List.flatten_append, List.replicate_append_replicate]
theorem repC_one (x : List Value) : repC x 1 = x := by simp [repC]
theorem repC_mem (x : List Value) (n : Nat) : ∀ u ∈ repC x n, u ∈ x := by
  intro u hu
  unfold repC at hu
  rw [List.mem_flatten] at hu
  obtain ⟨l, hl, hu⟩ := hu
  rw [List.mem_replicate] at hl
  rw [hl.2] at hu; exact hu
/-- The row of which the first k boxes are laid. -/
structure Filled (w : World) (g n k : Nat) (x : List Value) : Prop where
  ex : ∃ cur : Array Value, w.heap[g]? = some (.cells cur 28 (0, 0)) ∧ cur.size = n * 7 ∧ cur.toList.take (k * 7) = repC x k
theorem run_copy_boxes (w : World) (ty : TypeId) (g o dLen dCap : Nat) (a : Addr) (sLen sCap m : Nat) (cur : Array Value) (cs : List Value)
    (hg : w.heap[g]? = some (.cells cur 28 (0, 0))) (hm : Nat.min sLen dLen = m) (hn : cs.length = m * 7)
    (hsrc : ∀ j v, cs[j]? = some v → w.cell? (a.add j) = some v) (hfit : o + cs.length ≤ cur.size) (h1 : ∀ v ∈ cs, v.oneCell' = true) :
    (Builtin.copy_ #[31, 31] ty #[.slice (some ⟨g, o, none⟩) dLen dCap, .slice (some a) sLen sCap]).run Try.prog w =
      .ok (goInt m) (w.setRow g (cur.toList.take o ++ cs ++ cur.toList.drop (o + cs.length)).toArray) := by
  obtain ⟨i0, hi, hz0, hz1, hz2⟩ := info_parts info28
  have hl := run_loadCells_list (P := Try.prog) w a cs hsrc
  have hst := run_storeCells_at Try.prog g o 28 cs 0 cur w hg (by simpa using hfit) h1
  rw [hn] at hl
  subst hm
  simp [Builtin.copy_, run_underlying Try.underlying31, Builtin.lenOf, Builtin.firstCells, sizeOf, typeInfo, hi, hz1, hl, hst]
theorem below_setRow' {B g : Nat} {w0 w : World} (hb : Below B w0 w) (hBg : B ≤ g) (cs : Array Value) : Below B w0 (w.setRow g cs) :=
  hb.trans ⟨rfl, rfl, rfl, by simp [World.setRow], fun k hk => setRow_other w g k cs (by omega)⟩
/-- m boxes more, out of the row itself or out of another. -/
theorem Filled.more {w : World} {g n k : Nat} {x : List Value} (h : Filled w g n k x) (hx : x.length = 7) (m : Nat) (hm : k + m ≤ n) (hox : ∀ u ∈ x, u.oneCell' = true) (ty : TypeId) (a : Addr) (sLen sCap dLen dCap : Nat) (hmin : Nat.min sLen dLen = m)
    (hsrc : ∀ j v, (repC x m)[j]? = some v → w.cell? (a.add j) = some v) :
    ∃ w', (Builtin.copy_ #[31, 31] ty #[.slice (some ⟨g, k * 7, none⟩) dLen dCap, .slice (some a) sLen sCap]).run Try.prog w = .ok (goInt m) w' ∧ Filled w' g n (k + m) x ∧ ∀ B w0, Below B w0 w → B ≤ g → Below B w0 w' := by
  obtain ⟨cur, hg, hs, ht⟩ := h.ex
  have hl := repC_len x hx m
  refine ⟨_, run_copy_boxes w ty g (k * 7) dLen dCap a sLen sCap m cur (repC x m) hg hmin hl hsrc (by rw [hl, hs]; omega) (fun v hv => hox v (repC_mem x m v hv)), ⟨_, setRow_heap w g _ _ 28 _ hg, ?_, ?_⟩, fun B w0 hb hB => below_setRow' hb hB _⟩
  · simp only [List.size_toArray, List.length_append, List.length_take, List.length_drop, Array.length_toList, hl, hs]
    omega
  · have e : (k + m) * 7 = (cur.toList.take (k * 7) ++ repC x m).length := by
      rw [List.length_append, List.length_take, hl, Array.length_toList, hs]; omega
    rw [e]
    show (cur.toList.take (k * 7) ++ repC x m ++ _).take _ = _
    rw [List.take_left, ht, repC_add]
theorem Filled.src {w : World} {g n k : Nat} {x : List Value} (h : Filled w g n k x) (hx : x.length = 7) (m : Nat) (hm : m ≤ k) : ∀ j v, (repC x m)[j]? = some v → w.cell? ((⟨g, 0, none⟩ : Addr).add j) = some v := by
  obtain ⟨cur, hg, hs, ht⟩ := h.ex
  intro j v hj
  have hjl : j < m * 7 := by
    have := (List.getElem?_eq_some_iff.1 hj).1
    rw [repC_len x hx m] at this
    exact this
  have ead : ((⟨g, 0, none⟩ : Addr).add j) = ⟨g, j, none⟩ := by
    simp [Addr.add]
    intro h; omega
  rw [ead, Lib.cell_of_heap hg]
  have e1 : repC x k = repC x m ++ repC x (k - m) := by rw [← repC_add, show m + (k - m) = k by omega]
  have e2 : (repC x k)[j]? = some v := by
    rw [e1, List.getElem?_append_left (by rw [repC_len x hx m]; exact hjl)]; exact hj
  rw [← ht, List.getElem?_take, if_pos (by omega)] at e2
  rw [← e2, Array.getElem?_toList]
theorem Filled.own {w : World} {g n : Nat} {x : List Value} (h : Filled w g n n x) (hx : x.length = 7) (base : Nat) (hb : base ≤ g) (hn : n ≤ maxLen) : w.ownsRow base 28 7 (.slice (some ⟨g, 0, none⟩) n n) n (repC x n) := by
  obtain ⟨cur, hg, hs, ht⟩ := h.ex
  exact ⟨repC_len x hx n, .inr ⟨g, n, cur, rfl, hb, hg, Nat.le_refl _, hn, hs, ht⟩⟩
end Go.Proofs.Ytmmfojaeahcohaa

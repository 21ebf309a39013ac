/- Rows of boxes: a row laid behind another. -/
import Derived.Test.YtmmfojaeahcohaaT12J
set_option linter.unusedVariables false
set_option linter.unusedSimpArgs false
namespace Go.Proofs.Ytmmfojaeahcohaa
open Go.Shelf Go.RowKit Go.Lib Go.Aids Go.Opens Go.Proofs.YtmmfojaeahcohaaW.PrintWords Go.Proofs.Ytmmfojaeahcohaa.PTabsMade

theorem reps_append {α : Type} {R : α → List Value → Prop} {size : Nat} {ps : List α} {cs : List Value} (h : Reps R size ps cs) : ∀ (n : Nat) (qs : List α) (ds : List Value), qs.length = n → Reps R size qs ds → Reps R size (ps ++ qs) (cs ++ ds)
  | 0, qs, ds, hn, k => by
    have e1 : qs = [] := List.eq_nil_of_length_eq_zero hn
    subst e1
    have e2 : ds = [] := List.eq_nil_of_length_eq_zero (by have := k.1; simpa using this)
    subst e2
    simpa using h
  | n + 1, qs, ds, hn, k => by
    have hq : qs = qs.take n ++ [qs[n]'(by omega)] := by
      rw [← List.take_succ_eq_append_getElem (by omega), List.take_of_length_le (by omega)]
    have hdl : ds.length = (n + 1) * size := by rw [k.1, hn]
    have hd : ds = ds.take (n * size) ++ (ds.drop (n * size)).take size := by
      have e := List.take_of_length_le (l := ds.drop (n * size)) (i := size) (by rw [List.length_drop, hdl, Nat.add_mul]; omega)
      rw [e, List.take_append_drop]
    have k1 : Reps R size (qs.take n) (ds.take (n * size)) := by
      refine ⟨by rw [List.length_take, List.length_take, hdl, hn, Nat.min_eq_left (Nat.mul_le_mul_right _ (by omega)), Nat.min_eq_left (by omega)], fun j p hj => ?_⟩
      have hjn : j < n := by
        have := (List.getElem?_eq_some_iff.1 hj).1
        rw [List.length_take] at this; omega
      rw [List.getElem?_take, if_pos hjn] at hj
      have := k.2 j p hj
      have e : ((ds.take (n * size)).drop (j * size)).take size = (ds.drop (j * size)).take size := by
        rw [List.drop_take, List.take_take]
        congr 1
        have : j * size + size ≤ n * size := by rw [← Nat.succ_mul]; exact Nat.mul_le_mul_right _ hjn
        omega
      rw [e]; exact this
    have k2 := k.2 n _ (List.getElem?_eq_getElem (by omega))
    have := (reps_append h n _ _ (by rw [List.length_take]; omega) k1).snoc k2 (by rw [List.length_take, List.length_drop, hdl, Nat.add_mul]; omega)
    rw [hq, hd, ← List.append_assoc, ← List.append_assoc]
    simpa using this
/-- Rows of boxes that a relation describes. -/
abbrev BoxR := S28 → List Value → Prop
def OneC (R : BoxR) : Prop := ∀ p c, R p c → ∀ u ∈ c, u.oneCell' = true
theorem oneC_K (w : World) : OneC (k28.K w) := fun p c h => k28.K_one h
theorem reps_one {R : BoxR} (hR : OneC R) {ps : List S28} {cs : List Value} (h : Reps R 7 ps cs) : ∀ u ∈ cs, u.oneCell' = true := by
  intro u hu
  obtain ⟨i, hi, rfl⟩ := List.mem_iff_getElem.1 hu
  have hl := h.1
  have hq : i / 7 < ps.length := by omega
  refine hR _ _ (h.2 (i / 7) _ (List.getElem?_eq_getElem hq)) _ ?_
  rw [List.mem_iff_getElem?]
  refine ⟨i % 7, ?_⟩
  rw [List.getElem?_take, if_pos (Nat.mod_lt _ (by omega)), List.getElem?_drop, show i / 7 * 7 + i % 7 = i by omega, List.getElem?_eq_getElem hi]
theorem run_append_boxes {W : World} (R : BoxR) (hR : OneC R) (base : Nat) (ty : TypeId) (v : Value) (ps qs : List S28) (HO : OwnRow R 28 7 W base v ps) (A : Option Addr) (c : Nat) (hC : ReadsRow R 7 W A qs.length qs)
    (hsmall : ps.length + qs.length ≤ 1000000000000) (hbase : base ≤ W.heap.size) :
    ∃ v1 w1, (Builtin.append_ #[31, 31] ty #[v, .slice A qs.length c]).run Try.prog W = .ok v1 w1 ∧ OwnRow R 28 7 w1 base v1 (ps ++ qs) ∧ W.grownBy w1 v.ownBlock ∧ (v1.ownBlock = v.ownBlock ∨ v1.ownBlock = some W.heap.size) := by
  obtain ⟨i0, hi, hz0, hz1, hz2⟩ := info_parts info28
  obtain ⟨cs, ho, hr⟩ := HO
  cases A with
  | none =>
    rcases Nat.eq_zero_or_pos qs.length with h0 | h0
    · have e : qs = [] := List.eq_nil_of_length_eq_zero h0
      subst e
      refine ⟨v, W, ?_, by simpa using ⟨cs, ho, hr⟩, ⟨rfl, rfl, rfl, Nat.le_refl _, fun _ _ _ => rfl⟩, .inl rfl⟩
      rcases ho.2 with ⟨rfl, _⟩ | ⟨g, cap, cur, rfl, _, _, hnc, _⟩
      · simp [Builtin.append_, run_underlying Try.underlying31, sizeOf, typeInfo, hi, Builtin.lenOf, Builtin.firstCells]
      · simp [Builtin.append_, run_underlying Try.underlying31, sizeOf, typeInfo, hi, Builtin.lenOf, Builtin.firstCells, hnc, storeCells]
    · obtain ⟨ad, h, _⟩ := hC.2.2 h0
      cases h
  | some ad =>
    obtain ⟨inner, hri, hcell⟩ := hC.inner_
    obtain ⟨v1, w1, hrun, hown, hg, _, hat⟩ := run_append_own_at (P := Try.prog) W base 31 ty 28 i0 (.agg #[.int .i64 0, .int .i64 0, .int .i64 0, .int .i64 0, .string ⟨#[]⟩, .string ⟨#[]⟩, .slice none 0 0]) 7 88 Try.underlying31 hi hz0 hz1 hz2 rfl (by decide) v ps.length cs ho ad qs.length c inner hri.1 hcell (reps_one hR hri) (by unfold maxLen; omega) (by omega) hbase
    refine ⟨v1, w1, hrun, ⟨cs ++ inner, by rw [List.length_append]; exact hown, reps_append hr _ _ _ rfl hri⟩, hg, hat⟩
theorem wpList_append_boxes {ops : Array Oper} {rest : List Oper} {o : Oper} {a : Act} {Q : Exit → Act → World → Prop} {W : World} (R : BoxR) (hR : OneC R) (hgd : o.guard = none) (s x : Operand)
    (ho : o.op = .call { callee := .builtin .append, args := #[s, x], argTypes := #[31, 31] }) (base : Nat) (v : Value) (ps qs : List S28) (hs : a.eval s = v) (HO : OwnRow R 28 7 W base v ps) (A : Option Addr) (m c : Nat) (hx : a.eval x = .slice A m c) (hm : m = qs.length) (hC : ReadsRow R 7 W A qs.length qs)
    (hsmall : ps.length + qs.length ≤ 1000000000000) (hbase : base ≤ W.heap.size)
    (h : ∀ v1 w1, OwnRow R 28 7 w1 base v1 (ps ++ qs) → W.grownBy w1 v.ownBlock → wpList Try.prog ops Q rest (a.put o.dst v1) w1) :
    wpList Try.prog ops Q (o :: rest) a W := by
  subst hm
  refine wpList_plain hgd fun K hK2 => ?_
  obtain ⟨v1, w1, hr, hown, hg, _⟩ := run_append_boxes R hR base o.type v ps qs HO A c hC hsmall hbase
  unfold Oper.wp
  simp [execOp, ho, resolve, invoke, builtin, hs, hx, hr, Result.andThen]
  exact hK2 _ _ (h v1 w1 hown hg)
theorem or_base {R : BoxR} {w : World} {base : Nat} {v : Value} {ps : List S28} (h : OwnRow R 28 7 w base v ps) (k : Nat) (hk : v.ownBlock = some k) : base ≤ k := by
  obtain ⟨inner, ho, _⟩ := h
  exact own_base ho k hk
theorem or_grown {R : BoxR} {W W1 w0 : World} {base : Nat} {v : Value} {ps : List S28} (HO : OwnRow R 28 7 W base v ps) (HB : Below base w0 W) (hbase : base ≤ W.heap.size) (hg : W.grownBy W1 v.ownBlock) : Below base w0 W1 :=
  HB.grown hg hbase (fun k hk => or_base HO k hk)
end Go.Proofs.Ytmmfojaeahcohaa

/- Appending labels to a row of one's own. -/
import Derived.Test.YtnmlpeblbppjbaaP21G
import Derived.Deep.RegionLaw
set_option linter.unusedVariables false
set_option linter.unusedSimpArgs false
namespace Go.Proofs.Ytnmlpeblbppjbaa
open Go.RowKit Go.Opens Go.Lib Go.Aids Go.MapLit Go.Proofs.YtnmlpeblbppjbaaW.PrintWords

theorem info28 : (Try.prog.info? 28).map (fun i => (i.zero, i.size, i.bytes)) = some (some (.agg #[.string ⟨#[]⟩, .string ⟨#[]⟩]), 2, 32) := by kernel_rfl
theorem run_append_labs {W : World} (base n : Nat) (ty : TypeId) (v : Value) (xs : List Lab) (HO : W.ownsRow base 28 2 v n (cellsL xs)) (A : Option Addr) (c : Nat) (l : List Lab) (hC : kLab.C W A l.length l)
    (hsmall : n + l.length ≤ 1000) (hbase : base ≤ W.heap.size) :
    ∃ v1 w1, (Builtin.append_ #[22, 22] ty #[v, .slice A l.length c]).run Try.prog W = .ok v1 w1 ∧ w1.ownsRow base 28 2 v1 (n + l.length) (cellsL (xs ++ l)) ∧ W.grownBy w1 v.ownBlock ∧ (v1.ownBlock = v.ownBlock ∨ v1.ownBlock = some W.heap.size) := by
  obtain ⟨i0, hi, hz0, hz1, hz2⟩ := info_parts info28
  have hcl : cellsL (xs ++ l) = cellsL xs ++ cellsL l := by simp [cellsL]
  rw [hcl]
  cases A with
  | none =>
    rcases Nat.eq_zero_or_pos l.length with h0 | h0
    · have e : l = [] := List.eq_nil_of_length_eq_zero h0
      subst e
      refine ⟨v, W, ?_, by simpa [cellsL] using HO, ⟨rfl, rfl, rfl, Nat.le_refl _, fun _ _ _ => rfl⟩, .inl rfl⟩
      rcases HO.2 with ⟨rfl, rfl⟩ | ⟨g, cap, cur, rfl, _, _, hnc, _⟩
      · simp [Builtin.append_, run_underlying Try.underlying22, sizeOf, typeInfo, hi, Builtin.lenOf, Builtin.firstCells]
      · simp [Builtin.append_, run_underlying Try.underlying22, sizeOf, typeInfo, hi, Builtin.lenOf, Builtin.firstCells, hnc, storeCells]
    · obtain ⟨b, off, h, _⟩ := labs_at hC h0
      cases h
  | some ad =>
    have hnews : ∀ j u, (cellsL l)[j]? = some u → W.cell? (ad.add j) = some u := by
      intro j u hj
      have hjl : j < (cellsL l).length := (List.getElem?_eq_some_iff.1 hj).1
      rw [cellsL_len] at hjl
      obtain ⟨b, off, h, _, hc⟩ := labs_at hC (by omega)
      injection h with h
      subst h
      obtain ⟨q, hq⟩ : ∃ q, j / 2 = q := ⟨_, rfl⟩
      have hql : q < l.length := by omega
      obtain ⟨c1, c2⟩ := hc q hql
      obtain ⟨d1, d2⟩ := cellsL_at l q hql
      have ead : ∀ y, ((⟨b, off, none⟩ : Addr).add y) = ⟨b, off + y, none⟩ := fun y => by simp [Addr.add]
      rw [ead]
      rcases Nat.mod_two_eq_zero_or_one j with h2 | h2
      · have e : j = q * 2 := by omega
        subst e
        rw [d1] at hj
        rw [c1]; exact hj
      · have e : j = q * 2 + 1 := by omega
        subst e
        rw [d2] at hj
        rw [← Nat.add_assoc, c2]; exact hj
    have hone : ∀ u ∈ cellsL l, u.oneCell' = true := by
      intro u hu
      simp only [cellsL, List.mem_flatMap, List.mem_cons, List.not_mem_nil, or_false] at hu
      obtain ⟨a, _, rfl | rfl⟩ := hu <;> rfl
    obtain ⟨v1, w1, hr, hown, hg, _, hat⟩ := run_append_own_at (P := Try.prog) W base 22 ty 28 i0 (.agg #[.string ⟨#[]⟩, .string ⟨#[]⟩]) 2 32 Try.underlying22 hi hz0 hz1 hz2 rfl (by decide) v n (cellsL xs) HO ad l.length c (cellsL l) (cellsL_len l) hnews hone (by unfold maxLen; omega) (by omega) hbase
    exact ⟨v1, w1, hr, hown, hg, hat⟩
theorem step_append_labs {ops : Array Oper} {o : Oper} {a : Act} {W : World} {K : Act → World → Prop} {Q : Exit → Act → World → Prop} {E : Prop} (hgd : o.guard = none) (s x : Operand)
    (ho : o.op = .call { callee := .builtin .append, args := #[s, x], argTypes := #[22, 22] }) (base n : Nat) (v : Value) (xs : List Lab) (hs : a.eval s = v) (HO : W.ownsRow base 28 2 v n (cellsL xs)) (A : Option Addr) (m c : Nat) (l : List Lab) (hx : a.eval x = .slice A m c) (hm : m = l.length) (hC : kLab.C W A l.length l)
    (hsmall : n + l.length ≤ 1000) (hbase : base ≤ W.heap.size)
    (h : ∀ v1 w1, w1.ownsRow base 28 2 v1 (n + l.length) (cellsL (xs ++ l)) → W.grownBy w1 v.ownBlock → (v1.ownBlock = v.ownBlock ∨ v1.ownBlock = some W.heap.size) → K (a.put o.dst v1) w1) :
    if Region.wanted o (yielded ops a.tmps) = true then Oper.wp Try.prog o a W K Q else E := by
  have hw : Region.wanted o (yielded ops a.tmps) = true := by simp [Region.wanted, hgd]
  rw [if_pos hw]
  subst hm
  obtain ⟨v1, w1, hr, hown, hg, hat⟩ := run_append_labs base n o.type v xs HO A c l hC hsmall hbase
  unfold Oper.wp
  simp [execOp, ho, resolve, invoke, builtin, hs, hx, hr, Result.andThen]
  exact h v1 w1 hown hg hat
theorem C_alloc {w : World} {A : Option Addr} {l : List Lab} (h : kLab.C w A l.length l) (o : Obj) : kLab.C (w.alloc o) A l.length l := C_row h ((Below.refl _ _).alloc (Nat.le_refl _) o)
theorem C_drew {w : World} {A : Option Addr} {l : List Lab} (h : kLab.C w A l.length l) : kLab.C w.drew A l.length l := C_row h ((Below.refl _ _).drew)
/-- A row of one label. -/
theorem C_one {w : World} {g : Nat} {n v : ByteArray} {fr : Nat × Nat} (h : w.heap[g]? = some (.cells #[.string n, .string v] 28 fr)) : kLab.C w (some ⟨g, 0, none⟩) 1 [(n, v)] := by
  refine ⟨rfl, by decide, fun _ => ⟨_, rfl, fun j p hj => ?_⟩⟩
  match j, hj with
  | 0, hj =>
    injection hj with hj
    subst hj
    refine ⟨[.string n, .string v], rfl, ⟨[.string n], [.string v], rfl, rfl, rfl⟩, fun i u hi => ?_⟩
    have ead : ∀ q, ((⟨g, 0, none⟩ : Addr).add q) = ⟨g, q, none⟩ := fun q => by
      simp [Addr.add]
      intro h; omega
    rw [show kLab.sz = 2 from rfl, ead, Lib.cell_of_heap h]
    match i, hi with
    | 0, hi => exact hi
    | 1, hi => exact hi
    | i + 2, hi => simp at hi
  | j + 1, hj => simp at hj
theorem own_empty (W : World) (base B : Nat) (hB : B = W.heap.size) (hb : base ≤ W.heap.size) : (W.alloc (.cells #[] 28)).ownsRow base 28 2 (.slice (some ⟨B, 0, none⟩) 0 0) 0 (cellsL []) := by
  subst hB
  exact World.ownsRow_lit W #[] 0 hb (by unfold maxLen; omega) rfl
theorem grown_below {W W1 W2 : World} {v : Value} {n : Nat} {xs : List Value} (HO : W.ownsRow W2.heap.size 28 2 v n xs) (HB : Below W2.heap.size W2 W) (hg : W.grownBy W1 v.ownBlock) : Below W2.heap.size W2 W1 :=
  HB.grown hg HB.size (fun k hk => own_base HO k hk)
theorem step_lab1 {ops : Array Oper} {o : Oper} {a : Act} {W W2 : World} {K : Act → World → Prop} {Q : Exit → Act → World → Prop} {E : Prop} (hgd : o.guard = none) (s x : Operand)
    (ho : o.op = .call { callee := .builtin .append, args := #[s, x], argTypes := #[22, 22] }) (v : Value) (hs : a.eval s = v) (HO : W.ownsRow W2.heap.size 28 2 v 0 (cellsL [])) (A : Option Addr) (c : Nat) (l : List Lab) (hx : a.eval x = .slice A l.length c)
    (C2 : kLab.C W2 A l.length l) (HB : Below W2.heap.size W2 W) (hsmall : l.length ≤ 500)
    (h : ∀ v1 w1, w1.ownsRow W2.heap.size 28 2 v1 l.length (cellsL l) → Below W2.heap.size W2 w1 → W.grownBy w1 v.ownBlock → K (a.put o.dst v1) w1) :
    if Region.wanted o (yielded ops a.tmps) = true then Oper.wp Try.prog o a W K Q else E := by
  refine step_append_labs hgd s x ho W2.heap.size 0 v [] hs HO A l.length c l hx rfl (C_row C2 HB) (by omega) HB.size fun v1 w1 h1 h2 _ => ?_
  rw [Nat.zero_add, List.nil_append] at h1
  exact h v1 w1 h1 (grown_below HO HB h2) h2
theorem step_lab2 {ops : Array Oper} {o : Oper} {a : Act} {W W2 : World} {K : Act → World → Prop} {Q : Exit → Act → World → Prop} {E : Prop} (hgd : o.guard = none) (s x : Operand)
    (ho : o.op = .call { callee := .builtin .append, args := #[s, x], argTypes := #[22, 22] }) (v : Value) (n : Nat) (xs : List Lab) (hs : a.eval s = v) (HO : W.ownsRow W2.heap.size 28 2 v n (cellsL xs)) (g : Nat) (hx : a.eval x = .slice (some ⟨g, 0, none⟩) 1 1)
    (nm vl : ByteArray) (HY : W.heap[g]? = some (.cells #[.string nm, .string vl] 28 (0, 0))) (HB : Below W2.heap.size W2 W) (hsmall : n ≤ 500)
    (h : ∀ v1 w1, w1.ownsRow W2.heap.size 28 2 v1 (n + 1) (cellsL (xs ++ [(nm, vl)])) → Below W2.heap.size W2 w1 → K (a.put o.dst v1) w1) :
    if Region.wanted o (yielded ops a.tmps) = true then Oper.wp Try.prog o a W K Q else E := by
  refine step_append_labs hgd s x ho W2.heap.size n v xs hs HO (some ⟨g, 0, none⟩) 1 1 [(nm, vl)] hx rfl (C_one HY) (by simp; omega) HB.size fun v1 w1 h1 h2 _ => ?_
  exact h v1 w1 h1 (grown_below HO HB h2)
theorem info30 : (Try.prog.info? 30).map (fun i => (i.zero, i.size, i.bytes)) = some (some (.agg #[.string ⟨#[]⟩, .string ⟨#[]⟩]), 2, 32) := by kernel_rfl
/-- One label behind the reference's row. -/
theorem step_ref {ops : Array Oper} {o : Oper} {a : Act} {W W2 : World} {K : Act → World → Prop} {Q : Exit → Act → World → Prop} {E : Prop} (hgd : o.guard = none) (s x : Operand)
    (ho : o.op = .call { callee := .builtin .append, args := #[s, x], argTypes := #[29, 29] }) (v : Value) (n : Nat) (xs : List Lab) (hs : a.eval s = v) (HO : W.ownsRow W2.heap.size 30 2 v n (cellsL xs)) (g : Nat) (hx : a.eval x = .slice (some ⟨g, 0, none⟩) 1 1)
    (nm vl : ByteArray) (HY : W.heap[g]? = some (.cells #[.string nm, .string vl] 30 (0, 0))) (HB : Below W2.heap.size W2 W) (hsmall : n ≤ 500)
    (h : ∀ v1 w1, w1.ownsRow W2.heap.size 30 2 v1 (n + 1) (cellsL (xs ++ [(nm, vl)])) → Below W2.heap.size W2 w1 → K (a.put o.dst v1) w1) :
    if Region.wanted o (yielded ops a.tmps) = true then Oper.wp Try.prog o a W K Q else E := by
  have hw : Region.wanted o (yielded ops a.tmps) = true := by simp [Region.wanted, hgd]
  rw [if_pos hw]
  obtain ⟨i0, hi, hz0, hz1, hz2⟩ := info_parts info30
  have hnews : ∀ j u, (cellsL [(nm, vl)])[j]? = some u → W.cell? ((⟨g, 0, none⟩ : Addr).add j) = some u := by
    intro j u hj
    have ead : ((⟨g, 0, none⟩ : Addr).add j) = ⟨g, j, none⟩ := by
      simp [Addr.add]
      intro h; omega
    rw [ead, Lib.cell_of_heap HY]
    match j, hj with
    | 0, hj => exact hj
    | 1, hj => exact hj
    | j + 2, hj => simp [cellsL] at hj
  obtain ⟨v1, w1, hr, hown, hg, _, hat⟩ := run_append_own_at (P := Try.prog) W W2.heap.size 29 o.type 30 i0 (.agg #[.string ⟨#[]⟩, .string ⟨#[]⟩]) 2 32 Try.underlying29 hi hz0 hz1 hz2 rfl (by decide) v n (cellsL xs) HO ⟨g, 0, none⟩ 1 1 (cellsL [(nm, vl)]) rfl hnews (by simp [cellsL, Value.oneCell']) (by unfold maxLen; omega) (by omega) HB.size
  have hcl : cellsL (xs ++ [(nm, vl)]) = cellsL xs ++ cellsL [(nm, vl)] := by simp [cellsL]
  unfold Oper.wp
  simp [execOp, ho, resolve, invoke, builtin, hs, hx, hr, Result.andThen]
  exact h v1 w1 (by rw [hcl]; exact hown) (HB.grown hg HB.size (fun k hk => own_base HO k hk))
end Go.Proofs.Ytnmlpeblbppjbaa

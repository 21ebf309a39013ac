/- What the two writing regions of refer.Data leave. -/
import Derived.Test.YtmoloaneidledaaDoorR26E
import Derived.Test.YtmoloaneidledaaDoorR26C
set_option linter.unusedVariables false
set_option linter.unusedSimpArgs false
namespace Go.Proofs.YtmoloaneidledaaDoor
open Go Go.RowKit Go.Lib

/-- In a round: all that stands ahead of the region that writes. -/
structure P18 (w W : World) (h D : Nat) (V : World) (go cap m : Nat) (hs : List Value) (hl : Value) (d : List (List Fld)) (cur : List Fld) : Prop where
  hD : D = h + 7
  kf : KeepsFrom D W V
  k3 : K3 (h + 4) W V
  bl : Below h w V
  b0 : Boxed V h 27 (.slice none 0 0)
  b1 : Boxed V (h + 1) 29 (.int .i64 0)
  b2 : Boxed V (h + 2) 27 (.slice (some ⟨go, 0, none⟩) (hs.length + 1) cap)
  b3 : Boxed V (h + 3) 4 (.bool true)
  m0 : h + 7 ≤ m
  m1 : m ≤ V.heap.size
  rows : Rows 58 V (h + 7) m hs d
  out : V.ownsRow (h + 7) 42 1 (.slice (some ⟨go, 0, none⟩) (hs.length + 1) cap) (hs.length + 1) (hs ++ [hl])
  row : V.ownsRow m 58 2 hl cur.length (cellsF cur)
/-- Old blocks that are neither the list's nor the open record's lie as they lay. -/
theorem P18.step {w W V F : World} {h D go cap m : Nat} {hs : List Value} {hl u1 : Value} {d : List (List Fld)} {cur c2 : List Fld} (P : P18 w W h D V go cap m hs hl d cur) (hos : F.os = V.os) (hta : F.tape = V.tape) (hou : F.output = V.output) (hsz : V.heap.size ≤ F.heap.size)
    (hk : ∀ k, k < V.heap.size → k ≠ go → some k ≠ hl.ownBlock → F.heap[k]? = V.heap[k]?)
    (ho : F.ownsRow (h + 7) 42 1 (.slice (some ⟨go, 0, none⟩) (hs.length + 1) cap) (hs.length + 1) (hs ++ [u1])) (hr : F.ownsRow m 58 2 u1 c2.length (cellsF c2)) (hc2 : c2 ≠ []) :
    KeepsFrom D W F ∧ K3 (h + 4) W F ∧ Inv h F d c2 ∧ Below h w F := by
  obtain ⟨hD, kf, k3, bl, b0, b1, b2, b3, m0, m1, rows, out, row⟩ := P
  obtain ⟨g1, g2, gc, g3⟩ := row_type out (k := go) rfl
  have hlow : ∀ k, k < h + 7 → F.heap[k]? = V.heap[k]? := fun k hk' => by
    refine hk k (by omega) (by omega) fun e => ?_
    have := (row_type row e.symm).1
    omega
  refine ⟨kf.trans ⟨hsz, fun k o hkD hko hoc => ?_⟩, k3.trans fun k q1 q2 => hlow k (by omega), ⟨(hlow _ (by omega)).trans b0, (hlow _ (by omega)).trans b1, ⟨_, (hlow _ (by omega)).trans b2, m, hs, m0, by omega, ?_, .inr ⟨hc2, u1, ho, hr⟩⟩, ?_⟩, bl.trans ⟨hos, hta, hou, hsz, fun k q => hlow k (by omega)⟩⟩
  · refine (hk k (Array.getElem?_eq_some_iff.1 hko).1 ?_ ?_).trans hko
    · intro e
      subst e
      rw [g3] at hko
      cases hko
      cases hoc
    · intro e
      obtain ⟨_, _, c, q⟩ := row_type row e.symm
      rw [q] at hko
      cases hko
      cases hoc
  · refine rows.of fun k c q1 q2 q3 => hk k (by omega) ?_ ?_
    · intro e
      subst e
      rw [g3] at q3
      simp at q3
    · intro e
      have := (row_type row e.symm).1
      omega
  · refine (hlow _ (by omega)).trans ?_
    rw [show (!decide (c2 = [])) = true by simp [hc2]]
    exact b3
theorem set_last (hs : List Value) (hl u : Value) : (hs ++ [hl]).set hs.length u = hs ++ [u] := by
  rw [List.set_append_right _ _ (Nat.le_refl _), Nat.sub_self]; rfl
/-- A field is laid behind the open record. -/
theorem P18.fin {w W V V2 w1 : World} {h D go cap m : Nat} {hs : List Value} {hl u1 : Value} {d : List (List Fld)} {cur : List Fld} {f : Fld} {tmp : Obj} (P : P18 w W h D V go cap m hs hl d cur) (hV : Below V.heap.size V V2)
    (hown : w1.ownsRow m 58 2 u1 (cur.length + 1) (cellsF (cur ++ [f]))) (hg : (V2.alloc tmp).drew.grownBy w1 hl.ownBlock) :
    KeepsFrom D W (w1.setCell ⟨go, hs.length, none⟩ u1) ∧ K3 (h + 4) W (w1.setCell ⟨go, hs.length, none⟩ u1) ∧ Inv h (w1.setCell ⟨go, hs.length, none⟩ u1) d (cur ++ [f]) ∧ Below h w (w1.setCell ⟨go, hs.length, none⟩ u1) := by
  obtain ⟨g1, g2, gc, g3⟩ := row_type P.out (k := go) rfl
  have hgl : some go ≠ hl.ownBlock := fun e => by
    obtain ⟨_, _, c, q⟩ := row_type P.row e.symm
    rw [g3] at q
    simp at q
  have h2 : ∀ k, k < V.heap.size → (V2.alloc tmp).drew.heap[k]? = V.heap[k]? := fun k hk => (Below.heap_alloc V2 tmp k (by have := hV.size; omega)).trans (hV.block k hk)
  have hs2 : V.heap.size + 1 ≤ (V2.alloc tmp).drew.heap.size := by
    have := hV.size
    have e : (V2.alloc tmp).drew.heap.size = V2.heap.size + 1 := by simp [World.drew]
    omega
  have h3 : ∀ k, k < V.heap.size → some k ≠ hl.ownBlock → w1.heap[k]? = V.heap[k]? := fun k hk hne => (hg.block k (by omega) hne).trans (h2 k hk)
  have hout1 : w1.ownsRow (h + 7) 42 1 (.slice (some ⟨go, 0, none⟩) (hs.length + 1) cap) (hs.length + 1) (hs ++ [hl]) := row_of P.out fun k c _ hv _ => by
    have e : go = k := by simpa [Value.ownBlock] using hv
    subst e
    exact h3 go g2 hgl
  have hst := (hout1.stored hs.length u1).1
  rw [set_last] at hst
  have hrow1 : (w1.setCell ⟨go, hs.length, none⟩ u1).ownsRow m 58 2 u1 (cur ++ [f]).length (cellsF (cur ++ [f])) := by
    rw [List.length_append]
    refine row_of hown fun k c hb hv hc => Below.heap_setCell _ _ _ _ fun e => ?_
    have e : k = go := e
    subst e
    rw [h3 k g2 hgl, g3] at hc
    simp at hc
  refine P.step ?_ ?_ ?_ ?_ ?_ hst hrow1 (by simp)
  · exact hg.os.trans hV.os
  · exact hg.tape.trans hV.tape
  · exact hg.output.trans hV.output
  · have := hg.size
    have e : (w1.setCell ⟨go, hs.length, none⟩ u1).heap.size = w1.heap.size := by simp [World.setCell]
    omega
  · intro k hk hne hnl
    exact (Below.heap_setCell _ _ _ _ hne).trans (h3 k hk hnl)
/-- A line is laid behind the last field's text. -/
theorem P18.txt {w W V : World} {h D go cap m gl cp : Nat} {hs : List Value} {d : List (List Fld)} {cur q : List Fld} {f : Fld} {x : ByteArray} (P : P18 w W h D V go cap m hs (.slice (some ⟨gl, 0, none⟩) cur.length cp) d cur) (hq : cur = q ++ [f]) :
    KeepsFrom D W (V.setCell ⟨gl, q.length * 2 + 1, none⟩ (.string (f.t ++ tx [32] ++ x))).drew ∧ K3 (h + 4) W (V.setCell ⟨gl, q.length * 2 + 1, none⟩ (.string (f.t ++ tx [32] ++ x))).drew ∧ Inv h (V.setCell ⟨gl, q.length * 2 + 1, none⟩ (.string (f.t ++ tx [32] ++ x))).drew d (addT cur x) ∧ Below h w (V.setCell ⟨gl, q.length * 2 + 1, none⟩ (.string (f.t ++ tx [32] ++ x))).drew := by
  obtain ⟨g1, g2, gc, g3⟩ := row_type P.out (k := go) rfl
  obtain ⟨l1, l2, lc, l3⟩ := row_type P.row (k := gl) rfl
  have hgl : go ≠ gl := fun e => by
    subst e
    rw [g3] at l3
    simp at l3
  have hoff : ∀ k, k ≠ gl → (V.setCell ⟨gl, q.length * 2 + 1, none⟩ (.string (f.t ++ tx [32] ++ x))).drew.heap[k]? = V.heap[k]? := fun k hk => Below.heap_setCell _ _ _ _ hk
  have hst := (P.row.stored (q.length * 2 + 1) (.string (f.t ++ tx [32] ++ x))).1
  rw [← cellsF_addT cur x f q hq] at hst
  refine P.step (u1 := .slice (some ⟨gl, 0, none⟩) cur.length cp) rfl rfl rfl (by simp [World.drew, World.setCell]) (fun k hk hne hnl => hoff k fun e => hnl (by rw [e]; rfl)) ?_ ?_ ?_
  · refine row_of P.out fun k c _ hv _ => hoff k ?_
    have e : go = k := by simpa [Value.ownBlock] using hv
    omega
  · rw [addT_len]
    exact row_of hst fun _ _ _ _ _ => rfl
  · intro e
    have := addT_len cur x
    rw [e, hq] at this
    simp at this
/-- A record is open already. -/
theorem P18.old {w W : World} {h go cap m : Nat} {hs : List Value} {hl : Value} {d : List (List Fld)} {cur : List Fld} (hB : Below h w W) (b0 : Boxed W h 27 (.slice none 0 0)) (b1 : Boxed W (h + 1) 29 (.int .i64 0)) (b2 : Boxed W (h + 2) 27 (.slice (some ⟨go, 0, none⟩) (hs.length + 1) cap)) (b3 : Boxed W (h + 3) 4 (.bool true))
    (m0 : h + 7 ≤ m) (m1 : m ≤ W.heap.size) (rows : Rows 58 W (h + 7) m hs d) (out : W.ownsRow (h + 7) 42 1 (.slice (some ⟨go, 0, none⟩) (hs.length + 1) cap) (hs.length + 1) (hs ++ [hl])) (row : W.ownsRow m 58 2 hl cur.length (cellsF cur)) :
    P18 w W h (h + 7) (W.setCell ⟨h + 3, 0, none⟩ (.bool true)) go cap m hs hl d cur := by
  have hb : ∀ k, k ≠ h + 3 → (W.setCell ⟨h + 3, 0, none⟩ (.bool true)).heap[k]? = W.heap[k]? := fun k hk => Below.heap_setCell _ _ _ _ hk
  exact ⟨rfl, (KeepsOthers.setCell _ _ _).from _, fun k q1 q2 => hb k (by omega), hB.setCell (p := ⟨h + 3, 0, none⟩) (by simp) _, (hb _ (by omega)).trans b0, (hb _ (by omega)).trans b1, (hb _ (by omega)).trans b2, b3.set _, m0, by simpa [World.setCell] using m1,
    rows.of fun k _ q _ _ => hb k (by omega), row_of out fun k _ q _ _ => hb k (by omega), row_of row fun k _ q _ _ => hb k (by omega)⟩
/-- A record is begun. -/
theorem P18.new {w W w1 : World} {h go cap m : Nat} {hs : List Value} {vo : Value} {d : List (List Fld)} {tmp : Obj} (hB : Below h w W) (b0 : Boxed W h 27 (.slice none 0 0)) (b1 : Boxed W (h + 1) 29 (.int .i64 0)) (b2 : Boxed W (h + 2) 27 vo) (b3 : Boxed W (h + 3) 4 (.bool false))
    (m0 : h + 7 ≤ m) (m1 : m ≤ W.heap.size) (rows : Rows 58 W (h + 7) m hs d) (out : W.ownsRow (h + 7) 42 1 vo hs.length hs) (out1 : w1.ownsRow (h + 7) 42 1 (.slice (some ⟨go, 0, none⟩) (hs.length + 1) cap) (hs.length + 1) (hs ++ [.slice none 0 0])) (hg : (W.alloc tmp).grownBy w1 vo.ownBlock) :
    P18 w W h (h + 7) ((w1.setCell ⟨h + 2, 0, none⟩ (.slice (some ⟨go, 0, none⟩) (hs.length + 1) cap)).setCell ⟨h + 3, 0, none⟩ (.bool true)) go cap m hs (.slice none 0 0) d [] := by
  generalize hF : (w1.setCell ⟨h + 2, 0, none⟩ (.slice (some ⟨go, 0, none⟩) (hs.length + 1) cap)).setCell ⟨h + 3, 0, none⟩ (.bool true) = F
  have hw : ∀ k, k < W.heap.size → some k ≠ vo.ownBlock → w1.heap[k]? = W.heap[k]? := fun k hk hne => (hg.block k (by simp; omega) hne).trans (Below.heap_alloc _ _ _ hk)
  have hfw : ∀ k, k ≠ h + 2 → k ≠ h + 3 → F.heap[k]? = w1.heap[k]? := fun k h2 h3 => by
    rw [← hF, Below.heap_setCell _ _ _ _ h3]
    exact Below.heap_setCell _ _ _ _ h2
  have hlow : ∀ k, k < h + 7 → some k ≠ vo.ownBlock := fun k hk e => by
    have := (row_type out e.symm).1
    omega
  have hsz : W.heap.size + 1 ≤ F.heap.size := by
    have e : F.heap.size = w1.heap.size := by rw [← hF]; simp [World.setCell]
    have := hg.size
    simp at this
    omega
  have hb2 : Boxed w1 (h + 2) 27 vo := (hw _ (by omega) (hlow _ (by omega))).trans b2
  have hb3 : Boxed w1 (h + 3) 4 (.bool false) := (hw _ (by omega) (hlow _ (by omega))).trans b3
  refine ⟨rfl, ⟨by omega, fun k o hk hko hoc => ?_⟩, fun k q1 q2 => (hfw k (by omega) (by omega)).trans (hw k (by omega) (hlow k (by omega))), ?_, (hfw _ (by omega) (by omega)).trans ((hw _ (by omega) (hlow _ (by omega))).trans b0), (hfw _ (by omega) (by omega)).trans ((hw _ (by omega) (hlow _ (by omega))).trans b1), ?_, ?_, m0, by omega, ?_, ?_, World.ownsRow_nil _ _ _ _⟩
  · refine (hfw k (by omega) (by omega)).trans ((hw k (Array.getElem?_eq_some_iff.1 hko).1 ?_).trans hko)
    intro e
    obtain ⟨_, _, c, q⟩ := row_type out e.symm
    rw [q] at hko
    cases hko
    cases hoc
  · refine hB.trans ⟨?_, ?_, ?_, by omega, fun k hk => (hfw k (by omega) (by omega)).trans (hw k (by omega) (hlow k (by omega)))⟩
    · rw [← hF]; exact hg.os
    · rw [← hF]; exact hg.tape
    · rw [← hF]; exact hg.output
  · rw [← hF]
    exact boxed_far (hb2.set _) (by simp) _
  · rw [← hF]
    exact (boxed_far hb3 (by simp) _).set _
  · refine rows.of fun k c q1 q2 q3 => (hfw k (by omega) (by omega)).trans (hw k (by omega) ?_)
    intro e
    obtain ⟨_, _, c2, q⟩ := row_type out e.symm
    rw [q] at q3
    simp at q3
  · exact row_of out1 fun k _ q _ _ => hfw k (by omega) (by omega)
/-- The function returns without records. -/
theorem P18.ret {w W V V2 : World} {h D go cap m : Nat} {hs : List Value} {hl : Value} {d : List (List Fld)} {cur : List Fld} (P : P18 w W h D V go cap m hs hl d cur) (hV : Below V.heap.size V V2) (e : Int) :
    KeepsFrom D W ((V2.setCell ⟨h, 0, none⟩ (.slice none 0 0)).setCell ⟨h + 1, 0, none⟩ (.int .i64 e)) ∧ Boxed ((V2.setCell ⟨h, 0, none⟩ (.slice none 0 0)).setCell ⟨h + 1, 0, none⟩ (.int .i64 e)) h 27 (.slice none 0 0) ∧ Boxed ((V2.setCell ⟨h, 0, none⟩ (.slice none 0 0)).setCell ⟨h + 1, 0, none⟩ (.int .i64 e)) (h + 1) 29 (.int .i64 e) ∧ Below h w ((V2.setCell ⟨h, 0, none⟩ (.slice none 0 0)).setCell ⟨h + 1, 0, none⟩ (.int .i64 e)) := by
  have hm := P.m0
  have hm1 := P.m1
  have b0 : Boxed V2 h 27 (.slice none 0 0) := (hV.block _ (by omega)).trans P.b0
  have b1 : Boxed V2 (h + 1) 29 (.int .i64 0) := (hV.block _ (by omega)).trans P.b1
  refine ⟨(P.kf.trans ⟨hV.size, fun k o _ hk _ => (hV.block k (Array.getElem?_eq_some_iff.1 hk).1).trans hk⟩).trans (((KeepsOthers.setCell _ _ _).trans (KeepsOthers.setCell _ _ _)).from _), boxed_far (b0.set _) (by simp) _, (boxed_far b1 (by simp) _).set _, ?_⟩
  exact ((P.bl.trans (hV.mono (by omega))).setCell (p := ⟨h, 0, none⟩) (Nat.le_refl _) _).setCell (p := ⟨h + 1, 0, none⟩) (Nat.le_succ _) _
/-- A record's slice, and its fields' cells. -/
theorem row_flds {W : World} {m : Nat} {hl : Value} {r : List Fld} (h : W.ownsRow m 58 2 hl r.length (cellsF r)) : ∃ A cp, hl = .slice A r.length cp ∧ Flds W.heap.size W A r := by
  rcases h.2 with ⟨e, h0⟩ | ⟨g, cap, cur, e, h1, h2, h3⟩
  · exact ⟨none, 0, by rw [e, h0], fun k hk => by omega⟩
  · refine ⟨_, cap, e, fun k hk => ⟨g, 0, rfl, (Array.getElem?_eq_some_iff.1 h2).1, ?_, ?_⟩⟩
    · rw [e] at h
      have := h.cellAt (k * 2) (by omega)
      rw [cellsF_0 r k hk] at this
      rw [Nat.zero_add]
      exact this
    · rw [e] at h
      have := h.cellAt (k * 2 + 1) (by omega)
      rw [cellsF_1 r k hk] at this
      rw [Nat.zero_add]
      exact this
end Go.Proofs.YtmoloaneidledaaDoor

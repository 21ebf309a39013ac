/- The region of refer.Data that lays a field behind a record. -/
import Derived.Test.YtmoloaneidledaaDoorR26U
import Derived.Test.YtmoloaneidledaaDoorR26E
import Derived.Test.YtmoloaneidledaaDoorShelf
import Derived.Test.YtmoloaneidledaaDoorWTab
import Derived.WalkKit
import Derived.Deep.RegionHeld
set_option linter.unusedVariables false
set_option linter.unusedSimpArgs false
namespace Go.Proofs.YtmoloaneidledaaDoor
open Go Go.RowKit Go.Lib Go.Proofs.YtmoloaneidledaaDoorW.PrintLast

theorem info58 : (Tryd.prog.info? 58).map (fun i => (i.zero, i.size, i.bytes)) = some (some (.agg #[.int .u8 0, .string ⟨#[]⟩]), 2, 24) := by kernel_rfl
set_option maxRecDepth 100000 in
set_option maxHeartbeats 4000000 in
theorem app18 {l n Bx bo k m : Nat} {W : World} {x : ByteArray} {hl : Value} {cur : List Fld} {Q : Exit → Act → World → Prop} {v0 v1 v2 v3 v4 v5 v8 v9 v10 v11 v12 v13 v14 v15 v16 v17 v18 v19 v20 v21 v22 v23 v24 v25 v26 v27 v28 v29 v30 v31 v32 v33 v34 v35 v36 v37 v38 v39 v40 v41 v42 v43 v44 v45 v46 v47 v48 v49 v50 v51 v52 v53 v54 v55 v56 v57 v58 v59 v60 v61 v62 v63 v64 v65 v66 v67 v68 v69 v70 v71 v72 v73 v74 v75 v76 v77 v78 v79 v80 v81 v82 v83 v84 v85 v86 v87 v88 v89 : Value}
    {ops : Array Oper} (ho : ops = opsOf Tryd.f13 18) (hQ : ¬ LetsOut Q) (hp : ∀ c a w, Q (.panic c) a w → False) (hx : 4 ≤ x.size) (cx : W.cell? ⟨Bx, 0, none⟩ = some (.string x)) (cb : W.cell? ⟨bo, k, none⟩ = some hl) (fb : W.frozen? ⟨bo, k, none⟩ = false)
    (hr : W.ownsRow m 58 2 hl cur.length (cellsF cur)) (hlen : cur.length ≤ 10000000) (hm : m ≤ W.heap.size) (hob : some bo ≠ hl.ownBlock) (hox : some Bx ≠ hl.ownBlock) (hxo : Bx ≠ bo)
    (hN : ∀ a' u1 w1, w1.ownsRow m 58 2 u1 (cur.length + 1) (cellsF (cur ++ [⟨pk x 1, x.extract 3 x.size⟩])) → (W.alloc (.cells #[.int .u8 (pk x 1), .string (x.extract 3 x.size)] 58)).drew.grownBy w1 hl.ownBlock → Q .normal a' (w1.setCell ⟨bo, k, none⟩ u1)) :
    (Code.region 18 ops true).wpIn (Fence.wide.inRound l) n Tryd.prog Q { tmps := #[v0, v1, v2, v3, v4, v5, .pointer (some ⟨Bx, 0, none⟩), .pointer (some ⟨bo, k, none⟩), v8, v9, v10, v11, v12, v13, v14, v15, v16, v17, v18, v19, v20, v21, v22, v23, v24, v25, v26, v27, v28, v29, v30, v31, v32, v33, v34, v35, v36, v37, v38, v39, v40, v41, v42, v43, v44, v45, v46, v47, v48, v49, v50, v51, v52, v53, v54, v55, v56, v57, v58, v59, v60, v61, v62, v63, v64, v65, v66, v67, v68, v69, v70, v71, v72, v73, v74, v75, v76, v77, v78, v79, v80, v81, v82, v83, v84, v85, v86, v87, v88, v89], defers := [] } W := by
  have hi1 : (1 : Int) < x.size := by omega
  have hi3 : (3 : Int) ≤ x.size := by omega
  have hpk := pk_get x 1 (by omega)
  simp [opsOf, opsIn, Tryd.f13] at ho
  subst ho
  dsimp only
  refine wpIn_region_up (fun V => V.cell? ⟨Bx, 0, none⟩ = some (.string x)) (by kernel_rfl) (by kernel_rfl) hQ cx (fun hHeld => ?_)
  obtain ⟨W2, hW2⟩ : ∃ W2, (W.alloc (.cells #[.int .u8 (x[1].toNat : Nat), .string (x.extract 3 x.size)] 58)).drew = W2 := ⟨_, rfl⟩
  rw [hpk, hW2] at hN
  have hb2 : Below W.heap.size W W2 := by rw [← hW2]; exact ((Below.refl _ W).alloc (Nat.le_refl _) _).drew
  have lB : Bx < W.heap.size := World.block_lt_of_cell? W _ cx
  have lo : bo < W.heap.size := World.block_lt_of_cell? W _ cb
  have hS2 : W2.cell? ⟨Bx, 0, none⟩ = some (.string x) := (hb2.cell (p := ⟨Bx, 0, none⟩) lB).trans cx
  have cb2 : W2.cell? ⟨bo, k, none⟩ = some hl := (hb2.cell (p := ⟨bo, k, none⟩) lo).trans cb
  have fb2 : W2.frozen? ⟨bo, k, none⟩ = false := (hb2.frozen (p := ⟨bo, k, none⟩) lo).trans fb
  have hr2 : W2.ownsRow m 58 2 hl cur.length (cellsF cur) := row_of hr fun q _ _ hq hc => hb2.block q (Array.getElem?_eq_some_iff.1 hc).1
  have hs2 : W2.heap.size = W.heap.size + 1 := by rw [← hW2]; simp [World.drew]
  have hc0 : W2.cell? ⟨W.heap.size, 0, none⟩ = some (.int .u8 (x[1].toNat : Nat)) := by rw [← hW2]; simp
  have hc1 : W2.cell? ⟨W.heap.size, 1, none⟩ = some (.string (x.extract 3 x.size)) := by rw [← hW2]; simp
  suffices tail : wpAnyH Tryd.prog Region.Mode.any _ Q (fun V => V.cell? ⟨Bx, 0, none⟩ = some (.string x)) 3 #[true, true, true, true, true, true, true, true, true, true, false, false, false] { tmps := #[v0, v1, v2, v3, v4, v5, .pointer (some ⟨Bx, 0, none⟩), .pointer (some ⟨bo, k, none⟩), v8, v9, v10, v11, v12, v13, v14, v15, v16, v17, v18, v19, v20, v21, v22, v23, v24, v25, v26, v27, v28, v29, v30, v31, v32, v33, v34, v35, v36, v37, v38, v39, v40, v41, v42, v43, v44, v45, v46, v47, v48, v49, v50, v51, v52, v53, v54, v55, v56, v57, v58, v59, v60, v61, v62, v63, v64, v65, v66, v67, v68, v69, v70, .pointer (some ⟨bo, k, none⟩), .pointer (some ⟨bo, k, none⟩), .pointer (some ⟨bo, k, none⟩), hl, .string x, .int .u8 (x[1].toNat : Nat), .string x, .string (x.extract 3 x.size), .agg #[.int .u8 (x[1].toNat : Nat), .string (x.extract 3 x.size)], .slice (some ⟨W.heap.size, 0, none⟩) 1 1, v81, v82, v83, v84, v85, v86, v87, v88, v89], defers := [] } W2 by
    show wpAnyH Tryd.prog Region.Mode.any _ Q _ 13 #[false, false, false, false, false, false, false, false, false, false, false, false, false] _ _
    refine wpAnyH_take (i := 0) (v := ?v0) rfl (by kernel_rfl) (by kernel_rfl) (by kernel_rfl) (fun c a w hq => (hp c _ _ hq).elim) (Or.inl ⟨by rfl, ?hy0⟩) hHeld ?rest0
    case hy0 =>
      intro w' hSw
      first | (go_simp; done) | (go_simp; with_reducible rfl)
    simp only [Act.put, List.setIfInBounds_toArray, List.set_cons_zero, List.set_cons_succ, List.getElem_toArray, List.getElem_cons_zero, List.getElem_cons_succ]
    refine wpAnyH_take (i := 1) (v := ?v1) rfl (by kernel_rfl) (by kernel_rfl) (by kernel_rfl) (fun c a w hq => (hp c _ _ hq).elim) (Or.inl ⟨by rfl, ?hy1⟩) hHeld ?rest1
    case hy1 =>
      intro w' hSw
      first | (go_simp; done) | (go_simp; with_reducible rfl)
    simp only [Act.put, List.setIfInBounds_toArray, List.set_cons_zero, List.set_cons_succ, List.getElem_toArray, List.getElem_cons_zero, List.getElem_cons_succ]
    refine wpAnyH_take (i := 2) (v := ?v2) rfl (by kernel_rfl) (by kernel_rfl) (by kernel_rfl) (fun c a w hq => (hp c _ _ hq).elim) (Or.inl ⟨by rfl, ?hy2⟩) hHeld ?rest2
    case hy2 =>
      intro w' hSw
      first | (go_simp; done) | (go_simp; with_reducible rfl)
    simp only [Act.put, List.setIfInBounds_toArray, List.set_cons_zero, List.set_cons_succ, List.getElem_toArray, List.getElem_cons_zero, List.getElem_cons_succ]
    refine wpAnyH_take (i := 4) (v := ?v4) rfl (by kernel_rfl) (by kernel_rfl) (by kernel_rfl) (fun c a w hq => (hp c _ _ hq).elim) (Or.inl ⟨by rfl, ?hy4⟩) hHeld ?rest4
    case hy4 =>
      intro w' hSw
      first | (go_simp; done) | (go_simp; with_reducible rfl)
    simp only [Act.put, List.setIfInBounds_toArray, List.set_cons_zero, List.set_cons_succ, List.getElem_toArray, List.getElem_cons_zero, List.getElem_cons_succ]
    refine wpAnyH_take (i := 5) (v := ?v5) rfl (by kernel_rfl) (by kernel_rfl) (by kernel_rfl) (fun c a w hq => (hp c _ _ hq).elim) (Or.inl ⟨by rfl, ?hy5⟩) hHeld ?rest5
    case hy5 =>
      intro w' hSw
      first | (go_simp; done) | (go_simp; with_reducible rfl)
    simp only [Act.put, List.setIfInBounds_toArray, List.set_cons_zero, List.set_cons_succ, List.getElem_toArray, List.getElem_cons_zero, List.getElem_cons_succ]
    refine wpAnyH_take (i := 6) (v := ?v6) rfl (by kernel_rfl) (by kernel_rfl) (by kernel_rfl) (fun c a w hq => (hp c _ _ hq).elim) (Or.inl ⟨by rfl, ?hy6⟩) hHeld ?rest6
    case hy6 =>
      intro w' hSw
      first | (go_simp; done) | (go_simp; with_reducible rfl)
    simp only [Act.put, List.setIfInBounds_toArray, List.set_cons_zero, List.set_cons_succ, List.getElem_toArray, List.getElem_cons_zero, List.getElem_cons_succ]
    refine wpAnyH_take (i := 7) (v := ?v7) rfl (by kernel_rfl) (by kernel_rfl) (by kernel_rfl) (fun c a w hq => (hp c _ _ hq).elim) (Or.inl ⟨by rfl, ?hy7⟩) hHeld ?rest7
    case hy7 =>
      intro w' hSw
      first | (go_simp; done) | (go_simp; with_reducible rfl)
    simp only [Act.put, List.setIfInBounds_toArray, List.set_cons_zero, List.set_cons_succ, List.getElem_toArray, List.getElem_cons_zero, List.getElem_cons_succ]
    refine wpAnyH_take (i := 8) (v := ?v8) rfl (by kernel_rfl) (by kernel_rfl) (by kernel_rfl) (fun c a w hq => (hp c _ _ hq).elim) (Or.inl ⟨by rfl, ?hy8⟩) hHeld ?rest8
    case hy8 =>
      intro w' hSw
      first | (go_simp; done) | (go_simp; with_reducible rfl)
    simp only [Act.put, List.setIfInBounds_toArray, List.set_cons_zero, List.set_cons_succ, List.getElem_toArray, List.getElem_cons_zero, List.getElem_cons_succ]

    refine wpAnyH_ready (rs := [3, 9]) (by kernel_rfl) (by simp) (AllReadyH.cons rfl (fun K hK => ?b3) (AllReadyH.cons rfl (fun K hK => ?b9) AllReadyH.nil))
    case b3 =>
      go_simp
      refine hK.out _ _ hHeld (fun _ => ?_)
      clear hK K
      refine wpAnyH_ready (rs := [9]) (by kernel_rfl) (by simp) (AllReadyH.cons rfl (fun K hK => ?_) AllReadyH.nil)
      go_simp
      try simp only [hW2]
      exact hK.out _ _ hS2 (fun _ => tail)
    case b9 =>
      go_simp
      try simp only [hW2]
      refine hK.out _ _ hS2 (fun _ => ?_)
      clear hK K
      refine wpAnyH_ready (rs := [3]) (by kernel_rfl) (by simp) (AllReadyH.cons rfl (fun K hK => ?_) AllReadyH.nil)
      go_simp
      exact hK.out _ _ hS2 (fun _ => tail)
  clear cx cb fb hHeld
  obtain ⟨i0, hi, hz0, hz1, hz2⟩ := info_parts info58
  obtain ⟨u1, w1, hrun, hown, hg, _, _⟩ := run_append_own_at (P := Tryd.prog) (w := W2) m 42 42 58 i0 (.agg #[.int .u8 0, .string ⟨#[]⟩]) 2 24 Tryd.underlying42 hi hz0 hz1 hz2 rfl (by decide) hl cur.length (cellsF cur) hr2 ⟨W.heap.size, 0, none⟩ 1 1 [.int .u8 (x[1].toNat : Nat), .string (x.extract 3 x.size)] rfl
    (fun j u hj => by
      rcases j with _ | _ | j
      · simp at hj; subst hj; exact hc0
      · simp at hj; subst hj; exact hc1
      · simp at hj) (by simp [Value.oneCell']) (by unfold maxLen; omega) (by omega) (by omega)
  have hS1 : w1.cell? ⟨Bx, 0, none⟩ = some (.string x) := (World.cell?_of_block (w := W2) (hg.block Bx (by omega) hox)).trans hS2
  have cb1 : w1.cell? ⟨bo, k, none⟩ = some hl := (World.cell?_of_block (w := W2) (hg.block bo (by omega) hob)).trans cb2
  have fb1 : w1.frozen? ⟨bo, k, none⟩ = false := (World.frozen?_of_block (w := W2) (hg.block bo (by omega) hob)).trans fb2
  obtain ⟨g1, cp1, rfl⟩ := ownsRow_succ hown
  refine wpAnyH_ready (rs := [10]) (by kernel_rfl) (by simp) (AllReadyH.cons rfl (fun K hK => ?_) AllReadyH.nil)
  rw [if_pos (by rfl)]
  unfold Oper.wp
  simp only [List.setIfInBounds_toArray, List.set_cons_zero, List.set_cons_succ, List.getElem_toArray, List.getElem_cons_zero, List.getElem_cons_succ] at hK ⊢
  simp [execOp, resolve, invoke, builtin, hrun, Result.andThen, Act.eval]
  refine hK.out _ _ hS1 (fun hHeld => ?_)
  clear hK K
  refine wpAnyH_take (i := 11) (v := ?v11) rfl (by kernel_rfl) (by kernel_rfl) (by kernel_rfl) (fun c a w hq => (hp c _ _ hq).elim) (Or.inl ⟨by rfl, ?hy11⟩) hHeld ?rest11
  case hy11 =>
    intro w' hSw
    first | (go_simp; done) | (go_simp; with_reducible rfl)
  simp only [Act.put, List.setIfInBounds_toArray, List.set_cons_zero, List.set_cons_succ, List.getElem_toArray, List.getElem_cons_zero, List.getElem_cons_succ]

  refine wpAnyH_ready (rs := [12]) (by kernel_rfl) (by simp) (AllReadyH.cons rfl (fun K hK => ?_) AllReadyH.nil)
  go_simp
  refine hK.out _ _ ?_ (fun _ => wpAnyH_done (by kernel_rfl) ?_ _)
  · rw [World.cell?_setCell_far _ _ _ _ (show bo ≠ Bx by omega)]
    exact hS1
  · exact hN _ _ _ (by rw [cellsF_snoc]; exact hown) hg
end Go.Proofs.YtmoloaneidledaaDoor

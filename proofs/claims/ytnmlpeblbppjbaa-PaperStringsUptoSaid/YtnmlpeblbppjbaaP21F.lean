/- Walks of layer 21: paper.Strings. -/
import Derived.Test.YtnmlpeblbppjbaaP21E
import Derived.Test.YtnmlpeblbppjbaaAids
set_option linter.unusedVariables false
set_option linter.unusedSimpArgs false
namespace Go.Proofs.Ytnmlpeblbppjbaa
open Go.RowKit Go.Opens Go.Lib Go.Aids Go.MapLit Go.Proofs.YtnmlpeblbppjbaaW.PrintWords

theorem info9 : (Try.prog.info? 9).map (fun i => (i.zero, i.size, i.bytes)) = some (some (.string ⟨#[]⟩), 1, 16) := by kernel_rfl
theorem zero9 (w : World) : (zeroValue 9).run Try.prog w = .ok (.string ⟨#[]⟩) w := by kernel_rfl
abbrev strs (l : List ByteArray) : List Value := l.map Value.string

/-- What the first loop holds: the map, and the names in their order. -/
structure Half (w W : World) (g : Nat) (v : Value) (M : List Lab) : Prop where
  below : Below g w W
  map : MapIs Value.string Value.string W g M
  own : W.ownsRow (g + 1) 9 1 v M.length (strs (M.map (·.1)))
  top : g + 1 ≤ W.heap.size
theorem Half.alloc {w W : World} {g : Nat} {v : Value} {M : List Lab} (h : Half w W g v M) (o : Obj) : Half w (W.alloc o) g v M :=
  ⟨h.below.alloc (by have := h.top; omega) o, (Lib.alloc_old W o g (by have := h.top; omega)).trans h.map, h.own.alloc o, by have := h.top; simp; omega⟩
theorem Half.step {w W W1 : World} {g : Nat} {v : Value} {M : List Lab} (h : Half w W g v M) (hb : Below W.heap.size W W1) : Half w W1 g v M :=
  ⟨h.below.trans (hb.mono (by have := h.top; omega)), (hb.block g (by have := h.top; omega)).trans h.map, own_move h.own fun k hk => hb.block k (own_lt h.own k hk), by have := h.top; have := hb.size; omega⟩
/-- The key is there: its value is laid anew. -/
theorem Half.put {w W : World} {g : Nat} {v : Value} {M : List Lab} (h : Half w W g v M) (k x : ByteArray) (hf : find M k ≠ none) : Half w (laid Value.string Value.string W g (upd M k x)) g v (upd M k x) := by
  have hk := keys_upd k x M
  rw [if_neg hf] at hk
  have hl : (upd M k x).length = M.length := by
    have := congrArg List.length hk
    simpa using this
  refine ⟨laid_below _ _ h.below (Nat.le_refl _) _, h.map.laid _ _ _, ?_, ?_⟩
  · rw [hk, hl]
    exact own_move h.own fun k hk => laid_other _ _ _ _ _ _ (by have := own_base h.own k hk; omega)
  · show _ ≤ (W.heap.setIfInBounds g _).size
    rw [Array.size_setIfInBounds]; exact h.top
/-- A new key: its name stands behind the names, its value in the map. -/
theorem Half.new {w W W1 : World} {g : Nat} {v v1 : Value} {M : List Lab} (h : Half w W g v M) (k x : ByteArray) (hf : find M k = none) (ho : W1.ownsRow (g + 1) 9 1 v1 (M.length + 1) (strs (M.map (·.1)) ++ [.string k])) (hb : Below (g + 1) W W1) :
    Half w (laid Value.string Value.string W1 g (upd M k x)) g v1 (upd M k x) := by
  have hm : MapIs Value.string Value.string W1 g M := (hb.block g (by omega)).trans h.map
  have hk := keys_upd k x M
  rw [if_pos hf] at hk
  have hl : (upd M k x).length = M.length + 1 := by
    have := congrArg List.length hk
    simpa using this
  refine ⟨laid_below _ _ (h.below.trans (hb.mono (by omega))) (Nat.le_refl _) _, hm.laid _ _ _, ?_, ?_⟩
  · rw [hk, hl, strs, List.map_append]
    exact own_move ho fun k hk => laid_other _ _ _ _ _ _ (by have := own_base ho k hk; omega)
  · show _ ≤ (W1.heap.setIfInBounds g _).size
    rw [Array.size_setIfInBounds]; have := h.top; have := hb.size; omega
theorem upd_len (M : List Lab) (k x : ByteArray) : (upd M k x).length ≤ M.length + 1 := by
  have hk := keys_upd k x M
  have := congrArg List.length hk
  rw [List.length_map] at this
  rw [this]
  split <;> simp
theorem mapM_len (L : List Lab) : (mapM L).length ≤ L.length := by
  refine snoc_ind (p := fun L => (mapM L).length ≤ L.length) (Nat.le_refl _) (fun L x ih => ?_) L
  rw [mapM_snoc, List.length_append]
  have := upd_len (mapM L) x.1 x.2
  simp only [List.length_cons, List.length_nil]
  omega

/-- A name's line, as the map has it. -/
def lineF (L : List Lab) (n : ByteArray) : ByteArray := lineS n ((find (mapM L) n).getD ⟨#[]⟩)
def keysM (L : List Lab) : List ByteArray := (mapM L).map (·.1)
theorem text_keys (L : List Lab) : joinS ((keysM L).map (lineF L)) = textP L := by
  rw [← textR_all]
  unfold textR keysM
  rw [List.take_length]
  congr 1
  apply List.map_congr_left
  intro n _
  show lineS n ((find (mapM L) n).getD ⟨#[]⟩) = _
  rw [find_mapM]
  rfl
theorem key_low (L : List Lab) (hL : Low L) : ∀ n ∈ keysM L, n.size ≤ 1048576 := by
  refine snoc_ind (p := fun L => Low L → ∀ n ∈ keysM L, n.size ≤ 1048576) (fun _ n h => by cases h) (fun L x ih hL n h => ?_) L hL
  have h1 : Low L := fun p hp => hL p (by simp [hp])
  unfold keysM at h
  rw [mapM_snoc, keys_upd] at h
  split at h
  · rw [List.mem_append] at h
    rcases h with h | h
    · exact ih h1 n h
    · rw [List.mem_singleton] at h
      subst h
      exact (hL x (by simp)).1
  · exact ih h1 n h
theorem val_low (L : List Lab) (hL : Low L) (n : ByteArray) : ((find (mapM L) n).getD ⟨#[]⟩).size ≤ 1048576 := by
  rw [find_mapM]
  cases h : lastO L n with
  | none => exact Nat.zero_le _
  | some v =>
    obtain ⟨p, hp, rfl⟩ := lastO_mem L n v h
    exact (hL p hp).2
theorem join_bound (f : ByteArray → ByteArray) (B : Nat) : ∀ l : List ByteArray, (∀ n ∈ l, (f n).size ≤ B) → (joinS (l.map f)).size ≤ l.length * B := by
  intro l
  refine snoc_ind (p := fun l => (∀ n ∈ l, (f n).size ≤ B) → (joinS (l.map f)).size ≤ l.length * B) (fun _ => Nat.zero_le _) (fun l x ih h => ?_) l
  rw [List.map_append, List.map_cons, List.map_nil, joinS_snoc, ByteArray.size_append, List.length_append, Nat.add_mul]
  have h1 := ih (fun n hn => h n (by simp [hn]))
  have h2 := h x (by simp)
  show _ ≤ l.length * B + 1 * B
  omega
theorem text_bound (L : List Lab) (hL : Low L) (hn : L.length ≤ 1000) (j : Nat) : (joinS (((keysM L).take j).map (lineF L))).size ≤ 2100000000 := by
  have h1 := join_bound (lineF L) 2100000 ((keysM L).take j) (fun n hn => by
    have a := key_low L hL n (List.mem_of_mem_take hn)
    have b := val_low L hL n
    unfold lineF
    rw [lineS_size]
    omega)
  have h2 : ((keysM L).take j).length ≤ 1000 := by
    rw [List.length_take]
    have := mapM_len L
    have : (keysM L).length = (mapM L).length := by simp [keysM]
    omega
  have h3 := Nat.mul_le_mul_right 2100000 h2
  omega

set_option maxRecDepth 100000 in
set_option maxHeartbeats 4000000 in
theorem pstrings_calls (A : Option Addr) (c : Nat) (L : List Lab) (hn : L.length ≤ 1000) (hL : Low L) (w : World) (hC : kLab.C w A L.length L) :
    Calls Try.prog 5 #[.slice A L.length c] w fun e w' => e = .returned (.tuple #[.string (textO L).1, .int .i64 (textO L).2]) ∧ Below w.heap.size w w' := by
  have HC := Lib.hid hC
  have HL := Lib.hid hL
  clear hC hL
  have hmm := @run_makeMap Try.prog
  go_enter Try.func5, Try.ntmps5
  go_wp2_with fail
  obtain ⟨g, hg⟩ : ∃ g, w.heap.size = g := ⟨_, rfl⟩
  obtain ⟨W0, hW0⟩ : ∃ W, w.alloc (.map #[] 0) = W := ⟨_, rfl⟩
  have H0 : Hid (Half w W0 g (.slice none 0 0) []) := Lib.hid (by
    rw [← hW0, ← hg]
    exact ⟨(Below.refl _ _).alloc (Nat.le_refl _) _, heap_alloc_new w _, own_nil _ _ _ _, by simp⟩)
  have HG := Lib.hid hg
  rw [hW0, hg]
  clear hW0 hg
  go_loopg [4, 16] L.length (fun gk s4 s16 wx => ∃ i : Nat, i + gk = L.length ∧ s16 = .int .i64 i ∧ Hid (Half w wx g s4 (mapM (L.take i))) ∧ Hid ((L.take i).all (fun p => fitsB p.1 p.2) = true))
  case atStart => exact ⟨0, by omega, rfl, H0, Lib.hid rfl⟩
  case round =>
    obtain ⟨i, hi, rfl, H, HF⟩ := hrel
    by_cases hlt : i < L.length
    · have i0 : (i : Int) < L.length := by omega
      obtain ⟨b, off, rfl, hbl, hcell⟩ := labs_at (C_row HC.out (HG.out.symm ▸ H.out.below)) (by omega)
      obtain ⟨c0, c1⟩ := hcell i hlt
      have hm := List.getElem_mem hlt
      have hs1 := (HL.out _ hm).1
      have hs2 := (HL.out _ hm).2
      have htk : L.take (i + 1) = L.take i ++ [L[i]] := by rw [List.take_succ_eq_append_getElem hlt]
      obtain ⟨nm, hnm⟩ : ∃ nm, L[i].1 = nm := ⟨_, rfl⟩
      obtain ⟨vl, hvl⟩ : ∃ nm, L[i].2 = nm := ⟨_, rfl⟩
      rw [hnm] at c0 hs1
      rw [hvl] at c1 hs2
      have HT : Hid (L.take (i + 1) = L.take i ++ [(nm, vl)]) := Lib.hid (by rw [htk, ← hnm, ← hvl])
      have HM : Hid ((nm, vl) ∈ L) := Lib.hid (by rw [← hnm, ← hvl]; exact hm)
      clear hnm hvl htk hcell hm
      go_wp2_with fail
      obtain ⟨x, hx⟩ : ∃ x, wr.heap.size = x := ⟨_, rfl⟩
      obtain ⟨W1, hW1⟩ : ∃ W, wr.alloc (.cells #[.string nm, .string vl] 28) = W := ⟨_, rfl⟩
      have k0 : W1.cell? ⟨x, 0, none⟩ = some (.string nm) := by rw [← hW1, ← hx]; simp
      have k1 : W1.cell? ⟨x, 1, none⟩ = some (.string vl) := by rw [← hW1, ← hx]; simp
      have xl : x < W1.heap.size := by rw [← hW1, ← hx]; simp
      have hxb : W1.heap[x]? = some (.cells #[.string nm, .string vl] 28 (0, 0)) := by rw [← hW1, ← hx]; exact heap_alloc_new wr _
      have H1 := H.out.alloc (.cells #[.string nm, .string vl] 28)
      rw [hW1] at H1 ⊢
      rw [hx]
      clear hW1 hx c0 c1 hbl
      refine (fits_calls nm vl W1 (by omega) (by omega)).mono ?_
      rintro e w2 ⟨rfl, hb2⟩
      have k20 := (hb2.cell xl).trans k0
      have k21 := (hb2.cell xl).trans k1
      have xl2 : x < w2.heap.size := Nat.lt_of_lt_of_le xl hb2.size
      have HX2 := Lib.hid ((hb2.block x xl).trans hxb)
      have H2 := Lib.hid (H1.step hb2)
      clear H1 hb2 k0 k1 xl hxb
      obtain ⟨F, hF⟩ : ∃ F, fitsB nm vl = F := ⟨_, rfl⟩
      have HFF := Lib.hid hF
      rw [hF]
      clear hF
      cases F
      · go_wp2_with fail
        go_ret2
        have hall : (L.all fun p => fitsB p.1 p.2) = false := by
          rw [Bool.eq_false_iff]
          intro h
          rw [List.all_eq_true] at h
          have := h _ HM.out
          rw [HFF.out] at this
          cases this
        refine ⟨?_, HG.out.symm ▸ H2.out.below⟩
        unfold textO
        rw [if_neg (by rw [hall]; decide)]
        rfl
      · obtain ⟨M, hM⟩ : ∃ M, mapM (L.take i) = M := ⟨_, rfl⟩
        rw [hM] at H2
        have HMM : Hid (mapM (L.take (i + 1)) = upd M nm vl) := Lib.hid (by rw [HT.out, mapM_snoc, hM])
        have HF2 : Hid ((L.take (i + 1)).all (fun p => fitsB p.1 p.2) = true) := Lib.hid (by rw [HT.out, List.all_append, HF.out]; simp [HFF.out])
        have hlk : (Instr.lookup 37 (.map (some g)) (.string nm) true).run Try.prog w2 = .ok (.tuple #[((find M nm).map Value.string).getD (.string ⟨#[]⟩), .bool (find M nm).isSome]) w2 := run_lookup Value.string Value.string keyS Try.underlying37 zero9 M nm (w := w2) (b := g) H2.out.map true
        have hMl : M.length ≤ 1000 := by rw [← hM]; have := mapM_len (L.take i); rw [List.length_take] at this; omega
        clear hM H HF
        rcases hfd : find M nm with _ | old
        · have hlk2 : (Instr.lookup 37 (.map (some g)) (.string nm) true).run Try.prog w2 = .ok (.tuple #[.string ⟨#[]⟩, .bool false]) w2 := by rw [hlk, hfd]; rfl
          have HFD := Lib.hid hfd
          clear hlk hfd
          obtain ⟨g', rfl⟩ : ∃ g', gk = g' + 1 := ⟨gk - 1, by omega⟩
          go_wp2_with (at_builtin; refine append_cells (w0 := w2) (g + 1) rfl _ _ 25 9 (.string ⟨#[]⟩) 1 16 w2.heap.size rfl Try.underlying25 info9 rfl (by decide) (by decide) u4 M.length (strs (M.map (·.1))) [.string nm] rfl rfl rfl rfl (by simp [Value.oneCell']) H2.out.own (Below.refl _ _) H2.out.top (by omega) ?_; intro v1 w3 hown1 hb1 hg1 hat1; have HX3 := (hg1.block x xl2 (own_ne H2.out.own HX2.out (by decide))).trans HX2.out; have k30 : w3.cell? ⟨x, 0, none⟩ = some (.string nm) := (by rw [Lib.cell_of_heap HX3]; rfl); have k31 : w3.cell? ⟨x, 1, none⟩ = some (.string vl) := (by rw [Lib.cell_of_heap HX3]; rfl); have H3 := Lib.hid (H2.out.new nm vl HFD.out hown1 hb1); have hm3 : MapIs Value.string Value.string w3 g M := (hb1.block g (by omega)).trans H2.out.map; have hup : (Instr.mapUpdate 37 (.map (some g)) (.string nm) (.string vl)).run Try.prog w3 = .ok () (laid Value.string Value.string w3 g (upd M nm vl)) := run_put Value.string Value.string keyS Try.underlying37 M nm vl hm3; clear hg1 hat1 hm3 HX3 hown1 hb1)
          go_roundg g'
          case measure => omega
          case rel => exact ⟨i + 1, by omega, by go_num, Lib.hid (by rw [HMM.out]; exact H3.out), HF2⟩
        · have hlk2 : (Instr.lookup 37 (.map (some g)) (.string nm) true).run Try.prog w2 = .ok (.tuple #[.string old, .bool true]) w2 := by rw [hlk, hfd]; rfl
          have HFD : Hid (find M nm ≠ none) := Lib.hid (by rw [hfd]; intro h; cases h)
          have hup : (Instr.mapUpdate 37 (.map (some g)) (.string nm) (.string vl)).run Try.prog w2 = .ok () (laid Value.string Value.string w2 g (upd M nm vl)) := run_put Value.string Value.string keyS Try.underlying37 M nm vl H2.out.map
          clear hlk hfd
          obtain ⟨g', rfl⟩ : ∃ g', gk = g' + 1 := ⟨gk - 1, by omega⟩
          go_wp2_with fail
          go_roundg g'
          case measure => omega
          case rel => exact ⟨i + 1, by omega, by go_num, Lib.hid (by rw [HMM.out]; exact H2.out.put nm vl HFD.out), HF2⟩
    · have hi2 : i = L.length := by omega
      have htk : L.take i = L := by rw [hi2, List.take_length]
      have i0 : ¬ ((i : Int) < L.length) := by omega
      rw [htk] at H HF
      have HO : Hid (textO L = (textP L, 0)) := Lib.hid (by unfold textO; rw [if_pos HF.out])
      obtain ⟨A1, n1, rfl⟩ := own_slice H.out.own
      clear hi2 htk
      go_wp2_with fail
      obtain ⟨q, hq⟩ : ∃ q, wr.heap.size = q := ⟨_, rfl⟩
      obtain ⟨W5, hW5⟩ : ∃ W, wr.alloc (.cells #[.pointer none, .slice none 0 0] 43) = W := ⟨_, rfl⟩
      have H5 := H.out.alloc (.cells #[.pointer none, .slice none 0 0] 43)
      have I5 := fresh_isBuilder 43 5 wr
      rw [hW5] at H5 I5 ⊢
      rw [hq] at I5 ⊢
      have ql : q < W5.heap.size := by rw [← hW5, ← hq]; simp
      have HQ : Hid (g + 1 ≤ q) := Lib.hid (by rw [← hq]; exact H.out.top)
      have HQ2 : Hid (∀ k, (Value.slice A1 (mapM L).length n1).ownBlock = some k → k < q) := Lib.hid (by rw [← hq]; exact fun k hk => own_lt H.out.own k hk)
      have HK := Lib.hid H5
      have HJ := Lib.hid I5
      clear hW5 hq H5 I5 H
      have hkl : (keysM L).length = (mapM L).length := by simp [keysM]
      have hml := mapM_len L
      obtain ⟨N, hN⟩ : ∃ N, (mapM L).length = N := ⟨_, rfl⟩
      rw [hN] at HK HQ2 hkl hml
      simp only [hN]
      have HN := Lib.hid hN
      clear hN
      go_loopg [45] N (fun gk s45 wx => ∃ j : Nat, j + gk = N ∧ s45 = .int .i64 j ∧ Hid (Lib.IsBuilder 43 5 q q (Lib.byteCells (joinS (((keysM L).take j).map (lineF L))).data.toList) wx) ∧ Hid (Below q W5 wx))
      case atStart => exact ⟨0, by omega, rfl, HJ, Lib.hid (Below.refl _ _)⟩
      case round =>
        obtain ⟨j, hj, rfl, J, B⟩ := hrel
        by_cases hjl : j < N
        · have j0 : (j : Int) < N := by omega
          have own' : W5.ownsRow (g + 1) 9 1 (.slice A1 N n1) N (strs (keysM L)) := by
            have := HK.out.own
            rw [HN.out] at this
            exact this
          obtain ⟨p, cap, hv, hp1, hp2⟩ := own'.form (by omega)
          injection hv with hv1 hv2 hv3
          subst hv1 hv3
          have hpq : p < q := HQ2.out p rfl
          have hjk : j < (keysM L).length := by omega
          obtain ⟨nm, hnm⟩ : ∃ nm, (keysM L)[j] = nm := ⟨_, rfl⟩
          obtain ⟨vl, hvl⟩ : ∃ vl, (find (mapM L) nm).getD ⟨#[]⟩ = vl := ⟨_, rfl⟩
          have cn : wr.cell? ⟨p, j, none⟩ = some (.string nm) := by
            refine (B.out.cell (p := ⟨p, j, none⟩) hpq).trans ?_
            refine (own'.cellAt j (by omega)).trans ?_
            show (strs (keysM L))[j]? = _
            rw [List.getElem?_map, List.getElem?_eq_getElem hjk, hnm]
            rfl
          have hlk : (Instr.lookup 37 (.map (some g)) (.string nm) false).run Try.prog wr = .ok (.string vl) wr := by
            rw [run_lookup Value.string Value.string keyS Try.underlying37 zero9 (mapM L) nm (w := wr) (b := g) ((B.out.block g (by have := HQ.out; omega)).trans HK.out.map) false, ← hvl]
            cases find (mapM L) nm <;> rfl
          have hs1 : nm.size ≤ 1048576 := by rw [← hnm]; exact key_low L HL.out _ (List.getElem_mem hjk)
          have hs2 : vl.size ≤ 1048576 := by rw [← hvl]; exact val_low L HL.out nm
          have htk : (keysM L).take (j + 1) = (keysM L).take j ++ [nm] := by rw [List.take_succ_eq_append_getElem hjk, hnm]
          have hsum : Hid (joinS (((keysM L).take (j + 1)).map (lineF L)) = joinS (((keysM L).take j).map (lineF L)) ++ lineS nm vl) := Lib.hid (by
            rw [htk, List.map_append, List.map_cons, List.map_nil, joinS_snoc]
            unfold lineF
            rw [hvl])
          have hbd : Hid ((joinS (((keysM L).take j).map (lineF L))).size ≤ 2100000000) := Lib.hid (text_bound L HL.out hn j)
          clear hnm hvl htk hp1 hp2 hv2 hjk own'
          obtain ⟨T, hT⟩ : ∃ T, joinS (((keysM L).take j).map (lineF L)) = T := ⟨_, rfl⟩
          rw [hT] at hsum hbd J
          clear hT
          have n0 : 6 + nm.size ≤ 9223372036854775807 := by omega
          have n1 : 6 + nm.size + 1 ≤ 9223372036854775807 := by omega
          have n2 : 6 + nm.size + 1 + vl.size ≤ 9223372036854775807 := by omega
          have n3 : 6 + nm.size + 1 + vl.size + 1 ≤ 9223372036854775807 := by omega
          have d0 : decide (6 + nm.size ≤ 9223372036854775807) = true := decide_eq_true n0
          have d1 : decide (6 + nm.size + 1 ≤ 9223372036854775807) = true := decide_eq_true n1
          have d2 : decide (6 + nm.size + 1 + vl.size ≤ 9223372036854775807) = true := decide_eq_true n2
          have d3 : decide (6 + nm.size + 1 + vl.size + 1 ≤ 9223372036854775807) = true := decide_eq_true n3
          obtain ⟨g', rfl⟩ : ∃ g', gk = g' + 1 := ⟨gk - 1, by omega⟩
          have hq6 : q ≤ wr.heap.size := by have := B.out.size; omega
          have hls : Hid ((lineS nm vl).size ≤ 2100000) := Lib.hid (by rw [lineS_size]; omega)
          have HW := Lib.hid (writeString_calls q q (Lib.byteCells T.data.toList) (lineS nm vl) wr J.out (by rw [Lib.byteCells_length, Array.length_toList]; have := hbd.out; have := hls.out; show T.size + _ ≤ _; omega) hq6)
          go_wp2_with fail
          refine HW.out.mono ?_
          rintro e w6 ⟨rfl, h6, hb6⟩
          have J6 := Lib.hid h6
          have B6 := Lib.hid (B.out.trans hb6)
          clear h6 hb6
          go_wp2_with fail
          go_roundg g'
          case measure => omega
          case rel => exact ⟨j + 1, by omega, by go_num, Lib.hid (by
            rw [hsum.out, ByteArray.data_append, Array.toList_append, Lib.byteCells_append]
            exact Or.inr J6.out), B6⟩
        · have j0 : ¬ ((j : Int) < N) := by omega
          have htk : (keysM L).take j = keysM L := List.take_of_length_le (by omega)
          rw [htk, text_keys] at J
          have HS := Lib.hid (Try.Builder_String_any q q (textP L).data.toList wr J.out (by have := B.out.size; omega))
          clear htk
          go_wp2_with fail
          refine HS.out.mono ?_
          rintro e w6 ⟨rfl, hb6⟩
          have B6 := Lib.hid (B.out.trans hb6)
          clear hb6
          go_wp2_with fail
          go_ret2
          refine ⟨by rw [HO.out]; rfl, ?_⟩
          rw [HG.out]
          exact HK.out.below.trans (B6.out.mono (by have := HQ.out; omega))
end Go.Proofs.Ytnmlpeblbppjbaa

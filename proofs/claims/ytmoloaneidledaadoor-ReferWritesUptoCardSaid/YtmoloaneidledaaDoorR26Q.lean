/- What the law's helpers answer: as, Same, bits; the program's records as the reference's words read them. -/
import Derived.Test.YtmoloaneidledaaDoorR26P
import Derived.Test.YtmoloaneidledaaDoorR26C
import Derived.Test.YtmoloaneidledaaDoorPbitsx1
set_option linter.unusedVariables false
set_option linter.unusedSimpArgs false
namespace Go.Proofs.YtmoloaneidledaaDoor
open Go Go.Lib Go.RowKit Go.Proofs.YtmoloaneidledaaDoorW.PrintWords Go.Proofs.YtmoloaneidledaaDoor.Pdata

/-! as. -/
def need {α : Type} : List (List α) → Nat
  | [] => 1
  | r :: rs => r.length + 2 + need rs
theorem rdL3 (L : List (List Fld)) (a : Nat) (h : a < L.length) : rd_L3 (L.map (List.map c58)) (a : Int) = L[a].map c58 := by
  simp [rd_L3, h]
theorem rd58 (r : List Fld) (i : Nat) (h : i < r.length) : rd_T58 (r.map c58) (i : Int) = c58 r[i] := by
  simp [rd_T58, h]
theorem as_in (L : List (List Fld)) (hL : L.length ≤ 1000000) (a : Nat) (ha : a < L.length) (hr : L[a].length ≤ 1000000) (acc : List (List S69)) (hacc : acc.length ≤ 1000000) (k0 : Nat) :
    ∀ m j, L[a].length = j + m → frisketlaw26_as.l1 (k0 + m + 1) (L.map (List.map c58)) acc (a : Nat) ((L[a].take j).map c69) (j : Nat) = frisketlaw26_as.l0 k0 (L.map (List.map c58)) (acc ++ [L[a].map c69]) ((a + 1 : Nat) : Int)
  | 0, j, h => by
    have hml : (L.map (List.map c58)).length = L.length := List.length_map _
    have hm2 : (L[a].map c58).length = L[a].length := List.length_map _
    rw [Nat.add_zero, frisketlaw26_as.l1, if_pos (by omega), if_pos (by omega), rdL3 L a ha, if_neg (by omega), if_pos (by omega), wrapS a L.length ha (by omega), List.take_of_length_le (by omega)]
  | m + 1, j, h => by
    have hml : (L.map (List.map c58)).length = L.length := List.length_map _
    have hm2 : (L[a].map c58).length = L[a].length := List.length_map _
    have hm3 : ((L[a].take j).map c69).length = j := by rw [List.length_map, List.length_take]; omega
    have hj : j < L[a].length := by omega
    have ih := as_in L hL a ha hr acc hacc k0 m (j + 1) (by omega)
    rw [List.take_succ_eq_append_getElem hj, List.map_append] at ih
    rw [show k0 + (m + 1) + 1 = (k0 + m + 1) + 1 by omega, frisketlaw26_as.l1, if_pos (by omega), if_pos (by omega), rdL3 L a ha, if_pos (by omega), if_pos (by omega), if_pos (by omega), wrapS j L[a].length hj (by omega), rd58 _ j hj]
    exact ih
theorem as_l (L : List (List Fld)) (hL : L.length ≤ 1000000) (hR : ∀ r ∈ L, r.length ≤ 1000000) : ∀ m a (acc : List (List S69)) k, L.length = a + m → acc.length ≤ a → need (L.drop a) ≤ k → frisketlaw26_as.l0 k (L.map (List.map c58)) acc (a : Nat) = some (acc ++ (L.drop a).map (List.map c69))
  | 0, a, acc, k, h, ha, hk => by
    have hml : (L.map (List.map c58)).length = L.length := List.length_map _
    rw [List.drop_eq_nil_of_le (by omega)] at hk ⊢
    obtain ⟨k, rfl⟩ : ∃ q, k = q + 1 := ⟨k - 1, by simp [need] at hk; omega⟩
    rw [frisketlaw26_as.l0, if_neg (by omega)]; simp
  | m + 1, a, acc, k, h, ha, hk => by
    have hml : (L.map (List.map c58)).length = L.length := List.length_map _
    have hlt : a < L.length := by omega
    have hd : L.drop a = L[a] :: L.drop (a + 1) := List.drop_eq_getElem_cons hlt
    rw [hd] at hk ⊢
    simp only [need] at hk
    obtain ⟨k0, rfl⟩ : ∃ q, k = q + L[a].length + 1 + 1 := ⟨k - L[a].length - 2, by omega⟩
    have hin := as_in L hL a hlt (hR _ (List.getElem_mem hlt)) acc (by omega) k0 L[a].length 0 (by omega)
    rw [frisketlaw26_as.l0, if_pos (by omega)]
    rw [List.take_zero] at hin
    refine hin.trans ?_
    rw [as_l L hL hR m (a + 1) (acc ++ [L[a].map c69]) k0 (by omega) (by simp; omega) (by omega), List.append_assoc]
    rfl
theorem as_f (L : List (List Fld)) (hL : L.length ≤ 1000000) (hR : ∀ r ∈ L, r.length ≤ 1000000) : frisketlaw26_as.f (need L) (L.map (List.map c58)) = some (L.map (List.map c69)) := by
  have := as_l L hL hR L.length 0 [] (need L) (by omega) (Nat.le_refl _) (by rw [List.drop_zero]; exact Nat.le_refl _)
  rw [List.drop_zero, List.nil_append] at this
  exact this
/-! Same, of the same. -/
theorem rdL5 (L : List (List S69)) (a : Nat) (h : a < L.length) : rd_L5 L (a : Int) = L[a] := by
  simp [rd_L5, h]
theorem same_in (L : List (List S69)) (hL : L.length ≤ 1000000) (a : Nat) (ha : a < L.length) (hr : L[a].length ≤ 1000000) (k0 : Nat) :
    ∀ m j, L[a].length = j + m → frisketref26_Same.l1 (k0 + m + 1) L L (a : Nat) (j : Nat) = frisketref26_Same.l0 k0 L L ((a + 1 : Nat) : Int)
  | 0, j, h => by
    rw [Nat.add_zero, frisketref26_Same.l1, if_pos (by omega), if_pos (by omega), rdL5 L a ha, if_neg (by omega), wrapS a L.length ha (by omega)]
  | m + 1, j, h => by
    have hj : j < L[a].length := by omega
    have ih := same_in L hL a ha hr k0 m (j + 1) (by omega)
    rw [show k0 + (m + 1) + 1 = (k0 + m + 1) + 1 by omega, frisketref26_Same.l1, if_pos (by omega), if_pos (by omega), rdL5 L a ha, if_pos (by omega), if_pos (by omega), if_pos (by omega), if_pos (by omega), wrapS j L[a].length hj (by omega), if_neg (by simp)]
    exact ih
theorem same_l (L : List (List S69)) (hL : L.length ≤ 1000000) (hR : ∀ r ∈ L, r.length ≤ 1000000) : ∀ m a k, L.length = a + m → need (L.drop a) ≤ k → frisketref26_Same.l0 k L L (a : Nat) = some true
  | 0, a, k, h, hk => by
    rw [List.drop_eq_nil_of_le (by omega)] at hk
    obtain ⟨k, rfl⟩ : ∃ q, k = q + 1 := ⟨k - 1, by simp [need] at hk; omega⟩
    rw [frisketref26_Same.l0, if_neg (by omega)]
  | m + 1, a, k, h, hk => by
    have hlt : a < L.length := by omega
    have hd : L.drop a = L[a] :: L.drop (a + 1) := List.drop_eq_getElem_cons hlt
    rw [hd] at hk
    simp only [need] at hk
    obtain ⟨k0, rfl⟩ : ∃ q, k = q + L[a].length + 1 + 1 := ⟨k - L[a].length - 2, by omega⟩
    have hin := same_in L hL a hlt (hR _ (List.getElem_mem hlt)) k0 L[a].length 0 (by omega)
    rw [frisketref26_Same.l0, if_pos (by omega), if_pos (by omega), if_pos (by omega), if_pos rfl]
    refine hin.trans ?_
    exact same_l L hL hR m (a + 1) k0 (by omega) (by omega)
theorem same_f (L : List (List S69)) (hL : L.length ≤ 1000000) (hR : ∀ r ∈ L, r.length ≤ 1000000) : frisketref26_Same.f (need L) L L = some true := by
  unfold frisketref26_Same.f
  rw [if_pos rfl]
  exact same_l L hL hR L.length 0 (need L) (by omega) (by rw [List.drop_zero]; exact Nat.le_refl _)
/-! Bits. -/
theorem bits_step : ∃ L : List ByteArray, L.length = 24 ∧ (∀ x ∈ L, x.size ≤ 12) ∧ ∀ k x0 x3 x4, Pbits.frisketlaw26_bits.l0 (k + 1) x0 x3 x4 =
    if x4 < (x0.length : Int) then (if 0 ≤ x4 then (if (L.length : Int) = 0 then (none) else (if 0 ≤ (Int.tmod (wrap64 (rd x0 x4)) (L.length : Int)) then (if (Int.tmod (wrap64 (rd x0 x4)) (L.length : Int)) < (L.length : Int) then (if x3.size + (rdOf ByteArray.empty L (Int.tmod (wrap64 (rd x0 x4)) (L.length : Int))).size ≤ 9223372036854775807 then (Pbits.frisketlaw26_bits.l0 k x0 (x3 ++ (rdOf ByteArray.empty L (Int.tmod (wrap64 (rd x0 x4)) (L.length : Int)))) (wrap64 (x4 + 1))) else (none)) else (none)) else (none))) else (none)) else (some x3) := by
  refine ⟨_, ?_, ?_, fun k x0 x3 x4 => rfl⟩
  · rfl
  · decide +kernel
theorem bits_f (l : List Int) (hw : ∀ x ∈ l, 0 ≤ x ∧ x < 256) (hl : l.length ≤ 80) : ∀ f a t, l.length ≤ a + f → a ≤ l.length → t.size ≤ 12 * a → ∃ r, Pbits.frisketlaw26_bits.l0 (f + 1) l t (a : Nat) = some r ∧ r.size ≤ 960 := by
  obtain ⟨L, h1, h2, h3⟩ := bits_step
  intro f
  induction f with
  | zero =>
    intro a t g1 g2 g3
    rw [h3, if_neg (by omega)]
    exact ⟨t, rfl, by omega⟩
  | succ f ih =>
    intro a t g1 g2 g3
    rw [h3]
    by_cases hlt : a < l.length
    · obtain ⟨x0, x1⟩ := hw l[a] (List.getElem_mem hlt)
      have hrd : rd l (a : Int) = l[a] := by simp [rd, List.getD, hlt]
      have hwr : wrap64 l[a] = l[a] := wrapI _ (by omega) (by omega)
      rw [if_pos (by omega), if_pos (by omega), hrd, hwr, h1, if_neg (by decide)]
      have m0 := Int.tmod_nonneg ((24 : Nat) : Int) x0
      have m1 := Int.tmod_lt_of_pos l[a] (show (0 : Int) < ((24 : Nat) : Int) by decide)
      rw [if_pos m0, if_pos m1]
      obtain ⟨y, hy⟩ : ∃ y, rdOf ByteArray.empty L (Int.tmod l[a] ((24 : Nat) : Int)) = y := ⟨_, rfl⟩
      have hys : y.size ≤ 12 := by
        rw [← hy]
        unfold rdOf
        have : (Int.tmod l[a] ((24 : Nat) : Int)).toNat < L.length := by omega
        rw [List.getD, List.getElem?_eq_getElem this]
        exact h2 _ (List.getElem_mem this)
      rw [hy, if_pos (by omega), wrapS a l.length hlt (by omega)]
      exact ih (a + 1) (t ++ y) (by omega) (by omega) (by rw [ByteArray.size_append]; omega)
    · rw [if_neg (by omega)]
      exact ⟨t, rfl, by omega⟩
/-! The records in memory, as the printed words read them. -/
theorem row_C58 {W : World} {m : Nat} {hl : Value} {r : List Fld} (h : W.ownsRow m 58 2 hl r.length (cellsF r)) (hr : r.length ≤ 1000000000) : ∃ A c, hl = .slice A r.length c ∧ r.length ≤ c ∧ Kd.C k58 W A r.length (r.map c58) := by
  rcases h.2 with ⟨e, h0⟩ | ⟨g, cap, cur, e, h1, h2, h3, _⟩
  · exact ⟨none, 0, by rw [e, h0], by omega, by simp, by omega, fun q => by omega⟩
  · refine ⟨_, cap, e, h3, by simp, by omega, fun q => ⟨_, rfl, fun j p hj => ?_⟩⟩
    rw [List.getElem?_map] at hj
    obtain ⟨f, hf, rfl⟩ := Option.map_eq_some_iff.1 hj
    obtain ⟨hjl, rfl⟩ := List.getElem?_eq_some_iff.1 hf
    rw [e] at h
    have q0 := h.cellAt (j * 2) (by omega)
    have q1 := h.cellAt (j * 2 + 1) (by omega)
    rw [cellsF_0 r j hjl] at q0
    rw [cellsF_1 r j hjl] at q1
    refine ⟨_, rfl, k58_mk W (c58 r[j]), fun i u hi => ?_⟩
    rcases i with _ | _ | i
    · simp at hi
      subst hi
      have ea : ((⟨g, 0, none⟩ : Addr).add (j * 2 + 0)) = ⟨g, j * 2, none⟩ := by simp [Addr.add]; omega
      exact (congrArg W.cell? ea).trans q0
    · simp at hi
      subst hi
      have ea : ((⟨g, 0, none⟩ : Addr).add (j * 2 + (0 + 1))) = ⟨g, j * 2 + 1, none⟩ := by simp [Addr.add]
      exact (congrArg W.cell? ea).trans q1
    · simp at hi
theorem shape_C {W : World} {n₀ : Nat} {vo : Value} {d : List (List Fld)} (h : Shape n₀ W vo d []) (hd : d.length ≤ 1000000) (hr : ∀ r ∈ d, r.length ≤ 1000000000) : ∃ A c, vo = .slice A d.length c ∧ d.length ≤ c ∧ Kd.C (Kd.slice 58 k58) W A d.length (d.map (List.map c58)) := by
  obtain ⟨m, hs, h1, h2, h3, h4⟩ := h
  have h4 := (h4.resolve_right (fun q => q.1 rfl)).2
  have hl := h3.1
  rcases h4.2 with ⟨e, h0⟩ | ⟨g, cap, cur, e, q1, q2, q3, _⟩
  · have hz : d.length = 0 := by omega
    exact ⟨none, 0, by rw [e, hz], by omega, by simp, by omega, fun q => by omega⟩
  · refine ⟨_, cap, by rw [e, hl], by omega, by simp, by omega, fun q => ⟨_, rfl, fun j p hj => ?_⟩⟩
    rw [List.getElem?_map] at hj
    obtain ⟨r, hrr, rfl⟩ := Option.map_eq_some_iff.1 hj
    obtain ⟨hjl, rfl⟩ := List.getElem?_eq_some_iff.1 hrr
    rw [e] at h4
    have hjh : j < hs.length := by omega
    have q0 := h4.cellAt j (by omega)
    rw [List.getElem?_eq_getElem hjh] at q0
    obtain ⟨A, c, e1, e2, e3⟩ := row_C58 (h3.2 j hjh hjl).1 (hr _ (List.getElem_mem hjl))
    refine ⟨[hs[j]], rfl, ⟨A, c, by rw [e1]; simp, by simpa using e2, by simpa using e3⟩, fun i u hi => ?_⟩
    rcases i with _ | i
    · simp at hi
      subst hi
      have ea : ((⟨g, 0, none⟩ : Addr).add (j * (Kd.slice 58 k58).sz + 0)) = ⟨g, j, none⟩ := by simp [Addr.add, Kd.slice]; omega
      exact (congrArg W.cell? ea).trans q0
    · simp at hi
end Go.Proofs.YtmoloaneidledaaDoor

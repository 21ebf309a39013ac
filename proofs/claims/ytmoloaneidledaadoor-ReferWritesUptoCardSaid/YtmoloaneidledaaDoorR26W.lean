/- Walks: refer.Key, refer.Fits. -/
import Derived.OwnWalk
import Derived.Test.YtmoloaneidledaaDoorR26V
set_option linter.unusedVariables false
set_option linter.unusedSimpArgs false
namespace Go.Proofs.YtmoloaneidledaaDoor
open Go.Shelf Go.RowKit Go.Lib

def keyB (r : List Fld) : List ByteArray := r.flatMap fun f => wordsB f.t
theorem key_take (r : List Fld) (k : Nat) (h : k < r.length) : keyB (r.take (k + 1)) = keyB (r.take k) ++ wordsB r[k].t := by
  unfold keyB
  rw [List.take_succ_eq_append_getElem h, List.flatMap_append]
  simp
theorem key_le (r : List Fld) (k : Nat) : (keyB (r.take k)).length ≤ (keyB r).length := by
  have : keyB r = keyB (r.take k) ++ keyB (r.drop k) := by
    unfold keyB
    rw [← List.flatMap_append, List.take_append_drop]
  rw [this]; simp
theorem info9w : (Tryd.prog.info? 9).map (fun i => (i.zero, i.size, i.bytes)) = some (some (.string ⟨#[]⟩), 1, 16) := by kernel_rfl
set_option maxRecDepth 100000 in
set_option maxHeartbeats 2000000 in
theorem key_calls (A : Option Addr) (cap : Nat) (r : List Fld) (hr : r.length ≤ 1000) (ht : ∀ f ∈ r, f.t.size ≤ 1000000) (hk : (keyB r).length ≤ 1000000) (w : World) (hI : Flds w.heap.size w A r) :
    Calls Tryd.prog 16 #[.slice A r.length cap] w fun e w' => (∃ v, e = .returned v ∧ w'.ownsRow w.heap.size 9 1 v (keyB r).length ((keyB r).map Value.string)) ∧ Below w.heap.size w w' := by
  obtain ⟨i0, hi, hz0, hz1, hz2⟩ := info_parts info9w
  have HI := Lib.hid hI
  have HT := Lib.hid ht
  have HK := Lib.hid hk
  clear hI ht hk
  go_enter Tryd.func16, Tryd.ntmps16
  go_wp2
  go_loopw [3, 8] (fun o i wr => ∃ k : Nat, k ≤ r.length ∧ i = .int .i64 k ∧ Below w.heap.size w wr ∧ Hid (wr.ownsRow w.heap.size 9 1 o (keyB (r.take k)).length ((keyB (r.take k)).map Value.string))) (fun _ i _ => r.length - (RowKit.intOf i).toNat)
  case atStart => exact ⟨0, Nat.zero_le _, rfl, Below.refl _ _, Lib.hid (World.ownsRow_nil _ _ _ _)⟩
  case round =>
    obtain ⟨k, hk, rfl, hb, H⟩ := hrel
    by_cases hkl : k < r.length
    · obtain ⟨b, off, rfl, hbl, c0, c1⟩ := HI.out.below hb k hkl
      have hbr : b < wr.heap.size := by have := hb.size; omega
      have htk := HT.out r[k] (List.getElem_mem hkl)
      have hl1 := key_le r (k + 1)
      have hkk := HK.out
      have hrow := H.out
      have HKT := Lib.hid (key_take r k hkl)
      obtain ⟨f, hf⟩ : ∃ f, r[k] = f := ⟨_, rfl⟩
      rw [hf] at c0 c1 htk HKT
      clear hf H
      obtain ⟨ps, hps⟩ : ∃ ps, keyB (r.take k) = ps := ⟨_, rfl⟩
      rw [hps] at hrow HKT
      have hl2 : ps.length + (wordsB f.t).length ≤ 1000000 := by
        rw [HKT.out, List.length_append] at hl1
        omega
      have HW := Lib.hid (fun W => words_calls f.t htk W)
      have hbs := hb.size
      clear hl1 hkk hps
      go_wp2_with (first | (go_at_call 37; refine (HW.out _).mono ?_; rintro e w2 ⟨⟨A2, rfl, hA2, hr2⟩, b2⟩; have hrow2 := row_of (hrow.alloc (.cells #[.int .u8 f.c, .string f.t] 58)) (fun q _ _ _ hc => b2.block q (Array.getElem?_eq_some_iff.1 hc).1); have hs2 := b2.size; have hb2 : Below w.heap.size w w2 := (hb.alloc hbs _).trans (b2.mono (by simp; omega)); have hs3 : wr.heap.size + 1 ≤ w2.heap.size := (by simpa using hs2)) | (at_builtin; go_loud (refine wpList_append_own_at _ rfl _ _ 39 rfl w.heap.size 9 i0 (.string ⟨#[]⟩) 1 16 Tryd.underlying39 hi hz0 hz1 hz2 rfl (by decide) _ _ _ rfl hrow2 ⟨A2, 0, none⟩ (wordsB f.t).length (wordsB f.t).length ((wordsB f.t).map Value.string) rfl (by simp) (hr2.cells rfl) (by simp [Value.oneCell']) (by unfold maxLen; omega) (by omega) (by omega) ?_; intro v3 w3 hown3 hg3 _ _)))
      have hb3 : Below w.heap.size w w3 := hb2.grown hg3 (by omega) (fun q hq => (hrow2.lt q hq).1)
      go_roundw
      case rel => exact ⟨k + 1, by omega, by go_num, hb3, Lib.hid (by rw [HKT.out, List.length_append, List.map_append]; exact hown3)⟩
      case measure => simp [RowKit.intOf]; omega
    · obtain rfl : k = r.length := by omega
      have hrow := H.out
      rw [List.take_length] at hrow
      clear H
      go_wp2
      go_ret
      exact ⟨⟨_, rfl, hrow⟩, hb⟩
theorem row_form {W : World} {base : Nat} {e : TypeId} {size n : Nat} {v : Value} {xs : List Value} (h : W.ownsRow base e size v n xs) (hn : 0 < n) : ∃ g cap, v = .slice (some ⟨g, 0, none⟩) n cap := by
  rcases h.2 with ⟨_, h0⟩ | ⟨g, cap, cur, e, _⟩
  · omega
  · exact ⟨g, cap, e⟩
/-- The words of a query are all begun by words of the key. -/
def fitsB (r : List Fld) (q : ByteArray) : Bool := (wordsB q).all (fun x => (keyB r).any fun k => Lib.hasPrefix k.data.toList x.data.toList) && decide (0 < (wordsB q).length)
theorem pre_pred (x : ByteArray) (B : Nat) (w : World) (hB : w.cell? ⟨B, 0, none⟩ = some (.string x)) : PredAt Tryd.prog 40 #[.pointer (some ⟨B, 0, none⟩)] Value.string (fun k => Lib.hasPrefix k.data.toList x.data.toList) w := fun W k hW => by
  unfold FnGives
  have hlt : B < w.heap.size := World.block_lt_of_cell? w _ hB
  have hc := (hW.cell (p := ⟨B, 0, none⟩) hlt).trans hB
  have HP := Lib.hid (fun V => Tryd.strings_HasPrefix k x V)
  obtain ⟨b, hb⟩ : ∃ b, Lib.hasPrefix k.data.toList x.data.toList = b := ⟨_, rfl⟩
  show Calls Tryd.prog 40 _ W fun e w' => e = Ending.returned (Value.bool (Lib.hasPrefix k.data.toList x.data.toList)) ∧ ∃ q, w' = W.drewN q
  rw [hb] at HP ⊢
  clear hb
  go_enter Tryd.func40, Tryd.ntmps40
  go_wp2_with (go_at_call 41; refine (HP.out _).mono ?_; rintro e w2 ⟨rfl, rfl⟩)
  go_ret
  exact ⟨rfl, 0, rfl⟩
set_option maxRecDepth 100000 in
set_option maxHeartbeats 2000000 in
theorem fits_calls (A : Option Addr) (cap : Nat) (r : List Fld) (hr : r.length ≤ 1000) (ht : ∀ f ∈ r, f.t.size ≤ 1000000) (hk : (keyB r).length ≤ 1000000) (hk0 : 0 < (keyB r).length) (q : ByteArray) (hq : q.size ≤ 1000000) (hqw : (wordsB q).length ≤ 1000000) (w : World) (hI : Flds w.heap.size w A r) :
    Calls Tryd.prog 18 #[.slice A r.length cap, .string q] w fun e w' => e = .returned (.bool (fitsB r q)) ∧ Below w.heap.size w w' := by
  have HW := words_calls q hq w
  have HKc := fun W h => key_calls A cap r hr ht hk W h
  have HI := Lib.hid hI
  unfold fitsB
  obtain ⟨Q, hQ⟩ : ∃ Q, wordsB q = Q := ⟨_, rfl⟩
  obtain ⟨K, hK⟩ : ∃ K, keyB r = K := ⟨_, rfl⟩
  rw [hQ] at HW hqw ⊢
  rw [hK] at hk hk0 ⊢
  simp only [hK] at HKc
  have HW := Lib.hid HW
  have HKc := Lib.hid HKc
  clear hI ht hQ hK
  go_enter Tryd.func18, Tryd.ntmps18
  go_wp2_with (first | (go_at_call 37; refine HW.out.mono ?_; rintro e w1 ⟨⟨A1, rfl, hA1, hr1⟩, b1⟩; have hs1 := b1.size) | (go_at_call 16; refine (HKc.out _ (fun m hm => (by obtain ⟨b, off, e, hl, c0, c1⟩ := (HI.out.below b1) m hm; exact ⟨b, off, e, by omega, c0, c1⟩))).mono ?_; rintro e w2 ⟨⟨v, rfl, hr2⟩, b2⟩; have hs2 := b2.size; obtain ⟨g2, cp2, rfl⟩ := row_form hr2 hk0))
  have hr1' : w2.ownsRow w.heap.size 9 1 (.slice (some ⟨A1, 0, none⟩) Q.length Q.length) Q.length (Q.map Value.string) := row_of hr1 fun k _ _ _ hc => b2.block k (Array.getElem?_eq_some_iff.1 hc).1
  have hb2 : Below w.heap.size w w2 := b1.trans (b2.mono hs1)
  have l1 := (hr1'.lt A1 rfl).2
  have l2 := (hr2.lt g2 rfl).2
  have H1 := Lib.hid hr1'
  have H2 := Lib.hid hr2
  clear hr1 hr1' hr2 HW HKc
  go_loopw [15] (fun i wr => ∃ k : Nat, k ≤ Q.length ∧ i = .int .i64 k ∧ Below w2.heap.size w2 wr ∧ Hid ((Q.drop k).all (fun x => K.any fun k => Lib.hasPrefix k.data.toList x.data.toList) = Q.all (fun x => K.any fun k => Lib.hasPrefix k.data.toList x.data.toList))) (fun i _ => Q.length - (RowKit.intOf i).toNat)
  case atStart => exact ⟨0, Nat.zero_le _, rfl, Below.refl _ _, Lib.hid rfl⟩
  case round =>
    obtain ⟨k, hkl, rfl, hb, H⟩ := hrel
    by_cases hlt : k < Q.length
    · have c1 := (hb.cell (p := ⟨A1, k, none⟩) l1).trans ((H1.out.cellAt k (by omega)).trans (by rw [List.getElem?_map, List.getElem?_eq_getElem hlt, Option.map_some]))
      have h := H.out
      rw [List.drop_eq_getElem_cons hlt, List.all_cons] at h
      obtain ⟨x, hx⟩ : ∃ x, Q[k] = x := ⟨_, rfl⟩
      rw [hx] at c1 h
      clear hx H
      have hbs := hb.size
      have hA1 : A1 < wr.heap.size := by omega
      have hcell : (wr.alloc (.cells #[.string x] 9)).cell? ⟨wr.heap.size, 0, none⟩ = some (.string x) := by simp
      have HC := Lib.hid (Tryd.slices_ContainsFunc Value.string (fun k => Lib.hasPrefix k.data.toList x.data.toList) 40 #[.pointer (some ⟨wr.heap.size, 0, none⟩)] (enters_of Tryd.func40 (by kernel_rfl) rfl) g2 0 K.length cp2 K (wr.alloc (.cells #[.string x] 9)) (pre_pred x wr.heap.size _ hcell) (Nat.le_refl _) (by omega) (fun j hj => by
        have hc := H2.out.cellAt j (by omega)
        rw [List.getElem?_map, List.getElem?_eq_getElem hj] at hc
        have h3 : (wr.alloc (.cells #[.string x] 9)).cell? ⟨g2, j, none⟩ = wr.cell? ⟨g2, j, none⟩ := World.cell?_alloc_lt _ _ _ (show g2 < wr.heap.size by omega)
        rw [Nat.zero_add, h3, hb.cell (p := ⟨g2, j, none⟩) l2, hc, getElem!_pos K j hj]
        rfl))
      rw [List.take_length] at HC
      by_cases hany : (K.any fun k => Lib.hasPrefix k.data.toList x.data.toList) = true
      · rw [hany] at HC h
        have HH := Lib.hid h
        clear h hany
        go_wp2_with (go_at_call 39; refine HC.out.mono ?_; rintro e w3 ⟨rfl, nq, rfl⟩)
        go_roundw
        case rel => exact ⟨k + 1, by omega, by go_num, (belowN (hb.alloc hbs _) nq), Lib.hid (by rw [← HH.out, Bool.true_and])⟩
        case measure => simp [RowKit.intOf]; omega
      · have hf : (K.any fun k => Lib.hasPrefix k.data.toList x.data.toList) = false := by simpa using hany
        rw [hf] at HC h
        have HH := Lib.hid h
        clear h hany hf
        go_wp2_with (go_at_call 39; refine HC.out.mono ?_; rintro e w3 ⟨rfl, nq, rfl⟩)
        go_ret
        exact ⟨by rw [← HH.out]; rfl, hb2.trans ((belowN (hb.alloc hbs _) nq).mono hb2.size)⟩
    · obtain rfl : k = Q.length := by omega
      have h := H.out
      rw [List.drop_length] at h
      have HH := Lib.hid h
      clear h H
      go_wp2
      go_ret
      refine ⟨?_, hb2.trans (hb.mono hb2.size)⟩
      rw [← HH.out]
      simp
end Go.Proofs.YtmoloaneidledaaDoor

/- Walks of layer 1's reader: operators, operator, bit, reckon. -/
import Derived.Test.YtkomofphgnekoaaDoorWalkD
set_option linter.unusedVariables false
set_option linter.unusedSimpArgs false
namespace Go.Proofs.YtkomofphgnekoaaDoor
open Go.Shelf Go.RowKit Go.Lib Go.Aids Go.MapLit

def opsV : Array Value := #[.string ⟨#[60, 61]⟩, .string ⟨#[62, 61]⟩, .string ⟨#[61, 61]⟩, .string ⟨#[43]⟩, .string ⟨#[45]⟩, .string ⟨#[42]⟩, .string ⟨#[47]⟩, .string ⟨#[37]⟩, .string ⟨#[60]⟩, .string ⟨#[62]⟩, .string ⟨#[61]⟩, .string ⟨#[38]⟩, .string ⟨#[58]⟩]
theorem operators_calls (w : World) : Calls Tryd.prog 46 #[] w fun e w' => e = .returned (.slice (some ⟨w.heap.size, 0, none⟩) 13 13) ∧ w' = w.alloc (.cells opsV 9) := by
  go_enter Tryd.func46, Tryd.ntmps46
  go_wp2
  go_ret
  exact ⟨rfl, rfl⟩
theorem opsV_at (i : Nat) (hi : i < 13) : opsV[i]? = some (.string (ops.getD i ⟨#[]⟩)) := by
  have : ∀ i, i < 13 → opsV[i]? = some (.string (ops.getD i ⟨#[]⟩)) := by
    intro i hi
    match i, hi with
    | 0, _ | 1, _ | 2, _ | 3, _ | 4, _ | 5, _ | 6, _ | 7, _ | 8, _ | 9, _ | 10, _ | 11, _ | 12, _ => rfl
  exact this i hi
theorem run_tail (s : ByteArray) (a : Nat) (h : a ≤ s.size) (W : World) :
    (Instr.slice 9 (.string s) (some (.int .i64 a)) none none).run Tryd.prog W = .ok (.string (s.extract a s.size)) W := by
  have e1 := run_sliceBound (P := Tryd.prog) (w := W) .i64 (a : Int) s.size .sliceB (by omega) (by omega)
  simp [Instr.slice, run_underlying Tryd.underlying9, Instr.sliceBounds, e1, Result.andThen]
theorem tail_list (s : ByteArray) (a : Nat) : (s.extract a s.size).data.toList = s.data.toList.drop a := by
  rw [ByteArray.data_extract, Array.toList_extract, List.extract_eq_take_drop]
  refine List.take_of_length_le ?_
  rw [List.length_drop]
  exact Nat.le_refl _
theorem bit_calls (x : Bool) (w : World) : Calls Tryd.prog 49 #[.bool x] w fun e w' => e = .returned (.int .i64 (bitO x)) ∧ w' = w := by
  cases x
  · go_enter Tryd.func49, Tryd.ntmps49
    go_wp2
    go_ret
    exact ⟨rfl, rfl⟩
  · go_enter Tryd.func49, Tryd.ntmps49
    go_wp2
    go_ret
    exact ⟨rfl, rfl⟩

def opName (s : ByteArray) (a : Nat) : ByteArray := (operL s a).getD ⟨#[]⟩
set_option maxHeartbeats 2000000 in
theorem operator_calls (w : World) (b a : Nat) (c : Cx) (h : Rd w b c a) (hs : c.s.size ≤ 4611686018427387904) (ha : a ≤ c.s.size) :
    Calls Tryd.prog 35 #[.pointer (some ⟨b, 0, none⟩)] w fun e w' => e = .returned (.string (opName c.s a)) ∧ Kp b w w' ∧ Rd w' b c (a + (opName c.s a).size) := by
  obtain ⟨r, hr⟩ : ∃ r, opName c.s a = r := ⟨_, rfl⟩
  rw [hr]
  have Hr := Lib.hid hr
  clear hr
  have hbw := h.lt
  have ht := fun W => run_tail c.s a ha W
  go_enter Tryd.func35, Tryd.ntmps35
  go_wp2_with fail
  refine (operators_calls w).mono ?_
  rintro e w1 ⟨rfl, hw1⟩
  have hk1 : Kp b w w1 := by rw [hw1]; exact Kp.below ((Below.refl _ _).alloc (Nat.le_refl _) _)
  have hr1 : Rd w1 b c a := by rw [hw1]; exact h.below ((Below.refl _ _).alloc (Nat.le_refl _) _)
  have hcell : Hid (∀ i, i < 13 → w1.cell? ⟨w.heap.size, i, none⟩ = some (.string (ops.getD i ⟨#[]⟩))) := by
    intro i hi
    rw [hw1]
    have e := heap_alloc_new w (.cells opsV 9)
    unfold World.cell?
    simp only []
    rw [e]
    exact opsV_at i hi
  clear hw1
  go_wp2
  go_loopg [7] 13 (fun k v wr => ∃ i : Nat, v = .int .i64 i ∧ i + k = 13 ∧ Kp b w wr ∧ Rd wr b c a ∧ Hid (∀ i, i < 13 → wr.cell? ⟨w.heap.size, i, none⟩ = some (.string (ops.getD i ⟨#[]⟩))) ∧ Hid (((ops.drop i).find? (fun p => pre c.s p a)).getD ⟨#[]⟩ = r))
  case atStart => exact ⟨0, rfl, rfl, hk1, hr1, hcell, Lib.hid Hr.out⟩
  case round =>
    obtain ⟨i, rfl, hik, hkp, hrd, hcell, H⟩ := hrel
    obtain ⟨h0, h1, -, -, -, -, -, -, hf⟩ := hrd.cells
    by_cases hi : i < 13
    · obtain ⟨k', rfl⟩ : ∃ k', gk = k' + 1 := ⟨gk - 1, by omega⟩
      have hi' : (i : Int) < 13 := by omega
      have hc := hcell.out i hi
      obtain ⟨p, hp⟩ : ∃ p, ops.getD i ⟨#[]⟩ = p := ⟨_, rfl⟩
      rw [hp] at hc
      have hH := H.out
      have hdrop : ops.drop i = p :: ops.drop (i + 1) := by
        rw [List.drop_eq_getElem_cons (show i < ops.length from hi)]
        congr 1
        rw [← hp, List.getD_eq_getElem?_getD, List.getElem?_eq_getElem (show i < ops.length from hi)]
        rfl
      rw [hdrop, List.find?_cons] at hH
      have hps : p.size ≤ 2 := by
        have : ∀ q ∈ ops, q.size ≤ 2 := by decide
        refine this p ?_
        rw [← hp, List.getD_eq_getElem?_getD, List.getElem?_eq_getElem (show i < ops.length from hi)]
        exact List.getElem_mem _
      have hpre : Lib.hasPrefix (c.s.extract a c.s.size).data.toList p.data.toList = pre c.s p a := by rw [tail_list]; rfl
      have hcp := fun W => Tryd.strings_HasPrefix (c.s.extract a c.s.size) p W
      rw [hpre] at hcp
      rcases hb : pre c.s p a with _ | _
      · rw [hb] at hH hcp
        have Hcp := Lib.hid hcp
        clear hcp hpre
        have hH' := Lib.hid hH
        clear hH H hdrop hp hb
        go_wp2
        go_quiet (first | (go_at_call 47; exact Calls.quiet_of_same (Hcp.out _)))
        go_wp2
        go_roundg k'
        case measure => omega
        case rel => exact ⟨i + 1, by go_num, by omega, hkp.dr _, hrd.drewN _, hcell, hH'⟩
      · rw [hb] at hH hcp
        have Hcp := Lib.hid hcp
        clear hcp hpre
        have hH' := Lib.hid hH
        clear hH H hdrop hp hb
        go_wp2
        go_quiet (first | (go_at_call 47; exact Calls.quiet_of_same (Hcp.out _)))
        go_wp2
        go_ret
        obtain rfl : p = r := hH'.out
        exact ⟨rfl, by (repeat (first | assumption | with_reducible exact Kp.refl _ _ | with_reducible apply Kp.dr | with_reducible apply Kp.st)), (hrd.drewN _).set (a + p.size)⟩
    · obtain rfl : i = 13 := by omega
      have hH := H.out
      go_wp2
      go_ret
      obtain rfl : (⟨#[]⟩ : ByteArray) = r := hH
      exact ⟨rfl, by (repeat (first | assumption | with_reducible exact Kp.refl _ _ | with_reducible apply Kp.dr | with_reducible apply Kp.st)), by (repeat (first | assumption | with_reducible apply Rd.drewN | with_reducible apply Rd.set1 | with_reducible apply Rd.set))⟩
end Go.Proofs.YtkomofphgnekoaaDoor

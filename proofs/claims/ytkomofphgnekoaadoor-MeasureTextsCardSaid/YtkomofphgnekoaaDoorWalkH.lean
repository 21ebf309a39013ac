/- Walks of layer 1's reader: operand. -/
import Derived.Test.YtkomofphgnekoaaDoorWalkG
set_option linter.unusedVariables false
set_option linter.unusedSimpArgs false
namespace Go.Proofs.YtkomofphgnekoaaDoor
open Go.Shelf Go.RowKit Go.Lib Go.Aids Go.MapLit

theorem isPre_len : ∀ (p l : List UInt8), p.isPrefixOf l = true → p.length ≤ l.length
  | [], _, _ => Nat.zero_le _
  | _ :: _, [], h => by simp [List.isPrefixOf] at h
  | x :: p, y :: l, h => by
    simp [List.isPrefixOf] at h
    have := isPre_len p l (by simpa using h.2)
    simpa using this
theorem operL_some {s : ByteArray} {a : Nat} {p : ByteArray} (h : operL s a = some p) : p ∈ ops ∧ (a ≤ s.size → a + p.size ≤ s.size) ∧ 0 < p.size := by
  unfold operL at h
  have hm := List.mem_of_find?_eq_some h
  have hp := List.find?_some h
  refine ⟨hm, fun ha => ?_, ?_⟩
  · unfold pre Lib.hasPrefix at hp
    have := isPre_len _ _ hp
    rw [List.length_drop] at this
    have e1 : p.data.toList.length = p.size := rfl
    have e2 : s.data.toList.length = s.size := rfl
    omega
  · have : ∀ q ∈ ops, 0 < q.size := by decide
    exact this p hm
theorem operL_name {s : ByteArray} {a : Nat} {p : ByteArray} (h : operL s a = some p) : opName s a = p ∧ p.toList.isEmpty = false := by
  have := operL_some h
  refine ⟨by unfold opName; rw [h]; rfl, ?_⟩
  have h2 : ∀ q ∈ ops, q.toList.isEmpty = false := by decide +kernel
  exact h2 p this.1

theorem heldO_bound {c : Cx} {n m : Int} {a t : Nat} (h : heldO c n a = .ok m t) : (-1000000000 ≤ m ∧ m ≤ 1000000000) ∧ t = a := by
  unfold heldO at h
  split at h
  · injection h with h1 h2; subst h1; exact ⟨by omega, h2.symm⟩
  · split at h
    · cases h
    · rename_i hb; unfold big at hb; injection h with h1 h2; subst h1; exact ⟨by omega, h2.symm⟩
theorem heldO_die {c : Cx} {n k : Int} {a : Nat} (h : heldO c n a = .die k) : k ≠ 0 := by
  unfold heldO at h
  split at h
  · cases h
  · split at h
    · injection h with h; omega
    · cases h
theorem numberO_bound {c : Cx} {a : Nat} {m : Int} {t : Nat} (ha : a ≤ c.s.size) (h : numberO c a = .ok m t) : (-1000000000 ≤ m ∧ m ≤ 1000000000) ∧ t ≤ c.s.size := by
  rw [numberO_two] at h
  have hb := dotO_bound c.s (rowF c.s 9 0 a).2 ((rowF_bound c.s 9 0 a).2.2.2 ha)
  obtain ⟨d, hd⟩ : ∃ d, dotO c.s (rowF c.s 9 0 a).2 = d := ⟨_, rfl⟩
  rw [hd] at h hb
  unfold number2 at h
  split at h
  · cases h
  · split at h
    · rename_i u hu
      obtain ⟨h1, rfl⟩ := heldO_bound h
      refine ⟨h1, ?_⟩
      have hlt : d.2.2 < c.s.size := pk_lt (fun h0 => by rw [h0] at hu; cases hu)
      omega
    · obtain ⟨h1, rfl⟩ := heldO_bound h
      exact ⟨h1, hb.2.2⟩
theorem numberO_die {c : Cx} {a : Nat} {k : Int} (h : numberO c a = .die k) : k ≠ 0 := by
  rw [numberO_two] at h
  unfold number2 at h
  split at h
  · injection h with h; omega
  · split at h
    · exact heldO_die h
    · exact heldO_die h
theorem reckonO_bound {c : Cx} {op : ByteArray} {x y m : Int} {a t : Nat} (h : reckonO c op x y a = .ok m t) : (-1000000000 ≤ m ∧ m ≤ 1000000000) ∧ t = a := by
  unfold reckonO at h
  split at h
  · injection h with h1 h2; subst h1; exact ⟨by omega, h2.symm⟩
  · split at h
    · cases h
    · exact heldO_bound h
theorem reckonO_die {c : Cx} {op : ByteArray} {x y k : Int} {a : Nat} (h : reckonO c op x y a = .die k) : k ≠ 0 := by
  unfold reckonO at h
  split at h
  · cases h
  · split at h
    · injection h with h; omega
    · exact heldO_die h
theorem reckonO_stuck {c : Cx} {op : ByteArray} {x y : Int} {a : Nat} : ¬ reckonO c op x y a = .stuck := by
  intro h
  unfold reckonO at h
  split at h
  · cases h
  · split at h
    · cases h
    · exact heldO_stuck h
def jobOk (c : Cx) : Job → Prop
  | .oper a _ => a ≤ c.s.size
  | .expr a _ => a ≤ c.s.size
  | .loop x a _ => a ≤ c.s.size ∧ -1000000000 ≤ x ∧ x ≤ 1000000000
theorem run_bound (c : Cx) : ∀ f j m t, jobOk c j → run c f j = .ok m t → (-1000000000 ≤ m ∧ m ≤ 1000000000) ∧ t ≤ c.s.size
  | 0, j, m, t, _, h => by cases j <;> cases h
  | f + 1, .oper a0 deep, m, t, hj, h => by
    have hs := skip_le c.s deep a0 hj
    simp only [run] at h
    obtain ⟨a, ha⟩ : ∃ a, skip c.s deep a0 = a := ⟨_, rfl⟩
    rw [ha] at h hs
    split at h
    · rename_i hb
      have hlt := pk_lt (s := c.s) (a := a) (by omega)
      split at h
      · rename_i x t' hr
        obtain ⟨h1, h2⟩ := run_bound c f (.oper (a + 1) deep) x t' (by show _ ≤ _; omega) hr
        split at h
        · injection h with e1 e2; subst e1; subst e2; exact ⟨by omega, h2⟩
        · split at h
          · injection h with e1 e2; subst e1; subst e2; exact ⟨by omega, h2⟩
          · split at h
            · injection h with e1 e2; subst e1; subst e2; exact ⟨by omega, h2⟩
            · split at h
              · obtain ⟨h3, rfl⟩ := heldO_bound h; exact ⟨h3, h2⟩
              · injection h with e1 e2; subst e1; subst e2; exact ⟨h1, h2⟩
      · rename_i hne
        exact absurd h (hne m t)
    · split at h
      · rename_i hb
        have hlt := pk_lt (s := c.s) (a := a) (by omega)
        split at h
        · cases h
        · split at h
          · rename_i x t' hr
            obtain ⟨h1, h2⟩ := run_bound c f (.expr (a + 1) (deep + 1)) x t' (by show _ ≤ _; omega) hr
            split at h
            · rename_i hp
              have hlt := pk_lt (s := c.s) (a := t') (by omega)
              injection h with e1 e2; subst e1; subst e2; exact ⟨h1, by omega⟩
            · cases h
          · rename_i hne
            exact absurd h (hne m t)
      · exact numberO_bound hs h
  | f + 1, .expr a deep, m, t, hj, h => by
    simp only [run] at h
    split at h
    · rename_i x t' hr
      obtain ⟨h1, h2⟩ := run_bound c f (.oper a deep) x t' hj hr
      exact run_bound c f (.loop x t' deep) m t ⟨h2, h1⟩ h
    · rename_i hne
      exact absurd h (hne m t)
  | f + 1, .loop x a0 deep, m, t, hj, h => by
    obtain ⟨hj1, hj2⟩ := hj
    have hs := skip_le c.s deep a0 hj1
    simp only [run] at h
    split at h
    · injection h with e1 e2; subst e1; subst e2; exact ⟨hj2, hs⟩
    · rename_i op hop
      obtain ⟨h1, h2, h3⟩ := operL_some hop
      split at h
      · rename_i y t1 hr
        obtain ⟨h4, h5⟩ := run_bound c f (.oper _ deep) y t1 (h2 hs) hr
        split at h
        · rename_i z t2 hz
          obtain ⟨h6, rfl⟩ := reckonO_bound hz
          exact run_bound c f (.loop z _ deep) m t ⟨h5, h6⟩ h
        · rename_i hne
          exact absurd h (hne m t)
      · split at h
        · injection h with e1 e2; subst e1; subst e2; exact ⟨hj2, hs⟩
        · cases h
      · cases h
theorem run_die (c : Cx) : ∀ f j k, run c f j = .die k → k ≠ 0
  | 0, j, k, h => by cases j <;> cases h
  | f + 1, .oper a0 deep, k, h => by
    simp only [run] at h
    split at h
    · split at h
      · split at h
        · cases h
        · split at h
          · cases h
          · split at h
            · cases h
            · split at h
              · exact heldO_die h
              · cases h
      · exact run_die c f _ k h
    · split at h
      · split at h
        · injection h with h; omega
        · split at h
          · split at h
            · cases h
            · injection h with h; omega
          · exact run_die c f _ k h
      · exact numberO_die h
  | f + 1, .expr a deep, k, h => by
    simp only [run] at h
    split at h
    · exact run_die c f _ k h
    · exact run_die c f _ k h
  | f + 1, .loop x a0 deep, k, h => by
    simp only [run] at h
    split at h
    · cases h
    · split at h
      · split at h
        · exact run_die c f _ k h
        · exact reckonO_die h
      · rename_i hr
        split at h
        · cases h
        · injection h with h; subst h; exact run_die c f _ _ hr
      · cases h
end Go.Proofs.YtkomofphgnekoaaDoor

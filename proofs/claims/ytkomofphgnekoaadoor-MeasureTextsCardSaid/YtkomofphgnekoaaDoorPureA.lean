/- The reader's model: enough fuel. -/
import Derived.Test.YtkomofphgnekoaaDoorWalkH
set_option linter.unusedVariables false
set_option linter.unusedSimpArgs false
namespace Go.Proofs.YtkomofphgnekoaaDoor
open Go.Shelf Go.RowKit Go.Lib Go.Aids Go.MapLit

theorem skipF_ge (s : ByteArray) : ∀ k a, a ≤ skipF s k a
  | 0, a => Nat.le_refl _
  | k + 1, a => by
    unfold skipF
    split
    · exact Nat.le_trans (Nat.le_succ _) (skipF_ge s k (a + 1))
    · exact Nat.le_refl _
theorem skip_ge (s : ByteArray) (deep a : Nat) : a ≤ skip s deep a := by
  unfold skip
  split
  · exact skipF_ge s _ a
  · exact Nat.le_refl _
theorem heldO_at {c : Cx} {n m : Int} {a t : Nat} (h : heldO c n a = .ok m t) : t = a := (heldO_bound h).2
theorem dotO_ge (s : ByteArray) (a : Nat) : a ≤ (dotO s a).2.2 := by
  unfold dotO
  split
  · show a ≤ (if _ then a else _)
    split
    · exact Nat.le_refl _
    · have := (rowF_bound s 9 0 (a + 1)).1
      omega
  · exact Nat.le_refl _
theorem numberO_ge {c : Cx} {a : Nat} {m : Int} {t : Nat} (h : numberO c a = .ok m t) : a ≤ t := by
  rw [numberO_two] at h
  have h1 := (rowF_bound c.s 9 0 a).1
  have h2 := dotO_ge c.s (rowF c.s 9 0 a).2
  unfold number2 at h
  split at h
  · cases h
  · split at h
    · have := heldO_at h; omega
    · have := heldO_at h; omega
def Job.at : Job → Nat
  | .oper a _ => a
  | .expr a _ => a
  | .loop _ a _ => a
theorem run_ge (c : Cx) : ∀ f j m t, run c f j = .ok m t → j.at ≤ t
  | 0, j, m, t, h => by cases j <;> cases h
  | f + 1, .oper a0 deep, m, t, h => by
    have hs := skip_ge c.s deep a0
    simp only [run] at h
    obtain ⟨a, ha⟩ : ∃ a, skip c.s deep a0 = a := ⟨_, rfl⟩
    rw [ha] at h hs
    show a0 ≤ t
    split at h
    · split at h
      · rename_i x t' hr
        have h1 : a + 1 ≤ t' := run_ge c f (.oper (a + 1) deep) x t' hr
        split at h
        · injection h with e1 e2; omega
        · split at h
          · injection h with e1 e2; omega
          · split at h
            · injection h with e1 e2; omega
            · split at h
              · have := heldO_at h; omega
              · injection h with e1 e2; omega
      · rename_i hne
        exact absurd h (hne m t)
    · split at h
      · split at h
        · cases h
        · split at h
          · rename_i x t' hr
            have h1 : a + 1 ≤ t' := run_ge c f (.expr (a + 1) (deep + 1)) x t' hr
            split at h
            · injection h with e1 e2; omega
            · cases h
          · rename_i hne
            exact absurd h (hne m t)
      · have := numberO_ge h; omega
  | f + 1, .expr a deep, m, t, h => by
    simp only [run] at h
    show a ≤ t
    split at h
    · rename_i x t' hr
      have h1 : a ≤ t' := run_ge c f (.oper a deep) x t' hr
      have h2 : t' ≤ t := run_ge c f (.loop x t' deep) m t h
      omega
    · rename_i hne
      exact absurd h (hne m t)
  | f + 1, .loop x a0 deep, m, t, h => by
    have hs := skip_ge c.s deep a0
    simp only [run] at h
    show a0 ≤ t
    split at h
    · injection h with e1 e2; omega
    · rename_i op hop
      split at h
      · rename_i y t1 hr
        have h1 : skip c.s deep a0 + op.size ≤ t1 := run_ge c f (.oper _ deep) y t1 hr
        split at h
        · rename_i z t2 hz
          have h3 := (reckonO_bound hz).2
          have h2 : t2 ≤ t := run_ge c f (.loop z t2 deep) m t h
          omega
        · rename_i hne
          exact absurd h (hne m t)
      · split at h
        · injection h with e1 e2; omega
        · cases h
      · cases h
/-- The fuel that a job wants. -/
def need (c : Cx) : Job → Nat
  | .oper a _ => 2 * (c.s.size - a) + 1
  | .expr a _ => 2 * (c.s.size - a) + 2
  | .loop _ a _ => 2 * (c.s.size - a) + 1
theorem numberO_stuck {c : Cx} {a : Nat} : ¬ numberO c a = .stuck := by
  intro h
  rw [numberO_two] at h
  unfold number2 at h
  split at h
  · cases h
  · split at h
    · exact heldO_stuck h
    · exact heldO_stuck h
theorem run_fuel (c : Cx) : ∀ f j, j.at ≤ c.s.size → need c j ≤ f → run c f j ≠ .stuck
  | 0, j, hj, h => by cases j <;> simp [need] at h
  | f + 1, .oper a0 deep, hj, h => by
    have hs := skip_ge c.s deep a0
    have hl := skip_le c.s deep a0 hj
    have hn : 2 * (c.s.size - a0) + 1 ≤ f + 1 := h
    intro he
    simp only [run] at he
    obtain ⟨a, ha⟩ : ∃ a, skip c.s deep a0 = a := ⟨_, rfl⟩
    rw [ha] at he hs hl
    split at he
    · have hlt := pk_lt (s := c.s) (a := a) (by omega)
      have h1 := run_fuel c f (.oper (a + 1) deep) (by show a + 1 ≤ c.s.size; omega) (by show 2 * _ + 1 ≤ f; omega)
      split at he
      · split at he
        · cases he
        · split at he
          · cases he
          · split at he
            · cases he
            · split at he
              · exact heldO_stuck he
              · cases he
      · exact h1 he
    · split at he
      · have hlt := pk_lt (s := c.s) (a := a) (by omega)
        split at he
        · cases he
        · have h1 := run_fuel c f (.expr (a + 1) (deep + 1)) (by show a + 1 ≤ c.s.size; omega) (by show 2 * _ + 2 ≤ f; omega)
          split at he
          · split at he
            · cases he
            · cases he
          · exact h1 he
      · exact numberO_stuck he
  | f + 1, .expr a deep, hj, h => by
    have hn : 2 * (c.s.size - a) + 2 ≤ f + 1 := h
    have hj' : a ≤ c.s.size := hj
    intro he
    simp only [run] at he
    have h1 := run_fuel c f (.oper a deep) hj (by show 2 * _ + 1 ≤ f; omega)
    split at he
    · rename_i x t' hr
      have h2 : a ≤ t' := run_ge c f (.oper a deep) x t' hr
      have h3 := (run_bound c f (.oper a deep) x t' hj hr).2
      exact run_fuel c f (.loop x t' deep) h3 (by show 2 * _ + 1 ≤ f; omega) he
    · exact h1 he
  | f + 1, .loop x a0 deep, hj, h => by
    have hs := skip_ge c.s deep a0
    have hl := skip_le c.s deep a0 hj
    have hn : 2 * (c.s.size - a0) + 1 ≤ f + 1 := h
    intro he
    simp only [run] at he
    split at he
    · cases he
    · rename_i op hop
      obtain ⟨h1, h2, h3⟩ := operL_some hop
      have h2 := h2 hl
      have h4 := run_fuel c f (.oper (skip c.s deep a0 + op.size) deep) h2 (by show 2 * _ + 1 ≤ f; omega)
      split at he
      · rename_i y t1 hr
        have h5 : skip c.s deep a0 + op.size ≤ t1 := run_ge c f (.oper _ deep) y t1 hr
        have h6 := (run_bound c f (.oper _ deep) y t1 h2 hr).2
        split at he
        · rename_i z t2 hz
          have h7 := (reckonO_bound hz).2
          exact run_fuel c f (.loop z t2 deep) (by show t2 ≤ c.s.size; omega) (by show 2 * _ + 1 ≤ f; omega) he
        · exact reckonO_stuck he
      · split at he
        · cases he
        · cases he
      · rename_i hr
        exact h4 hr
end Go.Proofs.YtkomofphgnekoaaDoor

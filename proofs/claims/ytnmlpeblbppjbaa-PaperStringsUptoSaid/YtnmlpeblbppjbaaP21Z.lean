/- What a rune that is no ASCII takes of a text. -/
import Derived.Test.YtnmlpeblbppjbaaP21Y
set_option linter.unusedVariables false
set_option linter.unusedSimpArgs false
namespace Go.Proofs.Ytnmlpeblbppjbaa
open Go.Lib

theorem decode_span (s : ByteArray) (p : Nat) (h : p < s.size) : (Utf8.decode s p).1 ≤ 1114111 ∧ (Utf8.decode s p).2 ≤ 4 ∧ p + (Utf8.decode s p).2 ≤ s.size ∧
    (2 ≤ (Utf8.decode s p).2 → 128 ≤ (s.get! (p + 1)).toNat) ∧ (3 ≤ (Utf8.decode s p).2 → 128 ≤ (s.get! (p + 2)).toNat) ∧ (4 ≤ (Utf8.decode s p).2 → 128 ≤ (s.get! (p + 3)).toNat) := by
  have hb : ∀ k, (s.get! (p + k)).toNat < 256 := fun k => (s.get! (p + k)).toNat_lt
  have h0 := hb 0; have h1 := hb 1; have h2 := hb 2; have h3 := hb 3
  clear hb
  simp only [Utf8.decode]
  repeat' split
  all_goals simp_all [Utf8.runeError, Utf8.valid]
  all_goals omega
theorem get_pk (s : ByteArray) (a : Nat) (h : a < s.size) : (s.get! a).toNat = pk s a := by
  rw [pk_get s a h]
  have e : s.get! a = s[a] := by
    show (s.data[a]! : UInt8) = s.data[a]
    rw [getElem!_pos]
  rw [e]
theorem clean_span (s : ByteArray) (p : Nat) (h : p < s.size) (hb : ¬ pk s p < 128) : p + (Utf8.decode s p).2 ≤ s.size ∧ cleanF s p = cleanF s (p + (Utf8.decode s p).2) := by
  obtain ⟨-, h4, hs, q1, q2, q3⟩ := decode_span s p h
  have hp := (Go.decode_high s p h (by rw [← pk_get s p h]; omega)).2
  refine ⟨hs, ?_⟩
  generalize (Utf8.decode s p).2 = n at *
  have one : ∀ a, a < s.size → 128 ≤ pk s a → cleanF s a = cleanF s (a + 1) := fun a ha hq => by
    rw [cleanF_step s a ha, decide_eq_true (by omega : pk s a ≠ 10 ∧ pk s a ≠ 92), Bool.true_and]
  have c0 := one p h (by omega)
  have c : n = 1 ∨ n = 2 ∨ n = 3 ∨ n = 4 := by omega
  rcases c with rfl | rfl | rfl | rfl
  · exact c0
  · rw [c0]; exact one (p + 1) (by omega) (by rw [← get_pk s _ (by omega)]; exact q1 (by omega))
  · rw [c0, one (p + 1) (by omega) (by rw [← get_pk s _ (by omega)]; exact q1 (by omega))]
    exact one (p + 2) (by omega) (by rw [← get_pk s _ (by omega)]; exact q2 (by omega))
  · rw [c0, one (p + 1) (by omega) (by rw [← get_pk s _ (by omega)]; exact q1 (by omega)), one (p + 1 + 1) (by omega) (by rw [← get_pk s _ (by omega)]; exact q2 (by omega))]
    exact one (p + 3) (by omega) (by rw [← get_pk s _ (by omega)]; exact q3 (by omega))
end Go.Proofs.Ytnmlpeblbppjbaa

/- Walks of layer 21: Names, sane. -/
import Derived.Test.YtnmlpeblbppjbaaP21F
set_option linter.unusedVariables false
set_option linter.unusedSimpArgs false
namespace Go.Proofs.Ytnmlpeblbppjbaa
open Go.RowKit Go.Opens Go.Lib Go.Aids Go.MapLit Go.Proofs.YtnmlpeblbppjbaaW.PrintWords

theorem names_calls (w : World) : Calls Try.prog 7 #[] w fun e w' => ∃ g, e = .returned (.slice (some ⟨g, 0, none⟩) 3 3) ∧ g < w'.heap.size ∧ w'.cell? ⟨g, 0, none⟩ = some (.string ⟨#[108, 101, 116, 116, 101, 114]⟩) ∧ Below w.heap.size w w' := by
  go_enter Try.func7, Try.ntmps7
  go_wp2
  go_ret
  exact ⟨_, rfl, by simp, by simp, (Below.refl _ _).alloc (Nat.le_refl _) _⟩
theorem sane_text : textO [((⟨#[97]⟩ : ByteArray), (⟨#[55]⟩ : ByteArray))] = (⟨#[46, 100, 115, 32, 114, 58, 97, 32, 55, 10]⟩, 0) := by kernel_rfl
set_option maxHeartbeats 2000000 in
theorem sane_calls (w : World) : Calls Try.prog 4 #[] w fun e w' => e = .returned (.bool true) ∧ Below w.heap.size w w' := by
  go_enter Try.func4, Try.ntmps4
  go_wp2_with fail
  refine (names_calls _).mono ?_
  rintro e w1 ⟨g, rfl, gl, c0, b1⟩
  have B1 := Lib.hid b1
  clear b1
  go_wp2_with fail
  have hC : kLab.C (w1.alloc (.cells #[.string ⟨#[97]⟩, .string ⟨#[55]⟩] 28)) (some ⟨w1.heap.size, 0, none⟩) [((⟨#[97]⟩ : ByteArray), (⟨#[55]⟩ : ByteArray))].length [((⟨#[97]⟩ : ByteArray), (⟨#[55]⟩ : ByteArray))] := by
    have ho : (w1.alloc (.cells #[.string ⟨#[97]⟩, .string ⟨#[55]⟩] 28)).ownsRow 0 28 2 (.slice (some ⟨w1.heap.size, 0, none⟩) 1 1) 1 (cellsL [((⟨#[97]⟩ : ByteArray), (⟨#[55]⟩ : ByteArray))]) :=
      ⟨rfl, .inr ⟨_, 1, _, rfl, Nat.zero_le _, heap_alloc_new w1 _, Nat.le_refl _, by decide, rfl, rfl⟩⟩
    obtain ⟨A, n, h1, h2, h3⟩ := C_ownL ho (by decide)
    injection h1 with h1
    subst h1
    exact h3
  have HS := Lib.hid (pstrings_calls (some ⟨w1.heap.size, 0, none⟩) 1 [((⟨#[97]⟩ : ByteArray), (⟨#[55]⟩ : ByteArray))] (by decide) (by intro p hp; rw [List.mem_singleton] at hp; subst hp; exact ⟨by decide, by decide⟩) _ hC)
  rw [sane_text] at HS
  clear hC
  refine HS.out.mono ?_
  rintro e w2 ⟨rfl, b2⟩
  have c2 := (b2.cell (p := ⟨g, 0, none⟩) (by simp; omega)).trans ((World.cell?_alloc_past (w := w1) (.cells #[.string ⟨#[97]⟩, .string ⟨#[55]⟩] 28) g 0 gl).trans c0)
  have gl2 : g < w2.heap.size := by have := b2.size; simp at this; omega
  have B2 := Lib.hid ((B1.out.alloc B1.out.size (.cells #[.string ⟨#[97]⟩, .string ⟨#[55]⟩] 28)).trans (b2.mono (by have := B1.out.size; simp; omega)))
  clear b2 HS
  go_wp2_with fail
  go_ret
  exact ⟨rfl, B2.out⟩
end Go.Proofs.Ytnmlpeblbppjbaa

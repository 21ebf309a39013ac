/- Walks of layer 21: strings.ContainsAny of a line feed and a backslash, any text. -/
import Derived.Test.YtnmlpeblbppjbaaP21ZA
set_option linter.unusedVariables false
set_option linter.unusedSimpArgs false
namespace Go.Proofs.Ytnmlpeblbppjbaa
open Go.Shelf Go.RowKit Go.Lib Go.Aids Go.MapLit Go.Proofs.YtnmlpeblbppjbaaW.PrintWords

theorem iany_calls (s : ByteArray) (w : World) (hs : s.size ≤ 140737488351232) :
    Calls Try.prog 19 #[.string s, .string ⟨#[10, 92]⟩] w fun e w' => ∃ r : Int, e = .returned (.int .i64 r) ∧ decide (0 ≤ r) = !cleanF s 0 ∧ Below w.heap.size w w' := by
  by_cases h8 : 8 < s.size
  · exact iany_long s w h8 hs
  · exact iany_short s w (by omega)
theorem cany_calls (s : ByteArray) (w : World) (hs : s.size ≤ 140737488351232) :
    Calls Try.prog 14 #[.string s, .string ⟨#[10, 92]⟩] w fun e w' => e = .returned (.bool (!cleanF s 0)) ∧ Below w.heap.size w w' := by
  have HI := Lib.hid (fun W => iany_calls s W hs)
  clear hs
  go_enter Try.func14, Try.ntmps14
  go_wp2_with (go_at_call 19; refine (HI.out _).mono ?_; rintro e w1 ⟨r, rfl, hr, hb⟩)
  go_ret
  exact ⟨by first | rfl | (rw [← hr]; done) | simp [hr], hb⟩
end Go.Proofs.Ytnmlpeblbppjbaa

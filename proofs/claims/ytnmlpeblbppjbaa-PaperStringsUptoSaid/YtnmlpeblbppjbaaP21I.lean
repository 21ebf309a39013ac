/- What the law's parameters hold. -/
import Derived.Test.YtnmlpeblbppjbaaBOpens
import Derived.Test.YtnmlpeblbppjbaaP21H
set_option linter.unusedVariables false
set_option linter.unusedSimpArgs false
namespace Go.Proofs.Ytnmlpeblbppjbaa
open Go.RowKit Go.Opens Go.Lib Go.Aids BOpens Go.Proofs.YtnmlpeblbppjbaaW.PrintWords

def wfSB (s : ByteArray) : Prop := s.size ≤ maxLen ∧ s.size ≤ 1048576
theorem o3 : BOpens Try.prog 1048576 3 kI wfI := BOpens.of (Opens.int Try.underlying3 (by kernel_rfl))
theorem o9 : BOpens Try.prog 1048576 9 Kd.string wfSB := BOpens.string Try.underlying9 (by kernel_rfl)
theorem o28 : BOpens Try.prog 1048576 28 kLab (fun p => wfSB p.1 ∧ wfSB p.2) := BOpens.struct (d := kLab) Try.underlying28 (by kernel_rfl) (BFields.cons o9 rfl (BFields.one o9 rfl))
theorem law_at (A : Option Addr) (c : Nat) (L : List Lab) (hc : L.length ≤ c) (hL : ∀ p ∈ L, wfSB p.1 ∧ wfSB p.2) (B : Option Addr) (d : Nat) (P : List Int) (hd : P.length ≤ d) (hP : ∀ x ∈ P, wfI x) (hPl : P.length ≤ 9223372036854775807) (w : World) (hC : kLab.C w A L.length L) (hI : kI.C w B P.length P) :
    Calls Try.prog 3 #[.slice A L.length c, .slice B P.length d] w fun e w' => e = .returned (.bool true) ∧ Below w.heap.size w w' :=
  law_calls A c L hc (fun p hp => ⟨(hL p hp).1.2, (hL p hp).2.2⟩) B d P hd hP hPl w hC hI
end Go.Proofs.Ytnmlpeblbppjbaa

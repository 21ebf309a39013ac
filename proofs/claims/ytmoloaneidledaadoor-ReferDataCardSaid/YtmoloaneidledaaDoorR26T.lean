/- Walk: the law ReferData. -/
import Derived.Test.YtmoloaneidledaaDoorR26S
import Derived.Test.YtmoloaneidledaaDoorOpens
set_option linter.unusedVariables false
set_option linter.unusedSimpArgs false
namespace Go.Proofs.YtmoloaneidledaaDoor
open Go.Shelf Go.RowKit Go.Lib Go.Opens Go.Proofs.YtmoloaneidledaaDoorW.PrintWords Go.Proofs.YtmoloaneidledaaDoor.Pdata

def wfB (n : Int) : Prop := (Lit.int .u8 n).wf = true
theorem o5 : Opens Tryd.prog 5 (Kd.int .u8) wfB := Opens.int Tryd.underlying5 (by kernel_rfl)
set_option maxHeartbeats 2000000 in
theorem law3_calls (s : ByteArray) (A : Option Addr) (c : Nat) (l : List Int) (w : World) (hC : (Kd.int .u8).C w A l.length l) (hc : l.length ≤ c) (hw : ∀ x ∈ l, wfB x) : Calls Tryd.prog 3 #[.string s, .slice A l.length c] w fun e w' => e = .returned (.bool true) ∧ Below w.heap.size w w' := by
  have HS := Lib.hid (fun W => sane_calls W)
  have hr : ∀ x ∈ l, 0 ≤ x ∧ x < 256 := fun x hx => by
    have := hw x hx
    unfold wfB at this
    simp [Lit.wf] at this
    have e1 : IntKind.u8.min = 0 := by decide
    have e2 : IntKind.u8.max = 255 := by decide
    omega
  by_cases hs : 3000 < s.size
  · clear hw hr
    have k1 : decide ((3000 : Int) < s.size) = true := decide_eq_true (by omega)
    go_enter Tryd.func3, Tryd.ntmps3
    go_wp2_with (go_at_call 6; refine (HS.out _).mono ?_; rintro e w1 ⟨rfl, hb⟩)
    go_ret
    exact ⟨rfl, hb⟩
  have k1 : decide ((3000 : Int) < s.size) = false := decide_eq_false (by omega)
  by_cases hbig : 80 < l.length
  · clear hw hr
    have k2 : decide ((80 : Int) < l.length) = true := decide_eq_true (by omega)
    go_enter Tryd.func3, Tryd.ntmps3
    go_wp2_with (go_at_call 6; refine (HS.out _).mono ?_; rintro e w1 ⟨rfl, hb⟩)
    go_ret
    exact ⟨rfl, hb⟩
  have k2 : decide ((80 : Int) < l.length) = false := decide_eq_false (by omega)
  obtain ⟨r, hr1, hr2⟩ := bits_f l hr (by omega) l.length 0 ⟨#[]⟩ (by omega) (Nat.zero_le _) (Nat.le_refl _)
  have HB := Lib.hid (fun W (h : (Kd.int .u8).C W A l.length l) => Pbits.frisketlaw26_bits.calls (l.length + 1) A c l r W h hc hr1)
  have H1 := Lib.hid (fun W => data7_calls s (by omega) W)
  have H2 := Lib.hid (fun W => data7_calls r (by omega) W)
  have HC := Lib.hid hC
  clear hw hr hr1 hC
  go_enter Tryd.func3, Tryd.ntmps3
  go_wp2_with fail
  refine (H1.out _).mono ?_
  rintro e w0 ⟨rfl, b0⟩
  go_wp2_with fail
  refine (HB.out _ (Kd.C_below HC.out b0)).mono ?_
  rintro e w1 ⟨rfl, b1⟩
  go_wp2_with fail
  refine (H2.out _).mono ?_
  rintro e w2 ⟨rfl, b2⟩
  go_wp2_with fail
  refine (HS.out _).mono ?_
  rintro e w3 ⟨rfl, b3⟩
  go_wp2
  go_ret
  have s0 := b0.size
  have s1 := b1.size
  have s2 := b2.size
  exact ⟨rfl, ((b0.trans (b1.mono s0)).trans (b2.mono (by omega))).trans (b3.mono (by omega))⟩
end Go.Proofs.YtmoloaneidledaaDoor

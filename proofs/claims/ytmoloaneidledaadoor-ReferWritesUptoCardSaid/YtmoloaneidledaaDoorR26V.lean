/- Walks: refer.small, refer.words. -/
import Derived.WalkKit
import Derived.WalkLawsBesides
import Derived.WalkSpells
import Derived.Deep.QuietTactic
import Derived.BigQuiet
import Derived.Lib.Hide
import Derived.Lib.ConvBytes
import Derived.Laws.IdiomStrings
import Derived.Laws.BitsLemmas
import Derived.StillTailTactics
import Derived.LoopTactic
import Derived.LoopN
import Derived.Deep.Onto
import Derived.Test.YtmoloaneidledaaDoorR26C
set_option linter.unusedVariables false
set_option linter.unusedSimpArgs false
namespace Go.Proofs.YtmoloaneidledaaDoor
open Go.Shelf Go.RowKit Go.Lib

/-- A byte in small letters. -/
def lowB (b : UInt8) : UInt8 := if 65 ≤ b.toNat ∧ b.toNat ≤ 90 then b + 32 else b
def smallB (s : ByteArray) : ByteArray := ⟨(s.data.toList.map lowB).toArray⟩
theorem lowB_up (b : UInt8) (h : capB (b.toNat : Nat) = true) : ((lowB b).toNat : Int) = (b.toNat : Int) + 32 := by
  unfold capB at h
  simp at h
  unfold lowB
  rw [if_pos ⟨by omega, by omega⟩, UInt8.toNat_add]
  have : (32 : UInt8).toNat = 32 := rfl
  omega
theorem lowB_no (b : UInt8) (h : capB (b.toNat : Nat) = false) : lowB b = b := by
  unfold capB at h
  simp at h
  unfold lowB
  rw [if_neg (by omega)]
/-- The bytes' cells when k of them are small. -/
def Low (W : World) (g k : Nat) (l : List UInt8) : Prop :=
  ∀ j (h : j < l.length), W.cell? ⟨g, j, none⟩ = some (.int .u8 ((if j < k then lowB l[j] else l[j]).toNat : Nat)) ∧ W.frozen? ⟨g, j, none⟩ = false
set_option maxRecDepth 100000 in
set_option maxHeartbeats 2000000 in
theorem small_calls (s : ByteArray) (hs : s.size ≤ 1000000) (w : World) :
    Calls Tryd.prog 53 #[.string s] w fun e w' => e = .returned (.string (smallB s)) ∧ Below w.heap.size w w' := by
  have hl : s.data.toList.length = s.size := by rw [Array.length_toList]; rfl
  have hcv := Lib.run_convert_string_bytes (P := Tryd.prog) w 9 22 5 s Tryd.underlying9 Tryd.underlying22 Tryd.underlying5
  obtain ⟨W0, hW0⟩ : ∃ W0, Lib.bytesWorld w 5 s = W0 := ⟨_, rfl⟩
  obtain ⟨cap, hcap⟩ : ∃ c, grownCap w s.size 0 5 = c := ⟨_, rfl⟩
  have hsz : W0.heap.size = w.heap.size + 1 := by rw [← hW0]; exact Lib.bytesWorld_size w 5 s
  have hb0 : Below w.heap.size w W0 := by
    rw [← hW0]
    exact ⟨rfl, rfl, rfl, by rw [Lib.bytesWorld_size]; omega, fun i hi => Lib.bytesWorld_at_old w 5 s i hi⟩
  have hL0 : Low W0 w.heap.size 0 s.data.toList := fun j hj => by
    rw [← hW0, if_neg (Nat.not_lt_zero _)]
    refine ⟨?_, ?_⟩
    · rw [Lib.bytesWorld_cell w 5 s j (by omega), List.getD_eq_getElem?_getD, List.getElem?_eq_getElem hj]
      rfl
    · have h1 := Lib.bytesWorld_at_new w 5 s
      have h2 : s.size ≤ (Lib.bytesCells w 5 s).size := by
        show s.data.size ≤ _
        simp [Lib.bytesCells]
      simp only [World.frozen?, h1]
      rw [decide_eq_false (show ¬ (Lib.bytesCells w 5 s).size ≤ j by omega)]
      rfl
  rw [hW0, hcap] at hcv
  clear hW0 hcap
  obtain ⟨L, hLL⟩ : ∃ L, s.data.toList = L := ⟨_, rfl⟩
  rw [hLL] at hL0 hl
  have hsm : smallB s = ⟨(L.map lowB).toArray⟩ := by rw [smallB, hLL]
  rw [hsm]
  have HL := Lib.hid hL0
  have HS := Lib.hid hl
  clear hL0 hsm hLL
  go_enter Tryd.func53, Tryd.ntmps53
  go_wp2
  go_loopw [10] (fun i wr => ∃ k : Nat, k ≤ s.size ∧ i = .int .i64 k ∧ Below w.heap.size w wr ∧ w.heap.size < wr.heap.size ∧ Hid (Low wr w.heap.size k L)) (fun i _ => s.size - (RowKit.intOf i).toNat)
  case atStart => exact ⟨0, Nat.zero_le _, rfl, hb0, by omega, HL⟩
  case round =>
    obtain ⟨k, hk, rfl, hb, hgl, H⟩ := hrel
    by_cases hkl : k < s.size
    · have hkL : k < L.length := by have := HS.out; omega
      obtain ⟨cc, fc⟩ := H.out k hkL
      rw [if_neg (Nat.lt_irrefl _)] at cc
      obtain ⟨b, hbb⟩ : ∃ b, L[k] = b := ⟨_, rfl⟩
      rw [hbb] at cc
      have hki : (k : Int) < s.size := by omega
      have HC := Lib.hid (fun W => cap34_calls (b.toNat : Nat) W)
      by_cases hcap : capB (b.toNat : Nat) = true
      · rw [hcap] at HC
        have hup := lowB_up b hcap
        have hbr : (b.toNat : Int) + 32 ≤ 255 := by
          unfold capB at hcap
          simp at hcap
          omega
        have w1 : IntKind.u8.wrap ((b.toNat : Int) + 97) = (b.toNat : Int) + 97 := by rw [IntKind.wrap_u8]; unfold capB at hcap; simp at hcap; omega
        have w2 : IntKind.u8.wrap ((b.toNat : Int) + 97 - 65) = (b.toNat : Int) + 32 := by rw [IntKind.wrap_u8]; omega
        have hnx : Low (wr.setCell ⟨w.heap.size, k, none⟩ (.int .u8 ((b.toNat : Int) + 32))) w.heap.size (k + 1) L := fun j hj => by
          obtain ⟨c1, f1⟩ := H.out j hj
          refine ⟨?_, by rw [World.frozen?_setCell]; exact f1⟩
          by_cases hjk : j = k
          · subst hjk
            rw [World.cell?_setCell_same' _ _ _ (by rw [cc]; rfl), if_pos (by omega), hbb, ← hup]
          · rw [World.cell?_setCell_other _ _ _ _ (by simp <;> omega), c1]
            by_cases hj2 : j < k
            · rw [if_pos hj2, if_pos (by omega)]
            · rw [if_neg hj2, if_neg (by omega)]
        have HN := Lib.hid hnx
        clear hnx hcap hup hbb
        go_wp2_with (go_at_call 34; refine (HC.out _).mono ?_; rintro e w' ⟨rfl, rfl⟩)
        go_roundw
        case rel => exact ⟨k + 1, by omega, by go_num, hb.setCell (p := ⟨w.heap.size, k, none⟩) (Nat.le_refl _) _, by simpa [World.setCell] using hgl, HN⟩
        case measure => simp [RowKit.intOf]; omega
      · have hno := lowB_no b (by simpa using hcap)
        rw [show capB (b.toNat : Nat) = false by simpa using hcap] at HC
        have hnx : Low wr w.heap.size (k + 1) L := fun j hj => by
          obtain ⟨c1, f1⟩ := H.out j hj
          refine ⟨?_, f1⟩
          by_cases hjk : j = k
          · subst hjk
            rw [if_pos (by omega), hbb, hno]
            exact cc
          · rw [c1]
            by_cases hj2 : j < k
            · rw [if_pos hj2, if_pos (by omega)]
            · rw [if_neg hj2, if_neg (by omega)]
        have HN := Lib.hid hnx
        clear hnx hcap hno hbb
        go_wp2_with (go_at_call 34; refine (HC.out _).mono ?_; rintro e w' ⟨rfl, rfl⟩)
        go_roundw
        case rel => exact ⟨k + 1, by omega, by go_num, hb, hgl, HN⟩
        case measure => simp [RowKit.intOf]; omega
    · obtain rfl : k = s.size := by omega
      have hbk := run_convert_bytes_back (P := Tryd.prog) wr 22 9 5 ⟨w.heap.size, 0, none⟩ cap (L.map lowB) Tryd.underlying22 Tryd.underlying5 Tryd.underlying9 (fun j hj => by
        have hjL : j < L.length := by simpa using hj
        have := (H.out j hjL).1
        rw [if_pos (by have := HS.out; omega)] at this
        have ea : ((⟨w.heap.size, 0, none⟩ : Addr).add j) = ⟨w.heap.size, j, none⟩ := by simp [Addr.add]; omega
        rw [ea, this]
        simp)
      rw [List.length_map, HS.out] at hbk
      go_wp2
      go_ret
      exact ⟨rfl, hb⟩
/-- What parts words. -/
def sepB (r : Nat) : Bool := !((decide (97 ≤ r) && decide (r ≤ 122)) || (decide (48 ≤ r) && decide (r ≤ 57)))
theorem sep_pred (w : World) : PredAt Tryd.prog 54 #[] encR sepB w := fun W r _ => by
  unfold FnGives sepB
  by_cases h1 : 97 ≤ r <;> by_cases h2 : r ≤ 122 <;> by_cases h3 : 48 ≤ r <;> by_cases h4 : r ≤ 57
  all_goals
    have z1 : (97 : Int) ≤ (r : Int) ↔ 97 ≤ r := by omega
    have z2 : (r : Int) ≤ 122 ↔ r ≤ 122 := by omega
    have z3 : (48 : Int) ≤ (r : Int) ↔ 48 ≤ r := by omega
    have z4 : (r : Int) ≤ 57 ↔ r ≤ 57 := by omega
    go_enter Tryd.func54, Tryd.ntmps54
    go_wp2
    all_goals first | (exfalso; omega) | (go_ret; exact ⟨by simp [h1, h2, h3, h4], 0, rfl⟩)
/-- The words of a text. -/
def wordsB (s : ByteArray) : List ByteArray := Lib.goFieldsP sepB (smallB s)
theorem smallB_size (s : ByteArray) : (smallB s).size = s.size := by
  show (smallB s).data.size = s.data.size
  simp [smallB]
theorem words_calls (s : ByteArray) (hs : s.size ≤ 1000000) (w : World) :
    Calls Tryd.prog 37 #[.string s] w fun e w' => (∃ A, e = .returned (.slice (some ⟨A, 0, none⟩) (wordsB s).length (wordsB s).length) ∧ w.heap.size ≤ A ∧ w'.ownsRow w.heap.size 9 1 (.slice (some ⟨A, 0, none⟩) (wordsB s).length (wordsB s).length) (wordsB s).length ((wordsB s).map Value.string)) ∧ Below w.heap.size w w' := by
  have H1 := Lib.hid (small_calls s hs w)
  have H2 := Lib.hid (fun W => Tryd.strings_FieldsFunc 54 #[] (enters_of Tryd.func54 (by kernel_rfl) rfl) sepB (smallB s) W (by rw [smallB_size]; omega) (sep_pred W))
  rw [show Lib.goFieldsP sepB (smallB s) = wordsB s from rfl] at H2
  go_enter Tryd.func37, Tryd.ntmps37
  go_wp2_with (first | (go_at_call 53; refine H1.out.mono ?_; rintro e w1 ⟨rfl, b1⟩) | (go_at_call 52; refine (H2.out _).mono ?_; rintro e w2 ⟨A, rfl, hA, hr, b2⟩))
  go_ret
  have hs1 := b1.size
  exact ⟨⟨A, rfl, by omega, hr.mono hs1⟩, b1.trans (b2.mono hs1)⟩
end Go.Proofs.YtmoloaneidledaaDoor

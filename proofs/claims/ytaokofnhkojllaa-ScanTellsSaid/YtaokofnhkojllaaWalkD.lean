/- Walks of layer 10's reader: row, size. -/
import Derived.Test.YtaokofnhkojllaaWalkC
set_option linter.unusedVariables false
set_option linter.unusedSimpArgs false
namespace Go.Proofs.Ytaokofnhkojllaa
open Go.Shelf Go.RowKit Go.Lib Go.Aids Go.MapLit Go.Proofs.YtaokofnhkojllaaW.PrintWords

/-- So many digits from a place on. -/
def rowF (s : ByteArray) : Nat → Nat → Nat → Option Nat
  | 0, x, _ => some x
  | f + 1, x, a => if digB (pk s a) = true then rowF s f (x * 10 + (pk s a - 48)) (a + 1) else none
def NumP (b base : Nat) (s : ByteArray) (l : List Tok) (w : World) (o : Option Nat) (a : Nat) (e : Ending) (w' : World) : Prop := match o with
  | some x => e = .returned (.int .i64 x) ∧ (∃ v, At w' b base v s a l) ∧ Below base w w'
  | none => Bad base w e w'
set_option maxHeartbeats 2000000 in
theorem row_calls (w : World) (b base : Nat) (v : Value) (s : ByteArray) (a : Nat) (l : List Tok) (n : Nat) (h : At w b base v s a l) (hs : s.size ≤ 1000000) (hn : a + n ≤ s.size) (h9 : n ≤ 9) :
    Calls Try.prog 56 #[.pointer (some ⟨b, 0, none⟩), .int .i64 n] w (NumP b base s l w (rowF s n 0 a) (a + n)) := by
  have HT := Lib.hid (take_at n h hs hn)
  obtain ⟨R, hR⟩ : ∃ R, rowF s n 0 a = R := ⟨_, rfl⟩
  rw [hR]
  have HR := Lib.hid hR
  have hz : (s.extract a (a + n)).size = n := by rw [ByteArray.size_extract]; omega
  have hg : ∀ j, j < n → ((s.extract a (a + n)).data.toList.getD j 0).toNat = pk s (a + j) := by
    intro j hj
    have hl : j < (s.extract a (a + n)).data.toList.length := by rw [Array.length_toList]; exact Nat.lt_of_lt_of_eq hj hz.symm
    rw [List.getD_eq_getElem?_getD, List.getElem?_eq_getElem hl, get_data _ _ (by omega), pk_ext s a (a + n) j (by omega) hn]
    show (UInt8.ofNat (pk s (a + j))).toNat = pk s (a + j)
    have := pk_256 s (a + j)
    rw [UInt8.toNat_ofNat']; omega
  obtain ⟨T, hT⟩ : ∃ T, s.extract a (a + n) = T := ⟨_, rfl⟩
  rw [hT] at HT hz hg
  have HG := Lib.hid hg
  have Hz := Lib.hid hz
  clear hR hT hg
  go_enter Try.func56, Try.ntmps56
  go_wp2_with fail
  refine HT.out.mono ?_
  rintro e w1 ⟨rfl, h1, b1⟩
  go_wp2_with (refine wpList_bytes rfl _ 9 30 5 rfl Try.underlying9 Try.underlying30 Try.underlying5 T rfl ?_; intro w2 c b2 hw2 hcells; have h2 := h1.below b2; have B2 := b1.trans (b2.mono h1.top); clear b2)
  obtain ⟨B, hB⟩ : ∃ B, w1.heap.size = B := ⟨_, rfl⟩
  rw [hB] at hcells hw2
  have HC : Hid (∀ j, j < n → w2.cell? ⟨B, j, none⟩ = some (.int .u8 (pk s (a + j)))) := Lib.hid fun j hj => by rw [hcells j (by rw [Hz.out]; exact hj), HG.out j hj]
  rw [hB]
  clear hcells hB
  go_loop [5, 13] (fun x i => ∃ k X : Nat, i = .int .i64 k ∧ x = .int .i64 X ∧ k ≤ n ∧ X < 10 ^ k ∧ Hid (rowF s (n - k) X (a + k) = R)) (fun _ i => n - (RowKit.intOf i).toNat)
  case atStart => exact ⟨0, 0, rfl, rfl, Nat.zero_le _, by decide, HR⟩
  case round =>
    obtain ⟨k, X, rfl, rfl, hk, hX, H⟩ := hrel
    have hX9 : X < 1000000000 := Nat.lt_of_lt_of_le hX (by
      have : 10 ^ k ≤ 10 ^ 9 := Nat.pow_le_pow_right (by decide) (by omega)
      simpa using this)
    by_cases hlt : k < n
    · have hcell := HC.out k hlt
      have hBl : B < w2.heap.size := by omega
      have hr := H.out
      rw [show n - k = (n - (k + 1)) + 1 by omega, rowF] at hr
      have hc := pk_256 s (a + k)
      obtain ⟨c, hcc⟩ : ∃ c, pk s (a + k) = c := ⟨_, rfl⟩
      rw [hcc] at hcell hr hc
      clear hcc H
      by_cases hd : 48 ≤ c ∧ c ≤ 57
      · have hd2 : digB c = true := decide_eq_true hd
        rw [if_pos hd2] at hr
        have hp1 : (48 : Int) ≤ c := by omega
        have hp2 : (c : Int) ≤ 57 := by omega
        have hwp : IntKind.u8.wrap ((c : Int) - 48) = (c : Int) - 48 := IntWalk.u8_in _ (by omega)
        have HH := Lib.hid hr
        have hX2 : X * 10 + (c - 48) < 10 ^ (k + 1) := by rw [Nat.pow_succ]; omega
        have HX2 := Lib.hid hX2
        clear hr hd hd2 hX hX2
        go_wp2
        go_round
        case rel => exact ⟨k + 1, X * 10 + (c - 48), by go_num, by go_num, by omega, HX2.out, HH⟩
        case measure => simp [RowKit.intOf]; omega
      · have hd2 : ¬ digB c = true := by unfold digB; rw [decide_eq_true_eq]; exact hd
        rw [if_neg hd2] at hr
        subst hr
        by_cases h48 : c < 48
        · have d1 : decide ((c : Int) < 48) = true := decide_eq_true (by omega)
          clear hd hd2
          go_wp2_with (go_at_call 36; refine (bad_calls _).mono ?_; rintro e w3 ⟨o, rfl, b3⟩)
          exact ⟨rfl, o, rfl, B2.trans (b3.mono h2.top)⟩
        · have d1 : decide ((c : Int) < 48) = false := decide_eq_false (by omega)
          have d2 : decide ((57 : Int) < c) = true := decide_eq_true (by omega)
          clear hd hd2
          go_wp2_with (go_at_call 36; refine (bad_calls _).mono ?_; rintro e w3 ⟨o, rfl, b3⟩)
          exact ⟨rfl, o, rfl, B2.trans (b3.mono h2.top)⟩
    · obtain rfl : k = n := by omega
      have hr := H.out
      rw [Nat.sub_self, rowF] at hr
      subst hr
      go_wp2
      go_ret
      exact ⟨rfl, ⟨v, h2⟩, B2⟩
theorem row_off (w : World) (b base : Nat) (v : Value) (s : ByteArray) (a : Nat) (l : List Tok) (n : Nat) (h : At w b base v s a l) (hs : s.size ≤ 1000000) (ha : a ≤ s.size) (hn : s.size < a + n) :
    Calls Try.prog 56 #[.pointer (some ⟨b, 0, none⟩), .int .i64 n] w (Bad base w) := by
  have HT := Lib.hid (take_off n h hs ha hn)
  go_enter Try.func56, Try.ntmps56
  go_wp2_with fail
  refine HT.out.mono ?_
  rintro e w1 ⟨o, rfl, b1⟩
  exact ⟨rfl, o, rfl, b1⟩
end Go.Proofs.Ytaokofnhkojllaa

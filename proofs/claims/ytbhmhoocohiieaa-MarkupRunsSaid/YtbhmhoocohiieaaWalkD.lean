/- Walks of the reference's functions. -/
import Derived.Test.YtbhmhoocohiieaaWalkC
import Derived.StillTailTactics
import Derived.Deep.DeepCutAuto
import Derived.Deep.CutBlock
set_option linter.unusedVariables false
set_option linter.unusedSimpArgs false
namespace Go.Proofs.Ytbhmhoocohiieaa
open Go.Shelf Go.RowKit Go.Lib Go.MapLit

def goodB (c : UInt8) : Bool := 33 ≤ c.toNat && c.toNat ≤ 126
def isNameB (s : ByteArray) : Bool := s.data.toList.all goodB && (decide (1 ≤ s.size) && decide (s.size ≤ 10))

theorem take_snoc (s : ByteArray) (k : Nat) (h : k < s.size) : s.data.toList.take (k + 1) = s.data.toList.take k ++ [s[k]] := by
  rw [List.take_succ_eq_append_getElem (by simpa using h)]; rfl

set_option maxHeartbeats 1000000 in
theorem isName_calls (s : ByteArray) (hs : s.size ≤ 100) (w : World) :
    Calls Try.prog 12 #[.string s] w fun e w' => e = .returned (.bool (isNameB s)) ∧ w = w' := by
  have hU : isNameB s = (s.data.toList.all goodB && (decide (1 ≤ s.size) && decide (s.size ≤ 10))) := rfl
  have HU := Lib.hid hU
  clear hU
  go_enter Try.func12, Try.ntmps12
  go_wp2
  go_loop [3] (fun i => ∃ k : Nat, k ≤ s.size ∧ i = .int .i64 k ∧ (s.data.toList.take k).all goodB = true) (fun i => s.size - (intOf i).toNat)
  case atStart => exact ⟨0, Nat.zero_le _, rfl, rfl⟩
  case round =>
    obtain ⟨k, hk, rfl, hall⟩ := hrel
    have Hall := Lib.hid hall
    clear hall
    by_cases hlt : k < s.size
    · have Hs := Lib.hid (take_snoc s k hlt)
      obtain ⟨n, hn, hn255⟩ : ∃ n : Nat, s[k].toNat = n ∧ n ≤ 255 := ⟨_, rfl, by have := s[k].toNat_lt; omega⟩
      have hx : ∀ h : k < s.size, ((s[k]'h).toNat : Int) = n := fun _ => by rw [hn]
      have Hn := Lib.hid hn
      clear hn
      by_cases hg : goodB s[k] = true
      · have hg' : 33 ≤ n ∧ n ≤ 126 := by simpa [goodB, Hn.out] using hg
        obtain ⟨g1, g2⟩ := hg'
        have Hg := Lib.hid hg
        clear hg
        go_wp2
        go_round
        case rel => exact ⟨k + 1, by omega, by go_num, by rw [Hs.out, List.all_append, Hall.out]; simp [Hg.out]⟩
        case measure => simp [intOf]; omega
      · have hg' : n < 33 ∨ 126 < n := by simp [goodB, Hn.out] at hg; omega
        have Hf : Hid (s.data.toList.all goodB = false) := by
          have : s.data.toList = s.data.toList.take (k + 1) ++ s.data.toList.drop (k + 1) := (List.take_append_drop _ _).symm
          show _ = _
          rw [this, Hs.out]
          simp [hg]
        clear hg
        rcases hg' with g1 | g1
        all_goals
          go_wp2
          go_ret
          exact ⟨by rw [HU.out, Hf.out]; rfl, rfl⟩
    · obtain rfl : k = s.size := by omega
      have Ht : Hid (s.data.toList.all goodB = true) := by
        have h := Hall.out
        rw [List.take_of_length_le (by simp)] at h
        exact h
      by_cases a1 : 1 ≤ (s.size : Int) <;> by_cases a2 : (s.size : Int) ≤ 10
      all_goals
        go_wp2
        go_ret
        refine ⟨?_, rfl⟩
        rw [HU.out, Ht.out]
        simp
        try omega

def hexC (n : Nat) : Nat := (hexD.data.getD n 0).toNat
theorem run_hexC (n : Nat) (hn : n < 16) (i : Int) (hi : i = n) (W : World) : (Instr.index 9 (.string ⟨#[48, 49, 50, 51, 52, 53, 54, 55, 56, 57, 97, 98, 99, 100, 101, 102]⟩) (.int .u8 i)).run Try.prog W = .ok (.int .u8 (hexC n)) W := by
  subst hi
  rw [run_index_string (P := Try.prog) (w := W) 9 _ .u8 (n : Int) Try.underlying9, dif_pos ⟨by omega, by show (n : Int) < 16; omega⟩]
  have : n = 0 ∨ n = 1 ∨ n = 2 ∨ n = 3 ∨ n = 4 ∨ n = 5 ∨ n = 6 ∨ n = 7 ∨ n = 8 ∨ n = 9 ∨ n = 10 ∨ n = 11 ∨ n = 12 ∨ n = 13 ∨ n = 14 ∨ n = 15 := by omega
  rcases this with h | h | h | h | h | h | h | h | h | h | h | h | h | h | h | h <;> subst h <;> rfl
theorem hex_two (n m : Nat) (hn : n < 16) (hm : m < 16) : hexAt n ++ hexAt m = strOfNums [(hexC n : Int), (hexC m : Int)] := by
  have h1 : ∀ n, n < 16 → hexAt n = ⟨#[UInt8.ofNat (hexC n)]⟩ := by
    intro n hn
    have : n = 0 ∨ n = 1 ∨ n = 2 ∨ n = 3 ∨ n = 4 ∨ n = 5 ∨ n = 6 ∨ n = 7 ∨ n = 8 ∨ n = 9 ∨ n = 10 ∨ n = 11 ∨ n = 12 ∨ n = 13 ∨ n = 14 ∨ n = 15 := by omega
    rcases this with h | h | h | h | h | h | h | h | h | h | h | h | h | h | h | h <;> subst h <;> decide
  rw [h1 n hn, h1 m hm]
  simp [strOfNums]
  rfl
set_option maxHeartbeats 400000 in
theorem hex_calls (n : Nat) (hn : n ≤ 255) (w : World) :
    Calls Try.prog 13 #[.int .u8 n] w fun e w' => e = .returned (.string (hexAt (n / 16) ++ hexAt (n % 16))) ∧ Below w.heap.size w w' := by
  have q1 : IntKind.u8.wrap ((n : Int) / 16) = (n : Int) / 16 := IntWalk.u8_in _ (by omega)
  have t1 := run_hexC (n / 16) (by omega) ((n : Int) / 16) (by omega)
  have t2 := run_hexC (n % 16) (by omega) ((n : Int).tmod 16) (by rw [Int.tmod_eq_emod_of_nonneg (by omega)]; omega)
  have hc : (convert 46 9 (.slice (some ⟨w.heap.size, 0, none⟩) 2 2)).run Try.prog ((w.alloc (.cells #[.int .u8 (hexC (n / 16)), .int .u8 (hexC (n % 16))] 5)).drew) = .ok (.string (strOfNums [(hexC (n / 16) : Int), (hexC (n % 16) : Int)])) ((w.alloc (.cells #[.int .u8 (hexC (n / 16)), .int .u8 (hexC (n % 16))] 5)).drew) := by
    refine run_convert_bytes_arg _ 46 5 Try.underlying46 Try.underlying5 w.heap.size 0 2 2 _ rfl ?_ 9 Try.underlying9
    intro i hi
    have : i = 0 ∨ i = 1 := by omega
    rcases this with rfl | rfl <;> simp
  have Hv := Lib.hid (hex_two (n / 16) (n % 16) (by omega) (by omega))
  go_enter Try.func13, Try.ntmps13
  go_wp2
  go_still_tail 8, (by kernel_rfl)
  go_wp2
  go_ret
  exact ⟨by rw [Hv.out]; rfl, ((Below.refl _ w).alloc (Nat.le_refl _) _).drew⟩

theorem isName_is {s : ByteArray} {b : Bool} (h : isNameB s = b) (hs : s.size ≤ 100) (w : World) :
    Calls Try.prog 12 #[.string s] w fun e w' => e = .returned (.bool b) ∧ w = w' := by
  rw [← h]; exact isName_calls s hs w
theorem name_no (s : ByteArray) (hs : s.size ≤ 100) (h : isNameB s = false) (w : World) :
    Calls Try.prog 7 #[.string s] w fun e w' => e = .returned (.tuple #[.string ⟨#[]⟩, .int .i64 1]) ∧ Below w.heap.size w w' := by
  have H := Lib.hid h
  clear h
  go_enter Try.func7, Try.ntmps7
  go_wp2_with (go_at_call 12; (with_reducible refine (isName_is H.out hs _).mono ?_); rintro e w1 ⟨rfl, rfl⟩)
  go_ret2
  exact ⟨rfl, Below.refl _ _⟩

def oneS (s : ByteArray) : ByteArray := if (s.data.toList.getD 0 0).toNat = 38 then ⟨#[38, 97, 109, 112, 59]⟩ else if (s.data.toList.getD 0 0).toNat = 60 then ⟨#[38, 108, 116, 59]⟩ else if (s.data.toList.getD 0 0).toNat = 62 then ⟨#[38, 103, 116, 59]⟩ else if (s.data.toList.getD 0 0).toNat = 34 then ⟨#[38, 113, 117, 111, 116, 59]⟩ else s
set_option maxHeartbeats 1000000 in
theorem name_one (s : ByteArray) (hs : s.size = 1) (h : isNameB s = true) (w : World) :
    Calls Try.prog 7 #[.string s] w fun e w' => e = .returned (.tuple #[.string (oneS s), .int .i64 0]) ∧ Below w.heap.size w w' := by
  have H := Lib.hid h
  have Hs := Lib.hid hs
  have h0 : 0 < s.size := by omega
  have h1 : ((s.size : Int) == 1) = true := by rw [hs]; rfl
  clear h hs
  obtain ⟨n, hn⟩ : ∃ n : Nat, (s.data.toList.getD 0 0).toNat = n := ⟨_, rfl⟩
  have hx : ∀ h : 0 < s.size, ((s[0]'h).toNat : Int) = n := fun h => by rw [← hn]; simp [ByteArray.getElem_eq_getElem_data, List.getD, h0]
  unfold oneS
  rw [hn]
  clear hn
  by_cases a1 : n = 38
  · subst a1
    go_enter Try.func7, Try.ntmps7
    go_wp2_with (go_at_call 12; (with_reducible refine (isName_is H.out (by rw [Hs.out]; omega) _).mono ?_); rintro e w1 ⟨rfl, rfl⟩)
    go_ret2
    exact ⟨rfl, Below.refl _ _⟩
  have b1 : ((n : Int) == 38) = false := by simp; omega
  by_cases a2 : n = 60
  · subst a2
    go_enter Try.func7, Try.ntmps7
    go_wp2_with (go_at_call 12; (with_reducible refine (isName_is H.out (by rw [Hs.out]; omega) _).mono ?_); rintro e w1 ⟨rfl, rfl⟩)
    go_ret2
    exact ⟨rfl, Below.refl _ _⟩
  have b2 : ((n : Int) == 60) = false := by simp; omega
  by_cases a3 : n = 62
  · subst a3
    go_enter Try.func7, Try.ntmps7
    go_wp2_with (go_at_call 12; (with_reducible refine (isName_is H.out (by rw [Hs.out]; omega) _).mono ?_); rintro e w1 ⟨rfl, rfl⟩)
    go_ret2
    exact ⟨rfl, Below.refl _ _⟩
  have b3 : ((n : Int) == 62) = false := by simp; omega
  by_cases a4 : n = 34
  · subst a4
    go_enter Try.func7, Try.ntmps7
    go_wp2_with (go_at_call 12; (with_reducible refine (isName_is H.out (by rw [Hs.out]; omega) _).mono ?_); rintro e w1 ⟨rfl, rfl⟩)
    go_ret2
    exact ⟨rfl, Below.refl _ _⟩
  have b4 : ((n : Int) == 34) = false := by simp; omega
  rw [if_neg a1, if_neg a2, if_neg a3, if_neg a4]
  clear a1 a2 a3 a4
  go_enter Try.func7, Try.ntmps7
  go_wp2_with (go_at_call 12; (with_reducible refine (isName_is H.out (by rw [Hs.out]; omega) _).mono ?_); rintro e w1 ⟨rfl, rfl⟩)
  go_ret2
  exact ⟨rfl, Below.refl _ _⟩

def p0 (s : ByteArray) : Bool := decide ((s.data.toList.getD 0 0).toNat ≠ 35) && !taken s
def not59 (c : UInt8) : Bool := decide (c.toNat ≠ 59)
def longS (s : ByteArray) : ByteArray := if p0 s && s.data.toList.all not59 then (⟨#[38]⟩ ++ s) ++ ⟨#[59]⟩ else (⟨#[38, 35]⟩ ++ codedTo s s.size) ++ ⟨#[59]⟩
theorem p0_eq (s : ByteArray) : p0 s = ((((s.data.toList.getD 0 0).toNat : Int) != 35) && !(s.toList == [97, 109, 112]) && !(s.toList == [108, 116]) && !(s.toList == [103, 116]) && !(s.toList == [113, 117, 111, 116])) := by
  have e1 : (⟨#[97, 109, 112]⟩ : ByteArray).toList = [97, 109, 112] := by rw [ByteArray.toList_eq]
  have e2 : (⟨#[108, 116]⟩ : ByteArray).toList = [108, 116] := by rw [ByteArray.toList_eq]
  have e3 : (⟨#[103, 116]⟩ : ByteArray).toList = [103, 116] := by rw [ByteArray.toList_eq]
  have e4 : (⟨#[113, 117, 111, 116]⟩ : ByteArray).toList = [113, 117, 111, 116] := by rw [ByteArray.toList_eq]
  unfold p0 taken signsL
  simp only [List.any_cons, List.any_nil, e1, e2, e3, e4, Bool.or_false]
  rw [Bool.eq_iff_iff]
  simp
  constructor
  · rintro ⟨h1, h2, h3, h4, h5⟩
    exact ⟨⟨⟨⟨by omega, fun h => h2 h.symm⟩, fun h => h3 h.symm⟩, fun h => h4 h.symm⟩, fun h => h5 h.symm⟩
  · rintro ⟨⟨⟨⟨h1, h2⟩, h3⟩, h4⟩, h5⟩
    exact ⟨by omega, fun h => h2 h.symm, fun h => h3 h.symm, fun h => h4 h.symm, fun h => h5 h.symm⟩
set_option maxHeartbeats 2000000 in
theorem name_long (s : ByteArray) (hs : s.size ≤ 100) (hs1 : 1 < s.size) (h : isNameB s = true) (w : World) :
    Calls Try.prog 7 #[.string s] w fun e w' => e = .returned (.tuple #[.string (longS s), .int .i64 0]) ∧ Below w.heap.size w w' := by
  have H := Lib.hid h
  have h1 : ((s.size : Int) == 1) = false := by simp; omega
  clear h
  obtain ⟨n, hn⟩ : ∃ n : Nat, (s.data.toList.getD 0 0).toNat = n := ⟨_, rfl⟩
  have hx : ∀ h : 0 < s.size, ((s[0]'h).toNat : Int) = n := fun h => by rw [← hn]; simp [ByteArray.getElem_eq_getElem_data, List.getD, h]
  have Hn := Lib.hid hn
  clear hn
  go_enter Try.func7, Try.ntmps7
  go_upto_region 14 with (go_at_call 12; (with_reducible refine (isName_is H.out hs _).mono ?_); rintro e w1 ⟨rfl, rfl⟩)
  go_cut [4] (fun v wc => v = .bool (p0 s) ∧ w = wc)
  case first =>
    have HP := Lib.hid (p0_eq s)
    rw [Hn.out] at HP
    go_wp2
    all_goals
      go_meet
      case rel => exact ⟨by rw [HP.out]; try simp_all, rfl⟩
  case rest =>
    obtain ⟨rfl, rfl⟩ := hcut
    go_wp2
    go_loopw [4, 5, 6] (fun v h i wr => ∃ k : Nat, k ≤ s.size ∧ i = .int .i64 k ∧ v = .bool (p0 s && (s.data.toList.take k).all not59) ∧ h = .string (codedTo s k) ∧ Below w.heap.size w wr) (fun _ _ i _ => s.size - (intOf i).toNat)
    case atStart => exact ⟨0, Nat.zero_le _, rfl, by simp, rfl, Below.refl _ _⟩
    case round =>
      obtain ⟨k, hk, rfl, rfl, rfl, hb⟩ := hrel
      have z3 : (codedTo s k).size ≤ 32 * k := codedTo_size s k
      have hz : w.heap.size ≤ wr.heap.size := hb.size
      obtain ⟨b, hbb⟩ : ∃ b, (p0 s && (s.data.toList.take k).all not59) = b := ⟨_, rfl⟩
      rw [hbb]
      have HB := Lib.hid hbb
      clear hbb hx
      by_cases hlt : k < s.size
      · have hq := take_snoc s k hlt
        have hy : (s.data.toList.getD k 0).toNat = s[k].toNat := by simp [ByteArray.getElem_eq_getElem_data, List.getD, hlt]
        obtain ⟨m, hm, hm255⟩ : ∃ m : Nat, s[k].toNat = m ∧ m ≤ 255 := ⟨_, rfl, by have := s[k].toNat_lt; omega⟩
        have h59 : not59 s[k] = ((m : Int) != 59) := by
          unfold not59; rw [hm, Bool.eq_iff_iff]; simp; omega
        have hx : ∀ h : k < s.size, ((s[k]'h).toNat : Int) = m := fun _ => by rw [hm]
        rw [hm] at hy
        have Hy := Lib.hid hy
        have Hq := Lib.hid hq
        have H59 := Lib.hid h59
        clear hm hy hq h59
        have y1 := hexAt_size (m / 16)
        have y2 := hexAt_size (m % 16)
        have y3 : (hexAt (m / 16) ++ hexAt (m % 16)).size ≤ 32 := by rw [ByteArray.size_append]; omega
        cases b
        all_goals
          go_wp2_with (go_at_call 13; (with_reducible refine (hex_calls m hm255 _).mono ?_); rintro e w2 ⟨rfl, hb2⟩)
          go_roundw
          case rel => exact ⟨k + 1, by omega, by go_num, by rw [Hq.out, List.all_append, ← Bool.and_assoc, HB.out]; simp [H59.out], by rw [codedTo, Hy.out], hb.trans (hb2.mono hz)⟩
          case measure => simp [intOf]; omega
      · obtain rfl : k = s.size := by omega
        have HL : Hid (longS s = if b then (⟨#[38]⟩ ++ s) ++ ⟨#[59]⟩ else (⟨#[38, 35]⟩ ++ codedTo s s.size) ++ ⟨#[59]⟩) := by
          have h := HB.out
          rw [List.take_of_length_le (by simp)] at h
          unfold longS
          rw [h]
          rfl
        cases b
        all_goals
          go_wp2
          go_ret2
          exact ⟨by rw [HL.out]; rfl, hb⟩

end Go.Proofs.Ytbhmhoocohiieaa

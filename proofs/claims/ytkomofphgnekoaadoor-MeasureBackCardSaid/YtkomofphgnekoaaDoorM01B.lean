/- Walks: Text. -/
import Derived.Test.YtkomofphgnekoaaDoorM01A
import Derived.Test.YtkomofphgnekoaaDoorShelf
import Derived.Lib.SmallJoins
import Derived.Lib.AppendIntMem
set_option linter.unusedVariables false
set_option linter.unusedSimpArgs false
namespace Go.Proofs.YtkomofphgnekoaaDoor
open Go.Shelf Go.RowKit Go.Lib Go.Aids Go.MapLit

abbrev Tab (w : World) : Prop := Lib.TabIs Tryd.prog w "internal/strconv.uint64pow10" .u64 Lib.pow10Tab
theorem gPow : Tryd.prog.globalNamed "internal/strconv.uint64pow10" = some 1 := by kernel_rfl
theorem Tab.below {w w' : World} (h : Tab w) (hb : Below w.heap.size w w') : Tab w' := _root_.Go.Joins.tab_stays gPow h hb (Nat.le_refl _)
theorem digs_dec : ∀ k n, n ≤ k → digs n = ⟨(Lib.decDigits n).toArray⟩
  | 0, n, h => by
    obtain rfl : n = 0 := by omega
    rw [digs, Lib.decDigits]; rfl
  | k + 1, n, h => by
    by_cases hn : n < 10
    · rw [digs, Lib.decDigits, dif_pos hn, dif_pos hn]; rfl
    · rw [digs, Lib.decDigits, dif_neg hn, dif_neg hn, digs_dec k (n / 10) (by omega)]
      apply ByteArray.ext
      simp [ByteArray.data_append, one]
theorem itoa_calls (n : Nat) (hn : n ≤ 9223372036854775807) (w : World) (ht : Tab w) : Calls Tryd.prog 15 #[.int .i64 n] w fun e w' => e = .returned (.string (digs n)) ∧ Below w.heap.size w w' := by
  refine (Tryd.strconv_Itoa n (by omega) (by omega) w ht).mono ?_
  rintro e w' ⟨rfl, k, os, rfl⟩
  refine ⟨?_, Lib.below_grow _ w (Nat.le_refl _) k os⟩
  have e1 : Lib.itoa (n : Int) = Lib.decDigits n := by unfold Lib.itoa; rw [if_neg (by omega)]; rfl
  rw [e1, digs_dec n n (Nat.le_refl _)]
theorem dl_five (r : Nat) (h : r < 10000) : dl (10000 + r) = 49 :: partL r := by
  rw [dl_high _ (by omega), dl_high _ (by omega), dl_high _ (by omega), dl_high _ (by omega), dl_low _ (by omega)]
  rw [show (10000 + r) / 10 / 10 / 10 / 10 = 1 by omega, show (10000 + r) / 10 / 10 / 10 % 10 = r / 1000 by omega, show (10000 + r) / 10 / 10 % 10 = r / 100 % 10 by omega, show (10000 + r) / 10 % 10 = r / 10 % 10 by omega, show (10000 + r) % 10 = r % 10 by omega]
  rfl
theorem five_size (r : Nat) (h : r < 10000) : (digs (10000 + r)).size = 5 := by
  have := congrArg List.length (dl_five r h)
  rw [dl, Array.length_toList] at this
  exact this
theorem five_tail (r : Nat) (h : r < 10000) : (digs (10000 + r)).extract 1 5 = ⟨(partL r).toArray⟩ := by
  apply ByteArray.ext
  apply Array.ext'
  have := dl_five r h
  rw [dl] at this
  rw [ByteArray.data_extract, Array.toList_extract, this]
  rfl
theorem rest_lt (n b : Nat) : restN n b < 10000 := by
  unfold restN
  have h := unitN_pos b
  have h2 := Nat.mod_lt n (show 0 < unitN b by omega)
  rw [Nat.div_lt_iff_lt_mul (by omega)]
  have := Nat.mul_lt_mul_of_pos_right h2 (show 0 < 10000 by decide)
  rw [Nat.mul_comm 10000]
  exact this
theorem trim_part (l : List UInt8) : Lib.trimRightB l 48 = trimR l := rfl
def isUnit (b : Nat) : Prop := b = 117 ∨ b = 112 ∨ b = 80 ∨ b = 105
instance (b : Nat) : Decidable (isUnit b) := by unfold isUnit; infer_instance
theorem unit_find (b : Nat) (hb : isUnit b) : find (scL 0 0) (b : Int) = some (unitN b : Int) := by
  rcases hb with rfl | rfl | rfl | rfl <;> rfl
theorem unit_index (b : Nat) (hb : isUnit b) : ∃ i : Nat, Lib.indexByte [117, 112, 80, 105] ((b : Int).toNat.toUInt8) = (i : Int) := by
  rcases hb with rfl | rfl | rfl | rfl
  · exact ⟨0, rfl⟩
  · exact ⟨1, rfl⟩
  · exact ⟨2, rfl⟩
  · exact ⟨3, rfl⟩
theorem unit_none (b : Nat) (h : b < 256) (hb : ¬ isUnit b) : Lib.indexByte [117, 112, 80, 105] ((b : Int).toNat.toUInt8) = -1 := by
  have : ∀ m : Fin 256, ¬ isUnit m.1 → Lib.indexByte [117, 112, 80, 105] (m.1.toUInt8) = -1 := by decide +kernel
  exact this ⟨b, h⟩ hb
def textO (n : Int) (b : Nat) : ByteArray × Int := if n < 0 ∨ ¬ isUnit b then (⟨#[]⟩, 1) else (textT n.toNat b, 0)
theorem encode_unit (b : Nat) (hb : isUnit b) : Utf8.encode (b : Int) = ⟨#[UInt8.ofNat b]⟩ := by
  rcases hb with rfl | rfl | rfl | rfl <;> rfl
theorem digs_small (n : Nat) (h : n ≤ 9223372036854775807) : (digs n).size ≤ 19 := by
  have h1 := dl_len 19 n (by decide) (by omega)
  rw [dl, Array.length_toList] at h1
  exact h1
theorem trimR_len (l : List UInt8) : (trimR l).length ≤ l.length := by
  unfold trimR
  rw [List.length_reverse]
  have := (List.dropWhile_sublist (p := (· == (48 : UInt8))) (l := l.reverse)).length_le
  rw [List.length_reverse] at this
  exact this
theorem ar1 (n u : Nat) (hq : n / u ≤ 9223372036854775807) : wrap64 ((n : Int) / (u : Int)) = ((n / u : Nat) : Int) := by
  rw [← Int.natCast_ediv]
  generalize n / u = q at *
  exact wrap64_in _ (by omega) (by omega)
theorem ar0 (u : Nat) (h : 1 ≤ u) : ((u : Int) == 0) = false := by rw [beq_eq_false_iff_ne]; omega
theorem ar5 (r : Nat) (hr : r < 10000) : wrap64 (10000 + (r : Int)) = 10000 + (r : Int) := wrap64_in _ (by omega) (by omega)
theorem ar2 (n u : Nat) : (n : Int) % (u : Int) = ((n % u : Nat) : Int) := by
  rw [← Int.natCast_emod]
theorem ar3 (m : Nat) (hm : m ≤ 720) : wrap64 ((m : Int) * 10000) = ((m * 10000 : Nat) : Int) := by
  rw [wrap64_in _ (by omega) (by omega)]; omega
theorem dotL_full (p : List UInt8) (h : (!p.isEmpty) = true) : (⟨(dotL p).toArray⟩ : ByteArray) = ⟨#[46]⟩ ++ ⟨p.toArray⟩ := by
  unfold dotL
  rw [if_neg (by rintro rfl; exact absurd h (by decide))]
  apply ByteArray.ext
  simp [ByteArray.data_append]
theorem dotL_none (p : List UInt8) (h : (!p.isEmpty) = false) : ∀ D : ByteArray, D ++ (⟨(dotL p).toArray⟩ : ByteArray) = D := by
  intro D
  cases p with
  | nil =>
    rw [show dotL [] = [] from rfl]
    apply ByteArray.ext
    simp [ByteArray.data_append]
  | cons x l => exact absurd h (by simp)
set_option maxRecDepth 100000 in
set_option maxHeartbeats 2000000 in
theorem text_good (n b : Nat) (hn : n ≤ 9223372036854775807) (hb : isUnit b) (w : World) (ht : Tab w) :
    Calls Tryd.prog 5 #[.int .i64 n, .int .u8 b] w fun e w' => e = .returned (.tuple #[.string (textT n b), .int .i64 0]) ∧ Below w.heap.size w w' := by
  have hu := unitN_pos b
  have hr := rest_lt n b
  obtain ⟨i, hi⟩ := unit_index b hb
  have H13 := Lib.hid (fun W => Tryd.strings_IndexByte ⟨#[117, 112, 80, 105]⟩ (b : Int) W)
  rw [show (⟨#[117, 112, 80, 105]⟩ : ByteArray).data.toList = [117, 112, 80, 105] from rfl, hi] at H13
  have H14 := Lib.hid (fun W => scales_calls 0 0 0 W)
  have hlk : ∀ W m, MapIs eK eV W m (scL 0 0) → (Instr.lookup 39 (.map (some m)) (.int .u8 b) false).run Tryd.prog W = .ok (.int .i64 (unitN b)) W := fun W m hm => by
    have := run_lookup eK eV keyU Tryd.underlying39 zeroI (scL 0 0) (b : Int) (w := W) (b := m) hm false
    rw [unit_find b hb] at this
    exact this
  have HLK := Lib.hid hlk
  clear hlk
  have HT := Lib.hid (fun W (h : Below w.heap.size w W) => ht.below h)
  have HD : Hid (textT n b = digs (n / unitN b) ++ ⟨(dotL (partO (restN n b))).toArray⟩ ++ ⟨#[UInt8.ofNat b]⟩) := Lib.hid rfl
  have HE := Lib.hid (encode_unit b hb)
  obtain ⟨E, hE⟩ : ∃ E, Utf8.encode (b : Int) = E := ⟨_, rfl⟩
  rw [hE] at HE
  obtain ⟨c, hc⟩ : ∃ c : Int, (b : Int) = c := ⟨_, rfl⟩
  rw [hc] at hE H13 HLK ⊢
  clear hc
  have hEs : E.size = 1 := by rw [HE.out]; rfl
  obtain ⟨T, hTT⟩ : ∃ T, textT n b = T := ⟨_, rfl⟩
  rw [hTT] at HD ⊢
  have hX5 := five_size (restN n b) hr
  have hXt := five_tail (restN n b) hr
  have hq : n / unitN b ≤ 9223372036854775807 := Nat.le_trans (Nat.div_le_self _ _) hn
  have hqs := digs_small (n / unitN b) hq
  have hm := Nat.mod_lt n (show 0 < unitN b by omega)
  have hrd : n % unitN b * 10000 / unitN b = restN n b := rfl
  obtain ⟨u, hU⟩ : ∃ u, unitN b = u := ⟨_, rfl⟩
  obtain ⟨r, hR⟩ : ∃ r, restN n b = r := ⟨_, rfl⟩
  rw [hU] at hu HLK HD hq hqs hm hrd
  rw [hR] at hr HD hX5 hXt hrd
  have a0 := ar0 u hu.1
  have a1 := ar1 n u hq
  have a2 := ar2 n u
  have a3 := ar3 (n % u) (Nat.le_of_lt (Nat.lt_of_lt_of_le hm hu.2))
  have a4 : wrap64 (((n % u * 10000 : Nat) : Int) / (u : Int)) = (r : Int) := by
    rw [ar1 (n % u * 10000) u (by rw [hrd]; exact Nat.le_trans (Nat.le_of_lt hr) (by decide)), hrd]
  have a5 := ar5 r hr
  have H15a := Lib.hid (fun W h => itoa_calls (n / u) hq W h)
  have H15b : Hid (∀ W, Tab W → Calls Tryd.prog 15 #[.int .i64 (10000 + (r : Int))] W fun e w' => e = .returned (.string (digs (10000 + r))) ∧ Below W.heap.size W w') := Lib.hid (fun W h => by
    have := itoa_calls (10000 + r) (Nat.le_trans (Nat.add_le_add_left (Nat.le_of_lt hr) _) (by decide)) W h
    rw [Int.natCast_add] at this
    exact this)
  obtain ⟨q, hQ⟩ : ∃ q, n / u = q := ⟨_, rfl⟩
  obtain ⟨m, hM⟩ : ∃ q, n % u = q := ⟨_, rfl⟩
  obtain ⟨m2, hM2⟩ : ∃ q, m * 10000 = q := ⟨_, rfl⟩
  obtain ⟨x, hXX⟩ : ∃ q, 10000 + r = q := ⟨_, rfl⟩
  rw [hQ] at a1 H15a HD hqs
  rw [hM] at a2
  rw [hM, hM2] at a3 a4
  rw [hXX] at H15b hX5 hXt
  obtain ⟨X, hXd⟩ : ∃ X, digs x = X := ⟨_, rfl⟩
  obtain ⟨D, hDd⟩ : ∃ X, digs q = X := ⟨_, rfl⟩
  rw [hXd] at H15b hX5 hXt
  rw [hDd] at H15a HD hqs
  have H16 := Lib.hid (fun W => Tryd.strings_TrimRight_one ⟨(partL r).toArray⟩ 48 (by decide) W (by show 4 ≤ _; decide))
  rw [show Lib.trimRightB (⟨(partL r).toArray⟩ : ByteArray).data.toList 48 = partO r from rfl] at H16
  clear hrd hm hq hU hR hQ hM hM2 hXX hXd hDd hTT hi ht
  have hp4 : (partO r).length ≤ 4 := trimR_len (partL r)
  obtain ⟨p, hp⟩ : ∃ p, partO r = p := ⟨_, rfl⟩
  rw [hp] at H16 HD hp4
  have hX1 : (1 : Int) ≤ X.size := by omega
  clear hp
  go_enter Tryd.func5, Tryd.ntmps5
  go_wp2_with (first
    | (go_at_call 13; refine (H13.out _).mono ?_; rintro e w1 ⟨rfl, rfl⟩)
    | (go_at_call 14; refine (H14.out _).mono ?_; rintro e w2 ⟨rfl, hm2, hb2⟩; have hlk2 := HLK.out _ _ hm2; clear hm2)
    | (go_at_call 15; go_loud (first
      | (with_reducible refine (H15a.out _ (HT.out _ hb2)).mono ?_; rintro e w3 ⟨rfl, hb3⟩; have B3 := hb2.trans (hb3.mono hb2.size); clear hb3 H15a hlk2)
      | (with_reducible refine (H15b.out _ (HT.out _ B3)).mono ?_; rintro e w4 ⟨rfl, hb4⟩; have B4 := B3.trans (hb4.mono B3.size); clear hb4)))
    | (go_at_call 16; refine (H16.out _).mono ?_; rintro e w5 ⟨rfl, rfl⟩))
  all_goals go_ret2
  · refine ⟨?_, B4⟩
    rw [HD.out, HE.out, dotL_full p (by assumption)]; rfl
  · refine ⟨?_, B4⟩
    rw [HD.out, HE.out, dotL_none p (by assumption)]; rfl
set_option maxRecDepth 100000 in
theorem text_neg (n b : Int) (hn : n < 0) (w : World) : Calls Tryd.prog 5 #[.int .i64 n, .int .u8 b] w fun e w' => e = .returned (.tuple #[.string ⟨#[]⟩, .int .i64 1]) ∧ Below w.heap.size w w' := by
  go_enter Tryd.func5, Tryd.ntmps5
  go_wp2
  go_ret2
  exact ⟨rfl, Below.refl _ _⟩
set_option maxRecDepth 100000 in
theorem text_none (n b : Nat) (h : b < 256) (hb : ¬ isUnit b) (w : World) : Calls Tryd.prog 5 #[.int .i64 n, .int .u8 b] w fun e w' => e = .returned (.tuple #[.string ⟨#[]⟩, .int .i64 1]) ∧ Below w.heap.size w w' := by
  have H13 := Lib.hid (fun W => Tryd.strings_IndexByte ⟨#[117, 112, 80, 105]⟩ (b : Int) W)
  rw [show (⟨#[117, 112, 80, 105]⟩ : ByteArray).data.toList = [117, 112, 80, 105] from rfl, unit_none b h hb] at H13
  generalize (b : Int) = c at *
  go_enter Tryd.func5, Tryd.ntmps5
  go_wp2_with (go_at_call 13; refine (H13.out _).mono ?_; rintro e w1 ⟨rfl, rfl⟩)
  go_ret2
  exact ⟨rfl, Below.refl _ _⟩
theorem text_calls (n : Int) (b : Nat) (h1 : n ≤ 9223372036854775807) (h : b < 256) (w : World) (ht : Tab w) : Calls Tryd.prog 5 #[.int .i64 n, .int .u8 b] w fun e w' => e = .returned (.tuple #[.string (textO n b).1, .int .i64 (textO n b).2]) ∧ Below w.heap.size w w' := by
  unfold textO
  by_cases hn : n < 0
  · rw [if_pos (Or.inl hn)]; exact text_neg n b hn w
  · obtain ⟨k, rfl⟩ := Int.eq_ofNat_of_zero_le (Int.not_lt.1 hn)
    by_cases hb : isUnit b
    · rw [if_neg (fun q => q.elim hn (fun q => q hb))]; exact text_good k b (by omega) hb w ht
    · rw [if_pos (Or.inr hb)]; exact text_none k b h hb w
end Go.Proofs.YtkomofphgnekoaaDoor

/- Merged: M01A, M01B, M01C, M01D, M01E, M01F, M01G, M01H. -/
import Derived.Test.YtkomofphgnekoaaDoorPureB
import Derived.Test.YtkomofphgnekoaaDoorShelf
import Derived.Lib.SmallJoins
import Derived.Lib.AppendIntMem
import Derived.Test.YtkomofphgnekoaaDoorWalkM
import Derived.Test.YtkomofphgnekoaaDoorOpens
import Derived.Test.YtkomofphgnekoaaDoorRows
import Derived.Lib.LaidTab
import Derived.MakeChecks
import Derived.Stop.LaidErr
import Derived.Test.YtkomofphgnekoaaDoorDigits
import Derived.Test.YtkomofphgnekoaaDoorPletterx1
import Derived.Test.YtkomofphgnekoaaDoorPasx1
import Derived.Deep.RegionHeld3
set_option linter.unusedVariables false
set_option linter.unusedSimpArgs false
namespace Go.Proofs.YtkomofphgnekoaaDoor

theorem pre_at {s : ByteArray} {a : Nat} {l : List UInt8} (h : At s a l) (p : ByteArray) : pre s p a = p.data.toList.isPrefixOf l := by
  unfold pre
  rw [h]
  rfl
theorem oper_end {s : ByteArray} {a : Nat} (h : At s a []) : operL s a = none := by
  unfold operL ops
  simp [List.find?_cons, pre_at h, List.isPrefixOf]
theorem At.start (s : ByteArray) : At s 0 s.data.toList := rfl
/-- A unit's size. -/
def unitN (b : Nat) : Nat := if b = 117 then 1 else if b = 112 then 10 else if b = 80 then 120 else 720
theorem unitN_pos (b : Nat) : 1 ≤ unitN b ∧ unitN b ≤ 720 := by unfold unitN; split <;> (try split) <;> (try split) <;> omega
def partL (r : Nat) : List UInt8 := [UInt8.ofNat (48 + r / 1000), UInt8.ofNat (48 + r / 100 % 10), UInt8.ofNat (48 + r / 10 % 10), UInt8.ofNat (48 + r % 10)]
def trimR (l : List UInt8) : List UInt8 := (l.reverse.dropWhile (· == 48)).reverse
def partO (r : Nat) : List UInt8 := trimR (partL r)
def restN (n b : Nat) : Nat := n % unitN b * 10000 / unitN b
def dotL (p : List UInt8) : List UInt8 := if p = [] then [] else 46 :: p
def textT (n b : Nat) : ByteArray := digs (n / unitN b) ++ ⟨(dotL (partO (restN n b))).toArray⟩ ++ ⟨#[UInt8.ofNat b]⟩
theorem text_list (n b : Nat) : (textT n b).data.toList = dl (n / unitN b) ++ (dotL (partO (restN n b)) ++ [UInt8.ofNat b]) := by
  unfold textT dl
  rw [list_append, list_append, List.append_assoc]
theorem part_point : ∀ d : Fin 10, partO (d.1 * 1000) = if d.1 = 0 then [] else [UInt8.ofNat (48 + d.1)] := by decide
theorem rest_u (n : Nat) : restN n 117 = 0 := by unfold restN; rw [show unitN 117 = 1 from rfl, Nat.mod_one, Nat.zero_mul, Nat.zero_div]
theorem rest_p (n : Nat) : restN n 112 = n % 10 * 1000 := by unfold restN; rw [show unitN 112 = 10 from rfl]; omega
theorem stop_end (c : Cx) (n t : Nat) (h0 : t = c.s.size) (hd : At c.s t []) (R : Runs c (.oper 0 0) (.ok n t)) : Runs c (.expr 0 0) (.ok n c.s.size) := by
  refine Runs.expr R ?_
  have := Runs.loop_end (c := c) (x := n) (a := t) (deep := 0) (oper_end (by rw [skip_zero]; exact hd))
  rw [skip_zero, h0] at this
  rw [h0]
  exact this
theorem oper_num {c : Cx} {n a t : Nat} {x : Int} {l : List UInt8} (h : At c.s a (dl n ++ l)) (hm : c.mute = false) (hx : ¬ big x) (hn : numberO c a = heldO c x t) : Runs c (.oper a 0) (.ok x t) := by
  obtain ⟨y, tl, e, h1, h2⟩ := dl_head n
  have hp : pk c.s a = y.toNat := pk_at (l := tl ++ l) (by rw [e] at h; exact h)
  refine Runs.number (by rw [skip_zero]; omega) (by rw [skip_zero]; omega) ?_ (by simp)
  rw [skip_zero, hn]
  unfold heldO
  rw [hm, if_neg (by decide), if_neg hx]
/-- Digits and a letter. -/
theorem number_letter (c : Cx) (n : Nat) (b : UInt8) (u : Int) (h : At c.s 0 (dl n ++ [b])) (hn : n < 1000000000) (hb : ¬ (48 ≤ b.toNat ∧ b.toNat ≤ 57)) (h46 : b.toNat ≠ 46) (hu : unitOf c b.toNat = some u) :
    numberO c 0 = heldO c ((n : Int) * u) ((dl n).length + 1) := by
  have hp : pk c.s (0 + (dl n).length) = b.toNat := pk_at h.add
  have hr := rowF_at c.s (dl n) 9 0 0 [b] h (dl_len 9 n (by decide) hn) (dl_digs n) (fun _ hd => hb (by rw [← hp]; exact hd))
  rw [dl_val] at hr
  have hpos := dl_pos n
  unfold numberO
  simp only [hr]
  rw [hp, if_neg h46]
  simp only [Nat.sub_self, if_pos]
  rw [if_neg (by omega), hp, hu]
  simp only
  rw [Nat.zero_add]
  congr 1
  simp
/-- Digits, a point, one digit and a letter. -/
theorem number_point (c : Cx) (n d : Nat) (b : UInt8) (u : Int) (h : At c.s 0 (dl n ++ (46 :: ([UInt8.ofNat (48 + d)] ++ [b])))) (hn : n < 1000000000) (hd : d < 10) (hb : ¬ (48 ≤ b.toNat ∧ b.toNat ≤ 57)) (hu : unitOf c b.toNat = some u) :
    numberO c 0 = heldO c ((n : Int) * u + ((d : Int) * u).tdiv 10) ((dl n).length + 3) := by
  have h1 := h.add
  have hp : pk c.s (0 + (dl n).length) = 46 := pk_at h1
  have hr := rowF_at c.s (dl n) 9 0 0 _ h (dl_len 9 n (by decide) hn) (dl_digs n) (fun _ hq => by unfold isDig at hq; rw [hp] at hq; omega)
  rw [dl_val] at hr
  have h2 := h1.next
  have h3 := h2.add
  have hp2 : pk c.s (0 + (dl n).length + 1 + [UInt8.ofNat (48 + d)].length) = b.toNat := pk_at h3
  have hr2 := rowF_at c.s [UInt8.ofNat (48 + d)] 9 0 (0 + (dl n).length + 1) [b] h2 (by simp) (fun x hx => by
    rw [List.mem_singleton] at hx
    rw [hx, u8_dig d hd]; omega) (fun _ hq => hb (by rw [← hp2]; exact hq))
  have hv : val 0 [UInt8.ofNat (48 + d)] = d := by
    show 0 * 10 + ((UInt8.ofNat (48 + d)).toNat - 48) = d
    rw [u8_dig d hd]; omega
  rw [hv] at hr2
  have hpos := dl_pos n
  unfold numberO
  simp only [hr]
  rw [hp, if_pos rfl]
  simp only [hr2]
  have e1 : 0 + (dl n).length + 1 + [UInt8.ofNat (48 + d)].length - (0 + (dl n).length + 1) = 1 := by simp
  rw [e1]
  rw [if_neg (show ¬ (0 + (dl n).length = 0 ∧ (1 : Nat) = 0) from fun q => absurd q.2 (by decide)), if_neg (show ¬ (1 : Nat) = 0 by decide), hp2, hu]
  simp only
  congr 1
  simp only [List.length_singleton]
  omega
theorem back_text (k b : Nat) (hk : k < 1000000000) (hb : b = 117 ∨ b = 112) (size vs : Int) (hok : okB 118 size vs 0 = true) : evalO (textT k b) 118 size vs 0 = ((k : Int), 0) := by
  have hl := text_list k b
  have h0 : At (textT k b) 0 (textT k b).data.toList := At.start _
  have hsz : (textT k b).data.toList.length = (textT k b).size := by rw [Array.length_toList]; rfl
  rw [hl] at h0 hsz
  generalize textT k b = s at *
  unfold evalO
  rw [hok]
  simp only [if_true]
  have hbig : ¬ big (k : Int) := by unfold big; omega
  have R : Runs ⟨s, 118, size, vs, 0, 0, false⟩ (.expr 0 0) (.ok k s.size) := by
    rcases hb with rfl | rfl
    · rw [rest_u, show dotL (partO 0) = [] by decide, List.nil_append, show unitN 117 = 1 from rfl, Nat.div_one] at h0 hsz
      have hn := number_letter ⟨s, 118, size, vs, 0, 0, false⟩ k 117 1 h0 hk (by decide) (by decide) rfl
      rw [Int.mul_one] at hn
      rw [List.length_append, List.length_singleton] at hsz
      have he : At s ((dl k).length + 1) [] := by have := h0.add.next; rw [Nat.zero_add] at this; exact this
      exact stop_end ⟨s, 118, size, vs, 0, 0, false⟩ k _ hsz he (oper_num (c := ⟨s, 118, size, vs, 0, 0, false⟩) h0 rfl hbig hn)
    · rw [rest_p, show unitN 112 = 10 from rfl] at h0 hsz
      have hpt := part_point ⟨k % 10, Nat.mod_lt _ (by decide)⟩
      simp only at hpt
      rw [hpt] at h0 hsz
      by_cases hz : k % 10 = 0
      · rw [if_pos hz, show dotL [] = [] from rfl, List.nil_append] at h0 hsz
        have hn := number_letter ⟨s, 118, size, vs, 0, 0, false⟩ (k / 10) 112 10 h0 (by omega) (by decide) (by decide) rfl
        rw [show ((k / 10 : Nat) : Int) * 10 = k by omega] at hn
        rw [List.length_append, List.length_singleton] at hsz
        have he : At s ((dl (k / 10)).length + 1) [] := by have := h0.add.next; rw [Nat.zero_add] at this; exact this
        exact stop_end ⟨s, 118, size, vs, 0, 0, false⟩ k _ hsz he (oper_num (c := ⟨s, 118, size, vs, 0, 0, false⟩) h0 rfl hbig hn)
      · rw [if_neg hz, show dotL [UInt8.ofNat (48 + k % 10)] = 46 :: [UInt8.ofNat (48 + k % 10)] from rfl, List.cons_append] at h0 hsz
        have hn := number_point ⟨s, 118, size, vs, 0, 0, false⟩ (k / 10) (k % 10) 112 10 h0 (by omega) (by omega) (by decide) rfl
        rw [Int.tdiv_eq_ediv_of_nonneg (by omega), show ((k / 10 : Nat) : Int) * 10 + ((k % 10 : Nat) : Int) * 10 / 10 = k by omega] at hn
        simp only [List.length_append, List.length_cons, List.length_nil] at hsz
        have he : At s ((dl (k / 10)).length + 3) [] := by have := h0.add.next.add.next; simp only [Nat.zero_add, List.length_singleton] at this; exact this
        exact stop_end ⟨s, 118, size, vs, 0, 0, false⟩ k _ (by omega) he (oper_num (c := ⟨s, 118, size, vs, 0, 0, false⟩) h0 rfl hbig hn)
  rw [evalRun_eq R]
  simp [wholeN]
end Go.Proofs.YtkomofphgnekoaaDoor

set_option linter.unusedVariables false
set_option linter.unusedSimpArgs false
namespace Go.Proofs.YtkomofphgnekoaaDoor
open Go.Shelf Go.RowKit Go.Lib Go.Aids Go.MapLit

abbrev Tab (w : World) : Prop := Lib.TabIs Tryd.prog w "internal/strconv.uint64pow10" .u64 Lib.pow10Tab
theorem gPow : Tryd.prog.globalNamed "internal/strconv.uint64pow10" = some 1 := by kernel_rfl
theorem Tab.below {w w' : World} (h : Tab w) (hb : Below w.heap.size w w') : Tab w' := _root_.Go.Joins.tab_stays gPow h hb (Nat.le_refl _)
theorem digs_dec : ∀ k n, n ≤ k → digs n = ⟨(Lib.decDigits n).toArray⟩
  | 0, n, h => by
    obtain rfl : n = 0 := by omega
    rw [digs, Lib.decDigits]; rfl
  | k + 1, n, h => by
    by_cases hn : n < 10
    · rw [digs, Lib.decDigits, dif_pos hn, dif_pos hn]; rfl
    · rw [digs, Lib.decDigits, dif_neg hn, dif_neg hn, digs_dec k (n / 10) (by omega)]
      apply ByteArray.ext
      simp [ByteArray.data_append, one]
theorem itoa_calls (n : Nat) (hn : n ≤ 9223372036854775807) (w : World) (ht : Tab w) : Calls Tryd.prog 15 #[.int .i64 n] w fun e w' => e = .returned (.string (digs n)) ∧ Below w.heap.size w w' := by
  refine (Tryd.strconv_Itoa n (by omega) (by omega) w ht).mono ?_
  rintro e w' ⟨rfl, k, os, rfl⟩
  refine ⟨?_, Lib.below_grow _ w (Nat.le_refl _) k os⟩
  have e1 : Lib.itoa (n : Int) = Lib.decDigits n := by unfold Lib.itoa; rw [if_neg (by omega)]; rfl
  rw [e1, digs_dec n n (Nat.le_refl _)]
theorem dl_five (r : Nat) (h : r < 10000) : dl (10000 + r) = 49 :: partL r := by
  rw [dl_high _ (by omega), dl_high _ (by omega), dl_high _ (by omega), dl_high _ (by omega), dl_low _ (by omega)]
  rw [show (10000 + r) / 10 / 10 / 10 / 10 = 1 by omega, show (10000 + r) / 10 / 10 / 10 % 10 = r / 1000 by omega, show (10000 + r) / 10 / 10 % 10 = r / 100 % 10 by omega, show (10000 + r) / 10 % 10 = r / 10 % 10 by omega, show (10000 + r) % 10 = r % 10 by omega]
  rfl
theorem five_size (r : Nat) (h : r < 10000) : (digs (10000 + r)).size = 5 := by
  have := congrArg List.length (dl_five r h)
  rw [dl, Array.length_toList] at this
  exact this
theorem five_tail (r : Nat) (h : r < 10000) : (digs (10000 + r)).extract 1 5 = ⟨(partL r).toArray⟩ := by
  apply ByteArray.ext
  apply Array.ext'
  have := dl_five r h
  rw [dl] at this
  rw [ByteArray.data_extract, Array.toList_extract, this]
  rfl
theorem rest_lt (n b : Nat) : restN n b < 10000 := by
  unfold restN
  have h := unitN_pos b
  have h2 := Nat.mod_lt n (show 0 < unitN b by omega)
  rw [Nat.div_lt_iff_lt_mul (by omega)]
  have := Nat.mul_lt_mul_of_pos_right h2 (show 0 < 10000 by decide)
  rw [Nat.mul_comm 10000]
  exact this
theorem trim_part (l : List UInt8) : Lib.trimRightB l 48 = trimR l := rfl
def isUnit (b : Nat) : Prop := b = 117 ∨ b = 112 ∨ b = 80 ∨ b = 105
instance (b : Nat) : Decidable (isUnit b) := by unfold isUnit; infer_instance
theorem unit_find (b : Nat) (hb : isUnit b) : find (scL 0 0) (b : Int) = some (unitN b : Int) := by
  rcases hb with rfl | rfl | rfl | rfl <;> rfl
theorem unit_index (b : Nat) (hb : isUnit b) : ∃ i : Nat, Lib.indexByte [117, 112, 80, 105] ((b : Int).toNat.toUInt8) = (i : Int) := by
  rcases hb with rfl | rfl | rfl | rfl
  · exact ⟨0, rfl⟩
  · exact ⟨1, rfl⟩
  · exact ⟨2, rfl⟩
  · exact ⟨3, rfl⟩
theorem unit_none (b : Nat) (h : b < 256) (hb : ¬ isUnit b) : Lib.indexByte [117, 112, 80, 105] ((b : Int).toNat.toUInt8) = -1 := by
  have : ∀ m : Fin 256, ¬ isUnit m.1 → Lib.indexByte [117, 112, 80, 105] (m.1.toUInt8) = -1 := by decide +kernel
  exact this ⟨b, h⟩ hb
def textO (n : Int) (b : Nat) : ByteArray × Int := if n < 0 ∨ ¬ isUnit b then (⟨#[]⟩, 1) else (textT n.toNat b, 0)
theorem encode_unit (b : Nat) (hb : isUnit b) : Utf8.encode (b : Int) = ⟨#[UInt8.ofNat b]⟩ := by
  rcases hb with rfl | rfl | rfl | rfl <;> rfl
theorem digs_small (n : Nat) (h : n ≤ 9223372036854775807) : (digs n).size ≤ 19 := by
  have h1 := dl_len 19 n (by decide) (by omega)
  rw [dl, Array.length_toList] at h1
  exact h1
theorem trimR_len (l : List UInt8) : (trimR l).length ≤ l.length := by
  unfold trimR
  rw [List.length_reverse]
  have := (List.dropWhile_sublist (p := (· == (48 : UInt8))) (l := l.reverse)).length_le
  rw [List.length_reverse] at this
  exact this
theorem ar1 (n u : Nat) (hq : n / u ≤ 9223372036854775807) : wrap64 ((n : Int) / (u : Int)) = ((n / u : Nat) : Int) := by
  rw [← Int.natCast_ediv]
  generalize n / u = q at *
  exact wrap64_in _ (by omega) (by omega)
theorem ar0 (u : Nat) (h : 1 ≤ u) : ((u : Int) == 0) = false := by rw [beq_eq_false_iff_ne]; omega
theorem ar5 (r : Nat) (hr : r < 10000) : wrap64 (10000 + (r : Int)) = 10000 + (r : Int) := wrap64_in _ (by omega) (by omega)
theorem ar2 (n u : Nat) : (n : Int) % (u : Int) = ((n % u : Nat) : Int) := by
  rw [← Int.natCast_emod]
theorem ar3 (m : Nat) (hm : m ≤ 720) : wrap64 ((m : Int) * 10000) = ((m * 10000 : Nat) : Int) := by
  rw [wrap64_in _ (by omega) (by omega)]; omega
theorem dotL_full (p : List UInt8) (h : (!p.isEmpty) = true) : (⟨(dotL p).toArray⟩ : ByteArray) = ⟨#[46]⟩ ++ ⟨p.toArray⟩ := by
  unfold dotL
  rw [if_neg (by rintro rfl; exact absurd h (by decide))]
  apply ByteArray.ext
  simp [ByteArray.data_append]
theorem dotL_none (p : List UInt8) (h : (!p.isEmpty) = false) : ∀ D : ByteArray, D ++ (⟨(dotL p).toArray⟩ : ByteArray) = D := by
  intro D
  cases p with
  | nil =>
    rw [show dotL [] = [] from rfl]
    apply ByteArray.ext
    simp [ByteArray.data_append]
  | cons x l => exact absurd h (by simp)
set_option maxRecDepth 100000 in
set_option maxHeartbeats 2000000 in
theorem text_good (n b : Nat) (hn : n ≤ 9223372036854775807) (hb : isUnit b) (w : World) (ht : Tab w) :
    Calls Tryd.prog 5 #[.int .i64 n, .int .u8 b] w fun e w' => e = .returned (.tuple #[.string (textT n b), .int .i64 0]) ∧ Below w.heap.size w w' := by
  have hu := unitN_pos b
  have hr := rest_lt n b
  obtain ⟨i, hi⟩ := unit_index b hb
  have H13 := Lib.hid (fun W => Tryd.strings_IndexByte ⟨#[117, 112, 80, 105]⟩ (b : Int) W)
  rw [show (⟨#[117, 112, 80, 105]⟩ : ByteArray).data.toList = [117, 112, 80, 105] from rfl, hi] at H13
  have H14 := Lib.hid (fun W => scales_calls 0 0 0 W)
  have hlk : ∀ W m, MapIs eK eV W m (scL 0 0) → (Instr.lookup 39 (.map (some m)) (.int .u8 b) false).run Tryd.prog W = .ok (.int .i64 (unitN b)) W := fun W m hm => by
    have := run_lookup eK eV keyU Tryd.underlying39 zeroI (scL 0 0) (b : Int) (w := W) (b := m) hm false
    rw [unit_find b hb] at this
    exact this
  have HLK := Lib.hid hlk
  clear hlk
  have HT := Lib.hid (fun W (h : Below w.heap.size w W) => ht.below h)
  have HD : Hid (textT n b = digs (n / unitN b) ++ ⟨(dotL (partO (restN n b))).toArray⟩ ++ ⟨#[UInt8.ofNat b]⟩) := Lib.hid rfl
  have HE := Lib.hid (encode_unit b hb)
  obtain ⟨E, hE⟩ : ∃ E, Utf8.encode (b : Int) = E := ⟨_, rfl⟩
  rw [hE] at HE
  obtain ⟨c, hc⟩ : ∃ c : Int, (b : Int) = c := ⟨_, rfl⟩
  rw [hc] at hE H13 HLK ⊢
  clear hc
  have hEs : E.size = 1 := by rw [HE.out]; rfl
  obtain ⟨T, hTT⟩ : ∃ T, textT n b = T := ⟨_, rfl⟩
  rw [hTT] at HD ⊢
  have hX5 := five_size (restN n b) hr
  have hXt := five_tail (restN n b) hr
  have hq : n / unitN b ≤ 9223372036854775807 := Nat.le_trans (Nat.div_le_self _ _) hn
  have hqs := digs_small (n / unitN b) hq
  have hm := Nat.mod_lt n (show 0 < unitN b by omega)
  have hrd : n % unitN b * 10000 / unitN b = restN n b := rfl
  obtain ⟨u, hU⟩ : ∃ u, unitN b = u := ⟨_, rfl⟩
  obtain ⟨r, hR⟩ : ∃ r, restN n b = r := ⟨_, rfl⟩
  rw [hU] at hu HLK HD hq hqs hm hrd
  rw [hR] at hr HD hX5 hXt hrd
  have a0 := ar0 u hu.1
  have a1 := ar1 n u hq
  have a2 := ar2 n u
  have a3 := ar3 (n % u) (Nat.le_of_lt (Nat.lt_of_lt_of_le hm hu.2))
  have a4 : wrap64 (((n % u * 10000 : Nat) : Int) / (u : Int)) = (r : Int) := by
    rw [ar1 (n % u * 10000) u (by rw [hrd]; exact Nat.le_trans (Nat.le_of_lt hr) (by decide)), hrd]
  have a5 := ar5 r hr
  have H15a := Lib.hid (fun W h => itoa_calls (n / u) hq W h)
  have H15b : Hid (∀ W, Tab W → Calls Tryd.prog 15 #[.int .i64 (10000 + (r : Int))] W fun e w' => e = .returned (.string (digs (10000 + r))) ∧ Below W.heap.size W w') := Lib.hid (fun W h => by
    have := itoa_calls (10000 + r) (Nat.le_trans (Nat.add_le_add_left (Nat.le_of_lt hr) _) (by decide)) W h
    rw [Int.natCast_add] at this
    exact this)
  obtain ⟨q, hQ⟩ : ∃ q, n / u = q := ⟨_, rfl⟩
  obtain ⟨m, hM⟩ : ∃ q, n % u = q := ⟨_, rfl⟩
  obtain ⟨m2, hM2⟩ : ∃ q, m * 10000 = q := ⟨_, rfl⟩
  obtain ⟨x, hXX⟩ : ∃ q, 10000 + r = q := ⟨_, rfl⟩
  rw [hQ] at a1 H15a HD hqs
  rw [hM] at a2
  rw [hM, hM2] at a3 a4
  rw [hXX] at H15b hX5 hXt
  obtain ⟨X, hXd⟩ : ∃ X, digs x = X := ⟨_, rfl⟩
  obtain ⟨D, hDd⟩ : ∃ X, digs q = X := ⟨_, rfl⟩
  rw [hXd] at H15b hX5 hXt
  rw [hDd] at H15a HD hqs
  have H16 := Lib.hid (fun W => Tryd.strings_TrimRight_one ⟨(partL r).toArray⟩ 48 (by decide) W (by show 4 ≤ _; decide))
  rw [show Lib.trimRightB (⟨(partL r).toArray⟩ : ByteArray).data.toList 48 = partO r from rfl] at H16
  clear hrd hm hq hU hR hQ hM hM2 hXX hXd hDd hTT hi ht
  have hp4 : (partO r).length ≤ 4 := trimR_len (partL r)
  obtain ⟨p, hp⟩ : ∃ p, partO r = p := ⟨_, rfl⟩
  rw [hp] at H16 HD hp4
  have hX1 : (1 : Int) ≤ X.size := by omega
  clear hp
  go_enter Tryd.func5, Tryd.ntmps5
  go_wp2_with (first
    | (go_at_call 13; refine (H13.out _).mono ?_; rintro e w1 ⟨rfl, rfl⟩)
    | (go_at_call 14; refine (H14.out _).mono ?_; rintro e w2 ⟨rfl, hm2, hb2⟩; have hlk2 := HLK.out _ _ hm2; clear hm2)
    | (go_at_call 15; go_loud (first
      | (with_reducible refine (H15a.out _ (HT.out _ hb2)).mono ?_; rintro e w3 ⟨rfl, hb3⟩; have B3 := hb2.trans (hb3.mono hb2.size); clear hb3 H15a hlk2)
      | (with_reducible refine (H15b.out _ (HT.out _ B3)).mono ?_; rintro e w4 ⟨rfl, hb4⟩; have B4 := B3.trans (hb4.mono B3.size); clear hb4)))
    | (go_at_call 16; refine (H16.out _).mono ?_; rintro e w5 ⟨rfl, rfl⟩))
  all_goals go_ret2
  · refine ⟨?_, B4⟩
    rw [HD.out, HE.out, dotL_full p (by assumption)]; rfl
  · refine ⟨?_, B4⟩
    rw [HD.out, HE.out, dotL_none p (by assumption)]; rfl
set_option maxRecDepth 100000 in
theorem text_neg (n b : Int) (hn : n < 0) (w : World) : Calls Tryd.prog 5 #[.int .i64 n, .int .u8 b] w fun e w' => e = .returned (.tuple #[.string ⟨#[]⟩, .int .i64 1]) ∧ Below w.heap.size w w' := by
  go_enter Tryd.func5, Tryd.ntmps5
  go_wp2
  go_ret2
  exact ⟨rfl, Below.refl _ _⟩
set_option maxRecDepth 100000 in
theorem text_none (n b : Nat) (h : b < 256) (hb : ¬ isUnit b) (w : World) : Calls Tryd.prog 5 #[.int .i64 n, .int .u8 b] w fun e w' => e = .returned (.tuple #[.string ⟨#[]⟩, .int .i64 1]) ∧ Below w.heap.size w w' := by
  have H13 := Lib.hid (fun W => Tryd.strings_IndexByte ⟨#[117, 112, 80, 105]⟩ (b : Int) W)
  rw [show (⟨#[117, 112, 80, 105]⟩ : ByteArray).data.toList = [117, 112, 80, 105] from rfl, unit_none b h hb] at H13
  generalize (b : Int) = c at *
  go_enter Tryd.func5, Tryd.ntmps5
  go_wp2_with (go_at_call 13; refine (H13.out _).mono ?_; rintro e w1 ⟨rfl, rfl⟩)
  go_ret2
  exact ⟨rfl, Below.refl _ _⟩
theorem text_calls (n : Int) (b : Nat) (h1 : n ≤ 9223372036854775807) (h : b < 256) (w : World) (ht : Tab w) : Calls Tryd.prog 5 #[.int .i64 n, .int .u8 b] w fun e w' => e = .returned (.tuple #[.string (textO n b).1, .int .i64 (textO n b).2]) ∧ Below w.heap.size w w' := by
  unfold textO
  by_cases hn : n < 0
  · rw [if_pos (Or.inl hn)]; exact text_neg n b hn w
  · obtain ⟨k, rfl⟩ := Int.eq_ofNat_of_zero_le (Int.not_lt.1 hn)
    by_cases hb : isUnit b
    · rw [if_neg (fun q => q.elim hn (fun q => q hb))]; exact text_good k b (by omega) hb w ht
    · rw [if_pos (Or.inr hb)]; exact text_none k b h hb w
end Go.Proofs.YtkomofphgnekoaaDoor

set_option linter.unusedVariables false
set_option linter.unusedSimpArgs false
namespace Go.Proofs.YtkomofphgnekoaaDoor
open Go.Shelf Go.RowKit Go.Lib Go.Aids Go.MapLit

theorem sane_eval : evalO ⟨#[49, 105, 43, 50, 112, 42, 51]⟩ 117 0 0 0 = (2220, 0) := by decide +kernel
theorem sane_calls (w : World) : Calls Tryd.prog 7 #[] w fun e w' => e = .returned (.bool true) ∧ Below w.heap.size w w' := by
  have H := fun W => eval_calls ⟨#[49, 105, 43, 50, 112, 42, 51]⟩ 117 0 0 0 W (by decide) (by decide)
  rw [sane_eval] at H
  have HH := Lib.hid H
  clear H
  go_enter Tryd.func7, Tryd.ntmps7
  go_wp2_with (go_at_call 6; refine (HH.out _).mono ?_; rintro e w1 ⟨rfl, hb⟩)
  go_ret
  exact ⟨rfl, hb⟩
theorem u64_range (A : Int) : 0 ≤ IntKind.u64.wrap A ∧ IntKind.u64.wrap A < 18446744073709551616 := by rw [IntKind.wrap_u64]; omega
theorem u64_mod (A k : Int) (hk : 0 < k) (hk2 : k ≤ 1000000000) : ∃ n : Nat, (n : Int) < k ∧ (IntKind.u64.wrap A).tmod k = n ∧ wrap64 n = n := by
  have := u64_range A
  have e : (IntKind.u64.wrap A).tmod k = (IntKind.u64.wrap A) % k := Int.tmod_eq_emod_of_nonneg this.1
  have h0 := Int.emod_nonneg (IntKind.u64.wrap A) (show k ≠ 0 by omega)
  have h1 := Int.emod_lt_of_pos (IntKind.u64.wrap A) hk
  refine ⟨((IntKind.u64.wrap A) % k).toNat, by omega, by rw [e]; omega, wrap64_in _ (by omega) (by omega)⟩
theorem run_up (i : Nat) (hi : i < 2) (W : World) : (Instr.index 9 (.string ⟨#[117, 112]⟩) (.int .i64 (i : Int))).run Tryd.prog W = .ok (.int .u8 ((if i = 0 then 117 else 112 : Nat) : Int)) W := by
  rcases (show i = 0 ∨ i = 1 by omega) with rfl | rfl
  · rfl
  · rfl
theorem up_is (i : Nat) : (if i = 0 then 117 else 112 : Nat) = 117 ∨ (if i = 0 then 117 else 112 : Nat) = 112 := by split <;> simp
theorem textT_size (k b : Nat) (hk : k < 1000000000) : (textT k b).size ≤ 100 := by
  have h := text_list k b
  have h1 := congrArg List.length h
  rw [Array.length_toList] at h1
  have e : (textT k b).data.size = (textT k b).size := rfl
  rw [← e, h1, List.length_append, List.length_append, List.length_singleton]
  have h2 := dl_len 9 (k / unitN b) (by decide) (by have := Nat.div_le_self k (unitN b); omega)
  have h3 : (dotL (partO (restN k b))).length ≤ 5 := by
    have h4 : (partO (restN k b)).length ≤ 4 := trimR_len (partL (restN k b))
    generalize partO (restN k b) = p at *
    unfold dotL
    split
    · simp
    · simp; omega
  omega
set_option maxRecDepth 100000 in
set_option maxHeartbeats 4000000 in
theorem back_calls (n a b c : Int) (w : World) (ht : Tab w) : Calls Tryd.prog 3 #[.int .i64 n, .agg #[.int .i64 a, .int .i64 b, .int .i64 c]] w fun e w' => e = .returned (.bool true) ∧ Below w.heap.size w w' := by
  obtain ⟨k, hk, hK, wK⟩ := u64_mod n 1000000000 (by decide) (by decide)
  obtain ⟨x, hx, hX, wX⟩ := u64_mod a 1001 (by decide) (by decide)
  obtain ⟨y, hy, hY, wY⟩ := u64_mod b 1001 (by decide) (by decide)
  have hk2 : k < 1000000000 := by omega
  have hok : okB 118 x y 0 = true := by
    unfold okB
    have e1 : (find (scL (x : Int) y) ((118 : Nat) : Int)).isSome = true := rfl
    have e2 : decide (min (x : Int) y ≥ 0) = true := decide_eq_true (by omega)
    have e3 : decide (max (x : Int) y ≤ 1000000) = true := decide_eq_true (by omega)
    rw [e1, e2, e3]
    rfl
  have HE : Hid (∀ s b W, s = textT k b → b = 117 ∨ b = 112 → Calls Tryd.prog 6 #[.string s, .int .u8 118, .agg #[.int .i64 x, .int .i64 y, .int .i64 0]] W fun e w' => e = .returned (.tuple #[.int .i64 k, .int .i64 0]) ∧ Below W.heap.size W w') := Lib.hid (fun s b W hs hb => by
    have h := eval_calls s 118 x y 0 W (by decide) (by have := textT_size k b hk2; rw [hs]; omega)
    rw [hs, back_text k b hk2 hb x y hok] at h
    rw [hs]
    exact h)
  have HT : Hid (∀ b W, b = 117 ∨ b = 112 → Below w.heap.size w W → Calls Tryd.prog 5 #[.int .i64 k, .int .u8 (b : Nat)] W fun e w' => e = .returned (.tuple #[.string (textT k b), .int .i64 0]) ∧ Below W.heap.size W w') := Lib.hid (fun b W hb hW => text_good k b (by omega) (hb.elim Or.inl (fun h => Or.inr (Or.inl h))) W (ht.below hW))
  have HS := Lib.hid (fun W => sane_calls W)
  have HK' : ∀ _ : Unit, (IntKind.u64.wrap n).tmod 1000000000 = k := fun _ => hK
  have HX' : ∀ _ : Unit, (IntKind.u64.wrap a).tmod 1001 = x := fun _ => hX
  have HY' : ∀ _ : Unit, (IntKind.u64.wrap b).tmod 1001 = y := fun _ => hY
  clear hK hX hY hk hx hy ht hok
  go_enter Tryd.func3, Tryd.ntmps3
  go_wp2_with fail
  simp only [HK' (), HX' (), HY' (), wK, wX, wY]
  obtain ⟨W1, hW1⟩ : ∃ W, (w.alloc (.cells #[.int .i64 a, .int .i64 b, .int .i64 c] 23)).alloc (.cells #[.int .i64 x, .int .i64 y, .int .i64 0] 23) = W := ⟨_, rfl⟩
  have HC : Hid (W1.cell? ⟨w.heap.size + 1, 0, none⟩ = some (.int .i64 x) ∧ W1.cell? ⟨w.heap.size + 1, 1, none⟩ = some (.int .i64 y) ∧ W1.cell? ⟨w.heap.size + 1, 2, none⟩ = some (.int .i64 0) ∧ w.heap.size + 1 < W1.heap.size) := Lib.hid (by rw [← hW1]; simp)
  have HB1 := Lib.hid (show Below w.heap.size w W1 by rw [← hW1]; exact ((Below.refl _ _).alloc (Nat.le_refl _) _).alloc (by simp) _)
  rw [hW1]
  clear hW1
  go_loopg [7] 2 (fun gk s7 wx => ∃ i : Nat, i + gk = 2 ∧ s7 = .int .i64 i ∧ Hid (Below W1.heap.size W1 wx))
  case atStart => exact ⟨0, by omega, rfl, Lib.hid (Below.refl _ _)⟩
  case round =>
    obtain ⟨i, hi, rfl, HB⟩ := hrel
    by_cases hlt : i < 2
    · have i0 : decide ((i : Int) < 2) = true := decide_eq_true (by omega)
      obtain ⟨g', rfl⟩ : ∃ g', gk = g' + 1 := ⟨gk - 1, by omega⟩
      have c0 := (HB.out.cell (p := ⟨w.heap.size + 1, 0, none⟩) HC.out.2.2.2).trans HC.out.1
      have c1 := (HB.out.cell (p := ⟨w.heap.size + 1, 1, none⟩) HC.out.2.2.2).trans HC.out.2.1
      have c2 := (HB.out.cell (p := ⟨w.heap.size + 1, 2, none⟩) HC.out.2.2.2).trans HC.out.2.2.1
      have hx : ∀ W, (Instr.index 9 (.string ⟨#[117, 112]⟩) (.int .i64 (i : Int))).run Tryd.prog W = .ok (.int .u8 ((if i = 0 then 117 else 112 : Nat) : Int)) W := fun W => run_up i hlt W
      have hu := Lib.hid (up_is i)
      generalize (if i = 0 then 117 else 112 : Nat) = bb at hx hu
      go_wp2_with (first
        | (go_at_call 5; refine (HT.out _ _ hu.out (HB1.out.trans (HB.out.mono HB1.out.size))).mono ?_; rintro e w1 ⟨rfl, b1⟩; have d0 := (b1.cell (p := ⟨w.heap.size + 1, 0, none⟩) (Nat.lt_of_lt_of_le HC.out.2.2.2 HB.out.size)).trans c0; have d1 := (b1.cell (p := ⟨w.heap.size + 1, 1, none⟩) (Nat.lt_of_lt_of_le HC.out.2.2.2 HB.out.size)).trans c1; have d2 := (b1.cell (p := ⟨w.heap.size + 1, 2, none⟩) (Nat.lt_of_lt_of_le HC.out.2.2.2 HB.out.size)).trans c2)
        | (go_at_call 6; refine (HE.out _ _ _ rfl hu.out).mono ?_; rintro e w2 ⟨rfl, b2⟩))
      go_roundg g'
      case measure => omega
      case rel => exact ⟨i + 1, by omega, by rfl, Lib.hid ((HB.out.trans (b1.mono HB.out.size)).trans (b2.mono (HB.out.trans (b1.mono HB.out.size)).size))⟩
    · have i0 : decide ((i : Int) < 2) = false := decide_eq_false (by omega)
      go_wp2_with (go_at_call 7; refine (HS.out _).mono ?_; rintro e w1 ⟨rfl, b1⟩)
      go_ret
      have q := HB1.out.trans (HB.out.mono HB1.out.size)
      exact ⟨rfl, q.trans (b1.mono q.size)⟩
end Go.Proofs.YtkomofphgnekoaaDoor

set_option linter.unusedVariables false
set_option linter.unusedSimpArgs false
namespace Go.Proofs.YtkomofphgnekoaaDoor
open Go.Shelf Go.RowKit Go.Lib Go.Aids Go.MapLit Go.Opens Go.Proofs.YtkomofphgnekoaaDoorW.PrintWords

abbrev kInt : Kd Int := Kd.int .i64
abbrev kThree := Kd.pair kInt (Kd.pair kInt kInt)
def wfI (n : Int) : Prop := (Lit.int .i64 n).wf = true
theorem o3 : Opens Tryd.prog 3 kInt wfI := Opens.int Tryd.underlying3 (by kernel_rfl)
theorem o23 : Opens Tryd.prog 23 kThree (fun p => wfI p.1 ∧ wfI p.2.1 ∧ wfI p.2.2) :=
  Opens.struct (d := kThree) Tryd.underlying23 (by kernel_rfl) (Fields.cons o3 rfl (Fields.cons o3 rfl (Fields.one o3 rfl)))
theorem three_is {w : World} {a : Int × Int × Int} {cs : Array Value} (h : kThree.K w a cs.toList) : cs = #[.int .i64 a.1, .int .i64 a.2.1, .int .i64 a.2.2] := by
  obtain ⟨c1, c2, e, h1, d1, d2, e2, h2, h3⟩ := h
  have g1 : c1 = [.int .i64 a.1] := h1
  have g2 : d1 = [.int .i64 a.2.1] := h2
  have g3 : d2 = [.int .i64 a.2.2] := h3
  subst g1 g2 g3 e2
  apply Array.ext'
  simpa using e
theorem tab_of {W : World} (h : laidMetH Tryd.prog Rows.measureBackRow.laid W) : Tab W := by
  rw [MakeChecks.laidMetH_plain _ _ _ (by kernel_rfl)] at h
  have h2 : laidMet Tryd.prog [("internal/strconv.uint64pow10", Lib.tabData .u64 Lib.pow10Tab), ("unicode/utf8.acceptRanges", Rows.laid_unicode_utf8_acceptRanges), ("unicode/utf8.first", Rows.laid_unicode_utf8_first)] W := h.tail.tail
  exact Lib.tabIs_of_head gPow (t := 89) (e := 81) (n := 20) (by kernel_rfl) (by kernel_rfl) (by kernel_rfl) (by kernel_rfl) (by kernel_rfl) h2
theorem back_row {W w : World} {cs : Array Value} {a : Int × Int × Int} (n : Int) (h : kThree.K W a cs.toList) (ht : Tab w) : Calls Tryd.prog 3 #[.int .i64 n, .agg cs] w fun e w' => e = .returned (.bool true) ∧ Below w.heap.size w w' := by
  rw [three_is h]
  exact back_calls _ _ _ _ w ht
end Go.Proofs.YtkomofphgnekoaaDoor

set_option linter.unusedVariables false
set_option linter.unusedSimpArgs false
namespace Go.Proofs.YtkomofphgnekoaaDoor
open Go.Shelf Go.RowKit Go.Lib Go.Aids Go.MapLit Go.Proofs.YtkomofphgnekoaaDoorW.PrintWords Go.Proofs.YtkomofphgnekoaaDoorW.PrintLast

theorem letter_some (s : Int) : ∃ b : Nat, b < 256 ∧ Pletter.frisketlaw01_letter.f s = some (b : Int) := by
  have h := u64_range s
  have h2 : ∀ z, z = (IntKind.u64.wrap s).tmod 8 → 0 ≤ z ∧ z < 8 := fun z hz => by
    rw [hz, Int.tmod_eq_emod_of_nonneg h.1]
    omega
  have h3 : ∃ b : Nat, b < 256 ∧ (if 0 ≤ (IntKind.u64.wrap s).tmod 8 then (if (IntKind.u64.wrap s).tmod 8 < 8 then (some (bt (⟨#[117, 112, 80, 105, 99, 109, 110, 118]⟩ : ByteArray) ((IntKind.u64.wrap s).tmod 8))) else none) else none) = some (b : Int) := by
    obtain ⟨z, hz⟩ : ∃ z, z = (IntKind.u64.wrap s).tmod 8 := ⟨_, rfl⟩
    have h4 := h2 z hz
    rw [← hz, if_pos h4.1, if_pos h4.2]
    clear hz h2 h
    have : z = 0 ∨ z = 1 ∨ z = 2 ∨ z = 3 ∨ z = 4 ∨ z = 5 ∨ z = 6 ∨ z = 7 := by omega
    rcases this with rfl | rfl | rfl | rfl | rfl | rfl | rfl | rfl
    · exact ⟨117, by decide, rfl⟩
    · exact ⟨112, by decide, rfl⟩
    · exact ⟨80, by decide, rfl⟩
    · exact ⟨105, by decide, rfl⟩
    · exact ⟨99, by decide, rfl⟩
    · exact ⟨109, by decide, rfl⟩
    · exact ⟨110, by decide, rfl⟩
    · exact ⟨118, by decide, rfl⟩
  unfold Pletter.frisketlaw01_letter.f
  by_cases h0 : s ≥ 0
  · rw [if_pos h0]
    by_cases h1 : s < 256
    · rw [if_pos h1]
      exact ⟨s.toNat, by omega, by congr 1; omega⟩
    · rw [if_neg h1]; exact h3
  · rw [if_neg h0]; exact h3
theorem letter_calls (s : Int) : ∃ b : Nat, b < 256 ∧ ∀ w, Calls Tryd.prog 8 #[.int .i64 s] w fun e w' => e = .returned (.int .u8 b) ∧ Drawn0 w w' := by
  obtain ⟨b, hb, h⟩ := letter_some s
  exact ⟨b, hb, fun w => Pletter.frisketlaw01_letter.calls s b w h⟩
def unitO (b : Nat) (size vs here : Int) : Int × Int := if okB b size vs here then ((find (scL size vs) (b : Int)).getD 0, 0) else (0, 1)
set_option maxRecDepth 100000 in
set_option maxHeartbeats 2000000 in
theorem unit_calls (b : Nat) (size vs here : Int) (w : World) (hb : b < 256) : Calls Tryd.prog 10 #[.int .u8 b, .agg #[.int .i64 size, .int .i64 vs, .int .i64 here]] w fun e w' => e = .returned (.tuple #[.int .i64 (unitO b size vs here).1, .int .i64 (unitO b size vs here).2]) ∧ Below w.heap.size w w' := by
  have HO := Lib.hid (fun W => open_calls ⟨#[]⟩ b size vs here W hb)
  have HL := Lib.hid (fun W m (hm : MapIs eK eV W m (scL size vs)) => run_lookup eK eV keyU Tryd.underlying39 zeroI (scL size vs) (b : Int) (w := W) (b := m) hm false)
  unfold unitO
  obtain ⟨ob, hob⟩ : ∃ x, okB b size vs here = x := ⟨_, rfl⟩
  rw [hob] at HO ⊢
  clear hob
  cases ob
  · go_enter Tryd.func10, Tryd.ntmps10
    go_wp2_with (go_at_call 22; refine (HO.out _).mono ?_; rintro e w1 ⟨pb, m, rfl, hbl, h1, h2, h3, hrd, hm⟩; obtain ⟨k0, k1, k2, k3, k4, k5, k6, k7⟩ := hrd.cells)
    go_ret2
    exact ⟨rfl, ((Below.refl _ w).alloc (Nat.le_refl _) _).trans (hbl.mono (by simp))⟩
  · go_enter Tryd.func10, Tryd.ntmps10
    go_wp2_with (go_at_call 22; refine (HO.out _).mono ?_; rintro e w1 ⟨pb, m, rfl, hbl, h1, h2, h3, hrd, hm⟩; obtain ⟨k0, k1, k2, k3, k4, k5, k6, k7⟩ := hrd.cells; have hl := HL.out _ _ hm; clear hm)
    go_ret2
    exact ⟨rfl, ((Below.refl _ w).alloc (Nat.le_refl _) _).trans (hbl.mono (by simp))⟩
def unitR (b : Nat) (size vs : Int) : Int := if b = 117 then 1 else if b = 112 then 10 else if b = 80 then 120 else if b = 105 then 720 else if b = 99 then 283 else if b = 109 then wrap64 (10 * size) else if b = 110 then wrap64 (5 * size) else vs
set_option maxRecDepth 100000 in
set_option maxHeartbeats 2000000 in
theorem runit_calls (b : Nat) (size vs here : Int) (w : World) : Calls Tryd.prog 20 #[.int .u8 b, .agg #[.int .i64 size, .int .i64 vs, .int .i64 here]] w fun e w' => e = .returned (.int .i64 (unitR b size vs)) ∧ Below w.heap.size w w' := by
  unfold unitR
  have e1 : ∀ k : Nat, ((b : Int) = k) = (b = k) := fun k => by rw [eq_iff_iff]; omega
  go_enter Tryd.func20, Tryd.ntmps20
  go_wp2
  all_goals go_ret
  all_goals
    refine ⟨?_, (Below.refl _ w).alloc (Nat.le_refl _) _⟩
    first | rfl | (exfalso; simp only [beq_iff_eq, beq_eq_false_iff_ne, ne_eq] at *; omega)
def fitsO (size vs here : Int) : Bool := decide (size ≥ 0) && decide (size ≤ 1000000) && decide (vs ≥ 0) && decide (vs ≤ 1000000) && decide (here ≥ -1000000000) && decide (here ≤ 1000000000)
set_option maxRecDepth 100000 in
set_option maxHeartbeats 2000000 in
theorem rfits_calls (size vs here : Int) (w : World) : Calls Tryd.prog 23 #[.agg #[.int .i64 size, .int .i64 vs, .int .i64 here]] w fun e w' => e = .returned (.bool (fitsO size vs here)) ∧ Below w.heap.size w w' := by
  unfold fitsO
  go_enter Tryd.func23, Tryd.ntmps23
  go_wp2
  all_goals
    go_ret
    refine ⟨congrArg (fun b => Ending.returned (.bool b)) ?_, (Below.refl _ w).alloc (Nat.le_refl _) _⟩
    simp
    try omega
def scO : List Nat := [117, 112, 80, 105, 99, 109, 110, 118]
def isScO (b : Nat) : Bool := scO.any (· == b)
theorem run_sc (i : Nat) (hi : i < 8) (W : World) : (Instr.index 9 (.string ⟨#[117, 112, 80, 105, 99, 109, 110, 118]⟩) (.int .i64 (i : Int))).run Tryd.prog W = .ok (.int .u8 ((scO.getD i 0 : Nat) : Int)) W := by
  have : i = 0 ∨ i = 1 ∨ i = 2 ∨ i = 3 ∨ i = 4 ∨ i = 5 ∨ i = 6 ∨ i = 7 := by omega
  rcases this with rfl | rfl | rfl | rfl | rfl | rfl | rfl | rfl <;> rfl
theorem sc_drop (i : Nat) (hi : i < 8) (b : Nat) : (scO.drop i).any (· == b) = (decide (scO.getD i 0 = b) || (scO.drop (i + 1)).any (· == b)) := by
  have : i = 0 ∨ i = 1 ∨ i = 2 ∨ i = 3 ∨ i = 4 ∨ i = 5 ∨ i = 6 ∨ i = 7 := by omega
  rcases this with rfl | rfl | rfl | rfl | rfl | rfl | rfl | rfl <;> rfl
set_option maxRecDepth 100000 in
set_option maxHeartbeats 2000000 in
theorem rscale_calls (b : Nat) (w : World) : Calls Tryd.prog 24 #[.int .u8 b] w fun e w' => e = .returned (.bool (isScO b)) ∧ Below w.heap.size w w' := by
  go_enter Tryd.func24, Tryd.ntmps24
  go_wp2
  go_loopg [3] 8 (fun gk s3 wx => ∃ i : Nat, i + gk = 8 ∧ s3 = .int .i64 i ∧ wx = w ∧ Hid (isScO b = (scO.drop i).any (· == b)))
  case atStart => exact ⟨0, by omega, rfl, rfl, Lib.hid rfl⟩
  case round =>
    obtain ⟨i, hi, rfl, rfl, HR⟩ := hrel
    by_cases hlt : i < 8
    · have i0 : decide ((i : Int) < 8) = true := decide_eq_true (by omega)
      obtain ⟨g', rfl⟩ : ∃ g', gk = g' + 1 := ⟨gk - 1, by omega⟩
      have hx : ∀ W, (Instr.index 9 (.string ⟨#[117, 112, 80, 105, 99, 109, 110, 118]⟩) (.int .i64 (i : Int))).run Tryd.prog W = .ok (.int .u8 ((scO.getD i 0 : Nat) : Int)) W := fun W => run_sc i hlt W
      have hd := sc_drop i hlt b
      obtain ⟨z, hz⟩ : ∃ z, scO.getD i 0 = z := ⟨_, rfl⟩
      rw [hz] at hx hd
      clear hz
      by_cases he : z = b
      · subst he
        have HR2 : isScO z = true := by rw [HR.out, hd]; simp
        clear HR hd
        go_wp2
        go_ret
        exact ⟨by rw [HR2]; rfl, Below.refl _ _⟩
      · have he2 : ((z : Int) == (b : Int)) = false := by rw [beq_eq_false_iff_ne]; omega
        have he3 : decide ((z : Int) = (b : Int)) = false := decide_eq_false (by omega)
        rw [decide_eq_false he, Bool.false_or] at hd
        have HR2 := Lib.hid (HR.out.trans hd)
        clear HR hd
        go_wp2
        go_roundg g'
        case measure => omega
        case rel => exact ⟨i + 1, by omega, by rfl, rfl, HR2⟩
    · have i0 : decide ((i : Int) < 8) = false := decide_eq_false (by omega)
      obtain rfl : i = 8 := by omega
      have HR2 : isScO b = false := HR.out
      clear HR
      go_wp2
      go_ret
      exact ⟨by rw [HR2]; rfl, Below.refl _ _⟩
theorem digs_len2 (n : Nat) (h : ¬ n < 10) : (digs n).size = (digs (n / 10)).size + 1 := by rw [digs_split n h, ByteArray.size_append, one_size]
theorem l0_digs2 : ∀ (k n : Nat) (x : ByteArray), n < 9223372036854775808 → n ≤ k → x.size + (digs n).size ≤ 1000 → PDigits.frisketref01_Digits.l0 (k + 1) n x = some ((if n < 10 then ⟨#[]⟩ else digs (n / 10)) ++ x) := by
  intro k
  induction k with
  | zero =>
    intro n x hn hk hx
    obtain rfl : n = 0 := by omega
    rw [if_pos (by omega), ba_nil]
    rfl
  | succ k ih =>
    intro n x hn hk hx
    rw [PDigits.frisketref01_Digits.l0]
    by_cases h : n < 10
    · rw [if_neg (by omega), if_pos h, ba_nil]
    · rw [if_pos (by omega), if_neg h, Option.bind_some]
      have e1 : wrap64 (Int.tdiv (n : Int) 10) = ((n / 10 : Nat) : Int) := by rw [Int.tdiv_eq_ediv_of_nonneg (by omega), wrap64_in _ (by omega) (by omega)]; omega
      have e2 : Int.tmod ((n / 10 : Nat) : Int) 10 = ((n / 10 % 10 : Nat) : Int) := by rw [Int.tmod_eq_emod_of_nonneg (by omega)]; omega
      rw [e1, e2, num_one _ (by omega)]
      have hsz : (one (48 + n / 10 % 10) ++ x).size = 1 + x.size := by rw [ByteArray.size_append, one_size]
      have hs2 := digs_len2 n h
      rw [if_pos (by rw [one_size]; omega), ih (n / 10) _ (by omega) (by omega) (by rw [hsz]; omega), digs_low (n / 10), ba_assoc]
theorem digits9_calls (n : Nat) (w : World) (hn : n ≤ 9223372036854775807) : Calls Tryd.prog 21 #[.int .i64 n] w fun e w' => e = .returned (.string (digs n)) ∧ Below w.heap.size w w' := by
  refine PDigits.frisketref01_Digits.calls (n + 1) n (digs n) w ?_
  unfold PDigits.frisketref01_Digits.f
  have e2 : Int.tmod (n : Int) 10 = ((n % 10 : Nat) : Int) := by rw [Int.tmod_eq_emod_of_nonneg (by omega)]; omega
  have hs := digs_small n hn
  rw [e2, num_one _ (by omega), l0_digs2 n n _ (by omega) (Nat.le_refl _) (by rw [one_size]; omega), ← digs_low]
theorem find_some (b : Nat) (size vs : Int) : (find (scL size vs) (b : Int)).isSome = isScO b := by
  by_cases h : b = 117 ∨ b = 112 ∨ b = 80 ∨ b = 105 ∨ b = 99 ∨ b = 109 ∨ b = 110 ∨ b = 118
  · rcases h with rfl | rfl | rfl | rfl | rfl | rfl | rfl | rfl <;> rfl
  · have e : isScO b = false := by
      unfold isScO scO
      simp only [List.any_cons, List.any_nil, Bool.or_false, Bool.or_eq_false_iff, beq_eq_false_iff_ne]
      omega
    rw [e]
    unfold find scL
    simp only [List.find?_cons, List.find?_nil]
    rw [decide_eq_false (show ¬ ((b : Int) = 117) by omega), decide_eq_false (show ¬ ((b : Int) = 112) by omega), decide_eq_false (show ¬ ((b : Int) = 80) by omega), decide_eq_false (show ¬ ((b : Int) = 105) by omega), decide_eq_false (show ¬ ((b : Int) = 99) by omega), decide_eq_false (show ¬ ((b : Int) = 109) by omega), decide_eq_false (show ¬ ((b : Int) = 110) by omega), decide_eq_false (show ¬ ((b : Int) = 118) by omega)]
    rfl
theorem find_unit (b : Nat) (size vs : Int) (h : isScO b = true) : (find (scL size vs) (b : Int)).getD 0 = unitR b size vs := by
  have h2 : b = 117 ∨ b = 112 ∨ b = 80 ∨ b = 105 ∨ b = 99 ∨ b = 109 ∨ b = 110 ∨ b = 118 := by
    unfold isScO scO at h
    simp only [List.any_cons, List.any_nil, Bool.or_false, Bool.or_eq_true, beq_iff_eq] at h
    omega
  rcases h2 with rfl | rfl | rfl | rfl | rfl | rfl | rfl | rfl <;> rfl
theorem ok_is (b : Nat) (size vs here : Int) : okB b size vs here = (fitsO size vs here && isScO b) := by
  unfold okB fitsO
  rw [find_some]
  have e1 : decide (min size vs ≥ 0) = (decide (size ≥ 0) && decide (vs ≥ 0)) := by rw [← Bool.decide_and]; exact decide_eq_decide.2 (by omega)
  have e2 : decide (max size vs ≤ 1000000) = (decide (size ≤ 1000000) && decide (vs ≤ 1000000)) := by rw [← Bool.decide_and]; exact decide_eq_decide.2 (by omega)
  rw [e1, e2]
  generalize isScO b = x0
  generalize decide (size ≥ 0) = x1
  generalize decide (vs ≥ 0) = x2
  generalize decide (size ≤ 1000000) = x3
  generalize decide (vs ≤ 1000000) = x4
  generalize decide (here ≥ -1000000000) = x5
  generalize decide (here ≤ 1000000000) = x6
  revert x0 x1 x2 x3 x4 x5 x6
  decide
set_option maxRecDepth 100000 in
set_option maxHeartbeats 2000000 in
theorem runit11_calls (b : Nat) (size vs here : Int) (w : World) : Calls Tryd.prog 11 #[.int .u8 b, .agg #[.int .i64 size, .int .i64 vs, .int .i64 here]] w fun e w' => e = .returned (.tuple #[.int .i64 (unitO b size vs here).1, .int .i64 (unitO b size vs here).2]) ∧ Below w.heap.size w w' := by
  have HF := Lib.hid (fun W => rfits_calls size vs here W)
  have HS := Lib.hid (fun W => rscale_calls b W)
  have HU := Lib.hid (fun W => runit_calls b size vs here W)
  have HR := Lib.hid (find_unit b size vs)
  unfold unitO
  rw [ok_is]
  obtain ⟨f, hf⟩ : ∃ f, fitsO size vs here = f := ⟨_, rfl⟩
  obtain ⟨s, hs⟩ : ∃ s, isScO b = s := ⟨_, rfl⟩
  rw [hf] at HF ⊢
  rw [hs] at HS HR ⊢
  clear hf hs
  cases f
  · go_enter Tryd.func11, Tryd.ntmps11
    go_wp2_with (go_at_call 23; refine (HF.out _).mono ?_; rintro e w1 ⟨rfl, b1⟩)
    go_ret2
    exact ⟨rfl, ((Below.refl _ w).alloc (Nat.le_refl _) _).trans (b1.mono (by simp))⟩
  · cases s
    · go_enter Tryd.func11, Tryd.ntmps11
      go_wp2_with (first
        | (go_at_call 23; refine (HF.out _).mono ?_; rintro e w1 ⟨rfl, b1⟩)
        | (go_at_call 24; refine (HS.out _).mono ?_; rintro e w2 ⟨rfl, b2⟩))
      go_ret2
      have q := ((Below.refl _ w).alloc (Nat.le_refl _) _).trans (b1.mono (by simp))
      exact ⟨rfl, q.trans (b2.mono q.size)⟩
    · have hu := HR.out rfl
      rw [hu]
      clear hu HR
      generalize unitR b size vs = r at *
      go_enter Tryd.func11, Tryd.ntmps11
      go_wp2_with (first
        | (go_at_call 23; refine (HF.out _).mono ?_; rintro e w1 ⟨rfl, b1⟩; have c0 := (b1.cell (p := ⟨w.heap.size, 0, none⟩) (by simp)).trans (show _ = some (.int .i64 size) by simp); have c1 := (b1.cell (p := ⟨w.heap.size, 1, none⟩) (by simp)).trans (show _ = some (.int .i64 vs) by simp); have c2 := (b1.cell (p := ⟨w.heap.size, 2, none⟩) (by simp)).trans (show _ = some (.int .i64 here) by simp); have q1 := ((Below.refl _ w).alloc (Nat.le_refl _) _).trans (b1.mono (by simp)))
        | (go_at_call 24; refine (HS.out _).mono ?_; rintro e w2 ⟨rfl, b2⟩; have q0 : w.heap.size < w1.heap.size := Nat.lt_of_lt_of_le (by simp) b1.size; have d0 := (b2.cell (p := ⟨w.heap.size, 0, none⟩) q0).trans c0; have d1 := (b2.cell (p := ⟨w.heap.size, 1, none⟩) q0).trans c1; have d2 := (b2.cell (p := ⟨w.heap.size, 2, none⟩) q0).trans c2)
        | (go_at_call 20; refine (HU.out _).mono ?_; rintro e w3 ⟨rfl, b3⟩))
      go_ret2
      have q2 := q1.trans (b2.mono q1.size)
      exact ⟨rfl, q2.trans (b3.mono q2.size)⟩
end Go.Proofs.YtkomofphgnekoaaDoor

set_option linter.unusedVariables false
set_option linter.unusedSimpArgs false
namespace Go.Proofs.YtkomofphgnekoaaDoor
open Go.Shelf Go.RowKit Go.Lib Go.Aids Go.MapLit

theorem trimR_zero (l : List UInt8) : trimR (l ++ [48]) = trimR l := by
  unfold trimR
  rw [List.reverse_append, List.reverse_singleton, List.singleton_append, List.dropWhile_cons_of_pos (by decide)]
theorem trimR_stay (l : List UInt8) (c : UInt8) (h : c ≠ 48) : trimR (l ++ [c]) = l ++ [c] := by
  unfold trimR
  rw [List.reverse_append, List.reverse_singleton, List.singleton_append, List.dropWhile_cons_of_neg (by simp [h])]
  simp
theorem part_full (r : Nat) (h : r < 10000) (h0 : 0 < r) : partO r ≠ [] := by
  have : ∀ a : Fin 10, ∀ b : Fin 10, ∀ c : Fin 10, ∀ d : Fin 10, a.1 + b.1 + c.1 + d.1 ≠ 0 → trimR [UInt8.ofNat (48 + a.1), UInt8.ofNat (48 + b.1), UInt8.ofNat (48 + c.1), UInt8.ofNat (48 + d.1)] ≠ [] := by decide +kernel
  exact this ⟨r / 1000, by omega⟩ ⟨r / 100 % 10, by omega⟩ ⟨r / 10 % 10, by omega⟩ ⟨r % 10, by omega⟩ (by
    intro hz
    have h1 : r / 1000 = 0 := by simp only at hz; omega
    have h2 : r / 100 % 10 = 0 := by simp only at hz; omega
    have h3 : r / 10 % 10 = 0 := by simp only at hz; omega
    have h4 : r % 10 = 0 := by simp only at hz; omega
    omega)
theorem pos_int (r : Nat) (h : ¬ r = 0) : decide ((r : Int) > 0) = true := decide_eq_true (by omega)
theorem pos_no (r : Nat) (h : r = 0) : decide ((r : Int) > 0) = false := decide_eq_false (by omega)
theorem last_is (l : List UInt8) (h : l ≠ []) : ∃ l' c, l = l' ++ [c] := ⟨l.dropLast, l.getLast h, (List.dropLast_concat_getLast h).symm⟩
theorem snoc_size (l : List UInt8) (c : UInt8) : (⟨(l ++ [c]).toArray⟩ : ByteArray).size = l.length + 1 := by show ((l ++ [c]).toArray).size = _; simp
theorem snoc_le (l : List UInt8) (c : UInt8) (k : Nat) (h : (l ++ [c]).length ≤ k + 1) : l.length ≤ k := by rw [List.length_append, List.length_singleton] at h; omega
theorem snoc_gas (l : List UInt8) (c : UInt8) (gk : Nat) (h : (l ++ [c]).length ≤ gk) : ∃ g', gk = g' + 1 ∧ l.length ≤ g' := by rw [List.length_append, List.length_singleton] at h; exact ⟨gk - 1, by omega, by omega⟩
theorem snoc_arith (s k : Nat) (h : s = k + 1) (hk : k ≤ 1000) : wrap64 ((s : Int) - 1) = (s : Int) - 1 := by rw [h, wrap64_in _ (by omega) (by omega)]
theorem snoc_at (s k : Nat) (h : s = k + 1) : (k : Int) = (s : Int) - 1 := by omega
theorem not_zero (c : UInt8) (h : c ≠ 48) : ((c.toNat : Int) == 48) = false := by
  rw [beq_eq_false_iff_ne]
  intro hc
  exact h (by apply UInt8.toNat.inj; show c.toNat = 48; omega)
theorem snoc_small (s k : Nat) (h : s = k + 1) (hk : k ≤ 4) : s ≤ 5 := by omega
theorem conv_byte (c : Int) (w : World) : (convert 48 9 (.slice (some ⟨w.heap.size, 0, none⟩) 1 1)).run Tryd.prog (w.alloc (.cells #[.int .u8 c] 5)) = .ok (.string ⟨#[c.toNat.toUInt8]⟩) (w.alloc (.cells #[.int .u8 c] 5)) := by
  exact run_convert_bytes_arg _ 48 5 Tryd.underlying48 Tryd.underlying5 w.heap.size 0 1 1 [c] rfl (fun i hi => by
    obtain rfl : i = 0 := by omega
    simp) 9 Tryd.underlying9
theorem text_dot (T D : ByteArray) (p l : List UInt8) (E S : ByteArray) (h : T = D ++ ⟨(dotL p).toArray⟩ ++ E) (hp : p = l) (hl : (!l.isEmpty) = true) (hS : ⟨l.toArray⟩ = S) : T = D ++ (⟨#[46]⟩ ++ S) ++ E := by
  rw [h, hp, dotL_full l hl, hS]
theorem run_last (l : List UInt8) (c : UInt8) (W : World) : (Instr.index 9 (.string ⟨(l ++ [c]).toArray⟩) (.int .i64 (l.length : Int))).run Tryd.prog W = .ok (.int .u8 (c.toNat : Int)) W := by
  have hs : (⟨(l ++ [c]).toArray⟩ : ByteArray).size = l.length + 1 := by show ((l ++ [c]).toArray).size = _; simp
  rw [run_index_string (P := Tryd.prog) (w := W) 9 _ .i64 (l.length : Int) Tryd.underlying9, dif_pos ⟨by omega, by rw [hs]; omega⟩]
  congr 3
  show (((l ++ [c]).toArray)[((l.length : Nat) : Int).toNat]'_).toNat = _
  simp
theorem run_init (l : List UInt8) (c : UInt8) (W : World) : (Instr.slice 9 (.string ⟨(l ++ [c]).toArray⟩) none (some (.int .i64 (l.length : Int))) none).run Tryd.prog W = .ok (.string ⟨l.toArray⟩) W := by
  have hs : (⟨(l ++ [c]).toArray⟩ : ByteArray).size = l.length + 1 := by show ((l ++ [c]).toArray).size = _; simp
  have e1 := run_sliceBound (P := Tryd.prog) (w := W) .i64 (l.length : Int) (⟨(l ++ [c]).toArray⟩ : ByteArray).size .sliceAlen (by omega) (by rw [hs]; omega)
  simp [Instr.slice, run_underlying Tryd.underlying9, Instr.sliceBounds, e1, Result.andThen]
  apply ByteArray.ext
  apply Array.ext'
  simp [ByteArray.data_extract]
set_option maxRecDepth 100000 in
set_option maxHeartbeats 4000000 in
theorem rtext_good (n b : Nat) (hn : n ≤ 9223372036854775807) (hb : isUnit b) (w : World) :
    Calls Tryd.prog 9 #[.int .i64 n, .int .u8 b] w fun e w' => e = .returned (.tuple #[.string (textT n b), .int .i64 0]) ∧ Below w.heap.size w w' := by
  have hu := unitN_pos b
  have hr := rest_lt n b
  have hur : unitR b 0 0 = (unitN b : Int) := by rcases hb with rfl | rfl | rfl | rfl <;> rfl
  have H20 := Lib.hid (fun W => runit_calls b 0 0 0 W)
  rw [hur] at H20
  have HD : Hid (textT n b = digs (n / unitN b) ++ ⟨(dotL (partO (restN n b))).toArray⟩ ++ ⟨#[UInt8.ofNat b]⟩) := Lib.hid rfl
  obtain ⟨T, hTT⟩ : ∃ T, textT n b = T := ⟨_, rfl⟩
  rw [hTT] at HD ⊢
  have hX5 := five_size (restN n b) hr
  have hXt := five_tail (restN n b) hr
  have hq : n / unitN b ≤ 9223372036854775807 := Nat.le_trans (Nat.div_le_self _ _) hn
  have hqs := digs_small (n / unitN b) hq
  have hm := Nat.mod_lt n (show 0 < unitN b by omega)
  have hrd : n % unitN b * 10000 / unitN b = restN n b := rfl
  obtain ⟨u, hU⟩ : ∃ u, unitN b = u := ⟨_, rfl⟩
  obtain ⟨r, hR⟩ : ∃ r, restN n b = r := ⟨_, rfl⟩
  rw [hU] at hu H20 HD hq hqs hm hrd
  rw [hR] at hr HD hX5 hXt hrd
  have a0 := ar0 u hu.1
  have a1 := ar1 n u hq
  have a2 := ar2 n u
  have a3 := ar3 (n % u) (Nat.le_of_lt (Nat.lt_of_lt_of_le hm hu.2))
  have a4 : wrap64 (((n % u * 10000 : Nat) : Int) / (u : Int)) = (r : Int) := by
    rw [ar1 (n % u * 10000) u (by rw [hrd]; exact Nat.le_trans (Nat.le_of_lt hr) (by decide)), hrd]
  have a5 := ar5 r hr
  have H15a := Lib.hid (fun W => digits9_calls (n / u) W hq)
  have H15b : Hid (∀ W, Calls Tryd.prog 21 #[.int .i64 (10000 + (r : Int))] W fun e w' => e = .returned (.string (digs (10000 + r))) ∧ Below W.heap.size W w') := Lib.hid (fun W => by
    have := digits9_calls (10000 + r) W (Nat.le_trans (Nat.add_le_add_left (Nat.le_of_lt hr) _) (by decide))
    rw [Int.natCast_add] at this
    exact this)
  obtain ⟨q, hQ⟩ : ∃ q, n / u = q := ⟨_, rfl⟩
  obtain ⟨m, hM⟩ : ∃ q, n % u = q := ⟨_, rfl⟩
  obtain ⟨m2, hM2⟩ : ∃ q, m * 10000 = q := ⟨_, rfl⟩
  obtain ⟨x, hXX⟩ : ∃ q, 10000 + r = q := ⟨_, rfl⟩
  rw [hQ] at a1 H15a HD hqs
  rw [hM] at a2
  rw [hM, hM2] at a3 a4
  rw [hXX] at H15b hX5 hXt
  obtain ⟨X, hXd⟩ : ∃ X, digs x = X := ⟨_, rfl⟩
  obtain ⟨D, hDd⟩ : ∃ X, digs q = X := ⟨_, rfl⟩
  rw [hXd] at H15b hX5 hXt
  rw [hDd] at H15a HD hqs
  have HPF := Lib.hid (part_full r hr)
  have hp0 : r = 0 → partO r = [] := fun h => by rw [h]; decide
  clear hrd hm hq hU hR hQ hM hM2 hXX hXd hDd hTT
  have hpl : (partL r).length = 4 := rfl
  obtain ⟨pl, hPL⟩ : ∃ l, partL r = l := ⟨_, rfl⟩
  have HP : Hid (partO r = trimR pl) := Lib.hid (by rw [← hPL]; rfl)
  rw [hPL] at hXt hpl
  obtain ⟨p, hp⟩ : ∃ p, partO r = p := ⟨_, rfl⟩
  rw [hp] at HD HP HPF hp0
  have hX1 : (1 : Int) ≤ X.size := by omega
  clear hp hPL
  by_cases hr0 : r = 0
  · obtain rfl := hp0 hr0
    have hr1 := pos_no r hr0
    have hr2 : ¬ (0 < r) := fun h => Nat.lt_irrefl 0 (hr0 ▸ h)
    have hr3 : decide (0 < r) = false := decide_eq_false hr2
    clear hp0 HPF HP hr0
    have v1 := fun W => conv_byte 117 W
    have v2 := fun W => conv_byte 112 W
    have v3 := fun W => conv_byte 80 W
    have v4 := fun W => conv_byte 105 W
    rcases hb with rfl | rfl | rfl | rfl
    all_goals
      go_enter Tryd.func9, Tryd.ntmps9
      go_wp2_with (first
        | (go_at_call 20; refine (H20.out _).mono ?_; rintro e w1 ⟨rfl, b1⟩)
        | (go_at_call 21; refine (H15a.out _).mono ?_; rintro e w2 ⟨rfl, b2⟩; have B2 := b1.trans (b2.mono b1.size); clear b2))
      go_ret2
      refine ⟨?_, B2.alloc B2.size _⟩
      rw [HD.out, dotL_none [] rfl D]
      rfl
  · have hr1 : decide ((r : Int) > 0) = true := pos_int r hr0
    have HPF2 := Lib.hid (HPF.out (Nat.pos_of_ne_zero hr0))
    clear HPF hp0
    have v1 := fun W => conv_byte 117 W
    have v2 := fun W => conv_byte 112 W
    have v3 := fun W => conv_byte 80 W
    have v4 := fun W => conv_byte 105 W
    rcases hb with rfl | rfl | rfl | rfl
    all_goals
      go_enter Tryd.func9, Tryd.ntmps9
      go_wp2_with (first
        | (go_at_call 20; refine (H20.out _).mono ?_; rintro e w1 ⟨rfl, b1⟩)
        | (go_at_call 21; go_loud (first
          | (with_reducible refine (H15a.out _).mono ?_; rintro e w2 ⟨rfl, b2⟩; have B2 := b1.trans (b2.mono b1.size); clear b2 H15a)
          | (with_reducible refine (H15b.out _).mono ?_; rintro e w3 ⟨rfl, b3⟩; have B3 := B2.trans (b3.mono B2.size); clear b3))))
      have HB3 := Lib.hid B3
      clear B3 H20 H15b b1 B2
      go_loopg [9] 5 (fun gk s9 wx => ∃ l : List UInt8, l.length ≤ gk ∧ gk ≤ 5 ∧ s9 = .string ⟨l.toArray⟩ ∧ wx = w3 ∧ Hid (p = trimR l))
      case atStart => exact ⟨pl, by rw [hpl]; decide, by decide, rfl, rfl, HP⟩
      case round =>
        obtain ⟨l, hl, hg5, rfl, rfl, HL⟩ := hrel
        obtain ⟨l', c, rfl⟩ := last_is l (by rintro rfl; exact HPF2.out HL.out)
        have hs := snoc_size l' c
        have x1 := fun W => run_last l' c W
        have x2 := fun W => run_init l' c W
        have hl5 := snoc_le l' c 4 (Nat.le_trans hl hg5)
        by_cases hc : c = 48
        · subst hc
          have HL2 := Lib.hid (HL.out.trans (trimR_zero l'))
          obtain ⟨g', rfl, hg'⟩ := snoc_gas l' 48 gk hl
          obtain ⟨S, hS⟩ : ∃ S, (⟨(l' ++ [48]).toArray⟩ : ByteArray) = S := ⟨_, rfl⟩
          rw [hS] at hs
          simp only [hS] at x1 x2 ⊢
          have y0 := snoc_at S.size l'.length hs
          have y1 := snoc_arith S.size l'.length hs (Nat.le_trans hl5 (by decide))
          have HS := Lib.hid hs
          have HG := Lib.hid hg'
          simp only [y0, show (((48 : UInt8).toNat : Nat) : Int) = 48 from rfl] at x1 x2
          clear HL a0 a1 a2 a3 a4 a5 hS hl hl5 hs hg' y0
          go_wp2
          go_roundg g'
          case measure => exact Nat.lt_succ_self _
          case rel => exact ⟨l', HG.out, Nat.le_trans (Nat.le_succ _) hg5, rfl, rfl, HL2⟩
        · have HL2 := Lib.hid (HL.out.trans (trimR_stay l' c hc))
          obtain ⟨S, hS⟩ : ∃ S, (⟨(l' ++ [c]).toArray⟩ : ByteArray) = S := ⟨_, rfl⟩
          rw [hS] at hs
          simp only [hS] at x1 x2 ⊢
          have y0 := snoc_at S.size l'.length hs
          have y1 := snoc_arith S.size l'.length hs (Nat.le_trans hl5 (by decide))
          have HS := Lib.hid hs
          have y3 := not_zero c hc
          obtain ⟨z, hz⟩ : ∃ z : Int, (c.toNat : Int) = z := ⟨_, rfl⟩
          simp only [y0, hz] at x1 x2 y3
          have HF := Lib.hid (text_dot _ _ _ _ _ S HD.out HL2.out (by simp) hS)
          have hS5 : S.size ≤ 5 := snoc_small S.size l'.length hs hl5
          clear HL a0 a1 a2 a3 a4 a5 hS hl hl5 hs y0 hz HD HP HL2 x2 hc
          go_wp2
          go_ret2
          refine ⟨?_, HB3.out.alloc HB3.out.size _⟩
          rw [HF.out]
          rfl
set_option maxRecDepth 100000 in
theorem rtext_neg (n b : Int) (hn : n < 0) (w : World) : Calls Tryd.prog 9 #[.int .i64 n, .int .u8 b] w fun e w' => e = .returned (.tuple #[.string ⟨#[]⟩, .int .i64 1]) ∧ Below w.heap.size w w' := by
  go_enter Tryd.func9, Tryd.ntmps9
  go_wp2
  go_ret2
  exact ⟨rfl, Below.refl _ _⟩
set_option maxRecDepth 100000 in
theorem rtext_none (n b : Nat) (hb : ¬ isUnit b) (w : World) : Calls Tryd.prog 9 #[.int .i64 n, .int .u8 b] w fun e w' => e = .returned (.tuple #[.string ⟨#[]⟩, .int .i64 1]) ∧ Below w.heap.size w w' := by
  have h1 : ((b : Int) == 117) = false := by rw [beq_eq_false_iff_ne]; unfold isUnit at hb; omega
  have h2 : ((b : Int) == 112) = false := by rw [beq_eq_false_iff_ne]; unfold isUnit at hb; omega
  have h3 : ((b : Int) == 80) = false := by rw [beq_eq_false_iff_ne]; unfold isUnit at hb; omega
  have h4 : ((b : Int) == 105) = false := by rw [beq_eq_false_iff_ne]; unfold isUnit at hb; omega
  have g1 : ¬ ((b : Int) = 117) := by unfold isUnit at hb; omega
  have g2 : ¬ ((b : Int) = 112) := by unfold isUnit at hb; omega
  have g3 : ¬ ((b : Int) = 80) := by unfold isUnit at hb; omega
  have g4 : ¬ ((b : Int) = 105) := by unfold isUnit at hb; omega
  generalize (b : Int) = c at *
  have k1 : (c != 117) = true := by rw [bne, h1]; rfl
  have k2 : (c != 112) = true := by rw [bne, h2]; rfl
  have k3 : (c != 80) = true := by rw [bne, h3]; rfl
  have k4 : (c != 105) = true := by rw [bne, h4]; rfl
  clear hb h1 h2 h3 h4 g1 g2 g3 g4
  go_enter Tryd.func9, Tryd.ntmps9
  go_wp2
  go_ret2
  exact ⟨rfl, Below.refl _ _⟩
theorem rtext_calls (n : Int) (b : Nat) (h1 : n ≤ 9223372036854775807) (w : World) : Calls Tryd.prog 9 #[.int .i64 n, .int .u8 b] w fun e w' => e = .returned (.tuple #[.string (textO n b).1, .int .i64 (textO n b).2]) ∧ Below w.heap.size w w' := by
  unfold textO
  by_cases hn : n < 0
  · rw [if_pos (Or.inl hn)]; exact rtext_neg n b hn w
  · obtain ⟨k, rfl⟩ := Int.eq_ofNat_of_zero_le (Int.not_lt.1 hn)
    by_cases hb : isUnit b
    · rw [if_neg (fun q => q.elim hn (fun q => q hb))]; exact rtext_good k b (by omega) hb w
    · rw [if_pos (Or.inr hb)]; exact rtext_none k b hb w
end Go.Proofs.YtkomofphgnekoaaDoor

set_option linter.unusedVariables false
set_option linter.unusedSimpArgs false
namespace Go.Proofs.YtkomofphgnekoaaDoor
open Go.Shelf Go.RowKit Go.Lib Go.Aids Go.MapLit Go.Proofs.YtkomofphgnekoaaDoorW.PrintWords Go.Proofs.YtkomofphgnekoaaDoorW.PrintLast

theorem drawn_below {w w' : World} (h : Drawn0 w w') : Below w.heap.size w w' := by
  obtain ⟨n, rfl⟩ := h
  exact ⟨rfl, rfl, rfl, Nat.le_refl _, fun _ _ => rfl⟩
theorem as_calls (a b c : Int) (w : World) : Calls Tryd.prog 12 #[.agg #[.int .i64 a, .int .i64 b, .int .i64 c]] w fun e w' => e = .returned (.agg #[.int .i64 a, .int .i64 b, .int .i64 c]) ∧ Below w.heap.size w w' :=
  Pas.frisketlaw01_as.calls a b c a b c w rfl
set_option maxRecDepth 100000 in
set_option maxHeartbeats 4000000 in
theorem texts_calls (n s : Int) (hn : n ≤ 9223372036854775807) (x y z : Int) (w : World) (ht : Tab w) : Calls Tryd.prog 4 #[.int .i64 n, .int .i64 s, .agg #[.int .i64 x, .int .i64 y, .int .i64 z]] w fun e w' => e = .returned (.bool true) ∧ Below w.heap.size w w' := by
  obtain ⟨b, hb, hl⟩ := letter_calls s
  have HL : Hid (∀ W, Calls Tryd.prog 8 #[.int .i64 s] W fun e w' => e = .returned (.int .u8 b) ∧ Below W.heap.size W w') := Lib.hid (fun W => (hl W).mono (fun e w' h => ⟨h.1, drawn_below h.2⟩))
  have HT := Lib.hid (fun W (h : Below w.heap.size w W) => text_calls n b hn hb W (ht.below h))
  have HR := Lib.hid (fun W => rtext_calls n b hn W)
  have HU := Lib.hid (fun W => unit_calls b x y z W hb)
  have HV := Lib.hid (fun W => runit11_calls b x y z W)
  have HA := Lib.hid (fun W => as_calls x y z W)
  have HS := Lib.hid (fun W => sane_calls W)
  generalize textO n b = t at HT HR
  generalize unitO b x y z = u at HU HV
  obtain ⟨t1, t2⟩ := t
  obtain ⟨u1, u2⟩ := u
  clear hl ht hb hn
  go_enter Tryd.func4, Tryd.ntmps4
  have HB0 := Lib.hid ((Below.refl w.heap.size w).alloc (Nat.le_refl _) (.cells #[.int .i64 x, .int .i64 y, .int .i64 z] 23))
  have HC : Hid ((w.alloc (.cells #[.int .i64 x, .int .i64 y, .int .i64 z] 23)).cell? ⟨w.heap.size, 0, none⟩ = some (.int .i64 x) ∧ (w.alloc (.cells #[.int .i64 x, .int .i64 y, .int .i64 z] 23)).cell? ⟨w.heap.size, 1, none⟩ = some (.int .i64 y) ∧ (w.alloc (.cells #[.int .i64 x, .int .i64 y, .int .i64 z] 23)).cell? ⟨w.heap.size, 2, none⟩ = some (.int .i64 z) ∧ w.heap.size < (w.alloc (.cells #[.int .i64 x, .int .i64 y, .int .i64 z] 23)).heap.size) := Lib.hid (by simp)
  go_upto_region 1 with fail
  obtain ⟨W1, hW1⟩ : ∃ W, w.alloc (.cells #[.int .i64 x, .int .i64 y, .int .i64 z] 23) = W := ⟨_, rfl⟩
  simp only [hW1] at HC HB0 ⊢
  clear hW1
  obtain ⟨g, hg⟩ : ∃ g, w.heap.size = g := ⟨_, rfl⟩
  have HG := Lib.hid hg
  have hN : Below W1.heap.size W1 W1 := Below.refl _ _
  have HK := Lib.hid (show ∀ w' : World, Below W1.heap.size W1 w' → w'.cell? ⟨g, 0, none⟩ = some (.int .i64 x) ∧ w'.cell? ⟨g, 1, none⟩ = some (.int .i64 y) ∧ w'.cell? ⟨g, 2, none⟩ = some (.int .i64 z) from fun w' h => by
    subst hg
    exact ⟨(h.cell (p := ⟨w.heap.size, 0, none⟩) HC.out.2.2.2).trans HC.out.1, (h.cell (p := ⟨w.heap.size, 1, none⟩) HC.out.2.2.2).trans HC.out.2.1, (h.cell (p := ⟨w.heap.size, 2, none⟩) HC.out.2.2.2).trans HC.out.2.2.1⟩)
  have HTT := Lib.hid (fun W (h : Below W1.heap.size W1 W) => HT.out W (HB0.out.trans (h.mono HB0.out.size)))
  simp only [hg]
  clear hg HC HT
  go_upto_region 5 with (first
    | (go_at_call 8; refine (HL.out _).mono ?_; rintro e w5 ⟨rfl, hb5⟩; have hN := Below.trans hN (hb5.mono hN.size); clear hb5)
    | (go_at_call 5; refine (HTT.out _ hN).mono ?_; rintro e w6 ⟨rfl, hb6⟩; have hN := Below.trans hN (hb6.mono hN.size); clear hb6)
    | (go_at_call 9; refine (HR.out _).mono ?_; rintro e w6 ⟨rfl, hb6⟩; have hN := Below.trans hN (hb6.mono hN.size); clear hb6))
  go_cut [8, 11] (fun v8 v11 wx => v8 = .int .i64 u2 ∧ v11 = .int .i64 u1 ∧ Hid (Below W1.heap.size W1 wx))
  case first =>
    have hN : Below W1.heap.size W1 w6.drew := hN.drew
    go_region_held3 (fun w' => w'.cell? ⟨g, 0, none⟩ = some (.int .i64 x) ∧ w'.cell? ⟨g, 1, none⟩ = some (.int .i64 y) ∧ w'.cell? ⟨g, 2, none⟩ = some (.int .i64 z))
      (exact HK.out _ (by assumption))
      (first
        | (go_at_call 8; refine (HL.out _).mono ?_; rintro e w7 ⟨rfl, hb7⟩; have hN := Below.trans hN (hb7.mono hN.size))
        | (go_at_call 10; refine (HU.out _).mono ?_; rintro e w7 ⟨rfl, hb7⟩; have hN := Below.trans hN (hb7.mono hN.size)))
    all_goals
      have HBL := Lib.hid hN
      go_wp2_with fail
      go_meet
    all_goals exact ⟨rfl, rfl, HBL⟩
  case rest =>
    obtain ⟨rfl, rfl, H6⟩ := hcut
    have hN := H6.out
    clear H6
    go_upto_region 6 with fail
    go_cut [10, 12] (fun v8 v11 wx => v8 = .int .i64 u2 ∧ v11 = .int .i64 u1 ∧ Hid (Below W1.heap.size W1 wx))
    case first =>
      have hN := hN.drew
      go_region_held3 (fun w' => w'.cell? ⟨g, 0, none⟩ = some (.int .i64 x) ∧ w'.cell? ⟨g, 1, none⟩ = some (.int .i64 y) ∧ w'.cell? ⟨g, 2, none⟩ = some (.int .i64 z))
        (exact HK.out _ (by assumption))
        (first
          | (go_at_call 8; refine (HL.out _).mono ?_; rintro e w7 ⟨rfl, hb7⟩; have hN := Below.trans hN (hb7.mono hN.size))
          | (go_at_call 12; refine (HA.out _).mono ?_; rintro e w7 ⟨rfl, hb7⟩; have hN := Below.trans hN (hb7.mono hN.size))
          | (go_at_call 11; refine (HV.out _).mono ?_; rintro e w7 ⟨rfl, hb7⟩; have hN := Below.trans hN (hb7.mono hN.size)))
      all_goals
        have HBL := Lib.hid hN
        go_wp2_with fail
        go_meet
      all_goals exact ⟨rfl, rfl, HBL⟩
    case rest =>
      obtain ⟨rfl, rfl, H7⟩ := hcut
      go_wp2_with (go_at_call 7; refine (HS.out _).mono ?_; rintro e w8 ⟨rfl, hb8⟩)
      go_ret
      have q := HB0.out.trans (H7.out.mono HB0.out.size)
      exact ⟨rfl, q.trans (hb8.mono q.size)⟩
end Go.Proofs.YtkomofphgnekoaaDoor

set_option linter.unusedVariables false
set_option linter.unusedSimpArgs false
namespace Go.Proofs.YtkomofphgnekoaaDoor
open Go.Shelf Go.RowKit Go.Lib Go.Aids Go.MapLit Go.Opens Go.Proofs.YtkomofphgnekoaaDoorW.PrintWords

theorem tab_of2 {W : World} (h : laidMetH Tryd.prog Rows.measureTextsRow.laid W) : Tab W := by
  rw [MakeChecks.laidMetH_plain _ _ _ (by kernel_rfl)] at h
  have h2 : laidMet Tryd.prog [("internal/strconv.uint64pow10", Lib.tabData .u64 Lib.pow10Tab), ("unicode/utf8.acceptRanges", Rows.laid_unicode_utf8_acceptRanges), ("unicode/utf8.first", Rows.laid_unicode_utf8_first)] W := h.tail.tail
  exact Lib.tabIs_of_head gPow (t := 89) (e := 81) (n := 20) (by kernel_rfl) (by kernel_rfl) (by kernel_rfl) (by kernel_rfl) (by kernel_rfl) h2
theorem wf_le {n : Int} (h : wfI n) : n ≤ 9223372036854775807 := by
  have h2 : (decide (IntKind.min .i64 ≤ n) && decide (n ≤ IntKind.max .i64)) = true := h
  have h3 := of_decide_eq_true (Bool.and_eq_true_iff.1 h2).2
  have e : IntKind.max .i64 = 9223372036854775807 := by rfl
  rw [e] at h3
  exact h3
theorem texts_row {W w : World} {cs : Array Value} {a : Int × Int × Int} (n s : Int) (hn : wfI n) (h : kThree.K W a cs.toList) (ht : Tab w) : Calls Tryd.prog 4 #[.int .i64 n, .int .i64 s, .agg cs] w fun e w' => e = .returned (.bool true) ∧ Below w.heap.size w w' := by
  rw [three_is h]
  exact texts_calls n s (wf_le hn) _ _ _ w ht
end Go.Proofs.YtkomofphgnekoaaDoor

/- Merged: RefE, RefF, RefG, RefH, RefI, RefJ, RefK, RefL, RefM, WalkO, WalkS, RefN, WalkQ, WalkR, RefO, RefP, PureD, WalkP, RefQ, KindsC, RowAid. -/
import Derived.Test.YtkomofphgnekoaaZR0
import Derived.Test.YtkomofphgnekoaaPletterx1
import Derived.Test.YtkomofphgnekoaaPasx1
import Derived.Test.YtkomofphgnekoaaPbitsx1
import Derived.Below
import Derived.ChangeSame
set_option linter.unusedVariables false
set_option linter.unusedSimpArgs false
namespace Go.Proofs.Ytkomofphgnekoaa
open Go.Shelf Go.RowKit Go.Lib Go.Aids Go.MapLit Go.Proofs.YtkomofphgnekoaaW.PrintWords
open PNumber (frisketref01_number.f frisketref01_number.l0 frisketref01_number.l1 frisketref01_number.j1 frisketref01_number.j2 frisketref01_number.j4 frisketref01_number.j5 frisketref01_number.j6)

/-- What number hands back, once its digits are read. -/
def endR (c : Cx) (cnt n p pl a2 : Nat) : Int × Int × Int := if cnt = 0 then (0, 0, 4) else numR c n p pl a2
theorem j4_f (c : Cx) (ok : c.Ok) (k n p pl a2 cnt : Nat) (hn : n < 1000000000) (hp : p < 1000000000) (ha : a2 ≤ c.s.size) :
    frisketref01_number.j4 (k + 13) c.s (a2 : Int) c.scale n p ((10 ^ pl : Nat) : Int) cnt c.size c.vs c.here = some (endR c cnt n p pl a2) := by
  have hs := ok.hs
  rw [frisketref01_number.j4]
  unfold endR
  by_cases hc : cnt = 0
  · rw [if_pos (by omega), if_pos hc]
  rw [if_neg (by omega), if_neg hc]
  obtain ⟨u0, hu0⟩ := Option.isSome_iff_exists.1 ok.u
  have e0 : (unitOf c c.scale).getD 0 = u0 := by rw [hu0]; rfl
  by_cases hlt : a2 < c.s.size
  · have hpk := pk_256 c.s a2
    rw [if_pos (by omega), if_pos (by omega), bt_pk _ _ hlt, scale_f c (k + 3) _ hpk, Option.bind_some]
    rw [frisketref01_number.j5]
    rcases hu : unitOf c (pk c.s a2) with _ | u
    · rw [if_neg (by simp), j6_f c ok (k + 10) c.scale u0 hu0 n p pl a2 hn hp]
      unfold numR
      rw [hu, e0]
    · rw [if_pos (by simp), if_pos (by omega), if_pos (by omega), show wrap64 ((a2 : Int) + 1) = ((a2 + 1 : Nat) : Int) by rw [wrap64_in _ (by omega) (by omega)]; rfl, bt_pk _ _ hlt, j6_f c ok (k + 10) (pk c.s a2) u hu n p pl (a2 + 1) hn hp]
      unfold numR
      rw [hu]
  · rw [if_neg (by omega), frisketref01_number.j5, if_neg (by decide), j6_f c ok (k + 10) c.scale u0 hu0 n p pl a2 hn hp]
    have hz : pk c.s a2 = 0 := by unfold pk; rw [dif_neg hlt]
    have hn0 : unitOf c 0 = none := rfl
    unfold numR
    rw [hz, hn0, e0]
theorem digit_f (s : ByteArray) (a : Nat) : PNumber.frisketref01_digit.f (pk s a : Int) = some (decide (isDig s a)) := by
  unfold PNumber.frisketref01_digit.f
  by_cases h1 : 48 ≤ pk s a
  · rw [if_pos (by omega)]
    by_cases h2 : pk s a ≤ 57
    · rw [decide_eq_true (show ((pk s a : Int)) ≤ 57 by omega), decide_eq_true (show isDig s a from ⟨h1, h2⟩)]
    · rw [decide_eq_false (show ¬ ((pk s a : Int)) ≤ 57 by omega), decide_eq_false (show ¬ isDig s a from fun h => h2 h.2)]
  · rw [if_neg (by omega), decide_eq_false (show ¬ isDig s a from fun h => h1 h.1)]
theorem pow_le9 {m : Nat} (h : m ≤ 9) : 10 ^ m ≤ 1000000000 := by
  have := Nat.pow_le_pow_right (show 0 < 10 by decide) h
  simpa using this
theorem step_num {s : ByteArray} {a m p : Nat} (hd : isDig s a) (hp : p < 10 ^ m) (hm : m < 9) :
    wrap64 (wrap64 ((p : Int) * 10) + ((pk s a : Int) - 48) % 256) = ((p * 10 + (pk s a - 48) : Nat) : Int) ∧ p * 10 + (pk s a - 48) < 10 ^ (m + 1) := by
  have h9 := pow_le9 (show m ≤ 9 by omega)
  unfold isDig at hd
  rw [wrap64_in ((p : Int) * 10) (by omega) (by omega), wrap64_in _ (by omega) (by omega), Nat.pow_succ]
  omega
theorem l1_f (c : Cx) (ok : c.Ok) (k n b cnt : Nat) (hn : n < 1000000000) (hcnt : cnt ≤ 9) : ∀ q m p : Nat, m + q = 9 → p < 10 ^ m → b + m ≤ c.s.size →
    frisketref01_number.l1 (k + 14 + q) c.s ((b + m : Nat) : Int) c.scale n p ((10 ^ m : Nat) : Int) cnt b c.size c.vs c.here = some (endR c (cnt + ((rowF c.s q p (b + m)).2 - b)) n (rowF c.s q p (b + m)).1 ((rowF c.s q p (b + m)).2 - b) (rowF c.s q p (b + m)).2)
  | q, m, p, hq, hp, hb => by
    have hs := ok.hs
    have h9 := pow_le9 (show m ≤ 9 by omega)
    have wd : wrap64 (((b + m : Nat) : Int) - b) = (m : Int) := by rw [wrap64_in _ (by omega) (by omega)]; omega
    have wc : wrap64 ((cnt : Int) + m) = ((cnt + m : Nat) : Int) := by rw [wrap64_in _ (by omega) (by omega)]; rfl
    have stop : ∀ j, frisketref01_number.j4 (j + 13) c.s ((b + m : Nat) : Int) c.scale n p ((10 ^ m : Nat) : Int) (wrap64 ((cnt : Int) + m)) c.size c.vs c.here = some (endR c (cnt + m) n p m (b + m)) := by
      intro j
      rw [wc]
      exact j4_f c ok j n p m (b + m) (cnt + m) hn (by omega) hb
    have same : b + m - b = m := by omega
    rw [show k + 14 + q = (k + 13 + q) + 1 by omega, frisketref01_number.l1, wd]
    match q, hq with
    | 0, hq =>
      have hr : rowF c.s 0 p (b + m) = (p, b + m) := rfl
      rw [hr]
      simp only [same]
      by_cases hlt : b + m < c.s.size
      · rw [if_pos (by omega), if_pos (by omega), bt_pk _ _ hlt, digit_f, Option.bind_some]
        by_cases hd : isDig c.s (b + m)
        · rw [if_pos (by simpa using hd), if_neg (by omega), show k + 13 + 0 = k + 13 from rfl, stop]
        · rw [if_neg (by simpa using hd), show k + 13 + 0 = k + 13 from rfl, stop]
      · rw [if_neg (by omega), show k + 13 + 0 = k + 13 from rfl, stop]
    | q + 1, hq =>
      by_cases hlt : b + m < c.s.size
      · rw [if_pos (by omega), if_pos (by omega), bt_pk _ _ hlt, digit_f, Option.bind_some]
        by_cases hd : isDig c.s (b + m)
        · have hr : rowF c.s (q + 1) p (b + m) = rowF c.s q (p * 10 + (pk c.s (b + m) - 48)) (b + m + 1) := by rw [rowF, if_pos hd]
          obtain ⟨e1, e2⟩ := step_num hd hp (by omega)
          have e3 : wrap64 (((10 ^ m : Nat) : Int) * 10) = ((10 ^ (m + 1) : Nat) : Int) := by rw [wrap64_in _ (by omega) (by omega), Nat.pow_succ]; omega
          rw [if_pos (by simpa using hd), if_pos (by omega), e1, e3, show wrap64 (((b + m : Nat) : Int) + 1) = ((b + (m + 1) : Nat) : Int) by rw [wrap64_in _ (by omega) (by omega)]; omega, show k + 13 + (q + 1) = k + 14 + q by omega,
            l1_f c ok k n b cnt hn hcnt q (m + 1) _ (by omega) e2 (by omega), hr, show b + (m + 1) = b + m + 1 by omega]
        · have hr : rowF c.s (q + 1) p (b + m) = (p, b + m) := by rw [rowF, if_neg hd]
          rw [hr]
          simp only [same]
          rw [if_neg (by simpa using hd), show k + 13 + (q + 1) = (k + (q + 1)) + 13 by omega, stop]
      · have hz : pk c.s (b + m) = 0 := by unfold pk; rw [dif_neg hlt]
        have hr : rowF c.s (q + 1) p (b + m) = (p, b + m) := by rw [rowF, if_neg (by unfold isDig; rw [hz]; omega)]
        rw [hr]
        simp only [same]
        rw [if_neg (by omega), show k + 13 + (q + 1) = (k + (q + 1)) + 13 by omega, stop]
end Go.Proofs.Ytkomofphgnekoaa

set_option linter.unusedVariables false
set_option linter.unusedSimpArgs false
namespace Go.Proofs.Ytkomofphgnekoaa
open Go.Shelf Go.RowKit Go.Lib Go.Aids Go.MapLit Go.Proofs.YtkomofphgnekoaaW.PrintWords
open PNumber (frisketref01_number.f frisketref01_number.l0 frisketref01_number.l1 frisketref01_number.j1 frisketref01_number.j2 frisketref01_number.j4 frisketref01_number.j5 frisketref01_number.j6)

theorem j1_f (c : Cx) (ok : c.Ok) (k n a a1 : Nat) (hn : n < 1000000000) (h0 : a ≤ a1) (h9 : a1 ≤ a + 9) (h1 : a1 ≤ c.s.size) :
    frisketref01_number.j1 (k + 25) c.s (a1 : Int) c.scale n 0 1 a c.size c.vs c.here = some (endR c ((a1 - a) + (dotO c.s a1).2.1) n (dotO c.s a1).1 (dotO c.s a1).2.1 (dotO c.s a1).2.2) := by
  have hs := ok.hs
  have wn : wrap64 ((a1 : Int) + 1) = ((a1 + 1 : Nat) : Int) := by rw [wrap64_in _ (by omega) (by omega)]; rfl
  have wc : wrap64 ((a1 : Int) - a) = ((a1 - a : Nat) : Int) := by rw [wrap64_in _ (by omega) (by omega)]; omega
  have stop : (dotO c.s a1 = (0, 0, a1)) → ∀ j, frisketref01_number.j2 (j + 14) c.s (a1 : Int) c.scale n 0 1 (wrap64 ((a1 : Int) - a)) false c.size c.vs c.here = some (endR c ((a1 - a) + (dotO c.s a1).2.1) n (dotO c.s a1).1 (dotO c.s a1).2.1 (dotO c.s a1).2.2) := by
    intro hd j
    rw [frisketref01_number.j2, if_neg (by decide), wc, hd]
    exact j4_f c ok j n 0 0 a1 (a1 - a) hn (by decide) h1
  rw [frisketref01_number.j1, wn]
  by_cases hlt : a1 + 1 < c.s.size
  · rw [if_pos (by omega), if_pos (by omega), if_pos (by omega), bt_pk _ _ (by omega)]
    by_cases hp : pk c.s a1 = 46
    · rw [if_pos (by omega), if_pos (by omega), bt_pk _ _ hlt, digit_f, Option.bind_some]
      by_cases hd : isDig c.s (a1 + 1)
      · rw [decide_eq_true hd, frisketref01_number.j2, if_pos rfl, wc, wn]
        have hl := l1_f c ok k n (a1 + 1) (a1 - a) hn (by omega) 9 0 0 (by omega) (by decide) (by omega)
        rw [Nat.add_zero, Nat.pow_zero] at hl
        have hr : dotO c.s a1 = ((rowF c.s 9 0 (a1 + 1)).1, (rowF c.s 9 0 (a1 + 1)).2 - (a1 + 1), (rowF c.s 9 0 (a1 + 1)).2) := by
          unfold dotO
          rw [if_pos hp]
          have hb : a1 + 1 + 1 ≤ (rowF c.s 9 0 (a1 + 1)).2 := by
            rw [rowF, if_pos hd]
            exact (rowF_bound c.s 8 _ (a1 + 1 + 1)).1
          simp only
          rw [if_neg (by omega)]
        rw [hr]
        exact hl
      · rw [decide_eq_false hd]
        refine stop ?_ (k + 10)
        unfold dotO
        rw [if_pos hp]
        have hr : rowF c.s 9 0 (a1 + 1) = (0, a1 + 1) := by rw [rowF, if_neg hd]
        simp [hr]
    · rw [if_neg (by omega)]
      refine stop ?_ (k + 10)
      unfold dotO
      rw [if_neg hp]
  · rw [if_neg (by omega)]
    refine stop ?_ (k + 10)
    unfold dotO
    by_cases hp : pk c.s a1 = 46
    · rw [if_pos hp]
      have hz : pk c.s (a1 + 1) = 0 := by unfold pk; rw [dif_neg hlt]
      have hr : rowF c.s 9 0 (a1 + 1) = (0, a1 + 1) := by rw [rowF, if_neg (by unfold isDig; rw [hz]; omega)]
      simp [hr]
    · rw [if_neg hp]
theorem l0_f (c : Cx) (ok : c.Ok) (k a : Nat) : ∀ q m n : Nat, m + q = 9 → n < 10 ^ m → a + m ≤ c.s.size →
    frisketref01_number.l0 (k + 26 + q) c.s ((a + m : Nat) : Int) c.scale n 0 1 a c.size c.vs c.here =
      some (endR c (((rowF c.s q n (a + m)).2 - a) + (dotO c.s (rowF c.s q n (a + m)).2).2.1) (rowF c.s q n (a + m)).1 (dotO c.s (rowF c.s q n (a + m)).2).1 (dotO c.s (rowF c.s q n (a + m)).2).2.1 (dotO c.s (rowF c.s q n (a + m)).2).2.2)
  | q, m, n, hq, hn, hb => by
    have hs := ok.hs
    have h9 := pow_le9 (show m ≤ 9 by omega)
    have wd : wrap64 (((a + m : Nat) : Int) - a) = (m : Int) := by rw [wrap64_in _ (by omega) (by omega)]; omega
    have stop : ∀ j, frisketref01_number.j1 (j + 25) c.s ((a + m : Nat) : Int) c.scale n 0 1 a c.size c.vs c.here = some (endR c ((a + m - a) + (dotO c.s (a + m)).2.1) n (dotO c.s (a + m)).1 (dotO c.s (a + m)).2.1 (dotO c.s (a + m)).2.2) := fun j =>
      j1_f c ok j n a (a + m) (by omega) (by omega) (by omega) hb
    rw [show k + 26 + q = (k + q + 25) + 1 by omega, frisketref01_number.l0, wd]
    match q, hq with
    | 0, hq =>
      have hr : rowF c.s 0 n (a + m) = (n, a + m) := rfl
      rw [hr]
      by_cases hlt : a + m < c.s.size
      · rw [if_pos (by omega), if_pos (by omega), bt_pk _ _ hlt, digit_f, Option.bind_some]
        by_cases hd : isDig c.s (a + m)
        · rw [if_pos (by simpa using hd), if_neg (by omega), stop]
        · rw [if_neg (by simpa using hd), stop]
      · rw [if_neg (by omega), stop]
    | q + 1, hq =>
      by_cases hlt : a + m < c.s.size
      · rw [if_pos (by omega), if_pos (by omega), bt_pk _ _ hlt, digit_f, Option.bind_some]
        by_cases hd : isDig c.s (a + m)
        · have hr : rowF c.s (q + 1) n (a + m) = rowF c.s q (n * 10 + (pk c.s (a + m) - 48)) (a + m + 1) := by rw [rowF, if_pos hd]
          obtain ⟨e1, e2⟩ := step_num hd hn (by omega)
          rw [if_pos (by simpa using hd), if_pos (by omega), e1, show wrap64 (((a + m : Nat) : Int) + 1) = ((a + (m + 1) : Nat) : Int) by rw [wrap64_in _ (by omega) (by omega)]; omega, show k + (q + 1) + 25 = k + 26 + q by omega,
            l0_f c ok k a q (m + 1) _ (by omega) e2 (by omega), hr, show a + (m + 1) = a + m + 1 by omega]
        · have hr : rowF c.s (q + 1) n (a + m) = (n, a + m) := by rw [rowF, if_neg hd]
          rw [hr, if_neg (by simpa using hd), stop]
      · have hz : pk c.s (a + m) = 0 := by unfold pk; rw [dif_neg hlt]
        have hr : rowF c.s (q + 1) n (a + m) = (n, a + m) := by rw [rowF, if_neg (by unfold isDig; rw [hz]; omega)]
        rw [hr, if_neg (by omega), stop]
/-- What number hands back. -/
def numberR (c : Cx) (a : Nat) : Int × Int × Int :=
  endR c (((rowF c.s 9 0 a).2 - a) + (dotO c.s (rowF c.s 9 0 a).2).2.1) (rowF c.s 9 0 a).1 (dotO c.s (rowF c.s 9 0 a).2).1 (dotO c.s (rowF c.s 9 0 a).2).2.1 (dotO c.s (rowF c.s 9 0 a).2).2.2
theorem number_f (c : Cx) (ok : c.Ok) (k a : Nat) (ha : a ≤ c.s.size) : frisketref01_number.f (k + 35) c.s a c.scale c.size c.vs c.here = some (numberR c a) := by
  unfold frisketref01_number.f
  exact l0_f c ok k a 9 0 0 (by decide) (by decide) ha
/-- .. and that is the program's. -/
theorem numberR_ok {c : Cx} {a : Nat} (hm : c.mute = false) {n : Int} {t : Nat} (h : numberO c a = .ok n t) : numberR c a = (n, (t : Int), 0) := by
  have hb := (rowF_bound c.s 9 0 a).1
  rw [numberO_two] at h
  unfold number2 at h
  unfold numberR endR numR
  split at h
  · cases h
  · rename_i h0
    rw [if_neg (by omega)]
    split at h
    · rename_i u hu
      try rw [hu]
      unfold heldO at h
      rw [hm, if_neg (by decide)] at h
      split at h
      · cases h
      · rename_i hbig
        injection h with h1 h2
        unfold finR
        try simp only
        rw [if_neg hbig, h1, h2]
    · rename_i hu
      try rw [hu]
      unfold heldO at h
      rw [hm, if_neg (by decide)] at h
      split at h
      · cases h
      · rename_i hbig
        injection h with h1 h2
        unfold finR
        try simp only
        rw [if_neg hbig, h1, h2]
theorem numberR_die {c : Cx} {a : Nat} (hm : c.mute = false) {e : Int} (h : numberO c a = .die e) : ∃ t, numberR c a = (0, t, e) ∧ e ≠ 0 := by
  have hb := (rowF_bound c.s 9 0 a).1
  rw [numberO_two] at h
  unfold number2 at h
  unfold numberR endR numR
  split at h
  · rename_i h0
    rw [if_pos (by omega)]
    injection h with h
    subst h
    exact ⟨0, rfl, by decide⟩
  · rename_i h0
    rw [if_neg (by omega)]
    split at h
    · rename_i u hu
      try rw [hu]
      unfold heldO at h
      rw [hm, if_neg (by decide)] at h
      split at h
      · rename_i hbig
        injection h with h
        subst h
        simp only [finR, if_pos hbig]
        exact ⟨_, rfl, by decide⟩
      · cases h
    · rename_i hu
      try rw [hu]
      unfold heldO at h
      rw [hm, if_neg (by decide)] at h
      split at h
      · rename_i hbig
        injection h with h
        subst h
        simp only [finR, if_pos hbig]
        exact ⟨_, rfl, by decide⟩
      · cases h
end Go.Proofs.Ytkomofphgnekoaa

set_option linter.unusedVariables false
set_option linter.unusedSimpArgs false
namespace Go.Proofs.Ytkomofphgnekoaa
open Go.Shelf Go.RowKit Go.Lib Go.Aids Go.MapLit Go.Proofs.YtkomofphgnekoaaW.PrintWords

abbrev rdc (c : Cx) : Value := rdr c.s c.scale c.size c.vs c.here c.mute
/-- The box of a reader. -/
def Rb (w : World) (b : Nat) (c : Cx) : Prop := w.heap[b]? = some (.cells #[.string c.s, .int .u8 c.scale, .int .i64 c.size, .int .i64 c.vs, .int .i64 c.here, .bool c.mute] 70 (0, 0))
theorem Rb.cells {w : World} {b : Nat} {c : Cx} (h : Rb w b c) :
    w.cell? ⟨b, 0, none⟩ = some (.string c.s) ∧ w.cell? ⟨b, 1, none⟩ = some (.int .u8 c.scale) ∧ w.cell? ⟨b, 2, none⟩ = some (.int .i64 c.size) ∧ w.cell? ⟨b, 3, none⟩ = some (.int .i64 c.vs) ∧ w.cell? ⟨b, 4, none⟩ = some (.int .i64 c.here) ∧ w.cell? ⟨b, 5, none⟩ = some (.bool c.mute) ∧ b < w.heap.size := by
  unfold Rb at h
  refine ⟨?_, ?_, ?_, ?_, ?_, ?_, ?_⟩
  all_goals first | (simp [World.cell?, h]; done) | skip
  rw [Array.getElem?_eq_some_iff] at h; exact h.1
theorem Rb.new (w : World) (c : Cx) : Rb (w.alloc (.cells #[.string c.s, .int .u8 c.scale, .int .i64 c.size, .int .i64 c.vs, .int .i64 c.here, .bool c.mute] 70)) w.heap.size c := heap_alloc_new w _
theorem Rb.below {w w' : World} {b : Nat} {c : Cx} (h : Rb w b c) (hb : Below w.heap.size w w') : Rb w' b c := (hb.block b h.cells.2.2.2.2.2.2).trans h
theorem rnumber_calls (c : Cx) (ok : c.Ok) (a : Nat) (ha : a ≤ c.s.size) (w : World) :
    Calls Try.prog 38 #[.string c.s, .int .i64 a, .int .u8 c.scale, .agg #[.int .i64 c.size, .int .i64 c.vs, .int .i64 c.here]] w fun e w' => e = .returned (.tuple #[.int .i64 (numberR c a).1, .int .i64 (numberR c a).2.1, .int .i64 (numberR c a).2.2]) ∧ Below w.heap.size w w' :=
  PNumber.frisketref01_number.calls 35 c.s a c.scale c.size c.vs c.here _ _ _ w (by rw [show (35 : Nat) = 0 + 35 from rfl, number_f c ok 0 a ha])

/-- What an answer of the reader is. -/
def RPost (c : Cx) (w : World) (o : Out) (e : Ending) (w' : World) : Prop :=
  match o with
  | .ok n t => ∃ v, (c.mute = false → v = n) ∧ e = .returned (.tuple #[.int .i64 v, .int .i64 (t : Nat), .int .i64 0]) ∧ Below w.heap.size w w'
  | .die k => ∃ v t', e = .returned (.tuple #[.int .i64 v, .int .i64 t', .int .i64 k]) ∧ Below w.heap.size w w'
  | .stuck => True
/-- .. of a sum: it stands ahead of blanks. -/
def RPostE (c : Cx) (deep : Nat) (w : World) (o : Out) (e : Ending) (w' : World) : Prop :=
  match o with
  | .ok n t => ∃ v, ∃ t' : Nat, (c.mute = false → v = n) ∧ skip c.s deep t' = t ∧ t' ≤ c.s.size ∧ e = .returned (.tuple #[.int .i64 v, .int .i64 t', .int .i64 0]) ∧ Below w.heap.size w w'
  | .die k => ∃ v t', e = .returned (.tuple #[.int .i64 v, .int .i64 t', .int .i64 k]) ∧ Below w.heap.size w w'
  | .stuck => True
def RO (c : Cx) (f : Nat) : Prop := ∀ (w : World) (a deep : Nat), a ≤ c.s.size → deep ≤ 20 → run c f (.oper a deep) ≠ .stuck → Calls Try.prog 50 #[rdc c, .int .i64 a, .int .i64 deep] w (RPost c w (run c f (.oper a deep)))
def RE (c : Cx) (f : Nat) : Prop := ∀ (w : World) (a deep : Nat), a ≤ c.s.size → deep ≤ 20 → run c f (.expr a deep) ≠ .stuck → Calls Try.prog 39 #[rdc c, .int .i64 a, .int .i64 deep] w (RPostE c deep w (run c f (.expr a deep)))
theorem number_end (c : Cx) (a : Nat) (h : pk c.s a = 0) : numberO c a = .die 4 := by
  have hr : rowF c.s 9 0 a = (0, a) := by rw [rowF, if_neg (by unfold isDig; rw [h]; omega)]
  unfold numberO
  simp [hr, h]
/-- The walk's head. -/
theorem below_box (w w1 : World) (c : Cx) (hb : Below (w.alloc (.cells #[.string c.s, .int .u8 c.scale, .int .i64 c.size, .int .i64 c.vs, .int .i64 c.here, .bool c.mute] 70)).heap.size (w.alloc (.cells #[.string c.s, .int .u8 c.scale, .int .i64 c.size, .int .i64 c.vs, .int .i64 c.here, .bool c.mute] 70)) w1) :
    Below w.heap.size w w1 ∧ Rb w1 w.heap.size c := ⟨((Below.refl _ w).alloc (Nat.le_refl _) _).trans (hb.mono (by simp)), (Rb.new w c).below hb⟩

set_option maxRecDepth 100000 in
set_option maxHeartbeats 4000000 in
theorem ro_end (c : Cx) (ok : c.Ok) (w : World) (a deep : Nat) (ha : a ≤ c.s.size) (hd : deep ≤ 20) (hA : ¬ skip c.s deep a < c.s.size) :
    Calls Try.prog 50 #[rdc c, .int .i64 a, .int .i64 deep] w fun e w' => e = .returned (.tuple #[.int .i64 0, .int .i64 0, .int .i64 4]) ∧ Below w.heap.size w w' := by
  have HK := Lib.hid (fun W => rskip_calls c.s ok.hs c.scale c.size c.vs c.here c.mute a deep ha W)
  obtain ⟨A, hAA⟩ : ∃ A, skip c.s deep a = A := ⟨_, rfl⟩
  rw [hAA] at HK hA
  have d1 : (c.s.size : Int) ≤ A := by omega
  clear hAA
  go_enter Try.func50, Try.ntmps50
  go_wp2_with fail
  refine (HK.out _).mono ?_
  rintro e w1 ⟨rfl, hb⟩
  obtain ⟨B1, R1⟩ := below_box w w1 c hb
  obtain ⟨k0, k1, k2, k3, k4, k5, kl⟩ := R1.cells
  clear hb R1
  go_wp2
  go_ret3
  exact ⟨rfl, B1⟩
set_option maxRecDepth 100000 in
set_option maxHeartbeats 4000000 in
theorem ro_num (c : Cx) (ok : c.Ok) (w : World) (a deep : Nat) (ha : a ≤ c.s.size) (hd : deep ≤ 20) (A : Nat) (hAA : skip c.s deep a = A) (hA : A < c.s.size)
    (b0 : ¬ pk c.s A = 40) (b1 : ¬ pk c.s A = 43) (b2 : ¬ pk c.s A = 45) (b3 : ¬ pk c.s A = 33) (b4 : ¬ pk c.s A = 124) (x y z : Int) (hx : numberR c A = (x, y, z)) :
    Calls Try.prog 50 #[rdc c, .int .i64 a, .int .i64 deep] w fun e w' => e = .returned (.tuple (if c.mute = true ∧ z = 5 then #[.int .i64 0, .int .i64 y, .int .i64 0] else #[.int .i64 x, .int .i64 y, .int .i64 z])) ∧ Below w.heap.size w w' := by
  have HK := Lib.hid (fun W => rskip_calls c.s ok.hs c.scale c.size c.vs c.here c.mute a deep ha W)
  have hN := fun W => rnumber_calls c ok A (by omega) W
  rw [hx] at hN
  have HN := Lib.hid hN
  rw [hAA] at HK
  have hk : pk c.s A = c.s[A].toNat := by unfold pk; rw [dif_pos hA]
  rw [hk] at b0 b1 b2 b3 b4
  have hi : (A : Int) < c.s.size := by omega
  have f0 : ((c.s[A].toNat : Int) == 40) = false := by rw [beq_eq_false_iff_ne]; omega
  have f1 : ((c.s[A].toNat : Int) == 43) = false := by rw [beq_eq_false_iff_ne]; omega
  have f2 : ((c.s[A].toNat : Int) == 45) = false := by rw [beq_eq_false_iff_ne]; omega
  have f3 : ((c.s[A].toNat : Int) == 33) = false := by rw [beq_eq_false_iff_ne]; omega
  have f4 : ((c.s[A].toNat : Int) == 124) = false := by rw [beq_eq_false_iff_ne]; omega
  obtain ⟨r, hr⟩ : ∃ r, (if c.mute = true ∧ z = 5 then #[Value.int .i64 0, .int .i64 y, .int .i64 0] else #[.int .i64 x, .int .i64 y, .int .i64 z]) = r := ⟨_, rfl⟩
  rw [hr]
  have Hr := Lib.hid hr
  clear hAA b0 b1 b2 b3 b4 hx hN hk hr
  go_enter Try.func50, Try.ntmps50
  go_wp2_with fail
  refine (HK.out _).mono ?_
  rintro e w1 ⟨rfl, hb⟩
  obtain ⟨B1, R1⟩ := below_box w w1 c hb
  obtain ⟨k0, k1, k2, k3, k4, k5, kl⟩ := R1.cells
  clear hb
  go_wp2_with fail
  refine (HN.out _).mono ?_
  rintro e w2 ⟨rfl, hb2⟩
  have B2 := B1.trans (hb2.mono B1.size)
  have R2 := R1.below hb2
  clear k0 k1 k2 k3 k4 k5 kl R1
  obtain ⟨k0, k1, k2, k3, k4, k5, kl⟩ := R2.cells
  rcases hm : c.mute with _ | _
  · rw [hm] at k5
    go_wp2
    go_ret3
    exact ⟨by rw [← Hr.out, if_neg (by simp [hm])]; rfl, B2⟩
  · rw [hm] at k5
    by_cases hz : z = 5
    · subst hz
      go_wp2
      go_ret3
      exact ⟨by rw [← Hr.out, if_pos ⟨hm, trivial⟩]; rfl, B2⟩
    · have fz : (z == 5) = false := by rw [beq_eq_false_iff_ne]; exact hz
      go_wp2
      go_ret3
      exact ⟨by rw [← Hr.out, if_neg (fun h => hz h.2)]; rfl, B2⟩
end Go.Proofs.Ytkomofphgnekoaa

set_option linter.unusedVariables false
set_option linter.unusedSimpArgs false
namespace Go.Proofs.Ytkomofphgnekoaa
open Go.Shelf Go.RowKit Go.Lib Go.Aids Go.MapLit Go.Proofs.YtkomofphgnekoaaW.PrintWords

theorem rwithin_calls (v : Int) (b : Bool) (hb : b = decide (-1000000000 ≤ v ∧ v ≤ 1000000000)) (w : World) : Calls Try.prog 40 #[.int .i64 v] w fun e w' => e = .returned (.bool b) ∧ Below w.heap.size w w' := by
  refine (PNumber.frisketref01_within.calls v b w ?_).mono fun e w' h => ⟨h.1, h.2.below⟩
  unfold PNumber.frisketref01_within.f
  rw [hb]
  by_cases h1 : v ≥ -1000000000
  · rw [if_pos h1]
    congr 1
    by_cases h2 : v ≤ 1000000000
    · rw [decide_eq_true h2, decide_eq_true ⟨h1, h2⟩]
    · rw [decide_eq_false h2, decide_eq_false (fun h => h2 h.2)]
  · rw [if_neg h1, decide_eq_false (fun h => h1 h.1)]

set_option maxRecDepth 100000 in
set_option maxHeartbeats 4000000 in
theorem ro_die43 (c : Cx) (ok : c.Ok) (w : World) (a deep : Nat) (ha : a ≤ c.s.size) (hd : deep ≤ 20) (A : Nat) (hAA : skip c.s deep a = A) (hA : A < c.s.size) (hb : pk c.s A = 43) (k : Int) (hk0 : k ≠ 0) (HI : Hid (∀ W, Calls Try.prog 50 #[rdc c, .int .i64 (A + 1 : Nat), .int .i64 deep] W (RPost c W (.die k)))) :
    Calls Try.prog 50 #[rdc c, .int .i64 a, .int .i64 deep] w fun e w' => ∃ v t', e = .returned (.tuple #[.int .i64 v, .int .i64 t', .int .i64 k]) ∧ Below w.heap.size w w' := by
  have HK := Lib.hid (fun W => rskip_calls c.s ok.hs c.scale c.size c.vs c.here c.mute a deep ha W)
  rw [hAA] at HK
  have hk : pk c.s A = c.s[A].toNat := by unfold pk; rw [dif_pos hA]
  rw [hk] at hb
  have hi : (A : Int) < c.s.size := by omega
  have hs := ok.hs
  have hA1 : wrap64 ((A : Int) + 1) = ((A + 1 : Nat) : Int) := by rw [wrap64_in _ (by omega) (by omega)]; rfl
  have f0 : ((c.s[A].toNat : Int) == 40) = false := by rw [hb]; rfl
  have f1 : ((c.s[A].toNat : Int) == 43) = true := by rw [hb]; rfl
  have f2 : ((c.s[A].toNat : Int) == 45) = false := by rw [hb]; rfl
  have f3 : ((c.s[A].toNat : Int) == 33) = false := by rw [hb]; rfl
  have f4 : ((c.s[A].toNat : Int) == 124) = false := by rw [hb]; rfl
  have kz : (k != 0) = true := by simpa using hk0
  clear hAA hb hk hs
  go_enter Try.func50, Try.ntmps50
  go_wp2_with fail
  refine (HK.out _).mono ?_
  rintro e w1 ⟨rfl, hb⟩
  obtain ⟨B1, R1⟩ := below_box w w1 c hb
  obtain ⟨k0, k1, k2, k3, k4, k5, kl⟩ := R1.cells
  clear hb
  go_wp2_with fail
  simp only [hA1]
  refine (HI.out _).mono ?_
  rintro e w2 ⟨v, t', rfl, hb2⟩
  have B2 := B1.trans (hb2.mono B1.size)
  have R2 := R1.below hb2
  clear k0 k1 k2 k3 k4 k5 kl R1
  obtain ⟨k0, k1, k2, k3, k4, k5, kl⟩ := R2.cells
  go_wp2
  go_ret3
  exact ⟨0, t', rfl, B2⟩

set_option maxRecDepth 100000 in
set_option maxHeartbeats 4000000 in
theorem ro_mute43 (c : Cx) (ok : c.Ok) (w : World) (a deep : Nat) (ha : a ≤ c.s.size) (hd : deep ≤ 20) (A : Nat) (hAA : skip c.s deep a = A) (hA : A < c.s.size) (hb : pk c.s A = 43) (hm : c.mute = true) (n : Int) (t : Nat) (HI : Hid (∀ W, Calls Try.prog 50 #[rdc c, .int .i64 (A + 1 : Nat), .int .i64 deep] W (RPost c W (.ok n t)))) :
    Calls Try.prog 50 #[rdc c, .int .i64 a, .int .i64 deep] w fun e w' => e = .returned (.tuple #[.int .i64 0, .int .i64 (t : Nat), .int .i64 0]) ∧ Below w.heap.size w w' := by
  have HK := Lib.hid (fun W => rskip_calls c.s ok.hs c.scale c.size c.vs c.here c.mute a deep ha W)
  rw [hAA] at HK
  have hk : pk c.s A = c.s[A].toNat := by unfold pk; rw [dif_pos hA]
  rw [hk] at hb
  have hi : (A : Int) < c.s.size := by omega
  have hs := ok.hs
  have hA1 : wrap64 ((A : Int) + 1) = ((A + 1 : Nat) : Int) := by rw [wrap64_in _ (by omega) (by omega)]; rfl
  have f0 : ((c.s[A].toNat : Int) == 40) = false := by rw [hb]; rfl
  have f1 : ((c.s[A].toNat : Int) == 43) = true := by rw [hb]; rfl
  have f2 : ((c.s[A].toNat : Int) == 45) = false := by rw [hb]; rfl
  have f3 : ((c.s[A].toNat : Int) == 33) = false := by rw [hb]; rfl
  have f4 : ((c.s[A].toNat : Int) == 124) = false := by rw [hb]; rfl
  have Hm := Lib.hid hm
  clear hm
  clear hAA hb hk hs
  go_enter Try.func50, Try.ntmps50
  go_wp2_with fail
  refine (HK.out _).mono ?_
  rintro e w1 ⟨rfl, hb⟩
  obtain ⟨B1, R1⟩ := below_box w w1 c hb
  obtain ⟨k0, k1, k2, k3, k4, k5, kl⟩ := R1.cells
  clear hb
  go_wp2_with fail
  simp only [hA1]
  refine (HI.out _).mono ?_
  rintro e w2 ⟨v, -, rfl, hb2⟩
  have B2 := B1.trans (hb2.mono B1.size)
  have R2 := R1.below hb2
  clear k0 k1 k2 k3 k4 k5 kl R1
  obtain ⟨k0, k1, k2, k3, k4, k5, kl⟩ := R2.cells
  rw [Hm.out] at k5
  go_wp2
  go_ret3
  exact ⟨rfl, B2⟩

set_option maxRecDepth 100000 in
set_option maxHeartbeats 4000000 in
theorem ro_die45 (c : Cx) (ok : c.Ok) (w : World) (a deep : Nat) (ha : a ≤ c.s.size) (hd : deep ≤ 20) (A : Nat) (hAA : skip c.s deep a = A) (hA : A < c.s.size) (hb : pk c.s A = 45) (k : Int) (hk0 : k ≠ 0) (HI : Hid (∀ W, Calls Try.prog 50 #[rdc c, .int .i64 (A + 1 : Nat), .int .i64 deep] W (RPost c W (.die k)))) :
    Calls Try.prog 50 #[rdc c, .int .i64 a, .int .i64 deep] w fun e w' => ∃ v t', e = .returned (.tuple #[.int .i64 v, .int .i64 t', .int .i64 k]) ∧ Below w.heap.size w w' := by
  have HK := Lib.hid (fun W => rskip_calls c.s ok.hs c.scale c.size c.vs c.here c.mute a deep ha W)
  rw [hAA] at HK
  have hk : pk c.s A = c.s[A].toNat := by unfold pk; rw [dif_pos hA]
  rw [hk] at hb
  have hi : (A : Int) < c.s.size := by omega
  have hs := ok.hs
  have hA1 : wrap64 ((A : Int) + 1) = ((A + 1 : Nat) : Int) := by rw [wrap64_in _ (by omega) (by omega)]; rfl
  have f0 : ((c.s[A].toNat : Int) == 40) = false := by rw [hb]; rfl
  have f1 : ((c.s[A].toNat : Int) == 43) = false := by rw [hb]; rfl
  have f2 : ((c.s[A].toNat : Int) == 45) = true := by rw [hb]; rfl
  have f3 : ((c.s[A].toNat : Int) == 33) = false := by rw [hb]; rfl
  have f4 : ((c.s[A].toNat : Int) == 124) = false := by rw [hb]; rfl
  have kz : (k != 0) = true := by simpa using hk0
  clear hAA hb hk hs
  go_enter Try.func50, Try.ntmps50
  go_wp2_with fail
  refine (HK.out _).mono ?_
  rintro e w1 ⟨rfl, hb⟩
  obtain ⟨B1, R1⟩ := below_box w w1 c hb
  obtain ⟨k0, k1, k2, k3, k4, k5, kl⟩ := R1.cells
  clear hb
  go_wp2_with fail
  simp only [hA1]
  refine (HI.out _).mono ?_
  rintro e w2 ⟨v, t', rfl, hb2⟩
  have B2 := B1.trans (hb2.mono B1.size)
  have R2 := R1.below hb2
  clear k0 k1 k2 k3 k4 k5 kl R1
  obtain ⟨k0, k1, k2, k3, k4, k5, kl⟩ := R2.cells
  go_wp2
  go_ret3
  exact ⟨0, t', rfl, B2⟩

set_option maxRecDepth 100000 in
set_option maxHeartbeats 4000000 in
theorem ro_mute45 (c : Cx) (ok : c.Ok) (w : World) (a deep : Nat) (ha : a ≤ c.s.size) (hd : deep ≤ 20) (A : Nat) (hAA : skip c.s deep a = A) (hA : A < c.s.size) (hb : pk c.s A = 45) (hm : c.mute = true) (n : Int) (t : Nat) (HI : Hid (∀ W, Calls Try.prog 50 #[rdc c, .int .i64 (A + 1 : Nat), .int .i64 deep] W (RPost c W (.ok n t)))) :
    Calls Try.prog 50 #[rdc c, .int .i64 a, .int .i64 deep] w fun e w' => e = .returned (.tuple #[.int .i64 0, .int .i64 (t : Nat), .int .i64 0]) ∧ Below w.heap.size w w' := by
  have HK := Lib.hid (fun W => rskip_calls c.s ok.hs c.scale c.size c.vs c.here c.mute a deep ha W)
  rw [hAA] at HK
  have hk : pk c.s A = c.s[A].toNat := by unfold pk; rw [dif_pos hA]
  rw [hk] at hb
  have hi : (A : Int) < c.s.size := by omega
  have hs := ok.hs
  have hA1 : wrap64 ((A : Int) + 1) = ((A + 1 : Nat) : Int) := by rw [wrap64_in _ (by omega) (by omega)]; rfl
  have f0 : ((c.s[A].toNat : Int) == 40) = false := by rw [hb]; rfl
  have f1 : ((c.s[A].toNat : Int) == 43) = false := by rw [hb]; rfl
  have f2 : ((c.s[A].toNat : Int) == 45) = true := by rw [hb]; rfl
  have f3 : ((c.s[A].toNat : Int) == 33) = false := by rw [hb]; rfl
  have f4 : ((c.s[A].toNat : Int) == 124) = false := by rw [hb]; rfl
  have Hm := Lib.hid hm
  clear hm
  clear hAA hb hk hs
  go_enter Try.func50, Try.ntmps50
  go_wp2_with fail
  refine (HK.out _).mono ?_
  rintro e w1 ⟨rfl, hb⟩
  obtain ⟨B1, R1⟩ := below_box w w1 c hb
  obtain ⟨k0, k1, k2, k3, k4, k5, kl⟩ := R1.cells
  clear hb
  go_wp2_with fail
  simp only [hA1]
  refine (HI.out _).mono ?_
  rintro e w2 ⟨v, -, rfl, hb2⟩
  have B2 := B1.trans (hb2.mono B1.size)
  have R2 := R1.below hb2
  clear k0 k1 k2 k3 k4 k5 kl R1
  obtain ⟨k0, k1, k2, k3, k4, k5, kl⟩ := R2.cells
  rw [Hm.out] at k5
  go_wp2
  go_ret3
  exact ⟨rfl, B2⟩

set_option maxRecDepth 100000 in
set_option maxHeartbeats 4000000 in
theorem ro_die33 (c : Cx) (ok : c.Ok) (w : World) (a deep : Nat) (ha : a ≤ c.s.size) (hd : deep ≤ 20) (A : Nat) (hAA : skip c.s deep a = A) (hA : A < c.s.size) (hb : pk c.s A = 33) (k : Int) (hk0 : k ≠ 0) (HI : Hid (∀ W, Calls Try.prog 50 #[rdc c, .int .i64 (A + 1 : Nat), .int .i64 deep] W (RPost c W (.die k)))) :
    Calls Try.prog 50 #[rdc c, .int .i64 a, .int .i64 deep] w fun e w' => ∃ v t', e = .returned (.tuple #[.int .i64 v, .int .i64 t', .int .i64 k]) ∧ Below w.heap.size w w' := by
  have HK := Lib.hid (fun W => rskip_calls c.s ok.hs c.scale c.size c.vs c.here c.mute a deep ha W)
  rw [hAA] at HK
  have hk : pk c.s A = c.s[A].toNat := by unfold pk; rw [dif_pos hA]
  rw [hk] at hb
  have hi : (A : Int) < c.s.size := by omega
  have hs := ok.hs
  have hA1 : wrap64 ((A : Int) + 1) = ((A + 1 : Nat) : Int) := by rw [wrap64_in _ (by omega) (by omega)]; rfl
  have f0 : ((c.s[A].toNat : Int) == 40) = false := by rw [hb]; rfl
  have f1 : ((c.s[A].toNat : Int) == 43) = false := by rw [hb]; rfl
  have f2 : ((c.s[A].toNat : Int) == 45) = false := by rw [hb]; rfl
  have f3 : ((c.s[A].toNat : Int) == 33) = true := by rw [hb]; rfl
  have f4 : ((c.s[A].toNat : Int) == 124) = false := by rw [hb]; rfl
  have kz : (k != 0) = true := by simpa using hk0
  clear hAA hb hk hs
  go_enter Try.func50, Try.ntmps50
  go_wp2_with fail
  refine (HK.out _).mono ?_
  rintro e w1 ⟨rfl, hb⟩
  obtain ⟨B1, R1⟩ := below_box w w1 c hb
  obtain ⟨k0, k1, k2, k3, k4, k5, kl⟩ := R1.cells
  clear hb
  go_wp2_with fail
  simp only [hA1]
  refine (HI.out _).mono ?_
  rintro e w2 ⟨v, t', rfl, hb2⟩
  have B2 := B1.trans (hb2.mono B1.size)
  have R2 := R1.below hb2
  clear k0 k1 k2 k3 k4 k5 kl R1
  obtain ⟨k0, k1, k2, k3, k4, k5, kl⟩ := R2.cells
  go_wp2
  go_ret3
  exact ⟨0, t', rfl, B2⟩

set_option maxRecDepth 100000 in
set_option maxHeartbeats 4000000 in
theorem ro_mute33 (c : Cx) (ok : c.Ok) (w : World) (a deep : Nat) (ha : a ≤ c.s.size) (hd : deep ≤ 20) (A : Nat) (hAA : skip c.s deep a = A) (hA : A < c.s.size) (hb : pk c.s A = 33) (hm : c.mute = true) (n : Int) (t : Nat) (HI : Hid (∀ W, Calls Try.prog 50 #[rdc c, .int .i64 (A + 1 : Nat), .int .i64 deep] W (RPost c W (.ok n t)))) :
    Calls Try.prog 50 #[rdc c, .int .i64 a, .int .i64 deep] w fun e w' => e = .returned (.tuple #[.int .i64 0, .int .i64 (t : Nat), .int .i64 0]) ∧ Below w.heap.size w w' := by
  have HK := Lib.hid (fun W => rskip_calls c.s ok.hs c.scale c.size c.vs c.here c.mute a deep ha W)
  rw [hAA] at HK
  have hk : pk c.s A = c.s[A].toNat := by unfold pk; rw [dif_pos hA]
  rw [hk] at hb
  have hi : (A : Int) < c.s.size := by omega
  have hs := ok.hs
  have hA1 : wrap64 ((A : Int) + 1) = ((A + 1 : Nat) : Int) := by rw [wrap64_in _ (by omega) (by omega)]; rfl
  have f0 : ((c.s[A].toNat : Int) == 40) = false := by rw [hb]; rfl
  have f1 : ((c.s[A].toNat : Int) == 43) = false := by rw [hb]; rfl
  have f2 : ((c.s[A].toNat : Int) == 45) = false := by rw [hb]; rfl
  have f3 : ((c.s[A].toNat : Int) == 33) = true := by rw [hb]; rfl
  have f4 : ((c.s[A].toNat : Int) == 124) = false := by rw [hb]; rfl
  have Hm := Lib.hid hm
  clear hm
  clear hAA hb hk hs
  go_enter Try.func50, Try.ntmps50
  go_wp2_with fail
  refine (HK.out _).mono ?_
  rintro e w1 ⟨rfl, hb⟩
  obtain ⟨B1, R1⟩ := below_box w w1 c hb
  obtain ⟨k0, k1, k2, k3, k4, k5, kl⟩ := R1.cells
  clear hb
  go_wp2_with fail
  simp only [hA1]
  refine (HI.out _).mono ?_
  rintro e w2 ⟨v, -, rfl, hb2⟩
  have B2 := B1.trans (hb2.mono B1.size)
  have R2 := R1.below hb2
  clear k0 k1 k2 k3 k4 k5 kl R1
  obtain ⟨k0, k1, k2, k3, k4, k5, kl⟩ := R2.cells
  rw [Hm.out] at k5
  go_wp2
  go_ret3
  exact ⟨rfl, B2⟩

set_option maxRecDepth 100000 in
set_option maxHeartbeats 4000000 in
theorem ro_die124 (c : Cx) (ok : c.Ok) (w : World) (a deep : Nat) (ha : a ≤ c.s.size) (hd : deep ≤ 20) (A : Nat) (hAA : skip c.s deep a = A) (hA : A < c.s.size) (hb : pk c.s A = 124) (k : Int) (hk0 : k ≠ 0) (HI : Hid (∀ W, Calls Try.prog 50 #[rdc c, .int .i64 (A + 1 : Nat), .int .i64 deep] W (RPost c W (.die k)))) :
    Calls Try.prog 50 #[rdc c, .int .i64 a, .int .i64 deep] w fun e w' => ∃ v t', e = .returned (.tuple #[.int .i64 v, .int .i64 t', .int .i64 k]) ∧ Below w.heap.size w w' := by
  have HK := Lib.hid (fun W => rskip_calls c.s ok.hs c.scale c.size c.vs c.here c.mute a deep ha W)
  rw [hAA] at HK
  have hk : pk c.s A = c.s[A].toNat := by unfold pk; rw [dif_pos hA]
  rw [hk] at hb
  have hi : (A : Int) < c.s.size := by omega
  have hs := ok.hs
  have hA1 : wrap64 ((A : Int) + 1) = ((A + 1 : Nat) : Int) := by rw [wrap64_in _ (by omega) (by omega)]; rfl
  have f0 : ((c.s[A].toNat : Int) == 40) = false := by rw [hb]; rfl
  have f1 : ((c.s[A].toNat : Int) == 43) = false := by rw [hb]; rfl
  have f2 : ((c.s[A].toNat : Int) == 45) = false := by rw [hb]; rfl
  have f3 : ((c.s[A].toNat : Int) == 33) = false := by rw [hb]; rfl
  have f4 : ((c.s[A].toNat : Int) == 124) = true := by rw [hb]; rfl
  have kz : (k != 0) = true := by simpa using hk0
  clear hAA hb hk hs
  go_enter Try.func50, Try.ntmps50
  go_wp2_with fail
  refine (HK.out _).mono ?_
  rintro e w1 ⟨rfl, hb⟩
  obtain ⟨B1, R1⟩ := below_box w w1 c hb
  obtain ⟨k0, k1, k2, k3, k4, k5, kl⟩ := R1.cells
  clear hb
  go_wp2_with fail
  simp only [hA1]
  refine (HI.out _).mono ?_
  rintro e w2 ⟨v, t', rfl, hb2⟩
  have B2 := B1.trans (hb2.mono B1.size)
  have R2 := R1.below hb2
  clear k0 k1 k2 k3 k4 k5 kl R1
  obtain ⟨k0, k1, k2, k3, k4, k5, kl⟩ := R2.cells
  go_wp2
  go_ret3
  exact ⟨0, t', rfl, B2⟩

set_option maxRecDepth 100000 in
set_option maxHeartbeats 4000000 in
theorem ro_mute124 (c : Cx) (ok : c.Ok) (w : World) (a deep : Nat) (ha : a ≤ c.s.size) (hd : deep ≤ 20) (A : Nat) (hAA : skip c.s deep a = A) (hA : A < c.s.size) (hb : pk c.s A = 124) (hm : c.mute = true) (n : Int) (t : Nat) (HI : Hid (∀ W, Calls Try.prog 50 #[rdc c, .int .i64 (A + 1 : Nat), .int .i64 deep] W (RPost c W (.ok n t)))) :
    Calls Try.prog 50 #[rdc c, .int .i64 a, .int .i64 deep] w fun e w' => e = .returned (.tuple #[.int .i64 0, .int .i64 (t : Nat), .int .i64 0]) ∧ Below w.heap.size w w' := by
  have HK := Lib.hid (fun W => rskip_calls c.s ok.hs c.scale c.size c.vs c.here c.mute a deep ha W)
  rw [hAA] at HK
  have hk : pk c.s A = c.s[A].toNat := by unfold pk; rw [dif_pos hA]
  rw [hk] at hb
  have hi : (A : Int) < c.s.size := by omega
  have hs := ok.hs
  have hA1 : wrap64 ((A : Int) + 1) = ((A + 1 : Nat) : Int) := by rw [wrap64_in _ (by omega) (by omega)]; rfl
  have f0 : ((c.s[A].toNat : Int) == 40) = false := by rw [hb]; rfl
  have f1 : ((c.s[A].toNat : Int) == 43) = false := by rw [hb]; rfl
  have f2 : ((c.s[A].toNat : Int) == 45) = false := by rw [hb]; rfl
  have f3 : ((c.s[A].toNat : Int) == 33) = false := by rw [hb]; rfl
  have f4 : ((c.s[A].toNat : Int) == 124) = true := by rw [hb]; rfl
  have Hm := Lib.hid hm
  clear hm
  clear hAA hb hk hs
  go_enter Try.func50, Try.ntmps50
  go_wp2_with fail
  refine (HK.out _).mono ?_
  rintro e w1 ⟨rfl, hb⟩
  obtain ⟨B1, R1⟩ := below_box w w1 c hb
  obtain ⟨k0, k1, k2, k3, k4, k5, kl⟩ := R1.cells
  clear hb
  go_wp2_with fail
  simp only [hA1]
  refine (HI.out _).mono ?_
  rintro e w2 ⟨v, -, rfl, hb2⟩
  have B2 := B1.trans (hb2.mono B1.size)
  have R2 := R1.below hb2
  clear k0 k1 k2 k3 k4 k5 kl R1
  obtain ⟨k0, k1, k2, k3, k4, k5, kl⟩ := R2.cells
  rw [Hm.out] at k5
  go_wp2
  go_ret3
  exact ⟨rfl, B2⟩
end Go.Proofs.Ytkomofphgnekoaa

set_option linter.unusedVariables false
set_option linter.unusedSimpArgs false
namespace Go.Proofs.Ytkomofphgnekoaa
open Go.Shelf Go.RowKit Go.Lib Go.Aids Go.MapLit Go.Proofs.YtkomofphgnekoaaW.PrintWords


set_option maxRecDepth 100000 in
set_option maxHeartbeats 4000000 in
theorem ro_plus (c : Cx) (ok : c.Ok) (w : World) (a deep : Nat) (ha : a ≤ c.s.size) (hd : deep ≤ 20) (A : Nat) (hAA : skip c.s deep a = A) (hA : A < c.s.size) (hb : pk c.s A = 43) (hm : c.mute = false) (n : Int) (t : Nat) (hn : -1000000000 ≤ n ∧ n ≤ 1000000000) (HI : Hid (∀ W, Calls Try.prog 50 #[rdc c, .int .i64 (A + 1 : Nat), .int .i64 deep] W (RPost c W (.ok n t)))) :
    Calls Try.prog 50 #[rdc c, .int .i64 a, .int .i64 deep] w fun e w' => e = .returned (.tuple #[.int .i64 (n), .int .i64 (t : Nat), .int .i64 0]) ∧ Below w.heap.size w w' := by
  have HK := Lib.hid (fun W => rskip_calls c.s ok.hs c.scale c.size c.vs c.here c.mute a deep ha W)
  rw [hAA] at HK
  have hk : pk c.s A = c.s[A].toNat := by unfold pk; rw [dif_pos hA]
  rw [hk] at hb
  have hi : (A : Int) < c.s.size := by omega
  have hs := ok.hs
  have hA1 : wrap64 ((A : Int) + 1) = ((A + 1 : Nat) : Int) := by rw [wrap64_in _ (by omega) (by omega)]; rfl
  have f0 : ((c.s[A].toNat : Int) == 40) = false := by rw [hb]; rfl
  have f1 : ((c.s[A].toNat : Int) == 43) = true := by rw [hb]; rfl
  have f2 : ((c.s[A].toNat : Int) == 45) = false := by rw [hb]; rfl
  have f3 : ((c.s[A].toNat : Int) == 33) = false := by rw [hb]; rfl
  have f4 : ((c.s[A].toNat : Int) == 124) = false := by rw [hb]; rfl
  have Hm := Lib.hid hm
  clear hm
  have HW := Lib.hid (fun W => rwithin_calls (n) true (by symm; rw [decide_eq_true_iff]; omega) W)
  clear hAA hb hk hs
  go_enter Try.func50, Try.ntmps50
  go_wp2_with fail
  refine (HK.out _).mono ?_
  rintro e w1 ⟨rfl, hb⟩
  obtain ⟨B1, R1⟩ := below_box w w1 c hb
  obtain ⟨k0, k1, k2, k3, k4, k5, kl⟩ := R1.cells
  clear hb
  go_wp2_with fail
  simp only [hA1]
  refine (HI.out _).mono ?_
  rintro e w2 ⟨v, hv, rfl, hb2⟩
  have hv := hv Hm.out
  subst hv
  have B2 := B1.trans (hb2.mono B1.size)
  have R2 := R1.below hb2
  clear k0 k1 k2 k3 k4 k5 kl R1
  obtain ⟨k0, k1, k2, k3, k4, k5, kl⟩ := R2.cells
  rw [Hm.out] at k5
  go_wp2_with fail
  refine (HW.out _).mono ?_
  rintro e w3 ⟨rfl, hb3⟩
  have B3 := B2.trans (hb3.mono B2.size)
  go_wp2
  go_ret3
  exact ⟨rfl, B3⟩

set_option maxRecDepth 100000 in
set_option maxHeartbeats 4000000 in
theorem ro_minus (c : Cx) (ok : c.Ok) (w : World) (a deep : Nat) (ha : a ≤ c.s.size) (hd : deep ≤ 20) (A : Nat) (hAA : skip c.s deep a = A) (hA : A < c.s.size) (hb : pk c.s A = 45) (hm : c.mute = false) (n : Int) (t : Nat) (hn : -1000000000 ≤ n ∧ n ≤ 1000000000) (HI : Hid (∀ W, Calls Try.prog 50 #[rdc c, .int .i64 (A + 1 : Nat), .int .i64 deep] W (RPost c W (.ok n t)))) :
    Calls Try.prog 50 #[rdc c, .int .i64 a, .int .i64 deep] w fun e w' => e = .returned (.tuple #[.int .i64 (-n), .int .i64 (t : Nat), .int .i64 0]) ∧ Below w.heap.size w w' := by
  have HK := Lib.hid (fun W => rskip_calls c.s ok.hs c.scale c.size c.vs c.here c.mute a deep ha W)
  rw [hAA] at HK
  have hk : pk c.s A = c.s[A].toNat := by unfold pk; rw [dif_pos hA]
  rw [hk] at hb
  have hi : (A : Int) < c.s.size := by omega
  have hs := ok.hs
  have hA1 : wrap64 ((A : Int) + 1) = ((A + 1 : Nat) : Int) := by rw [wrap64_in _ (by omega) (by omega)]; rfl
  have f0 : ((c.s[A].toNat : Int) == 40) = false := by rw [hb]; rfl
  have f1 : ((c.s[A].toNat : Int) == 43) = false := by rw [hb]; rfl
  have f2 : ((c.s[A].toNat : Int) == 45) = true := by rw [hb]; rfl
  have f3 : ((c.s[A].toNat : Int) == 33) = false := by rw [hb]; rfl
  have f4 : ((c.s[A].toNat : Int) == 124) = false := by rw [hb]; rfl
  have wn : wrap64 (-n) = -n := wrap64_in _ (by omega) (by omega)
  have Hm := Lib.hid hm
  clear hm
  have HW := Lib.hid (fun W => rwithin_calls (-n) true (by symm; rw [decide_eq_true_iff]; omega) W)
  clear hAA hb hk hs
  go_enter Try.func50, Try.ntmps50
  go_wp2_with fail
  refine (HK.out _).mono ?_
  rintro e w1 ⟨rfl, hb⟩
  obtain ⟨B1, R1⟩ := below_box w w1 c hb
  obtain ⟨k0, k1, k2, k3, k4, k5, kl⟩ := R1.cells
  clear hb
  go_wp2_with fail
  simp only [hA1]
  refine (HI.out _).mono ?_
  rintro e w2 ⟨v, hv, rfl, hb2⟩
  have hv := hv Hm.out
  subst hv
  have B2 := B1.trans (hb2.mono B1.size)
  have R2 := R1.below hb2
  clear k0 k1 k2 k3 k4 k5 kl R1
  obtain ⟨k0, k1, k2, k3, k4, k5, kl⟩ := R2.cells
  rw [Hm.out] at k5
  go_wp2_with fail
  try simp only [wn]
  refine (HW.out _).mono ?_
  rintro e w3 ⟨rfl, hb3⟩
  have B3 := B2.trans (hb3.mono B2.size)
  go_wp2
  go_ret3
  exact ⟨rfl, B3⟩

set_option maxRecDepth 100000 in
set_option maxHeartbeats 4000000 in
theorem ro_not1 (c : Cx) (ok : c.Ok) (w : World) (a deep : Nat) (ha : a ≤ c.s.size) (hd : deep ≤ 20) (A : Nat) (hAA : skip c.s deep a = A) (hA : A < c.s.size) (hb : pk c.s A = 33) (hm : c.mute = false) (n : Int) (t : Nat) (hn : -1000000000 ≤ n ∧ n ≤ 1000000000) (h0 : n ≤ 0) (HI : Hid (∀ W, Calls Try.prog 50 #[rdc c, .int .i64 (A + 1 : Nat), .int .i64 deep] W (RPost c W (.ok n t)))) :
    Calls Try.prog 50 #[rdc c, .int .i64 a, .int .i64 deep] w fun e w' => e = .returned (.tuple #[.int .i64 (1), .int .i64 (t : Nat), .int .i64 0]) ∧ Below w.heap.size w w' := by
  have HK := Lib.hid (fun W => rskip_calls c.s ok.hs c.scale c.size c.vs c.here c.mute a deep ha W)
  rw [hAA] at HK
  have hk : pk c.s A = c.s[A].toNat := by unfold pk; rw [dif_pos hA]
  rw [hk] at hb
  have hi : (A : Int) < c.s.size := by omega
  have hs := ok.hs
  have hA1 : wrap64 ((A : Int) + 1) = ((A + 1 : Nat) : Int) := by rw [wrap64_in _ (by omega) (by omega)]; rfl
  have f0 : ((c.s[A].toNat : Int) == 40) = false := by rw [hb]; rfl
  have f1 : ((c.s[A].toNat : Int) == 43) = false := by rw [hb]; rfl
  have f2 : ((c.s[A].toNat : Int) == 45) = false := by rw [hb]; rfl
  have f3 : ((c.s[A].toNat : Int) == 33) = true := by rw [hb]; rfl
  have f4 : ((c.s[A].toNat : Int) == 124) = false := by rw [hb]; rfl
  have dn : decide (n ≤ 0) = true := decide_eq_true h0
  have Hm := Lib.hid hm
  clear hm
  have HW := Lib.hid (fun W => rwithin_calls (1) true (by symm; rw [decide_eq_true_iff]; omega) W)
  clear hAA hb hk hs
  go_enter Try.func50, Try.ntmps50
  go_wp2_with fail
  refine (HK.out _).mono ?_
  rintro e w1 ⟨rfl, hb⟩
  obtain ⟨B1, R1⟩ := below_box w w1 c hb
  obtain ⟨k0, k1, k2, k3, k4, k5, kl⟩ := R1.cells
  clear hb
  go_wp2_with fail
  simp only [hA1]
  refine (HI.out _).mono ?_
  rintro e w2 ⟨v, hv, rfl, hb2⟩
  have hv := hv Hm.out
  subst hv
  have B2 := B1.trans (hb2.mono B1.size)
  have R2 := R1.below hb2
  clear k0 k1 k2 k3 k4 k5 kl R1
  obtain ⟨k0, k1, k2, k3, k4, k5, kl⟩ := R2.cells
  rw [Hm.out] at k5
  go_wp2_with fail
  refine (HW.out _).mono ?_
  rintro e w3 ⟨rfl, hb3⟩
  have B3 := B2.trans (hb3.mono B2.size)
  go_wp2
  go_ret3
  exact ⟨rfl, B3⟩

set_option maxRecDepth 100000 in
set_option maxHeartbeats 4000000 in
theorem ro_not0 (c : Cx) (ok : c.Ok) (w : World) (a deep : Nat) (ha : a ≤ c.s.size) (hd : deep ≤ 20) (A : Nat) (hAA : skip c.s deep a = A) (hA : A < c.s.size) (hb : pk c.s A = 33) (hm : c.mute = false) (n : Int) (t : Nat) (hn : -1000000000 ≤ n ∧ n ≤ 1000000000) (h0 : ¬ n ≤ 0) (HI : Hid (∀ W, Calls Try.prog 50 #[rdc c, .int .i64 (A + 1 : Nat), .int .i64 deep] W (RPost c W (.ok n t)))) :
    Calls Try.prog 50 #[rdc c, .int .i64 a, .int .i64 deep] w fun e w' => e = .returned (.tuple #[.int .i64 (0), .int .i64 (t : Nat), .int .i64 0]) ∧ Below w.heap.size w w' := by
  have HK := Lib.hid (fun W => rskip_calls c.s ok.hs c.scale c.size c.vs c.here c.mute a deep ha W)
  rw [hAA] at HK
  have hk : pk c.s A = c.s[A].toNat := by unfold pk; rw [dif_pos hA]
  rw [hk] at hb
  have hi : (A : Int) < c.s.size := by omega
  have hs := ok.hs
  have hA1 : wrap64 ((A : Int) + 1) = ((A + 1 : Nat) : Int) := by rw [wrap64_in _ (by omega) (by omega)]; rfl
  have f0 : ((c.s[A].toNat : Int) == 40) = false := by rw [hb]; rfl
  have f1 : ((c.s[A].toNat : Int) == 43) = false := by rw [hb]; rfl
  have f2 : ((c.s[A].toNat : Int) == 45) = false := by rw [hb]; rfl
  have f3 : ((c.s[A].toNat : Int) == 33) = true := by rw [hb]; rfl
  have f4 : ((c.s[A].toNat : Int) == 124) = false := by rw [hb]; rfl
  have dn : decide (n ≤ 0) = false := decide_eq_false h0
  have Hm := Lib.hid hm
  clear hm
  have HW := Lib.hid (fun W => rwithin_calls (0) true (by symm; rw [decide_eq_true_iff]; omega) W)
  clear hAA hb hk hs
  go_enter Try.func50, Try.ntmps50
  go_wp2_with fail
  refine (HK.out _).mono ?_
  rintro e w1 ⟨rfl, hb⟩
  obtain ⟨B1, R1⟩ := below_box w w1 c hb
  obtain ⟨k0, k1, k2, k3, k4, k5, kl⟩ := R1.cells
  clear hb
  go_wp2_with fail
  simp only [hA1]
  refine (HI.out _).mono ?_
  rintro e w2 ⟨v, hv, rfl, hb2⟩
  have hv := hv Hm.out
  subst hv
  have B2 := B1.trans (hb2.mono B1.size)
  have R2 := R1.below hb2
  clear k0 k1 k2 k3 k4 k5 kl R1
  obtain ⟨k0, k1, k2, k3, k4, k5, kl⟩ := R2.cells
  rw [Hm.out] at k5
  go_wp2_with fail
  refine (HW.out _).mono ?_
  rintro e w3 ⟨rfl, hb3⟩
  have B3 := B2.trans (hb3.mono B2.size)
  go_wp2
  go_ret3
  exact ⟨rfl, B3⟩

set_option maxRecDepth 100000 in
set_option maxHeartbeats 4000000 in
theorem ro_bar1 (c : Cx) (ok : c.Ok) (w : World) (a deep : Nat) (ha : a ≤ c.s.size) (hd : deep ≤ 20) (A : Nat) (hAA : skip c.s deep a = A) (hA : A < c.s.size) (hb : pk c.s A = 124) (hm : c.mute = false) (n : Int) (t : Nat) (hn : -1000000000 ≤ n ∧ n ≤ 1000000000) (h0 : -1000000000 ≤ n - c.here ∧ n - c.here ≤ 1000000000) (HI : Hid (∀ W, Calls Try.prog 50 #[rdc c, .int .i64 (A + 1 : Nat), .int .i64 deep] W (RPost c W (.ok n t)))) :
    Calls Try.prog 50 #[rdc c, .int .i64 a, .int .i64 deep] w fun e w' => e = .returned (.tuple #[.int .i64 (n - c.here), .int .i64 (t : Nat), .int .i64 0]) ∧ Below w.heap.size w w' := by
  have HK := Lib.hid (fun W => rskip_calls c.s ok.hs c.scale c.size c.vs c.here c.mute a deep ha W)
  rw [hAA] at HK
  have hk : pk c.s A = c.s[A].toNat := by unfold pk; rw [dif_pos hA]
  rw [hk] at hb
  have hi : (A : Int) < c.s.size := by omega
  have hs := ok.hs
  have hA1 : wrap64 ((A : Int) + 1) = ((A + 1 : Nat) : Int) := by rw [wrap64_in _ (by omega) (by omega)]; rfl
  have f0 : ((c.s[A].toNat : Int) == 40) = false := by rw [hb]; rfl
  have f1 : ((c.s[A].toNat : Int) == 43) = false := by rw [hb]; rfl
  have f2 : ((c.s[A].toNat : Int) == 45) = false := by rw [hb]; rfl
  have f3 : ((c.s[A].toNat : Int) == 33) = false := by rw [hb]; rfl
  have f4 : ((c.s[A].toNat : Int) == 124) = true := by rw [hb]; rfl
  have h0' := ok.h0
  have h1' := ok.h1
  have wn : wrap64 (n - c.here) = n - c.here := wrap64_in _ (by omega) (by omega)
  have Hm := Lib.hid hm
  clear hm
  have HW := Lib.hid (fun W => rwithin_calls (n - c.here) true (by symm; rw [decide_eq_true_iff]; omega) W)
  clear hAA hb hk hs
  go_enter Try.func50, Try.ntmps50
  go_wp2_with fail
  refine (HK.out _).mono ?_
  rintro e w1 ⟨rfl, hb⟩
  obtain ⟨B1, R1⟩ := below_box w w1 c hb
  obtain ⟨k0, k1, k2, k3, k4, k5, kl⟩ := R1.cells
  clear hb
  go_wp2_with fail
  simp only [hA1]
  refine (HI.out _).mono ?_
  rintro e w2 ⟨v, hv, rfl, hb2⟩
  have hv := hv Hm.out
  subst hv
  have B2 := B1.trans (hb2.mono B1.size)
  have R2 := R1.below hb2
  clear k0 k1 k2 k3 k4 k5 kl R1
  obtain ⟨k0, k1, k2, k3, k4, k5, kl⟩ := R2.cells
  rw [Hm.out] at k5
  go_wp2_with fail
  try simp only [wn]
  refine (HW.out _).mono ?_
  rintro e w3 ⟨rfl, hb3⟩
  have B3 := B2.trans (hb3.mono B2.size)
  go_wp2
  go_ret3
  exact ⟨rfl, B3⟩

set_option maxRecDepth 100000 in
set_option maxHeartbeats 4000000 in
theorem ro_bar0 (c : Cx) (ok : c.Ok) (w : World) (a deep : Nat) (ha : a ≤ c.s.size) (hd : deep ≤ 20) (A : Nat) (hAA : skip c.s deep a = A) (hA : A < c.s.size) (hb : pk c.s A = 124) (hm : c.mute = false) (n : Int) (t : Nat) (hn : -1000000000 ≤ n ∧ n ≤ 1000000000) (h0 : ¬ (-1000000000 ≤ n - c.here ∧ n - c.here ≤ 1000000000)) (HI : Hid (∀ W, Calls Try.prog 50 #[rdc c, .int .i64 (A + 1 : Nat), .int .i64 deep] W (RPost c W (.ok n t)))) :
    Calls Try.prog 50 #[rdc c, .int .i64 a, .int .i64 deep] w fun e w' => e = .returned (.tuple #[.int .i64 0, .int .i64 0, .int .i64 5]) ∧ Below w.heap.size w w' := by
  have HK := Lib.hid (fun W => rskip_calls c.s ok.hs c.scale c.size c.vs c.here c.mute a deep ha W)
  rw [hAA] at HK
  have hk : pk c.s A = c.s[A].toNat := by unfold pk; rw [dif_pos hA]
  rw [hk] at hb
  have hi : (A : Int) < c.s.size := by omega
  have hs := ok.hs
  have hA1 : wrap64 ((A : Int) + 1) = ((A + 1 : Nat) : Int) := by rw [wrap64_in _ (by omega) (by omega)]; rfl
  have f0 : ((c.s[A].toNat : Int) == 40) = false := by rw [hb]; rfl
  have f1 : ((c.s[A].toNat : Int) == 43) = false := by rw [hb]; rfl
  have f2 : ((c.s[A].toNat : Int) == 45) = false := by rw [hb]; rfl
  have f3 : ((c.s[A].toNat : Int) == 33) = false := by rw [hb]; rfl
  have f4 : ((c.s[A].toNat : Int) == 124) = true := by rw [hb]; rfl
  have h0' := ok.h0
  have h1' := ok.h1
  have wn : wrap64 (n - c.here) = n - c.here := wrap64_in _ (by omega) (by omega)
  have Hm := Lib.hid hm
  clear hm
  have HW := Lib.hid (fun W => rwithin_calls (n - c.here) false (by symm; rw [decide_eq_false_iff_not]; omega) W)
  clear hAA hb hk hs
  go_enter Try.func50, Try.ntmps50
  go_wp2_with fail
  refine (HK.out _).mono ?_
  rintro e w1 ⟨rfl, hb⟩
  obtain ⟨B1, R1⟩ := below_box w w1 c hb
  obtain ⟨k0, k1, k2, k3, k4, k5, kl⟩ := R1.cells
  clear hb
  go_wp2_with fail
  simp only [hA1]
  refine (HI.out _).mono ?_
  rintro e w2 ⟨v, hv, rfl, hb2⟩
  have hv := hv Hm.out
  subst hv
  have B2 := B1.trans (hb2.mono B1.size)
  have R2 := R1.below hb2
  clear k0 k1 k2 k3 k4 k5 kl R1
  obtain ⟨k0, k1, k2, k3, k4, k5, kl⟩ := R2.cells
  rw [Hm.out] at k5
  go_wp2_with fail
  try simp only [wn]
  refine (HW.out _).mono ?_
  rintro e w3 ⟨rfl, hb3⟩
  have B3 := B2.trans (hb3.mono B2.size)
  go_wp2
  go_ret3
  exact ⟨rfl, B3⟩
end Go.Proofs.Ytkomofphgnekoaa

set_option linter.unusedVariables false
set_option linter.unusedSimpArgs false
namespace Go.Proofs.Ytkomofphgnekoaa
open Go.Shelf Go.RowKit Go.Lib Go.Aids Go.MapLit Go.Proofs.YtkomofphgnekoaaW.PrintWords

set_option maxRecDepth 100000 in
set_option maxHeartbeats 4000000 in
theorem ro_deep (c : Cx) (ok : c.Ok) (w : World) (a : Nat) (ha : a ≤ c.s.size) (A : Nat) (hAA : skip c.s 20 a = A) (hA : A < c.s.size) (hb : pk c.s A = 40) :
    Calls Try.prog 50 #[rdc c, .int .i64 a, .int .i64 20] w fun e w' => e = .returned (.tuple #[.int .i64 0, .int .i64 0, .int .i64 4]) ∧ Below w.heap.size w w' := by
  have HK := Lib.hid (fun W => rskip_calls c.s ok.hs c.scale c.size c.vs c.here c.mute a 20 ha W)
  rw [hAA] at HK
  have hk : pk c.s A = c.s[A].toNat := by unfold pk; rw [dif_pos hA]
  rw [hk] at hb
  have hi : (A : Int) < c.s.size := by omega
  have f0 : ((c.s[A].toNat : Int) == 40) = true := by rw [hb]; rfl
  clear hAA hb hk
  go_enter Try.func50, Try.ntmps50
  go_wp2_with fail
  refine (HK.out _).mono ?_
  rintro e w1 ⟨rfl, hb⟩
  obtain ⟨B1, R1⟩ := below_box w w1 c hb
  obtain ⟨k0, k1, k2, k3, k4, k5, kl⟩ := R1.cells
  clear hb
  go_wp2
  go_ret3
  exact ⟨rfl, B1⟩

/-- Behind the brackets' sum. -/
def closeP (c : Cx) (w : World) (v : Int) (T : Nat) (e : Ending) (w' : World) : Prop :=
  (if pk c.s T = 41 then e = .returned (.tuple #[.int .i64 v, .int .i64 (T + 1 : Nat), .int .i64 0]) else e = .returned (.tuple #[.int .i64 0, .int .i64 0, .int .i64 4])) ∧ Below w.heap.size w w'
set_option maxRecDepth 100000 in
set_option maxHeartbeats 4000000 in
theorem ro_par (c : Cx) (ok : c.Ok) (w : World) (a deep : Nat) (ha : a ≤ c.s.size) (hd : deep < 20) (A : Nat) (hAA : skip c.s deep a = A) (hA : A < c.s.size) (hb : pk c.s A = 40) (o : Out) (hk0 : ∀ k, o = .die k → k ≠ 0) (ho : o ≠ .stuck)
    (hT : ∀ n t, o = .ok n t → t ≤ c.s.size) (HI : Hid (∀ W, Calls Try.prog 39 #[rdc c, .int .i64 (A + 1 : Nat), .int .i64 (deep + 1 : Nat)] W (RPostE c (deep + 1) W o))) :
    Calls Try.prog 50 #[rdc c, .int .i64 a, .int .i64 deep] w fun e w' =>
      match o with
      | .ok n t => ∃ v, (c.mute = false → v = n) ∧ closeP c w v t e w'
      | .die k => ∃ v t', e = .returned (.tuple #[.int .i64 v, .int .i64 t', .int .i64 k]) ∧ Below w.heap.size w w'
      | .stuck => True := by
  have HK := Lib.hid (fun W => rskip_calls c.s ok.hs c.scale c.size c.vs c.here c.mute a deep ha W)
  rw [hAA] at HK
  have hk : pk c.s A = c.s[A].toNat := by unfold pk; rw [dif_pos hA]
  rw [hk] at hb
  have hi : (A : Int) < c.s.size := by omega
  have hs := ok.hs
  have hA1 : wrap64 ((A : Int) + 1) = ((A + 1 : Nat) : Int) := by rw [wrap64_in _ (by omega) (by omega)]; rfl
  have hd1 : wrap64 ((deep : Int) + 1) = ((deep + 1 : Nat) : Int) := by rw [wrap64_in _ (by omega) (by omega)]; rfl
  have f0 : ((c.s[A].toNat : Int) == 40) = true := by rw [hb]; rfl
  have f20 : ((deep : Int) == 20) = false := by rw [beq_eq_false_iff_ne]; omega
  have HS := Lib.hid (fun (t' : Nat) (h' : t' ≤ c.s.size) W => rskip_calls c.s ok.hs c.scale c.size c.vs c.here c.mute t' (deep + 1) h' W)
  clear hAA hb hk
  rcases o with ⟨n, t⟩ | k | _
  · have htl := hT n t rfl
    clear hT hk0 ho
    go_enter Try.func50, Try.ntmps50
    go_wp2_with fail
    refine (HK.out _).mono ?_
    rintro e w1 ⟨rfl, hb⟩
    obtain ⟨B1, R1⟩ := below_box w w1 c hb
    obtain ⟨k0, k1, k2, k3, k4, k5, kl⟩ := R1.cells
    clear hb
    go_wp2_with fail
    try simp only [hA1, hd1]
    refine (HI.out _).mono ?_
    rintro e w2 ⟨v, t', hv, hsk, ht', rfl, hb2⟩
    have B2 := B1.trans (hb2.mono B1.size)
    have R2 := R1.below hb2
    clear k0 k1 k2 k3 k4 k5 kl R1
    obtain ⟨k0, k1, k2, k3, k4, k5, kl⟩ := R2.cells
    have HS2 := Lib.hid (HS.out t' ht')
    rw [hsk] at HS2
    clear hsk
    go_wp2_with fail
    try simp only [hd1]
    refine (HS2.out _).mono ?_
    rintro e w3 ⟨rfl, hb3⟩
    have B3 := B2.trans (hb3.mono B2.size)
    have R3 := R2.below hb3
    clear k0 k1 k2 k3 k4 k5 kl R2
    obtain ⟨k0, k1, k2, k3, k4, k5, kl⟩ := R3.cells
    clear HK HI HS HS2 R3
    by_cases hlt : t < c.s.size
    · have hk : pk c.s t = c.s[t].toNat := by unfold pk; rw [dif_pos hlt]
      have hi2 : (t : Int) < c.s.size := by omega
      have hge : decide ((c.s.size : Int) ≤ t) = false := by rw [decide_eq_false_iff_not]; omega
      have ht1 : wrap64 ((t : Int) + 1) = (t : Int) + 1 := wrap64_in _ (by omega) (by omega)
      by_cases h41 : pk c.s t = 41
      · have f41 : ((c.s[t].toNat : Int) != 41) = false := by rw [← hk, h41]; rfl
        have Hv := Lib.hid hv
        have H41 := Lib.hid h41
        clear hv h41 hk hA1 hd1 f0 f20 hb2 hb3 B1 B2 hs
        go_wp2
        simp only [ht1]
        go_ret3
        refine ⟨v, Hv.out, ?_, B3⟩
        rw [if_pos H41.out, show ((t + 1 : Nat) : Int) = (t : Int) + 1 from rfl]
        rfl
      · have f41 : ((c.s[t].toNat : Int) != 41) = true := by rw [← hk]; simp; omega
        have Hv := Lib.hid hv
        have H41 := Lib.hid h41
        clear hv h41 hk
        go_wp2
        go_ret3
        refine ⟨v, Hv.out, ?_, B3⟩
        rw [if_neg H41.out]
        rfl
    · have hz : pk c.s t = 0 := by unfold pk; rw [dif_neg hlt]
      have hge : decide ((c.s.size : Int) ≤ t) = true := by rw [decide_eq_true_iff]; omega
      have Hv := Lib.hid hv
      have Hz := Lib.hid hz
      clear hv hz
      go_wp2
      go_ret3
      refine ⟨v, Hv.out, ?_, B3⟩
      rw [if_neg (by rw [Hz.out]; decide)]
      rfl
  · have kz : (k != 0) = true := by simpa using hk0 k rfl
    clear hT hk0 ho
    go_enter Try.func50, Try.ntmps50
    go_wp2_with fail
    refine (HK.out _).mono ?_
    rintro e w1 ⟨rfl, hb⟩
    obtain ⟨B1, R1⟩ := below_box w w1 c hb
    obtain ⟨k0, k1, k2, k3, k4, k5, kl⟩ := R1.cells
    clear hb
    go_wp2_with fail
    try simp only [hA1, hd1]
    refine (HI.out _).mono ?_
    rintro e w2 ⟨v, t', rfl, hb2⟩
    have B2 := B1.trans (hb2.mono B1.size)
    clear k0 k1 k2 k3 k4 k5 kl R1
    go_wp2
    go_ret3
    exact ⟨0, 0, rfl, B2⟩
  · exact absurd rfl ho
end Go.Proofs.Ytkomofphgnekoaa

set_option linter.unusedVariables false
set_option linter.unusedSimpArgs false
namespace Go.Proofs.Ytkomofphgnekoaa
open Go.Shelf Go.RowKit Go.Lib Go.Aids Go.MapLit Go.Proofs.YtkomofphgnekoaaW.PrintWords

/-- What a sign makes of an operand. -/
def unO (c : Cx) (b : Nat) (x : Int) (t : Nat) : Out := if b = 45 then .ok (-x) t else if b = 33 ∧ 0 < x then .ok 0 t else if b = 33 then .ok 1 t else if b = 124 then heldO c (x - c.here) t else .ok x t
theorem run_un (c : Cx) (f a deep A : Nat) (hAA : skip c.s deep a = A) (hu : pk c.s A = 43 ∨ pk c.s A = 45 ∨ pk c.s A = 33 ∨ pk c.s A = 124) :
    run c (f + 1) (.oper a deep) = match run c f (.oper (A + 1) deep) with | .ok x t => unO c (pk c.s A) x t | o => o := by
  rw [run]
  simp only [hAA]
  rw [if_pos hu]
  rfl
theorem unO_mute {c : Cx} (hm : c.mute = true) (b : Nat) (x : Int) (t : Nat) : ∃ n, unO c b x t = .ok n t := by
  unfold unO
  split
  · exact ⟨_, rfl⟩
  · split
    · exact ⟨_, rfl⟩
    · split
      · exact ⟨_, rfl⟩
      · split
        · exact ⟨0, by unfold heldO; rw [if_pos hm]⟩
        · exact ⟨_, rfl⟩
theorem ro_unary (c : Cx) (ok : c.Ok) (f : Nat) (hO : RO c f) (w : World) (a deep : Nat) (ha : a ≤ c.s.size) (hd : deep ≤ 20) (A : Nat) (hAA : skip c.s deep a = A) (hA : A < c.s.size)
    (hu : pk c.s A = 43 ∨ pk c.s A = 45 ∨ pk c.s A = 33 ∨ pk c.s A = 124) (hn : run c (f + 1) (.oper a deep) ≠ .stuck) :
    Calls Try.prog 50 #[rdc c, .int .i64 a, .int .i64 deep] w (RPost c w (run c (f + 1) (.oper a deep))) := by
  have e := run_un c f a deep A hAA hu
  have hn2 : run c f (.oper (A + 1) deep) ≠ .stuck := by intro h; rw [e, h] at hn; exact hn rfl
  have HI := fun W => hO W (A + 1) deep (by omega) hd hn2
  have hbd := fun n t h => (run_bound c f (.oper (A + 1) deep) n t (by show A + 1 ≤ c.s.size; omega) h).1
  have hdie := run_die c f (.oper (A + 1) deep)
  rw [e]
  rcases hr : run c f (.oper (A + 1) deep) with ⟨x, t⟩ | k | _
  · rw [hr] at HI
    have hx := hbd x t hr
    simp only
    rcases hm : c.mute with _ | _
    · rcases hu with b | b | b | b
      · rw [b]
        exact (ro_plus c ok w a deep ha hd A hAA hA b hm x t hx (Lib.hid HI)).mono fun e' w' h => ⟨x, fun _ => rfl, h.1, h.2⟩
      · rw [b]
        exact (ro_minus c ok w a deep ha hd A hAA hA b hm x t hx (Lib.hid HI)).mono fun e' w' h => ⟨-x, fun _ => rfl, h.1, h.2⟩
      · rw [b]
        by_cases h0 : x ≤ 0
        · have ex : unO c 33 x t = .ok 1 t := by unfold unO; rw [if_neg (by decide), if_neg (by omega), if_pos rfl]
          rw [ex]
          exact (ro_not1 c ok w a deep ha hd A hAA hA b hm x t hx h0 (Lib.hid HI)).mono fun e' w' h => ⟨1, fun _ => rfl, h.1, h.2⟩
        · have ex : unO c 33 x t = .ok 0 t := by unfold unO; rw [if_neg (by decide), if_pos ⟨rfl, by omega⟩]
          rw [ex]
          exact (ro_not0 c ok w a deep ha hd A hAA hA b hm x t hx h0 (Lib.hid HI)).mono fun e' w' h => ⟨0, fun _ => rfl, h.1, h.2⟩
      · rw [b]
        by_cases h0 : -1000000000 ≤ x - c.here ∧ x - c.here ≤ 1000000000
        · have ex : unO c 124 x t = .ok (x - c.here) t := by unfold unO heldO; rw [if_neg (by decide), if_neg (by rintro ⟨h, -⟩; exact absurd h (by decide)), if_neg (by decide), if_pos rfl, hm, if_neg (by decide), if_neg (by unfold big; omega)]
          rw [ex]
          exact (ro_bar1 c ok w a deep ha hd A hAA hA b hm x t hx h0 (Lib.hid HI)).mono fun e' w' h => ⟨_, fun _ => rfl, h.1, h.2⟩
        · have ex : unO c 124 x t = .die 5 := by unfold unO heldO; rw [if_neg (by decide), if_neg (by rintro ⟨h, -⟩; exact absurd h (by decide)), if_neg (by decide), if_pos rfl, hm, if_neg (by decide), if_pos (by unfold big; omega)]
          rw [ex]
          exact (ro_bar0 c ok w a deep ha hd A hAA hA b hm x t hx h0 (Lib.hid HI)).mono fun e' w' h => ⟨0, 0, h.1, h.2⟩
    · obtain ⟨n, en⟩ := unO_mute hm (pk c.s A) x t
      rw [en]
      have fin : ∀ (e' : Ending) (w' : World), e' = .returned (.tuple #[.int .i64 0, .int .i64 (t : Nat), .int .i64 0]) ∧ Below w.heap.size w w' → RPost c w (.ok n t) e' w' := fun e' w' h => ⟨0, (fun hf => absurd (hm.symm.trans hf) (by decide)), h.1, h.2⟩
      rcases hu with b | b | b | b
      · exact (ro_mute43 c ok w a deep ha hd A hAA hA b hm x t (Lib.hid HI)).mono fin
      · exact (ro_mute45 c ok w a deep ha hd A hAA hA b hm x t (Lib.hid HI)).mono fin
      · exact (ro_mute33 c ok w a deep ha hd A hAA hA b hm x t (Lib.hid HI)).mono fin
      · exact (ro_mute124 c ok w a deep ha hd A hAA hA b hm x t (Lib.hid HI)).mono fin
  · rw [hr] at HI
    have hk0 := hdie k hr
    simp only
    rcases hu with b | b | b | b
    · exact (ro_die43 c ok w a deep ha hd A hAA hA b k hk0 (Lib.hid HI)).mono fun e' w' h => h
    · exact (ro_die45 c ok w a deep ha hd A hAA hA b k hk0 (Lib.hid HI)).mono fun e' w' h => h
    · exact (ro_die33 c ok w a deep ha hd A hAA hA b k hk0 (Lib.hid HI)).mono fun e' w' h => h
    · exact (ro_die124 c ok w a deep ha hd A hAA hA b k hk0 (Lib.hid HI)).mono fun e' w' h => h
  · exact absurd hr hn2
theorem number_mute {c : Cx} {A : Nat} (hm : c.mute = true) {x y z : Int} (hx : numberR c A = (x, y, z)) {w : World} {e' : Ending} {w' : World}
    (h : e' = .returned (.tuple (if c.mute = true ∧ z = 5 then #[.int .i64 0, .int .i64 y, .int .i64 0] else #[.int .i64 x, .int .i64 y, .int .i64 z])) ∧ Below w.heap.size w w') : RPost c w (numberO c A) e' w' := by
  have hb := (rowF_bound c.s 9 0 A).1
  have fin : ∀ (v : Int) (t : Nat), finR v t = (x, y, z) → RPost c w (.ok 0 t) e' w' := by
    intro v t hf
    unfold finR at hf
    split at hf
    · injection hf with e1 e2
      injection e2 with e2 e3
      subst e1 e2 e3
      rw [if_pos ⟨hm, rfl⟩] at h
      exact ⟨0, (fun hf => absurd (hm.symm.trans hf) (by decide)), h.1, h.2⟩
    · injection hf with e1 e2
      injection e2 with e2 e3
      subst e1 e2 e3
      rw [if_neg (by rintro ⟨-, h5⟩; cases h5)] at h
      exact ⟨_, (fun hf => absurd (hm.symm.trans hf) (by decide)), h.1, h.2⟩
  rw [numberO_two]
  unfold number2
  unfold numberR endR numR at hx
  by_cases h0 : (rowF c.s 9 0 A).2 = A ∧ (dotO c.s (rowF c.s 9 0 A).2).2.1 = 0
  · rw [if_pos h0]
    rw [if_pos (by omega)] at hx
    injection hx with e1 e2
    injection e2 with e2 e3
    subst e1 e2 e3
    rw [if_neg (by rintro ⟨-, h5⟩; cases h5)] at h
    exact ⟨0, 0, h.1, h.2⟩
  · rw [if_neg h0]
    rw [if_neg (by omega)] at hx
    rcases hu : unitOf c (pk c.s (dotO c.s (rowF c.s 9 0 A).2).2.2) with _ | u
    · rw [hu] at hx
      simp only at hx ⊢
      unfold heldO
      rw [if_pos hm]
      exact fin _ _ hx
    · rw [hu] at hx
      simp only at hx ⊢
      unfold heldO
      rw [if_pos hm]
      exact fin _ _ hx
theorem ro_step (c : Cx) (ok : c.Ok) (f : Nat) (hO : RO c f) (hE : RE c f) : RO c (f + 1) := by
  intro w a deep ha hd hn
  obtain ⟨A, hAA⟩ : ∃ A, skip c.s deep a = A := ⟨_, rfl⟩
  have hAs : A ≤ c.s.size := by rw [← hAA]; exact skip_le c.s deep a ha
  by_cases hu : pk c.s A = 43 ∨ pk c.s A = 45 ∨ pk c.s A = 33 ∨ pk c.s A = 124
  · have hA : A < c.s.size := pk_lt (by omega)
    exact ro_unary c ok f hO w a deep ha hd A hAA hA hu hn
  · by_cases hp : pk c.s A = 40
    · have hA : A < c.s.size := pk_lt (by omega)
      by_cases h20 : deep = 20
      · subst h20
        have e : run c (f + 1) (.oper a 20) = .die 4 := by rw [run]; simp only [hAA]; rw [if_neg hu, if_pos hp, if_pos trivial]
        rw [e]
        exact (ro_deep c ok w a ha A hAA hA hp).mono fun e' w' h => ⟨0, 0, h.1, h.2⟩
      · have e : run c (f + 1) (.oper a deep) = match run c f (.expr (A + 1) (deep + 1)) with | .ok x t => if pk c.s t = 41 then .ok x (t + 1) else .die 4 | o => o := by rw [run]; simp only [hAA]; rw [if_neg hu, if_pos hp, if_neg h20]; rfl
        have hn2 : run c f (.expr (A + 1) (deep + 1)) ≠ .stuck := by intro h; rw [e, h] at hn; exact hn rfl
        have HI := Lib.hid (fun W => hE W (A + 1) (deep + 1) (by omega) (by omega) hn2)
        have hT := fun n t h => (run_bound c f (.expr (A + 1) (deep + 1)) n t (by show A + 1 ≤ c.s.size; omega) h).2
        have hdie := run_die c f (.expr (A + 1) (deep + 1))
        rw [e]
        generalize run c f (.expr (A + 1) (deep + 1)) = o at *
        refine (ro_par c ok w a deep ha (by omega) A hAA hA hp o (fun k h => hdie k h) hn2 hT HI).mono fun e' w' h => ?_
        rcases o with ⟨n, t⟩ | k | _
        · obtain ⟨v, hv, hc, hb⟩ := h
          simp only
          by_cases h41 : pk c.s t = 41
          · rw [if_pos h41] at hc ⊢
            exact ⟨v, hv, hc, hb⟩
          · rw [if_neg h41] at hc ⊢
            exact ⟨0, 0, hc, hb⟩
        · exact h
        · trivial
    · have e : run c (f + 1) (.oper a deep) = numberO c A := by rw [run]; simp only [hAA]; rw [if_neg hu, if_neg hp]
      rw [e]
      by_cases hA : A < c.s.size
      · obtain ⟨⟨x, y, z⟩, hx⟩ : ∃ r, numberR c A = r := ⟨_, rfl⟩
        refine (ro_num c ok w a deep ha hd A hAA hA hp (fun h => hu (.inl h)) (fun h => hu (.inr (.inl h))) (fun h => hu (.inr (.inr (.inl h)))) (fun h => hu (.inr (.inr (.inr h)))) x y z hx).mono fun e' w' h => ?_
        rcases hm : c.mute with _ | _
        · rw [if_neg (by rw [hm]; rintro ⟨h, -⟩; cases h)] at h
          rcases ho : numberO c A with ⟨n, t⟩ | k | _
          · have := numberR_ok hm ho
            rw [hx] at this
            injection this with e1 e2
            injection e2 with e2 e3
            subst e1 e2 e3
            exact ⟨_, fun _ => rfl, h.1, h.2⟩
          · obtain ⟨t, ht, -⟩ := numberR_die hm ho
            rw [hx] at ht
            injection ht with e1 e2
            injection e2 with e2 e3
            subst e1 e2 e3
            exact ⟨_, _, h.1, h.2⟩
          · trivial
        · exact number_mute hm hx h
      · have hz : pk c.s A = 0 := by unfold pk; rw [dif_neg hA]
        rw [number_end c A hz]
        exact (ro_end c ok w a deep ha hd (by rw [hAA]; exact hA)).mono fun e' w' h => ⟨0, 0, h.1, h.2⟩
end Go.Proofs.Ytkomofphgnekoaa

set_option linter.unusedVariables false
set_option linter.unusedSimpArgs false
namespace Go.Proofs.Ytkomofphgnekoaa
open Go.Shelf Go.RowKit Go.Lib Go.Aids Go.MapLit Go.Proofs.YtkomofphgnekoaaW.PrintWords

theorem reckonR_die {op : ByteArray} {x y r1 r2 : Int} (h : reckonR op x y = (r1, r2)) (h2 : r2 ≠ 0) : -1000000000 ≤ r1 ∧ r1 ≤ 1000000000 := by
  unfold reckonR at h
  split at h
  · injection h with e1 e2; subst e1; decide
  · split at h
    · injection h with e1 e2; subst e1; decide
    · injection h with e1 e2; exact absurd e2.symm h2
theorem reckonO_R {c : Cx} (hm : c.mute = false) (op : ByteArray) (x y : Int) (t : Nat) : reckonO c op x y t = if (reckonR op x y).2 = 0 then .ok (reckonR op x y).1 t else .die (reckonR op x y).2 := by
  unfold reckonO reckonR heldO
  rw [hm, if_neg (by decide)]
  by_cases h1 : (op = ⟨#[47]⟩ ∨ op = ⟨#[37]⟩) ∧ y = 0
  · rw [if_pos h1, if_pos h1]; rfl
  · rw [if_neg h1, if_neg h1, if_neg (by decide)]
    by_cases h2 : big (reckonV op x y)
    · rw [if_pos h2, if_pos h2]; rfl
    · rw [if_neg h2, if_neg h2]; rfl
set_option maxRecDepth 100000 in
set_option maxHeartbeats 8000000 in
theorem re_step (c : Cx) (ok : c.Ok) (f : Nat) (IO : ∀ g, g ≤ f → RO c g) : RE c (f + 1) := by
  intro w a0 deep ha hd hns
  obtain ⟨o, ho⟩ : ∃ o, run c (f + 1) (.expr a0 deep) = o := ⟨_, rfl⟩
  rw [ho] at hns ⊢
  simp only [run] at ho
  have IO1 := fun W hn => IO f (Nat.le_refl _) W a0 deep ha hd hn
  obtain ⟨o1, ho1⟩ : ∃ o1, run c f (.oper a0 deep) = o1 := ⟨_, rfl⟩
  rw [ho1] at ho IO1
  have hx : ∀ x t, o1 = .ok x t → (-1000000000 ≤ x ∧ x ≤ 1000000000) ∧ t ≤ c.s.size := fun x t e => run_bound c f (.oper a0 deep) x t ha (by rw [ho1, e])
  have hdz : ∀ k, o1 = .die k → k ≠ 0 := fun k e => run_die c f (.oper a0 deep) k (by rw [ho1, e])
  have hs := ok.hs
  have HI := Lib.hid IO1
  have HO := Lib.hid ho
  clear IO1 ho ho1
  rcases o1 with ⟨x0, t0⟩ | k | _
  · obtain ⟨hx0, ht0⟩ := hx x0 t0 rfl
    clear hx hdz
    have Hoo := Lib.hid (show run c f (.loop x0 t0 deep) = o from HO.out)
    clear HO
    go_enter Try.func39, Try.ntmps39
    go_wp2_with fail
    refine (HI.out _ (by intro h; cases h)).mono ?_
    rintro e w1 ⟨v0, hv0, rfl, hb1⟩
    obtain ⟨B1, R1⟩ := below_box w w1 c hb1
    clear hb1
    have HV0 := Lib.hid hv0
    clear hv0
    go_wp2_with fail
    go_loopg [9, 1, 10] f (fun k u v z wr => ∃ (x y : Int) (t : Nat), u = .int .i64 y ∧ v = .int .i64 t ∧ Rb wr w.heap.size c ∧ Below w.heap.size w wr ∧ Hid (t ≤ c.s.size ∧ (-1000000000 ≤ x ∧ x ≤ 1000000000) ∧ (c.mute = false → y = x)) ∧ k ≤ f ∧ ((z = .int .i64 0 ∧ Hid (run c k (.loop x t deep) = o)) ∨ ∃ e, z = .int .i64 e ∧ e ≠ 0 ∧ Hid (o = .die e)))
    case atStart => exact ⟨x0, v0, t0, rfl, rfl, R1, B1, Lib.hid ⟨ht0, hx0, HV0.out⟩, Nat.le_refl _, .inl ⟨rfl, Hoo⟩⟩
    case round =>
      obtain ⟨x, y, t, rfl, rfl, R, B, HX, hkf, hz⟩ := hrel
      clear R1 B1 HV0 Hoo HI hx0 ht0
      obtain ⟨k0, k1, k2, k3, k4, k5, kl⟩ := R.cells
      rcases hz with ⟨rfl, H⟩ | ⟨e, rfl, he, H⟩
      · rcases gk with _ | k'
        · exact absurd H.out.symm (by intro h; exact hns h)
        have hr := H.out
        obtain ⟨htl, hxb, hyx⟩ := HX.out
        simp only [run] at hr
        have hsk := skip_le c.s deep t htl
        have hK := fun W => rskip_calls c.s hs c.scale c.size c.vs c.here c.mute t deep htl W
        obtain ⟨a1, ha1⟩ : ∃ a1, skip c.s deep t = a1 := ⟨_, rfl⟩
        rw [ha1] at hr hsk hK
        have hP := fun W => roper_calls c.s hs c.scale c.size c.vs c.here c.mute a1 hsk W
        obtain ⟨P, hPn⟩ : ∃ P, operN c.s a1 = P := ⟨_, rfl⟩
        have hPt : operT c.s a1 = a1 + P.size := by unfold operT; rw [hPn]
        rw [hPn, hPt] at hP
        have HK := Lib.hid hK
        have HP := Lib.hid hP
        have Ha1 := Lib.hid ha1
        have Hyx := Lib.hid hyx
        clear hK hP ha1 hPt H HX hyx
        rcases hol : operL c.s a1 with _ | p
        · rw [hol] at hr
          have Hr := Lib.hid (show Out.ok x a1 = o from hr)
          have hemp : P.toList.isEmpty = true := by rw [← hPn]; unfold operN; rw [hol, Lib.toList_data]; rfl
          have Htl := Lib.hid htl
          clear hr hol hPn htl hxb hkf
          go_wp2
          go_region_with (first
            | (go_at_call 52; refine (HK.out _).mono ?_; rintro e w2 ⟨rfl, hb2⟩; have B2 := B.drew.trans (hb2.mono (by exact B.size)); have R2 : Rb w2 w.heap.size c := Rb.below (w := wr.drew) R hb2; obtain ⟨m0, m1, m2, m3, m4, m5, ml⟩ := R2.cells)
            | (go_at_call 51; refine (HP.out _).mono ?_; rintro e w3 ⟨rfl, hb3⟩; have B3 := B2.trans (hb3.mono B2.size); have R3 := R2.below hb3))
          all_goals
            go_wp2
            go_ret3
            rw [← Hr.out]
            exact ⟨y, t, Hyx.out, Ha1.out, Htl.out, rfl, B3⟩
        · rw [hol] at hr
          obtain ⟨e1, hne⟩ := operL_name hol
          obtain ⟨hmem, hle, hpos⟩ := operL_some hol
          have hle := hle hsk
          have hPp : p = P := by rw [← hPn]; unfold operN; rw [hol]; rfl
          subst hPp
          have hwp : ((a1 : Int) + p.size) = ((a1 + p.size : Nat) : Int) := rfl
          obtain ⟨o2, ho2⟩ : ∃ o2, run c k' (.oper (a1 + p.size) deep) = o2 := ⟨_, rfl⟩
          have hy : ∀ y t, o2 = .ok y t → (-1000000000 ≤ y ∧ y ≤ 1000000000) ∧ t ≤ c.s.size := fun y t e => run_bound c k' (.oper (a1 + p.size) deep) y t hle (by rw [ho2, e])
          have hdz : ∀ k, o2 = .die k → k ≠ 0 := fun k e => run_die c k' (.oper (a1 + p.size) deep) k (by rw [ho2, e])
          have hI2 := fun W hn => IO k' (by omega) W (a1 + p.size) deep hle hd hn
          rw [ho2] at hI2
          simp only [ho2] at hr
          have HI2 := Lib.hid hI2
          have HR := Lib.hid hr
          have Htl := Lib.hid htl
          have Hkf := Lib.hid hkf
          clear hr ho2 hI2 hol hPn htl e1 hwp IO hpos
          rcases o2 with ⟨y2, t2⟩ | k | _
          · obtain ⟨hy2, ht2⟩ := hy y2 t2 rfl
            clear hy hdz
            by_cases hm : c.mute = false
            · obtain rfl : y = x := Hyx.out hm
              have hRk := fun W => Preckon.frisketref01_reckon.calls 3 p y y2 (reckonR p y y2).1 (reckonR p y y2).2 W (reckon_f p hmem y y2 hxb hy2)
              have hro : reckonO c p y y2 t2 = if (reckonR p y y2).2 = 0 then .ok (reckonR p y y2).1 t2 else .die (reckonR p y y2).2 := reckonO_R hm p y y2 t2
              have hrb := fun z t h => (reckonO_bound (c := c) (op := p) (x := y) (y := y2) (m := z) (a := t2) (t := t) h).1
              obtain ⟨⟨r1, r2⟩, hr12⟩ : ∃ r, reckonR p y y2 = r := ⟨_, rfl⟩
              rw [hr12] at hRk hro
              have Hdie := Lib.hid (fun h : r2 ≠ 0 => reckonR_die hr12 h)
              have HRk := Lib.hid hRk
              have Hm := Lib.hid hm
              have Hro := Lib.hid hro
              have Hrb := Lib.hid hrb
              have Hxb := Lib.hid hxb
              have Hy2 := Lib.hid hy2
              have Ht2 := Lib.hid ht2
              clear hRk hm hro hr12 hrb hxb hy2 ht2 hmem
              go_wp2
              go_region_with (first
                | (go_at_call 52; refine (HK.out _).mono ?_; rintro e w2 ⟨rfl, hb2⟩; have B2 := B.drew.trans (hb2.mono (by exact B.size)); have R2 : Rb w2 w.heap.size c := Rb.below (w := wr.drew) R hb2; obtain ⟨m0, m1, m2, m3, m4, m5, ml⟩ := R2.cells)
                | (go_at_call 51; refine (HP.out _).mono ?_; rintro e w3 ⟨rfl, hb3⟩; have B3 := B2.trans (hb3.mono B2.size); have R3 := R2.below hb3; obtain ⟨n0, n1, n2, n3, n4, n5, nl⟩ := R3.cells))
              all_goals
                clear k0 k1 k2 k3 k4 k5 kl m0 m1 m2 m3 m4 m5 ml
                go_wp2_with fail
                refine (HI2.out _ (by intro h; cases h)).mono ?_
                rintro e w4 ⟨v4, hv4, rfl, hb4⟩
                obtain rfl : v4 = y2 := hv4 Hm.out
                have B4 := B3.trans (hb4.mono B3.size)
                have R4 := R3.below hb4
                clear n0 n1 n2 n3 n4 n5 nl R2 R3 B2 B3 hb2 hb3 hb4
                obtain ⟨n0, n1, n2, n3, n4, n5, nl⟩ := R4.cells
                rw [Hm.out] at n5
                go_wp2_with fail
                refine (HRk.out _).mono ?_
                rintro e w5 ⟨rfl, hb5⟩
                have hb5 := hb5.below
                have B5 := B4.trans (hb5.mono B4.size)
                have R5 := R4.below hb5
                clear n0 n1 n2 n3 n4 n5 nl
                go_wp2
                have hkf := Hkf.out
                have hr := HR.out
                rw [Hro.out] at hr
                by_cases hz2 : r2 = 0
                · rw [if_pos hz2] at hr
                  subst hz2
                  go_roundg k'
                  case measure => omega
                  case rel => exact ⟨r1, r1, t2, rfl, rfl, R5, B5, Lib.hid ⟨Ht2.out, Hrb.out r1 t2 (by rw [Hro.out, if_pos rfl]), fun _ => rfl⟩, by omega, .inl ⟨rfl, Lib.hid hr⟩⟩
                · rw [if_neg hz2] at hr
                  go_roundg k'
                  case measure => omega
                  case rel => exact ⟨r1, r1, t2, rfl, rfl, R5, B5, Lib.hid ⟨Ht2.out, Hdie.out hz2, fun _ => rfl⟩, by omega, .inr ⟨r2, rfl, hz2, Lib.hid hr.symm⟩⟩
            · have hmt : c.mute = true := by simpa using hm
              have hro : reckonO c p x y2 t2 = .ok 0 t2 := by unfold reckonO; rw [hmt, if_pos rfl]
              have Hm := Lib.hid hmt
              have Hro := Lib.hid hro
              have Ht2 := Lib.hid ht2
              clear hm hmt hro hxb hy2 ht2 hmem
              go_wp2
              go_region_with (first
                | (go_at_call 52; refine (HK.out _).mono ?_; rintro e w2 ⟨rfl, hb2⟩; have B2 := B.drew.trans (hb2.mono (by exact B.size)); have R2 : Rb w2 w.heap.size c := Rb.below (w := wr.drew) R hb2; obtain ⟨m0, m1, m2, m3, m4, m5, ml⟩ := R2.cells)
                | (go_at_call 51; refine (HP.out _).mono ?_; rintro e w3 ⟨rfl, hb3⟩; have B3 := B2.trans (hb3.mono B2.size); have R3 := R2.below hb3; obtain ⟨n0, n1, n2, n3, n4, n5, nl⟩ := R3.cells))
              all_goals
                clear k0 k1 k2 k3 k4 k5 kl m0 m1 m2 m3 m4 m5 ml
                go_wp2_with fail
                refine (HI2.out _ (by intro h; cases h)).mono ?_
                rintro e w4 ⟨v4, -, rfl, hb4⟩
                have B4 := B3.trans (hb4.mono B3.size)
                have R4 := R3.below hb4
                clear n0 n1 n2 n3 n4 n5 nl R2 R3 B2 B3 hb2 hb3 hb4
                obtain ⟨n0, n1, n2, n3, n4, n5, nl⟩ := R4.cells
                rw [Hm.out] at n5
                go_wp2
                have hkf := Hkf.out
                have hr := HR.out
                rw [Hro.out] at hr
                go_roundg k'
                case measure => omega
                case rel => exact ⟨0, y, t2, rfl, rfl, R4, B4, Lib.hid ⟨Ht2.out, by decide, fun hf => absurd (Hm.out.symm.trans hf) (by decide)⟩, by omega, .inl ⟨rfl, Lib.hid hr⟩⟩
          · have hk0 := hdz k rfl
            have kz : (k != 0) = true := by simpa using hk0
            clear hy hdz hmem hxb
            go_wp2
            go_region_with (first
              | (go_at_call 52; refine (HK.out _).mono ?_; rintro e w2 ⟨rfl, hb2⟩; have B2 := B.drew.trans (hb2.mono (by exact B.size)); have R2 : Rb w2 w.heap.size c := Rb.below (w := wr.drew) R hb2; obtain ⟨m0, m1, m2, m3, m4, m5, ml⟩ := R2.cells)
              | (go_at_call 51; refine (HP.out _).mono ?_; rintro e w3 ⟨rfl, hb3⟩; have B3 := B2.trans (hb3.mono B2.size); have R3 := R2.below hb3; obtain ⟨n0, n1, n2, n3, n4, n5, nl⟩ := R3.cells))
            all_goals
              clear k0 k1 k2 k3 k4 k5 kl m0 m1 m2 m3 m4 m5 ml
              go_wp2_with fail
              refine (HI2.out _ (by intro h; cases h)).mono ?_
              rintro e w4 ⟨v4, t4, rfl, hb4⟩
              have B4 := B3.trans (hb4.mono B3.size)
              have R4 := R3.below hb4
              clear n0 n1 n2 n3 n4 n5 nl R2 R3 B2 B3 hb2 hb3 hb4
              obtain ⟨n0, n1, n2, n3, n4, n5, nl⟩ := R4.cells
              have hr := HR.out
              by_cases hm : c.mute = true
              · have Hm := Lib.hid hm
                rw [hm] at n5
                by_cases h0 : deep = 0
                · rw [if_pos ⟨h0, hm⟩] at hr
                  have f0 : ((deep : Int) == 0) = true := by rw [beq_iff_eq]; omega
                  have Hr := Lib.hid hr
                  clear hm hr h0
                  go_wp2
                  go_ret3
                  rw [← Hr.out]
                  exact ⟨y, t, Hyx.out, Ha1.out, Htl.out, rfl, B4⟩
                · rw [if_neg (fun h => h0 h.1)] at hr
                  have f0 : ((deep : Int) == 0) = false := by rw [beq_eq_false_iff_ne]; omega
                  have Hr := Lib.hid hr
                  clear hm hr h0
                  go_wp2
                  go_ret3
                  rw [← Hr.out]
                  exact ⟨0, 0, rfl, B4⟩
              · have hmf : c.mute = false := by simpa using hm
                rw [if_neg (fun h => hm h.2)] at hr
                rw [hmf] at n5
                have Hr := Lib.hid hr
                clear hm hr hmf
                go_wp2
                go_ret3
                rw [← Hr.out]
                exact ⟨0, 0, rfl, B4⟩
          · exact absurd HR.out.symm (by intro h; exact hns h)
      · have ez : (e == 0) = false := by rw [beq_eq_false_iff_ne]; exact he
        go_wp2
        go_ret3
        rw [H.out]
        exact ⟨0, 0, rfl, B⟩
  · have hk0 := hdz k rfl
    have kz : (k == 0) = false := by rw [beq_eq_false_iff_ne]; exact hk0
    have Hoo := Lib.hid (show Out.die k = o from HO.out)
    clear HO hx hdz hk0
    go_enter Try.func39, Try.ntmps39
    go_wp2_with fail
    refine (HI.out _ (by intro h; cases h)).mono ?_
    rintro e w1 ⟨v0, t0, rfl, hb1⟩
    obtain ⟨B1, R1⟩ := below_box w w1 c hb1
    clear hb1
    go_wp2_with fail
    go_loopg [9, 1, 10] 0 (fun q u v z wr => z = .int .i64 k ∧ Below w.heap.size w wr)
    case atStart => exact ⟨rfl, B1⟩
    case round =>
      obtain ⟨rfl, B⟩ := hrel
      go_wp2
      go_ret3
      rw [← Hoo.out]
      exact ⟨0, 0, rfl, B⟩
  · exact absurd HO.out.symm (by intro h; exact hns h)
end Go.Proofs.Ytkomofphgnekoaa

set_option linter.unusedVariables false
set_option linter.unusedSimpArgs false
namespace Go.Proofs.Ytkomofphgnekoaa
open Go.Shelf Go.RowKit Go.Lib Go.Aids Go.MapLit Go.Proofs.YtkomofphgnekoaaW.PrintWords

theorem ref_calls (c : Cx) (ok : c.Ok) : ∀ f, RO c f ∧ RE c f := by
  intro f
  induction f using Nat.strongRecOn with
  | ind f ih =>
    rcases f with _ | f
    · exact ⟨fun w a deep ha hd hn => absurd rfl hn, fun w a deep ha hd hn => absurd rfl hn⟩
    · exact ⟨ro_step c ok f (ih f (Nat.lt_succ_self _)).1 (ih f (Nat.lt_succ_self _)).2, re_step c ok f (fun g hg => (ih g (by omega)).1)⟩

def fitsB (size vs here : Int) : Bool := decide (0 ≤ size ∧ size ≤ 1000000 ∧ 0 ≤ vs ∧ vs ≤ 1000000 ∧ -1000000000 ≤ here ∧ here ≤ 1000000000)
theorem fits_f (size vs here : Int) : PNumber.frisketref01_Fits.f size vs here = some (fitsB size vs here) := by
  unfold PNumber.frisketref01_Fits.f fitsB
  repeat' split
  all_goals
    refine congrArg some ?_
    first
      | (rw [decide_eq_decide]; omega)
      | (symm; rw [decide_eq_false_iff_not]; omega)
theorem find_unit (s : ByteArray) (scale : Nat) (size vs here : Int) (m : Nat) (mute : Bool) (h1 : 0 ≤ size ∧ size ≤ 1000000) : (find (scL size vs) (scale : Int)).isSome = (unitOf ⟨s, scale, size, vs, here, m, mute⟩ scale).isSome := by
  unfold scL
  rw [wrap64_in _ (by omega) (by omega), wrap64_in _ (by omega) (by omega)]
  simp only [find_cons, find_none]
  rw [show (117 : Int) = ((117 : Nat) : Int) from rfl, show (112 : Int) = ((112 : Nat) : Int) from rfl, show (80 : Int) = ((80 : Nat) : Int) from rfl, show (105 : Int) = ((105 : Nat) : Int) from rfl, show (99 : Int) = ((99 : Nat) : Int) from rfl, show (109 : Int) = ((109 : Nat) : Int) from rfl, show (110 : Int) = ((110 : Nat) : Int) from rfl, show (118 : Int) = ((118 : Nat) : Int) from rfl]
  simp only [int_nat]
  rfl
theorem okB_eq (scale : Nat) (size vs here : Int) : okB scale size vs here = (fitsB size vs here && (unitOf ⟨⟨#[]⟩, scale, size, vs, here, 0, false⟩ scale).isSome) := by
  unfold okB fitsB
  by_cases h : 0 ≤ size ∧ size ≤ 1000000 ∧ 0 ≤ vs ∧ vs ≤ 1000000 ∧ -1000000000 ≤ here ∧ here ≤ 1000000000
  · rw [find_unit ⟨#[]⟩ scale size vs here 0 false ⟨h.1, h.2.1⟩, decide_eq_true h, decide_eq_true (show min size vs ≥ 0 by omega), decide_eq_true (show max size vs ≤ 1000000 by omega), decide_eq_true (show here ≥ -1000000000 by omega), decide_eq_true (show here ≤ 1000000000 by omega)]
    simp
  · rw [decide_eq_false h, Bool.false_and]
    rw [Bool.eq_false_iff]
    intro e
    simp only [Bool.and_eq_true, decide_eq_true_eq] at e
    obtain ⟨⟨⟨⟨-, h2⟩, h3⟩, h4⟩, h5⟩ := e
    exact h (by omega)
theorem arg_f (k scale : Nat) (hsc : scale < 256) (size vs here : Int) : PNumber.frisketref01_arg.f (k + 9) scale size vs here = some (okB scale size vs here) := by
  unfold PNumber.frisketref01_arg.f
  rw [fits_f, okB_eq]
  simp only [Option.bind_some]
  cases fitsB size vs here
  · rfl
  · rw [if_pos rfl, scale_f ⟨⟨#[]⟩, scale, size, vs, here, 0, false⟩ k scale hsc]
    rfl
theorem rarg_calls (scale : Nat) (size vs here : Int) (w : World) (hsc : scale < 256) :
    Calls Try.prog 37 #[.int .u8 scale, .agg #[.int .i64 size, .int .i64 vs, .int .i64 here]] w fun e w' => e = .returned (.bool (okB scale size vs here)) ∧ Below w.heap.size w w' :=
  PNumber.frisketref01_arg.calls 9 scale size vs here _ w (arg_f 0 scale hsc size vs here)

def EvalR (size : Nat) (o : Out) : Int × Int := match o with
  | .ok n t => if t < size then (0, 4) else (n, 0)
  | .die k => (0, k)
  | .stuck => (0, 0)
theorem evalR_whole {size : Nat} {o : Out} (h : ∀ n t, o = .ok n t → t ≤ size) : EvalR size o = wholeN size o := by
  rcases o with ⟨n, t⟩ | k | _
  · have := h n t rfl
    unfold EvalR wholeN
    simp only
    by_cases ht : t = size
    · rw [if_neg (by omega), if_pos ht]
    · rw [if_pos (by omega), if_neg ht]
  · rfl
  · rfl
theorem skip0 (s : ByteArray) (a : Nat) : skip s 0 a = a := by unfold skip; rw [if_neg (by decide)]

set_option maxRecDepth 100000 in
set_option maxHeartbeats 4000000 in
theorem reval_arg (s : ByteArray) (scale : Nat) (size vs here : Int) (w : World) (hsc : scale < 256) (hob : okB scale size vs here = false) :
    Calls Try.prog 22 #[.string s, .int .u8 scale, .agg #[.int .i64 size, .int .i64 vs, .int .i64 here]] w fun e w' => e = .returned (.tuple #[.int .i64 0, .int .i64 1]) ∧ Below w.heap.size w w' := by
  have hA := fun W => rarg_calls scale size vs here W hsc
  rw [hob] at hA
  have HA := Lib.hid hA
  clear hA hob
  go_enter Try.func22, Try.ntmps22
  go_wp2_with fail
  refine (HA.out _).mono ?_
  rintro e w1 ⟨rfl, hb⟩
  go_wp2
  go_ret2
  exact ⟨rfl, ((Below.refl _ w).alloc (Nat.le_refl _) _).trans (hb.mono (by simp))⟩

set_option maxRecDepth 100000 in
set_option maxHeartbeats 4000000 in
theorem reval_read (s : ByteArray) (scale : Nat) (size vs here : Int) (w : World) (hsc : scale < 256) (hob : okB scale size vs here = true) (hs : s.size ≤ 4611686018427387904) :
    Calls Try.prog 22 #[.string s, .int .u8 scale, .agg #[.int .i64 size, .int .i64 vs, .int .i64 here]] w fun e w' => e = .returned (.tuple #[.int .i64 (EvalR s.size (evalRun s scale size vs here false)).1, .int .i64 (EvalR s.size (evalRun s scale size vs here false)).2]) ∧ Below w.heap.size w w' := by
  have hA := fun W => rarg_calls scale size vs here W hsc
  rw [hob] at hA
  have HA := Lib.hid hA
  have ok := okB_ok (s := s) hob hs hsc 0 false
  have hE := fun W => (ref_calls ⟨s, scale, size, vs, here, 0, false⟩ ok (fuelOf s)).2 W 0 0 (Nat.zero_le _) (by decide) (evalRun_stuck s scale size vs here false)
  have hk := fun k => run_die ⟨s, scale, size, vs, here, 0, false⟩ (fuelOf s) (.expr 0 0) k
  obtain ⟨o, ho⟩ : ∃ o, evalRun s scale size vs here false = o := ⟨_, rfl⟩
  rw [show run ⟨s, scale, size, vs, here, 0, false⟩ (fuelOf s) (.expr 0 0) = o from ho] at hE hk
  rw [ho]
  have hns : o ≠ .stuck := by rw [← ho]; exact evalRun_stuck _ _ _ _ _ _
  have HE := Lib.hid hE
  clear hA hob hE ho ok
  rcases o with ⟨n, t⟩ | k | _
  · have Hn := Lib.hid hns
    clear hk hns
    by_cases ht : t < s.size
    · have ht' : decide ((t : Int) < s.size) = true := decide_eq_true (by omega)
      have e : EvalR s.size (.ok n t) = (0, 4) := by unfold EvalR; simp only; rw [if_pos ht]
      rw [e]
      clear e
      go_enter Try.func22, Try.ntmps22
      go_wp2_with fail
      refine (HA.out _).mono ?_
      rintro e w1 ⟨rfl, hb⟩
      have B1 := ((Below.refl _ w).alloc (Nat.le_refl _) (.cells #[.int .i64 size, .int .i64 vs, .int .i64 here] 51)).trans (hb.mono (by simp))
      have hbox : w1.heap[w.heap.size]? = some (.cells #[.int .i64 size, .int .i64 vs, .int .i64 here] 51 (0, 0)) := (hb.block _ (by simp)).trans (heap_alloc_new w _)
      have g2 : w1.cell? ⟨w.heap.size, 0, none⟩ = some (.int .i64 size) := by simp [World.cell?, hbox]
      have g3 : w1.cell? ⟨w.heap.size, 1, none⟩ = some (.int .i64 vs) := by simp [World.cell?, hbox]
      have g4 : w1.cell? ⟨w.heap.size, 2, none⟩ = some (.int .i64 here) := by simp [World.cell?, hbox]
      clear hbox hb
      go_wp2_with fail
      refine (HE.out _).mono ?_
      rintro e w2 ⟨v, t', hv, hsk, -, rfl, hb2⟩
      rw [show skip s 0 t' = t' from skip0 s t'] at hsk
      obtain rfl : t' = t := hsk
      have B2 := (B1.alloc B1.size (.cells #[.string s, .int .u8 scale, .int .i64 size, .int .i64 vs, .int .i64 here, .bool false] 70)).trans (hb2.mono (by have := B1.size; simp; omega))
      clear hb2 hv
      go_wp2
      go_ret2
      exact ⟨rfl, B2⟩
    · have ht' : decide ((t : Int) < s.size) = false := decide_eq_false (by omega)
      have e : EvalR s.size (.ok n t) = (n, 0) := by unfold EvalR; simp only; rw [if_neg ht]
      rw [e]
      clear e
      go_enter Try.func22, Try.ntmps22
      go_wp2_with fail
      refine (HA.out _).mono ?_
      rintro e w1 ⟨rfl, hb⟩
      have B1 := ((Below.refl _ w).alloc (Nat.le_refl _) (.cells #[.int .i64 size, .int .i64 vs, .int .i64 here] 51)).trans (hb.mono (by simp))
      have hbox : w1.heap[w.heap.size]? = some (.cells #[.int .i64 size, .int .i64 vs, .int .i64 here] 51 (0, 0)) := (hb.block _ (by simp)).trans (heap_alloc_new w _)
      have g2 : w1.cell? ⟨w.heap.size, 0, none⟩ = some (.int .i64 size) := by simp [World.cell?, hbox]
      have g3 : w1.cell? ⟨w.heap.size, 1, none⟩ = some (.int .i64 vs) := by simp [World.cell?, hbox]
      have g4 : w1.cell? ⟨w.heap.size, 2, none⟩ = some (.int .i64 here) := by simp [World.cell?, hbox]
      clear hbox hb
      go_wp2_with fail
      refine (HE.out _).mono ?_
      rintro e w2 ⟨v, t', hv, hsk, -, rfl, hb2⟩
      rw [show skip s 0 t' = t' from skip0 s t'] at hsk
      obtain rfl : t' = t := hsk
      obtain rfl : v = n := hv rfl
      have B2 := (B1.alloc B1.size (.cells #[.string s, .int .u8 scale, .int .i64 size, .int .i64 vs, .int .i64 here, .bool false] 70)).trans (hb2.mono (by have := B1.size; simp; omega))
      clear hb2 hv
      go_wp2
      go_ret2
      exact ⟨rfl, B2⟩
  · have hk0 := hk k rfl
    have kz : (k != 0) = true := by simpa using hk0
    have e : EvalR s.size (.die k) = (0, k) := rfl
    rw [e]
    clear e hk hk0 hns
    go_enter Try.func22, Try.ntmps22
    go_wp2_with fail
    refine (HA.out _).mono ?_
    rintro e w1 ⟨rfl, hb⟩
    have B1 := ((Below.refl _ w).alloc (Nat.le_refl _) (.cells #[.int .i64 size, .int .i64 vs, .int .i64 here] 51)).trans (hb.mono (by simp))
    have hbox : w1.heap[w.heap.size]? = some (.cells #[.int .i64 size, .int .i64 vs, .int .i64 here] 51 (0, 0)) := (hb.block _ (by simp)).trans (heap_alloc_new w _)
    have g2 : w1.cell? ⟨w.heap.size, 0, none⟩ = some (.int .i64 size) := by simp [World.cell?, hbox]
    have g3 : w1.cell? ⟨w.heap.size, 1, none⟩ = some (.int .i64 vs) := by simp [World.cell?, hbox]
    have g4 : w1.cell? ⟨w.heap.size, 2, none⟩ = some (.int .i64 here) := by simp [World.cell?, hbox]
    clear hbox hb
    go_wp2_with fail
    refine (HE.out _).mono ?_
    rintro e w2 ⟨v, t', rfl, hb2⟩
    have B2 := (B1.alloc B1.size (.cells #[.string s, .int .u8 scale, .int .i64 size, .int .i64 vs, .int .i64 here, .bool false] 70)).trans (hb2.mono (by have := B1.size; simp; omega))
    clear hb2
    go_wp2
    go_ret2
    exact ⟨rfl, B2⟩
  · exact absurd rfl hns
theorem reval_calls (s : ByteArray) (scale : Nat) (size vs here : Int) (w : World) (hsc : scale < 256) (hs : s.size ≤ 4611686018427387904) :
    Calls Try.prog 22 #[.string s, .int .u8 scale, .agg #[.int .i64 size, .int .i64 vs, .int .i64 here]] w fun e w' => e = .returned (.tuple #[.int .i64 (evalO s scale size vs here).1, .int .i64 (evalO s scale size vs here).2]) ∧ Below w.heap.size w w' := by
  unfold evalO
  rcases hob : okB scale size vs here with _ | _
  · exact reval_arg s scale size vs here w hsc hob
  · have h := reval_read s scale size vs here w hsc hob hs
    rw [evalR_whole (size := s.size) (o := evalRun s scale size vs here false) fun n t e => (run_bound ⟨s, scale, size, vs, here, 0, false⟩ (fuelOf s) (.expr 0 0) n t (Nat.zero_le _) e).2] at h
    exact h
end Go.Proofs.Ytkomofphgnekoaa

set_option linter.unusedVariables false
set_option linter.unusedSimpArgs false
namespace Go.Proofs.Ytkomofphgnekoaa
open Go.Shelf Go.RowKit Go.Lib Go.Aids Go.MapLit Go.Proofs.YtkomofphgnekoaaW.PrintWords

theorem reckonO_mute {c : Cx} (hm : c.mute = true) (op : ByteArray) (x y : Int) (a : Nat) : reckonO c op x y a = .ok 0 a := by
  unfold reckonO; rw [hm, if_pos rfl]
theorem loop_mute {c : Cx} (hm : c.mute = true) : ∀ f x a e, run c f (.loop x a 0) ≠ .die e
  | 0, x, a, e => by intro h; cases h
  | f + 1, x, a, e => by
    intro h
    rw [run] at h
    rcases hop : operL c.s (skip c.s 0 a) with _ | op
    · simp only [hop] at h; cases h
    · simp only [hop] at h
      rcases hr : run c f (.oper (skip c.s 0 a + op.size) 0) with ⟨y, t⟩ | k | _
      · rw [hr] at h
        simp only [reckonO_mute hm] at h
        exact loop_mute hm f _ _ _ h
      · rw [hr] at h
        simp only [hm, and_self, if_true] at h
        cases h
      · rw [hr] at h; cases h
theorem expr_mute {c : Cx} (hm : c.mute = true) {f a : Nat} {x : Int} {t : Nat} (h : run c f (.oper a 0) = .ok x t) (e : Int) : run c (f + 1) (.expr a 0) ≠ .die e := by
  rw [run, h]
  exact loop_mute hm f x t e

/-- What Prefix hands back. -/
def operRun (s : ByteArray) (scale : Nat) (size vs here : Int) : Out := run ⟨s, scale, size, vs, here, 0, true⟩ (2 * s.size + 1) (.oper 0 0)
def prefixO (s : ByteArray) (scale : Nat) (size vs here : Int) : Int × Int × Int :=
  if okB scale size vs here then
    match operRun s scale size vs here, evalRun s scale size vs here true with
    | .ok _ _, .ok _ t => if (evalO (s.extract 0 t) scale size vs here).2 = 0 then ((evalO (s.extract 0 t) scale size vs here).1, t, 0) else (0, 0, (evalO (s.extract 0 t) scale size vs here).2)
    | _, _ => (0, 0, 4)
  else (0, 0, 1)
theorem Rd.mute {w : World} {b a : Nat} {c : Cx} (h : Rd w b c a) : Rd (w.setCell ⟨b, 7, none⟩ (.bool true)) b { c with mute := true } a := by
  have := h.blk
  refine ⟨?_⟩
  simp [World.setCell, Array.getElem?_modify, this]
theorem Rd.mute_free {w : World} {b a : Nat} {c : Cx} (h : Rd w b c a) : w.frozen? ⟨b, 7, none⟩ = false := by
  have := h.blk
  simp [World.frozen?, this]
theorem St.below {w w' : World} {b a : Nat} {c : Cx} (h : St w b c a) (hb : Below w.heap.size w w') : St w' b c a := ⟨h.rd.below hb, Go.MapLit.MapIs.below eK eV h.mp hb, h.ne⟩
theorem run_cut0 {P : Program} (t : TypeId) (ht : P.underlying t = some .string) (s : ByteArray) (k : IntKind) (j : Nat) (h2 : j ≤ s.size) (W : World) :
    (Instr.slice t (.string s) none (some (.int k (j : Int))) none).run P W = .ok (.string (s.extract 0 j)) W := by
  have e1 := run_sliceBound (P := P) (w := W) k (j : Int) s.size .sliceAlen (by omega) (by omega)
  simp [Instr.slice, run_underlying ht, Instr.sliceBounds, e1, Result.andThen]

set_option maxRecDepth 100000 in
set_option maxHeartbeats 4000000 in
theorem prefix_arg (s : ByteArray) (scale : Nat) (size vs here : Int) (w : World) (hsc : scale < 256) (hob : okB scale size vs here = false) :
    Calls Try.prog 10 #[.string s, .int .u8 scale, .agg #[.int .i64 size, .int .i64 vs, .int .i64 here]] w fun e w' => e = .returned (.tuple #[.int .i64 0, .int .i64 0, .int .i64 1]) ∧ Below w.heap.size w w' := by
  have HO := Lib.hid (fun W => open_calls s scale size vs here W hsc)
  rw [hob] at HO
  clear hob
  go_enter Try.func10, Try.ntmps10
  go_wp2_with fail
  refine (HO.out _).mono ?_
  rintro e w4 ⟨b, m, rfl, hb, -, -, -, -, -⟩
  go_wp2
  go_ret3
  exact ⟨rfl, ((Below.refl _ w).alloc (Nat.le_refl _) _).trans (hb.mono (by simp))⟩
theorem operRun_stuck (s : ByteArray) (scale : Nat) (size vs here : Int) : operRun s scale size vs here ≠ .stuck :=
  run_fuel _ _ _ (Nat.zero_le _) (by show 2 * (s.size - 0) + 1 ≤ 2 * s.size + 1; omega)

set_option maxRecDepth 100000 in
set_option maxHeartbeats 4000000 in
theorem prefix_none (s : ByteArray) (scale : Nat) (size vs here : Int) (w : World) (hsc : scale < 256) (hob : okB scale size vs here = true) (hs : s.size ≤ 4611686018427387904) (hop : isOk (operRun s scale size vs here) = false) :
    Calls Try.prog 10 #[.string s, .int .u8 scale, .agg #[.int .i64 size, .int .i64 vs, .int .i64 here]] w fun e w' => e = .returned (.tuple #[.int .i64 0, .int .i64 0, .int .i64 4]) ∧ Below w.heap.size w w' := by
  have HO := Lib.hid (fun W => open_calls s scale size vs here W hsc)
  have hok := fun m => okB_ok hob hs hsc m true
  rw [hob] at HO
  clear hob
  go_enter Try.func10, Try.ntmps10
  go_wp2_with fail
  refine (HO.out _).mono ?_
  rintro e w4 ⟨b, m, rfl, hb, hb1, hm1, hmb, hrd, hmp⟩
  have hst : St (w4.setCell ⟨b, 7, none⟩ (.bool true)) b ⟨s, scale, size, vs, here, m, true⟩ 0 := ⟨hrd.mute, MapIs.kp hmp (Kp.set _ _ _ _) hmb, hmb⟩
  have hF := Lib.hid (fits_calls (w4.setCell ⟨b, 7, none⟩ (.bool true)) b 0 ⟨s, scale, size, vs, here, m, true⟩ (operRun s scale size vs here) hst
    (fun W b' hst' => by
      have := (run_calls ⟨s, scale, size, vs, here, m, true⟩ (hok m) (2 * s.size + 1)).1 W b' 0 0 hst' (Nat.zero_le _) (by omega) (by rw [run_m ⟨s, scale, size, vs, here, 0, true⟩ m]; exact operRun_stuck s scale size vs here)
      rw [run_m ⟨s, scale, size, vs, here, 0, true⟩ m] at this
      exact this) (operRun_stuck s scale size vs here) (fun k h => run_die _ _ _ k h))
  rw [hop] at hF
  have hfz := hrd.mute_free
  have hc7 := hrd.cells.2.2.2.2.2.2.2.1
  have hbl := hrd.lt
  clear hst hmp hop
  go_wp2_with (go_at_call 17; refine hF.out.mono ?_; rintro e w5 ⟨rfl, hb5⟩)
  go_ret3
  have q0 := ((Below.refl _ w).alloc (Nat.le_refl _) (.cells #[.int .i64 size, .int .i64 vs, .int .i64 here] 30)).trans (hb.mono (by simp))
  have q1 := q0.setCell (p := ⟨b, 7, none⟩) (by simp at hb1; show w.heap.size ≤ b; omega) (.bool true)
  exact ⟨rfl, q1.trans (hb5.mono q1.size)⟩

theorem evalRun_ok (s : ByteArray) (scale : Nat) (size vs here : Int) {n : Int} {t : Nat} (h : operRun s scale size vs here = .ok n t) : ∃ n' t', evalRun s scale size vs here true = .ok n' t' ∧ t' ≤ s.size := by
  have hd : ∀ e, evalRun s scale size vs here true ≠ .die e := expr_mute (c := ⟨s, scale, size, vs, here, 0, true⟩) rfl (f := 2 * s.size + 1) h
  have hst := evalRun_stuck s scale size vs here true
  rcases hr : evalRun s scale size vs here true with ⟨n', t'⟩ | e | _
  · exact ⟨_, _, rfl, (run_bound ⟨s, scale, size, vs, here, 0, true⟩ (fuelOf s) (.expr 0 0) _ _ (Nat.zero_le _) hr).2⟩
  · exact absurd hr (hd e)
  · exact absurd hr hst

set_option maxRecDepth 100000 in
set_option maxHeartbeats 4000000 in
theorem prefix_read (s : ByteArray) (scale : Nat) (size vs here : Int) (w : World) (hsc : scale < 256) (hob : okB scale size vs here = true) (hs : s.size ≤ 4611686018427387904) (hop : isOk (operRun s scale size vs here) = true)
    (n : Int) (t : Nat) (ht : t ≤ s.size) (hev : evalRun s scale size vs here true = .ok n t) (x k : Int) (hxk : evalO (s.extract 0 t) scale size vs here = (x, k)) :
    Calls Try.prog 10 #[.string s, .int .u8 scale, .agg #[.int .i64 size, .int .i64 vs, .int .i64 here]] w fun e w' => e = .returned (.tuple (if k = 0 then #[.int .i64 x, .int .i64 t, .int .i64 0] else #[.int .i64 0, .int .i64 0, .int .i64 k])) ∧ Below w.heap.size w w' := by
  have HO := Lib.hid (fun W => open_calls s scale size vs here W hsc)
  have hok := fun m => okB_ok hob hs hsc m true
  have hE := fun W => eval_calls (s.extract 0 t) scale size vs here W hsc (by rw [ByteArray.size_extract]; omega)
  rw [hxk] at hE
  rw [hob] at HO
  clear hob
  have HE := Lib.hid hE
  clear hE
  have hcut := fun W => run_cut0 (P := Try.prog) 9 Try.underlying9 s .i64 t ht W
  go_enter Try.func10, Try.ntmps10
  go_wp2_with fail
  refine (HO.out _).mono ?_
  rintro e w4 ⟨b, m, rfl, hb, hb1, hm1, hmb, hrd, hmp⟩
  have hst : St (w4.setCell ⟨b, 7, none⟩ (.bool true)) b ⟨s, scale, size, vs, here, m, true⟩ 0 := ⟨hrd.mute, MapIs.kp hmp (Kp.set _ _ _ _) hmb, hmb⟩
  have hF := Lib.hid (fits_calls (w4.setCell ⟨b, 7, none⟩ (.bool true)) b 0 ⟨s, scale, size, vs, here, m, true⟩ (operRun s scale size vs here) hst
    (fun W b' hst' => by
      have := (run_calls ⟨s, scale, size, vs, here, m, true⟩ (hok m) (2 * s.size + 1)).1 W b' 0 0 hst' (Nat.zero_le _) (by omega) (by rw [run_m ⟨s, scale, size, vs, here, 0, true⟩ m]; exact operRun_stuck s scale size vs here)
      rw [run_m ⟨s, scale, size, vs, here, 0, true⟩ m] at this
      exact this) (operRun_stuck s scale size vs here) (fun k h => run_die _ _ _ k h))
  have hX := Lib.hid (fun (W : World) (hst' : St W b ⟨s, scale, size, vs, here, m, true⟩ 0) => show Calls Try.prog 15 #[.pointer (some ⟨b, 0, none⟩), .int .i64 0] W (Post b ⟨s, scale, size, vs, here, m, true⟩ W (.ok n t)) from by
      have := (run_calls ⟨s, scale, size, vs, here, m, true⟩ (hok m) (fuelOf s)).2 W b 0 0 hst' (Nat.zero_le _) (by omega) (by rw [run_m ⟨s, scale, size, vs, here, 0, true⟩ m]; exact evalRun_stuck s scale size vs here true)
      rw [run_m ⟨s, scale, size, vs, here, 0, true⟩ m] at this
      rw [← hev]
      exact this)
  rw [hop] at hF
  have hfz := hrd.mute_free
  have hc7 := hrd.cells.2.2.2.2.2.2.2.1
  have hbl := hrd.lt
  have q0 := ((Below.refl _ w).alloc (Nat.le_refl _) (.cells #[.int .i64 size, .int .i64 vs, .int .i64 here] 30)).trans (hb.mono (by simp))
  have hbw : w.heap.size + 1 ≤ b := by simpa using hb1
  have q1 := q0.setCell (p := ⟨b, 7, none⟩) (by show w.heap.size ≤ b; omega) (.bool true)
  have hbox : (w4.setCell ⟨b, 7, none⟩ (.bool true)).heap[w.heap.size]? = some (.cells #[.int .i64 size, .int .i64 vs, .int .i64 here] 30 (0, 0)) := by
    rw [Below.heap_setCell _ _ _ _ (by show w.heap.size ≠ b; omega), hb.block _ (by simp)]
    exact heap_alloc_new w _
  have Hst := Lib.hid hst
  clear hst hmp hop hev hxk
  go_wp2_with (first
    | (go_at_call 17; refine hF.out.mono ?_; rintro e w5 ⟨rfl, hb5⟩)
    | (go_at_call 15; refine (hX.out _ (Hst.out.below hb5)).mono ?_; rintro e w6 ⟨rfl, hk6, hrd6⟩))
  have hb56 := hb5
  have g1 := hrd6.cells.2.1
  have hbox6 : w6.heap[w.heap.size]? = some (.cells #[.int .i64 size, .int .i64 vs, .int .i64 here] 30 (0, 0)) := by
    have hstr : w.heap.size < (w4.setCell ⟨b, 7, none⟩ (.bool true)).heap.size := by simp; omega
    rw [hk6.block _ (by have := hb5.size; omega) (by omega), hb5.block _ hstr]
    exact hbox
  have hlt := hrd6.lt
  have g2 : w6.cell? ⟨w.heap.size, 0, none⟩ = some (.int .i64 size) := by simp [World.cell?, hbox6]
  have g3 : w6.cell? ⟨w.heap.size, 1, none⟩ = some (.int .i64 vs) := by simp [World.cell?, hbox6]
  have g4 : w6.cell? ⟨w.heap.size, 2, none⟩ = some (.int .i64 here) := by simp [World.cell?, hbox6]
  have q5 := q1.trans (hb5.mono q1.size)
  have q6 := Below.of_kp q5 hk6 (by omega) q5.size
  clear hbox6 hbox hF hX Hst hb hrd hfz hc7 hb5 hk6 q0 q1 q5 hrd6 hb56 HO hb1 hm1 hmb hbl hok
  go_region_with (go_at_call 8; refine (HE.out _).mono ?_; rintro e w7 ⟨rfl, hb7⟩)
  all_goals
    have hlt6 : b < w6.drew.heap.size := by show b < w6.heap.size; exact hlt
    have k1 : w7.cell? ⟨b, 1, none⟩ = some (.int .i64 t) := ((bcell hb7).1 b 1 hlt6).trans g1
    have q7 := (q6.drew).trans (hb7.mono (by show w.heap.size ≤ w6.heap.size; exact q6.size))
    clear hb7 g1 g2 g3 g4 q6
    by_cases hk0 : k = 0
    · subst hk0
      go_wp2
      go_quiet (fail)
      go_wp2
      go_ret3
      exact ⟨rfl, Go.Aids.belowN q7 _⟩
    · go_wp2
      go_ret3
      exact ⟨rfl, q7⟩
theorem prefix_calls (s : ByteArray) (scale : Nat) (size vs here : Int) (w : World) (hsc : scale < 256) (hs : s.size ≤ 4611686018427387904) :
    Calls Try.prog 10 #[.string s, .int .u8 scale, .agg #[.int .i64 size, .int .i64 vs, .int .i64 here]] w fun e w' => e = .returned (.tuple #[.int .i64 (prefixO s scale size vs here).1, .int .i64 (prefixO s scale size vs here).2.1, .int .i64 (prefixO s scale size vs here).2.2]) ∧ Below w.heap.size w w' := by
  unfold prefixO
  rcases hob : okB scale size vs here with _ | _
  · exact prefix_arg s scale size vs here w hsc hob
  · rcases ho : operRun s scale size vs here with ⟨n0, t0⟩ | k | _
    · obtain ⟨n, t, he, ht⟩ := evalRun_ok s scale size vs here ho
      rw [he]
      obtain ⟨⟨x, k⟩, hxk⟩ : ∃ r, evalO (s.extract 0 t) scale size vs here = r := ⟨_, rfl⟩
      refine (prefix_read s scale size vs here w hsc hob hs (by rw [ho]; rfl) n t ht he x k hxk).mono ?_
      rintro e w' ⟨rfl, hb⟩
      refine ⟨?_, hb⟩
      simp only [hxk]
      by_cases hk : k = 0
      · simp [hk]
      · simp [hk]
    · exact prefix_none s scale size vs here w hsc hob hs (by rw [ho]; rfl)
    · exact absurd ho (operRun_stuck s scale size vs here)
end Go.Proofs.Ytkomofphgnekoaa

set_option linter.unusedVariables false
set_option linter.unusedSimpArgs false
namespace Go.Proofs.Ytkomofphgnekoaa
open Go.Shelf Go.RowKit Go.Lib Go.Aids Go.MapLit Go.Proofs.YtkomofphgnekoaaW.PrintWords

theorem wholeN_bound {size : Nat} {o : Out} (h : ∀ n t, o = .ok n t → -1000000000 ≤ n ∧ n ≤ 1000000000) : -1000000000 ≤ (wholeN size o).1 ∧ (wholeN size o).1 ≤ 1000000000 := by
  unfold wholeN
  split
  · rename_i n t
    split
    · exact h n t rfl
    · exact ⟨by show (-1000000000 : Int) ≤ 0; decide, by show (0 : Int) ≤ 1000000000; decide⟩
  · exact ⟨by show (-1000000000 : Int) ≤ 0; decide, by show (0 : Int) ≤ 1000000000; decide⟩
  · exact ⟨by show (-1000000000 : Int) ≤ 0; decide, by show (0 : Int) ≤ 1000000000; decide⟩
theorem evalO_bound (s : ByteArray) (scale : Nat) (size vs here : Int) : -1000000000 ≤ (evalO s scale size vs here).1 ∧ (evalO s scale size vs here).1 ≤ 1000000000 := by
  unfold evalO
  split
  · exact wholeN_bound fun n t h => (run_bound _ _ (.expr 0 0) n t (Nat.zero_le _) h).1
  · constructor <;> decide
theorem nonempty_s {s : ByteArray} (h : 0 < s.size) : s.toList.isEmpty = false := by
  rw [Lib.toList_data]
  have : 0 < s.data.toList.length := by rw [Array.length_toList]; exact h
  cases hl : s.data.toList with
  | nil => rw [hl] at this; cases this
  | cons _ _ => rfl
theorem empty_s {s : ByteArray} (h : ¬ 0 < s.size) : s.toList.isEmpty = true := by
  rw [Lib.toList_data]
  have : ¬ 0 < s.data.toList.length := by rw [Array.length_toList]; exact h
  cases hl : s.data.toList with
  | nil => rfl
  | cons _ _ => rw [hl] at this; simp at this
theorem run_cut1 {P : Program} (t : TypeId) (ht : P.underlying t = some .string) (s : ByteArray) (h2 : 1 ≤ s.size) (W : World) :
    (Instr.slice t (.string s) (some (.int .i64 1)) none none).run P W = .ok (.string (s.extract 1 s.size)) W := by
  have e1 := run_sliceBound (P := P) (w := W) .i64 1 s.size .sliceB (by omega) (by omega)
  simp [Instr.slice, run_underlying ht, Instr.sliceBounds, e1, Result.andThen]

set_option maxRecDepth 100000 in
set_option maxHeartbeats 4000000 in
theorem change_arg (old : Int) (s : ByteArray) (scale : Nat) (size vs here : Int) (w : World) (hsc : scale < 256) (hob : okB scale size vs here = false) :
    Calls Try.prog 24 #[.int .i64 old, .string s, .int .u8 scale, .agg #[.int .i64 size, .int .i64 vs, .int .i64 here]] w fun e w' => e = .returned (.tuple #[.int .i64 0, .int .i64 1]) ∧ Below w.heap.size w w' := by
  have HO := Lib.hid (fun W => open_calls s scale size vs here W hsc)
  rw [hob] at HO
  clear hob
  go_enter Try.func24, Try.ntmps24
  go_wp2_with fail
  refine (HO.out _).mono ?_
  rintro e w4 ⟨b, m, rfl, hb, -, -, -, -, -⟩
  go_wp2
  go_ret2
  exact ⟨rfl, ((Below.refl _ w).alloc (Nat.le_refl _) _).trans (hb.mono (by simp))⟩
set_option maxRecDepth 100000 in
set_option maxHeartbeats 4000000 in
theorem change_old (old : Int) (s : ByteArray) (scale : Nat) (size vs here : Int) (w : World) (hsc : scale < 256) (hob : okB scale size vs here = true) (ho : old < -1000000000 ∨ 1000000000 < old) :
    Calls Try.prog 24 #[.int .i64 old, .string s, .int .u8 scale, .agg #[.int .i64 size, .int .i64 vs, .int .i64 here]] w fun e w' => e = .returned (.tuple #[.int .i64 0, .int .i64 1]) ∧ Below w.heap.size w w' := by
  have HO := Lib.hid (fun W => open_calls s scale size vs here W hsc)
  rw [hob] at HO
  clear hob
  rcases ho with ho | ho
  · have d1 : decide (old < -1000000000) = true := decide_eq_true ho
    go_enter Try.func24, Try.ntmps24
    go_wp2_with fail
    refine (HO.out _).mono ?_
    rintro e w4 ⟨b, m, rfl, hb, -, -, -, -, -⟩
    go_wp2
    go_ret2
    exact ⟨rfl, ((Below.refl _ w).alloc (Nat.le_refl _) _).trans (hb.mono (by simp))⟩
  · have d1 : decide (old < -1000000000) = false := by rw [decide_eq_false_iff_not]; omega
    have d2 : decide (1000000000 < old) = true := decide_eq_true ho
    go_enter Try.func24, Try.ntmps24
    go_wp2_with fail
    refine (HO.out _).mono ?_
    rintro e w4 ⟨b, m, rfl, hb, -, -, -, -, -⟩
    go_wp2
    go_ret2
    exact ⟨rfl, ((Below.refl _ w).alloc (Nat.le_refl _) _).trans (hb.mono (by simp))⟩
set_option maxRecDepth 100000 in
set_option maxHeartbeats 4000000 in
theorem change_eval (old : Int) (s : ByteArray) (scale : Nat) (size vs here : Int) (w : World) (hsc : scale < 256) (hob : okB scale size vs here = true) (hs : s.size ≤ 4611686018427387904) (h1 : ¬ old < -1000000000) (h2 : ¬ 1000000000 < old)
    (hp : ¬ pk s 0 = 43) (hp2 : ¬ pk s 0 = 45) (x k : Int) (hx : evalO s scale size vs here = (x, k)) :
    Calls Try.prog 24 #[.int .i64 old, .string s, .int .u8 scale, .agg #[.int .i64 size, .int .i64 vs, .int .i64 here]] w fun e w' => e = .returned (.tuple #[.int .i64 x, .int .i64 k]) ∧ Below w.heap.size w w' := by
  have HO := Lib.hid (fun W => open_calls s scale size vs here W hsc)
  have hE := fun W => eval_calls s scale size vs here W hsc hs
  rw [hx] at hE
  have HE := Lib.hid hE
  rw [hob] at HO
  have d1 : decide (old < -1000000000) = false := decide_eq_false h1
  have d2 : decide (1000000000 < old) = false := decide_eq_false h2
  clear hob hx hE h1 h2
  by_cases h0 : 0 < s.size
  · have hk : pk s 0 = s[0].toNat := by unfold pk; rw [dif_pos h0]
    rw [hk] at hp hp2
    have hi : (0 : Int) < s.size := by omega
    have he : s.toList.isEmpty = false := nonempty_s h0
    have f43 : ((s[0].toNat : Int) != 43) = true := by simp; omega
    have f45 : ((s[0].toNat : Int) != 45) = true := by simp; omega
    go_enter Try.func24, Try.ntmps24
    go_wp2_with fail
    refine (HO.out _).mono ?_
    rintro e w4 ⟨b, m, rfl, hb, -, -, -, -, -⟩
    have hbox : w4.heap[w.heap.size]? = some (.cells #[.int .i64 size, .int .i64 vs, .int .i64 here] 30 (0, 0)) := (hb.block _ (by simp)).trans (heap_alloc_new w _)
    have g2 : w4.cell? ⟨w.heap.size, 0, none⟩ = some (.int .i64 size) := by simp [World.cell?, hbox]
    have g3 : w4.cell? ⟨w.heap.size, 1, none⟩ = some (.int .i64 vs) := by simp [World.cell?, hbox]
    have g4 : w4.cell? ⟨w.heap.size, 2, none⟩ = some (.int .i64 here) := by simp [World.cell?, hbox]
    have q4 := ((Below.refl _ w).alloc (Nat.le_refl _) (.cells #[.int .i64 size, .int .i64 vs, .int .i64 here] 30)).trans (hb.mono (by simp))
    clear hbox hb
    go_wp2_with fail
    refine (HE.out _).mono ?_
    rintro e w5 ⟨rfl, hb5⟩
    go_wp2
    go_ret2
    exact ⟨rfl, q4.trans (hb5.mono q4.size)⟩
  · have he : s.toList.isEmpty = true := empty_s h0
    go_enter Try.func24, Try.ntmps24
    go_wp2_with fail
    refine (HO.out _).mono ?_
    rintro e w4 ⟨b, m, rfl, hb, -, -, -, -, -⟩
    have hbox : w4.heap[w.heap.size]? = some (.cells #[.int .i64 size, .int .i64 vs, .int .i64 here] 30 (0, 0)) := (hb.block _ (by simp)).trans (heap_alloc_new w _)
    have g2 : w4.cell? ⟨w.heap.size, 0, none⟩ = some (.int .i64 size) := by simp [World.cell?, hbox]
    have g3 : w4.cell? ⟨w.heap.size, 1, none⟩ = some (.int .i64 vs) := by simp [World.cell?, hbox]
    have g4 : w4.cell? ⟨w.heap.size, 2, none⟩ = some (.int .i64 here) := by simp [World.cell?, hbox]
    have q4 := ((Below.refl _ w).alloc (Nat.le_refl _) (.cells #[.int .i64 size, .int .i64 vs, .int .i64 here] 30)).trans (hb.mono (by simp))
    clear hbox hb
    go_wp2_with fail
    refine (HE.out _).mono ?_
    rintro e w5 ⟨rfl, hb5⟩
    go_wp2
    go_ret2
    exact ⟨rfl, q4.trans (hb5.mono q4.size)⟩

set_option maxRecDepth 100000 in
set_option maxHeartbeats 4000000 in
theorem change_sign (old : Int) (s : ByteArray) (scale : Nat) (size vs here : Int) (w : World) (hsc : scale < 256) (hob : okB scale size vs here = true) (hs : s.size ≤ 4611686018427387904) (h1 : ¬ old < -1000000000) (h2 : ¬ 1000000000 < old)
    (hp : pk s 0 = 43 ∨ pk s 0 = 45) (x k : Int) (hx : evalO (s.extract 1 s.size) scale size vs here = (x, k)) (y : Int) (hy : y = if pk s 0 = 45 then -x else x) :
    Calls Try.prog 24 #[.int .i64 old, .string s, .int .u8 scale, .agg #[.int .i64 size, .int .i64 vs, .int .i64 here]] w fun e w' => e = .returned (.tuple (if k = 0 then (if y + old < -1000000000 ∨ 1000000000 < y + old then #[.int .i64 0, .int .i64 5] else #[.int .i64 (y + old), .int .i64 0]) else #[.int .i64 0, .int .i64 k])) ∧ Below w.heap.size w w' := by
  have HO := Lib.hid (fun W => open_calls s scale size vs here W hsc)
  have hE := fun W => eval_calls (s.extract 1 s.size) scale size vs here W hsc (by rw [ByteArray.size_extract]; omega)
  have hxb := evalO_bound (s.extract 1 s.size) scale size vs here
  rw [hx] at hE hxb
  simp only at hxb
  have HE := Lib.hid hE
  rw [hob] at HO
  have d1 : decide (old < -1000000000) = false := decide_eq_false h1
  have d2 : decide (1000000000 < old) = false := decide_eq_false h2
  have h0 : 0 < s.size := pk_lt (by omega)
  have hcut := fun W => run_cut1 (P := Try.prog) 9 Try.underlying9 s h0 W
  have hk : pk s 0 = s[0].toNat := by unfold pk; rw [dif_pos h0]
  have hi : (0 : Int) < s.size := by omega
  have he : s.toList.isEmpty = false := nonempty_s h0
  have hyb : -1000000000 ≤ y ∧ y ≤ 1000000000 := by rw [hy]; split <;> omega
  have wy : wrap64 (y + old) = y + old := wrap64_in _ (by omega) (by omega)
  have wn : wrap64 (-x) = -x := wrap64_in _ (by omega) (by omega)
  obtain ⟨r, hr⟩ : ∃ r, (if k = 0 then (if y + old < -1000000000 ∨ 1000000000 < y + old then #[Value.int .i64 0, .int .i64 5] else #[.int .i64 (y + old), .int .i64 0]) else #[.int .i64 0, .int .i64 k]) = r := ⟨_, rfl⟩
  rw [hr]
  clear hob hx hE
  by_cases hk0 : k = 0
  · subst hk0
    rw [if_pos rfl] at hr
    rcases hp with hp | hp
    · have hy' : y = x := by rw [hy, hp]; rfl
      rw [hy'] at hr wy
      clear hy hyb
      rw [hk] at hp
      have f43 : ((s[0].toNat : Int) != 43) = false := by rw [hp]; rfl
      have f45 : ((s[0].toNat : Int) != 45) = true := by rw [hp]; rfl
      have e45 : ((s[0].toNat : Int) == 45) = false := by rw [hp]; rfl
      by_cases hl : x + old < -1000000000
      · rw [if_pos (.inl hl)] at hr
        subst hr
        have l1 : decide (x + old < -1000000000) = true := decide_eq_true hl
        go_enter Try.func24, Try.ntmps24
        go_wp2_with fail
        refine (HO.out _).mono ?_
        rintro e w4 ⟨b, m, rfl, hb, -, -, -, -, -⟩
        have hbox : w4.heap[w.heap.size]? = some (.cells #[.int .i64 size, .int .i64 vs, .int .i64 here] 30 (0, 0)) := (hb.block _ (by simp)).trans (heap_alloc_new w _)
        have g2 : w4.cell? ⟨w.heap.size, 0, none⟩ = some (.int .i64 size) := by simp [World.cell?, hbox]
        have g3 : w4.cell? ⟨w.heap.size, 1, none⟩ = some (.int .i64 vs) := by simp [World.cell?, hbox]
        have g4 : w4.cell? ⟨w.heap.size, 2, none⟩ = some (.int .i64 here) := by simp [World.cell?, hbox]
        have q4 := ((Below.refl _ w).alloc (Nat.le_refl _) (.cells #[.int .i64 size, .int .i64 vs, .int .i64 here] 30)).trans (hb.mono (by simp))
        clear hbox hb
        go_wp2_with fail
        go_region_with (go_at_call 8; refine (HE.out _).mono ?_; rintro e w5 ⟨rfl, hb5⟩)
        all_goals
          have q5 := (q4.drew).trans (hb5.mono (by exact q4.size))
          go_wp2
          go_ret2
          exact ⟨rfl, q5⟩
      · by_cases hg : 1000000000 < x + old
        · rw [if_pos (.inr hg)] at hr
          subst hr
          have l1 : decide (x + old < -1000000000) = false := decide_eq_false hl
          have l2 : decide (1000000000 < x + old) = true := decide_eq_true hg
          go_enter Try.func24, Try.ntmps24
          go_wp2_with fail
          refine (HO.out _).mono ?_
          rintro e w4 ⟨b, m, rfl, hb, -, -, -, -, -⟩
          have hbox : w4.heap[w.heap.size]? = some (.cells #[.int .i64 size, .int .i64 vs, .int .i64 here] 30 (0, 0)) := (hb.block _ (by simp)).trans (heap_alloc_new w _)
          have g2 : w4.cell? ⟨w.heap.size, 0, none⟩ = some (.int .i64 size) := by simp [World.cell?, hbox]
          have g3 : w4.cell? ⟨w.heap.size, 1, none⟩ = some (.int .i64 vs) := by simp [World.cell?, hbox]
          have g4 : w4.cell? ⟨w.heap.size, 2, none⟩ = some (.int .i64 here) := by simp [World.cell?, hbox]
          have q4 := ((Below.refl _ w).alloc (Nat.le_refl _) (.cells #[.int .i64 size, .int .i64 vs, .int .i64 here] 30)).trans (hb.mono (by simp))
          clear hbox hb
          go_wp2_with fail
          go_region_with (go_at_call 8; refine (HE.out _).mono ?_; rintro e w5 ⟨rfl, hb5⟩)
          all_goals
            have q5 := (q4.drew).trans (hb5.mono (by exact q4.size))
            go_wp2
            go_ret2
            exact ⟨rfl, q5⟩
        · rw [if_neg (by rintro (h | h); exact hl h; exact hg h)] at hr
          subst hr
          have l1 : decide (x + old < -1000000000) = false := decide_eq_false hl
          have l2 : decide (1000000000 < x + old) = false := decide_eq_false hg
          go_enter Try.func24, Try.ntmps24
          go_wp2_with fail
          refine (HO.out _).mono ?_
          rintro e w4 ⟨b, m, rfl, hb, -, -, -, -, -⟩
          have hbox : w4.heap[w.heap.size]? = some (.cells #[.int .i64 size, .int .i64 vs, .int .i64 here] 30 (0, 0)) := (hb.block _ (by simp)).trans (heap_alloc_new w _)
          have g2 : w4.cell? ⟨w.heap.size, 0, none⟩ = some (.int .i64 size) := by simp [World.cell?, hbox]
          have g3 : w4.cell? ⟨w.heap.size, 1, none⟩ = some (.int .i64 vs) := by simp [World.cell?, hbox]
          have g4 : w4.cell? ⟨w.heap.size, 2, none⟩ = some (.int .i64 here) := by simp [World.cell?, hbox]
          have q4 := ((Below.refl _ w).alloc (Nat.le_refl _) (.cells #[.int .i64 size, .int .i64 vs, .int .i64 here] 30)).trans (hb.mono (by simp))
          clear hbox hb
          go_wp2_with fail
          go_region_with (go_at_call 8; refine (HE.out _).mono ?_; rintro e w5 ⟨rfl, hb5⟩)
          all_goals
            have q5 := (q4.drew).trans (hb5.mono (by exact q4.size))
            go_wp2
            go_ret2
            exact ⟨rfl, q5⟩
    · have hy' : y = -x := by rw [hy, hp]; rfl
      rw [hy'] at hr wy
      clear hy hyb
      rw [hk] at hp
      have f43 : ((s[0].toNat : Int) != 43) = true := by rw [hp]; rfl
      have f45 : ((s[0].toNat : Int) != 45) = false := by rw [hp]; rfl
      have e45 : ((s[0].toNat : Int) == 45) = true := by rw [hp]; rfl
      by_cases hl : -x + old < -1000000000
      · rw [if_pos (.inl hl)] at hr
        subst hr
        have l1 : decide (-x + old < -1000000000) = true := decide_eq_true hl
        go_enter Try.func24, Try.ntmps24
        go_wp2_with fail
        refine (HO.out _).mono ?_
        rintro e w4 ⟨b, m, rfl, hb, -, -, -, -, -⟩
        have hbox : w4.heap[w.heap.size]? = some (.cells #[.int .i64 size, .int .i64 vs, .int .i64 here] 30 (0, 0)) := (hb.block _ (by simp)).trans (heap_alloc_new w _)
        have g2 : w4.cell? ⟨w.heap.size, 0, none⟩ = some (.int .i64 size) := by simp [World.cell?, hbox]
        have g3 : w4.cell? ⟨w.heap.size, 1, none⟩ = some (.int .i64 vs) := by simp [World.cell?, hbox]
        have g4 : w4.cell? ⟨w.heap.size, 2, none⟩ = some (.int .i64 here) := by simp [World.cell?, hbox]
        have q4 := ((Below.refl _ w).alloc (Nat.le_refl _) (.cells #[.int .i64 size, .int .i64 vs, .int .i64 here] 30)).trans (hb.mono (by simp))
        clear hbox hb
        go_wp2_with fail
        go_region_with (go_at_call 8; refine (HE.out _).mono ?_; rintro e w5 ⟨rfl, hb5⟩)
        all_goals
          have q5 := (q4.drew).trans (hb5.mono (by exact q4.size))
          go_wp2
          go_ret2
          exact ⟨rfl, q5⟩
      · by_cases hg : 1000000000 < -x + old
        · rw [if_pos (.inr hg)] at hr
          subst hr
          have l1 : decide (-x + old < -1000000000) = false := decide_eq_false hl
          have l2 : decide (1000000000 < -x + old) = true := decide_eq_true hg
          go_enter Try.func24, Try.ntmps24
          go_wp2_with fail
          refine (HO.out _).mono ?_
          rintro e w4 ⟨b, m, rfl, hb, -, -, -, -, -⟩
          have hbox : w4.heap[w.heap.size]? = some (.cells #[.int .i64 size, .int .i64 vs, .int .i64 here] 30 (0, 0)) := (hb.block _ (by simp)).trans (heap_alloc_new w _)
          have g2 : w4.cell? ⟨w.heap.size, 0, none⟩ = some (.int .i64 size) := by simp [World.cell?, hbox]
          have g3 : w4.cell? ⟨w.heap.size, 1, none⟩ = some (.int .i64 vs) := by simp [World.cell?, hbox]
          have g4 : w4.cell? ⟨w.heap.size, 2, none⟩ = some (.int .i64 here) := by simp [World.cell?, hbox]
          have q4 := ((Below.refl _ w).alloc (Nat.le_refl _) (.cells #[.int .i64 size, .int .i64 vs, .int .i64 here] 30)).trans (hb.mono (by simp))
          clear hbox hb
          go_wp2_with fail
          go_region_with (go_at_call 8; refine (HE.out _).mono ?_; rintro e w5 ⟨rfl, hb5⟩)
          all_goals
            have q5 := (q4.drew).trans (hb5.mono (by exact q4.size))
            go_wp2
            go_ret2
            exact ⟨rfl, q5⟩
        · rw [if_neg (by rintro (h | h); exact hl h; exact hg h)] at hr
          subst hr
          have l1 : decide (-x + old < -1000000000) = false := decide_eq_false hl
          have l2 : decide (1000000000 < -x + old) = false := decide_eq_false hg
          go_enter Try.func24, Try.ntmps24
          go_wp2_with fail
          refine (HO.out _).mono ?_
          rintro e w4 ⟨b, m, rfl, hb, -, -, -, -, -⟩
          have hbox : w4.heap[w.heap.size]? = some (.cells #[.int .i64 size, .int .i64 vs, .int .i64 here] 30 (0, 0)) := (hb.block _ (by simp)).trans (heap_alloc_new w _)
          have g2 : w4.cell? ⟨w.heap.size, 0, none⟩ = some (.int .i64 size) := by simp [World.cell?, hbox]
          have g3 : w4.cell? ⟨w.heap.size, 1, none⟩ = some (.int .i64 vs) := by simp [World.cell?, hbox]
          have g4 : w4.cell? ⟨w.heap.size, 2, none⟩ = some (.int .i64 here) := by simp [World.cell?, hbox]
          have q4 := ((Below.refl _ w).alloc (Nat.le_refl _) (.cells #[.int .i64 size, .int .i64 vs, .int .i64 here] 30)).trans (hb.mono (by simp))
          clear hbox hb
          go_wp2_with fail
          go_region_with (go_at_call 8; refine (HE.out _).mono ?_; rintro e w5 ⟨rfl, hb5⟩)
          all_goals
            have q5 := (q4.drew).trans (hb5.mono (by exact q4.size))
            go_wp2
            go_ret2
            exact ⟨rfl, q5⟩
  · rw [if_neg hk0] at hr
    subst hr
    rcases hp with hp | hp
    · rw [hk] at hp
      have f43 : ((s[0].toNat : Int) != 43) = false := by rw [hp]; rfl
      have f45 : ((s[0].toNat : Int) != 45) = true := by rw [hp]; rfl
      have e45 : ((s[0].toNat : Int) == 45) = false := by rw [hp]; rfl
      go_enter Try.func24, Try.ntmps24
      go_wp2_with fail
      refine (HO.out _).mono ?_
      rintro e w4 ⟨b, m, rfl, hb, -, -, -, -, -⟩
      have hbox : w4.heap[w.heap.size]? = some (.cells #[.int .i64 size, .int .i64 vs, .int .i64 here] 30 (0, 0)) := (hb.block _ (by simp)).trans (heap_alloc_new w _)
      have g2 : w4.cell? ⟨w.heap.size, 0, none⟩ = some (.int .i64 size) := by simp [World.cell?, hbox]
      have g3 : w4.cell? ⟨w.heap.size, 1, none⟩ = some (.int .i64 vs) := by simp [World.cell?, hbox]
      have g4 : w4.cell? ⟨w.heap.size, 2, none⟩ = some (.int .i64 here) := by simp [World.cell?, hbox]
      have q4 := ((Below.refl _ w).alloc (Nat.le_refl _) (.cells #[.int .i64 size, .int .i64 vs, .int .i64 here] 30)).trans (hb.mono (by simp))
      clear hbox hb
      go_wp2_with fail
      go_region_with (go_at_call 8; refine (HE.out _).mono ?_; rintro e w5 ⟨rfl, hb5⟩)
      all_goals
        have q5 := (q4.drew).trans (hb5.mono (by exact q4.size))
        go_wp2
        go_ret2
        exact ⟨rfl, q5⟩
    · rw [hk] at hp
      have f43 : ((s[0].toNat : Int) != 43) = true := by rw [hp]; rfl
      have f45 : ((s[0].toNat : Int) != 45) = false := by rw [hp]; rfl
      have e45 : ((s[0].toNat : Int) == 45) = true := by rw [hp]; rfl
      go_enter Try.func24, Try.ntmps24
      go_wp2_with fail
      refine (HO.out _).mono ?_
      rintro e w4 ⟨b, m, rfl, hb, -, -, -, -, -⟩
      have hbox : w4.heap[w.heap.size]? = some (.cells #[.int .i64 size, .int .i64 vs, .int .i64 here] 30 (0, 0)) := (hb.block _ (by simp)).trans (heap_alloc_new w _)
      have g2 : w4.cell? ⟨w.heap.size, 0, none⟩ = some (.int .i64 size) := by simp [World.cell?, hbox]
      have g3 : w4.cell? ⟨w.heap.size, 1, none⟩ = some (.int .i64 vs) := by simp [World.cell?, hbox]
      have g4 : w4.cell? ⟨w.heap.size, 2, none⟩ = some (.int .i64 here) := by simp [World.cell?, hbox]
      have q4 := ((Below.refl _ w).alloc (Nat.le_refl _) (.cells #[.int .i64 size, .int .i64 vs, .int .i64 here] 30)).trans (hb.mono (by simp))
      clear hbox hb
      go_wp2_with fail
      go_region_with (go_at_call 8; refine (HE.out _).mono ?_; rintro e w5 ⟨rfl, hb5⟩)
      all_goals
        have q5 := (q4.drew).trans (hb5.mono (by exact q4.size))
        go_wp2
        go_ret2
        exact ⟨rfl, q5⟩
/-- What Change hands back. -/
def changeN (old : Int) (s : ByteArray) (scale : Nat) (size vs here : Int) : Int × Int :=
  if okB scale size vs here = false ∨ old < -1000000000 ∨ 1000000000 < old then (0, 1)
  else if ¬ (pk s 0 = 43 ∨ pk s 0 = 45) then evalO s scale size vs here
  else
    let r := evalO (s.extract 1 s.size) scale size vs here
    let y := if pk s 0 = 45 then -r.1 else r.1
    if r.2 = 0 then (if y + old < -1000000000 ∨ 1000000000 < y + old then (0, 5) else (y + old, 0)) else (0, r.2)
theorem change_calls (old : Int) (s : ByteArray) (scale : Nat) (size vs here : Int) (w : World) (hsc : scale < 256) (hs : s.size ≤ 4611686018427387904) :
    Calls Try.prog 24 #[.int .i64 old, .string s, .int .u8 scale, .agg #[.int .i64 size, .int .i64 vs, .int .i64 here]] w fun e w' => e = .returned (.tuple #[.int .i64 (changeN old s scale size vs here).1, .int .i64 (changeN old s scale size vs here).2]) ∧ Below w.heap.size w w' := by
  unfold changeN
  rcases hob : okB scale size vs here with _ | _
  · rw [if_pos (.inl rfl)]
    exact change_arg old s scale size vs here w hsc hob
  · by_cases ho : old < -1000000000 ∨ 1000000000 < old
    · rw [if_pos (.inr ho)]
      exact change_old old s scale size vs here w hsc hob ho
    · rw [if_neg (by rintro (h | h); cases h; exact ho h)]
      have h1 : ¬ old < -1000000000 := fun h => ho (.inl h)
      have h2 : ¬ 1000000000 < old := fun h => ho (.inr h)
      by_cases hp : pk s 0 = 43 ∨ pk s 0 = 45
      · rw [if_neg (fun h => h hp)]
        obtain ⟨⟨x, k⟩, hx⟩ : ∃ r, evalO (s.extract 1 s.size) scale size vs here = r := ⟨_, rfl⟩
        refine (change_sign old s scale size vs here w hsc hob hs h1 h2 hp x k hx _ rfl).mono ?_
        rintro e w' ⟨rfl, hb⟩
        refine ⟨?_, hb⟩
        simp only [hx]
        by_cases hk : k = 0
        · rw [if_pos hk, if_pos hk]
          generalize (if pk s 0 = 45 then -x else x) + old = v
          by_cases hv : v < -1000000000 ∨ 1000000000 < v
          · rw [if_pos hv, if_pos hv]
          · rw [if_neg hv, if_neg hv]
        · rw [if_neg hk, if_neg hk]
      · rw [if_pos hp]
        exact change_eval old s scale size vs here w hsc hob hs h1 h2 (fun h => hp (.inl h)) (fun h => hp (.inr h)) _ _ rfl
end Go.Proofs.Ytkomofphgnekoaa

set_option linter.unusedVariables false
set_option linter.unusedSimpArgs false
namespace Go.Proofs.Ytkomofphgnekoaa
open Go.Shelf Go.RowKit Go.Lib Go.Aids Go.MapLit Go.Proofs.YtkomofphgnekoaaW.PrintWords

/-- A context's box. -/
def Cb (w : World) (b : Nat) (x y z : Int) : Prop := w.heap[b]? = some (.cells #[.int .i64 x, .int .i64 y, .int .i64 z] 51 (0, 0))
theorem Cb.cells {w : World} {b : Nat} {x y z : Int} (h : Cb w b x y z) : w.cell? ⟨b, 0, none⟩ = some (.int .i64 x) ∧ w.cell? ⟨b, 1, none⟩ = some (.int .i64 y) ∧ w.cell? ⟨b, 2, none⟩ = some (.int .i64 z) ∧ b < w.heap.size := by
  unfold Cb at h
  refine ⟨?_, ?_, ?_, ?_⟩
  all_goals first | (simp [World.cell?, h]; done) | skip
  rw [Array.getElem?_eq_some_iff] at h; exact h.1
theorem Cb.new (w : World) (x y z : Int) : Cb (w.alloc (.cells #[.int .i64 x, .int .i64 y, .int .i64 z] 51)) w.heap.size x y z := heap_alloc_new w _
theorem Cb.below {w w' : World} {b : Nat} {x y z : Int} (h : Cb w b x y z) (hb : Below w.heap.size w w') : Cb w' b x y z := (hb.block b h.cells.2.2.2).trans h
theorem cb_box (w w1 : World) (x y z : Int) (hb : Below (w.alloc (.cells #[.int .i64 x, .int .i64 y, .int .i64 z] 51)).heap.size (w.alloc (.cells #[.int .i64 x, .int .i64 y, .int .i64 z] 51)) w1) :
    Below w.heap.size w w1 ∧ Cb w1 w.heap.size x y z := ⟨((Below.refl _ w).alloc (Nat.le_refl _) _).trans (hb.mono (by simp)), (Cb.new w x y z).below hb⟩
theorem cb_box2 {W w1 w2 : World} {B b : Nat} {x y z : Int} (o : Obj) (h1 : Below B W w1) (hB : B ≤ w1.heap.size) (c : Cb w1 b x y z) (hb : Below (w1.alloc o).heap.size (w1.alloc o) w2) : Below B W w2 ∧ Cb w2 b x y z :=
  ⟨(h1.alloc hB _).trans (hb.mono (by simp; omega)), (c.below ((Below.refl _ _).alloc (Nat.le_refl _) _)).below hb⟩

set_option maxRecDepth 100000 in
set_option maxHeartbeats 4000000 in
theorem rprefix_arg (s : ByteArray) (scale : Nat) (size vs here : Int) (w : World) (hsc : scale < 256) (hob : okB scale size vs here = false) :
    Calls Try.prog 23 #[.string s, .int .u8 scale, .agg #[.int .i64 size, .int .i64 vs, .int .i64 here]] w fun e w' => e = .returned (.tuple #[.int .i64 0, .int .i64 0, .int .i64 1]) ∧ Below w.heap.size w w' := by
  have hA := fun W => rarg_calls scale size vs here W hsc
  rw [hob] at hA
  have HA := Lib.hid hA
  clear hA hob
  go_enter Try.func23, Try.ntmps23
  go_wp2_with fail
  refine (HA.out _).mono ?_
  rintro e w1 ⟨rfl, hb⟩
  go_wp2
  go_ret3
  exact ⟨rfl, ((Below.refl _ w).alloc (Nat.le_refl _) _).trans (hb.mono (by simp))⟩

set_option maxRecDepth 100000 in
set_option maxHeartbeats 4000000 in
theorem rprefix_none (s : ByteArray) (scale : Nat) (size vs here : Int) (w : World) (hsc : scale < 256) (hob : okB scale size vs here = true) (hs : s.size ≤ 4611686018427387904) (k : Int) (ho : evalRun s scale size vs here true = .die k) :
    Calls Try.prog 23 #[.string s, .int .u8 scale, .agg #[.int .i64 size, .int .i64 vs, .int .i64 here]] w fun e w' => e = .returned (.tuple #[.int .i64 0, .int .i64 0, .int .i64 4]) ∧ Below w.heap.size w w' := by
  have hA := fun W => rarg_calls scale size vs here W hsc
  rw [hob] at hA
  have HA := Lib.hid hA
  have ok := okB_ok (s := s) hob hs hsc 0 true
  have hE := fun W => (ref_calls ⟨s, scale, size, vs, here, 0, true⟩ ok (fuelOf s)).2 W 0 0 (Nat.zero_le _) (by decide) (evalRun_stuck s scale size vs here true)
  have hk := run_die ⟨s, scale, size, vs, here, 0, true⟩ (fuelOf s) (.expr 0 0) k ho
  rw [show run ⟨s, scale, size, vs, here, 0, true⟩ (fuelOf s) (.expr 0 0) = .die k from ho] at hE
  have kz : (k != 0) = true := by simpa using hk
  have HE := Lib.hid hE
  clear hA hob hE ho ok hk
  go_enter Try.func23, Try.ntmps23
  go_wp2_with fail
  refine (HA.out _).mono ?_
  rintro e w1 ⟨rfl, hb⟩
  obtain ⟨B1, C1⟩ := cb_box w w1 size vs here hb
  obtain ⟨g2, g3, g4, gl⟩ := C1.cells
  clear hb C1
  go_wp2_with fail
  refine (HE.out _).mono ?_
  rintro e w2 ⟨v, t', rfl, hb2⟩
  have B2 := (B1.alloc B1.size (.cells #[.string s, .int .u8 scale, .int .i64 size, .int .i64 vs, .int .i64 here, .bool true] 70)).trans (hb2.mono (by have := B1.size; simp; omega))
  clear hb2
  go_wp2
  go_ret3
  exact ⟨rfl, B2⟩

set_option maxRecDepth 100000 in
set_option maxHeartbeats 4000000 in
theorem rprefix_ok (s : ByteArray) (scale : Nat) (size vs here : Int) (w : World) (hsc : scale < 256) (hob : okB scale size vs here = true) (hs : s.size ≤ 4611686018427387904) (n : Int) (t : Nat) (ht : t ≤ s.size) (ho : evalRun s scale size vs here true = .ok n t)
    (x k : Int) (hxk : evalO (s.extract 0 t) scale size vs here = (x, k)) :
    Calls Try.prog 23 #[.string s, .int .u8 scale, .agg #[.int .i64 size, .int .i64 vs, .int .i64 here]] w fun e w' => e = .returned (.tuple (if k = 0 then #[.int .i64 x, .int .i64 t, .int .i64 0] else #[.int .i64 0, .int .i64 0, .int .i64 k])) ∧ Below w.heap.size w w' := by
  have hA := fun W => rarg_calls scale size vs here W hsc
  rw [hob] at hA
  have HA := Lib.hid hA
  have ok := okB_ok (s := s) hob hs hsc 0 true
  have hE := fun W => (ref_calls ⟨s, scale, size, vs, here, 0, true⟩ ok (fuelOf s)).2 W 0 0 (Nat.zero_le _) (by decide) (evalRun_stuck s scale size vs here true)
  rw [show run ⟨s, scale, size, vs, here, 0, true⟩ (fuelOf s) (.expr 0 0) = .ok n t from ho] at hE
  have hV := fun W => reval_calls (s.extract 0 t) scale size vs here W hsc (by rw [ByteArray.size_extract]; omega)
  rw [hxk] at hV
  have hcut := fun W => run_cut0 (P := Try.prog) 9 Try.underlying9 s .i64 t ht W
  have HE := Lib.hid hE
  have HV := Lib.hid hV
  clear hA hob hE ho ok hV hxk
  go_enter Try.func23, Try.ntmps23
  go_wp2_with fail
  refine (HA.out _).mono ?_
  rintro e w1 ⟨rfl, hb⟩
  obtain ⟨B1, C1⟩ := cb_box w w1 size vs here hb
  obtain ⟨g2, g3, g4, gl⟩ := C1.cells
  clear hb
  go_wp2_with fail
  refine (HE.out _).mono ?_
  rintro e w2 ⟨v, t', -, hsk, -, rfl, hb2⟩
  rw [show skip s 0 t' = t' from skip0 s t'] at hsk
  obtain rfl : t' = t := hsk
  obtain ⟨B2, C2⟩ := cb_box2 _ B1 B1.size C1 hb2
  clear hb2 g2 g3 g4 gl C1 B1
  obtain ⟨g2, g3, g4, gl⟩ := C2.cells
  go_wp2_with fail
  go_region_with (go_at_call 22; refine (HV.out _).mono ?_; rintro e w7 ⟨rfl, hb7⟩)
  all_goals
    have q7 := (B2.drew).trans (hb7.mono (by exact B2.size))
    clear hb7 g2 g3 g4 C2
    by_cases hk0 : k = 0
    · subst hk0
      go_wp2
      go_ret3
      exact ⟨rfl, q7⟩
    · have kz : (k != 0) = true := by simpa using hk0
      go_wp2
      go_ret3
      exact ⟨rfl, q7⟩

theorem rprefix_calls (s : ByteArray) (scale : Nat) (size vs here : Int) (w : World) (hsc : scale < 256) (hs : s.size ≤ 4611686018427387904) :
    Calls Try.prog 23 #[.string s, .int .u8 scale, .agg #[.int .i64 size, .int .i64 vs, .int .i64 here]] w fun e w' => e = .returned (.tuple #[.int .i64 (prefixO s scale size vs here).1, .int .i64 (prefixO s scale size vs here).2.1, .int .i64 (prefixO s scale size vs here).2.2]) ∧ Below w.heap.size w w' := by
  unfold prefixO
  rcases hob : okB scale size vs here with _ | _
  · exact rprefix_arg s scale size vs here w hsc hob
  · rcases ho : operRun s scale size vs here with ⟨n0, t0⟩ | k | _
    · obtain ⟨n, t, he, ht⟩ := evalRun_ok s scale size vs here ho
      rw [he]
      obtain ⟨⟨x, k⟩, hxk⟩ : ∃ r, evalO (s.extract 0 t) scale size vs here = r := ⟨_, rfl⟩
      refine (rprefix_ok s scale size vs here w hsc hob hs n t ht he x k hxk).mono ?_
      rintro e w' ⟨rfl, hb⟩
      refine ⟨?_, hb⟩
      simp only [hxk]
      by_cases hk : k = 0
      · simp [hk]
      · simp [hk]
    · have he : evalRun s scale size vs here true = .die k := by
        show run ⟨s, scale, size, vs, here, 0, true⟩ (2 * s.size + 1 + 1) (.expr 0 0) = .die k
        rw [run, show run ⟨s, scale, size, vs, here, 0, true⟩ (2 * s.size + 1) (.oper 0 0) = .die k from ho]
      exact rprefix_none s scale size vs here w hsc hob hs k he
    · exact absurd ho (operRun_stuck s scale size vs here)

def withB (n : Int) : Bool := decide (-1000000000 ≤ n ∧ n ≤ 1000000000)
theorem within_calls (n : Int) (w : World) : Calls Try.prog 40 #[.int .i64 n] w fun e w' => e = .returned (.bool (withB n)) ∧ Below w.heap.size w w' := by
  refine (PNumber.frisketref01_within.calls n (withB n) w ?_).mono fun e w' h => ⟨h.1, h.2.below⟩
  unfold PNumber.frisketref01_within.f withB
  split
  · refine congrArg some ?_
    rw [decide_eq_decide]; omega
  · refine congrArg some ?_
    symm; rw [decide_eq_false_iff_not]; omega

set_option maxRecDepth 100000 in
set_option maxHeartbeats 4000000 in
theorem rchange_arg (old : Int) (s : ByteArray) (scale : Nat) (size vs here : Int) (w : World) (hsc : scale < 256) (hob : okB scale size vs here = false) :
    Calls Try.prog 25 #[.int .i64 old, .string s, .int .u8 scale, .agg #[.int .i64 size, .int .i64 vs, .int .i64 here]] w fun e w' => e = .returned (.tuple #[.int .i64 0, .int .i64 1]) ∧ Below w.heap.size w w' := by
  have hA := fun W => rarg_calls scale size vs here W hsc
  rw [hob] at hA
  have HA := Lib.hid hA
  clear hA hob
  go_enter Try.func25, Try.ntmps25
  go_wp2_with fail
  refine (HA.out _).mono ?_
  rintro e w1 ⟨rfl, hb⟩
  obtain ⟨B1, C1⟩ := cb_box w w1 size vs here hb
  obtain ⟨g2, g3, g4, gl⟩ := C1.cells
  clear hb
  go_wp2
  go_ret2
  exact ⟨rfl, B1⟩
set_option maxRecDepth 100000 in
set_option maxHeartbeats 4000000 in
theorem rchange_old (old : Int) (s : ByteArray) (scale : Nat) (size vs here : Int) (w : World) (hsc : scale < 256) (hob : okB scale size vs here = true) (ho : withB old = false) :
    Calls Try.prog 25 #[.int .i64 old, .string s, .int .u8 scale, .agg #[.int .i64 size, .int .i64 vs, .int .i64 here]] w fun e w' => e = .returned (.tuple #[.int .i64 0, .int .i64 1]) ∧ Below w.heap.size w w' := by
  have hA := fun W => rarg_calls scale size vs here W hsc
  rw [hob] at hA
  have HA := Lib.hid hA
  have hW := fun W => within_calls old W
  rw [ho] at hW
  have HW := Lib.hid hW
  clear hA hob hW ho
  go_enter Try.func25, Try.ntmps25
  go_wp2_with fail
  refine (HA.out _).mono ?_
  rintro e w1 ⟨rfl, hb⟩
  obtain ⟨B1, C1⟩ := cb_box w w1 size vs here hb
  obtain ⟨g2, g3, g4, gl⟩ := C1.cells
  clear hb
  go_wp2_with fail
  refine (HW.out _).mono ?_
  rintro e w2 ⟨rfl, hb2⟩
  have B2 := B1.trans (hb2.mono B1.size)
  have C2 := C1.below hb2
  clear hb2 g2 g3 g4 gl C1 B1
  obtain ⟨g2, g3, g4, gl⟩ := C2.cells
  go_wp2
  go_ret2
  exact ⟨rfl, B2⟩
set_option maxRecDepth 100000 in
set_option maxHeartbeats 4000000 in
theorem rchange_empty (old : Int) (s : ByteArray) (scale : Nat) (size vs here : Int) (w : World) (hsc : scale < 256) (hob : okB scale size vs here = true) (hs : s.size ≤ 4611686018427387904) (ho : withB old = true) (h0 : ¬ 0 < s.size) (x k : Int) (hx : evalO s scale size vs here = (x, k)) :
    Calls Try.prog 25 #[.int .i64 old, .string s, .int .u8 scale, .agg #[.int .i64 size, .int .i64 vs, .int .i64 here]] w fun e w' => e = .returned (.tuple #[.int .i64 x, .int .i64 k]) ∧ Below w.heap.size w w' := by
  have hA := fun W => rarg_calls scale size vs here W hsc
  rw [hob] at hA
  have HA := Lib.hid hA
  have hW := fun W => within_calls old W
  rw [ho] at hW
  have HW := Lib.hid hW
  have hE := fun W => reval_calls s scale size vs here W hsc hs
  rw [hx] at hE
  have HE := Lib.hid hE
  have he : s.toList.isEmpty = true := empty_s h0
  clear hA hob hW ho hx hE h0
  go_enter Try.func25, Try.ntmps25
  go_wp2_with fail
  refine (HA.out _).mono ?_
  rintro e w1 ⟨rfl, hb⟩
  obtain ⟨B1, C1⟩ := cb_box w w1 size vs here hb
  obtain ⟨g2, g3, g4, gl⟩ := C1.cells
  clear hb
  go_wp2_with fail
  refine (HW.out _).mono ?_
  rintro e w2 ⟨rfl, hb2⟩
  have B2 := B1.trans (hb2.mono B1.size)
  have C2 := C1.below hb2
  clear hb2 g2 g3 g4 gl C1 B1
  obtain ⟨g2, g3, g4, gl⟩ := C2.cells
  go_wp2_with fail
  refine (HE.out _).mono ?_
  rintro e w5 ⟨rfl, hb5⟩
  have B5 := B2.trans (hb5.mono B2.size)
  clear hb5
  go_wp2
  go_ret2
  exact ⟨rfl, B5⟩
set_option maxRecDepth 100000 in
set_option maxHeartbeats 4000000 in
theorem rchange_plain (old : Int) (s : ByteArray) (scale : Nat) (size vs here : Int) (w : World) (hsc : scale < 256) (hob : okB scale size vs here = true) (hs : s.size ≤ 4611686018427387904) (ho : withB old = true) (h0 : 0 < s.size) (hp : ¬ pk s 0 = 43) (hp2 : ¬ pk s 0 = 45) (x k : Int) (hx : evalO s scale size vs here = (x, k)) :
    Calls Try.prog 25 #[.int .i64 old, .string s, .int .u8 scale, .agg #[.int .i64 size, .int .i64 vs, .int .i64 here]] w fun e w' => e = .returned (.tuple #[.int .i64 x, .int .i64 k]) ∧ Below w.heap.size w w' := by
  have hA := fun W => rarg_calls scale size vs here W hsc
  rw [hob] at hA
  have HA := Lib.hid hA
  have hW := fun W => within_calls old W
  rw [ho] at hW
  have HW := Lib.hid hW
  have hE := fun W => reval_calls s scale size vs here W hsc hs
  rw [hx] at hE
  have HE := Lib.hid hE
  have hk : pk s 0 = s[0].toNat := by unfold pk; rw [dif_pos h0]
  rw [hk] at hp hp2
  have hi : (0 : Int) < s.size := by omega
  have he : s.toList.isEmpty = false := nonempty_s h0
  have f43 : ((s[0].toNat : Int) != 43) = true := by simp; omega
  have f45 : ((s[0].toNat : Int) != 45) = true := by simp; omega
  clear hA hob hW ho hx hE hk hp hp2
  go_enter Try.func25, Try.ntmps25
  go_wp2_with fail
  refine (HA.out _).mono ?_
  rintro e w1 ⟨rfl, hb⟩
  obtain ⟨B1, C1⟩ := cb_box w w1 size vs here hb
  obtain ⟨g2, g3, g4, gl⟩ := C1.cells
  clear hb
  go_wp2_with fail
  refine (HW.out _).mono ?_
  rintro e w2 ⟨rfl, hb2⟩
  have B2 := B1.trans (hb2.mono B1.size)
  have C2 := C1.below hb2
  clear hb2 g2 g3 g4 gl C1 B1
  obtain ⟨g2, g3, g4, gl⟩ := C2.cells
  go_wp2_with fail
  refine (HE.out _).mono ?_
  rintro e w5 ⟨rfl, hb5⟩
  have B5 := B2.trans (hb5.mono B2.size)
  clear hb5
  go_wp2
  go_ret2
  exact ⟨rfl, B5⟩
set_option maxRecDepth 100000 in
set_option maxHeartbeats 4000000 in
theorem rchange_bad43 (old : Int) (s : ByteArray) (scale : Nat) (size vs here : Int) (w : World) (hsc : scale < 256) (hob : okB scale size vs here = true) (hs : s.size ≤ 4611686018427387904) (ho : withB old = true) (hp : pk s 0 = 43) (x k : Int) (hx : evalO (s.extract 1 s.size) scale size vs here = (x, k)) (hk0 : k ≠ 0) :
    Calls Try.prog 25 #[.int .i64 old, .string s, .int .u8 scale, .agg #[.int .i64 size, .int .i64 vs, .int .i64 here]] w fun e w' => e = .returned (.tuple #[.int .i64 0, .int .i64 k]) ∧ Below w.heap.size w w' := by
  have hA := fun W => rarg_calls scale size vs here W hsc
  rw [hob] at hA
  have HA := Lib.hid hA
  have hW := fun W => within_calls old W
  rw [ho] at hW
  have HW := Lib.hid hW
  have hE := fun W => reval_calls (s.extract 1 s.size) scale size vs here W hsc (by rw [ByteArray.size_extract]; omega)
  rw [hx] at hE
  have HE := Lib.hid hE
  have hxb := evalO_bound (s.extract 1 s.size) scale size vs here
  rw [hx] at hxb
  simp only at hxb
  have h0 : 0 < s.size := pk_lt (by omega)
  have hcut := fun W => run_cut1 (P := Try.prog) 9 Try.underlying9 s h0 W
  have hk : pk s 0 = s[0].toNat := by unfold pk; rw [dif_pos h0]
  rw [hk] at hp
  have hi : (0 : Int) < s.size := by omega
  have he : s.toList.isEmpty = false := nonempty_s h0
  have f43 : ((s[0].toNat : Int) != 43) = false := by rw [hp]; rfl
  have f45 : ((s[0].toNat : Int) != 45) = true := by rw [hp]; rfl
  have e45 : ((s[0].toNat : Int) == 45) = false := by rw [hp]; rfl
  have kz : (k != 0) = true := by simpa using hk0
  clear hA hob hW ho hx hE hk hp hk0 hxb
  go_enter Try.func25, Try.ntmps25
  go_wp2_with fail
  refine (HA.out _).mono ?_
  rintro e w1 ⟨rfl, hb⟩
  obtain ⟨B1, C1⟩ := cb_box w w1 size vs here hb
  obtain ⟨g2, g3, g4, gl⟩ := C1.cells
  clear hb
  go_wp2_with fail
  refine (HW.out _).mono ?_
  rintro e w2 ⟨rfl, hb2⟩
  have B2 := B1.trans (hb2.mono B1.size)
  have C2 := C1.below hb2
  clear hb2 g2 g3 g4 gl C1 B1
  obtain ⟨g2, g3, g4, gl⟩ := C2.cells
  go_wp2_with fail
  go_region_with (go_at_call 22; refine (HE.out _).mono ?_; rintro e w7 ⟨rfl, hb7⟩)
  all_goals
    have q7 := (B2.drew).trans (hb7.mono (by exact B2.size))
    clear hb7 g2 g3 g4 C2
    go_wp2
    go_ret2
    exact ⟨rfl, q7⟩
set_option maxRecDepth 100000 in
set_option maxHeartbeats 4000000 in
theorem rchange_fine43 (old : Int) (s : ByteArray) (scale : Nat) (size vs here : Int) (w : World) (hsc : scale < 256) (hob : okB scale size vs here = true) (hs : s.size ≤ 4611686018427387904) (ho : withB old = true) (hp : pk s 0 = 43) (x : Int) (hx : evalO (s.extract 1 s.size) scale size vs here = (x, 0)) (wb : Bool) (hwb : withB (old + x) = wb) :
    Calls Try.prog 25 #[.int .i64 old, .string s, .int .u8 scale, .agg #[.int .i64 size, .int .i64 vs, .int .i64 here]] w fun e w' => e = .returned (.tuple (if wb then #[.int .i64 (old + x), .int .i64 0] else #[.int .i64 0, .int .i64 5])) ∧ Below w.heap.size w w' := by
  have hA := fun W => rarg_calls scale size vs here W hsc
  rw [hob] at hA
  have HA := Lib.hid hA
  have hW := fun W => within_calls old W
  rw [ho] at hW
  have HW := Lib.hid hW
  have hE := fun W => reval_calls (s.extract 1 s.size) scale size vs here W hsc (by rw [ByteArray.size_extract]; omega)
  rw [hx] at hE
  have HE := Lib.hid hE
  have hxb := evalO_bound (s.extract 1 s.size) scale size vs here
  rw [hx] at hxb
  simp only at hxb
  have h0 : 0 < s.size := pk_lt (by omega)
  have hcut := fun W => run_cut1 (P := Try.prog) 9 Try.underlying9 s h0 W
  have hk : pk s 0 = s[0].toNat := by unfold pk; rw [dif_pos h0]
  rw [hk] at hp
  have hi : (0 : Int) < s.size := by omega
  have he : s.toList.isEmpty = false := nonempty_s h0
  have f43 : ((s[0].toNat : Int) != 43) = false := by rw [hp]; rfl
  have f45 : ((s[0].toNat : Int) != 45) = true := by rw [hp]; rfl
  have e45 : ((s[0].toNat : Int) == 45) = false := by rw [hp]; rfl
  have hob2 : -1000000000 ≤ old ∧ old ≤ 1000000000 := by unfold withB at ho; simpa using ho
  obtain ⟨o1, o2⟩ := hob2
  obtain ⟨x1, x2⟩ := hxb
  have hW2 := fun W => within_calls (old + x) W
  rw [hwb] at hW2
  have HW2 := Lib.hid hW2
  have n1 : wrap64 (-x) = -x := wrap64_in _ (by omega) (by omega)
  have n2 : wrap64 (old + x) = old + x := wrap64_in _ (by omega) (by omega)
  clear hA hob hW ho hx hE hk hp hW2 hwb
  go_enter Try.func25, Try.ntmps25
  go_wp2_with fail
  refine (HA.out _).mono ?_
  rintro e w1 ⟨rfl, hb⟩
  obtain ⟨B1, C1⟩ := cb_box w w1 size vs here hb
  obtain ⟨g2, g3, g4, gl⟩ := C1.cells
  clear hb
  go_wp2_with fail
  refine (HW.out _).mono ?_
  rintro e w2 ⟨rfl, hb2⟩
  have B2 := B1.trans (hb2.mono B1.size)
  have C2 := C1.below hb2
  clear hb2 g2 g3 g4 gl C1 B1
  obtain ⟨g2, g3, g4, gl⟩ := C2.cells
  go_wp2_with fail
  go_region_with (go_at_call 22; refine (HE.out _).mono ?_; rintro e w7 ⟨rfl, hb7⟩)
  all_goals
    have q7 := (B2.drew).trans (hb7.mono (by exact B2.size))
    clear hb7 g2 g3 g4 C2
    go_wp2_with fail
    refine (HW2.out _).mono ?_
    rintro e w8 ⟨rfl, hb8⟩
    have q8 := q7.trans (hb8.mono q7.size)
    clear hb8
    rcases wb with _ | _
    · go_wp2
      go_ret2
      exact ⟨rfl, q8⟩
    · go_wp2
      go_ret2
      exact ⟨rfl, q8⟩
set_option maxRecDepth 100000 in
set_option maxHeartbeats 4000000 in
theorem rchange_bad45 (old : Int) (s : ByteArray) (scale : Nat) (size vs here : Int) (w : World) (hsc : scale < 256) (hob : okB scale size vs here = true) (hs : s.size ≤ 4611686018427387904) (ho : withB old = true) (hp : pk s 0 = 45) (x k : Int) (hx : evalO (s.extract 1 s.size) scale size vs here = (x, k)) (hk0 : k ≠ 0) :
    Calls Try.prog 25 #[.int .i64 old, .string s, .int .u8 scale, .agg #[.int .i64 size, .int .i64 vs, .int .i64 here]] w fun e w' => e = .returned (.tuple #[.int .i64 0, .int .i64 k]) ∧ Below w.heap.size w w' := by
  have hA := fun W => rarg_calls scale size vs here W hsc
  rw [hob] at hA
  have HA := Lib.hid hA
  have hW := fun W => within_calls old W
  rw [ho] at hW
  have HW := Lib.hid hW
  have hE := fun W => reval_calls (s.extract 1 s.size) scale size vs here W hsc (by rw [ByteArray.size_extract]; omega)
  rw [hx] at hE
  have HE := Lib.hid hE
  have hxb := evalO_bound (s.extract 1 s.size) scale size vs here
  rw [hx] at hxb
  simp only at hxb
  have h0 : 0 < s.size := pk_lt (by omega)
  have hcut := fun W => run_cut1 (P := Try.prog) 9 Try.underlying9 s h0 W
  have hk : pk s 0 = s[0].toNat := by unfold pk; rw [dif_pos h0]
  rw [hk] at hp
  have hi : (0 : Int) < s.size := by omega
  have he : s.toList.isEmpty = false := nonempty_s h0
  have f43 : ((s[0].toNat : Int) != 43) = true := by rw [hp]; rfl
  have f45 : ((s[0].toNat : Int) != 45) = false := by rw [hp]; rfl
  have e45 : ((s[0].toNat : Int) == 45) = true := by rw [hp]; rfl
  have kz : (k != 0) = true := by simpa using hk0
  clear hA hob hW ho hx hE hk hp hk0 hxb
  go_enter Try.func25, Try.ntmps25
  go_wp2_with fail
  refine (HA.out _).mono ?_
  rintro e w1 ⟨rfl, hb⟩
  obtain ⟨B1, C1⟩ := cb_box w w1 size vs here hb
  obtain ⟨g2, g3, g4, gl⟩ := C1.cells
  clear hb
  go_wp2_with fail
  refine (HW.out _).mono ?_
  rintro e w2 ⟨rfl, hb2⟩
  have B2 := B1.trans (hb2.mono B1.size)
  have C2 := C1.below hb2
  clear hb2 g2 g3 g4 gl C1 B1
  obtain ⟨g2, g3, g4, gl⟩ := C2.cells
  go_wp2_with fail
  go_region_with (go_at_call 22; refine (HE.out _).mono ?_; rintro e w7 ⟨rfl, hb7⟩)
  all_goals
    have q7 := (B2.drew).trans (hb7.mono (by exact B2.size))
    clear hb7 g2 g3 g4 C2
    go_wp2
    go_ret2
    exact ⟨rfl, q7⟩
set_option maxRecDepth 100000 in
set_option maxHeartbeats 4000000 in
theorem rchange_fine45 (old : Int) (s : ByteArray) (scale : Nat) (size vs here : Int) (w : World) (hsc : scale < 256) (hob : okB scale size vs here = true) (hs : s.size ≤ 4611686018427387904) (ho : withB old = true) (hp : pk s 0 = 45) (x : Int) (hx : evalO (s.extract 1 s.size) scale size vs here = (x, 0)) (wb : Bool) (hwb : withB (old + -x) = wb) :
    Calls Try.prog 25 #[.int .i64 old, .string s, .int .u8 scale, .agg #[.int .i64 size, .int .i64 vs, .int .i64 here]] w fun e w' => e = .returned (.tuple (if wb then #[.int .i64 (old + -x), .int .i64 0] else #[.int .i64 0, .int .i64 5])) ∧ Below w.heap.size w w' := by
  have hA := fun W => rarg_calls scale size vs here W hsc
  rw [hob] at hA
  have HA := Lib.hid hA
  have hW := fun W => within_calls old W
  rw [ho] at hW
  have HW := Lib.hid hW
  have hE := fun W => reval_calls (s.extract 1 s.size) scale size vs here W hsc (by rw [ByteArray.size_extract]; omega)
  rw [hx] at hE
  have HE := Lib.hid hE
  have hxb := evalO_bound (s.extract 1 s.size) scale size vs here
  rw [hx] at hxb
  simp only at hxb
  have h0 : 0 < s.size := pk_lt (by omega)
  have hcut := fun W => run_cut1 (P := Try.prog) 9 Try.underlying9 s h0 W
  have hk : pk s 0 = s[0].toNat := by unfold pk; rw [dif_pos h0]
  rw [hk] at hp
  have hi : (0 : Int) < s.size := by omega
  have he : s.toList.isEmpty = false := nonempty_s h0
  have f43 : ((s[0].toNat : Int) != 43) = true := by rw [hp]; rfl
  have f45 : ((s[0].toNat : Int) != 45) = false := by rw [hp]; rfl
  have e45 : ((s[0].toNat : Int) == 45) = true := by rw [hp]; rfl
  have hob2 : -1000000000 ≤ old ∧ old ≤ 1000000000 := by unfold withB at ho; simpa using ho
  obtain ⟨o1, o2⟩ := hob2
  obtain ⟨x1, x2⟩ := hxb
  have hW2 := fun W => within_calls (old + -x) W
  rw [hwb] at hW2
  have HW2 := Lib.hid hW2
  have n1 : wrap64 (-x) = -x := wrap64_in _ (by omega) (by omega)
  have n2 : wrap64 (old + -x) = old + -x := wrap64_in _ (by omega) (by omega)
  clear hA hob hW ho hx hE hk hp hW2 hwb
  go_enter Try.func25, Try.ntmps25
  go_wp2_with fail
  refine (HA.out _).mono ?_
  rintro e w1 ⟨rfl, hb⟩
  obtain ⟨B1, C1⟩ := cb_box w w1 size vs here hb
  obtain ⟨g2, g3, g4, gl⟩ := C1.cells
  clear hb
  go_wp2_with fail
  refine (HW.out _).mono ?_
  rintro e w2 ⟨rfl, hb2⟩
  have B2 := B1.trans (hb2.mono B1.size)
  have C2 := C1.below hb2
  clear hb2 g2 g3 g4 gl C1 B1
  obtain ⟨g2, g3, g4, gl⟩ := C2.cells
  go_wp2_with fail
  go_region_with (go_at_call 22; refine (HE.out _).mono ?_; rintro e w7 ⟨rfl, hb7⟩)
  all_goals
    have q7 := (B2.drew).trans (hb7.mono (by exact B2.size))
    clear hb7 g2 g3 g4 C2
    go_wp2_with fail
    refine (HW2.out _).mono ?_
    rintro e w8 ⟨rfl, hb8⟩
    have q8 := q7.trans (hb8.mono q7.size)
    clear hb8
    rcases wb with _ | _
    · go_wp2
      go_ret2
      exact ⟨rfl, q8⟩
    · go_wp2
      go_ret2
      exact ⟨rfl, q8⟩
theorem rchange_calls (old : Int) (s : ByteArray) (scale : Nat) (size vs here : Int) (w : World) (hsc : scale < 256) (hs : s.size ≤ 4611686018427387904) :
    Calls Try.prog 25 #[.int .i64 old, .string s, .int .u8 scale, .agg #[.int .i64 size, .int .i64 vs, .int .i64 here]] w fun e w' => e = .returned (.tuple #[.int .i64 (changeN old s scale size vs here).1, .int .i64 (changeN old s scale size vs here).2]) ∧ Below w.heap.size w w' := by
  unfold changeN
  rcases hob : okB scale size vs here with _ | _
  · rw [if_pos (.inl rfl)]
    exact rchange_arg old s scale size vs here w hsc hob
  · rcases ho : withB old with _ | _
    · rw [if_pos (.inr (by unfold withB at ho; rw [decide_eq_false_iff_not] at ho; omega))]
      exact rchange_old old s scale size vs here w hsc hob ho
    · have ho2 := ho
      unfold withB at ho2
      rw [decide_eq_true_eq] at ho2
      rw [if_neg (by rintro (h | h); cases h; omega)]
      have fin : ∀ (y : Int) (wb : Bool), withB (old + y) = wb → (if wb then #[Value.int .i64 (old + y), .int .i64 0] else #[.int .i64 0, .int .i64 5]) = #[.int .i64 (if y + old < -1000000000 ∨ 1000000000 < y + old then ((0 : Int), (5 : Int)) else (y + old, 0)).1, .int .i64 (if y + old < -1000000000 ∨ 1000000000 < y + old then ((0 : Int), (5 : Int)) else (y + old, 0)).2] := by
        intro y wb h
        unfold withB at h
        cases wb
        · rw [decide_eq_false_iff_not] at h
          rw [if_neg (show ¬ (false = true) by decide), if_pos (show y + old < -1000000000 ∨ 1000000000 < y + old by omega)]
        · rw [decide_eq_true_eq] at h
          rw [if_pos (rfl : true = true), if_neg (show ¬ (y + old < -1000000000 ∨ 1000000000 < y + old) by omega), Int.add_comm]
      by_cases hp : pk s 0 = 43 ∨ pk s 0 = 45
      · rw [if_neg (fun h => h hp)]
        obtain ⟨⟨x, k⟩, hx⟩ : ∃ r, evalO (s.extract 1 s.size) scale size vs here = r := ⟨_, rfl⟩
        simp only [hx]
        by_cases hk : k = 0
        · subst hk
          simp only [if_true]
          rcases hp with hp | hp
          · refine (rchange_fine43 old s scale size vs here w hsc hob hs ho hp x hx _ rfl).mono fun e w' h => ⟨h.1.trans ?_, h.2⟩
            rw [fin x _ rfl, hp]
            simp
          · refine (rchange_fine45 old s scale size vs here w hsc hob hs ho hp x hx _ rfl).mono fun e w' h => ⟨h.1.trans ?_, h.2⟩
            rw [fin (-x) _ rfl, hp]
            simp
        · simp only [if_neg hk]
          rcases hp with hp | hp
          · exact rchange_bad43 old s scale size vs here w hsc hob hs ho hp x k hx hk
          · exact rchange_bad45 old s scale size vs here w hsc hob hs ho hp x k hx hk
      · rw [if_pos hp]
        by_cases h0 : 0 < s.size
        · exact rchange_plain old s scale size vs here w hsc hob hs ho h0 (fun h => hp (.inl h)) (fun h => hp (.inr h)) _ _ rfl
        · exact rchange_empty old s scale size vs here w hsc hob hs ho h0 _ _ rfl
end Go.Proofs.Ytkomofphgnekoaa

set_option linter.unusedVariables false
set_option linter.unusedSimpArgs false
namespace Go.Proofs.Ytkomofphgnekoaa
open Go.Shelf Go.RowKit Go.Lib Go.Aids Go.MapLit Go.Proofs.YtkomofphgnekoaaW.PrintWords

/-- A number with a sign ahead of it. -/
def negO : Out → Out
  | .ok n t => .ok (-n) t
  | o => o
def signO (c : Cx) : Out := if pk c.s 0 = 45 then negO (numberO c 1) else if pk c.s 0 = 43 then numberO c 1 else numberO c 0
theorem neg_wrap {n : Int} (h : -1000000000 ≤ n ∧ n ≤ 1000000000) : wrap64 (-1 * n) = -n := by rw [wrap64_in _ (by omega) (by omega)]; omega
theorem one_wrap {n : Int} (h : -1000000000 ≤ n ∧ n ≤ 1000000000) : wrap64 (1 * n) = n := by rw [wrap64_in _ (by omega) (by omega)]; omega

theorem numberO_stk (c : Cx) (a : Nat) : numberO c a ≠ .stuck := fun h => numberO_stuck h
set_option maxRecDepth 100000 in
set_option maxHeartbeats 4000000 in
theorem number1_sign (w : World) (b : Nat) (c : Cx) (h : St w b c 0) (ok : c.Ok) (hp : pk c.s 0 = 45 ∨ pk c.s 0 = 43) (o : Out) (ho : o = if pk c.s 0 = 45 then negO (numberO c 1) else numberO c 1) :
    Calls Try.prog 34 #[.pointer (some ⟨b, 0, none⟩)] w (Post b c w o) := by
  have hlt : 0 < c.s.size := pk_lt (by omega)
  have HP := Lib.hid (peek_calls w b 0 c h.rd ok.hs)
  have HN := Lib.hid (fun W (hst : St W b c 1) => number_calls W b 1 c hst ok (by omega))
  have hnst : numberO c 1 ≠ .stuck := numberO_stk c 1
  have hbd : ∀ n t, numberO c 1 = .ok n t → (-1000000000 ≤ n ∧ n ≤ 1000000000) := fun n t hh => (numberO_bound (by omega) hh).1
  obtain ⟨r, hr⟩ : ∃ r, numberO c 1 = r := ⟨_, rfl⟩
  rw [hr] at HN hbd ho hnst
  have hk : ∀ k, Kp b w ((w.drewN k).setCell ⟨b, 1, none⟩ (.int .i64 1)) := fun k => (Kp.drewN b w k).trans (Kp.set _ _ _ _)
  have hS : ∀ k, St ((w.drewN k).setCell ⟨b, 1, none⟩ (.int .i64 1)) b c 1 := fun k => h.kp (hk k) ((h.rd.drewN k).set 1)
  have hrd := fun k => (h.rd.drewN k).cells
  have hbl := h.rd.lt
  obtain ⟨s, hs⟩ : ∃ s : Int, s = if pk c.s 0 = 45 then -1 else 1 := ⟨_, rfl⟩
  have HS := Lib.hid hS
  have HK := Lib.hid hk
  clear hS hk hr
  rcases r with ⟨n, t⟩ | e | _
  · have hn := hbd n t rfl
    have v1 := neg_wrap hn
    have v2 := one_wrap hn
    rcases hp with hp | hp
    · rw [hp] at HP ho
      have ho' : o = .ok (-n) t := ho
      subst ho'
      clear ho hbd hs h
      go_enter Try.func34, Try.ntmps34
      go_wp2_with (go_at_call 35; refine HP.out.mono ?_; rintro e1 w1 ⟨rfl, k, rfl⟩; obtain ⟨c0, c1, c2, c3, c4, c5, c6, c7, cf⟩ := hrd k)
      refine (HN.out _ (HS.out k)).mono ?_
      rintro e2 w2 ⟨rfl, hk2, hrd2⟩
      go_wp2
      go_ret
      exact ⟨by first | rfl | (simp [v1, v2]; done) | (rw [v1]; rfl), (HK.out k).trans hk2, hrd2⟩
    · rw [hp] at HP ho
      have ho' : o = .ok n t := ho
      subst ho'
      clear ho hbd hs h
      go_enter Try.func34, Try.ntmps34
      go_wp2_with (go_at_call 35; refine HP.out.mono ?_; rintro e1 w1 ⟨rfl, k, rfl⟩; obtain ⟨c0, c1, c2, c3, c4, c5, c6, c7, cf⟩ := hrd k)
      refine (HN.out _ (HS.out k)).mono ?_
      rintro e2 w2 ⟨rfl, hk2, hrd2⟩
      go_wp2
      go_ret
      exact ⟨by first | rfl | (simp [v1, v2]; done) | (rw [v2]; rfl), (HK.out k).trans hk2, hrd2⟩
  · rcases hp with hp | hp
    · rw [hp] at HP ho
      have ho' : o = .die e := ho
      subst ho'
      clear ho hbd hs h
      go_enter Try.func34, Try.ntmps34
      go_wp2_with (go_at_call 35; refine HP.out.mono ?_; rintro e1 w1 ⟨rfl, k, rfl⟩; obtain ⟨c0, c1, c2, c3, c4, c5, c6, c7, cf⟩ := hrd k)
      refine (HN.out _ (HS.out k)).mono ?_
      rintro e2 w2 ⟨rfl, hk2⟩
      exact ⟨rfl, rfl, (HK.out k).trans hk2⟩
    · rw [hp] at HP ho
      have ho' : o = .die e := ho
      subst ho'
      clear ho hbd hs h
      go_enter Try.func34, Try.ntmps34
      go_wp2_with (go_at_call 35; refine HP.out.mono ?_; rintro e1 w1 ⟨rfl, k, rfl⟩; obtain ⟨c0, c1, c2, c3, c4, c5, c6, c7, cf⟩ := hrd k)
      refine (HN.out _ (HS.out k)).mono ?_
      rintro e2 w2 ⟨rfl, hk2⟩
      exact ⟨rfl, rfl, (HK.out k).trans hk2⟩
  · exact absurd rfl hnst

set_option maxRecDepth 100000 in
set_option maxHeartbeats 4000000 in
theorem number1_plain (w : World) (b : Nat) (c : Cx) (h : St w b c 0) (ok : c.Ok) (hp : ¬ pk c.s 0 = 45) (hp2 : ¬ pk c.s 0 = 43) :
    Calls Try.prog 34 #[.pointer (some ⟨b, 0, none⟩)] w (Post b c w (numberO c 0)) := by
  have HP := Lib.hid (peek_calls w b 0 c h.rd ok.hs)
  have HN := Lib.hid (fun W (hst : St W b c 0) => number_calls W b 0 c hst ok (Nat.zero_le _))
  have hbd : ∀ n t, numberO c 0 = .ok n t → (-1000000000 ≤ n ∧ n ≤ 1000000000) := fun n t hh => (numberO_bound (Nat.zero_le _) hh).1
  have hnst : numberO c 0 ≠ .stuck := numberO_stk c 0
  obtain ⟨r, hr⟩ : ∃ r, numberO c 0 = r := ⟨_, rfl⟩
  rw [hr] at HN hbd hnst ⊢
  have HS := Lib.hid (fun k => h.kp (Kp.drewN b w k) (h.rd.drewN k))
  have HK := Lib.hid (fun k => Kp.drewN b w k)
  have hrd := fun k => (h.rd.drewN k).cells
  have hbl := h.rd.lt
  have k1 : ((pk c.s 0 : Int) == 45) = false := by rw [beq_eq_false_iff_ne]; omega
  have k2 : ((pk c.s 0 : Int) == 43) = false := by rw [beq_eq_false_iff_ne]; omega
  clear hr hp hp2 h
  rcases r with ⟨n, t⟩ | e | _
  · have hn := hbd n t rfl
    have v2 := one_wrap hn
    clear hbd
    go_enter Try.func34, Try.ntmps34
    go_wp2_with (go_at_call 35; refine HP.out.mono ?_; rintro e1 w1 ⟨rfl, k, rfl⟩; obtain ⟨c0, c1, c2, c3, c4, c5, c6, c7, cf⟩ := hrd k)
    refine (HN.out _ (HS.out k)).mono ?_
    rintro e2 w2 ⟨rfl, hk2, hrd2⟩
    go_wp2
    go_ret
    exact ⟨by first | rfl | (simp [v2]; done) | (rw [v2]; rfl), (HK.out k).trans hk2, hrd2⟩
  · go_enter Try.func34, Try.ntmps34
    go_wp2_with (go_at_call 35; refine HP.out.mono ?_; rintro e1 w1 ⟨rfl, k, rfl⟩; obtain ⟨c0, c1, c2, c3, c4, c5, c6, c7, cf⟩ := hrd k)
    refine (HN.out _ (HS.out k)).mono ?_
    rintro e2 w2 ⟨rfl, hk2⟩
    exact ⟨rfl, rfl, (HK.out k).trans hk2⟩
  · exact absurd rfl hnst
theorem number1_calls (w : World) (b : Nat) (c : Cx) (h : St w b c 0) (ok : c.Ok) : Calls Try.prog 34 #[.pointer (some ⟨b, 0, none⟩)] w (Post b c w (signO c)) := by
  unfold signO
  by_cases h1 : pk c.s 0 = 45
  · rw [if_pos h1]
    exact number1_sign w b c h ok (.inl h1) _ (by rw [if_pos h1])
  · rw [if_neg h1]
    by_cases h2 : pk c.s 0 = 43
    · rw [if_pos h2]
      exact number1_sign w b c h ok (.inr h2) _ (by rw [if_neg h1])
    · rw [if_neg h2]
      exact number1_plain w b c h ok h1 h2
end Go.Proofs.Ytkomofphgnekoaa

set_option linter.unusedVariables false
set_option linter.unusedSimpArgs false
namespace Go.Proofs.Ytkomofphgnekoaa
open Go.Shelf Go.RowKit Go.Lib Go.Aids Go.MapLit Go.Proofs.YtkomofphgnekoaaW.PrintWords

theorem whole34_arg (s : ByteArray) (scale : Nat) (size vs here : Int) (w : World) (hsc : scale < 256) (hob : okB scale size vs here = false) :
    Calls Try.prog 13 #[.string s, .int .u8 scale, .agg #[.int .i64 size, .int .i64 vs, .int .i64 here], .func (.func 34) #[] #[]] w fun e w' => e = .returned (.tuple #[.int .i64 0, .int .i64 1]) ∧ Below w.heap.size w w' := by
  have hmf : ∀ (fn : Fn) (first cap : Array Value) (w : World), (Instr.makeFunc fn first cap).run Try.prog w = .ok (.func fn first cap) w := fun _ _ _ _ => rfl
  have HO := Lib.hid (fun W => open_calls s scale size vs here W hsc)
  rw [hob] at HO
  clear hob
  go_enter_defers Try.func13, Try.ntmps13
  go_wp2_with fail
  refine (HO.out _).mono ?_
  rintro e w4 ⟨b, m, rfl, hb, -, -, -, -, -⟩
  have h4 := (Wh.new w size vs here).below hb
  have n0 := h4.n.cell
  have n1 := h4.n.free
  have e0 := h4.e.cell
  have e1 := h4.e.free
  clear hb
  go_wp2
  have h5 := (h4.setN 0).setE 1
  have r0 := h5.n.cell
  have r1 := h5.e.cell
  simp [bodyPostD, Leaves, settle, results, Try.results13, go_sem, r0, r1]
  exact h5.bel

set_option maxRecDepth 100000 in
set_option maxHeartbeats 4000000 in
theorem whole34_read (s : ByteArray) (scale : Nat) (size vs here : Int) (w : World) (hsc : scale < 256) (hob : okB scale size vs here = true) (o : Out) (ho : o ≠ .stuck) (hk0 : ∀ k, o = .die k → k ≠ 0) (hs : s.size ≤ 4611686018427387904)
    (H : ∀ (W : World) (b m : Nat), St W b ⟨s, scale, size, vs, here, m, false⟩ 0 → Calls Try.prog 34 #[.pointer (some ⟨b, 0, none⟩)] W (Post b ⟨s, scale, size, vs, here, m, false⟩ W o)) :
    Calls Try.prog 13 #[.string s, .int .u8 scale, .agg #[.int .i64 size, .int .i64 vs, .int .i64 here], .func (.func 34) #[] #[]] w fun e w' => e = .returned (.tuple #[.int .i64 (wholeN s.size o).1, .int .i64 (wholeN s.size o).2]) ∧ Below w.heap.size w w' := by
  have hmf : ∀ (fn : Fn) (first cap : Array Value) (w : World), (Instr.makeFunc fn first cap).run Try.prog w = .ok (.func fn first cap) w := fun _ _ _ _ => rfl
  have HO := Lib.hid (fun W => open_calls s scale size vs here W hsc)
  rw [hob] at HO
  clear hob
  obtain ⟨rn, hrn⟩ : ∃ r, wholeN s.size o = r := ⟨_, rfl⟩
  rw [hrn]
  have Hrn := Lib.hid hrn
  have HH := Lib.hid H
  clear hrn H
  go_enter_defers Try.func13, Try.ntmps13
  go_wp2_with fail
  refine (HO.out _).mono ?_
  rintro e w4 ⟨b, m, rfl, hb, hb1, hm1, hmb, hrd, hmp⟩
  have h4 := (Wh.new w size vs here).below hb
  have hb3 : w.heap.size + 3 ≤ b := by simpa using hb1
  have hst : St w4 b ⟨s, scale, size, vs, here, m, false⟩ 0 := ⟨hrd, hmp, hmb⟩
  clear hb hb1 hm1 hmb hrd hmp HO
  rcases o with ⟨n, t⟩ | k | _
  · by_cases ht : t = s.size
    · have ht' : (t : Int) = s.size := by omega
      obtain rfl : (n, (0 : Int)) = rn := by have := Hrn.out; simp only [wholeN, if_pos ht] at this; exact this
      go_wp2_with (go_at_call 34; refine (HH.out w4 b m hst).mono ?_; rintro e w5 ⟨rfl, hk5, hrd5⟩; have h5 := h4.kp hk5 hb3; have n0 := h5.n.cell; have n1 := h5.n.free; have e0 := h5.e.cell; have e1 := h5.e.free; obtain ⟨-, q1, -, -, -, -, -, -, -⟩ := hrd5.cells)
      have h6 := ((h5.setN n).setN n).setE 0
      refine leaves_cons (f := 27) (args := #[.pointer (some ⟨w.heap.size + 1 + 1, 0, none⟩)]) (by simp) (by simp [go_sem]) ?_
      refine (catch_idle _ _).mono ?_
      rintro e u' w'' ⟨rfl, rfl, rfl⟩
      refine leaves_cons (f := 26) (args := #[.pointer (some ⟨w.heap.size + 1 + 1, 0, none⟩), .pointer (some ⟨w.heap.size + 1, 0, none⟩)]) (by simp [settle]) (by simp [go_sem]) ?_
      refine (whole1_calls _ _ 0 n _ _ h6.e.cell h6.n.cell h6.n.free).mono ?_
      rintro e u' w'' ⟨rfl, rfl, hw⟩
      rw [if_pos rfl] at hw
      subst hw
      have r0 := h6.n.cell
      have r1 := h6.e.cell
      simp [Leaves, settle, results, Try.results13, go_sem, r0, r1]
      exact h6.bel
    · have ht' : ¬ (t : Int) = s.size := by omega
      obtain rfl : ((0 : Int), (4 : Int)) = rn := by have := Hrn.out; simp only [wholeN, if_neg ht] at this; exact this
      go_wp2_with (go_at_call 34; refine (HH.out w4 b m hst).mono ?_; rintro e w5 ⟨rfl, hk5, hrd5⟩; have h5 := h4.kp hk5 hb3; have n0 := h5.n.cell; have n1 := h5.n.free; have e0 := h5.e.cell; have e1 := h5.e.free; obtain ⟨-, q1, -, -, -, -, -, -, -⟩ := hrd5.cells)
      have h6 := ((h5.setN n).setN 0).setE 4
      refine leaves_cons (f := 27) (args := #[.pointer (some ⟨w.heap.size + 1 + 1, 0, none⟩)]) (by simp) (by simp [go_sem]) ?_
      refine (catch_idle _ _).mono ?_
      rintro e u' w'' ⟨rfl, rfl, rfl⟩
      refine leaves_cons (f := 26) (args := #[.pointer (some ⟨w.heap.size + 1 + 1, 0, none⟩), .pointer (some ⟨w.heap.size + 1, 0, none⟩)]) (by simp [settle]) (by simp [go_sem]) ?_
      refine (whole1_calls _ _ 4 0 _ _ h6.e.cell h6.n.cell h6.n.free).mono ?_
      rintro e u' w'' ⟨rfl, rfl, hw⟩
      rw [if_neg (by decide)] at hw
      subst hw
      have h7 := h6.setN 0
      have r0 := h7.n.cell
      have r1 := h7.e.cell
      simp [Leaves, settle, results, Try.results13, go_sem, r0, r1]
      exact h7.bel
  · have hk := hk0 k rfl
    obtain rfl : ((0 : Int), k) = rn := Hrn.out
    go_wp2_with (go_at_call 34; refine (HH.out w4 b m hst).mono ?_; rintro e w5 ⟨rfl, hk5⟩)
    have h5 := h4.kp hk5 hb3
    refine leaves_cons (f := 27) (args := #[.pointer (some ⟨w.heap.size + 1 + 1, 0, none⟩)]) (by simp) (by simp [go_sem]) ?_
    refine (catch_panicking _ 0 k [] _ h5.e.lt h5.e.cell h5.e.free).mono ?_
    rintro e u' w'' ⟨rfl, rfl, oo, rfl⟩
    have h6 := (h5.setE k).alloc oo
    refine leaves_cons (f := 26) (args := #[.pointer (some ⟨w.heap.size + 1 + 1, 0, none⟩), .pointer (some ⟨w.heap.size + 1, 0, none⟩)]) (by simp [settle]) (by simp [go_sem]) ?_
    refine (whole1_calls _ _ k 0 _ _ h6.e.cell h6.n.cell h6.n.free).mono ?_
    rintro e u' w'' ⟨rfl, rfl, hw⟩
    rw [if_neg hk] at hw
    subst hw
    have h7 := h6.setN 0
    have r0 := h7.n.cell
    have r1 := h7.e.cell
    simp [Leaves, settle, results, Try.results13, go_sem, r0, r1]
    exact h7.bel
  · exact absurd rfl ho

def signRun (s : ByteArray) (scale : Nat) (size vs here : Int) : Out := signO ⟨s, scale, size, vs, here, 0, false⟩
/-- What Number hands back. -/
def numberN (s : ByteArray) (scale : Nat) (size vs here : Int) : Int × Int := if okB scale size vs here then wholeN s.size (signRun s scale size vs here) else (0, 1)
theorem signO_stuck (c : Cx) : signO c ≠ .stuck := by
  unfold signO
  intro h
  split at h
  · unfold negO at h
    split at h
    · cases h
    · exact numberO_stk c 1 h
  · split at h
    · exact numberO_stk c 1 h
    · exact numberO_stk c 0 h
theorem signO_die (c : Cx) (k : Int) (h : signO c = .die k) : k ≠ 0 := by
  unfold signO at h
  split at h
  · unfold negO at h
    split at h
    · cases h
    · exact numberO_die h
  · split at h
    · exact numberO_die h
    · exact numberO_die h
theorem signO_m (s : ByteArray) (scale : Nat) (size vs here : Int) (m : Nat) : signO ⟨s, scale, size, vs, here, m, false⟩ = signRun s scale size vs here := rfl
theorem whole34_calls (s : ByteArray) (scale : Nat) (size vs here : Int) (w : World) (hsc : scale < 256) (hs : s.size ≤ 4611686018427387904) :
    Calls Try.prog 13 #[.string s, .int .u8 scale, .agg #[.int .i64 size, .int .i64 vs, .int .i64 here], .func (.func 34) #[] #[]] w fun e w' => e = .returned (.tuple #[.int .i64 (numberN s scale size vs here).1, .int .i64 (numberN s scale size vs here).2]) ∧ Below w.heap.size w w' := by
  unfold numberN
  rcases hob : okB scale size vs here with _ | _
  · exact whole34_arg s scale size vs here w hsc hob
  · refine whole34_read s scale size vs here w hsc hob _ (signO_stuck _) (fun k h => signO_die _ k h) hs fun W b m h => ?_
    exact number1_calls W b ⟨s, scale, size, vs, here, m, false⟩ h (okB_ok hob hs hsc m false)
theorem number20_calls (s : ByteArray) (scale : Nat) (size vs here : Int) (w : World) (hsc : scale < 256) (hs : s.size ≤ 4611686018427387904) :
    Calls Try.prog 20 #[.string s, .int .u8 scale, .agg #[.int .i64 size, .int .i64 vs, .int .i64 here]] w fun e w' => e = .returned (.tuple #[.int .i64 (numberN s scale size vs here).1, .int .i64 (numberN s scale size vs here).2]) ∧ Below w.heap.size w w' := by
  have HO := Lib.hid (fun W => whole34_calls s scale size vs here W hsc hs)
  obtain ⟨r, hr⟩ : ∃ r, numberN s scale size vs here = r := ⟨_, rfl⟩
  rw [hr] at HO ⊢
  clear hr
  go_enter Try.func20, Try.ntmps20
  go_wp2_with (go_at_call 13; refine (HO.out _).mono ?_; rintro e w1 ⟨rfl, hb⟩)
  go_ret2
  exact ⟨rfl, ((Below.refl _ w).alloc (Nat.le_refl _) _).trans (hb.mono (by simp))⟩
end Go.Proofs.Ytkomofphgnekoaa

set_option linter.unusedVariables false
set_option linter.unusedSimpArgs false
namespace Go.Proofs.Ytkomofphgnekoaa
open Go.Shelf Go.RowKit Go.Lib Go.Aids Go.MapLit Go.Proofs.YtkomofphgnekoaaW.PrintWords
open PNumber

/-- Behind a sign, or without one. -/
def tailR (s : ByteArray) (a : Nat) (r : Int × Int × Int) : Int × Int :=
  if r.2.2 = 0 then (if r.2.1 < (s.size : Int) then (0, 4) else if a = 1 then (if pk s 0 = 45 then (-r.1, 0) else (r.1, 0)) else (r.1, 0)) else (0, r.2.2)
theorem numberR_bound {c : Cx} (hm : c.mute = false) (a : Nat) (ha : a ≤ c.s.size) : -1000000000 ≤ (numberR c a).1 ∧ (numberR c a).1 ≤ 1000000000 := by
  rcases h : numberO c a with ⟨n, t⟩ | k | _
  · rw [numberR_ok hm h]
    exact (numberO_bound ha h).1
  · obtain ⟨t, ht, -⟩ := numberR_die hm h
    rw [ht]
    exact ⟨by show (-1000000000 : Int) ≤ 0; decide, by show (0 : Int) ≤ 1000000000; decide⟩
  · exact absurd h (numberO_stk c a)
theorem j1N (c : Cx) (ok : c.Ok) (hm : c.mute = false) (k a : Nat) (ha : a ≤ c.s.size) (h1 : a = 1 → 0 < c.s.size) : frisketref01_Number.j1 (k + 36) c.s c.scale a c.size c.vs c.here = some (tailR c.s a (numberR c a)) := by
  rw [frisketref01_Number.j1, number_f c ok k a ha]
  have hb := numberR_bound hm a ha
  obtain ⟨r, hr⟩ : ∃ r, numberR c a = r := ⟨_, rfl⟩
  rw [hr] at hb ⊢
  simp only [Option.bind_some]
  unfold tailR
  by_cases h0 : r.2.2 = 0
  · rw [if_pos h0, if_pos h0]
    by_cases h2 : r.2.1 < (c.s.size : Int)
    · rw [if_pos h2, if_pos h2]
    · rw [if_neg h2, if_neg h2]
      by_cases h3 : a = 1
      · have := h1 h3
        rw [if_pos (show (a : Int) = 1 by omega), if_pos (show (0 : Int) < c.s.size by omega), if_pos h3]
        have e := bt_pk c.s 0 this
        rw [show ((0 : Nat) : Int) = 0 from rfl] at e
        rw [e]
        by_cases h4 : pk c.s 0 = 45
        · rw [if_pos (show (pk c.s 0 : Int) = 45 by omega), if_pos h4, wrap64_in _ (by omega) (by omega)]
        · rw [if_neg (show ¬ (pk c.s 0 : Int) = 45 by omega), if_neg h4]
      · rw [if_neg (show ¬ (a : Int) = 1 by omega), if_neg h3]
  · rw [if_neg h0, if_neg h0]
theorem j0N (c : Cx) (ok : c.Ok) (hm : c.mute = false) (k : Nat) (b : Bool) (h1 : b = true → 0 < c.s.size) :
    frisketref01_Number.j0 (k + 37) c.s c.scale 0 b c.size c.vs c.here = some (tailR c.s (if b then 1 else 0) (numberR c (if b then 1 else 0))) := by
  rw [frisketref01_Number.j0]
  cases b
  · rw [if_neg (by decide)]
    exact j1N c ok hm k 0 (Nat.zero_le _) (by intro h; cases h)
  · rw [if_pos rfl]
    exact j1N c ok hm k 1 (h1 rfl) (fun _ => h1 rfl)
theorem number_N (s : ByteArray) (scale : Nat) (hsc : scale < 256) (size vs here : Int) (hs : s.size ≤ 4611686018427387904) : frisketref01_Number.f 37 s scale size vs here = some (numberN s scale size vs here) := by
  unfold frisketref01_Number.f
  rw [show (37 : Nat) = 28 + 9 from rfl, arg_f 28 scale hsc]
  simp only [Option.bind_some]
  unfold numberN
  rcases hob : okB scale size vs here with _ | _
  · rfl
  · rw [if_pos rfl, if_pos rfl]
    have ok := okB_ok (s := s) hob hs hsc 0 false
    obtain ⟨c, hc⟩ : ∃ c : Cx, c = ⟨s, scale, size, vs, here, 0, false⟩ := ⟨_, rfl⟩
    rw [← hc] at ok
    have key : ∀ b : Bool, (b = true → 0 < s.size) → (b = true ↔ (pk s 0 = 43 ∨ pk s 0 = 45)) → frisketref01_Number.j0 (28 + 9) s scale 0 b size vs here = some (wholeN s.size (signRun s scale size vs here)) := by
      intro b h1 h2
      have h := j0N c ok (by rw [hc]) 0 b (by rw [hc]; exact h1)
      rw [hc] at h
      refine h.trans (congrArg some ?_)
      unfold signRun signO
      rw [← hc]
      have hm : c.mute = false := by rw [hc]
      have es : c.s = s := by rw [hc]
      have fin : ∀ (a : Nat) (ng : Bool), a ≤ s.size → (a = 1 ∧ pk s 0 = 45 ↔ ng = true) → tailR s a (numberR c a) = wholeN s.size (if ng then negO (numberO c a) else numberO c a) := by
        intro a ng ha hng
        rcases ho : numberO c a with ⟨n, t⟩ | k | _
        · have hb := (numberO_bound (by rw [es]; exact ha) ho).2
          rw [es] at hb
          rw [numberR_ok hm ho]
          unfold tailR
          simp only [if_true]
          by_cases ht : t = s.size
          · rw [if_neg (show ¬ (t : Int) < s.size by omega)]
            cases ng
            · have : ¬ (a = 1 ∧ pk s 0 = 45) := fun h => by cases hng.1 h
              rw [if_neg (show ¬ (false = true) by decide)]
              unfold wholeN
              simp only
              rw [if_pos ht]
              by_cases h3 : a = 1
              · rw [if_pos h3, if_neg (fun h => this ⟨h3, h⟩)]
              · rw [if_neg h3]
            · obtain ⟨q1, q2⟩ := hng.2 rfl
              rw [if_pos q1, if_pos q2, if_pos rfl]
              unfold negO wholeN
              simp only
              rw [if_pos ht]
          · rw [if_pos (show (t : Int) < s.size by omega)]
            cases ng
            · rw [if_neg (show ¬ (false = true) by decide)]
              unfold wholeN
              simp only
              rw [if_neg ht]
            · rw [if_pos rfl]
              unfold negO wholeN
              simp only
              rw [if_neg ht]
        · obtain ⟨t, ht, hk⟩ := numberR_die hm ho
          rw [ht]
          unfold tailR
          simp only
          rw [if_neg hk]
          cases ng
          · rfl
          · rfl
        · exact absurd ho (numberO_stk c a)
      cases b
      · have h2' : ¬ (pk s 0 = 43 ∨ pk s 0 = 45) := fun h => by cases h2.2 h
        rw [es, if_neg (fun h => h2' (.inr h)), if_neg (fun h => h2' (.inl h))]
        exact fin 0 false (Nat.zero_le _) ⟨fun h => by omega, fun h => by cases h⟩
      · have h3 := h2.1 rfl
        rw [es]
        by_cases h45 : pk s 0 = 45
        · rw [if_pos h45]
          exact fin 1 true (h1 rfl) ⟨fun _ => rfl, fun _ => ⟨rfl, h45⟩⟩
        · rw [if_neg h45, if_pos (show pk s 0 = 43 by omega)]
          exact fin 1 false (h1 rfl) ⟨fun h => absurd h.2 h45, fun h => by cases h⟩
    by_cases h0 : 0 < s.size
    · have hl : ¬ s.toList = [] := by
        have := nonempty_s h0
        intro h; rw [h] at this; cases this
      have e := bt_pk s 0 h0
      rw [show ((0 : Nat) : Int) = 0 from rfl] at e
      rw [if_neg hl, if_pos (show (0 : Int) < s.size by omega), e]
      by_cases h43 : pk s 0 = 43
      · rw [if_pos (show (pk s 0 : Int) = 43 by omega)]
        exact key true (fun _ => h0) ⟨fun _ => .inl h43, fun _ => rfl⟩
      · rw [if_neg (show ¬ (pk s 0 : Int) = 43 by omega)]
        refine key _ (fun _ => h0) ⟨fun h => .inr (by rw [beq_iff_eq] at h; omega), fun h => by rw [beq_iff_eq]; omega⟩
    · have hl : s.toList = [] := by
        have := empty_s h0
        simpa using this
      have hp : pk s 0 = 0 := by unfold pk; rw [dif_neg h0]
      rw [if_pos hl]
      exact key false (fun h => by cases h) ⟨(fun h => by cases h), fun h => by omega⟩
theorem rnumberN_calls (s : ByteArray) (scale : Nat) (size vs here : Int) (w : World) (hsc : scale < 256) (hs : s.size ≤ 4611686018427387904) :
    Calls Try.prog 21 #[.string s, .int .u8 scale, .agg #[.int .i64 size, .int .i64 vs, .int .i64 here]] w fun e w' => e = .returned (.tuple #[.int .i64 (numberN s scale size vs here).1, .int .i64 (numberN s scale size vs here).2]) ∧ Below w.heap.size w w' :=
  frisketref01_Number.calls 37 s scale size vs here _ _ w (number_N s scale hsc size vs here hs)
end Go.Proofs.Ytkomofphgnekoaa

set_option linter.unusedVariables false
set_option linter.unusedSimpArgs false
namespace Go.Proofs.Ytkomofphgnekoaa
open Go.Shelf Go.RowKit Go.Lib Go.Aids Go.MapLit Go.Proofs.YtkomofphgnekoaaW.PrintWords

theorem bt_nat (s : ByteArray) (i : Int) : ∃ l : Nat, l < 256 ∧ bt s i = (l : Int) := by
  unfold bt
  split
  · exact ⟨_, UInt8.toNat_lt _, rfl⟩
  · exact ⟨0, by decide, rfl⟩
theorem letter_f (n : Int) : ∃ l : Nat, l < 256 ∧ Pletter.frisketlaw01_letter.f n = some (l : Int) := by
  unfold Pletter.frisketlaw01_letter.f
  have hw : 0 ≤ IntKind.u64.wrap n := by rw [IntKind.wrap_u64]; omega
  have e : (IntKind.u64.wrap n).tmod 8 = IntKind.u64.wrap n % 8 := Int.tmod_eq_emod_of_nonneg hw
  have q : ∃ l : Nat, l < 256 ∧ (if 0 ≤ (IntKind.u64.wrap n).tmod 8 then if (IntKind.u64.wrap n).tmod 8 < 8 then some (bt ⟨#[117, 112, 80, 105, 99, 109, 110, 118]⟩ ((IntKind.u64.wrap n).tmod 8)) else none else none) = some (l : Int) := by
    rw [e, if_pos (by omega), if_pos (by omega)]
    obtain ⟨l, hl, hb⟩ := bt_nat ⟨#[117, 112, 80, 105, 99, 109, 110, 118]⟩ (IntKind.u64.wrap n % 8)
    exact ⟨l, hl, congrArg some hb⟩
  split
  · split
    · exact ⟨(n % 256).toNat, by omega, congrArg some (by omega)⟩
    · exact q
  · exact q
theorem letter_calls (n : Int) : ∃ l : Nat, l < 256 ∧ ∀ w, Calls Try.prog 19 #[.int .i64 n] w fun e w' => e = .returned (.int .u8 l) ∧ Below w.heap.size w w' := by
  obtain ⟨l, hl, h⟩ := letter_f n
  exact ⟨l, hl, fun w => (Pletter.frisketlaw01_letter.calls n l w h).mono fun e w' h => ⟨h.1, h.2.below⟩⟩
theorem as_calls (x y z : Int) (w : World) : Calls Try.prog 18 #[.agg #[.int .i64 x, .int .i64 y, .int .i64 z]] w fun e w' => e = .returned (.agg #[.int .i64 x, .int .i64 y, .int .i64 z]) ∧ Below w.heap.size w w' :=
  Pas.frisketlaw01_as.calls x y z x y z w rfl

/-- A box of three numbers. -/
def Tb (w : World) (b : Nat) (t : TypeId) (x y z : Int) : Prop := w.heap[b]? = some (.cells #[.int .i64 x, .int .i64 y, .int .i64 z] t (0, 0))
theorem Tb.cells {w : World} {b : Nat} {t : TypeId} {x y z : Int} (h : Tb w b t x y z) : w.cell? ⟨b, 0, none⟩ = some (.int .i64 x) ∧ w.cell? ⟨b, 1, none⟩ = some (.int .i64 y) ∧ w.cell? ⟨b, 2, none⟩ = some (.int .i64 z) ∧ b < w.heap.size := by
  unfold Tb at h
  refine ⟨?_, ?_, ?_, ?_⟩
  all_goals first | (simp [World.cell?, h]; done) | skip
  rw [Array.getElem?_eq_some_iff] at h; exact h.1
theorem Tb.new (w : World) (t : TypeId) (x y z : Int) : Tb (w.alloc (.cells #[.int .i64 x, .int .i64 y, .int .i64 z] t)) w.heap.size t x y z := heap_alloc_new w _
theorem Tb.below {w w' : World} {b : Nat} {t : TypeId} {x y z : Int} (h : Tb w b t x y z) (hb : Below w.heap.size w w') : Tb w' b t x y z := (hb.block b h.cells.2.2.2).trans h

/-- Two boxes, below. -/
structure TT (w W : World) (a b : Nat) (x y z : Int) : Prop where
  c30 : Tb W a 30 x y z
  c51 : Tb W b 51 x y z
  bel : Below w.heap.size w W
theorem TT.step {w W W' : World} {a b : Nat} {x y z : Int} (h : TT w W a b x y z) (hb : Below W.heap.size W W') : TT w W' a b x y z :=
  ⟨h.c30.below hb, h.c51.below hb, h.bel.trans (hb.mono h.bel.size)⟩

set_option maxRecDepth 100000 in
set_option maxHeartbeats 8000000 in
theorem reads_calls (s : ByteArray) (size vs here scale : Int) (w : World) (hs : s.size ≤ 4611686018427387904) :
    Calls Try.prog 11 #[.string s, .agg #[.int .i64 size, .int .i64 vs, .int .i64 here], .int .i64 scale] w fun e w' => e = .returned (.bool true) ∧ Below w.heap.size w w' := by
  obtain ⟨l, hl, hL⟩ := letter_calls scale
  have hN := fun W => number20_calls s l size vs here W hl hs
  have hn := fun W => rnumberN_calls s l size vs here W hl hs
  have hE := fun W => eval_calls s l size vs here W hl hs
  have he := fun W => reval_calls s l size vs here W hl hs
  have hP := fun W => prefix_calls s l size vs here W hl hs
  have hp := fun W => rprefix_calls s l size vs here W hl hs
  have hC := fun W => change_calls scale s l size vs here W hl hs
  have hc := fun W => rchange_calls scale s l size vs here W hl hs
  obtain ⟨⟨x1, x2⟩, hx⟩ : ∃ r, numberN s l size vs here = r := ⟨_, rfl⟩
  rw [hx] at hN hn
  obtain ⟨⟨y1, y2⟩, hy⟩ : ∃ r, evalO s l size vs here = r := ⟨_, rfl⟩
  rw [hy] at hE he
  obtain ⟨⟨z1, z2, z3⟩, hz⟩ : ∃ r, prefixO s l size vs here = r := ⟨_, rfl⟩
  rw [hz] at hP hp
  obtain ⟨⟨v1, v2⟩, hv⟩ : ∃ r, changeN scale s l size vs here = r := ⟨_, rfl⟩
  rw [hv] at hC hc
  have HL := Lib.hid hL
  have HN := Lib.hid hN
  have Hn := Lib.hid hn
  have HE := Lib.hid hE
  have He := Lib.hid he
  have HP := Lib.hid hP
  have Hp := Lib.hid hp
  have HC := Lib.hid hC
  have Hc := Lib.hid hc
  clear hL hN hn hE he hP hp hC hc hx hy hz hv
  go_enter Try.func11, Try.ntmps11
  go_wp2_with fail
  refine (as_calls _ _ _ _).mono ?_
  rintro e w1 ⟨rfl, hb⟩
  have B1 := ((Below.refl _ w).alloc (Nat.le_refl _) (.cells #[.int .i64 size, .int .i64 vs, .int .i64 here] 30)).trans (hb.mono (by simp))
  have C1 := (Tb.new w 30 size vs here).below hb
  clear hb
  go_wp2_with fail
  refine (HL.out _).mono ?_
  rintro e w2 ⟨rfl, hb⟩
  have B2 := B1.trans (hb.mono B1.size)
  have C2 := C1.below hb
  have T2 : TT w (w2.alloc (.cells #[.int .i64 size, .int .i64 vs, .int .i64 here] 51)) w.heap.size w2.heap.size size vs here :=
    ⟨C2.below ((Below.refl _ _).alloc (Nat.le_refl _) _), Tb.new _ _ _ _ _, B2.alloc B2.size _⟩
  clear hb B1 C1 C2
  obtain ⟨k0, k1, k2, k3⟩ := T2.c30.cells
  obtain ⟨g0, g1, g2, g3⟩ := T2.c51.cells
  go_wp2_with fail
  refine (HN.out _).mono ?_
  rintro e w3 ⟨rfl, hb⟩
  have T3 := T2.step hb
  clear hb k0 k1 k2 k3 g0 g1 g2 g3 T2
  obtain ⟨k0, k1, k2, k3⟩ := T3.c30.cells
  obtain ⟨g0, g1, g2, g3⟩ := T3.c51.cells
  go_wp2_with fail
  refine (Hn.out _).mono ?_
  rintro e w4 ⟨rfl, hb⟩
  have T4 := T3.step hb
  clear hb k0 k1 k2 k3 g0 g1 g2 g3 T3
  obtain ⟨k0, k1, k2, k3⟩ := T4.c30.cells
  obtain ⟨g0, g1, g2, g3⟩ := T4.c51.cells
  go_wp2_with fail
  refine (HE.out _).mono ?_
  rintro e w5 ⟨rfl, hb⟩
  have T5 := T4.step hb
  clear hb k0 k1 k2 k3 g0 g1 g2 g3 T4
  obtain ⟨k0, k1, k2, k3⟩ := T5.c30.cells
  obtain ⟨g0, g1, g2, g3⟩ := T5.c51.cells
  go_wp2_with fail
  refine (He.out _).mono ?_
  rintro e w6 ⟨rfl, hb⟩
  have T6 := T5.step hb
  clear hb k0 k1 k2 k3 g0 g1 g2 g3 T5
  obtain ⟨k0, k1, k2, k3⟩ := T6.c30.cells
  obtain ⟨g0, g1, g2, g3⟩ := T6.c51.cells
  go_wp2_with fail
  refine (HP.out _).mono ?_
  rintro e w7 ⟨rfl, hb⟩
  have T7 := T6.step hb
  clear hb k0 k1 k2 k3 g0 g1 g2 g3 T6
  obtain ⟨k0, k1, k2, k3⟩ := T7.c30.cells
  obtain ⟨g0, g1, g2, g3⟩ := T7.c51.cells
  go_wp2_with fail
  refine (Hp.out _).mono ?_
  rintro e w8 ⟨rfl, hb⟩
  have T8 := T7.step hb
  clear hb k0 k1 k2 k3 g0 g1 g2 g3 T7
  obtain ⟨k0, k1, k2, k3⟩ := T8.c30.cells
  obtain ⟨g0, g1, g2, g3⟩ := T8.c51.cells
  go_wp2_with fail
  refine (HC.out _).mono ?_
  rintro e w9 ⟨rfl, hb⟩
  have T9 := T8.step hb
  clear hb k0 k1 k2 k3 g0 g1 g2 g3 T8
  obtain ⟨k0, k1, k2, k3⟩ := T9.c30.cells
  obtain ⟨g0, g1, g2, g3⟩ := T9.c51.cells
  go_wp2_with fail
  refine (Hc.out _).mono ?_
  rintro e w10 ⟨rfl, hb⟩
  have T10 := T9.step hb
  clear hb k0 k1 k2 k3 g0 g1 g2 g3 T9
  go_wp2
  go_ret
  exact ⟨rfl, T10.bel⟩
end Go.Proofs.Ytkomofphgnekoaa

set_option linter.unusedVariables false
set_option linter.unusedSimpArgs false
namespace Go.Proofs.Ytkomofphgnekoaa
open Go.Shelf Go.RowKit Go.Lib Go.Aids Go.MapLit

/-- A chain's terms: is it added, and the number. -/
def sL : List (Bool × Nat) → List UInt8
  | [] => []
  | (p, n) :: r => (if p then 43 else 45) :: (dl n ++ sL r)
def sV : List (Bool × Nat) → Int → Int
  | [], x => x
  | (p, n) :: r, x => sV r (if p then x + n else x - n)
theorem sL_append (a b : List (Bool × Nat)) : sL (a ++ b) = sL a ++ sL b := by
  induction a with
  | nil => rfl
  | cons q r ih => obtain ⟨p, n⟩ := q; simp [sL, ih]
theorem sV_append (a b : List (Bool × Nat)) (x : Int) : sV (a ++ b) x = sV b (sV a x) := by
  induction a generalizing x with
  | nil => rfl
  | cons q r ih => obtain ⟨p, n⟩ := q; simp [sV, ih]
theorem reckon_sign {c : Cx} (hm : c.mute = false) (p : Bool) (x : Int) (n t : Nat) (hx : -900000000 ≤ x ∧ x ≤ 900000000) (hn : n < 1000000) :
    reckonO c ⟨#[if p then 43 else 45]⟩ x n t = .ok (if p then x + n else x - n) t := by
  cases p
  · unfold reckonO heldO
    simp only [Bool.false_eq_true, if_false]
    rw [hm, if_neg (by decide), if_neg (by rintro ⟨h, -⟩; rcases h with h | h <;> revert h <;> decide), if_neg (by decide)]
    have e : reckonV ⟨#[45]⟩ x n = x - n := by unfold reckonV; rw [if_neg (by decide), if_pos rfl]
    rw [e, if_neg (by unfold big; omega)]
  · unfold reckonO heldO
    simp only [if_true]
    rw [hm, if_neg (by decide), if_neg (by rintro ⟨h, -⟩; rcases h with h | h <;> revert h <;> decide), if_neg (by decide)]
    have e : reckonV ⟨#[43]⟩ x n = x + n := by unfold reckonV; rw [if_pos rfl]
    rw [e, if_neg (by unfold big; omega)]
theorem sign_is (p : Bool) : (if p then 43 else 45 : UInt8) = 43 ∨ (if p then 43 else 45 : UInt8) = 45 := by cases p <;> simp
theorem sign_op (p : Bool) : ∀ x : UInt8, x = (if p then 43 else 45 : UInt8) → (x = 43 ∨ x = 45 ∨ x = 42 ∨ x = 47 ∨ x = 37 ∨ x = 60 ∨ x = 62 ∨ x = 61 ∨ x = 38 ∨ x = 58) := by
  rintro x rfl; cases p <;> simp
theorem stops_next {s : ByteArray} {a : Nat} (ts : List (Bool × Nat)) (l : List UInt8) (h : At s a (sL ts ++ l)) (hl : Stops (l.headD 0).toNat) : Stops (pk s a) := by
  rcases ts with _ | ⟨⟨p, n⟩, r⟩
  · rcases l with _ | ⟨x, l⟩
    · rw [pk_end h]; exact hl
    · rw [pk_at h]; exact hl
  · rw [pk_at (l := dl n ++ sL r ++ l) (x := if p then 43 else 45) (by rw [show (if p then (43 : UInt8) else 45) :: (dl n ++ sL r ++ l) = sL ((p, n) :: r) ++ l from rfl]; exact h)]
    exact stops_ob (sign_op p _ rfl)
theorem oper_space {s : ByteArray} {a : Nat} {l : List UInt8} (h : At s a (32 :: l)) : operL s a = none := by
  unfold operL ops
  simp only [List.find?, pre_at h, List.isPrefixOf]
  rfl
set_option maxRecDepth 100000 in
/-- The loop over a chain. -/
theorem sums_run {c : Cx} (hsc : c.scale = 117) (hm : c.mute = false) (l : List UInt8) (hl : Stops (l.headD 0).toNat) (hend : ∀ a, At c.s a l → operL c.s a = none) :
    ∀ (ts : List (Bool × Nat)) (x : Int) (a : Nat), At c.s a (sL ts ++ l) → (∀ q ∈ ts, q.2 < 1000000) → ts.length ≤ 100 → (-800000000 + 1000000 * (ts.length : Int) ≤ x ∧ x ≤ 800000000 - 1000000 * (ts.length : Int)) →
      Runs c (.loop x a 0) (.ok (sV ts x) (a + (sL ts).length)) := by
  intro ts
  induction ts with
  | nil =>
    intro x a h hq hk hx
    have := Runs.loop_end (c := c) (x := x) (a := a) (deep := 0) (by rw [skip_zero]; exact hend a h)
    rw [skip_zero] at this
    exact this
  | cons q r ihr =>
    obtain ⟨p, n⟩ := q
    intro x a h hq hk hx
    rw [List.length_cons] at hk hx
    have hn : n < 1000000 := hq (p, n) (by simp)
    have h' : At c.s a ((if p then 43 else 45) :: (dl n ++ (sL r ++ l))) := by
      have : (if p then (43 : UInt8) else 45) :: (dl n ++ (sL r ++ l)) = sL ((p, n) :: r) ++ l := by simp [sL]
      rw [this]; exact h
    have h2 := (At.next h').add
    have hs := stops_next r l h2 hl
    have e : a + (sL ((p, n) :: r)).length = a + 1 + (dl n).length + (sL r).length := by simp [sL]; omega
    rw [e]
    have ih := ihr (if p then x + n else x - n) _ h2 (fun q hq' => hq q (by simp [hq'])) (by omega) (by split <;> omega)
    have hp := pk_at h'
    obtain ⟨d, t, e', d1, d2⟩ := dl_head n
    have hop : operL c.s a = some ⟨#[if p then 43 else 45]⟩ := oper_one (d := d) (l := t ++ (sL r ++ l)) (by rw [e'] at h'; exact h') (sign_op p _ rfl) (by omega)
    exact Runs.loop_step (op := ⟨#[if p then 43 else 45]⟩) (y := n) (t := a + 1 + (dl n).length) (z := if p then x + n else x - n) (by rw [skip_zero]; exact hop) (Runs.digs hsc (At.next h') (by omega) hs hm)
      (reckon_sign hm p x n _ (by omega) hn) ih
theorem sums_mute {c : Cx} (hsc : c.scale = 117) (hm : c.mute = true) (l : List UInt8) (hl : Stops (l.headD 0).toNat) (hend : ∀ a, At c.s a l → operL c.s a = none) :
    ∀ (ts : List (Bool × Nat)) (a : Nat), At c.s a (sL ts ++ l) → (∀ q ∈ ts, q.2 < 1000000) → Runs c (.loop 0 a 0) (.ok 0 (a + (sL ts).length))
  | [], a, h, hq => by
    have := Runs.loop_end (c := c) (x := 0) (a := a) (deep := 0) (by rw [skip_zero]; exact hend a h)
    rw [skip_zero] at this
    exact this
  | (p, n) :: r, a, h, hq => by
    have hn : n < 1000000 := hq (p, n) (by simp)
    have h' : At c.s a ((if p then 43 else 45) :: (dl n ++ (sL r ++ l))) := by
      have : (if p then (43 : UInt8) else 45) :: (dl n ++ (sL r ++ l)) = sL ((p, n) :: r) ++ l := by simp [sL]
      rw [this]; exact h
    have h2 := (At.next h').add
    have hs := stops_next r l h2 hl
    have e : a + (sL ((p, n) :: r)).length = a + 1 + (dl n).length + (sL r).length := by simp [sL]; omega
    rw [e]
    have ih := sums_mute hsc hm l hl hend r _ h2 (fun q hq' => hq q (by simp [hq']))
    have hp := pk_at h'
    obtain ⟨d, t, e', d1, d2⟩ := dl_head n
    have hop : operL c.s a = some ⟨#[if p then 43 else 45]⟩ := oper_one (d := d) (l := t ++ (sL r ++ l)) (by rw [e'] at h'; exact h') (sign_op p _ rfl) (by omega)
    exact Runs.loop_step (op := ⟨#[if p then 43 else 45]⟩) (y := 0) (t := a + 1 + (dl n).length) (z := 0) (by rw [skip_zero]; exact hop) (Runs.digs_mute hsc (At.next h') (by omega) hs hm)
      (reckonO_mute hm _ _ _ _) ih

/-- The chain's text. -/
def sT : List (Bool × Nat) → ByteArray → ByteArray
  | [], s => s
  | (p, n) :: r, s => sT r (s ++ (⟨#[if p then 43 else 45]⟩ : ByteArray) ++ digs n)
theorem sT_list (ts : List (Bool × Nat)) (s : ByteArray) : (sT ts s).data.toList = s.data.toList ++ sL ts := by
  induction ts generalizing s with
  | nil => simp [sT, sL]
  | cons q r ih =>
    obtain ⟨p, n⟩ := q
    rw [sT, ih, list_append, list_append]
    simp [sL, dl]
theorem sT_snoc (ts : List (Bool × Nat)) (p : Bool) (n : Nat) (s : ByteArray) : sT (ts ++ [(p, n)]) s = sT ts s ++ (⟨#[if p then 43 else 45]⟩ : ByteArray) ++ digs n := by
  induction ts generalizing s with
  | nil => rfl
  | cons q r ih => obtain ⟨p', n'⟩ := q; rw [List.cons_append, sT, ih, sT]
def nought : ByteArray := ⟨#[48]⟩
def moreS : ByteArray := ⟨#[32, 109, 111, 114, 101]⟩
theorem nought_at {s : ByteArray} {l : List UInt8} (h : s.data.toList = 48 :: l) : At s 0 (dl 0 ++ l) := by
  rw [dl_low 0 (by decide)]
  exact h
theorem sums_eval (ts : List (Bool × Nat)) (hq : ∀ q ∈ ts, q.2 < 1000000) (hk : ts.length ≤ 100) : evalO (sT ts nought) 117 0 0 0 = (sV ts 0, 0) := by
  have hl : (sT ts nought).data.toList = 48 :: (sL ts ++ []) := by rw [sT_list]; simp [nought]
  have h0 := nought_at hl
  have h1 := h0.add
  have e1 : (dl 0).length = 1 := by rw [dl_low 0 (by decide)]; rfl
  generalize sT ts nought = s at *
  have hsz : 1 + (sL ts).length = s.size := by
    have e : s.data.toList.length = s.size := by rw [Array.length_toList]; rfl
    rw [← e, hl, List.append_nil, List.length_cons]
    omega
  unfold evalO
  rw [show okB 117 0 0 0 = true by decide +kernel]
  simp only [if_true]
  have R : Runs ⟨s, 117, 0, 0, 0, 0, false⟩ (.expr 0 0) (.ok (sV ts 0) s.size) := by
    have := sums_run (c := ⟨s, 117, 0, 0, 0, 0, false⟩) rfl rfl [] (by decide) (fun a h => oper_end h) ts 0 _ h1 hq hk (by omega)
    rw [e1, show 0 + 1 + (sL ts).length = s.size by omega] at this
    refine Runs.expr (Runs.digs (c := ⟨s, 117, 0, 0, 0, 0, false⟩) rfl (n := 0) h0 (by decide) (stops_next ts [] h1 (by decide)) rfl) ?_
    rw [e1]
    exact this
  rw [evalRun_eq R]
  simp [wholeN]
theorem sums_prefix (ts : List (Bool × Nat)) (hq : ∀ q ∈ ts, q.2 < 1000000) (hk : ts.length ≤ 100) : prefixO (sT ts nought ++ moreS) 117 0 0 0 = (sV ts 0, ((sT ts nought).size : Int), 0) := by
  have hE := sums_eval ts hq hk
  have hl : (sT ts nought ++ moreS).data.toList = 48 :: (sL ts ++ [32, 109, 111, 114, 101]) := by rw [list_append, sT_list]; simp [nought, moreS]
  have hsz : 1 + (sL ts).length = (sT ts nought).size := by
    have e : (sT ts nought).data.toList.length = (sT ts nought).size := by rw [Array.length_toList]; rfl
    rw [← e, sT_list, List.length_append]
    rfl
  have hx : (sT ts nought ++ moreS).extract 0 (sT ts nought).size = sT ts nought := by
    rw [ByteArray.extract_append_eq_left (by rfl)]
  have h0 := nought_at hl
  have h1 := h0.add
  have e1 : (dl 0).length = 1 := by rw [dl_low 0 (by decide)]; rfl
  generalize sT ts nought ++ moreS = s at *
  have R0 : Runs ⟨s, 117, 0, 0, 0, 0, true⟩ (.oper 0 0) (.ok 0 (0 + (dl 0).length)) :=
    Runs.digs_mute (c := ⟨s, 117, 0, 0, 0, 0, true⟩) rfl (n := 0) h0 (by decide) (stops_next ts [32, 109, 111, 114, 101] h1 (by decide)) rfl
  have R : Runs ⟨s, 117, 0, 0, 0, 0, true⟩ (.expr 0 0) (.ok 0 (sT ts nought).size) := by
    have := sums_mute (c := ⟨s, 117, 0, 0, 0, 0, true⟩) rfl rfl [32, 109, 111, 114, 101] (by decide) (fun a h => oper_space h) ts _ h1 hq
    rw [← hsz]
    refine Runs.expr R0 ?_
    rw [e1] at this ⊢
    rw [show 0 + 1 + (sL ts).length = 1 + (sL ts).length by omega] at this
    exact this
  have ho : operRun s 117 0 0 0 = .ok 0 (0 + (dl 0).length) := R0.eq _ (operRun_stuck s 117 0 0 0)
  unfold prefixO
  rw [show okB 117 0 0 0 = true by decide +kernel, evalRun_eq R, ho]
  simp only [if_true]
  rw [hx, hE]
  rfl
end Go.Proofs.Ytkomofphgnekoaa

set_option linter.unusedVariables false
set_option linter.unusedSimpArgs false
namespace Go.Proofs.Ytkomofphgnekoaa
open Go.Shelf Go.RowKit Go.Lib Go.Aids Go.MapLit Go.Opens Go.Proofs.YtkomofphgnekoaaW.PrintWords

/-- A number's term in the chain. -/
def termOf (x : Int) : Bool × Nat := (x.tmod 2 == 0, ((IntKind.u64.wrap x).tmod 1000000).toNat)
def terms (l : List Int) : List (Bool × Nat) := l.map termOf
theorem term_lt (l : List Int) : ∀ q ∈ terms l, q.2 < 1000000 := by
  intro q hq
  obtain ⟨x, _, rfl⟩ := List.mem_map.1 hq
  obtain ⟨n, h1, h2, h3⟩ := u64_mod x 1000000 (by decide) (by decide)
  simp only [termOf, h2]
  omega
theorem terms_take (l : List Int) (k : Nat) (h : k < l.length) : terms (l.take (k + 1)) = terms (l.take k) ++ [termOf l[k]] := by
  rw [List.take_succ_eq_append_getElem h, terms, List.map_append]; rfl
theorem sT_size (ts : List (Bool × Nat)) (hq : ∀ q ∈ ts, q.2 < 1000000) : ∀ s : ByteArray, (sT ts s).size ≤ s.size + 7 * ts.length := by
  induction ts with
  | nil => intro s; simp [sT]
  | cons q r ih =>
    intro s
    obtain ⟨p, n⟩ := q
    have hn := hq (p, n) (by simp)
    have := ih (fun q hq' => hq q (by simp [hq'])) (s ++ (⟨#[if p then 43 else 45]⟩ : ByteArray) ++ digs n)
    rw [sT]
    have hd : (digs n).size ≤ 6 := by
      have h1 := dl_len 6 n (by decide) (by simpa using hn)
      have h2 : (dl n).length = (digs n).size := by rw [dl, Array.length_toList]; rfl
      omega
    rw [ByteArray.size_append, ByteArray.size_append] at this
    have h1 : (⟨#[if p then 43 else 45]⟩ : ByteArray).size = 1 := rfl
    rw [List.length_cons]
    omega
theorem sV_bound (ts : List (Bool × Nat)) (hq : ∀ q ∈ ts, q.2 < 1000000) : ∀ x : Int, x - 1000000 * (ts.length : Int) ≤ sV ts x ∧ sV ts x ≤ x + 1000000 * (ts.length : Int) := by
  induction ts with
  | nil => intro x; simp [sV]
  | cons q r ih =>
    intro x
    obtain ⟨p, n⟩ := q
    have hn := hq (p, n) (by simp)
    have := ih (fun q hq' => hq q (by simp [hq'])) (if p then x + n else x - n)
    rw [sV, List.length_cons]
    revert this
    cases p <;> simp <;> intro h1 h2 <;> omega

theorem term_facts (x : Int) : ∃ n : Nat, n < 1000000 ∧ termOf x = (x.tmod 2 == 0, n) ∧ (∀ _ : Unit, (IntKind.u64.wrap x).tmod 1000000 = n) ∧ wrap64 n = n ∧ (digs n).size ≤ 6 := by
  obtain ⟨n, h1, h2, h3⟩ := u64_mod x 1000000 (by decide) (by decide)
  have hn : n < 1000000 := by clear h2 h3; omega
  refine ⟨n, hn, ?_, fun _ => h2, h3, ?_⟩
  · simp [termOf, h2]
  · have h1 := dl_len 6 n (by decide) (by clear h2 h3; omega)
    have h2 : (dl n).length = (digs n).size := by rw [dl, Array.length_toList]; rfl
    rw [← h2]; exact h1
theorem sum_wrap (X : Int) (n k : Nat) (hk : k < 101) (hn : n < 1000000) (h : 0 - 1000000 * (k : Int) ≤ X ∧ X ≤ 0 + 1000000 * (k : Int)) : wrap64 (X + n) = X + n ∧ wrap64 (X - n) = X - n :=
  ⟨wrap64_in _ (by omega) (by omega), wrap64_in _ (by omega) (by omega)⟩
theorem ints_at {w : World} {A : Option Addr} {l : List Int} (hC : (Kd.int .i64).C w A l.length l) (h : 0 < l.length) : ∃ b off, A = some ⟨b, off, none⟩ ∧ b < w.heap.size ∧ ∀ k (hk : k < l.length), w.cell? ⟨b, off + k, none⟩ = some (.int .i64 l[k]) := by
  obtain ⟨b, off, rfl, hb, hat⟩ := C_at hC (by decide) h
  refine ⟨b, off, rfl, hb, fun k hk => ?_⟩
  obtain ⟨c, h1, h2, h3⟩ := hat k hk
  have e : c = [.int .i64 l[k]] := h2
  subst e
  have := h3 0 _ rfl
  rw [show (Kd.int IntKind.i64).sz = 1 from rfl] at this
  simpa using this

set_option maxRecDepth 100000 in
set_option maxHeartbeats 4000000 in
theorem sums_calls (A : Option Addr) (c : Nat) (l : List Int) (w : World) (hC : (Kd.int .i64).C w A l.length l) (hl : l.length ≤ 9223372036854775807) :
    Calls Try.prog 4 #[.slice A l.length c] w fun e w' => e = .returned (.bool true) ∧ Below w.heap.size w w' := by
  have HS1 := Lib.hid (fun W => sane_calls W)
  by_cases hbig : 100 < l.length
  · go_enter Try.func4, Try.ntmps4
    go_wp2_with (go_at_call 9; refine (HS1.out _).mono ?_; rintro e w1 ⟨rfl, hb⟩)
    go_ret
    exact ⟨rfl, hb⟩
  have hSl : (sT (terms l) nought).size ≤ 1000 := by
    have := sT_size (terms l) (term_lt l) nought
    rw [show nought.size = 1 from rfl, show (terms l).length = l.length from List.length_map _] at this
    omega
  have hVl := sV_bound (terms l) (term_lt l) 0
  have htl : (terms l).length ≤ 100 := by rw [show (terms l).length = l.length from List.length_map _]; omega
  have hPs : (sT (terms l) nought ++ moreS).size ≤ 1010 := by rw [ByteArray.size_append, show moreS.size = 5 from rfl]; omega
  have E0 := sums_eval (terms l) (term_lt l) htl
  have P0 := sums_prefix (terms l) (term_lt l) htl
  have hP := fun W => prefix_calls (sT (terms l) nought ++ moreS) 117 0 0 0 W (by decide) (by omega)
  rw [P0] at hP
  have hE := fun W => eval_calls (sT (terms l) nought) 117 0 0 0 W (by decide) (by omega)
  rw [E0] at hE
  have HE := Lib.hid hE
  have HP := Lib.hid hP
  clear E0 P0 hE hP
  obtain ⟨S0, hS0⟩ : ∃ S, sT (terms l) nought = S := ⟨_, rfl⟩
  obtain ⟨X0, hX0⟩ : ∃ X, sV (terms l) 0 = X := ⟨_, rfl⟩
  rw [hS0] at hSl hPs HE HP
  rw [hX0] at hVl HE HP
  have HS0 := Lib.hid hS0
  have HX0 := Lib.hid hX0
  clear hS0 hX0 htl
  have HC : Hid (∀ k (hk : k < l.length), ∃ b off, A = some ⟨b, off, none⟩ ∧ b < w.heap.size ∧ w.cell? ⟨b, off + k, none⟩ = some (.int .i64 l[k])) := Lib.hid (fun k hk => by
    obtain ⟨b, off, rfl, hb, hat⟩ := ints_at hC (by omega)
    exact ⟨b, off, rfl, hb, hat k hk⟩)
  clear hC
  have hwl : wrap64 (l.length : Int) = l.length := wrap64_in _ (by omega) (by omega)
  go_enter Try.func4, Try.ntmps4
  go_wp2
  go_loopw [3, 4, 5] (fun s v i wr => ∃ k : Nat, k ≤ l.length ∧ i = .int .i64 k ∧ s = .string (sT (terms (l.take k)) nought) ∧ v = .int .i64 (sV (terms (l.take k)) 0) ∧ Below w.heap.size w wr) (fun _ _ i _ => l.length - (RowKit.intOf i).toNat)
  case atStart => exact ⟨0, Nat.zero_le _, rfl, rfl, rfl, Below.refl _ _⟩
  case round =>
    obtain ⟨k, hk, rfl, rfl, rfl, hb⟩ := hrel
    by_cases hlt : k < l.length
    · obtain ⟨b, off, hA, hbw, hcell0⟩ := HC.out k hlt
      subst hA
      have hcell := ((bcell hb).1 b (off + k) hbw).trans hcell0
      have hbr : b < wr.heap.size := by have := hb.size; omega
      clear hcell0
      have hts := terms_take l k hlt
      have hsz := sT_size (terms (l.take k)) (term_lt _) nought
      have hsv := sV_bound (terms (l.take k)) (term_lt _) 0
      have htl : (terms (l.take k)).length = k := by simp [terms]; omega
      rw [htl] at hsz hsv
      rw [show nought.size = 1 from rfl] at hsz
      obtain ⟨x, hx⟩ : ∃ x, l[k] = x := ⟨_, rfl⟩
      rw [hx] at hcell hts
      clear hx
      obtain ⟨n, hn, hterm, hn', hn2, hd6⟩ := term_facts x
      rw [hterm] at hts
      clear hterm
      have HD := Lib.hid (fun W => digits_calls n W (Nat.lt_trans hn (by decide)))
      obtain ⟨S, hS⟩ : ∃ S, sT (terms (l.take k)) nought = S := ⟨_, rfl⟩
      obtain ⟨X, hX⟩ : ∃ X, sV (terms (l.take k)) 0 = X := ⟨_, rfl⟩
      rw [hS] at hsz
      rw [hX] at hsv
      have hS1 : Hid (sT (terms (l.take (k + 1))) nought = S ++ (⟨#[if x.tmod 2 == 0 then 43 else 45]⟩ : ByteArray) ++ digs n) := Lib.hid (by rw [hts, sT_snoc, hS])
      have hX1 : Hid (sV (terms (l.take (k + 1))) 0 = if x.tmod 2 == 0 then X + n else X - n) := Lib.hid (by rw [hts, sV_append, hX]; rfl)
      rw [hS, hX]
      clear hts hS hX HC
      obtain ⟨hXn, hXm⟩ := sum_wrap X n k (by omega) hn hsv
      obtain ⟨D, hD⟩ : ∃ D, digs n = D := ⟨_, rfl⟩
      rw [hD] at HD hd6 hS1
      clear hD
      by_cases hp : x.tmod 2 = 0
      · have hp' : (x.tmod 2 == 0) = true := by simp [hp]
        rw [hp'] at hS1 hX1
        have hpu : ∀ _ : Unit, x.tmod 2 = 0 := fun _ => hp
        clear hp
        go_wp2_with (go_at_call 7; simp only [hn' (), hn2, hXn, hXm]; refine (HD.out _).mono ?_; rintro e w1 ⟨rfl, hb1⟩)
        go_roundw
        case rel => exact ⟨k + 1, by omega, by go_num, by rw [hS1.out]; rfl, by rw [hX1.out]; rfl, hb.trans (hb1.mono hb.size)⟩
        case measure => simp [RowKit.intOf]; omega
      · have hp' : (x.tmod 2 == 0) = false := by simp [hp]
        rw [hp'] at hS1 hX1
        have hpu : ∀ _ : Unit, ¬ x.tmod 2 = 0 := fun _ => hp
        clear hp
        go_wp2_with (go_at_call 7; simp only [hn' (), hn2, hXn, hXm]; refine (HD.out _).mono ?_; rintro e w1 ⟨rfl, hb1⟩)
        go_roundw
        case rel => exact ⟨k + 1, by omega, by go_num, by rw [hS1.out]; rfl, by rw [hX1.out]; rfl, hb.trans (hb1.mono hb.size)⟩
        case measure => simp [RowKit.intOf]; omega
    · obtain rfl : k = l.length := by omega
      rw [List.take_length, HS0.out, HX0.out]
      have hms : moreS.size = 5 := rfl
      go_wp2_with (first
        | (go_at_call 8; refine (HE.out _).mono ?_; rintro e w1 ⟨rfl, b1⟩)
        | (go_at_call 10; refine (HP.out _).mono ?_; rintro e w2 ⟨rfl, b2⟩)
        | (go_at_call 9; refine (HS1.out _).mono ?_; rintro e w3 ⟨rfl, b3⟩))
      go_ret
      have q1 := hb.trans (b1.mono hb.size)
      have q2 := q1.trans (b2.mono q1.size)
      exact ⟨rfl, q2.trans (b3.mono q2.size)⟩
end Go.Proofs.Ytkomofphgnekoaa

set_option linter.unusedVariables false
set_option linter.unusedSimpArgs false
namespace Go.Proofs.Ytkomofphgnekoaa
open Go.Shelf Go.RowKit Go.Lib Go.Aids Go.MapLit Go.Opens Go.Proofs.YtkomofphgnekoaaW.PrintWords

theorem mreads_calls (s : ByteArray) (size vs here scale : Int) (w : World) (hs : s.size ≤ 4611686018427387904) :
    Calls Try.prog 5 #[.string s, .agg #[.int .i64 size, .int .i64 vs, .int .i64 here], .int .i64 scale] w fun e w' => e = .returned (.bool true) ∧ Below w.heap.size w w' := by
  have HS := Lib.hid (fun W => sane_calls W)
  have HR := Lib.hid (fun W => reads_calls s size vs here scale W hs)
  by_cases hbig : 600 < s.size
  · go_enter Try.func5, Try.ntmps5
    go_wp2_with (go_at_call 9; refine (HS.out _).mono ?_; rintro e w1 ⟨rfl, hb⟩)
    go_ret
    exact ⟨rfl, ((Below.refl _ w).alloc (Nat.le_refl _) _).trans (hb.mono (by simp))⟩
  · go_enter Try.func5, Try.ntmps5
    go_wp2_with fail
    refine (HR.out _).mono ?_
    rintro e w1 ⟨rfl, hb⟩
    have B1 := ((Below.refl _ w).alloc (Nat.le_refl _) (.cells #[.int .i64 size, .int .i64 vs, .int .i64 here] 30)).trans (hb.mono (by simp))
    clear hb
    go_wp2_with fail
    refine (HS.out _).mono ?_
    rintro e w2 ⟨rfl, hb⟩
    go_wp2
    go_ret
    exact ⟨rfl, B1.trans (hb.mono B1.size)⟩

theorem bits_list : ∃ L : List ByteArray, L.length = 38 ∧ (∀ x ∈ L, x.size ≤ 12) ∧ Pbits.frisketlaw01_bits.f = some L := by
  refine ⟨_, ?_, ?_, rfl⟩
  · rfl
  · decide +kernel
theorem bits_calls : ∃ L : List ByteArray, L.length = 38 ∧ (∀ x ∈ L, x.size ≤ 12) ∧ ∀ w, Calls Try.prog 12 #[] w fun e w' =>
    ∃ b off c, e = .returned (.slice (some ⟨b, off, none⟩) 38 c) ∧ b < w'.heap.size ∧ (∀ k (hk : k < L.length), w'.cell? ⟨b, off + k, none⟩ = some (.string L[k])) ∧ Below w.heap.size w w' := by
  obtain ⟨L, h1, h2, h3⟩ := bits_list
  refine ⟨L, h1, h2, fun w => (Pbits.frisketlaw01_bits.calls L w h3).mono ?_⟩
  rintro e w' ⟨v, rfl, hR, hb⟩
  obtain ⟨A, c, rfl, -, hC⟩ := Kd.R_reads hR
  obtain ⟨b, off, rfl, hbl, hat⟩ := C_at hC (by decide) (by omega)
  refine ⟨b, off, c, by rw [h1], hbl, fun k hk => ?_, hb⟩
  obtain ⟨cs, q1, q2, q3⟩ := hat k hk
  have e : cs = [.string L[k]] := q2
  subst e
  have := q3 0 _ rfl
  rw [show Kd.string.sz = 1 from rfl] at this
  simpa using this

set_option maxRecDepth 100000 in
set_option maxHeartbeats 8000000 in
theorem mbits_calls (A : Option Addr) (c : Nat) (l : List Int) (size vs here scale : Int) (w : World) (hC : (Kd.int .i64).C w A l.length l) (hl : l.length ≤ 9223372036854775807) :
    Calls Try.prog 6 #[.slice A l.length c, .agg #[.int .i64 size, .int .i64 vs, .int .i64 here], .int .i64 scale] w fun e w' => e = .returned (.bool true) ∧ Below w.heap.size w w' := by
  have HS := Lib.hid (fun W => sane_calls W)
  have HR := Lib.hid (fun s x y z sc W hs => reads_calls s x y z sc W hs)
  obtain ⟨L, hL1, hL2, hB⟩ := bits_calls
  have HC : Hid (∀ k (hk : k < l.length), ∃ b off, A = some ⟨b, off, none⟩ ∧ b < w.heap.size ∧ w.cell? ⟨b, off + k, none⟩ = some (.int .i64 l[k])) := Lib.hid (fun k hk => by
    obtain ⟨b, off, rfl, hb, hat⟩ := ints_at hC (by omega)
    exact ⟨b, off, rfl, hb, hat k hk⟩)
  have HL2 := Lib.hid hL2
  have HL1 := Lib.hid hL1
  have HB := Lib.hid hB
  clear hC hL1 hL2 hB
  have h38 : IntKind.u64.wrap 38 = 38 := by decide +kernel
  go_enter Try.func6, Try.ntmps6
  go_wp2_with fail
  refine (HB.out _).mono ?_
  rintro e w1 ⟨bl, ol, cl, rfl, hbl, hcl, hb⟩
  have B1 := ((Below.refl _ w).alloc (Nat.le_refl _) (.cells #[.int .i64 size, .int .i64 vs, .int .i64 here] 30)).trans (hb.mono (by simp))
  have T1 := (Tb.new w 30 size vs here).below hb
  have HCl := Lib.hid hcl
  clear hb hcl HB
  go_wp2
  go_loop [8, 9] (fun s i => ∃ (k : Nat) (t : ByteArray), k ≤ l.length ∧ k ≤ 60 ∧ i = .int .i64 k ∧ s = .string t ∧ t.size ≤ 12 * k) (fun _ i => 61 - (RowKit.intOf i).toNat)
  case atStart => exact ⟨0, ⟨#[]⟩, Nat.zero_le _, Nat.zero_le _, rfl, rfl, by decide⟩
  case round =>
    obtain ⟨k, t, hk, hk6, rfl, rfl, ht⟩ := hrel
    by_cases hlt : k < l.length
    · by_cases hlt6 : k < 60
      · obtain ⟨b, off, hA, hbw, hcell0⟩ := HC.out k hlt
        subst hA
        have hcell := ((bcell B1).1 b (off + k) hbw).trans hcell0
        have hbr : b < w1.heap.size := by have := B1.size; omega
        clear hcell0
        obtain ⟨x, hx⟩ : ∃ x, l[k] = x := ⟨_, rfl⟩
        rw [hx] at hcell
        clear hx
        obtain ⟨n, hn, HN⟩ : ∃ n : Nat, (n : Int) < 38 ∧ Hid ((IntKind.u64.wrap x).tmod 38 = n ∧ wrap64 n = n) := by
          obtain ⟨n, hn, hn1, hn2⟩ := u64_mod x 38 (by decide) (by decide)
          exact ⟨n, hn, Lib.hid ⟨hn1, hn2⟩⟩
        have hnL : n < L.length := by have := HL1.out; omega
        have hcn := HCl.out n hnL
        have hsz := HL2.out L[n] (List.getElem_mem hnL)
        obtain ⟨y, hy⟩ : ∃ y, L[n] = y := ⟨_, rfl⟩
        rw [hy] at hcn hsz
        clear hy hnL HC HCl HL2 HL1
        obtain ⟨hn1, hn2⟩ := HN.out
        go_wp2
        clear hn1 hn2 HN
        go_round
        case rel => exact ⟨k + 1, t ++ y, by omega, by omega, by go_num, rfl, by rw [ByteArray.size_append]; omega⟩
        case measure => simp [RowKit.intOf]; omega
      · obtain rfl : k = 60 := by omega
        have HT := Lib.hid (fun x y z sc W => HR.out t x y z sc W (by omega))
        obtain ⟨k0, k1, k2, k3⟩ := T1.cells
        clear HC HCl HL2 HL1 HR
        go_wp2_with fail
        refine (HT.out _ _ _ _ _).mono ?_
        rintro e w2 ⟨rfl, hb2⟩
        have B2 := B1.trans (hb2.mono B1.size)
        clear hb2
        go_wp2_with fail
        refine (HS.out _).mono ?_
        rintro e w3 ⟨rfl, hb3⟩
        go_wp2
        go_ret
        exact ⟨rfl, B2.trans (hb3.mono B2.size)⟩
    · obtain rfl : k = l.length := by omega
      have HT := Lib.hid (fun x y z sc W => HR.out t x y z sc W (by omega))
      obtain ⟨k0, k1, k2, k3⟩ := T1.cells
      clear HC HCl HL2 HL1 HR
      go_wp2_with fail
      refine (HT.out _ _ _ _ _).mono ?_
      rintro e w2 ⟨rfl, hb2⟩
      have B2 := B1.trans (hb2.mono B1.size)
      clear hb2
      go_wp2_with fail
      refine (HS.out _).mono ?_
      rintro e w3 ⟨rfl, hb3⟩
      go_wp2
      go_ret
      exact ⟨rfl, B2.trans (hb3.mono B2.size)⟩
end Go.Proofs.Ytkomofphgnekoaa

set_option linter.unusedVariables false
namespace Go.Proofs.Ytkomofphgnekoaa
open Go.Shelf Go.RowKit Go.Lib Go.Aids Go.MapLit Go.Opens Go.Proofs.YtkomofphgnekoaaW.PrintWords

theorem mreads_row {W w : World} {cs : Array Value} {a : Int × Int × Int} (h : kThree.K W a cs.toList) (s : ByteArray) (scale : Int) (hs : s.size ≤ 140737488351232) :
    Calls Try.prog 5 #[.string s, .agg cs, .int .i64 scale] w fun e w' => e = .returned (.bool true) ∧ Below w.heap.size w w' := by
  rw [three_is h]
  exact mreads_calls _ _ _ _ _ w (by omega)
theorem mbits_row {W w : World} {cs : Array Value} {a : Int × Int × Int} (h : kThree.K W a cs.toList) (A : Option Addr) (c : Nat) (l : List Int) (scale : Int) (hC : kInt.C w A l.length l) (hl : l.length ≤ 9223372036854775807) :
    Calls Try.prog 6 #[.slice A l.length c, .agg cs, .int .i64 scale] w fun e w' => e = .returned (.bool true) ∧ Below w.heap.size w w' := by
  rw [three_is h]
  exact mbits_calls A c l _ _ _ _ w hC hl
end Go.Proofs.Ytkomofphgnekoaa

set_option linter.unusedVariables false
namespace Go.RowAid
open Go.RowKit Go.WideShapes Go.ChangeShapes
variable {H : Type} {enc : TypeId × Value → H} {P : Program}

/-- What 'post' asks, of a world below whose first new block nothing has turned: whatever lies beyond may be frozen. -/
theorem post_of_below {f : Func} {s : ChangeSpec} {apart fresh handsOn again : Bool} {W W' : World} {args : Array Value} {v : Value} {ds gs : List (DataW H)} {before pa pv : List MemPlace}
    (hW : DataW.Whole enc P f.params.toList s.vars apart W args.toList ds gs before)
    (hres : ∀ (b : Nat) (sp : Nat → Bool) (hd : Bool), DataW.TrodAll enc P W' b sp hd f.resultTypes.toList (v.resultList f.resultTypes.size) (s.fn H (ds ++ gs)).results [])
    (hargs : ∀ sp : Nat → Bool, (∀ p ∈ before, sp p.block = true) → DataW.TrodAll enc P W' 0 sp true f.params.toList args.toList (s.fn H (ds ++ gs)).args pa)
    (hvars : ∀ sp : Nat → Bool, (∀ p ∈ before, sp p.block = true) → DataW.TrodVars enc P W' sp s.vars (s.fn H (ds ++ gs)).vars pv)
    (hps : before = pa ++ pv) (hb : Below W.heap.size W W')
    (hok : ∀ (j : Nat) (t : TypeId) (r : Value), f.resultTypes[j]? = some t → (v.resultList f.resultTypes.size)[j]? = some r → Value.okWide P W' .any 0 t r) :
    s.post enc P f apart fresh handsOn again W args v W' := by
  have below : ∀ p ∈ before, p.block < W.heap.size := fun p hp => hW.lt p hp
  have known : ∀ p ∈ before, (fun b => decide (b < W.heap.size)) p.block = true := fun p hp => decide_eq_true (below p hp)
  refine ⟨ds, gs, before, [], pa, pv, hW, hres _ _ _, hargs _ known, hvars _ known, World.keptBut_mono (fun p hp => ⟨hp, ?_⟩) (hb.frame (· ∈ before)), fun _ => ?_⟩
  · rw [hps, List.mem_append] at hp
    exact .inr hp
  obtain ⟨_, _, _, _, _, free, alone⟩ := hW
  refine ⟨hok, _, _, ([] ++ pa) ++ pv, ⟨[] ++ pa, pv, trodAll_append (hargs _ (fun _ _ => rfl)) (hres _ _ _), hvars _ (fun _ _ => rfl), rfl, ?_, ?_⟩, ?_⟩
  · intro b off hp
    have there : MemPlace.cell b off ∈ before := by rw [hps]; simpa using hp
    rw [hb.frozen (below _ there)]
    exact free b off there
  · intro ha
    have := alone ha
    rw [hps] at this
    simpa using this
  · intro p hp _
    rw [hps]
    simpa using hp
end Go.RowAid

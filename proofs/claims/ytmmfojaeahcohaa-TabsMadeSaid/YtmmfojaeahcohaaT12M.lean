/- The plain words of tabs.Set: widths, the next stop, halves; what the printed functions say. -/
import Derived.Test.YtmmfojaeahcohaaT12L
import Derived.Test.YtmmfojaeahcohaaNextA
set_option linter.unusedVariables false
set_option linter.unusedSimpArgs false
namespace Go.Proofs.Ytmmfojaeahcohaa
open Go.Lib Go.RowKit Go.Proofs.YtmmfojaeahcohaaW.PrintWords Go.Proofs.YtmmfojaeahcohaaW.PrintMore Go.Proofs.Ytmmfojaeahcohaa.PTabsMade

theorem wrap64_in (n : Int) (h0 : -9223372036854775808 ≤ n) (h1 : n ≤ 9223372036854775807) : wrap64 n = n := by unfold wrap64; omega
theorem wrap_s (a n : Nat) (h : a < n) (hn : n ≤ 4611686018427387904) : wrap64 ((a : Int) + 1) = ((a + 1 : Nat) : Int) := by rw [wrap64_in _ (by omega) (by omega)]; rfl
def wideS (x : S28) : Int := if x.f0 = 0 ∨ x.f0 = 1 ∨ x.f0 = 2 ∨ x.f0 = 4 ∨ x.f0 = 6 then x.f1 else 0
def widthL : List S28 → Int
  | [] => 0
  | x :: r => wideS x + widthL r
theorem rd28 (L : List S28) (a : Nat) (h : a < L.length) : rd_T28 L (a : Int) = L[a] := by
  simp [rd_T28, List.getD, h]
theorem rd68 (L : List S68) (a : Nat) (h : a < L.length) : rd_T68 L (a : Int) = L[a] := by
  simp [rd_T68, List.getD, h]
/-- Boxes whose widths are no greater than widths are. -/
def Wid (L : List S28) : Prop := ∀ x ∈ L, -1000000 ≤ x.f1 ∧ x.f1 ≤ 1000000
theorem wideS_b (x : S28) (h : -1000000 ≤ x.f1 ∧ x.f1 ≤ 1000000) : -1000000 ≤ wideS x ∧ wideS x ≤ 1000000 := by
  unfold wideS; split <;> omega
theorem widthL_b : ∀ L : List S28, Wid L → -(1000000 * (L.length : Int)) ≤ widthL L ∧ widthL L ≤ 1000000 * (L.length : Int)
  | [], _ => by simp [widthL]
  | x :: r, h => by
    have h1 := widthL_b r (fun y hy => h y (by simp [hy]))
    have h2 := wideS_b x (h x (by simp))
    have e : widthL (x :: r) = wideS x + widthL r := rfl
    have l : ((x :: r).length : Int) = (r.length : Int) + 1 := by simp
    rw [e, l]; omega
theorem width_l (L : List S28) (hW : Wid L) (hn : L.length ≤ 1000000) : ∀ f i (acc : Int), i ≤ L.length → L.length ≤ i + f → -(1000000 * (i : Int)) ≤ acc → acc ≤ 1000000 * (i : Int) →
    glyph_Width.l0 (f + 1) acc L (L.length : Int) (i : Nat) = some (acc + widthL (L.drop i))
  | f, i, acc, h1, h2, h3, h4 => by
    by_cases hlt : i < L.length
    · obtain ⟨f', rfl⟩ : ∃ f', f = f' + 1 := ⟨f - 1, by omega⟩
      have hd : L.drop i = L[i] :: L.drop (i + 1) := List.drop_eq_getElem_cons hlt
      have hb := hW _ (List.getElem_mem hlt)
      have e : widthL (L.drop i) = wideS L[i] + widthL (L.drop (i + 1)) := by rw [hd]; rfl
      rw [glyph_Width.l0, if_pos (by omega), if_pos (by omega), if_pos (by omega), rd28 L i hlt, wrap_s i L.length hlt (by omega), wrap64_in _ (by omega) (by omega), e]
      have ih1 := width_l L hW hn f' (i + 1) (acc + L[i].f1) (by omega) (by omega) (by omega) (by omega)
      have ih0 := width_l L hW hn f' (i + 1) acc (by omega) (by omega) (by omega) (by omega)
      rw [ih1, ih0]
      unfold wideS
      repeat' split
      all_goals first | (congr 1; omega) | (exfalso; omega)
    · have hd : L.drop i = [] := List.drop_eq_nil_of_le (by omega)
      rw [glyph_Width.l0, if_neg (by omega), hd]
      simp [widthL]
theorem width_f (L : List S28) (hW : Wid L) (hn : L.length ≤ 1000000) : glyph_Width.f (L.length + 1) L = some (widthL L) := by
  unfold glyph_Width.f
  have := width_l L hW hn L.length 0 0 (by omega) (by omega) (by simp) (by simp)
  rw [Int.zero_add] at this
  exact this
theorem width_calls (A : Option Addr) (c : Nat) (L : List S28) (hW : Wid L) (hn : L.length ≤ 1000000) (w : World) (hC : Kd.C k28 w A L.length L) (hc : L.length ≤ c) :
    Calls Try.prog 32 #[.slice A L.length c] w fun e w' => e = .returned (.int .i64 (widthL L)) ∧ Below w.heap.size w w' :=
  glyph_Width.calls _ A c L _ w hC hc (width_f L hW hn)
/-- The next stop. -/
def nextL : List S68 → Int → Int → Int → Int × Int × Bool
  | [], last, ev, at_ => if ev = 0 then (0, 0, false) else (last + ((max (at_ - last) 0) / ev + 1) * ev, 76, true)
  | t :: r, last, ev, at_ => if at_ < t.f0 then (t.f0, t.f1, true) else nextL r t.f0 ev at_
/-- What stops that are valid are. -/
def Stp (L : List S68) : Prop := ∀ t ∈ L, 0 ≤ t.f0 ∧ t.f0 ≤ 1000000
theorem okStops_stp : ∀ (L : List S68) (last : Int), -1 ≤ last → okStops last L = true → Stp L
  | [], _, _, _ => fun t h => by cases h
  | t :: r, last, h0, h => by
    have e : okStops last (t :: r) = (decide (last < t.f0) && (decide (t.f0 ≤ 1000000) && (kindT t.f1 && okStops t.f0 r))) := rfl
    rw [e] at h
    simp only [Bool.and_eq_true, decide_eq_true_eq] at h
    obtain ⟨h1, h2, h3, h4⟩ := h
    intro u hu
    rw [List.mem_cons] at hu
    rcases hu with rfl | hu
    · exact ⟨by omega, h2⟩
    · exact okStops_stp r t.f0 (by omega) h4 u hu
theorem step_bound (X ev : Int) (hx : 0 ≤ X) (hx2 : X ≤ 10000000000000) (he : 0 < ev) (he2 : ev ≤ 1000000) : 0 ≤ X / ev ∧ X / ev ≤ X ∧ 0 ≤ (X / ev + 1) * ev ∧ (X / ev + 1) * ev ≤ X + ev ∧ X < (X / ev + 1) * ev := by
  have h1 := Int.ediv_nonneg hx (Int.le_of_lt he)
  have h2 := Int.ediv_mul_le X (Int.ne_of_gt he)
  have h3 := Int.ediv_le_self ev hx
  have h4 := Int.lt_ediv_add_one_mul_self X he
  have h5 : (X / ev + 1) * ev = X / ev * ev + ev := by rw [Int.add_mul, Int.one_mul]
  rw [h5] at h4 ⊢
  have h6 := Int.mul_nonneg h1 (Int.le_of_lt he)
  exact ⟨h1, h3, by omega, by omega, h4⟩
theorem next_l (L : List S68) (ev at_ : Int) (hS : Stp L) (hn : L.length ≤ 1000000) (h0 : 0 ≤ ev) (h1 : ev ≤ 1000000) (ha0 : -1000000000000 ≤ at_) (ha1 : at_ ≤ 1000000000000) : ∀ f i (last : Int), i ≤ L.length → L.length ≤ i + f → 0 ≤ last → last ≤ 1000000 →
    tabs_next.l0 (f + 1) at_ last L (L.length : Int) (i : Nat) L ev = some (nextL (L.drop i) last ev at_)
  | f, i, last, h2, h3, h4, h5 => by
    by_cases hlt : i < L.length
    · obtain ⟨f', rfl⟩ : ∃ f', f = f' + 1 := ⟨f - 1, by omega⟩
      have hd : L.drop i = L[i] :: L.drop (i + 1) := List.drop_eq_getElem_cons hlt
      have hb := hS _ (List.getElem_mem hlt)
      rw [tabs_next.l0, if_pos (by omega), if_pos (by omega), if_pos (by omega), rd68 L i hlt, wrap_s i L.length hlt (by omega), hd]
      unfold nextL
      by_cases hg : at_ < L[i].f0
      · rw [if_pos hg, if_pos (by omega)]
      · rw [if_neg hg, if_neg (by omega)]
        exact next_l L ev at_ hS hn h0 h1 ha0 ha1 f' (i + 1) L[i].f0 (by omega) (by omega) hb.1 hb.2
    · have hd : L.drop i = [] := List.drop_eq_nil_of_le (by omega)
      rw [tabs_next.l0, if_neg (by omega), hd]
      unfold nextL
      by_cases he : ev = 0
      · rw [if_pos he, if_pos he]
      · rw [if_neg he, if_neg he]
        have hm : mx (wrap64 (at_ - last)) 0 = max (at_ - last) 0 := by
          rw [wrap64_in _ (by omega) (by omega)]
          unfold mx
          split <;> omega
        rw [hm]
        obtain ⟨X, hX⟩ : ∃ X, max (at_ - last) 0 = X := ⟨_, rfl⟩
        rw [hX]
        have hX1 : 0 ≤ X ∧ X ≤ 1000000000000 := by omega
        obtain ⟨b1, b2, b3, b4, _⟩ := step_bound X ev hX1.1 (by omega) (by omega) h1
        clear hX hm
        obtain ⟨q, hq⟩ : ∃ q, X / ev = q := ⟨_, rfl⟩
        rw [hq] at b1 b2 b3 b4 ⊢
        clear hq
        rw [wrap64_in q (by omega) (by omega), wrap64_in (q + 1) (by omega) (by omega)]
        obtain ⟨p, hp⟩ : ∃ p, (q + 1) * ev = p := ⟨_, rfl⟩
        rw [hp] at b3 b4 ⊢
        rw [wrap64_in p (by omega) (by omega), wrap64_in _ (by omega) (by omega)]
theorem next_f (L : List S68) (ev at_ : Int) (hS : Stp L) (hn : L.length ≤ 1000000) (h0 : 0 ≤ ev) (h1 : ev ≤ 1000000) (ha0 : -1000000000000 ≤ at_) (ha1 : at_ ≤ 1000000000000) : tabs_next.f (L.length + 1) L ev at_ = some (nextL L 0 ev at_) := by
  unfold tabs_next.f
  exact next_l L ev at_ hS hn h0 h1 ha0 ha1 L.length 0 0 (by omega) (by omega) (by omega) (by omega)
theorem next_calls (A : Option Addr) (c : Nat) (L : List S68) (ev at_ : Int) (hS : Stp L) (hn : L.length ≤ 1000000) (h0 : 0 ≤ ev) (h1 : ev ≤ 1000000) (ha0 : -1000000000000 ≤ at_) (ha1 : at_ ≤ 1000000000000) (w : World) (hC : Kd.C k68 w A L.length L) (hc : L.length ≤ c) :
    Calls Try.prog 33 #[.agg #[.slice A L.length c, .int .i64 ev], .int .i64 at_] w fun e w' => e = .returned (.tuple #[.agg #[.int .i64 (nextL L 0 ev at_).1, .int .u8 (nextL L 0 ev at_).2.1], .bool (nextL L 0 ev at_).2.2]) ∧ Below w.heap.size w w' :=
  tabs_next.calls _ A c L ev at_ _ _ _ w hC hc (next_f L ev at_ hS hn h0 h1 ha0 ha1)
theorem next_bound (L : List S68) (ev at_ : Int) (hS : Stp L) (h0 : 0 ≤ ev) (h1 : ev ≤ 1000000) (ha0 : -1000000000000 ≤ at_) (ha1 : at_ ≤ 1000000000000) : ∀ last, 0 ≤ last → last ≤ 1000000 → 0 ≤ (nextL L last ev at_).1 ∧ (nextL L last ev at_).1 ≤ (max at_ 1000000) + 1000000 := by
  induction L with
  | nil =>
    intro last h2 h3
    unfold nextL
    by_cases he : ev = 0
    · rw [if_pos he]; simp only; omega
    · rw [if_neg he]
      simp only
      obtain ⟨X, hX⟩ : ∃ X, max (at_ - last) 0 = X := ⟨_, rfl⟩
      rw [hX]
      have hX1 : 0 ≤ X ∧ X ≤ 1000000000000 ∧ last + X ≤ max at_ 1000000 := by omega
      obtain ⟨b1, b2, b3, b4, _⟩ := step_bound X ev hX1.1 (by omega) (by omega) h1
      omega
  | cons t r ih =>
    intro last h2 h3
    have hb := hS t (by simp)
    unfold nextL
    by_cases hg : at_ < t.f0
    · rw [if_pos hg]; simp only; omega
    · rw [if_neg hg]
      exact ih (fun u hu => hS u (by simp [hu])) t.f0 hb.1 hb.2
/-- Half of a width, rounded down. -/
theorem half_f (n : Int) (h0 : -1000000000000 ≤ n) (h1 : n ≤ 1000000000000) : tabs_half.f n = some (n / 2) := by
  unfold tabs_half.f
  have e : Go.bits .and .i64 n 1 = n % 2 := by
    have h127 : (BitVec.ofInt 64 1).toNat = 2 ^ 1 - 1 := by decide
    have key : (BitVec.ofInt 64 n &&& BitVec.ofInt 64 1).toNat = (n % ((2 ^ 64 : Nat) : Int)).toNat % 2 ^ 1 := by
      rw [BitVec.toNat_and, BitVec.toNat_ofInt, h127, Nat.and_two_pow_sub_one_eq_mod]
    show IntKind.i64.wrap ((BitVec.ofInt 64 n &&& BitVec.ofInt 64 1).toNat : Nat) = n % 2
    rw [key, IntKind.wrap_i64]
    omega
  rw [e, wrap64_in (n - n % 2) (by omega) (by omega)]
  have e2 : (n - n % 2).tdiv 2 = n / 2 := by
    have : n - n % 2 = 2 * (n / 2) := by omega
    rw [this, Int.mul_comm, Int.mul_tdiv_cancel _ (by omega)]
  rw [e2, wrap64_in _ (by omega) (by omega)]
theorem half_calls (n : Int) (h0 : -1000000000000 ≤ n) (h1 : n ≤ 1000000000000) (w : World) : Calls Try.prog 34 #[.int .i64 n] w fun e w' => e = .returned (.int .i64 (n / 2)) ∧ Below w.heap.size w w' :=
  (tabs_half.calls n _ w (half_f n h0 h1)).mono fun e w' ⟨h, hd⟩ => ⟨h, hd.below⟩
end Go.Proofs.Ytmmfojaeahcohaa

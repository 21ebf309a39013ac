/- Merged: T12XA, T12XB, T12XC, T12XM, T12XN, T12XO, T12XQ, T12XR, T12N, T12O, T12P, T12R, T12S, T12Q, T12XD, T12XE, T12XG, T12T, T12XK, T12XF, T12XI, T12XJ. -/
import Derived.Test.YtmmfojaeahcohaaT12A
import Derived.Test.YtmmfojaeahcohaaNextB
import Derived.Test.YtmmfojaeahcohaaT12M
import Derived.Test.YtmmfojaeahcohaaPTabsMadex5
import Derived.Test.YtmmfojaeahcohaaT12L
import Derived.Test.YtmmfojaeahcohaaT12E
import Derived.Lib.SliceRun
import Derived.Test.YtmmfojaeahcohaaNextF
import Derived.Test.YtmmfojaeahcohaaPTabsMadex9
import Derived.Deep.RegionHeld3
import Derived.BigQuiet
import Derived.StillTailTactics
set_option linter.unusedVariables false
set_option linter.unusedSimpArgs false
namespace Go.Proofs.Ytmmfojaeahcohaa
open Go.Lib Go.RowKit Go.Proofs.YtmmfojaeahcohaaW.PrintWords Go.Proofs.Ytmmfojaeahcohaa.PTabsMade

theorem wrapI (n : Int) (h0 : -9223372036854775808 ≤ n) (h1 : n ≤ 9223372036854775807) : wrap64 n = n := by unfold wrap64; omega
theorem wrapS (a n : Nat) (h : a < n) (hn : n ≤ 9223372036854775807) : wrap64 ((a : Int) + 1) = ((a + 1 : Nat) : Int) := by rw [wrapI _ (by omega) (by omega)]; rfl
theorem bt_pk (s : ByteArray) (a : Nat) (h : a < s.size) : bt s (a : Int) = (pk s a : Int) := by
  have : a < s.data.toList.length := by rw [Array.length_toList]; exact h
  simp [bt, pk, h]
theorem rname_l (s : ByteArray) (hs : s.size ≤ 9223372036854775807) : ∀ f i, s.size ≤ i + f → frisketref08_IsName.l0 (f + 1) s (i : Nat) = some (decide (1 ≤ s.size) && (decide (s.size ≤ 10) && allOk s i))
  | f, i, h => by
    rw [frisketref08_IsName.l0]
    by_cases hlt : i < s.size
    · obtain ⟨f', rfl⟩ : ∃ f', f = f' + 1 := ⟨f - 1, by omega⟩
      rw [if_pos (by omega), if_pos (by omega), bt_pk s i hlt, allOk_step s i hlt]
      by_cases h1 : pk s i < 33
      · rw [if_pos (by omega), show okN (pk s i) = false by unfold okN; rw [decide_eq_false_iff_not]; omega]; simp
      · rw [if_neg (by omega)]
        by_cases h2 : 126 < pk s i
        · rw [if_pos (by omega), show okN (pk s i) = false by unfold okN; rw [decide_eq_false_iff_not]; omega]; simp
        · rw [if_neg (by omega), wrapS i s.size hlt hs, rname_l s hs f' (i + 1) (by omega), show okN (pk s i) = true by unfold okN; rw [decide_eq_true_eq]; omega]
          rfl
    · rw [if_neg (by omega), allOk_end s i hlt]
      by_cases h1 : 1 ≤ s.size
      · rw [if_pos (by omega), decide_eq_true h1]
        simp; omega
      · rw [if_neg (by omega), decide_eq_false h1]
        rfl
theorem rname_f (s : ByteArray) (hs : s.size ≤ 9223372036854775807) (k : Nat) (hk : s.size + 1 ≤ k) : frisketref08_IsName.f k s = some (nameB s) := by
  obtain ⟨g, rfl⟩ : ∃ g, k = g + 1 := ⟨k - 1, by omega⟩
  exact rname_l s hs g 0 (by omega)
theorem rcol_l (s : ByteArray) (hs : s.size ≤ 9223372036854775807) : ∀ f i, s.size ≤ i + f → frisketref08_colour.l0 (f + 1) s (i : Nat) = some (decide (s.size ≤ 20) && allOk s i)
  | f, i, h => by
    rw [frisketref08_colour.l0]
    by_cases hlt : i < s.size
    · obtain ⟨f', rfl⟩ : ∃ f', f = f' + 1 := ⟨f - 1, by omega⟩
      rw [if_pos (by omega), if_pos (by omega), bt_pk s i hlt, allOk_step s i hlt]
      by_cases h1 : pk s i < 33
      · rw [if_pos (by omega), show okN (pk s i) = false by unfold okN; rw [decide_eq_false_iff_not]; omega]; simp
      · rw [if_neg (by omega)]
        by_cases h2 : 126 < pk s i
        · rw [if_pos (by omega), show okN (pk s i) = false by unfold okN; rw [decide_eq_false_iff_not]; omega]; simp
        · rw [if_neg (by omega), wrapS i s.size hlt hs, rcol_l s hs f' (i + 1) (by omega), show okN (pk s i) = true by unfold okN; rw [decide_eq_true_eq]; omega]
          rfl
    · rw [if_neg (by omega), allOk_end s i hlt]
      simp; omega
theorem rcol_f (s : ByteArray) (hs : s.size ≤ 9223372036854775807) (k : Nat) (hk : s.size + 1 ≤ k) : frisketref08_colour.f k s = some (colB s) := by
  obtain ⟨g, rfl⟩ : ∃ g, k = g + 1 := ⟨k - 1, by omega⟩
  exact rcol_l s hs g 0 (by omega)
theorem beqL (a b : List UInt8) : (a == b) = decide (a = b) := by by_cases h : a = b <;> simp [h]
theorem tol0 (n : ByteArray) : n.toList = [] ↔ n.size = 0 := by
  rw [Lib.toList_data, ← List.length_eq_zero_iff, Array.length_toList]; rfl
theorem tol1 (n : ByteArray) (b : UInt8) : n.toList = [b] ↔ n.size = 1 ∧ pk n 0 = b.toNat := by
  rw [Lib.toList_data]
  constructor
  · intro h
    obtain ⟨⟨l⟩⟩ := n
    simp only at h
    subst h
    exact ⟨rfl, rfl⟩
  · rintro ⟨h1, h2⟩
    obtain ⟨⟨l⟩⟩ := n
    match l, h1, h2 with
    | [x], _, h2 =>
      have h3 : x.toNat = b.toNat := h2
      have : x = b := UInt8.toNat_inj.1 h3
      subst this; rfl
theorem any_drop (l : List Int) (i : Nat) (h : i < l.length) : (l.drop i).any farB = (farB l[i] || (l.drop (i + 1)).any farB) := by
  rw [List.drop_eq_getElem_cons h]; rfl
theorem rdI (l : List Int) (i : Nat) (h : i < l.length) : rd l (i : Int) = l[i] := by
  simp [rd, h]
theorem bare_col (c : ByteArray) (h : c.toList = []) : colB c = true := by
  rw [tol0] at h
  unfold colB
  rw [allOk_end c 0 (by omega), h]; rfl
end Go.Proofs.Ytmmfojaeahcohaa

set_option linter.unusedVariables false
set_option linter.unusedSimpArgs false
namespace Go.Proofs.Ytmmfojaeahcohaa
open Go.Lib Go.RowKit Go.Proofs.YtmmfojaeahcohaaW.PrintWords Go.Proofs.Ytmmfojaeahcohaa.PTabsMade

def cv (x : S68) : S84 := ⟨x.f0, x.f1⟩
theorem cv0 (x : S68) : (cv x).f0 = x.f0 := rfl
theorem cv1 (x : S68) : (cv x).f1 = x.f1 := rfl
theorem beqI (a b : Int) : (a == b) = decide (a = b) := by by_cases h : a = b <;> simp [h]
theorem rd84 (L : List S68) (a : Nat) (h : a < L.length) : rd_T84 (L.map cv) (a : Int) = cv L[a] := by
  simp [rd_T84, h]
theorem rtv_l (L : List S68) (ev : Int) (hL : L.length ≤ 9223372036854775807) : ∀ f i (last : Int), L.length ≤ i + f → ((i = 0 ∧ last = -1) ∨ (∃ h : i - 1 < L.length, 0 < i ∧ last = L[i - 1].f0 ∧ 0 ≤ last)) →
    frisketref12_Valid.l0 (f + 1) (i : Nat) (L.map cv) ev = some (okStops last (L.drop i) && (decide (L.length ≤ 40) && (decide (0 ≤ ev) && decide (ev ≤ 1000000))))
  | f, i, last, h, hlast => by
    rw [frisketref12_Valid.l0]
    simp only [List.length_map]
    by_cases hlt : i < L.length
    · obtain ⟨f', rfl⟩ : ∃ f', f = f' + 1 := ⟨f - 1, by omega⟩
      have hd : L.drop i = L[i] :: L.drop (i + 1) := List.drop_eq_getElem_cons hlt
      have ih : 0 ≤ L[i].f0 → frisketref12_Valid.l0 (f' + 1) ((i + 1 : Nat) : Int) (L.map cv) ev = some (okStops L[i].f0 (L.drop (i + 1)) && (decide (L.length ≤ 40) && (decide (0 ≤ ev) && decide (ev ≤ 1000000)))) := fun h0 =>
        rtv_l L ev hL f' (i + 1) L[i].f0 (by omega) (.inr ⟨by omega, by omega, rfl, h0⟩)
      rw [if_pos (by omega), if_pos (by omega), rd84 L i hlt, hd]
      obtain ⟨t, ht⟩ : ∃ t, L[i] = t := ⟨_, rfl⟩
      rw [ht] at ih ⊢
      have e : okStops last (t :: L.drop (i + 1)) = (decide (last < t.f0) && (decide (t.f0 ≤ 1000000) && (kindT t.f1 && okStops t.f0 (L.drop (i + 1))))) := rfl
      rw [e, cv0, cv1]
      by_cases h0 : t.f0 < 0
      · rw [if_pos h0, decide_eq_false (by rcases hlast with ⟨_, h⟩ | ⟨_, _, _, h⟩ <;> omega)]; rfl
      · rw [if_neg h0]
        have ih := ih (by omega)
        by_cases h1 : t.f0 > 1000000
        · rw [if_pos h1, decide_eq_false (by omega : ¬ t.f0 ≤ 1000000)]; simp
        · rw [if_neg h1, decide_eq_true (by omega : t.f0 ≤ 1000000), wrapS i L.length hlt hL, ih]
          have tail : (if (i : Int) > 0 then (if 0 ≤ (wrap64 ((i : Int) - 1)) then (if (wrap64 ((i : Int) - 1)) < (L.length : Int) then (if ((rd_T84 (L.map cv) (wrap64 ((i : Int) - 1))).f0) ≥ t.f0 then (some false) else some (okStops t.f0 (L.drop (i + 1)) && (decide (L.length ≤ 40) && (decide (0 ≤ ev) && decide (ev ≤ 1000000))))) else (none)) else (none)) else some (okStops t.f0 (L.drop (i + 1)) && (decide (L.length ≤ 40) && (decide (0 ≤ ev) && decide (ev ≤ 1000000))))) = some (decide (last < t.f0) && (okStops t.f0 (L.drop (i + 1)) && (decide (L.length ≤ 40) && (decide (0 ≤ ev) && decide (ev ≤ 1000000))))) := by
            rcases hlast with ⟨h2, h3⟩ | ⟨h2, h3, h4, h5⟩
            · rw [if_neg (by omega), decide_eq_true (by omega : last < t.f0)]; rfl
            · have ew : wrap64 ((i : Int) - 1) = ((i - 1 : Nat) : Int) := by rw [wrapI _ (by omega) (by omega)]; omega
              rw [if_pos (by omega), ew, if_pos (by omega), if_pos (by omega), rd84 L (i - 1) h2, cv0, ← h4]
              by_cases h6 : last < t.f0
              · rw [if_neg (by omega), decide_eq_true h6]; rfl
              · rw [if_pos (by omega), decide_eq_false h6]; rfl
          rw [tail]
          unfold kindT
          by_cases k1 : t.f1 = 76
          · rw [if_pos k1, decide_eq_true k1]
            cases decide (last < t.f0) <;> simp
          · rw [if_neg k1, decide_eq_false k1]
            by_cases k2 : t.f1 = 82
            · rw [if_pos k2, decide_eq_true k2]
              cases decide (last < t.f0) <;> simp
            · rw [if_neg k2, decide_eq_false k2]
              by_cases k3 : t.f1 = 67
              · rw [if_pos k3, decide_eq_true k3]
                cases decide (last < t.f0) <;> simp
              · rw [if_neg k3, decide_eq_false k3]
                simp
    · have hd : L.drop i = [] := List.drop_eq_nil_of_le (by omega)
      rw [if_neg (by omega), hd]
      show _ = some (true && _)
      by_cases h1 : L.length ≤ 40
      · rw [if_pos (by omega), decide_eq_true h1]
        by_cases h2 : 0 ≤ ev
        · rw [if_pos h2, decide_eq_true h2]; rfl
        · rw [if_neg (by omega), decide_eq_false h2]; rfl
      · rw [if_neg (by omega), decide_eq_false h1]; rfl
theorem rtv_f (L : List S68) (ev : Int) (hL : L.length ≤ 9223372036854775807) (k : Nat) (hk : L.length + 1 ≤ k) : frisketref12_Valid.f k (L.map cv) ev = some (tvalidB L ev) := by
  obtain ⟨g, rfl⟩ : ∃ g, k = g + 1 := ⟨k - 1, by omega⟩
  exact rtv_l L ev hL g 0 (-1) (by omega) (.inl ⟨rfl, rfl⟩)
theorem rnext_l (L : List S68) (ev at_ : Int) (hS : Stp L) (hn : L.length ≤ 1000000) (h0 : 0 ≤ ev) (h1 : ev ≤ 1000000) (ha0 : -1000000000000 ≤ at_) (ha1 : at_ ≤ 1000000000000) : ∀ f i (last : Int), i ≤ L.length → L.length ≤ i + f → 0 ≤ last → last ≤ 1000000 →
    frisketref12_Next.l0 (f + 1) at_ last (i : Nat) (L.map cv) ev = some (nextL (L.drop i) last ev at_)
  | f, i, last, h2, h3, h4, h5 => by
    rw [frisketref12_Next.l0]
    simp only [List.length_map]
    by_cases hlt : i < L.length
    · obtain ⟨f', rfl⟩ : ∃ f', f = f' + 1 := ⟨f - 1, by omega⟩
      have hd : L.drop i = L[i] :: L.drop (i + 1) := List.drop_eq_getElem_cons hlt
      have hb := hS _ (List.getElem_mem hlt)
      rw [if_pos (by omega), if_pos (by omega), rd84 L i hlt, wrapS i L.length hlt (by omega), hd]
      unfold nextL
      rw [cv0, cv1]
      by_cases hg : at_ < L[i].f0
      · rw [if_pos hg, if_pos (by omega)]
      · rw [if_neg hg, if_neg (by omega)]
        exact rnext_l L ev at_ hS hn h0 h1 ha0 ha1 f' (i + 1) L[i].f0 (by omega) (by omega) hb.1 hb.2
    · have hd : L.drop i = [] := List.drop_eq_nil_of_le (by omega)
      rw [if_neg (by omega), hd]
      unfold nextL
      by_cases he : ev = 0
      · rw [if_pos he, if_pos he]
      · rw [if_neg he, if_neg he]
        by_cases hg : at_ ≥ last
        · rw [if_pos hg]
          have hm : max (at_ - last) 0 = at_ - last := by omega
          rw [hm]
          obtain ⟨X, hX⟩ : ∃ X, at_ - last = X := ⟨_, rfl⟩
          rw [hX]
          have hX1 : 0 ≤ X ∧ X ≤ 1000000000000 := by omega
          rw [wrapI X (by omega) (by omega), Int.tdiv_eq_ediv_of_nonneg hX1.1]
          obtain ⟨b1, b2, b3, b4, _⟩ := step_bound X ev hX1.1 (by omega) (by omega) h1
          clear hX hm
          obtain ⟨q, hq⟩ : ∃ q, X / ev = q := ⟨_, rfl⟩
          rw [hq] at b1 b2 b3 b4 ⊢
          clear hq
          rw [wrapI q (by omega) (by omega), wrapI (q + 1) (by omega) (by omega)]
          obtain ⟨p, hp⟩ : ∃ p, (q + 1) * ev = p := ⟨_, rfl⟩
          rw [hp] at b3 b4 ⊢
          rw [wrapI p (by omega) (by omega), wrapI _ (by omega) (by omega)]
        · rw [if_neg hg]
          have hm : max (at_ - last) 0 = 0 := by omega
          rw [hm, Int.zero_ediv, wrapI (1 * ev) (by omega) (by omega), wrapI _ (by omega) (by omega)]
          rfl
theorem rnext_f (L : List S68) (ev at_ : Int) (hok : tvalidB L ev = true) (ha0 : -1000000000000 ≤ at_) (ha1 : at_ ≤ 1000000000000) : frisketref12_Next.f (L.length + 1) (L.map cv) ev at_ = some (nextL L 0 ev at_) := by
  have h := hok
  unfold tvalidB at h
  simp only [Bool.and_eq_true, decide_eq_true_eq] at h
  obtain ⟨h1, h2, h3, h4⟩ := h
  unfold frisketref12_Next.f
  rw [rtv_f L ev (by omega) _ (Nat.le_refl _), Option.bind_some, if_pos hok]
  exact rnext_l L ev at_ (okStops_stp L (-1) (by omega) h1) (by omega) h3 h4 ha0 ha1 L.length 0 0 (by omega) (by omega) (by omega) (by omega)
theorem rwidth_l (L : List S28) (hW : Wid L) (hn : L.length ≤ 1000000) : ∀ f i (acc : Int), i ≤ L.length → L.length ≤ i + f → -(1000000 * (i : Int)) ≤ acc → acc ≤ 1000000 * (i : Int) →
    frisketref08_Width.l0 (f + 1) L acc (i : Nat) = some (acc + widthL (L.drop i))
  | f, i, acc, h1, h2, h3, h4 => by
    by_cases hlt : i < L.length
    · obtain ⟨f', rfl⟩ : ∃ f', f = f' + 1 := ⟨f - 1, by omega⟩
      have hd : L.drop i = L[i] :: L.drop (i + 1) := List.drop_eq_getElem_cons hlt
      have hb := hW _ (List.getElem_mem hlt)
      have e : widthL (L.drop i) = wideS L[i] + widthL (L.drop (i + 1)) := by rw [hd]; rfl
      rw [frisketref08_Width.l0, if_pos (by omega), if_pos (by omega), rd28 L i hlt, wrapS i L.length hlt (by omega), wrapI _ (by omega) (by omega), e]
      have ih1 := rwidth_l L hW hn f' (i + 1) (acc + L[i].f1) (by omega) (by omega) (by omega) (by omega)
      have ih0 := rwidth_l L hW hn f' (i + 1) acc (by omega) (by omega) (by omega) (by omega)
      rw [ih1, ih0]
      unfold wideS
      repeat' split
      all_goals first | (congr 1; omega) | (exfalso; omega)
    · have hd : L.drop i = [] := List.drop_eq_nil_of_le (by omega)
      rw [frisketref08_Width.l0, if_neg (by omega), hd]
      simp [widthL]
theorem rwidth_f (L : List S28) (hW : Wid L) (hn : L.length ≤ 1000000) : frisketref08_Width.f (L.length + 1) L = some (widthL L) := by
  have := rwidth_l L hW hn L.length 0 0 (by omega) (by omega) (by simp) (by simp)
  rw [Int.zero_add] at this
  exact this
theorem rhalf_f (n : Int) (h0 : -1000000000000 ≤ n) (h1 : n ≤ 1000000000000) : frisketref07_Floor.f n 2 = some (n / 2) := by
  unfold frisketref07_Floor.f
  have t0 := Int.mul_tdiv_add_tmod n 2
  have t1 := Int.tmod_lt_of_pos n (show (0 : Int) < 2 by omega)
  have t2 := Int.lt_tmod_of_pos n (show (0 : Int) < 2 by omega)
  rw [if_neg (by omega)]
  by_cases hg : Int.tmod n 2 < 0
  · rw [if_pos hg, wrapI (Int.tdiv n 2) (by omega) (by omega), wrapI _ (by omega) (by omega)]
    congr 1; omega
  · rw [if_neg hg, wrapI _ (by omega) (by omega)]
    congr 1; omega
theorem rAs_l (L : List S68) (ev : Int) (hL : L.length ≤ 8000000000000) : ∀ f i, i ≤ L.length → L.length ≤ i + f → frisketlaw12_As.l0 (f + 1) (i : Nat) L ev ((L.take i).map cv) ev = some (L.map cv, ev)
  | f, i, h0, h => by
    rw [frisketlaw12_As.l0]
    by_cases hlt : i < L.length
    · obtain ⟨f', rfl⟩ : ∃ f', f = f' + 1 := ⟨f - 1, by omega⟩
      rw [if_pos (by omega), if_pos (by omega), if_pos (by simp; omega), rd68 L i hlt, wrapS i L.length hlt (by omega)]
      have e : (L.take i).map cv ++ [(⟨L[i].f0, L[i].f1⟩ : S84)] = (L.take (i + 1)).map cv := by
        rw [List.take_succ_eq_append_getElem hlt, List.map_append]; rfl
      rw [e]
      exact rAs_l L ev hL f' (i + 1) (by omega) (by omega)
    · rw [if_neg (by omega), List.take_of_length_le (by omega)]
theorem rAs_f (L : List S68) (ev : Int) (hL : L.length ≤ 8000000000000) : frisketlaw12_As.f (L.length + 1) L ev = some (L.map cv, ev) := by
  exact rAs_l L ev hL L.length 0 (by omega) (by omega)
def charB (x : S28) : Bool := validS x && (decide (x.f0 = 0) || decide (x.f0 = 5))
theorem charB_fill (x : S28) : charB x = !fillB x := by
  unfold charB fillB
  cases validS x
  · rfl
  · by_cases h0 : x.f0 = 0 <;> by_cases h5 : x.f0 = 5 <;> simp [h0, h5]
end Go.Proofs.Ytmmfojaeahcohaa

set_option linter.unusedVariables false
set_option linter.unusedSimpArgs false
namespace Go.Proofs.Ytmmfojaeahcohaa
open Go.Shelf Go.RowKit Go.Lib Go.Aids Go.Opens Go.Proofs.YtmmfojaeahcohaaW.PrintWords Go.Proofs.Ytmmfojaeahcohaa.PTabsMade

/-- A row of numbers of the call's own, or an empty one that may lie anywhere. -/
def kN : Kd (List Int) where
  sz := 1
  E := (Kd.slice 3 (Kd.int .i64)).E
  K := (Kd.slice 3 (Kd.int .i64)).K
  M := fun w base ok xs cs => (xs = [] ∧ ∃ A c, cs = [.slice A 0 c]) ∨ (Kd.slice 3 (Kd.int .i64)).M w base ok xs cs
  K_len := (Kd.slice 3 (Kd.int .i64)).K_len
  K_one := (Kd.slice 3 (Kd.int .i64)).K_one
  K_below := (Kd.slice 3 (Kd.int .i64)).K_below
  K_of_M := by
    rintro w base ok x cs (⟨rfl, A, c, rfl⟩ | h)
    · exact ⟨A, c, rfl, Nat.zero_le _, rfl, Nat.zero_le _, fun h => absurd h (Nat.lt_irrefl 0)⟩
    · exact (Kd.slice 3 (Kd.int .i64)).K_of_M h
  M_mono := by
    rintro w base ok ok' x cs hok (h | h)
    · exact .inl h
    · exact .inr ((Kd.slice 3 (Kd.int .i64)).M_mono hok h)
  M_bound := by
    rintro w base ok x cs (h | h)
    · exact .inl h
    · exact .inr ((Kd.slice 3 (Kd.int .i64)).M_bound h)
  M_move := by
    rintro w w1 base ok x cs hm (h | h)
    · exact .inl h
    · exact .inr ((Kd.slice 3 (Kd.int .i64)).M_move hm h)
  M_lower := by
    rintro w base base' ok x cs hb (h | h)
    · exact .inl h
    · exact .inr ((Kd.slice 3 (Kd.int .i64)).M_lower hb h)
def kX : Kd S28 := Kd.iso (Kd.pair (Kd.int .i64) (Kd.pair (Kd.int .i64) (Kd.pair (Kd.int .i64) (Kd.pair (Kd.int .i64) (Kd.pair Kd.string (Kd.pair Kd.string kN)))))) (fun x : S28 => (x.f0, x.f1, x.f2, x.f3, x.f4, x.f5, x.f6))
theorem kX_K (w : World) (x : S28) (cs : List Value) : kX.K w x cs = k28.K w x cs := rfl
theorem kX_C {w : World} {A : Option Addr} {n : Nat} {xs : List S28} (h : kX.C w A n xs) : k28.C w A n xs := h
theorem kX_mkN (w : World) (base : Nat) (ok : Nat → Prop) (x : S28) {v6 : Value} (g6 : kN.M w base ok x.f6 [v6]) : kX.M w base ok x [.int .i64 x.f0, .int .i64 x.f1, .int .i64 x.f2, .int .i64 x.f3, .string x.f4, .string x.f5, v6] := ⟨[.int .i64 x.f0], [.int .i64 x.f1, .int .i64 x.f2, .int .i64 x.f3, .string x.f4, .string x.f5, v6], rfl, rfl, ⟨[.int .i64 x.f1], [.int .i64 x.f2, .int .i64 x.f3, .string x.f4, .string x.f5, v6], rfl, rfl, ⟨[.int .i64 x.f2], [.int .i64 x.f3, .string x.f4, .string x.f5, v6], rfl, rfl, ⟨[.int .i64 x.f3], [.string x.f4, .string x.f5, v6], rfl, rfl, ⟨[.string x.f4], [.string x.f5, v6], rfl, rfl, ⟨[.string x.f5], [v6], rfl, rfl, g6⟩⟩⟩⟩⟩⟩
theorem kX_empty (w : World) (base : Nat) (ok : Nat → Prop) (x : S28) (A : Option Addr) (c : Nat) (h : x.f6 = []) : kX.M w base ok x (boxC x A c) := kX_mkN w base ok x (.inl ⟨h, A, c, by rw [h]; rfl⟩)
theorem kX_own (w : World) (base : Nat) (ok : Nat → Prop) (x : S28) {v6 : Value} (g6 : (Kd.int .i64).R 3 w base ok v6 x.f6) : kX.M w base ok x [.int .i64 x.f0, .int .i64 x.f1, .int .i64 x.f2, .int .i64 x.f3, .string x.f4, .string x.f5, v6] := kX_mkN w base ok x (.inr ⟨v6, rfl, g6⟩)
theorem info28X : (Try.prog.info? 28).map (fun i => (i.zero, i.size, i.bytes)) = some (some (.agg #[.int .i64 0, .int .i64 0, .int .i64 0, .int .i64 0, .string ⟨#[]⟩, .string ⟨#[]⟩, .slice none 0 0]), kX.sz, 88) := by kernel_rfl
/-- A box that lies in a cell row of its own. -/
def BoxAt (w : World) (g : Nat) (x : S28) (A : Option Addr) (c : Nat) : Prop :=
  w.cell? ⟨g, 0, none⟩ = some (.int .i64 x.f0) ∧ w.cell? ⟨g, 1, none⟩ = some (.int .i64 x.f1) ∧ w.cell? ⟨g, 2, none⟩ = some (.int .i64 x.f2) ∧ w.cell? ⟨g, 3, none⟩ = some (.int .i64 x.f3) ∧ w.cell? ⟨g, 4, none⟩ = some (.string x.f4) ∧ w.cell? ⟨g, 5, none⟩ = some (.string x.f5) ∧ w.cell? ⟨g, 6, none⟩ = some (.slice A x.f6.length c)
theorem BoxAt.grown {w w1 : World} {row : Option Nat} {g : Nat} {x : S28} {A : Option Addr} {c : Nat} (h : BoxAt w g x A c) (hg : w.grownBy w1 row) (hne : some g ≠ row) : BoxAt w1 g x A c :=
  ⟨hg.cell h.1 hne, hg.cell h.2.1 hne, hg.cell h.2.2.1 hne, hg.cell h.2.2.2.1 hne, hg.cell h.2.2.2.2.1 hne, hg.cell h.2.2.2.2.2.1 hne, hg.cell h.2.2.2.2.2.2 hne⟩
theorem BoxAt.below {w w1 : World} {n g : Nat} {x : S28} {A : Option Addr} {c : Nat} (h : BoxAt w g x A c) (hb : Below n w w1) (hg : g < n) : BoxAt w1 g x A c :=
  ⟨(hb.cell (p := ⟨g, 0, none⟩) hg).trans h.1, (hb.cell (p := ⟨g, 1, none⟩) hg).trans h.2.1, (hb.cell (p := ⟨g, 2, none⟩) hg).trans h.2.2.1, (hb.cell (p := ⟨g, 3, none⟩) hg).trans h.2.2.2.1, (hb.cell (p := ⟨g, 4, none⟩) hg).trans h.2.2.2.2.1, (hb.cell (p := ⟨g, 5, none⟩) hg).trans h.2.2.2.2.2.1, (hb.cell (p := ⟨g, 6, none⟩) hg).trans h.2.2.2.2.2.2⟩
theorem BoxAt.new (w : World) (g : Nat) (hg : g = w.heap.size) (x : S28) (A : Option Addr) (c : Nat) : BoxAt (w.alloc (.cells #[.int .i64 x.f0, .int .i64 x.f1, .int .i64 x.f2, .int .i64 x.f3, .string x.f4, .string x.f5, .slice A x.f6.length c] 28)) g x A c := by
  subst hg
  refine ⟨?_, ?_, ?_, ?_, ?_, ?_, ?_⟩ <;> simp
theorem ne_own {W : World} {base g : Nat} {ok : Nat → Prop} {v v1 : Value} {xs : List S28} (hlt : g < W.heap.size) (hne : some g ≠ v.ownBlock) (hat : v1.ownBlock = v.ownBlock ∨ ∃ b, v1.ownBlock = some b ∧ W.heap.size ≤ b) : some g ≠ v1.ownBlock := by
  rcases hat with h | ⟨b, h, hb⟩
  · rw [h]; exact hne
  · rw [h]; intro e; injection e with e; omega
set_option maxRecDepth 100000 in
set_option maxHeartbeats 4000000 in
theorem rway_calls (W0 : World) (base : Nat) (v : Value) (ps : List S28) (far : Int) (x : S28) (A : Option Addr) (c : Nat) (hf : 0 ≤ far) (hf2 : far ≤ 1000000000) (hw : -1000000 ≤ x.f1 ∧ x.f1 ≤ 1000000) (hx : x.f6 = []) (hps : ps.length ≤ 500000000000) (w : World) (HR : kX.R 28 w base (fun _ => True) v ps) (HB : Below base W0 w) (hbase : base ≤ w.heap.size) :
    Calls Try.prog 44 #[v, .int .i64 far, boxV x.f0 x.f1 x.f2 x.f3 x.f4 x.f5 A x.f6.length c] w fun e w' => ∃ v', e = .returned v' ∧ kX.R 28 w' base (fun _ => True) v' (ps ++ wayL far x) ∧ Below base W0 w' ∧ base ≤ w'.heap.size := by
  have hml : manyL far x ≤ 1000000000 ∧ (manyL far x : Int) * x.f1 ≤ far ∧ (x.f0 = 0 → 0 < x.f1 → 0 ≤ (manyL far x : Int) * x.f1) := by
    by_cases h : 0 < far
    · exact many_le far x h hf2
    · have e : far = 0 := by omega
      have e2 : manyL far x = 0 := by unfold manyL; rw [e]; split <;> simp
      rw [e2]; simp; omega
  have HWL : Hid (wayL far x = (if far - (manyL far x : Int) * x.f1 = 0 then [] else [rightS (far - (manyL far x : Int) * x.f1)]) ++ List.replicate (manyL far x) x) := Lib.hid rfl
  obtain ⟨L, hL⟩ : ∃ L, wayL far x = L := ⟨_, rfl⟩
  rw [hL] at HWL ⊢
  clear hL
  obtain ⟨m, hm⟩ : ∃ m, manyL far x = m := ⟨_, rfl⟩
  have HMM : Hid ((x.f0 = 0 → 0 < x.f1 → far / x.f1 = (m : Int)) ∧ (¬ (x.f0 = 0 ∧ 0 < x.f1 ∧ 0 < far) → m = 0)) := Lib.hid (by
    rw [← hm]
    unfold manyL
    constructor
    · intro h1 h2
      rw [if_pos ⟨h1, h2⟩]
      exact (Int.toNat_of_nonneg (Int.ediv_nonneg hf (Int.le_of_lt h2))).symm
    · intro h
      split
      · next h3 =>
        have e : far = 0 := by
          by_cases h4 : 0 < far
          · exact absurd ⟨h3.1, h3.2, h4⟩ h
          · omega
        rw [e]; simp
      · rfl)
  rw [hm] at hml HWL
  clear hm
  obtain ⟨hm1, hm2, hm3⟩ := hml
  have hP2 : -1000000000000000 ≤ (m : Int) * x.f1 := by
    rcases Int.lt_or_le x.f1 0 with h | h
    · have : (m : Int) * (-x.f1) ≤ 1000000000 * 1000000 := Int.mul_le_mul (by omega) (by omega) (by omega) (by omega)
      rw [Int.mul_neg] at this; omega
    · have := Int.mul_nonneg (show (0 : Int) ≤ m by omega) h
      omega
  have hw630 : wrap64 ((m : Int) * x.f1) = (m : Int) * x.f1 := by unfold wrap64; omega
  obtain ⟨P, hP⟩ : ∃ P, (m : Int) * x.f1 = P := ⟨_, rfl⟩
  have hw63 := hw630.trans hP
  clear hw630
  rw [hP] at hm2 hm3 HWL hP2
  obtain ⟨r, hr⟩ : ∃ r, far - P = r := ⟨_, rfl⟩
  have hws : wrap64 (far - P) = r := by rw [← hr]; unfold wrap64; omega
  rw [hr] at HWL
  have HBX := Lib.hid (BoxAt.new w w.heap.size rfl x A c)
  obtain ⟨k, w1, f, s, nm, cl, l⟩ := x
  simp only at hx hw hm3 hw63 hP HMM HBX ⊢
  subst hx
  have HP := Lib.hid hP
  clear hP
  obtain ⟨W1, hW1⟩ : ∃ W, w.alloc (.cells #[.int .i64 k, .int .i64 w1, .int .i64 f, .int .i64 s, .string nm, .string cl, .slice A 0 c] 28) = W := ⟨_, rfl⟩
  have HR1 := Lib.hid (show kX.R 28 W1 base (fun _ => True) v ps by rw [← hW1]; exact Kd.R_alloc HR _)
  have HB1 := Lib.hid (show Below base W0 W1 by rw [← hW1]; exact HB.alloc hbase _)
  have HZ1 := Lib.hid (show base ≤ W1.heap.size by rw [← hW1]; simp; omega)
  have HG1 := Lib.hid (show w.heap.size < W1.heap.size by rw [← hW1]; simp)
  have HN1 := Lib.hid (show some w.heap.size ≠ v.ownBlock by intro h; have := Kd.R_lt HR _ h.symm; omega)
  have HBX1 : BoxAt W1 w.heap.size ⟨k, w1, f, s, nm, cl, []⟩ A c := by rw [← hW1]; exact HBX.out
  have HX1 := Lib.hid HBX1
  obtain ⟨c0, c1, c2, c3, c4, c5, c6⟩ := HBX1
  simp only [List.length_nil] at c0 c1 c2 c3 c4 c5 c6
  clear HBX HR HB hbase
  have HPS := Lib.hid hps
  have HM1 := Lib.hid hm1
  have HF := Lib.hid (And.intro hf (And.intro hf2 hw))
  have HM2 := Lib.hid (And.intro hm2 hm3)
  have HR0 := Lib.hid hr
  clear hps hm1 hf2 hw hm2 hm3 hr hP2
  go_enter Try.func44, Try.ntmps44
  go_upto_region 2 with fail
  clear hW1
  have hwm : wrap64 (m : Int) = m := by have := HM1.out; unfold wrap64; omega
  by_cases hk : k = 0
  · by_cases hw0 : 0 < w1
    · by_cases hf0 : 0 < far
      · have hq : Int.tdiv far w1 = (m : Int) := by rw [Int.tdiv_eq_ediv_of_nonneg hf]; exact HMM.out.1 hk hw0
        have hw00 : ¬ w1 = 0 := by omega
        subst hk
        by_cases hr0 : r = 0
        · go_upto_region 7 with fail
          obtain ⟨qs, hqs⟩ : ∃ qs : List S28, [] = qs := ⟨_, rfl⟩
          have HL3 := Lib.hid (show L = qs ++ List.replicate m ⟨0, w1, f, s, nm, cl, []⟩ by rw [HWL.out, if_pos hr0, hqs])
          have HQ := Lib.hid (show qs.length ≤ 1 by rw [← hqs]; simp)
          have HR3 := Lib.hid (show kX.R 28 W1 base (fun _ => True) v (ps ++ qs) by rw [← hqs, List.append_nil]; exact HR1.out)
          have HB3 := HB1
          have HZ3 := HZ1
          have HG3 := HG1
          have HN3 := HN1
          have HX3 := HX1
          clear hqs
          clear c0 c1 c2 c3 c4 c5 c6
          go_upto_region 8 with fail
          go_loopg [0, 9] m (fun gk s0 s9 wx => ∃ i : Nat, i + gk = m ∧ s9 = .int .i64 i ∧ Hid (kX.R 28 wx base (fun _ => True) s0 (ps ++ qs ++ List.replicate i ⟨0, w1, f, s, nm, cl, []⟩)) ∧ Hid (Below base W0 wx ∧ base ≤ wx.heap.size ∧ w.heap.size < wx.heap.size ∧ some w.heap.size ≠ s0.ownBlock ∧ BoxAt wx w.heap.size ⟨0, w1, f, s, nm, cl, []⟩ A c))
          case atStart => exact ⟨0, by omega, rfl, Lib.hid (by simpa using HR3.out), Lib.hid ⟨HB3.out, HZ3.out, HG3.out, HN3.out, HX3.out⟩⟩
          case round =>
            obtain ⟨i, hi, rfl, HRR, HBB⟩ := hrel
            by_cases hlt : i < m
            · obtain ⟨g', rfl⟩ : ∃ g', gk = g' + 1 := ⟨gk - 1, by omega⟩
              have i0 : (i : Int) < m := by omega
              obtain ⟨c0, c1, c2, c3, c4, c5, c6⟩ := HBB.out.2.2.2.2
              simp only [List.length_nil] at c0 c1 c2 c3 c4 c5 c6
              go_wp2_with ((with_reducible refine gate_builtin (b := .append) (xs := #[.tmp 44, .tmp 46]) rfl ?_); at_builtin; refine Kd.R_append kX (w0 := W0) base rfl (.tmp 44) (.tmp 46) 31 28 (.agg #[.int .i64 0, .int .i64 0, .int .i64 0, .int .i64 0, .string ⟨#[]⟩, .string ⟨#[]⟩, .slice none 0 0]) 88 rfl Try.underlying31 info28X rfl (by decide) (by omega) u0 (ps ++ qs ++ List.replicate i ⟨0, w1, f, s, nm, cl, []⟩) ⟨0, w1, f, s, nm, cl, []⟩ (boxC ⟨0, w1, f, s, nm, cl, []⟩ A c) (fun _ => True) (fun _ => False) rfl ?aX ?aP (fun _ hk => hk.elim) (fun _ _ => trivial) HRR.out HBB.out.1 HBB.out.2.1 ?aL ?_; (case aX => rfl); (case aP => exact kX_empty _ _ _ _ A c rfl); (case aL => have := HPS.out; have := HM1.out; have := HQ.out; simp only [List.length_append, List.length_replicate]; omega); intro v5 w5 ho hb hg hat; have HR5 := Lib.hid ho; have HX5 := Lib.hid (And.intro hb (And.intro (Nat.le_trans HBB.out.2.1 hg.size) (And.intro (Nat.lt_of_lt_of_le HBB.out.2.2.1 hg.size) (And.intro (ne_own (base := base) (ok := fun _ => True) (xs := ps) HBB.out.2.2.1 HBB.out.2.2.2.1 hat) (BoxAt.grown HBB.out.2.2.2.2 hg HBB.out.2.2.2.1))))); clear ho hb hg hat)
              go_roundg g'
              case measure => omega
              case rel => exact ⟨i + 1, by omega, by have := HM1.out; show Value.int .i64 (wrap64 ((i : Int) + 1)) = _; rw [show wrap64 ((i : Int) + 1) = ((i + 1 : Nat) : Int) by unfold wrap64; omega], Lib.hid (by rw [List.replicate_succ', ← List.append_assoc]; exact HR5.out), HX5⟩
            · have hin : i = m := by omega
              subst hin
              go_wp2_with fail
              go_ret
              exact ⟨_, rfl, by rw [HL3.out, ← List.append_assoc]; exact HRR.out, HBB.out.1, HBB.out.2.1⟩
        · go_upto_region 7 with ((with_reducible refine gate_builtin (b := .append) (xs := #[.tmp 34, .tmp 37]) rfl ?_); at_builtin; refine Kd.R_append kX (w0 := W0) base rfl (.tmp 34) (.tmp 37) 31 28 (.agg #[.int .i64 0, .int .i64 0, .int .i64 0, .int .i64 0, .string ⟨#[]⟩, .string ⟨#[]⟩, .slice none 0 0]) 88 rfl Try.underlying31 info28X rfl (by decide) (by omega) v ps (rightS r) [.int .i64 2, .int .i64 r, .int .i64 0, .int .i64 0, .string ⟨#[]⟩, .string ⟨#[]⟩, .slice none 0 0] (fun _ => True) (fun _ => False) rfl ?aX ?aP (fun _ hk => hk.elim) (fun _ _ => trivial) HR1.out HB1.out HZ1.out ?aL ?_; (case aX => rfl); (case aP => exact kX_mkN _ _ _ (rightS r) (.inl ⟨rfl, none, 0, rfl⟩)); (case aL => have := HPS.out; omega); intro v3 w3 ho hb hg hat; have HR3 := Lib.hid ho; have HB3 := Lib.hid hb; have HZ3 := Lib.hid (Nat.le_trans HZ1.out hg.size); have HG3 := Lib.hid (Nat.lt_of_lt_of_le HG1.out hg.size); have HN3 := Lib.hid (ne_own (base := base) (ok := fun _ => True) (xs := ps) HG1.out HN1.out hat); have HX3 := Lib.hid (BoxAt.grown HX1.out hg HN1.out); clear ho hb hg hat)
          obtain ⟨qs, hqs⟩ : ∃ qs : List S28, [rightS r] = qs := ⟨_, rfl⟩
          have HL3 := Lib.hid (show L = qs ++ List.replicate m ⟨0, w1, f, s, nm, cl, []⟩ by rw [HWL.out, if_neg hr0, hqs])
          have HQ := Lib.hid (show qs.length ≤ 1 by rw [← hqs]; simp)
          rw [hqs] at HR3
          clear hqs
          clear c0 c1 c2 c3 c4 c5 c6
          go_upto_region 8 with fail
          go_loopg [0, 9] m (fun gk s0 s9 wx => ∃ i : Nat, i + gk = m ∧ s9 = .int .i64 i ∧ Hid (kX.R 28 wx base (fun _ => True) s0 (ps ++ qs ++ List.replicate i ⟨0, w1, f, s, nm, cl, []⟩)) ∧ Hid (Below base W0 wx ∧ base ≤ wx.heap.size ∧ w.heap.size < wx.heap.size ∧ some w.heap.size ≠ s0.ownBlock ∧ BoxAt wx w.heap.size ⟨0, w1, f, s, nm, cl, []⟩ A c))
          case atStart => exact ⟨0, by omega, rfl, Lib.hid (by simpa using HR3.out), Lib.hid ⟨HB3.out, HZ3.out, HG3.out, HN3.out, HX3.out⟩⟩
          case round =>
            obtain ⟨i, hi, rfl, HRR, HBB⟩ := hrel
            by_cases hlt : i < m
            · obtain ⟨g', rfl⟩ : ∃ g', gk = g' + 1 := ⟨gk - 1, by omega⟩
              have i0 : (i : Int) < m := by omega
              obtain ⟨c0, c1, c2, c3, c4, c5, c6⟩ := HBB.out.2.2.2.2
              simp only [List.length_nil] at c0 c1 c2 c3 c4 c5 c6
              go_wp2_with ((with_reducible refine gate_builtin (b := .append) (xs := #[.tmp 44, .tmp 46]) rfl ?_); at_builtin; refine Kd.R_append kX (w0 := W0) base rfl (.tmp 44) (.tmp 46) 31 28 (.agg #[.int .i64 0, .int .i64 0, .int .i64 0, .int .i64 0, .string ⟨#[]⟩, .string ⟨#[]⟩, .slice none 0 0]) 88 rfl Try.underlying31 info28X rfl (by decide) (by omega) u0 (ps ++ qs ++ List.replicate i ⟨0, w1, f, s, nm, cl, []⟩) ⟨0, w1, f, s, nm, cl, []⟩ (boxC ⟨0, w1, f, s, nm, cl, []⟩ A c) (fun _ => True) (fun _ => False) rfl ?aX ?aP (fun _ hk => hk.elim) (fun _ _ => trivial) HRR.out HBB.out.1 HBB.out.2.1 ?aL ?_; (case aX => rfl); (case aP => exact kX_empty _ _ _ _ A c rfl); (case aL => have := HPS.out; have := HM1.out; have := HQ.out; simp only [List.length_append, List.length_replicate]; omega); intro v5 w5 ho hb hg hat; have HR5 := Lib.hid ho; have HX5 := Lib.hid (And.intro hb (And.intro (Nat.le_trans HBB.out.2.1 hg.size) (And.intro (Nat.lt_of_lt_of_le HBB.out.2.2.1 hg.size) (And.intro (ne_own (base := base) (ok := fun _ => True) (xs := ps) HBB.out.2.2.1 HBB.out.2.2.2.1 hat) (BoxAt.grown HBB.out.2.2.2.2 hg HBB.out.2.2.2.1))))); clear ho hb hg hat)
              go_roundg g'
              case measure => omega
              case rel => exact ⟨i + 1, by omega, by have := HM1.out; show Value.int .i64 (wrap64 ((i : Int) + 1)) = _; rw [show wrap64 ((i : Int) + 1) = ((i + 1 : Nat) : Int) by unfold wrap64; omega], Lib.hid (by rw [List.replicate_succ', ← List.append_assoc]; exact HR5.out), HX5⟩
            · have hin : i = m := by omega
              subst hin
              go_wp2_with fail
              go_ret
              exact ⟨_, rfl, by rw [HL3.out, ← List.append_assoc]; exact HRR.out, HBB.out.1, HBB.out.2.1⟩
      · have hm0 : m = 0 := HMM.out.2 (fun h => hf0 h.2.2)
        have hp0 : P = 0 := by rw [← HP.out, hm0]; simp
        have hrf : far = r := by have := HR0.out; omega
        subst hk
        subst hp0
        subst hrf
        have z1 : wrap64 0 = 0 := by unfold wrap64; omega
        have z2 : wrap64 far = far := by have := HF.out; unfold wrap64; omega
        clear hw63 hws hwm
        by_cases hr0 : far = 0
        · go_upto_region 7 with fail
          obtain ⟨qs, hqs⟩ : ∃ qs : List S28, [] = qs := ⟨_, rfl⟩
          have HL3 := Lib.hid (show L = qs by rw [HWL.out, if_pos hr0, hqs, hm0, List.replicate_zero, List.append_nil])
          have HQ := Lib.hid (show qs.length ≤ 1 by rw [← hqs]; simp)
          have HR3 := Lib.hid (show kX.R 28 W1 base (fun _ => True) v (ps ++ qs) by rw [← hqs, List.append_nil]; exact HR1.out)
          have HB3 := HB1
          have HZ3 := HZ1
          have HG3 := HG1
          have HN3 := HN1
          have HX3 := HX1
          clear hqs
          clear c0 c1 c2 c3 c4 c5 c6
          go_upto_region 8 with fail
          go_loopg [0, 9] 0 (fun gk s0 s9 wx => s9 = .int .i64 0 ∧ Hid (kX.R 28 wx base (fun _ => True) s0 (ps ++ qs)) ∧ Hid (Below base W0 wx ∧ base ≤ wx.heap.size))
          case atStart => exact ⟨rfl, HR3, Lib.hid ⟨HB3.out, HZ3.out⟩⟩
          case round =>
            obtain ⟨rfl, HRR, HBB⟩ := hrel
            go_wp2_with fail
            go_ret
            exact ⟨_, rfl, by rw [HL3.out]; exact HRR.out, HBB.out.1, HBB.out.2⟩
        · exfalso; omega
    · have hm0 : m = 0 := HMM.out.2 (fun h => hw0 h.2.1)
      have hp0 : P = 0 := by rw [← HP.out, hm0]; simp
      have hrf : far = r := by have := HR0.out; omega
      subst hk
      subst hp0
      subst hrf
      have z1 : wrap64 0 = 0 := by unfold wrap64; omega
      have z2 : wrap64 far = far := by have := HF.out; unfold wrap64; omega
      clear hw63 hws hwm
      by_cases hr0 : far = 0
      · go_upto_region 7 with fail
        obtain ⟨qs, hqs⟩ : ∃ qs : List S28, [] = qs := ⟨_, rfl⟩
        have HL3 := Lib.hid (show L = qs by rw [HWL.out, if_pos hr0, hqs, hm0, List.replicate_zero, List.append_nil])
        have HQ := Lib.hid (show qs.length ≤ 1 by rw [← hqs]; simp)
        have HR3 := Lib.hid (show kX.R 28 W1 base (fun _ => True) v (ps ++ qs) by rw [← hqs, List.append_nil]; exact HR1.out)
        have HB3 := HB1
        have HZ3 := HZ1
        have HG3 := HG1
        have HN3 := HN1
        have HX3 := HX1
        clear hqs
        clear c0 c1 c2 c3 c4 c5 c6
        go_upto_region 8 with fail
        go_loopg [0, 9] 0 (fun gk s0 s9 wx => s9 = .int .i64 0 ∧ Hid (kX.R 28 wx base (fun _ => True) s0 (ps ++ qs)) ∧ Hid (Below base W0 wx ∧ base ≤ wx.heap.size))
        case atStart => exact ⟨rfl, HR3, Lib.hid ⟨HB3.out, HZ3.out⟩⟩
        case round =>
          obtain ⟨rfl, HRR, HBB⟩ := hrel
          go_wp2_with fail
          go_ret
          exact ⟨_, rfl, by rw [HL3.out]; exact HRR.out, HBB.out.1, HBB.out.2⟩
      · go_upto_region 7 with ((with_reducible refine gate_builtin (b := .append) (xs := #[.tmp 34, .tmp 37]) rfl ?_); at_builtin; refine Kd.R_append kX (w0 := W0) base rfl (.tmp 34) (.tmp 37) 31 28 (.agg #[.int .i64 0, .int .i64 0, .int .i64 0, .int .i64 0, .string ⟨#[]⟩, .string ⟨#[]⟩, .slice none 0 0]) 88 rfl Try.underlying31 info28X rfl (by decide) (by omega) v ps (rightS far) [.int .i64 2, .int .i64 far, .int .i64 0, .int .i64 0, .string ⟨#[]⟩, .string ⟨#[]⟩, .slice none 0 0] (fun _ => True) (fun _ => False) rfl ?aX ?aP (fun _ hk => hk.elim) (fun _ _ => trivial) HR1.out HB1.out HZ1.out ?aL ?_; (case aX => rfl); (case aP => exact kX_mkN _ _ _ (rightS far) (.inl ⟨rfl, none, 0, rfl⟩)); (case aL => have := HPS.out; omega); intro v3 w3 ho hb hg hat; have HR3 := Lib.hid ho; have HB3 := Lib.hid hb; have HZ3 := Lib.hid (Nat.le_trans HZ1.out hg.size); have HG3 := Lib.hid (Nat.lt_of_lt_of_le HG1.out hg.size); have HN3 := Lib.hid (ne_own (base := base) (ok := fun _ => True) (xs := ps) HG1.out HN1.out hat); have HX3 := Lib.hid (BoxAt.grown HX1.out hg HN1.out); clear ho hb hg hat)
        obtain ⟨qs, hqs⟩ : ∃ qs : List S28, [rightS far] = qs := ⟨_, rfl⟩
        have HL3 := Lib.hid (show L = qs by rw [HWL.out, if_neg hr0, hqs, hm0, List.replicate_zero, List.append_nil])
        have HQ := Lib.hid (show qs.length ≤ 1 by rw [← hqs]; simp)
        rw [hqs] at HR3
        clear hqs
        clear c0 c1 c2 c3 c4 c5 c6
        go_upto_region 8 with fail
        go_loopg [0, 9] 0 (fun gk s0 s9 wx => s9 = .int .i64 0 ∧ Hid (kX.R 28 wx base (fun _ => True) s0 (ps ++ qs)) ∧ Hid (Below base W0 wx ∧ base ≤ wx.heap.size))
        case atStart => exact ⟨rfl, HR3, Lib.hid ⟨HB3.out, HZ3.out⟩⟩
        case round =>
          obtain ⟨rfl, HRR, HBB⟩ := hrel
          go_wp2_with fail
          go_ret
          exact ⟨_, rfl, by rw [HL3.out]; exact HRR.out, HBB.out.1, HBB.out.2⟩
  · have hm0 : m = 0 := HMM.out.2 (fun h => hk h.1)
    have hp0 : P = 0 := by rw [← HP.out, hm0]; simp
    have hrf : far = r := by have := HR0.out; omega
    subst hp0
    subst hrf
    have z1 : wrap64 0 = 0 := by unfold wrap64; omega
    have z2 : wrap64 far = far := by have := HF.out; unfold wrap64; omega
    clear hw63 hws hwm
    by_cases hr0 : far = 0
    · go_upto_region 7 with fail
      obtain ⟨qs, hqs⟩ : ∃ qs : List S28, [] = qs := ⟨_, rfl⟩
      have HL3 := Lib.hid (show L = qs by rw [HWL.out, if_pos hr0, hqs, hm0, List.replicate_zero, List.append_nil])
      have HQ := Lib.hid (show qs.length ≤ 1 by rw [← hqs]; simp)
      have HR3 := Lib.hid (show kX.R 28 W1 base (fun _ => True) v (ps ++ qs) by rw [← hqs, List.append_nil]; exact HR1.out)
      have HB3 := HB1
      have HZ3 := HZ1
      have HG3 := HG1
      have HN3 := HN1
      have HX3 := HX1
      clear hqs
      clear c0 c1 c2 c3 c4 c5 c6
      go_upto_region 8 with fail
      go_loopg [0, 9] 0 (fun gk s0 s9 wx => s9 = .int .i64 0 ∧ Hid (kX.R 28 wx base (fun _ => True) s0 (ps ++ qs)) ∧ Hid (Below base W0 wx ∧ base ≤ wx.heap.size))
      case atStart => exact ⟨rfl, HR3, Lib.hid ⟨HB3.out, HZ3.out⟩⟩
      case round =>
        obtain ⟨rfl, HRR, HBB⟩ := hrel
        go_wp2_with fail
        go_ret
        exact ⟨_, rfl, by rw [HL3.out]; exact HRR.out, HBB.out.1, HBB.out.2⟩
    · go_upto_region 7 with ((with_reducible refine gate_builtin (b := .append) (xs := #[.tmp 34, .tmp 37]) rfl ?_); at_builtin; refine Kd.R_append kX (w0 := W0) base rfl (.tmp 34) (.tmp 37) 31 28 (.agg #[.int .i64 0, .int .i64 0, .int .i64 0, .int .i64 0, .string ⟨#[]⟩, .string ⟨#[]⟩, .slice none 0 0]) 88 rfl Try.underlying31 info28X rfl (by decide) (by omega) v ps (rightS far) [.int .i64 2, .int .i64 far, .int .i64 0, .int .i64 0, .string ⟨#[]⟩, .string ⟨#[]⟩, .slice none 0 0] (fun _ => True) (fun _ => False) rfl ?aX ?aP (fun _ hk => hk.elim) (fun _ _ => trivial) HR1.out HB1.out HZ1.out ?aL ?_; (case aX => rfl); (case aP => exact kX_mkN _ _ _ (rightS far) (.inl ⟨rfl, none, 0, rfl⟩)); (case aL => have := HPS.out; omega); intro v3 w3 ho hb hg hat; have HR3 := Lib.hid ho; have HB3 := Lib.hid hb; have HZ3 := Lib.hid (Nat.le_trans HZ1.out hg.size); have HG3 := Lib.hid (Nat.lt_of_lt_of_le HG1.out hg.size); have HN3 := Lib.hid (ne_own (base := base) (ok := fun _ => True) (xs := ps) HG1.out HN1.out hat); have HX3 := Lib.hid (BoxAt.grown HX1.out hg HN1.out); clear ho hb hg hat)
      obtain ⟨qs, hqs⟩ : ∃ qs : List S28, [rightS far] = qs := ⟨_, rfl⟩
      have HL3 := Lib.hid (show L = qs by rw [HWL.out, if_neg hr0, hqs, hm0, List.replicate_zero, List.append_nil])
      have HQ := Lib.hid (show qs.length ≤ 1 by rw [← hqs]; simp)
      rw [hqs] at HR3
      clear hqs
      clear c0 c1 c2 c3 c4 c5 c6
      go_upto_region 8 with fail
      go_loopg [0, 9] 0 (fun gk s0 s9 wx => s9 = .int .i64 0 ∧ Hid (kX.R 28 wx base (fun _ => True) s0 (ps ++ qs)) ∧ Hid (Below base W0 wx ∧ base ≤ wx.heap.size))
      case atStart => exact ⟨rfl, HR3, Lib.hid ⟨HB3.out, HZ3.out⟩⟩
      case round =>
        obtain ⟨rfl, HRR, HBB⟩ := hrel
        go_wp2_with fail
        go_ret
        exact ⟨_, rfl, by rw [HL3.out]; exact HRR.out, HBB.out.1, HBB.out.2⟩
end Go.Proofs.Ytmmfojaeahcohaa

set_option linter.unusedVariables false
set_option linter.unusedSimpArgs false
namespace Go.Proofs.Ytmmfojaeahcohaa
open Go.Shelf Go.RowKit Go.Lib Go.Aids Go.Opens Go.Proofs.YtmmfojaeahcohaaW.PrintWords Go.Proofs.Ytmmfojaeahcohaa.PTabsMade

theorem beqJ (a b : Int) : (a == b) = decide (a = b) := by by_cases h : a = b <;> simp [h]
theorem valid_bare (k w f s : Int) (n c : ByteArray) (l : List Int) (h : k = 1 ∨ k = 2 ∨ k = 3 ∨ k = 5 ∨ k = 6) (h0 : ¬ w < -1000000) (h1 : ¬ 1000000 < w) (h2 : ¬ f < 0) (h3 : ¬ s < 0) : validB k w f s n c l = kindB k w f s n c l := by
  unfold validB
  rw [if_neg (by omega)]
  by_cases hz : c.toList = []
  · rw [bare_col c hz]; rfl
  · have : kindB k w f s n c l = false := by
      unfold kindB bareB
      rw [decide_eq_false hz]
      rcases h with rfl | rfl | rfl | rfl | rfl <;> simp
    rw [this, Bool.and_false]
set_option maxRecDepth 100000 in
set_option maxHeartbeats 4000000 in
theorem rvalid_1 (w f s : Int) (nm cl : ByteArray) (A : Option Addr) (c m : Nat) (l : List Int) (hm : l.length = m) (h0 : ¬ w < -1000000) (h1 : ¬ 1000000 < w) (h2 : ¬ f < 0) (h3 : ¬ s < 0) (W1 : World) :
    Calls Try.prog 40 #[boxV 1 w f s nm cl A m c] W1 fun e W' => e = .returned (.bool (validB 1 w f s nm cl l)) ∧ Below W1.heap.size W1 W' := by
  rw [valid_bare 1 w f s nm cl l (by omega) h0 h1 h2 h3]
  have HM := Lib.hid hm
  obtain ⟨r, hr⟩ : ∃ r, kindB 1 w f s nm cl l = r := ⟨_, rfl⟩
  rw [hr]
  have HR := Lib.hid hr
  clear hr hm
  go_enter Try.func40, Try.ntmps40
  go_wp2_with fail
  all_goals
    go_ret
    refine ⟨?_, (Below.refl _ _).alloc (Nat.le_refl _) _⟩
    have hr := HR.out
    unfold kindB bareB at hr
    rw [HM.out] at hr
    first | (simp [*, nat0, int0, emp0, beqL, beqJ] at hr ⊢; done) | (simp [*, nat0, int0, emp0, beqL, beqJ] at hr ⊢; first | exact hr | exact hr.symm | (rw [← hr]) | (rw [hr]))
set_option maxRecDepth 100000 in
set_option maxHeartbeats 4000000 in
theorem rvalid_2 (w f s : Int) (nm cl : ByteArray) (A : Option Addr) (c m : Nat) (l : List Int) (hm : l.length = m) (h0 : ¬ w < -1000000) (h1 : ¬ 1000000 < w) (h2 : ¬ f < 0) (h3 : ¬ s < 0) (W1 : World) :
    Calls Try.prog 40 #[boxV 2 w f s nm cl A m c] W1 fun e W' => e = .returned (.bool (validB 2 w f s nm cl l)) ∧ Below W1.heap.size W1 W' := by
  rw [valid_bare 2 w f s nm cl l (by omega) h0 h1 h2 h3]
  have HM := Lib.hid hm
  obtain ⟨r, hr⟩ : ∃ r, kindB 2 w f s nm cl l = r := ⟨_, rfl⟩
  rw [hr]
  have HR := Lib.hid hr
  clear hr hm
  go_enter Try.func40, Try.ntmps40
  go_wp2_with fail
  all_goals
    go_ret
    refine ⟨?_, (Below.refl _ _).alloc (Nat.le_refl _) _⟩
    have hr := HR.out
    unfold kindB bareB at hr
    rw [HM.out] at hr
    first | (simp [*, nat0, int0, emp0, beqL, beqJ] at hr ⊢; done) | (simp [*, nat0, int0, emp0, beqL, beqJ] at hr ⊢; first | exact hr | exact hr.symm | (rw [← hr]) | (rw [hr]))
set_option maxRecDepth 100000 in
set_option maxHeartbeats 4000000 in
theorem rvalid_3 (w f s : Int) (nm cl : ByteArray) (A : Option Addr) (c m : Nat) (l : List Int) (hm : l.length = m) (h0 : ¬ w < -1000000) (h1 : ¬ 1000000 < w) (h2 : ¬ f < 0) (h3 : ¬ s < 0) (W1 : World) :
    Calls Try.prog 40 #[boxV 3 w f s nm cl A m c] W1 fun e W' => e = .returned (.bool (validB 3 w f s nm cl l)) ∧ Below W1.heap.size W1 W' := by
  rw [valid_bare 3 w f s nm cl l (by omega) h0 h1 h2 h3]
  have HM := Lib.hid hm
  obtain ⟨r, hr⟩ : ∃ r, kindB 3 w f s nm cl l = r := ⟨_, rfl⟩
  rw [hr]
  have HR := Lib.hid hr
  clear hr hm
  go_enter Try.func40, Try.ntmps40
  go_wp2_with fail
  all_goals
    go_ret
    refine ⟨?_, (Below.refl _ _).alloc (Nat.le_refl _) _⟩
    have hr := HR.out
    unfold kindB bareB at hr
    rw [HM.out] at hr
    first | (simp [*, nat0, int0, emp0, beqL, beqJ] at hr ⊢; done) | (simp [*, nat0, int0, emp0, beqL, beqJ] at hr ⊢; first | exact hr | exact hr.symm | (rw [← hr]) | (rw [hr]))
set_option maxRecDepth 100000 in
set_option maxHeartbeats 4000000 in
theorem rvalid_5 (w f s : Int) (nm cl : ByteArray) (A : Option Addr) (c m : Nat) (l : List Int) (hm : l.length = m) (h0 : ¬ w < -1000000) (h1 : ¬ 1000000 < w) (h2 : ¬ f < 0) (h3 : ¬ s < 0) (W1 : World) :
    Calls Try.prog 40 #[boxV 5 w f s nm cl A m c] W1 fun e W' => e = .returned (.bool (validB 5 w f s nm cl l)) ∧ Below W1.heap.size W1 W' := by
  rw [valid_bare 5 w f s nm cl l (by omega) h0 h1 h2 h3]
  have HM := Lib.hid hm
  obtain ⟨r, hr⟩ : ∃ r, kindB 5 w f s nm cl l = r := ⟨_, rfl⟩
  rw [hr]
  have HR := Lib.hid hr
  clear hr hm
  go_enter Try.func40, Try.ntmps40
  go_wp2_with fail
  all_goals
    go_ret
    refine ⟨?_, (Below.refl _ _).alloc (Nat.le_refl _) _⟩
    have hr := HR.out
    unfold kindB bareB at hr
    rw [HM.out] at hr
    first | (simp [*, nat0, int0, emp0, beqL, beqJ] at hr ⊢; done) | (simp [*, nat0, int0, emp0, beqL, beqJ] at hr ⊢; first | exact hr | exact hr.symm | (rw [← hr]) | (rw [hr]))
set_option maxRecDepth 100000 in
set_option maxHeartbeats 4000000 in
theorem rvalid_6 (w f s : Int) (nm cl : ByteArray) (A : Option Addr) (c m : Nat) (l : List Int) (hm : l.length = m) (h0 : ¬ w < -1000000) (h1 : ¬ 1000000 < w) (h2 : ¬ f < 0) (h3 : ¬ s < 0) (W1 : World) :
    Calls Try.prog 40 #[boxV 6 w f s nm cl A m c] W1 fun e W' => e = .returned (.bool (validB 6 w f s nm cl l)) ∧ Below W1.heap.size W1 W' := by
  rw [valid_bare 6 w f s nm cl l (by omega) h0 h1 h2 h3]
  have HM := Lib.hid hm
  obtain ⟨r, hr⟩ : ∃ r, kindB 6 w f s nm cl l = r := ⟨_, rfl⟩
  rw [hr]
  have HR := Lib.hid hr
  clear hr hm
  go_enter Try.func40, Try.ntmps40
  go_wp2_with fail
  all_goals
    go_ret
    refine ⟨?_, (Below.refl _ _).alloc (Nat.le_refl _) _⟩
    have hr := HR.out
    unfold kindB bareB at hr
    rw [HM.out] at hr
    first | (simp [*, nat0, int0, emp0, beqL, beqJ] at hr ⊢; done) | (simp [*, nat0, int0, emp0, beqL, beqJ] at hr ⊢; first | exact hr | exact hr.symm | (rw [← hr]) | (rw [hr]))
end Go.Proofs.Ytmmfojaeahcohaa

set_option linter.unusedVariables false
set_option linter.unusedSimpArgs false
namespace Go.Proofs.Ytmmfojaeahcohaa
open Go.Shelf Go.RowKit Go.Lib Go.Aids Go.Opens Go.Proofs.YtmmfojaeahcohaaW.PrintWords Go.Proofs.Ytmmfojaeahcohaa.PTabsMade

set_option maxRecDepth 100000 in
set_option maxHeartbeats 4000000 in
theorem rvalid_far (k w f s : Int) (nm cl : ByteArray) (A : Option Addr) (c m : Nat) (h : w < -1000000 ∨ 1000000 < w ∨ f < 0 ∨ s < 0) (W1 : World) :
    Calls Try.prog 40 #[boxV k w f s nm cl A m c] W1 fun e W' => e = .returned (.bool false) ∧ Below W1.heap.size W1 W' := by
  by_cases h0 : w < -1000000
  · clear h
    go_enter Try.func40, Try.ntmps40
    go_wp2_with fail
    go_ret
    exact ⟨rfl, (Below.refl _ _).alloc (Nat.le_refl _) _⟩
  · by_cases h1 : 1000000 < w
    · clear h
      go_enter Try.func40, Try.ntmps40
      go_wp2_with fail
      go_ret
      exact ⟨rfl, (Below.refl _ _).alloc (Nat.le_refl _) _⟩
    · by_cases h2 : f < 0
      · clear h
        go_enter Try.func40, Try.ntmps40
        go_wp2_with fail
        go_ret
        exact ⟨rfl, (Below.refl _ _).alloc (Nat.le_refl _) _⟩
      · have h3 : s < 0 := by omega
        clear h
        go_enter Try.func40, Try.ntmps40
        go_wp2_with fail
        go_ret
        exact ⟨rfl, (Below.refl _ _).alloc (Nat.le_refl _) _⟩
set_option maxRecDepth 100000 in
set_option maxHeartbeats 4000000 in
theorem rvalid_x (k w f s : Int) (nm cl : ByteArray) (A : Option Addr) (c m : Nat) (k0 : ¬ k = 0) (k1 : ¬ k = 1) (k2 : ¬ k = 2) (k3 : ¬ k = 3) (k4 : ¬ k = 4) (k5 : ¬ k = 5) (k6 : ¬ k = 6) (h0 : ¬ w < -1000000) (h1 : ¬ 1000000 < w) (h2 : ¬ f < 0) (h3 : ¬ s < 0) (W1 : World) :
    Calls Try.prog 40 #[boxV k w f s nm cl A m c] W1 fun e W' => e = .returned (.bool false) ∧ Below W1.heap.size W1 W' := by
  have e0 : (k == 0) = false := by simp [k0]
  have e1 : (k == 1) = false := by simp [k1]
  have e2 : (k == 2) = false := by simp [k2]
  have e3 : (k == 3) = false := by simp [k3]
  have e4 : (k == 4) = false := by simp [k4]
  have e5 : (k == 5) = false := by simp [k5]
  have e6 : (k == 6) = false := by simp [k6]
  go_enter Try.func40, Try.ntmps40
  go_wp2_with fail
  all_goals
    go_ret
    exact ⟨rfl, (Below.refl _ _).alloc (Nat.le_refl _) _⟩
set_option maxRecDepth 100000 in
set_option maxHeartbeats 4000000 in
theorem rvalid_0 (w f s : Int) (nm cl : ByteArray) (A : Option Addr) (c m : Nat) (hn : nm.size ≤ 9223372036854775807) (hc : cl.size ≤ 9223372036854775807) (h0 : ¬ w < -1000000) (h1 : ¬ 1000000 < w) (h2 : ¬ f < 0) (h3 : ¬ s < 0) (W1 : World) :
    Calls Try.prog 40 #[boxV 0 w f s nm cl A m c] W1 fun e W' => e = .returned (.bool (nameB nm && (colB cl && decide (m = 0)))) ∧ Below W1.heap.size W1 W' := by
  have HN := Lib.hid (fun W => frisketref08_IsName.calls (nm.size + 1) nm _ W (rname_f nm hn _ (Nat.le_refl _)))
  have HC := Lib.hid (fun W => frisketref08_colour.calls (cl.size + 1) cl _ W (rcol_f cl hc _ (Nat.le_refl _)))
  obtain ⟨b1, hb1⟩ : ∃ b, nameB nm = b := ⟨_, rfl⟩
  obtain ⟨b2, hb2⟩ : ∃ b, colB cl = b := ⟨_, rfl⟩
  rw [hb1] at HN ⊢
  rw [hb2] at HC ⊢
  clear hb1 hb2 hn hc
  have q0 : 0 < 1 := Nat.lt_succ_self 0
  go_enter Try.func40, Try.ntmps40
  go_upto_region 3 with fail
  have HX := Lib.hid (BoxAt.new W1 W1.heap.size rfl ⟨0, w, f, s, nm, cl, []⟩ A c)
  have HB2 := Lib.hid ((Below.refl W1.heap.size W1).alloc (Nat.le_refl _) (.cells #[.int .i64 0, .int .i64 w, .int .i64 f, .int .i64 s, .string nm, .string cl, .slice A m c] 28))
  have hx : (W1.alloc (.cells #[.int .i64 0, .int .i64 w, .int .i64 f, .int .i64 s, .string nm, .string cl, .slice A m c] 28)).cell? ⟨W1.heap.size, 0, none⟩ = some (.int .i64 0) ∧ (W1.alloc (.cells #[.int .i64 0, .int .i64 w, .int .i64 f, .int .i64 s, .string nm, .string cl, .slice A m c] 28)).cell? ⟨W1.heap.size, 4, none⟩ = some (.string nm) ∧ (W1.alloc (.cells #[.int .i64 0, .int .i64 w, .int .i64 f, .int .i64 s, .string nm, .string cl, .slice A m c] 28)).cell? ⟨W1.heap.size, 5, none⟩ = some (.string cl) ∧ (W1.alloc (.cells #[.int .i64 0, .int .i64 w, .int .i64 f, .int .i64 s, .string nm, .string cl, .slice A m c] 28)).cell? ⟨W1.heap.size, 6, none⟩ = some (.slice A m c) ∧ (W1.alloc (.cells #[.int .i64 0, .int .i64 w, .int .i64 f, .int .i64 s, .string nm, .string cl, .slice A m c] 28)).cell? ⟨W1.heap.size, 2, none⟩ = some (.int .i64 f) ∧ (W1.alloc (.cells #[.int .i64 0, .int .i64 w, .int .i64 f, .int .i64 s, .string nm, .string cl, .slice A m c] 28)).cell? ⟨W1.heap.size, 3, none⟩ = some (.int .i64 s) ∧ W1.heap.size < (W1.alloc (.cells #[.int .i64 0, .int .i64 w, .int .i64 f, .int .i64 s, .string nm, .string cl, .slice A m c] 28)).heap.size := by
    refine ⟨?_, ?_, ?_, ?_, ?_, ?_, ?_⟩ <;> simp
  obtain ⟨W2, hW2⟩ : ∃ W, W1.alloc (.cells #[.int .i64 0, .int .i64 w, .int .i64 f, .int .i64 s, .string nm, .string cl, .slice A m c] 28) = W := ⟨_, rfl⟩
  simp only [hW2] at HB2 hx ⊢
  clear hW2 HX
  obtain ⟨g, hg⟩ : ∃ g, W1.heap.size = g := ⟨_, rfl⟩
  have HGG := Lib.hid hg
  simp only [hg] at hx ⊢
  clear hg
  have HXX := Lib.hid hx
  obtain ⟨c0, c4, c5, c6, c2, c3, hz⟩ := hx
  go_cut [3] (fun v3 wx => wx = W2)
  case first =>
    go_wp2_with fail
    all_goals go_meet
    all_goals exact rfl
  case rest =>
    subst hcut
    go_upto_region 4 with fail
    go_cut [4] (fun v4 wx => wx = wc)
    case first =>
      obtain ⟨bf, hbf⟩ : ∃ b, (f == 0) = b := ⟨_, rfl⟩
      obtain ⟨bs, hbs⟩ : ∃ b, (s == 0) = b := ⟨_, rfl⟩
      cases bf <;> cases bs
      all_goals go_wp2_with fail
      all_goals go_meet
      all_goals exact rfl
    case rest =>
      subst hcut
      go_wp2_with (first | (go_at_call 62; (with_reducible refine (HN.out _).mono ?_); rintro e w2 ⟨rfl, hd2⟩; have hb2 := hd2.below; have HB3 := Lib.hid (HB2.out.trans (hb2.mono (by have := HB2.out.size; omega))); have y5 := (hb2.cell (p := ⟨g, 5, none⟩) hz).trans c5; have y6 := (hb2.cell (p := ⟨g, 6, none⟩) hz).trans c6; have hz2 := Nat.lt_of_lt_of_le hz hb2.size; clear hd2 hb2 c0 c4 c5 c6 c2 c3) | (go_at_call 63; (with_reducible refine (HC.out _).mono ?_); rintro e w3 ⟨rfl, hd3⟩; have hb3 := hd3.below; have HB4 := Lib.hid (HB3.out.trans (hb3.mono (by have := HB3.out.size; omega))); have z6 := (hb3.cell (p := ⟨g, 6, none⟩) hz2).trans y6; clear hd3 hb3 y5 y6))
      all_goals
        go_ret
        exact ⟨by first | (simp [*, nat0]; done) | (simp_all [nat0]; done), by first | exact HB4.out | exact HB3.out⟩
end Go.Proofs.Ytmmfojaeahcohaa

set_option linter.unusedVariables false
set_option linter.unusedSimpArgs false
namespace Go.Proofs.Ytmmfojaeahcohaa
open Go.Shelf Go.RowKit Go.Lib Go.Aids Go.Opens Go.Proofs.YtmmfojaeahcohaaW.PrintWords Go.Proofs.Ytmmfojaeahcohaa.PTabsMade

theorem stroke_l (n : ByteArray) : strokeB n = (decide (n.toList = [108]) || (decide (n.toList = [99]) || (decide (n.toList = [101]) || (decide (n.toList = [97]) || decide (n.toList = [126]))))) := by
  unfold strokeB
  simp only [tol1]
  by_cases h1 : n.size = 1
  · simp [h1]
  · simp [h1]
set_option maxRecDepth 100000 in
set_option maxHeartbeats 4000000 in
theorem rvalid_4 (w f s : Int) (nm cl : ByteArray) (A : Option Addr) (c m : Nat) (l : List Int) (hm : l.length = m) (hl : l.length ≤ 9223372036854775807) (hc : cl.size ≤ 9223372036854775807) (h0 : ¬ w < -1000000) (h1 : ¬ 1000000 < w) (h2 : ¬ f < 0) (h3 : ¬ s < 0) (W1 : World) (hA : kI.C W1 A l.length l) :
    Calls Try.prog 40 #[boxV 4 w f s nm cl A m c] W1 fun e W' => e = .returned (.bool ((decide (m ≤ 40) && strokeB nm) && (!l.any farB && (colB cl && (decide (f = 0) && decide (s = 0)))))) ∧ Below W1.heap.size W1 W' := by
  have HC := Lib.hid (fun W => frisketref08_colour.calls (cl.size + 1) cl _ W (rcol_f cl hc _ (Nat.le_refl _)))
  obtain ⟨b2, hb2⟩ : ∃ b, colB cl = b := ⟨_, rfl⟩
  rw [hb2] at HC ⊢
  have HM := Lib.hid hm
  have HL := Lib.hid hl
  have HA := Lib.hid hA
  clear hb2 hc hm hl hA
  have q0 : 0 < 1 := Nat.lt_succ_self 0
  go_enter Try.func40, Try.ntmps40
  go_upto_region 3 with fail
  have HX := Lib.hid (BoxAt.new W1 W1.heap.size rfl ⟨4, w, f, s, nm, cl, []⟩ A c)
  have HB2 := Lib.hid ((Below.refl W1.heap.size W1).alloc (Nat.le_refl _) (.cells #[.int .i64 4, .int .i64 w, .int .i64 f, .int .i64 s, .string nm, .string cl, .slice A m c] 28))
  have hx : (W1.alloc (.cells #[.int .i64 4, .int .i64 w, .int .i64 f, .int .i64 s, .string nm, .string cl, .slice A m c] 28)).cell? ⟨W1.heap.size, 0, none⟩ = some (.int .i64 4) ∧ (W1.alloc (.cells #[.int .i64 4, .int .i64 w, .int .i64 f, .int .i64 s, .string nm, .string cl, .slice A m c] 28)).cell? ⟨W1.heap.size, 4, none⟩ = some (.string nm) ∧ (W1.alloc (.cells #[.int .i64 4, .int .i64 w, .int .i64 f, .int .i64 s, .string nm, .string cl, .slice A m c] 28)).cell? ⟨W1.heap.size, 5, none⟩ = some (.string cl) ∧ (W1.alloc (.cells #[.int .i64 4, .int .i64 w, .int .i64 f, .int .i64 s, .string nm, .string cl, .slice A m c] 28)).cell? ⟨W1.heap.size, 6, none⟩ = some (.slice A m c) ∧ (W1.alloc (.cells #[.int .i64 4, .int .i64 w, .int .i64 f, .int .i64 s, .string nm, .string cl, .slice A m c] 28)).cell? ⟨W1.heap.size, 2, none⟩ = some (.int .i64 f) ∧ (W1.alloc (.cells #[.int .i64 4, .int .i64 w, .int .i64 f, .int .i64 s, .string nm, .string cl, .slice A m c] 28)).cell? ⟨W1.heap.size, 3, none⟩ = some (.int .i64 s) ∧ W1.heap.size < (W1.alloc (.cells #[.int .i64 4, .int .i64 w, .int .i64 f, .int .i64 s, .string nm, .string cl, .slice A m c] 28)).heap.size := by
    refine ⟨?_, ?_, ?_, ?_, ?_, ?_, ?_⟩ <;> simp
  obtain ⟨W2, hW2⟩ : ∃ W, W1.alloc (.cells #[.int .i64 4, .int .i64 w, .int .i64 f, .int .i64 s, .string nm, .string cl, .slice A m c] 28) = W := ⟨_, rfl⟩
  simp only [hW2] at HB2 hx ⊢
  clear hW2 HX
  obtain ⟨g, hg⟩ : ∃ g, W1.heap.size = g := ⟨_, rfl⟩
  have HGG := Lib.hid hg
  simp only [hg] at hx ⊢
  clear hg
  have HXX := Lib.hid hx
  obtain ⟨c0, c4, c5, c6, c2, c3, hz⟩ := hx
  go_cut [3] (fun v3 wx => wx = W2)
  case first =>
    go_wp2_with fail
    all_goals go_meet
    all_goals exact rfl
  case rest =>
    subst hcut
    go_upto_region 4 with fail
    go_cut [4] (fun v4 wx => wx = wc)
    case first =>
      obtain ⟨bf, hbf⟩ : ∃ b, (f == 0) = b := ⟨_, rfl⟩
      obtain ⟨bs, hbs⟩ : ∃ b, (s == 0) = b := ⟨_, rfl⟩
      cases bf <;> cases bs
      all_goals go_wp2_with fail
      all_goals go_meet
      all_goals exact rfl
    case rest =>
      subst hcut
      go_upto_region 16 with fail
      go_cut [5] (fun v5 wx => v5 = .bool (decide (m ≤ 40) && strokeB nm) ∧ wx = wc)
      case first =>
        go_wp2_with fail
        all_goals go_meet
        all_goals rw [stroke_l]
        all_goals exact ⟨by first | (simp [*, beqL]; done) | (simp [*, beqL]; omega), rfl⟩
      case rest =>
        obtain ⟨rfl, rfl⟩ := hcut
        clear c0 c4 c2 c3
        obtain ⟨F0, hF0⟩ : ∃ x, (decide (m ≤ 40) && strokeB nm) = x := ⟨_, rfl⟩
        rw [hF0]
        have HF0 := Lib.hid hF0
        clear hF0
        have hm := HM.out
        subst hm
        go_upto_region 18 with fail
        go_loopg [5, 6] l.length (fun gk s5 s6 wx => ∃ i : Nat, i + gk = l.length ∧ s6 = .int .i64 i ∧ s5 = .bool (F0 && !(l.take i).any farB) ∧ Hid (Below wc.heap.size wc wx))
        case atStart => exact ⟨0, by omega, rfl, by simp, Lib.hid (Below.refl _ _)⟩
        case round =>
          obtain ⟨i, hi, rfl, rfl, HBX⟩ := hrel
          have y5 := (HBX.out.cell (p := ⟨g, 5, none⟩) hz).trans c5
          have y6 := (HBX.out.cell (p := ⟨g, 6, none⟩) hz).trans c6
          have x := HXX.out
          have y2 := (HBX.out.cell (p := ⟨g, 2, none⟩) hz).trans x.2.2.2.2.1
          have y3 := (HBX.out.cell (p := ⟨g, 3, none⟩) hz).trans x.2.2.2.2.2.1
          clear x
          have HBW := Lib.hid (HB2.out.trans (HBX.out.mono HB2.out.size))
          have hzr : g < wr.heap.size := Nat.lt_of_lt_of_le hz HBX.out.size
          by_cases hlt : i < l.length
          · obtain ⟨g', rfl⟩ : ∃ g', gk = g' + 1 := ⟨gk - 1, by omega⟩
            have i0 : (i : Int) < l.length := by omega
            obtain ⟨b, off, rfl, hbl, hcell⟩ := ints_at (Kd.C_below HA.out HBW.out) (by omega)
            have d0 := hcell i hlt
            have hst : (F0 && !(l.take (i + 1)).any farB) = ((F0 && !(l.take i).any farB) && !farB l[i]) := by
              rw [List.take_succ_eq_append_getElem hlt, List.any_append]
              cases F0 <;> cases (l.take i).any farB <;> simp
            obtain ⟨y, hy⟩ : ∃ y, l[i] = y := ⟨_, rfl⟩
            rw [hy] at d0 hst
            obtain ⟨q, hq⟩ : ∃ q, (F0 && !(l.take i).any farB) = q := ⟨_, rfl⟩
            rw [hq] at hst ⊢
            have HST := Lib.hid hst
            have HW := Lib.hid (show wrap64 ((i : Int) + 1) = ((i + 1 : Nat) : Int) by have := HL.out; unfold wrap64; omega)
            clear hcell hbl hy hq hst
            cases q
            · go_wp2_with fail
              go_roundg g'
              case measure => omega
              case rel => exact ⟨i + 1, by omega, congrArg (Value.int .i64) HW.out, by rw [HST.out]; rfl, HBX⟩
            · by_cases f1 : (-1000000 : Int) ≤ y
              · by_cases f2 : y ≤ 1000000
                · go_wp2_with fail
                  go_roundg g'
                  case measure => omega
                  case rel => exact ⟨i + 1, by omega, congrArg (Value.int .i64) HW.out, by rw [HST.out]; unfold farB; rw [decide_eq_false (by omega), decide_eq_false (by omega)]; first | rfl | simp [*], HBX⟩
                · go_wp2_with fail
                  go_roundg g'
                  case measure => omega
                  case rel => exact ⟨i + 1, by omega, congrArg (Value.int .i64) HW.out, by rw [HST.out]; unfold farB; rw [decide_eq_true (by omega : 1000000 < y)]; simp [*], HBX⟩
              · go_wp2_with fail
                go_roundg g'
                case measure => omega
                case rel => exact ⟨i + 1, by omega, congrArg (Value.int .i64) HW.out, by rw [HST.out]; unfold farB; rw [decide_eq_true (by omega : y < -1000000)]; simp [*], HBX⟩
          · have htk : l.take i = l := List.take_of_length_le (by omega)
            rw [htk]
            have i0 : ¬ (i : Int) < l.length := by omega
            obtain ⟨q, hq⟩ : ∃ q, (F0 && !l.any farB) = q := ⟨_, rfl⟩
            rw [hq]
            obtain ⟨bf, hbf⟩ : ∃ b, (f == 0) = b := ⟨_, rfl⟩
            obtain ⟨bs, hbs⟩ : ∃ b, (s == 0) = b := ⟨_, rfl⟩
            have KEY := Lib.hid (show ((decide (l.length ≤ 40) && strokeB nm) && (!l.any farB && (b2 && (decide (f = 0) && decide (s = 0))))) = (q && (b2 && (bf && bs))) by
              rw [HF0.out, ← hq, ← hbf, ← hbs, beqJ, beqJ, Bool.and_assoc])
            clear hq htk
            cases q
            · go_wp2_with fail
              all_goals
                go_ret
                exact ⟨by rw [KEY.out]; rfl, HBW.out⟩
            · cases b2 <;> cases bf <;> cases bs
              all_goals go_wp2_with (go_at_call 63; (with_reducible refine (HC.out _).mono ?_); rintro e w3 ⟨rfl, hd3⟩; have hb3 := hd3.below; have HB4 := Lib.hid (HBW.out.trans (hb3.mono (by have := HBW.out.size; omega))); have z2 := (hb3.cell (p := ⟨g, 2, none⟩) hzr).trans y2; have z3 := (hb3.cell (p := ⟨g, 3, none⟩) hzr).trans y3; clear hd3 hb3 y2 y3 y5 y6)
              all_goals
                go_ret
                exact ⟨by rw [KEY.out]; rfl, HB4.out⟩
end Go.Proofs.Ytmmfojaeahcohaa

set_option linter.unusedVariables false
set_option linter.unusedSimpArgs false
namespace Go.Proofs.Ytmmfojaeahcohaa
open Go.Shelf Go.RowKit Go.Lib Go.Aids Go.Opens Go.Proofs.YtmmfojaeahcohaaW.PrintWords Go.Proofs.Ytmmfojaeahcohaa.PTabsMade

theorem hvalid_calls (k w f s : Int) (nm cl : ByteArray) (A : Option Addr) (c : Nat) (l : List Int) (hn : nm.size ≤ 9223372036854775807) (hc : cl.size ≤ 9223372036854775807) (hl : l.length ≤ 9223372036854775807) (W : World) (hC : kI.C W A l.length l) :
    Calls Try.prog 40 #[boxV k w f s nm cl A l.length c] W fun e w' => e = .returned (.bool (validB k w f s nm cl l)) ∧ Below W.heap.size W w' := by
  by_cases hf : w < -1000000 ∨ 1000000 < w ∨ f < 0 ∨ s < 0
  · have e : validB k w f s nm cl l = false := by unfold validB; rw [if_pos hf]
    rw [e]
    exact rvalid_far k w f s nm cl A c l.length hf W
  · have h0 : ¬ w < -1000000 := by omega
    have h1 : ¬ 1000000 < w := by omega
    have h2 : ¬ f < 0 := by omega
    have h3 : ¬ s < 0 := by omega
    by_cases k1 : k = 1
    · subst k1; exact rvalid_1 w f s nm cl A c l.length l rfl h0 h1 h2 h3 W
    by_cases k2 : k = 2
    · subst k2; exact rvalid_2 w f s nm cl A c l.length l rfl h0 h1 h2 h3 W
    by_cases k3 : k = 3
    · subst k3; exact rvalid_3 w f s nm cl A c l.length l rfl h0 h1 h2 h3 W
    by_cases k5 : k = 5
    · subst k5; exact rvalid_5 w f s nm cl A c l.length l rfl h0 h1 h2 h3 W
    by_cases k6 : k = 6
    · subst k6; exact rvalid_6 w f s nm cl A c l.length l rfl h0 h1 h2 h3 W
    have e : validB k w f s nm cl l = (colB cl && kindB k w f s nm cl l) := by unfold validB; rw [if_neg hf]
    rw [e]
    unfold kindB
    by_cases k0 : k = 0
    · subst k0
      rw [if_pos rfl]
      have h := rvalid_0 w f s nm cl A c l.length hn hc h0 h1 h2 h3 W
      have e2 : (nameB nm && (colB cl && decide (l.length = 0))) = (colB cl && (nameB nm && decide (l.length = 0))) := by cases nameB nm <;> cases colB cl <;> rfl
      rw [e2] at h
      exact h
    by_cases k4 : k = 4
    · subst k4
      rw [if_neg k0, if_neg k1, if_pos rfl]
      have h := rvalid_4 w f s nm cl A c l.length l rfl hl hc h0 h1 h2 h3 W hC
      have e2 : ((decide (l.length ≤ 40) && strokeB nm) && (!l.any farB && (colB cl && (decide (f = 0) && decide (s = 0))))) = (colB cl && (decide (f = 0) && (decide (s = 0) && (strokeB nm && (decide (l.length ≤ 40) && !l.any farB))))) := by
        cases decide (l.length ≤ 40) <;> cases strokeB nm <;> cases l.any farB <;> cases colB cl <;> cases decide (f = 0) <;> cases decide (s = 0) <;> rfl
      rw [e2] at h
      exact h
    rw [if_neg k0, if_neg k1, if_neg k4, if_neg k5, if_neg (by omega), Bool.and_false]
    exact rvalid_x k w f s nm cl A c l.length k0 k1 k2 k3 k4 k5 k6 h0 h1 h2 h3 W
end Go.Proofs.Ytmmfojaeahcohaa

set_option linter.unusedVariables false
set_option linter.unusedSimpArgs false
namespace Go.Proofs.Ytmmfojaeahcohaa
open Go.Shelf Go.RowKit Go.Lib Go.Aids Go.Opens Go.Proofs.YtmmfojaeahcohaaW.PrintWords Go.Proofs.Ytmmfojaeahcohaa.PTabsMade

set_option maxRecDepth 100000 in
set_option maxHeartbeats 4000000 in
theorem hchar_calls (k w f s : Int) (nm cl : ByteArray) (A : Option Addr) (c : Nat) (l : List Int) (hn : nm.size ≤ 9223372036854775807) (hc : cl.size ≤ 9223372036854775807) (hl : l.length ≤ 9223372036854775807) (W : World) (hC : kI.C W A l.length l) :
    Calls Try.prog 39 #[boxV k w f s nm cl A l.length c] W fun e w' => e = .returned (.bool (validB k w f s nm cl l && (decide (k = 0) || decide (k = 5)))) ∧ Below W.heap.size W w' := by
  have hb := (Below.refl W.heap.size W).alloc (Nat.le_refl _) (.cells #[.int .i64 k, .int .i64 w, .int .i64 f, .int .i64 s, .string nm, .string cl, .slice A l.length c] 28)
  have HV := Lib.hid (hvalid_calls k w f s nm cl A c l hn hc hl (W.alloc (.cells #[.int .i64 k, .int .i64 w, .int .i64 f, .int .i64 s, .string nm, .string cl, .slice A l.length c] 28)) (Kd.C_below hC hb))
  have HB := Lib.hid hb
  have HC0 := Lib.hid (show (W.alloc (.cells #[.int .i64 k, .int .i64 w, .int .i64 f, .int .i64 s, .string nm, .string cl, .slice A l.length c] 28)).cell? ⟨W.heap.size, 0, none⟩ = some (.int .i64 k) ∧ W.heap.size < (W.alloc (.cells #[.int .i64 k, .int .i64 w, .int .i64 f, .int .i64 s, .string nm, .string cl, .slice A l.length c] 28)).heap.size by constructor <;> simp)
  obtain ⟨b, hbv⟩ : ∃ b, validB k w f s nm cl l = b := ⟨_, rfl⟩
  rw [hbv] at HV ⊢
  obtain ⟨b0, hb0⟩ : ∃ b, (k == 0) = b := ⟨_, rfl⟩
  obtain ⟨b5, hb5⟩ : ∃ b, (k == 5) = b := ⟨_, rfl⟩
  have KEY := Lib.hid (show (b && (decide (k = 0) || decide (k = 5))) = (b && (b0 || b5)) by rw [← hb0, ← hb5, beqJ, beqJ])
  clear hb hbv hn hc hl hC
  go_enter Try.func39, Try.ntmps39
  go_wp2_with (go_at_call 40; (with_reducible refine HV.out.mono ?_); rintro e w2 ⟨rfl, hb2⟩; have HB2 := Lib.hid (HB.out.trans (hb2.mono HB.out.size)); have y0 := (hb2.cell (p := ⟨W.heap.size, 0, none⟩) HC0.out.2).trans HC0.out.1; clear hb2; cases b <;> cases b0 <;> cases b5)
  all_goals (try go_wp2_with fail)
  all_goals
    go_ret
    exact ⟨by rw [KEY.out]; rfl, HB2.out⟩
end Go.Proofs.Ytmmfojaeahcohaa

set_option linter.unusedVariables false
set_option linter.unusedSimpArgs false
namespace Go.Proofs.Ytmmfojaeahcohaa
open Go.Shelf Go.RowKit Go.Lib Go.Aids Go.Opens Go.Proofs.YtmmfojaeahcohaaW.PrintWords Go.Proofs.Ytmmfojaeahcohaa.PTabsMade

/-- What tabs.Set asks. -/
def okSet (C : List (List S28)) (M : List Int) (L : List S68) (ev : Int) (t l : S28) : Bool :=
  tvalidB L ev && (!(C.any fun c => c.any fun x => !validS x) && (!([t, l].any fillB) && (!(M.any markB) && decide ((M.length : Int) = max ((C.length : Int) - 1) 0))))
theorem two_C (W : World) (B : Nat) (hB : B = W.heap.size) (t l : S28) (At Al : Option Addr) (ct cl : Nat) (ht : k28.K W t (boxC t At ct)) (hl : k28.K W l (boxC l Al cl)) :
    Kd.C k28 (W.alloc (.cells (boxC t At ct ++ boxC l Al cl).toArray 28)) (some ⟨B, 0, none⟩) [t, l].length [t, l] := by
  subst hB
  refine ⟨rfl, by simp, fun _ => ⟨_, rfl, fun j p hj => ?_⟩⟩
  have hb := (Below.refl W.heap.size W).alloc (Nat.le_refl _) (.cells (boxC t At ct ++ boxC l Al cl).toArray 28)
  have ead : ∀ q, ((⟨W.heap.size, 0, none⟩ : Addr).add q) = ⟨W.heap.size, q, none⟩ := fun q => by
    simp [Addr.add]
    intro h; omega
  match j, hj with
  | 0, hj =>
    injection hj with hj
    subst hj
    refine ⟨boxC t At ct, rfl, k28.K_below hb ht, fun i u hi => ?_⟩
    rw [ead, World.cell?_alloc_at _ _ _ _ rfl, show k28.sz = 7 from rfl]
    have hil := (List.getElem?_eq_some_iff.1 hi).1
    rw [List.getElem?_toArray, List.getElem?_append_left (by omega)]
    simpa using hi
  | 1, hj =>
    injection hj with hj
    subst hj
    refine ⟨boxC l Al cl, rfl, k28.K_below hb hl, fun i u hi => ?_⟩
    rw [ead, World.cell?_alloc_at _ _ _ _ rfl, show k28.sz = 7 from rfl]
    rw [List.getElem?_toArray, List.getElem?_append_right (by show 7 ≤ 1 * 7 + i; omega)]
    have : 1 * 7 + i - (boxC t At ct).length = i := by show 1 * 7 + i - 7 = i; omega
    rw [this]
    exact hi
  | j + 2, hj => simp at hj
theorem box_K (w : World) (x : S28) (A : Option Addr) (c : Nat) (hc : x.f6.length ≤ c) (h : kI.C w A x.f6.length x.f6) : k28.K w x (boxC x A c) := k28_mk w x hc h
/-- What stands behind the making of Set's variables. -/
structure Pre (w W : World) (g : Nat) (As : Option Addr) (ns cs : Nat) (ev : Int) (t l : S28) : Prop where
  below : Below w.heap.size w W
  s0 : W.cell? ⟨g, 0, none⟩ = some (.slice As ns cs)
  s1 : W.cell? ⟨g, 1, none⟩ = some (.int .i64 ev)
  bad : BadAt W (g + 3)
  fills : Kd.C k28 W (some ⟨g + 4, 0, none⟩) [t, l].length [t, l]
  top : W.heap.size = g + 5
  gw : w.heap.size = g
set_option maxRecDepth 100000 in
set_option maxHeartbeats 4000000 in
theorem pre_made (w : World) (g : Nat) (hg : w.heap.size = g) (As : Option Addr) (ns cs : Nat) (ev : Int) (t l : S28) (At Al : Option Addr) (ct cl : Nat) (htc : t.f6.length ≤ ct) (hlc : l.f6.length ≤ cl) (ht : kI.C w At t.f6.length t.f6) (hl : kI.C w Al l.f6.length l.f6) :
    Pre w (((((w.alloc (.cells #[.slice As ns cs, .int .i64 ev] 26)).alloc (.cells (boxC t At ct).toArray 28)).alloc (.cells (boxC l Al cl).toArray 28)).alloc (.cells #[.func (.func 23) #[] #[]] 69)).alloc (.cells (boxC t At ct ++ boxC l Al cl).toArray 28)) g As ns cs ev t l := by
  subst hg
  have hb : Below w.heap.size w ((((w.alloc (.cells #[.slice As ns cs, .int .i64 ev] 26)).alloc (.cells (boxC t At ct).toArray 28)).alloc (.cells (boxC l Al cl).toArray 28)).alloc (.cells #[.func (.func 23) #[] #[]] 69)) :=
    ((((Below.refl _ _).alloc (Nat.le_refl _) _).alloc (by simp) _).alloc (by simp; omega) _).alloc (by simp; omega) _
  have p4 : ∀ (w : World) (o1 o2 o3 o4 : Obj) (n i : Nat), n < w.heap.size → ((((w.alloc o1).alloc o2).alloc o3).alloc o4).cell? ⟨n, i, none⟩ = w.cell? ⟨n, i, none⟩ := fun w o1 o2 o3 o4 n i h => by
    rw [World.cell?_alloc_past _ _ _ (by simp; omega), World.cell?_alloc_past _ _ _ (by simp; omega), World.cell?_alloc_past _ _ _ (by simp; omega), World.cell?_alloc_past _ _ _ h]
  refine ⟨hb.alloc (by simp; omega) _, ?_, ?_, ⟨?_, ?_⟩, ?_, ?_, rfl⟩
  · rw [p4 _ _ _ _ _ _ _ (by simp), World.cell?_alloc_at _ _ _ _ rfl]; rfl
  · rw [p4 _ _ _ _ _ _ _ (by simp), World.cell?_alloc_at _ _ _ _ rfl]; rfl
  · rw [World.cell?_alloc_past _ _ _ (by simp), World.cell?_alloc_at _ _ _ _ (by simp)]; rfl
  · simp
  · exact two_C _ _ (by simp) t l At Al ct cl (box_K _ t At ct htc (Kd.C_below ht hb)) (box_K _ l Al cl hlc (Kd.C_below hl hb))
  · simp
end Go.Proofs.Ytmmfojaeahcohaa

set_option linter.unusedVariables false
set_option linter.unusedSimpArgs false
namespace Go.Proofs.Ytmmfojaeahcohaa
open Go.Shelf Go.RowKit Go.Lib Go.Aids Go.Opens Go.Proofs.YtmmfojaeahcohaaW.PrintWords Go.Proofs.Ytmmfojaeahcohaa.PTabsMade

/-- What comes in. -/
structure SetIn (w : World) (C : List (List S28)) (M : List Int) (L : List S68) (ev : Int) (t l : S28) (Ac Am As At Al : Option Addr) (cc cm cs ct cl : Nat) : Prop where
  c : Kd.C (Kd.slice 28 k28) w Ac C.length C
  cn : C.length ≤ cc
  cl63 : ∀ y ∈ C, ∀ x ∈ y, x.f6.length ≤ 9223372036854775807
  m : kI.C w Am M.length M
  mn : M.length ≤ cm
  s : Kd.C k68 w As L.length L
  sn : L.length ≤ cs
  sb : ∀ x ∈ L, 0 ≤ x.f1 ∧ x.f1 < 256
  tk : kI.C w At t.f6.length t.f6
  tn : t.f6.length ≤ ct
  lk : kI.C w Al l.f6.length l.f6
  ln : l.f6.length ≤ cl
theorem SetIn.below {w w1 : World} {C : List (List S28)} {M : List Int} {L : List S68} {ev : Int} {t l : S28} {Ac Am As At Al : Option Addr} {cc cm cs ct cl : Nat} (h : SetIn w C M L ev t l Ac Am As At Al cc cm cs ct cl) (hb : Below w.heap.size w w1) : SetIn w1 C M L ev t l Ac Am As At Al cc cm cs ct cl :=
  ⟨Kd.C_below h.c hb, h.cn, h.cl63, Kd.C_below h.m hb, h.mn, Kd.C_below h.s hb, h.sn, h.sb, Kd.C_below h.tk hb, h.tn, Kd.C_below h.lk hb, h.ln⟩
theorem Pre.step {w W W1 : World} {g : Nat} {As : Option Addr} {ns cs : Nat} {ev : Int} {t l : S28} (h : Pre w W g As ns cs ev t l) (hb : Below W.heap.size W W1) :
    Below w.heap.size w W1 ∧ W1.cell? ⟨g, 0, none⟩ = some (.slice As ns cs) ∧ W1.cell? ⟨g, 1, none⟩ = some (.int .i64 ev) ∧ BadAt W1 (g + 3) ∧ Kd.C k28 W1 (some ⟨g + 4, 0, none⟩) [t, l].length [t, l] ∧ g < W1.heap.size := by
  have ht := h.top
  have hg := h.gw
  have hs := hb.size
  exact ⟨h.below.trans (hb.mono (by omega)), (hb.cell (p := ⟨g, 0, none⟩) (by show g < _; omega)).trans h.s0, (hb.cell (p := ⟨g, 1, none⟩) (by show g < _; omega)).trans h.s1, h.bad.below hb, Kd.C_below h.fills hb, by omega⟩
theorem store_new (W : World) (B : Nat) (hB : B = W.heap.size) (u v : Value) (t : TypeId) (h1 : v.oneCell' = true) : (store ⟨B, 0, none⟩ v).run Try.prog (W.alloc (.cells #[u] t)) = .ok () (W.alloc (.cells #[v] t)) := by
  subst hB
  rw [run_store Try.prog (W.alloc (.cells #[u] t)) ⟨W.heap.size, 0, none⟩ v _ h1, World.cell?_alloc_at _ _ _ _ rfl]
  have hf : (W.alloc (.cells #[u] t)).frozen? ⟨W.heap.size, 0, none⟩ = false := Lib.frozen_of_heap (heap_alloc_new W (.cells #[u] t)) 0
  rw [hf, World.setCell_alloc_at _ _ _ _ _ rfl]
  rfl
set_option maxRecDepth 100000 in
set_option maxHeartbeats 4000000 in
theorem set_refuse (w : World) (C : List (List S28)) (M : List Int) (L : List S68) (ev : Int) (t l : S28) (Ac Am As At Al : Option Addr) (cc cm cs ct cl : Nat) (h : SetIn w C M L ev t l Ac Am As At Al cc cm cs ct cl) (hok : okSet C M L ev t l = false) :
    Calls Try.prog 9 #[.slice Ac C.length cc, .slice Am M.length cm, .agg #[.slice As L.length cs, .int .i64 ev], boxV t.f0 t.f1 t.f2 t.f3 t.f4 t.f5 At t.f6.length ct, boxV l.f0 l.f1 l.f2 l.f3 l.f4 l.f5 Al l.f6.length cl] w fun e w' => e = .returned (.tuple #[.slice none 0 0, .int .i64 1]) ∧ Below w.heap.size w w' := by
  have HP := pre_made w w.heap.size rfl As L.length cs ev t l At Al ct cl h.tn h.ln h.tk h.lk
  have HI := Lib.hid h
  have HOK := Lib.hid hok
  clear h hok
  simp only [boxC, List.cons_append, List.nil_append] at HP
  have HPP := Lib.hid HP
  clear HP
  have hst := store_new (((w.alloc (.cells #[.slice As L.length cs, .int .i64 ev] 26)).alloc (.cells #[.int .i64 t.f0, .int .i64 t.f1, .int .i64 t.f2, .int .i64 t.f3, .string t.f4, .string t.f5, .slice At t.f6.length ct] 28)).alloc (.cells #[.int .i64 l.f0, .int .i64 l.f1, .int .i64 l.f2, .int .i64 l.f3, .string l.f4, .string l.f5, .slice Al l.f6.length cl] 28)) (w.heap.size + 1 + 1 + 1) (by simp) .nilFunc (.func (.func 23) #[] #[]) 69 rfl
  go_enter Try.func9, Try.ntmps9
  go_wp2_with fail
  clear hst
  obtain ⟨W1, hW1⟩ : ∃ W, (((((w.alloc (.cells #[.slice As L.length cs, .int .i64 ev] 26)).alloc (.cells #[.int .i64 t.f0, .int .i64 t.f1, .int .i64 t.f2, .int .i64 t.f3, .string t.f4, .string t.f5, .slice At t.f6.length ct] 28)).alloc (.cells #[.int .i64 l.f0, .int .i64 l.f1, .int .i64 l.f2, .int .i64 l.f3, .string l.f4, .string l.f5, .slice Al l.f6.length cl] 28)).alloc (.cells #[.func (.func 23) #[] #[]] 69)).alloc (.cells #[.int .i64 t.f0, .int .i64 t.f1, .int .i64 t.f2, .int .i64 t.f3, .string t.f4, .string t.f5, .slice At t.f6.length ct, .int .i64 l.f0, .int .i64 l.f1, .int .i64 l.f2, .int .i64 l.f3, .string l.f4, .string l.f5, .slice Al l.f6.length cl] 28)) = W := ⟨_, rfl⟩
  rw [hW1] at HPP ⊢
  clear hW1
  have HI1 := Lib.hid (HI.out.below HPP.out.below)
  have hv := HPP.out.bad
  refine (tvalid_calls As cs L ev HI1.out.sn HI1.out.sb W1 HI1.out.s).mono ?_
  rintro e w2 ⟨rfl, hb2⟩
  have HI2 := Lib.hid (HI1.out.below hb2)
  have HS2 := Lib.hid (HPP.out.step hb2)
  have HB2 := Lib.hid hb2
  clear hb2 hv
  have hOK := HOK.out
  unfold okSet at hOK
  obtain ⟨b1, hb1⟩ : ∃ b, tvalidB L ev = b := ⟨_, rfl⟩
  rw [hb1] at hOK ⊢
  clear hb1
  cases b1
  · go_wp2_with fail
    go_ret2
    exact ⟨rfl, HS2.out.1⟩
  have HC26 := Lib.hid (ccell_calls 27 #[.pointer (some ⟨w.heap.size + 1 + 1 + 1, 0, none⟩)] e27 (fun x => x.any fun y => !validS y) Ac cc C HI2.out.c.2.1 HI2.out.cn w2 HI2.out.c HI2.out.cl63 (fn27_tells w2 _ HS2.out.2.2.2.1))
  obtain ⟨b2, hb2⟩ : ∃ b, (C.any fun c => c.any fun x => !validS x) = b := ⟨_, rfl⟩
  rw [hb2] at hOK HC26
  clear hb2
  go_wp2_with fail
  refine HC26.out.mono ?_
  rintro e w3 ⟨rfl, hb3⟩
  have HI3 := Lib.hid (HI2.out.below hb3)
  have HB3 := Lib.hid (HB2.out.trans (hb3.mono HB2.out.size))
  have HS3 := Lib.hid (HPP.out.step HB3.out)
  clear hb3
  cases b2
  case true =>
    go_wp2_with fail
    go_ret2
    exact ⟨rfl, HS3.out.1⟩
  have hn2 : ∀ x ∈ [t, l], x.f6.length ≤ 9223372036854775807 := fun x hx => by
    simp only [List.mem_cons, List.not_mem_nil, or_false] at hx
    rcases hx with rfl | rfl
    · exact HI3.out.tk.2.1
    · exact HI3.out.lk.2.1
  have HC28 := Lib.hid (cbox_calls 29 #[.pointer (some ⟨w.heap.size + 1 + 1 + 1, 0, none⟩)] e29 fillB (some ⟨w.heap.size + 1 + 1 + 1 + 1, 0, none⟩) 2 [t, l] (by simp) (by simp) w3 HS3.out.2.2.2.2.1 hn2 (fn29_tells w3 _ HS3.out.2.2.2.1))
  obtain ⟨b3, hb3⟩ : ∃ b, [t, l].any fillB = b := ⟨_, rfl⟩
  rw [hb3] at hOK HC28
  clear hb3 hn2
  go_wp2_with fail
  refine HC28.out.mono ?_
  rintro e w4 ⟨rfl, hb4⟩
  have HI4 := Lib.hid (HI3.out.below hb4)
  have HB4 := Lib.hid (HB3.out.trans (hb4.mono HB3.out.size))
  have HS4 := Lib.hid (HPP.out.step HB4.out)
  clear hb4
  cases b3
  case true =>
    go_wp2_with fail
    go_ret2
    exact ⟨rfl, HS4.out.1⟩
  have HC30 := Lib.hid (marks_calls Am cm M w4 HI4.out.m HI4.out.m.2.1)
  obtain ⟨b4, hb4⟩ : ∃ b, M.any markB = b := ⟨_, rfl⟩
  rw [hb4] at hOK HC30
  clear hb4
  go_wp2_with fail
  refine HC30.out.mono ?_
  rintro e w5 ⟨rfl, hb5⟩
  have HB5 := Lib.hid (HB4.out.trans (hb5.mono HB4.out.size))
  have HS5 := Lib.hid (HPP.out.step HB5.out)
  clear hb5
  cases b4
  case true =>
    go_wp2_with fail
    go_ret2
    exact ⟨rfl, HS5.out.1⟩
  simp only [Bool.not_false, Bool.true_and, decide_eq_false_iff_not] at hOK
  have hc63 : C.length ≤ 9223372036854775807 := HI4.out.c.2.1
  have hm63 : M.length ≤ 9223372036854775807 := HI4.out.m.2.1
  have hwr : wrap64 ((C.length : Int) - 1) = (C.length : Int) - 1 := wrap64_in _ (by omega) (by omega)
  go_wp2_with fail
  all_goals go_ret2
  all_goals exact ⟨rfl, HS5.out.1⟩
end Go.Proofs.Ytmmfojaeahcohaa

set_option linter.unusedVariables false
set_option linter.unusedSimpArgs false
namespace Go.Proofs.Ytmmfojaeahcohaa
open Go.Lib Go.RowKit Go.Proofs.YtmmfojaeahcohaaW.PrintWords Go.Proofs.Ytmmfojaeahcohaa.PTabsMade

/-- Where a cell begins. -/
def beginL (L : List S68) (ev at_ w : Int) : Int :=
  (nextL L 0 ev at_).1 - (if (nextL L 0 ev at_).2.1 = 82 then w else if (nextL L 0 ev at_).2.1 = 67 then w / 2 else 0)
/-- What is laid ahead of a cell that is not the first, and its place. -/
def gapL (L : List S68) (ev : Int) (t l : S28) (m at_ w : Int) : List S28 × Int :=
  if (nextL L 0 ev at_).2.2 = true ∧ at_ < beginL L ev at_ w then (wayL (beginL L ev at_ w - at_) (if m = 0 then t else l), beginL L ev at_ w) else ([], at_)
/-- What stands behind i cells. -/
def stL (C : List (List S28)) (M : List Int) (L : List S68) (ev : Int) (t l : S28) : Nat → List S28 × Int
  | 0 => ([], 0)
  | i + 1 =>
    let s := stL C M L ev t l i
    let c := C.getD i []
    let g := if i = 0 then ([], s.2) else gapL L ev t l (M.getD (i - 1) 0) s.2 (widthL c)
    (s.1 ++ g.1 ++ c, g.2 + widthL c)
/-- How many boxes the first i cells have. -/
def sumL (C : List (List S28)) : Nat → Nat
  | 0 => 0
  | i + 1 => sumL C i + (C.getD i []).length
theorem sum_mono (C : List (List S28)) : ∀ i j, i ≤ j → sumL C i ≤ sumL C j
  | i, 0, h => by
    have : i = 0 := by omega
    subst this; exact Nat.le_refl _
  | i, j + 1, h => by
    by_cases e : i = j + 1
    · subst e; exact Nat.le_refl _
    · have := sum_mono C i j (by omega)
      show _ ≤ sumL C j + _
      omega
theorem wayL_len (far : Int) (x : S28) (hf : 0 < far) (hf2 : far ≤ 1000000000) : (wayL far x).length ≤ 1000000001 := by
  have := many_le far x hf hf2
  unfold wayL
  rw [List.length_append, List.length_replicate]
  split <;> simp <;> omega
/-- What keeps the numbers small. -/
structure Fine (C : List (List S28)) (L : List S68) (ev : Int) : Prop where
  wid : ∀ c ∈ C, Wid c
  stp : Stp L
  ev0 : 0 ≤ ev
  ev1 : ev ≤ 1000000
  n : C.length ≤ 200
  sum : sumL C C.length ≤ 200
theorem Fine.cell {C : List (List S28)} {L : List S68} {ev : Int} (h : Fine C L ev) (i : Nat) : Wid (C.getD i []) := by
  rw [List.getD_eq_getElem?_getD]
  cases hq : C[i]? with
  | none => exact fun x hx => by simp at hx
  | some c => exact h.wid c (List.mem_of_getElem? hq)
theorem begin_bound {C : List (List S28)} {L : List S68} {ev : Int} (h : Fine C L ev) (at_ w : Int) (k : Nat) (hk : k ≤ 200) (ha0 : -1000000000000 ≤ at_) (ha1 : at_ ≤ 1000000000) (hw0 : -(1000000 * (k : Int)) ≤ w) (hw1 : w ≤ 1000000 * (k : Int)) :
    beginL L ev at_ w ≤ max at_ 1000000 + 1000000 + 1000000 * (k : Int) ∧ -(1000000 * (k : Int)) ≤ beginL L ev at_ w := by
  have hb := next_bound L ev at_ h.stp h.ev0 h.ev1 ha0 (by omega) 0 (by omega) (by omega)
  unfold beginL
  obtain ⟨p, hp⟩ : ∃ p, (nextL L 0 ev at_).1 = p := ⟨_, rfl⟩
  rw [hp] at hb ⊢
  split
  · omega
  · split <;> omega
theorem st_bound {C : List (List S28)} {M : List Int} {L : List S68} {ev : Int} {t l : S28} (h : Fine C L ev) : ∀ i, i ≤ C.length →
    -(1000000 * (sumL C i : Int)) ≤ (stL C M L ev t l i).2 ∧ (stL C M L ev t l i).2 ≤ 1000000 * ((i : Int) + 1) + 2000000 * (sumL C i : Int) ∧ (stL C M L ev t l i).1.length ≤ i * 1000000300
  | 0, _ => by simp [stL, sumL]
  | i + 1, hi => by
    obtain ⟨h1, h2, h3⟩ := st_bound (M := M) (t := t) (l := l) h i (by omega)
    have hs := sum_mono C (i + 1) C.length hi
    have hs2 := h.sum
    have hn := h.n
    have e : sumL C (i + 1) = sumL C i + (C.getD i []).length := rfl
    have hw := widthL_b (C.getD i []) (h.cell i)
    have est : stL C M L ev t l (i + 1) = ((stL C M L ev t l i).1 ++ (if i = 0 then ([], (stL C M L ev t l i).2) else gapL L ev t l (M.getD (i - 1) 0) (stL C M L ev t l i).2 (widthL (C.getD i []))).1 ++ C.getD i [], (if i = 0 then ([], (stL C M L ev t l i).2) else gapL L ev t l (M.getD (i - 1) 0) (stL C M L ev t l i).2 (widthL (C.getD i []))).2 + widthL (C.getD i [])) := rfl
    rw [est, e]
    clear est
    obtain ⟨s, hs0⟩ : ∃ s, stL C M L ev t l i = s := ⟨_, rfl⟩
    rw [hs0] at h1 h2 h3 ⊢
    clear hs0
    obtain ⟨out, at_⟩ := s
    rw [e] at hs
    obtain ⟨W, hW⟩ : ∃ k, sumL C i = k := ⟨_, rfl⟩
    obtain ⟨k, hk⟩ : ∃ k, (C.getD i []).length = k := ⟨_, rfl⟩
    obtain ⟨w, hww⟩ : ∃ w, widthL (C.getD i []) = w := ⟨_, rfl⟩
    rw [hk, hww] at hw
    rw [hW, hk] at hs
    rw [hW] at h1 h2
    simp only at h1 h2 h3 ⊢
    rw [List.length_append, List.length_append, hk, hww, hW]
    obtain ⟨hw0, hw1⟩ := hw
    clear e hk hww hW
    by_cases h0 : i = 0
    · rw [if_pos h0]
      simp only [List.length_nil]
      refine ⟨by omega, by omega, ?_⟩
      rw [Nat.add_mul]
      omega
    · rw [if_neg h0]
      have hb := begin_bound h at_ w k (by omega) (by omega) (by omega) hw0 hw1
      unfold gapL
      split
      · rename_i hg
        have hl := wayL_len (beginL L ev at_ w - at_) (if M.getD (i - 1) 0 = 0 then t else l) (by omega) (by omega)
        simp only
        obtain ⟨b, hbb⟩ : ∃ b, beginL L ev at_ w = b := ⟨_, rfl⟩
        rw [hbb] at hb hg hl ⊢
        refine ⟨by omega, by omega, ?_⟩
        rw [Nat.add_mul]
        omega
      · simp only [List.length_nil]
        refine ⟨by omega, by omega, ?_⟩
        rw [Nat.add_mul]
        omega
end Go.Proofs.Ytmmfojaeahcohaa

set_option linter.unusedVariables false
set_option linter.unusedSimpArgs false
namespace Go.Proofs.Ytmmfojaeahcohaa
open Go.Shelf Go.RowKit Go.Lib Go.Aids Go.Opens Go.Proofs.YtmmfojaeahcohaaW.PrintWords Go.Proofs.Ytmmfojaeahcohaa.PTabsMade

theorem own_empty28 (W : World) (base : Nat) (hb : base ≤ W.heap.size) (R : BoxR) : OwnRow R 28 7 (W.alloc (.cells #[] 28)) base (.slice (some ⟨W.heap.size, 0, none⟩) 0 0) [] :=
  ⟨[], World.ownsRow_lit W #[] 0 hb (by unfold maxLen; omega) rfl, Reps.none _ _⟩
set_option maxRecDepth 100000 in
set_option maxHeartbeats 1000000 in
theorem clone_calls (R : BoxR) (hR : OneC R) (A : Option Addr) (c : Nat) (qs : List S28) (hq : qs.length ≤ 900000000000) (w : World) (hC : ReadsRow R 7 w A qs.length qs) :
    Calls Try.prog 36 #[.slice A qs.length c] w fun e w' => ∃ v, e = .returned v ∧ OwnRow R 28 7 w' w.heap.size v qs ∧ Below w.heap.size w w' := by
  have HC := Lib.hid hC
  have HR := Lib.hid hR
  clear hR
  have q31 : ∀ (w : World) (a : Option Addr) (n c n' c' : Nat), (binOp .eql 31 (.slice a n c) (.slice none n' c')).run Try.prog w = .ok (.bool a.isNone) w := fun w a n c n' c' => Lib.run_eql_slice_nil w _ _ a n c n' c' Try.underlying31
  cases A with
  | none =>
    have h0 : qs = [] := by
      rcases Nat.eq_zero_or_pos qs.length with h | h
      · exact List.eq_nil_of_length_eq_zero h
      · obtain ⟨ad, h, _⟩ := hC.2.2 h
        cases h
    subst h0
    clear hC
    go_enter Try.func36, Try.ntmps36
    go_wp2_with fail
    go_ret
    exact ⟨_, rfl, OwnRow.none_ _ _ _ _ _, Below.refl _ _⟩
  | some ad =>
    clear hC
    have HB := Lib.hid ((Below.refl w.heap.size w).alloc (Nat.le_refl _) (.cells #[] 28))
    have HRD : Hid (ReadsRow R 7 (w.alloc (.cells #[] 28)) (some ad) qs.length qs) := Lib.hid (HC.out.imp_ HB.out (fun _ _ h => h))
    go_enter Try.func36, Try.ntmps36
    go_wp2_with (at_builtin; refine wpList_append_boxes R HR.out rfl _ _ rfl w.heap.size (.slice (some ⟨w.heap.size, 0, none⟩) 0 0) [] qs (by rfl) (own_empty28 w w.heap.size (Nat.le_refl _) R) (some ad) qs.length c (by rfl) rfl HRD.out (by simp; omega) HB.out.size ?_; intro v5 w5 ho5 hg5; have HO5 := Lib.hid ho5; have HB5 := Lib.hid (or_grown (own_empty28 w w.heap.size (Nat.le_refl _) R) HB.out HB.out.size hg5); clear ho5 hg5)
    go_ret
    exact ⟨_, rfl, by simpa using HO5.out, HB5.out⟩
/-- Ints that lie in another block are as they were. -/
theorem ints_move {W W1 : World} {A : Option Addr} {l : List Int} {g : Nat} (h : kI.C W A l.length l) (hA : ∀ ad, A = some ad → 0 < l.length → ad.block ≠ g) (hm : ∀ k, k ≠ g → k < W.heap.size → W1.heap[k]? = W.heap[k]?) : kI.C W1 A l.length l := by
  refine ⟨h.1, h.2.1, fun hn => ?_⟩
  obtain ⟨b, off, rfl, hb, hc⟩ := ints_at h hn
  have hne := hA _ rfl hn
  refine ⟨_, rfl, fun j p hj => ?_⟩
  obtain ⟨hjl, rfl⟩ := List.getElem?_eq_some_iff.1 hj
  refine ⟨[.int .i64 l[j]], rfl, rfl, fun i u hi => ?_⟩
  match i, hi with
  | 0, hi =>
    injection hi with hi
    subst hi
    have ead : ((⟨b, off, none⟩ : Addr).add (j * 1 + 0)) = ⟨b, off + j, none⟩ := by simp [Addr.add]
    rw [show kI.sz = 1 from rfl, ead]
    have := hc j hjl
    unfold World.cell? at this ⊢
    rw [hm b hne hb]
    exact this
  | i + 1, hi => simp at hi
end Go.Proofs.Ytmmfojaeahcohaa

set_option linter.unusedVariables false
set_option linter.unusedSimpArgs false
namespace Go.Proofs.Ytmmfojaeahcohaa
open Go.Shelf Go.RowKit Go.Lib Go.Aids Go.Opens Go.Proofs.YtmmfojaeahcohaaW.PrintWords Go.Proofs.Ytmmfojaeahcohaa.PTabsMade

theorem cloneN_calls (A : Option Addr) (c : Nat) (l : List Int) (w : World) (hC : kI.C w A l.length l) (hl : l.length ≤ 1000) :
    Calls Try.prog 37 #[.slice A l.length c] w fun e w' => ∃ A' c', e = .returned (.slice A' l.length c') ∧ l.length ≤ c' ∧ kI.C w' A' l.length l ∧ (∀ ad, A' = some ad → 0 < l.length → w.heap.size ≤ ad.block) ∧ Below w.heap.size w w' := by
  rcases Nat.eq_zero_or_pos l.length with h0 | h0
  · have e : l = [] := List.eq_nil_of_length_eq_zero h0
    subst e
    cases A with
    | none =>
      refine (Try.slices_Clone_int_nil 0 c w).mono ?_
      rintro e w' ⟨rfl, rfl⟩
      exact ⟨none, 0, rfl, Nat.le_refl _, ⟨rfl, Nat.zero_le _, fun h => absurd h (Nat.lt_irrefl 0)⟩, fun ad (h : none = some ad) _ => (by cases h), Below.refl _ _⟩
    | some a =>
      refine (Try.slices_Clone_int_zero a c w).mono ?_
      rintro e w' ⟨v', rfl, ho, _, hb⟩
      obtain ⟨A', c', rfl⟩ := own_slice ho
      exact ⟨A', c', rfl, Nat.zero_le _, ⟨rfl, Nat.zero_le _, fun h => absurd h (Nat.lt_irrefl 0)⟩, fun ad _ h => absurd h (Nat.lt_irrefl 0), hb⟩
  · obtain ⟨b, off, rfl, hb, hc⟩ := ints_at hC h0
    refine (Try.slices_Clone_int b off l.length c l w (Nat.le_refl _) (by omega) (fun j hj => by rw [hc j hj]; simp [List.getD, hj])).mono ?_
    rintro e w' ⟨v', rfl, ho, _, hb'⟩
    rw [List.take_of_length_le (Nat.le_refl _)] at ho
    obtain ⟨g, cap, rfl, hg1, hg2⟩ := ho.form h0
    have hcap : l.length ≤ cap := own_cap ho
    refine ⟨_, _, rfl, hcap, ⟨rfl, hC.2.1, fun _ => ⟨_, rfl, fun j p hj => ?_⟩⟩, fun ad h _ => by injection h with h; subst h; exact hg1, hb'⟩
    obtain ⟨hjl, rfl⟩ := List.getElem?_eq_some_iff.1 hj
    refine ⟨[.int .i64 l[j]], rfl, rfl, fun i u hi => ?_⟩
    match i, hi with
    | 0, hi =>
      injection hi with hi
      subst hi
      have ead : ((⟨g, 0, none⟩ : Addr).add (j * 1 + 0)) = ⟨g, j, none⟩ := by
        simp [Addr.add]
        intro h; omega
      rw [show kI.sz = 1 from rfl, ead, ho.cellAt j (by omega), List.getElem?_map, List.getElem?_eq_getElem hjl]
      rfl
    | i + 1, hi => simp at hi
/-- A row of boxes of the call's own, whose numbers lie elsewhere. -/
structure RowOK (w : World) (g : Nat) (out : List S28) : Prop where
  ex : ∃ cur : Array Value, w.heap[g]? = some (.cells cur 28 (0, 0)) ∧ ∀ k (hk : k < out.length), ∃ A c, cur[k * 7]? = some (.int .i64 out[k].f0) ∧ cur[k * 7 + 1]? = some (.int .i64 out[k].f1) ∧ cur[k * 7 + 2]? = some (.int .i64 out[k].f2) ∧ cur[k * 7 + 3]? = some (.int .i64 out[k].f3) ∧ cur[k * 7 + 4]? = some (.string out[k].f4) ∧ cur[k * 7 + 5]? = some (.string out[k].f5) ∧ cur[k * 7 + 6]? = some (.slice A out[k].f6.length c) ∧ out[k].f6.length ≤ c ∧ kI.C w A out[k].f6.length out[k].f6 ∧ (∀ ad, A = some ad → 0 < out[k].f6.length → ad.block ≠ g)
theorem RowOK.below {w w1 : World} {g : Nat} {out : List S28} (h : RowOK w g out) (hb : Below w.heap.size w w1) : RowOK w1 g out := by
  obtain ⟨cur, hg, hk⟩ := h.ex
  have hlt : g < w.heap.size := (Array.getElem?_eq_some_iff.1 hg).1
  refine ⟨cur, (hb.block g hlt).trans hg, fun k hkl => ?_⟩
  obtain ⟨A, c, c0, c1, c2, c3, c4, c5, c6, l6, g6, ne⟩ := hk k hkl
  exact ⟨A, c, c0, c1, c2, c3, c4, c5, c6, l6, Kd.C_below g6 hb, ne⟩
theorem RowOK.put {w : World} {g : Nat} {out : List S28} (h : RowOK w g out) (j : Nat) (hj : j < out.length) (A' : Option Addr) (c' : Nat) (hc' : out[j].f6.length ≤ c') (hC : kI.C w A' out[j].f6.length out[j].f6) (hne : ∀ ad, A' = some ad → 0 < out[j].f6.length → ad.block ≠ g) :
    RowOK (w.setCell ⟨g, j * 7 + 6, none⟩ (.slice A' out[j].f6.length c')) g out := by
  obtain ⟨cur, hg, hk⟩ := h.ex
  have hmv : ∀ k, k ≠ g → k < w.heap.size → (w.setCell ⟨g, j * 7 + 6, none⟩ (.slice A' out[j].f6.length c')).heap[k]? = w.heap[k]? := fun k hk _ => Below.heap_setCell _ _ _ _ hk
  refine ⟨cur.setIfInBounds (j * 7 + 6) (.slice A' out[j].f6.length c'), ?_, fun k hkl => ?_⟩
  · simp [World.setCell, Array.getElem?_modify, hg]
  · obtain ⟨A, c, c0, c1, c2, c3, c4, c5, c6, l6, g6, ne⟩ := hk k hkl
    have hs : ∀ i v, i ≠ j * 7 + 6 → cur[i]? = v → (cur.setIfInBounds (j * 7 + 6) (.slice A' out[j].f6.length c'))[i]? = v := fun i v hi hv => by
      rw [Array.getElem?_setIfInBounds, if_neg (fun e => hi e.symm)]; exact hv
    by_cases e : k = j
    · subst e
      have hin : k * 7 + 6 < cur.size := (Array.getElem?_eq_some_iff.1 c6).1
      exact ⟨A', c', hs _ _ (by omega) c0, hs _ _ (by omega) c1, hs _ _ (by omega) c2, hs _ _ (by omega) c3, hs _ _ (by omega) c4, hs _ _ (by omega) c5, by rw [Array.getElem?_setIfInBounds, if_pos rfl, if_pos hin], hc', ints_move hC hne hmv, hne⟩
    · exact ⟨A, c, hs _ _ (by omega) c0, hs _ _ (by omega) c1, hs _ _ (by omega) c2, hs _ _ (by omega) c3, hs _ _ (by omega) c4, hs _ _ (by omega) c5, hs _ _ (by omega) c6, l6, ints_move g6 ne hmv, ne⟩
theorem RowOK.read {w : World} {g : Nat} {out : List S28} (h : RowOK w g out) (hn : out.length ≤ 9223372036854775807) : Kd.C k28 w (some ⟨g, 0, none⟩) out.length out := by
  obtain ⟨cur, hg, hk⟩ := h.ex
  refine ⟨rfl, hn, fun _ => ⟨_, rfl, fun j p hj => ?_⟩⟩
  obtain ⟨hjl, rfl⟩ := List.getElem?_eq_some_iff.1 hj
  obtain ⟨A, c, c0, c1, c2, c3, c4, c5, c6, l6, g6, ne⟩ := hk j hjl
  refine ⟨boxC out[j] A c, rfl, box_K w out[j] A c l6 g6, fun i u hi => ?_⟩
  have ead : ∀ q, ((⟨g, 0, none⟩ : Addr).add q) = ⟨g, q, none⟩ := fun q => by
    simp [Addr.add]
    intro h; omega
  rw [show k28.sz = 7 from rfl, ead, Lib.cell_of_heap hg]
  match i, hi with
  | 0, hi => injection hi with hi; subst hi; exact c0
  | 1, hi => injection hi with hi; subst hi; exact c1
  | 2, hi => injection hi with hi; subst hi; exact c2
  | 3, hi => injection hi with hi; subst hi; exact c3
  | 4, hi => injection hi with hi; subst hi; exact c4
  | 5, hi => injection hi with hi; subst hi; exact c5
  | 6, hi => injection hi with hi; subst hi; exact c6
  | i + 7, hi => simp [boxC] at hi
/-- A row whose numbers lie in an elder world. -/
theorem RowOK.of {w W : World} {base g n cap : Nat} {out : List S28} (h : OwnRow (k28.K w) 28 7 W base (.slice (some ⟨g, 0, none⟩) n cap) out) (hb : Below w.heap.size w W) (hbase : w.heap.size ≤ base) : RowOK W g out := by
  obtain ⟨inner, ho, hr⟩ := h
  have hgb := own_base ho g rfl
  rcases ho.2 with ⟨e, _⟩ | ⟨g', cap', cur, e, _, hg, _, _, hcs, htake⟩
  · cases e
  injection e with e1 e2 e3
  injection e1 with e1
  injection e1 with e1
  subst e1
  refine ⟨cur, hg, fun k hk => ?_⟩
  have hlen := hr.1
  obtain ⟨A, c, e, l6, g6⟩ := k28_open (hr.2 k _ (List.getElem?_eq_getElem hk))
  have hcell : ∀ i (hi : i < 7), cur[k * 7 + i]? = ((inner.drop (k * 7)).take 7)[i]? := fun i hi => by
    rw [List.getElem?_take, if_pos hi, List.getElem?_drop, ← htake, List.getElem?_take, if_pos (by omega), Array.getElem?_toList]
  rw [e] at hcell
  have hA : ∀ ad, A = some ad → 0 < out[k].f6.length → ad.block ≠ g := fun ad hA hp => by
    obtain ⟨b, off, hA2, hb2, _⟩ := ints_at g6 hp
    rw [hA2] at hA
    injection hA with hA
    subst hA
    show b ≠ g
    omega
  exact ⟨A, c, hcell 0 (by omega), hcell 1 (by omega), hcell 2 (by omega), hcell 3 (by omega), hcell 4 (by omega), hcell 5 (by omega), hcell 6 (by omega), l6, Kd.C_below g6 hb, hA⟩
/-- Boxes that have few numbers. -/
def Few (L : List S28) : Prop := ∀ x ∈ L, x.f6.length ≤ 40
theorem validS_n (x : S28) (h : validS x = true) : x.f6.length ≤ 40 := by
  unfold validS validB at h
  split at h
  · cases h
  rw [Bool.and_eq_true] at h
  have h := h.2
  unfold kindB bareB at h
  repeat' split at h
  all_goals first | (simp only [Bool.and_eq_true, decide_eq_true_eq] at h; omega) | (cases h; done)
theorem fillB_n (x : S28) (h : fillB x = false) : x.f6.length ≤ 40 := by
  unfold fillB at h
  rw [Bool.or_eq_false_iff] at h
  exact validS_n x (by simpa using h.1)
theorem wayL_few (far : Int) (x : S28) (h : x.f6.length ≤ 40) : Few (wayL far x) := by
  intro y hy
  unfold wayL at hy
  rw [List.mem_append] at hy
  rcases hy with hy | hy
  · split at hy
    · cases hy
    · rw [List.mem_singleton] at hy
      subst hy
      show ([] : List Int).length ≤ 40
      simp
  · rw [List.mem_replicate] at hy
    rw [hy.2]; exact h
theorem stL_few {C : List (List S28)} {M : List Int} {L : List S68} {ev : Int} {t l : S28} (hC : ∀ c ∈ C, Few c) (ht : t.f6.length ≤ 40) (hl : l.f6.length ≤ 40) : ∀ i, Few (stL C M L ev t l i).1
  | 0 => fun x hx => by cases hx
  | i + 1 => by
    have ih := stL_few (M := M) (L := L) (ev := ev) hC ht hl i
    have hc : Few (C.getD i []) := by
      rw [List.getD_eq_getElem?_getD]
      cases hq : C[i]? with
      | none => exact fun x hx => by simp at hx
      | some c => exact hC c (List.mem_of_getElem? hq)
    have hg : Few (if i = 0 then ([], (stL C M L ev t l i).2) else gapL L ev t l (M.getD (i - 1) 0) (stL C M L ev t l i).2 (widthL (C.getD i []))).1 := by
      split
      · exact fun x hx => by cases hx
      · unfold gapL
        split
        · refine wayL_few _ _ ?_
          split
          · exact ht
          · exact hl
        · exact fun x hx => by cases hx
    intro x hx
    have e : (stL C M L ev t l (i + 1)).1 = (stL C M L ev t l i).1 ++ (if i = 0 then ([], (stL C M L ev t l i).2) else gapL L ev t l (M.getD (i - 1) 0) (stL C M L ev t l i).2 (widthL (C.getD i []))).1 ++ C.getD i [] := rfl
    rw [e, List.mem_append, List.mem_append] at hx
    rcases hx with (hx | hx) | hx
    · exact ih x hx
    · exact hg x hx
    · exact hc x hx
end Go.Proofs.Ytmmfojaeahcohaa

set_option linter.unusedVariables false
set_option linter.unusedSimpArgs false
namespace Go.Proofs.Ytmmfojaeahcohaa
open Go.Shelf Go.RowKit Go.Lib Go.Aids Go.Opens Go.Proofs.YtmmfojaeahcohaaW.PrintWords Go.Proofs.Ytmmfojaeahcohaa.PTabsMade

theorem fillB_w (x : S28) (h : fillB x = false) : -1000000 ≤ x.f1 ∧ x.f1 ≤ 1000000 := by
  unfold fillB at h
  rw [Bool.or_eq_false_iff] at h
  have hv : validS x = true := by simpa using h.1
  unfold validS validB at hv
  split at hv
  · cases hv
  · omega
set_option maxRecDepth 100000 in
set_option maxHeartbeats 4000000 in
theorem set_ok (w : World) (C : List (List S28)) (M : List Int) (L : List S68) (ev : Int) (t l : S28) (Ac Am As At Al : Option Addr) (cc cm cs ct cl : Nat) (h : SetIn w C M L ev t l Ac Am As At Al cc cm cs ct cl) (hok : okSet C M L ev t l = true) (hF : Fine C L ev) :
    Calls Try.prog 9 #[.slice Ac C.length cc, .slice Am M.length cm, .agg #[.slice As L.length cs, .int .i64 ev], boxV t.f0 t.f1 t.f2 t.f3 t.f4 t.f5 At t.f6.length ct, boxV l.f0 l.f1 l.f2 l.f3 l.f4 l.f5 Al l.f6.length cl] w fun e w' => ∃ A n, e = .returned (.tuple #[.slice A (stL C M L ev t l C.length).1.length n, .int .i64 0]) ∧ (stL C M L ev t l C.length).1.length ≤ n ∧ Kd.C k28 w' A (stL C M L ev t l C.length).1.length (stL C M L ev t l C.length).1 ∧ Below w.heap.size w w' := by
  have HP := pre_made w w.heap.size rfl As L.length cs ev t l At Al ct cl h.tn h.ln h.tk h.lk
  have HI := Lib.hid h
  have HOK := Lib.hid hok
  have HF := Lib.hid hF
  clear h hok hF
  simp only [boxC, List.cons_append, List.nil_append] at HP
  have HPP := Lib.hid HP
  clear HP
  have HFH : Hid ((((((w.alloc (.cells #[.slice As L.length cs, .int .i64 ev] 26)).alloc (.cells #[.int .i64 t.f0, .int .i64 t.f1, .int .i64 t.f2, .int .i64 t.f3, .string t.f4, .string t.f5, .slice At t.f6.length ct] 28)).alloc (.cells #[.int .i64 l.f0, .int .i64 l.f1, .int .i64 l.f2, .int .i64 l.f3, .string l.f4, .string l.f5, .slice Al l.f6.length cl] 28)).alloc (.cells #[.func (.func 23) #[] #[]] 69)).alloc (.cells #[.int .i64 t.f0, .int .i64 t.f1, .int .i64 t.f2, .int .i64 t.f3, .string t.f4, .string t.f5, .slice At t.f6.length ct, .int .i64 l.f0, .int .i64 l.f1, .int .i64 l.f2, .int .i64 l.f3, .string l.f4, .string l.f5, .slice Al l.f6.length cl] 28)).heap[w.heap.size + 1 + 1 + 1 + 1]? = some (.cells #[.int .i64 t.f0, .int .i64 t.f1, .int .i64 t.f2, .int .i64 t.f3, .string t.f4, .string t.f5, .slice At t.f6.length ct, .int .i64 l.f0, .int .i64 l.f1, .int .i64 l.f2, .int .i64 l.f3, .string l.f4, .string l.f5, .slice Al l.f6.length cl] 28 (0, 0))) := Lib.hid (by
    have := heap_alloc_new ((((w.alloc (.cells #[.slice As L.length cs, .int .i64 ev] 26)).alloc (.cells #[.int .i64 t.f0, .int .i64 t.f1, .int .i64 t.f2, .int .i64 t.f3, .string t.f4, .string t.f5, .slice At t.f6.length ct] 28)).alloc (.cells #[.int .i64 l.f0, .int .i64 l.f1, .int .i64 l.f2, .int .i64 l.f3, .string l.f4, .string l.f5, .slice Al l.f6.length cl] 28)).alloc (.cells #[.func (.func 23) #[] #[]] 69)) (.cells #[.int .i64 t.f0, .int .i64 t.f1, .int .i64 t.f2, .int .i64 t.f3, .string t.f4, .string t.f5, .slice At t.f6.length ct, .int .i64 l.f0, .int .i64 l.f1, .int .i64 l.f2, .int .i64 l.f3, .string l.f4, .string l.f5, .slice Al l.f6.length cl] 28)
    simpa using this)
  have hst := store_new (((w.alloc (.cells #[.slice As L.length cs, .int .i64 ev] 26)).alloc (.cells #[.int .i64 t.f0, .int .i64 t.f1, .int .i64 t.f2, .int .i64 t.f3, .string t.f4, .string t.f5, .slice At t.f6.length ct] 28)).alloc (.cells #[.int .i64 l.f0, .int .i64 l.f1, .int .i64 l.f2, .int .i64 l.f3, .string l.f4, .string l.f5, .slice Al l.f6.length cl] 28)) (w.heap.size + 1 + 1 + 1) (by simp) .nilFunc (.func (.func 23) #[] #[]) 69 rfl
  go_enter Try.func9, Try.ntmps9
  go_wp2_with fail
  clear hst
  obtain ⟨W1, hW1⟩ : ∃ W, (((((w.alloc (.cells #[.slice As L.length cs, .int .i64 ev] 26)).alloc (.cells #[.int .i64 t.f0, .int .i64 t.f1, .int .i64 t.f2, .int .i64 t.f3, .string t.f4, .string t.f5, .slice At t.f6.length ct] 28)).alloc (.cells #[.int .i64 l.f0, .int .i64 l.f1, .int .i64 l.f2, .int .i64 l.f3, .string l.f4, .string l.f5, .slice Al l.f6.length cl] 28)).alloc (.cells #[.func (.func 23) #[] #[]] 69)).alloc (.cells #[.int .i64 t.f0, .int .i64 t.f1, .int .i64 t.f2, .int .i64 t.f3, .string t.f4, .string t.f5, .slice At t.f6.length ct, .int .i64 l.f0, .int .i64 l.f1, .int .i64 l.f2, .int .i64 l.f3, .string l.f4, .string l.f5, .slice Al l.f6.length cl] 28)) = W := ⟨_, rfl⟩
  rw [hW1] at HPP HFH ⊢
  clear hW1
  have HI1 := Lib.hid (HI.out.below HPP.out.below)
  have hv := HPP.out.bad
  refine (tvalid_calls As cs L ev HI1.out.sn HI1.out.sb W1 HI1.out.s).mono ?_
  rintro e w2 ⟨rfl, hb2⟩
  have HI2 := Lib.hid (HI1.out.below hb2)
  have HS2 := Lib.hid (HPP.out.step hb2)
  have HB2 := Lib.hid hb2
  clear hb2 hv
  have hOK := HOK.out
  unfold okSet at hOK
  obtain ⟨b1, hb1⟩ : ∃ b, tvalidB L ev = b := ⟨_, rfl⟩
  rw [hb1] at hOK ⊢
  clear hb1
  cases b1
  · cases hOK
  have HC26 := Lib.hid (ccell_calls 27 #[.pointer (some ⟨w.heap.size + 1 + 1 + 1, 0, none⟩)] e27 (fun x => x.any fun y => !validS y) Ac cc C HI2.out.c.2.1 HI2.out.cn w2 HI2.out.c HI2.out.cl63 (fn27_tells w2 _ HS2.out.2.2.2.1))
  obtain ⟨b2, hb2⟩ : ∃ b, (C.any fun c => c.any fun x => !validS x) = b := ⟨_, rfl⟩
  rw [hb2] at hOK HC26
  clear hb2
  go_wp2_with fail
  refine HC26.out.mono ?_
  rintro e w3 ⟨rfl, hb3⟩
  have HI3 := Lib.hid (HI2.out.below hb3)
  have HB3 := Lib.hid (HB2.out.trans (hb3.mono HB2.out.size))
  have HS3 := Lib.hid (HPP.out.step HB3.out)
  clear hb3
  cases b2
  case true => cases hOK
  have hn2 : ∀ x ∈ [t, l], x.f6.length ≤ 9223372036854775807 := fun x hx => by
    simp only [List.mem_cons, List.not_mem_nil, or_false] at hx
    rcases hx with rfl | rfl
    · exact HI3.out.tk.2.1
    · exact HI3.out.lk.2.1
  have HC28 := Lib.hid (cbox_calls 29 #[.pointer (some ⟨w.heap.size + 1 + 1 + 1, 0, none⟩)] e29 fillB (some ⟨w.heap.size + 1 + 1 + 1 + 1, 0, none⟩) 2 [t, l] (by simp) (by simp) w3 HS3.out.2.2.2.2.1 hn2 (fn29_tells w3 _ HS3.out.2.2.2.1))
  obtain ⟨b3, hb3⟩ : ∃ b, [t, l].any fillB = b := ⟨_, rfl⟩
  rw [hb3] at hOK HC28
  clear hb3 hn2
  go_wp2_with fail
  refine HC28.out.mono ?_
  rintro e w4 ⟨rfl, hb4⟩
  have HI4 := Lib.hid (HI3.out.below hb4)
  have HB4 := Lib.hid (HB3.out.trans (hb4.mono HB3.out.size))
  have HS4 := Lib.hid (HPP.out.step HB4.out)
  clear hb4
  cases b3
  case true => cases hOK
  have HC30 := Lib.hid (marks_calls Am cm M w4 HI4.out.m HI4.out.m.2.1)
  obtain ⟨b4, hb4⟩ : ∃ b, M.any markB = b := ⟨_, rfl⟩
  rw [hb4] at hOK HC30
  clear hb4
  go_wp2_with fail
  refine HC30.out.mono ?_
  rintro e w5 ⟨rfl, hb5⟩
  have HB5 := Lib.hid (HB4.out.trans (hb5.mono HB4.out.size))
  have HS5 := Lib.hid (HPP.out.step HB5.out)
  clear hb5
  cases b4
  case true => cases hOK
  simp only [Bool.not_false, Bool.true_and, decide_eq_true_eq] at hOK
  have hc63 : C.length ≤ 9223372036854775807 := HI4.out.c.2.1
  have hm63 : M.length ≤ 9223372036854775807 := HI4.out.m.2.1
  have hwr : wrap64 ((C.length : Int) - 1) = (C.length : Int) - 1 := wrap64_in _ (by omega) (by omega)
  have HV0 := Lib.hid (show OwnRow (k28.K w) 28 7 w5 w5.heap.size (.slice none 0 0) [] from OwnRow.none_ _ _ _ _ _)
  go_wp2_with fail
  have HM := Lib.hid hOK
  have hok2 := HOK.out
  unfold okSet at hok2
  simp only [Bool.and_eq_true, Bool.not_eq_true'] at hok2
  obtain ⟨ok1, ok2, ok3, ok4, ok5⟩ := hok2
  have HFL : Hid (L.length ≤ 1000000) := Lib.hid (by
    unfold tvalidB at ok1
    simp only [Bool.and_eq_true, decide_eq_true_eq] at ok1
    have := ok1.2.1
    omega)
  have hfl2 : fillB t = false ∧ fillB l = false := by simpa using ok3
  have HTW := Lib.hid (fillB_w t hfl2.1)
  have HLW := Lib.hid (fillB_w l hfl2.2)
  have HMK : Hid (∀ m ∈ M, m = 0 ∨ m = 1) := Lib.hid (fun m hm => by
    have := List.any_eq_false.1 ok4 m hm
    unfold markB at this
    simp at this
    omega)
  have HFEW : Hid (∀ i, Few (stL C M L ev t l i).1) := Lib.hid (stL_few (fun c hc x hx => by
    have h1 := List.any_eq_false.1 ok2 c hc
    have h2 : ¬ ((!validS x) = true) := fun h => h1 (List.any_eq_true.2 ⟨x, hx, h⟩)
    exact validS_n x (by simpa using h2)) (fillB_n t hfl2.1) (fillB_n l hfl2.2))
  clear ok1 ok2 ok3 ok4 ok5 hfl2
  clear hOK hwr HC26 HC28 HC30
  go_loopg [14, 15, 47] C.length (fun gk s14 s15 s47 wx => ∃ i : Nat, i + gk = C.length ∧ s47 = .int .i64 i ∧ s15 = .int .i64 (stL C M L ev t l i).2 ∧ Hid (OwnRow (k28.K w) 28 7 wx w5.heap.size s14 (stL C M L ev t l i).1) ∧ Hid (Below w5.heap.size w5 wx))
  case atStart => exact ⟨0, by omega, rfl, rfl, HV0, Lib.hid (Below.refl _ _)⟩
  case round =>
    obtain ⟨i, hi, rfl, rfl, HO, HB⟩ := hrel
    by_cases hlt : i < C.length
    · have i0 : (i : Int) < C.length := by omega
      obtain ⟨g', rfl⟩ : ∃ g', gk = g' + 1 := ⟨gk - 1, by omega⟩
      have HSr := Lib.hid (HPP.out.step (HB5.out.trans (HB.out.mono HB5.out.size)))
      have HIr := Lib.hid (HI.out.below HSr.out.1)
      obtain ⟨b, off, rfl, hbl, hcell⟩ := cells_at HI.out.c (by omega)
      obtain ⟨A6, c6, c0, l6, g6⟩ := hcell i hlt
      have c0r := (HSr.out.1.cell (p := ⟨b, off + i, none⟩) hbl).trans c0
      have hblr : b < wr.heap.size := Nat.lt_of_lt_of_le hbl HSr.out.1.size
      have hst : stL C M L ev t l (i + 1) = ((stL C M L ev t l i).1 ++ (if i = 0 then ([], (stL C M L ev t l i).2) else gapL L ev t l (M.getD (i - 1) 0) (stL C M L ev t l i).2 (widthL C[i])).1 ++ C[i], (if i = 0 then ([], (stL C M L ev t l i).2) else gapL L ev t l (M.getD (i - 1) 0) (stL C M L ev t l i).2 (widthL C[i])).2 + widthL C[i]) := by
        have hg : C.getD i [] = C[i] := by simp [List.getD, hlt]
        rw [← hg]; rfl
      have hbd := st_bound (M := M) (t := t) (l := l) HF.out i (by omega)
      have hbd2 := st_bound (M := M) (t := t) (l := l) HF.out (i + 1) (by omega)
      have hwid := HF.out.wid _ (List.getElem_mem hlt)
      have hsum1 := sum_mono C i C.length (by omega)
      have hsum2 := sum_mono C (i + 1) C.length (by omega)
      have hsum3 := HF.out.sum
      have hcn := HF.out.n
      have hlen : sumL C (i + 1) = sumL C i + C[i].length := by
        have hg : C.getD i [] = C[i] := by simp [List.getD, hlt]
        show sumL C i + (C.getD i []).length = _
        rw [hg]
      obtain ⟨y, hy⟩ : ∃ y, C[i] = y := ⟨_, rfl⟩
      rw [hy] at hst hwid hlen c0r l6 g6
      have hy200 : y.length ≤ 200 := by omega
      have HRw := Lib.hid g6
      have HWC := Lib.hid (fun W hC => width_calls A6 c6 y hwid (by omega) W hC l6)
      have hww := widthL_b y hwid
      obtain ⟨w_, hw_⟩ : ∃ w_, widthL y = w_ := ⟨_, rfl⟩
      rw [hw_] at hst HWC hww
      rw [hst] at hbd2
      have HST0 := Lib.hid hst
      clear hst hcell c0 g6 hy hw_ hbl
      obtain ⟨s, hs⟩ : ∃ s, stL C M L ev t l i = s := ⟨_, rfl⟩
      rw [hs] at HST0 hbd hbd2 HO
      simp only [hs]
      clear hs
      obtain ⟨out, at_⟩ := s
      simp only at HST0 hbd hbd2 HO ⊢
      go_wp2_with fail
      refine (HWC.out _ (Kd.C_below HRw.out HSr.out.1)).mono ?_
      rintro e w6 ⟨rfl, hb6⟩
      have HB6 := Lib.hid (HB.out.trans (hb6.mono HB.out.size))
      have HO6 := Lib.hid (OwnRow.below HO.out hb6)
      have HS6 := Lib.hid (HPP.out.step (HB5.out.trans (HB6.out.mono HB5.out.size)))
      clear hb6
      by_cases hi0 : i = 0
      · have i1 : ¬ (0 : Int) < i := by omega
        have HST : Hid (stL C M L ev t l (i + 1) = (out ++ y, at_ + w_)) := Lib.hid (by rw [HST0.out, if_pos hi0]; simp)
        have HRT : Hid (ReadsRow (k28.K w) 7 w6 A6 y.length y) := Lib.hid (HRw.out.imp_ HS6.out.1 (fun _ _ h => h))
        have hwa : wrap64 (at_ + w_) = at_ + w_ := wrap64_in _ (by omega) (by omega)
        go_wp2_with (at_builtin; refine wpList_append_boxes (k28.K w) (oneC_K w) rfl _ _ rfl w5.heap.size u14 out y (by rfl) HO6.out A6 y.length c6 (by rfl) rfl HRT.out (by omega) HB6.out.size ?_; intro v8 w8 ho8 hg8; have HO8 := Lib.hid ho8; have HB8 := Lib.hid (or_grown HO6.out HB6.out HB6.out.size hg8); clear ho8 hg8)
        go_roundg g'
        case measure => omega
        case rel => exact ⟨i + 1, by omega, by go_num, by first | (rw [HST.out]; done) | (rw [HST.out]; simp), Lib.hid (by rw [HST.out]; exact HO8.out), HB8⟩
      · have i1 : (0 : Int) < i := by omega
        have hN := next_bound L ev at_ HF.out.stp HF.out.ev0 HF.out.ev1 (by omega) (by omega) 0 (by omega) (by omega)
        have HNX := Lib.hid (next_calls As cs L ev at_ HF.out.stp HFL.out HF.out.ev0 HF.out.ev1 (by omega) (by omega) w6 (HI.out.below HS6.out.1).s (HI.out.sn))
        have d0 := HS6.out.2.1
        have d1 := HS6.out.2.2.1
        have d2 := HS6.out.2.2.2.2.2
        have HST1 : Hid (stL C M L ev t l (i + 1) = (out ++ (gapL L ev t l (M.getD (i - 1) 0) at_ w_).1 ++ y, (gapL L ev t l (M.getD (i - 1) 0) at_ w_).2 + w_)) := Lib.hid (by rw [HST0.out, if_neg hi0])
        have HGP : Hid (gapL L ev t l (M.getD (i - 1) 0) at_ w_ = if (nextL L 0 ev at_).2.2 = true ∧ at_ < beginL L ev at_ w_ then (wayL (beginL L ev at_ w_ - at_) (if M.getD (i - 1) 0 = 0 then t else l), beginL L ev at_ w_) else ([], at_)) := Lib.hid rfl
        have HBG : Hid ((nextL L 0 ev at_).1 - (if (nextL L 0 ev at_).2.1 = 82 then w_ else if (nextL L 0 ev at_).2.1 = 67 then w_ / 2 else 0) = beginL L ev at_ w_) := Lib.hid rfl
        obtain ⟨bg, hbgn⟩ : ∃ b, beginL L ev at_ w_ = b := ⟨_, rfl⟩
        obtain ⟨p, hp⟩ : ∃ b, (nextL L 0 ev at_).1 = b := ⟨_, rfl⟩
        obtain ⟨kd, hkd⟩ : ∃ b, (nextL L 0 ev at_).2.1 = b := ⟨_, rfl⟩
        obtain ⟨q, hq⟩ : ∃ b, (nextL L 0 ev at_).2.2 = b := ⟨_, rfl⟩
        rw [hbgn, hq] at HGP
        rw [hbgn, hp, hkd] at HBG
        rw [hp] at hN
        rw [hp, hkd, hq] at HNX
        rw [HGP.out] at HST1
        clear hbgn hp hkd hq hbd2
        go_wp2_with fail
        refine HNX.out.mono ?_
        rintro e w7 ⟨rfl, hb7⟩
        have HB7 := Lib.hid (HB6.out.trans (hb7.mono HB6.out.size))
        have HO7 := Lib.hid (OwnRow.below HO6.out hb7)
        clear hb7 d0 d1 d2
        by_cases k82 : kd = 82
        · subst k82
          have hbg : Hid (bg = p - w_) := Lib.hid (by rw [← HBG.out, if_pos rfl])
          have hbg2 := hbg.out
          clear hbg
          subst hbg2
          have HBX := Lib.hid (HB7.out.alloc HB7.out.size (.cells #[.int .i64 p, .int .u8 82] 68))
          have HOX := Lib.hid (OwnRow.below HO7.out ((Below.refl _ _).alloc (Nat.le_refl _) (.cells #[.int .i64 p, .int .u8 82] 68)))
          have HSX := Lib.hid (HPP.out.step (HB5.out.trans (HBX.out.mono HB5.out.size)))
          by_cases hg : q = true ∧ at_ < p - w_
          · obtain ⟨hq1, hg2⟩ := hg
            subst hq1
            have hMl := HM.out
            have him : i - 1 < M.length := by omega
            obtain ⟨bm, om, rfl, hbm, hmc⟩ := ints_at HI.out.m (by omega)
            have mc := (HSX.out.1.cell (p := ⟨bm, om + (i - 1), none⟩) hbm).trans (hmc (i - 1) him)
            have hbm2 : bm < (w7.alloc (.cells #[.int .i64 p, .int .u8 82] 68)).heap.size := Nat.lt_of_lt_of_le hbm HSX.out.1.size
            have hmv := HMK.out _ (List.getElem_mem him)
            have hgd : M.getD (i - 1) 0 = M[i - 1] := by simp [List.getD, him]
            obtain ⟨mv, hmv2⟩ : ∃ m, M[i - 1] = m := ⟨_, rfl⟩
            rw [hmv2] at mc hmv hgd
            have HMV := Lib.hid hgd
            clear hgd hmv2
            have e1 : ((i : Int) - 1).toNat = i - 1 := by omega
            have e2 : 0 ≤ (i : Int) - 1 := by omega
            have e3 : (i : Int) - 1 < M.length := by omega
            have e4 : wrap64 ((i : Int) - 1) = (i : Int) - 1 := wrap64_in _ (by omega) (by omega)
            have wf : wrap64 ((p - w_) - at_) = (p - w_) - at_ := wrap64_in _ (by omega) (by omega)
            have hwa : wrap64 ((p - w_) + w_) = (p - w_) + w_ := wrap64_in _ (by omega) (by omega)
            have HFX : (w7.alloc (.cells #[.int .i64 p, .int .u8 82] 68)).heap[w.heap.size + 1 + 1 + 1 + 1]? = _ := ((HB5.out.trans (HBX.out.mono HB5.out.size)).block _ (by have := HPP.out.top; omega)).trans HFH.out
            have hF : w.heap.size + 1 + 1 + 1 + 1 < (w7.alloc (.cells #[.int .i64 p, .int .u8 82] 68)).heap.size := by
              have := (Array.getElem?_eq_some_iff.1 HFX).1
              exact this
            rcases hmv with rfl | rfl
            · have f0 : (w7.alloc (.cells #[.int .i64 p, .int .u8 82] 68)).cell? ⟨w.heap.size + 1 + 1 + 1 + 1, 0, none⟩ = some (.int .i64 t.f0) := by rw [Lib.cell_of_heap HFX]; rfl
              have f1 : (w7.alloc (.cells #[.int .i64 p, .int .u8 82] 68)).cell? ⟨w.heap.size + 1 + 1 + 1 + 1, 1, none⟩ = some (.int .i64 t.f1) := by rw [Lib.cell_of_heap HFX]; rfl
              have f2 : (w7.alloc (.cells #[.int .i64 p, .int .u8 82] 68)).cell? ⟨w.heap.size + 1 + 1 + 1 + 1, 2, none⟩ = some (.int .i64 t.f2) := by rw [Lib.cell_of_heap HFX]; rfl
              have f3 : (w7.alloc (.cells #[.int .i64 p, .int .u8 82] 68)).cell? ⟨w.heap.size + 1 + 1 + 1 + 1, 3, none⟩ = some (.int .i64 t.f3) := by rw [Lib.cell_of_heap HFX]; rfl
              have f4 : (w7.alloc (.cells #[.int .i64 p, .int .u8 82] 68)).cell? ⟨w.heap.size + 1 + 1 + 1 + 1, 4, none⟩ = some (.string t.f4) := by rw [Lib.cell_of_heap HFX]; rfl
              have f5 : (w7.alloc (.cells #[.int .i64 p, .int .u8 82] 68)).cell? ⟨w.heap.size + 1 + 1 + 1 + 1, 5, none⟩ = some (.string t.f5) := by rw [Lib.cell_of_heap HFX]; rfl
              have f6 : (w7.alloc (.cells #[.int .i64 p, .int .u8 82] 68)).cell? ⟨w.heap.size + 1 + 1 + 1 + 1, 6, none⟩ = some (.slice At t.f6.length ct) := by rw [Lib.cell_of_heap HFX]; rfl
              have HWY := Lib.hid (way_calls (k28.K w) (oneC_K w) ((p - w_) - at_) t At ct (by omega) (by omega) HTW.out (box_K w t At ct HI.out.tn HI.out.tk) (right_K w) (w7.alloc (.cells #[.int .i64 p, .int .u8 82] 68)))
              have hlen10 := wayL_len ((p - w_) - at_) t (by omega) (by omega)
              have HST : Hid (stL C M L ev t l (i + 1) = (out ++ wayL ((p - w_) - at_) t ++ y, (p - w_) + w_)) := Lib.hid (by rw [HST1.out, if_pos ⟨rfl, hg2⟩]; simp only [HMV.out]; rfl)
              obtain ⟨WL, hWL⟩ : ∃ W, wayL ((p - w_) - at_) t = W := ⟨_, rfl⟩
              rw [hWL] at HWY hlen10 HST
              clear hWL HST1 HGP
              go_wp2_with fail
              refine HWY.out.mono ?_
              rintro e w10 ⟨v10, rfl, ho10, hb10⟩
              obtain ⟨A10, c10, rfl, R10⟩ := or_reads ho10
              have HR10 := Lib.hid R10
              have HB10 := Lib.hid (HBX.out.trans (hb10.mono HBX.out.size))
              have HO10 := Lib.hid (OwnRow.below HOX.out hb10)
              clear ho10 R10 hb10 f0 f1 f2 f3 f4 f5 f6 HFX hmc
              go_wp2_with (first | (at_builtin; refine wpList_append_boxes (k28.K w) (oneC_K w) rfl (.tmp 83) (.tmp 95) rfl w5.heap.size u14 out WL (by rfl) HO10.out A10 WL.length c10 (by rfl) rfl HR10.out (by omega) HB10.out.size ?_; intro v11 w11 ho11 hg11; have HO11 := Lib.hid ho11; have HB11 := Lib.hid (or_grown HO10.out HB10.out HB10.out.size hg11); have HR11 : Hid (ReadsRow (k28.K w) 7 w11 A6 y.length y) := Lib.hid (HRw.out.imp_ ((HPP.out.step (HB5.out.trans (HB11.out.mono HB5.out.size))).1) (fun _ _ h => h)); clear ho11 hg11) | (at_builtin; refine wpList_append_boxes (k28.K w) (oneC_K w) rfl (.tmp 98) (.tmp 99) rfl w5.heap.size v11 (out ++ WL) y (by rfl) HO11.out A6 y.length c6 (by rfl) rfl HR11.out (by rw [List.length_append]; omega) HB11.out.size ?_; intro v8 w8 ho8 hg8; have HO8 := Lib.hid ho8; have HB8 := Lib.hid (or_grown HO11.out HB11.out HB11.out.size hg8); clear ho8 hg8))
              go_roundg g'
              case measure => omega
              case rel => exact ⟨i + 1, by omega, by go_num, by first | (rw [HST.out]; done) | (rw [HST.out]; simp), Lib.hid (by rw [HST.out]; exact HO8.out), HB8⟩
            · have f0 : (w7.alloc (.cells #[.int .i64 p, .int .u8 82] 68)).cell? ⟨w.heap.size + 1 + 1 + 1 + 1, 7, none⟩ = some (.int .i64 l.f0) := by rw [Lib.cell_of_heap HFX]; rfl
              have f1 : (w7.alloc (.cells #[.int .i64 p, .int .u8 82] 68)).cell? ⟨w.heap.size + 1 + 1 + 1 + 1, 8, none⟩ = some (.int .i64 l.f1) := by rw [Lib.cell_of_heap HFX]; rfl
              have f2 : (w7.alloc (.cells #[.int .i64 p, .int .u8 82] 68)).cell? ⟨w.heap.size + 1 + 1 + 1 + 1, 9, none⟩ = some (.int .i64 l.f2) := by rw [Lib.cell_of_heap HFX]; rfl
              have f3 : (w7.alloc (.cells #[.int .i64 p, .int .u8 82] 68)).cell? ⟨w.heap.size + 1 + 1 + 1 + 1, 10, none⟩ = some (.int .i64 l.f3) := by rw [Lib.cell_of_heap HFX]; rfl
              have f4 : (w7.alloc (.cells #[.int .i64 p, .int .u8 82] 68)).cell? ⟨w.heap.size + 1 + 1 + 1 + 1, 11, none⟩ = some (.string l.f4) := by rw [Lib.cell_of_heap HFX]; rfl
              have f5 : (w7.alloc (.cells #[.int .i64 p, .int .u8 82] 68)).cell? ⟨w.heap.size + 1 + 1 + 1 + 1, 12, none⟩ = some (.string l.f5) := by rw [Lib.cell_of_heap HFX]; rfl
              have f6 : (w7.alloc (.cells #[.int .i64 p, .int .u8 82] 68)).cell? ⟨w.heap.size + 1 + 1 + 1 + 1, 13, none⟩ = some (.slice Al l.f6.length cl) := by rw [Lib.cell_of_heap HFX]; rfl
              have HWY := Lib.hid (way_calls (k28.K w) (oneC_K w) ((p - w_) - at_) l Al cl (by omega) (by omega) HLW.out (box_K w l Al cl HI.out.ln HI.out.lk) (right_K w) (w7.alloc (.cells #[.int .i64 p, .int .u8 82] 68)))
              have hlen10 := wayL_len ((p - w_) - at_) l (by omega) (by omega)
              have HST : Hid (stL C M L ev t l (i + 1) = (out ++ wayL ((p - w_) - at_) l ++ y, (p - w_) + w_)) := Lib.hid (by rw [HST1.out, if_pos ⟨rfl, hg2⟩]; simp only [HMV.out]; rfl)
              obtain ⟨WL, hWL⟩ : ∃ W, wayL ((p - w_) - at_) l = W := ⟨_, rfl⟩
              rw [hWL] at HWY hlen10 HST
              clear hWL HST1 HGP
              go_wp2_with fail
              refine HWY.out.mono ?_
              rintro e w10 ⟨v10, rfl, ho10, hb10⟩
              obtain ⟨A10, c10, rfl, R10⟩ := or_reads ho10
              have HR10 := Lib.hid R10
              have HB10 := Lib.hid (HBX.out.trans (hb10.mono HBX.out.size))
              have HO10 := Lib.hid (OwnRow.below HOX.out hb10)
              clear ho10 R10 hb10 f0 f1 f2 f3 f4 f5 f6 HFX hmc
              go_wp2_with (first | (at_builtin; refine wpList_append_boxes (k28.K w) (oneC_K w) rfl (.tmp 83) (.tmp 95) rfl w5.heap.size u14 out WL (by rfl) HO10.out A10 WL.length c10 (by rfl) rfl HR10.out (by omega) HB10.out.size ?_; intro v11 w11 ho11 hg11; have HO11 := Lib.hid ho11; have HB11 := Lib.hid (or_grown HO10.out HB10.out HB10.out.size hg11); have HR11 : Hid (ReadsRow (k28.K w) 7 w11 A6 y.length y) := Lib.hid (HRw.out.imp_ ((HPP.out.step (HB5.out.trans (HB11.out.mono HB5.out.size))).1) (fun _ _ h => h)); clear ho11 hg11) | (at_builtin; refine wpList_append_boxes (k28.K w) (oneC_K w) rfl (.tmp 98) (.tmp 99) rfl w5.heap.size v11 (out ++ WL) y (by rfl) HO11.out A6 y.length c6 (by rfl) rfl HR11.out (by rw [List.length_append]; omega) HB11.out.size ?_; intro v8 w8 ho8 hg8; have HO8 := Lib.hid ho8; have HB8 := Lib.hid (or_grown HO11.out HB11.out HB11.out.size hg8); clear ho8 hg8))
              go_roundg g'
              case measure => omega
              case rel => exact ⟨i + 1, by omega, by go_num, by first | (rw [HST.out]; done) | (rw [HST.out]; simp), Lib.hid (by rw [HST.out]; exact HO8.out), HB8⟩
          · have HST : Hid (stL C M L ev t l (i + 1) = (out ++ y, at_ + w_)) := Lib.hid (by rw [HST1.out, if_neg hg]; simp)
            have HRT : Hid (ReadsRow (k28.K w) 7 (w7.alloc (.cells #[.int .i64 p, .int .u8 82] 68)) A6 y.length y) := Lib.hid (HRw.out.imp_ HSX.out.1 (fun _ _ h => h))
            have hwa : wrap64 (at_ + w_) = at_ + w_ := wrap64_in _ (by omega) (by omega)
            cases q
            · go_wp2_with (at_builtin; refine wpList_append_boxes (k28.K w) (oneC_K w) rfl _ _ rfl w5.heap.size u14 out y (by rfl) HOX.out A6 y.length c6 (by rfl) rfl HRT.out (by omega) HBX.out.size ?_; intro v8 w8 ho8 hg8; have HO8 := Lib.hid ho8; have HB8 := Lib.hid (or_grown HOX.out HBX.out HBX.out.size hg8); clear ho8 hg8)
              go_roundg g'
              case measure => omega
              case rel => exact ⟨i + 1, by omega, by go_num, by first | (rw [HST.out]; done) | (rw [HST.out]; simp), Lib.hid (by rw [HST.out]; exact HO8.out), HB8⟩
            · have hg2 : ¬ at_ < p - w_ := fun h => hg ⟨rfl, h⟩
              go_wp2_with (at_builtin; refine wpList_append_boxes (k28.K w) (oneC_K w) rfl _ _ rfl w5.heap.size u14 out y (by rfl) HOX.out A6 y.length c6 (by rfl) rfl HRT.out (by omega) HBX.out.size ?_; intro v8 w8 ho8 hg8; have HO8 := Lib.hid ho8; have HB8 := Lib.hid (or_grown HOX.out HBX.out HBX.out.size hg8); clear ho8 hg8)
              go_roundg g'
              case measure => omega
              case rel => exact ⟨i + 1, by omega, by go_num, by first | (rw [HST.out]; done) | (rw [HST.out]; simp), Lib.hid (by rw [HST.out]; exact HO8.out), HB8⟩
        by_cases k67 : kd = 67
        · subst k67
          clear k82
          have hbg : Hid (bg = p - w_ / 2) := Lib.hid (by rw [← HBG.out, if_neg (by omega), if_pos rfl])
          have hbg2 := hbg.out
          clear hbg
          subst hbg2
          have hwp : wrap64 (p - w_ / 2) = p - w_ / 2 := wrap64_in _ (by omega) (by omega)
          have HHF := Lib.hid (half_calls w_ (by omega) (by omega) (w7.alloc (.cells #[.int .i64 p, .int .u8 67] 68)))
          go_wp2_with fail
          refine HHF.out.mono ?_
          rintro e w9 ⟨rfl, hb9⟩
          have HB70 := Lib.hid (HB7.out.alloc HB7.out.size (.cells #[.int .i64 p, .int .u8 67] 68))
          have HO70 := Lib.hid (OwnRow.below HO7.out ((Below.refl _ _).alloc (Nat.le_refl _) (.cells #[.int .i64 p, .int .u8 67] 68)))
          have HBX := Lib.hid (HB70.out.trans (hb9.mono HB70.out.size))
          have HOX := Lib.hid (OwnRow.below HO70.out hb9)
          clear hb9
          have HSX := Lib.hid (HPP.out.step (HB5.out.trans (HBX.out.mono HB5.out.size)))
          by_cases hg : q = true ∧ at_ < p - w_ / 2
          · obtain ⟨hq1, hg2⟩ := hg
            subst hq1
            have hMl := HM.out
            have him : i - 1 < M.length := by omega
            obtain ⟨bm, om, rfl, hbm, hmc⟩ := ints_at HI.out.m (by omega)
            have mc := (HSX.out.1.cell (p := ⟨bm, om + (i - 1), none⟩) hbm).trans (hmc (i - 1) him)
            have hbm2 : bm < w9.heap.size := Nat.lt_of_lt_of_le hbm HSX.out.1.size
            have hmv := HMK.out _ (List.getElem_mem him)
            have hgd : M.getD (i - 1) 0 = M[i - 1] := by simp [List.getD, him]
            obtain ⟨mv, hmv2⟩ : ∃ m, M[i - 1] = m := ⟨_, rfl⟩
            rw [hmv2] at mc hmv hgd
            have HMV := Lib.hid hgd
            clear hgd hmv2
            have e1 : ((i : Int) - 1).toNat = i - 1 := by omega
            have e2 : 0 ≤ (i : Int) - 1 := by omega
            have e3 : (i : Int) - 1 < M.length := by omega
            have e4 : wrap64 ((i : Int) - 1) = (i : Int) - 1 := wrap64_in _ (by omega) (by omega)
            have wf : wrap64 ((p - w_ / 2) - at_) = (p - w_ / 2) - at_ := wrap64_in _ (by omega) (by omega)
            have hwa : wrap64 ((p - w_ / 2) + w_) = (p - w_ / 2) + w_ := wrap64_in _ (by omega) (by omega)
            have HFX : w9.heap[w.heap.size + 1 + 1 + 1 + 1]? = _ := ((HB5.out.trans (HBX.out.mono HB5.out.size)).block _ (by have := HPP.out.top; omega)).trans HFH.out
            have hF : w.heap.size + 1 + 1 + 1 + 1 < w9.heap.size := by
              have := (Array.getElem?_eq_some_iff.1 HFX).1
              exact this
            rcases hmv with rfl | rfl
            · have f0 : w9.cell? ⟨w.heap.size + 1 + 1 + 1 + 1, 0, none⟩ = some (.int .i64 t.f0) := by rw [Lib.cell_of_heap HFX]; rfl
              have f1 : w9.cell? ⟨w.heap.size + 1 + 1 + 1 + 1, 1, none⟩ = some (.int .i64 t.f1) := by rw [Lib.cell_of_heap HFX]; rfl
              have f2 : w9.cell? ⟨w.heap.size + 1 + 1 + 1 + 1, 2, none⟩ = some (.int .i64 t.f2) := by rw [Lib.cell_of_heap HFX]; rfl
              have f3 : w9.cell? ⟨w.heap.size + 1 + 1 + 1 + 1, 3, none⟩ = some (.int .i64 t.f3) := by rw [Lib.cell_of_heap HFX]; rfl
              have f4 : w9.cell? ⟨w.heap.size + 1 + 1 + 1 + 1, 4, none⟩ = some (.string t.f4) := by rw [Lib.cell_of_heap HFX]; rfl
              have f5 : w9.cell? ⟨w.heap.size + 1 + 1 + 1 + 1, 5, none⟩ = some (.string t.f5) := by rw [Lib.cell_of_heap HFX]; rfl
              have f6 : w9.cell? ⟨w.heap.size + 1 + 1 + 1 + 1, 6, none⟩ = some (.slice At t.f6.length ct) := by rw [Lib.cell_of_heap HFX]; rfl
              have HWY := Lib.hid (way_calls (k28.K w) (oneC_K w) ((p - w_ / 2) - at_) t At ct (by omega) (by omega) HTW.out (box_K w t At ct HI.out.tn HI.out.tk) (right_K w) w9)
              have hlen10 := wayL_len ((p - w_ / 2) - at_) t (by omega) (by omega)
              have HST : Hid (stL C M L ev t l (i + 1) = (out ++ wayL ((p - w_ / 2) - at_) t ++ y, (p - w_ / 2) + w_)) := Lib.hid (by rw [HST1.out, if_pos ⟨rfl, hg2⟩]; simp only [HMV.out]; rfl)
              obtain ⟨WL, hWL⟩ : ∃ W, wayL ((p - w_ / 2) - at_) t = W := ⟨_, rfl⟩
              rw [hWL] at HWY hlen10 HST
              clear hWL HST1 HGP
              go_wp2_with fail
              refine HWY.out.mono ?_
              rintro e w10 ⟨v10, rfl, ho10, hb10⟩
              obtain ⟨A10, c10, rfl, R10⟩ := or_reads ho10
              have HR10 := Lib.hid R10
              have HB10 := Lib.hid (HBX.out.trans (hb10.mono HBX.out.size))
              have HO10 := Lib.hid (OwnRow.below HOX.out hb10)
              clear ho10 R10 hb10 f0 f1 f2 f3 f4 f5 f6 HFX hmc
              go_wp2_with (first | (at_builtin; refine wpList_append_boxes (k28.K w) (oneC_K w) rfl (.tmp 83) (.tmp 95) rfl w5.heap.size u14 out WL (by rfl) HO10.out A10 WL.length c10 (by rfl) rfl HR10.out (by omega) HB10.out.size ?_; intro v11 w11 ho11 hg11; have HO11 := Lib.hid ho11; have HB11 := Lib.hid (or_grown HO10.out HB10.out HB10.out.size hg11); have HR11 : Hid (ReadsRow (k28.K w) 7 w11 A6 y.length y) := Lib.hid (HRw.out.imp_ ((HPP.out.step (HB5.out.trans (HB11.out.mono HB5.out.size))).1) (fun _ _ h => h)); clear ho11 hg11) | (at_builtin; refine wpList_append_boxes (k28.K w) (oneC_K w) rfl (.tmp 98) (.tmp 99) rfl w5.heap.size v11 (out ++ WL) y (by rfl) HO11.out A6 y.length c6 (by rfl) rfl HR11.out (by rw [List.length_append]; omega) HB11.out.size ?_; intro v8 w8 ho8 hg8; have HO8 := Lib.hid ho8; have HB8 := Lib.hid (or_grown HO11.out HB11.out HB11.out.size hg8); clear ho8 hg8))
              go_roundg g'
              case measure => omega
              case rel => exact ⟨i + 1, by omega, by go_num, by first | (rw [HST.out]; done) | (rw [HST.out]; simp), Lib.hid (by rw [HST.out]; exact HO8.out), HB8⟩
            · have f0 : w9.cell? ⟨w.heap.size + 1 + 1 + 1 + 1, 7, none⟩ = some (.int .i64 l.f0) := by rw [Lib.cell_of_heap HFX]; rfl
              have f1 : w9.cell? ⟨w.heap.size + 1 + 1 + 1 + 1, 8, none⟩ = some (.int .i64 l.f1) := by rw [Lib.cell_of_heap HFX]; rfl
              have f2 : w9.cell? ⟨w.heap.size + 1 + 1 + 1 + 1, 9, none⟩ = some (.int .i64 l.f2) := by rw [Lib.cell_of_heap HFX]; rfl
              have f3 : w9.cell? ⟨w.heap.size + 1 + 1 + 1 + 1, 10, none⟩ = some (.int .i64 l.f3) := by rw [Lib.cell_of_heap HFX]; rfl
              have f4 : w9.cell? ⟨w.heap.size + 1 + 1 + 1 + 1, 11, none⟩ = some (.string l.f4) := by rw [Lib.cell_of_heap HFX]; rfl
              have f5 : w9.cell? ⟨w.heap.size + 1 + 1 + 1 + 1, 12, none⟩ = some (.string l.f5) := by rw [Lib.cell_of_heap HFX]; rfl
              have f6 : w9.cell? ⟨w.heap.size + 1 + 1 + 1 + 1, 13, none⟩ = some (.slice Al l.f6.length cl) := by rw [Lib.cell_of_heap HFX]; rfl
              have HWY := Lib.hid (way_calls (k28.K w) (oneC_K w) ((p - w_ / 2) - at_) l Al cl (by omega) (by omega) HLW.out (box_K w l Al cl HI.out.ln HI.out.lk) (right_K w) w9)
              have hlen10 := wayL_len ((p - w_ / 2) - at_) l (by omega) (by omega)
              have HST : Hid (stL C M L ev t l (i + 1) = (out ++ wayL ((p - w_ / 2) - at_) l ++ y, (p - w_ / 2) + w_)) := Lib.hid (by rw [HST1.out, if_pos ⟨rfl, hg2⟩]; simp only [HMV.out]; rfl)
              obtain ⟨WL, hWL⟩ : ∃ W, wayL ((p - w_ / 2) - at_) l = W := ⟨_, rfl⟩
              rw [hWL] at HWY hlen10 HST
              clear hWL HST1 HGP
              go_wp2_with fail
              refine HWY.out.mono ?_
              rintro e w10 ⟨v10, rfl, ho10, hb10⟩
              obtain ⟨A10, c10, rfl, R10⟩ := or_reads ho10
              have HR10 := Lib.hid R10
              have HB10 := Lib.hid (HBX.out.trans (hb10.mono HBX.out.size))
              have HO10 := Lib.hid (OwnRow.below HOX.out hb10)
              clear ho10 R10 hb10 f0 f1 f2 f3 f4 f5 f6 HFX hmc
              go_wp2_with (first | (at_builtin; refine wpList_append_boxes (k28.K w) (oneC_K w) rfl (.tmp 83) (.tmp 95) rfl w5.heap.size u14 out WL (by rfl) HO10.out A10 WL.length c10 (by rfl) rfl HR10.out (by omega) HB10.out.size ?_; intro v11 w11 ho11 hg11; have HO11 := Lib.hid ho11; have HB11 := Lib.hid (or_grown HO10.out HB10.out HB10.out.size hg11); have HR11 : Hid (ReadsRow (k28.K w) 7 w11 A6 y.length y) := Lib.hid (HRw.out.imp_ ((HPP.out.step (HB5.out.trans (HB11.out.mono HB5.out.size))).1) (fun _ _ h => h)); clear ho11 hg11) | (at_builtin; refine wpList_append_boxes (k28.K w) (oneC_K w) rfl (.tmp 98) (.tmp 99) rfl w5.heap.size v11 (out ++ WL) y (by rfl) HO11.out A6 y.length c6 (by rfl) rfl HR11.out (by rw [List.length_append]; omega) HB11.out.size ?_; intro v8 w8 ho8 hg8; have HO8 := Lib.hid ho8; have HB8 := Lib.hid (or_grown HO11.out HB11.out HB11.out.size hg8); clear ho8 hg8))
              go_roundg g'
              case measure => omega
              case rel => exact ⟨i + 1, by omega, by go_num, by first | (rw [HST.out]; done) | (rw [HST.out]; simp), Lib.hid (by rw [HST.out]; exact HO8.out), HB8⟩
          · have HST : Hid (stL C M L ev t l (i + 1) = (out ++ y, at_ + w_)) := Lib.hid (by rw [HST1.out, if_neg hg]; simp)
            have HRT : Hid (ReadsRow (k28.K w) 7 w9 A6 y.length y) := Lib.hid (HRw.out.imp_ HSX.out.1 (fun _ _ h => h))
            have hwa : wrap64 (at_ + w_) = at_ + w_ := wrap64_in _ (by omega) (by omega)
            cases q
            · go_wp2_with (at_builtin; refine wpList_append_boxes (k28.K w) (oneC_K w) rfl _ _ rfl w5.heap.size u14 out y (by rfl) HOX.out A6 y.length c6 (by rfl) rfl HRT.out (by omega) HBX.out.size ?_; intro v8 w8 ho8 hg8; have HO8 := Lib.hid ho8; have HB8 := Lib.hid (or_grown HOX.out HBX.out HBX.out.size hg8); clear ho8 hg8)
              go_roundg g'
              case measure => omega
              case rel => exact ⟨i + 1, by omega, by go_num, by first | (rw [HST.out]; done) | (rw [HST.out]; simp), Lib.hid (by rw [HST.out]; exact HO8.out), HB8⟩
            · have hg2 : ¬ at_ < p - w_ / 2 := fun h => hg ⟨rfl, h⟩
              go_wp2_with (at_builtin; refine wpList_append_boxes (k28.K w) (oneC_K w) rfl _ _ rfl w5.heap.size u14 out y (by rfl) HOX.out A6 y.length c6 (by rfl) rfl HRT.out (by omega) HBX.out.size ?_; intro v8 w8 ho8 hg8; have HO8 := Lib.hid ho8; have HB8 := Lib.hid (or_grown HOX.out HBX.out HBX.out.size hg8); clear ho8 hg8)
              go_roundg g'
              case measure => omega
              case rel => exact ⟨i + 1, by omega, by go_num, by first | (rw [HST.out]; done) | (rw [HST.out]; simp), Lib.hid (by rw [HST.out]; exact HO8.out), HB8⟩
        have hbg : Hid (bg = p) := Lib.hid (by rw [← HBG.out, if_neg k82, if_neg k67]; omega)
        have hwp : bg = p := hbg.out
        subst hwp
        have HBX := Lib.hid (HB7.out.alloc HB7.out.size (.cells #[.int .i64 bg, .int .u8 kd] 68))
        have HOX := Lib.hid (OwnRow.below HO7.out ((Below.refl _ _).alloc (Nat.le_refl _) (.cells #[.int .i64 bg, .int .u8 kd] 68)))
        have HSX := Lib.hid (HPP.out.step (HB5.out.trans (HBX.out.mono HB5.out.size)))
        by_cases hg : q = true ∧ at_ < bg
        · obtain ⟨hq1, hg2⟩ := hg
          subst hq1
          have hMl := HM.out
          have him : i - 1 < M.length := by omega
          obtain ⟨bm, om, rfl, hbm, hmc⟩ := ints_at HI.out.m (by omega)
          have mc := (HSX.out.1.cell (p := ⟨bm, om + (i - 1), none⟩) hbm).trans (hmc (i - 1) him)
          have hbm2 : bm < (w7.alloc (.cells #[.int .i64 bg, .int .u8 kd] 68)).heap.size := Nat.lt_of_lt_of_le hbm HSX.out.1.size
          have hmv := HMK.out _ (List.getElem_mem him)
          have hgd : M.getD (i - 1) 0 = M[i - 1] := by simp [List.getD, him]
          obtain ⟨mv, hmv2⟩ : ∃ m, M[i - 1] = m := ⟨_, rfl⟩
          rw [hmv2] at mc hmv hgd
          have HMV := Lib.hid hgd
          clear hgd hmv2
          have e1 : ((i : Int) - 1).toNat = i - 1 := by omega
          have e2 : 0 ≤ (i : Int) - 1 := by omega
          have e3 : (i : Int) - 1 < M.length := by omega
          have e4 : wrap64 ((i : Int) - 1) = (i : Int) - 1 := wrap64_in _ (by omega) (by omega)
          have wf : wrap64 (bg - at_) = bg - at_ := wrap64_in _ (by omega) (by omega)
          have hwa : wrap64 (bg + w_) = bg + w_ := wrap64_in _ (by omega) (by omega)
          have HFX : (w7.alloc (.cells #[.int .i64 bg, .int .u8 kd] 68)).heap[w.heap.size + 1 + 1 + 1 + 1]? = _ := ((HB5.out.trans (HBX.out.mono HB5.out.size)).block _ (by have := HPP.out.top; omega)).trans HFH.out
          have hF : w.heap.size + 1 + 1 + 1 + 1 < (w7.alloc (.cells #[.int .i64 bg, .int .u8 kd] 68)).heap.size := by
            have := (Array.getElem?_eq_some_iff.1 HFX).1
            exact this
          rcases hmv with rfl | rfl
          · have f0 : (w7.alloc (.cells #[.int .i64 bg, .int .u8 kd] 68)).cell? ⟨w.heap.size + 1 + 1 + 1 + 1, 0, none⟩ = some (.int .i64 t.f0) := by rw [Lib.cell_of_heap HFX]; rfl
            have f1 : (w7.alloc (.cells #[.int .i64 bg, .int .u8 kd] 68)).cell? ⟨w.heap.size + 1 + 1 + 1 + 1, 1, none⟩ = some (.int .i64 t.f1) := by rw [Lib.cell_of_heap HFX]; rfl
            have f2 : (w7.alloc (.cells #[.int .i64 bg, .int .u8 kd] 68)).cell? ⟨w.heap.size + 1 + 1 + 1 + 1, 2, none⟩ = some (.int .i64 t.f2) := by rw [Lib.cell_of_heap HFX]; rfl
            have f3 : (w7.alloc (.cells #[.int .i64 bg, .int .u8 kd] 68)).cell? ⟨w.heap.size + 1 + 1 + 1 + 1, 3, none⟩ = some (.int .i64 t.f3) := by rw [Lib.cell_of_heap HFX]; rfl
            have f4 : (w7.alloc (.cells #[.int .i64 bg, .int .u8 kd] 68)).cell? ⟨w.heap.size + 1 + 1 + 1 + 1, 4, none⟩ = some (.string t.f4) := by rw [Lib.cell_of_heap HFX]; rfl
            have f5 : (w7.alloc (.cells #[.int .i64 bg, .int .u8 kd] 68)).cell? ⟨w.heap.size + 1 + 1 + 1 + 1, 5, none⟩ = some (.string t.f5) := by rw [Lib.cell_of_heap HFX]; rfl
            have f6 : (w7.alloc (.cells #[.int .i64 bg, .int .u8 kd] 68)).cell? ⟨w.heap.size + 1 + 1 + 1 + 1, 6, none⟩ = some (.slice At t.f6.length ct) := by rw [Lib.cell_of_heap HFX]; rfl
            have HWY := Lib.hid (way_calls (k28.K w) (oneC_K w) (bg - at_) t At ct (by omega) (by omega) HTW.out (box_K w t At ct HI.out.tn HI.out.tk) (right_K w) (w7.alloc (.cells #[.int .i64 bg, .int .u8 kd] 68)))
            have hlen10 := wayL_len (bg - at_) t (by omega) (by omega)
            have HST : Hid (stL C M L ev t l (i + 1) = (out ++ wayL (bg - at_) t ++ y, bg + w_)) := Lib.hid (by rw [HST1.out, if_pos ⟨rfl, hg2⟩]; simp only [HMV.out]; rfl)
            obtain ⟨WL, hWL⟩ : ∃ W, wayL (bg - at_) t = W := ⟨_, rfl⟩
            rw [hWL] at HWY hlen10 HST
            clear hWL HST1 HGP
            go_wp2_with fail
            refine HWY.out.mono ?_
            rintro e w10 ⟨v10, rfl, ho10, hb10⟩
            obtain ⟨A10, c10, rfl, R10⟩ := or_reads ho10
            have HR10 := Lib.hid R10
            have HB10 := Lib.hid (HBX.out.trans (hb10.mono HBX.out.size))
            have HO10 := Lib.hid (OwnRow.below HOX.out hb10)
            clear ho10 R10 hb10 f0 f1 f2 f3 f4 f5 f6 HFX hmc
            go_wp2_with (first | (at_builtin; refine wpList_append_boxes (k28.K w) (oneC_K w) rfl (.tmp 83) (.tmp 95) rfl w5.heap.size u14 out WL (by rfl) HO10.out A10 WL.length c10 (by rfl) rfl HR10.out (by omega) HB10.out.size ?_; intro v11 w11 ho11 hg11; have HO11 := Lib.hid ho11; have HB11 := Lib.hid (or_grown HO10.out HB10.out HB10.out.size hg11); have HR11 : Hid (ReadsRow (k28.K w) 7 w11 A6 y.length y) := Lib.hid (HRw.out.imp_ ((HPP.out.step (HB5.out.trans (HB11.out.mono HB5.out.size))).1) (fun _ _ h => h)); clear ho11 hg11) | (at_builtin; refine wpList_append_boxes (k28.K w) (oneC_K w) rfl (.tmp 98) (.tmp 99) rfl w5.heap.size v11 (out ++ WL) y (by rfl) HO11.out A6 y.length c6 (by rfl) rfl HR11.out (by rw [List.length_append]; omega) HB11.out.size ?_; intro v8 w8 ho8 hg8; have HO8 := Lib.hid ho8; have HB8 := Lib.hid (or_grown HO11.out HB11.out HB11.out.size hg8); clear ho8 hg8))
            go_roundg g'
            case measure => omega
            case rel => exact ⟨i + 1, by omega, by go_num, by first | (rw [HST.out]; done) | (rw [HST.out]; simp), Lib.hid (by rw [HST.out]; exact HO8.out), HB8⟩
          · have f0 : (w7.alloc (.cells #[.int .i64 bg, .int .u8 kd] 68)).cell? ⟨w.heap.size + 1 + 1 + 1 + 1, 7, none⟩ = some (.int .i64 l.f0) := by rw [Lib.cell_of_heap HFX]; rfl
            have f1 : (w7.alloc (.cells #[.int .i64 bg, .int .u8 kd] 68)).cell? ⟨w.heap.size + 1 + 1 + 1 + 1, 8, none⟩ = some (.int .i64 l.f1) := by rw [Lib.cell_of_heap HFX]; rfl
            have f2 : (w7.alloc (.cells #[.int .i64 bg, .int .u8 kd] 68)).cell? ⟨w.heap.size + 1 + 1 + 1 + 1, 9, none⟩ = some (.int .i64 l.f2) := by rw [Lib.cell_of_heap HFX]; rfl
            have f3 : (w7.alloc (.cells #[.int .i64 bg, .int .u8 kd] 68)).cell? ⟨w.heap.size + 1 + 1 + 1 + 1, 10, none⟩ = some (.int .i64 l.f3) := by rw [Lib.cell_of_heap HFX]; rfl
            have f4 : (w7.alloc (.cells #[.int .i64 bg, .int .u8 kd] 68)).cell? ⟨w.heap.size + 1 + 1 + 1 + 1, 11, none⟩ = some (.string l.f4) := by rw [Lib.cell_of_heap HFX]; rfl
            have f5 : (w7.alloc (.cells #[.int .i64 bg, .int .u8 kd] 68)).cell? ⟨w.heap.size + 1 + 1 + 1 + 1, 12, none⟩ = some (.string l.f5) := by rw [Lib.cell_of_heap HFX]; rfl
            have f6 : (w7.alloc (.cells #[.int .i64 bg, .int .u8 kd] 68)).cell? ⟨w.heap.size + 1 + 1 + 1 + 1, 13, none⟩ = some (.slice Al l.f6.length cl) := by rw [Lib.cell_of_heap HFX]; rfl
            have HWY := Lib.hid (way_calls (k28.K w) (oneC_K w) (bg - at_) l Al cl (by omega) (by omega) HLW.out (box_K w l Al cl HI.out.ln HI.out.lk) (right_K w) (w7.alloc (.cells #[.int .i64 bg, .int .u8 kd] 68)))
            have hlen10 := wayL_len (bg - at_) l (by omega) (by omega)
            have HST : Hid (stL C M L ev t l (i + 1) = (out ++ wayL (bg - at_) l ++ y, bg + w_)) := Lib.hid (by rw [HST1.out, if_pos ⟨rfl, hg2⟩]; simp only [HMV.out]; rfl)
            obtain ⟨WL, hWL⟩ : ∃ W, wayL (bg - at_) l = W := ⟨_, rfl⟩
            rw [hWL] at HWY hlen10 HST
            clear hWL HST1 HGP
            go_wp2_with fail
            refine HWY.out.mono ?_
            rintro e w10 ⟨v10, rfl, ho10, hb10⟩
            obtain ⟨A10, c10, rfl, R10⟩ := or_reads ho10
            have HR10 := Lib.hid R10
            have HB10 := Lib.hid (HBX.out.trans (hb10.mono HBX.out.size))
            have HO10 := Lib.hid (OwnRow.below HOX.out hb10)
            clear ho10 R10 hb10 f0 f1 f2 f3 f4 f5 f6 HFX hmc
            go_wp2_with (first | (at_builtin; refine wpList_append_boxes (k28.K w) (oneC_K w) rfl (.tmp 83) (.tmp 95) rfl w5.heap.size u14 out WL (by rfl) HO10.out A10 WL.length c10 (by rfl) rfl HR10.out (by omega) HB10.out.size ?_; intro v11 w11 ho11 hg11; have HO11 := Lib.hid ho11; have HB11 := Lib.hid (or_grown HO10.out HB10.out HB10.out.size hg11); have HR11 : Hid (ReadsRow (k28.K w) 7 w11 A6 y.length y) := Lib.hid (HRw.out.imp_ ((HPP.out.step (HB5.out.trans (HB11.out.mono HB5.out.size))).1) (fun _ _ h => h)); clear ho11 hg11) | (at_builtin; refine wpList_append_boxes (k28.K w) (oneC_K w) rfl (.tmp 98) (.tmp 99) rfl w5.heap.size v11 (out ++ WL) y (by rfl) HO11.out A6 y.length c6 (by rfl) rfl HR11.out (by rw [List.length_append]; omega) HB11.out.size ?_; intro v8 w8 ho8 hg8; have HO8 := Lib.hid ho8; have HB8 := Lib.hid (or_grown HO11.out HB11.out HB11.out.size hg8); clear ho8 hg8))
            go_roundg g'
            case measure => omega
            case rel => exact ⟨i + 1, by omega, by go_num, by first | (rw [HST.out]; done) | (rw [HST.out]; simp), Lib.hid (by rw [HST.out]; exact HO8.out), HB8⟩
        · have HST : Hid (stL C M L ev t l (i + 1) = (out ++ y, at_ + w_)) := Lib.hid (by rw [HST1.out, if_neg hg]; simp)
          have HRT : Hid (ReadsRow (k28.K w) 7 (w7.alloc (.cells #[.int .i64 bg, .int .u8 kd] 68)) A6 y.length y) := Lib.hid (HRw.out.imp_ HSX.out.1 (fun _ _ h => h))
          have hwa : wrap64 (at_ + w_) = at_ + w_ := wrap64_in _ (by omega) (by omega)
          cases q
          · go_wp2_with (at_builtin; refine wpList_append_boxes (k28.K w) (oneC_K w) rfl _ _ rfl w5.heap.size u14 out y (by rfl) HOX.out A6 y.length c6 (by rfl) rfl HRT.out (by omega) HBX.out.size ?_; intro v8 w8 ho8 hg8; have HO8 := Lib.hid ho8; have HB8 := Lib.hid (or_grown HOX.out HBX.out HBX.out.size hg8); clear ho8 hg8)
            go_roundg g'
            case measure => omega
            case rel => exact ⟨i + 1, by omega, by go_num, by first | (rw [HST.out]; done) | (rw [HST.out]; simp), Lib.hid (by rw [HST.out]; exact HO8.out), HB8⟩
          · have hg2 : ¬ at_ < bg := fun h => hg ⟨rfl, h⟩
            go_wp2_with (at_builtin; refine wpList_append_boxes (k28.K w) (oneC_K w) rfl _ _ rfl w5.heap.size u14 out y (by rfl) HOX.out A6 y.length c6 (by rfl) rfl HRT.out (by omega) HBX.out.size ?_; intro v8 w8 ho8 hg8; have HO8 := Lib.hid ho8; have HB8 := Lib.hid (or_grown HOX.out HBX.out HBX.out.size hg8); clear ho8 hg8)
            go_roundg g'
            case measure => omega
            case rel => exact ⟨i + 1, by omega, by go_num, by first | (rw [HST.out]; done) | (rw [HST.out]; simp), Lib.hid (by rw [HST.out]; exact HO8.out), HB8⟩
    · have hin : i = C.length := by omega
      subst hin
      have i0 : ¬ ((C.length : Int) < C.length) := by omega
      have hbd := st_bound (M := M) (t := t) (l := l) HF.out C.length (Nat.le_refl _)
      have hcn := HF.out.n
      have hfew := HFEW.out C.length
      obtain ⟨s, hs⟩ : ∃ s, stL C M L ev t l C.length = s := ⟨_, rfl⟩
      rw [hs] at hbd HO hfew
      have HSO := Lib.hid hs
      simp only [hs]
      clear hs
      obtain ⟨out, at_⟩ := s
      simp only at hbd HO hfew ⊢
      have HFO := Lib.hid hfew
      clear hfew
      have hon : out.length ≤ 900000000000 := by omega
      clear hbd
      obtain ⟨A1, n1, rfl, R1⟩ := or_reads HO.out
      have HCL := Lib.hid (clone_calls (k28.K w) (oneC_K w) A1 n1 out hon wr R1)
      have HBW := Lib.hid ((HPP.out.step (HB5.out.trans (HB.out.mono HB5.out.size))).1)
      clear R1
      go_wp2_with fail
      refine HCL.out.mono ?_
      rintro e w10 ⟨v10, rfl, ho10, hb10⟩
      have HB10 := Lib.hid (HBW.out.trans (hb10.mono HBW.out.size))
      have hrow : 0 < out.length → ∃ g n, v10 = .slice (some ⟨g, 0, none⟩) out.length n ∧ out.length ≤ n ∧ w.heap.size ≤ g ∧ RowOK w10 g out := fun hp => by
        obtain ⟨inner, ho, hr⟩ := ho10
        obtain ⟨g, cap, rfl, hg1, hg2⟩ := ho.form hp
        have := HBW.out.size
        exact ⟨g, cap, rfl, own_cap ho, by omega, RowOK.of ⟨inner, ho, hr⟩ HB10.out HBW.out.size⟩
      obtain ⟨A2, n2, rfl, hn2, _⟩ := OwnRow.reads ho10
      have HROW : Hid (0 < out.length → ∃ g, A2 = some ⟨g, 0, none⟩ ∧ w.heap.size ≤ g ∧ RowOK w10 g out) := Lib.hid (fun hp => by
        obtain ⟨g, n, e, _, h2, h3⟩ := hrow hp
        injection e with e1 e2 e3
        exact ⟨g, e1, h2, h3⟩)
      have HN2 := Lib.hid hn2
      clear hrow ho10 hb10 hn2
      have hon63 : out.length ≤ 9223372036854775807 := by omega
      go_wp2_with fail
      go_loopg [109] out.length (fun gk s109 wx => ∃ j : Nat, j + gk = out.length ∧ s109 = .int .i64 j ∧ Hid (0 < out.length → ∃ g, A2 = some ⟨g, 0, none⟩ ∧ w.heap.size ≤ g ∧ RowOK wx g out) ∧ Hid (Below w.heap.size w wx))
      case atStart => exact ⟨0, by omega, rfl, HROW, HB10⟩
      case round =>
        obtain ⟨j, hj, rfl, HRJ, HBJ⟩ := hrel
        by_cases hjl : j < out.length
        · have j0 : (j : Int) < out.length := by omega
          obtain ⟨g, rfl, hgw, hro⟩ := HRJ.out (by omega)
          obtain ⟨g', rfl⟩ : ∃ g', gk = g' + 1 := ⟨gk - 1, by omega⟩
          obtain ⟨cur, hcur, hk⟩ := hro.ex
          obtain ⟨A, c, c0, c1, c2, c3, c4, c5, c6, l6, g6, ne⟩ := hk j hjl
          have x6 : wr.cell? ⟨g, j * 7 + 6, none⟩ = some (.slice A out[j].f6.length c) := by rw [Lib.cell_of_heap hcur]; exact c6
          have hgl : g < wr.heap.size := (Array.getElem?_eq_some_iff.1 hcur).1
          have HRO := Lib.hid hro
          have HCN := Lib.hid (cloneN_calls A c out[j].f6 wr g6 (by have := HFO.out _ (List.getElem_mem hjl); omega))
          clear hro hk c0 c1 c2 c3 c4 c5 c6 l6 g6 ne hcur
          obtain ⟨N, hN⟩ : ∃ N, out[j].f6 = N := ⟨_, rfl⟩
          rw [hN] at HCN x6
          have HN := Lib.hid hN
          clear hN
          go_wp2_with fail
          refine HCN.out.mono ?_
          rintro e w11 ⟨A', c', rfl, hc', hC', hne', hb11⟩
          have HRO2 := Lib.hid (HRO.out.below hb11)
          have HB11 := Lib.hid (HBJ.out.trans (hb11.mono HBJ.out.size))
          obtain ⟨cur2, hcur2, hk2⟩ := HRO2.out.ex
          obtain ⟨_, _, _, _, _, _, _, _, c6, _⟩ := hk2 j hjl
          have y6 : ∃ v, w11.cell? ⟨g, j * 7 + 6, none⟩ = some v := ⟨_, by rw [Lib.cell_of_heap hcur2]; exact c6⟩
          obtain ⟨v6, y6⟩ := y6
          have z6 : w11.frozen? ⟨g, j * 7 + 6, none⟩ = false := Lib.frozen_of_heap hcur2 _
          have hgl2 : g < w11.heap.size := Nat.lt_of_lt_of_le hgl hb11.size
          have HRN := Lib.hid (HRO2.out.put j hjl A' c' (by rw [HN.out]; exact hc') (by rw [HN.out]; exact hC') (by rw [HN.out]; exact fun ad h1 h2 => by have := hne' ad h1 h2; omega))
          rw [HN.out] at HRN
          have HBN := Lib.hid (HB11.out.setCell (p := ⟨g, j * 7 + 6, none⟩) hgw (.slice A' N.length c'))
          clear hc' hC' hne' hb11 hcur2 hk2 c6
          go_wp2_with fail
          go_roundg g'
          case measure => omega
          case rel => exact ⟨j + 1, by omega, by go_num, Lib.hid (fun _ => ⟨g, rfl, hgw, HRN.out⟩), HBN⟩
        · have j0 : ¬ ((j : Int) < out.length) := by omega
          go_wp2_with fail
          go_ret2
          rw [HSO.out]
          refine ⟨A2, n2, rfl, HN2.out, ?_, HBJ.out⟩
          show Kd.C k28 _ A2 out.length out
          rcases Nat.eq_zero_or_pos out.length with h | h
          · exact ⟨rfl, hon63, fun h2 => by omega⟩
          · obtain ⟨g, rfl, _, hro⟩ := HRJ.out h
            exact hro.read hon63
end Go.Proofs.Ytmmfojaeahcohaa

set_option linter.unusedVariables false
set_option linter.unusedSimpArgs false
namespace Go.Proofs.Ytmmfojaeahcohaa
open Go.Shelf Go.RowKit Go.Lib Go.Aids Go.Opens Go.Proofs.YtmmfojaeahcohaaW.PrintWords Go.Proofs.Ytmmfojaeahcohaa.PTabsMade

def Sm (x : S28) : Prop := x.f4.size ≤ 9223372036854775807 ∧ x.f5.size ≤ 9223372036854775807 ∧ x.f6.length ≤ 9223372036854775807
theorem rtv_calls (A : Option Addr) (c : Nat) (L : List S68) (ev : Int) (hL : L.length ≤ 1000) (w : World) (hC : Kd.C k84 w A (L.map cv).length (L.map cv)) (hc : (L.map cv).length ≤ c) :
    Calls Try.prog 38 #[.agg #[.slice A (L.map cv).length c, .int .i64 ev]] w fun e w' => e = .returned (.bool (tvalidB L ev)) ∧ Below w.heap.size w w' :=
  frisketref12_Valid.calls _ A c (L.map cv) ev _ w hC hc (rtv_f L ev (by omega) _ (Nat.le_refl _))
theorem rvalid_calls (x : S28) (A : Option Addr) (c : Nat) (hx : Sm x) (w : World) (hC : kI.C w A x.f6.length x.f6) (hc : x.f6.length ≤ c) :
    Calls Try.prog 40 #[boxV x.f0 x.f1 x.f2 x.f3 x.f4 x.f5 A x.f6.length c] w fun e w' => e = .returned (.bool (validS x)) ∧ Below w.heap.size w w' :=
  hvalid_calls x.f0 x.f1 x.f2 x.f3 x.f4 x.f5 A c x.f6 hx.1 hx.2.1 hx.2.2 w hC
theorem rchar_calls (x : S28) (A : Option Addr) (c : Nat) (hx : Sm x) (w : World) (hC : kI.C w A x.f6.length x.f6) (hc : x.f6.length ≤ c) :
    Calls Try.prog 39 #[boxV x.f0 x.f1 x.f2 x.f3 x.f4 x.f5 A x.f6.length c] w fun e w' => e = .returned (.bool (charB x)) ∧ Below w.heap.size w w' :=
  hchar_calls x.f0 x.f1 x.f2 x.f3 x.f4 x.f5 A c x.f6 hx.1 hx.2.1 hx.2.2 w hC
theorem rwidth_calls (A : Option Addr) (c : Nat) (L : List S28) (hW : Wid L) (hn : L.length ≤ 1000000) (w : World) (hC : Kd.C k28 w A L.length L) (hc : L.length ≤ c) :
    Calls Try.prog 41 #[.slice A L.length c] w fun e w' => e = .returned (.int .i64 (widthL L)) ∧ Drawn0 w w' :=
  frisketref08_Width.calls _ A c L _ w hC hc (rwidth_f L hW hn)
theorem rnext_calls (A : Option Addr) (c : Nat) (L : List S68) (ev at_ : Int) (hok : tvalidB L ev = true) (ha0 : -1000000000000 ≤ at_) (ha1 : at_ ≤ 1000000000000) (w : World) (hC : Kd.C k84 w A (L.map cv).length (L.map cv)) (hc : (L.map cv).length ≤ c) :
    Calls Try.prog 42 #[.agg #[.slice A (L.map cv).length c, .int .i64 ev], .int .i64 at_] w fun e w' => e = .returned (.tuple #[.agg #[.int .i64 (nextL L 0 ev at_).1, .int .u8 (nextL L 0 ev at_).2.1], .bool (nextL L 0 ev at_).2.2]) ∧ Below w.heap.size w w' :=
  frisketref12_Next.calls _ A c (L.map cv) ev at_ _ _ _ w hC hc (rnext_f L ev at_ hok ha0 ha1)
theorem rfloor_calls (n : Int) (h0 : -1000000000000 ≤ n) (h1 : n ≤ 1000000000000) (w : World) :
    Calls Try.prog 43 #[.int .i64 n, .int .i64 2] w fun e w' => e = .returned (.int .i64 (n / 2)) ∧ Drawn0 w w' :=
  frisketref07_Floor.calls n 2 _ w (rhalf_f n h0 h1)

structure RIn (w : World) (C : List (List S28)) (M : List Int) (L : List S68) (t l : S28) (Ac Am As At Al : Option Addr) (cc cm cs ct cl : Nat) : Prop where
  c : Kd.C (Kd.slice 28 k28) w Ac C.length C
  cn : C.length ≤ cc
  m : kI.C w Am M.length M
  mn : M.length ≤ cm
  s : Kd.C k84 w As (L.map cv).length (L.map cv)
  sn : (L.map cv).length ≤ cs
  sl : L.length ≤ 1000
  tk : kI.C w At t.f6.length t.f6
  tn : t.f6.length ≤ ct
  lk : kI.C w Al l.f6.length l.f6
  ln : l.f6.length ≤ cl
  cz : ∀ y ∈ C, ∀ x ∈ y, Sm x
  tz : Sm t
  lz : Sm l
theorem RIn.below {w w1 : World} {C : List (List S28)} {M : List Int} {L : List S68} {t l : S28} {Ac Am As At Al : Option Addr} {cc cm cs ct cl : Nat} (h : RIn w C M L t l Ac Am As At Al cc cm cs ct cl) (hb : Below w.heap.size w w1) : RIn w1 C M L t l Ac Am As At Al cc cm cs ct cl :=
  ⟨Kd.C_below h.c hb, h.cn, Kd.C_below h.m hb, h.mn, Kd.C_below h.s hb, h.sn, h.sl, Kd.C_below h.tk hb, h.tn, Kd.C_below h.lk hb, h.ln, h.cz, h.tz, h.lz⟩
/-- What lies in Set's own cells. -/
structure RPre (w W : World) (g : Nat) (As : Option Addr) (n cs : Nat) (ev : Int) (t l : S28) (At Al : Option Addr) (ct cl : Nat) : Prop where
  gw : w.heap.size = g
  top : g + 3 ≤ W.heap.size
  below : Below w.heap.size w W
  s0 : W.cell? ⟨g, 0, none⟩ = some (.slice As n cs)
  s1 : W.cell? ⟨g, 1, none⟩ = some (.int .i64 ev)
  bt : BoxAt W (g + 1) t At ct
  bl : BoxAt W (g + 1 + 1) l Al cl
theorem RPre.step {w W W1 : World} {g : Nat} {As : Option Addr} {n cs : Nat} {ev : Int} {t l : S28} {At Al : Option Addr} {ct cl : Nat} (h : RPre w W g As n cs ev t l At Al ct cl) {k : Nat} (hk : g + 3 ≤ k) (hb : Below k W W1) : RPre w W1 g As n cs ev t l At Al ct cl := by
  have hs := hb.size
  have := h.top
  have := h.gw
  exact ⟨h.gw, by omega, h.below.trans (hb.mono (by omega)), (hb.cell (p := ⟨g, 0, none⟩) (by show g < _; omega)).trans h.s0, (hb.cell (p := ⟨g, 1, none⟩) (by show g < _; omega)).trans h.s1, h.bt.below hb (by omega), h.bl.below hb (by omega)⟩
theorem RPre.make (w : World) (As : Option Addr) (n cs : Nat) (ev : Int) (t l : S28) (At Al : Option Addr) (ct cl : Nat) :
    RPre w (((w.alloc (.cells #[.slice As n cs, .int .i64 ev] 39)).alloc (.cells #[.int .i64 t.f0, .int .i64 t.f1, .int .i64 t.f2, .int .i64 t.f3, .string t.f4, .string t.f5, .slice At t.f6.length ct] 28)).alloc (.cells #[.int .i64 l.f0, .int .i64 l.f1, .int .i64 l.f2, .int .i64 l.f3, .string l.f4, .string l.f5, .slice Al l.f6.length cl] 28)) w.heap.size As n cs ev t l At Al ct cl := by
  have b0 := (Below.refl w.heap.size w).alloc (Nat.le_refl _) (.cells #[.slice As n cs, .int .i64 ev] 39)
  obtain ⟨W0, h0⟩ : ∃ W, w.alloc (.cells #[.slice As n cs, .int .i64 ev] 39) = W := ⟨_, rfl⟩
  have z0 : W0.heap.size = w.heap.size + 1 := by rw [← h0]; simp
  have c0 : W0.cell? ⟨w.heap.size, 0, none⟩ = some (.slice As n cs) := by rw [← h0]; simp
  have c1 : W0.cell? ⟨w.heap.size, 1, none⟩ = some (.int .i64 ev) := by rw [← h0]; simp
  rw [h0] at b0 ⊢
  have x1 := BoxAt.new W0 (w.heap.size + 1) z0.symm t At ct
  have b1 := (Below.refl W0.heap.size W0).alloc (Nat.le_refl _) (.cells #[.int .i64 t.f0, .int .i64 t.f1, .int .i64 t.f2, .int .i64 t.f3, .string t.f4, .string t.f5, .slice At t.f6.length ct] 28)
  obtain ⟨W1, h1⟩ : ∃ W, W0.alloc (.cells #[.int .i64 t.f0, .int .i64 t.f1, .int .i64 t.f2, .int .i64 t.f3, .string t.f4, .string t.f5, .slice At t.f6.length ct] 28) = W := ⟨_, rfl⟩
  have z1 : W1.heap.size = w.heap.size + 1 + 1 := by rw [← h1]; simp; omega
  rw [h1] at x1 b1 ⊢
  have x2 := BoxAt.new W1 (w.heap.size + 1 + 1) z1.symm l Al cl
  have b2 := (Below.refl W1.heap.size W1).alloc (Nat.le_refl _) (.cells #[.int .i64 l.f0, .int .i64 l.f1, .int .i64 l.f2, .int .i64 l.f3, .string l.f4, .string l.f5, .slice Al l.f6.length cl] 28)
  obtain ⟨W2, h2⟩ : ∃ W, W1.alloc (.cells #[.int .i64 l.f0, .int .i64 l.f1, .int .i64 l.f2, .int .i64 l.f3, .string l.f4, .string l.f5, .slice Al l.f6.length cl] 28) = W := ⟨_, rfl⟩
  have z2 : W2.heap.size = w.heap.size + 1 + 1 + 1 := by rw [← h2]; simp; omega
  rw [h2] at x2 b2 ⊢
  have b3 := b1.trans (b2.mono (by omega))
  exact ⟨rfl, by omega, b0.trans (b3.mono (by omega)), (b3.cell (p := ⟨w.heap.size, 0, none⟩) (by show w.heap.size < _; omega)).trans c0, (b3.cell (p := ⟨w.heap.size, 1, none⟩) (by show w.heap.size < _; omega)).trans c1, x1.below b2 (by omega), x2⟩
end Go.Proofs.Ytmmfojaeahcohaa

set_option linter.unusedVariables false
set_option linter.unusedSimpArgs false
namespace Go.Proofs.Ytmmfojaeahcohaa
open Go.Shelf Go.RowKit Go.Lib Go.Aids Go.Opens Go.Proofs.YtmmfojaeahcohaaW.PrintWords Go.Proofs.Ytmmfojaeahcohaa.PTabsMade

def okA (C : List (List S28)) (M : List Int) (L : List S68) (ev : Int) (t l : S28) : Bool := tvalidB L ev && (charB t && (charB l && decide ((M.length : Int) = max ((C.length : Int) - 1) 0)))
def okM (a : Bool) (M : List Int) (i : Nat) : Bool := a && (M.take i).all fun m => !markB m
def okC (a : Bool) (C : List (List S28)) (i : Nat) : Bool := a && (C.take i).all fun c => c.all validS
def okX (a : Bool) (c : List S28) (j : Nat) : Bool := a && (c.take j).all validS
theorem okM_step (a : Bool) (M : List Int) (i : Nat) (h : i < M.length) : okM a M (i + 1) = (okM a M i && !markB M[i]) := by
  unfold okM
  rw [List.take_succ_eq_append_getElem h, List.all_append, Bool.and_assoc]
  simp
theorem okC_step (a : Bool) (C : List (List S28)) (i : Nat) (h : i < C.length) : okC a C (i + 1) = (okC a C i && C[i].all validS) := by
  unfold okC
  rw [List.take_succ_eq_append_getElem h, List.all_append, Bool.and_assoc]
  simp
theorem okX_step (a : Bool) (c : List S28) (j : Nat) (h : j < c.length) : okX a c (j + 1) = (okX a c j && validS c[j]) := by
  unfold okX
  rw [List.take_succ_eq_append_getElem h, List.all_append, Bool.and_assoc]
  simp
theorem okX_all (a : Bool) (c : List S28) : okX a c c.length = (a && c.all validS) := by unfold okX; rw [List.take_length]
theorem ok_all (C : List (List S28)) (M : List Int) (L : List S68) (ev : Int) (t l : S28) : okC (okM (okA C M L ev t l) M M.length) C C.length = okSet C M L ev t l := by
  unfold okC okM okA okSet
  rw [List.take_length, List.take_length, charB_fill, charB_fill]
  have e1 : (M.all fun m => !markB m) = !(M.any markB) := by rw [List.all_eq_not_any_not]; simp
  have e2 : (C.all fun c => c.all validS) = !(C.any fun c => c.any fun x => !validS x) := by
    rw [List.all_eq_not_any_not]
    congr 2
    funext c
    rw [List.all_eq_not_any_not]; simp
  rw [e1, e2]
  simp only [List.any_cons, List.any_nil]
  cases tvalidB L ev <;> cases fillB t <;> cases fillB l <;> cases M.any markB <;> cases (C.any fun c => c.any fun x => !validS x) <;> cases decide ((M.length : Int) = max ((C.length : Int) - 1) 0) <;> rfl
theorem BoxAt.put {w : World} {g : Nat} {x : S28} {A : Option Addr} {c : Nat} (h : BoxAt w g x A c) (A' : Option Addr) (c' : Nat) : BoxAt (w.setCell ⟨g, 6, none⟩ (.slice A' x.f6.length c')) g x A' c' := by
  have ne : ∀ j, j ≠ 6 → (⟨g, 6, none⟩ : Addr) ≠ ⟨g, j, none⟩ := fun j hj e => by injection e with _ h2; exact hj h2.symm
  exact ⟨(World.cell?_setCell_other _ _ _ _ (ne 0 (by decide))).trans h.1, (World.cell?_setCell_other _ _ _ _ (ne 1 (by decide))).trans h.2.1, (World.cell?_setCell_other _ _ _ _ (ne 2 (by decide))).trans h.2.2.1, (World.cell?_setCell_other _ _ _ _ (ne 3 (by decide))).trans h.2.2.2.1, (World.cell?_setCell_other _ _ _ _ (ne 4 (by decide))).trans h.2.2.2.2.1, (World.cell?_setCell_other _ _ _ _ (ne 5 (by decide))).trans h.2.2.2.2.2.1, World.cell?_setCell_same _ _ _ h.2.2.2.2.2.2⟩
theorem empty_R (W : World) (base : Nat) (hb : base ≤ W.heap.size) (ok : Nat → Prop) (hok : ok W.heap.size) : (Kd.int .i64).R 3 (W.alloc (.cells #[] 3)) base ok (.slice (some ⟨W.heap.size, 0, none⟩) 0 0) [] :=
  Kd.R_of_own (by
    have h := World.ownsRow_lit (base := base) (e := 3) (size := 1) W #[] 0 hb (by decide) (by simp)
    simpa [encs] using h) (fun k hk => by
    have : W.heap.size = k := by simpa [Value.ownBlock] using hk
    subst this; exact hok)
theorem wayL_zero (x : S28) : wayL 0 x = [] := by
  have e : manyL 0 x = 0 := by unfold manyL; split <;> simp
  unfold wayL
  rw [e]; simp
theorem gap_way (L : List S68) (ev : Int) (t l : S28) (m p wd : Int) (B : Int) (hB : B = if (nextL L 0 ev p).2.2 = true then max (beginL L ev p wd) p else p) :
    gapL L ev t l m p wd = (wayL (B - p) (if m = 0 then t else l), B) := by
  unfold gapL
  by_cases h : (nextL L 0 ev p).2.2 = true
  · rw [if_pos h] at hB
    by_cases h2 : p < beginL L ev p wd
    · rw [if_pos ⟨h, h2⟩, hB, show max (beginL L ev p wd) p = beginL L ev p wd by omega]
    · rw [if_neg (fun q => h2 q.2), hB, show max (beginL L ev p wd) p = p by omega, Int.sub_self, wayL_zero]
  · rw [if_neg h] at hB
    rw [if_neg (fun q => h q.1), hB, Int.sub_self, wayL_zero]
theorem fill_empty (x : S28) (h : fillB x = false) : x.f6 = [] := by
  have h2 : charB x = true := by rw [charB_fill, h]; rfl
  unfold charB validS validB at h2
  rw [Bool.and_eq_true] at h2
  obtain ⟨h3, h4⟩ := h2
  split at h3
  · cases h3
  · rw [Bool.and_eq_true] at h3
    have h5 := h3.2
    unfold kindB at h5
    apply List.length_eq_zero_iff.1
    by_cases k0 : x.f0 = 0
    · rw [if_pos k0, Bool.and_eq_true] at h5
      exact of_decide_eq_true h5.2
    · have k5 : x.f0 = 5 := by
        rw [Bool.or_eq_true] at h4
        rcases h4 with h | h
        · exact absurd (of_decide_eq_true h) k0
        · exact of_decide_eq_true h
      rw [if_neg k0, if_neg (by omega), if_neg (by omega), if_pos k5] at h5
      unfold bareB at h5
      simp only [Bool.and_eq_true, decide_eq_true_eq] at h5
      exact h5.1.2.2.2
theorem ok_parts {C : List (List S28)} {M : List Int} {L : List S68} {ev : Int} {t l : S28} (h : okSet C M L ev t l = true) : tvalidB L ev = true ∧ fillB t = false ∧ fillB l = false ∧ (∀ m ∈ M, m = 0 ∨ m = 1) ∧ (M.length : Int) = max ((C.length : Int) - 1) 0 ∧ ∀ c ∈ C, ∀ x ∈ c, validS x = true := by
  unfold okSet at h
  simp only [Bool.and_eq_true, decide_eq_true_eq, Bool.not_eq_true', List.any_cons, List.any_nil, Bool.or_false, Bool.or_eq_false_iff] at h
  obtain ⟨h1, h0, ⟨h2, h3⟩, h4, h5⟩ := h
  refine ⟨h1, h2, h3, fun m hm => ?_, h5, fun c hc x hx => ?_⟩
  case refine_2 =>
    cases hq : validS x with
    | true => rfl
    | false =>
      have e1 : (c.any fun x => !validS x) = true := List.any_eq_true.2 ⟨x, hx, by rw [hq]; rfl⟩
      have e2 : (C.any fun c => c.any fun x => !validS x) = true := List.any_eq_true.2 ⟨c, hc, e1⟩
      rw [e2] at h0; cases h0
  have h6 : markB m = false := by
    cases hq : markB m with
    | false => rfl
    | true => rw [List.any_eq_true.2 ⟨m, hm, hq⟩] at h4; cases h4
  unfold markB at h6
  by_cases a : m = 0
  · exact .inl a
  · by_cases b : m = 1
    · exact .inr b
    · simp [a, b] at h6
set_option maxRecDepth 100000 in
set_option maxHeartbeats 4000000 in
theorem rset_calls (w : World) (C : List (List S28)) (M : List Int) (L : List S68) (ev : Int) (t l : S28) (Ac Am As At Al : Option Addr) (cc cm cs ct cl : Nat) (h : RIn w C M L t l Ac Am As At Al cc cm cs ct cl) (hF : okSet C M L ev t l = true → Fine C L ev) :
    Calls Try.prog 10 #[.slice Ac C.length cc, .slice Am M.length cm, .agg #[.slice As (L.map cv).length cs, .int .i64 ev], boxV t.f0 t.f1 t.f2 t.f3 t.f4 t.f5 At t.f6.length ct, boxV l.f0 l.f1 l.f2 l.f3 l.f4 l.f5 Al l.f6.length cl] w fun e w' => ∃ v, e = .returned (.tuple #[v, .int .i64 (if okSet C M L ev t l then 0 else 1)]) ∧ kX.R 28 w' w.heap.size (fun _ => True) v (if okSet C M L ev t l then (stL C M L ev t l C.length).1 else []) ∧ Below w.heap.size w w' := by
  obtain ⟨en, hen⟩ : ∃ x : Int, (if okSet C M L ev t l = true then (0 : Int) else 1) = x := ⟨_, rfl⟩
  obtain ⟨res, hres⟩ : ∃ x, (if okSet C M L ev t l = true then (stL C M L ev t l C.length).1 else []) = x := ⟨_, rfl⟩
  rw [hen, hres]
  have HEN := Lib.hid hen
  have HRES := Lib.hid hres
  clear hen hres
  have HP := RPre.make w As (L.map cv).length cs ev t l At Al ct cl
  have HI := Lib.hid h
  have HF := Lib.hid hF
  clear h hF
  have hC63 : Hid (C.length ≤ 9223372036854775807) := Lib.hid HI.out.c.2.1
  have hM63 : Hid (M.length ≤ 9223372036854775807) := Lib.hid HI.out.m.2.1
  have hC1 : wrap64 ((C.length : Int) - 1) = (C.length : Int) - 1 := by have := hC63.out; unfold wrap64; omega
  obtain ⟨n, hn⟩ : ∃ n, (L.map cv).length = n := ⟨_, rfl⟩
  have HN := Lib.hid hn
  rw [hn] at HP ⊢
  clear hn
  go_enter Try.func10, Try.ntmps10
  go_upto_region 1 with fail
  obtain ⟨W1, hW1⟩ : ∃ W, (((w.alloc (.cells #[.slice As n cs, .int .i64 ev] 39)).alloc (.cells #[.int .i64 t.f0, .int .i64 t.f1, .int .i64 t.f2, .int .i64 t.f3, .string t.f4, .string t.f5, .slice At t.f6.length ct] 28)).alloc (.cells #[.int .i64 l.f0, .int .i64 l.f1, .int .i64 l.f2, .int .i64 l.f3, .string l.f4, .string l.f5, .slice Al l.f6.length cl] 28)) = W := ⟨_, rfl⟩
  rw [hW1] at HP ⊢
  clear hW1
  obtain ⟨g, hg⟩ : ∃ g, w.heap.size = g := ⟨_, rfl⟩
  have HGG := Lib.hid hg
  simp only [hg] at HP ⊢
  have HP1 := Lib.hid HP
  clear HP hg
  obtain ⟨a, ha⟩ : ∃ a, okA C M L ev t l = a := ⟨_, rfl⟩
  have HA := Lib.hid ha
  clear ha
  go_cut [12] (fun v wx => v = .bool a ∧ Hid (RPre w wx g As n cs ev t l At Al ct cl))
  case first =>
    have HTV := Lib.hid (show ∀ W, RPre w W g As n cs ev t l At Al ct cl → Calls Try.prog 38 #[.agg #[.slice As n cs, .int .i64 ev]] W fun e w' => e = .returned (.bool (tvalidB L ev)) ∧ Below W.heap.size W w' from fun W hp => by
      have h := HI.out.below hp.below
      rw [← HN.out]
      exact rtv_calls As cs L ev h.sl W h.s h.sn)
    have HCT := Lib.hid (show ∀ W, RPre w W g As n cs ev t l At Al ct cl → Calls Try.prog 39 #[boxV t.f0 t.f1 t.f2 t.f3 t.f4 t.f5 At t.f6.length ct] W fun e w' => e = .returned (.bool (charB t)) ∧ Below W.heap.size W w' from fun W hp => by
      have h := HI.out.below hp.below
      exact rchar_calls t At ct h.tz W h.tk h.tn)
    have HCL := Lib.hid (show ∀ W, RPre w W g As n cs ev t l At Al ct cl → Calls Try.prog 39 #[boxV l.f0 l.f1 l.f2 l.f3 l.f4 l.f5 Al l.f6.length cl] W fun e w' => e = .returned (.bool (charB l)) ∧ Below W.heap.size W w' from fun W hp => by
      have h := HI.out.below hp.below
      exact rchar_calls l Al cl h.lz W h.lk h.ln)
    have hA := HA.out
    unfold okA at hA
    obtain ⟨b1, hb1⟩ : ∃ b, tvalidB L ev = b := ⟨_, rfl⟩
    obtain ⟨b2, hb2⟩ : ∃ b, charB t = b := ⟨_, rfl⟩
    obtain ⟨b3, hb3⟩ : ∃ b, charB l = b := ⟨_, rfl⟩
    rw [hb1] at hA HTV
    rw [hb2] at hA HCT
    rw [hb3] at hA HCL
    clear hb1 hb2 hb3
    have s0 := HP1.out.s0
    have s1 := HP1.out.s1
    go_wp2_with fail
    refine (HTV.out _ HP1.out).mono ?_
    rintro e w2 ⟨rfl, hx2⟩
    have HP2 := Lib.hid (HP1.out.step HP1.out.top hx2)
    clear s0 s1 hx2
    cases b1
    · go_wp2_with fail
      go_meet
      case rel => exact ⟨by rw [← hA]; rfl, HP2⟩
    · obtain ⟨c0, c1, c2, c3, c4, c5, c6⟩ := HP2.out.bt
      go_wp2_with fail
      refine (HCT.out _ HP2.out).mono ?_
      rintro e w3 ⟨rfl, hx3⟩
      have HP3 := Lib.hid (HP2.out.step HP2.out.top hx3)
      clear c0 c1 c2 c3 c4 c5 c6 hx3
      cases b2
      · go_wp2_with fail
        go_meet
        case rel => exact ⟨by rw [← hA]; rfl, HP3⟩
      · obtain ⟨c0, c1, c2, c3, c4, c5, c6⟩ := HP3.out.bl
        go_wp2_with fail
        refine (HCL.out _ HP3.out).mono ?_
        rintro e w4 ⟨rfl, hx4⟩
        have HP4 := Lib.hid (HP3.out.step HP3.out.top hx4)
        clear c0 c1 c2 c3 c4 c5 c6 hx4
        cases b3
        · go_wp2_with fail
          go_meet
          case rel => exact ⟨by rw [← hA]; rfl, HP4⟩
        · go_wp2_with fail
          go_meet
          case rel =>
            refine ⟨?_, HP4⟩
            rw [← hA, beqI]; rfl
  case rest =>
    obtain ⟨rfl, HPC⟩ := hcut
    clear HP1 hC1
    go_upto_region 3 with fail
    go_loopg [12, 13] M.length (fun gk s12 s13 wx => ∃ i : Nat, i + gk = M.length ∧ s13 = .int .i64 i ∧ s12 = .bool (okM a M i) ∧ Hid (RPre w wx g As n cs ev t l At Al ct cl))
    case atStart => exact ⟨0, by omega, rfl, by simp [okM], HPC⟩
    case round =>
      obtain ⟨i, hi, rfl, rfl, HB⟩ := hrel
      by_cases hlt : i < M.length
      · obtain ⟨g', rfl⟩ : ∃ g', gk = g' + 1 := ⟨gk - 1, by omega⟩
        have i0 : (i : Int) < M.length := by omega
        obtain ⟨b, off, rfl, hbl, hcell⟩ := ints_at (HI.out.below HB.out.below).m (by omega)
        have d0 := hcell i hlt
        have hst := okM_step a M i hlt
        obtain ⟨y, hy⟩ : ∃ y, M[i] = y := ⟨_, rfl⟩
        rw [hy] at d0 hst
        obtain ⟨q, hq⟩ : ∃ q, okM a M i = q := ⟨_, rfl⟩
        rw [hq] at hst ⊢
        have hM := hM63.out
        have hw1 : wrap64 ((i : Int) + 1) = ((i + 1 : Nat) : Int) := by unfold wrap64; omega
        have HST := Lib.hid hst
        have HW1 := Lib.hid hw1
        clear hcell hbl hy hq hst hM hw1
        cases q
        · go_wp2_with fail
          go_roundg g'
          case measure => omega
          case rel => exact ⟨i + 1, by omega, congrArg (Value.int .i64) HW1.out, by rw [HST.out]; rfl, HB⟩
        · by_cases y0 : y = 0
          · subst y0
            go_wp2_with fail
            go_roundg g'
            case measure => omega
            case rel => exact ⟨i + 1, by omega, congrArg (Value.int .i64) HW1.out, by rw [HST.out]; rfl, HB⟩
          · by_cases y1 : y = 1
            · subst y1
              go_wp2_with fail
              go_roundg g'
              case measure => omega
              case rel => exact ⟨i + 1, by omega, congrArg (Value.int .i64) HW1.out, by rw [HST.out]; rfl, HB⟩
            · have z0 : (y == 0) = false := by simp [y0]
              have z1 : (y == 1) = false := by simp [y1]
              go_wp2_with fail
              go_roundg g'
              case measure => omega
              case rel => exact ⟨i + 1, by omega, congrArg (Value.int .i64) HW1.out, by rw [HST.out]; simp [markB, y0, y1], HB⟩
      · have hin : i = M.length := by omega
        subst hin
        obtain ⟨a2, ha2⟩ : ∃ x, okM a M M.length = x := ⟨_, rfl⟩
        have HA2 := Lib.hid ha2
        rw [ha2]
        clear ha2
        go_upto_region 7 with fail
        go_loopg [12, 14, 15] C.length (fun gk s12 s14 s15 wx => ∃ i : Nat, i + gk = C.length ∧ s14 = .int .i64 i ∧ s12 = .bool (okC a2 C i) ∧ Hid (RPre w wx g As n cs ev t l At Al ct cl))
        case atStart => exact ⟨0, by omega, rfl, by simp [okC], HB⟩
        case round =>
          obtain ⟨i, hi, rfl, rfl, HB2⟩ := hrel
          by_cases hlt : i < C.length
          · obtain ⟨g', rfl⟩ : ∃ g', gk = g' + 1 := ⟨gk - 1, by omega⟩
            have i0 : (i : Int) < C.length := by omega
            have hst := okC_step a2 C i hlt
            obtain ⟨q, hq⟩ : ∃ q, okC a2 C i = q := ⟨_, rfl⟩
            rw [hq] at hst ⊢
            have HST := Lib.hid hst
            have HW1 := Lib.hid (show wrap64 ((i : Int) + 1) = ((i + 1 : Nat) : Int) by have := hC63.out; unfold wrap64; omega)
            clear hq hst
            obtain ⟨cl0, hcl⟩ : ∃ c, C[i] = c := ⟨_, rfl⟩
            have HCELL := Lib.hid (show ∀ W, RPre w W g As n cs ev t l At Al ct cl → ∃ b off A6 c6, Ac = some ⟨b, off, none⟩ ∧ W.cell? ⟨b, off + i, none⟩ = some (.slice A6 cl0.length c6) ∧ cl0.length ≤ c6 ∧ Kd.C k28 W A6 cl0.length cl0 from fun W hp => by
              obtain ⟨b, off, hA, _, hcell⟩ := cells_at (HI.out.below hp.below).c (by omega)
              obtain ⟨A6, c6, h1, h2, h3⟩ := hcell i hlt
              rw [hcl] at h1 h2 h3
              exact ⟨b, off, A6, c6, hA, h1, h2, h3⟩)
            rw [hcl] at HST
            have HSM := Lib.hid (show ∀ x ∈ cl0, Sm x by rw [← hcl]; exact HI.out.cz _ (List.getElem_mem hlt))
            have HL63 := Lib.hid (show cl0.length ≤ 9223372036854775807 by obtain ⟨b, off, A6, c6, _, _, _, h⟩ := HCELL.out _ HB2.out; exact h.2.1)
            clear hcl
            obtain ⟨b0, off0, A60, c60, hAc, -, -, -⟩ := HCELL.out _ HB2.out
            subst hAc
            have HCELL := Lib.hid (show ∀ W, RPre w W g As n cs ev t l At Al ct cl → ∃ A6 c6, W.cell? ⟨b0, off0 + i, none⟩ = some (.slice A6 cl0.length c6) ∧ cl0.length ≤ c6 ∧ Kd.C k28 W A6 cl0.length cl0 from fun W hp => by
              obtain ⟨b, off, A6, c6, hA, h1, h2, h3⟩ := HCELL.out W hp
              injection hA with hA
              injection hA with hA1 hA2
              subst hA1; subst hA2
              exact ⟨A6, c6, h1, h2, h3⟩)
            go_upto_region 10 with fail
            go_loopg [12, 15] cl0.length (fun gk s12 s15 wx => ∃ j : Nat, j + gk = cl0.length ∧ s15 = .int .i64 j ∧ s12 = .bool (okX q cl0 j) ∧ Hid (RPre w wx g As n cs ev t l At Al ct cl))
            case atStart => exact ⟨0, by omega, rfl, by simp [okX], HB2⟩
            case round =>
              obtain ⟨j, hj, rfl, rfl, HB3⟩ := hrel
              obtain ⟨A6, c6, e0, e1, e2⟩ := HCELL.out _ HB3.out
              by_cases hltj : j < cl0.length
              · obtain ⟨g2, rfl⟩ : ∃ g', gk = g' + 1 := ⟨gk - 1, by omega⟩
                have j0 : (j : Int) < cl0.length := by omega
                obtain ⟨b7, o7, rfl, hbl, hbox⟩ := boxes_at e2 (by omega)
                obtain ⟨A7, c7, x0, x1, x2, x3, x4, x5, x6, x7, x8⟩ := hbox j hltj
                have hsx := okX_step q cl0 j hltj
                have hsm := HSM.out _ (List.getElem_mem hltj)
                obtain ⟨y, hy⟩ : ∃ y, cl0[j] = y := ⟨_, rfl⟩
                rw [hy] at x0 x1 x2 x3 x4 x5 x6 x7 x8 hsx hsm
                have HV := Lib.hid (rvalid_calls y A7 c7 hsm _ x8 x7)
                obtain ⟨q2, hq2⟩ : ∃ x, okX q cl0 j = x := ⟨_, rfl⟩
                rw [hq2] at hsx ⊢
                have HSX := Lib.hid hsx
                have HW2 := Lib.hid (show wrap64 ((j : Int) + 1) = ((j + 1 : Nat) : Int) by have := HL63.out; unfold wrap64; omega)
                obtain ⟨vb, hvb⟩ : ∃ x, validS y = x := ⟨_, rfl⟩
                rw [hvb] at HV HSX
                clear hbox hbl hy hq2 hsx x8 x7 hsm e2 e1 hvb
                cases q2
                · go_wp2_with fail
                  go_roundg g2
                  case measure => omega
                  case rel => exact ⟨j + 1, by omega, congrArg (Value.int .i64) HW2.out, by rw [HSX.out]; rfl, HB3⟩
                · go_wp2_with fail
                  refine HV.out.mono ?_
                  rintro e w9 ⟨rfl, hx9⟩
                  have HB9 := Lib.hid (HB3.out.step HB3.out.top hx9)
                  clear hx9
                  go_wp2_with fail
                  go_roundg g2
                  case measure => omega
                  case rel => exact ⟨j + 1, by omega, congrArg (Value.int .i64) HW2.out, by rw [HSX.out]; rfl, HB9⟩
              · have hjn : j = cl0.length := by omega
                subst hjn
                rw [okX_all]
                rw [← HST.out]
                go_wp2_with fail
                go_roundg g'
                case measure => omega
                case rel => exact ⟨i + 1, by omega, congrArg (Value.int .i64) HW1.out, rfl, HB3⟩
          · have hin2 : i = C.length := by omega
            subst hin2
            have hall := ok_all C M L ev t l
            rw [HA.out, HA2.out] at hall
            rw [hall]
            obtain ⟨z, hz⟩ : ∃ z, okSet C M L ev t l = z := ⟨_, rfl⟩
            rw [hz]
            have HZ := Lib.hid hz
            clear hall HA HA2 hi hlt hz
            cases z
            · go_wp2_with fail
              have hen := HEN.out
              have hres := HRES.out
              rw [HZ.out] at hen hres
              subst hen
              subst hres
              go_ret2
              exact ⟨_, rfl, Kd.R_nil _ _ _ _ _, HB2.out.below⟩
            · have HFN := Lib.hid (HF.out HZ.out)
              have HOP := Lib.hid (ok_parts HZ.out)
              clear HF
              obtain ⟨W3, hW3⟩ : ∃ W, W = wr := ⟨_, rfl⟩
              subst hW3
              obtain ⟨base, hbase⟩ : ∃ b, W3.heap.size = b := ⟨_, rfl⟩
              have HBS := Lib.hid hbase
              clear hbase
              go_upto_region 18 with fail
              go_loopg [16, 17, 18, 19, 20, 21, 22, 23, 24, 25] C.length (fun gk s16 s17 s18 s19 s20 s21 s22 s23 s24 s25 wx => ∃ i : Nat, i + gk = C.length ∧ s18 = .int .i64 i ∧ s17 = .int .i64 (stL C M L ev t l i).2 ∧ Hid (kX.R 28 wx base (fun _ => True) s16 (stL C M L ev t l i).1) ∧ Hid (Below base W3 wx))
              case atStart => exact ⟨0, by omega, rfl, rfl, Lib.hid (Kd.R_nil _ _ _ _ _), Lib.hid (Below.refl _ _)⟩
              case round =>
                obtain ⟨i, hi, rfl, rfl, HR, HB⟩ := hrel
                have HPR := Lib.hid (HB2.out.step (by rw [← HBS.out]; exact HB2.out.top) HB.out)
                by_cases hlt : i < C.length
                · obtain ⟨g', rfl⟩ : ∃ g', gk = g' + 1 := ⟨gk - 1, by omega⟩
                  have i0 : (i : Int) < C.length := by omega
                  obtain ⟨c, hcl⟩ : ∃ c, C[i] = c := ⟨_, rfl⟩
                  have hgd : C.getD i [] = c := by rw [← hcl]; simp [hlt]
                  have HCM := Lib.hid (show c ∈ C from hcl ▸ List.getElem_mem hlt)
                  have HCELL := Lib.hid (show ∀ W, RPre w W g As n cs ev t l At Al ct cl → ∃ b off A6 c6, Ac = some ⟨b, off, none⟩ ∧ W.cell? ⟨b, off + i, none⟩ = some (.slice A6 c.length c6) ∧ c.length ≤ c6 ∧ Kd.C k28 W A6 c.length c from fun W hp => by
                    obtain ⟨b, off, hA, _, hcell⟩ := cells_at (HI.out.below hp.below).c (by omega)
                    obtain ⟨A6, c6, h1, h2, h3⟩ := hcell i hlt
                    rw [hcl] at h1 h2 h3
                    exact ⟨b, off, A6, c6, hA, h1, h2, h3⟩)
                  obtain ⟨b0, off0, A60, c60, hAc, -, -, -⟩ := HCELL.out _ HPR.out
                  subst hAc
                  have HCELL := Lib.hid (show ∀ W, RPre w W g As n cs ev t l At Al ct cl → ∃ A6 c6, W.cell? ⟨b0, off0 + i, none⟩ = some (.slice A6 c.length c6) ∧ c.length ≤ c6 ∧ Kd.C k28 W A6 c.length c from fun W hp => by
                    obtain ⟨b, off, A6, c6, hA, h1, h2, h3⟩ := HCELL.out W hp
                    injection hA with hA
                    injection hA with hA1 hA2
                    subst hA1; subst hA2
                    exact ⟨A6, c6, h1, h2, h3⟩)
                  have HSB := Lib.hid (st_bound (M := M) (t := t) (l := l) HFN.out i (by omega))
                  have HW := Lib.hid (show Wid c from hgd ▸ HFN.out.cell i)
                  have HSUM := Lib.hid (show sumL C i + c.length ≤ 200 ∧ C.length ≤ 200 by
                    have h1 := sum_mono C (i + 1) C.length (by omega)
                    have h2 := HFN.out.sum
                    have e : sumL C (i + 1) = sumL C i + c.length := by show sumL C i + (C.getD i []).length = _; rw [hgd]
                    exact ⟨by omega, HFN.out.n⟩)
                  have HWB := Lib.hid (widthL_b c HW.out)
                  obtain ⟨wd, hwd⟩ : ∃ x, widthL c = x := ⟨_, rfl⟩
                  obtain ⟨s, hs⟩ : ∃ s, stL C M L ev t l i = s := ⟨_, rfl⟩
                  obtain ⟨G, hG⟩ : ∃ G, (if i = 0 then (([] : List S28), s.2) else gapL L ev t l (M.getD (i - 1) 0) s.2 wd) = G := ⟨_, rfl⟩
                  have HS1 := Lib.hid (show stL C M L ev t l (i + 1) = (s.1 ++ G.1 ++ c, G.2 + wd) by
                    have e : stL C M L ev t l (i + 1) = ((stL C M L ev t l i).1 ++ (if i = 0 then (([] : List S28), (stL C M L ev t l i).2) else gapL L ev t l (M.getD (i - 1) 0) (stL C M L ev t l i).2 (widthL (C.getD i []))).1 ++ C.getD i [], (if i = 0 then (([] : List S28), (stL C M L ev t l i).2) else gapL L ev t l (M.getD (i - 1) 0) (stL C M L ev t l i).2 (widthL (C.getD i []))).2 + widthL (C.getD i [])) := rfl
                    rw [e, hgd, hs, hwd, hG])
                  have HSB1 := Lib.hid (st_bound (M := M) (t := t) (l := l) HFN.out (i + 1) (by omega))
                  rw [HS1.out] at HSB1
                  have HGL := Lib.hid (show (s.1 ++ G.1).length ≤ 300000000000 by have h1 := HSB1.out.2.2; have h2 := HSUM.out; simp only [List.length_append] at h1 ⊢; omega)
                  rw [hs] at HSB HR ⊢
                  rw [hwd] at HWB
                  have HGG2 := Lib.hid hG
                  have HWD := Lib.hid hwd
                  clear hG hs hwd hgd hcl
                  obtain ⟨ps, p⟩ := s
                  simp only at HSB HR HSB1 HGG2 HS1 HGL ⊢
                  simp only [List.length_append] at HGL
                  obtain ⟨A6, c6, e0, e1, e2⟩ := HCELL.out _ HPR.out
                  have HWC := Lib.hid (rwidth_calls A6 c6 c HW.out (by have := HSUM.out.1; omega) _ e2 e1)
                  rw [HWD.out] at HWC
                  clear e2 e1
                  go_upto_if 106 with (go_at_call 41; refine HWC.out.mono ?_; rintro e w4 ⟨rfl, hd4⟩; have HR4 := Lib.hid (Kd.R_below HR.out hd4.below); have HB4 := Lib.hid (HB.out.trans (hd4.below.mono (by have := HB.out.size; have := HBS.out; omega))); have HP4 := Lib.hid (HPR.out.step HPR.out.top hd4.below); clear hd4 e0)
                  go_cut [16, 17] (fun v16 v17 wx => v17 = .int .i64 G.2 ∧ Hid (kX.R 28 wx base (fun _ => True) v16 (ps ++ G.1)) ∧ Hid (Below base W3 wx))
                  case first =>
                    by_cases hi0 : i = 0
                    · have hG0 := HGG2.out
                      rw [if_pos hi0] at hG0
                      have q0 : decide ((0 : Int) < (i : Int)) = false := decide_eq_false (by omega)
                      have q1 : ¬ 0 < i := by omega
                      clear hi0
                      go_wp2_with fail
                      go_meet
                      case rel => exact ⟨by rw [← hG0], by rw [← hG0, List.append_nil]; exact HR4, HB4⟩
                    · have hG1 := HGG2.out
                      rw [if_neg hi0] at hG1
                      obtain ⟨B, hB⟩ : ∃ B, B = if (nextL L 0 ev p).2.2 = true then max (beginL L ev p wd) p else p := ⟨_, rfl⟩
                      rw [gap_way L ev t l _ p wd B hB] at hG1
                      have HG1 := Lib.hid hG1
                      have q0 : decide ((0 : Int) < (i : Int)) = true := decide_eq_true (by omega)
                      have HI0 := Lib.hid (show 0 < i by omega)
                      have HBB := Lib.hid (begin_bound HFN.out p wd c.length (by have := HSUM.out.1; omega) (by have := HSB.out.1; have := HSUM.out.1; omega) (by have := HSB.out.2.1; have := HSUM.out; omega) HWB.out.1 HWB.out.2)
                      have HPB := Lib.hid (show -200000000 ≤ p ∧ p ≤ 700000000 ∧ -200000000 ≤ wd ∧ wd ≤ 200000000 by have := HSB.out.1; have := HSB.out.2.1; have := HSUM.out; have := HWB.out; omega)
                      have HNB := Lib.hid (next_bound L ev p HFN.out.stp HFN.out.ev0 HFN.out.ev1 (by have := HPB.out; omega) (by have := HPB.out; omega) 0 (by omega) (by omega))
                      have HNX := Lib.hid (show ∀ W, RPre w W g As n cs ev t l At Al ct cl → Calls Try.prog 42 #[.agg #[.slice As n cs, .int .i64 ev], .int .i64 p] W fun e w' => e = .returned (.tuple #[.agg #[.int .i64 (nextL L 0 ev p).1, .int .u8 (nextL L 0 ev p).2.1], .bool (nextL L 0 ev p).2.2]) ∧ Below W.heap.size W w' from fun W hp => by
                        have h := HI.out.below hp.below
                        rw [← HN.out]
                        exact rnext_calls As cs L ev p HOP.out.1 (by have := HPB.out; omega) (by have := HPB.out; omega) W h.s h.sn)
                      clear hG1 hi0
                      have hbl : beginL L ev p wd = (nextL L 0 ev p).1 - (if (nextL L 0 ev p).2.1 = 82 then wd else if (nextL L 0 ev p).2.1 = 67 then wd / 2 else 0) := rfl
                      rw [hbl] at hB HBB
                      clear hbl
                      obtain ⟨X, hX⟩ : ∃ X, (nextL L 0 ev p).1 = X := ⟨_, rfl⟩
                      obtain ⟨K, hK⟩ : ∃ K, (nextL L 0 ev p).2.1 = K := ⟨_, rfl⟩
                      obtain ⟨S, hS⟩ : ∃ S, (nextL L 0 ev p).2.2 = S := ⟨_, rfl⟩
                      rw [hX, hK, hS] at hB
                      rw [hX, hK] at HBB
                      rw [hX] at HNB
                      rw [hX, hK, hS] at HNX
                      have HXX := Lib.hid hB
                      clear hX hK hS hB
                      have s0 := HP4.out.s0
                      have s1 := HP4.out.s1
                      go_upto_region 23 with (go_at_call 42; refine (HNX.out _ HP4.out).mono ?_; rintro e w5 ⟨rfl, hx5⟩; have HR5 := Lib.hid (Kd.R_below HR4.out hx5); have HB5 := Lib.hid (HB4.out.trans (hx5.mono (by have := HB4.out.size; have := HBS.out; omega))); clear hx5 s0 s1)
                      have HR6 := Lib.hid (Kd.R_alloc HR5.out (.cells #[.int .i64 X, .int .u8 K] 84))
                      have HB6 := Lib.hid (HB5.out.alloc (by have := HB5.out.size; have := HBS.out; omega) (.cells #[.int .i64 X, .int .u8 K] 84))
                      have k0 : (w5.alloc (.cells #[.int .i64 X, .int .u8 K] 84)).cell? ⟨w5.heap.size, 0, none⟩ = some (.int .i64 X) := by simp
                      have k1 : (w5.alloc (.cells #[.int .i64 X, .int .u8 K] 84)).cell? ⟨w5.heap.size, 1, none⟩ = some (.int .u8 K) := by simp
                      clear HR4 HB4 HP4 HR5 HB5
                      have HFL := Lib.hid (show ∀ W, Calls Try.prog 43 #[.int .i64 wd, .int .i64 2] W fun e w' => e = .returned (.int .i64 (wd / 2)) ∧ ∃ m, w' = W.drewN m from fun W => (rfloor_calls wd (by have := HPB.out; omega) (by have := HPB.out; omega) W).mono (by rintro e w' ⟨h1, h2⟩; exact ⟨h1, h2.out⟩))
                      obtain ⟨g20, hg20⟩ : ∃ g, w5.heap.size = g := ⟨_, rfl⟩
                      obtain ⟨W6, hW6⟩ : ∃ W, w5.alloc (.cells #[.int .i64 X, .int .u8 K] 84) = W := ⟨_, rfl⟩
                      simp only [hg20, hW6] at k0 k1 HR6 HB6 ⊢
                      clear hW6 hg20
                      go_upto_if 114 with fail
                      go_cut [22] (fun v22 wx => v22 = .int .i64 B ∧ Hid (Drawn0 W6 wx))
                      case first =>
                        have hX := HXX.out
                        cases S
                        · go_wp2_with fail
                          go_meet
                          case rel => exact ⟨by rw [hX]; rfl, Lib.hid (Drawn0.refl _)⟩
                        · rw [if_pos rfl] at hX
                          have w1 : wrap64 (X - wd) = X - wd := by have := HPB.out; have := HNB.out; unfold wrap64; omega
                          have w2 : wrap64 (X - wd / 2) = X - wd / 2 := by have := HPB.out; have := HNB.out; unfold wrap64; omega
                          by_cases k82 : K = 82
                          · subst k82
                            rw [if_pos rfl] at hX
                            clear w2
                            go_wp2_with fail
                            go_meet
                            case rel => exact ⟨by rw [hX], Lib.hid (Drawn0.refl _)⟩
                          · rw [if_neg k82] at hX
                            have z82 : (K == 82) = false := by simp [k82]
                            by_cases k67 : K = 67
                            · subst k67
                              rw [if_pos rfl] at hX
                              clear w1
                              go_upto_region 29 with fail
                              go_quiet ((go_at_call 43; first | exact HFL.out _ | exact Calls.quiet_of (HFL.out _)))
                              go_wp2_with fail
                              go_meet
                              case rel => exact ⟨by rw [hX], Lib.hid ⟨⟨_, rfl⟩⟩⟩
                            · rw [if_neg k67] at hX
                              have z67 : (K == 67) = false := by simp [k67]
                              clear w1 w2
                              go_wp2_with fail
                              go_meet
                              case rel => exact ⟨by rw [hX]; simp, Lib.hid (Drawn0.refl _)⟩
                      case rest =>
                        obtain ⟨rfl, HD⟩ := hcut
                        have hbs : base ≤ W6.heap.size := by have := HB6.out.size; have := HBS.out; omega
                        have HBc := Lib.hid (HB6.out.trans (HD.out.below.mono hbs))
                        have HRc := Lib.hid (Kd.R_below HR6.out HD.out.below)
                        have HPc := Lib.hid (HB2.out.step (by rw [← HBS.out]; exact HB2.out.top) HBc.out)
                        have HZc := Lib.hid (show base ≤ wc.heap.size by have := HBc.out.size; have := HBS.out; omega)
                        clear HR6 HB6 HD k0 k1 hbs
                        have hml : i - 1 < M.length := by have := HOP.out.2.2.2.2.1; have := HI0.out; omega
                        have wi : wrap64 ((i : Int) - 1) = ((i - 1 : Nat) : Int) := by have := HI0.out; have := HSUM.out; unfold wrap64; omega
                        have wi1 : ((i - 1 : Nat) : Int) < (M.length : Int) := by omega
                        obtain ⟨bm, om, hAm, hbml, hmc⟩ := ints_at (HI.out.below HPc.out.below).m (by omega)
                        subst hAm
                        have d0 := hmc (i - 1) hml
                        have hmg : M.getD (i - 1) 0 = M[i - 1] := by simp [hml]
                        have hy01 := HOP.out.2.2.2.1 _ (List.getElem_mem hml)
                        have HGW := HG1.out
                        rw [hmg] at HGW
                        obtain ⟨y, hy⟩ : ∃ y, M[i - 1] = y := ⟨_, rfl⟩
                        rw [hy] at d0 hy01 HGW
                        have HGW := Lib.hid HGW
                        obtain ⟨x0, x1, x2, x3, x4, x5, x6⟩ := HPc.out.bt
                        obtain ⟨y0, y1, y2, y3, y4, y5, y6⟩ := HPc.out.bl
                        have gl := HPc.out.top
                        clear hmc hy hmg HG1
                        have HBP := Lib.hid (show 0 ≤ B - p ∧ B - p ≤ 1000000000 by
                          have h1 := HXX.out
                          have h2 := HBB.out.1
                          have h3 := HPB.out
                          have h4 := HSUM.out
                          obtain ⟨D, hD⟩ : ∃ D, (X - (if K = 82 then wd else if K = 67 then wd / 2 else 0)) = D := ⟨_, rfl⟩
                          rw [hD] at h1 h2
                          split at h1 <;> omega)
                        have wb : wrap64 (B - p) = B - p := by have := HBP.out; unfold wrap64; omega
                        have gl1 : g + 1 < wc.heap.size := by omega
                        have gl2 : g + 1 + 1 < wc.heap.size := by omega
                        have hml2 : ((i - 1 : Nat) : Int) = (i : Int) - 1 := by have := HI0.out; omega
                        rcases hy01 with rfl | rfl
                        · go_upto_region 34 with fail
                          have HX7 := Lib.hid (BoxAt.new wc wc.heap.size rfl t At ct)
                          have HR7 := Lib.hid (Kd.R_alloc HRc.out (.cells #[.int .i64 t.f0, .int .i64 t.f1, .int .i64 t.f2, .int .i64 t.f3, .string t.f4, .string t.f5, .slice At t.f6.length ct] 28))
                          have HB7 := Lib.hid (HBc.out.alloc HZc.out (.cells #[.int .i64 t.f0, .int .i64 t.f1, .int .i64 t.f2, .int .i64 t.f3, .string t.f4, .string t.f5, .slice At t.f6.length ct] 28))
                          have HZ7 := Lib.hid (show base ≤ (wc.alloc (.cells #[.int .i64 t.f0, .int .i64 t.f1, .int .i64 t.f2, .int .i64 t.f3, .string t.f4, .string t.f5, .slice At t.f6.length ct] 28)).heap.size by have := HZc.out; simp; omega)
                          obtain ⟨W7, hW7⟩ : ∃ W, wc.alloc (.cells #[.int .i64 t.f0, .int .i64 t.f1, .int .i64 t.f2, .int .i64 t.f3, .string t.f4, .string t.f5, .slice At t.f6.length ct] 28) = W := ⟨_, rfl⟩
                          simp only [hW7] at HX7 HR7 HB7 HZ7 ⊢
                          have HWY := Lib.hid (rway_calls W3 base u16 ps (B - p) t At ct HBP.out.1 HBP.out.2 (fillB_w t HOP.out.2.1) (fill_empty t HOP.out.2.1) (by have := HSB.out.2.2; have := HSUM.out; omega) W7 HR7.out HB7.out HZ7.out)
                          clear hW7 x0 x1 x2 x3 x4 x5 x6 y0 y1 y2 y3 y4 y5 y6 d0
                          obtain ⟨x0, x1, x2, x3, x4, x5, x6⟩ := HX7.out
                          go_wp2_with (go_at_call 44; refine HWY.out.mono ?_; rintro e w9 ⟨v9, rfl, hr9, hb9, hz9⟩; have HR9 := Lib.hid hr9; have HB9 := Lib.hid hb9; clear hr9 hb9 hz9)
                          go_meet
                          case rel => exact ⟨by rw [← HGW.out], by rw [← HGW.out]; exact HR9, HB9⟩
                        · go_upto_region 34 with fail
                          have HX7 := Lib.hid (BoxAt.new wc wc.heap.size rfl l Al cl)
                          have HR7 := Lib.hid (Kd.R_alloc HRc.out (.cells #[.int .i64 l.f0, .int .i64 l.f1, .int .i64 l.f2, .int .i64 l.f3, .string l.f4, .string l.f5, .slice Al l.f6.length cl] 28))
                          have HB7 := Lib.hid (HBc.out.alloc HZc.out (.cells #[.int .i64 l.f0, .int .i64 l.f1, .int .i64 l.f2, .int .i64 l.f3, .string l.f4, .string l.f5, .slice Al l.f6.length cl] 28))
                          have HZ7 := Lib.hid (show base ≤ (wc.alloc (.cells #[.int .i64 l.f0, .int .i64 l.f1, .int .i64 l.f2, .int .i64 l.f3, .string l.f4, .string l.f5, .slice Al l.f6.length cl] 28)).heap.size by have := HZc.out; simp; omega)
                          obtain ⟨W7, hW7⟩ : ∃ W, wc.alloc (.cells #[.int .i64 l.f0, .int .i64 l.f1, .int .i64 l.f2, .int .i64 l.f3, .string l.f4, .string l.f5, .slice Al l.f6.length cl] 28) = W := ⟨_, rfl⟩
                          simp only [hW7] at HX7 HR7 HB7 HZ7 ⊢
                          have HWY := Lib.hid (rway_calls W3 base u16 ps (B - p) l Al cl HBP.out.1 HBP.out.2 (fillB_w l HOP.out.2.2.1) (fill_empty l HOP.out.2.2.1) (by have := HSB.out.2.2; have := HSUM.out; omega) W7 HR7.out HB7.out HZ7.out)
                          clear hW7 x0 x1 x2 x3 x4 x5 x6 y0 y1 y2 y3 y4 y5 y6 d0
                          obtain ⟨x0, x1, x2, x3, x4, x5, x6⟩ := HX7.out
                          go_wp2_with (go_at_call 44; refine HWY.out.mono ?_; rintro e w9 ⟨v9, rfl, hr9, hb9, hz9⟩; have HR9 := Lib.hid hr9; have HB9 := Lib.hid hb9; clear hr9 hb9 hz9)
                          go_meet
                          case rel => exact ⟨by rw [← HGW.out], by rw [← HGW.out]; exact HR9, HB9⟩
                  case rest =>
                    obtain ⟨rfl, HRC, HBC⟩ := hcut
                    have HPC := Lib.hid (HB2.out.step (by rw [← HBS.out]; exact HB2.out.top) HBC.out)
                    go_upto_region 37 with fail
                    go_loopg [16, 24, 25] c.length (fun gk s16 s24 s25 wx => ∃ k : Nat, k + gk = c.length ∧ s24 = .int .i64 k ∧ Hid (kX.R 28 wx base (fun _ => True) s16 (ps ++ G.1 ++ c.take k)) ∧ Hid (Below base W3 wx))
                    case atStart => exact ⟨0, by omega, rfl, Lib.hid (by rw [List.take_zero, List.append_nil]; exact HRC.out), HBC⟩
                    case round =>
                      obtain ⟨k, hk, rfl, HRK, HBK⟩ := hrel
                      have HPK := Lib.hid (HB2.out.step (by rw [← HBS.out]; exact HB2.out.top) HBK.out)
                      obtain ⟨A6, c6, e0, e1, e2⟩ := HCELL.out _ HPK.out
                      by_cases hltk : k < c.length
                      · obtain ⟨g2, rfl⟩ : ∃ g', gk = g' + 1 := ⟨gk - 1, by omega⟩
                        have k0 : (k : Int) < c.length := by omega
                        obtain ⟨b7, o7, rfl, hbl, hbox⟩ := boxes_at e2 (by omega)
                        obtain ⟨A7, c7, x0, x1, x2, x3, x4, x5, x6, x7, x8⟩ := hbox k hltk
                        have htk : c.take k ++ [c[k]] = c.take (k + 1) := (List.take_succ_eq_append_getElem hltk).symm
                        have hyn : (c[k]).f6.length ≤ 40 := validS_n _ (HOP.out.2.2.2.2.2 c (HCM.out) _ (List.getElem_mem hltk))
                        obtain ⟨y, hy⟩ : ∃ y, c[k] = y := ⟨_, rfl⟩
                        rw [hy] at x0 x1 x2 x3 x4 x5 x6 x7 x8 htk hyn
                        have HTK := Lib.hid htk
                        have HYN := Lib.hid hyn
                        clear hyn
                        have HX8 := Lib.hid x8
                        have HW2 := Lib.hid (show wrap64 ((k : Int) + 1) = ((k + 1 : Nat) : Int) by have := HSUM.out; unfold wrap64; omega)
                        clear hbox hy e2 e1 htk x8 x7
                        go_upto_region 40 with fail
                        have hz9 : base ≤ wr.heap.size := by have := HBK.out.size; have := HBS.out; omega
                        have HR5 := Lib.hid (Kd.R_alloc (Kd.R_elderB HRK.out wr.heap.size (Nat.le_refl _)) (.cells #[.int .i64 y.f0, .int .i64 y.f1, .int .i64 y.f2, .int .i64 y.f3, .string y.f4, .string y.f5, .slice A7 y.f6.length c7] 28))
                        have HB5 := Lib.hid (HBK.out.alloc hz9 (.cells #[.int .i64 y.f0, .int .i64 y.f1, .int .i64 y.f2, .int .i64 y.f3, .string y.f4, .string y.f5, .slice A7 y.f6.length c7] 28))
                        have HX5 := Lib.hid (BoxAt.new wr wr.heap.size rfl y A7 c7)
                        have HN5 := Lib.hid (Kd.C_below HX8.out ((Below.refl wr.heap.size wr).alloc (Nat.le_refl _) (.cells #[.int .i64 y.f0, .int .i64 y.f1, .int .i64 y.f2, .int .i64 y.f3, .string y.f4, .string y.f5, .slice A7 y.f6.length c7] 28)))
                        have HH5 := Lib.hid (heap_alloc_new wr (.cells #[.int .i64 y.f0, .int .i64 y.f1, .int .i64 y.f2, .int .i64 y.f3, .string y.f4, .string y.f5, .slice A7 y.f6.length c7] 28))
                        have HG5 := Lib.hid (show wr.heap.size < (wr.alloc (.cells #[.int .i64 y.f0, .int .i64 y.f1, .int .i64 y.f2, .int .i64 y.f3, .string y.f4, .string y.f5, .slice A7 y.f6.length c7] 28)).heap.size by simp)
                        have HU5 := Lib.hid (show some wr.heap.size ≠ u16.ownBlock by intro h; have := Kd.R_lt HRK.out _ h.symm; omega)
                        have HZ5 := Lib.hid hz9
                        obtain ⟨W5, hW5⟩ : ∃ W, wr.alloc (.cells #[.int .i64 y.f0, .int .i64 y.f1, .int .i64 y.f2, .int .i64 y.f3, .string y.f4, .string y.f5, .slice A7 y.f6.length c7] 28) = W := ⟨_, rfl⟩
                        simp only [hW5] at HR5 HB5 HX5 HN5 HH5 HG5 ⊢
                        clear hW5 x0 x1 x2 x3 x4 x5 x6 e0 HX8 hz9
                        obtain ⟨g25, hg25⟩ : ∃ g, wr.heap.size = g := ⟨_, rfl⟩
                        simp only [hg25] at HR5 HX5 HH5 HG5 HU5 HZ5 ⊢
                        clear hg25 hbl
                        obtain ⟨x0, x1, x2, x3, x4, x5, x6⟩ := HX5.out
                        have HE6 := Lib.hid (empty_R W5 base (by have := HG5.out; have := HZ5.out; omega) (fun q => some q ≠ u16.ownBlock ∧ q ≠ g25) ⟨by intro h; have := Kd.R_lt HR5.out _ h.symm; omega, by have := HG5.out; omega⟩)
                        have HX6 := Lib.hid (HX5.out.below ((Below.refl W5.heap.size W5).alloc (Nat.le_refl _) (.cells #[] 3)) HG5.out)
                        have HR6 := Lib.hid (Kd.R_alloc (Kd.R_elderB HR5.out W5.heap.size (Nat.le_refl _)) (.cells #[] 3))
                        have HB6 := Lib.hid (HB5.out.alloc (by have := HG5.out; have := HZ5.out; omega) (.cells #[] 3))
                        have HN6 := Lib.hid (Kd.C_below HN5.out ((Below.refl W5.heap.size W5).alloc (Nat.le_refl _) (.cells #[] 3)))
                        have HH6 := Lib.hid (show (W5.alloc (.cells #[] 3)).heap[g25]? = _ from (((Below.refl W5.heap.size W5).alloc (Nat.le_refl _) (.cells #[] 3)).block g25 HG5.out).trans HH5.out)
                        have HS6 := Lib.hid (show (W5.alloc (.cells #[] 3)).heap.size = W5.heap.size + 1 by simp)
                        have hg5 := HG5.out
                        go_upto_region 41 with ((with_reducible refine gate_builtin (b := .append) (xs := #[.tmp 166, .tmp 168]) rfl ?_); at_builtin; refine Kd.R_append_row (Value.int .i64) (0 : Int) (h1 := fun _ => rfl) (w0 := W3) base rfl (.tmp 166) (.tmp 168) 23 3 (.int .i64 0) 8 rfl Try.underlying23 info3 rfl (by decide) (.slice (some ⟨W5.heap.size, 0, none⟩) 0 0) [] y.f6 A7 y.f6.length c7 (fun q => some q ≠ u16.ownBlock ∧ q ≠ g25) rfl rfl ?fr HE6.out HN6.out HB6.out ?bs ?ln ?_; (case fr => exact fun q hq => ⟨by intro h; have := Kd.R_lt HR5.out _ h.symm; have := HS6.out; omega, by have := HG5.out; have := HS6.out; omega⟩); (case bs => have := HS6.out; have := HG5.out; have := HZ5.out; omega); (case ln => have := HYN.out; simp; omega); intro v1 w7 ho hb hg hat; obtain ⟨A8, c8, he8⟩ := Kd.R_slice ho; subst he8; have hne7 : some g25 ≠ (Value.slice (some ⟨W5.heap.size, 0, none⟩) 0 0).ownBlock := (by intro h; simp [Value.ownBlock] at h; have := HG5.out; omega); have HX7 := Lib.hid (HX6.out.grown hg hne7); have HH7 := Lib.hid ((hg.block g25 (by have := HS6.out; have := HG5.out; omega) hne7).trans HH6.out); have HR7 := Lib.hid (Kd.R_grown HR6.out hg (fun q hq => by intro h; simp [Value.ownBlock] at h; exact hq.2 h)); have HO7 := Lib.hid ho; have HB7 := Lib.hid hb; clear hg hat ho hb hne7 x0 x1 x2 x3 x4 x5 x6; obtain ⟨x0, x1, x2, x3, x4, x5, x6⟩ := HX7.out; have z6 := Lib.frozen_of_heap HH7.out 6)
                        have HX8 := Lib.hid (HX7.out.put A8 c8)
                        have HR8 := Lib.hid (Kd.R_mono (ok' := fun _ => True) (Kd.R_far HR7.out (p := ⟨g25, 6, none⟩) (fun q hq => hq.1.2) (.slice A8 y.f6.length c8)) (fun _ _ => trivial))
                        have HB8 := Lib.hid (HB7.out.setCell (p := ⟨g25, 6, none⟩) HZ5.out (.slice A8 y.f6.length c8))
                        have HO8 := Lib.hid (Kd.R_far HO7.out (p := ⟨g25, 6, none⟩) (fun q hq => hq.2) (.slice A8 y.f6.length c8))
                        have HS8 := Lib.hid (show base ≤ (w7.setCell ⟨g25, 6, none⟩ (.slice A8 y.f6.length c8)).heap.size by have := HB7.out.size; have := HBS.out; rw [World.size_setCell]; omega)
                        clear z6 x0 x1 x2 x3 x4 x5 x6 hg5
                        obtain ⟨W8, hW8⟩ : ∃ W, w7.setCell ⟨g25, 6, none⟩ (.slice A8 y.f6.length c8) = W := ⟨_, rfl⟩
                        simp only [List.nil_append] at HO8 hW8 ⊢
                        simp only [hW8] at HX8 HR8 HB8 HO8 HS8 ⊢
                        clear hW8
                        obtain ⟨x0, x1, x2, x3, x4, x5, x6⟩ := HX8.out
                        go_wp2_with ((with_reducible refine gate_builtin (b := .append) (xs := #[.tmp 171, .tmp 173]) rfl ?_); at_builtin; refine Kd.R_append kX (w0 := W3) base rfl (.tmp 171) (.tmp 173) 31 28 (.agg #[.int .i64 0, .int .i64 0, .int .i64 0, .int .i64 0, .string ⟨#[]⟩, .string ⟨#[]⟩, .slice none 0 0]) 88 rfl Try.underlying31 info28X rfl (by decide) (by omega) u16 (ps ++ G.1 ++ c.take k) y (boxC y A8 c8) (fun _ => True) (fun q => some q ≠ u16.ownBlock ∧ q ≠ g25) rfl ?aX ?aP (fun _ hk => ⟨trivial, hk.1⟩) (fun _ _ => trivial) HR8.out HB8.out HS8.out ?aL ?_; (case aX => rfl); (case aP => exact kX_own _ _ _ y HO8.out); (case aL => have := HGL.out; have := HSUM.out; simp only [List.length_append, List.length_take]; omega); intro v9 w9 ho hb hg hat; have HR9 := Lib.hid ho; have HB9 := Lib.hid hb; clear ho hb hg hat)
                        go_roundg g2
                        case measure => omega
                        case rel => exact ⟨k + 1, by omega, congrArg (Value.int .i64) HW2.out, Lib.hid (by rw [← HTK.out, ← List.append_assoc]; exact HR9.out), HB9⟩
                      · have hkn : k = c.length := by omega
                        have hb1 := HSB1.out
                        have hb4 := HSUM.out
                        have hs4 := sum_mono C (i + 1) C.length (by omega)
                        have hs5 := HFN.out.sum
                        have hw2 : wrap64 (G.2 + wd) = G.2 + wd := by have := HBS.out; unfold wrap64; omega
                        have HW2 := Lib.hid (show wrap64 ((i : Int) + 1) = ((i + 1 : Nat) : Int) by unfold wrap64; omega)
                        have HKN := Lib.hid hkn
                        clear hb1 hb4 hs4 hs5 hkn e1 e2
                        go_wp2_with fail
                        go_roundg g'
                        case measure => omega
                        case rel => exact ⟨i + 1, by omega, congrArg (Value.int .i64) HW2.out, by rw [HS1.out]; exact congrArg (Value.int .i64) hw2, by rw [HS1.out]; have := HRK.out; rw [HKN.out, List.take_length] at this; exact Lib.hid this, HBK⟩
                · have hin : i = C.length := by omega
                  subst hin
                  go_wp2_with fail
                  have hen := HEN.out
                  have hres := HRES.out
                  rw [HZ.out] at hen hres
                  rw [if_pos rfl] at hen hres
                  subst hen
                  subst hres
                  go_ret2
                  exact ⟨_, rfl, Kd.R_lower HR.out (by have := HB2.out.top; have := HB2.out.gw; have := HBS.out; omega), HPR.out.below⟩
end Go.Proofs.Ytmmfojaeahcohaa

set_option linter.unusedVariables false
set_option linter.unusedSimpArgs false
namespace Go.Proofs.Ytmmfojaeahcohaa
open Go.Lib Go.RowKit Go.Proofs.YtmmfojaeahcohaaW.PrintWords Go.Proofs.Ytmmfojaeahcohaa.PTabsMade

/-- A box that is valid, its texts small. -/
def Gd (x : S28) : Prop := validS x = true ∧ Sm x
theorem e0 : (⟨#[]⟩ : ByteArray).toList = [] := (tol0 _).2 rfl
theorem e126 : (⟨#[126]⟩ : ByteArray).toList = [126] := (tol1 _ 126).2 ⟨rfl, rfl⟩
theorem gd_of (k w f s : Int) (n : ByteArray) (hw : -1000 ≤ w ∧ w ≤ 1000) (hf : f = 0) (hs : 0 ≤ s) (hn : n.size ≤ 10) (hk : kindB k w f s n ⟨#[]⟩ [] = true) : Gd ⟨k, w, f, s, n, ⟨#[]⟩, []⟩ := by
  refine ⟨?_, ?_⟩
  · show validB k w f s n ⟨#[]⟩ [] = true
    unfold validB
    rw [if_neg (by omega), bare_col _ e0, hk]; rfl
  · show n.size ≤ 9223372036854775807 ∧ (⟨#[]⟩ : ByteArray).size ≤ 9223372036854775807 ∧ ([] : List Int).length ≤ 9223372036854775807
    exact ⟨by omega, by decide, by decide⟩
theorem g_blank (w : Int) (h0 : 0 ≤ w) (h1 : w ≤ 1000) : Gd ⟨1, w, 0, 10, ⟨#[]⟩, ⟨#[]⟩, []⟩ := gd_of _ _ _ _ _ ⟨by omega, h1⟩ rfl (by omega) (by decide) (by simp [kindB, e0])
theorem g_tilde : Gd ⟨1, 5, 0, 10, ⟨#[126]⟩, ⟨#[]⟩, []⟩ := gd_of _ _ _ _ _ ⟨by omega, by omega⟩ rfl (by omega) (by decide) (by simp [kindB, e0, e126])
theorem g_point : Gd ⟨5, 0, 0, 0, ⟨#[]⟩, ⟨#[]⟩, []⟩ := gd_of _ _ _ _ _ ⟨by omega, by omega⟩ rfl (by omega) (by decide) (by simp [kindB, bareB, e0])
theorem g_right (w : Int) (h0 : -1000 ≤ w) (h1 : w ≤ 1000) : Gd ⟨2, w, 0, 0, ⟨#[]⟩, ⟨#[]⟩, []⟩ := gd_of _ _ _ _ _ ⟨h0, h1⟩ rfl (by omega) (by decide) (by simp [kindB, bareB, e0])
theorem g_fixed (w : Int) (h0 : -1000 ≤ w) (h1 : w ≤ 1000) : Gd ⟨6, w, 0, 0, ⟨#[]⟩, ⟨#[]⟩, []⟩ := gd_of _ _ _ _ _ ⟨h0, h1⟩ rfl (by omega) (by decide) (by simp [kindB, bareB, e0])
theorem g_glyph (w : Int) (nm : ByteArray) (h0 : -1000 ≤ w) (h1 : w ≤ 1000) (hn : nameB nm = true) (hs : nm.size ≤ 10) : Gd ⟨0, w, 0, 10, nm, ⟨#[]⟩, []⟩ := gd_of _ _ _ _ _ ⟨h0, h1⟩ rfl (by omega) hs (by simp [kindB, hn])
theorem names8 : ∀ a : Nat, a < 8 → nameB ((⟨#[97, 98, 99, 100, 101, 102, 103, 104]⟩ : ByteArray).extract a (a + 1)) = true ∧ ((⟨#[97, 98, 99, 100, 101, 102, 103, 104]⟩ : ByteArray).extract a (a + 1)).size ≤ 10 := by decide +kernel
theorem num_b (n : Int) : 0 ≤ wrap64 (Int.tmod (IntKind.u64.wrap n) 100000) ∧ wrap64 (Int.tmod (IntKind.u64.wrap n) 100000) ≤ 99999 := by
  have e : IntKind.u64.wrap n = n % 18446744073709551616 := by simp [IntKind.wrap, IntKind.signed, IntKind.bits]
  rw [e, Int.tmod_eq_emod_of_nonneg (by omega), wrapI _ (by omega) (by omega)]
  omega
theorem div_b (v : Int) (h0 : 0 ≤ v) (h1 : v ≤ 99999) : wrap64 (Int.tdiv v 12) = v / 12 := by
  rw [Int.tdiv_eq_ediv_of_nonneg h0, wrapI _ (by omega) (by omega)]
def AllG (l : List S28) : Prop := ∀ x ∈ l, Gd x
theorem AllG.snoc {l : List S28} {x : S28} (h : AllG l) (hx : Gd x) : AllG (l ++ [x]) := fun y hy => by
  rcases List.mem_append.1 hy with hy | hy
  · exact h y hy
  · rw [List.mem_singleton] at hy; subst hy; exact hx
theorem mod_b (d : Int) (hd : 0 ≤ d) (q : Int) (hq : 0 < q) : 0 ≤ Int.tmod d q ∧ Int.tmod d q < q := by
  rw [Int.tmod_eq_emod_of_nonneg hd]
  exact ⟨Int.emod_nonneg _ (by omega), Int.emod_lt_of_pos _ hq⟩
/-- What the rest of the row makes of one box more. -/
def Nx (l : List Int) (acc : List S28) (i : Int) (N : Nat) (Q : List S28 → Prop) : Prop := ∀ x K', Gd x → N ≤ K' → ∃ r, frisketlaw11_Row.l0 K' l (acc ++ [x]) (wrap64 (i + 1)) = some r ∧ Q r
theorem row_g (l : List Int) (acc : List S28) (i : Int) (N K2 : Nat) (Q : List S28 → Prop) (ih : Nx l acc i N Q) (hK : N ≤ K2) (hlen : acc.length < 1599289640401) (d : Int) (hdb : 0 ≤ d ∧ d ≤ 8334) :
    ∃ r, (if 0 ≤ (Int.tmod d 8) then (if (Int.tmod d 8) ≤ (wrap64 ((Int.tmod d 8) + 1)) then (if (wrap64 ((Int.tmod d 8) + 1)) ≤ 8 then (if acc.length < 1599289640401 then (frisketlaw11_Row.l0 K2 l (acc ++ [(⟨0, wrap64 (5 + (Int.tmod d 12)), 0, 10, (⟨#[97, 98, 99, 100, 101, 102, 103, 104]⟩ : ByteArray).extract ((Int.tmod d 8) : Int).toNat ((wrap64 ((Int.tmod d 8) + 1)) : Int).toNat, (⟨#[]⟩ : ByteArray), ([] : List Int)⟩ : S28)]) (wrap64 (i + 1))) else (none)) else (none)) else (none)) else (none)) = some r ∧ Q r := by
  have hq := mod_b d hdb.1 8 (by omega)
  have hq2 := mod_b d hdb.1 12 (by omega)
  obtain ⟨b, hb⟩ : ∃ b, Int.tmod d 12 = b := ⟨_, rfl⟩
  rw [hb] at hq2 ⊢
  obtain ⟨a, ha8⟩ : ∃ a : Nat, Int.tmod d 8 = a := ⟨(Int.tmod d 8).toNat, by omega⟩
  rw [ha8] at hq ⊢
  have hwa : wrap64 ((a : Int) + 1) = ((a + 1 : Nat) : Int) := by rw [wrapI _ (by omega) (by omega)]; rfl
  have hw5 : wrap64 (5 + b) = 5 + b := wrapI _ (by omega) (by omega)
  rw [hwa, hw5, if_pos (by omega), if_pos (by omega), if_pos (by omega), if_pos hlen, Int.toNat_natCast, Int.toNat_natCast]
  have hnm := names8 a (by omega)
  obtain ⟨nm, hn⟩ : ∃ nm, (⟨#[97, 98, 99, 100, 101, 102, 103, 104]⟩ : ByteArray).extract a (a + 1) = nm := ⟨_, rfl⟩
  rw [hn] at hnm ⊢
  exact ih _ _ (g_glyph _ _ (by omega) (by omega) hnm.1 hnm.2) hK
theorem row_j3 (l : List Int) (acc : List S28) (i : Int) (N K2 : Nat) (Q : List S28 → Prop) (ih : Nx l acc i N Q) (hK : N ≤ K2) (hlen : acc.length < 1599289640401) (v m : Int) (hv : 0 ≤ v ∧ v ≤ 99999) (b : Bool) (hb2 : b = false → 5 ≤ m) :
    ∃ r, frisketlaw11_Row.j3 (K2 + 1) l acc i v m b = some r ∧ Q r := by
  rw [frisketlaw11_Row.j3]
  have hd := div_b v hv.1 hv.2
  obtain ⟨d, hd2⟩ : ∃ d, v / 12 = d := ⟨_, rfl⟩
  rw [hd2] at hd
  have hdb : 0 ≤ d ∧ d ≤ 8334 := by omega
  rw [hd]
  cases b with
  | true =>
    rw [if_pos rfl, if_pos hlen]
    exact ih _ _ g_point hK
  | false =>
    rw [if_neg (by simp)]
    have h5 := hb2 rfl
    by_cases m5 : m = 5
    · rw [if_pos m5, if_pos hlen]
      exact ih _ _ g_tilde hK
    · rw [if_neg m5]
      by_cases m6 : m = 6
      · rw [if_pos m6, if_pos hlen]
        have hq := mod_b d hdb.1 31 (by omega)
        obtain ⟨q, hqq⟩ : ∃ q, Int.tmod d 31 = q := ⟨_, rfl⟩
        rw [hqq] at hq ⊢
        have hw : wrap64 (q - 15) = q - 15 := wrapI _ (by omega) (by omega)
        rw [hw]
        exact ih _ _ (g_right _ (by omega) (by omega)) hK
      · rw [if_neg m6]
        by_cases m7 : m = 7
        · rw [if_pos m7, if_pos hlen]
          have hq := mod_b d hdb.1 10 (by omega)
          exact ih _ _ (g_fixed _ (by omega) (by omega)) hK
        · rw [if_neg m7]
          exact row_g l acc i N K2 Q ih hK hlen d hdb
theorem row_j2 (l : List Int) (acc : List S28) (i : Int) (N K2 : Nat) (Q : List S28 → Prop) (ih : Nx l acc i N Q) (hK : N ≤ K2) (hlen : acc.length < 1599289640401) (v m : Int) (hv : 0 ≤ v ∧ v ≤ 99999) (b : Bool) (hb2 : b = false → 3 ≤ m) :
    ∃ r, frisketlaw11_Row.j2 (K2 + 2) l acc i v m b = some r ∧ Q r := by
  rw [show K2 + 2 = (K2 + 1) + 1 from rfl, frisketlaw11_Row.j2]
  cases b with
  | true =>
    rw [if_pos rfl]
    have hd := div_b v hv.1 hv.2
    obtain ⟨d, hd2⟩ : ∃ d, v / 12 = d := ⟨_, rfl⟩
    rw [hd2] at hd
    have hq := mod_b d (by omega) 20 (by omega)
    rw [hd]
    show ∃ r, (if acc.length < 1599289640401 then (frisketlaw11_Row.l0 (K2 + 1) l (acc ++ [(⟨1, Int.tmod d 20, 0, 10, ⟨#[]⟩, ⟨#[]⟩, []⟩ : S28)]) (wrap64 (i + 1))) else none) = some r ∧ Q r
    rw [if_pos hlen]
    exact ih _ _ (g_blank _ (by omega) (by omega)) (by omega)
  | false =>
    rw [if_neg (by simp)]
    have h3 := hb2 rfl
    by_cases m3 : m = 3
    · rw [if_pos m3]
      exact row_j3 l acc i N K2 Q ih hK hlen v m hv _ (fun h => by rw [m3] at h; simp at h)
    · rw [if_neg m3]
      refine row_j3 l acc i N K2 Q ih hK hlen v m hv _ (fun h => ?_)
      have : m ≠ 4 := by simpa using h
      omega
theorem row_l (l : List Int) (hl : l.length ≤ 1000) : ∀ f i (acc : List S28) K, AllG acc → acc.length ≤ i → l.length ≤ i + f → 4 * f + 4 ≤ K → ∃ r, frisketlaw11_Row.l0 K l acc (i : Nat) = some r ∧ (AllG r ∧ r.length ≤ acc.length + (l.length - i))
  | f, i, acc, K, hg, ha, h, hK => by
    obtain ⟨K1, rfl⟩ : ∃ k, K = k + 2 := ⟨K - 2, by omega⟩
    rw [show K1 + 2 = (K1 + 1) + 1 from rfl, frisketlaw11_Row.l0]
    by_cases hlt : i < l.length
    · obtain ⟨f', rfl⟩ : ∃ f', f = f' + 1 := ⟨f - 1, by omega⟩
      obtain ⟨K2, rfl⟩ : ∃ k, K1 = k + 2 := ⟨K1 - 2, by omega⟩
      rw [if_pos (by omega), show K2 + 2 + 1 = (K2 + 2) + 1 from rfl, frisketlaw11_Row.j1]
      by_cases h120 : (i : Int) < 120
      · rw [decide_eq_true h120, if_pos rfl, if_pos (by omega), if_pos (by omega)]
        have hb := num_b (rd l (i : Int))
        obtain ⟨v, hv⟩ : ∃ v, wrap64 (Int.tmod (IntKind.u64.wrap (rd l (i : Int))) 100000) = v := ⟨_, rfl⟩
        rw [hv] at hb ⊢
        have ih : Nx l acc (i : Nat) (4 * f' + 4) (fun r => AllG r ∧ r.length ≤ acc.length + (l.length - i)) := fun x K' hx hK' => by
          rw [wrapS i l.length hlt (by omega)]
          obtain ⟨r, h1, h2, h3⟩ := row_l l hl f' (i + 1) (acc ++ [x]) K' (hg.snoc hx) (by simp; omega) (by omega) hK'
          exact ⟨r, h1, h2, by simp at h3; omega⟩
        have hlen : acc.length < 1599289640401 := by omega
        have hmb := mod_b v hb.1 12 (by omega)
        obtain ⟨m, hm⟩ : ∃ m, Int.tmod v 12 = m := ⟨_, rfl⟩
        rw [hm] at hmb ⊢
        by_cases m0 : m = 0
        · rw [if_pos m0]
          exact row_j2 l acc i _ K2 _ ih (by omega) hlen v m hb _ (fun h => by rw [m0] at h; simp at h)
        · rw [if_neg m0]
          by_cases m1 : m = 1
          · rw [if_pos m1]
            exact row_j2 l acc i _ K2 _ ih (by omega) hlen v m hb _ (fun h => by rw [m1] at h; simp at h)
          · rw [if_neg m1]
            refine row_j2 l acc i _ K2 _ ih (by omega) hlen v m hb _ (fun h => ?_)
            have : m ≠ 2 := by simpa using h
            omega
      · rw [decide_eq_false h120, if_neg (by simp)]
        exact ⟨acc, rfl, hg, by omega⟩
    · rw [if_neg (by omega), frisketlaw11_Row.j1, if_neg (by simp)]
      exact ⟨acc, rfl, hg, by omega⟩
theorem row_f (l : List Int) (hl : l.length ≤ 1000) (K : Nat) (hK : 4 * l.length + 4 ≤ K) : ∃ r, frisketlaw11_Row.f K l = some r ∧ AllG r ∧ r.length ≤ l.length := by
  obtain ⟨r, h1, h2, h3⟩ := row_l l hl l.length 0 [] K (fun x hx => by cases hx) (Nat.le_refl _) (by omega) hK
  exact ⟨r, h1, h2, by simpa using h3⟩
end Go.Proofs.Ytmmfojaeahcohaa

set_option linter.unusedVariables false
set_option linter.unusedSimpArgs false
namespace Go.Proofs.Ytmmfojaeahcohaa
open Go.Shelf Go.RowKit Go.Lib Go.Aids Go.Opens Go.Proofs.YtmmfojaeahcohaaW.PrintWords Go.Proofs.Ytmmfojaeahcohaa.PTabsMade

def exX : S28 := ⟨6, 10, 0, 0, ⟨#[]⟩, ⟨#[]⟩, []⟩
def exY : S28 := ⟨6, 30, 0, 0, ⟨#[]⟩, ⟨#[]⟩, []⟩
def exP : S28 := ⟨5, 0, 0, 0, ⟨#[]⟩, ⟨#[]⟩, []⟩
def exC : List (List S28) := [[exX], [exY]]
def exL : List S68 := [⟨100, 82⟩]
theorem ex_ok : okSet exC [0] exL 0 exP exP = true := by kernel_rfl
theorem ex_out : (stL exC [0] exL 0 exP exP exC.length).1 = [exX, rightS 60, exY] := by kernel_rfl
theorem ex_fine : Fine exC exL 0 := by
  refine ⟨?_, ?_, by decide, by decide, by decide, by decide⟩
  · intro c hc x hx
    simp only [exC, List.mem_cons, List.not_mem_nil, or_false] at hc
    rcases hc with rfl | rfl <;> (rw [List.mem_singleton] at hx; subst hx; decide)
  · intro t ht
    simp only [exL, List.mem_singleton] at ht
    subst ht
    decide
theorem C_heap {α : Type} {d : Kd α} {W : World} {b : Nat} {t : TypeId} {fr : Nat × Nat} {L : List α} {cs : List Value} (hr : Reps (d.K W) d.sz L cs) (hl : L.length ≤ 9223372036854775807) (hh : W.heap[b]? = some (.cells cs.toArray t fr)) : d.C W (some ⟨b, 0, none⟩) L.length L := by
  refine ⟨rfl, hl, fun _ => ⟨_, rfl, fun j p hj => ?_⟩⟩
  have hk := hr.2 j p hj
  refine ⟨_, d.K_len hk, hk, fun i u hi => ?_⟩
  have hil := (List.getElem?_eq_some_iff.1 hi).1
  rw [List.length_take] at hil
  have ead : ∀ q, ((⟨b, 0, none⟩ : Addr).add q) = ⟨b, q, none⟩ := fun q => by
    simp [Addr.add]
    intro h; omega
  rw [ead, Lib.cell_of_heap hh, List.getElem?_toArray]
  rw [List.getElem?_take, if_pos (by omega), List.getElem?_drop] at hi
  exact hi
theorem heap_at (W : World) (o : Obj) (B : Nat) (hB : B = W.heap.size) : (W.alloc o).heap[B]? = some o := by subst hB; exact heap_alloc_new W o
theorem reps_single {α : Type} {R : α → List Value → Prop} {n : Nat} {x : α} {cs : List Value} (h : R x cs) (hl : cs.length = n) : Reps R n [x] cs := by
  have := (Reps.none R n).snoc h hl
  simpa using this
set_option maxRecDepth 100000 in
theorem ex_in (w : World) : SetIn (((((((w.alloc (.cells #[.int .i64 6, .int .i64 10, .int .i64 0, .int .i64 0, .string ⟨#[]⟩, .string ⟨#[]⟩, .slice none 0 0] 28)).alloc (.cells #[.int .i64 6, .int .i64 30, .int .i64 0, .int .i64 0, .string ⟨#[]⟩, .string ⟨#[]⟩, .slice none 0 0] 28)).alloc (.cells #[.int .i64 6, .int .i64 10, .int .i64 0, .int .i64 0, .string ⟨#[]⟩, .string ⟨#[]⟩, .slice none 0 0] 28)).alloc (.cells #[.int .i64 6, .int .i64 30, .int .i64 0, .int .i64 0, .string ⟨#[]⟩, .string ⟨#[]⟩, .slice none 0 0] 28)).alloc (.cells #[.slice (some ⟨w.heap.size + 1 + 1, 0, none⟩) 1 1, .slice (some ⟨w.heap.size + 1 + 1 + 1, 0, none⟩) 1 1] 31)).alloc (.cells #[.int .i64 0] 3)).alloc (.cells #[.int .i64 100, .int .u8 82] 68)) exC [0] exL 0 exP exP (some ⟨w.heap.size + 1 + 1 + 1 + 1, 0, none⟩) (some ⟨w.heap.size + 1 + 1 + 1 + 1 + 1, 0, none⟩) (some ⟨w.heap.size + 1 + 1 + 1 + 1 + 1 + 1, 0, none⟩) none none 2 1 1 0 0 := by
  obtain ⟨W, hW⟩ : ∃ W, (((((((w.alloc (.cells #[.int .i64 6, .int .i64 10, .int .i64 0, .int .i64 0, .string ⟨#[]⟩, .string ⟨#[]⟩, .slice none 0 0] 28)).alloc (.cells #[.int .i64 6, .int .i64 30, .int .i64 0, .int .i64 0, .string ⟨#[]⟩, .string ⟨#[]⟩, .slice none 0 0] 28)).alloc (.cells #[.int .i64 6, .int .i64 10, .int .i64 0, .int .i64 0, .string ⟨#[]⟩, .string ⟨#[]⟩, .slice none 0 0] 28)).alloc (.cells #[.int .i64 6, .int .i64 30, .int .i64 0, .int .i64 0, .string ⟨#[]⟩, .string ⟨#[]⟩, .slice none 0 0] 28)).alloc (.cells #[.slice (some ⟨w.heap.size + 1 + 1, 0, none⟩) 1 1, .slice (some ⟨w.heap.size + 1 + 1 + 1, 0, none⟩) 1 1] 31)).alloc (.cells #[.int .i64 0] 3)).alloc (.cells #[.int .i64 100, .int .u8 82] 68)) = W := ⟨_, rfl⟩
  have hz : kI.C W none 0 [] := ⟨rfl, by decide, fun h => absurd h (Nat.lt_irrefl 0)⟩
  have h2 : W.heap[w.heap.size + 1 + 1]? = some (.cells #[.int .i64 6, .int .i64 10, .int .i64 0, .int .i64 0, .string ⟨#[]⟩, .string ⟨#[]⟩, .slice none 0 0] 28 (0, 0)) := by
    rw [← hW, Lib.alloc_old _ _ _ (by first | (simp; done) | (simp; omega)), Lib.alloc_old _ _ _ (by first | (simp; done) | (simp; omega)), Lib.alloc_old _ _ _ (by first | (simp; done) | (simp; omega)), Lib.alloc_old _ _ _ (by simp), heap_at _ _ _ (by simp)]
  have h3 : W.heap[w.heap.size + 1 + 1 + 1]? = some (.cells #[.int .i64 6, .int .i64 30, .int .i64 0, .int .i64 0, .string ⟨#[]⟩, .string ⟨#[]⟩, .slice none 0 0] 28 (0, 0)) := by
    rw [← hW, Lib.alloc_old _ _ _ (by first | (simp; done) | (simp; omega)), Lib.alloc_old _ _ _ (by first | (simp; done) | (simp; omega)), Lib.alloc_old _ _ _ (by simp), heap_at _ _ _ (by simp)]
  have h4 : W.heap[w.heap.size + 1 + 1 + 1 + 1]? = some (.cells #[.slice (some ⟨w.heap.size + 1 + 1, 0, none⟩) 1 1, .slice (some ⟨w.heap.size + 1 + 1 + 1, 0, none⟩) 1 1] 31 (0, 0)) := by
    rw [← hW, Lib.alloc_old _ _ _ (by first | (simp; done) | (simp; omega)), Lib.alloc_old _ _ _ (by simp), heap_at _ _ _ (by simp)]
  have h5 : W.heap[w.heap.size + 1 + 1 + 1 + 1 + 1]? = some (.cells #[.int .i64 0] 3 (0, 0)) := by
    rw [← hW, Lib.alloc_old _ _ _ (by simp), heap_at _ _ _ (by simp)]
  have h6 : W.heap[w.heap.size + 1 + 1 + 1 + 1 + 1 + 1]? = some (.cells #[.int .i64 100, .int .u8 82] 68 (0, 0)) := by
    rw [← hW, heap_at _ _ _ (by simp)]
  rw [hW]
  clear hW
  have cx : Kd.C k28 W (some ⟨w.heap.size + 1 + 1, 0, none⟩) [exX].length [exX] := C_heap (reps_single (box_K W exX none 0 (Nat.le_refl _) hz) rfl) (by decide) h2
  have cy : Kd.C k28 W (some ⟨w.heap.size + 1 + 1 + 1, 0, none⟩) [exY].length [exY] := C_heap (reps_single (box_K W exY none 0 (Nat.le_refl _) hz) rfl) (by decide) h3
  refine ⟨?_, by decide, ?_, ?_, by decide, ?_, by decide, ?_, hz, by decide, hz, by decide⟩
  · refine C_heap (cs := [.slice (some ⟨w.heap.size + 1 + 1, 0, none⟩) 1 1, .slice (some ⟨w.heap.size + 1 + 1 + 1, 0, none⟩) 1 1]) ?_ (by decide) h4
    have k1 : (Kd.slice 28 k28).K W [exX] [.slice (some ⟨w.heap.size + 1 + 1, 0, none⟩) 1 1] := ⟨_, 1, rfl, Nat.le_refl _, cx⟩
    have k2 : (Kd.slice 28 k28).K W [exY] [.slice (some ⟨w.heap.size + 1 + 1 + 1, 0, none⟩) 1 1] := ⟨_, 1, rfl, Nat.le_refl _, cy⟩
    exact (reps_single k1 rfl).snoc k2 rfl
  · intro y hy x hx
    simp only [exC, List.mem_cons, List.not_mem_nil, or_false] at hy
    rcases hy with rfl | rfl <;> (rw [List.mem_singleton] at hx; subst hx; decide)
  · exact C_heap (reps_single (R := kI.K W) (x := (0 : Int)) (cs := [.int .i64 0]) rfl rfl) (by decide) h5
  · exact C_heap (reps_single (k68_mk W ⟨100, 82⟩) rfl) (by decide) h6
  · intro x hx
    simp only [exL, List.mem_singleton] at hx
    subst hx
    decide
set_option maxRecDepth 100000 in
set_option maxHeartbeats 4000000 in
theorem sane_calls (w : World) : Calls Try.prog 8 #[] w fun e w' => e = .returned (.bool true) ∧ Below w.heap.size w w' := by
  have hs := set_ok _ exC [0] exL 0 exP exP _ _ _ none none 2 1 1 0 0 (ex_in w) ex_ok ex_fine
  rw [ex_out] at hs
  have HS := Lib.hid hs
  clear hs
  go_enter Try.func8, Try.ntmps8
  go_wp2_with fail
  refine HS.out.mono ?_
  rintro e w2 ⟨A, n, rfl, hn, hC, hb⟩
  have HBn := Lib.hid hb
  obtain ⟨b, off, rfl, hbl, hcell⟩ := boxes_at (l := [exX, rightS 60, exY]) hC (by decide)
  obtain ⟨A6, c6, c0, c1, _⟩ := hcell 1 (by decide)
  have d0 : w2.cell? ⟨b, off + 7, none⟩ = some (.int .i64 2) := c0
  have d1 : w2.cell? ⟨b, off + 7 + 1, none⟩ = some (.int .i64 60) := c1
  clear hcell c0 c1 hC hb hn
  go_wp2_with fail
  go_ret
  exact ⟨rfl, (((((((((Below.refl _ w).alloc (Nat.le_refl _) _).alloc (by simp) _).alloc (by simp; omega) _).alloc (by simp; omega) _).alloc (by simp; omega) _).alloc (by simp; omega) _).alloc (by simp; omega) _).trans (HBn.out.mono (by simp; omega)))⟩
end Go.Proofs.Ytmmfojaeahcohaa

set_option linter.unusedVariables false
set_option linter.unusedSimpArgs false
namespace Go.Proofs.Ytmmfojaeahcohaa
open Go.Shelf Go.RowKit Go.Lib Go.Aids Go.Opens Go.Proofs.YtmmfojaeahcohaaW.PrintWords Go.Proofs.Ytmmfojaeahcohaa.PTabsMade

set_option maxRecDepth 100000 in
set_option maxHeartbeats 4000000 in
theorem sbox_calls (x : S28) (A B : Option Addr) (c d : Nat) (hl : x.f6.length ≤ 40) (w : World) (hA : kI.C w A x.f6.length x.f6) (hB : kI.C w B x.f6.length x.f6) :
    Calls Try.prog 45 #[boxV x.f0 x.f1 x.f2 x.f3 x.f4 x.f5 A x.f6.length c, boxV x.f0 x.f1 x.f2 x.f3 x.f4 x.f5 B x.f6.length d] w fun e w' => e = .returned (.bool true) ∧ Below w.heap.size w w' := by
  have HX := Lib.hid (BoxAt.new w w.heap.size rfl x A c)
  obtain ⟨k, w0, f, s, nm, cl, l⟩ := x
  simp only at hl hA hB HX ⊢
  have HA := Lib.hid hA
  have HB := Lib.hid hB
  have HL := Lib.hid hl
  clear hA hB hl
  have hb1 := (Below.refl w.heap.size w).alloc (Nat.le_refl _) (.cells #[.int .i64 k, .int .i64 w0, .int .i64 f, .int .i64 s, .string nm, .string cl, .slice A l.length c] 28)
  obtain ⟨W0, hW0⟩ : ∃ W, w.alloc (.cells #[.int .i64 k, .int .i64 w0, .int .i64 f, .int .i64 s, .string nm, .string cl, .slice A l.length c] 28) = W := ⟨_, rfl⟩
  have hz0 : W0.heap.size = w.heap.size + 1 := by rw [← hW0]; simp
  rw [hW0] at hb1
  have HX0 := Lib.hid (show BoxAt W0 w.heap.size ⟨k, w0, f, s, nm, cl, l⟩ A c by rw [← hW0]; exact HX.out)
  have HY := Lib.hid (BoxAt.new W0 (w.heap.size + 1) hz0.symm ⟨k, w0, f, s, nm, cl, l⟩ B d)
  have hb2 := (Below.refl W0.heap.size W0).alloc (Nat.le_refl _) (.cells #[.int .i64 k, .int .i64 w0, .int .i64 f, .int .i64 s, .string nm, .string cl, .slice B l.length d] 28)
  have HX1 := Lib.hid (HX0.out.below hb2 (by omega))
  have HB1 := Lib.hid (hb1.trans (hb2.mono (by omega)))
  have HZ1 := Lib.hid (show w.heap.size + 1 < (W0.alloc (.cells #[.int .i64 k, .int .i64 w0, .int .i64 f, .int .i64 s, .string nm, .string cl, .slice B l.length d] 28)).heap.size by simp; omega)
  clear hb1 hb2
  go_enter Try.func45, Try.ntmps45
  go_upto_region 1 with fail
  obtain ⟨W1, hW1⟩ : ∃ W, W0.alloc (.cells #[.int .i64 k, .int .i64 w0, .int .i64 f, .int .i64 s, .string nm, .string cl, .slice B l.length d] 28) = W := ⟨_, rfl⟩
  simp only [hW0, hW1] at HX1 HB1 HY HZ1 ⊢
  clear hW0 hW1 hz0
  obtain ⟨g, hg⟩ : ∃ g, w.heap.size = g := ⟨_, rfl⟩
  have HGG := Lib.hid hg
  simp only [hg] at HX1 HB1 HY HZ1 ⊢
  clear hg
  obtain ⟨c0, c1, c2, c3, c4, c5, c6⟩ := HX1.out
  obtain ⟨d0, d1, d2, d3, d4, d5, d6⟩ := HY.out
  go_upto_region 4 with fail
  clear c0 c1 c2 c3 c4 c5 c6 d0 d1 d2 d3 d4 d5 d6
  go_loopg [5] l.length (fun gk s5 wx => ∃ i : Nat, i + gk = l.length ∧ s5 = .int .i64 i ∧ Hid (Below W1.heap.size W1 wx))
  case atStart => exact ⟨0, by omega, rfl, Lib.hid (Below.refl _ _)⟩
  case round =>
    obtain ⟨i, hi, rfl, HBX⟩ := hrel
    have HAll := Lib.hid (HB1.out.trans (HBX.out.mono (by have := HZ1.out; omega)))
    obtain ⟨c0, c1, c2, c3, c4, c5, c6⟩ := HX1.out.below HBX.out (by have := HZ1.out; omega)
    obtain ⟨d0, d1, d2, d3, d4, d5, d6⟩ := HY.out.below HBX.out HZ1.out
    by_cases hlt : i < l.length
    · obtain ⟨g', rfl⟩ : ∃ g', gk = g' + 1 := ⟨gk - 1, by omega⟩
      have i0 : (i : Int) < l.length := by omega
      have hbw : Below w.heap.size w wr := by rw [HGG.out]; exact HAll.out
      obtain ⟨ba, oa, rfl, hla, hca⟩ := ints_at (Kd.C_below HA.out hbw) (by omega)
      obtain ⟨bb, ob, rfl, hlb, hcb⟩ := ints_at (Kd.C_below HB.out hbw) (by omega)
      have a0 := hca i hlt
      have b0 := hcb i hlt
      have HW := Lib.hid (show wrap64 ((i : Int) + 1) = ((i + 1 : Nat) : Int) by have := HL.out; unfold wrap64; omega)
      clear hca hcb hbw hla hlb
      go_upto_region 6 with fail
      go_quiet (fail)
      go_wp2_with fail
      go_roundg g'
      case measure => omega
      case rel => exact ⟨i + 1, by omega, congrArg (Value.int .i64) HW.out, Lib.hid (HBX.out.trans ⟨rfl, rfl, rfl, Nat.le_refl _, fun _ _ => rfl⟩)⟩
    · have i0 : ¬ (i : Int) < l.length := by omega
      go_wp2_with fail
      go_ret
      exact ⟨rfl, by rw [HGG.out]; exact HAll.out⟩
set_option maxRecDepth 100000 in
set_option maxHeartbeats 4000000 in
theorem same_calls (A B : Option Addr) (c d : Nat) (l : List S28) (hl : l.length ≤ 9223372036854775807) (hn : ∀ x ∈ l, x.f6.length ≤ 40) (w : World) (hA : Kd.C k28 w A l.length l) (hc : l.length ≤ c) (hB : Kd.C k28 w B l.length l) (hd : l.length ≤ d) :
    Calls Try.prog 12 #[.slice A l.length c, .slice B l.length d] w fun e w' => e = .returned (.bool true) ∧ Below w.heap.size w w' := by
  have HA := Lib.hid hA
  have HB := Lib.hid hB
  have HL := Lib.hid hl
  have HN := Lib.hid hn
  clear hA hB hl hn hc hd
  go_enter Try.func12, Try.ntmps12
  go_upto_region 4 with fail
  go_loopg [5] l.length (fun gk s5 wx => ∃ i : Nat, i + gk = l.length ∧ s5 = .int .i64 i ∧ Hid (Below w.heap.size w wx))
  case atStart => exact ⟨0, by omega, rfl, Lib.hid (Below.refl _ _)⟩
  case round =>
    obtain ⟨i, hi, rfl, HBX⟩ := hrel
    by_cases hlt : i < l.length
    · obtain ⟨g', rfl⟩ : ∃ g', gk = g' + 1 := ⟨gk - 1, by omega⟩
      have i0 : (i : Int) < l.length := by omega
      obtain ⟨ba, oa, rfl, hla, hca⟩ := boxes_at (Kd.C_below HA.out HBX.out) (by omega)
      obtain ⟨bb, ob, rfl, hlb, hcb⟩ := boxes_at (Kd.C_below HB.out HBX.out) (by omega)
      obtain ⟨A7, c7, x0, x1, x2, x3, x4, x5, x6, x7, x8⟩ := hca i hlt
      obtain ⟨B7, d7, y0, y1, y2, y3, y4, y5, y6, y7, y8⟩ := hcb i hlt
      have h40 := HN.out _ (List.getElem_mem hlt)
      have HW := Lib.hid (show wrap64 ((i : Int) + 1) = ((i + 1 : Nat) : Int) by have := HL.out; unfold wrap64; omega)
      obtain ⟨y, hy⟩ : ∃ y, l[i] = y := ⟨_, rfl⟩
      rw [hy] at x0 x1 x2 x3 x4 x5 x6 x7 x8 y0 y1 y2 y3 y4 y5 y6 y7 y8 h40
      have HS := Lib.hid (fun W (hb : Below wr.heap.size wr W) => sbox_calls y A7 B7 c7 d7 h40 W (Kd.C_below x8 hb) (Kd.C_below y8 hb))
      clear hca hcb hla hlb x7 x8 y7 y8 hy h40
      go_upto_region 6 with fail
      have hN0 : Below wr.heap.size wr wr.drew := (Below.refl _ _).drew
      go_region_with (go_at_call 45; refine (HS.out _ hN0).mono ?_; rintro e w9 ⟨rfl, hb9⟩)
      all_goals
        have HB9 := Lib.hid (HBX.out.trans ((hN0.trans (hb9.mono hN0.size)).mono HBX.out.size))
        go_wp2_with fail
        go_roundg g'
        case measure => omega
        case rel => exact ⟨i + 1, by omega, congrArg (Value.int .i64) HW.out, HB9⟩
    · have i0 : ¬ (i : Int) < l.length := by omega
      go_wp2_with fail
      go_ret
      exact ⟨rfl, HBX.out⟩
end Go.Proofs.Ytmmfojaeahcohaa

set_option linter.unusedVariables false
set_option linter.unusedSimpArgs false
namespace Go.Proofs.Ytmmfojaeahcohaa
open Go.Shelf Go.RowKit Go.Lib Go.Aids Go.Opens Go.Proofs.YtmmfojaeahcohaaW.PrintWords Go.Proofs.Ytmmfojaeahcohaa.PTabsMade

theorem as_calls (A : Option Addr) (c : Nat) (L : List S68) (ev : Int) (hL : L.length ≤ 8000000000000) (w : World) (hC : Kd.C k68 w A L.length L) (hc : L.length ≤ c) :
    Calls Try.prog 11 #[.agg #[.slice A L.length c, .int .i64 ev]] w fun e w' => ∃ B d, e = .returned (.agg #[.slice B (L.map cv).length d, .int .i64 ev]) ∧ (L.map cv).length ≤ d ∧ Kd.C k84 w' B (L.map cv).length (L.map cv) ∧ Below w.heap.size w w' := by
  refine (frisketlaw12_As.calls _ A c L ev _ _ w hC hc (rAs_f L ev hL)).mono ?_
  rintro e w' ⟨v, rfl, hR, hb⟩
  obtain ⟨B, d, rfl, hd, hC'⟩ := Kd.R_reads hR
  exact ⟨B, d, rfl, hd, hC', hb⟩
theorem wadd1 (z : Nat) (hz : z ≤ 10000000000000) : wrap64 ((z : Int) + 1) = ((z + 1 : Nat) : Int) := by rw [wrapI _ (by omega) (by omega)]; rfl
theorem wadd2 (q z : Nat) (hq : q < 200) (hz : z ≤ 10000000000000) : wrap64 ((q : Int) + ((z + 1 : Nat) : Int)) = ((q + z + 1 : Nat) : Int) := by
  have h1 : (-9223372036854775808 : Int) ≤ (q : Int) + ((z + 1 : Nat) : Int) := by omega
  have h2 : (q : Int) + ((z + 1 : Nat) : Int) ≤ 9223372036854775807 := by omega
  rw [wrapI _ h1 h2]
  exact (Int.natCast_add q (z + 1)).symm
def resE (C : List (List S28)) (M : List Int) (L : List S68) (ev : Int) (t l : S28) : Int := if okSet C M L ev t l then 0 else 1
def resR (C : List (List S28)) (M : List Int) (L : List S68) (ev : Int) (t l : S28) : List S28 := if okSet C M L ev t l then (stL C M L ev t l C.length).1 else []
theorem fine_of {C : List (List S28)} {M : List Int} {L : List S68} {ev : Int} {t l : S28} (h : okSet C M L ev t l = true) (hn : C.length ≤ 200) (hs : sumL C C.length ≤ 200) : Fine C L ev := by
  obtain ⟨h1, _, _, _, _, h6⟩ := ok_parts h
  unfold tvalidB at h1
  simp only [Bool.and_eq_true, decide_eq_true_eq] at h1
  refine ⟨fun c hc x hx => ?_, okStops_stp L (-1) (by omega) h1.1, h1.2.2.1, h1.2.2.2, hn, hs⟩
  have h7 := h6 c hc x hx
  unfold validS validB at h7
  split at h7
  · cases h7
  · next h8 => omega
theorem resR_few {C : List (List S28)} {M : List Int} {L : List S68} {ev : Int} {t l : S28} : Few (resR C M L ev t l) := by
  unfold resR
  split
  · next h =>
    obtain ⟨_, h2, h3, _, _, h6⟩ := ok_parts h
    exact stL_few (fun c hc x hx => validS_n x (h6 c hc x hx)) (fillB_n t h2) (fillB_n l h3) _
  · exact fun x hx => by cases hx
theorem set_both (w : World) (C : List (List S28)) (M : List Int) (L : List S68) (ev : Int) (t l : S28) (Ac Am As At Al : Option Addr) (cc cm cs ct cl : Nat) (h : SetIn w C M L ev t l Ac Am As At Al cc cm cs ct cl) (hn : C.length ≤ 200) (hs : sumL C C.length ≤ 200) :
    Calls Try.prog 9 #[.slice Ac C.length cc, .slice Am M.length cm, .agg #[.slice As L.length cs, .int .i64 ev], boxV t.f0 t.f1 t.f2 t.f3 t.f4 t.f5 At t.f6.length ct, boxV l.f0 l.f1 l.f2 l.f3 l.f4 l.f5 Al l.f6.length cl] w fun e w' => ∃ A n, e = .returned (.tuple #[.slice A (resR C M L ev t l).length n, .int .i64 (resE C M L ev t l)]) ∧ (resR C M L ev t l).length ≤ n ∧ Kd.C k28 w' A (resR C M L ev t l).length (resR C M L ev t l) ∧ Below w.heap.size w w' := by
  unfold resR resE
  cases hok : okSet C M L ev t l with
  | true =>
    rw [if_pos rfl, if_pos rfl]
    exact set_ok w C M L ev t l Ac Am As At Al cc cm cs ct cl h hok (fine_of hok hn hs)
  | false =>
    rw [if_neg (by simp), if_neg (by simp)]
    refine (set_refuse w C M L ev t l Ac Am As At Al cc cm cs ct cl h hok).mono ?_
    rintro e w' ⟨rfl, hb⟩
    exact ⟨none, 0, rfl, Nat.le_refl _, ⟨rfl, by simp, fun h => absurd h (by simp)⟩, hb⟩
theorem rset_both (w : World) (C : List (List S28)) (M : List Int) (L : List S68) (ev : Int) (t l : S28) (Ac Am As At Al : Option Addr) (cc cm cs ct cl : Nat) (h : RIn w C M L t l Ac Am As At Al cc cm cs ct cl) (hn : C.length ≤ 200) (hs : sumL C C.length ≤ 200) :
    Calls Try.prog 10 #[.slice Ac C.length cc, .slice Am M.length cm, .agg #[.slice As (L.map cv).length cs, .int .i64 ev], boxV t.f0 t.f1 t.f2 t.f3 t.f4 t.f5 At t.f6.length ct, boxV l.f0 l.f1 l.f2 l.f3 l.f4 l.f5 Al l.f6.length cl] w fun e w' => ∃ A n, e = .returned (.tuple #[.slice A (resR C M L ev t l).length n, .int .i64 (resE C M L ev t l)]) ∧ (resR C M L ev t l).length ≤ n ∧ Kd.C k28 w' A (resR C M L ev t l).length (resR C M L ev t l) ∧ Below w.heap.size w w' := by
  refine (rset_calls w C M L ev t l Ac Am As At Al cc cm cs ct cl h (fun hok => fine_of hok hn hs)).mono ?_
  rintro e w' ⟨v, rfl, hR, hb⟩
  obtain ⟨A, n, rfl, hln, hC⟩ := Kd.R_reads hR
  exact ⟨A, n, rfl, hln, kX_C hC, hb⟩
theorem as2_calls (A : Option Addr) (c : Nat) (L : List S68) (ev : Int) (hL : L.length ≤ 8000000000000) (w : World) (hC : Kd.C k68 w A L.length L) (hc : L.length ≤ c) :
    Calls Try.prog 11 #[.agg #[.slice A L.length c, .int .i64 ev]] w fun e w' => ∃ B d, e = .returned (.agg #[.slice B L.length d, .int .i64 ev]) ∧ L.length ≤ d ∧ Kd.C k84 w' B L.length (L.map cv) ∧ Below w.heap.size w w' := by
  have h := as_calls A c L ev hL w hC hc
  simp only [List.length_map] at h
  exact h
theorem rset2_calls (w : World) (C : List (List S28)) (M : List Int) (L : List S68) (ev : Int) (t l : S28) (Ac Am As At Al B : Option Addr) (cc cm cs ct cl d : Nat) (h : SetIn w C M L ev t l Ac Am As At Al cc cm cs ct cl) (hd : L.length ≤ d) (hB : Kd.C k84 w B L.length (L.map cv)) (hz : (∀ y ∈ C, ∀ x ∈ y, Sm x) ∧ Sm t ∧ Sm l) (hl : L.length ≤ 1000) (hn : C.length ≤ 200) (hs : sumL C C.length ≤ 200) :
    Calls Try.prog 10 #[.slice Ac C.length cc, .slice Am M.length cm, .agg #[.slice B L.length d, .int .i64 ev], boxV t.f0 t.f1 t.f2 t.f3 t.f4 t.f5 At t.f6.length ct, boxV l.f0 l.f1 l.f2 l.f3 l.f4 l.f5 Al l.f6.length cl] w fun e w' => ∃ A n, e = .returned (.tuple #[.slice A (resR C M L ev t l).length n, .int .i64 (resE C M L ev t l)]) ∧ (resR C M L ev t l).length ≤ n ∧ Kd.C k28 w' A (resR C M L ev t l).length (resR C M L ev t l) ∧ Below w.heap.size w w' := by
  have e : (L.map cv).length = L.length := List.length_map ..
  have g := rset_both w C M L ev t l Ac Am B At Al cc cm d ct cl ⟨h.c, h.cn, h.m, h.mn, by rw [e]; exact hB, by rw [e]; exact hd, hl, h.tk, h.tn, h.lk, h.ln, hz.1, hz.2.1, hz.2.2⟩ hn hs
  rw [e] at g
  exact g
theorem at2 (W : World) (X Y : Obj) (cs : Array Value) (t : Nat) (j : Nat) (v : Value) (h : cs[j]? = some v) : (((W.alloc X).alloc Y).alloc (.cells cs t (0, 0))).drew.cell? ⟨W.heap.size + 1 + 1, j, none⟩ = some v := by
  show (((W.alloc X).alloc Y).alloc (.cells cs t (0, 0))).cell? _ = _
  rw [World.cell?_alloc_at _ _ _ _ (by simp)]
  exact h
theorem at1 (W : World) (X Z : Obj) (cs : Array Value) (t : Nat) (j : Nat) (v : Value) (h : cs[j]? = some v) : (((W.alloc X).alloc (.cells cs t (0, 0))).alloc Z).drew.cell? ⟨W.heap.size + 1, j, none⟩ = some v := by
  show (((W.alloc X).alloc (.cells cs t (0, 0))).alloc Z).cell? _ = _
  have hb := (Below.refl ((W.alloc X).alloc (.cells cs t (0, 0))).heap.size ((W.alloc X).alloc (.cells cs t (0, 0)))).alloc (Nat.le_refl _) Z
  rw [hb.cell (p := ⟨W.heap.size + 1, j, none⟩) (by simp), World.cell?_alloc_at _ _ _ _ (by simp)]
  exact h
theorem at0 (W : World) (Y Z : Obj) (cs : Array Value) (t : Nat) (j : Nat) (v : Value) (h : cs[j]? = some v) : (((W.alloc (.cells cs t (0, 0))).alloc Y).alloc Z).drew.cell? ⟨W.heap.size, j, none⟩ = some v := by
  show (((W.alloc (.cells cs t (0, 0))).alloc Y).alloc Z).cell? _ = _
  have hb := ((Below.refl (W.alloc (.cells cs t (0, 0))).heap.size (W.alloc (.cells cs t (0, 0)))).alloc (Nat.le_refl _) Y).alloc (by simp) Z
  rw [hb.cell (p := ⟨W.heap.size, j, none⟩) (by simp), World.cell?_alloc_at _ _ _ _ rfl]
  exact h
/-- What lies in the law's own cells. -/
structure L3 (w W : World) (g g5 g6 g7 : Nat) (As : Option Addr) (n cs : Nat) (ev : Int) (t l : S28) (At Al : Option Addr) (ct cl : Nat) : Prop where
  below : Below g w W
  s0 : W.cell? ⟨g5, 0, none⟩ = some (.slice As n cs)
  s1 : W.cell? ⟨g5, 1, none⟩ = some (.int .i64 ev)
  bt : BoxAt W g6 t At ct
  bl : BoxAt W g7 l Al cl
  l5 : g5 < W.heap.size
  l6 : g6 < W.heap.size
  l7 : g7 < W.heap.size
  lg : g ≤ W.heap.size
theorem L3.step {w W W1 : World} {g g5 g6 g7 : Nat} {As : Option Addr} {n cs : Nat} {ev : Int} {t l : S28} {At Al : Option Addr} {ct cl : Nat} (h : L3 w W g g5 g6 g7 As n cs ev t l At Al ct cl) (hb : Below W.heap.size W W1) : L3 w W1 g g5 g6 g7 As n cs ev t l At Al ct cl :=
  ⟨h.below.trans (hb.mono h.lg), (hb.cell (p := ⟨g5, 0, none⟩) h.l5).trans h.s0, (hb.cell (p := ⟨g5, 1, none⟩) h.l5).trans h.s1, h.bt.below hb h.l6, h.bl.below hb h.l7, Nat.lt_of_lt_of_le h.l5 hb.size, Nat.lt_of_lt_of_le h.l6 hb.size, Nat.lt_of_lt_of_le h.l7 hb.size, Nat.le_trans h.lg hb.size⟩
set_option maxRecDepth 100000 in
set_option maxHeartbeats 4000000 in
theorem law3_calls (w : World) (C : List (List S28)) (M : List Int) (L : List S68) (ev : Int) (t l : S28) (Ac Am As At Al : Option Addr) (cc cm cs ct cl : Nat) (h : SetIn w C M L ev t l Ac Am As At Al cc cm cs ct cl) (hz : (∀ y ∈ C, ∀ x ∈ y, Sm x) ∧ Sm t ∧ Sm l) (hbd : C.length ≤ 10000000000000 ∧ M.length ≤ 100000000000000 ∧ L.length ≤ 100000000000000 ∧ ∀ y ∈ C, y.length ≤ 10000000000000) :
    Calls Try.prog 3 #[.agg #[.slice Ac C.length cc, .slice Am M.length cm, .slice As L.length cs, .int .i64 ev, .int .i64 t.f0, .int .i64 t.f1, .int .i64 t.f2, .int .i64 t.f3, .string t.f4, .string t.f5, .slice At t.f6.length ct, .int .i64 l.f0, .int .i64 l.f1, .int .i64 l.f2, .int .i64 l.f3, .string l.f4, .string l.f5, .slice Al l.f6.length cl]] w fun e w' => e = .returned (.bool true) ∧ Below w.heap.size w w' := by
  have HI := Lib.hid h
  have HZ := Lib.hid hz
  have HBD := Lib.hid hbd
  clear h hz hbd
  go_enter Try.func3, Try.ntmps3
  go_upto_region 1 with fail
  obtain ⟨g, hg⟩ : ∃ g, w.heap.size = g := ⟨_, rfl⟩
  have HGG := Lib.hid hg
  have HB1 := Lib.hid ((Below.refl w.heap.size w).alloc (Nat.le_refl _) (.cells #[.slice Ac C.length cc, .slice Am M.length cm, .slice As L.length cs, .int .i64 ev, .int .i64 t.f0, .int .i64 t.f1, .int .i64 t.f2, .int .i64 t.f3, .string t.f4, .string t.f5, .slice At t.f6.length ct, .int .i64 l.f0, .int .i64 l.f1, .int .i64 l.f2, .int .i64 l.f3, .string l.f4, .string l.f5, .slice Al l.f6.length cl] 30))
  have HS1 := Lib.hid (show (w.alloc (.cells #[.slice Ac C.length cc, .slice Am M.length cm, .slice As L.length cs, .int .i64 ev, .int .i64 t.f0, .int .i64 t.f1, .int .i64 t.f2, .int .i64 t.f3, .string t.f4, .string t.f5, .slice At t.f6.length ct, .int .i64 l.f0, .int .i64 l.f1, .int .i64 l.f2, .int .i64 l.f3, .string l.f4, .string l.f5, .slice Al l.f6.length cl] 30)).cell? ⟨g, 0, none⟩ = some (.slice Ac C.length cc) ∧ (w.alloc (.cells #[.slice Ac C.length cc, .slice Am M.length cm, .slice As L.length cs, .int .i64 ev, .int .i64 t.f0, .int .i64 t.f1, .int .i64 t.f2, .int .i64 t.f3, .string t.f4, .string t.f5, .slice At t.f6.length ct, .int .i64 l.f0, .int .i64 l.f1, .int .i64 l.f2, .int .i64 l.f3, .string l.f4, .string l.f5, .slice Al l.f6.length cl] 30)).cell? ⟨g, 1, none⟩ = some (.slice Am M.length cm) ∧ (w.alloc (.cells #[.slice Ac C.length cc, .slice Am M.length cm, .slice As L.length cs, .int .i64 ev, .int .i64 t.f0, .int .i64 t.f1, .int .i64 t.f2, .int .i64 t.f3, .string t.f4, .string t.f5, .slice At t.f6.length ct, .int .i64 l.f0, .int .i64 l.f1, .int .i64 l.f2, .int .i64 l.f3, .string l.f4, .string l.f5, .slice Al l.f6.length cl] 30)).cell? ⟨g, 2, none⟩ = some (.slice As L.length cs) ∧ (w.alloc (.cells #[.slice Ac C.length cc, .slice Am M.length cm, .slice As L.length cs, .int .i64 ev, .int .i64 t.f0, .int .i64 t.f1, .int .i64 t.f2, .int .i64 t.f3, .string t.f4, .string t.f5, .slice At t.f6.length ct, .int .i64 l.f0, .int .i64 l.f1, .int .i64 l.f2, .int .i64 l.f3, .string l.f4, .string l.f5, .slice Al l.f6.length cl] 30)).cell? ⟨g, 3, none⟩ = some (.int .i64 ev) ∧ (w.alloc (.cells #[.slice Ac C.length cc, .slice Am M.length cm, .slice As L.length cs, .int .i64 ev, .int .i64 t.f0, .int .i64 t.f1, .int .i64 t.f2, .int .i64 t.f3, .string t.f4, .string t.f5, .slice At t.f6.length ct, .int .i64 l.f0, .int .i64 l.f1, .int .i64 l.f2, .int .i64 l.f3, .string l.f4, .string l.f5, .slice Al l.f6.length cl] 30)).cell? ⟨g, 4, none⟩ = some (.int .i64 t.f0) ∧ (w.alloc (.cells #[.slice Ac C.length cc, .slice Am M.length cm, .slice As L.length cs, .int .i64 ev, .int .i64 t.f0, .int .i64 t.f1, .int .i64 t.f2, .int .i64 t.f3, .string t.f4, .string t.f5, .slice At t.f6.length ct, .int .i64 l.f0, .int .i64 l.f1, .int .i64 l.f2, .int .i64 l.f3, .string l.f4, .string l.f5, .slice Al l.f6.length cl] 30)).cell? ⟨g, 5, none⟩ = some (.int .i64 t.f1) ∧ (w.alloc (.cells #[.slice Ac C.length cc, .slice Am M.length cm, .slice As L.length cs, .int .i64 ev, .int .i64 t.f0, .int .i64 t.f1, .int .i64 t.f2, .int .i64 t.f3, .string t.f4, .string t.f5, .slice At t.f6.length ct, .int .i64 l.f0, .int .i64 l.f1, .int .i64 l.f2, .int .i64 l.f3, .string l.f4, .string l.f5, .slice Al l.f6.length cl] 30)).cell? ⟨g, 6, none⟩ = some (.int .i64 t.f2) ∧ (w.alloc (.cells #[.slice Ac C.length cc, .slice Am M.length cm, .slice As L.length cs, .int .i64 ev, .int .i64 t.f0, .int .i64 t.f1, .int .i64 t.f2, .int .i64 t.f3, .string t.f4, .string t.f5, .slice At t.f6.length ct, .int .i64 l.f0, .int .i64 l.f1, .int .i64 l.f2, .int .i64 l.f3, .string l.f4, .string l.f5, .slice Al l.f6.length cl] 30)).cell? ⟨g, 7, none⟩ = some (.int .i64 t.f3) ∧ (w.alloc (.cells #[.slice Ac C.length cc, .slice Am M.length cm, .slice As L.length cs, .int .i64 ev, .int .i64 t.f0, .int .i64 t.f1, .int .i64 t.f2, .int .i64 t.f3, .string t.f4, .string t.f5, .slice At t.f6.length ct, .int .i64 l.f0, .int .i64 l.f1, .int .i64 l.f2, .int .i64 l.f3, .string l.f4, .string l.f5, .slice Al l.f6.length cl] 30)).cell? ⟨g, 8, none⟩ = some (.string t.f4) ∧ (w.alloc (.cells #[.slice Ac C.length cc, .slice Am M.length cm, .slice As L.length cs, .int .i64 ev, .int .i64 t.f0, .int .i64 t.f1, .int .i64 t.f2, .int .i64 t.f3, .string t.f4, .string t.f5, .slice At t.f6.length ct, .int .i64 l.f0, .int .i64 l.f1, .int .i64 l.f2, .int .i64 l.f3, .string l.f4, .string l.f5, .slice Al l.f6.length cl] 30)).cell? ⟨g, 9, none⟩ = some (.string t.f5) ∧ (w.alloc (.cells #[.slice Ac C.length cc, .slice Am M.length cm, .slice As L.length cs, .int .i64 ev, .int .i64 t.f0, .int .i64 t.f1, .int .i64 t.f2, .int .i64 t.f3, .string t.f4, .string t.f5, .slice At t.f6.length ct, .int .i64 l.f0, .int .i64 l.f1, .int .i64 l.f2, .int .i64 l.f3, .string l.f4, .string l.f5, .slice Al l.f6.length cl] 30)).cell? ⟨g, 10, none⟩ = some (.slice At t.f6.length ct) ∧ (w.alloc (.cells #[.slice Ac C.length cc, .slice Am M.length cm, .slice As L.length cs, .int .i64 ev, .int .i64 t.f0, .int .i64 t.f1, .int .i64 t.f2, .int .i64 t.f3, .string t.f4, .string t.f5, .slice At t.f6.length ct, .int .i64 l.f0, .int .i64 l.f1, .int .i64 l.f2, .int .i64 l.f3, .string l.f4, .string l.f5, .slice Al l.f6.length cl] 30)).cell? ⟨g, 11, none⟩ = some (.int .i64 l.f0) ∧ (w.alloc (.cells #[.slice Ac C.length cc, .slice Am M.length cm, .slice As L.length cs, .int .i64 ev, .int .i64 t.f0, .int .i64 t.f1, .int .i64 t.f2, .int .i64 t.f3, .string t.f4, .string t.f5, .slice At t.f6.length ct, .int .i64 l.f0, .int .i64 l.f1, .int .i64 l.f2, .int .i64 l.f3, .string l.f4, .string l.f5, .slice Al l.f6.length cl] 30)).cell? ⟨g, 12, none⟩ = some (.int .i64 l.f1) ∧ (w.alloc (.cells #[.slice Ac C.length cc, .slice Am M.length cm, .slice As L.length cs, .int .i64 ev, .int .i64 t.f0, .int .i64 t.f1, .int .i64 t.f2, .int .i64 t.f3, .string t.f4, .string t.f5, .slice At t.f6.length ct, .int .i64 l.f0, .int .i64 l.f1, .int .i64 l.f2, .int .i64 l.f3, .string l.f4, .string l.f5, .slice Al l.f6.length cl] 30)).cell? ⟨g, 13, none⟩ = some (.int .i64 l.f2) ∧ (w.alloc (.cells #[.slice Ac C.length cc, .slice Am M.length cm, .slice As L.length cs, .int .i64 ev, .int .i64 t.f0, .int .i64 t.f1, .int .i64 t.f2, .int .i64 t.f3, .string t.f4, .string t.f5, .slice At t.f6.length ct, .int .i64 l.f0, .int .i64 l.f1, .int .i64 l.f2, .int .i64 l.f3, .string l.f4, .string l.f5, .slice Al l.f6.length cl] 30)).cell? ⟨g, 14, none⟩ = some (.int .i64 l.f3) ∧ (w.alloc (.cells #[.slice Ac C.length cc, .slice Am M.length cm, .slice As L.length cs, .int .i64 ev, .int .i64 t.f0, .int .i64 t.f1, .int .i64 t.f2, .int .i64 t.f3, .string t.f4, .string t.f5, .slice At t.f6.length ct, .int .i64 l.f0, .int .i64 l.f1, .int .i64 l.f2, .int .i64 l.f3, .string l.f4, .string l.f5, .slice Al l.f6.length cl] 30)).cell? ⟨g, 15, none⟩ = some (.string l.f4) ∧ (w.alloc (.cells #[.slice Ac C.length cc, .slice Am M.length cm, .slice As L.length cs, .int .i64 ev, .int .i64 t.f0, .int .i64 t.f1, .int .i64 t.f2, .int .i64 t.f3, .string t.f4, .string t.f5, .slice At t.f6.length ct, .int .i64 l.f0, .int .i64 l.f1, .int .i64 l.f2, .int .i64 l.f3, .string l.f4, .string l.f5, .slice Al l.f6.length cl] 30)).cell? ⟨g, 16, none⟩ = some (.string l.f5) ∧ (w.alloc (.cells #[.slice Ac C.length cc, .slice Am M.length cm, .slice As L.length cs, .int .i64 ev, .int .i64 t.f0, .int .i64 t.f1, .int .i64 t.f2, .int .i64 t.f3, .string t.f4, .string t.f5, .slice At t.f6.length ct, .int .i64 l.f0, .int .i64 l.f1, .int .i64 l.f2, .int .i64 l.f3, .string l.f4, .string l.f5, .slice Al l.f6.length cl] 30)).cell? ⟨g, 17, none⟩ = some (.slice Al l.f6.length cl) by rw [← hg]; refine ⟨?_, ?_, ?_, ?_, ?_, ?_, ?_, ?_, ?_, ?_, ?_, ?_, ?_, ?_, ?_, ?_, ?_, ?_⟩ <;> simp)
  have HT1 := Lib.hid (show g < (w.alloc (.cells #[.slice Ac C.length cc, .slice Am M.length cm, .slice As L.length cs, .int .i64 ev, .int .i64 t.f0, .int .i64 t.f1, .int .i64 t.f2, .int .i64 t.f3, .string t.f4, .string t.f5, .slice At t.f6.length ct, .int .i64 l.f0, .int .i64 l.f1, .int .i64 l.f2, .int .i64 l.f3, .string l.f4, .string l.f5, .slice Al l.f6.length cl] 30)).heap.size by simp; omega)
  obtain ⟨W1, hW1⟩ : ∃ W, w.alloc (.cells #[.slice Ac C.length cc, .slice Am M.length cm, .slice As L.length cs, .int .i64 ev, .int .i64 t.f0, .int .i64 t.f1, .int .i64 t.f2, .int .i64 t.f3, .string t.f4, .string t.f5, .slice At t.f6.length ct, .int .i64 l.f0, .int .i64 l.f1, .int .i64 l.f2, .int .i64 l.f3, .string l.f4, .string l.f5, .slice Al l.f6.length cl] 30) = W := ⟨_, rfl⟩
  simp only [hW1, hg] at HB1 HS1 HT1 ⊢
  clear hW1 hg
  obtain ⟨c0, c1, c2, c3, c4, c5, c6, c7, c8, c9, c10, c11, c12, c13, c14, c15, c16, c17⟩ := HS1.out
  have HK := Lib.hid (show ∀ w' : World, Below (g + 1) W1 w' → w'.cell? ⟨g, 0, none⟩ = some (.slice Ac C.length cc) ∧ w'.cell? ⟨g, 1, none⟩ = some (.slice Am M.length cm) ∧ w'.cell? ⟨g, 2, none⟩ = some (.slice As L.length cs) ∧ w'.cell? ⟨g, 3, none⟩ = some (.int .i64 ev) ∧ w'.cell? ⟨g, 4, none⟩ = some (.int .i64 t.f0) ∧ w'.cell? ⟨g, 5, none⟩ = some (.int .i64 t.f1) ∧ w'.cell? ⟨g, 6, none⟩ = some (.int .i64 t.f2) ∧ w'.cell? ⟨g, 7, none⟩ = some (.int .i64 t.f3) ∧ w'.cell? ⟨g, 8, none⟩ = some (.string t.f4) ∧ w'.cell? ⟨g, 9, none⟩ = some (.string t.f5) ∧ w'.cell? ⟨g, 10, none⟩ = some (.slice At t.f6.length ct) ∧ w'.cell? ⟨g, 11, none⟩ = some (.int .i64 l.f0) ∧ w'.cell? ⟨g, 12, none⟩ = some (.int .i64 l.f1) ∧ w'.cell? ⟨g, 13, none⟩ = some (.int .i64 l.f2) ∧ w'.cell? ⟨g, 14, none⟩ = some (.int .i64 l.f3) ∧ w'.cell? ⟨g, 15, none⟩ = some (.string l.f4) ∧ w'.cell? ⟨g, 16, none⟩ = some (.string l.f5) ∧ w'.cell? ⟨g, 17, none⟩ = some (.slice Al l.f6.length cl) from fun w' hb => ⟨(hb.cell (p := ⟨g, 0, none⟩) (Nat.lt_succ_self g)).trans c0, (hb.cell (p := ⟨g, 1, none⟩) (Nat.lt_succ_self g)).trans c1, (hb.cell (p := ⟨g, 2, none⟩) (Nat.lt_succ_self g)).trans c2, (hb.cell (p := ⟨g, 3, none⟩) (Nat.lt_succ_self g)).trans c3, (hb.cell (p := ⟨g, 4, none⟩) (Nat.lt_succ_self g)).trans c4, (hb.cell (p := ⟨g, 5, none⟩) (Nat.lt_succ_self g)).trans c5, (hb.cell (p := ⟨g, 6, none⟩) (Nat.lt_succ_self g)).trans c6, (hb.cell (p := ⟨g, 7, none⟩) (Nat.lt_succ_self g)).trans c7, (hb.cell (p := ⟨g, 8, none⟩) (Nat.lt_succ_self g)).trans c8, (hb.cell (p := ⟨g, 9, none⟩) (Nat.lt_succ_self g)).trans c9, (hb.cell (p := ⟨g, 10, none⟩) (Nat.lt_succ_self g)).trans c10, (hb.cell (p := ⟨g, 11, none⟩) (Nat.lt_succ_self g)).trans c11, (hb.cell (p := ⟨g, 12, none⟩) (Nat.lt_succ_self g)).trans c12, (hb.cell (p := ⟨g, 13, none⟩) (Nat.lt_succ_self g)).trans c13, (hb.cell (p := ⟨g, 14, none⟩) (Nat.lt_succ_self g)).trans c14, (hb.cell (p := ⟨g, 15, none⟩) (Nat.lt_succ_self g)).trans c15, (hb.cell (p := ⟨g, 16, none⟩) (Nat.lt_succ_self g)).trans c16, (hb.cell (p := ⟨g, 17, none⟩) (Nat.lt_succ_self g)).trans c17⟩)
  have hg1 : g + 1 ≤ W1.heap.size := HT1.out
  go_cut [3, 4, 5, 6, 7] (fun v3 v4 v5 v6 v7 wx => v3 = .slice Ac C.length cc ∧ v4 = .slice Am M.length cm ∧ ∃ g5 g6 g7, v5 = .pointer (some ⟨g5, 0, none⟩) ∧ v6 = .pointer (some ⟨g6, 0, none⟩) ∧ v7 = .pointer (some ⟨g7, 0, none⟩) ∧ Hid (L3 w wx g g5 g6 g7 As L.length cs ev t l At Al ct cl))
  case first =>
    go_region_held3 (fun w' => w'.cell? ⟨g, 0, none⟩ = some (.slice Ac C.length cc) ∧ w'.cell? ⟨g, 1, none⟩ = some (.slice Am M.length cm) ∧ w'.cell? ⟨g, 2, none⟩ = some (.slice As L.length cs) ∧ w'.cell? ⟨g, 3, none⟩ = some (.int .i64 ev) ∧ w'.cell? ⟨g, 4, none⟩ = some (.int .i64 t.f0) ∧ w'.cell? ⟨g, 5, none⟩ = some (.int .i64 t.f1) ∧ w'.cell? ⟨g, 6, none⟩ = some (.int .i64 t.f2) ∧ w'.cell? ⟨g, 7, none⟩ = some (.int .i64 t.f3) ∧ w'.cell? ⟨g, 8, none⟩ = some (.string t.f4) ∧ w'.cell? ⟨g, 9, none⟩ = some (.string t.f5) ∧ w'.cell? ⟨g, 10, none⟩ = some (.slice At t.f6.length ct) ∧ w'.cell? ⟨g, 11, none⟩ = some (.int .i64 l.f0) ∧ w'.cell? ⟨g, 12, none⟩ = some (.int .i64 l.f1) ∧ w'.cell? ⟨g, 13, none⟩ = some (.int .i64 l.f2) ∧ w'.cell? ⟨g, 14, none⟩ = some (.int .i64 l.f3) ∧ w'.cell? ⟨g, 15, none⟩ = some (.string l.f4) ∧ w'.cell? ⟨g, 16, none⟩ = some (.string l.f5) ∧ w'.cell? ⟨g, 17, none⟩ = some (.slice Al l.f6.length cl)) (exact HK.out _ (by repeat' (first | exact Below.refl _ _ | refine Below.drew ?_ | refine Below.alloc ?_ (by first | omega | (simp; omega)) _))) (fail)
    all_goals
      go_wp2_with fail
      go_meet
    all_goals refine ⟨rfl, rfl, _, _, _, rfl, rfl, rfl, Lib.hid ⟨?_, ?_, ?_, ⟨?_, ?_, ?_, ?_, ?_, ?_, ?_⟩, ⟨?_, ?_, ?_, ?_, ?_, ?_, ?_⟩, ?_, ?_, ?_, ?_⟩⟩
    all_goals first | exact at0 _ _ _ _ _ _ _ rfl | exact at1 _ _ _ _ _ _ _ rfl | exact at2 _ _ _ _ _ _ _ rfl | (simp; done) | (simp; omega) | (repeat' (first | exact HB1.out | refine Below.drew ?_ | refine Below.alloc ?_ (by first | omega | (simp; omega)) _))
  case rest =>
    obtain ⟨rfl, rfl, g5, g6, g7, rfl, rfl, rfl, HL⟩ := hcut
    clear HB1 HS1 HT1 HK hg1 c0 c1 c2 c3 c4 c5 c6 c7 c8 c9 c10 c11 c12 c13 c14 c15 c16 c17
    have HSn := Lib.hid (fun W => sane_calls W)
    have s0 := HL.out.s0
    have s1 := HL.out.s1
    have hw0 : wrap64 ((M.length : Int) + (L.length : Int)) = ((M.length + L.length : Nat) : Int) := by have := HBD.out; unfold wrap64; omega
    have HW0 := Lib.hid hw0
    clear hw0
    go_upto_region 4 with fail
    clear s0 s1
    go_loopg [8, 9] C.length (fun gk s8 s9 wx => ∃ i q : Nat, i + gk = C.length ∧ s9 = .int .i64 i ∧ s8 = .int .i64 (q : Int) ∧ Hid (q = M.length + L.length + sumL C i + i) ∧ q ≤ 300000000000000 ∧ Hid (Below wc.heap.size wc wx))
    case atStart => exact ⟨0, M.length + L.length, by omega, rfl, congrArg (Value.int .i64) HW0.out, Lib.hid (by simp [sumL]), by have := HBD.out; omega, Lib.hid (Below.refl _ _)⟩
    case round =>
      obtain ⟨i, q, hi, rfl, rfl, HQE, hq2, HBX⟩ := hrel
      have HLX := Lib.hid (HL.out.step HBX.out)
      by_cases hlt : i < C.length
      · have i0 : (i : Int) < C.length := by omega
        by_cases hn : q < 200
        · obtain ⟨g', rfl⟩ : ∃ g', gk = g' + 1 := ⟨gk - 1, by omega⟩
          have q0 : (q : Int) < 200 := by omega
          have hbw : Below w.heap.size w wr := by rw [HGG.out]; exact HLX.out.below
          obtain ⟨b, off, rfl, hbl, hcell⟩ := cells_at (HI.out.below hbw).c (by omega)
          obtain ⟨A6, c6, e0, _, _⟩ := hcell i hlt
          have hsum : sumL C (i + 1) = sumL C i + (C[i]).length := by show _ + (C.getD i []).length = _; simp [hlt]
          have hcl := HBD.out.2.2.2 _ (List.getElem_mem hlt)
          obtain ⟨z, hz⟩ : ∃ z, (C[i]).length = z := ⟨_, rfl⟩
          rw [hz] at e0 hsum hcl
          have hw1 : wrap64 ((z : Int) + 1) = ((z + 1 : Nat) : Int) := wadd1 z hcl
          have hw2 : wrap64 ((q : Int) + ((z + 1 : Nat) : Int)) = ((q + z + 1 : Nat) : Int) := wadd2 q z hn hcl
          have hw3 : wrap64 ((i : Int) + 1) = ((i + 1 : Nat) : Int) := wadd1 i (Nat.le_trans (Nat.le_of_lt hlt) HBD.out.1)
          have HW3 := Lib.hid hw3
          have HW2 := Lib.hid hw2
          have HQ := Lib.hid (And.intro HQE.out (And.intro hsum hcl))
          clear hcell hbl hbw hz hsum hcl hw3
          go_wp2_with fail
          go_roundg g'
          case measure => omega
          case rel => exact ⟨i + 1, q + z + 1, by omega, congrArg (Value.int .i64) HW3.out, by first | exact congrArg (Value.int .i64) HW2.out | exact rfl, Lib.hid (by have := HQ.out; omega), by have := HQ.out; omega, HBX⟩
        · have q0 : decide ((q : Int) < 200) = false := decide_eq_false (by omega)
          have q2 : 200 ≤ q := by omega
          have q3 : (200 : Int) ≤ (q : Int) := by omega
          go_wp2_with fail
          refine (HSn.out _).mono ?_
          rintro e w4 ⟨rfl, hb⟩
          go_wp2_with fail
          go_ret
          exact ⟨rfl, by rw [HGG.out]; exact (HLX.out.step hb).below⟩
      · have hin : i = C.length := by omega
        have i0 : ¬ (i : Int) < C.length := by omega
        by_cases hn : q < 200
        · have q2 : ¬ 200 ≤ q := by omega
          have q3 : ¬ (200 : Int) ≤ (q : Int) := by omega
          have HSM := Lib.hid (show C.length ≤ 200 ∧ sumL C C.length ≤ 200 ∧ L.length ≤ 200 by have := HQE.out; rw [hin] at this; omega)
          have hbw : Below w.heap.size w wr := by rw [HGG.out]; exact HLX.out.below
          have HSET := Lib.hid (set_both wr C M L ev t l Ac Am As At Al cc cm cs ct cl (HI.out.below hbw) HSM.out.1 HSM.out.2.1)
          have HAS := Lib.hid (fun W (hb : Below w.heap.size w W) => as2_calls As cs L ev (by have := HSM.out; omega) W (HI.out.below hb).s HI.out.sn)
          have HRS := Lib.hid (fun W B d (hb : Below w.heap.size w W) (hd : L.length ≤ d) (hB : Kd.C k84 W B L.length (L.map cv)) => rset2_calls W C M L ev t l Ac Am As At Al B cc cm cs ct cl d (HI.out.below hb) hd hB HZ.out (by have := HSM.out; omega) HSM.out.1 HSM.out.2.1)
          have HFW := Lib.hid (resR_few (C := C) (M := M) (L := L) (ev := ev) (t := t) (l := l))
          obtain ⟨R, hR⟩ : ∃ x, resR C M L ev t l = x := ⟨_, rfl⟩
          obtain ⟨E, hE⟩ : ∃ x, resE C M L ev t l = x := ⟨_, rfl⟩
          rw [hR, hE] at HSET
          simp only [hR, hE] at HRS
          rw [hR] at HFW
          clear hR hE hbw
          have HII := Lib.hid hin
          clear hin hi
          have s0 := HLX.out.s0
          have s1 := HLX.out.s1
          obtain ⟨x0, x1, x2, x3, x4, x5, x6⟩ := HLX.out.bt
          obtain ⟨y0, y1, y2, y3, y4, y5, y6⟩ := HLX.out.bl
          go_upto_region 10 with (go_at_call 9; refine HSET.out.mono ?_; rintro e w5 ⟨A5, n5, rfl, hn5, hC5, hb5⟩; have HN5 := Lib.hid hn5; have HC5 := Lib.hid hC5; have HL5 := Lib.hid (HLX.out.step hb5); clear hn5 hC5 hb5 s0 s1 x0 x1 x2 x3 x4 x5 x6 y0 y1 y2 y3 y4 y5 y6)
          have HAS5 := Lib.hid (fun W (hb : Below w5.heap.size w5 W) => HAS.out W (by rw [HGG.out]; exact (HL5.out.step hb).below))
          have HRS5 := Lib.hid (fun W B d (hb : Below w5.heap.size w5 W) => HRS.out W B d (by rw [HGG.out]; exact (HL5.out.step hb).below))
          have HK := Lib.hid (show ∀ w' : World, Below w5.heap.size w5 w' → w'.cell? ⟨g5, 0, none⟩ = some (.slice As L.length cs) ∧ w'.cell? ⟨g5, 1, none⟩ = some (.int .i64 ev) ∧ w'.cell? ⟨g6, 0, none⟩ = some (.int .i64 t.f0) ∧ w'.cell? ⟨g6, 1, none⟩ = some (.int .i64 t.f1) ∧ w'.cell? ⟨g6, 2, none⟩ = some (.int .i64 t.f2) ∧ w'.cell? ⟨g6, 3, none⟩ = some (.int .i64 t.f3) ∧ w'.cell? ⟨g6, 4, none⟩ = some (.string t.f4) ∧ w'.cell? ⟨g6, 5, none⟩ = some (.string t.f5) ∧ w'.cell? ⟨g6, 6, none⟩ = some (.slice At t.f6.length ct) ∧ w'.cell? ⟨g7, 0, none⟩ = some (.int .i64 l.f0) ∧ w'.cell? ⟨g7, 1, none⟩ = some (.int .i64 l.f1) ∧ w'.cell? ⟨g7, 2, none⟩ = some (.int .i64 l.f2) ∧ w'.cell? ⟨g7, 3, none⟩ = some (.int .i64 l.f3) ∧ w'.cell? ⟨g7, 4, none⟩ = some (.string l.f4) ∧ w'.cell? ⟨g7, 5, none⟩ = some (.string l.f5) ∧ w'.cell? ⟨g7, 6, none⟩ = some (.slice Al l.f6.length cl) from fun w' hb => by
            have h := HL5.out.step hb
            exact ⟨h.s0, h.s1, h.bt.1, h.bt.2.1, h.bt.2.2.1, h.bt.2.2.2.1, h.bt.2.2.2.2.1, h.bt.2.2.2.2.2.1, h.bt.2.2.2.2.2.2, h.bl.1, h.bl.2.1, h.bl.2.2.1, h.bl.2.2.2.1, h.bl.2.2.2.2.1, h.bl.2.2.2.2.2.1, h.bl.2.2.2.2.2.2⟩)
          clear HAS HRS HSET
          go_cut [12, 13] (fun v12 v13 wx => v13 = .int .i64 E ∧ ∃ A6 n6, v12 = .slice A6 R.length n6 ∧ Hid (R.length ≤ n6 ∧ Kd.C k28 wx A6 R.length R ∧ Below w5.heap.size w5 wx))
          case first =>
            have hN0 : Below w5.heap.size w5 w5.drew := (Below.refl _ _).drew
            go_region_held3 (fun w' => w'.cell? ⟨g5, 0, none⟩ = some (.slice As L.length cs) ∧ w'.cell? ⟨g5, 1, none⟩ = some (.int .i64 ev) ∧ w'.cell? ⟨g6, 0, none⟩ = some (.int .i64 t.f0) ∧ w'.cell? ⟨g6, 1, none⟩ = some (.int .i64 t.f1) ∧ w'.cell? ⟨g6, 2, none⟩ = some (.int .i64 t.f2) ∧ w'.cell? ⟨g6, 3, none⟩ = some (.int .i64 t.f3) ∧ w'.cell? ⟨g6, 4, none⟩ = some (.string t.f4) ∧ w'.cell? ⟨g6, 5, none⟩ = some (.string t.f5) ∧ w'.cell? ⟨g6, 6, none⟩ = some (.slice At t.f6.length ct) ∧ w'.cell? ⟨g7, 0, none⟩ = some (.int .i64 l.f0) ∧ w'.cell? ⟨g7, 1, none⟩ = some (.int .i64 l.f1) ∧ w'.cell? ⟨g7, 2, none⟩ = some (.int .i64 l.f2) ∧ w'.cell? ⟨g7, 3, none⟩ = some (.int .i64 l.f3) ∧ w'.cell? ⟨g7, 4, none⟩ = some (.string l.f4) ∧ w'.cell? ⟨g7, 5, none⟩ = some (.string l.f5) ∧ w'.cell? ⟨g7, 6, none⟩ = some (.slice Al l.f6.length cl))
              (exact HK.out _ (by assumption))
              (first | (go_at_call 11; refine (HAS5.out _ hN0).mono ?_; rintro e w2 ⟨B, d, rfl, hd, hC84, hb2⟩; have hN2 : Below w5.heap.size w5 w2 := hN0.trans (hb2.mono hN0.size)) | (go_at_call 10; refine (HRS5.out _ _ _ hN2 hd hC84).mono ?_; rintro e w7 ⟨A6, n6, rfl, hn6, hC6, hb7⟩; have hN7 : Below w5.heap.size w5 w7 := hN2.trans (hb7.mono hN2.size)))
            all_goals
              have HBL := Lib.hid hN7
              have HN6 := Lib.hid hn6
              have HC6 := Lib.hid hC6
              go_wp2_with fail
              go_meet
            all_goals exact ⟨rfl, A6, n6, rfl, Lib.hid ⟨HN6.out, HC6.out, HBL.out⟩⟩
          case rest =>
            obtain ⟨rfl, A6, n6, rfl, H6⟩ := hcut
            have HSA := Lib.hid (same_calls A5 A6 n5 n6 R HC5.out.2.1 HFW.out wc (Kd.C_below HC5.out H6.out.2.2) HN5.out H6.out.2.1 H6.out.1)
            go_wp2_with fail
            refine HSA.out.mono ?_
            rintro e w8 ⟨rfl, hb8⟩
            go_wp2_with fail
            refine (HSn.out _).mono ?_
            rintro e w9 ⟨rfl, hb9⟩
            go_wp2_with fail
            go_ret
            exact ⟨rfl, by rw [HGG.out]; exact (((HL5.out.step H6.out.2.2).step hb8).step hb9).below⟩
        · have q2 : 200 ≤ q := by omega
          have q3 : (200 : Int) ≤ (q : Int) := by omega
          go_wp2_with fail
          refine (HSn.out _).mono ?_
          rintro e w4 ⟨rfl, hb⟩
          go_wp2_with fail
          go_ret
          exact ⟨rfl, by rw [HGG.out]; exact (HLX.out.step hb).below⟩
end Go.Proofs.Ytmmfojaeahcohaa

set_option linter.unusedVariables false
set_option linter.unusedSimpArgs false
namespace Go.Proofs.Ytmmfojaeahcohaa
open Go.Lib Go.RowKit Go.Proofs.YtmmfojaeahcohaaW.PrintWords Go.Proofs.Ytmmfojaeahcohaa.PTabsMade

def OkL (C : List (List S28)) (M : List Int) : Prop := (∀ c ∈ C, AllG c ∧ c.length ≤ 4) ∧ (∀ m ∈ M, m = 0 ∨ m = 1) ∧ M.length = C.length - 1
theorem mark_b (n : Int) : wrap64 (Int.tmod (IntKind.u64.wrap n) 2) = 0 ∨ wrap64 (Int.tmod (IntKind.u64.wrap n) 2) = 1 := by
  have e : IntKind.u64.wrap n = n % 18446744073709551616 := by simp [IntKind.wrap, IntKind.signed, IntKind.bits]
  rw [e, Int.tmod_eq_emod_of_nonneg (by omega), wrapI _ (by omega) (by omega)]
  omega
theorem OkL.snoc {C : List (List S28)} {M : List Int} (h : OkL C M) {c : List S28} (hc : AllG c) (hl : c.length ≤ 4) (m : Int) (hm : m = 0 ∨ m = 1) (h0 : 0 < C.length) : OkL (C ++ [c]) (M ++ [m]) := by
  refine ⟨fun x hx => ?_, fun x hx => ?_, ?_⟩
  · rcases List.mem_append.1 hx with hx | hx
    · exact h.1 x hx
    · rw [List.mem_singleton] at hx; subst hx; exact ⟨hc, hl⟩
  · rcases List.mem_append.1 hx with hx | hx
    · exact h.2.1 x hx
    · rw [List.mem_singleton] at hx; subst hx; exact hm
  · have := h.2.2
    simp; omega
theorem line_l (l : List Int) (hl : l.length ≤ 9223372036854775807) : ∀ f j (C : List (List S28)) (M : List Int) K, OkL C M → C.length = j → j ≤ 10 → 10 ≤ j + f → 2 * f + 40 ≤ K → ∃ r1 r2, frisketlaw12_line.l0 K l C M ((4 * j : Nat) : Int) = some (r1, r2) ∧ OkL r1 r2 ∧ r1.length ≤ 10
  | f, j, C, M, K, hO, hC, hj, hf, hK => by
    obtain ⟨K1, rfl⟩ : ∃ k, K = k + 2 := ⟨K - 2, by omega⟩
    rw [show K1 + 2 = (K1 + 1) + 1 from rfl, frisketlaw12_line.l0]
    have hw : wrap64 (((4 * j : Nat) : Int) + 4) = ((4 * (j + 1) : Nat) : Int) := by rw [wrapI _ (by omega) (by omega)]; omega
    rw [hw]
    by_cases h4 : ((4 * (j + 1) : Nat) : Int) ≤ (l.length : Int)
    · rw [if_pos h4]
      rw [frisketlaw12_line.j1]
      by_cases h40 : ((4 * j : Nat) : Int) < 40
      · obtain ⟨f', rfl⟩ : ∃ f', f = f' + 1 := ⟨f - 1, by omega⟩
        rw [decide_eq_true h40, if_pos rfl, hw]
        have hlen : ((l.take (((4 * (j + 1) : Nat) : Int)).toNat).drop (((4 * j : Nat) : Int)).toNat).length ≤ 4 := by
          rw [Int.toNat_natCast, Int.toNat_natCast, List.length_drop, List.length_take]; omega
        obtain ⟨rr, h1, h2, h3⟩ := row_f ((l.take (((4 * (j + 1) : Nat) : Int)).toNat).drop (((4 * j : Nat) : Int)).toNat) (by omega) K1 (by omega)
        by_cases h0 : (C.length : Int) > 0
        · rw [if_pos h0, if_pos (by omega), if_pos (by omega), if_pos (by have := hO.2.2; omega), if_pos (by omega), if_pos h4, h1, Option.bind_some, if_pos (by omega)]
          exact line_l l hl f' (j + 1) _ _ K1 (hO.snoc h2 (by omega) _ (mark_b _) (by omega)) (by simp; omega) (by omega) (by omega) (by omega)
        · rw [if_neg h0, if_pos (by omega), if_pos (by omega), if_pos h4, h1, Option.bind_some, if_pos (by omega)]
          have hC0 : C = [] := List.length_eq_zero_iff.1 (by omega)
          subst hC0
          have hM0 : M = [] := List.length_eq_zero_iff.1 (by have := hO.2.2; simp at this; simpa using this)
          subst hM0
          refine line_l l hl f' (j + 1) _ _ K1 ⟨fun x hx => ?_, fun x hx => by simp at hx, by simp⟩ (by simp at hC ⊢; omega) (by omega) (by omega) (by omega)
          simp at hx; subst hx; exact ⟨h2, by omega⟩
      · rw [decide_eq_false h40, if_neg (by simp)]
        exact ⟨C, M, rfl, hO, by omega⟩
    · rw [if_neg h4, frisketlaw12_line.j1, if_neg (by simp)]
      exact ⟨C, M, rfl, hO, by omega⟩
theorem line_f (l : List Int) (hl : l.length ≤ 9223372036854775807) : ∃ r1 r2, frisketlaw12_line.f 60 l = some (r1, r2) ∧ OkL r1 r2 ∧ r1.length ≤ 10 :=
  line_l l hl 10 0 [] [] 60 ⟨fun x hx => (by cases hx), fun x hx => (by cases hx), rfl⟩ rfl (by omega) (by omega) (by omega)
theorem okS_snoc (t : S68) (ht : t.f0 ≤ 1000000) (hk : kindT t.f1 = true) : ∀ (L : List S68) (last : Int), okStops last L = true → (∀ x ∈ L, x.f0 < t.f0) → last < t.f0 → okStops last (L ++ [t]) = true
  | [], last, h, hx, h0 => by
    show (decide (last < t.f0) && (decide (t.f0 ≤ 1000000) && (kindT t.f1 && okStops t.f0 []))) = true
    rw [decide_eq_true h0, decide_eq_true ht, hk]; rfl
  | x :: r, last, h, hx, h0 => by
    have e : okStops last (x :: r) = (decide (last < x.f0) && (decide (x.f0 ≤ 1000000) && (kindT x.f1 && okStops x.f0 r))) := rfl
    rw [e] at h
    simp only [Bool.and_eq_true] at h
    obtain ⟨h1, h2, h3, h4⟩ := h
    show (decide (last < x.f0) && (decide (x.f0 ≤ 1000000) && (kindT x.f1 && okStops x.f0 (r ++ [t])))) = true
    rw [h1, h2, h3, okS_snoc t ht hk r x.f0 h4 (fun y hy => hx y (by simp [hy])) (hx x (by simp))]
    rfl
def OkS (L : List S68) (at_ : Int) : Prop := okStops (-1) L = true ∧ ∀ x ∈ L, x.f0 ≤ at_ ∧ 0 ≤ x.f1 ∧ x.f1 < 256
theorem lrc (q : Int) (h0 : 0 ≤ q) (h1 : q < 3) : kindT (bt (⟨#[76, 82, 67]⟩ : ByteArray) q) = true ∧ 0 ≤ bt (⟨#[76, 82, 67]⟩ : ByteArray) q ∧ bt (⟨#[76, 82, 67]⟩ : ByteArray) q < 256 := by
  have : q = 0 ∨ q = 1 ∨ q = 2 := by omega
  rcases this with rfl | rfl | rfl <;> decide
theorem OkS.snoc {L : List S68} {at_ d k : Int} (h : OkS L at_) (ha : 0 ≤ at_) (hd : 1 ≤ d) (hb : at_ + d ≤ 1000000) (hk : kindT k = true) (h0 : 0 ≤ k) (h1 : k < 256) : OkS (L ++ [⟨at_ + d, k⟩]) (at_ + d) := by
  refine ⟨okS_snoc ⟨at_ + d, k⟩ hb hk L (-1) h.1 (fun x hx => ?_) (by show -1 < at_ + d; omega), fun x hx => ?_⟩
  · have := (h.2 x hx).1
    show x.f0 < at_ + d
    omega
  · rcases List.mem_append.1 hx with hx | hx
    · have := h.2 x hx
      omega
    · rw [List.mem_singleton] at hx; subst hx
      exact ⟨Int.le_refl _, h0, h1⟩
/-- What the numbers behind make of the stops. -/
def Ny (l : List Int) (i : Int) (N : Nat) (at_ : Int) : Prop := ∀ a (L : List S68) ev K', OkS L a → 0 ≤ a → a ≤ at_ + 150 → 0 ≤ ev → ev ≤ 1000 → N ≤ K' → L.length ≤ i.toNat + 1 → ∃ r ev', frisketlaw12_Made.l0 K' l a (wrap64 (i + 1)) L ev = some (r, ev') ∧ okStops (-1) r = true ∧ r.length ≤ 10 ∧ (∀ x ∈ r, 0 ≤ x.f1 ∧ x.f1 < 256) ∧ 0 ≤ ev' ∧ ev' ≤ 1000
theorem made_app (l : List Int) (i : Int) (N K : Nat) (at_ : Int) (ih : Ny l i N at_) (hK : N ≤ K) (L : List S68) (ev v : Int) (hO : OkS L at_) (ha : 0 ≤ at_) (ha2 : at_ ≤ 2000) (he : 0 ≤ ev) (he2 : ev ≤ 1000) (hv : 0 ≤ v ∧ v ≤ 99999) (hL : L.length ≤ i.toNat) (hi : i ≤ 10) (hi0 : 0 ≤ i) :
    ∃ r ev', (if 0 ≤ (Int.tmod (wrap64 (Int.tdiv v 150)) 3) then (if (Int.tmod (wrap64 (Int.tdiv v 150)) 3) < 3 then (if L.length < 8796093022208 then (frisketlaw12_Made.l0 K l (wrap64 (at_ + (wrap64 (1 + (Int.tmod v 150))))) (wrap64 (i + 1)) (L ++ [(⟨wrap64 (at_ + (wrap64 (1 + (Int.tmod v 150)))), bt (⟨#[76, 82, 67]⟩ : ByteArray) (Int.tmod (wrap64 (Int.tdiv v 150)) 3)⟩ : S68)]) ev) else (none)) else (none)) else (none)) = some (r, ev') ∧ okStops (-1) r = true ∧ r.length ≤ 10 ∧ (∀ x ∈ r, 0 ≤ x.f1 ∧ x.f1 < 256) ∧ 0 ≤ ev' ∧ ev' ≤ 1000 := by
  have e1 : wrap64 (Int.tdiv v 150) = v / 150 := by rw [Int.tdiv_eq_ediv_of_nonneg hv.1, wrapI _ (by omega) (by omega)]
  rw [e1]
  have h1 := mod_b (v / 150) (by omega) 3 (by omega)
  have h2 := mod_b v hv.1 150 (by omega)
  obtain ⟨q, hq⟩ : ∃ q, Int.tmod (v / 150) 3 = q := ⟨_, rfl⟩
  obtain ⟨d, hd⟩ : ∃ d, Int.tmod v 150 = d := ⟨_, rfl⟩
  rw [hq] at h1 ⊢
  rw [hd] at h2 ⊢
  have e2 : wrap64 (1 + d) = 1 + d := wrapI _ (by omega) (by omega)
  have e3 : wrap64 (at_ + (1 + d)) = at_ + (1 + d) := wrapI _ (by omega) (by omega)
  rw [e2, e3, if_pos h1.1, if_pos h1.2, if_pos (by omega)]
  have hk := lrc q h1.1 h1.2
  exact ih _ _ _ _ (hO.snoc ha (by omega) (by omega) hk.1 hk.2.1 hk.2.2) (by omega) (by omega) he he2 hK (by simp; omega)
theorem made_l (l : List Int) (hl : l.length ≤ 9223372036854775807) : ∀ (f i : Nat) (at_ : Int) (L : List S68) (ev : Int) (K : Nat), OkS L at_ → 0 ≤ at_ → at_ ≤ 150 * (i : Int) → L.length ≤ i → i ≤ 10 → 10 ≤ i + f → 0 ≤ ev → ev ≤ 1000 → 2 * f + 4 ≤ K →
    ∃ r ev', frisketlaw12_Made.l0 K l at_ (i : Nat) L ev = some (r, ev') ∧ okStops (-1) r = true ∧ r.length ≤ 10 ∧ (∀ x ∈ r, 0 ≤ x.f1 ∧ x.f1 < 256) ∧ 0 ≤ ev' ∧ ev' ≤ 1000
  | f, i, at_, L, ev, K, hO, ha, ha2, hL, hi, hf, he, he2, hK => by
    obtain ⟨K1, rfl⟩ : ∃ k, K = k + 2 := ⟨K - 2, by omega⟩
    rw [show K1 + 2 = (K1 + 1) + 1 from rfl, frisketlaw12_Made.l0]
    by_cases hlt : i < l.length
    · rw [if_pos (by omega), frisketlaw12_Made.j1]
      by_cases h10 : (i : Int) < 10
      · obtain ⟨f', rfl⟩ : ∃ f', f = f' + 1 := ⟨f - 1, by omega⟩
        rw [decide_eq_true h10, if_pos rfl, if_pos (by omega), if_pos (by omega)]
        have hb := num_b (rd l (i : Int))
        obtain ⟨v, hv⟩ : ∃ v, wrap64 (Int.tmod (IntKind.u64.wrap (rd l (i : Int))) 100000) = v := ⟨_, rfl⟩
        rw [hv] at hb ⊢
        have ih : Ny l (i : Nat) (2 * f' + 4) at_ := fun a L' ev' K' h1 h2 h3 h4 h5 h6 h7 => by
          rw [wrapS i l.length hlt (by omega)]
          exact made_l l hl f' (i + 1) a L' ev' K' h1 h2 (by omega) (by simpa using h7) (by omega) (by omega) h4 h5 h6
        by_cases i0 : (i : Int) = 0
        · rw [if_pos i0]
          by_cases m3 : Int.tmod v 3 = 0
          · rw [if_pos m3]
            have h3 := mod_b v hb.1 300 (by omega)
            obtain ⟨d, hd⟩ : ∃ d, Int.tmod v 300 = d := ⟨_, rfl⟩
            rw [hd] at h3 ⊢
            rw [wrapI (1 + d) (by omega) (by omega)]
            exact ih _ _ _ _ hO ha (by omega) (by omega) (by omega) (by omega) (by simp; omega)
          · rw [if_neg m3]
            exact made_app l (i : Nat) _ K1 at_ ih (by omega) L ev v hO ha (by omega) he he2 hb (by simpa using hL) (by omega) (by omega)
        · rw [if_neg i0]
          exact made_app l (i : Nat) _ K1 at_ ih (by omega) L ev v hO ha (by omega) he he2 hb (by simpa using hL) (by omega) (by omega)
      · rw [decide_eq_false h10, if_neg (by simp)]
        exact ⟨L, ev, rfl, hO.1, by omega, fun x hx => (hO.2 x hx).2, he, he2⟩
    · rw [if_neg (by omega), frisketlaw12_Made.j1, if_neg (by simp)]
      exact ⟨L, ev, rfl, hO.1, by omega, fun x hx => (hO.2 x hx).2, he, he2⟩
theorem made_f (l : List Int) (hl : l.length ≤ 9223372036854775807) : ∃ r ev, frisketlaw12_Made.f 24 l = some (r, ev) ∧ tvalidB r ev = true ∧ (∀ x ∈ r, 0 ≤ x.f1 ∧ x.f1 < 256) ∧ r.length ≤ 10 := by
  obtain ⟨r, ev, h1, h2, h3, h4, h5, h6⟩ := made_l l hl 10 0 0 [] 0 24 ⟨rfl, fun x hx => (by cases hx)⟩ (by omega) (by omega) (by simp) (by omega) (by omega) (by omega) (by omega) (by omega)
  refine ⟨r, ev, h1, ?_, h4, h3⟩
  unfold tvalidB
  rw [h2, decide_eq_true (by omega), decide_eq_true h5, decide_eq_true (by omega)]; rfl
def chr (n : Int) : S28 := if Int.tmod n 3 = 0 then ⟨5, 0, 0, 0, ⟨#[]⟩, ⟨#[]⟩, []⟩ else ⟨0, wrap64 (Int.tmod (IntKind.u64.wrap n) 30), 0, 10, ⟨#[46]⟩, ⟨#[]⟩, []⟩
theorem chr_g (n : Int) : Gd (chr n) ∧ ((chr n).f0 = 0 ∨ (chr n).f0 = 5) ∧ (chr n).f6 = [] := by
  unfold chr
  split
  · exact ⟨g_point, .inr rfl, rfl⟩
  · refine ⟨?_, .inl rfl, rfl⟩
    have e : IntKind.u64.wrap n = n % 18446744073709551616 := by simp [IntKind.wrap, IntKind.signed, IntKind.bits]
    have h : 0 ≤ wrap64 (Int.tmod (IntKind.u64.wrap n) 30) ∧ wrap64 (Int.tmod (IntKind.u64.wrap n) 30) < 30 := by
      rw [e, Int.tmod_eq_emod_of_nonneg (by omega), wrapI _ (by omega) (by omega)]
      omega
    exact g_glyph _ _ (by omega) (by omega) (by decide) (by decide)
theorem chr_fill (n : Int) : fillB (chr n) = false := by
  obtain ⟨h1, h2, _⟩ := chr_g n
  have : charB (chr n) = true := by
    unfold charB
    rw [h1.1]
    rcases h2 with h | h <;> simp [h]
  rw [charB_fill] at this
  simpa using this
theorem chr_calls (n : Int) (w : World) : Calls Try.prog 15 #[.int .i64 n] w fun e w' => ∃ A c, e = .returned (boxV (chr n).f0 (chr n).f1 (chr n).f2 (chr n).f3 (chr n).f4 (chr n).f5 A (chr n).f6.length c) ∧ Below w.heap.size w w' := by
  have hf : frisketlaw12_char.f n = some ((chr n).f0, (chr n).f1, (chr n).f2, (chr n).f3, (chr n).f4, (chr n).f5, (chr n).f6) := by
    unfold frisketlaw12_char.f chr
    split <;> rfl
  refine (frisketlaw12_char.calls n _ _ _ _ _ _ _ w hf).mono ?_
  rintro e w' ⟨v, rfl, hR, hb⟩
  obtain ⟨A, c, rfl, _, _⟩ := Kd.R_reads hR
  exact ⟨A, c, rfl, hb⟩
end Go.Proofs.Ytmmfojaeahcohaa

set_option linter.unusedVariables false
set_option linter.unusedSimpArgs false
namespace Go.Proofs.Ytmmfojaeahcohaa
open Go.Shelf Go.RowKit Go.Lib Go.Aids Go.Opens Go.Proofs.YtmmfojaeahcohaaW.PrintWords Go.Proofs.Ytmmfojaeahcohaa.PTabsMade

theorem sum4 (C : List (List S28)) (h : ∀ c ∈ C, c.length ≤ 4) : ∀ i, sumL C i ≤ 4 * i
  | 0 => Nat.le_refl _
  | i + 1 => by
    have ih := sum4 C h i
    have h1 : (C.getD i []).length ≤ 4 := by
      rw [List.getD_eq_getElem?_getD]
      cases hq : C[i]? with
      | none => exact Nat.zero_le _
      | some c => exact h c (List.mem_of_getElem? hq)
    show sumL C i + (C.getD i []).length ≤ _
    omega
theorem ok4 {C : List (List S28)} {M : List Int} {L : List S68} {ev : Int} {t l : S28} (hO : OkL C M) (ht : tvalidB L ev = true) (h1 : fillB t = false) (h2 : fillB l = false) : okSet C M L ev t l = true := by
  unfold okSet
  have e1 : (C.any fun c => c.any fun x => !validS x) = false := by
    rw [List.any_eq_false]
    intro c hc
    simp only [Bool.not_eq_true]
    rw [List.any_eq_false]
    intro x hx
    have := ((hO.1 c hc).1 x hx).1
    simp [this]
  have e2 : M.any markB = false := by
    rw [List.any_eq_false]
    intro m hm
    rcases hO.2.1 m hm with rfl | rfl <;> simp [markB]
  have e3 : (M.length : Int) = max ((C.length : Int) - 1) 0 := by have := hO.2.2; omega
  rw [ht, e1, e2, decide_eq_true e3]
  simp [h1, h2]
set_option maxRecDepth 100000 in
set_option maxHeartbeats 4000000 in
theorem law4_calls (A B : Option Addr) (c d : Nat) (l st : List Int) (tab lead : Int) (w : World) (hA : kI.C w A l.length l) (hc : l.length ≤ c) (hB : kI.C w B st.length st) (hd : st.length ≤ d) :
    Calls Try.prog 4 #[.agg #[.slice A l.length c, .slice B st.length d, .int .i64 tab, .int .i64 lead]] w fun e w' => e = .returned (.bool true) ∧ Below w.heap.size w w' := by
  obtain ⟨C, M, hline, hOL, hC10⟩ := line_f l hA.2.1
  obtain ⟨L, ev, hmade, htv, hbytes, hL10⟩ := made_f st hB.2.1
  have HLN := Lib.hid (fun W (hb : Below w.heap.size w W) => frisketlaw12_line.calls 60 A c l C M W (Kd.C_below hA hb) hc hline)
  have HMD := Lib.hid (fun W (hb : Below w.heap.size w W) => frisketlaw12_Made.calls 24 B d st L ev W (Kd.C_below hB hb) hd hmade)
  obtain ⟨T, hT⟩ : ∃ x, chr tab = x := ⟨_, rfl⟩
  obtain ⟨D, hD⟩ : ∃ x, chr lead = x := ⟨_, rfl⟩
  have HCT := Lib.hid (fun W => chr_calls tab W)
  have HCD := Lib.hid (fun W => chr_calls lead W)
  have HTG := Lib.hid (And.intro (chr_g tab) (chr_fill tab))
  have HDG := Lib.hid (And.intro (chr_g lead) (chr_fill lead))
  rw [hT] at HTG
  rw [hD] at HDG
  simp only [hT] at HCT
  simp only [hD] at HCD
  clear hT hD
  have hok := ok4 (C := C) (M := M) hOL htv HTG.out.2 HDG.out.2
  have HOK := Lib.hid hok
  have HOL := Lib.hid hOL
  have H10 := Lib.hid (And.intro hC10 (And.intro hL10 hbytes))
  have HSn := Lib.hid (fun W => sane_calls W)
  clear hok hOL hC10 hL10 hbytes hline hmade htv hA hB
  go_enter Try.func4, Try.ntmps4
  go_upto_region 1 with fail
  go_quiet (fail)
  have HB1 := Lib.hid (show Below w.heap.size w ((w.alloc (.cells #[.slice A l.length c, .slice B st.length d, .int .i64 tab, .int .i64 lead] 44)).drewN nq) from ((Below.refl w.heap.size w).alloc (Nat.le_refl _) (.cells #[.slice A l.length c, .slice B st.length d, .int .i64 tab, .int .i64 lead] 44)).trans ⟨rfl, rfl, rfl, Nat.le_refl _, fun _ _ => rfl⟩)
  obtain ⟨W1, hW1⟩ : ∃ W, (w.alloc (.cells #[.slice A l.length c, .slice B st.length d, .int .i64 tab, .int .i64 lead] 44)).drewN nq = W := ⟨_, rfl⟩
  simp only [hW1] at HB1 ⊢
  clear hW1
  go_upto_region 3 with (go_at_call 13; refine (HLN.out _ HB1.out).mono ?_; rintro e w2 ⟨v0, v1, rfl, hR0, hR1, hb2⟩; obtain ⟨Ac, cc, rfl, hcc, hCC⟩ := Kd.R_reads hR0; obtain ⟨Am, cm, rfl, hcm, hCM⟩ := Kd.R_reads hR1; have HC2 := Lib.hid (And.intro hcc (And.intro hcm (And.intro hCC hCM))); have HB2 := Lib.hid (HB1.out.trans (hb2.mono HB1.out.size)); clear hcc hcm hCC hCM hR0 hR1 hb2)
  go_upto_region 4 with (go_at_call 14; refine (HMD.out _ HB2.out).mono ?_; rintro e w3 ⟨v, rfl, hR, hb3⟩; obtain ⟨As, cs, rfl, hcs, hCS⟩ := Kd.R_reads hR; have HC3 := Lib.hid (And.intro hcs (And.intro hCS hb3)); have HB3 := Lib.hid (HB2.out.trans (hb3.mono HB2.out.size)); clear hcs hCS hb3 hR)
  have hw3 : w.heap.size ≤ w3.heap.size := HB3.out.size
  have HB4 := Lib.hid (HB3.out.alloc hw3 (.cells #[.slice As L.length cs, .int .i64 ev] 26))
  have HN4 := Lib.hid ((Below.refl w3.heap.size w3).alloc (Nat.le_refl _) (.cells #[.slice As L.length cs, .int .i64 ev] 26))
  have HG4 := Lib.hid (show w3.heap.size < (w3.alloc (.cells #[.slice As L.length cs, .int .i64 ev] 26)).heap.size by simp)
  have HS4 := Lib.hid (show (w3.alloc (.cells #[.slice As L.length cs, .int .i64 ev] 26)).cell? ⟨w3.heap.size, 0, none⟩ = some (.slice As L.length cs) ∧ (w3.alloc (.cells #[.slice As L.length cs, .int .i64 ev] 26)).cell? ⟨w3.heap.size, 1, none⟩ = some (.int .i64 ev) by constructor <;> simp)
  obtain ⟨W4, hW4⟩ : ∃ W, w3.alloc (.cells #[.slice As L.length cs, .int .i64 ev] 26) = W := ⟨_, rfl⟩
  simp only [hW4] at HB4 HN4 HG4 HS4 ⊢
  clear hW4 hw3
  obtain ⟨g9, hg9⟩ : ∃ g, w3.heap.size = g := ⟨_, rfl⟩
  have HIN := Lib.hid (show ∀ W, Below W4.heap.size W4 W → ∀ At Al ct cl, SetIn W C M L ev T D Ac Am As At Al cc cm cs ct cl from fun W hb At Al ct cl => by
    have b3 : Below w3.heap.size w3 W := HN4.out.trans (hb.mono (Nat.le_of_lt HG4.out))
    have b2 : Below w2.heap.size w2 W := HC3.out.2.2.trans (b3.mono HC3.out.2.2.size)
    have e1 : T.f6 = [] := HTG.out.1.2.2
    have e2 : D.f6 = [] := HDG.out.1.2.2
    refine ⟨Kd.C_below HC2.out.2.2.1 b2, HC2.out.1, fun y hy x hx => ((HOL.out.1 y hy).1 x hx).2.2.2, Kd.C_below HC2.out.2.2.2 b2, HC2.out.2.1, Kd.C_below HC3.out.2.1 b3, HC3.out.1, H10.out.2.2, ?_, ?_, ?_, ?_⟩
    · rw [e1]; exact ⟨rfl, Nat.zero_le _, fun h => absurd h (Nat.lt_irrefl 0)⟩
    · rw [e1]; exact Nat.zero_le _
    · rw [e2]; exact ⟨rfl, Nat.zero_le _, fun h => absurd h (Nat.lt_irrefl 0)⟩
    · rw [e2]; exact Nat.zero_le _)
  simp only [hg9] at HG4 HS4 ⊢
  clear hg9
  have HN10 := Lib.hid (show C.length ≤ 200 ∧ sumL C C.length ≤ 200 by have := sum4 C (fun c hc => (HOL.out.1 c hc).2) C.length; have := H10.out.1; omega)
  have hE : resE C M L ev T D = 0 := by unfold resE; rw [HOK.out]; rfl
  have HSET := Lib.hid (fun W (hb : Below W4.heap.size W4 W) At Al ct cl => set_both W C M L ev T D Ac Am As At Al cc cm cs ct cl (HIN.out W hb At Al ct cl) HN10.out.1 HN10.out.2)
  have HAS := Lib.hid (fun W (hb : Below W4.heap.size W4 W) => as2_calls As cs L ev (by have := H10.out.2.1; omega) W (HIN.out W hb none none 0 0).s HC3.out.1)
  have HRS := Lib.hid (fun W (hb : Below W4.heap.size W4 W) B d (hd : L.length ≤ d) (hB : Kd.C k84 W B L.length (L.map cv)) At Al ct cl => rset2_calls W C M L ev T D Ac Am As At Al B cc cm cs ct cl d (HIN.out W hb At Al ct cl) hd hB ⟨fun y hy x hx => ((HOL.out.1 y hy).1 x hx).2, HTG.out.1.1.2, HDG.out.1.1.2⟩ (by have := H10.out.2.1; omega) HN10.out.1 HN10.out.2)
  have HFW := Lib.hid (resR_few (C := C) (M := M) (L := L) (ev := ev) (t := T) (l := D))
  obtain ⟨R, hR⟩ : ∃ x, resR C M L ev T D = x := ⟨_, rfl⟩
  simp only [hR, hE] at HSET HRS
  rw [hR] at HFW
  clear hR hE
  have HK := Lib.hid (show ∀ w' : World, Below W4.heap.size W4 w' → w'.cell? ⟨g9, 0, none⟩ = some (.slice As L.length cs) ∧ w'.cell? ⟨g9, 1, none⟩ = some (.int .i64 ev) from fun w' hb => ⟨(hb.cell (p := ⟨g9, 0, none⟩) HG4.out).trans HS4.out.1, (hb.cell (p := ⟨g9, 1, none⟩) HG4.out).trans HS4.out.2⟩)
  go_cut [10, 11] (fun v10 v11 wx => v11 = .int .i64 0 ∧ ∃ A6 n6, v10 = .slice A6 R.length n6 ∧ Hid (R.length ≤ n6 ∧ Kd.C k28 wx A6 R.length R ∧ Below W4.heap.size W4 wx))
  case first =>
    have hN : Below W4.heap.size W4 W4.drew := (Below.refl _ _).drew
    go_region_held3 (fun w' => w'.cell? ⟨g9, 0, none⟩ = some (.slice As L.length cs) ∧ w'.cell? ⟨g9, 1, none⟩ = some (.int .i64 ev))
      (exact HK.out _ (by assumption))
      (first | (go_at_call 15; first | ((with_reducible refine (HCT.out _).mono ?_); rintro e w5 ⟨At, ct, rfl, hb5⟩; have hN := Below.trans hN (hb5.mono hN.size)) | ((with_reducible refine (HCD.out _).mono ?_); rintro e w5 ⟨Al, cl, rfl, hb5⟩; have hN := Below.trans hN (hb5.mono hN.size))) | (go_at_call 9; refine (HSET.out _ hN _ _ _ _).mono ?_; rintro e w7 ⟨A6, n6, rfl, hn6, hC6, hb7⟩; have hN7 := Below.trans hN (hb7.mono hN.size)))
    all_goals
      have HBL := Lib.hid hN7
      have HN6 := Lib.hid hn6
      have HC6 := Lib.hid hC6
      go_wp2_with fail
      go_meet
    all_goals exact ⟨rfl, A6, n6, rfl, Lib.hid ⟨HN6.out, HC6.out, HBL.out⟩⟩
  case rest =>
    obtain ⟨rfl, A6, n6, rfl, H6⟩ := hcut
    obtain ⟨s0, s1⟩ := HK.out _ H6.out.2.2
    have HAS5 := Lib.hid (fun W (hb : Below wc.heap.size wc W) => HAS.out W (H6.out.2.2.trans (hb.mono H6.out.2.2.size)))
    have HRS5 := Lib.hid (fun W (hb : Below wc.heap.size wc W) => HRS.out W (H6.out.2.2.trans (hb.mono H6.out.2.2.size)))
    have hN : Below wc.heap.size wc wc := Below.refl _ _
    have HR6 := Lib.hid (And.intro H6.out.1 H6.out.2.1)
    go_upto_region 6 with (first | (go_at_call 11; refine (HAS5.out _ hN).mono ?_; rintro e w5 ⟨Br, dr, rfl, hdr, hCr, hb5⟩; have HCR := Lib.hid (And.intro hdr hCr); have hN := Below.trans hN (hb5.mono hN.size); clear s0 s1 hdr hCr hb5) | (go_at_call 15; first | ((with_reducible refine (HCT.out _).mono ?_); rintro e w5 ⟨At, ct, rfl, hb5⟩; have HCR := Lib.hid (And.intro HCR.out.1 (Kd.C_below HCR.out.2 hb5)); have hN := Below.trans hN (hb5.mono hN.size); clear hb5) | ((with_reducible refine (HCD.out _).mono ?_); rintro e w5 ⟨Al, cl, rfl, hb5⟩; have HCR := Lib.hid (And.intro HCR.out.1 (Kd.C_below HCR.out.2 hb5)); have hN := Below.trans hN (hb5.mono hN.size); clear hb5)) | (go_at_call 10; refine (HRS5.out _ hN _ _ HCR.out.1 HCR.out.2 _ _ _ _).mono ?_; rintro e w7 ⟨A7, n7, rfl, hn7, hC7, hb7⟩; have hN7 := Below.trans hN (hb7.mono hN.size); have HC7 := Lib.hid (And.intro hn7 hC7); clear hn7 hC7 hb7))
    have HN7 := Lib.hid hN7
    have HSA := Lib.hid (same_calls A6 A7 n6 n7 R HR6.out.2.2.1 HFW.out w7 (Kd.C_below HR6.out.2 hN7) HR6.out.1 HC7.out.2 HC7.out.1)
    clear hN hN7
    go_wp2_with fail
    refine HSA.out.mono ?_
    rintro e w8 ⟨rfl, hb8⟩
    go_wp2_with fail
    refine (HSn.out _).mono ?_
    rintro e w9 ⟨rfl, hb9⟩
    go_wp2_with fail
    go_ret
    have b7 : Below W4.heap.size W4 w7 := H6.out.2.2.trans (HN7.out.mono H6.out.2.2.size)
    have b8 : Below W4.heap.size W4 w8 := b7.trans (hb8.mono b7.size)
    have b9 : Below W4.heap.size W4 w9 := b8.trans (hb9.mono b8.size)
    exact ⟨rfl, HB4.out.trans (b9.mono HB4.out.size)⟩
end Go.Proofs.Ytmmfojaeahcohaa

/- The reference of layer 26, as printed, is the plain words. -/
import Derived.Test.YtmoloaneidledaaDoorR26E
import Derived.Test.YtmoloaneidledaaDoorRefB
set_option linter.unusedVariables false
set_option linter.unusedSimpArgs false
namespace Go.Proofs.YtmoloaneidledaaDoor
open Go.Lib Go.RowKit Go.Proofs.YtmoloaneidledaaDoorW.PrintWords Go.Proofs.YtmoloaneidledaaDoor.Pdata

def c58 (f : Fld) : S58 := ⟨f.c, f.t⟩
def c69 (f : Fld) : S69 := ⟨f.c, f.t⟩
theorem wrapI (n : Int) (h0 : -9223372036854775808 ≤ n) (h1 : n ≤ 9223372036854775807) : wrap64 n = n := by unfold wrap64; omega
theorem wrapS (a n : Nat) (h : a < n) (hn : n ≤ 9223372036854775807) : wrap64 ((a : Int) + 1) = ((a + 1 : Nat) : Int) := by rw [wrapI _ (by omega) (by omega)]; rfl
theorem bt_pk (s : ByteArray) (a : Nat) (h : a < s.size) : bt s (a : Int) = (pk s a : Int) := by
  have : a < s.data.toList.length := by rw [Array.length_toList]; exact h
  simp [bt, pk, h]
theorem tol0 (n : ByteArray) : n.toList = [] ↔ n.size = 0 := by
  rw [Lib.toList_data, ← List.length_eq_zero_iff, Array.length_toList]; rfl
theorem pk_list (s : ByteArray) (i : Nat) (h : i < s.data.toList.length) : (pk s i : Int) = ((s.data.toList[i]).toNat : Int) := by
  have h' : i < s.size := by rw [Array.length_toList] at h; exact h
  rw [pk_get s i h']; rfl
/-! Lines. -/
theorem lines_l (s : ByteArray) (hs : s.size ≤ 1000000) : ∀ f i (acc : List ByteArray) (cur : List UInt8), s.size ≤ i + f → i ≤ s.size → acc.length ≤ i → cur.length ≤ i →
    frisketref26_Lines.l0 (f + 1) s acc (tx cur) (i : Nat) = some (acc ++ linesP (s.data.toList.drop i) cur)
  | f, i, acc, cur, h, hi, ha, hc => by
    have hl : s.data.toList.length = s.size := by rw [Array.length_toList]; rfl
    rw [frisketref26_Lines.l0]
    by_cases hlt : i < s.size
    · obtain ⟨f', rfl⟩ : ∃ f', f = f' + 1 := ⟨f - 1, by omega⟩
      have hd : s.data.toList.drop i = s.data.toList[i]'(by omega) :: s.data.toList.drop (i + 1) := List.drop_eq_getElem_cons (by omega)
      rw [if_pos (by omega), if_pos (by omega), bt_pk s i hlt, pk_list s i (by omega), hd, linesP, wrapS i s.size hlt (by omega)]
      obtain ⟨c, hcc⟩ : ∃ c, s.data.toList[i]'(by omega) = c := ⟨_, rfl⟩
      rw [hcc]
      by_cases h10 : c = 10
      · rw [if_pos (by rw [h10]; rfl), if_pos h10, if_pos (by omega)]
        have := lines_l s hs f' (i + 1) (acc ++ [tx cur]) [] (by omega) (by omega) (by simp; omega) (by simp)
        rw [show (⟨#[]⟩ : ByteArray) = tx [] from rfl, this, List.append_assoc]
        rfl
      · have hn : ¬ ((c.toNat : Int) = 10) := fun e => h10 (UInt8.toNat_inj.1 (by simpa using (by omega : c.toNat = 10)))
        have hx : s.extract i (i + 1) = tx [c] := by
          rw [show s.extract i (i + 1) = (tx s.data.toList).extract i (i + 1) by rw [tx_of], tx_extract, List.drop_take, hd, hcc, show i + 1 - i = 1 by omega]
          rfl
        rw [if_neg hn, if_neg h10, if_pos (by omega), if_pos (by omega), show ((i : Int)).toNat = i from rfl, show (((i + 1 : Nat) : Int)).toNat = i + 1 from rfl, hx, if_pos (by rw [tx_size, tx_size]; simp; omega), tx_append]
        exact lines_l s hs f' (i + 1) acc (cur ++ [c]) (by omega) (by omega) (by omega) (by simp; omega)
    · rw [if_neg (by omega), List.drop_eq_nil_of_le (by omega), linesP]
      by_cases hcn : cur = []
      · subst hcn
        rw [if_pos ((tol0 _).2 (by rw [tx_size]; rfl)), if_pos rfl, List.append_nil]
      · rw [if_neg (fun e => hcn (List.length_eq_zero_iff.1 (by rw [← tx_size]; exact (tol0 _).1 e))), if_neg hcn, if_pos (by omega)]
theorem lines_f (s : ByteArray) (hs : s.size ≤ 1000000) (k : Nat) (hk : s.size + 1 ≤ k) : frisketref26_Lines.f k s = some (linesP s.data.toList []) := by
  obtain ⟨g, rfl⟩ : ∃ g, k = g + 1 := ⟨k - 1, by omega⟩
  have := lines_l s hs g 0 [] [] (by omega) (Nat.zero_le _) (Nat.le_refl _) (Nat.le_refl _)
  exact this
theorem lines_len : ∀ (l s : List UInt8), (linesP l s).length ≤ l.length + 1
  | [], s => by rw [linesP]; split <;> simp
  | c :: cs, s => by
    rw [linesP]
    split
    · have := lines_len cs []; simp; omega
    · have := lines_len cs (s ++ [c]); simp; omega
theorem lines_size : ∀ (l s : List UInt8), ∀ x ∈ linesP l s, x.size ≤ s.length + l.length
  | [], s, x, h => by
    rw [linesP] at h
    split at h
    · cases h
    · simp at h; subst h; rw [tx_size]; simp
  | c :: cs, s, x, h => by
    rw [linesP] at h
    split at h
    · rcases List.mem_cons.1 h with rfl | h
      · rw [tx_size]; omega
      · have := lines_size cs [] x h; simp at this ⊢; omega
    · have := lines_size cs (s ++ [c]) x h; simp at this ⊢; omega
/-! A field of a letter. -/
theorem rd69 (r : List Fld) (i : Nat) (h : i < r.length) : rd_T69 (r.map c69) (i : Int) = c69 r[i] := by
  simp [rd_T69, h]
theorem hasF_at (r : List Fld) (c : Int) (k : Nat) (h : k < r.length) : hasF (r.drop k) c = (decide (r[k].c = c) || hasF (r.drop (k + 1)) c) := by
  rw [List.drop_eq_getElem_cons h]; rfl
theorem has_l (r : List Fld) (c : Int) (hr : r.length ≤ 9223372036854775807) : ∀ f i, r.length ≤ i + f → frisketref26_has.l0 (f + 1) (r.map c69) c (i : Nat) = some (hasF (r.drop i) c)
  | f, i, h => by
    rw [frisketref26_has.l0]
    simp only [List.length_map]
    by_cases hlt : i < r.length
    · obtain ⟨f', rfl⟩ : ∃ f', f = f' + 1 := ⟨f - 1, by omega⟩
      rw [if_pos (by omega), if_pos (by omega), rd69 r i hlt, wrapS i r.length hlt hr, hasF_at r c i hlt, has_l r c hr f' (i + 1) (by omega), show (c69 r[i]).f0 = r[i].c from rfl]
      by_cases hc : r[i].c = c
      · rw [if_pos hc, decide_eq_true hc]; rfl
      · rw [if_neg hc, decide_eq_false hc]; rfl
    · rw [if_neg (by omega), List.drop_eq_nil_of_le (by omega)]; rfl
theorem has_f (r : List Fld) (c : Int) (hr : r.length ≤ 9223372036854775807) (k : Nat) (hk : r.length + 1 ≤ k) : frisketref26_has.f k (r.map c69) c = some (hasF r c) := by
  obtain ⟨g, rfl⟩ : ∃ g, k = g + 1 := ⟨k - 1, by omega⟩
  exact has_l r c hr g 0 (by omega)
theorem cap_f (c : Int) : frisketref26_capital.f c = some (capB c) := by
  unfold frisketref26_capital.f capB
  by_cases h : 65 ≤ c
  · rw [if_pos h, decide_eq_true h]; rfl
  · rw [if_neg (by omega), decide_eq_false h]; rfl
/-! Data. -/
def conv (r : List (List Fld) × Int) : List (List S69) × Int := (r.1.map (List.map c69), r.2)
/-- The end, an empty line having come. -/
def finN : St → List (List Fld) × Int
  | .bad e => ([], e)
  | .on d r => if 500 < d.length then ([], 2) else (d, 0)
theorem fin_empty (S : St) : finN (stepS S (tx [])) = finS S := by
  cases S with
  | bad e => rfl
  | on d r => rw [step_empty]; rfl
theorem addT_snoc (q : List Fld) (g : Fld) (x : ByteArray) : addT (q ++ [g]) x = q ++ [⟨g.c, g.t ++ tx [32] ++ x⟩] := by simp [addT]
theorem rdl (L : List ByteArray) (i : Nat) (h : i < L.length) : rdOf ByteArray.empty L (i : Int) = L[i] := by
  simp [rdOf, h]
theorem data_l (L : List ByteArray) (hL : L.length ≤ 2000000) (hM : ∀ x ∈ L, x.size ≤ 1000000) : ∀ m i (d : List (List Fld)) (r : List Fld) (k : Nat), L.length = i + m → d.length ≤ i → r.length ≤ i → (∀ f ∈ r, f.t.size ≤ i * 1000001) →
    3 * m + r.length + m + 10 ≤ k → frisketref26_Data.l0 k (d.map (List.map c69)) (r.map c69) L (i : Nat) = some (conv (finN ((L.drop i).foldl stepS (.on d r))))
  | 0, i, d, r, k, h, hd, hr, ht, hk => by
    obtain ⟨k, rfl⟩ : ∃ q, k = q + 1 := ⟨k - 1, by omega⟩
    rw [frisketref26_Data.l0, if_neg (by omega), List.drop_eq_nil_of_le (by omega)]
    simp only [List.foldl_nil, finN, List.length_map]
    by_cases h5 : 500 < d.length
    · rw [if_pos (by omega), if_pos h5]; rfl
    · rw [if_neg (by omega), if_neg h5]; rfl
  | m + 1, i, d, r, k, h, hd, hr, ht, hk => by
    obtain ⟨k, rfl⟩ : ∃ q, k = q + 3 := ⟨k - 3, by omega⟩
    have hlt : i < L.length := by omega
    have hdr : L.drop i = L[i] :: L.drop (i + 1) := List.drop_eq_getElem_cons hlt
    have hx := hM L[i] (List.getElem_mem hlt)
    have ih := data_l L hL hM m (i + 1)
    rw [frisketref26_Data.l0, if_pos (by omega), if_pos (by omega), rdl L i hlt, hdr, List.foldl_cons, wrapS i L.length hlt (by omega)]
    obtain ⟨x, hxx⟩ : ∃ x, L[i] = x := ⟨_, rfl⟩
    rw [hxx] at hx ⊢
    clear hxx hdr
    have hml : (r.map c69).length = r.length := List.length_map _
    have hwi := wrapS i L.length hlt (by omega)
    have hti : (i + 1) * 1000001 = i * 1000001 + 1000001 := by omega
    have ht1 : ∀ f ∈ r, f.t.size ≤ (i + 1) * 1000001 := fun f hf => by rw [hti]; exact Nat.le_trans (ht f hf) (Nat.le_add_right _ _)
    have hi6 : i * 1000001 ≤ 2000002000000 := by omega
    rw [stepS_on]
    simp only [List.length_map]
    by_cases hx0 : x.size = 0
    · rw [if_pos ((tol0 x).2 hx0), if_pos hx0]
      by_cases hn : r = []
      · subst hn
        rw [if_neg (by rw [wrapI _ (by simp) (by simp)]; simp)]
        have := ih d [] (k + 2) (by omega) (by omega) (by simp) (by simp) (by simp at hk ⊢; omega)
        exact this
      · have h1 : 1 ≤ r.length := by
          cases r with
          | nil => exact absurd rfl hn
          | cons => simp
        rw [if_pos (by rw [wrapI _ (by omega) (by omega)]; omega), if_pos (by omega)]
        have := ih (d ++ [r]) [] (k + 2) (by omega) (by simp; omega) (by simp) (by simp) (by simp; omega)
        rw [List.map_append] at this
        rw [flush, if_neg hn]
        exact this
    rw [if_neg (fun e => hx0 ((tol0 x).1 e)), if_neg hx0, if_pos (by omega)]
    have hb0 : bt x 0 = (pk x 0 : Int) := bt_pk x 0 (by omega)
    rw [hb0]
    by_cases hp : pk x 0 = 37
    · rw [if_pos (by omega), if_neg (by omega), frisketref26_Data.j1, if_neg (by decide), if_pos (by omega), hb0, if_pos (by omega)]
      by_cases h4 : x.size < 4
      · rw [if_pos (by omega), if_pos (.inl h4), frisketref26_Data.j2, if_pos rfl, foldl_bad]; rfl
      have e1 : bt x 1 = (pk x 1 : Int) := bt_pk x 1 (by omega)
      have e2 : bt x 2 = (pk x 2 : Int) := bt_pk x 2 (by omega)
      rw [if_neg (by omega), if_pos (by omega), e1, cap_f, Option.bind_some]
      by_cases hc : capB (pk x 1) = true
      · rw [if_pos hc, if_pos (by omega), frisketref26_Data.j2, e2]
        by_cases h2 : pk x 2 = 32
        · have hg4 : ¬ (x.size < 4 ∨ capB (pk x 1) = false ∨ pk x 2 ≠ 32) := by
            rintro (q | q | q)
            · exact h4 q
            · rw [hc] at q; cases q
            · exact q h2
          rw [if_neg (by rw [h2]; decide), if_pos (by omega), e1, if_neg hg4]
          have hf : ∀ f ∈ r ++ [(⟨pk x 1, x.extract 3 x.size⟩ : Fld)], f.t.size ≤ (i + 1) * 1000001 := fun f hf => by
            rcases List.mem_append.1 hf with q | q
            · exact ht1 f q
            · simp at q
              subst q
              simp only [ByteArray.size_extract]
              omega
          have := ih d (r ++ [⟨pk x 1, x.extract 3 x.size⟩]) k (by omega) (by omega) (by simp; omega) hf (by simp; omega)
          rw [List.map_append] at this
          by_cases hA : pk x 1 = 65
          · rw [if_pos (by omega), if_pos (by omega), if_pos (by omega), if_neg (show ¬ (pk x 1 ≠ 65 ∧ hasF r (pk x 1) = true) from fun q => q.1 hA), hwi]
            exact this
          · rw [if_neg (by omega), has_f r _ (by omega) k (by omega), Option.bind_some]
            by_cases hh : hasF r (pk x 1) = true
            · rw [if_pos hh, if_pos (show pk x 1 ≠ 65 ∧ hasF r (pk x 1) = true from ⟨hA, hh⟩), foldl_bad]; rfl
            · rw [if_neg hh, if_pos (by omega), if_pos (by omega), if_neg (show ¬ (pk x 1 ≠ 65 ∧ hasF r (pk x 1) = true) from fun q => hh q.2), hwi]
              exact this
        · rw [if_pos (by rw [bne_iff_ne]; omega), if_pos (.inr (.inr h2)), foldl_bad]; rfl
      · rw [if_neg hc, frisketref26_Data.j2, if_pos rfl, if_pos (.inr (.inl (by simpa using hc))), foldl_bad]; rfl
    · rw [if_neg (by omega), if_pos hp, frisketref26_Data.j1]
      by_cases hn : r = []
      · subst hn
        rw [if_pos (by rw [wrapI _ (by simp) (by simp)]; simp), if_pos rfl, foldl_bad]; rfl
      · rcases List.eq_nil_or_concat r with q | ⟨q, g, hq⟩
        · exact absurd q hn
        rw [List.concat_eq_append] at hq
        have hql : r.length = q.length + 1 := by rw [hq]; simp
        have hw : wrap64 ((r.length : Int) - 1) = (q.length : Int) := by rw [hql, wrapI _ (by omega) (by omega)]; omega
        have hg : r[q.length]'(by omega) = g := by simp [hq]
        have hgt := ht g (by rw [hq]; simp)
        rw [hw, if_neg (by rw [decide_eq_false (by omega)]; decide), if_neg hn, if_pos (by omega), hb0, if_neg (by omega), if_pos (by omega), if_pos (by omega), rd69 r q.length (by omega), hg]
        have hs1 : (g.t ++ (⟨#[32]⟩ : ByteArray)).size = g.t.size + 1 := by rw [ByteArray.size_append]; rfl
        rw [if_pos (show (c69 g).f1.size + 1 ≤ 9223372036854775807 by show g.t.size + 1 ≤ _; omega), if_pos (show ((c69 g).f1 ++ (⟨#[32]⟩ : ByteArray)).size + x.size ≤ 9223372036854775807 by show (g.t ++ (⟨#[32]⟩ : ByteArray)).size + x.size ≤ _; rw [hs1]; omega)]
        have hset : (r.map c69).set q.length (⟨(c69 g).f0, ((c69 g).f1 ++ (⟨#[32]⟩ : ByteArray)) ++ x⟩ : S69) = (addT r x).map c69 := by
          rw [hq, addT_snoc, List.map_append, List.map_append, List.set_append_right _ _ (by simp)]
          simp
          rfl
        have hf : ∀ f ∈ addT r x, f.t.size ≤ (i + 1) * 1000001 := fun f hf => by
          rw [hq, addT_snoc] at hf
          rcases List.mem_append.1 hf with z | z
          · exact ht1 f (by rw [hq]; exact List.mem_append_left _ z)
          · simp at z
            subst z
            simp only [ByteArray.size_append, tx_size, List.length_cons, List.length_nil]
            omega
        have := ih d (addT r x) (k + 1) (by omega) (by omega) (by rw [addT_len]; omega) hf (by rw [addT_len]; omega)
        rw [show ((q.length : Int)).toNat = q.length from rfl, hset, hwi]
        exact this
theorem data_f (s : ByteArray) (hs : s.size ≤ 1000000) : frisketref26_Data.f (5 * s.size + 100) s = some (conv (dataM s)) := by
  have hl := lines_len s.data.toList []
  have hsl : s.data.toList.length = s.size := by rw [Array.length_toList]; rfl
  unfold frisketref26_Data.f
  rw [lines_f s hs _ (by omega), Option.bind_some, if_pos (by omega)]
  have := data_l (linesP s.data.toList [] ++ [tx []]) (by simp; omega) (fun x hx => by
    rcases List.mem_append.1 hx with h | h
    · have := lines_size _ _ x h
      simp at this
      omega
    · simp at h
      subst h
      rw [tx_size]; simp) ((linesP s.data.toList []).length + 1) 0 [] [] (5 * s.size + 100) (by simp) (Nat.le_refl _) (Nat.le_refl _) (by simp) (by simp; omega)
  rw [List.drop_zero, List.foldl_append, List.foldl_cons, List.foldl_nil, fin_empty] at this
  rw [data_lines, List.foldl_append, List.foldl_cons, List.foldl_nil]
  refine this.trans ?_
  congr 2
  generalize (linesP s.data.toList []).foldl stepS (.on [] []) = S
  cases S with
  | bad e => rfl
  | on d r => rw [step_empty, finS, finS, flush_flush]
end Go.Proofs.YtmoloaneidledaaDoor

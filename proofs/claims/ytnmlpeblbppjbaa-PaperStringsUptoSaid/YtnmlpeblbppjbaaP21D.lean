/- The reference of layer 21: Strings says what the plain model says. -/
import Derived.Test.YtnmlpeblbppjbaaP21C
set_option linter.unusedVariables false
set_option linter.unusedSimpArgs false
namespace Go.Proofs.Ytnmlpeblbppjbaa
open Go.Lib Go.RowKit Go.MapLit Go.Proofs.YtnmlpeblbppjbaaW.PrintWords

def cS (p : Lab) : PStrings.S30 := ⟨p.1, p.2⟩
theorem rdS (L : List Lab) (a : Nat) (h : a < L.length) : PStrings.rd_T30 (L.map cS) (a : Int) = cS L[a] := by
  simp [PStrings.rd_T30, List.getD, h]
/-- Labels whose texts are no longer than texts are. -/
def Small (L : List Lab) : Prop := ∀ p ∈ L, p.1.size ≤ 140737488351232 ∧ p.2.size ≤ 140737488351232
theorem lastO_mem (L : List Lab) (n v : ByteArray) (h : lastO L n = some v) : ∃ p ∈ L, p.2 = v := by
  revert h
  refine snoc_ind (p := fun L => lastO L n = some v → ∃ p ∈ L, p.2 = v) (fun h => by simp [lastO] at h) (fun L x ih h => ?_) L
  rw [lastO_snoc] at h
  split at h
  · injection h with h; exact ⟨x, by simp, h⟩
  · obtain ⟨p, hp, e⟩ := ih h; exact ⟨p, by simp [hp], e⟩
theorem lastO_small (L : List Lab) (hL : Small L) (n : ByteArray) : ((lastO L n).getD ByteArray.empty).size ≤ 140737488351232 := by
  cases h : lastO L n with
  | none => exact Nat.zero_le _
  | some v =>
    obtain ⟨p, hp, rfl⟩ := lastO_mem L n v h
    exact (hL p hp).2
theorem lineS_size (n v : ByteArray) : (lineS n v).size = 6 + n.size + 1 + v.size + 1 := by
  unfold lineS
  simp only [ByteArray.size_append]
  rfl
theorem textR_size (L : List Lab) (hL : Small L) : ∀ i, i ≤ L.length → (textR L i).size ≤ i * 300000000000000
  | 0, _ => Nat.zero_le _
  | i + 1, h => by
    have ih := textR_size L hL i (by omega)
    have h1 := lastO_small L hL L[i].1
    have h2 := (hL L[i] (List.getElem_mem (by omega))).1
    rw [textR_step L i (by omega), Nat.succ_mul]
    obtain ⟨x, hx⟩ : ∃ x, i * 300000000000000 = x := ⟨_, rfl⟩
    rw [hx] at ih ⊢
    split
    · rw [ByteArray.size_append, lineS_size]; omega
    · omega
theorem all_bound (L : List Lab) : ∃ B, ∀ p ∈ L, p.1.size + p.2.size + 6 ≤ B := by
  induction L with
  | nil => exact ⟨0, fun p h => by cases h⟩
  | cons x L ih =>
    obtain ⟨B, hB⟩ := ih
    refine ⟨B + (x.1.size + x.2.size + 6), fun p hp => ?_⟩
    rw [List.mem_cons] at hp
    rcases hp with rfl | hp
    · omega
    · have := hB p hp; omega
theorem l0_f (L : List Lab) (hL : Small L) (hn : L.length ≤ 1000) (B : Nat) (hB : ∀ p ∈ L, p.1.size + p.2.size + 6 ≤ B) (G : Nat) (hG : B ≤ G) : ∀ m i, i + m = L.length →
    PStrings.frisketref21_Strings.l0 (G + m + 1) (L.map cS) (i : Nat) = if ((L.drop i).all fun p => fitsB p.1 p.2) = true then PStrings.frisketref21_Strings.l1 G (L.map cS) (⟨#[]⟩ : ByteArray) 0 else some ((⟨#[]⟩ : ByteArray), 1)
  | 0, i, h => by
    rw [PStrings.frisketref21_Strings.l0, List.length_map, if_neg (by omega), List.drop_eq_nil_of_le (by omega)]
    rfl
  | m + 1, i, h => by
    have hlt : i < L.length := by omega
    have hm := List.getElem_mem hlt
    have e1 : (cS L[i]).f0 = L[i].1 := rfl
    have e2 : (cS L[i]).f1 = L[i].2 := rfl
    rw [PStrings.frisketref21_Strings.l0, List.length_map, if_pos (by omega), if_pos (by omega), rdS L i hlt, e1, e2, good_f _ _ (hL _ hm).1 (hL _ hm).2 _ (by have := hB _ hm; omega), Option.bind_some, List.drop_eq_getElem_cons hlt, List.all_cons]
    cases hq : fitsB L[i].1 L[i].2
    · rw [if_neg (by decide), if_neg (by simp)]
    · rw [if_pos rfl, wrap_s i L.length hlt (by omega), show G + (m + 1) = G + m + 1 from rfl, l0_f L hL hn B hB G hG m (i + 1) (by omega)]
      rfl
theorem firstB_step (L : List Lab) (k : Nat) (h : k < L.length) (n : ByteArray) : firstB L (k + 1) n = (firstB L k n && !decide (L[k].1 = n)) := by
  unfold firstB
  rw [List.take_add_one, List.getElem?_eq_getElem h, List.all_append]
  simp
theorem list_eq (a b : ByteArray) : a.toList = b.toList ↔ a = b := by
  rw [Lib.toList_data, Lib.toList_data]
  constructor
  · intro h
    obtain ⟨⟨a⟩⟩ := a
    obtain ⟨⟨b⟩⟩ := b
    exact congrArg (fun l => (⟨⟨l⟩⟩ : ByteArray)) h
  · rintro rfl; rfl
theorem l2_f (L : List Lab) (hL : Small L) (hn : L.length ≤ 1000) (i : Nat) (hi : i < L.length) (F : Nat) (x5 : ByteArray) (hx : x5.size ≤ 1000 * 300000000000000) : ∀ r k, k + r = L.length →
    PStrings.frisketref21_Strings.l2 (F + r + 1) (L.map cS) x5 (i : Nat) (firstB L (min i k) L[i].1) ((lastO (L.take k) L[i].1).getD L[i].2) (k : Nat) =
      if firstB L i L[i].1 = true then PStrings.frisketref21_Strings.l1 F (L.map cS) (x5 ++ lineS L[i].1 ((lastO L L[i].1).getD L[i].2)) ((i + 1 : Nat) : Int) else PStrings.frisketref21_Strings.l1 F (L.map cS) x5 ((i + 1 : Nat) : Int)
  | 0, k, h => by
    have hk : k = L.length := by omega
    have h1 : ((lastO L L[i].1).getD L[i].2).size ≤ 140737488351232 := by
      cases q : lastO L L[i].1 with
      | none => exact (hL _ (List.getElem_mem hi)).2
      | some v =>
        obtain ⟨p, hp, rfl⟩ := lastO_mem L _ v q
        exact (hL p hp).2
    have h2 := (hL L[i] (List.getElem_mem hi)).1
    have e1 : (cS L[i]).f0 = L[i].1 := rfl
    have z6 : (⟨#[46, 100, 115, 32, 114, 58]⟩ : ByteArray).size = 6 := rfl
    have z1 : (⟨#[32]⟩ : ByteArray).size = 1 := rfl
    have z0 : (⟨#[10]⟩ : ByteArray).size = 1 := rfl
    rw [PStrings.frisketref21_Strings.l2, List.length_map, if_neg (by omega), hk, List.take_length, show min i L.length = i by omega]
    by_cases hf : firstB L i L[i].1 = true
    · rw [if_pos hf, if_pos hf, if_pos (by omega), if_pos (by omega), rdS L i hi, e1]
      rw [if_pos (by omega), if_pos (by rw [ByteArray.size_append, z6]; omega), if_pos (by simp only [ByteArray.size_append, z6, z1]; omega), if_pos (by simp only [ByteArray.size_append, z6, z1]; omega), if_pos (by simp only [ByteArray.size_append, z6, z1, z0]; omega), wrap_s i L.length hi (by omega)]
      rfl
    · rw [if_neg hf, if_neg hf, wrap_s i L.length hi (by omega)]
  | r + 1, k, h => by
    have hlt : k < L.length := by omega
    have e1 : (cS L[i]).f0 = L[i].1 := rfl
    have e2 : (cS L[k]).f0 = L[k].1 := rfl
    have e3 : (cS L[k]).f1 = L[k].2 := rfl
    have ih := l2_f L hL hn i hi F x5 hx r (k + 1) (by omega)
    have ht : L.take (k + 1) = L.take k ++ [L[k]] := by rw [List.take_add_one, List.getElem?_eq_getElem hlt]; rfl
    rw [ht, lastO_snoc] at ih
    rw [PStrings.frisketref21_Strings.l2, List.length_map, if_pos (by omega), if_pos (by omega), if_pos (by omega), if_pos (by omega), rdS L i hi, rdS L k hlt, e1, e2, e3, wrap_s k L.length hlt (by omega), show F + (r + 1) = F + r + 1 from rfl]
    by_cases he : L[k].1 = L[i].1
    · rw [if_pos ((list_eq _ _).2 he)]
      rw [if_pos he.symm, Option.getD_some] at ih
      rw [← ih]
      by_cases hki : k < i
      · have hs := firstB_step L k hlt L[i].1
        rw [show min i (k + 1) = k + 1 by omega, hs, decide_eq_true he, show min i k = k by omega]
        simp only [Bool.not_true, Bool.and_false]
        by_cases hf : firstB L k L[i].1 = true
        · rw [if_pos hf, decide_eq_false (by omega : ¬ ((k : Int) ≥ (i : Int)))]
        · rw [if_neg hf]
      · rw [show min i (k + 1) = i by omega, show min i k = i by omega]
        by_cases hf : firstB L i L[i].1 = true
        · rw [if_pos hf, decide_eq_true (by omega : (k : Int) ≥ (i : Int)), hf]
        · rw [if_neg hf]
          rw [Bool.not_eq_true] at hf
          rw [hf]
    · rw [if_neg (fun q => he ((list_eq _ _).1 q))]
      rw [if_neg (fun q => he q.symm)] at ih
      rw [← ih]
      by_cases hki : k < i
      · have hs := firstB_step L k hlt L[i].1
        rw [show min i (k + 1) = k + 1 by omega, hs, decide_eq_false he, show min i k = k by omega]
        simp only [Bool.not_false, Bool.and_true]
      · rw [show min i (k + 1) = i by omega, show min i k = i by omega]
theorem l1_f (L : List Lab) (hL : Small L) (hn : L.length ≤ 1000) (E : Nat) : ∀ m i, i + m = L.length →
    PStrings.frisketref21_Strings.l1 (E + m * (L.length + 2) + 1) (L.map cS) (textR L i) (i : Nat) = some (textP L, 0)
  | 0, i, h => by
    have hi : i = L.length := by omega
    rw [PStrings.frisketref21_Strings.l1, List.length_map, if_neg (by omega), hi, textR_all]
  | m + 1, i, h => by
    have hlt : i < L.length := by omega
    have e3 : (cS L[i]).f1 = L[i].2 := rfl
    have hz := textR_size L hL i (by omega)
    have h2 := l2_f L hL hn i hlt (E + m * (L.length + 2) + 1) (textR L i) (Nat.le_trans hz (Nat.mul_le_mul_right _ (by omega))) L.length 0 (by omega)
    rw [Nat.min_zero, List.take_zero] at h2
    have hd : (lastO L L[i].1).getD L[i].2 = (lastO L L[i].1).getD ByteArray.empty := by
      cases q : lastO L L[i].1 with
      | none => exact absurd rfl ((lastO_none L L[i].1).1 q L[i] (List.getElem_mem hlt))
      | some v => rfl
    rw [PStrings.frisketref21_Strings.l1, List.length_map, if_pos (by omega), if_pos (by omega), rdS L i hlt, e3]
    have ef : E + (m + 1) * (L.length + 2) = E + m * (L.length + 2) + 1 + L.length + 1 := by rw [Nat.succ_mul]; omega
    rw [ef]
    have h2' : PStrings.frisketref21_Strings.l2 (E + m * (L.length + 2) + 1 + L.length + 1) (L.map cS) (textR L i) (i : Nat) true L[i].2 0 = _ := h2
    rw [h2', hd]
    have ih := l1_f L hL hn E m (i + 1) (by omega)
    rw [textR_step L i hlt] at ih
    split
    · rename_i hf; rw [if_pos hf] at ih; exact ih
    · rename_i hf; rw [if_neg hf] at ih; exact ih
theorem strings_f (L : List Lab) (hL : Small L) (hn : L.length ≤ 1000) : ∃ k, PStrings.frisketref21_Strings.f k (L.map cS) = some (textO L) := by
  obtain ⟨B, hB⟩ := all_bound L
  refine ⟨B + L.length * (L.length + 2) + 1 + L.length + 1, ?_⟩
  unfold PStrings.frisketref21_Strings.f textO
  have h0 := l0_f L hL hn B hB (B + L.length * (L.length + 2) + 1) (by omega) L.length 0 (by omega)
  refine Eq.trans h0 ?_
  have h1 := l1_f L hL hn B L.length 0 (by omega)
  rw [List.drop_zero]
  split
  · exact h1
  · rfl
end Go.Proofs.Ytnmlpeblbppjbaa

/- Plain laws on names: from what is written the name can be read again. -/
import Derived.Test.YtbhmhoocohiieaaPureB
set_option linter.unusedVariables false
set_option linter.unusedSimpArgs false
namespace Go.Proofs.Ytbhmhoocohiieaa
open Go.Shelf Go.RowKit Go.Lib Go.MapLit

theorem baApp (a b : ByteArray) : (a ++ b).data.toList = a.data.toList ++ b.data.toList := by
  rw [ByteArray.data_append]; simp
def hexV (c : UInt8) : Nat := if c.toNat < 58 then c.toNat - 48 else c.toNat - 87
def unhexL : List UInt8 → List UInt8
  | a :: b :: l => UInt8.ofNat (16 * hexV a + hexV b) :: unhexL l
  | _ => []
def decL : List UInt8 → List UInt8
  | [] => []
  | [c] => [c]
  | _ :: rest => if rest.dropLast = [97, 109, 112] then [38] else if rest.dropLast = [108, 116] then [60] else if rest.dropLast = [103, 116] then [62] else if rest.dropLast = [113, 117, 111, 116] then [34] else
    match rest.dropLast with
    | 35 :: h => unhexL h
    | l => l

theorem hexAt_one (n : Nat) (hn : n < 16) : hexAt n = ⟨#[UInt8.ofNat (hexC n)]⟩ := by
  have : n = 0 ∨ n = 1 ∨ n = 2 ∨ n = 3 ∨ n = 4 ∨ n = 5 ∨ n = 6 ∨ n = 7 ∨ n = 8 ∨ n = 9 ∨ n = 10 ∨ n = 11 ∨ n = 12 ∨ n = 13 ∨ n = 14 ∨ n = 15 := by omega
  rcases this with h | h | h | h | h | h | h | h | h | h | h | h | h | h | h | h <;> subst h <;> decide
theorem hexV_at (n : Nat) (hn : n < 16) : hexV (UInt8.ofNat (hexC n)) = n := by
  have : n = 0 ∨ n = 1 ∨ n = 2 ∨ n = 3 ∨ n = 4 ∨ n = 5 ∨ n = 6 ∨ n = 7 ∨ n = 8 ∨ n = 9 ∨ n = 10 ∨ n = 11 ∨ n = 12 ∨ n = 13 ∨ n = 14 ∨ n = 15 := by omega
  rcases this with h | h | h | h | h | h | h | h | h | h | h | h | h | h | h | h <;> subst h <;> decide
def hexL (l : List UInt8) : List UInt8 := l.flatMap fun c => [UInt8.ofNat (hexC (c.toNat / 16)), UInt8.ofNat (hexC (c.toNat % 16))]
theorem unhex_hex : ∀ l : List UInt8, unhexL (hexL l) = l
  | [] => rfl
  | c :: l => by
    have ih := unhex_hex l
    have hc := c.toNat_lt
    unfold hexL
    rw [List.flatMap_cons]
    show unhexL (UInt8.ofNat (hexC (c.toNat / 16)) :: UInt8.ofNat (hexC (c.toNat % 16)) :: hexL l) = _
    unfold unhexL
    rw [ih, hexV_at _ (by omega), hexV_at _ (by omega)]
    congr 1
    rw [show 16 * (c.toNat / 16) + c.toNat % 16 = c.toNat by omega]
    simp
theorem coded_list (s : ByteArray) : ∀ k, k ≤ s.size → (codedTo s k).data.toList = hexL (s.data.toList.take k)
  | 0, _ => by simp [codedTo, hexL]
  | k + 1, h => by
    have ih := coded_list s k (by omega)
    have hk : k < s.data.toList.length := by simp; omega
    have hc := (s.data.toList.getD k 0).toNat_lt
    rw [codedTo, baApp, baApp, ih, hexAt_one _ (by omega), hexAt_one _ (by omega), List.take_succ_eq_append_getElem hk]
    unfold hexL
    rw [List.flatMap_append]
    have : s.data.toList.getD k 0 = s.data.toList[k] := by rw [List.getD_eq_getElem?_getD, List.getElem?_eq_getElem hk]; rfl
    rw [this]
    simp
theorem coded_all (s : ByteArray) : (codedTo s s.size).data.toList = hexL s.data.toList := by
  rw [coded_list s s.size (Nat.le_refl _), List.take_of_length_le (by simp)]

theorem taken_eq (s : ByteArray) : taken s = (decide (s.data.toList = [97, 109, 112]) || (decide (s.data.toList = [108, 116]) || (decide (s.data.toList = [103, 116]) || decide (s.data.toList = [113, 117, 111, 116])))) := by
  have e1 : (⟨#[97, 109, 112]⟩ : ByteArray).toList = [97, 109, 112] := by rw [ByteArray.toList_eq]
  have e2 : (⟨#[108, 116]⟩ : ByteArray).toList = [108, 116] := by rw [ByteArray.toList_eq]
  have e3 : (⟨#[103, 116]⟩ : ByteArray).toList = [103, 116] := by rw [ByteArray.toList_eq]
  have e4 : (⟨#[113, 117, 111, 116]⟩ : ByteArray).toList = [113, 117, 111, 116] := by rw [ByteArray.toList_eq]
  unfold taken signsL
  simp only [List.any_cons, List.any_nil, e1, e2, e3, e4, Bool.or_false, ByteArray.toList_eq]
  have h : ∀ l m : List UInt8, (l == m) = decide (m = l) := by
    intro l m
    rw [Bool.eq_iff_iff]; simp; exact ⟨fun h => h.symm, fun h => h.symm⟩
  rw [h, h, h, h]

theorem dec_ref (s : ByteArray) (h : isNameB s = true) : decL (refS s).data.toList = s.data.toList := by
  have h1 : 1 ≤ s.size := by
    unfold isNameB at h
    simp at h
    exact h.2.1
  unfold refS
  by_cases h2 : s.size = 1
  · rw [if_pos h2]
    obtain ⟨c, rfl⟩ := one_of s h2
    unfold oneS
    have hg : (({ data := #[c] } : ByteArray).data.toList.getD 0 0).toNat = c.toNat := rfl
    rw [hg]
    have e : ∀ k : UInt8, (c.toNat = k.toNat) ↔ (c = k) := fun k => ⟨fun h => UInt8.toNat_inj.1 h, fun h => by rw [h]⟩
    have e1 := e 38
    have e2 := e 60
    have e3 := e 62
    have e4 := e 34
    simp only [show (38 : UInt8).toNat = 38 from rfl, show (60 : UInt8).toNat = 60 from rfl, show (62 : UInt8).toNat = 62 from rfl, show (34 : UInt8).toNat = 34 from rfl] at e1 e2 e3 e4
    simp only [e1, e2, e3, e4]
    by_cases h1 : c = 38
    · subst h1; decide
    by_cases h2 : c = 60
    · subst h2; decide
    by_cases h3 : c = 62
    · subst h3; decide
    by_cases h4 : c = 34
    · subst h4; decide
    simp only [h1, h2, h3, h4, if_false]
    rfl
  · rw [if_neg h2]
    unfold longS
    by_cases h3 : (p0 s && s.data.toList.all not59) = true
    · rw [if_pos h3]
      simp only [Bool.and_eq_true] at h3
      obtain ⟨h4, _⟩ := h3
      unfold p0 at h4
      rw [taken_eq] at h4
      simp only [Bool.and_eq_true, Bool.not_eq_true', Bool.or_eq_false_iff, decide_eq_true_eq, decide_eq_false_iff_not] at h4
      obtain ⟨h5, h6, h7, h8, h9⟩ := h4
      rw [baApp, baApp]
      have hne : s.data.toList ≠ [] := by
        intro e
        have h := congrArg List.length e
        rw [Array.length_toList] at h
        have h' : s.size = 0 := h
        omega
      obtain ⟨d, l, hl⟩ := List.exists_cons_of_ne_nil hne
      rw [hl] at h5 h6 h7 h8 h9 ⊢
      show decL (38 :: (d :: l ++ [59])) = _
      have hd : (d :: l ++ [59]).dropLast = d :: l := List.dropLast_concat
      have : decL (38 :: (d :: l ++ [59])) = if (d :: l ++ [59]).dropLast = [97, 109, 112] then [38] else if (d :: l ++ [59]).dropLast = [108, 116] then [60] else if (d :: l ++ [59]).dropLast = [103, 116] then [62] else if (d :: l ++ [59]).dropLast = [113, 117, 111, 116] then [34] else (match (d :: l ++ [59]).dropLast with | 35 :: h => unhexL h | l => l) := rfl
      rw [this, hd, if_neg h6, if_neg h7, if_neg h8, if_neg h9]
      have hd35 : d ≠ 35 := by
        rintro rfl
        exact h5 rfl
      split
      · rename_i e
        injection e with e _
        exact absurd e hd35
      · rfl
    · rw [if_neg h3]
      rw [baApp, baApp, coded_all]
      show decL (38 :: (35 :: hexL s.data.toList ++ [59])) = _
      generalize hq : hexL s.data.toList = q
      have hd : (35 :: q ++ [59]).dropLast = 35 :: q := List.dropLast_concat
      have : decL (38 :: (35 :: q ++ [59])) = if (35 :: q ++ [59]).dropLast = [97, 109, 112] then [38] else if (35 :: q ++ [59]).dropLast = [108, 116] then [60] else if (35 :: q ++ [59]).dropLast = [103, 116] then [62] else if (35 :: q ++ [59]).dropLast = [113, 117, 111, 116] then [34] else (match (35 :: q ++ [59]).dropLast with | 35 :: h => unhexL h | l => l) := rfl
      rw [this, hd, if_neg (by simp), if_neg (by simp), if_neg (by simp), if_neg (by simp)]
      rw [← hq]
      exact unhex_hex _
theorem ref_inj (a b : ByteArray) (ha : isNameB a = true) (hb : isNameB b = true) (h : refS a = refS b) : a = b := by
  have h1 := dec_ref a ha
  have h2 := dec_ref b hb
  rw [h, h2] at h1
  obtain ⟨⟨x⟩⟩ := a
  obtain ⟨⟨y⟩⟩ := b
  simp at h1
  rw [h1]
end Go.Proofs.Ytbhmhoocohiieaa

/- Where a byte stands first: the library's word and ours. -/
import Derived.Lib.IndexLaws
import Derived.Test.YtaokofnhkojllaaWalkA
set_option linter.unusedVariables false
set_option linter.unusedSimpArgs false
namespace Go.Proofs.Ytaokofnhkojllaa
open Go.Lib

theorem list_pk (s : ByteArray) (k c : Nat) (hc : c < 256) : s.data.toList[k]? = some (UInt8.ofNat c) ↔ (k < s.size ∧ pk s k = c) := by
  by_cases h : k < s.size
  · have hl : k < s.data.toList.length := by rw [Array.length_toList]; exact h
    rw [List.getElem?_eq_getElem hl, get_data s k h]
    constructor
    · intro e
      injection e with e
      refine ⟨h, ?_⟩
      have := congrArg UInt8.toNat e
      rw [UInt8.toNat_ofNat', UInt8.toNat_ofNat'] at this
      have := pk_256 s k
      omega
    · rintro ⟨-, e⟩; rw [e]
  · have hl : ¬ k < s.data.toList.length := by rw [Array.length_toList]; exact h
    rw [List.getElem?_eq_none (by omega)]
    constructor
    · intro e; cases e
    · rintro ⟨e, -⟩; exact absurd e h
/-- strings.IndexByte of what stands behind a place. -/
theorem index_rest (s : ByteArray) (a c : Nat) (ha : a ≤ s.size) (hc : c < 256) :
    Lib.indexByte (s.extract a s.size).data.toList (UInt8.ofNat c) = if findB s a c < s.size then ((findB s a c - a : Nat) : Int) else -1 := by
  have hb := findB_le s a c ha
  have hz := ext_size s a ha
  have hk : ∀ k, (s.extract a s.size).data.toList[k]? = some (UInt8.ofNat c) ↔ (a + k < s.size ∧ pk s (a + k) = c) := by
    intro k
    rw [list_pk _ _ _ hc, hz]
    constructor
    · rintro ⟨h1, h2⟩
      rw [pk_ext s a s.size k (by omega) (Nat.le_refl _)] at h2
      exact ⟨by omega, h2⟩
    · rintro ⟨h1, h2⟩
      rw [pk_ext s a s.size k (by omega) (Nat.le_refl _)]
      exact ⟨by omega, h2⟩
  have hge := Lib.indexByte_ge (s.extract a s.size).data.toList (UInt8.ofNat c)
  by_cases hf : findB s a c < s.size
  · rw [if_pos hf]
    have hat := findB_at s a c hf ha
    by_cases hm : Lib.indexByte (s.extract a s.size).data.toList (UInt8.ofNat c) = -1
    · exfalso
      have := Lib.indexByte_none hm (findB s a c - a)
      exact this ((hk _).2 ⟨by omega, by rw [show a + (findB s a c - a) = findB s a c by omega]; exact hat⟩)
    · obtain ⟨o, ho⟩ : ∃ o : Nat, Lib.indexByte (s.extract a s.size).data.toList (UInt8.ofNat c) = o := ⟨(Lib.indexByte (s.extract a s.size).data.toList (UInt8.ofNat c)).toNat, by omega⟩
      obtain ⟨h1, h2⟩ := Lib.indexByte_some ho
      obtain ⟨h3, h4⟩ := (hk o).1 h1
      have : findB s a c = a + o := findB_is s a c (a + o) (by omega) (by omega) (fun k q1 q2 e => h2 (k - a) (by omega) ((hk _).2 ⟨by omega, by rw [show a + (k - a) = k by omega]; exact e⟩)) (fun _ => h4)
      rw [ho, this]
      omega
  · rw [if_neg hf]
    by_cases hm : Lib.indexByte (s.extract a s.size).data.toList (UInt8.ofNat c) = -1
    · exact hm
    · exfalso
      obtain ⟨o, ho⟩ : ∃ o : Nat, Lib.indexByte (s.extract a s.size).data.toList (UInt8.ofNat c) = o := ⟨(Lib.indexByte (s.extract a s.size).data.toList (UInt8.ofNat c)).toNat, by omega⟩
      obtain ⟨h1, h2⟩ := Lib.indexByte_some ho
      obtain ⟨h3, h4⟩ := (hk o).1 h1
      exact findB_not s a c (a + o) (by omega) (by omega) h4
theorem ext_all (s : ByteArray) : s.extract 0 s.size = s := by
  apply ba_eq
  rw [ext_list, List.drop_zero, List.take_of_length_le (by rw [Array.length_toList]; exact Nat.le_refl _)]
theorem index_whole (s : ByteArray) (c : Nat) (hc : c < 256) : Lib.indexByte s.data.toList (UInt8.ofNat c) = if findB s 0 c < s.size then ((findB s 0 c : Nat) : Int) else -1 := by
  have := index_rest s 0 c (Nat.zero_le _) hc
  rw [ext_all] at this
  exact this
theorem check_seg (s : ByteArray) (a e x y : Nat) (h1 : a ≤ e) (h2 : e ≤ s.size) : checkB (s.extract a e) x y = (decide (x ≤ e - a) && decide (e - a ≤ y) && allSeen s a e) := by
  have hz : (s.extract a e).size = e - a := by rw [ByteArray.size_extract]; omega
  unfold checkB
  rw [hz]
  congr 1
  rw [Bool.eq_iff_iff, allSeen_iff, allSeen_iff]
  constructor
  · intro q k h3 h4
    have := q (k - a) (by omega) (by omega)
    rwa [pk_ext s a e (k - a) (by omega) h2, show a + (k - a) = k by omega] at this
  · intro q k h3 h4
    rw [pk_ext s a e k (by omega) h2]
    exact q (a + k) (by omega) (by omega)
end Go.Proofs.Ytaokofnhkojllaa

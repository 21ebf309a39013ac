/- Plain laws on names: what the program writes is what the reference writes; other names are written otherwise. -/
import Derived.Test.YtbhmhoocohiieaaWalkD
import Derived.Test.YtbhmhoocohiieaaPureA
set_option linter.unusedVariables false
set_option linter.unusedSimpArgs false
namespace Go.Proofs.Ytbhmhoocohiieaa
open Go.Shelf Go.RowKit Go.Lib Go.MapLit

theorem badR_high (r : Nat) (h : 128 ≤ r) : badR r = true := by unfold badR; simp; omega
theorem text_is_name (s : ByteArray) : textB s 1 10 = isNameB s := by
  unfold textB isNameB
  rw [PureA.idx_any badR badR_high s]
  have h1 : (!s.data.toList.any fun c => badR c.toNat) = s.data.toList.all goodB := by
    rw [List.not_any_eq_all_not]
    congr 1
    funext c
    unfold badR goodB
    rw [Bool.eq_iff_iff]
    simp
  rw [h1]
  have h2 : decide ((1 : Int) ≤ (s.size : Int)) = decide (1 ≤ s.size) := by rw [Bool.eq_iff_iff]; simp; omega
  have h3 : decide ((s.size : Int) ≤ 10) = decide (s.size ≤ 10) := by rw [Bool.eq_iff_iff]; simp; omega
  rw [h2, h3, Bool.and_comm (s.data.toList.all goodB), Bool.and_assoc]

/-- What the reference gives for a name. -/
def refS (s : ByteArray) : ByteArray := if s.size = 1 then oneS s else longS s

theorem find_eq (s : ByteArray) : find signsL s = if s = ⟨#[38]⟩ then some ⟨#[97, 109, 112]⟩ else if s = ⟨#[60]⟩ then some ⟨#[108, 116]⟩ else if s = ⟨#[62]⟩ then some ⟨#[103, 116]⟩ else if s = ⟨#[34]⟩ then some ⟨#[113, 117, 111, 116]⟩ else none := by
  unfold find signsL
  simp only [List.find?_cons, List.find?_nil]
  by_cases h1 : s = ⟨#[38]⟩
  · simp [h1]
  by_cases h2 : s = ⟨#[60]⟩
  · simp [h1, h2]
  by_cases h3 : s = ⟨#[62]⟩
  · simp [h1, h2, h3]
  by_cases h4 : s = ⟨#[34]⟩
  · simp [h1, h2, h3, h4]
  simp [h1, h2, h3, h4]

theorem one_of (s : ByteArray) (h : s.size = 1) : ∃ c : UInt8, s = ⟨#[c]⟩ := by
  obtain ⟨⟨l⟩⟩ := s
  match l, h with
  | [c], _ => exact ⟨c, rfl⟩
theorem ba_one_eq (c d : UInt8) : ((⟨#[c]⟩ : ByteArray) = ⟨#[d]⟩) ↔ c = d := by
  constructor
  · intro h
    injection h with h
    simpa using h
  · rintro rfl; rfl

theorem shown_is_one (s : ByteArray) (h : s.size = 1) : shownS s = oneS s := by
  obtain ⟨c, rfl⟩ := one_of s h
  unfold shownS oneS
  rw [find_eq]
  simp only [ba_one_eq]
  have hg : (({ data := #[c] } : ByteArray).data.toList.getD 0 0).toNat = c.toNat := rfl
  rw [hg]
  have e : ∀ k : UInt8, (c.toNat = k.toNat) ↔ (c = k) := fun k => ⟨fun h => UInt8.toNat_inj.1 h, fun h => by rw [h]⟩
  have e1 := e 38
  have e2 := e 60
  have e3 := e 62
  have e4 := e 34
  simp only [show (38 : UInt8).toNat = 38 from rfl, show (60 : UInt8).toNat = 60 from rfl, show (62 : UInt8).toNat = 62 from rfl, show (34 : UInt8).toNat = 34 from rfl] at e1 e2 e3 e4
  simp only [e1, e2, e3, e4]
  by_cases h1 : c = 38
  · subst h1; decide
  by_cases h2 : c = 60
  · subst h2; decide
  by_cases h3 : c = 62
  · subst h3; decide
  by_cases h4 : c = 34
  · subst h4; decide
  simp only [h1, h2, h3, h4, if_false]
  rw [if_pos h]

theorem shown_is_long (s : ByteArray) (h : 1 < s.size) : shownS s = longS s := by
  have hf : find signsL s = none := by
    rw [find_eq]
    have hn : ∀ c : UInt8, s ≠ ⟨#[c]⟩ := by
      intro c e
      rw [e] at h
      exact absurd h (by show ¬ 1 < 1; omega)
    simp [hn]
  rw [shown_eq s hf, if_neg (by omega)]
  unfold longS p0
  rw [PureA.indexByte_any]
  have h1 : (s.data.toList.any fun b => b == 59) = !s.data.toList.all not59 := by
    rw [List.not_all_eq_any_not]
    congr 1
    funext c
    unfold not59
    rw [Bool.eq_iff_iff]
    simp
    constructor
    · rintro rfl; rfl
    · intro h; exact UInt8.toNat_inj.1 h
  rw [h1]
  cases taken s <;> cases s.data.toList.all not59 <;> by_cases h2 : (s.data.toList.getD 0 0).toNat = 35 <;> simp [h2]

theorem shown_is (s : ByteArray) (h : isNameB s = true) : shownS s = refS s := by
  unfold refS
  have h1 : 1 ≤ s.size := by
    unfold isNameB at h
    simp at h
    exact h.2.1
  by_cases h2 : s.size = 1
  · rw [if_pos h2, shown_is_one s h2]
  · rw [if_neg h2, shown_is_long s (by omega)]

end Go.Proofs.Ytbhmhoocohiieaa

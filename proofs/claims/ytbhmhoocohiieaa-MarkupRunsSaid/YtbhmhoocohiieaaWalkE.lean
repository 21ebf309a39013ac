/- Walks: the program's Name, the example, the law MarkupNames. -/
import Derived.Test.YtbhmhoocohiieaaPureC
set_option linter.unusedVariables false
set_option linter.unusedSimpArgs false
namespace Go.Proofs.Ytbhmhoocohiieaa
open Go.Shelf Go.RowKit Go.Lib Go.MapLit

theorem valid_is {s : ByteArray} {b : Bool} (h : isNameB s = b) (w : World) :
    Calls Try.prog 10 #[.agg #[.int .i64 0, .int .i64 0, .int .i64 0, .int .i64 0, .int .i64 1, .string ⟨#[]⟩, .string s, .string ⟨#[]⟩, .slice none 0 0]] w fun e w' => e = .returned (.bool b) ∧ Below w.heap.size w w' := by
  rw [← h, ← text_is_name]; exact valid_calls s w
theorem find_size (s t : ByteArray) (h : find signsL s = some t) : t.size ≤ 4 := by
  rw [find_eq] at h
  repeat' split at h
  all_goals first | (injection h with h; subst h; decide) | cases h
theorem shown_calls (s : ByteArray) (hs : s.size ≤ 100) (h0 : 0 < s.size) (w : World) :
    Calls Try.prog 11 #[.string s] w fun e w' => e = .returned (.string (shownS s)) ∧ Below w.heap.size w w' := by
  cases hf : find signsL s with
  | none => exact shown_other s hf hs h0 w
  | some t =>
    have e : shownS s = (⟨#[38]⟩ ++ t) ++ ⟨#[59]⟩ := by unfold shownS; rw [hf]
    rw [e]
    exact shown_sign s t hf hs (by have := find_size s t hf; omega) w

/-- What both give: the text, and the error's number. -/
def nameS (s : ByteArray) : ByteArray := if isNameB s then refS s else ⟨#[]⟩
def nameE (s : ByteArray) : Int := if isNameB s then 0 else 1

theorem nameB_size {s : ByteArray} (h : isNameB s = true) : 1 ≤ s.size := by
  unfold isNameB at h
  simp at h
  exact h.2.1
set_option maxHeartbeats 400000 in
theorem pname_calls (s : ByteArray) (hs : s.size ≤ 100) (w : World) :
    Calls Try.prog 6 #[.string s] w fun e w' => e = .returned (.tuple #[.string (nameS s), .int .i64 (nameE s)]) ∧ Below w.heap.size w w' := by
  unfold nameS nameE
  cases h : isNameB s with
  | false =>
    have H := Lib.hid h
    clear h
    simp only [Bool.false_eq_true, if_false]
    go_enter Try.func6, Try.ntmps6
    go_wp2_with (go_at_call 10; (with_reducible refine (valid_is H.out _).mono ?_); rintro e w1 ⟨rfl, hb⟩)
    go_ret2
    exact ⟨rfl, hb⟩
  | true =>
    have h1 := nameB_size h
    have hc := shown_calls s hs (by omega)
    rw [shown_is s h] at hc
    have hne : s.toList = [] ↔ False := by
      rw [ByteArray.toList_eq]
      constructor
      · intro e
        have h := congrArg List.length e
        rw [Array.length_toList] at h
        have h' : s.size = 0 := h
        omega
      · exact False.elim
    have hne' : s.toList.isEmpty = false := by
      cases he : s.toList with
      | nil => exact (hne.1 he).elim
      | cons a l => rfl
    have H := Lib.hid h
    have HC := Lib.hid hc
    clear h hc
    simp only [if_true]
    go_enter Try.func6, Try.ntmps6
    go_wp2_with (first | (go_at_call 10; (with_reducible refine (valid_is H.out _).mono ?_); rintro e w1 ⟨rfl, hb⟩) | (go_at_call 11; (with_reducible refine (HC.out _).mono ?_); rintro e w2 ⟨rfl, hb2⟩))
    go_ret2
    exact ⟨rfl, hb.trans (hb2.mono hb.size)⟩

theorem rname_calls (s : ByteArray) (hs : s.size ≤ 100) (w : World) :
    Calls Try.prog 7 #[.string s] w fun e w' => e = .returned (.tuple #[.string (nameS s), .int .i64 (nameE s)]) ∧ Below w.heap.size w w' := by
  unfold nameS nameE
  cases h : isNameB s with
  | false => exact name_no s hs h w
  | true =>
    have h1 := nameB_size h
    unfold refS
    by_cases h2 : s.size = 1
    · simp only [if_true, if_pos h2]
      exact name_one s h2 h w
    · simp only [if_true, if_neg h2]
      exact name_long s hs (by omega) h w

theorem pname_at {s t : ByteArray} {k : Int} (hs : s.size ≤ 100) (h1 : nameS s = t) (h2 : nameE s = k) (w : World) :
    Calls Try.prog 6 #[.string s] w fun e w' => e = .returned (.tuple #[.string t, .int .i64 k]) ∧ Below w.heap.size w w' := by
  rw [← h1, ← h2]; exact pname_calls s hs w

set_option maxHeartbeats 400000 in
theorem sane_calls (w : World) : Calls Try.prog 5 #[] w fun e w' => e = .returned (.bool true) ∧ Below w.heap.size w w' := by
  have a1 := Lib.hid (show nameS ⟨#[97, 38, 98]⟩ = ⟨#[38, 97, 38, 98, 59]⟩ by decide +kernel)
  have a2 := Lib.hid (show nameE ⟨#[97, 38, 98]⟩ = 0 by decide +kernel)
  have a3 := Lib.hid (show nameS ⟨#[38]⟩ = ⟨#[38, 97, 109, 112, 59]⟩ by decide +kernel)
  have a4 := Lib.hid (show nameE ⟨#[38]⟩ = 0 by decide +kernel)
  go_enter Try.func5, Try.ntmps5
  go_wp2_with fail
  refine (pname_at (by decide) a1.out a2.out _).mono ?_
  rintro e w1 ⟨rfl, hb⟩
  go_wp2_with fail
  refine (pname_at (by decide) a3.out a4.out _).mono ?_
  rintro e w2 ⟨rfl, hb2⟩
  go_wp2
  go_ret
  exact ⟨rfl, hb.trans (hb2.mono hb.size)⟩

theorem rname_at {s t : ByteArray} {k : Int} (hs : s.size ≤ 100) (h1 : nameS s = t) (h2 : nameE s = k) (w : World) :
    Calls Try.prog 7 #[.string s] w fun e w' => e = .returned (.tuple #[.string t, .int .i64 k]) ∧ Below w.heap.size w w' := by
  rw [← h1, ← h2]; exact rname_calls s hs w

/-- Other names are written otherwise. -/
theorem name_same (a b : ByteArray) (ha : nameE a = 0) (hb : nameE b = 0) : (nameS a = nameS b) ↔ (a = b) := by
  have h1 : isNameB a = true := by
    unfold nameE at ha
    split at ha
    · assumption
    · cases ha
  have h2 : isNameB b = true := by
    unfold nameE at hb
    split at hb
    · assumption
    · cases hb
  unfold nameS
  rw [h1, h2]
  simp only [if_true]
  exact ⟨ref_inj a b h1 h2, fun h => by rw [h]⟩
theorem nameE_two (a : ByteArray) : nameE a = 0 ∨ nameE a = 1 := by
  unfold nameE; split <;> simp

theorem below4 {w w1 w2 w3 w4 : World} (b1 : Below w.heap.size w w1) (b2 : Below w1.heap.size w1 w2) (b3 : Below w2.heap.size w2 w3) (b4 : Below w3.heap.size w3 w4) : Below w.heap.size w w4 := by
  have s1 := b1.size
  have s2 := b2.size
  have s3 := b3.size
  exact ((b1.trans (b2.mono s1)).trans (b3.mono (by omega))).trans (b4.mono (by omega))
set_option maxHeartbeats 1000000 in
theorem law_names (a b : ByteArray) (w : World) : Calls Try.prog 3 #[.string a, .string b] w fun e w' => e = .returned (.bool true) ∧ Below w.heap.size w w' := by
  by_cases h1 : (100 : Int) < a.size
  · go_enter Try.func3, Try.ntmps3
    go_wp2_with (go_at_call 5; (with_reducible refine (sane_calls _).mono ?_); rintro e w1 ⟨rfl, hb⟩)
    go_ret
    exact ⟨rfl, hb⟩
  by_cases h2 : (100 : Int) < b.size
  · go_enter Try.func3, Try.ntmps3
    go_wp2_with (go_at_call 5; (with_reducible refine (sane_calls _).mono ?_); rintro e w1 ⟨rfl, hb⟩)
    go_ret
    exact ⟨rfl, hb⟩
  have ha : a.size ≤ 100 := by omega
  have hb : b.size ≤ 100 := by omega
  obtain ⟨x, hx⟩ : ∃ x, nameS a = x := ⟨_, rfl⟩
  obtain ⟨z, hz⟩ : ∃ z, nameS b = z := ⟨_, rfl⟩
  obtain ⟨k, hk⟩ : ∃ k, nameE a = k := ⟨_, rfl⟩
  obtain ⟨m, hm⟩ : ∃ m, nameE b = m := ⟨_, rfl⟩
  have hsame : k = 0 → m = 0 → ((x.toList == z.toList) == (a.toList == b.toList)) = true := by
    intro e1 e2
    have := name_same a b (hk.trans e1) (hm.trans e2)
    rw [hx, hz] at this
    rw [← beq_toListBytes, ← beq_toListBytes, beq_iff_eq, Bool.eq_iff_iff, MapKept.bytes_beq, MapKept.bytes_beq]
    exact this
  have hk2 := nameE_two a
  have hm2 := nameE_two b
  rw [hk] at hk2
  rw [hm] at hm2
  have C1 := Lib.hid (fun w => pname_at ha hx hk w)
  have C2 := Lib.hid (fun w => rname_at ha hx hk w)
  have C3 := Lib.hid (fun w => pname_at hb hz hm w)
  clear hx hz hk hm
  rcases hk2 with rfl | rfl
  · rcases hm2 with rfl | rfl
    · have hs := hsame rfl rfl
      clear hsame
      go_enter Try.func3, Try.ntmps3
      go_wp2_with fail
      refine (C1.out _).mono ?_
      rintro e w1 ⟨rfl, b1⟩
      go_wp2_with fail
      refine (C2.out _).mono ?_
      rintro e w2 ⟨rfl, b2⟩
      go_wp2_with fail
      refine (C3.out _).mono ?_
      rintro e w3 ⟨rfl, b3⟩
      go_wp2_with (go_at_call 5; (with_reducible refine (sane_calls _).mono ?_); rintro e w4 ⟨rfl, b4⟩)
      go_ret
      exact ⟨rfl, below4 b1 b2 b3 b4⟩
    · clear hsame
      go_enter Try.func3, Try.ntmps3
      go_wp2_with fail
      refine (C1.out _).mono ?_
      rintro e w1 ⟨rfl, b1⟩
      go_wp2_with fail
      refine (C2.out _).mono ?_
      rintro e w2 ⟨rfl, b2⟩
      go_wp2_with fail
      refine (C3.out _).mono ?_
      rintro e w3 ⟨rfl, b3⟩
      go_wp2_with (go_at_call 5; (with_reducible refine (sane_calls _).mono ?_); rintro e w4 ⟨rfl, b4⟩)
      go_ret
      exact ⟨rfl, below4 b1 b2 b3 b4⟩
  · clear hsame hm2
    go_enter Try.func3, Try.ntmps3
    go_wp2_with fail
    refine (C1.out _).mono ?_
    rintro e w1 ⟨rfl, b1⟩
    go_wp2_with fail
    refine (C2.out _).mono ?_
    rintro e w2 ⟨rfl, b2⟩
    go_wp2_with fail
    refine (C3.out _).mono ?_
    rintro e w3 ⟨rfl, b3⟩
    go_wp2_with (go_at_call 5; (with_reducible refine (sane_calls _).mono ?_); rintro e w4 ⟨rfl, b4⟩)
    go_ret
    exact ⟨rfl, below4 b1 b2 b3 b4⟩

end Go.Proofs.Ytbhmhoocohiieaa

/- Walks of functions that MarkupNames reaches, the third part. -/
import Derived.Test.YtbhmhoocohiieaaWalkB
import Derived.Deep.LoopGhost
set_option linter.unusedVariables false
set_option linter.unusedSimpArgs false
namespace Go.Proofs.Ytbhmhoocohiieaa
open Go.Shelf Go.RowKit Go.Lib Go.MapLit

/-- Is the name one that a sign is written by, among those that have come? -/
def takenAt (s : ByteArray) (seen : Array Nat) : Bool := (List.range 4).any fun i => seen.contains i && (((signsL.getD i (⟨#[]⟩, ⟨#[]⟩)).2).toList == s.toList)
def taken (s : ByteArray) : Bool := signsL.any fun p => p.2.toList == s.toList
def shownS (s : ByteArray) : ByteArray :=
  match find signsL s with
  | some t => (⟨#[38]⟩ ++ t) ++ ⟨#[59]⟩
  | none => if s.size = 1 then s else if taken s || decide (0 ≤ Lib.indexByte s.data.toList 59) || decide ((s.data.toList.getD 0 0).toNat = 35) then (⟨#[38, 35]⟩ ++ codedTo s s.size) ++ ⟨#[59]⟩ else (⟨#[38]⟩ ++ s) ++ ⟨#[59]⟩

theorem takenAt_nil (s : ByteArray) : takenAt s #[] = false := by simp [takenAt]
theorem takenAt_push (s : ByteArray) (seen : Array Nat) (i : Nat) (k v : ByteArray) (h : signsL[i]? = some (k, v)) : takenAt s (seen.push i) = (takenAt s seen || v.toList == s.toList) := by
  have hi : i < 4 := (List.getElem?_eq_some_iff.1 h).1
  have hv : (signsL.getD i (⟨#[]⟩, ⟨#[]⟩)).2 = v := by simp [List.getD, h]
  unfold takenAt
  rw [Bool.eq_iff_iff]
  simp only [List.any_eq_true, List.mem_range, Bool.or_eq_true, Bool.and_eq_true, contains_push, beq_iff_eq]
  constructor
  · rintro ⟨j, hj, h1 | h1, h2⟩
    · exact .inl ⟨j, hj, h1, h2⟩
    · subst h1; rw [hv] at h2; exact .inr h2
  · rintro (⟨j, hj, h1, h2⟩ | h1)
    · exact ⟨j, hj, .inl h1, h2⟩
    · exact ⟨i, hi, .inr rfl, by rw [hv]; exact h1⟩
theorem takenAt_all (s : ByteArray) (seen : Array Nat) (h : ∀ i, i < signsL.length → seen.contains i = true) : takenAt s seen = taken s := by
  have h0 := h 0 (by decide)
  have h1 := h 1 (by decide)
  have h2 := h 2 (by decide)
  have h3 := h 3 (by decide)
  simp [takenAt, taken, signsL, List.range, List.range.loop] at *
  simp [h0, h1, h2, h3, Bool.or_assoc]

theorem zeroS (w : World) : (zeroValue 9).run Try.prog w = .ok (.string ⟨#[]⟩) w := by kernel_rfl

set_option maxHeartbeats 2000000 in
theorem shown_sign (s t : ByteArray) (hf : find signsL s = some t) (hs : s.size ≤ 100) (ht : t.size ≤ 100) (w : World) :
    Calls Try.prog 11 #[.string s] w fun e w' => e = .returned (.string ((⟨#[38]⟩ ++ t) ++ ⟨#[59]⟩)) ∧ Below w.heap.size w w' := by
  have Hf := Lib.hid hf
  clear hf
  go_enter Try.func11, Try.ntmps11
  go_wp2_with (go_at_call 18; refine (signs_calls _).mono ?_; rintro e w1 ⟨rfl, hm, hb⟩; have hl := run_lookup Value.string Value.string keyS Try.underlying44 zeroS signsL s hm true; simp only [Hf.out, Option.map_some, Option.getD_some, Option.isSome_some, if_true] at hl)
  go_ret
  exact ⟨rfl, hb⟩

theorem shown_eq (s : ByteArray) (hf : find signsL s = none) : shownS s = if s.size = 1 then s else if taken s || decide (0 ≤ Lib.indexByte s.data.toList 59) || decide ((s.data.toList.getD 0 0).toNat = 35) then (⟨#[38, 35]⟩ ++ codedTo s s.size) ++ ⟨#[59]⟩ else (⟨#[38]⟩ ++ s) ++ ⟨#[59]⟩ := by
  unfold shownS; rw [hf]

theorem sh1 {s X : ByteArray} (h : ((s.size : Int) == 1) = true) : Ending.returned (.string s) = .returned (.string (if s.size = 1 then s else X)) := by
  simp at h; rw [if_pos (by omega)]
theorem sh2 {s A B : ByteArray} {c : Bool} (h : ((s.size : Int) == 1) = false) (hc : c = true) : Ending.returned (.string A) = .returned (.string (if s.size = 1 then s else if c then A else B)) := by
  simp at h; rw [if_neg (by omega), hc]; rfl
theorem sh3 {s A B : ByteArray} {c : Bool} (h : ((s.size : Int) == 1) = false) (hc : c = false) : Ending.returned (.string B) = .returned (.string (if s.size = 1 then s else if c then A else B)) := by
  simp at h; rw [if_neg (by omega), hc]; rfl

set_option maxHeartbeats 2000000 in
theorem shown_other (s : ByteArray) (hf : find signsL s = none) (hs : s.size ≤ 100) (h0 : 0 < s.size) (w : World) :
    Calls Try.prog 11 #[.string s] w fun e w' => e = .returned (.string (shownS s)) ∧ Below w.heap.size w w' := by
  have Hf := Lib.hid hf
  have HS := Lib.hid (shown_eq s hf)
  have h35 : ∀ h : 0 < s.size, (s[0]'h).toNat = (s.data.toList.getD 0 0).toNat := fun h => by simp [ByteArray.getElem_eq_getElem_data, List.getD, h0]
  have H35 := Lib.hid h35
  clear h35
  have hcs : (codedTo s s.size).size ≤ 3200 := Nat.le_trans (codedTo_size s s.size) (by omega)
  clear hf
  go_enter Try.func11, Try.ntmps11
  go_wp2_with fail
  refine (signs_calls _).mono ?_
  rintro e w1 ⟨rfl, hm, hb⟩
  have hl := run_lookup Value.string Value.string keyS Try.underlying44 zeroS signsL s hm true
  simp only [Hf.out, Option.map_none, Option.getD_none, Option.isSome_none, if_true] at hl
  go_wp2_with fail
  refine (signs_calls _).mono ?_
  rintro e w2 ⟨rfl, hm2, hb2⟩
  have hr := run_range (P := Try.prog) Value.string Value.string Try.underlying44 signsL hm2
  have hB : Below w.heap.size w w2 := hb.trans (hb2.mono hb.size)
  have hz : w.heap.size ≤ w2.heap.size := hB.size
  clear hm hl hb hb2
  go_wp2_with fail
  clear hr
  go_loopg [5] 4 (fun kq v wr => ∃ seen, v = .bool (takenAt s seen) ∧ left 4 seen ≤ kq ∧ IterIs wr w2.heap.size w1.heap.size signsL.length seen ∧ MapIs Value.string Value.string wr w1.heap.size signsL ∧ Below w.heap.size w wr)
  case atStart => exact ⟨#[], by rw [takenAt_nil], Nat.le_trans (List.length_filter_le _ _) (by simp), IterIs.made w2 _ _, hm2.below _ _ ((Below.refl _ w2).alloc (Nat.le_refl _) _), hB.alloc hB.size _⟩
  case round =>
    obtain ⟨seen, rfl, hk, hit, hmp, hbw⟩ := hrel
    have HT := Lib.hid (takenAt_all s seen)
    obtain ⟨tb, htb⟩ : ∃ tb, takenAt s seen = tb := ⟨_, rfl⟩
    rw [htb]
    have HTb := Lib.hid htb
    clear htb
    cases tb
    · go_wp2_with (first | (at_next; refine wpList_next_lit Value.string Value.string rfl _ rfl signsL w1.heap.size w2.heap.size seen rfl hit hmp ?_ ?_; all_goals first | (intro i k v w3 h1 h2 h3 h4 h5 h6 h7; have H2 := Lib.hid h2; have H1 := Lib.hid h1; have H6 := Lib.hid h6; clear h1 h2 h6) | (intro hall; have HA := Lib.hid hall; clear hall)) | (go_at_call 19; (with_reducible refine (Try.strings_Contains_one s 59 _).mono ?_); rintro e w' ⟨rfl, rfl⟩) | (go_at_call 20; (with_reducible refine (coded_calls s hs _).mono ?_); rintro e w4 ⟨rfl, hb4⟩))
      all_goals first
        | (go_roundg (left 4 (seen.push i))
           case measure => exact Nat.lt_of_lt_of_le (left_push (List.getElem?_eq_some_iff.1 H1.out).1 H2.out) hk
           case rel => exact ⟨seen.push i, by rw [takenAt_push s seen i k v H1.out, HTb.out]; simp, Nat.le_refl _, h3, h4, hbw.grown h5 hbw.size (fun j hj => by cases hj; exact hz)⟩)
        | (go_ret
           refine ⟨?_, by first | exact hbw | exact hbw.trans (hb4.mono hbw.size)⟩
           rw [HS.out, ← HT.out HA.out, HTb.out]
           rw [← H35.out h0]
           first
             | (apply sh1; assumption; done)
             | (apply sh2 <;> first | assumption | (simp; done) | (simp at *; omega))
             | (apply sh3 <;> first | assumption | (simp; done) | (simp at *; omega)))
    · go_wp2_with (first | (at_next; refine wpList_next_lit Value.string Value.string rfl _ rfl signsL w1.heap.size w2.heap.size seen rfl hit hmp ?_ ?_; all_goals first | (intro i k v w3 h1 h2 h3 h4 h5 h6 h7; have H2 := Lib.hid h2; have H1 := Lib.hid h1; have H6 := Lib.hid h6; clear h1 h2 h6) | (intro hall; have HA := Lib.hid hall; clear hall)) | (go_at_call 19; (with_reducible refine (Try.strings_Contains_one s 59 _).mono ?_); rintro e w' ⟨rfl, rfl⟩) | (go_at_call 20; (with_reducible refine (coded_calls s hs _).mono ?_); rintro e w4 ⟨rfl, hb4⟩))
      all_goals first
        | (go_roundg (left 4 (seen.push i))
           case measure => exact Nat.lt_of_lt_of_le (left_push (List.getElem?_eq_some_iff.1 H1.out).1 H2.out) hk
           case rel => exact ⟨seen.push i, by rw [takenAt_push s seen i k v H1.out, HTb.out]; simp, Nat.le_refl _, h3, h4, hbw.grown h5 hbw.size (fun j hj => by cases hj; exact hz)⟩)
        | (go_ret
           refine ⟨?_, by first | exact hbw | exact hbw.trans (hb4.mono hbw.size)⟩
           rw [HS.out, ← HT.out HA.out, HTb.out]
           rw [← H35.out h0]
           first
             | (apply sh1; assumption; done)
             | (apply sh2 <;> first | assumption | (simp; done) | (simp at *; omega))
             | (apply sh3 <;> first | assumption | (simp; done) | (simp at *; omega)))

end Go.Proofs.Ytbhmhoocohiieaa

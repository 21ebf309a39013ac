/- Walks of layer 10's reader: bad, take, add, visible, checked. -/
import Derived.WalkKit
import Derived.WalkLawsBesides
import Derived.WalkSpells
import Derived.Deep.QuietTactic
import Derived.BigQuiet
import Derived.StillTailTactics
import Derived.LoopTactic
import Derived.LoopN
import Derived.Deep.LoopGhost
import Derived.Lib.Hide
import Derived.Defers
import Derived.Recover
import Derived.Laws.Pointers
import Derived.Test.YtaokofnhkojllaaProg
import Derived.Test.YtaokofnhkojllaaShelf
import Derived.Test.YtaokofnhkojllaaAids
import Derived.Test.YtaokofnhkojllaaMapLit
import Derived.Test.YtaokofnhkojllaaPureB
set_option linter.unusedVariables false
set_option linter.unusedSimpArgs false
namespace Go.Proofs.Ytaokofnhkojllaa
open Go.Shelf Go.RowKit Go.Lib Go.Aids Go.MapLit Go.Proofs.YtaokofnhkojllaaW.PrintWords

theorem wrap64_in (n : Int) (h0 : -9223372036854775808 ≤ n) (h1 : n ≤ 9223372036854775807) : wrap64 n = n := by unfold wrap64; omega
theorem ext_list (s : ByteArray) (a b : Nat) : (s.extract a b).data.toList = (s.data.toList.drop a).take (b - a) := by
  rw [ByteArray.data_extract, Array.toList_extract]
theorem ba_eq {a b : ByteArray} (h : a.data.toList = b.data.toList) : a = b := by
  obtain ⟨⟨a⟩⟩ := a
  obtain ⟨⟨b⟩⟩ := b
  exact congrArg (fun l => (⟨⟨l⟩⟩ : ByteArray)) h
theorem ext_ext (s : ByteArray) (a i j : Nat) (h : a + j ≤ s.size) : (s.extract a s.size).extract i j = s.extract (a + i) (a + j) := by
  apply ba_eq
  rw [ext_list, ext_list, ext_list, List.drop_take, List.take_take, List.drop_drop]
  congr 1
  omega
theorem ext_size (s : ByteArray) (a : Nat) (h : a ≤ s.size) : (s.extract a s.size).size = s.size - a := by
  rw [ByteArray.size_extract]; omega
theorem pk_ext (s : ByteArray) (a j k : Nat) (h : a + k < j) (hj : j ≤ s.size) : pk (s.extract a j) k = pk s (a + k) := by
  have h1 : k < (s.extract a j).size := by rw [ByteArray.size_extract]; omega
  rw [pk_get _ _ h1, pk_get _ _ (by omega)]
  rw [ByteArray.getElem_extract]
theorem get_data (s : ByteArray) (a : Nat) (h : a < s.size) : s.data.toList[a]'(by rw [Array.length_toList]; exact h) = UInt8.ofNat (pk s a) := by
  rw [pk_get s a h]
  simp
  rfl
theorem ext_one (s : ByteArray) (a : Nat) (h : a < s.size) : s.extract a (a + 1) = oneS (pk s a) := by
  apply ba_eq
  rw [ext_list, show a + 1 - a = 1 by omega]
  have hl : a < s.data.toList.length := by rw [Array.length_toList]; exact h
  rw [List.drop_eq_getElem_cons hl, get_data s a h]
  rfl

/-- Tokens as cells. -/
def cellsOf (l : List Tok) : List Value := l.flatMap fun t => [.int .i64 t.kind, .string t.text, .int .i64 t.n]
theorem cellsOf_snoc (l : List Tok) (t : Tok) : cellsOf (l ++ [t]) = cellsOf l ++ [.int .i64 t.kind, .string t.text, .int .i64 t.n] := by simp [cellsOf]
theorem cellsOf_len (l : List Tok) : (cellsOf l).length = l.length * 3 := by
  induction l with
  | nil => rfl
  | cons p r ih => simp only [cellsOf, List.flatMap_cons, List.length_append] at *; simp [ih]; omega
theorem cellsOf_at (l : List Tok) (i : Nat) (hi : i < l.length) : (cellsOf l)[i * 3]? = some (.int .i64 l[i].kind) ∧ (cellsOf l)[i * 3 + 1]? = some (.string l[i].text) ∧ (cellsOf l)[i * 3 + 2]? = some (.int .i64 l[i].n) := by
  induction l generalizing i with
  | nil => simp at hi
  | cons p r ih =>
    cases i with
    | zero => simp [cellsOf]
    | succ i =>
      have := ih i (by simpa using hi)
      simp only [cellsOf, List.flatMap_cons, List.getElem_cons_succ] at *
      refine ⟨?_, ?_, ?_⟩
      · rw [show (i + 1) * 3 = (i * 3) + 1 + 1 + 1 by omega]; simpa using this.1
      · rw [show (i + 1) * 3 + 1 = (i * 3 + 1) + 1 + 1 + 1 by omega]; simpa using this.2.1
      · rw [show (i + 1) * 3 + 2 = (i * 3 + 2) + 1 + 1 + 1 by omega]; simpa using this.2.2

/-- The reader. -/
structure Rd (w : World) (b base : Nat) (v : Value) (rest : ByteArray) (l : List Tok) : Prop where
  blk : w.heap[b]? = some (.cells #[.string rest, v] 47 (0, 0))
  own : w.ownsRow base 28 3 v l.length (cellsOf l)
  ge : base ≤ b
theorem Rd.cells {w : World} {b base : Nat} {v : Value} {rest : ByteArray} {l : List Tok} (h : Rd w b base v rest l) :
    w.cell? ⟨b, 0, none⟩ = some (.string rest) ∧ w.cell? ⟨b, 1, none⟩ = some v ∧ w.frozen? ⟨b, 0, none⟩ = false ∧ w.frozen? ⟨b, 1, none⟩ = false ∧ b < w.heap.size := by
  have := h.blk
  refine ⟨?_, ?_, ?_, ?_, ?_⟩
  · simp [World.cell?, this]
  · simp [World.cell?, this]
  · simp [World.frozen?, this]
  · simp [World.frozen?, this]
  · rw [Array.getElem?_eq_some_iff] at this; exact this.1
theorem Rd.ne {w : World} {b base : Nat} {v : Value} {rest : ByteArray} {l : List Tok} (h : Rd w b base v rest l) : some b ≠ v.ownBlock := own_ne h.own h.blk (by decide)
theorem Rd.below {w w' : World} {b base : Nat} {v : Value} {rest : ByteArray} {l : List Tok} (h : Rd w b base v rest l) (hb : Below w.heap.size w w') : Rd w' b base v rest l :=
  ⟨(hb.block b h.cells.2.2.2.2).trans h.blk, own_move h.own fun k hk => hb.block k (own_lt h.own k hk), h.ge⟩
theorem Rd.set0 {w : World} {b base : Nat} {v : Value} {rest : ByteArray} {l : List Tok} (h : Rd w b base v rest l) (r : ByteArray) : Rd (w.setCell ⟨b, 0, none⟩ (.string r)) b base v r l := by
  refine ⟨?_, own_move h.own fun k hk => Below.heap_setCell _ _ _ _ (by rintro rfl; exact h.ne hk.symm), h.ge⟩
  have := h.blk
  simp [World.setCell, Array.getElem?_modify, this]

abbrev erW (p : Addr) : Value := .iface 87 (.pointer (some p))
abbrev thrownE (p : Addr) : Ending := .panicked [{ v := .iface 43 (.agg #[erW p]), recovered := false }]
def Bad (base : Nat) (w : World) (e : Ending) (w' : World) : Prop := ∃ o, e = thrownE o ∧ Below base w w'

theorem bad_calls (w : World) : Calls Try.prog 36 #[] w (Bad w.heap.size w) := by
  go_enter Try.func36, Try.ntmps36
  go_wp2_with (go_at_call 53; go_in)
  exact ⟨rfl, _, rfl, (Below.refl _ w).alloc (Nat.le_refl _) _⟩

theorem take_calls (w : World) (b base : Nat) (v : Value) (R : ByteArray) (l : List Tok) (n : Nat) (h : Rd w b base v R l) (hR : R.size ≤ 4611686018427387904) (hn : n ≤ R.size) :
    Calls Try.prog 26 #[.pointer (some ⟨b, 0, none⟩), .int .i64 n] w fun e w' => e = .returned (.string (R.extract 0 n)) ∧ w' = w.setCell ⟨b, 0, none⟩ (.string (R.extract n R.size)) := by
  obtain ⟨c0, c1, f0, f1, hl⟩ := h.cells
  have d : decide ((R.size : Int) < n) = false := decide_eq_false (by omega)
  go_enter Try.func26, Try.ntmps26
  go_wp2
  go_ret
  exact ⟨rfl, rfl⟩
theorem take_bad (w : World) (b base : Nat) (v : Value) (R : ByteArray) (l : List Tok) (n : Nat) (h : Rd w b base v R l) (hR : R.size ≤ 4611686018427387904) (hn : R.size < n) :
    Calls Try.prog 26 #[.pointer (some ⟨b, 0, none⟩), .int .i64 n] w (Bad w.heap.size w) := by
  obtain ⟨c0, c1, f0, f1, hl⟩ := h.cells
  have d : decide ((R.size : Int) < n) = true := decide_eq_true (by omega)
  go_enter Try.func26, Try.ntmps26
  go_wp2_with (go_at_call 36; refine (bad_calls _).mono ?_; rintro e w1 ⟨o, rfl, hb⟩)
  exact ⟨rfl, o, rfl, hb⟩

theorem info28 : (Try.prog.info? 28).map (fun i => (i.zero, i.size, i.bytes)) = some (some (.agg #[.int .i64 0, .string ⟨#[]⟩, .int .i64 0]), 3, 32) := by kernel_rfl
set_option maxHeartbeats 1000000 in
theorem add_calls (w : World) (b base : Nat) (v : Value) (R : ByteArray) (l : List Tok) (t : Tok) (h : Rd w b base v R l) (hl : l.length ≤ 1000000) :
    Calls Try.prog 28 #[.pointer (some ⟨b, 0, none⟩), .int .i64 t.kind, .string t.text, .int .i64 t.n] w fun e w' => e = .returned (.tuple #[]) ∧ (∃ v', Rd w' b base v' R (l ++ [t])) ∧ Below base w w' := by
  obtain ⟨c0, c1, f0, f1, hb⟩ := h.cells
  have hge := h.ge
  have hne := h.ne
  have hown := h.own
  have hbk := h.blk
  have HH := Lib.hid h
  clear h
  go_enter Try.func28, Try.ntmps28
  go_wp2_with (at_builtin; refine Go.Aids.append_cells (w0 := w) base rfl _ _ 23 28 (.agg #[.int .i64 0, .string ⟨#[]⟩, .int .i64 0]) 3 32 w.heap.size rfl Try.underlying23 info28 rfl (by decide) (by decide) v l.length (cellsOf l) [.int .i64 t.kind, .string t.text, .int .i64 t.n] rfl rfl rfl rfl (by simp [Value.oneCell']) hown (Below.refl _ _) (by omega) (by omega) ?_; intro v1 w1 hown1 hb1 hg1 hat1; have hbk1 := (hg1.block b hb hne).trans hbk; have k1 : w1.cell? ⟨b, 1, none⟩ = some v := (by simp [World.cell?, hbk1]); have q1 : w1.frozen? ⟨b, 1, none⟩ = false := (by simp [World.frozen?, hbk1]); clear hg1 hat1; obtain ⟨A1, n1, rfl⟩ := own_slice hown1)
  go_end0
  refine ⟨rfl, ⟨.slice A1 (l.length + 1) n1, ?_, ?_, hge⟩, hb1.setCell hge _⟩
  · simp [World.setCell, Array.getElem?_modify, hbk1]
  · have hne1 : some b ≠ (Value.slice A1 (l.length + 1) n1).ownBlock := own_ne hown1 hbk1 (by decide)
    rw [cellsOf_snoc, List.length_append]
    exact own_move hown1 fun k hk => Below.heap_setCell _ _ _ _ (by rintro rfl; exact hne1 hk.symm)

theorem badR_pred (w : World) : PredAt Try.prog 63 #[] encR badR w := fun W r _ => by
  unfold FnGives badR
  by_cases h1 : r < 33 <;> by_cases h2 : 126 < r
  all_goals
    have z1 : (r : Int) < 33 ↔ r < 33 := by omega
    have z2 : (126 : Int) < (r : Int) ↔ 126 < r := by omega
    go_enter Try.func63, Try.ntmps63
    go_wp2
    all_goals first | (exfalso; omega) | (go_ret; exact ⟨by simp [h1, h2], 0, rfl⟩)
theorem visible_calls (s : ByteArray) (w : World) : Calls Try.prog 61 #[.string s] w fun e w' => e = .returned (.bool (allSeen s 0 s.size)) ∧ Below w.heap.size w w' := by
  have hC := Try.strings_ContainsFunc 63 #[] (enters_of Try.func63 (by kernel_rfl) rfl) _ s w (badR_pred w)
  rw [← visible_iff]
  go_enter Try.func61, Try.ntmps61
  go_wp2_with (go_at_call 62; refine hC.mono ?_; rintro e w' ⟨rfl, hb⟩)
  go_ret
  exact ⟨rfl, hb⟩
def checkB (s : ByteArray) (least most : Nat) : Bool := decide (least ≤ s.size) && decide (s.size ≤ most) && allSeen s 0 s.size
theorem checked_ok (s : ByteArray) (least most : Nat) (w : World) (h : checkB s least most = true) :
    Calls Try.prog 54 #[.string s, .int .i64 least, .int .i64 most] w fun e w' => e = .returned (.string s) ∧ Below w.heap.size w w' := by
  unfold checkB at h
  simp only [Bool.and_eq_true, decide_eq_true_eq] at h
  obtain ⟨⟨h1, h2⟩, h3⟩ := h
  have HV := Lib.hid (fun W => visible_calls s W)
  rw [h3] at HV
  have d1 : decide (s.size < least) = false := decide_eq_false (by omega)
  have d2 : decide (most < s.size) = false := decide_eq_false (by omega)
  clear h3 h1 h2
  go_enter Try.func54, Try.ntmps54
  go_wp2_with (go_at_call 61; refine (HV.out _).mono ?_; rintro e w1 ⟨rfl, hb⟩)
  go_ret
  exact ⟨rfl, hb⟩
theorem checked_bad (s : ByteArray) (least most : Nat) (w : World) (h : checkB s least most = false) :
    Calls Try.prog 54 #[.string s, .int .i64 least, .int .i64 most] w (Bad w.heap.size w) := by
  unfold checkB at h
  by_cases h1 : least ≤ s.size
  · by_cases h2 : s.size ≤ most
    · have h3 : allSeen s 0 s.size = false := by
        rw [decide_eq_true h1, decide_eq_true h2] at h
        simpa using h
      have HV := Lib.hid (fun W => visible_calls s W)
      rw [h3] at HV
      have d1 : decide (s.size < least) = false := decide_eq_false (by omega)
      have d2 : decide (most < s.size) = false := decide_eq_false (by omega)
      clear h3 h1 h2 h
      go_enter Try.func54, Try.ntmps54
      go_wp2_with (first | (go_at_call 61; refine (HV.out _).mono ?_; rintro e w1 ⟨rfl, hb⟩) | (go_at_call 36; refine (bad_calls _).mono ?_; rintro e w2 ⟨o, rfl, hb2⟩))
      exact ⟨rfl, o, rfl, hb.trans (hb2.mono hb.size)⟩
    · have d1 : decide (s.size < least) = false := decide_eq_false (by omega)
      have d2 : decide (most < s.size) = true := decide_eq_true (by omega)
      clear h1 h2 h
      go_enter Try.func54, Try.ntmps54
      go_wp2_with (go_at_call 36; refine (bad_calls _).mono ?_; rintro e w2 ⟨o, rfl, hb2⟩)
      exact ⟨rfl, o, rfl, hb2⟩
  · have d1 : decide (s.size < least) = true := decide_eq_true (by omega)
    clear h1 h
    go_enter Try.func54, Try.ntmps54
    go_wp2_with (go_at_call 36; refine (bad_calls _).mono ?_; rintro e w2 ⟨o, rfl, hb2⟩)
    exact ⟨rfl, o, rfl, hb2⟩
end Go.Proofs.Ytaokofnhkojllaa

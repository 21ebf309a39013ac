/- Walks: the runs of marks. -/
import Derived.Test.YtbhmhoocohiieaaKinds
import Derived.Test.YtbhmhoocohiieaaAids
import Derived.Test.YtbhmhoocohiieaaWalkE
set_option linter.unusedVariables false
set_option linter.unusedSimpArgs false
namespace Go.Proofs.Ytbhmhoocohiieaa
open Go.Shelf Go.RowKit Go.Lib Go.MapLit Go.Opens Go.Proofs.YtbhmhoocohiieaaW.PrintWords

instance : Inhabited Mark := ⟨⟨0, 0, 0, 0, 0, ⟨#[]⟩, ⟨#[]⟩, ⟨#[]⟩, []⟩⟩
/-- May two marks, one behind the other, stand in one run? -/
def tog (a b : Mark) : Prop := a.stroke.toList = [] ∧ b.stroke.toList = [] ∧ a.y = b.y ∧ a.font = b.font ∧ a.size = b.size ∧ a.colour.toList = b.colour.toList ∧ a.x ≤ b.x
instance (a b : Mark) : Decidable (tog a b) := by unfold tog; infer_instance
def setLast (r : List (Nat × Nat)) (e : Nat) : List (Nat × Nat) := r.set (r.length - 1) ((r.getD (r.length - 1) (0, 0)).1, e)
def runsTo (l : List Mark) : Nat → List (Nat × Nat)
  | 0 => []
  | k + 1 => if 0 < (runsTo l k).length ∧ tog (l.getD (k - 1) default) (l.getD k default) then setLast (runsTo l k) (k + 1) else runsTo l k ++ [(k, k + 1)]
def flat (r : List (Nat × Nat)) : List Value := r.flatMap fun p => [.int .i64 p.1, .int .i64 p.2]
theorem flat_len (r : List (Nat × Nat)) : (flat r).length = r.length * 2 := by
  induction r with
  | nil => rfl
  | cons p r ih => simp only [flat, List.flatMap_cons, List.length_append] at *; simp [ih]; omega
theorem flat_snoc (r : List (Nat × Nat)) (p : Nat × Nat) : flat (r ++ [p]) = flat r ++ [.int .i64 p.1, .int .i64 p.2] := by simp [flat]
theorem flat_at (r : List (Nat × Nat)) (i : Nat) (hi : i < r.length) : (flat r)[i * 2]? = some (.int .i64 r[i].1) ∧ (flat r)[i * 2 + 1]? = some (.int .i64 r[i].2) := by
  induction r generalizing i with
  | nil => simp at hi
  | cons p r ih =>
    cases i with
    | zero => simp [flat]
    | succ i =>
      have := ih i (by simpa using hi)
      simp only [flat, List.flatMap_cons, List.getElem_cons_succ] at *
      constructor
      · rw [show (i + 1) * 2 = (i * 2) + 1 + 1 by omega]; simpa using this.1
      · rw [show (i + 1) * 2 + 1 = (i * 2 + 1) + 1 + 1 by omega]; simpa using this.2
theorem flat_set (r : List (Nat × Nat)) (i e : Nat) (hi : i < r.length) : (flat r).set (i * 2 + 1) (.int .i64 e) = flat (r.set i (r[i].1, e)) := by
  induction r generalizing i with
  | nil => simp at hi
  | cons p r ih =>
    cases i with
    | zero => simp [flat]
    | succ i =>
      have := ih i (by simpa using hi)
      simp only [flat, List.flatMap_cons, List.getElem_cons_succ, List.set_cons_succ] at *
      rw [show (i + 1) * 2 + 1 = (i * 2 + 1) + 1 + 1 by omega]
      simpa using this
theorem setLast_len (r : List (Nat × Nat)) (e : Nat) : (setLast r e).length = r.length := by simp [setLast]
theorem runsTo_len (l : List Mark) : ∀ k, (runsTo l k).length ≤ k
  | 0 => Nat.le_refl _
  | k + 1 => by
    have := runsTo_len l k
    unfold runsTo
    split
    · rw [setLast_len]; omega
    · simp; omega

/-- What a call of Runs leaves: a row of its own that holds the runs. -/
def RunsPost (w : World) (r : List (Nat × Nat)) (e : Ending) (w' : World) : Prop := ∃ v, e = .returned v ∧ w'.ownsRow w.heap.size 30 2 v r.length (flat r) ∧ Below w.heap.size w w'

theorem info30 : (Try.prog.info? 30).map (fun i => (i.zero, i.size, i.bytes)) = some (some (.agg #[.int .i64 0, .int .i64 0]), 2, 16) := by kernel_rfl

set_option maxRecDepth 100000 in
set_option maxHeartbeats 4000000 in
theorem pruns_calls (A : Option Addr) (c : Nat) (l : List Mark) (w : World) (hC : kMark.C w A l.length l) (hl : l.length ≤ 200) :
    Calls Try.prog 8 #[.slice A l.length c] w (RunsPost w (runsTo l l.length)) := by
  rcases Nat.eq_zero_or_pos l.length with h0 | h0
  · have hnil : l = [] := List.eq_nil_of_length_eq_zero h0
    subst hnil
    go_enter Try.func8, Try.ntmps8
    go_wp2
    go_loopw [3, 10] (fun v i wr => v = .slice none 0 0 ∧ i = .int .i64 0 ∧ wr = w) (fun _ _ _ => 0)
    case atStart => exact ⟨rfl, rfl, rfl⟩
    case round =>
      obtain ⟨rfl, rfl, rfl⟩ := hrel
      go_wp2
      go_ret
      exact ⟨_, rfl, World.ownsRow_nil _ _ _ _, Below.refl _ _⟩
  obtain ⟨b, off, rfl, hbl, hm⟩ := marks_at hC h0
  have HM := Lib.hid hm
  clear hm hC
  go_enter Try.func8, Try.ntmps8
  go_wp2
  go_loopw [3, 10] (fun v i wr => ∃ k : Nat, k ≤ l.length ∧ i = .int .i64 k ∧ wr.ownsRow w.heap.size 30 2 v (runsTo l k).length (flat (runsTo l k)) ∧ Below w.heap.size w wr) (fun _ i _ => l.length - (intOf i).toNat)
  case atStart => exact ⟨0, Nat.zero_le _, rfl, World.ownsRow_nil _ _ _ _, Below.refl _ _⟩
  case round =>
    obtain ⟨k, hk, rfl, hown, hb⟩ := hrel
    by_cases hlt : k < l.length
    · obtain ⟨N, q, hmk, _, _⟩ := HM.out k hlt
      obtain ⟨m0, m1, m2, m3, m4, m5, m6, m7, m8⟩ := hmk.below hb
      clear hmk
      have hz : b < wr.heap.size := by have := hb.size; omega
      have hlen := runsTo_len l k
      have hbs : w.heap.size ≤ wr.heap.size := hb.size
      obtain ⟨r, hr⟩ : ∃ r, runsTo l k = r := ⟨_, rfl⟩
      rw [hr] at hown hlen
      have Hr := Lib.hid hr
      clear hr
      rcases Nat.eq_zero_or_pos r.length with hn | hn
      · have hrn : r = [] := List.eq_nil_of_length_eq_zero hn
        subst hrn
        have hstep : Hid (runsTo l (k + 1) = [] ++ [(k, k + 1)]) := by show _ = _; rw [runsTo, Hr.out, if_neg (by simp)]
        obtain ⟨R, rc, rfl⟩ := own_slice hown
        go_wp2_with (at_builtin; refine Go.Aids.append_cells w.heap.size rfl _ _ 28 30 (.agg #[.int .i64 0, .int .i64 0]) 2 16 (wr.heap.size + 1) rfl Try.underlying28 info30 rfl (by decide) (by decide) _ 0 [] [.int .i64 k, .int .i64 (k + 1)] rfl rfl (by simp) rfl (by simp [Value.oneCell']) (hown.alloc _) (hb.alloc hbs _) (by simp; omega) (by decide) ?_; intro v1 w1 hown1 hb1 hg1 hat1; clear hg1 hat1)
        go_roundw
        case rel => exact ⟨k + 1, by omega, by go_num, by rw [hstep.out]; exact hown1, hb1⟩
        case measure => simp [intOf]; omega
      · obtain ⟨g, cap, rfl, hgb, hgl⟩ := hown.form hn
        obtain ⟨j, rfl⟩ : ∃ j, k = j + 1 := ⟨k - 1, by omega⟩
        obtain ⟨m, hrm⟩ : ∃ m, r.length = m + 1 := ⟨r.length - 1, by omega⟩
        obtain ⟨N2, q2, hmk2, _, _⟩ := HM.out j (by omega)
        obtain ⟨y0, y1, y2, y3, y4, y5, y6, y7, y8⟩ := hmk2.below hb
        clear hmk2
        obtain ⟨x0, hcell⟩ : ∃ x0 : Int, wr.cell? ⟨g, m * 2 + 1, none⟩ = some (.int .i64 x0) := ⟨_, by rw [hown.cellAt _ (by omega)]; exact (flat_at r m (by omega)).2⟩
        have hfr : wr.frozen? ⟨g, m * 2 + 1, none⟩ = false := hown.frozenAt _
        have hstep : Hid (runsTo l (j + 1 + 1) = if tog l[j] l[j + 1] then setLast r (j + 1 + 1) else r ++ [(j + 1, j + 1 + 1)]) := by
          show _ = _
          rw [runsTo, Hr.out]
          have e1 : l.getD (j + 1 - 1) default = l[j] := by simp [List.getD, show j < l.length by omega]
          have e2 : l.getD (j + 1) default = l[j + 1] := by simp [List.getD, hlt]
          rw [e1, e2]
          by_cases ht : tog l[j] l[j + 1]
          · rw [if_pos ⟨hn, ht⟩, if_pos ht]
          · rw [if_neg (fun h => ht h.2), if_neg ht]
        have hown' : wr.ownsRow w.heap.size 30 2 (.slice (some ⟨g, 0, none⟩) (m + 1) cap) (m + 1) (flat r) := by rw [← hrm]; exact hown
        have Hrm := Lib.hid hrm
        have hm200 : m ≤ 200 := by omega
        rw [hrm]
        clear hown hrm hlen hn
        go_wp2_with (first
          | (at_builtin; refine Go.Aids.append_cells w.heap.size rfl _ _ 28 30 (.agg #[.int .i64 0, .int .i64 0]) 2 16 (wr.heap.size + 1) rfl Try.underlying28 info30 rfl (by decide) (by decide) _ (m + 1) (flat r) [.int .i64 (j + 1), .int .i64 (j + 1 + 1)] rfl rfl (by simp) rfl (by simp [Value.oneCell']) (hown'.alloc _) (hb.alloc hbs _) (by simp; omega) (by omega) ?_; intro v1 w1 hown1 hb1 hg1 hat1; clear hg1 hat1)
          | (at_builtin; refine Go.Aids.append_cells w.heap.size rfl _ _ 28 30 (.agg #[.int .i64 0, .int .i64 0]) 2 16 (wr.heap.size + 2) rfl Try.underlying28 info30 rfl (by decide) (by decide) _ (m + 1) (flat r) [.int .i64 (j + 1), .int .i64 (j + 1 + 1)] rfl rfl (by simp) rfl (by simp [Value.oneCell']) ((hown'.alloc _).alloc _) ((hb.alloc hbs _).alloc (by simp; omega) _) (by simp; omega) (by omega) ?_; intro v1 w1 hown1 hb1 hg1 hat1; clear hg1 hat1))
        · have ht : tog l[j] l[j + 1] := by
            refine ⟨?_, ‹_›, ‹_›, ‹_›, ‹_›, ‹_›, ‹_›⟩
            exact List.isEmpty_iff.1 ‹_›
          go_roundw
          case rel =>
            have hs := hb.setCell (p := ⟨g, m * 2 + 1, none⟩) hgb (.int .i64 ((j + 1 + 1 : Nat) : Int))
            refine ⟨j + 1 + 1, by omega, by go_num, ?_, (hs.alloc hs.size _).alloc (by have := hs.size; simp at this ⊢; omega) _⟩
            rw [hstep.out, if_pos ht, setLast_len, Hrm.out]
            have h := (hown'.stored (m * 2 + 1) (.int .i64 ((j + 1 + 1 : Nat) : Int))).1
            rw [flat_set r m (j + 1 + 1) (by have := Hrm.out; omega)] at h
            have e : setLast r (j + 1 + 1) = r.set m ((r[m]'(by have := Hrm.out; omega)).1, j + 1 + 1) := by
              have := Hrm.out
              unfold setLast
              rw [show r.length - 1 = m by omega]
              congr 1
              rw [List.getD_eq_getElem?_getD, List.getElem?_eq_getElem (by omega)]
              rfl
            rw [e]
            exact (h.alloc _).alloc _
          case measure => simp [intOf]; omega
        all_goals
          have ht : ¬ tog l[j] l[j + 1] := by
            rintro ⟨h1, h2, h3, h4, h5, h6, h7⟩
            first | omega | simp_all
          go_roundw
          case rel =>
            refine ⟨j + 1 + 1, by omega, by go_num, ?_, hb1⟩
            rw [hstep.out, if_neg ht, flat_snoc, List.length_append, Hrm.out]
            exact hown1
          case measure => simp [intOf]; omega
    · obtain rfl : k = l.length := by omega
      go_wp2
      go_ret
      exact ⟨_, rfl, hown, hb⟩
end Go.Proofs.Ytbhmhoocohiieaa

/- Walks: the reference's runs of marks. -/
import Derived.Test.YtbhmhoocohiieaaWalkF
set_option linter.unusedVariables false
set_option linter.unusedSimpArgs false
namespace Go.Proofs.Ytbhmhoocohiieaa
open Go.Shelf Go.RowKit Go.Lib Go.MapLit Go.Opens Go.Aids Go.Proofs.YtbhmhoocohiieaaW.PrintWords

abbrev markVal (m : Mark) (N : Option Addr) (q : Nat) : Value := .agg #[.int .i64 m.page, .int .i64 m.x, .int .i64 m.y, .int .i64 m.font, .int .i64 m.size, .string m.colour, .string m.name, .string m.stroke, .slice N m.n.length q]

set_option maxHeartbeats 2000000 in
theorem together_calls (a b : Mark) (N M : Option Addr) (q r : Nat) (w : World) :
    Calls Try.prog 14 #[markVal a N q, markVal b M r] w fun e w' => e = .returned (.bool (decide (tog a b))) ∧ Below w.heap.size w w' := by
  go_enter Try.func14, Try.ntmps14
  go_wp2
  all_goals go_ret
  all_goals refine ⟨?_, ((Below.refl _ _).alloc (Nat.le_refl _) _).alloc (by simp) _⟩
  all_goals first
    | (show Ending.returned (.bool (decide (a.x ≤ b.x))) = _
       refine congrArg (fun x => Ending.returned (.bool x)) (decide_eq_decide.2 ?_)
       unfold tog; constructor
       · intro h; refine ⟨?_, ?_, ?_, ?_, ?_, ?_, h⟩ <;> assumption
       · intro h; exact h.2.2.2.2.2.2)
    | (show Ending.returned (.bool false) = _
       refine congrArg (fun x => Ending.returned (.bool x)) (decide_eq_false ?_).symm
       rintro ⟨h1, h2, h3, h4, h5, h6, h7⟩
       first | omega | simp_all)

theorem dbg {p : Prop} (h : True → p) : p := h trivial
set_option maxRecDepth 100000 in
set_option maxHeartbeats 4000000 in
theorem rruns_calls (A : Option Addr) (c : Nat) (l : List Mark) (w : World) (hC : kMark.C w A l.length l) (hl : l.length ≤ 200) :
    Calls Try.prog 9 #[.slice A l.length c] w (RunsPost w (runsTo l l.length)) := by
  rcases Nat.eq_zero_or_pos l.length with h0 | h0
  · have hnil : l = [] := List.eq_nil_of_length_eq_zero h0
    subst hnil
    go_enter Try.func9, Try.ntmps9
    go_wp2
    go_loopw [3, 4] (fun v i wr => v = .slice none 0 0 ∧ i = .int .i64 0 ∧ wr = w) (fun _ _ _ => 0)
    case atStart => exact ⟨rfl, rfl, rfl⟩
    case round =>
      obtain ⟨rfl, rfl, rfl⟩ := hrel
      go_wp2
      go_ret
      exact ⟨_, rfl, World.ownsRow_nil _ _ _ _, Below.refl _ _⟩
  obtain ⟨b, off, rfl, hbl, hm⟩ := marks_at hC h0
  have HM := Lib.hid hm
  clear hm hC
  go_enter Try.func9, Try.ntmps9
  go_wp2
  go_loopw [3, 4] (fun v i wr => ∃ k : Nat, k ≤ l.length ∧ i = .int .i64 k ∧ wr.ownsRow w.heap.size 30 2 v (runsTo l k).length (flat (runsTo l k)) ∧ Below w.heap.size w wr) (fun _ i _ => l.length - (intOf i).toNat)
  case atStart => exact ⟨0, Nat.zero_le _, rfl, World.ownsRow_nil _ _ _ _, Below.refl _ _⟩
  case round =>
    obtain ⟨k, hk, rfl, hown, hb⟩ := hrel
    by_cases hlt : k < l.length
    · obtain ⟨N, q, hmk, _, _⟩ := HM.out k hlt
      obtain ⟨m0, m1, m2, m3, m4, m5, m6, m7, m8⟩ := hmk.below hb
      clear hmk
      have hz : b < wr.heap.size := by have := hb.size; omega
      have hlen := runsTo_len l k
      have hbs : w.heap.size ≤ wr.heap.size := hb.size
      obtain ⟨r, hr⟩ : ∃ r, runsTo l k = r := ⟨_, rfl⟩
      rw [hr] at hown hlen
      have Hr := Lib.hid hr
      clear hr
      rcases Nat.eq_zero_or_pos r.length with hn | hn
      · have hrn : r = [] := List.eq_nil_of_length_eq_zero hn
        subst hrn
        have hstep : Hid (runsTo l (k + 1) = [] ++ [(k, k + 1)]) := by show _ = _; rw [runsTo, Hr.out, if_neg (by simp)]
        obtain ⟨R, rc, rfl⟩ := own_slice hown
        go_wp2
        go_quiet (fail)
        have hownN := pw_own_drewN hown nq
        have hbN := belowN hb nq
        have hbsN : w.heap.size ≤ (wr.drewN nq).heap.size := hbs
        generalize wr.drewN nq = wn at *
        simp only [List.length_nil, show flat [] = [] from rfl] at hownN
        go_wp2_with (at_builtin; refine dbg ?_)
        intro _
        refine Go.Aids.append_cells w.heap.size rfl _ _ 28 30 (.agg #[.int .i64 0, .int .i64 0]) 2 16 (wn.heap.size) rfl Try.underlying28 info30 rfl (by decide) (by decide) (.slice R 0 rc) 0 [] [.int .i64 k, .int .i64 (k + 1)] rfl rfl (by simp) rfl (by simp [Value.oneCell']) hownN hbN hbsN (by decide) ?_
        intro v1 w1 hown1 hb1 hg1 hat1
        clear hg1 hat1
        go_wp2
        go_roundw
        case rel => exact ⟨k + 1, by omega, by go_num, by rw [hstep.out]; exact hown1, hb1⟩
        case measure => simp [intOf]; omega
      · obtain ⟨g, cap, rfl, hgb, hgl⟩ := hown.form hn
        obtain ⟨j, rfl⟩ : ∃ j, k = j + 1 := ⟨k - 1, by omega⟩
        obtain ⟨m, hrm⟩ : ∃ m, r.length = m + 1 := ⟨r.length - 1, by omega⟩
        obtain ⟨N2, q2, hmk2, _, _⟩ := HM.out j (by omega)
        obtain ⟨y0, y1, y2, y3, y4, y5, y6, y7, y8⟩ := hmk2.below hb
        clear hmk2
        have hstep : Hid (runsTo l (j + 1 + 1) = if tog l[j] l[j + 1] then setLast r (j + 1 + 1) else r ++ [(j + 1, j + 1 + 1)]) := by
          show _ = _
          rw [runsTo, Hr.out]
          have e1 : l.getD (j + 1 - 1) default = l[j] := by simp [List.getD, show j < l.length by omega]
          have e2 : l.getD (j + 1) default = l[j + 1] := by simp [List.getD, hlt]
          rw [e1, e2]
          by_cases ht : tog l[j] l[j + 1]
          · rw [if_pos ⟨hn, ht⟩, if_pos ht]
          · rw [if_neg (fun h => ht h.2), if_neg ht]
        have hown' : wr.ownsRow w.heap.size 30 2 (.slice (some ⟨g, 0, none⟩) (m + 1) cap) (m + 1) (flat r) := by rw [← hrm]; exact hown
        obtain ⟨x0, hcell⟩ : ∃ x0 : Int, wr.cell? ⟨g, m * 2 + 1, none⟩ = some (.int .i64 x0) := ⟨_, by rw [hown.cellAt _ (by omega)]; exact (flat_at r m (by omega)).2⟩
        have hfr : wr.frozen? ⟨g, m * 2 + 1, none⟩ = false := hown.frozenAt _
        have Hrm := Lib.hid hrm
        have hm200 : m ≤ 200 := by omega
        rw [hrm]
        clear hown hrm hlen hn
        have hwj : IntKind.i64.wrap (j : Int) = j := by exact IntWalk.i64_in _ (by omega)
        have hjl : j < l.length := by omega
        go_wp2
        have hj0 : (0 : Int) ≤ (j : Int) + 1 := by omega
        have hj1 : ((j : Int) + 1).toNat = j + 1 := by omega
        have hj2 : (j : Int) + 1 < l.length := by omega
        go_still_tail 12, (by kernel_rfl)
        change wpList _ _ _ _ _ wr.drew
        have hownD : wr.drew.ownsRow w.heap.size 30 2 (.slice (some ⟨g, 0, none⟩) (m + 1) cap) (m + 1) (flat r) := own_drew hown'
        have hbD : Below w.heap.size w wr.drew := hb.drew
        have hcellD : wr.drew.cell? ⟨g, m * 2 + 1, none⟩ = some (.int .i64 x0) := hcell
        have hfrD : wr.drew.frozen? ⟨g, m * 2 + 1, none⟩ = false := hfr
        have hgD : g < wr.drew.heap.size := hgl
        clear hown' hb hcell hfr hgl m0 m1 m2 m3 m4 m5 m6 m7 m8 y0 y1 y2 y3 y4 y5 y6 y7 y8 hbs hz
        generalize wr.drew = w2 at *
        go_wp2_with (first
          | (go_at_call 14; (with_reducible refine (together_calls l[j] l[j + 1] _ _ _ _ w2).mono ?_); rintro e w3 ⟨rfl, hb3⟩; have hown3 := pw_own_below hownD hb3; have hbw3 := hbD.trans (hb3.mono hbD.size); have hbs3 : w.heap.size ≤ w3.heap.size := hbw3.size; have hcell3 := pw_cell_below hb3 hcellD; have hfr3 := (bcell hb3).2 g (m * 2 + 1) hgD; have hg3 : g < w3.heap.size := Nat.lt_of_lt_of_le hgD hb3.size; rw [hfrD] at hfr3)
          | (at_builtin; refine Go.Aids.append_cells w.heap.size rfl _ _ 28 30 (.agg #[.int .i64 0, .int .i64 0]) 2 16 (w3.heap.size) rfl Try.underlying28 info30 rfl (by decide) (by decide) (.slice (some ⟨g, 0, none⟩) (m + 1) cap) (m + 1) (flat r) [.int .i64 (j + 1), .int .i64 (j + 1 + 1)] rfl rfl (by simp) rfl (by simp [Value.oneCell']) hown3 hbw3 hbs3 (by omega) ?_; intro v1 w1 hown1 hb1 hg1 hat1; clear hg1 hat1)
          )
        · have ht : tog l[j] l[j + 1] := by
            first | assumption | exact of_decide_eq_true ‹_›
          go_roundw
          case rel =>
            have hs := hbw3.setCell (p := ⟨g, m * 2 + 1, none⟩) hgb (.int .i64 ((j + 1 + 1 : Nat) : Int))
            refine ⟨j + 1 + 1, by omega, by go_num, ?_, hs⟩
            rw [hstep.out, if_pos ht, setLast_len, Hrm.out]
            have h := (hown3.stored (m * 2 + 1) (.int .i64 ((j + 1 + 1 : Nat) : Int))).1
            rw [flat_set r m (j + 1 + 1) (by have := Hrm.out; omega)] at h
            have e : setLast r (j + 1 + 1) = r.set m ((r[m]'(by have := Hrm.out; omega)).1, j + 1 + 1) := by
              have := Hrm.out
              unfold setLast
              rw [show r.length - 1 = m by omega]
              congr 1
              rw [List.getD_eq_getElem?_getD, List.getElem?_eq_getElem (by omega)]
              rfl
            rw [e]
            exact h
          case measure => simp [intOf]; omega
        all_goals
          have ht : ¬ tog l[j] l[j + 1] := by
            first | assumption | exact of_decide_eq_false ‹_›
          go_roundw
          case rel =>
            refine ⟨j + 1 + 1, by omega, by go_num, ?_, hb1⟩
            rw [hstep.out, if_neg ht, flat_snoc, List.length_append, Hrm.out]
            exact hown1
          case measure => simp [intOf]; omega
    · obtain rfl : k = l.length := by omega
      go_wp2
      go_ret
      exact ⟨_, rfl, hown, hb⟩
end Go.Proofs.Ytbhmhoocohiieaa

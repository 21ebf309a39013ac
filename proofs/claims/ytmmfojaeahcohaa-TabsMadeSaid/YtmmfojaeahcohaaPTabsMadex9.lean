-- PRINTED BY print.sh 35421559b90ae4d0a3588c463048766b98c2df88dd9212a6774a882060cdf62d: not written by this session
import Derived.Test.YtmmfojaeahcohaaPTabsMadex0
namespace Go.Proofs.Ytmmfojaeahcohaa.PTabsMade
open Go.RowKit Go.Proofs.YtmmfojaeahcohaaW.PrintWords Go.Proofs.YtmmfojaeahcohaaW.PrintLast Go.Proofs.YtmmfojaeahcohaaW.PrintMore
attribute [local go_sem] max2_int min2_int max_two min_two max_three min_three max_four min_four   -- for this text's walks alone
set_option linter.unusedVariables false
set_option linter.unusedSimpArgs false

/-! ### frisketlaw12_Made: function 14 -/
mutual
def frisketlaw12_Made.l0 : Nat → List Int → Int → Int → List (S68) → Int → Option ((List (S68)) × Int)
  | 0, _, _, _, _, _ => none
  | k + 1, x0, x4, x5, x246000, x246001 => if x5 < (x0.length : Int) then (frisketlaw12_Made.j1 k x0 x4 x5 (decide (x5 < 10)) x246000 x246001) else (frisketlaw12_Made.j1 k x0 x4 x5 false x246000 x246001)
def frisketlaw12_Made.j1 : Nat → List Int → Int → Int → Bool → List (S68) → Int → Option ((List (S68)) × Int)
  | 0, _, _, _, _, _, _ => none
  | k + 1, x0, x4, x5, x14, x246000, x246001 => if x14 = true then (if 0 ≤ x5 then (if x5 < (x0.length : Int) then (if x5 = 0 then (if (Int.tmod (wrap64 (Int.tmod (IntKind.u64.wrap (rd x0 x5)) 100000)) 3) = 0 then (frisketlaw12_Made.l0 k x0 x4 (wrap64 (x5 + 1)) x246000 (wrap64 (1 + (Int.tmod (wrap64 (Int.tmod (IntKind.u64.wrap (rd x0 x5)) 100000)) 300)))) else (if 0 ≤ (Int.tmod (wrap64 (Int.tdiv (wrap64 (Int.tmod (IntKind.u64.wrap (rd x0 x5)) 100000)) 150)) 3) then (if (Int.tmod (wrap64 (Int.tdiv (wrap64 (Int.tmod (IntKind.u64.wrap (rd x0 x5)) 100000)) 150)) 3) < 3 then (if x246000.length < 8796093022208 then (frisketlaw12_Made.l0 k x0 (wrap64 (x4 + (wrap64 (1 + (Int.tmod (wrap64 (Int.tmod (IntKind.u64.wrap (rd x0 x5)) 100000)) 150))))) (wrap64 (x5 + 1)) (x246000 ++ [(⟨wrap64 (x4 + (wrap64 (1 + (Int.tmod (wrap64 (Int.tmod (IntKind.u64.wrap (rd x0 x5)) 100000)) 150)))), bt (⟨#[76, 82, 67]⟩ : ByteArray) (Int.tmod (wrap64 (Int.tdiv (wrap64 (Int.tmod (IntKind.u64.wrap (rd x0 x5)) 100000)) 150)) 3)⟩ : S68)]) x246001) else (none)) else (none)) else (none))) else (if 0 ≤ (Int.tmod (wrap64 (Int.tdiv (wrap64 (Int.tmod (IntKind.u64.wrap (rd x0 x5)) 100000)) 150)) 3) then (if (Int.tmod (wrap64 (Int.tdiv (wrap64 (Int.tmod (IntKind.u64.wrap (rd x0 x5)) 100000)) 150)) 3) < 3 then (if x246000.length < 8796093022208 then (frisketlaw12_Made.l0 k x0 (wrap64 (x4 + (wrap64 (1 + (Int.tmod (wrap64 (Int.tmod (IntKind.u64.wrap (rd x0 x5)) 100000)) 150))))) (wrap64 (x5 + 1)) (x246000 ++ [(⟨wrap64 (x4 + (wrap64 (1 + (Int.tmod (wrap64 (Int.tmod (IntKind.u64.wrap (rd x0 x5)) 100000)) 150)))), bt (⟨#[76, 82, 67]⟩ : ByteArray) (Int.tmod (wrap64 (Int.tdiv (wrap64 (Int.tmod (IntKind.u64.wrap (rd x0 x5)) 100000)) 150)) 3)⟩ : S68)]) x246001) else (none)) else (none)) else (none))) else (none)) else (none)) else (some (x246000, x246001))
end
def frisketlaw12_Made.f (k : Nat) (l0 : List Int) : Option ((List (S68)) × Int) := frisketlaw12_Made.l0 k l0 0 0 ([] : List (S68)) 0
theorem frisketlaw12_Made.mono_l : ∀ k, (∀ y0 y1 y2 y3 y4, LeO (frisketlaw12_Made.l0 k y0 y1 y2 y3 y4) (frisketlaw12_Made.l0 (k + 1) y0 y1 y2 y3 y4)) ∧ (∀ y0 y1 y2 y3 y4 y5, LeO (frisketlaw12_Made.j1 k y0 y1 y2 y3 y4 y5) (frisketlaw12_Made.j1 (k + 1) y0 y1 y2 y3 y4 y5))
  | 0 => ⟨fun _ _ _ _ _ r h => by simp [frisketlaw12_Made.l0] at h, fun _ _ _ _ _ _ r h => by simp [frisketlaw12_Made.j1] at h⟩
  | k + 1 => by
    obtain ⟨ih0, ih1⟩ := frisketlaw12_Made.mono_l k
    refine ⟨?_, ?_⟩
    · intro y0 y1 y2 y3 y4
      unfold frisketlaw12_Made.l0
      repeat' first
      | (with_reducible exact ih0 _ _ _ _ _)
      | (with_reducible exact ih1 _ _ _ _ _ _)
      | (with_reducible exact LeO.refl _)
      | (with_reducible exact LeO.none _)
      | (with_reducible refine LeO.ite ?_ ?_)
      | (with_reducible refine LeO.bind ?_ (fun _ => ?_))
      | exact ih0 _ _ _ _ _
      | exact ih1 _ _ _ _ _ _
      | exact LeO.none _
      | refine LeO.ite ?_ ?_
      | refine LeO.bind ?_ (fun _ => ?_)
    · intro y0 y1 y2 y3 y4 y5
      unfold frisketlaw12_Made.j1
      repeat' first
      | (with_reducible exact ih0 _ _ _ _ _)
      | (with_reducible exact ih1 _ _ _ _ _ _)
      | (with_reducible exact LeO.refl _)
      | (with_reducible exact LeO.none _)
      | (with_reducible refine LeO.ite ?_ ?_)
      | (with_reducible refine LeO.bind ?_ (fun _ => ?_))
      | exact ih0 _ _ _ _ _
      | exact ih1 _ _ _ _ _ _
      | exact LeO.none _
      | refine LeO.ite ?_ ?_
      | refine LeO.bind ?_ (fun _ => ?_)
theorem frisketlaw12_Made.mono : ∀ a0 k, LeO (frisketlaw12_Made.f k a0) (frisketlaw12_Made.f (k + 1) a0) := by
  intro a0 k
  obtain ⟨ih0, ih1⟩ := frisketlaw12_Made.mono_l k
  unfold frisketlaw12_Made.f
  repeat' first
      | (with_reducible exact ih0 _ _ _ _ _)
      | (with_reducible exact ih1 _ _ _ _ _ _)
      | (with_reducible exact LeO.refl _)
      | (with_reducible exact LeO.none _)
      | (with_reducible refine LeO.ite ?_ ?_)
      | (with_reducible refine LeO.bind ?_ (fun _ => ?_))
      | exact ih0 _ _ _ _ _
      | exact ih1 _ _ _ _ _ _
      | exact LeO.none _
      | refine LeO.ite ?_ ?_
      | refine LeO.bind ?_ (fun _ => ?_)
def frisketlaw12_Made.T10 : Bool × List (List Nat × List Nat) := (true, [([], []), ([0], [0]), ([], []), ([], []), ([3], [3]), ([4], [4]), ([5], [5]), ([2, 6], [2, 6]), ([7], [7]), ([1, 8], [1, 8]), ([0, 1, 2, 3, 4, 5, 6, 7, 8, 9], []), ([10, 9, 9, 0, 1, 2, 3, 4, 5, 6, 7, 8, 9], [9, 10])])
def frisketlaw12_Made.B10 : List Nat := [0, 1, 0, 0, 8, 24, 56, 124, 252, 511, 1023, 2047]
theorem frisketlaw12_Made.tab10 : rtab .any (opsOf Try.f14 10) = frisketlaw12_Made.T10 := by kernel_rfl
theorem frisketlaw12_Made.bits10 : waitsOk frisketlaw12_Made.T10.2 frisketlaw12_Made.B10 = true := by kernel_rfl
set_option maxHeartbeats 8000000 in
set_option maxRecDepth 100000 in
theorem frisketlaw12_Made.calls (k : Nat) (A0 : Option Addr) (c0 : Nat) (l0 : List Int) (r1 : List (S68)) (r2 : Int) (w : World) (hr0 : Kd.C (Kd.int .i64) w A0 l0.length l0) (hc0 : l0.length ≤ c0) (h : frisketlaw12_Made.f k l0 = some (r1, r2)) :
    Calls Try.prog 14 #[.slice A0 l0.length c0] w fun e w' => ∃ v0_ : Value, e = .returned (.agg #[v0_, .int .i64 r2]) ∧ Kd.R k68 68 w' w.heap.size (fun _ => True) v0_ r1 ∧ Below w.heap.size w w' := by
  have hu26 := Try.underlying26
  have hu68 := Try.underlying68
  have HR0 := Aside0.mk hr0
  have HC0 := Aside0.mk hc0
  clear hr0 hc0
  have HB := Aside0.mk (Below.refl w.heap.size w)
  have H : (frisketlaw12_Made.l0 k l0 0 0 ([] : List (S68)) 0) = some (r1, r2) := h
  clear h
  have H' := Aside0.mk H
  clear H
  go_enter Try.func14, Try.ntmps14
  go_wp2_with (first | ((with_reducible refine gate_dst (N := 2) rfl ?_); refine box_event ?hg (N := 2) ?hd (cs := #[.slice none 0 0, .int .i64 0]) (t := 26) ?hr ?_; (case hd => rfl); (case hg => rfl); (case hr => first | (go_simp; done) | (go_simp; rfl)); intro gb244 hg w2 hbox hb; have n0_ := Aside0.mk (below_step (by repeat (first | (with_reducible first | exact HB.out | apply below_alloc | apply pw_below_drewN | apply below_drew1) | exact HB.out)) hb); have n1_ := Aside0.mk (hbox); have n2_ := Aside0.mk ((by rw [hg]; exact (below_size (by repeat (first | (with_reducible first | exact HB.out | apply below_alloc | apply pw_below_drewN | apply below_drew1) | exact HB.out))) : w.heap.size ≤ gb244)); have n3_ := Aside0.mk ((by rw [hg]; exact (below_size (by repeat (first | (with_reducible first | exact HB.out | apply below_alloc | apply pw_below_drewN | apply below_drew1) | exact HB.out))) : w.heap.size ≤ gb244)); clear HB; have HB := n0_; have BK244 := n1_; have GW244 := n2_; have GE244 := n3_; clear n0_ n1_ n2_ n3_; clear hb hbox hg) | ((with_reducible refine gate_dst (N := 3) rfl ?_); refine box_event ?hg (N := 3) ?hd (cs := #[.slice none 0 0, .int .i64 0]) (t := 26) ?hr ?_; (case hd => rfl); (case hg => rfl); (case hr => first | (go_simp; done) | (go_simp; rfl)); intro gb245 hg w3 hbox hb; have n0_ := Aside0.mk (blk_below (g := gb244) (o := .cells #[.slice none 0 0, .int .i64 0] 26 (0, 0)) (by (with_reducible repeat (first | refine blk_drewN ?_ _ | refine blk_drew ?_ | refine blk_alloc ?_ _)); exact BK244.out) hb); have n1_ := Aside0.mk (below_step (by repeat (first | (with_reducible first | exact HB.out | apply below_alloc | apply pw_below_drewN | apply below_drew1 | refine below_set ?_ GE244.out) | exact HB.out)) hb); have n2_ := Aside0.mk (hbox); have n3_ := Aside0.mk ((by rw [hg]; exact (below_size (by repeat (first | (with_reducible first | exact HB.out | apply below_alloc | apply pw_below_drewN | apply below_drew1 | refine below_set ?_ GE244.out) | exact HB.out))) : w.heap.size ≤ gb245)); have n4_ := Aside0.mk ((by rw [hg]; exact (below_size (by repeat (first | (with_reducible first | exact HB.out | apply below_alloc | apply pw_below_drewN | apply below_drew1 | refine below_set ?_ GE244.out) | exact HB.out))) : w.heap.size ≤ gb245)); have n5_ := Aside0.mk ((by rw [hg]; exact Nat.ne_of_lt (blk_lt (g := gb244) (o := .cells #[.slice none 0 0, .int .i64 0] 26 (0, 0)) (by (with_reducible repeat (first | refine blk_drewN ?_ _ | refine blk_drew ?_ | refine blk_alloc ?_ _)); exact BK244.out)) : gb244 ≠ gb245)); have n6_ := Aside0.mk ((by rw [hg]; exact Nat.ne_of_gt (blk_lt (g := gb244) (o := .cells #[.slice none 0 0, .int .i64 0] 26 (0, 0)) (by (with_reducible repeat (first | refine blk_drewN ?_ _ | refine blk_drew ?_ | refine blk_alloc ?_ _)); exact BK244.out)) : gb245 ≠ gb244)); clear BK244; clear HB; have BK244 := n0_; have HB := n1_; have BK245 := n2_; have GW245 := n3_; have GE245 := n4_; have NB244_245 := n5_; have NB245_244 := n6_; clear n0_ n1_ n2_ n3_ n4_ n5_ n6_; clear hb hbox hg))
  go_loopg [4, 5] k (fun kq v4 v5 w' => ∃ (x4_1 : Int) (x5_1 : Int) (x246000_1 : List (S68)) (x246001_1 : Int) (u246000 : Value), v4 = .int .i64 x4_1 ∧ v5 = .int .i64 x5_1 ∧ Aside0 (frisketlaw12_Made.l0 kq l0 x4_1 x5_1 x246000_1 x246001_1 = some (r1, r2)) ∧ Aside0 (kq ≤ k) ∧ Aside0 (Kd.R k68 68 w' w.heap.size (fun _ => True) u246000 x246000_1) ∧ Aside0 (w'.heap[gb244]? = some (.cells #[(.slice none 0 0), .int .i64 0] 26 (0, 0))) ∧ Aside0 (w'.heap[gb245]? = some (.cells #[u246000, .int .i64 x246001_1] 26 (0, 0))) ∧ Aside0 (Below w.heap.size w w'))
  case atStart => exact ⟨(0), (0), (([] : List (S68))), (0), (.slice none 0 0), (by first | rfl | (simp; done) | (simp [*]; done)), (by first | rfl | (simp; done) | (simp [*]; done)), H', ⟨Nat.le_refl _⟩, ⟨by first | exact Kd.R_nil _ _ _ _ _ | exact Kd.N_nil _ _ _ _ _ | exact Kd.V_nil _ _ _ _ _ | exact Kd.Q_nil _ _ _ _ _ | exact Kd.S_nil _ _ _ _ _⟩, ⟨by (with_reducible repeat (first | refine blk_drewN ?_ _ | refine blk_drew ?_ | refine blk_alloc ?_ _)); exact BK244.out⟩, ⟨by (with_reducible repeat (first | refine blk_drewN ?_ _ | refine blk_drew ?_ | refine blk_alloc ?_ _)); exact BK245.out⟩, ⟨by repeat (first | (with_reducible first | exact HB.out | apply below_alloc | apply pw_below_drewN | apply below_drew1 | refine below_set ?_ GE244.out | refine below_set ?_ GE245.out) | exact HB.out)⟩⟩
  case round =>
    clear H'
    try clear c1
    try clear p2
    obtain ⟨x4_1, x5_1, x246000_1, x246001_1, u246000, rfl, rfl, HA, HK1, HO_246000, BK244, BK245, HB⟩ := hrel
    cases gk with
    | zero => exact absurd HA.out (by simp [frisketlaw12_Made.l0])
    | succ k1 =>
      have H := HA.out
      clear HA
      simp only [frisketlaw12_Made.l0] at H
      have HC4 := Aside0.mk H
      clear H
      go_upto_region 4 with (fail)
      go_cut [14] (fun v14 wc => ∃ (kq : Nat) (x14_3 : Bool), v14 = .bool x14_3 ∧ Aside0 (frisketlaw12_Made.j1 kq l0 x4_1 x5_1 x14_3 x246000_1 x246001_1 = some (r1, r2)) ∧ Aside0 (kq ≤ k1) ∧ Aside0 (Kd.R k68 68 wc w.heap.size (fun _ => True) u246000 x246000_1) ∧ Aside0 (wc.heap[gb244]? = some (.cells #[(.slice none 0 0), .int .i64 0] 26 (0, 0))) ∧ Aside0 (wc.heap[gb245]? = some (.cells #[u246000, .int .i64 x246001_1] 26 (0, 0))) ∧ Aside0 (Below w.heap.size w wc))
      case first =>
        have H := HC4.out
        clear HC4
        by_cases c5 : x5_1 < (l0.length : Int)
        · rw [if_pos c5] at H
          have c5b0 : decide (x5_1 < (l0.length : Int)) = true := decide_eq_true c5
          clear c5
          (first | rw [c5b0] | (simp only [i64_w, i32_w]; rw [c5b0]) | skip)
          have H' := Aside0.mk H
          clear H
          go_wp2
          go_meet
          case rel => exact ⟨_, (decide (x5_1 < 10)), (by first | rfl | (simp; done) | (simp [*]; done)), H', ⟨by have := HK1.out; first | omega | exact Nat.le_refl _⟩, ⟨by (with_reducible repeat (first | apply Kd.R_alloc | apply Kd.R_drewN | apply Kd.R_drew)); exact HO_246000.out⟩, ⟨by (with_reducible repeat (first | refine blk_drewN ?_ _ | refine blk_drew ?_ | refine blk_alloc ?_ _)); exact BK244.out⟩, ⟨by (with_reducible repeat (first | refine blk_drewN ?_ _ | refine blk_drew ?_ | refine blk_alloc ?_ _)); exact BK245.out⟩, ⟨by repeat (first | (with_reducible first | exact HB.out | apply below_alloc | apply pw_below_drewN | apply below_drew1 | refine below_set ?_ GE244.out | refine below_set ?_ GE245.out) | exact HB.out)⟩⟩
        · rw [if_neg c5] at H
          have c5b0 : decide (x5_1 < (l0.length : Int)) = false := decide_eq_false c5
          clear c5
          (first | rw [c5b0] | (simp only [i64_w, i32_w]; rw [c5b0]) | skip)
          have H' := Aside0.mk H
          clear H
          go_wp2
          go_meet
          case rel => exact ⟨_, (false), (by first | rfl | (simp; done) | (simp [*]; done)), H', ⟨by have := HK1.out; first | omega | exact Nat.le_refl _⟩, ⟨by (with_reducible repeat (first | apply Kd.R_alloc | apply Kd.R_drewN | apply Kd.R_drew)); exact HO_246000.out⟩, ⟨by (with_reducible repeat (first | refine blk_drewN ?_ _ | refine blk_drew ?_ | refine blk_alloc ?_ _)); exact BK244.out⟩, ⟨by (with_reducible repeat (first | refine blk_drewN ?_ _ | refine blk_drew ?_ | refine blk_alloc ?_ _)); exact BK245.out⟩, ⟨by repeat (first | (with_reducible first | exact HB.out | apply below_alloc | apply pw_below_drewN | apply below_drew1 | refine below_set ?_ GE244.out | refine below_set ?_ GE245.out) | exact HB.out)⟩⟩
      case rest =>
        clear HC4
        try clear c1
        try clear p2
        try clear c5
        try clear c5b0
        try clear p2
        obtain ⟨kq, x14_3, rfl, HA, HJ3, HO_246000, BK244, BK245, HB⟩ := hcut
        cases kq with
        | zero => exact absurd HA.out (by simp [frisketlaw12_Made.j1])
        | succ kj3 =>
          have H := HA.out
          clear HA
          simp only [frisketlaw12_Made.j1] at H
          by_cases c6 : x14_3 = true
          · subst c6
            have H1 : (if 0 ≤ x5_1 then (if x5_1 < (l0.length : Int) then (if x5_1 = 0 then (if (Int.tmod (wrap64 (Int.tmod (IntKind.u64.wrap (rd l0 x5_1)) 100000)) 3) = 0 then (frisketlaw12_Made.l0 kj3 l0 x4_1 (wrap64 (x5_1 + 1)) x246000_1 (wrap64 (1 + (Int.tmod (wrap64 (Int.tmod (IntKind.u64.wrap (rd l0 x5_1)) 100000)) 300)))) else (if 0 ≤ (Int.tmod (wrap64 (Int.tdiv (wrap64 (Int.tmod (IntKind.u64.wrap (rd l0 x5_1)) 100000)) 150)) 3) then (if (Int.tmod (wrap64 (Int.tdiv (wrap64 (Int.tmod (IntKind.u64.wrap (rd l0 x5_1)) 100000)) 150)) 3) < 3 then (if x246000_1.length < 8796093022208 then (frisketlaw12_Made.l0 kj3 l0 (wrap64 (x4_1 + (wrap64 (1 + (Int.tmod (wrap64 (Int.tmod (IntKind.u64.wrap (rd l0 x5_1)) 100000)) 150))))) (wrap64 (x5_1 + 1)) (x246000_1 ++ [(⟨wrap64 (x4_1 + (wrap64 (1 + (Int.tmod (wrap64 (Int.tmod (IntKind.u64.wrap (rd l0 x5_1)) 100000)) 150)))), bt (⟨#[76, 82, 67]⟩ : ByteArray) (Int.tmod (wrap64 (Int.tdiv (wrap64 (Int.tmod (IntKind.u64.wrap (rd l0 x5_1)) 100000)) 150)) 3)⟩ : S68)]) x246001_1) else (none)) else (none)) else (none))) else (if 0 ≤ (Int.tmod (wrap64 (Int.tdiv (wrap64 (Int.tmod (IntKind.u64.wrap (rd l0 x5_1)) 100000)) 150)) 3) then (if (Int.tmod (wrap64 (Int.tdiv (wrap64 (Int.tmod (IntKind.u64.wrap (rd l0 x5_1)) 100000)) 150)) 3) < 3 then (if x246000_1.length < 8796093022208 then (frisketlaw12_Made.l0 kj3 l0 (wrap64 (x4_1 + (wrap64 (1 + (Int.tmod (wrap64 (Int.tmod (IntKind.u64.wrap (rd l0 x5_1)) 100000)) 150))))) (wrap64 (x5_1 + 1)) (x246000_1 ++ [(⟨wrap64 (x4_1 + (wrap64 (1 + (Int.tmod (wrap64 (Int.tmod (IntKind.u64.wrap (rd l0 x5_1)) 100000)) 150)))), bt (⟨#[76, 82, 67]⟩ : ByteArray) (Int.tmod (wrap64 (Int.tdiv (wrap64 (Int.tmod (IntKind.u64.wrap (rd l0 x5_1)) 100000)) 150)) 3)⟩ : S68)]) x246001_1) else (none)) else (none)) else (none))) else (none)) else (none)) = some (r1, r2) := by rw [if_pos rfl] at H; exact H
            clear H
            have H := H1
            clear H1
            by_cases c7 : 0 ≤ x5_1
            · rw [if_pos c7] at H
              have c7b0 : decide (0 ≤ x5_1) = true := decide_eq_true c7
              clear c7
              by_cases c8 : x5_1 < (l0.length : Int)
              · rw [if_pos c8] at H
                have c8b0 : decide (x5_1 < (l0.length : Int)) = true := decide_eq_true c8
                clear c8
                by_cases c9 : x5_1 = 0
                · rw [if_pos c9] at H
                  have c9b0 : (x5_1 == 0) = true := beq_iff_eq.mpr c9
                  have c9b1 : (x5_1 != 0) = false := bne_eq_false_iff_eq.mpr c9
                  clear c9
                  by_cases c10 : (Int.tmod (wrap64 (Int.tmod (IntKind.u64.wrap (rd l0 x5_1)) 100000)) 3) = 0
                  · rw [if_pos c10] at H
                    have c10b0 : ((Int.tmod (wrap64 (Int.tmod (IntKind.u64.wrap (rd l0 x5_1)) 100000)) 3) == 0) = true := beq_iff_eq.mpr c10
                    have c10b1 : ((Int.tmod (wrap64 (Int.tmod (IntKind.u64.wrap (rd l0 x5_1)) 100000)) 3) != 0) = false := bne_eq_false_iff_eq.mpr c10
                    clear c10
                    have H' := Aside0.mk H
                    clear H
                    have p246 : 0 ≤ (x5_1 : Int) := of_decide_eq_true (by first | (with_reducible assumption) | assumption)
                    have q246 : x5_1 < (l0.length : Int) := of_decide_eq_true (by first | (with_reducible assumption) | assumption)
                    obtain ⟨ad246, e246, hx246_0⟩ := Kd.at_int HR0.out x5_1 p246 q246
                    cases e246
                    replace hx246_0 := (HB.out.cell (World.block_lt_of_cell? w _ hx246_0)).trans hx246_0
                    replace p246 := eq_true p246
                    replace q246 := eq_true q246
                    have hnb11 := NB245_244.out
                    have hnc11 := NB244_245.out
                    have hcz12_0 : wc.cell? ⟨gb245, 0, none⟩ = some (u246000) := (blk_cell BK245.out 0).trans rfl
                    have hcz12_1 : wc.cell? ⟨gb245, 1, none⟩ = some (.int .i64 x246001_1) := (blk_cell BK245.out 1).trans rfl
                    have hfz12_0 := blk_frozen BK245.out 0
                    have hfz12_1 := blk_frozen BK245.out 1
                    go_wp2
                    go_roundg kj3
                    case measure => have := HK1.out; have := HJ3.out; omega
                    case rel => exact ⟨(x4_1), (wrap64 (x5_1 + 1)), (x246000_1), (wrap64 (1 + (Int.tmod (wrap64 (Int.tmod (IntKind.u64.wrap (rd l0 x5_1)) 100000)) 300))), (u246000), (by first | rfl | (simp; done) | (simp [*]; done)), (by first | rfl | (simp; done) | (simp [*]; done)), H', ⟨by have := HK1.out; have := HJ3.out; omega⟩, ⟨by (with_reducible repeat (first | apply Kd.R_alloc | apply Kd.R_drewN | apply Kd.R_drew)); exact Kd.R_mono (Kd.R_far (p := ⟨gb245, 1, none⟩) (Kd.R_types HO_246000.out BK245.out (by decide)) (fun _ hk => hk.2) (.int .i64 (wrap64 (1 + (Int.tmod (wrap64 (Int.tmod (IntKind.u64.wrap (rd l0 x5_1)) 100000)) 300))))) (fun _ hk => trivial)⟩, ⟨by (with_reducible repeat (first | refine blk_drewN ?_ _ | refine blk_drew ?_ | refine blk_alloc ?_ _)); refine blk_far ?_ NB244_245.out _; (with_reducible repeat (first | refine blk_drewN ?_ _ | refine blk_drew ?_ | refine blk_alloc ?_ _)); exact BK244.out⟩, ⟨by (with_reducible repeat (first | refine blk_drewN ?_ _ | refine blk_drew ?_ | refine blk_alloc ?_ _)); refine blk_put (cs := #[u246000, .int .i64 x246001_1]) ?_ 1 _ rfl; (with_reducible repeat (first | refine blk_drewN ?_ _ | refine blk_drew ?_ | refine blk_alloc ?_ _)); exact BK245.out⟩, ⟨by repeat (first | (with_reducible first | exact HB.out | apply below_alloc | apply pw_below_drewN | apply below_drew1 | refine below_set ?_ GE244.out | refine below_set ?_ GE245.out) | exact HB.out)⟩⟩
                  · rw [if_neg c10] at H
                    have c10b0 : ((Int.tmod (wrap64 (Int.tmod (IntKind.u64.wrap (rd l0 x5_1)) 100000)) 3) == 0) = false := beq_eq_false_iff_ne.mpr c10
                    have c10b1 : ((Int.tmod (wrap64 (Int.tmod (IntKind.u64.wrap (rd l0 x5_1)) 100000)) 3) != 0) = true := bne_iff_ne.mpr c10
                    obtain ⟨ji13, hji13⟩ : ∃ j_ : Int, (Int.tmod (wrap64 (Int.tdiv (wrap64 (Int.tmod (IntKind.u64.wrap (rd l0 x5_1)) 100000)) 150)) 3) = j_ := ⟨_, rfl⟩
                    replace H : (if 0 ≤ (ji13) then (if (ji13) < 3 then (if x246000_1.length < 8796093022208 then (frisketlaw12_Made.l0 kj3 l0 (wrap64 (x4_1 + (wrap64 (1 + (Int.tmod (wrap64 (Int.tmod (IntKind.u64.wrap (rd l0 x5_1)) 100000)) 150))))) (wrap64 (x5_1 + 1)) (x246000_1 ++ [(⟨wrap64 (x4_1 + (wrap64 (1 + (Int.tmod (wrap64 (Int.tmod (IntKind.u64.wrap (rd l0 x5_1)) 100000)) 150)))), bt (⟨#[76, 82, 67]⟩ : ByteArray) (ji13)⟩ : S68)]) x246001_1) else (none)) else (none)) else (none)) = some (r1, r2) := by first | (rw [hji13] at H; exact H) | (simp only [hji13] at H ⊢; exact H)
                    by_cases c14 : 0 ≤ (ji13)
                    · rw [if_pos c14] at H
                      have c14b0 : decide (0 ≤ (ji13)) = true := decide_eq_true c14
                      clear c14
                      by_cases c15 : (ji13) < 3
                      · rw [if_pos c15] at H
                        have c15b0 : decide ((ji13) < 3) = true := decide_eq_true c15
                        clear c15
                        by_cases c17 : x246000_1.length < 8796093022208
                        · rw [if_pos c17] at H
                          have LMc17 := Aside0.mk c17
                          clear c17
                          obtain ⟨y247, hy247⟩ : ∃ y_ : List (S68), y_ = (x246000_1 ++ [(⟨wrap64 (x4_1 + (wrap64 (1 + (Int.tmod (wrap64 (Int.tmod (IntKind.u64.wrap (rd l0 x5_1)) 100000)) 150)))), bt (⟨#[76, 82, 67]⟩ : ByteArray) (ji13)⟩ : S68)]) := ⟨_, rfl⟩
                          replace H : (frisketlaw12_Made.l0 kj3 l0 (wrap64 (x4_1 + (wrap64 (1 + (Int.tmod (wrap64 (Int.tmod (IntKind.u64.wrap (rd l0 x5_1)) 100000)) 150))))) (wrap64 (x5_1 + 1)) y247 x246001_1) = some (r1, r2) := by first | (rw [hy247]; with_reducible exact H) | (have H2_ := (Option.bind_some _ _).symm.trans H; rw [hy247]; with_reducible exact H2_) | (have H2_ := (Option.bind_some _ _).symm.trans H; with_reducible exact H2_) | with_reducible exact H | (rw [hy247]; exact H) | exact H
                          have Ny247 := Aside0.mk hy247
                          clear hy247
                          have H' := Aside0.mk H
                          clear H
                          have p246 : 0 ≤ (x5_1 : Int) := of_decide_eq_true (by first | (with_reducible assumption) | assumption)
                          have q246 : x5_1 < (l0.length : Int) := of_decide_eq_true (by first | (with_reducible assumption) | assumption)
                          obtain ⟨ad246, e246, hx246_0⟩ := Kd.at_int HR0.out x5_1 p246 q246
                          cases e246
                          replace hx246_0 := (HB.out.cell (World.block_lt_of_cell? w _ hx246_0)).trans hx246_0
                          replace p246 := eq_true p246
                          replace q246 := eq_true q246
                          try go_wp2
                          have n0_ := Aside0.mk (Kd.R_drew HO_246000.out)
                          have n1_ := Aside0.mk (blk_drew BK244.out)
                          have n2_ := Aside0.mk (blk_drew BK245.out)
                          have n3_ := Aside0.mk (below_drew1 HB.out)
                          clear HO_246000
                          clear BK244
                          clear BK245
                          clear HB
                          have HO_246000 := n0_
                          have BK244 := n1_
                          have BK245 := n2_
                          have HB := n3_
                          clear n0_ n1_ n2_ n3_
                          have p16 : 0 ≤ ((ji13) : Int) := of_decide_eq_true (by first | (with_reducible assumption) | assumption)
                          have q16 : (ji13) < (3 : Int) := of_decide_eq_true (by first | (with_reducible assumption) | assumption)
                          have hx16 := bt_at (⟨#[76, 82, 67]⟩ : ByteArray) (ji13)
                          replace p16 := eq_true p16
                          replace q16 := eq_true q16
                          refine start_ (n := 12) (S := fun w' => w'.cell? ⟨gb245, 0, none⟩ = some (u246000) ∧ w'.cell? ⟨gb245, 1, none⟩ = some (.int .i64 x246001_1)) (ds := [11]) #[false, false, false, false, false, false, false, false, false, false, false, false] (by kernel_rfl) rfl rfl ⟨(blk_cell BK245.out 0).trans rfl, (blk_cell BK245.out 1).trans rfl⟩ (fun hHeld => ?_); refine with_tabW frisketlaw12_Made.tab10 frisketlaw12_Made.bits10 (fun HT_ HW_ => ?_)
                          generalize wc.drew = w18 at HO_246000 BK244 BK245 HB hHeld ⊢
                          refine pure_ (i := 0) (N := some 40) (v := ?_) (a' := ?_) #[true, false, false, false, false, false, false, false, false, false, false, false] rfl rfl (any_of HT_.out (by kernel_rfl)) (fun _ _ _ h => h) (Or.inl ⟨by rfl, ?_⟩) ?_ ?_
                          rotate_left
                          · intro w'
                            go_simp
                            with_reducible rfl
                          rotate_left
                          · simp only [Act.put, List.setIfInBounds_toArray, List.set_cons_zero, List.set_cons_succ, i64_w, i32_w]
                            rfl
                          refine pure_ (i := 2) (N := some 42) (v := ?_) (a' := ?_) #[true, false, true, false, false, false, false, false, false, false, false, false] rfl rfl (any_of HT_.out (by kernel_rfl)) (fun _ _ _ h => h) (Or.inl ⟨by rfl, ?_⟩) ?_ ?_
                          rotate_left
                          · intro w'
                            go_simp
                            with_reducible rfl
                          rotate_left
                          · simp only [Act.put, List.setIfInBounds_toArray, List.set_cons_zero, List.set_cons_succ, i64_w, i32_w]
                            rfl
                          refine pure_ (i := 3) (N := some 43) (v := ?_) (a' := ?_) #[true, false, true, true, false, false, false, false, false, false, false, false] rfl rfl (any_of HT_.out (by kernel_rfl)) (fun _ _ _ h => h) (Or.inl ⟨by rfl, ?_⟩) ?_ ?_
                          rotate_left
                          · intro w'
                            go_simp
                            with_reducible rfl
                          rotate_left
                          · simp only [Act.put, List.setIfInBounds_toArray, List.set_cons_zero, List.set_cons_succ, i64_w, i32_w]
                            rfl
                          refine pure_ (i := 4) (N := some 44) (v := ?_) (a' := ?_) #[true, false, true, true, true, false, false, false, false, false, false, false] rfl rfl (any_of HT_.out (by kernel_rfl)) (fun _ _ _ h => h) (Or.inl ⟨by rfl, ?_⟩) ?_ ?_
                          rotate_left
                          · intro w'
                            go_simp
                            with_reducible rfl
                          rotate_left
                          · simp only [Act.put, List.setIfInBounds_toArray, List.set_cons_zero, List.set_cons_succ, i64_w, i32_w]
                            rfl
                          refine pure_ (i := 5) (N := some 45) (v := ?_) (a' := ?_) #[true, false, true, true, true, true, false, false, false, false, false, false] rfl rfl (any_of HT_.out (by kernel_rfl)) (fun _ _ _ h => h) (Or.inl ⟨by rfl, ?_⟩) ?_ ?_
                          rotate_left
                          · intro w'
                            go_simp
                            with_reducible rfl
                          rotate_left
                          · simp only [Act.put, List.setIfInBounds_toArray, List.set_cons_zero, List.set_cons_succ, i64_w, i32_w]
                            rfl
                          refine take_ (i := 1) (N := some 41) (v := ?_) (a' := ?_) #[true, true, true, true, true, true, false, false, false, false, false, false] rfl rfl (take_ofW HT_.out HW_.out (by kernel_rfl)) (fun _ _ _ h => h) (Or.inl ⟨by rfl, ?_⟩) hHeld ?_ ?_
                          rotate_left
                          · rintro w' ⟨s0, s1⟩
                            go_simp
                            with_reducible rfl
                          rotate_left
                          · simp only [Act.put, List.setIfInBounds_toArray, List.set_cons_zero, List.set_cons_succ, i64_w, i32_w]
                            rfl
                          refine take_ (i := 6) (N := some 46) (v := ?_) (a' := ?_) #[true, true, true, true, true, true, true, false, false, false, false, false] rfl rfl (take_ofW HT_.out HW_.out (by kernel_rfl)) (fun _ _ _ h => h) (Or.inl ⟨by rfl, ?_⟩) hHeld ?_ ?_
                          rotate_left
                          · rintro w' ⟨s0, s1⟩
                            go_simp
                            with_reducible rfl
                          rotate_left
                          · simp only [Act.put, List.setIfInBounds_toArray, List.set_cons_zero, List.set_cons_succ, i64_w, i32_w]
                            rfl
                          refine pure_ (i := 7) (N := some 47) (v := ?_) (a' := ?_) #[true, true, true, true, true, true, true, true, false, false, false, false] rfl rfl (any_of HT_.out (by kernel_rfl)) (fun _ _ _ h => h) (Or.inl ⟨by rfl, ?_⟩) ?_ ?_
                          rotate_left
                          · intro w'
                            go_simp
                            with_reducible rfl
                          rotate_left
                          · simp only [Act.put, List.setIfInBounds_toArray, List.set_cons_zero, List.set_cons_succ, i64_w, i32_w]
                            rfl
                          refine one_ (i := 8) (N := some 48) #[true, true, true, true, true, true, true, true, true, false, false, false] rfl rfl (one_of HT_.out (by kernel_rfl)) (by decide) (fun K hK => ?_)
                          refine value_ (w1 := ?_) (v := ?_) (by rfl) rfl ?_ ?_
                          rotate_left 2
                          · go_simp
                            constructor
                            · rfl
                            · rfl
                          refine hK.out _ _ ⟨(blk_cell (blk_alloc BK245.out _) 0).trans rfl, (blk_cell (blk_alloc BK245.out _) 1).trans rfl⟩ (fun hHeld => ?_)
                          clear hK K
                          refine norm_ (a' := ?_) ?_ ?_
                          rotate_left
                          · show Act.put _ (some 48) _ = _
                            simp only [Act.put, List.setIfInBounds_toArray, List.set_cons_zero, List.set_cons_succ, i64_w, i32_w]
                            rfl
                          refine one_ (i := 9) (N := some 49) #[true, true, true, true, true, true, true, true, true, true, false, false] rfl rfl (one_of HT_.out (by kernel_rfl)) (by decide) (fun K hK => ?_)
                          refine Kd.R_append_step k68 (w0 := w) w.heap.size (by rfl) (.tmp 41) (.tmp 48) 24 68 (.agg #[(.int .i64 0), (.int .u8 0)]) 16 rfl Try.underlying24 info68 rfl (by decide) (by omega) u246000 x246000_1 (⟨wrap64 (x4_1 + (wrap64 (1 + (Int.tmod (wrap64 (Int.tmod (IntKind.u64.wrap (rd l0 x5_1)) 100000)) 150)))), bt (⟨#[76, 82, 67]⟩ : ByteArray) (ji13)⟩ : S68) [.int .i64 (wrap64 (x4_1 + (wrap64 (1 + (Int.tmod (wrap64 (Int.tmod (IntKind.u64.wrap (rd l0 x5_1)) 100000)) 150))))), .int .u8 (bt (⟨#[76, 82, 67]⟩ : ByteArray) (ji13))] (fun _ => True) (fun _ => False) rfl rfl ?aP (fun _ hk => hk.elim) ?aF ?aO ?aB ?aS ?aL ?_
                          (case aP => exact k68_mkM _ _ _ (⟨wrap64 (x4_1 + (wrap64 (1 + (Int.tmod (wrap64 (Int.tmod (IntKind.u64.wrap (rd l0 x5_1)) 100000)) 150)))), bt (⟨#[76, 82, 67]⟩ : ByteArray) (ji13)⟩ : S68))
                          (case aB => exact (by repeat (first | (with_reducible first | exact HB.out | apply below_alloc | apply pw_below_drewN | apply below_drew1 | refine below_set ?_ GE244.out | refine below_set ?_ GE245.out) | exact HB.out)))
                          (case aF => exact (fun _ _ => trivial))
                          (case aO => exact (by (with_reducible repeat (first | apply Kd.R_alloc | apply Kd.R_drewN | apply Kd.R_drew)); exact HO_246000.out))
                          (case aS => exact (below_size (by repeat (first | (with_reducible first | exact HB.out | apply below_alloc | apply pw_below_drewN | apply below_drew1 | refine below_set ?_ GE244.out | refine below_set ?_ GE245.out) | exact HB.out))))
                          (case aL => have := LMc17.out; omega)
                          intro v248 w19 ho hb hg hat
                          rw [← Ny247.out] at ho
                          have n0_ := Aside0.mk (blk_grown (g := gb244) (o := .cells #[.slice none 0 0, .int .i64 0] 26 (0, 0)) (by (with_reducible repeat (first | refine blk_drewN ?_ _ | refine blk_drew ?_ | refine blk_alloc ?_ _)); exact BK244.out) hg (Kd.R_ne HO_246000.out BK244.out (by decide)))
                          have n1_ := Aside0.mk (blk_grown (g := gb245) (o := .cells #[u246000, .int .i64 x246001_1] 26 (0, 0)) (by (with_reducible repeat (first | refine blk_drewN ?_ _ | refine blk_drew ?_ | refine blk_alloc ?_ _)); exact BK245.out) hg (Kd.R_ne HO_246000.out BK245.out (by decide)))
                          have n2_ := Aside0.mk (hb)
                          have n3_ := Aside0.mk (ho)
                          clear BK244
                          clear BK245
                          clear HB
                          clear HO_246000
                          have BK244 := n0_
                          have BK245 := n1_
                          have HB := n2_
                          have HO249 := n3_
                          clear n0_ n1_ n2_ n3_
                          clear ho hb hg hat
                          obtain ⟨Ao20, co20, eo20⟩ := Kd.R_slice HO249.out
                          (first | subst eo20 | (injection eo20 with f1_ f2_ f3_; have f4_ := f1_.symm; have f5_ := f3_.symm; clear f1_ f2_ f3_; subst f4_; subst f5_))
                          refine hK.out _ _ ⟨(blk_cell BK245.out 0).trans rfl, (blk_cell BK245.out 1).trans rfl⟩ (fun hHeld => ?_)
                          clear hK K
                          refine norm_ (a' := ?_) ?_ ?_
                          rotate_left
                          · show Act.put _ (some 49) _ = _
                            simp only [Act.put, List.setIfInBounds_toArray, List.set_cons_zero, List.set_cons_succ, i64_w, i32_w]
                            rfl
                          refine pure_ (i := 10) (N := some 50) (v := ?_) (a' := ?_) #[true, true, true, true, true, true, true, true, true, true, true, false] rfl rfl (any_of HT_.out (by kernel_rfl)) (fun _ _ _ h => h) (Or.inl ⟨by rfl, ?_⟩) ?_ ?_
                          rotate_left
                          · intro w'
                            go_simp
                            with_reducible rfl
                          rotate_left
                          · simp only [Act.put, List.setIfInBounds_toArray, List.set_cons_zero, List.set_cons_succ, i64_w, i32_w]
                            rfl
                          refine last_ (i := 11) (N := none) #[true, true, true, true, true, true, true, true, true, true, true, true] rfl rfl (one_of HT_.out (by kernel_rfl)) (by decide) (fun K hK => ?_)
                          have hs21 : w19.cell? ⟨gb245, 0, none⟩ = some (u246000) := (blk_cell BK245.out 0).trans rfl
                          have hfs21 := blk_frozen BK245.out 0
                          have hns21_0 := NB244_245.out
                          have hms21_0 := NB245_244.out
                          refine skip_ (w1 := ?_) (by rfl) rfl ?_ ?_
                          rotate_left
                          · go_simp
                            rfl
                          refine hK.out _ _ ?_
                          clear hK K
                          refine done_ (done_of HT_.out (by kernel_rfl)) ?_
                          try go_wp2
                          go_roundg kj3
                          case measure => have := HK1.out; have := HJ3.out; omega
                          case rel => exact ⟨(wrap64 (x4_1 + (wrap64 (1 + (Int.tmod (wrap64 (Int.tmod (IntKind.u64.wrap (rd l0 x5_1)) 100000)) 150))))), (wrap64 (x5_1 + 1)), (y247), (x246001_1), (.slice Ao20 y247.length co20), (by first | rfl | (simp; done) | (simp [*]; done)), (by first | rfl | (simp; done) | (simp [*]; done)), H', ⟨by have := HK1.out; have := HJ3.out; omega⟩, ⟨by (with_reducible repeat (first | apply Kd.R_alloc | apply Kd.R_drewN | apply Kd.R_drew)); exact Kd.R_mono (Kd.R_far (p := ⟨gb245, 0, none⟩) (Kd.R_types HO249.out BK245.out (by decide)) (fun _ hk => hk.2) (.slice Ao20 y247.length co20)) (fun _ hk => trivial)⟩, ⟨by (with_reducible repeat (first | refine blk_drewN ?_ _ | refine blk_drew ?_ | refine blk_alloc ?_ _)); refine blk_far ?_ NB244_245.out _; (with_reducible repeat (first | refine blk_drewN ?_ _ | refine blk_drew ?_ | refine blk_alloc ?_ _)); exact BK244.out⟩, ⟨by (with_reducible repeat (first | refine blk_drewN ?_ _ | refine blk_drew ?_ | refine blk_alloc ?_ _)); refine blk_put (cs := #[u246000, .int .i64 x246001_1]) ?_ 0 _ rfl; (with_reducible repeat (first | refine blk_drewN ?_ _ | refine blk_drew ?_ | refine blk_alloc ?_ _)); exact BK245.out⟩, ⟨by repeat (first | (with_reducible first | exact HB.out | apply below_alloc | apply pw_below_drewN | apply below_drew1 | refine below_set ?_ GE244.out | refine below_set ?_ GE245.out) | exact HB.out)⟩⟩
                        · rw [if_neg c17] at H
                          exact absurd H (by simp)
                      · rw [if_neg c15] at H
                        exact absurd H (by simp)
                    · rw [if_neg c14] at H
                      exact absurd H (by simp)
                · rw [if_neg c9] at H
                  have c9b0 : (x5_1 == 0) = false := beq_eq_false_iff_ne.mpr c9
                  have c9b1 : (x5_1 != 0) = true := bne_iff_ne.mpr c9
                  obtain ⟨ji22, hji22⟩ : ∃ j_ : Int, (Int.tmod (wrap64 (Int.tdiv (wrap64 (Int.tmod (IntKind.u64.wrap (rd l0 x5_1)) 100000)) 150)) 3) = j_ := ⟨_, rfl⟩
                  replace H : (if 0 ≤ (ji22) then (if (ji22) < 3 then (if x246000_1.length < 8796093022208 then (frisketlaw12_Made.l0 kj3 l0 (wrap64 (x4_1 + (wrap64 (1 + (Int.tmod (wrap64 (Int.tmod (IntKind.u64.wrap (rd l0 x5_1)) 100000)) 150))))) (wrap64 (x5_1 + 1)) (x246000_1 ++ [(⟨wrap64 (x4_1 + (wrap64 (1 + (Int.tmod (wrap64 (Int.tmod (IntKind.u64.wrap (rd l0 x5_1)) 100000)) 150)))), bt (⟨#[76, 82, 67]⟩ : ByteArray) (ji22)⟩ : S68)]) x246001_1) else (none)) else (none)) else (none)) = some (r1, r2) := by first | (rw [hji22] at H; exact H) | (simp only [hji22] at H ⊢; exact H)
                  by_cases c23 : 0 ≤ (ji22)
                  · rw [if_pos c23] at H
                    have c23b0 : decide (0 ≤ (ji22)) = true := decide_eq_true c23
                    clear c23
                    by_cases c24 : (ji22) < 3
                    · rw [if_pos c24] at H
                      have c24b0 : decide ((ji22) < 3) = true := decide_eq_true c24
                      clear c24
                      by_cases c26 : x246000_1.length < 8796093022208
                      · rw [if_pos c26] at H
                        have LMc26 := Aside0.mk c26
                        clear c26
                        obtain ⟨y250, hy250⟩ : ∃ y_ : List (S68), y_ = (x246000_1 ++ [(⟨wrap64 (x4_1 + (wrap64 (1 + (Int.tmod (wrap64 (Int.tmod (IntKind.u64.wrap (rd l0 x5_1)) 100000)) 150)))), bt (⟨#[76, 82, 67]⟩ : ByteArray) (ji22)⟩ : S68)]) := ⟨_, rfl⟩
                        replace H : (frisketlaw12_Made.l0 kj3 l0 (wrap64 (x4_1 + (wrap64 (1 + (Int.tmod (wrap64 (Int.tmod (IntKind.u64.wrap (rd l0 x5_1)) 100000)) 150))))) (wrap64 (x5_1 + 1)) y250 x246001_1) = some (r1, r2) := by first | (rw [hy250]; with_reducible exact H) | (have H2_ := (Option.bind_some _ _).symm.trans H; rw [hy250]; with_reducible exact H2_) | (have H2_ := (Option.bind_some _ _).symm.trans H; with_reducible exact H2_) | with_reducible exact H | (rw [hy250]; exact H) | exact H
                        have Ny250 := Aside0.mk hy250
                        clear hy250
                        have H' := Aside0.mk H
                        clear H
                        have p246 : 0 ≤ (x5_1 : Int) := of_decide_eq_true (by first | (with_reducible assumption) | assumption)
                        have q246 : x5_1 < (l0.length : Int) := of_decide_eq_true (by first | (with_reducible assumption) | assumption)
                        obtain ⟨ad246, e246, hx246_0⟩ := Kd.at_int HR0.out x5_1 p246 q246
                        cases e246
                        replace hx246_0 := (HB.out.cell (World.block_lt_of_cell? w _ hx246_0)).trans hx246_0
                        replace p246 := eq_true p246
                        replace q246 := eq_true q246
                        try go_wp2
                        have n0_ := Aside0.mk (Kd.R_drew HO_246000.out)
                        have n1_ := Aside0.mk (blk_drew BK244.out)
                        have n2_ := Aside0.mk (blk_drew BK245.out)
                        have n3_ := Aside0.mk (below_drew1 HB.out)
                        clear HO_246000
                        clear BK244
                        clear BK245
                        clear HB
                        have HO_246000 := n0_
                        have BK244 := n1_
                        have BK245 := n2_
                        have HB := n3_
                        clear n0_ n1_ n2_ n3_
                        have p25 : 0 ≤ ((ji22) : Int) := of_decide_eq_true (by first | (with_reducible assumption) | assumption)
                        have q25 : (ji22) < (3 : Int) := of_decide_eq_true (by first | (with_reducible assumption) | assumption)
                        have hx25 := bt_at (⟨#[76, 82, 67]⟩ : ByteArray) (ji22)
                        replace p25 := eq_true p25
                        replace q25 := eq_true q25
                        refine start_ (n := 12) (S := fun w' => w'.cell? ⟨gb245, 0, none⟩ = some (u246000) ∧ w'.cell? ⟨gb245, 1, none⟩ = some (.int .i64 x246001_1)) (ds := [11]) #[false, false, false, false, false, false, false, false, false, false, false, false] (by kernel_rfl) rfl rfl ⟨(blk_cell BK245.out 0).trans rfl, (blk_cell BK245.out 1).trans rfl⟩ (fun hHeld => ?_); refine with_tabW frisketlaw12_Made.tab10 frisketlaw12_Made.bits10 (fun HT_ HW_ => ?_)
                        generalize wc.drew = w27 at HO_246000 BK244 BK245 HB hHeld ⊢
                        refine pure_ (i := 0) (N := some 40) (v := ?_) (a' := ?_) #[true, false, false, false, false, false, false, false, false, false, false, false] rfl rfl (any_of HT_.out (by kernel_rfl)) (fun _ _ _ h => h) (Or.inl ⟨by rfl, ?_⟩) ?_ ?_
                        rotate_left
                        · intro w'
                          go_simp
                          with_reducible rfl
                        rotate_left
                        · simp only [Act.put, List.setIfInBounds_toArray, List.set_cons_zero, List.set_cons_succ, i64_w, i32_w]
                          rfl
                        refine pure_ (i := 2) (N := some 42) (v := ?_) (a' := ?_) #[true, false, true, false, false, false, false, false, false, false, false, false] rfl rfl (any_of HT_.out (by kernel_rfl)) (fun _ _ _ h => h) (Or.inl ⟨by rfl, ?_⟩) ?_ ?_
                        rotate_left
                        · intro w'
                          go_simp
                          with_reducible rfl
                        rotate_left
                        · simp only [Act.put, List.setIfInBounds_toArray, List.set_cons_zero, List.set_cons_succ, i64_w, i32_w]
                          rfl
                        refine pure_ (i := 3) (N := some 43) (v := ?_) (a' := ?_) #[true, false, true, true, false, false, false, false, false, false, false, false] rfl rfl (any_of HT_.out (by kernel_rfl)) (fun _ _ _ h => h) (Or.inl ⟨by rfl, ?_⟩) ?_ ?_
                        rotate_left
                        · intro w'
                          go_simp
                          with_reducible rfl
                        rotate_left
                        · simp only [Act.put, List.setIfInBounds_toArray, List.set_cons_zero, List.set_cons_succ, i64_w, i32_w]
                          rfl
                        refine pure_ (i := 4) (N := some 44) (v := ?_) (a' := ?_) #[true, false, true, true, true, false, false, false, false, false, false, false] rfl rfl (any_of HT_.out (by kernel_rfl)) (fun _ _ _ h => h) (Or.inl ⟨by rfl, ?_⟩) ?_ ?_
                        rotate_left
                        · intro w'
                          go_simp
                          with_reducible rfl
                        rotate_left
                        · simp only [Act.put, List.setIfInBounds_toArray, List.set_cons_zero, List.set_cons_succ, i64_w, i32_w]
                          rfl
                        refine pure_ (i := 5) (N := some 45) (v := ?_) (a' := ?_) #[true, false, true, true, true, true, false, false, false, false, false, false] rfl rfl (any_of HT_.out (by kernel_rfl)) (fun _ _ _ h => h) (Or.inl ⟨by rfl, ?_⟩) ?_ ?_
                        rotate_left
                        · intro w'
                          go_simp
                          with_reducible rfl
                        rotate_left
                        · simp only [Act.put, List.setIfInBounds_toArray, List.set_cons_zero, List.set_cons_succ, i64_w, i32_w]
                          rfl
                        refine take_ (i := 1) (N := some 41) (v := ?_) (a' := ?_) #[true, true, true, true, true, true, false, false, false, false, false, false] rfl rfl (take_ofW HT_.out HW_.out (by kernel_rfl)) (fun _ _ _ h => h) (Or.inl ⟨by rfl, ?_⟩) hHeld ?_ ?_
                        rotate_left
                        · rintro w' ⟨s0, s1⟩
                          go_simp
                          with_reducible rfl
                        rotate_left
                        · simp only [Act.put, List.setIfInBounds_toArray, List.set_cons_zero, List.set_cons_succ, i64_w, i32_w]
                          rfl
                        refine take_ (i := 6) (N := some 46) (v := ?_) (a' := ?_) #[true, true, true, true, true, true, true, false, false, false, false, false] rfl rfl (take_ofW HT_.out HW_.out (by kernel_rfl)) (fun _ _ _ h => h) (Or.inl ⟨by rfl, ?_⟩) hHeld ?_ ?_
                        rotate_left
                        · rintro w' ⟨s0, s1⟩
                          go_simp
                          with_reducible rfl
                        rotate_left
                        · simp only [Act.put, List.setIfInBounds_toArray, List.set_cons_zero, List.set_cons_succ, i64_w, i32_w]
                          rfl
                        refine pure_ (i := 7) (N := some 47) (v := ?_) (a' := ?_) #[true, true, true, true, true, true, true, true, false, false, false, false] rfl rfl (any_of HT_.out (by kernel_rfl)) (fun _ _ _ h => h) (Or.inl ⟨by rfl, ?_⟩) ?_ ?_
                        rotate_left
                        · intro w'
                          go_simp
                          with_reducible rfl
                        rotate_left
                        · simp only [Act.put, List.setIfInBounds_toArray, List.set_cons_zero, List.set_cons_succ, i64_w, i32_w]
                          rfl
                        refine one_ (i := 8) (N := some 48) #[true, true, true, true, true, true, true, true, true, false, false, false] rfl rfl (one_of HT_.out (by kernel_rfl)) (by decide) (fun K hK => ?_)
                        refine value_ (w1 := ?_) (v := ?_) (by rfl) rfl ?_ ?_
                        rotate_left 2
                        · go_simp
                          constructor
                          · rfl
                          · rfl
                        refine hK.out _ _ ⟨(blk_cell (blk_alloc BK245.out _) 0).trans rfl, (blk_cell (blk_alloc BK245.out _) 1).trans rfl⟩ (fun hHeld => ?_)
                        clear hK K
                        refine norm_ (a' := ?_) ?_ ?_
                        rotate_left
                        · show Act.put _ (some 48) _ = _
                          simp only [Act.put, List.setIfInBounds_toArray, List.set_cons_zero, List.set_cons_succ, i64_w, i32_w]
                          rfl
                        refine one_ (i := 9) (N := some 49) #[true, true, true, true, true, true, true, true, true, true, false, false] rfl rfl (one_of HT_.out (by kernel_rfl)) (by decide) (fun K hK => ?_)
                        refine Kd.R_append_step k68 (w0 := w) w.heap.size (by rfl) (.tmp 41) (.tmp 48) 24 68 (.agg #[(.int .i64 0), (.int .u8 0)]) 16 rfl Try.underlying24 info68 rfl (by decide) (by omega) u246000 x246000_1 (⟨wrap64 (x4_1 + (wrap64 (1 + (Int.tmod (wrap64 (Int.tmod (IntKind.u64.wrap (rd l0 x5_1)) 100000)) 150)))), bt (⟨#[76, 82, 67]⟩ : ByteArray) (ji22)⟩ : S68) [.int .i64 (wrap64 (x4_1 + (wrap64 (1 + (Int.tmod (wrap64 (Int.tmod (IntKind.u64.wrap (rd l0 x5_1)) 100000)) 150))))), .int .u8 (bt (⟨#[76, 82, 67]⟩ : ByteArray) (ji22))] (fun _ => True) (fun _ => False) rfl rfl ?aP (fun _ hk => hk.elim) ?aF ?aO ?aB ?aS ?aL ?_
                        (case aP => exact k68_mkM _ _ _ (⟨wrap64 (x4_1 + (wrap64 (1 + (Int.tmod (wrap64 (Int.tmod (IntKind.u64.wrap (rd l0 x5_1)) 100000)) 150)))), bt (⟨#[76, 82, 67]⟩ : ByteArray) (ji22)⟩ : S68))
                        (case aB => exact (by repeat (first | (with_reducible first | exact HB.out | apply below_alloc | apply pw_below_drewN | apply below_drew1 | refine below_set ?_ GE244.out | refine below_set ?_ GE245.out) | exact HB.out)))
                        (case aF => exact (fun _ _ => trivial))
                        (case aO => exact (by (with_reducible repeat (first | apply Kd.R_alloc | apply Kd.R_drewN | apply Kd.R_drew)); exact HO_246000.out))
                        (case aS => exact (below_size (by repeat (first | (with_reducible first | exact HB.out | apply below_alloc | apply pw_below_drewN | apply below_drew1 | refine below_set ?_ GE244.out | refine below_set ?_ GE245.out) | exact HB.out))))
                        (case aL => have := LMc26.out; omega)
                        intro v251 w28 ho hb hg hat
                        rw [← Ny250.out] at ho
                        have n0_ := Aside0.mk (blk_grown (g := gb244) (o := .cells #[.slice none 0 0, .int .i64 0] 26 (0, 0)) (by (with_reducible repeat (first | refine blk_drewN ?_ _ | refine blk_drew ?_ | refine blk_alloc ?_ _)); exact BK244.out) hg (Kd.R_ne HO_246000.out BK244.out (by decide)))
                        have n1_ := Aside0.mk (blk_grown (g := gb245) (o := .cells #[u246000, .int .i64 x246001_1] 26 (0, 0)) (by (with_reducible repeat (first | refine blk_drewN ?_ _ | refine blk_drew ?_ | refine blk_alloc ?_ _)); exact BK245.out) hg (Kd.R_ne HO_246000.out BK245.out (by decide)))
                        have n2_ := Aside0.mk (hb)
                        have n3_ := Aside0.mk (ho)
                        clear BK244
                        clear BK245
                        clear HB
                        clear HO_246000
                        have BK244 := n0_
                        have BK245 := n1_
                        have HB := n2_
                        have HO252 := n3_
                        clear n0_ n1_ n2_ n3_
                        clear ho hb hg hat
                        obtain ⟨Ao29, co29, eo29⟩ := Kd.R_slice HO252.out
                        (first | subst eo29 | (injection eo29 with f1_ f2_ f3_; have f4_ := f1_.symm; have f5_ := f3_.symm; clear f1_ f2_ f3_; subst f4_; subst f5_))
                        refine hK.out _ _ ⟨(blk_cell BK245.out 0).trans rfl, (blk_cell BK245.out 1).trans rfl⟩ (fun hHeld => ?_)
                        clear hK K
                        refine norm_ (a' := ?_) ?_ ?_
                        rotate_left
                        · show Act.put _ (some 49) _ = _
                          simp only [Act.put, List.setIfInBounds_toArray, List.set_cons_zero, List.set_cons_succ, i64_w, i32_w]
                          rfl
                        refine pure_ (i := 10) (N := some 50) (v := ?_) (a' := ?_) #[true, true, true, true, true, true, true, true, true, true, true, false] rfl rfl (any_of HT_.out (by kernel_rfl)) (fun _ _ _ h => h) (Or.inl ⟨by rfl, ?_⟩) ?_ ?_
                        rotate_left
                        · intro w'
                          go_simp
                          with_reducible rfl
                        rotate_left
                        · simp only [Act.put, List.setIfInBounds_toArray, List.set_cons_zero, List.set_cons_succ, i64_w, i32_w]
                          rfl
                        refine last_ (i := 11) (N := none) #[true, true, true, true, true, true, true, true, true, true, true, true] rfl rfl (one_of HT_.out (by kernel_rfl)) (by decide) (fun K hK => ?_)
                        have hs30 : w28.cell? ⟨gb245, 0, none⟩ = some (u246000) := (blk_cell BK245.out 0).trans rfl
                        have hfs30 := blk_frozen BK245.out 0
                        have hns30_0 := NB244_245.out
                        have hms30_0 := NB245_244.out
                        refine skip_ (w1 := ?_) (by rfl) rfl ?_ ?_
                        rotate_left
                        · go_simp
                          rfl
                        refine hK.out _ _ ?_
                        clear hK K
                        refine done_ (done_of HT_.out (by kernel_rfl)) ?_
                        try go_wp2
                        go_roundg kj3
                        case measure => have := HK1.out; have := HJ3.out; omega
                        case rel => exact ⟨(wrap64 (x4_1 + (wrap64 (1 + (Int.tmod (wrap64 (Int.tmod (IntKind.u64.wrap (rd l0 x5_1)) 100000)) 150))))), (wrap64 (x5_1 + 1)), (y250), (x246001_1), (.slice Ao29 y250.length co29), (by first | rfl | (simp; done) | (simp [*]; done)), (by first | rfl | (simp; done) | (simp [*]; done)), H', ⟨by have := HK1.out; have := HJ3.out; omega⟩, ⟨by (with_reducible repeat (first | apply Kd.R_alloc | apply Kd.R_drewN | apply Kd.R_drew)); exact Kd.R_mono (Kd.R_far (p := ⟨gb245, 0, none⟩) (Kd.R_types HO252.out BK245.out (by decide)) (fun _ hk => hk.2) (.slice Ao29 y250.length co29)) (fun _ hk => trivial)⟩, ⟨by (with_reducible repeat (first | refine blk_drewN ?_ _ | refine blk_drew ?_ | refine blk_alloc ?_ _)); refine blk_far ?_ NB244_245.out _; (with_reducible repeat (first | refine blk_drewN ?_ _ | refine blk_drew ?_ | refine blk_alloc ?_ _)); exact BK244.out⟩, ⟨by (with_reducible repeat (first | refine blk_drewN ?_ _ | refine blk_drew ?_ | refine blk_alloc ?_ _)); refine blk_put (cs := #[u246000, .int .i64 x246001_1]) ?_ 0 _ rfl; (with_reducible repeat (first | refine blk_drewN ?_ _ | refine blk_drew ?_ | refine blk_alloc ?_ _)); exact BK245.out⟩, ⟨by repeat (first | (with_reducible first | exact HB.out | apply below_alloc | apply pw_below_drewN | apply below_drew1 | refine below_set ?_ GE244.out | refine below_set ?_ GE245.out) | exact HB.out)⟩⟩
                      · rw [if_neg c26] at H
                        exact absurd H (by simp)
                    · rw [if_neg c24] at H
                      exact absurd H (by simp)
                  · rw [if_neg c23] at H
                    exact absurd H (by simp)
              · rw [if_neg c8] at H
                exact absurd H (by simp)
            · rw [if_neg c7] at H
              exact absurd H (by simp)
          · replace c6 := Bool.eq_false_iff.mpr c6
            subst c6
            have H1 : (some (x246000_1, x246001_1)) = some (r1, r2) := by rw [if_neg (show ¬ (false = true) by decide)] at H; exact H
            clear H
            have H := H1
            clear H1
            simp only [Option.some.injEq, Prod.mk.injEq] at H
            obtain ⟨rfl, rfl⟩ := H
            have hnb31 := NB245_244.out
            have hnc31 := NB244_245.out
            have hcz32_0 : wc.cell? ⟨gb245, 0, none⟩ = some (u246000) := (blk_cell BK245.out 0).trans rfl
            have hcz32_1 : wc.cell? ⟨gb245, 1, none⟩ = some (.int .i64 x246001_1) := (blk_cell BK245.out 1).trans rfl
            have hfz32_0 := blk_frozen BK245.out 0
            have hfz32_1 := blk_frozen BK245.out 1
            obtain ⟨Ao33, co33, eo33⟩ := Kd.R_slice HO_246000.out
            subst eo33
            have hcz34_0 : wc.cell? ⟨gb244, 0, none⟩ = some (.slice none 0 0) := (blk_cell BK244.out 0).trans rfl
            have hcz34_1 : wc.cell? ⟨gb244, 1, none⟩ = some (.int .i64 0) := (blk_cell BK244.out 1).trans rfl
            have hfz34_0 := blk_frozen BK244.out 0
            have hfz34_1 := blk_frozen BK244.out 1
            go_wp2
            refine bodyPost_ret (results_cell_row rfl _ _ gb244 26 #[.slice Ao33 x246000_1.length co33, .int .i64 x246001_1] (0, 0) _ rfl (by (with_reducible repeat (first | refine blk_drewN ?_ _ | refine blk_drew ?_ | refine blk_alloc ?_ _)); refine blk_put (cs := #[.slice Ao33 x246000_1.length co33, .int .i64 0]) ?_ 1 _ rfl; (with_reducible repeat (first | refine blk_drewN ?_ _ | refine blk_drew ?_ | refine blk_alloc ?_ _)); refine blk_put (cs := #[.slice none 0 0, .int .i64 0]) ?_ 0 _ rfl; (with_reducible repeat (first | refine blk_drewN ?_ _ | refine blk_drew ?_ | refine blk_alloc ?_ _)); exact BK244.out) Try.underlying26 rfl (by kernel_rfl)) rfl ?_
            exact ⟨_, by first | rfl | (simp [errW_none, errW_some] <;> rfl) | (simp [*, errW_none, errW_some] <;> rfl), by (with_reducible repeat (first | apply Kd.R_alloc | apply Kd.R_drewN | apply Kd.R_drew)); exact Kd.R_mono (Kd.R_far (p := ⟨gb244, 1, none⟩) (Kd.R_far (p := ⟨gb244, 0, none⟩) (Kd.R_types HO_246000.out BK244.out (by decide)) (fun _ hk => hk.2) (.slice Ao33 x246000_1.length co33)) (fun _ hk => hk.2) (.int .i64 x246001_1)) (fun _ hk => trivial), by repeat (first | (with_reducible first | exact HB.out | apply below_alloc | apply pw_below_drewN | apply below_drew1 | refine below_set ?_ GE244.out | refine below_set ?_ GE245.out) | exact HB.out)⟩

/-! ### frisketlaw12_char: function 15 -/
def frisketlaw12_char.f (a0 : Int) : Option (Int × Int × Int × Int × ByteArray × ByteArray × List Int) := if (Int.tmod a0 3) = 0 then (some (5, 0, 0, 0, (⟨#[]⟩ : ByteArray), (⟨#[]⟩ : ByteArray), ([] : List Int))) else (some (0, wrap64 (Int.tmod (IntKind.u64.wrap (a0)) 30), 0, 10, (⟨#[46]⟩ : ByteArray), (⟨#[]⟩ : ByteArray), ([] : List Int)))
set_option maxHeartbeats 8000000 in
set_option maxRecDepth 100000 in
theorem frisketlaw12_char.calls (a0 : Int) (r1 : Int) (r2 : Int) (r3 : Int) (r4 : Int) (r5 : ByteArray) (r6 : ByteArray) (r7 : List Int) (w : World) (h : frisketlaw12_char.f a0 = some (r1, r2, r3, r4, r5, r6, r7)) :
    Calls Try.prog 15 #[.int .i64 a0] w fun e w' => ∃ v6_ : Value, e = .returned (.agg #[.int .i64 r1, .int .i64 r2, .int .i64 r3, .int .i64 r4, .string r5, .string r6, v6_]) ∧ Kd.R (Kd.int .i64) 3 w' w.heap.size (fun _ => True) v6_ r7 ∧ Below w.heap.size w w' := by
  have hu28 := Try.underlying28
  have HB := Aside0.mk (Below.refl w.heap.size w)
  have H : (if (Int.tmod a0 3) = 0 then (some (5, 0, 0, 0, (⟨#[]⟩ : ByteArray), (⟨#[]⟩ : ByteArray), ([] : List Int))) else (some (0, wrap64 (Int.tmod (IntKind.u64.wrap (a0)) 30), 0, 10, (⟨#[46]⟩ : ByteArray), (⟨#[]⟩ : ByteArray), ([] : List Int)))) = some (r1, r2, r3, r4, r5, r6, r7) := h
  clear h
  by_cases c2 : (Int.tmod a0 3) = 0
  · rw [if_pos c2] at H
    have c2b0 : ((Int.tmod a0 3) == 0) = true := beq_iff_eq.mpr c2
    have c2b1 : ((Int.tmod a0 3) != 0) = false := bne_eq_false_iff_eq.mpr c2
    clear c2
    simp only [Option.some.injEq, Prod.mk.injEq] at H
    obtain ⟨rfl, rfl, rfl, rfl, rfl, rfl, rfl⟩ := H
    go_enter Try.func15, Try.ntmps15
    go_wp2_with (first | ((with_reducible refine gate_dst (N := 2) rfl ?_); refine box_event ?hg (N := 2) ?hd (cs := #[.int .i64 0, .int .i64 0, .int .i64 0, .int .i64 0, .string (⟨#[]⟩ : ByteArray), .string (⟨#[]⟩ : ByteArray), .slice none 0 0]) (t := 28) ?hr ?_; (case hd => rfl); (case hg => rfl); (case hr => first | (go_simp; done) | (go_simp; rfl)); intro gb253 hg w3 hbox hb; have n0_ := Aside0.mk (below_step (by repeat (first | (with_reducible first | exact HB.out | apply below_alloc | apply pw_below_drewN | apply below_drew1) | exact HB.out)) hb); have n1_ := Aside0.mk (hbox); have n2_ := Aside0.mk ((by rw [hg]; exact (below_size (by repeat (first | (with_reducible first | exact HB.out | apply below_alloc | apply pw_below_drewN | apply below_drew1) | exact HB.out))) : w.heap.size ≤ gb253)); have n3_ := Aside0.mk ((by rw [hg]; exact (below_size (by repeat (first | (with_reducible first | exact HB.out | apply below_alloc | apply pw_below_drewN | apply below_drew1) | exact HB.out))) : w.heap.size ≤ gb253)); clear HB; have HB := n0_; have BK253 := n1_; have GW253 := n2_; have GE253 := n3_; clear n0_ n1_ n2_ n3_; clear hb hbox hg; have hcz4_0 : w3.cell? ⟨gb253, 0, none⟩ = some (.int .i64 0) := (blk_cell BK253.out 0).trans rfl; have hcz4_1 : w3.cell? ⟨gb253, 1, none⟩ = some (.int .i64 0) := (blk_cell BK253.out 1).trans rfl; have hcz4_2 : w3.cell? ⟨gb253, 2, none⟩ = some (.int .i64 0) := (blk_cell BK253.out 2).trans rfl; have hcz4_3 : w3.cell? ⟨gb253, 3, none⟩ = some (.int .i64 0) := (blk_cell BK253.out 3).trans rfl; have hcz4_4 : w3.cell? ⟨gb253, 4, none⟩ = some (.string (⟨#[]⟩ : ByteArray)) := (blk_cell BK253.out 4).trans rfl; have hcz4_5 : w3.cell? ⟨gb253, 5, none⟩ = some (.string (⟨#[]⟩ : ByteArray)) := (blk_cell BK253.out 5).trans rfl; have hcz4_6 : w3.cell? ⟨gb253, 6, none⟩ = some (.slice none 0 0) := (blk_cell BK253.out 6).trans rfl; have hfz4_0 := blk_frozen BK253.out 0; have hfz4_1 := blk_frozen BK253.out 1; have hfz4_2 := blk_frozen BK253.out 2; have hfz4_3 := blk_frozen BK253.out 3; have hfz4_4 := blk_frozen BK253.out 4; have hfz4_5 := blk_frozen BK253.out 5; have hfz4_6 := blk_frozen BK253.out 6))
    refine bodyPost_ret (results_cell_row rfl _ _ gb253 28 #[.int .i64 5, .int .i64 0, .int .i64 0, .int .i64 0, .string (⟨#[]⟩ : ByteArray), .string (⟨#[]⟩ : ByteArray), .slice none 0 0] (0, 0) _ rfl (by (with_reducible repeat (first | refine blk_drewN ?_ _ | refine blk_drew ?_ | refine blk_alloc ?_ _)); refine blk_put (cs := #[.int .i64 5, .int .i64 0, .int .i64 0, .int .i64 0, .string (⟨#[]⟩ : ByteArray), .string (⟨#[]⟩ : ByteArray), .slice none 0 0]) ?_ 6 _ rfl; (with_reducible repeat (first | refine blk_drewN ?_ _ | refine blk_drew ?_ | refine blk_alloc ?_ _)); refine blk_put (cs := #[.int .i64 5, .int .i64 0, .int .i64 0, .int .i64 0, .string (⟨#[]⟩ : ByteArray), .string (⟨#[]⟩ : ByteArray), .slice none 0 0]) ?_ 5 _ rfl; (with_reducible repeat (first | refine blk_drewN ?_ _ | refine blk_drew ?_ | refine blk_alloc ?_ _)); refine blk_put (cs := #[.int .i64 5, .int .i64 0, .int .i64 0, .int .i64 0, .string (⟨#[]⟩ : ByteArray), .string (⟨#[]⟩ : ByteArray), .slice none 0 0]) ?_ 4 _ rfl; (with_reducible repeat (first | refine blk_drewN ?_ _ | refine blk_drew ?_ | refine blk_alloc ?_ _)); refine blk_put (cs := #[.int .i64 5, .int .i64 0, .int .i64 0, .int .i64 0, .string (⟨#[]⟩ : ByteArray), .string (⟨#[]⟩ : ByteArray), .slice none 0 0]) ?_ 3 _ rfl; (with_reducible repeat (first | refine blk_drewN ?_ _ | refine blk_drew ?_ | refine blk_alloc ?_ _)); refine blk_put (cs := #[.int .i64 5, .int .i64 0, .int .i64 0, .int .i64 0, .string (⟨#[]⟩ : ByteArray), .string (⟨#[]⟩ : ByteArray), .slice none 0 0]) ?_ 2 _ rfl; (with_reducible repeat (first | refine blk_drewN ?_ _ | refine blk_drew ?_ | refine blk_alloc ?_ _)); refine blk_put (cs := #[.int .i64 5, .int .i64 0, .int .i64 0, .int .i64 0, .string (⟨#[]⟩ : ByteArray), .string (⟨#[]⟩ : ByteArray), .slice none 0 0]) ?_ 1 _ rfl; (with_reducible repeat (first | refine blk_drewN ?_ _ | refine blk_drew ?_ | refine blk_alloc ?_ _)); refine blk_put (cs := #[.int .i64 0, .int .i64 0, .int .i64 0, .int .i64 0, .string (⟨#[]⟩ : ByteArray), .string (⟨#[]⟩ : ByteArray), .slice none 0 0]) ?_ 0 _ rfl; (with_reducible repeat (first | refine blk_drewN ?_ _ | refine blk_drew ?_ | refine blk_alloc ?_ _)); exact BK253.out) Try.underlying28 rfl (by kernel_rfl)) rfl ?_
    exact ⟨_, by first | rfl | (simp [errW_none, errW_some] <;> rfl) | (simp [*, errW_none, errW_some] <;> rfl), by first | exact Kd.R_nil _ _ _ _ _ | exact Kd.N_nil _ _ _ _ _ | exact Kd.V_nil _ _ _ _ _ | exact Kd.Q_nil _ _ _ _ _ | exact Kd.S_nil _ _ _ _ _, by repeat (first | (with_reducible first | exact HB.out | apply below_alloc | apply pw_below_drewN | apply below_drew1 | refine below_set ?_ GE253.out) | exact HB.out)⟩
  · rw [if_neg c2] at H
    have c2b0 : ((Int.tmod a0 3) == 0) = false := beq_eq_false_iff_ne.mpr c2
    have c2b1 : ((Int.tmod a0 3) != 0) = true := bne_iff_ne.mpr c2
    simp only [Option.some.injEq, Prod.mk.injEq] at H
    obtain ⟨rfl, rfl, rfl, rfl, rfl, rfl, rfl⟩ := H
    go_enter Try.func15, Try.ntmps15
    go_wp2_with (first | ((with_reducible refine gate_dst (N := 2) rfl ?_); refine box_event ?hg (N := 2) ?hd (cs := #[.int .i64 0, .int .i64 0, .int .i64 0, .int .i64 0, .string (⟨#[]⟩ : ByteArray), .string (⟨#[]⟩ : ByteArray), .slice none 0 0]) (t := 28) ?hr ?_; (case hd => rfl); (case hg => rfl); (case hr => first | (go_simp; done) | (go_simp; rfl)); intro gb253 hg w5 hbox hb; have n0_ := Aside0.mk (below_step (by repeat (first | (with_reducible first | exact HB.out | apply below_alloc | apply pw_below_drewN | apply below_drew1) | exact HB.out)) hb); have n1_ := Aside0.mk (hbox); have n2_ := Aside0.mk ((by rw [hg]; exact (below_size (by repeat (first | (with_reducible first | exact HB.out | apply below_alloc | apply pw_below_drewN | apply below_drew1) | exact HB.out))) : w.heap.size ≤ gb253)); have n3_ := Aside0.mk ((by rw [hg]; exact (below_size (by repeat (first | (with_reducible first | exact HB.out | apply below_alloc | apply pw_below_drewN | apply below_drew1) | exact HB.out))) : w.heap.size ≤ gb253)); clear HB; have HB := n0_; have BK253 := n1_; have GW253 := n2_; have GE253 := n3_; clear n0_ n1_ n2_ n3_; clear hb hbox hg; have hcz6_0 : w5.cell? ⟨gb253, 0, none⟩ = some (.int .i64 0) := (blk_cell BK253.out 0).trans rfl; have hcz6_1 : w5.cell? ⟨gb253, 1, none⟩ = some (.int .i64 0) := (blk_cell BK253.out 1).trans rfl; have hcz6_2 : w5.cell? ⟨gb253, 2, none⟩ = some (.int .i64 0) := (blk_cell BK253.out 2).trans rfl; have hcz6_3 : w5.cell? ⟨gb253, 3, none⟩ = some (.int .i64 0) := (blk_cell BK253.out 3).trans rfl; have hcz6_4 : w5.cell? ⟨gb253, 4, none⟩ = some (.string (⟨#[]⟩ : ByteArray)) := (blk_cell BK253.out 4).trans rfl; have hcz6_5 : w5.cell? ⟨gb253, 5, none⟩ = some (.string (⟨#[]⟩ : ByteArray)) := (blk_cell BK253.out 5).trans rfl; have hcz6_6 : w5.cell? ⟨gb253, 6, none⟩ = some (.slice none 0 0) := (blk_cell BK253.out 6).trans rfl; have hfz6_0 := blk_frozen BK253.out 0; have hfz6_1 := blk_frozen BK253.out 1; have hfz6_2 := blk_frozen BK253.out 2; have hfz6_3 := blk_frozen BK253.out 3; have hfz6_4 := blk_frozen BK253.out 4; have hfz6_5 := blk_frozen BK253.out 5; have hfz6_6 := blk_frozen BK253.out 6))
    refine bodyPost_ret (results_cell_row rfl _ _ gb253 28 #[.int .i64 0, .int .i64 (wrap64 (Int.tmod (IntKind.u64.wrap (a0)) 30)), .int .i64 0, .int .i64 10, .string (⟨#[46]⟩ : ByteArray), .string (⟨#[]⟩ : ByteArray), .slice none 0 0] (0, 0) _ rfl (by (with_reducible repeat (first | refine blk_drewN ?_ _ | refine blk_drew ?_ | refine blk_alloc ?_ _)); refine blk_put (cs := #[.int .i64 0, .int .i64 (wrap64 (Int.tmod (IntKind.u64.wrap (a0)) 30)), .int .i64 0, .int .i64 10, .string (⟨#[46]⟩ : ByteArray), .string (⟨#[]⟩ : ByteArray), .slice none 0 0]) ?_ 6 _ rfl; (with_reducible repeat (first | refine blk_drewN ?_ _ | refine blk_drew ?_ | refine blk_alloc ?_ _)); refine blk_put (cs := #[.int .i64 0, .int .i64 (wrap64 (Int.tmod (IntKind.u64.wrap (a0)) 30)), .int .i64 0, .int .i64 10, .string (⟨#[46]⟩ : ByteArray), .string (⟨#[]⟩ : ByteArray), .slice none 0 0]) ?_ 5 _ rfl; (with_reducible repeat (first | refine blk_drewN ?_ _ | refine blk_drew ?_ | refine blk_alloc ?_ _)); refine blk_put (cs := #[.int .i64 0, .int .i64 (wrap64 (Int.tmod (IntKind.u64.wrap (a0)) 30)), .int .i64 0, .int .i64 10, .string (⟨#[]⟩ : ByteArray), .string (⟨#[]⟩ : ByteArray), .slice none 0 0]) ?_ 4 _ rfl; (with_reducible repeat (first | refine blk_drewN ?_ _ | refine blk_drew ?_ | refine blk_alloc ?_ _)); refine blk_put (cs := #[.int .i64 0, .int .i64 (wrap64 (Int.tmod (IntKind.u64.wrap (a0)) 30)), .int .i64 0, .int .i64 0, .string (⟨#[]⟩ : ByteArray), .string (⟨#[]⟩ : ByteArray), .slice none 0 0]) ?_ 3 _ rfl; (with_reducible repeat (first | refine blk_drewN ?_ _ | refine blk_drew ?_ | refine blk_alloc ?_ _)); refine blk_put (cs := #[.int .i64 0, .int .i64 (wrap64 (Int.tmod (IntKind.u64.wrap (a0)) 30)), .int .i64 0, .int .i64 0, .string (⟨#[]⟩ : ByteArray), .string (⟨#[]⟩ : ByteArray), .slice none 0 0]) ?_ 2 _ rfl; (with_reducible repeat (first | refine blk_drewN ?_ _ | refine blk_drew ?_ | refine blk_alloc ?_ _)); refine blk_put (cs := #[.int .i64 0, .int .i64 0, .int .i64 0, .int .i64 0, .string (⟨#[]⟩ : ByteArray), .string (⟨#[]⟩ : ByteArray), .slice none 0 0]) ?_ 1 _ rfl; (with_reducible repeat (first | refine blk_drewN ?_ _ | refine blk_drew ?_ | refine blk_alloc ?_ _)); refine blk_put (cs := #[.int .i64 0, .int .i64 0, .int .i64 0, .int .i64 0, .string (⟨#[]⟩ : ByteArray), .string (⟨#[]⟩ : ByteArray), .slice none 0 0]) ?_ 0 _ rfl; (with_reducible repeat (first | refine blk_drewN ?_ _ | refine blk_drew ?_ | refine blk_alloc ?_ _)); exact BK253.out) Try.underlying28 rfl (by kernel_rfl)) rfl ?_
    exact ⟨_, by first | rfl | (simp [errW_none, errW_some] <;> rfl) | (simp [*, errW_none, errW_some] <;> rfl), by first | exact Kd.R_nil _ _ _ _ _ | exact Kd.N_nil _ _ _ _ _ | exact Kd.V_nil _ _ _ _ _ | exact Kd.Q_nil _ _ _ _ _ | exact Kd.S_nil _ _ _ _ _, by repeat (first | (with_reducible first | exact HB.out | apply below_alloc | apply pw_below_drewN | apply below_drew1 | refine below_set ?_ GE253.out) | exact HB.out)⟩

-- NOT PRINTED: function 4 (frisketlaw12_TabsMade)

end Go.Proofs.Ytmmfojaeahcohaa.PTabsMade

/- Walk: refer.Data. -/
import Derived.RangeFuncNested
import Derived.RangeFuncBound
import Derived.RangeFuncCalls
import Derived.RangeFuncLeaves
import Derived.Shelf.Abstract
import Derived.Shelf.RegionOpen
import Derived.WalkKit
import Derived.OwnWalkIn
import Derived.TacticsInMore
import Derived.LoopNIn
import Derived.LoopIn
import Derived.Test.YtmoloaneidledaaDoorR26C
import Derived.Test.YtmoloaneidledaaDoorR26E
import Derived.Test.YtmoloaneidledaaDoorR26I
import Derived.Test.YtmoloaneidledaaDoorR26U
import Derived.Test.YtmoloaneidledaaDoorR26F
import Derived.Test.YtmoloaneidledaaDoorR26G
import Derived.Test.YtmoloaneidledaaDoorR26H
set_option linter.unusedVariables false
set_option linter.unusedSimpArgs false
namespace Go.Proofs.YtmoloaneidledaaDoor
open Go.Shelf Go.RowKit Go.Lib
attribute [local go_sem] Oper.semAt_some

theorem info42 : (Tryd.prog.info? 42).map (fun i => (i.zero, i.size, i.bytes)) = some (some (.slice none 0 0), 1, 24) := by kernel_rfl
/-- The frame of a round. -/
abbrev frD (h : Nat) (s x : ByteArray) (Bx : Nat) : Act :=
  { tmps := #[.string s, undef, .pointer (some ⟨h, 0, none⟩), .pointer (some ⟨h + 1, 0, none⟩), .pointer (some ⟨h + 2, 0, none⟩), .pointer (some ⟨h + 3, 0, none⟩), .pointer (some ⟨Bx, 0, none⟩), undef, undef, .string s, .func (.func 63) #[] #[.pointer (some ⟨h + 5, 0, none⟩), .pointer (some ⟨h + 4, 0, none⟩), .pointer (some ⟨h + 6, 0, none⟩)], .string x, undef, undef, undef, undef, undef, undef, undef, undef, undef, undef, undef, undef, undef, undef, undef, undef, undef, undef, undef, undef, undef, undef, undef, undef, undef, undef, undef, undef, undef, undef, undef, undef, undef, undef, undef, undef, undef, undef, undef, undef, undef, undef, undef, undef, undef, undef, undef, undef, undef, undef, undef, undef, undef, undef, undef, undef, undef, undef, undef, undef, undef, undef, undef, undef, undef, undef, undef, undef, undef, undef, undef, undef, undef, undef, undef, undef, undef, undef], defers := [] }
/-- The fold over the lines that have come. -/
abbrev foldP (pre : List ByteArray) : St := pre.foldl stepS (.on [] [])
set_option maxRecDepth 100000 in
set_option maxHeartbeats 8000000 in
theorem data_in (n : Nat) (hn : 4 ≤ n) (s : ByteArray) (hs : s.size ≤ 1000000) (w : World) :
    CallsIn Fence.wide n Tryd.prog 13 #[.string s] w fun e W' => (∃ v, e = .returned (.tuple #[v, .int .i64 (dataM s).2]) ∧ Shape (w.heap.size + 7) W' v (dataM s).1 []) ∧ Below w.heap.size w W' := by
  have h1 : 1 ≤ n := by omega
  have hro : Fence.wide.round = none := rfl
  refine callsIn_of_wp_marks Tryd.func13 rfl trivial ?_ hro
  simp only [Tryd.ntmps13, List.size_toArray, List.length_cons, List.length_nil, Nat.reduceAdd, Nat.reduceSub, Array.replicate_succ, Array.replicate_zero, List.push_toArray, List.append_toArray, List.nil_append, List.cons_append]
  gi_wp2_with (refine ⟨trivial, ?_⟩; gi_at_call 33; refine (callsIn_wide.2 (split_calls _ _ _)).mono ?_; rintro e w' ⟨rfl, rfl⟩)
  simp only [Nat.add_assoc, Nat.reduceAdd]
  obtain ⟨h, hh⟩ : ∃ h, w.heap.size = h := ⟨_, rfl⟩
  obtain ⟨W0, hW0⟩ : ∃ W0, (((((((w.alloc (.cells #[.slice none 0 0] 27)).alloc (.cells #[.int .i64 0] 29)).alloc (.cells #[.slice none 0 0] 27)).alloc (.cells #[.bool false] 4)).alloc (.cells #[.string s] 9)).alloc (.cells #[.string ⟨#[10]⟩] 9)).alloc (.cells #[.int .i64 0] 3)) = W0 := ⟨_, rfl⟩
  have hsz : W0.heap.size = h + 7 := by rw [← hW0]; simp; omega
  have hB0 : Below h w W0 := by
    rw [← hW0]
    refine ((((((((Below.refl h w).alloc (by omega) _).alloc ?_ _).alloc ?_ _).alloc ?_ _).alloc ?_ _).alloc ?_ _).alloc ?_ _) <;> (simp; omega)
  have b0 : Boxed W0 h 27 (.slice none 0 0) := by
    rw [← hW0, ← hh]
    exact (((((Boxed.new w 27 (.slice none 0 0)).alloc _).alloc _).alloc _).alloc _).alloc _ |>.alloc _
  have b1 : Boxed W0 (h + 1) 29 (.int .i64 0) := by
    rw [← hW0, ← hh]
    have := Boxed.new (w.alloc (.cells #[.slice none 0 0] 27)) 29 (.int .i64 0)
    rw [World.size_alloc] at this
    exact ((((this.alloc _).alloc _).alloc _).alloc _).alloc _
  have b2 : Boxed W0 (h + 2) 27 (.slice none 0 0) := by
    rw [← hW0, ← hh]
    have := Boxed.new ((w.alloc (.cells #[.slice none 0 0] 27)).alloc (.cells #[.int .i64 0] 29)) 27 (.slice none 0 0)
    rw [World.size_alloc, World.size_alloc] at this
    exact (((this.alloc _).alloc _).alloc _).alloc _
  have b3 : Boxed W0 (h + 3) 4 (.bool false) := by
    rw [← hW0, ← hh]
    have := Boxed.new (((w.alloc (.cells #[.slice none 0 0] 27)).alloc (.cells #[.int .i64 0] 29)).alloc (.cells #[.slice none 0 0] 27)) 4 (.bool false)
    rw [World.size_alloc, World.size_alloc, World.size_alloc] at this
    exact ((this.alloc _).alloc _).alloc _
  have hIt : Its W0 (h + 4) s := by
    have k4 : Boxed W0 (h + 4) 9 (.string s) := by
      rw [← hW0, ← hh]
      have := Boxed.new ((((w.alloc (.cells #[.slice none 0 0] 27)).alloc (.cells #[.int .i64 0] 29)).alloc (.cells #[.slice none 0 0] 27)).alloc (.cells #[.bool false] 4)) 9 (.string s)
      rw [World.size_alloc, World.size_alloc, World.size_alloc, World.size_alloc] at this
      exact (this.alloc _).alloc _
    have k5 : Boxed W0 (h + 5) 9 (.string ⟨#[10]⟩) := by
      rw [← hW0, ← hh]
      have := Boxed.new (((((w.alloc (.cells #[.slice none 0 0] 27)).alloc (.cells #[.int .i64 0] 29)).alloc (.cells #[.slice none 0 0] 27)).alloc (.cells #[.bool false] 4)).alloc (.cells #[.string s] 9)) 9 (.string ⟨#[10]⟩)
      rw [World.size_alloc, World.size_alloc, World.size_alloc, World.size_alloc, World.size_alloc] at this
      exact this.alloc _
    have k6 : Boxed W0 (h + 6) 3 (.int .i64 0) := by
      rw [← hW0, ← hh]
      have := Boxed.new ((((((w.alloc (.cells #[.slice none 0 0] 27)).alloc (.cells #[.int .i64 0] 29)).alloc (.cells #[.slice none 0 0] 27)).alloc (.cells #[.bool false] 4)).alloc (.cells #[.string s] 9)).alloc (.cells #[.string ⟨#[10]⟩] 9)) 3 (.int .i64 0)
      rw [World.size_alloc, World.size_alloc, World.size_alloc, World.size_alloc, World.size_alloc, World.size_alloc] at this
      exact this
    exact ⟨k4.cell, k4.frozen, k5.cell, k6.cell⟩
  rw [hW0, hh]
  clear hW0
  have hI0 : Inv h W0 [] [] := ⟨b0, b1, ⟨_, b2, h + 7, [], Nat.le_refl _, by omega, Rows.nil _ _ _ _, .inl ⟨rfl, World.ownsRow_nil _ _ _ _⟩⟩, b3⟩
  clear b0 b1 b2 b3
  refine wpIn_rangeFunc_box hro h1 (gf := 63) (lb := #[.pointer (some ⟨h + 5, 0, none⟩), .pointer (some ⟨h + 4, 0, none⟩), .pointer (some ⟨h + 6, 0, none⟩)]) rfl trivial (enters_of Tryd.func63 (by kernel_rfl) rfl)
    (encs := fun x : Txt => #[.string x.1]) (Bs := h + 4) (by omega) (split_box (n - 1) (h + 4) (by omega) s (by omega) W0 (by omega) hIt) (fun _ => rfl)
    (fun pre W => (∃ d cur, foldP (vals pre) = .on d cur ∧ Inv h W d cur) ∧ Below h w W)
    (fun pre W => (∃ e, foldP (vals pre) = .bad e ∧ Boxed W h 27 (.slice none 0 0) ∧ Boxed W (h + 1) 29 (.int .i64 e)) ∧ Below h w W)
    (OwnFrom.and (fun p A B row hs hg hr => by
      obtain ⟨d, cur, e, hi⟩ := hs
      exact ⟨d, cur, e, (KC.of_own hg hr).inv hi⟩) (ownFrom_below (by omega) (by omega)))
    (OwnFrom.and (fun p A B row hs hg hr => by
      obtain ⟨e, h1, h2, h3⟩ := hs
      exact ⟨e, h1, (KC.of_own hg hr).boxed h2, (KC.of_own hg hr).boxed h3⟩) (ownFrom_below (by omega) (by omega)))
    (fun p A v hs => by
      obtain ⟨⟨d, cur, e, hi⟩, hb⟩ := hs
      exact ⟨⟨d, cur, e, hi.iter v⟩, hb.setCell (p := ⟨h + 4, 0, none⟩) (by simp) v⟩)
    ⟨⟨[], [], rfl, hI0⟩, hB0⟩
    (fun x a' W => ∃ Bx, h + 7 ≤ Bx ∧ Boxed W Bx 9 (.string x.1) ∧ a' = frD h s x.1 Bx)
    (fun x a' _ A B row hs hg hr => by
      obtain ⟨Bx, h1, h2, h3⟩ := hs
      exact ⟨Bx, h1, (KC.of_own hg hr).boxed h2, h3⟩)
    ?assign ?body ?done ?stop
  case assign =>
    rintro l pre x W K ⟨⟨d, cur, e, hi⟩, hB⟩ hK
    have hsW : h + 7 ≤ W.heap.size := by
      obtain ⟨vo, -, m, hs, q1, q2, -⟩ := hi.o
      omega
    gi_wp2
    refine hK _ _ ((KeepsOthers.alloc _ _).from _) (fun k q1 q2 => Below.heap_alloc _ _ _ (by omega)) ⟨⟨d, cur, e, (KC.alloc W _).inv hi⟩, hB.alloc (by omega) _⟩ ⟨W.heap.size, hsW, Boxed.new W _ _, rfl⟩
  case body =>
    rintro l pre ⟨x, hxs⟩ a' W ⟨⟨d, cur, e, hi⟩, hB⟩ ⟨Bx, hBx, bX, rfl⟩ hlt
    rw [hsz]
    have h1' : 1 ≤ n - 1 - 1 := by omega
    dsimp only at bX ⊢
    obtain ⟨b0, b1, ⟨vo, b2, hS⟩, b3⟩ := hi
    have hsW : h + 7 ≤ W.heap.size := by
      obtain ⟨m, hs, q1, q2, -⟩ := hS
      omega
    have hpl : pre.length ≤ 1000001 := by
      have h1 := parts_len s.data.toList []
      have h2 : s.data.toList.length = s.size := by rw [Array.length_toList]; rfl
      omega
    obtain ⟨fl1, fl2⟩ := fold_len _ _ _ _ _ e
    have ftx := fold_text 1000000 _ _ _ _ _ 0 (fun y hy => by
      obtain ⟨z, -, rfl⟩ := List.mem_map.1 hy
      exact z.2) (by simp) e
    simp only [List.length_map, flush, List.length_nil, if_true, Nat.zero_add] at fl1 fl2 ftx
    have hdl : d.length ≤ pre.length := by
      split at fl1
      · exact fl1
      · rw [List.length_append] at fl1
        omega
    have hft : ∀ f ∈ cur, f.t.size ≤ 1000000000000000000 := fun f hf => by
      have h1 := ftx f hf
      have h2 : pre.length * (1000000 + 1) ≤ 1000001 * (1000000 + 1) := Nat.mul_le_mul_right _ hpl
      omega
    clear fl1 ftx
    have c0 := b0.cell
    have c1 := b1.cell
    have c2 := b2.cell
    have c3 := b3.cell
    have cx := bX.cell
    have f0 := b0.frozen
    have f1 := b1.frozen
    have f2 := b2.frozen
    have f3 := b3.frozen
    have HE := Lib.hid (show foldP (vals (pre ++ [⟨x, hxs⟩])) = stepS (.on d cur) x by rw [foldP, vals, List.map_append, List.foldl_append, ← e]; rfl)
    clear e
    by_cases hx0 : x.size = 0
    · have HX := Lib.hid (show foldP (vals (pre ++ [⟨x, hxs⟩])) = .on (flush d cur) [] by rw [HE.out, stepS_on, if_pos hx0])
      obtain rfl : x = ⟨#[]⟩ := ByteArray.ext (Array.eq_empty_of_size_eq_zero hx0)
      gi_wp2
      exact ⟨(KeepsOthers.setCell _ _ _).from _, fun k q1 q2 => Below.heap_setCell _ _ _ _ (show k ≠ h + 3 by omega), ⟨_, _, HX.out, boxed_far b0 (by simp) _, boxed_far b1 (by simp) _, ⟨_, boxed_far b2 (by simp) _, (hS.flush).low (by simp) _⟩, b3.set _⟩, hB.setCell (p := ⟨h + 3, 0, none⟩) (by simp) _⟩
    have hxe : x.toList.isEmpty = false := by
      rw [Lib.toList_data, List.isEmpty_eq_false_iff]
      intro e
      apply hx0
      have := congrArg List.length e
      rw [Array.length_toList] at this
      exact this
    have hi0 : (0 : Int) < x.size := by omega
    have e0 := pk_get x 0 (by omega)
    by_cases hp : pk x 0 ≠ 37
    · have k0 : ((x[0].toNat : Int) == 37) = false := by rw [← e0, beqI, decide_eq_false (by omega)]
      by_cases hc : cur = []
      · have HX := Lib.hid (show foldP (vals (pre ++ [⟨x, hxs⟩])) = .bad 4 by rw [HE.out, stepS_on, if_neg hx0, if_pos hp, if_pos hc])
        rw [show (!decide (cur = [])) = false by simp [hc]] at c3
        clear hc
        gi_wp2
        exact ⟨(KeepsOthers.setCell _ _ _ |>.trans (KeepsOthers.setCell _ _ _)).from _, ⟨_, HX.out, boxed_far (b0.set _) (by simp) _, (boxed_far b1 (by simp) _).set _⟩, (hB.setCell (p := ⟨h, 0, none⟩) (Nat.le_refl _) _).setCell (p := ⟨h + 1, 0, none⟩) (Nat.le_succ _) _⟩
      · have HX := Lib.hid (show foldP (vals (pre ++ [⟨x, hxs⟩])) = .on d (addT cur x) by rw [HE.out, stepS_on, if_neg hx0, if_pos hp, if_neg hc])
        have b3t : Boxed W (h + 3) 4 (.bool true) := by rw [show (!decide (cur = [])) = true by simp [hc]] at b3; exact b3
        rw [show (!decide (cur = [])) = true by simp [hc]] at c3
        obtain ⟨m, hs', q1, q2, q3, ⟨e, -⟩ | ⟨-, hl, q4, q5⟩⟩ := hS
        · exact absurd e hc
        obtain ⟨go, cap, rfl⟩ := ownsRow_succ q4
        obtain ⟨q, f, hqf⟩ : ∃ q f, cur = q ++ [f] := by
          rcases List.eq_nil_or_concat cur with e | ⟨q, f, e⟩
          · exact absurd e hc
          · exact ⟨q, f, by rw [e, List.concat_eq_append]⟩
        have hlen : cur.length = q.length + 1 := by rw [hqf]; simp
        obtain ⟨gl, cp, hlf⟩ := ownsRow_succ (k := q.length) (by rw [← hlen]; exact q5)
        have PP : P18 w W h (h + 7) W go cap m hs' (.slice (some ⟨gl, 0, none⟩) cur.length cp) d cur :=
          ⟨rfl, KeepsFrom.refl _ _, fun _ _ _ => rfl, hB, b0, b1, b2, b3t, q1, q2, q3, by rw [hlen, ← hlf]; exact q4, by rw [hlf, ← hlen] at q5; exact q5⟩
        obtain ⟨o1, o2, o3, o4⟩ := PP.txt (x := x) hqf
        have ct : W.cell? ⟨gl, q.length * 2 + 1, none⟩ = some (.string f.t) := (PP.row.cellAt (q.length * 2 + 1) (by omega)).trans ((cellsF_1 cur q.length (by omega)).trans (by simp [hqf]))
        have ft := PP.row.frozenAt (q.length * 2 + 1)
        have hxg : Bx ≠ gl := fun e => (bX.not_row (by decide) PP.row) (by rw [e]; rfl)
        have hfs := hft f (by rw [hqf]; simp)
        have co : W.cell? ⟨go, hs'.length, none⟩ = some (.slice (some ⟨gl, 0, none⟩) (q.length + 1) cp) := (q4.cellAt hs'.length (by omega)).trans (by rw [hlf]; simp)
        have hg0 : (0 : Int) ≤ (hs'.length : Int) := by omega
        have hg1 : (hs'.length : Int) < (hs'.length : Int) + 1 := by omega
        have hwr : IntKind.i64.wrap (hs'.length : Int) = (hs'.length : Int) := by have := q3.1; rw [IntKind.wrap_i64]; omega
        have hqn : q.length ≤ 10000000 := by omega
        clear hc PP
        have HQ := Lib.hid hqf
        clear hqf hlen
        gi_wp2
        refine txt6 (p := q.length) (by kernel_rfl) ?_ ?_ cx ct ft hqn (by omega) hfs hxg ?_
        · rintro ⟨_, _, q⟩
          exact q
        · exact fun _ _ _ q => q
        intro a2
        gi_wp2
        exact ⟨o1, o2, ⟨_, _, HX.out, o3⟩, o4⟩
    have k0 : ((x[0].toNat : Int) == 37) = true := by rw [← e0, beqI, decide_eq_true (by omega)]
    by_cases hx3 : x.size < 4
    · have HX := Lib.hid (show foldP (vals (pre ++ [⟨x, hxs⟩])) = .bad 4 by rw [HE.out, stepS_on, if_neg hx0, if_neg hp, if_pos (.inl hx3)])
      have k1 : decide ((x.size : Int) < 4) = true := decide_eq_true (by omega)
      gi_wp2
      refine ⟨trivial, ?_⟩
      gi_wp2
      exact ⟨(KeepsOthers.setCell _ _ _ |>.trans (KeepsOthers.setCell _ _ _)).from _, ⟨_, HX.out, boxed_far (b0.set _) (by simp) _, (boxed_far b1 (by simp) _).set _⟩, (hB.setCell (p := ⟨h, 0, none⟩) (Nat.le_refl _) _).setCell (p := ⟨h + 1, 0, none⟩) (Nat.le_succ _) _⟩
    have k1 : decide ((x.size : Int) < 4) = false := decide_eq_false (by omega)
    have hi1 : (1 : Int) < x.size := by omega
    have hi2 : (2 : Int) < x.size := by omega
    have e1 := pk_get x 1 (by omega)
    have e2 := pk_get x 2 (by omega)
    have H34 := Lib.hid (cap34_calls (x[1].toNat : Nat) W)
    rw [← e1] at H34
    by_cases hcap : capB (pk x 1) = false
    · have HX := Lib.hid (show foldP (vals (pre ++ [⟨x, hxs⟩])) = .bad 4 by rw [HE.out, stepS_on, if_neg hx0, if_neg hp, if_pos (.inr (.inl hcap))])
      rw [hcap, e1] at H34
      gi_wp2_with (refine ⟨trivial, ?_⟩; gi_at_call 34; refine (CallsIn.inRound l (callsIn_wide.2 H34.out)).mono ?_; rintro e w' ⟨rfl, rfl⟩)
      exact ⟨(KeepsOthers.setCell _ _ _ |>.trans (KeepsOthers.setCell _ _ _)).from _, ⟨_, HX.out, boxed_far (b0.set _) (by simp) _, (boxed_far b1 (by simp) _).set _⟩, (hB.setCell (p := ⟨h, 0, none⟩) (Nat.le_refl _) _).setCell (p := ⟨h + 1, 0, none⟩) (Nat.le_succ _) _⟩
    rw [show capB (pk x 1) = true by simpa using hcap, e1] at H34
    by_cases h32 : pk x 2 ≠ 32
    · have HX := Lib.hid (show foldP (vals (pre ++ [⟨x, hxs⟩])) = .bad 4 by rw [HE.out, stepS_on, if_neg hx0, if_neg hp, if_pos (.inr (.inr h32))])
      have k2 : ((x[2].toNat : Int) != 32) = true := by rw [← e2, bne_iff_ne]; omega
      gi_wp2_with (refine ⟨trivial, ?_⟩; gi_at_call 34; refine (CallsIn.inRound l (callsIn_wide.2 H34.out)).mono ?_; rintro e w' ⟨rfl, rfl⟩)
      exact ⟨(KeepsOthers.setCell _ _ _ |>.trans (KeepsOthers.setCell _ _ _)).from _, ⟨_, HX.out, boxed_far (b0.set _) (by simp) _, (boxed_far b1 (by simp) _).set _⟩, (hB.setCell (p := ⟨h, 0, none⟩) (Nat.le_refl _) _).setCell (p := ⟨h + 1, 0, none⟩) (Nat.le_succ _) _⟩
    have k2 : ((x[2].toNat : Int) != 32) = false := by rw [← e2, show pk x 2 = 32 by omega]; rfl
    have hg4 : ¬ (x.size < 4 ∨ capB (pk x 1) = false ∨ pk x 2 ≠ 32) := by
      rintro (q | q | q)
      · exact hx3 q
      · exact hcap q
      · exact h32 q
    have hx4 : 4 ≤ x.size := by omega
    clear hcap h32
    obtain ⟨i0, hi4, hz0, hz1, hz2⟩ := info_parts info42
    obtain ⟨m, hs', q1, q2, q3, ⟨e, q4⟩ | ⟨hc, hl, q4, q5⟩⟩ := hS
    · subst e
      rw [show (!decide (([] : List Fld) = [])) = false from rfl] at c3 b3
      have hg0 : (0 : Int) ≤ (hs'.length : Int) := by omega
      have hg1 : (hs'.length : Int) < (hs'.length : Int) + 1 := by omega
      have hwr : IntKind.i64.wrap (hs'.length : Int) = (hs'.length : Int) := by have := q3.1; rw [IntKind.wrap_i64]; omega
      have hsn : hs'.length ≤ 1000001 := by have := q3.1; omega
      by_cases hA : pk x 1 = 65
      · have k3 : ((x[1].toNat : Int) != 65) = false := by rw [← e1, hA]; rfl
        have HX := Lib.hid (show foldP (vals (pre ++ [⟨x, hxs⟩])) = .on d (([] : List Fld) ++ [⟨pk x 1, x.extract 3 x.size⟩]) by rw [HE.out, stepS_on, if_neg hx0, if_neg hp, if_neg hg4, if_neg (by omega)])
        gi_wp2_with (first | (refine ⟨trivial, ?_⟩; gi_at_call 34; refine (CallsIn.inRound l (callsIn_wide.2 H34.out)).mono ?_; rintro e w' ⟨rfl, rfl⟩) | go_loud ((gi_at_builtin; refine wpListIn_append_own _ rfl _ _ 27 rfl (h + 7) 42 i0 (.slice none 0 0) 1 24 Tryd.underlying27 hi4 hz0 hz1 hz2 rfl (by decide) _ _ _ rfl (q4.alloc _) ⟨W.heap.size, 0, none⟩ 1 1 [.slice none 0 0] rfl rfl (cell_one_new _ _ _) (by simp [Value.oneCell']) (by unfold maxLen; omega) (by omega) (by simp; omega) ?_; intro vn w1 hown' hgrow _; obtain ⟨go, cap, rfl⟩ := ownsRow_succ hown'; obtain ⟨V, hV⟩ : ∃ V, (w1.setCell ⟨h + 2, 0, none⟩ (.slice (some ⟨go, 0, none⟩) (hs'.length + 1) cap)).setCell ⟨h + 3, 0, none⟩ (.bool true) = V := ⟨_, rfl⟩; obtain ⟨hl, hhl⟩ : ∃ hl, Value.slice none 0 0 = hl := ⟨_, rfl⟩; have PP : P18 w W h (h + 7) V go cap m hs' hl d [] := (by rw [← hV, ← hhl]; exact P18.new hB b0 b1 b2 b3 q1 q2 q3 q4 hown' hgrow); have bw : Boxed w1 Bx 9 (.string x) := (bX.alloc _).kept hgrow (bX.not_row (by decide) q4); have wc2 : w1.cell? ⟨h + 2, 0, none⟩ = some vo := ((b2.alloc _).kept hgrow (b2.not_row (by decide) q4)).cell; have wf2 : w1.frozen? ⟨h + 2, 0, none⟩ = false := ((b2.alloc _).kept hgrow (b2.not_row (by decide) q4)).frozen; have wc3 : w1.cell? ⟨h + 3, 0, none⟩ = some (.bool false) := ((b3.alloc _).kept hgrow (b3.not_row (by decide) q4)).cell; have wf3 : w1.frozen? ⟨h + 3, 0, none⟩ = false := ((b3.alloc _).kept hgrow (b3.not_row (by decide) q4)).frozen; have bV : Boxed V Bx 9 (.string x) := (by rw [← hV]; exact boxed_far (boxed_far bw (by simp; omega) _) (by simp; omega) _); have hV0 := PP.b0.cell; have hV1 := PP.b1.cell; have hV2 := PP.b2.cell; have hF0 := PP.b0.frozen; have hF1 := PP.b1.frozen; have hVx := bV.cell; have hVo : V.cell? ⟨go, hs'.length, none⟩ = some hl := ((PP.out.cellAt hs'.length (by omega)).trans (by simp)); have hFo : V.frozen? ⟨go, hs'.length, none⟩ = false := PP.out.frozenAt hs'.length)))
        refine ⟨trivial, ?_⟩
        gi_wp2
        have hno : some go ≠ hl.ownBlock := ((row_ne PP.out PP.row (by decide)).resolve_left (by simp [Value.ownBlock]))
        have hnx : some Bx ≠ hl.ownBlock := bV.not_row (by decide) PP.row
        have hxo : Bx ≠ go := fun e => (bV.not_row (by decide) PP.out) (by rw [e]; rfl)
        refine app18 (m := m) (by kernel_rfl) ?_ ?_ hx4 hVx hVo hFo PP.row (by omega) PP.m1 hno hnx hxo ?_
        · rintro ⟨_, _, q⟩
          exact q
        · exact fun _ _ _ q => q
        intro a2 u1 w2 r1 r2
        obtain ⟨o1, o2, o3, o4⟩ := PP.fin (Below.refl _ _) r1 r2
        gi_wp2
        exact ⟨o1, o2, ⟨_, _, HX.out, o3⟩, o4⟩

      · have k3 : ((x[1].toNat : Int) != 65) = true := by rw [← e1, bne_iff_ne]; omega
        gi_wp2_with (first | (refine ⟨trivial, ?_⟩; gi_at_call 34; refine (CallsIn.inRound l (callsIn_wide.2 H34.out)).mono ?_; rintro e w' ⟨rfl, rfl⟩) | go_loud ((gi_at_builtin; refine wpListIn_append_own _ rfl _ _ 27 rfl (h + 7) 42 i0 (.slice none 0 0) 1 24 Tryd.underlying27 hi4 hz0 hz1 hz2 rfl (by decide) _ _ _ rfl (q4.alloc _) ⟨W.heap.size, 0, none⟩ 1 1 [.slice none 0 0] rfl rfl (cell_one_new _ _ _) (by simp [Value.oneCell']) (by unfold maxLen; omega) (by omega) (by simp; omega) ?_; intro vn w1 hown' hgrow _; obtain ⟨go, cap, rfl⟩ := ownsRow_succ hown'; obtain ⟨V, hV⟩ : ∃ V, (w1.setCell ⟨h + 2, 0, none⟩ (.slice (some ⟨go, 0, none⟩) (hs'.length + 1) cap)).setCell ⟨h + 3, 0, none⟩ (.bool true) = V := ⟨_, rfl⟩; obtain ⟨hl, hhl⟩ : ∃ hl, Value.slice none 0 0 = hl := ⟨_, rfl⟩; have PP : P18 w W h (h + 7) V go cap m hs' hl d [] := (by rw [← hV, ← hhl]; exact P18.new hB b0 b1 b2 b3 q1 q2 q3 q4 hown' hgrow); have bw : Boxed w1 Bx 9 (.string x) := (bX.alloc _).kept hgrow (bX.not_row (by decide) q4); have wc2 : w1.cell? ⟨h + 2, 0, none⟩ = some vo := ((b2.alloc _).kept hgrow (b2.not_row (by decide) q4)).cell; have wf2 : w1.frozen? ⟨h + 2, 0, none⟩ = false := ((b2.alloc _).kept hgrow (b2.not_row (by decide) q4)).frozen; have wc3 : w1.cell? ⟨h + 3, 0, none⟩ = some (.bool false) := ((b3.alloc _).kept hgrow (b3.not_row (by decide) q4)).cell; have wf3 : w1.frozen? ⟨h + 3, 0, none⟩ = false := ((b3.alloc _).kept hgrow (b3.not_row (by decide) q4)).frozen; have bV : Boxed V Bx 9 (.string x) := (by rw [← hV]; exact boxed_far (boxed_far bw (by simp; omega) _) (by simp; omega) _); have hV0 := PP.b0.cell; have hV1 := PP.b1.cell; have hV2 := PP.b2.cell; have hF0 := PP.b0.frozen; have hF1 := PP.b1.frozen; have hVx := bV.cell; have hVo : V.cell? ⟨go, hs'.length, none⟩ = some hl := ((PP.out.cellAt hs'.length (by omega)).trans (by simp)); have hFo : V.frozen? ⟨go, hs'.length, none⟩ = false := PP.out.frozenAt hs'.length)))
        have hno : some go ≠ hl.ownBlock := ((row_ne PP.out PP.row (by decide)).resolve_left (by simp [Value.ownBlock]))
        have hnx : some Bx ≠ hl.ownBlock := bV.not_row (by decide) PP.row
        have hxo : Bx ≠ go := fun e => (bV.not_row (by decide) PP.out) (by rw [e]; rfl)
        obtain ⟨A, cp, hlf, hfl⟩ := row_flds PP.row
        have H35 := Lib.hid (contains35_calls A cp ([] : List Fld) (by omega) x Bx (by omega) V hfl hVx)
        rw [← hlf] at H35
        by_cases hH : hasF ([] : List Fld) (pk x 1) = true
        · exact absurd hH (by simp [hasF])
        · have HX := Lib.hid (show foldP (vals (pre ++ [⟨x, hxs⟩])) = .on d (([] : List Fld) ++ [⟨pk x 1, x.extract 3 x.size⟩]) by rw [HE.out, stepS_on, if_neg hx0, if_neg hp, if_neg hg4, if_neg (fun q => hH q.2)])
          rw [show hasF ([] : List Fld) (pk x 1) = false by simpa using hH] at H35
          refine ⟨trivial, ?_⟩
          gi_at_call 35
          refine (CallsIn.inRound l (callsIn_wide.2 H35.out)).mono ?_
          rintro e2 w2 ⟨rfl, hb2⟩
          have hm0 := PP.m0
          have hm1 := PP.m1
          have z1 := (hb2.cell (p := ⟨Bx, 0, none⟩) bV.lt).trans hVx
          have z2 := (hb2.cell (p := ⟨go, hs'.length, none⟩) (World.block_lt_of_cell? V _ hVo)).trans hVo
          have z3 := (hb2.frozen (p := ⟨go, hs'.length, none⟩) (World.block_lt_of_cell? V _ hVo)).trans hFo
          have z4 : w2.ownsRow m 58 2 hl ([] : List Fld).length (cellsF ([] : List Fld)) := row_of PP.row fun q _ _ _ hc => hb2.block q (Array.getElem?_eq_some_iff.1 hc).1
          gi_wp2
          refine app18 (m := m) (by kernel_rfl) ?_ ?_ hx4 z1 z2 z3 z4 (by omega) (by have := hb2.size; omega) hno hnx hxo ?_
          · rintro ⟨_, _, q⟩
            exact q
          · exact fun _ _ _ q => q
          intro a2 u1 w3 r1 r2
          obtain ⟨o1, o2, o3, o4⟩ := PP.fin hb2 r1 r2
          gi_wp2
          exact ⟨o1, o2, ⟨_, _, HX.out, o3⟩, o4⟩

    · rw [show (!decide (cur = [])) = true by simp [hc]] at c3
      have b3t : Boxed W (h + 3) 4 (.bool true) := by rw [show (!decide (cur = [])) = true by simp [hc]] at b3; exact b3
      obtain ⟨go, cap, rfl⟩ := ownsRow_succ q4
      have hg0 : (0 : Int) ≤ (hs'.length : Int) := by omega
      have hg1 : (hs'.length : Int) < (hs'.length : Int) + 1 := by omega
      have hwr : IntKind.i64.wrap (hs'.length : Int) = (hs'.length : Int) := by have := q3.1; rw [IntKind.wrap_i64]; omega
      have hsn : hs'.length ≤ 1000001 := by have := q3.1; omega
      obtain ⟨V, hV⟩ : ∃ V, W.setCell ⟨h + 3, 0, none⟩ (.bool true) = V := ⟨_, rfl⟩
      have PP : P18 w W h (h + 7) V go cap m hs' hl d cur := by rw [← hV]; exact P18.old hB b0 b1 b2 b3t q1 q2 q3 q4 q5
      have bV : Boxed V Bx 9 (.string x) := by rw [← hV]; exact boxed_far bX (by simp; omega) _
      have hV0 := PP.b0.cell
      have hV1 := PP.b1.cell
      have hV2 := PP.b2.cell
      have hF0 := PP.b0.frozen
      have hF1 := PP.b1.frozen
      have hVx := bV.cell
      have hVo : V.cell? ⟨go, hs'.length, none⟩ = some hl := (PP.out.cellAt hs'.length (by omega)).trans (by simp)
      have hFo : V.frozen? ⟨go, hs'.length, none⟩ = false := PP.out.frozenAt hs'.length
      by_cases hA : pk x 1 = 65
      · have k3 : ((x[1].toNat : Int) != 65) = false := by rw [← e1, hA]; rfl
        have HX := Lib.hid (show foldP (vals (pre ++ [⟨x, hxs⟩])) = .on d (cur ++ [⟨pk x 1, x.extract 3 x.size⟩]) by rw [HE.out, stepS_on, if_neg hx0, if_neg hp, if_neg hg4, if_neg (by omega)])
        gi_wp2_with (first | (refine ⟨trivial, ?_⟩; gi_at_call 34; refine (CallsIn.inRound l (callsIn_wide.2 H34.out)).mono ?_; rintro e w' ⟨rfl, rfl⟩))
        refine ⟨trivial, ?_⟩
        gi_wp2
        have hno : some go ≠ hl.ownBlock := ((row_ne PP.out PP.row (by decide)).resolve_left (by simp [Value.ownBlock]))
        have hnx : some Bx ≠ hl.ownBlock := bV.not_row (by decide) PP.row
        have hxo : Bx ≠ go := fun e => (bV.not_row (by decide) PP.out) (by rw [e]; rfl)
        refine app18 (m := m) (by kernel_rfl) ?_ ?_ hx4 hVx hVo hFo PP.row (by omega) PP.m1 hno hnx hxo ?_
        · rintro ⟨_, _, q⟩
          exact q
        · exact fun _ _ _ q => q
        intro a2 u1 w2 r1 r2
        obtain ⟨o1, o2, o3, o4⟩ := PP.fin (Below.refl _ _) r1 r2
        gi_wp2
        exact ⟨o1, o2, ⟨_, _, HX.out, o3⟩, o4⟩

      · have k3 : ((x[1].toNat : Int) != 65) = true := by rw [← e1, bne_iff_ne]; omega
        gi_wp2_with (first | (refine ⟨trivial, ?_⟩; gi_at_call 34; refine (CallsIn.inRound l (callsIn_wide.2 H34.out)).mono ?_; rintro e w' ⟨rfl, rfl⟩))
        have hno : some go ≠ hl.ownBlock := ((row_ne PP.out PP.row (by decide)).resolve_left (by simp [Value.ownBlock]))
        have hnx : some Bx ≠ hl.ownBlock := bV.not_row (by decide) PP.row
        have hxo : Bx ≠ go := fun e => (bV.not_row (by decide) PP.out) (by rw [e]; rfl)
        obtain ⟨A, cp, hlf, hfl⟩ := row_flds PP.row
        have H35 := Lib.hid (contains35_calls A cp cur (by omega) x Bx (by omega) V hfl hVx)
        rw [← hlf] at H35
        by_cases hH : hasF cur (pk x 1) = true
        · have HX := Lib.hid (show foldP (vals (pre ++ [⟨x, hxs⟩])) = .bad 7 by rw [HE.out, stepS_on, if_neg hx0, if_neg hp, if_neg hg4, if_pos ⟨hA, hH⟩])
          rw [hH] at H35
          refine ⟨trivial, ?_⟩
          gi_at_call 35
          refine (CallsIn.inRound l (callsIn_wide.2 H35.out)).mono ?_
          rintro e2 w2 ⟨rfl, hb2⟩
          have hm0 := PP.m0
          have hm1 := PP.m1
          have j0 := (hb2.cell (p := ⟨h, 0, none⟩) (show h < V.heap.size by omega)).trans hV0
          have j1 := (hb2.cell (p := ⟨h + 1, 0, none⟩) (show h + 1 < V.heap.size by omega)).trans hV1
          have i0 := (hb2.frozen (p := ⟨h, 0, none⟩) (show h < V.heap.size by omega)).trans hF0
          have i1 := (hb2.frozen (p := ⟨h + 1, 0, none⟩) (show h + 1 < V.heap.size by omega)).trans hF1
          obtain ⟨o1, o2, o3, o4⟩ := PP.ret hb2 7
          gi_wp2
          exact ⟨o1, ⟨_, HX.out, o2, o3⟩, o4⟩
        · have HX := Lib.hid (show foldP (vals (pre ++ [⟨x, hxs⟩])) = .on d (cur ++ [⟨pk x 1, x.extract 3 x.size⟩]) by rw [HE.out, stepS_on, if_neg hx0, if_neg hp, if_neg hg4, if_neg (fun q => hH q.2)])
          rw [show hasF cur (pk x 1) = false by simpa using hH] at H35
          refine ⟨trivial, ?_⟩
          gi_at_call 35
          refine (CallsIn.inRound l (callsIn_wide.2 H35.out)).mono ?_
          rintro e2 w2 ⟨rfl, hb2⟩
          have hm0 := PP.m0
          have hm1 := PP.m1
          have z1 := (hb2.cell (p := ⟨Bx, 0, none⟩) bV.lt).trans hVx
          have z2 := (hb2.cell (p := ⟨go, hs'.length, none⟩) (World.block_lt_of_cell? V _ hVo)).trans hVo
          have z3 := (hb2.frozen (p := ⟨go, hs'.length, none⟩) (World.block_lt_of_cell? V _ hVo)).trans hFo
          have z4 : w2.ownsRow m 58 2 hl cur.length (cellsF cur) := row_of PP.row fun q _ _ _ hc => hb2.block q (Array.getElem?_eq_some_iff.1 hc).1
          gi_wp2
          refine app18 (m := m) (by kernel_rfl) ?_ ?_ hx4 z1 z2 z3 z4 (by omega) (by have := hb2.size; omega) hno hnx hxo ?_
          · rintro ⟨_, _, q⟩
            exact q
          · exact fun _ _ _ q => q
          intro a2 u1 w3 r1 r2
          obtain ⟨o1, o2, o3, o4⟩ := PP.fin hb2 r1 r2
          gi_wp2
          exact ⟨o1, o2, ⟨_, _, HX.out, o3⟩, o4⟩

  case done =>
    rintro D ys W hD hys ⟨⟨d, cur, e, hi⟩, hB⟩ hK
    obtain ⟨b0, b1, ⟨vo, b2, hS⟩, b3⟩ := hi
    obtain ⟨m, hs', q1, q2, q3, q4⟩ := hS.flush
    have q4 := (q4.resolve_right (fun q => q.1 rfl)).2
    obtain ⟨A, cp, rfl⟩ : ∃ A cp, vo = .slice A hs'.length cp := by
      rcases q4.2 with ⟨e, h0⟩ | ⟨g, cap, c, e, -⟩
      · exact ⟨none, 0, by rw [e, h0]⟩
      · exact ⟨_, cap, e⟩
    have HE := Lib.hid (show dataM s = finS (.on d cur) by unfold dataM; rw [← hys, ← e])
    have HL := Lib.hid q3.1
    have c0 := b0.cell
    have c1 := b1.cell
    have c2 := b2.cell
    have f0 := b0.frozen
    have f1 := b1.frozen
    have hDl : D < W.heap.size := (Array.getElem?_eq_some_iff.1 hK).1
    clear hys e
    by_cases h5 : 500 < hs'.length
    · have HD := Lib.hid (show dataM s = ([], 2) by rw [HE.out, finS, if_pos (by rw [← HL.out]; exact h5)])
      have k5 : (500 : Int) < hs'.length := by omega
      clear h5 q1 q2 q3 q4 hS
      gi_wp2
      have hK' := ((KeepsOthers.setCell W ⟨h, 0, none⟩ (.slice none 0 0)).trans (KeepsOthers.setCell _ ⟨h + 1, 0, none⟩ (.int .i64 2))).same D _ hK rfl
      refine ⟨by simp, .inl ⟨_, _, rfl, run_takeDeferred hK', ?_⟩⟩
      have p0 := cell_kept (boxed_far (b0.set (.slice none 0 0)) (by simp) (.int .i64 2) : Boxed ((W.setCell ⟨h, 0, none⟩ (.slice none 0 0)).setCell ⟨h + 1, 0, none⟩ (.int .i64 2)) h 27 (.slice none 0 0)).cell (grownBy_putObj' _ D (.deferred none)) (fun r e => by cases e; exact ⟨_, hK', rfl⟩)
      have p1 := cell_kept ((boxed_far b1 (by simp) (.slice none 0 0)).set (.int .i64 2) : Boxed ((W.setCell ⟨h, 0, none⟩ (.slice none 0 0)).setCell ⟨h + 1, 0, none⟩ (.int .i64 2)) (h + 1) 29 (.int .i64 2)).cell (grownBy_putObj' _ D (.deferred none)) (fun r e => by cases e; exact ⟨_, hK', rfl⟩)
      refine ⟨.tuple #[.slice none 0 0, .int .i64 2], ?_, ⟨.slice none 0 0, by rw [HD.out], by rw [HD.out]; exact ⟨h + 7, [], by omega, by simp [World.setCell]; omega, Rows.nil _ _ _ _, .inl ⟨rfl, World.ownsRow_nil _ _ _ _⟩⟩⟩, ?_⟩
      · simp [results, Tryd.f13, go_sem, p0, p1]
      · exact ((hB.setCell (p := ⟨h, 0, none⟩) (Nat.le_refl _) _).setCell (p := ⟨h + 1, 0, none⟩) (Nat.le_succ _) _).trans (belowK_b (w := w) (by omega) _ D _ _ (by omega) hK' rfl rfl)
    · have HD := Lib.hid (show dataM s = (flush d cur, 0) by rw [HE.out, finS, if_neg (by rw [← HL.out]; exact h5)])
      have k5 : ¬ (500 : Int) < hs'.length := by omega
      have hSF : Shape (h + 7) W (.slice A hs'.length cp) (flush d cur) [] := hS.flush
      clear h5 q1 q2 q3 q4 hS
      gi_wp2
      have hK' := ((KeepsOthers.setCell W ⟨h, 0, none⟩ (.slice A hs'.length cp)).trans (KeepsOthers.setCell _ ⟨h + 1, 0, none⟩ (.int .i64 0))).same D _ hK rfl
      refine ⟨by simp, .inl ⟨_, _, rfl, run_takeDeferred hK', ?_⟩⟩
      have p0 := cell_kept (boxed_far (b0.set (.slice A hs'.length cp)) (by simp) (.int .i64 0) : Boxed ((W.setCell ⟨h, 0, none⟩ (.slice A hs'.length cp)).setCell ⟨h + 1, 0, none⟩ (.int .i64 0)) h 27 (.slice A hs'.length cp)).cell (grownBy_putObj' _ D (.deferred none)) (fun r e => by cases e; exact ⟨_, hK', rfl⟩)
      have p1 := cell_kept ((boxed_far b1 (by simp) (.slice A hs'.length cp)).set (.int .i64 0) : Boxed ((W.setCell ⟨h, 0, none⟩ (.slice A hs'.length cp)).setCell ⟨h + 1, 0, none⟩ (.int .i64 0)) (h + 1) 29 (.int .i64 0)).cell (grownBy_putObj' _ D (.deferred none)) (fun r e => by cases e; exact ⟨_, hK', rfl⟩)
      refine ⟨.tuple #[.slice A hs'.length cp, .int .i64 0], ?_, ⟨.slice A hs'.length cp, by rw [HD.out], ?_⟩, ?_⟩
      · simp [results, Tryd.f13, go_sem, p0, p1]
      · rw [HD.out]
        exact (KC.of_own (n := 0) (grownBy_putObj' _ D (.deferred none)) (fun r e => by cases e; exact ⟨Nat.zero_le _, _, hK', rfl⟩)).shape ((hSF.low (p := ⟨h, 0, none⟩) (by simp) _).low (p := ⟨h + 1, 0, none⟩) (by simp) _)
      · exact ((hB.setCell (p := ⟨h, 0, none⟩) (Nat.le_refl _) _).setCell (p := ⟨h + 1, 0, none⟩) (Nat.le_succ _) _).trans (belowK_b (w := w) (by omega) _ D _ _ (by omega) hK' rfl rfl)
  case stop =>
    rintro D pre W hD ⟨k, hk, hpre⟩ ⟨⟨e, he, b0, b1⟩, hB⟩ hK
    have HD := Lib.hid (show dataM s = ([], e) by
      unfold dataM
      rw [← List.take_append_drop k (partsP s.data.toList []), ← hpre, List.foldl_append, show (vals pre).foldl stepS (.on [] []) = .bad e from he, foldl_bad]
      rfl)
    have hDl : D < W.heap.size := (Array.getElem?_eq_some_iff.1 hK).1
    clear hk hpre he
    gi_wp2
    refine ⟨by simp, .inl ⟨_, _, rfl, run_takeDeferred hK, ?_⟩⟩
    have p0 := cell_kept b0.cell (grownBy_putObj' _ D (.deferred none)) (fun r e => by cases e; exact ⟨_, hK, rfl⟩)
    have p1 := cell_kept b1.cell (grownBy_putObj' _ D (.deferred none)) (fun r e => by cases e; exact ⟨_, hK, rfl⟩)
    refine ⟨.tuple #[.slice none 0 0, .int .i64 e], ?_, ⟨.slice none 0 0, by rw [HD.out], by rw [HD.out]; exact ⟨h + 7, [], by omega, by simp; omega, Rows.nil _ _ _ _, .inl ⟨rfl, World.ownsRow_nil _ _ _ _⟩⟩⟩, ?_⟩
    · simp [results, Tryd.f13, go_sem, p0, p1]
    · rw [hh]
      exact hB.trans (belowK_b (w := w) (by omega) _ D _ _ (by omega) hK rfl rfl)
theorem data_calls (s : ByteArray) (hs : s.size ≤ 1000000) (w : World) :
    Calls Tryd.prog 13 #[.string s] w fun e W' => (∃ v, e = .returned (.tuple #[v, .int .i64 (dataM s).2]) ∧ Shape (w.heap.size + 7) W' v (dataM s).1 []) ∧ Below w.heap.size w W' :=
  callsIn_wide.1 (data_in 4 (Nat.le_refl _) s hs w)
end Go.Proofs.YtmoloaneidledaaDoor

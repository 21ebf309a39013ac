/- Merged: RefF5, RefG, RefH, RefI, Opens, WalkK, Kinds, WalkL, WalkM, KindsB, KindsC, RefJ, RowAid. -/
import Derived.Deep.RegionLaw
import Derived.Test.YtaokofnhkojllaaZS0
import Derived.Test.YtaokofnhkojllaaZS1
import Derived.Test.YtaokofnhkojllaaPIsLinex1
import Derived.Test.YtaokofnhkojllaaWWords
import Derived.Deep.Slices
import Derived.OpenShut
import Derived.RangeFuncNested
import Derived.RangeFuncBound
import Derived.RangeFuncCalls
import Derived.RangeFuncLeaves
import Derived.Shelf.Abstract
import Derived.Shelf.RegionOpen
import Derived.WalkKit
import Derived.OwnWalkIn
import Derived.TacticsInMore
import Derived.LoopNIn
import Derived.LoopIn
import Derived.Test.YtaokofnhkojllaaPEndsx1
import Derived.Test.YtaokofnhkojllaaPLeadx1
import Derived.Test.YtaokofnhkojllaaPasx1
import Derived.Test.YtaokofnhkojllaaPSamex2
import Derived.Test.YtaokofnhkojllaaPbitsx1
import Derived.Below
import Derived.ChangeSame
set_option linter.unusedVariables false
set_option linter.unusedSimpArgs false
namespace Go.Proofs.Ytaokofnhkojllaa
open Go.Shelf Go.RowKit Go.Lib Go.Aids Go.MapLit Go.Proofs.YtaokofnhkojllaaW.PrintWords
set_option maxRecDepth 100000 in
set_option maxHeartbeats 4000000 in
theorem re_q0s (w : World) (b base : Nat) (v : Value) (s : ByteArray) (a : Nat) (l : List Tok) (h : RR w b base v s a l false) (hs : s.size ≤ 1000000) (hl : l.length ≤ 900000) (ha : a < s.size) (t : Tok) (is : Bool) (hsim : simR (pk s a) = (t, is)) (fst : Bool) (hfst : decide (a = 1) = fst) (hyp : pk s a = 104) (t' : ByteArray) (a' : Nat) (hO : quotedM s (a + 1) = some (t', a')) :
    Calls Try.prog 30 #[.pointer (some ⟨b, 0, none⟩)] w (EscR b base s l w (namedE 12 (some (t', a')))) := by
  obtain ⟨c0, c1, c2, c3, f1, f2, f3, hb⟩ := h.cells
  have hge := h.ge
  have HH := Lib.hid h
  clear h
  have hk := pk_get s a ha
  have hi : (a : Int) < s.size := by omega
  have hw : IntKind.i64.wrap ((a : Int) + 1) = (a : Int) + 1 := IntWalk.i64_in _ (by omega)
  have e1 : ((a : Int) == 1) = fst := by rw [← hfst]; by_cases q : a = 1 <;> simp [q]; omega
  have e1' : (a == 1) = fst := by rw [← hfst]; by_cases q : a = 1 <;> simp [q]
  rw [hk] at hsim
  have HS := Lib.hid (fun W => rsimple_calls _ W t is hsim)
  have Go1 : Hid (∀ (n : Nat), RR ((w.drewN n).setCell ⟨b, 1, none⟩ (.int .i64 ((a : Int) + 1))) b base v s (a + 1) l false) := Lib.hid fun n => (HH.out.drewN n).set1 _ (by omega)
  have Bel1 : Hid (∀ (n : Nat), Below base w ((w.drewN n).setCell ⟨b, 1, none⟩ (.int .i64 ((a : Int) + 1)))) := Lib.hid fun n => below_st (below_dr (Below.refl _ _)) hge
  have q104 : (((((⟨#[104, 118, 120, 108, 68, 111]⟩ : ByteArray)[0]'(by decide)).toNat : Nat) : Int) == (s[a].toNat : Int)) = true := by show ((104 : Int) == (s[a].toNat : Int)) = true; rw [beq_iff_eq]; omega
  have HO := Lib.hid hO
  clear hO
  clear hk hsim hfst hyp
  go_enter Try.func30, Try.ntmps30
  go_wp2
  go_quiet (fail)
  go_wp2_with (go_at_call 42; refine Calls.mono (HS.out _) ?_; rintro e w2 ⟨rfl, b2⟩; have h2 := (Go1.out _).below b2; have B2 := (Bel1.out _).trans (b2.mono (Go1.out _).top); clear b2 c0 c1 c2 c3 f1 f2 f3 hb; obtain ⟨c0, c1, c2, c3, f1, f2, f3, hb⟩ := h2.cells; have H2 := Lib.hid h2; have HB2 := Lib.hid B2; clear h2 B2)
  obtain ⟨g, hg⟩ : ∃ g, w2.heap.size = g := ⟨_, rfl⟩
  obtain ⟨W3, hW3⟩ : ∃ W, ((w2.alloc (.cells #[.int .i64 t.kind, .string t.text, .int .i64 t.n] 55)).alloc (.cells #[.int .i64 12, .int .i64 13, .int .i64 14, .int .i64 15, .int .i64 16, .int .i64 17] 3)) = W := ⟨_, rfl⟩
  have b3 : Below w2.heap.size w2 W3 := by rw [← hW3]; exact ((Below.refl _ _).alloc (Nat.le_refl _) _).alloc (by simp) _
  have H3 := Lib.hid (H2.out.below b3)
  have HB3 := Lib.hid (HB2.out.trans (b3.mono H2.out.top))
  have gb : g + 1 ≠ b := by have := H2.out.cells.2.2.2.2.2.2.2; omega
  have gne : some g ≠ v.ownBlock := fun e => by have := own_lt H2.out.own g e.symm; omega
  have kb : W3.heap[g]? = some (.cells #[.int .i64 t.kind, .string t.text, .int .i64 t.n] 55) := by rw [← hW3, ← hg]; exact (two_blk _ _ _).1
  have k0 : W3.cell? ⟨g, 0, none⟩ = some (.int .i64 t.kind) := by simp [World.cell?, kb]
  have k1 : W3.cell? ⟨g, 1, none⟩ = some (.string t.text) := by simp [World.cell?, kb]
  have k2 : W3.cell? ⟨g, 2, none⟩ = some (.int .i64 t.n) := by simp [World.cell?, kb]
  have zb : W3.heap[g + 1]? = some (.cells #[.int .i64 12, .int .i64 13, .int .i64 14, .int .i64 15, .int .i64 16, .int .i64 17] 3) := by rw [← hW3, ← hg]; exact (two_blk _ _ _).2
  have z0 : W3.cell? ⟨g + 1, 0, none⟩ = some (.int .i64 12) := by simp [World.cell?, zb]
  have z1 : W3.cell? ⟨g + 1, 1, none⟩ = some (.int .i64 13) := by simp [World.cell?, zb]
  have z2 : W3.cell? ⟨g + 1, 2, none⟩ = some (.int .i64 14) := by simp [World.cell?, zb]
  have z3 : W3.cell? ⟨g + 1, 3, none⟩ = some (.int .i64 15) := by simp [World.cell?, zb]
  have z4 : W3.cell? ⟨g + 1, 4, none⟩ = some (.int .i64 16) := by simp [World.cell?, zb]
  have z5 : W3.cell? ⟨g + 1, 5, none⟩ = some (.int .i64 17) := by simp [World.cell?, zb]
  have gl : g + 1 < W3.heap.size := by rw [← hW3, ← hg]; simp
  clear c0 c1 c2 c3 f1 f2 f3 hb
  rw [hW3, hg]
  clear hW3 hg H2 HB2 b3
  obtain ⟨c0, c1, c2, c3, f1, f2, f3, hb⟩ := H3.out.cells
  have HC := fun n => rquoted2_calls (W3.drewN n) b base v s (a + 1) l (H3.out.drewN n) hs (by omega)
  rw [HO.out] at HC
  have HHC := Lib.hid HC
  clear HC HO
  go_loopw [8] (fun i wr => wr = W3 ∧ (i = .int .i64 0)) (fun i _ => 7 - (RowKit.intOf i).toNat)
  case atStart => exact ⟨rfl, rfl⟩
  case round =>
    rcases hrel with ⟨rfl, rfl⟩
    · go_wp2
      go_region_with (first | (go_at_call 43; refine Calls.mono (HHC.out _) ?_; rintro e w5 ⟨⟨rfl, ⟨v5, h5⟩, b5⟩, kp⟩; have hz5 := (kp (g + 1) gb).trans zb; have zz : w5.cell? ⟨g + 1, 0, none⟩ = some (.int .i64 12) := (by simp [World.cell?, hz5]); have HB5 := Lib.hid ((below_dr HB3.out).trans b5); clear b5 kp) | (go_at_call 31; refine Calls.mono (put_calls _ b base v5 s a' l false 12 _ 0 h5 (by omega)) ?_; rintro e w6 ⟨rfl, ⟨v6, h6⟩, b6⟩; have H6 := Lib.hid h6; have HB6 := Lib.hid b6; clear h6 b6))
      all_goals
        go_wp2
        go_end0
        exact ⟨rfl, ⟨v6, H6.out⟩, HB5.out.trans HB6.out⟩

set_option maxRecDepth 100000 in
set_option maxHeartbeats 4000000 in
theorem re_q1s (w : World) (b base : Nat) (v : Value) (s : ByteArray) (a : Nat) (l : List Tok) (h : RR w b base v s a l false) (hs : s.size ≤ 1000000) (hl : l.length ≤ 900000) (ha : a < s.size) (t : Tok) (is : Bool) (hsim : simR (pk s a) = (t, is)) (fst : Bool) (hfst : decide (a = 1) = fst) (hyp : pk s a = 118) (t' : ByteArray) (a' : Nat) (hO : quotedM s (a + 1) = some (t', a')) :
    Calls Try.prog 30 #[.pointer (some ⟨b, 0, none⟩)] w (EscR b base s l w (namedE 13 (some (t', a')))) := by
  obtain ⟨c0, c1, c2, c3, f1, f2, f3, hb⟩ := h.cells
  have hge := h.ge
  have HH := Lib.hid h
  clear h
  have hk := pk_get s a ha
  have hi : (a : Int) < s.size := by omega
  have hw : IntKind.i64.wrap ((a : Int) + 1) = (a : Int) + 1 := IntWalk.i64_in _ (by omega)
  have e1 : ((a : Int) == 1) = fst := by rw [← hfst]; by_cases q : a = 1 <;> simp [q]; omega
  have e1' : (a == 1) = fst := by rw [← hfst]; by_cases q : a = 1 <;> simp [q]
  rw [hk] at hsim
  have HS := Lib.hid (fun W => rsimple_calls _ W t is hsim)
  have Go1 : Hid (∀ (n : Nat), RR ((w.drewN n).setCell ⟨b, 1, none⟩ (.int .i64 ((a : Int) + 1))) b base v s (a + 1) l false) := Lib.hid fun n => (HH.out.drewN n).set1 _ (by omega)
  have Bel1 : Hid (∀ (n : Nat), Below base w ((w.drewN n).setCell ⟨b, 1, none⟩ (.int .i64 ((a : Int) + 1)))) := Lib.hid fun n => below_st (below_dr (Below.refl _ _)) hge
  have q104 : (((((⟨#[104, 118, 120, 108, 68, 111]⟩ : ByteArray)[0]'(by decide)).toNat : Nat) : Int) == (s[a].toNat : Int)) = false := by show ((104 : Int) == (s[a].toNat : Int)) = false; rw [beq_eq_false_iff_ne]; omega
  have q118 : (((((⟨#[104, 118, 120, 108, 68, 111]⟩ : ByteArray)[1]'(by decide)).toNat : Nat) : Int) == (s[a].toNat : Int)) = true := by show ((118 : Int) == (s[a].toNat : Int)) = true; rw [beq_iff_eq]; omega
  have HO := Lib.hid hO
  clear hO
  clear hk hsim hfst hyp
  go_enter Try.func30, Try.ntmps30
  go_wp2
  go_quiet (fail)
  go_wp2_with (go_at_call 42; refine Calls.mono (HS.out _) ?_; rintro e w2 ⟨rfl, b2⟩; have h2 := (Go1.out _).below b2; have B2 := (Bel1.out _).trans (b2.mono (Go1.out _).top); clear b2 c0 c1 c2 c3 f1 f2 f3 hb; obtain ⟨c0, c1, c2, c3, f1, f2, f3, hb⟩ := h2.cells; have H2 := Lib.hid h2; have HB2 := Lib.hid B2; clear h2 B2)
  obtain ⟨g, hg⟩ : ∃ g, w2.heap.size = g := ⟨_, rfl⟩
  obtain ⟨W3, hW3⟩ : ∃ W, ((w2.alloc (.cells #[.int .i64 t.kind, .string t.text, .int .i64 t.n] 55)).alloc (.cells #[.int .i64 12, .int .i64 13, .int .i64 14, .int .i64 15, .int .i64 16, .int .i64 17] 3)) = W := ⟨_, rfl⟩
  have b3 : Below w2.heap.size w2 W3 := by rw [← hW3]; exact ((Below.refl _ _).alloc (Nat.le_refl _) _).alloc (by simp) _
  have H3 := Lib.hid (H2.out.below b3)
  have HB3 := Lib.hid (HB2.out.trans (b3.mono H2.out.top))
  have gb : g + 1 ≠ b := by have := H2.out.cells.2.2.2.2.2.2.2; omega
  have gne : some g ≠ v.ownBlock := fun e => by have := own_lt H2.out.own g e.symm; omega
  have kb : W3.heap[g]? = some (.cells #[.int .i64 t.kind, .string t.text, .int .i64 t.n] 55) := by rw [← hW3, ← hg]; exact (two_blk _ _ _).1
  have k0 : W3.cell? ⟨g, 0, none⟩ = some (.int .i64 t.kind) := by simp [World.cell?, kb]
  have k1 : W3.cell? ⟨g, 1, none⟩ = some (.string t.text) := by simp [World.cell?, kb]
  have k2 : W3.cell? ⟨g, 2, none⟩ = some (.int .i64 t.n) := by simp [World.cell?, kb]
  have zb : W3.heap[g + 1]? = some (.cells #[.int .i64 12, .int .i64 13, .int .i64 14, .int .i64 15, .int .i64 16, .int .i64 17] 3) := by rw [← hW3, ← hg]; exact (two_blk _ _ _).2
  have z0 : W3.cell? ⟨g + 1, 0, none⟩ = some (.int .i64 12) := by simp [World.cell?, zb]
  have z1 : W3.cell? ⟨g + 1, 1, none⟩ = some (.int .i64 13) := by simp [World.cell?, zb]
  have z2 : W3.cell? ⟨g + 1, 2, none⟩ = some (.int .i64 14) := by simp [World.cell?, zb]
  have z3 : W3.cell? ⟨g + 1, 3, none⟩ = some (.int .i64 15) := by simp [World.cell?, zb]
  have z4 : W3.cell? ⟨g + 1, 4, none⟩ = some (.int .i64 16) := by simp [World.cell?, zb]
  have z5 : W3.cell? ⟨g + 1, 5, none⟩ = some (.int .i64 17) := by simp [World.cell?, zb]
  have gl : g + 1 < W3.heap.size := by rw [← hW3, ← hg]; simp
  clear c0 c1 c2 c3 f1 f2 f3 hb
  rw [hW3, hg]
  clear hW3 hg H2 HB2 b3
  obtain ⟨c0, c1, c2, c3, f1, f2, f3, hb⟩ := H3.out.cells
  have HC := fun n => rquoted2_calls (W3.drewN n) b base v s (a + 1) l (H3.out.drewN n) hs (by omega)
  rw [HO.out] at HC
  have HHC := Lib.hid HC
  clear HC HO
  go_loopw [8] (fun i wr => wr = W3 ∧ (i = .int .i64 0 ∨ i = .int .i64 1)) (fun i _ => 7 - (RowKit.intOf i).toNat)
  case atStart => exact ⟨rfl, .inl rfl⟩
  case round =>
    rcases hrel with ⟨rfl, rfl | rfl⟩
    · go_wp2
      go_roundw
      case rel => simp
      case measure => simp [RowKit.intOf]
    · go_wp2
      go_region_with (first | (go_at_call 43; refine Calls.mono (HHC.out _) ?_; rintro e w5 ⟨⟨rfl, ⟨v5, h5⟩, b5⟩, kp⟩; have hz5 := (kp (g + 1) gb).trans zb; have zz : w5.cell? ⟨g + 1, 1, none⟩ = some (.int .i64 13) := (by simp [World.cell?, hz5]); have HB5 := Lib.hid ((below_dr HB3.out).trans b5); clear b5 kp) | (go_at_call 31; refine Calls.mono (put_calls _ b base v5 s a' l false 13 _ 0 h5 (by omega)) ?_; rintro e w6 ⟨rfl, ⟨v6, h6⟩, b6⟩; have H6 := Lib.hid h6; have HB6 := Lib.hid b6; clear h6 b6))
      all_goals
        go_wp2
        go_end0
        exact ⟨rfl, ⟨v6, H6.out⟩, HB5.out.trans HB6.out⟩

set_option maxRecDepth 100000 in
set_option maxHeartbeats 4000000 in
theorem re_q2s (w : World) (b base : Nat) (v : Value) (s : ByteArray) (a : Nat) (l : List Tok) (h : RR w b base v s a l false) (hs : s.size ≤ 1000000) (hl : l.length ≤ 900000) (ha : a < s.size) (t : Tok) (is : Bool) (hsim : simR (pk s a) = (t, is)) (fst : Bool) (hfst : decide (a = 1) = fst) (hyp : pk s a = 120) (t' : ByteArray) (a' : Nat) (hO : quotedM s (a + 1) = some (t', a')) :
    Calls Try.prog 30 #[.pointer (some ⟨b, 0, none⟩)] w (EscR b base s l w (namedE 14 (some (t', a')))) := by
  obtain ⟨c0, c1, c2, c3, f1, f2, f3, hb⟩ := h.cells
  have hge := h.ge
  have HH := Lib.hid h
  clear h
  have hk := pk_get s a ha
  have hi : (a : Int) < s.size := by omega
  have hw : IntKind.i64.wrap ((a : Int) + 1) = (a : Int) + 1 := IntWalk.i64_in _ (by omega)
  have e1 : ((a : Int) == 1) = fst := by rw [← hfst]; by_cases q : a = 1 <;> simp [q]; omega
  have e1' : (a == 1) = fst := by rw [← hfst]; by_cases q : a = 1 <;> simp [q]
  rw [hk] at hsim
  have HS := Lib.hid (fun W => rsimple_calls _ W t is hsim)
  have Go1 : Hid (∀ (n : Nat), RR ((w.drewN n).setCell ⟨b, 1, none⟩ (.int .i64 ((a : Int) + 1))) b base v s (a + 1) l false) := Lib.hid fun n => (HH.out.drewN n).set1 _ (by omega)
  have Bel1 : Hid (∀ (n : Nat), Below base w ((w.drewN n).setCell ⟨b, 1, none⟩ (.int .i64 ((a : Int) + 1)))) := Lib.hid fun n => below_st (below_dr (Below.refl _ _)) hge
  have q104 : (((((⟨#[104, 118, 120, 108, 68, 111]⟩ : ByteArray)[0]'(by decide)).toNat : Nat) : Int) == (s[a].toNat : Int)) = false := by show ((104 : Int) == (s[a].toNat : Int)) = false; rw [beq_eq_false_iff_ne]; omega
  have q118 : (((((⟨#[104, 118, 120, 108, 68, 111]⟩ : ByteArray)[1]'(by decide)).toNat : Nat) : Int) == (s[a].toNat : Int)) = false := by show ((118 : Int) == (s[a].toNat : Int)) = false; rw [beq_eq_false_iff_ne]; omega
  have q120 : (((((⟨#[104, 118, 120, 108, 68, 111]⟩ : ByteArray)[2]'(by decide)).toNat : Nat) : Int) == (s[a].toNat : Int)) = true := by show ((120 : Int) == (s[a].toNat : Int)) = true; rw [beq_iff_eq]; omega
  have HO := Lib.hid hO
  clear hO
  clear hk hsim hfst hyp
  go_enter Try.func30, Try.ntmps30
  go_wp2
  go_quiet (fail)
  go_wp2_with (go_at_call 42; refine Calls.mono (HS.out _) ?_; rintro e w2 ⟨rfl, b2⟩; have h2 := (Go1.out _).below b2; have B2 := (Bel1.out _).trans (b2.mono (Go1.out _).top); clear b2 c0 c1 c2 c3 f1 f2 f3 hb; obtain ⟨c0, c1, c2, c3, f1, f2, f3, hb⟩ := h2.cells; have H2 := Lib.hid h2; have HB2 := Lib.hid B2; clear h2 B2)
  obtain ⟨g, hg⟩ : ∃ g, w2.heap.size = g := ⟨_, rfl⟩
  obtain ⟨W3, hW3⟩ : ∃ W, ((w2.alloc (.cells #[.int .i64 t.kind, .string t.text, .int .i64 t.n] 55)).alloc (.cells #[.int .i64 12, .int .i64 13, .int .i64 14, .int .i64 15, .int .i64 16, .int .i64 17] 3)) = W := ⟨_, rfl⟩
  have b3 : Below w2.heap.size w2 W3 := by rw [← hW3]; exact ((Below.refl _ _).alloc (Nat.le_refl _) _).alloc (by simp) _
  have H3 := Lib.hid (H2.out.below b3)
  have HB3 := Lib.hid (HB2.out.trans (b3.mono H2.out.top))
  have gb : g + 1 ≠ b := by have := H2.out.cells.2.2.2.2.2.2.2; omega
  have gne : some g ≠ v.ownBlock := fun e => by have := own_lt H2.out.own g e.symm; omega
  have kb : W3.heap[g]? = some (.cells #[.int .i64 t.kind, .string t.text, .int .i64 t.n] 55) := by rw [← hW3, ← hg]; exact (two_blk _ _ _).1
  have k0 : W3.cell? ⟨g, 0, none⟩ = some (.int .i64 t.kind) := by simp [World.cell?, kb]
  have k1 : W3.cell? ⟨g, 1, none⟩ = some (.string t.text) := by simp [World.cell?, kb]
  have k2 : W3.cell? ⟨g, 2, none⟩ = some (.int .i64 t.n) := by simp [World.cell?, kb]
  have zb : W3.heap[g + 1]? = some (.cells #[.int .i64 12, .int .i64 13, .int .i64 14, .int .i64 15, .int .i64 16, .int .i64 17] 3) := by rw [← hW3, ← hg]; exact (two_blk _ _ _).2
  have z0 : W3.cell? ⟨g + 1, 0, none⟩ = some (.int .i64 12) := by simp [World.cell?, zb]
  have z1 : W3.cell? ⟨g + 1, 1, none⟩ = some (.int .i64 13) := by simp [World.cell?, zb]
  have z2 : W3.cell? ⟨g + 1, 2, none⟩ = some (.int .i64 14) := by simp [World.cell?, zb]
  have z3 : W3.cell? ⟨g + 1, 3, none⟩ = some (.int .i64 15) := by simp [World.cell?, zb]
  have z4 : W3.cell? ⟨g + 1, 4, none⟩ = some (.int .i64 16) := by simp [World.cell?, zb]
  have z5 : W3.cell? ⟨g + 1, 5, none⟩ = some (.int .i64 17) := by simp [World.cell?, zb]
  have gl : g + 1 < W3.heap.size := by rw [← hW3, ← hg]; simp
  clear c0 c1 c2 c3 f1 f2 f3 hb
  rw [hW3, hg]
  clear hW3 hg H2 HB2 b3
  obtain ⟨c0, c1, c2, c3, f1, f2, f3, hb⟩ := H3.out.cells
  have HC := fun n => rquoted2_calls (W3.drewN n) b base v s (a + 1) l (H3.out.drewN n) hs (by omega)
  rw [HO.out] at HC
  have HHC := Lib.hid HC
  clear HC HO
  go_loopw [8] (fun i wr => wr = W3 ∧ (i = .int .i64 0 ∨ i = .int .i64 1 ∨ i = .int .i64 2)) (fun i _ => 7 - (RowKit.intOf i).toNat)
  case atStart => exact ⟨rfl, .inl rfl⟩
  case round =>
    rcases hrel with ⟨rfl, rfl | rfl | rfl⟩
    · go_wp2
      go_roundw
      case rel => simp
      case measure => simp [RowKit.intOf]
    · go_wp2
      go_roundw
      case rel => simp
      case measure => simp [RowKit.intOf]
    · go_wp2
      go_region_with (first | (go_at_call 43; refine Calls.mono (HHC.out _) ?_; rintro e w5 ⟨⟨rfl, ⟨v5, h5⟩, b5⟩, kp⟩; have hz5 := (kp (g + 1) gb).trans zb; have zz : w5.cell? ⟨g + 1, 2, none⟩ = some (.int .i64 14) := (by simp [World.cell?, hz5]); have HB5 := Lib.hid ((below_dr HB3.out).trans b5); clear b5 kp) | (go_at_call 31; refine Calls.mono (put_calls _ b base v5 s a' l false 14 _ 0 h5 (by omega)) ?_; rintro e w6 ⟨rfl, ⟨v6, h6⟩, b6⟩; have H6 := Lib.hid h6; have HB6 := Lib.hid b6; clear h6 b6))
      all_goals
        go_wp2
        go_end0
        exact ⟨rfl, ⟨v6, H6.out⟩, HB5.out.trans HB6.out⟩

set_option maxRecDepth 100000 in
set_option maxHeartbeats 4000000 in
theorem re_q3s (w : World) (b base : Nat) (v : Value) (s : ByteArray) (a : Nat) (l : List Tok) (h : RR w b base v s a l false) (hs : s.size ≤ 1000000) (hl : l.length ≤ 900000) (ha : a < s.size) (t : Tok) (is : Bool) (hsim : simR (pk s a) = (t, is)) (fst : Bool) (hfst : decide (a = 1) = fst) (hyp : pk s a = 108) (t' : ByteArray) (a' : Nat) (hO : quotedM s (a + 1) = some (t', a')) :
    Calls Try.prog 30 #[.pointer (some ⟨b, 0, none⟩)] w (EscR b base s l w (namedE 15 (some (t', a')))) := by
  obtain ⟨c0, c1, c2, c3, f1, f2, f3, hb⟩ := h.cells
  have hge := h.ge
  have HH := Lib.hid h
  clear h
  have hk := pk_get s a ha
  have hi : (a : Int) < s.size := by omega
  have hw : IntKind.i64.wrap ((a : Int) + 1) = (a : Int) + 1 := IntWalk.i64_in _ (by omega)
  have e1 : ((a : Int) == 1) = fst := by rw [← hfst]; by_cases q : a = 1 <;> simp [q]; omega
  have e1' : (a == 1) = fst := by rw [← hfst]; by_cases q : a = 1 <;> simp [q]
  rw [hk] at hsim
  have HS := Lib.hid (fun W => rsimple_calls _ W t is hsim)
  have Go1 : Hid (∀ (n : Nat), RR ((w.drewN n).setCell ⟨b, 1, none⟩ (.int .i64 ((a : Int) + 1))) b base v s (a + 1) l false) := Lib.hid fun n => (HH.out.drewN n).set1 _ (by omega)
  have Bel1 : Hid (∀ (n : Nat), Below base w ((w.drewN n).setCell ⟨b, 1, none⟩ (.int .i64 ((a : Int) + 1)))) := Lib.hid fun n => below_st (below_dr (Below.refl _ _)) hge
  have q104 : (((((⟨#[104, 118, 120, 108, 68, 111]⟩ : ByteArray)[0]'(by decide)).toNat : Nat) : Int) == (s[a].toNat : Int)) = false := by show ((104 : Int) == (s[a].toNat : Int)) = false; rw [beq_eq_false_iff_ne]; omega
  have q118 : (((((⟨#[104, 118, 120, 108, 68, 111]⟩ : ByteArray)[1]'(by decide)).toNat : Nat) : Int) == (s[a].toNat : Int)) = false := by show ((118 : Int) == (s[a].toNat : Int)) = false; rw [beq_eq_false_iff_ne]; omega
  have q120 : (((((⟨#[104, 118, 120, 108, 68, 111]⟩ : ByteArray)[2]'(by decide)).toNat : Nat) : Int) == (s[a].toNat : Int)) = false := by show ((120 : Int) == (s[a].toNat : Int)) = false; rw [beq_eq_false_iff_ne]; omega
  have q108 : (((((⟨#[104, 118, 120, 108, 68, 111]⟩ : ByteArray)[3]'(by decide)).toNat : Nat) : Int) == (s[a].toNat : Int)) = true := by show ((108 : Int) == (s[a].toNat : Int)) = true; rw [beq_iff_eq]; omega
  have HO := Lib.hid hO
  clear hO
  clear hk hsim hfst hyp
  go_enter Try.func30, Try.ntmps30
  go_wp2
  go_quiet (fail)
  go_wp2_with (go_at_call 42; refine Calls.mono (HS.out _) ?_; rintro e w2 ⟨rfl, b2⟩; have h2 := (Go1.out _).below b2; have B2 := (Bel1.out _).trans (b2.mono (Go1.out _).top); clear b2 c0 c1 c2 c3 f1 f2 f3 hb; obtain ⟨c0, c1, c2, c3, f1, f2, f3, hb⟩ := h2.cells; have H2 := Lib.hid h2; have HB2 := Lib.hid B2; clear h2 B2)
  obtain ⟨g, hg⟩ : ∃ g, w2.heap.size = g := ⟨_, rfl⟩
  obtain ⟨W3, hW3⟩ : ∃ W, ((w2.alloc (.cells #[.int .i64 t.kind, .string t.text, .int .i64 t.n] 55)).alloc (.cells #[.int .i64 12, .int .i64 13, .int .i64 14, .int .i64 15, .int .i64 16, .int .i64 17] 3)) = W := ⟨_, rfl⟩
  have b3 : Below w2.heap.size w2 W3 := by rw [← hW3]; exact ((Below.refl _ _).alloc (Nat.le_refl _) _).alloc (by simp) _
  have H3 := Lib.hid (H2.out.below b3)
  have HB3 := Lib.hid (HB2.out.trans (b3.mono H2.out.top))
  have gb : g + 1 ≠ b := by have := H2.out.cells.2.2.2.2.2.2.2; omega
  have gne : some g ≠ v.ownBlock := fun e => by have := own_lt H2.out.own g e.symm; omega
  have kb : W3.heap[g]? = some (.cells #[.int .i64 t.kind, .string t.text, .int .i64 t.n] 55) := by rw [← hW3, ← hg]; exact (two_blk _ _ _).1
  have k0 : W3.cell? ⟨g, 0, none⟩ = some (.int .i64 t.kind) := by simp [World.cell?, kb]
  have k1 : W3.cell? ⟨g, 1, none⟩ = some (.string t.text) := by simp [World.cell?, kb]
  have k2 : W3.cell? ⟨g, 2, none⟩ = some (.int .i64 t.n) := by simp [World.cell?, kb]
  have zb : W3.heap[g + 1]? = some (.cells #[.int .i64 12, .int .i64 13, .int .i64 14, .int .i64 15, .int .i64 16, .int .i64 17] 3) := by rw [← hW3, ← hg]; exact (two_blk _ _ _).2
  have z0 : W3.cell? ⟨g + 1, 0, none⟩ = some (.int .i64 12) := by simp [World.cell?, zb]
  have z1 : W3.cell? ⟨g + 1, 1, none⟩ = some (.int .i64 13) := by simp [World.cell?, zb]
  have z2 : W3.cell? ⟨g + 1, 2, none⟩ = some (.int .i64 14) := by simp [World.cell?, zb]
  have z3 : W3.cell? ⟨g + 1, 3, none⟩ = some (.int .i64 15) := by simp [World.cell?, zb]
  have z4 : W3.cell? ⟨g + 1, 4, none⟩ = some (.int .i64 16) := by simp [World.cell?, zb]
  have z5 : W3.cell? ⟨g + 1, 5, none⟩ = some (.int .i64 17) := by simp [World.cell?, zb]
  have gl : g + 1 < W3.heap.size := by rw [← hW3, ← hg]; simp
  clear c0 c1 c2 c3 f1 f2 f3 hb
  rw [hW3, hg]
  clear hW3 hg H2 HB2 b3
  obtain ⟨c0, c1, c2, c3, f1, f2, f3, hb⟩ := H3.out.cells
  have HC := fun n => rquoted2_calls (W3.drewN n) b base v s (a + 1) l (H3.out.drewN n) hs (by omega)
  rw [HO.out] at HC
  have HHC := Lib.hid HC
  clear HC HO
  go_loopw [8] (fun i wr => wr = W3 ∧ (i = .int .i64 0 ∨ i = .int .i64 1 ∨ i = .int .i64 2 ∨ i = .int .i64 3)) (fun i _ => 7 - (RowKit.intOf i).toNat)
  case atStart => exact ⟨rfl, .inl rfl⟩
  case round =>
    rcases hrel with ⟨rfl, rfl | rfl | rfl | rfl⟩
    · go_wp2
      go_roundw
      case rel => simp
      case measure => simp [RowKit.intOf]
    · go_wp2
      go_roundw
      case rel => simp
      case measure => simp [RowKit.intOf]
    · go_wp2
      go_roundw
      case rel => simp
      case measure => simp [RowKit.intOf]
    · go_wp2
      go_region_with (first | (go_at_call 43; refine Calls.mono (HHC.out _) ?_; rintro e w5 ⟨⟨rfl, ⟨v5, h5⟩, b5⟩, kp⟩; have hz5 := (kp (g + 1) gb).trans zb; have zz : w5.cell? ⟨g + 1, 3, none⟩ = some (.int .i64 15) := (by simp [World.cell?, hz5]); have HB5 := Lib.hid ((below_dr HB3.out).trans b5); clear b5 kp) | (go_at_call 31; refine Calls.mono (put_calls _ b base v5 s a' l false 15 _ 0 h5 (by omega)) ?_; rintro e w6 ⟨rfl, ⟨v6, h6⟩, b6⟩; have H6 := Lib.hid h6; have HB6 := Lib.hid b6; clear h6 b6))
      all_goals
        go_wp2
        go_end0
        exact ⟨rfl, ⟨v6, H6.out⟩, HB5.out.trans HB6.out⟩

set_option maxRecDepth 100000 in
set_option maxHeartbeats 4000000 in
theorem re_q4s (w : World) (b base : Nat) (v : Value) (s : ByteArray) (a : Nat) (l : List Tok) (h : RR w b base v s a l false) (hs : s.size ≤ 1000000) (hl : l.length ≤ 900000) (ha : a < s.size) (t : Tok) (is : Bool) (hsim : simR (pk s a) = (t, is)) (fst : Bool) (hfst : decide (a = 1) = fst) (hyp : pk s a = 68) (t' : ByteArray) (a' : Nat) (hO : quotedM s (a + 1) = some (t', a')) :
    Calls Try.prog 30 #[.pointer (some ⟨b, 0, none⟩)] w (EscR b base s l w (namedE 16 (some (t', a')))) := by
  obtain ⟨c0, c1, c2, c3, f1, f2, f3, hb⟩ := h.cells
  have hge := h.ge
  have HH := Lib.hid h
  clear h
  have hk := pk_get s a ha
  have hi : (a : Int) < s.size := by omega
  have hw : IntKind.i64.wrap ((a : Int) + 1) = (a : Int) + 1 := IntWalk.i64_in _ (by omega)
  have e1 : ((a : Int) == 1) = fst := by rw [← hfst]; by_cases q : a = 1 <;> simp [q]; omega
  have e1' : (a == 1) = fst := by rw [← hfst]; by_cases q : a = 1 <;> simp [q]
  rw [hk] at hsim
  have HS := Lib.hid (fun W => rsimple_calls _ W t is hsim)
  have Go1 : Hid (∀ (n : Nat), RR ((w.drewN n).setCell ⟨b, 1, none⟩ (.int .i64 ((a : Int) + 1))) b base v s (a + 1) l false) := Lib.hid fun n => (HH.out.drewN n).set1 _ (by omega)
  have Bel1 : Hid (∀ (n : Nat), Below base w ((w.drewN n).setCell ⟨b, 1, none⟩ (.int .i64 ((a : Int) + 1)))) := Lib.hid fun n => below_st (below_dr (Below.refl _ _)) hge
  have q104 : (((((⟨#[104, 118, 120, 108, 68, 111]⟩ : ByteArray)[0]'(by decide)).toNat : Nat) : Int) == (s[a].toNat : Int)) = false := by show ((104 : Int) == (s[a].toNat : Int)) = false; rw [beq_eq_false_iff_ne]; omega
  have q118 : (((((⟨#[104, 118, 120, 108, 68, 111]⟩ : ByteArray)[1]'(by decide)).toNat : Nat) : Int) == (s[a].toNat : Int)) = false := by show ((118 : Int) == (s[a].toNat : Int)) = false; rw [beq_eq_false_iff_ne]; omega
  have q120 : (((((⟨#[104, 118, 120, 108, 68, 111]⟩ : ByteArray)[2]'(by decide)).toNat : Nat) : Int) == (s[a].toNat : Int)) = false := by show ((120 : Int) == (s[a].toNat : Int)) = false; rw [beq_eq_false_iff_ne]; omega
  have q108 : (((((⟨#[104, 118, 120, 108, 68, 111]⟩ : ByteArray)[3]'(by decide)).toNat : Nat) : Int) == (s[a].toNat : Int)) = false := by show ((108 : Int) == (s[a].toNat : Int)) = false; rw [beq_eq_false_iff_ne]; omega
  have q68 : (((((⟨#[104, 118, 120, 108, 68, 111]⟩ : ByteArray)[4]'(by decide)).toNat : Nat) : Int) == (s[a].toNat : Int)) = true := by show ((68 : Int) == (s[a].toNat : Int)) = true; rw [beq_iff_eq]; omega
  have HO := Lib.hid hO
  clear hO
  clear hk hsim hfst hyp
  go_enter Try.func30, Try.ntmps30
  go_wp2
  go_quiet (fail)
  go_wp2_with (go_at_call 42; refine Calls.mono (HS.out _) ?_; rintro e w2 ⟨rfl, b2⟩; have h2 := (Go1.out _).below b2; have B2 := (Bel1.out _).trans (b2.mono (Go1.out _).top); clear b2 c0 c1 c2 c3 f1 f2 f3 hb; obtain ⟨c0, c1, c2, c3, f1, f2, f3, hb⟩ := h2.cells; have H2 := Lib.hid h2; have HB2 := Lib.hid B2; clear h2 B2)
  obtain ⟨g, hg⟩ : ∃ g, w2.heap.size = g := ⟨_, rfl⟩
  obtain ⟨W3, hW3⟩ : ∃ W, ((w2.alloc (.cells #[.int .i64 t.kind, .string t.text, .int .i64 t.n] 55)).alloc (.cells #[.int .i64 12, .int .i64 13, .int .i64 14, .int .i64 15, .int .i64 16, .int .i64 17] 3)) = W := ⟨_, rfl⟩
  have b3 : Below w2.heap.size w2 W3 := by rw [← hW3]; exact ((Below.refl _ _).alloc (Nat.le_refl _) _).alloc (by simp) _
  have H3 := Lib.hid (H2.out.below b3)
  have HB3 := Lib.hid (HB2.out.trans (b3.mono H2.out.top))
  have gb : g + 1 ≠ b := by have := H2.out.cells.2.2.2.2.2.2.2; omega
  have gne : some g ≠ v.ownBlock := fun e => by have := own_lt H2.out.own g e.symm; omega
  have kb : W3.heap[g]? = some (.cells #[.int .i64 t.kind, .string t.text, .int .i64 t.n] 55) := by rw [← hW3, ← hg]; exact (two_blk _ _ _).1
  have k0 : W3.cell? ⟨g, 0, none⟩ = some (.int .i64 t.kind) := by simp [World.cell?, kb]
  have k1 : W3.cell? ⟨g, 1, none⟩ = some (.string t.text) := by simp [World.cell?, kb]
  have k2 : W3.cell? ⟨g, 2, none⟩ = some (.int .i64 t.n) := by simp [World.cell?, kb]
  have zb : W3.heap[g + 1]? = some (.cells #[.int .i64 12, .int .i64 13, .int .i64 14, .int .i64 15, .int .i64 16, .int .i64 17] 3) := by rw [← hW3, ← hg]; exact (two_blk _ _ _).2
  have z0 : W3.cell? ⟨g + 1, 0, none⟩ = some (.int .i64 12) := by simp [World.cell?, zb]
  have z1 : W3.cell? ⟨g + 1, 1, none⟩ = some (.int .i64 13) := by simp [World.cell?, zb]
  have z2 : W3.cell? ⟨g + 1, 2, none⟩ = some (.int .i64 14) := by simp [World.cell?, zb]
  have z3 : W3.cell? ⟨g + 1, 3, none⟩ = some (.int .i64 15) := by simp [World.cell?, zb]
  have z4 : W3.cell? ⟨g + 1, 4, none⟩ = some (.int .i64 16) := by simp [World.cell?, zb]
  have z5 : W3.cell? ⟨g + 1, 5, none⟩ = some (.int .i64 17) := by simp [World.cell?, zb]
  have gl : g + 1 < W3.heap.size := by rw [← hW3, ← hg]; simp
  clear c0 c1 c2 c3 f1 f2 f3 hb
  rw [hW3, hg]
  clear hW3 hg H2 HB2 b3
  obtain ⟨c0, c1, c2, c3, f1, f2, f3, hb⟩ := H3.out.cells
  have HC := fun n => rquoted2_calls (W3.drewN n) b base v s (a + 1) l (H3.out.drewN n) hs (by omega)
  rw [HO.out] at HC
  have HHC := Lib.hid HC
  clear HC HO
  go_loopw [8] (fun i wr => wr = W3 ∧ (i = .int .i64 0 ∨ i = .int .i64 1 ∨ i = .int .i64 2 ∨ i = .int .i64 3 ∨ i = .int .i64 4)) (fun i _ => 7 - (RowKit.intOf i).toNat)
  case atStart => exact ⟨rfl, .inl rfl⟩
  case round =>
    rcases hrel with ⟨rfl, rfl | rfl | rfl | rfl | rfl⟩
    · go_wp2
      go_roundw
      case rel => simp
      case measure => simp [RowKit.intOf]
    · go_wp2
      go_roundw
      case rel => simp
      case measure => simp [RowKit.intOf]
    · go_wp2
      go_roundw
      case rel => simp
      case measure => simp [RowKit.intOf]
    · go_wp2
      go_roundw
      case rel => simp
      case measure => simp [RowKit.intOf]
    · go_wp2
      go_region_with (first | (go_at_call 43; refine Calls.mono (HHC.out _) ?_; rintro e w5 ⟨⟨rfl, ⟨v5, h5⟩, b5⟩, kp⟩; have hz5 := (kp (g + 1) gb).trans zb; have zz : w5.cell? ⟨g + 1, 4, none⟩ = some (.int .i64 16) := (by simp [World.cell?, hz5]); have HB5 := Lib.hid ((below_dr HB3.out).trans b5); clear b5 kp) | (go_at_call 31; refine Calls.mono (put_calls _ b base v5 s a' l false 16 _ 0 h5 (by omega)) ?_; rintro e w6 ⟨rfl, ⟨v6, h6⟩, b6⟩; have H6 := Lib.hid h6; have HB6 := Lib.hid b6; clear h6 b6))
      all_goals
        go_wp2
        go_end0
        exact ⟨rfl, ⟨v6, H6.out⟩, HB5.out.trans HB6.out⟩

set_option maxRecDepth 100000 in
set_option maxHeartbeats 4000000 in
theorem re_q5s (w : World) (b base : Nat) (v : Value) (s : ByteArray) (a : Nat) (l : List Tok) (h : RR w b base v s a l false) (hs : s.size ≤ 1000000) (hl : l.length ≤ 900000) (ha : a < s.size) (t : Tok) (is : Bool) (hsim : simR (pk s a) = (t, is)) (fst : Bool) (hfst : decide (a = 1) = fst) (hyp : pk s a = 111) (t' : ByteArray) (a' : Nat) (hO : quotedM s (a + 1) = some (t', a')) :
    Calls Try.prog 30 #[.pointer (some ⟨b, 0, none⟩)] w (EscR b base s l w (namedE 17 (some (t', a')))) := by
  obtain ⟨c0, c1, c2, c3, f1, f2, f3, hb⟩ := h.cells
  have hge := h.ge
  have HH := Lib.hid h
  clear h
  have hk := pk_get s a ha
  have hi : (a : Int) < s.size := by omega
  have hw : IntKind.i64.wrap ((a : Int) + 1) = (a : Int) + 1 := IntWalk.i64_in _ (by omega)
  have e1 : ((a : Int) == 1) = fst := by rw [← hfst]; by_cases q : a = 1 <;> simp [q]; omega
  have e1' : (a == 1) = fst := by rw [← hfst]; by_cases q : a = 1 <;> simp [q]
  rw [hk] at hsim
  have HS := Lib.hid (fun W => rsimple_calls _ W t is hsim)
  have Go1 : Hid (∀ (n : Nat), RR ((w.drewN n).setCell ⟨b, 1, none⟩ (.int .i64 ((a : Int) + 1))) b base v s (a + 1) l false) := Lib.hid fun n => (HH.out.drewN n).set1 _ (by omega)
  have Bel1 : Hid (∀ (n : Nat), Below base w ((w.drewN n).setCell ⟨b, 1, none⟩ (.int .i64 ((a : Int) + 1)))) := Lib.hid fun n => below_st (below_dr (Below.refl _ _)) hge
  have q104 : (((((⟨#[104, 118, 120, 108, 68, 111]⟩ : ByteArray)[0]'(by decide)).toNat : Nat) : Int) == (s[a].toNat : Int)) = false := by show ((104 : Int) == (s[a].toNat : Int)) = false; rw [beq_eq_false_iff_ne]; omega
  have q118 : (((((⟨#[104, 118, 120, 108, 68, 111]⟩ : ByteArray)[1]'(by decide)).toNat : Nat) : Int) == (s[a].toNat : Int)) = false := by show ((118 : Int) == (s[a].toNat : Int)) = false; rw [beq_eq_false_iff_ne]; omega
  have q120 : (((((⟨#[104, 118, 120, 108, 68, 111]⟩ : ByteArray)[2]'(by decide)).toNat : Nat) : Int) == (s[a].toNat : Int)) = false := by show ((120 : Int) == (s[a].toNat : Int)) = false; rw [beq_eq_false_iff_ne]; omega
  have q108 : (((((⟨#[104, 118, 120, 108, 68, 111]⟩ : ByteArray)[3]'(by decide)).toNat : Nat) : Int) == (s[a].toNat : Int)) = false := by show ((108 : Int) == (s[a].toNat : Int)) = false; rw [beq_eq_false_iff_ne]; omega
  have q68 : (((((⟨#[104, 118, 120, 108, 68, 111]⟩ : ByteArray)[4]'(by decide)).toNat : Nat) : Int) == (s[a].toNat : Int)) = false := by show ((68 : Int) == (s[a].toNat : Int)) = false; rw [beq_eq_false_iff_ne]; omega
  have q111 : (((((⟨#[104, 118, 120, 108, 68, 111]⟩ : ByteArray)[5]'(by decide)).toNat : Nat) : Int) == (s[a].toNat : Int)) = true := by show ((111 : Int) == (s[a].toNat : Int)) = true; rw [beq_iff_eq]; omega
  have HO := Lib.hid hO
  clear hO
  clear hk hsim hfst hyp
  go_enter Try.func30, Try.ntmps30
  go_wp2
  go_quiet (fail)
  go_wp2_with (go_at_call 42; refine Calls.mono (HS.out _) ?_; rintro e w2 ⟨rfl, b2⟩; have h2 := (Go1.out _).below b2; have B2 := (Bel1.out _).trans (b2.mono (Go1.out _).top); clear b2 c0 c1 c2 c3 f1 f2 f3 hb; obtain ⟨c0, c1, c2, c3, f1, f2, f3, hb⟩ := h2.cells; have H2 := Lib.hid h2; have HB2 := Lib.hid B2; clear h2 B2)
  obtain ⟨g, hg⟩ : ∃ g, w2.heap.size = g := ⟨_, rfl⟩
  obtain ⟨W3, hW3⟩ : ∃ W, ((w2.alloc (.cells #[.int .i64 t.kind, .string t.text, .int .i64 t.n] 55)).alloc (.cells #[.int .i64 12, .int .i64 13, .int .i64 14, .int .i64 15, .int .i64 16, .int .i64 17] 3)) = W := ⟨_, rfl⟩
  have b3 : Below w2.heap.size w2 W3 := by rw [← hW3]; exact ((Below.refl _ _).alloc (Nat.le_refl _) _).alloc (by simp) _
  have H3 := Lib.hid (H2.out.below b3)
  have HB3 := Lib.hid (HB2.out.trans (b3.mono H2.out.top))
  have gb : g + 1 ≠ b := by have := H2.out.cells.2.2.2.2.2.2.2; omega
  have gne : some g ≠ v.ownBlock := fun e => by have := own_lt H2.out.own g e.symm; omega
  have kb : W3.heap[g]? = some (.cells #[.int .i64 t.kind, .string t.text, .int .i64 t.n] 55) := by rw [← hW3, ← hg]; exact (two_blk _ _ _).1
  have k0 : W3.cell? ⟨g, 0, none⟩ = some (.int .i64 t.kind) := by simp [World.cell?, kb]
  have k1 : W3.cell? ⟨g, 1, none⟩ = some (.string t.text) := by simp [World.cell?, kb]
  have k2 : W3.cell? ⟨g, 2, none⟩ = some (.int .i64 t.n) := by simp [World.cell?, kb]
  have zb : W3.heap[g + 1]? = some (.cells #[.int .i64 12, .int .i64 13, .int .i64 14, .int .i64 15, .int .i64 16, .int .i64 17] 3) := by rw [← hW3, ← hg]; exact (two_blk _ _ _).2
  have z0 : W3.cell? ⟨g + 1, 0, none⟩ = some (.int .i64 12) := by simp [World.cell?, zb]
  have z1 : W3.cell? ⟨g + 1, 1, none⟩ = some (.int .i64 13) := by simp [World.cell?, zb]
  have z2 : W3.cell? ⟨g + 1, 2, none⟩ = some (.int .i64 14) := by simp [World.cell?, zb]
  have z3 : W3.cell? ⟨g + 1, 3, none⟩ = some (.int .i64 15) := by simp [World.cell?, zb]
  have z4 : W3.cell? ⟨g + 1, 4, none⟩ = some (.int .i64 16) := by simp [World.cell?, zb]
  have z5 : W3.cell? ⟨g + 1, 5, none⟩ = some (.int .i64 17) := by simp [World.cell?, zb]
  have gl : g + 1 < W3.heap.size := by rw [← hW3, ← hg]; simp
  clear c0 c1 c2 c3 f1 f2 f3 hb
  rw [hW3, hg]
  clear hW3 hg H2 HB2 b3
  obtain ⟨c0, c1, c2, c3, f1, f2, f3, hb⟩ := H3.out.cells
  have HC := fun n => rquoted2_calls (W3.drewN n) b base v s (a + 1) l (H3.out.drewN n) hs (by omega)
  rw [HO.out] at HC
  have HHC := Lib.hid HC
  clear HC HO
  go_loopw [8] (fun i wr => wr = W3 ∧ (i = .int .i64 0 ∨ i = .int .i64 1 ∨ i = .int .i64 2 ∨ i = .int .i64 3 ∨ i = .int .i64 4 ∨ i = .int .i64 5)) (fun i _ => 7 - (RowKit.intOf i).toNat)
  case atStart => exact ⟨rfl, .inl rfl⟩
  case round =>
    rcases hrel with ⟨rfl, rfl | rfl | rfl | rfl | rfl | rfl⟩
    · go_wp2
      go_roundw
      case rel => simp
      case measure => simp [RowKit.intOf]
    · go_wp2
      go_roundw
      case rel => simp
      case measure => simp [RowKit.intOf]
    · go_wp2
      go_roundw
      case rel => simp
      case measure => simp [RowKit.intOf]
    · go_wp2
      go_roundw
      case rel => simp
      case measure => simp [RowKit.intOf]
    · go_wp2
      go_roundw
      case rel => simp
      case measure => simp [RowKit.intOf]
    · go_wp2
      go_region_with (first | (go_at_call 43; refine Calls.mono (HHC.out _) ?_; rintro e w5 ⟨⟨rfl, ⟨v5, h5⟩, b5⟩, kp⟩; have hz5 := (kp (g + 1) gb).trans zb; have zz : w5.cell? ⟨g + 1, 5, none⟩ = some (.int .i64 17) := (by simp [World.cell?, hz5]); have HB5 := Lib.hid ((below_dr HB3.out).trans b5); clear b5 kp) | (go_at_call 31; refine Calls.mono (put_calls _ b base v5 s a' l false 17 _ 0 h5 (by omega)) ?_; rintro e w6 ⟨rfl, ⟨v6, h6⟩, b6⟩; have H6 := Lib.hid h6; have HB6 := Lib.hid b6; clear h6 b6))
      all_goals
        go_wp2
        go_end0
        exact ⟨rfl, ⟨v6, H6.out⟩, HB5.out.trans HB6.out⟩

end Go.Proofs.Ytaokofnhkojllaa

set_option linter.unusedVariables false
set_option linter.unusedSimpArgs false
namespace Go.Proofs.Ytaokofnhkojllaa
open Go.Shelf Go.RowKit Go.Lib Go.Aids Go.MapLit Go.Proofs.YtaokofnhkojllaaW.PrintWords

theorem simR_some (c : Nat) (t : Tok) (h : look simpleL c = some t) : simR c = (t, true) ∧ t.kind ≠ 20 ∧ c ≠ 104 ∧ c ≠ 118 ∧ c ≠ 120 ∧ c ≠ 108 ∧ c ≠ 68 ∧ c ≠ 111 := by
  by_cases m : c ∈ [101, 92, 45, 116, 97, 126, 32, 124, 94, 48, 37, 38, 117, 100, 122]
  · simp only [List.mem_cons, List.not_mem_nil, or_false] at m
    rcases m with m | m | m | m | m | m | m | m | m | m | m | m | m | m | m <;> subst m <;> (injection h with h; subst h; exact ⟨rfl, by decide, by decide, by decide, by decide, by decide, by decide, by decide⟩)
  · simp only [List.mem_cons, List.not_mem_nil, or_false, not_or] at m
    obtain ⟨h1, h2, h3, h4, h5, h6, h7, h8, h9, h10, h11, h12, h13, h14, h15⟩ := m
    unfold simpleL look at h
    simp [h1, h2, h3, h4, h5, h6, h7, h8, h9, h10, h11, h12, h13, h14, h15] at h
theorem simR_none (c : Nat) (h : look simpleL c = none) (h9 : c ≠ 99) : simR c = (⟨0, ⟨#[]⟩, 0⟩, false) := by
  unfold simR
  have : look ((99, (⟨20, ⟨#[]⟩, 0⟩ : Tok)) :: simpleL) c = none := by
    rw [← h]
    unfold look
    rw [List.find?_cons_of_neg (by simpa using h9)]
  rw [this]
theorem quotes_no (c : Nat) (h : look quotesL c = none) : c ≠ 104 ∧ c ≠ 118 ∧ c ≠ 120 ∧ c ≠ 108 ∧ c ≠ 68 ∧ c ≠ 111 := by
  refine ⟨?_, ?_, ?_, ?_, ?_, ?_⟩ <;> (rintro rfl; exact absurd h (by simp [look, quotesL]))
theorem quotes_yes (c : Nat) (k : Int) (h : look quotesL c = some k) : (c = 104 ∧ k = 12) ∨ (c = 118 ∧ k = 13) ∨ (c = 120 ∧ k = 14) ∨ (c = 108 ∧ k = 15) ∨ (c = 68 ∧ k = 16) ∨ (c = 111 ∧ k = 17) := by
  by_cases m : c ∈ [104, 118, 120, 108, 68, 111]
  · simp only [List.mem_cons, List.not_mem_nil, or_false] at m
    rcases m with m | m | m | m | m | m <;> subst m <;> (injection h with h; subst h; simp)
  · simp only [List.mem_cons, List.not_mem_nil, or_false, not_or] at m
    obtain ⟨h1, h2, h3, h4, h5, h6⟩ := m
    unfold quotesL look at h
    simp [h1, h2, h3, h4, h5, h6] at h
theorem rescape_calls (w : World) (b base : Nat) (v : Value) (s : ByteArray) (a : Nat) (l : List Tok) (h : RR w b base v s a l false) (hs : s.size ≤ 1000000) (hl : l.length ≤ 900000) (ha : a < s.size) :
    Calls Try.prog 30 #[.pointer (some ⟨b, 0, none⟩)] w (EscR b base s l w (escW s a)) := by
  unfold escW
  by_cases hf : a = 1 ∧ pk s a = 33
  · rw [if_pos hf]
    exact re_first w b base v s a l h hs hl ha ⟨0, ⟨#[]⟩, 0⟩ (by rw [hf.2]; rfl) (decide_eq_true hf.1) hf.2
  rw [if_neg hf]
  rcases h1 : look simpleL (pk s a) with _ | t
  · rcases h2 : look quotesL (pk s a) with _ | k
    · have e : escM s a = if pk s a = 40 ∨ pk s a = 91 then namedE 0 (nameM 1 10 s a)
          else if pk s a = 102 then namedE 10 (nameM 1 20 s (a + 1))
          else if pk s a = 109 then namedE 21 (nameM 0 20 s (a + 1))
          else if pk s a = 107 then namedE 19 (nameM 1 20 s (a + 1))
          else if pk s a = 115 then sizeE (sizeM s (a + 1))
          else if pk s a = 99 then .stop [⟨20, ⟨#[]⟩, 0⟩]
          else if pk s a = 34 then .stop []
          else if pk s a = 123 ∨ pk s a = 125 then .go [] (a + 1)
          else if seenB (pk s a) = true then .go [⟨0, oneS (pk s a), 0⟩] (a + 1) else .go [] (a + 1) := by
        unfold escM
        simp only [h1, h2]
        rfl
      rw [e]
      have hq := quotes_no _ h2
      by_cases c1 : pk s a = 40 ∨ pk s a = 91
      · rw [if_pos c1]
        rcases c1 with c1 | c1
        · have e2 : nameM 1 10 s a = twoM s (a + 1) := by unfold nameM; rw [if_pos c1]
          rw [e2]
          exact re_two w b base v s a l h hs hl ha _ (by rw [c1]; rfl) _ rfl c1
        · have e2 : nameM 1 10 s a = bracketM 1 10 s (a + 1) := by unfold nameM; rw [if_neg (by omega), if_pos c1]
          rw [e2]
          exact re_bracket w b base v s a l h hs hl ha _ (by rw [c1]; rfl) _ rfl c1
      rw [if_neg c1]
      by_cases c2 : pk s a = 102
      · rw [if_pos c2]; exact re_f w b base v s a l h hs hl ha _ (by rw [c2]; rfl) _ rfl c2
      rw [if_neg c2]
      by_cases c3 : pk s a = 109
      · rw [if_pos c3]; exact re_m w b base v s a l h hs hl ha _ (by rw [c3]; rfl) _ rfl c3
      rw [if_neg c3]
      by_cases c4 : pk s a = 107
      · rw [if_pos c4]; exact re_k w b base v s a l h hs hl ha _ (by rw [c4]; rfl) _ rfl c4
      rw [if_neg c4]
      by_cases c5 : pk s a = 115
      · rw [if_pos c5]; exact re_size w b base v s a l h hs hl ha _ (by rw [c5]; rfl) _ rfl c5
      rw [if_neg c5]
      by_cases c6 : pk s a = 99
      · rw [if_pos c6]; exact re_stop w b base v s a l h hs hl ha _ (by rw [c6]; rfl) _ rfl ⟨rfl, hq⟩
      rw [if_neg c6]
      have hsim := simR_none _ h1 c6
      by_cases c7 : pk s a = 34
      · rw [if_pos c7]; exact re_34 w b base v s a l h hs hl ha _ hsim _ rfl c7
      rw [if_neg c7]
      by_cases c8 : pk s a = 123 ∨ pk s a = 125
      · rw [if_pos c8]
        rcases c8 with c8 | c8
        · exact re_123 w b base v s a l h hs hl ha _ hsim _ rfl c8
        · exact re_125 w b base v s a l h hs hl ha _ hsim _ rfl c8
      rw [if_neg c8]
      obtain ⟨q1, q2, q3, q4, q5, q6⟩ := hq
      by_cases c10 : pk s a = 33
      · rw [if_pos (by rw [c10]; decide)]
        exact re_seen33 w b base v s a l h hs hl ha _ hsim (decide_eq_false (fun x => hf ⟨x, c10⟩)) c10
      by_cases c9 : seenB (pk s a) = true
      · rw [if_pos c9]
        exact re_seen w b base v s a l h hs hl ha _ hsim _ rfl (by refine ⟨c9, ?_⟩; omega)
      · rw [if_neg c9]
        exact re_unseen w b base v s a l h hs hl ha _ hsim _ rfl (by refine ⟨by simpa using c9, ?_⟩; omega)
    · have e : escM s a = namedE k (quotedM s (a + 1)) := by
        unfold escM
        simp only [h1, h2]
      rw [e]
      rcases hO : quotedM s (a + 1) with _ | ⟨t', a'⟩
      · rcases quotes_yes _ _ h2 with ⟨c, rfl⟩ | ⟨c, rfl⟩ | ⟨c, rfl⟩ | ⟨c, rfl⟩ | ⟨c, rfl⟩ | ⟨c, rfl⟩
        · exact re_q0n w b base v s a l h hs hl ha _ _ rfl _ rfl c hO
        · exact re_q1n w b base v s a l h hs hl ha _ _ rfl _ rfl c hO
        · exact re_q2n w b base v s a l h hs hl ha _ _ rfl _ rfl c hO
        · exact re_q3n w b base v s a l h hs hl ha _ _ rfl _ rfl c hO
        · exact re_q4n w b base v s a l h hs hl ha _ _ rfl _ rfl c hO
        · exact re_q5n w b base v s a l h hs hl ha _ _ rfl _ rfl c hO
      · rcases quotes_yes _ _ h2 with ⟨c, rfl⟩ | ⟨c, rfl⟩ | ⟨c, rfl⟩ | ⟨c, rfl⟩ | ⟨c, rfl⟩ | ⟨c, rfl⟩
        · exact re_q0s w b base v s a l h hs hl ha _ _ rfl _ rfl c t' a' hO
        · exact re_q1s w b base v s a l h hs hl ha _ _ rfl _ rfl c t' a' hO
        · exact re_q2s w b base v s a l h hs hl ha _ _ rfl _ rfl c t' a' hO
        · exact re_q3s w b base v s a l h hs hl ha _ _ rfl _ rfl c t' a' hO
        · exact re_q4s w b base v s a l h hs hl ha _ _ rfl _ rfl c t' a' hO
        · exact re_q5s w b base v s a l h hs hl ha _ _ rfl _ rfl c t' a' hO
  · have e : escM s a = .go [t] (a + 1) := by
      unfold escM
      simp only [h1]
    rw [e]
    have hh := simR_some _ _ h1
    exact re_simple w b base v s a l h hs hl ha t hh.1 _ rfl hh.2
end Go.Proofs.Ytaokofnhkojllaa

set_option linter.unusedVariables false
set_option linter.unusedSimpArgs false
namespace Go.Proofs.Ytaokofnhkojllaa
open Go.Shelf Go.RowKit Go.Lib Go.Aids Go.MapLit Go.Proofs.YtaokofnhkojllaaW.PrintWords

theorem findB_end (s : ByteArray) (i q : Nat) (h : ¬ i < s.size) : findB s i q = i := by
  unfold findB
  rw [show s.size - i = 0 by omega]
  rfl
theorem findB_step (s : ByteArray) (i q : Nat) (h : i < s.size) : findB s i q = if pk s i = q then i else findB s (i + 1) q := by
  unfold findB
  rw [show s.size - i = (s.size - (i + 1)) + 1 by omega]
  rfl
theorem isLine_f (s : ByteArray) (hs : s.size ≤ 1000000) : ∀ f i, s.size ≤ i + f → PIsLine.frisketref10_IsLine.l0 (f + 1) s i = some (!decide (findB s i 10 < s.size) && decide (s.size ≤ 2000))
  | 0, i, h => by
    rw [PIsLine.frisketref10_IsLine.l0, if_neg (by omega), findB_end s i 10 (by omega), decide_eq_false (by omega : ¬ i < s.size)]
    simp
    omega
  | f + 1, i, h => by
    rw [PIsLine.frisketref10_IsLine.l0]
    by_cases hlt : i < s.size
    · rw [if_pos (by omega), if_pos (by omega), findB_step s i 10 hlt, bt_pk s i hlt]
      by_cases hq : pk s i = 10
      · rw [if_pos (by omega), if_pos hq, decide_eq_true hlt]; rfl
      · rw [if_neg (by omega), if_neg hq, show wrap64 ((i : Int) + 1) = ((i + 1 : Nat) : Int) by rw [wrap64_in _ (by omega) (by omega)]; rfl, isLine_f s hs f (i + 1) (by omega)]
    · rw [if_neg (by omega), findB_end s i 10 hlt, decide_eq_false (by omega : ¬ i < s.size)]
      simp
      omega
theorem isLine_calls (s : ByteArray) (hs : s.size ≤ 1000000) (w : World) : Calls Try.prog 29 #[.string s] w fun e w' => e = .returned (.bool (!hasLF s && decide (s.size ≤ 2000))) ∧ ∃ n, w' = w.drewN n :=
  (PIsLine.frisketref10_IsLine.calls (s.size + 1) s _ w (isLine_f s hs s.size 0 (by omega))).mono fun e w' h => ⟨h.1, drawn_n h.2⟩

/-! The line, as the reference steps through it. -/
def stepR (s : ByteArray) (a : Nat) : Esc :=
  let c := pk s a
  if c = 92 then (if a + 1 < s.size then escW s (a + 1) else .go [] (a + 1))
  else if c = 32 then .go [⟨1, ⟨#[]⟩, 0⟩] (a + 1)
  else if c = 9 then .go [⟨2, ⟨#[]⟩, 0⟩] (a + 1)
  else if seenB c = true then .go [⟨0, oneS c, 0⟩] (a + 1) else .go [] (a + 1)
def lineFR (s : ByteArray) : Nat → List Tok → Nat → Option (List Tok)
  | 0, l, _ => some l
  | f + 1, l, a => if a < s.size then (match stepR s a with
      | .bad => none
      | .go t b => lineFR s f (l ++ t) b
      | .stop t => some (l ++ t)) else some l
theorem stepR_ne (s : ByteArray) (a : Nat) (h : ¬ (a = 0 ∧ pk s 1 = 33 ∧ pk s a = 92)) : stepR s a = stepM s a := by
  unfold stepR stepM
  simp only
  split
  · rename_i hc
    split
    · unfold escW
      rw [if_neg (by rintro ⟨q1, q2⟩; obtain rfl : a = 0 := (by omega); exact h ⟨rfl, q2, hc⟩)]
    · rfl
  · rfl
theorem stepR_end {s : ByteArray} {a b : Nat} {l : List Tok} (ha : a < s.size) (h : stepR s a = .go l b) : a < b ∧ b ≤ s.size ∧ l.length ≤ 1 := by
  by_cases q : a = 0 ∧ pk s 1 = 33 ∧ pk s a = 92
  · obtain ⟨rfl, q1, q2⟩ := q
    have := pk_lt (s := s) (a := 1) (by omega)
    unfold stepR at h
    simp only at h
    rw [if_pos q2, if_pos (by omega)] at h
    unfold escW at h
    rw [if_pos ⟨rfl, q1⟩] at h
    injection h with h1 h2
    subst h1 h2
    exact ⟨by omega, by omega, by simp⟩
  · rw [stepR_ne s a q] at h
    exact stepM_end ha h
theorem lineFR_eq (s : ByteArray) : ∀ f l a, 1 ≤ a → lineFR s f l a = lineF s f l a
  | 0, _, _, _ => rfl
  | f + 1, l, a, h => by
    unfold lineFR lineF
    split
    · rename_i ha
      rw [stepR_ne s a (by omega)]
      rcases hs : stepM s a with _ | ⟨t, b⟩ | t
      · rfl
      · have := stepM_end ha hs
        exact lineFR_eq s f _ b (by omega)
      · rfl
    · rfl
theorem lineFR_all (s : ByteArray) : lineFR s s.size [] 0 = lineM s := by
  unfold lineM
  by_cases q : pk s 0 = 92 ∧ pk s 1 = 33
  · have h1 := pk_lt (s := s) (a := 1) (by omega)
    have e : startM s = 2 := by unfold startM; rw [if_pos q]
    rw [e]
    obtain ⟨f, hf⟩ : ∃ f, s.size = f + 1 := ⟨s.size - 1, by omega⟩
    have es : stepR s 0 = .go [] 2 := by
      unfold stepR
      simp only
      rw [if_pos q.1, if_pos (by omega)]
      unfold escW
      rw [if_pos ⟨rfl, q.2⟩]
    rw [hf]
    show lineFR s (f + 1) [] 0 = _
    rw [lineFR, if_pos (by omega), es]
    show lineFR s f ([] ++ []) 2 = _
    rw [lineFR_eq s f _ 2 (by omega)]
    exact lineF_more s f (f + 1) [] 2 (by omega) (by omega)
  · have e : startM s = 0 := by unfold startM; rw [if_neg q]
    rw [e]
    cases hz : s.size with
    | zero => rfl
    | succ f =>
      rw [lineFR, lineF, stepR_ne s 0 (by rintro ⟨-, x, y⟩; exact q ⟨y, x⟩)]
      rw [if_pos (by omega), if_pos (by omega)]
      rcases hs : stepM s 0 with _ | ⟨t, b⟩ | t
      · rfl
      · have := stepM_end (by omega) hs
        exact lineFR_eq s f _ b (by omega)
      · rfl
def LineRPost (w : World) (l : List Tok) (k : Int) (e : Ending) (w' : World) : Prop := ∃ v, e = .returned (.tuple #[v, .int .i64 k]) ∧ w'.ownsRow w.heap.size 55 3 v l.length (cellsOf l) ∧ Below w.heap.size w w'
end Go.Proofs.Ytaokofnhkojllaa

set_option linter.unusedVariables false
set_option linter.unusedSimpArgs false
namespace Go.Proofs.Ytaokofnhkojllaa
open Go.Shelf Go.RowKit Go.Lib Go.Aids Go.MapLit Go.Proofs.YtaokofnhkojllaaW.PrintWords

/-- Where a round of the loop may stand. -/
def LRel (w : World) (s : ByteArray) (R : Option (List Tok)) (gk : Nat) (wr : World) : Prop :=
  ∃ (v1 : Value) (a : Nat) (l1 : List Tok) (bad : Bool), RR wr w.heap.size w.heap.size v1 s a l1 bad ∧ Below w.heap.size w wr ∧
    ((bad = false ∧ a ≤ s.size ∧ l1.length ≤ a ∧ s.size ≤ a + gk ∧ lineFR s gk l1 a = R) ∨ (bad = true ∧ R = none))
theorem LRel.good {w wr : World} {s : ByteArray} {R : Option (List Tok)} {gk : Nat} (v1 : Value) (a : Nat) (l1 : List Tok) (h : RR wr w.heap.size w.heap.size v1 s a l1 false) (hb : Below w.heap.size w wr) (h1 : a ≤ s.size) (h2 : l1.length ≤ a) (h3 : s.size ≤ a + gk) (h4 : lineFR s gk l1 a = R) : LRel w s R gk wr :=
  ⟨v1, a, l1, false, h, hb, .inl ⟨rfl, h1, h2, h3, h4⟩⟩
theorem LRel.bad {w wr : World} {s : ByteArray} {R : Option (List Tok)} {gk : Nat} (v1 : Value) (a : Nat) (l1 : List Tok) (h : RR wr w.heap.size w.heap.size v1 s a l1 true) (hb : Below w.heap.size w wr) (h4 : R = none) : LRel w s R gk wr :=
  ⟨v1, a, l1, true, h, hb, .inr ⟨rfl, h4⟩⟩
/-- The result. -/
def LRes : Option (List Tok) → List Tok × Int
  | some l => (l, 0)
  | none => ([], 4)
theorem lineFR_at (s : ByteArray) (f : Nat) (l : List Tok) (a : Nat) (h : ¬ a < s.size) : lineFR s f l a = some l := by
  cases f with
  | zero => rfl
  | succ f => rw [lineFR, if_neg h]
theorem namedE_stop {k : Int} {o : Option (ByteArray × Nat)} {t : List Tok} (h : namedE k o = .stop t) : False := by
  rcases o with _ | ⟨x, y⟩ <;> cases h
theorem escM_stop {s : ByteArray} {a : Nat} {t : List Tok} (h : escM s a = .stop t) : t.length ≤ 1 := by
  unfold escM at h
  simp only at h
  repeat' split at h
  all_goals first
    | exact (namedE_stop h).elim
    | (cases h; done)
    | (injection h with h; subst h; simp)
theorem stepR_stop {s : ByteArray} {a : Nat} {t : List Tok} (h : stepR s a = .stop t) : t.length ≤ 1 := by
  unfold stepR escW at h
  simp only at h
  repeat' split at h
  all_goals first
    | exact escM_stop h
    | (cases h; done)
set_option maxRecDepth 100000 in
set_option maxHeartbeats 4000000 in
theorem rLine_is (s : ByteArray) (w : World) (hs : s.size ≤ 2000) (hf : hasLF s = false) : Calls Try.prog 19 #[.string s] w (LineRPost w (LRes (lineM s)).1 (LRes (lineM s)).2) := by
  have HI : Hid (∀ W, Calls Try.prog 29 #[.string s] W fun e w' => e = .returned (.bool true) ∧ ∃ n, w' = W.drewN n) := Lib.hid fun W => by
    have := isLine_calls s (by omega) W
    rw [hf, decide_eq_true hs] at this
    exact this
  obtain ⟨R, hR⟩ : ∃ R, lineM s = R := ⟨_, rfl⟩
  rw [hR]
  rw [← lineFR_all] at hR
  have HR := Lib.hid hR
  obtain ⟨RL, hRL⟩ : ∃ RL, LRes R = RL := ⟨_, rfl⟩
  rw [hRL]
  have HRL := Lib.hid hRL
  clear hR hf hRL
  have HA : Hid (∀ n, LRel w s R s.size ((w.drewN n).alloc (.cells #[.string s, .int .i64 0, .slice none 0 0, .bool false] 64))) := Lib.hid fun n =>
    LRel.good (.slice none 0 0) 0 [] ⟨heap_alloc_new (w.drewN n) _, World.ownsRow_nil _ _ _ _, Nat.le_refl _⟩ ((below_dr (Below.refl _ _)).alloc (Nat.le_refl _) _) (by omega) (by simp) (by omega) HR.out
  go_enter Try.func19, Try.ntmps19
  go_wp2_with (go_at_call 29; refine Calls.mono (HI.out _) ?_; rintro e w' ⟨rfl, n, rfl⟩)
  go_loopg [] s.size (fun gk wr => LRel w s R gk wr)
  case atStart => exact HA.out _
  case round =>
    obtain ⟨v1, a, l1, bad, hA, hB, hcase⟩ := hrel
    obtain ⟨k0, k1, k2, k3, g1, g2, g3, kl⟩ := hA.cells
    have hge := hA.ge
    have HAA := Lib.hid hA
    have HB := Lib.hid hB
    clear hA hB HA HI HR hge
    rcases hcase with ⟨rfl, ha, hl, hg, hr⟩ | ⟨rfl, rfl⟩
    · by_cases hlt : a < s.size
      · obtain ⟨g', rfl⟩ : ∃ g', gk = g' + 1 := ⟨gk - 1, by omega⟩
        have i0 : (a : Int) < s.size := by omega
        have d0 : decide ((a : Int) < s.size) = true := decide_eq_true i0
        have hw : IntKind.i64.wrap ((a : Int) + 1) = (a : Int) + 1 := IntWalk.i64_in _ (by omega)
        have hk := pk_get s a hlt
        rw [lineFR, if_pos hlt] at hr
        have hends := fun t q (e : stepR s a = .go t q) => stepR_end hlt e
        have hstop := fun t (e : stepR s a = .stop t) => stepR_stop e
        have Go1 : Hid (RR (wr.setCell ⟨w.heap.size, 1, none⟩ (.int .i64 ((a : Int) + 1))) w.heap.size w.heap.size v1 s (a + 1) l1 false) := Lib.hid (HAA.out.set1 _ (by omega))
        have Be1 : Hid (Below w.heap.size w (wr.setCell ⟨w.heap.size, 1, none⟩ (.int .i64 ((a : Int) + 1)))) := Lib.hid (below_st HB.out (Nat.le_refl _))
        by_cases c92 : pk s a = 92
        · have e92 : ((s[a].toNat : Int) == 92) = true := by rw [beq_iff_eq]; omega
          by_cases hl2 : a + 1 < s.size
          · have d1 : decide ((a : Int) + 1 < s.size) = true := decide_eq_true (by omega)
            have es : stepR s a = escW s (a + 1) := by unfold stepR; simp only; rw [if_pos c92, if_pos hl2]
            rw [es] at hr hends hstop
            have hC := rescape_calls _ _ _ v1 s (a + 1) l1 Go1.out (by omega) (by omega) hl2
            obtain ⟨O, hO⟩ : ∃ O, escW s (a + 1) = O := ⟨_, rfl⟩
            rw [hO] at hr hends hstop hC
            have HC := Lib.hid hC
            have Hr := Lib.hid hr
            have He := Lib.hid hends
            have Hs := Lib.hid hstop
            clear hC hr hends hstop es hO c92 hk
            go_wp2_with fail
            refine HC.out.mono ?_
            rcases O with _ | ⟨t, q⟩ | t
            · rintro e w3 ⟨rfl, ⟨v3, a3, l3, h3⟩, b3⟩
              have H3 := Lib.hid h3
              have B3 := Lib.hid b3
              clear h3 b3 k0 k1 k2 k3 g1 g2 g3 kl
              go_wp2
              go_roundg g'
              case measure => omega
              case rel => exact LRel.bad v3 a3 l3 H3.out (Be1.out.trans B3.out) (show none = R from Hr.out).symm
            · rintro e w3 ⟨rfl, ⟨v3, h3⟩, b3⟩
              have H3 := Lib.hid h3
              have B3 := Lib.hid b3
              clear h3 b3 k0 k1 k2 k3 g1 g2 g3 kl
              obtain ⟨q1, q2, q3⟩ := He.out t q rfl
              go_wp2
              go_roundg g'
              case measure => omega
              case rel => exact LRel.good v3 q (l1 ++ t) H3.out (Be1.out.trans B3.out) q2 (by rw [List.length_append]; omega) (by omega) Hr.out
            · rintro e w3 ⟨rfl, ⟨v3, h3⟩, b3⟩
              have H3 := Lib.hid h3
              have B3 := Lib.hid b3
              clear h3 b3 k0 k1 k2 k3 g1 g2 g3 kl
              have q3 := Hs.out t rfl
              go_wp2
              go_roundg g'
              case measure => omega
              case rel => exact LRel.good v3 s.size (l1 ++ t) H3.out (Be1.out.trans B3.out) (Nat.le_refl _) (by rw [List.length_append]; omega) (by omega) ((lineFR_at s g' _ _ (Nat.lt_irrefl _)).trans Hr.out)
          · have d1 : decide ((a : Int) + 1 < s.size) = false := decide_eq_false (by omega)
            have es : stepR s a = .go [] (a + 1) := by unfold stepR; simp only; rw [if_pos c92, if_neg hl2]
            rw [es] at hr
            have Hr := Lib.hid (show lineFR s g' (l1 ++ []) (a + 1) = R from hr)
            rw [List.append_nil] at Hr
            clear hr hends hstop es c92 hk
            go_wp2
            go_roundg g'
            case measure => omega
            case rel => exact LRel.good v1 (a + 1) _ Go1.out Be1.out (by omega) (by omega) (by omega) Hr.out
        have e92 : ((s[a].toNat : Int) == 92) = false := by rw [beq_eq_false_iff_ne]; omega
        by_cases c32 : pk s a = 32
        · have es : stepR s a = .go [⟨1, ⟨#[]⟩, 0⟩] (a + 1) := by unfold stepR; simp only; rw [if_neg c92, if_pos c32]
          rw [es] at hr
          have Hr := Lib.hid (show lineFR s g' (l1 ++ [⟨1, ⟨#[]⟩, 0⟩]) (a + 1) = R from hr)
          have e32 : ((s[a].toNat : Int) == 32) = true := by rw [beq_iff_eq]; omega
          clear hr hends hstop es c92 hk c32
          go_wp2_with (go_at_call 31; refine Calls.mono (put_calls _ _ _ v1 s (a + 1) l1 false 1 _ 0 Go1.out (by omega)) ?_; rintro e w6 ⟨rfl, ⟨v6, h6⟩, b6⟩; have H6 := Lib.hid h6; have HB6 := Lib.hid (Be1.out.trans b6); clear h6 b6)
          go_roundg g'
          case measure => omega
          case rel => exact LRel.good v6 (a + 1) _ H6.out HB6.out (by omega) (by rw [List.length_append]; simp; omega) (by omega) Hr.out
        have e32 : ((s[a].toNat : Int) == 32) = false := by rw [beq_eq_false_iff_ne]; omega
        by_cases c9 : pk s a = 9
        · have es : stepR s a = .go [⟨2, ⟨#[]⟩, 0⟩] (a + 1) := by unfold stepR; simp only; rw [if_neg c92, if_neg c32, if_pos c9]
          rw [es] at hr
          have Hr := Lib.hid (show lineFR s g' (l1 ++ [⟨2, ⟨#[]⟩, 0⟩]) (a + 1) = R from hr)
          have e9 : ((s[a].toNat : Int) == 9) = true := by rw [beq_iff_eq]; omega
          clear hr hends hstop es c92 hk c32 c9
          go_wp2_with (go_at_call 31; refine Calls.mono (put_calls _ _ _ v1 s (a + 1) l1 false 2 _ 0 Go1.out (by omega)) ?_; rintro e w6 ⟨rfl, ⟨v6, h6⟩, b6⟩; have H6 := Lib.hid h6; have HB6 := Lib.hid (Be1.out.trans b6); clear h6 b6)
          go_roundg g'
          case measure => omega
          case rel => exact LRel.good v6 (a + 1) _ H6.out HB6.out (by omega) (by rw [List.length_append]; simp; omega) (by omega) Hr.out
        have e9 : ((s[a].toNat : Int) == 9) = false := by rw [beq_eq_false_iff_ne]; omega
        have HN := Lib.hid (fun W => seen_calls s[a].toNat W)
        by_cases cs : seenB (pk s a) = true
        · have es : stepR s a = .go [⟨0, oneS (pk s a), 0⟩] (a + 1) := by unfold stepR; simp only; rw [if_neg c92, if_neg c32, if_neg c9, if_pos cs]
          rw [es] at hr
          have Hr := Lib.hid (show lineFR s g' (l1 ++ [⟨0, oneS (pk s a), 0⟩]) (a + 1) = R from hr)
          rw [hk] at cs Hr
          rw [cs] at HN
          have hcv : ∀ n, (Go.convert 30 9 (.slice (some ⟨wr.heap.size, 0, none⟩) 1 1)).run Try.prog (((wr.setCell ⟨w.heap.size, 1, none⟩ (.int .i64 ((a : Int) + 1))).drewN n).alloc (.cells #[.int .u8 s[a].toNat] 5)) = .ok (.string (oneS s[a].toNat)) (((wr.setCell ⟨w.heap.size, 1, none⟩ (.int .i64 ((a : Int) + 1))).drewN n).alloc (.cells #[.int .u8 s[a].toNat] 5)) := fun n => conv_one _ _ _ (by simp)
          have HA : Hid (∀ n, RR (((wr.setCell ⟨w.heap.size, 1, none⟩ (.int .i64 ((a : Int) + 1))).drewN n).alloc (.cells #[.int .u8 s[a].toNat] 5)) w.heap.size w.heap.size v1 s (a + 1) l1 false) := Lib.hid fun n => (Go1.out.drewN n).below ((Below.refl _ _).alloc (Nat.le_refl _) _)
          have HBA : Hid (∀ n, Below w.heap.size w (((wr.setCell ⟨w.heap.size, 1, none⟩ (.int .i64 ((a : Int) + 1))).drewN n).alloc (.cells #[.int .u8 s[a].toNat] 5))) := Lib.hid fun n => (below_dr Be1.out).alloc Go1.out.top _
          clear hr hends hstop es c92 hk c32 c9 cs
          go_wp2_with (first | (go_at_call 32; refine Calls.mono (HN.out _) ?_; rintro e w' ⟨rfl, n, rfl⟩) | (go_at_call 31; refine Calls.mono (put_calls _ _ _ v1 s (a + 1) l1 false 0 _ 0 (HA.out _) (by omega)) ?_; rintro e w6 ⟨rfl, ⟨v6, h6⟩, b6⟩; have H6 := Lib.hid h6; have HB6 := Lib.hid ((HBA.out _).trans b6); clear h6 b6))
          go_roundg g'
          case measure => omega
          case rel => exact LRel.good v6 (a + 1) _ H6.out HB6.out (by omega) (by rw [List.length_append]; simp; omega) (by omega) Hr.out
        · have es : stepR s a = .go [] (a + 1) := by unfold stepR; simp only; rw [if_neg c92, if_neg c32, if_neg c9, if_neg cs]
          rw [es] at hr
          have Hr := Lib.hid (show lineFR s g' (l1 ++ []) (a + 1) = R from hr)
          rw [List.append_nil] at Hr
          rw [Bool.not_eq_true, hk] at cs
          rw [cs] at HN
          clear hr hends hstop es c92 hk c32 c9 cs
          go_wp2_with (go_at_call 32; refine Calls.mono (HN.out _) ?_; rintro e w' ⟨rfl, n, rfl⟩)
          go_roundg g'
          case measure => omega
          case rel => exact LRel.good v1 (a + 1) _ (Go1.out.drewN _) (below_dr Be1.out) (by omega) (by omega) (by omega) Hr.out
      · have d0 : decide ((a : Int) < s.size) = false := decide_eq_false (by omega)
        have i0 : ¬ (a : Int) < s.size := by omega
        have hr2 : some l1 = R := (lineFR_at s gk l1 a hlt).symm.trans hr
        subst hr2
        have e := HRL.out
        subst e
        clear hr hlt
        go_wp2
        go_ret2
        exact ⟨v1, rfl, HAA.out.own, HB.out⟩
    · have e := HRL.out
      subst e
      by_cases hlt : (a : Int) < s.size
      · have d0 : decide ((a : Int) < s.size) = true := decide_eq_true hlt
        go_wp2
        go_ret2
        exact ⟨.slice none 0 0, rfl, World.ownsRow_nil _ _ _ _, HB.out⟩
      · have d0 : decide ((a : Int) < s.size) = false := decide_eq_false hlt
        go_wp2
        go_ret2
        exact ⟨.slice none 0 0, rfl, World.ownsRow_nil _ _ _ _, HB.out⟩
theorem rLine_not (s : ByteArray) (w : World) (hs : s.size ≤ 1000000) (hf : (!hasLF s && decide (s.size ≤ 2000)) = false) : Calls Try.prog 19 #[.string s] w (LineRPost w [] 1) := by
  have HI : Hid (∀ W, Calls Try.prog 29 #[.string s] W fun e w' => e = .returned (.bool false) ∧ ∃ n, w' = W.drewN n) := Lib.hid fun W => by
    have := isLine_calls s hs W
    rw [hf] at this
    exact this
  clear hf
  go_enter Try.func19, Try.ntmps19
  go_wp2_with (go_at_call 29; refine Calls.mono (HI.out _) ?_; rintro e w' ⟨rfl, n, rfl⟩)
  go_ret2
  exact ⟨.slice none 0 0, rfl, World.ownsRow_nil _ _ _ _, below_dr (Below.refl _ _)⟩
theorem rLine_calls (s : ByteArray) (w : World) (hs : s.size ≤ 1000000) : Calls Try.prog 19 #[.string s] w (LineRPost w (lineL s).1 (lineL s).2) := by
  unfold lineL
  by_cases h : 2000 < s.size
  · rw [if_pos (.inl h)]
    exact rLine_not s w hs (by rw [decide_eq_false (by omega : ¬ s.size ≤ 2000)]; simp)
  · rcases hf : hasLF s with _ | _
    · rw [if_neg (by rintro (h' | h'); exact h h'; cases h')]
      have := rLine_is s w (by omega) hf
      rcases ho : lineM s with _ | l
      · rw [ho] at this; exact this
      · rw [ho] at this; exact this
    · rw [if_pos (.inr rfl)]
      exact rLine_not s w hs (by rw [hf]; rfl)
end Go.Proofs.Ytaokofnhkojllaa

set_option linter.unusedVariables false
set_option linter.unusedSimpArgs false
namespace Go.Opens
open Go.RowKit Go.ChangeShapes Go.WideShapes Go.Proofs.YtaokofnhkojllaaW.PrintWords
variable {P : Program}

/-- Whatever reads as a value of type t is, by the kind d, some a of which wf holds. -/
structure Opens (P : Program) (t : TypeId) {α : Type} (d : Kd α) (wf : α → Prop) : Prop where
  size : P.cellsOf t = d.sz
  opens : ∀ {H : Type} {enc : TypeId × Value → H} {w : World} {base : Nat} {sp : Nat → Bool} {held : Bool} {fuel : Nat} {cs : List Value} {x : DataW H × List MemPlace},
    DataW.trod enc P w base sp held fuel t cs = some x → ∃ a, d.K w a cs ∧ wf a

theorem Opens.int {t : TypeId} {k : IntKind} (ht : P.underlying t = some (.int k)) (hs : P.cellsOf t = 1) : Opens P t (Kd.int k) (fun n => (Lit.int k n).wf = true) := by
  refine ⟨hs, fun {H enc w base sp held fuel cs x} h => ?_⟩
  obtain ⟨n, rfl, _, hw⟩ := DataW.trod_int ht h
  exact ⟨n, rfl, hw⟩
theorem Opens.bool {t : TypeId} (ht : P.underlying t = some .bool) (hs : P.cellsOf t = 1) : Opens P t Kd.bool (fun _ => True) := by
  refine ⟨hs, fun {H enc w base sp held fuel cs x} h => ?_⟩
  obtain ⟨n, rfl, _⟩ := DataW.trod_bool ht h
  exact ⟨n, rfl, trivial⟩
theorem Opens.string {t : TypeId} (ht : P.underlying t = some .string) (hs : P.cellsOf t = 1) : Opens P t Kd.string (fun s => s.size ≤ maxLen) := by
  refine ⟨hs, fun {H enc w base sp held fuel cs x} h => ?_⟩
  obtain ⟨n, rfl, _, hw⟩ := DataW.trod_string ht h
  exact ⟨n, rfl, hw⟩
theorem Opens.imp {t : TypeId} {α : Type} {d : Kd α} {wf wf' : α → Prop} (h : Opens P t d wf) (hi : ∀ a, wf a → wf' a) : Opens P t d wf' :=
  ⟨h.size, fun hx => let ⟨a, h1, h2⟩ := h.opens hx; ⟨a, h1, hi a h2⟩⟩

theorem cells_of {w : World} {base n : Nat} {a : Addr} {cs : List Value} (h : w.cells? base a n = some cs) : cs.length = n ∧ ∀ i u, cs[i]? = some u → w.cell? (a.add i) = some u := by
  obtain ⟨_, h1, h2⟩ := World.cells?_some h
  refine ⟨h1, fun i u hu => ?_⟩
  have hi : i < n := by have := (List.getElem?_eq_some_iff.1 hu).1; omega
  rw [h2 i hi]; exact hu

theorem Opens.slice {t e : TypeId} {α : Type} {d : Kd α} {wf : α → Prop} (he : Opens P e d wf) (ht : P.underlying t = some (.slice e)) (hs : P.cellsOf t = 1) :
    Opens P t (Kd.slice e d) (fun l => l.length ≤ 9223372036854775807 ∧ ∀ a ∈ l, wf a) := by
  refine ⟨hs, fun {H enc w base sp held fuel cs x} h => ?_⟩
  rcases Go.Deep.open_slice ht h with ⟨rfl, _⟩ | ⟨a, len, cap, m, n, D, Pl, rfl, hb, hlc, hcap, hm, hx0, hel⟩
  · exact ⟨[], ⟨none, 0, rfl, Nat.le_refl _, rfl, by simp, fun h => absurd h (by simp)⟩, by simp, by simp⟩
  · have hlm : len ≤ m := by rw [hm]; split <;> omega
    have hall : ∀ i, i < len → ∃ q : α, (∃ c, c.length = d.sz ∧ d.K w q c ∧ ∀ j u, c[j]? = some u → w.cell? (a.add (i * d.sz + j)) = some u) ∧ wf q := by
      intro i hi
      obtain ⟨cs', hc, htr⟩ := hel i (by omega)
      obtain ⟨q, hq, hw⟩ := he.opens htr
      obtain ⟨h1, h2⟩ := cells_of hc
      refine ⟨q, ⟨cs', d.K_len hq, hq, fun j u hu => ?_⟩, hw⟩
      have := h2 j u hu
      rw [Go.Deep.add_add, he.size] at this
      exact this
    have hex : ∃ l : List α, l.length = len ∧ ∀ i q, l[i]? = some q → (∃ c, c.length = d.sz ∧ d.K w q c ∧ ∀ j u, c[j]? = some u → w.cell? (a.add (i * d.sz + j)) = some u) ∧ wf q := by
      clear hel hm hlm h hlc hx0 hcap
      induction len with
      | zero => exact ⟨[], rfl, fun i q h => by simp at h⟩
      | succ k ih =>
        obtain ⟨l, h1, h2⟩ := ih (fun i hi => hall i (by omega))
        obtain ⟨q, hq⟩ := hall k (by omega)
        refine ⟨l ++ [q], by simp [h1], fun i q' hq' => ?_⟩
        by_cases hi : i < l.length
        · rw [List.getElem?_append_left hi] at hq'
          exact h2 i q' hq'
        · have hk : i = k := by
            have := (List.getElem?_eq_some_iff.1 hq').1
            simp at this
            omega
          subst hk
          rw [List.getElem?_append_right (by omega), h1] at hq'
          simp at hq'
          subst hq'
          exact hq
    obtain ⟨l, h1, h2⟩ := hex
    have hc64 : len ≤ 9223372036854775807 := by unfold maxLen at hcap; omega
    refine ⟨l, ⟨some a, cap, by rw [h1], by omega, rfl, by omega, fun _ => ⟨a, rfl, fun j q hq => (h2 j q hq).1⟩⟩, by omega, fun q hq => ?_⟩
    obtain ⟨i, hi, rfl⟩ := List.mem_iff_getElem.1 hq
    exact (h2 i _ (List.getElem?_eq_getElem hi)).2

/-- Fields in line, from cell off on. -/
structure Fields (P : Program) (fs : List Go.Field) (off : Nat) {α : Type} (d : Kd α) (wf : α → Prop) : Prop where
  opens : ∀ {H : Type} {enc : TypeId × Value → H} {w : World} {base : Nat} {sp : Nat → Bool} {held : Bool} {n : Nat} {cs : List Value},
    (∀ (i : Nat) (f : Go.Field), fs[i]? = some f → ∃ x, DataW.trod enc P w base sp held n f.type ((cs.drop f.offset).take (P.cellsOf f.type)) = some x) → cs.length = off + d.sz → ∃ a, d.K w a (cs.drop off) ∧ wf a
theorem Fields.one {f : Go.Field} {off : Nat} {α : Type} {d : Kd α} {wf : α → Prop} (h : Opens P f.type d wf) (ho : f.offset = off) : Fields P [f] off d wf := by
  refine ⟨fun {H enc w base sp held n cs} hall hl => ?_⟩
  obtain ⟨x, hx⟩ := hall 0 f rfl
  rw [ho, List.take_of_length_le (by rw [List.length_drop, h.size]; omega)] at hx
  exact h.opens hx
theorem Fields.cons {f : Go.Field} {fs : List Go.Field} {off : Nat} {α β : Type} {d : Kd α} {d2 : Kd β} {wf : α → Prop} {wf2 : β → Prop} (h : Opens P f.type d wf) (ho : f.offset = off) (h2 : Fields P fs (off + d.sz) d2 wf2) :
    Fields P (f :: fs) off (Kd.pair d d2) (fun p => wf p.1 ∧ wf2 p.2) := by
  refine ⟨fun {H enc w base sp held n cs} hall hl => ?_⟩
  have hl' : cs.length = off + (d.sz + d2.sz) := hl
  obtain ⟨x, hx⟩ := hall 0 f rfl
  rw [ho, h.size] at hx
  obtain ⟨a, ha, hwa⟩ := h.opens hx
  obtain ⟨b, hb, hwb⟩ := h2.opens (H := H) (enc := enc) (w := w) (base := base) (sp := sp) (held := held) (n := n) (cs := cs) (fun i g hg => hall (i + 1) g (by simpa using hg)) (by omega)
  refine ⟨(a, b), ⟨_, _, ?_, ha, hb⟩, hwa, hwb⟩
  rw [← List.drop_drop, List.take_append_drop]
theorem Opens.struct {t : TypeId} {fs : Array Go.Field} {α : Type} {d : Kd α} {wf : α → Prop} (ht : P.underlying t = some (.struct fs)) (hs : P.cellsOf t = d.sz) (h : Fields P fs.toList 0 d wf) : Opens P t d wf := by
  refine ⟨hs, fun {H enc w base sp held fuel cs x} hx => ?_⟩
  obtain ⟨xs, n, _, _, hl, hn, hf⟩ := DataW.trod_struct ht hx
  have := h.opens (H := H) (enc := enc) (w := w) (base := base) (sp := sp) (held := held) (n := n) (cs := cs) (fun i f hi => ?_) (by omega)
  · simpa using this
  · have hi' : fs[i]? = some f := by simpa using hi
    have hlt : i < fs.size := (Array.getElem?_eq_some_iff.1 hi').1
    rw [hf i f hi']
    exact ⟨_, List.getElem?_eq_getElem (by omega)⟩
theorem Opens.iso {t : TypeId} {α β : Type} {d : Kd α} {wf : α → Prop} (h : Opens P t d wf) (f : β → α) (g : α → β) (hfg : ∀ a, f (g a) = a) : Opens P t (Kd.iso d f) (fun b => wf (f b)) := by
  refine ⟨h.size, fun hx => ?_⟩
  obtain ⟨a, h1, h2⟩ := h.opens hx
  exact ⟨g a, by show d.K _ (f (g a)) _; rw [hfg]; exact h1, by rw [hfg]; exact h2⟩

/-- A parameter that is a slice: its value and what it holds. -/
theorem open_row {t e : TypeId} {α : Type} {d : Kd α} {wf : α → Prop} (he : Opens P e d wf) (ht : P.underlying t = some (.slice e)) (hs : P.cellsOf t = 1) {H : Type} {enc : TypeId × Value → H} {w : World} {base : Nat} {sp : Nat → Bool} {held : Bool} {v : Value} {x : DataW H} {ps : List MemPlace}
    (h : DataW.Trod enc P w base sp held t v x ps) (hv : ∃ a n c, v = .slice a n c) : ∃ A c l, v = .slice A l.length c ∧ l.length ≤ c ∧ l.length ≤ 9223372036854775807 ∧ d.C w A l.length l ∧ ∀ a ∈ l, wf a := by
  obtain ⟨fuel, hf⟩ := h
  obtain ⟨l, ⟨A, c, h1, h2, h3⟩, h4, h5⟩ := (Opens.slice he ht hs).opens hf
  obtain ⟨a0, n0, c0, rfl⟩ := hv
  simp [Value.cells] at h1
  obtain ⟨rfl, rfl, rfl⟩ := h1
  exact ⟨_, _, l, rfl, h2, h4, h3, h5⟩

/-- A parameter that is a struct. -/
theorem open_agg {t : TypeId} {fs : Array Go.Field} {α : Type} {d : Kd α} {wf : α → Prop} (he : Opens P t d wf) (ht : P.underlying t = some (.struct fs)) {H : Type} {enc : TypeId × Value → H} {w : World} {base : Nat} {sp : Nat → Bool} {held : Bool} {v : Value} {x : DataW H} {ps : List MemPlace} {r : Reach} {b0 : Nat}
    (h : DataW.Trod enc P w base sp held t v x ps) (hv : Value.okWide P w r b0 t v) : ∃ cs a, v = .agg cs ∧ d.K w a cs.toList ∧ wf a := by
  obtain ⟨fuel, hf⟩ := h
  obtain ⟨a, h1, h2⟩ := he.opens hf
  obtain ⟨cs, rfl, _⟩ := okWide_struct ht hv
  exact ⟨cs, a, rfl, h1, h2⟩

/-- The elements of a row that is read, by their places. -/
theorem C_at {α : Type} {d : Kd α} {w : World} {A : Option Addr} {l : List α} (h : d.C w A l.length l) (hsz : 0 < d.sz) (hn : 0 < l.length) : ∃ b off, A = some ⟨b, off, none⟩ ∧ b < w.heap.size ∧
    ∀ i (hi : i < l.length), ∃ c, c.length = d.sz ∧ d.K w l[i] c ∧ ∀ j u, c[j]? = some u → w.cell? ⟨b, off + i * d.sz + j, none⟩ = some u := by
  obtain ⟨ad, rfl, hc⟩ := h.2.2 hn
  have hcell : ∀ i (hi : i < l.length), ∃ c, c.length = d.sz ∧ d.K w l[i] c ∧ ∀ j u, c[j]? = some u → w.cell? (ad.add (i * d.sz + j)) = some u := fun i hi => hc i _ (List.getElem?_eq_getElem hi)
  obtain ⟨c0, h1, h2, h3⟩ := hcell 0 hn
  have h0 : w.cell? ad = some (c0[0]'(by omega)) := by
    have := h3 0 _ (List.getElem?_eq_getElem (by omega))
    simpa [Addr.add] using this
  obtain ⟨b, off, spot⟩ := ad
  have hspot : spot = none := by
    cases spot with
    | none => rfl
    | some q =>
      exfalso
      unfold World.cell? at h0
      split at h0
      · simp at h0
      · cases h0
  subst hspot
  refine ⟨b, off, rfl, World.block_lt_of_cell? w ⟨b, off, none⟩ h0, fun i hi => ?_⟩
  obtain ⟨c, g1, g2, g3⟩ := hcell i hi
  refine ⟨c, g1, g2, fun j u hu => ?_⟩
  have := g3 j u hu
  unfold Addr.add at this
  split at this
  · rename_i hz
    have : i * d.sz = 0 := by omega
    have hj : j = 0 := by omega
    subst hj
    simp_all
  · simpa [Nat.add_assoc] using this
end Go.Opens

set_option linter.unusedVariables false
set_option linter.unusedSimpArgs false
namespace Go.Proofs.Ytaokofnhkojllaa
open Go.Shelf Go.RowKit Go.Lib Go.Aids Go.MapLit Go.Proofs.YtaokofnhkojllaaW.PrintWords

def saneL : List Tok := [⟨0, ⟨#[97]⟩, 0⟩, ⟨10, ⟨#[73]⟩, 0⟩, ⟨0, ⟨#[98]⟩, 0⟩, ⟨10, ⟨#[80]⟩, 0⟩]
theorem sane_line : lineL ⟨#[97, 92, 102, 73, 98, 92, 102, 80]⟩ = (saneL, 0) := by kernel_rfl
theorem sane_calls (w : World) : Calls Try.prog 7 #[] w fun e w' => e = .returned (.bool true) ∧ Below w.heap.size w w' := by
  have hC := fun W => Line_calls ⟨#[97, 92, 102, 73, 98, 92, 102, 80]⟩ W
  simp only [sane_line] at hC
  have HC := Lib.hid hC
  clear hC
  go_enter Try.func7, Try.ntmps7
  go_wp2_with fail
  refine (HC.out _).mono ?_
  rintro e w1 ⟨v, rfl, hown, hb⟩
  have hown : w1.ownsRow w.heap.size 28 3 v 4 (cellsOf saneL) := hown
  obtain ⟨g, cap, rfl, hgb, hgl⟩ := hown.form (by decide)
  have k0 : w1.cell? ⟨g, 3, none⟩ = some (.int .i64 10) := by rw [hown.cellAt _ (by decide)]; rfl
  have k1 : w1.cell? ⟨g, 4, none⟩ = some (.string ⟨#[73]⟩) := by rw [hown.cellAt _ (by decide)]; rfl
  have k2 : w1.cell? ⟨g, 10, none⟩ = some (.string ⟨#[80]⟩) := by rw [hown.cellAt _ (by decide)]; rfl
  clear hown
  go_wp2
  go_ret
  exact ⟨rfl, hb⟩

def plain (c : Nat) : Prop := c = 32 ∨ (97 ≤ c ∧ c ≤ 122) ∨ (65 ≤ c ∧ c ≤ 90) ∨ (48 ≤ c ∧ c ≤ 57)
instance (c : Nat) : Decidable (plain c) := by unfold plain; infer_instance
def plainTok (c : Nat) : Tok := if c = 32 then ⟨1, ⟨#[]⟩, 0⟩ else ⟨0, oneS c, 0⟩
def plainL (s : ByteArray) (n : Nat) : List Tok := (List.range n).map fun k => plainTok (pk s k)
theorem plainL_succ (s : ByteArray) (n : Nat) : plainL s (n + 1) = plainL s n ++ [plainTok (pk s n)] := by
  unfold plainL; rw [List.range_succ, List.map_append]; rfl
theorem step_plain (s : ByteArray) (a : Nat) (h : plain (pk s a)) : stepM s a = .go [plainTok (pk s a)] (a + 1) := by
  unfold stepM plainTok
  simp only
  unfold plain at h
  rw [if_neg (by omega)]
  by_cases h32 : pk s a = 32
  · rw [if_pos h32, if_pos h32]
  · rw [if_neg h32, if_neg (by omega), if_neg h32, if_pos (by unfold seenB; rw [decide_eq_true_eq]; omega)]
theorem line_plain (s : ByteArray) (h : ∀ k, k < s.size → plain (pk s k)) : ∀ f a, a ≤ s.size → s.size ≤ a + f → lineF s f (plainL s a) a = some (plainL s s.size)
  | 0, a, h1, h2 => by
    obtain rfl : a = s.size := by omega
    rfl
  | f + 1, a, h1, h2 => by
    rw [lineF]
    by_cases hlt : a < s.size
    · rw [if_pos hlt, step_plain s a (h a hlt)]
      simp only
      rw [← plainL_succ]
      exact line_plain s h f (a + 1) (by omega) (by omega)
    · rw [if_neg hlt]
      obtain rfl : a = s.size := by omega
      rfl
theorem lineL_plain (s : ByteArray) (h : ∀ k, k < s.size → plain (pk s k)) (hs : ¬ 2000 < s.size) : lineL s = (plainL s s.size, 0) := by
  have hlf : hasLF s = false := by
    unfold hasLF
    rw [decide_eq_false_iff_not]
    intro hf
    have h1 := findB_at s 0 10 hf (Nat.zero_le _)
    have h2 := h _ hf
    rw [h1] at h2
    exact absurd h2 (by decide)
  have hst : startM s = 0 := by
    unfold startM
    rw [if_neg]
    rintro ⟨h1, -⟩
    have := h 0 (pk_lt (by omega))
    rw [h1] at this
    exact absurd this (by decide)
  unfold lineL lineM
  rw [if_neg (by rintro (h' | h'); exact hs h'; rw [hlf] at h'; cases h'), hst]
  have := line_plain s h s.size 0 (Nat.zero_le _) (by omega)
  rw [show plainL s 0 = [] from rfl] at this
  rw [this]
/-- Where a row of tokens lies, and what its cells are. -/
theorem own_toks {w : World} {base n : Nat} {A : Option Addr} {l : List Tok} (h : w.ownsRow base 28 3 (.slice A l.length n) l.length (cellsOf l)) (k : Nat) (hk : k < l.length) :
    ∃ g, A = some ⟨g, 0, none⟩ ∧ g < w.heap.size ∧ w.cell? ⟨g, k * 3, none⟩ = some (.int .i64 l[k].kind) ∧ w.cell? ⟨g, k * 3 + 1, none⟩ = some (.string l[k].text) ∧ w.cell? ⟨g, k * 3 + 2, none⟩ = some (.int .i64 l[k].n) := by
  obtain ⟨g, cap, e, hgb, hgl⟩ := h.form (by omega)
  injection e with e1 e2 e3
  subst e1
  have hl := cellsOf_len l
  obtain ⟨c1, c2, c3⟩ := cellsOf_at l k hk
  rw [← e3] at *
  exact ⟨g, rfl, hgl, by rw [h.cellAt _ (by omega)]; exact c1, by rw [h.cellAt _ (by omega)]; exact c2, by rw [h.cellAt _ (by omega)]; exact c3⟩
theorem plainL_len (s : ByteArray) (n : Nat) : (plainL s n).length = n := by simp [plainL]
theorem plainL_at (s : ByteArray) (n k : Nat) (h : k < (plainL s n).length) : (plainL s n)[k] = plainTok (pk s k) := by simp [plainL]
set_option maxRecDepth 100000 in
set_option maxHeartbeats 4000000 in
theorem plain_calls (s : ByteArray) (w : World) : Calls Try.prog 3 #[.string s] w fun e w' => e = .returned (.bool true) ∧ Below w.heap.size w w' := by
  have HS := Lib.hid (fun W => sane_calls W)
  by_cases hbig : 2000 < s.size
  · go_enter Try.func3, Try.ntmps3
    go_wp2_with (go_at_call 7; refine (HS.out _).mono ?_; rintro e w1 ⟨rfl, hb⟩)
    go_ret
    exact ⟨rfl, hb⟩
  have HL := Lib.hid (fun (h : ∀ k, k < s.size → plain (pk s k)) W => show Calls Try.prog 8 #[.string s] W (LinePost W (plainL s s.size) 0) from by have := Line_calls s W; rw [lineL_plain s h hbig] at this; exact this)
  have hsz : s.size ≤ 2000 := by omega
  go_enter Try.func3, Try.ntmps3
  go_wp2
  go_loop [3] (fun i => ∃ k : Nat, k ≤ s.size ∧ i = .int .i64 k ∧ Hid (∀ j, j < k → plain (pk s j))) (fun i => s.size - (RowKit.intOf i).toNat)
  case atStart => exact ⟨0, Nat.zero_le _, rfl, Lib.hid (fun j hj => absurd hj (Nat.not_lt_zero _))⟩
  case round =>
    obtain ⟨k, hk, rfl, H⟩ := hrel
    by_cases hlt : k < s.size
    · have hi : (k : Int) < s.size := by omega
      have H2 : Hid (plain (pk s k) → ∀ j, j < k + 1 → plain (pk s j)) := Lib.hid fun hp j hj => by
        by_cases e : j = k
        · subst e; exact hp
        · exact H.out j (by omega)
      have hx := pk_get s k hlt
      have h256 := pk_256 s k
      rw [hx] at h256
      by_cases q0 : s[k].toNat = 32
      · have HP := Lib.hid (H2.out (by rw [hx]; unfold plain; omega))
        have f32 : ((s[k].toNat : Int) == 32) = true := by rw [beq_iff_eq]; omega
        clear q0 hx h256 H2
        go_wp2
        go_round
        case rel => exact ⟨k + 1, by omega, by go_num, HP⟩
        case measure => simp [RowKit.intOf]; omega
      by_cases q1 : 97 ≤ s[k].toNat ∧ s[k].toNat ≤ 122
      · have HP := Lib.hid (H2.out (by rw [hx]; unfold plain; omega))
        have f32 : ((s[k].toNat : Int) == 32) = false := by rw [beq_eq_false_iff_ne]; omega
        have ge97 : decide (97 ≤ (s[k].toNat : Int)) = true := decide_eq_true (by omega)
        have le122 : decide ((s[k].toNat : Int) ≤ 122) = true := decide_eq_true (by omega)
        clear q0 q1 hx h256 H2
        go_wp2
        go_round
        case rel => exact ⟨k + 1, by omega, by go_num, HP⟩
        case measure => simp [RowKit.intOf]; omega
      by_cases q2 : 65 ≤ s[k].toNat ∧ s[k].toNat ≤ 90
      · have HP := Lib.hid (H2.out (by rw [hx]; unfold plain; omega))
        have f32 : ((s[k].toNat : Int) == 32) = false := by rw [beq_eq_false_iff_ne]; omega
        have ge97 : decide (97 ≤ (s[k].toNat : Int)) = false := decide_eq_false (by omega)
        have ge65 : decide (65 ≤ (s[k].toNat : Int)) = true := decide_eq_true (by omega)
        have le90 : decide ((s[k].toNat : Int) ≤ 90) = true := decide_eq_true (by omega)
        clear q0 q1 q2 hx h256 H2
        go_wp2
        go_round
        case rel => exact ⟨k + 1, by omega, by go_num, HP⟩
        case measure => simp [RowKit.intOf]; omega
      by_cases q3 : 48 ≤ s[k].toNat ∧ s[k].toNat ≤ 57
      · have HP := Lib.hid (H2.out (by rw [hx]; unfold plain; omega))
        have f32 : ((s[k].toNat : Int) == 32) = false := by rw [beq_eq_false_iff_ne]; omega
        have ge97 : decide (97 ≤ (s[k].toNat : Int)) = false := decide_eq_false (by omega)
        have ge65 : decide (65 ≤ (s[k].toNat : Int)) = false := decide_eq_false (by omega)
        have ge48 : decide (48 ≤ (s[k].toNat : Int)) = true := decide_eq_true (by omega)
        have le57 : decide ((s[k].toNat : Int) ≤ 57) = true := decide_eq_true (by omega)
        clear q0 q1 q2 q3 hx h256 H2
        go_wp2
        go_round
        case rel => exact ⟨k + 1, by omega, by go_num, HP⟩
        case measure => simp [RowKit.intOf]; omega
      by_cases q4 : s[k].toNat < 48
      · skip
        have f32 : ((s[k].toNat : Int) == 32) = false := by rw [beq_eq_false_iff_ne]; omega
        have ge97 : decide (97 ≤ (s[k].toNat : Int)) = false := decide_eq_false (by omega)
        have ge65 : decide (65 ≤ (s[k].toNat : Int)) = false := decide_eq_false (by omega)
        have ge48 : decide (48 ≤ (s[k].toNat : Int)) = false := decide_eq_false (by omega)
        clear q0 q1 q2 q3 q4 hx h256 H2
        go_wp2_with (go_at_call 7; refine (HS.out _).mono ?_; rintro e w1 ⟨rfl, hb⟩)
        go_ret
        exact ⟨rfl, hb⟩
      by_cases q5 : s[k].toNat < 65
      · skip
        have f32 : ((s[k].toNat : Int) == 32) = false := by rw [beq_eq_false_iff_ne]; omega
        have ge97 : decide (97 ≤ (s[k].toNat : Int)) = false := decide_eq_false (by omega)
        have ge65 : decide (65 ≤ (s[k].toNat : Int)) = false := decide_eq_false (by omega)
        have ge48 : decide (48 ≤ (s[k].toNat : Int)) = true := decide_eq_true (by omega)
        have le57 : decide ((s[k].toNat : Int) ≤ 57) = false := decide_eq_false (by omega)
        clear q0 q1 q2 q3 q4 q5 hx h256 H2
        go_wp2_with (go_at_call 7; refine (HS.out _).mono ?_; rintro e w1 ⟨rfl, hb⟩)
        go_ret
        exact ⟨rfl, hb⟩
      by_cases q6 : s[k].toNat < 97
      · skip
        have f32 : ((s[k].toNat : Int) == 32) = false := by rw [beq_eq_false_iff_ne]; omega
        have ge97 : decide (97 ≤ (s[k].toNat : Int)) = false := decide_eq_false (by omega)
        have ge65 : decide (65 ≤ (s[k].toNat : Int)) = true := decide_eq_true (by omega)
        have le90 : decide ((s[k].toNat : Int) ≤ 90) = false := decide_eq_false (by omega)
        have ge48 : decide (48 ≤ (s[k].toNat : Int)) = true := decide_eq_true (by omega)
        have le57 : decide ((s[k].toNat : Int) ≤ 57) = false := decide_eq_false (by omega)
        clear q0 q1 q2 q3 q4 q5 q6 hx h256 H2
        go_wp2_with (go_at_call 7; refine (HS.out _).mono ?_; rintro e w1 ⟨rfl, hb⟩)
        go_ret
        exact ⟨rfl, hb⟩
      by_cases q7 : True
      · skip
        have f32 : ((s[k].toNat : Int) == 32) = false := by rw [beq_eq_false_iff_ne]; omega
        have ge97 : decide (97 ≤ (s[k].toNat : Int)) = true := decide_eq_true (by omega)
        have le122 : decide ((s[k].toNat : Int) ≤ 122) = false := decide_eq_false (by omega)
        have ge65 : decide (65 ≤ (s[k].toNat : Int)) = true := decide_eq_true (by omega)
        have le90 : decide ((s[k].toNat : Int) ≤ 90) = false := decide_eq_false (by omega)
        have ge48 : decide (48 ≤ (s[k].toNat : Int)) = true := decide_eq_true (by omega)
        have le57 : decide ((s[k].toNat : Int) ≤ 57) = false := decide_eq_false (by omega)
        clear q0 q1 q2 q3 q4 q5 q6 q7 hx h256 H2
        go_wp2_with (go_at_call 7; refine (HS.out _).mono ?_; rintro e w1 ⟨rfl, hb⟩)
        go_ret
        exact ⟨rfl, hb⟩
      exact absurd trivial q7
    · obtain rfl : k = s.size := by omega
      have HC := Lib.hid (fun W => HL.out H.out W)
      clear HL
      go_wp2_with fail
      refine (HC.out _).mono ?_
      rintro e w1 ⟨v, rfl, hown, hb⟩
      have HT : Hid (∀ k (hk : k < (plainL s s.size).length), v = v) := Lib.hid (fun _ _ => rfl)
      obtain ⟨A, n, rfl⟩ := own_slice hown
      have HO := Lib.hid (fun k hk => own_toks hown k hk)
      have HN := Lib.hid (fun k hk => plainL_at s s.size k hk)
      have HP := Lib.hid (plainL_len s s.size)
      rw [plainL_len]
      clear hown HT
      go_wp2
      go_loopw [7] (fun i wr => ∃ k : Nat, k ≤ s.size ∧ i = .int .i64 k ∧ Below w1.heap.size w1 wr) (fun i _ => s.size - (RowKit.intOf i).toNat)
      case atStart => exact ⟨0, Nat.zero_le _, rfl, Below.refl _ _⟩
      case round =>
        obtain ⟨k, hk, rfl, hbr⟩ := hrel
        by_cases hlt : k < s.size
        · obtain ⟨g, rfl, hgl, c0, c1, c2⟩ := HO.out k (by rw [HP.out]; exact hlt)
          rw [HN.out k _] at c0 c1 c2
          have c0 := ((bcell hbr).1 g (k * 3) hgl).trans c0
          have c1 := ((bcell hbr).1 g (k * 3 + 1) hgl).trans c1
          have c2 := ((bcell hbr).1 g (k * 3 + 2) hgl).trans c2
          have hgl : g < wr.heap.size := by have := hbr.size; omega
          have hi : (k : Int) < s.size := by omega
          have hx := pk_get s k hlt
          by_cases h32 : pk s k = 32
          · have ht : plainTok (pk s k) = ⟨1, ⟨#[]⟩, 0⟩ := by unfold plainTok; rw [if_pos h32]
            rw [ht] at c0 c1 c2
            rw [hx] at h32
            have f1 : ((s[k].toNat : Int) == 32) = true := by rw [beq_iff_eq]; omega
            have f2 : ((s[k].toNat : Int) != 32) = false := by rw [bne, f1]; rfl
            clear h32 hx ht
            go_wp2
            go_quiet (fail)
            go_wp2
            go_roundw
            case rel => exact ⟨k + 1, by omega, by go_num, belowN hbr _⟩
            case measure => simp [RowKit.intOf]; omega
          · have ht : plainTok (pk s k) = ⟨0, oneS (pk s k), 0⟩ := by unfold plainTok; rw [if_neg h32]
            rw [ht] at c0 c1 c2
            have hcut : s.extract k (k + 1) = oneS (pk s k) := ext_one s k hlt
            rw [← hcut] at c1
            rw [hx] at h32
            have f1 : ((s[k].toNat : Int) == 32) = false := by rw [beq_eq_false_iff_ne]; omega
            have f2 : ((s[k].toNat : Int) != 32) = true := by rw [bne, f1]; rfl
            clear h32 hx ht hcut
            go_wp2
            go_quiet (fail)
            go_wp2
            go_roundw
            case rel => exact ⟨k + 1, by omega, by go_num, belowN hbr _⟩
            case measure => simp [RowKit.intOf]; omega
        · obtain rfl : k = s.size := by omega
          go_wp2_with (go_at_call 7; refine (HS.out _).mono ?_; rintro e w3 ⟨rfl, hb3⟩)
          go_ret
          exact ⟨rfl, (hb.trans (hbr.mono hb.size)).trans (hb3.mono (by have := hb.size; have := hbr.size; omega))⟩
end Go.Proofs.Ytaokofnhkojllaa

set_option linter.unusedVariables false
set_option linter.unusedSimpArgs false
namespace Go.Proofs.Ytaokofnhkojllaa
open Go.RowKit Go.Opens Go.Lib Go.Aids Go.Proofs.YtaokofnhkojllaaW.PrintWords

def wfI (n : Int) : Prop := (Lit.int .i64 n).wf = true
def wfB (n : Int) : Prop := (Lit.int .u8 n).wf = true
def wfS (s : ByteArray) : Prop := s.size ≤ maxLen
theorem o3 : Opens Try.prog 3 (Kd.int .i64) wfI := Opens.int Try.underlying3 (by kernel_rfl)
theorem o5 : Opens Try.prog 5 (Kd.int .u8) wfB := Opens.int Try.underlying5 (by kernel_rfl)
theorem o9 : Opens Try.prog 9 Kd.string wfS := Opens.string Try.underlying9 (by kernel_rfl)
abbrev TokT := Int × ByteArray × Int
def kTokT : Kd TokT := Kd.pair (Kd.int .i64) (Kd.pair Kd.string (Kd.int .i64))
def Tok.t (m : Tok) : TokT := (m.kind, m.text, m.n)
def Tok.of (t : TokT) : Tok := ⟨t.1, t.2.1, t.2.2⟩
def kTok : Kd Tok := Kd.iso kTokT Tok.t
def wfT (m : Tok) : Prop := wfI m.kind ∧ wfS m.text ∧ wfI m.n
theorem o28 : Opens Try.prog 28 kTok wfT := (Opens.iso (d := kTokT) (Opens.struct (d := kTokT) Try.underlying28 (by kernel_rfl)
  (Fields.cons o3 rfl (Fields.cons o9 rfl (Fields.one o3 rfl)))) Tok.t Tok.of (fun _ => rfl)).imp (fun m h => h)
theorem tok_cells {w : World} {m : Tok} {c : List Value} (h : kTok.K w m c) : c = [.int .i64 m.kind, .string m.text, .int .i64 m.n] := by
  obtain ⟨c0, r0, rfl, rfl, c1, r1, rfl, rfl, h2⟩ := h
  have e : r1 = [.int .i64 m.n] := h2
  subst e
  rfl
theorem toks_at {w : World} {A : Option Addr} {l : List Tok} (h : kTok.C w A l.length l) (hn : 0 < l.length) : ∃ b off, A = some ⟨b, off, none⟩ ∧ b < w.heap.size ∧
    ∀ k (hk : k < l.length), w.cell? ⟨b, off + k * 3, none⟩ = some (.int .i64 l[k].kind) ∧ w.cell? ⟨b, off + k * 3 + 1, none⟩ = some (.string l[k].text) ∧ w.cell? ⟨b, off + k * 3 + 2, none⟩ = some (.int .i64 l[k].n) := by
  obtain ⟨b, off, hA, hb, hc⟩ := C_at h (by show 0 < 3; omega) hn
  refine ⟨b, off, hA, hb, fun i hi => ?_⟩
  obtain ⟨c, _, hk, hcell⟩ := hc i hi
  have e := tok_cells hk
  subst e
  exact ⟨hcell 0 _ rfl, hcell 1 _ rfl, hcell 2 _ rfl⟩
end Go.Proofs.Ytaokofnhkojllaa

set_option linter.unusedVariables false
set_option linter.unusedSimpArgs false
namespace Go.Proofs.Ytaokofnhkojllaa
open Go.Shelf Go.RowKit Go.Lib Go.Aids Go.MapLit
attribute [local go_sem] Oper.semAt_some

def tok0 : Tok := ⟨0, ⟨#[]⟩, 0⟩
/-- The pair of a place. -/
def at2 (zs : List Tok) (m : Nat) : Nat × Tok := (m, zs.getD m tok0)
/-- What has come when k rounds are over. -/
def comes (zs : List Tok) (k : Nat) : List (Nat × Tok) := (List.range k).map fun j => at2 zs (zs.length - 1 - j)
theorem comes_succ (zs : List Tok) (k : Nat) : comes zs (k + 1) = comes zs k ++ [at2 zs (zs.length - 1 - k)] := by simp [comes, List.range_succ]
theorem comes_len (zs : List Tok) (k : Nat) : (comes zs k).length = k := by simp [comes]
abbrev encP (x : Nat × Tok) : Array Value := #[.int .i64 (x.1 : Int), .agg #[.int .i64 x.2.kind, .string x.2.text, .int .i64 x.2.n]]
/-- The tokens' cells, below a block. -/
def Toks (n₀ : Nat) (W : World) (A : Option Addr) (zs : List Tok) : Prop :=
  ∀ m, m < zs.length → ∃ b off, A = some ⟨b, off, none⟩ ∧ b < n₀ ∧ W.cell? ⟨b, off + m * 3, none⟩ = some (.int .i64 (zs.getD m tok0).kind) ∧ W.cell? ⟨b, off + m * 3 + 1, none⟩ = some (.string (zs.getD m tok0).text) ∧ W.cell? ⟨b, off + m * 3 + 2, none⟩ = some (.int .i64 (zs.getD m tok0).n)
theorem Toks.below {n₀ : Nat} {W W' : World} {A : Option Addr} {zs : List Tok} (h : Toks n₀ W A zs) (hb : Below n₀ W W') : Toks n₀ W' A zs := fun m hm => by
  obtain ⟨b, off, e, hlt, c0, c1, c2⟩ := h m hm
  exact ⟨b, off, e, hlt, (hb.cell (p := ⟨b, off + m * 3, none⟩) hlt).trans c0, (hb.cell (p := ⟨b, off + m * 3 + 1, none⟩) hlt).trans c1, (hb.cell (p := ⟨b, off + m * 3 + 2, none⟩) hlt).trans c2⟩

set_option maxRecDepth 100000 in
set_option maxHeartbeats 2000000 in
theorem back1_in (F : Fence) (n : Nat) (h33 : F.fn 33) (hro : F.round = none) (hn : 1 ≤ n) (l Bs n₀ cap : Nat) (A : Option Addr) (zs : List Tok) (hz : zs.length ≤ 1000000) (J Jx : List (Nat × Tok) → World → Prop)
    (hY : ∀ pre x W, J pre W → pre.length < zs.length → YieldAt F (n - 1) Try.prog l (encP x) W fun e W' =>
      (e = .returned (.bool true) ∧ J (pre ++ [x]) W' ∧ Below n₀ W W') ∨ (e = .returned (.bool false) ∧ Jx (pre ++ [x]) W'))
    (W : World) (hn₀ : Bs < n₀) (hBs : W.cell? ⟨Bs, 0, none⟩ = some (.slice A zs.length cap)) (hc : Toks n₀ W A zs) (h0 : J [] W) :
    CallsIn F n Try.prog 33 #[.func (.yield l) #[] #[], .pointer (some ⟨Bs, 0, none⟩)] W fun e W' => (∃ v, e = .returned v) ∧
      ((∃ ys, ys = comes zs zs.length ∧ J ys W') ∨ (∃ pre, (∃ k, k ≤ zs.length ∧ pre = comes zs k) ∧ Jx pre W')) := by
  refine callsIn_of_wp Try.func33 rfl h33 ?_ hro
  simp only [Try.ntmps33, List.size_toArray, List.length_cons, List.length_nil, Nat.reduceAdd, Nat.reduceSub, Array.replicate_succ, Array.replicate_zero, List.push_toArray, List.append_toArray, List.nil_append, List.cons_append]
  gi_wp2
  gi_loopw [3] (fun i wr => ∃ j : Nat, j ≤ zs.length ∧ i = .int .i64 ((j : Int) - 1) ∧ J (comes zs (zs.length - j)) wr ∧ Below n₀ W wr)
    (fun i _ => (intOf i + 1).toNat)
  case atStart => exact ⟨zs.length, Nat.le_refl _, rfl, by rw [Nat.sub_self]; exact h0, Below.refl _ _⟩
  case round =>
    obtain ⟨j, hj, rfl, hJs, hnx⟩ := hrel
    have hBr := (hnx.cell (p := ⟨Bs, 0, none⟩) hn₀).trans hBs
    rcases j with _ | m
    · rw [show (((0 : Nat) : Int) - 1) = -1 from rfl]
      gi_wp2
      go_end0
      exact ⟨⟨_, rfl⟩, .inl ⟨_, rfl, by rw [Nat.sub_zero] at hJs; exact hJs⟩⟩
    · obtain ⟨b, off, rfl, hb, c0, c1, c2⟩ := (hc.below hnx) m (by omega)
      have hxx : at2 zs (zs.length - 1 - (zs.length - (m + 1))) = at2 zs m := by rw [show zs.length - 1 - (zs.length - (m + 1)) = m by omega]
      have hup : comes zs (zs.length - m) = comes zs (zs.length - (m + 1)) ++ [at2 zs m] := by
        rw [show zs.length - m = zs.length - (m + 1) + 1 by omega, comes_succ, hxx]
      obtain ⟨fn, tmps, assign, body, hy, hR⟩ := hY _ (at2 zs m) wr hJs (by rw [comes_len]; omega)
      dsimp only [encP, at2] at hy
      rw [show (((m + 1 : Nat) : Int) - 1) = (m : Int) by omega]
      have hml : (m : Int) < zs.length := by omega
      have HU := Lib.hid hup
      clear hup hxx hc hY
      obtain ⟨zm, hzm⟩ : ∃ z, zs.getD m tok0 = z := ⟨_, rfl⟩
      rw [hzm] at c0 c1 c2 hy
      have hbl : b < wr.heap.size := by
        obtain ⟨o, ho, -⟩ := cells_of_cell c0
        exact (Array.getElem?_eq_some_iff.1 ho).1
      gi_wp2
      refine hR.mono ?_
      rintro e W3 (⟨rfl, hJ3, hk3⟩ | ⟨rfl, hJx3⟩)
      · gi_wp2
        go_roundw
        case rel => exact ⟨m, by omega, by simp, by rw [HU.out]; exact hJ3, hnx.trans hk3⟩
        case measure => simp [intOf]
      · gi_wp2
        refine bodyPost_ret (results_none rfl _ _ _) rfl ?_
        exact ⟨⟨_, rfl⟩, .inr ⟨_, ⟨zs.length - m, by omega, HU.out.symm⟩, hJx3⟩⟩

set_option maxHeartbeats 1000000 in
theorem back_in (F : Fence) (n : Nat) (h21 : F.fn 21) (hro : F.round = none) (a : Option Addr) (len cap : Nat) (w : World) :
    CallsIn F n Try.prog 21 #[.slice a len cap] w fun e w' => e = .returned (.func (.func 33) #[] #[.pointer (some ⟨w.heap.size, 0, none⟩)]) ∧ w' = w.alloc (.cells #[.slice a len cap] 23) := by
  refine callsIn_of_wp Try.func21 rfl h21 ?_ hro
  simp only [Try.ntmps21, List.size_toArray, List.length_cons, List.length_nil, Nat.reduceAdd, Nat.reduceSub, Array.replicate_succ, Array.replicate_zero, List.push_toArray, List.append_toArray, List.nil_append, List.cons_append]
  gi_wp2
  go_ret
  exact ⟨rfl, rfl⟩
theorem back_stops (F : Fence) (n : Nat) (h33 : F.fn 33) (hro : F.round = none) (hn : 1 ≤ n) (Bs n₀ cap : Nat) (A : Option Addr) (zs : List Tok) (hz : zs.length ≤ 1000000) (w : World) (hB : Bs < n₀) (hn₀ : n₀ ≤ w.heap.size)
    (hc : w.cell? ⟨Bs, 0, none⟩ = some (.slice A zs.length cap)) (hI : Toks n₀ w A zs) :
    SeqStopsK F n Try.prog 33 #[.pointer (some ⟨Bs, 0, none⟩)] encP (Below n₀) (fun ys => ys = comes zs zs.length) (fun pre => ∃ k, k ≤ zs.length ∧ pre = comes zs k) zs.length w := fun l J Jx W hW _ _ hY h0 => by
  exact back1_in F n h33 hro hn l Bs n₀ cap A zs hz J Jx hY W hB ((hW.cell (p := ⟨Bs, 0, none⟩) (show Bs < w.heap.size by omega)).trans hc) (hI.below (hW.mono hn₀)) h0

/-! What Ends tells. -/
theorem ends_skip (zs : List Tok) : ∀ k, k ≤ zs.length → (∀ p ∈ comes zs k, tellM p.2 = none) → endsM zs = endsF zs (zs.length - k)
  | 0, _, _ => rfl
  | k + 1, hk, h => by
    rw [ends_skip zs k (by omega) (fun p hp => h p (by rw [comes_succ]; exact List.mem_append.2 (.inl hp)))]
    have hl := h (at2 zs (zs.length - 1 - k)) (by rw [comes_succ]; exact List.mem_append.2 (.inr (by simp)))
    rw [show zs.length - k = (zs.length - 1 - k) + 1 by omega, endsF]
    have hlt : zs.length - 1 - k < zs.length := by omega
    have e : (at2 zs (zs.length - 1 - k)).2 = zs[zs.length - 1 - k] := by simp [at2, List.getD, hlt]
    rw [e] at hl
    rw [List.getElem?_eq_getElem hlt]
    simp only [hl]
    rw [show zs.length - (k + 1) = zs.length - 1 - k by omega]
theorem ends_stop (zs : List Tok) (k : Nat) (b : Bool) (hk : k < zs.length) (h : ∀ p ∈ comes zs k, tellM p.2 = none) (hb : tellM (at2 zs (zs.length - 1 - k)).2 = some b) : endsM zs = b := by
  rw [ends_skip zs k (by omega) h, show zs.length - k = (zs.length - 1 - k) + 1 by omega, endsF]
  have hlt : zs.length - 1 - k < zs.length := by omega
  have e : (at2 zs (zs.length - 1 - k)).2 = zs[zs.length - 1 - k] := by simp [at2, List.getD, hlt]
  rw [e] at hb
  rw [List.getElem?_eq_getElem hlt]
  simp only [hb]
theorem cont_a (c : Nat) (hc : c < 256) (w : World) : Calls Try.prog 16 #[.string ⟨#[46, 63, 33]⟩, .string (oneS c)] w fun e w' => e = .returned (.bool (decide (c = 46 ∨ c = 63 ∨ c = 33))) ∧ w = w' := by
  refine (Try.strings_Contains_one ⟨#[46, 63, 33]⟩ (UInt8.ofNat c) w).mono ?_
  rintro e w' ⟨rfl, rfl⟩
  refine ⟨?_, rfl⟩
  have key : ∀ c, c < 256 → decide (0 ≤ Lib.indexByte [46, 63, 33] (UInt8.ofNat c)) = decide (c = 46 ∨ c = 63 ∨ c = 33) := by decide +kernel
  rw [← key c hc]
theorem cont_b (c : Nat) (hc : c < 256) (w : World) : Calls Try.prog 16 #[.string ⟨#[34, 39, 41, 93]⟩, .string (oneS c)] w fun e w' => e = .returned (.bool (decide (c = 34 ∨ c = 39 ∨ c = 41 ∨ c = 93))) ∧ w = w' := by
  refine (Try.strings_Contains_one ⟨#[34, 39, 41, 93]⟩ (UInt8.ofNat c) w).mono ?_
  rintro e w' ⟨rfl, rfl⟩
  refine ⟨?_, rfl⟩
  have key : ∀ c, c < 256 → decide (0 ≤ Lib.indexByte [34, 39, 41, 93] (UInt8.ofNat c)) = decide (c = 34 ∨ c = 39 ∨ c = 41 ∨ c = 93) := by decide +kernel
  rw [← key c hc]

/-- The box of a round's token. -/
def TokB (W : World) (B : Nat) (t : Tok) : Prop := W.heap[B]? = some (.cells #[.int .i64 t.kind, .string t.text, .int .i64 t.n] 28 (0, 0))
theorem TokB.cells {W : World} {B : Nat} {t : Tok} (h : TokB W B t) : W.cell? ⟨B, 0, none⟩ = some (.int .i64 t.kind) ∧ W.cell? ⟨B, 1, none⟩ = some (.string t.text) ∧ W.cell? ⟨B, 2, none⟩ = some (.int .i64 t.n) ∧ B < W.heap.size := by
  unfold TokB at h
  refine ⟨by simp [World.cell?, h], by simp [World.cell?, h], by simp [World.cell?, h], (Array.getElem?_eq_some_iff.1 h).1⟩

theorem TokB.kept {X Y : World} {row : Option Nat} {B : Nat} {t : Tok} (h : TokB X B t) (hg : X.grownBy Y row) (hr : ∀ r, row = some r → ∃ o : Obj, X.heap[r]? = some o ∧ o.isCells = false) : TokB Y B t :=
  (grownBy_keeps_cells hg hr h rfl).trans h
theorem one_of_size {s : ByteArray} (h : s.size = 1) : s = oneS (pk s 0) := by
  have := ext_one s 0 (by omega)
  rw [← this]
  have e := ext_all s
  rw [h] at e
  exact e.symm
abbrev frL (w : World) (A : Option Addr) (cap : Nat) (zs : List Tok) (Bx : Nat) (x : Nat × Tok) : Act :=
  { tmps := #[.slice A zs.length cap, undef, .pointer (some ⟨w.heap.size, 0, none⟩), undef, .pointer (some ⟨Bx, 0, none⟩), .slice A zs.length cap, .func (.func 33) #[] #[.pointer (some ⟨w.heap.size + 1, 0, none⟩)], .int .i64 (x.1 : Int), .agg #[.int .i64 x.2.kind, .string x.2.text, .int .i64 x.2.n],
      undef, undef, undef, undef, undef, undef, undef, undef, undef, undef, undef, undef, undef, undef, undef, undef, undef, undef, undef, undef], defers := [] }
set_option maxRecDepth 100000 in
set_option maxHeartbeats 8000000 in
theorem ends_in (n : Nat) (hn : 3 ≤ n) (A : Option Addr) (cap : Nat) (zs : List Tok) (hz : zs.length ≤ 1000000) (w : World) (hI : Toks w.heap.size w A zs) :
    CallsIn Fence.wide n Try.prog 11 #[.slice A zs.length cap] w fun e W' => e = .returned (.bool (endsM zs)) ∧ Below w.heap.size w W' := by
  have h1 : 1 ≤ n := by omega
  have hro : Fence.wide.round = none := rfl
  refine callsIn_of_wp_marks Try.func11 rfl trivial ?_ hro
  simp only [Try.ntmps11, List.size_toArray, List.length_cons, List.length_nil, Nat.reduceAdd, Nat.reduceSub, Array.replicate_succ, Array.replicate_zero, List.push_toArray, List.append_toArray, List.nil_append, List.cons_append]
  gi_wp2_with (refine ⟨trivial, ?_⟩; gi_at_call 21; refine (back_in Fence.wide (n - 1) trivial hro _ _ _ _).mono ?_; rintro e w' ⟨rfl, rfl⟩)
  have bR := (Boxed.new w 4 (.bool false)).alloc (.cells #[.slice A zs.length cap] 23)
  have bN := Boxed.new (w.alloc (.cells #[.bool false] 4)) 23 (.slice A zs.length cap)
  rw [World.size_alloc] at bN
  have hB0 : Below w.heap.size w ((w.alloc (.cells #[.bool false] 4)).alloc (.cells #[.slice A zs.length cap] 23)) := ((Below.refl _ w).alloc (Nat.le_refl _) _).alloc (by simp) _
  have hsz : ((w.alloc (.cells #[.bool false] 4)).alloc (.cells #[.slice A zs.length cap] 23)).heap.size = w.heap.size + 2 := by simp
  obtain ⟨W0, hW0⟩ : ∃ W0, (w.alloc (.cells #[.bool false] 4)).alloc (.cells #[.slice A zs.length cap] 23) = W0 := ⟨_, rfl⟩
  rw [hW0] at bR bN hB0 hsz ⊢
  clear hW0
  have hI0 : Toks (w.heap.size + 2) W0 A zs := fun m hm => by
    obtain ⟨b, off, e, hlt, c0, c1, c2⟩ := (hI.below hB0) m hm
    exact ⟨b, off, e, by omega, c0, c1, c2⟩
  refine wpIn_rangeFunc_ownH hro h1 (gf := 33) (lb := #[.pointer (some ⟨w.heap.size + 1, 0, none⟩)]) rfl trivial (enters_of Try.func33 (by kernel_rfl) rfl)
    (back_stops Fence.wide (n - 1) trivial hro (by omega) (w.heap.size + 1) (w.heap.size + 2) cap A zs hz W0 (by omega) (by omega) bN.cell hI0) belowK_t (belowK_b (by omega)) (Below.refl _ _) (fun _ => rfl)
    (fun pre W => ((∀ p ∈ pre, tellM p.2 = none) ∧ Boxed W w.heap.size 4 (.bool false) ∧ Boxed W (w.heap.size + 1) 23 (.slice A zs.length cap)) ∧ Below w.heap.size w W)
    (fun c pre W => (c = .ret ∧ ∃ ini last b, pre = ini ++ [last] ∧ (∀ p ∈ ini, tellM p.2 = none) ∧ tellM last.2 = some b ∧ Boxed W w.heap.size 4 (.bool b)) ∧ Below w.heap.size w W)
    (OwnFrom.and (Own.from (fun s A B row hs hg hr => ⟨hs.1, boxed_own w.heap.size 4 (fun (_ : Unit) => Value.bool false) () A B row hs.2.1 hg hr, boxed_own (w.heap.size + 1) 23 (fun (_ : Unit) => Value.slice _ _ _) () A B row hs.2.2 hg hr⟩) _) (ownFrom_below (Nat.le_refl _) (by omega)))
    (fun c => OwnFrom.and (Own.from (fun s A B row hs hg hr => by obtain ⟨hc, ini, last, b, e1, e2, e3, e4⟩ := hs; exact ⟨hc, ini, last, b, e1, e2, e3, boxed_own w.heap.size 4 (fun (_ : Unit) => Value.bool b) () A B row e4 hg hr⟩) _) (ownFrom_below (Nat.le_refl _) (by omega)))
    ⟨⟨by simp, bR, bN⟩, hB0⟩
    (fun x a' W => ∃ Bx, w.heap.size + 1 < Bx ∧ TokB W Bx x.2 ∧ a' = frL w A cap zs Bx x)
    (fun x a' _ X Y row hs hg hr => by obtain ⟨Bx, h1, h2, h3⟩ := hs; exact ⟨Bx, h1, h2.kept hg (fun r e => (hr r e).2), h3⟩)
    ?assign ?body ?done ?stop
  case assign =>
    rintro l pre x W K ⟨⟨hp, bR1, bN1⟩, hB1⟩ hK
    have hlt := bN1.lt
    gi_wp2
    exact hK _ _ ((KeepsOthers.alloc _ _).from _) ((Below.refl _ W).alloc (by omega) _) ⟨⟨hp, bR1.alloc _, bN1.alloc _⟩, hB1.alloc hB1.size _⟩ ⟨W.heap.size, hlt, heap_alloc_new W _, rfl⟩
  case body =>
    rintro l pre ⟨xi, k, s, nn⟩ a' W hl ⟨r, hr⟩ ⟨⟨hp, bR1, bN1⟩, hB1⟩ ⟨Bx, hBx, bX, rfl⟩ hlt
    have h1' : 1 ≤ n - 1 - 1 := by omega
    obtain ⟨c0, c1, c2, cl⟩ := bX.cells
    have rc := bR1.cell
    have rf := bR1.frozen
    simp only at c0 c1 c2
    clear bX hr
    by_cases k8 : k = 8
    · subst k8
      have HT := Lib.hid (show tellM ⟨8, s, nn⟩ = none from rfl)
      gi_wp2
      exact ⟨KeepsFrom.refl _ _, Below.refl _ _, ⟨fun p hp' => (List.mem_append.1 hp').elim (hp p) (fun e => by simp at e; subst e; exact HT.out), bR1, bN1⟩, hB1⟩
    by_cases k10 : k = 10
    · subst k10
      have HT := Lib.hid (show tellM ⟨10, s, nn⟩ = none from rfl)
      gi_wp2
      exact ⟨KeepsFrom.refl _ _, Below.refl _ _, ⟨fun p hp' => (List.mem_append.1 hp').elim (hp p) (fun e => by simp at e; subst e; exact HT.out), bR1, bN1⟩, hB1⟩
    by_cases k11 : k = 11
    · subst k11
      have HT := Lib.hid (show tellM ⟨11, s, nn⟩ = none from rfl)
      gi_wp2
      exact ⟨KeepsFrom.refl _ _, Below.refl _ _, ⟨fun p hp' => (List.mem_append.1 hp').elim (hp p) (fun e => by simp at e; subst e; exact HT.out), bR1, bN1⟩, hB1⟩
    by_cases k21 : k = 21
    · subst k21
      have HT := Lib.hid (show tellM ⟨21, s, nn⟩ = none from rfl)
      gi_wp2
      exact ⟨KeepsFrom.refl _ _, Below.refl _ _, ⟨fun p hp' => (List.mem_append.1 hp').elim (hp p) (fun e => by simp at e; subst e; exact HT.out), bR1, bN1⟩, hB1⟩
    have f8 : (k == 8) = false := by rw [beq_eq_false_iff_ne]; exact k8
    have f10 : (k == 10) = false := by rw [beq_eq_false_iff_ne]; exact k10
    have f11 : (k == 11) = false := by rw [beq_eq_false_iff_ne]; exact k11
    have f21 : (k == 21) = false := by rw [beq_eq_false_iff_ne]; exact k21
    by_cases k0 : k = 0
    · subst k0
      clear k8 k10 k11 k21 f8 f10 f11 f21
      by_cases hs1 : s.size = 1
      · have ho := one_of_size hs1
        have hc := pk_256 s 0
        obtain ⟨c, hcc⟩ : ∃ c, pk s 0 = c := ⟨_, rfl⟩
        rw [hcc] at ho hc
        have HC := Lib.hid hcc
        clear hcc hs1
        subst ho
        have hpk : pk (oneS c) 0 = c := HC.out
        by_cases hA : c = 46 ∨ c = 63 ∨ c = 33
        · have HA := Lib.hid (fun W => cont_a c hc W)
          rw [decide_eq_true hA] at HA
          have HT := Lib.hid (show tellM ⟨0, oneS c, nn⟩ = some true from by
            unfold tellM
            simp only
            rw [if_neg (by decide), if_neg (by decide), if_neg (by rw [oneS_size]; decide), hpk, if_pos hA])
          have HB := HA
          clear hpk hA HC
          gi_wp2_with (refine ⟨trivial, ?_⟩; gi_at_call 16; first | (refine (CallsIn.inRound l (callsIn_wide.2 (HA.out _))).mono ?_; rintro e w' ⟨rfl, rfl⟩) | (refine (CallsIn.inRound l (callsIn_wide.2 (HB.out _))).mono ?_; rintro e w' ⟨rfl, rfl⟩))
          exact ⟨(KeepsOthers.setCell _ _ _).from _, ⟨rfl, pre, _, _, rfl, hp, HT.out, bR1.set _⟩, hB1.setCell (p := ⟨w.heap.size, 0, none⟩) (Nat.le_refl _) _⟩
        · have HA := Lib.hid (fun W => cont_a c hc W)
          rw [decide_eq_false hA] at HA
          have HB := Lib.hid (fun W => cont_b c hc W)
          by_cases hb2 : c = 34 ∨ c = 39 ∨ c = 41 ∨ c = 93
          · rw [decide_eq_true hb2] at HB
            have HT := Lib.hid (show tellM ⟨0, oneS c, nn⟩ = none from by
              unfold tellM
              simp only
              rw [if_neg (by decide), if_neg (by decide), if_neg (by rw [oneS_size]; decide), hpk, if_neg hA, if_pos hb2])
            clear hpk hA HC hb2
            gi_wp2_with (refine ⟨trivial, ?_⟩; gi_at_call 16; first | (refine (CallsIn.inRound l (callsIn_wide.2 (HA.out _))).mono ?_; rintro e w' ⟨rfl, rfl⟩) | (refine (CallsIn.inRound l (callsIn_wide.2 (HB.out _))).mono ?_; rintro e w' ⟨rfl, rfl⟩))
            exact ⟨KeepsFrom.refl _ _, Below.refl _ _, ⟨fun p hp' => (List.mem_append.1 hp').elim (hp p) (fun e => by simp at e; subst e; exact HT.out), bR1, bN1⟩, hB1⟩
          · rw [decide_eq_false hb2] at HB
            have HT := Lib.hid (show tellM ⟨0, oneS c, nn⟩ = some false from by
              unfold tellM
              simp only
              rw [if_neg (by decide), if_neg (by decide), if_neg (by rw [oneS_size]; decide), hpk, if_neg hA, if_neg hb2])
            clear hpk hA HC hb2
            gi_wp2_with (refine ⟨trivial, ?_⟩; gi_at_call 16; first | (refine (CallsIn.inRound l (callsIn_wide.2 (HA.out _))).mono ?_; rintro e w' ⟨rfl, rfl⟩) | (refine (CallsIn.inRound l (callsIn_wide.2 (HB.out _))).mono ?_; rintro e w' ⟨rfl, rfl⟩))
            exact ⟨(KeepsOthers.setCell _ _ _).from _, ⟨rfl, pre, _, _, rfl, hp, HT.out, bR1.set _⟩, hB1.setCell (p := ⟨w.heap.size, 0, none⟩) (Nat.le_refl _) _⟩
      · have HT := Lib.hid (show tellM ⟨0, s, nn⟩ = some false from by
          unfold tellM
          simp only
          rw [if_neg (by decide), if_neg (by decide), if_pos hs1])
        have g1 : ((s.size : Int) != 1) = true := by rw [bne_iff_ne]; omega
        clear hs1
        gi_wp2
        exact ⟨(KeepsOthers.setCell _ _ _).from _, ⟨rfl, pre, _, _, rfl, hp, HT.out, bR1.set _⟩, hB1.setCell (p := ⟨w.heap.size, 0, none⟩) (Nat.le_refl _) _⟩
    · have HT := Lib.hid (show tellM ⟨k, s, nn⟩ = some false from by
        unfold tellM
        simp only
        rw [if_neg (by omega), if_pos k0])
      have f0 : (k == 0) = false := by rw [beq_eq_false_iff_ne]; exact k0
      clear k8 k10 k11 k21 k0
      gi_wp2
      exact ⟨(KeepsOthers.setCell _ _ _).from _, ⟨rfl, pre, _, _, rfl, hp, HT.out, bR1.set _⟩, hB1.setCell (p := ⟨w.heap.size, 0, none⟩) (Nat.le_refl _) _⟩
  case done =>
    rintro D ys W hD rfl ⟨⟨hne, bR1, bN1⟩, hB⟩ hK
    have rc := bR1.cell
    have rf := bR1.frozen
    have he := ends_skip zs zs.length (Nat.le_refl _) hne
    rw [Nat.sub_self] at he
    have HE := Lib.hid (show endsM zs = false from he)
    clear he hne
    gi_wp2
    have hK' := (KeepsOthers.setCell W ⟨w.heap.size, 0, none⟩ (.bool false)).same D _ hK rfl
    refine ⟨by simp, .inl ⟨_, _, rfl, run_takeDeferred hK', ?_⟩⟩
    have hc5 := cell_kept (World.cell?_setCell_same' W ⟨w.heap.size, 0, none⟩ (.bool false) (by rw [rc]; rfl)) (grownBy_putObj' _ D (.deferred none)) (fun r e => by cases e; exact ⟨_, hK', rfl⟩)
    refine ⟨.bool false, ?_, by rw [HE.out], (hB.setCell (p := ⟨w.heap.size, 0, none⟩) (Nat.le_refl _) _).trans (belowK_b (w := w) (Nat.le_refl _) _ D _ _ (by omega) hK' rfl rfl)⟩
    simp [results, Try.f11, go_sem, hc5]
  case stop =>
    rintro D c pre W hD ⟨k, hk, rfl⟩ ⟨⟨rfl, ini, last, b, e1, e2, e3, bR1⟩, hB⟩ hK
    have rc := bR1.cell
    obtain ⟨k', rfl⟩ : ∃ k', k = k' + 1 := by
      cases k with
      | zero => simp [comes] at e1
      | succ k' => exact ⟨k', rfl⟩
    rw [comes_succ] at e1
    obtain ⟨rfl, e5⟩ := List.append_inj' e1 rfl
    obtain rfl : at2 zs (zs.length - 1 - k') = last := by simpa using e5
    have HE := Lib.hid (ends_stop zs k' b (by omega) e2 e3)
    clear e1 e2 e3 e5
    gi_wp2
    refine ⟨by simp, .inl ⟨_, _, rfl, run_takeDeferred hK, ?_⟩⟩
    have hc5 := cell_kept rc (grownBy_putObj' _ D (.deferred none)) (fun r e => by cases e; exact ⟨_, hK, rfl⟩)
    refine ⟨.bool b, ?_, by rw [HE.out], hB.trans (belowK_b (w := w) (Nat.le_refl _) W D _ _ (by omega) hK rfl rfl)⟩
    simp [results, Try.f11, go_sem, hc5]
theorem ends_calls (A : Option Addr) (cap : Nat) (zs : List Tok) (hz : zs.length ≤ 1000000) (w : World) (hI : Toks w.heap.size w A zs) :
    Calls Try.prog 11 #[.slice A zs.length cap] w fun e W' => e = .returned (.bool (endsM zs)) ∧ Below w.heap.size w W' :=
  callsIn_wide.1 (ends_in 3 (Nat.le_refl _) A cap zs hz w hI)
end Go.Proofs.Ytaokofnhkojllaa

set_option linter.unusedVariables false
set_option linter.unusedSimpArgs false
namespace Go.Proofs.Ytaokofnhkojllaa
open Go.Shelf Go.RowKit Go.Lib Go.Aids Go.MapLit Go.Proofs.YtaokofnhkojllaaW.PrintWords

theorem lead1_calls (t : Tok) (w : World) : Calls Try.prog 23 #[.agg #[.int .i64 t.kind, .string t.text, .int .i64 t.n]] w fun e w' => e = .returned (.bool (t.kind != 1)) ∧ Below w.heap.size w w' := by
  go_enter Try.func23, Try.ntmps23
  go_wp2
  go_ret
  exact ⟨rfl, (Below.refl _ w).alloc (Nat.le_refl _) _⟩
theorem leadF_step (l : List Tok) (f a : Nat) (h : a < l.length) : leadF l (f + 1) a = if (l.getD a tok0).kind = 1 then leadF l f (a + 1) else a := by
  rw [leadF, List.getElem?_eq_getElem h]
  simp [List.getD, h]
set_option maxRecDepth 100000 in
set_option maxHeartbeats 2000000 in
theorem index_calls (A : Option Addr) (cap : Nat) (zs : List Tok) (hz : zs.length ≤ 1000000) (w : World) (hI : Toks w.heap.size w A zs) (R : Int) (hR : (if leadM zs < zs.length then (leadM zs : Int) else -1) = R) :
    Calls Try.prog 22 #[.slice A zs.length cap, .func (.func 23) #[] #[]] w fun e w' => e = .returned (.int .i64 R) ∧ Below w.heap.size w w' := by
  unfold leadM at hR
  have HR := Lib.hid hR
  have HI := Lib.hid hI
  clear hR hI
  go_enter Try.func22, Try.ntmps22
  go_wp2
  go_loopw [8] (fun i wr => ∃ k : Nat, k ≤ zs.length ∧ i = .int .i64 k ∧ Below w.heap.size w wr ∧ Hid (leadF zs (zs.length - k) k = leadF zs zs.length 0)) (fun i _ => zs.length - (RowKit.intOf i).toNat)
  case atStart => exact ⟨0, Nat.zero_le _, rfl, Below.refl _ _, Lib.hid rfl⟩
  case round =>
    obtain ⟨k, hk, rfl, hb, H⟩ := hrel
    by_cases hlt : k < zs.length
    · obtain ⟨b, off, rfl, hbl, c0, c1, c2⟩ := HI.out k hlt
      have c0 := ((bcell hb).1 b (off + k * 3) hbl).trans c0
      have c1 := ((bcell hb).1 b (off + k * 3 + 1) hbl).trans c1
      have c2 := ((bcell hb).1 b (off + k * 3 + 2) hbl).trans c2
      have hbr : b < wr.heap.size := by have := hb.size; omega
      have h := H.out
      rw [show zs.length - k = (zs.length - (k + 1)) + 1 by omega, leadF_step zs _ k hlt] at h
      obtain ⟨t, ht⟩ : ∃ t, zs.getD k tok0 = t := ⟨_, rfl⟩
      rw [ht] at c0 c1 c2 h
      clear ht H
      by_cases h1 : t.kind = 1
      · rw [if_pos h1] at h
        have HH := Lib.hid h
        have HC := Lib.hid (fun W => lead1_calls t W)
        rw [show (t.kind != 1) = false by rw [h1]; rfl] at HC
        clear h h1
        go_wp2_with (go_at_call 23; refine (HC.out _).mono ?_; rintro e w1 ⟨rfl, hb1⟩)
        go_roundw
        case rel => exact ⟨k + 1, by omega, by go_num, hb.trans (hb1.mono hb.size), HH⟩
        case measure => simp [RowKit.intOf]; omega
      · rw [if_neg h1] at h
        have hr := HR.out
        rw [← h, if_pos hlt] at hr
        subst hr
        have HC := Lib.hid (fun W => lead1_calls t W)
        rw [show (t.kind != 1) = true by rw [bne_iff_ne]; exact h1] at HC
        clear h h1
        go_wp2_with (go_at_call 23; refine (HC.out _).mono ?_; rintro e w1 ⟨rfl, hb1⟩)
        go_ret
        exact ⟨rfl, hb.trans (hb1.mono hb.size)⟩
    · obtain rfl : k = zs.length := by omega
      have h := H.out
      rw [Nat.sub_self, leadF] at h
      have hr := HR.out
      rw [← h, if_neg (Nat.lt_irrefl _)] at hr
      subst hr
      clear h
      go_wp2
      go_ret
      exact ⟨rfl, hb⟩
set_option maxHeartbeats 1000000 in
theorem lead_calls (A : Option Addr) (cap : Nat) (zs : List Tok) (hz : zs.length ≤ 1000000) (w : World) (hI : Toks w.heap.size w A zs) :
    Calls Try.prog 14 #[.slice A zs.length cap] w fun e w' => e = .returned (.int .i64 (leadM zs : Nat)) ∧ Below w.heap.size w w' := by
  have hb := leadF_bound zs zs.length 0
  have HC := Lib.hid (index_calls A cap zs hz w hI _ rfl)
  by_cases h : leadM zs < zs.length
  · rw [if_pos h] at HC
    have d : decide ((leadM zs : Int) < 0) = false := decide_eq_false (by omega)
    obtain ⟨L, hL⟩ : ∃ L, leadM zs = L := ⟨_, rfl⟩
    rw [hL] at HC d ⊢
    clear hL hI h hb
    go_enter Try.func14, Try.ntmps14
    go_wp2_with (go_at_call 22; refine HC.out.mono ?_; rintro e w1 ⟨rfl, hb1⟩)
    go_ret
    exact ⟨rfl, hb1⟩
  · rw [if_neg h] at HC
    have he : leadM zs = zs.length := by
      have : leadM zs = leadF zs zs.length 0 := rfl
      omega
    rw [he]
    clear hI h hb he
    go_enter Try.func14, Try.ntmps14
    go_wp2_with (go_at_call 22; refine HC.out.mono ?_; rintro e w1 ⟨rfl, hb1⟩)
    go_ret
    exact ⟨rfl, hb1⟩
end Go.Proofs.Ytaokofnhkojllaa

set_option linter.unusedVariables false
set_option linter.unusedSimpArgs false
namespace Go.Proofs.Ytaokofnhkojllaa
open Go.RowKit Go.Opens Go.Lib Go.Aids Go.Proofs.YtaokofnhkojllaaW.PrintWords

def cE (t : Tok) : PEnds.S55 := ⟨t.kind, t.text, t.n⟩
theorem C_cE {w : World} {A : Option Addr} {l : List Tok} (h : kTok.C w A l.length l) : Kd.C PEnds.k55 w A (l.map cE).length (l.map cE) := by
  obtain ⟨h1, h2, h3⟩ := h
  refine ⟨rfl, by rw [List.length_map]; exact h2, fun hn => ?_⟩
  rw [List.length_map] at hn
  obtain ⟨ad, e, hc⟩ := h3 hn
  refine ⟨ad, e, fun j p hj => ?_⟩
  rw [List.getElem?_map] at hj
  obtain ⟨t, ht, rfl⟩ := Option.map_eq_some_iff.1 hj
  obtain ⟨c, c1, c2, c3⟩ := hc j t ht
  have e := tok_cells c2
  subst e
  exact ⟨_, c1, PEnds.k55_mk w _, c3⟩

def cL (t : Tok) : PLead.S55 := ⟨t.kind, t.text, t.n⟩
theorem C_cL {w : World} {A : Option Addr} {l : List Tok} (h : kTok.C w A l.length l) : Kd.C PLead.k55 w A (l.map cL).length (l.map cL) := by
  obtain ⟨h1, h2, h3⟩ := h
  refine ⟨rfl, by rw [List.length_map]; exact h2, fun hn => ?_⟩
  rw [List.length_map] at hn
  obtain ⟨ad, e, hc⟩ := h3 hn
  refine ⟨ad, e, fun j p hj => ?_⟩
  rw [List.getElem?_map] at hj
  obtain ⟨t, ht, rfl⟩ := Option.map_eq_some_iff.1 hj
  obtain ⟨c, c1, c2, c3⟩ := hc j t ht
  have e := tok_cells c2
  subst e
  exact ⟨_, c1, PLead.k55_mk w _, c3⟩

def cA (t : Tok) : Pas.S28 := ⟨t.kind, t.text, t.n⟩
theorem C_cA {w : World} {A : Option Addr} {l : List Tok} (h : kTok.C w A l.length l) : Kd.C Pas.k28 w A (l.map cA).length (l.map cA) := by
  obtain ⟨h1, h2, h3⟩ := h
  refine ⟨rfl, by rw [List.length_map]; exact h2, fun hn => ?_⟩
  rw [List.length_map] at hn
  obtain ⟨ad, e, hc⟩ := h3 hn
  refine ⟨ad, e, fun j p hj => ?_⟩
  rw [List.getElem?_map] at hj
  obtain ⟨t, ht, rfl⟩ := Option.map_eq_some_iff.1 hj
  obtain ⟨c, c1, c2, c3⟩ := hc j t ht
  have e := tok_cells c2
  subst e
  exact ⟨_, c1, Pas.k28_mk w _, c3⟩

def cB (t : Tok) : Pas.S55 := ⟨t.kind, t.text, t.n⟩
theorem C_cB {w : World} {A : Option Addr} {l : List Tok} (h : kTok.C w A l.length l) : Kd.C Pas.k55 w A (l.map cB).length (l.map cB) := by
  obtain ⟨h1, h2, h3⟩ := h
  refine ⟨rfl, by rw [List.length_map]; exact h2, fun hn => ?_⟩
  rw [List.length_map] at hn
  obtain ⟨ad, e, hc⟩ := h3 hn
  refine ⟨ad, e, fun j p hj => ?_⟩
  rw [List.getElem?_map] at hj
  obtain ⟨t, ht, rfl⟩ := Option.map_eq_some_iff.1 hj
  obtain ⟨c, c1, c2, c3⟩ := hc j t ht
  have e := tok_cells c2
  subst e
  exact ⟨_, c1, Pas.k55_mk w _, c3⟩

def cS (t : Tok) : PSame.S55 := ⟨t.kind, t.text, t.n⟩
theorem C_cS {w : World} {A : Option Addr} {l : List Tok} (h : kTok.C w A l.length l) : Kd.C PSame.k55 w A (l.map cS).length (l.map cS) := by
  obtain ⟨h1, h2, h3⟩ := h
  refine ⟨rfl, by rw [List.length_map]; exact h2, fun hn => ?_⟩
  rw [List.length_map] at hn
  obtain ⟨ad, e, hc⟩ := h3 hn
  refine ⟨ad, e, fun j p hj => ?_⟩
  rw [List.getElem?_map] at hj
  obtain ⟨t, ht, rfl⟩ := Option.map_eq_some_iff.1 hj
  obtain ⟨c, c1, c2, c3⟩ := hc j t ht
  have e := tok_cells c2
  subst e
  exact ⟨_, c1, PSame.k55_mk w _, c3⟩

theorem C_back_cB {w : World} {A : Option Addr} {l : List Tok} (h : Kd.C Pas.k55 w A (l.map cB).length (l.map cB)) : kTok.C w A l.length l := by
  obtain ⟨h1, h2, h3⟩ := h
  rw [List.length_map] at h1 h2 h3
  refine ⟨rfl, h2, fun hn => ?_⟩
  obtain ⟨ad, e, hc⟩ := h3 hn
  refine ⟨ad, e, fun j t hj => ?_⟩
  obtain ⟨c, c1, c2, c3⟩ := hc j (cB t) (by rw [List.getElem?_map, hj]; rfl)
  have e := Pas.k55_open c2
  subst e
  exact ⟨_, c1, ⟨[.int .i64 t.kind], [.string t.text, .int .i64 t.n], rfl, rfl, ⟨[.string t.text], [.int .i64 t.n], rfl, rfl, rfl⟩⟩, c3⟩

theorem toks_of {w : World} {A : Option Addr} {l : List Tok} (h : kTok.C w A l.length l) : Toks w.heap.size w A l := fun m hm => by
  obtain ⟨b, off, rfl, hb, hc⟩ := toks_at h (by omega)
  obtain ⟨c0, c1, c2⟩ := hc m hm
  have e : l.getD m tok0 = l[m] := by simp [List.getD, hm]
  rw [e]
  exact ⟨b, off, rfl, hb, c0, c1, c2⟩
theorem C_row {w : World} {A : Option Addr} {l : List Tok} (h : kTok.C w A l.length l) {w' : World} (hb : Below w.heap.size w w') : kTok.C w' A l.length l := Kd.C_below h hb
theorem C_own {w : World} {base : Nat} {v : Value} {l : List Tok} (h : w.ownsRow base 28 3 v l.length (cellsOf l)) (hl : l.length ≤ 9223372036854775807) : ∃ A n, v = .slice A l.length n ∧ l.length ≤ n ∧ kTok.C w A l.length l := by
  rcases Nat.eq_zero_or_pos l.length with h0 | h0
  · have e : l = [] := List.eq_nil_of_length_eq_zero h0
    subst e
    obtain ⟨A, n, e⟩ := own_slice h
    exact ⟨A, n, e, Nat.zero_le _, rfl, Nat.zero_le _, fun h => absurd h (by decide)⟩
  · obtain ⟨g, cap, rfl, hgb, hgl⟩ := h.form h0
    have hcap : l.length ≤ cap := by
      obtain ⟨h1, h2⟩ := h
      rcases h2 with ⟨h2, -⟩ | ⟨g', cap', cur, e, -, -, r⟩
      · cases h2
      · injection e with e1 e2 e3
        subst e3
        exact r.1
    refine ⟨_, _, rfl, hcap, rfl, hl, fun _ => ⟨⟨g, 0, none⟩, rfl, fun j t hj => ?_⟩⟩
    obtain ⟨hlt, rfl⟩ := List.getElem?_eq_some_iff.1 hj
    obtain ⟨c1, c2, c3⟩ := cellsOf_at l j hlt
    have hcl := cellsOf_len l
    refine ⟨[.int .i64 l[j].kind, .string l[j].text, .int .i64 l[j].n], rfl, ⟨[.int .i64 l[j].kind], [.string l[j].text, .int .i64 l[j].n], rfl, rfl, ⟨[.string l[j].text], [.int .i64 l[j].n], rfl, rfl, rfl⟩⟩, fun i u hi => ?_⟩
    have ead : ∀ q, ((⟨g, 0, none⟩ : Addr).add q) = ⟨g, q, none⟩ := fun q => by
      simp [Addr.add]
      intro h; omega
    rw [show kTok.sz = 3 from rfl, ead]
    match i, hi with
    | 0, hi => injection hi with hi; subst hi; rw [h.cellAt _ (by omega)]; exact c1
    | 1, hi => injection hi with hi; subst hi; rw [h.cellAt _ (by omega)]; exact c2
    | 2, hi => injection hi with hi; subst hi; rw [h.cellAt _ (by omega)]; exact c3
    | i + 3, hi => simp at hi

/-! The printed functions say what the model says. -/
theorem rdE (l : List Tok) (a : Nat) (h : a < l.length) : PEnds.rd_T55 (l.map cE) (a : Int) = cE l[a] := by
  unfold PEnds.rd_T55
  rw [show ((a : Int)).toNat = a by omega]
  simp [List.getD, h]
theorem rdL (l : List Tok) (a : Nat) (h : a < l.length) : PLead.rd_T55 (l.map cL) (a : Int) = cL l[a] := by
  unfold PLead.rd_T55
  rw [show ((a : Int)).toNat = a by omega]
  simp [List.getD, h]
theorem rdA (l : List Tok) (a : Nat) (h : a < l.length) : Pas.rd_T28 (l.map cA) (a : Int) = cA l[a] := by
  unfold Pas.rd_T28
  rw [show ((a : Int)).toNat = a by omega]
  simp [List.getD, h]
theorem wrap_s {a : Nat} {n : Nat} (h : a < n) (hn : n ≤ 1000000) : wrap64 ((a : Int) + 1) = ((a + 1 : Nat) : Int) := by rw [wrap64_in _ (by omega) (by omega)]; rfl
theorem lead_f (l : List Tok) (hn : l.length ≤ 1000000) : ∀ f a, a ≤ l.length → l.length ≤ a + f → PLead.frisketref10_Lead.l0 (f + 1) (l.map cL) a = some ((leadF l f a : Nat) : Int)
  | 0, a, h1, h2 => by
    rw [PLead.frisketref10_Lead.l0, List.length_map, if_neg (by omega)]
    rfl
  | f + 1, a, h1, h2 => by
    rw [PLead.frisketref10_Lead.l0, List.length_map]
    by_cases hlt : a < l.length
    · rw [if_pos (by omega), if_pos (by omega), rdL l a hlt, leadF, List.getElem?_eq_getElem hlt]
      by_cases hk : l[a].kind = 1
      · rw [if_pos (show (cL l[a]).f0 = 1 from hk)]
        simp only []
        rw [if_pos hk, wrap_s hlt hn, lead_f l hn f (a + 1) (by omega) (by omega)]
      · rw [if_neg (show ¬ (cL l[a]).f0 = 1 from hk)]
        simp only []
        rw [if_neg hk]
    · rw [if_neg (by omega), leadF, List.getElem?_eq_none (by omega)]
theorem rlead_calls (A : Option Addr) (c : Nat) (l : List Tok) (w : World) (hC : kTok.C w A l.length l) (hc : l.length ≤ c) (hn : l.length ≤ 1000000) :
    Calls Try.prog 15 #[.slice A l.length c] w fun e w' => e = .returned (.int .i64 (leadM l : Nat)) ∧ Below w.heap.size w w' := by
  have h := PLead.frisketref10_Lead.calls (l.length + 1) A c (l.map cL) (leadM l : Nat) w (C_cL hC) (by rw [List.length_map]; exact hc) (lead_f l hn l.length 0 (Nat.zero_le _) (by omega))
  rw [List.length_map] at h
  exact h.mono fun e w' h => ⟨h.1, h.2.below⟩
theorem as_f (l : List Tok) (hn : l.length ≤ 1000000) : ∀ f a, a ≤ l.length → l.length ≤ a + f → Pas.frisketlaw10_as.l0 (f + 1) (l.map cA) ((l.take a).map cB) a = some (l.map cB)
  | 0, a, h1, h2 => by
    rw [Pas.frisketlaw10_as.l0, List.length_map, if_neg (by omega), List.take_of_length_le (by omega)]
  | f + 1, a, h1, h2 => by
    rw [Pas.frisketlaw10_as.l0, List.length_map]
    by_cases hlt : a < l.length
    · rw [if_pos (by omega), if_pos (by omega), if_pos (by rw [List.length_map, List.length_take]; omega), rdA l a hlt, wrap_s hlt hn]
      have e : (l.take a).map cB ++ [(⟨(cA l[a]).f0, (cA l[a]).f1, (cA l[a]).f2⟩ : Pas.S55)] = (l.take (a + 1)).map cB := by
        rw [List.take_succ_eq_append_getElem hlt, List.map_append]
        rfl
      rw [e]
      exact as_f l hn f (a + 1) (by omega) (by omega)
    · rw [if_neg (by omega), List.take_of_length_le (by omega)]
theorem as_calls (A : Option Addr) (c : Nat) (l : List Tok) (w : World) (hC : kTok.C w A l.length l) (hc : l.length ≤ c) (hn : l.length ≤ 1000000) :
    Calls Try.prog 13 #[.slice A l.length c] w fun e w' => ∃ A' c', e = .returned (.slice A' l.length c') ∧ l.length ≤ c' ∧ kTok.C w' A' l.length l ∧ Below w.heap.size w w' := by
  have h := Pas.frisketlaw10_as.calls (l.length + 1) A c (l.map cA) (l.map cB) w (C_cA hC) (by rw [List.length_map]; exact hc) (by
    have := as_f l hn l.length 0 (Nat.zero_le _) (by omega)
    exact this)
  rw [List.length_map] at h
  refine h.mono ?_
  rintro e w' ⟨v, rfl, hR, hb⟩
  obtain ⟨A', c', rfl, hc', hC'⟩ := Kd.R_reads hR
  rw [List.length_map] at hc' 
  refine ⟨A', c', by rw [List.length_map], hc', C_back_cB hC', hb⟩
theorem same_f (l : List Tok) (hn : l.length ≤ 1000000) : ∀ f a, a ≤ l.length → l.length ≤ a + f → PSame.frisketref10_Same.l0 (f + 1) (l.map cS) (l.map cS) a = some true
  | 0, a, h1, h2 => by
    rw [PSame.frisketref10_Same.l0, List.length_map, if_neg (by omega)]
  | f + 1, a, h1, h2 => by
    rw [PSame.frisketref10_Same.l0, List.length_map]
    by_cases hlt : a < l.length
    · rw [if_pos (by omega), if_pos (by omega), if_pos (by omega), wrap_s hlt hn]
      simp only [beq_self_eq_true, Bool.not_true, Bool.or_self, Bool.false_eq_true, if_false]
      exact same_f l hn f (a + 1) (by omega) (by omega)
    · rw [if_neg (by omega)]
theorem same_calls (A : Option Addr) (c : Nat) (B : Option Addr) (d : Nat) (l : List Tok) (w : World) (hA : kTok.C w A l.length l) (hc : l.length ≤ c) (hB : kTok.C w B l.length l) (hd : l.length ≤ d) (hn : l.length ≤ 1000000) :
    Calls Try.prog 20 #[.slice A l.length c, .slice B l.length d] w fun e w' => e = .returned (.bool true) ∧ Below w.heap.size w w' := by
  have h := PSame.frisketref10_Same.calls (l.length + 1) A c (l.map cS) B d (l.map cS) true w (C_cS hA) (by rw [List.length_map]; exact hc) (C_cS hB) (by rw [List.length_map]; exact hd) (by
    unfold PSame.frisketref10_Same.f
    rw [if_pos rfl]
    exact same_f l hn l.length 0 (Nat.zero_le _) (by omega))
  simp only [List.length_map] at h
  exact h.mono fun e w' h => ⟨h.1, h.2.below⟩
end Go.Proofs.Ytaokofnhkojllaa

set_option linter.unusedVariables false
set_option linter.unusedSimpArgs false
namespace Go.Proofs.Ytaokofnhkojllaa
open Go.RowKit Go.Opens Go.Lib Go.Aids Go.Proofs.YtaokofnhkojllaaW.PrintWords

theorem txt_is (s : ByteArray) (c : Nat) (hc : c < 256) : s.toList = [UInt8.ofNat c] ↔ (s.size = 1 ∧ pk s 0 = c) := by
  rw [Lib.toList_data]
  constructor
  · intro h
    have h1 : s.size = 1 := by
      have := congrArg List.length h
      rw [Array.length_toList] at this
      exact this
    refine ⟨h1, ?_⟩
    have := (list_pk s 0 c hc).1 (by rw [h]; rfl)
    exact this.2
  · rintro ⟨h1, h2⟩
    have := one_of_size h1
    rw [h2] at this
    rw [this]
theorem j2_f (l : List Tok) (f : Nat) (x3 : Int) (s : ByteArray) (b : Bool) (hs : b = true ↔ (s.size = 1 ∧ pk s 0 = 33) ∨ b = true) :
    PEnds.frisketref10_Ends.j2 (f + 1) (l.map cE) x3 s b = if b = true then some true else if s.size = 1 ∧ (pk s 0 = 34 ∨ pk s 0 = 39 ∨ pk s 0 = 41 ∨ pk s 0 = 93) then PEnds.frisketref10_Ends.l0 f (l.map cE) (wrap64 (x3 - 1)) else some false := by
  rw [PEnds.frisketref10_Ends.j2]
  by_cases hb : b = true
  · rw [if_pos hb, if_pos hb]
  · rw [if_neg hb, if_neg hb]
    have t34 := txt_is s 34 (by decide)
    have t39 := txt_is s 39 (by decide)
    have t41 := txt_is s 41 (by decide)
    have t93 := txt_is s 93 (by decide)
    rw [show UInt8.ofNat 34 = 34 from rfl] at t34
    rw [show UInt8.ofNat 39 = 39 from rfl] at t39
    rw [show UInt8.ofNat 41 = 41 from rfl] at t41
    rw [show UInt8.ofNat 93 = 93 from rfl] at t93
    by_cases h1 : s.toList = [34]
    · rw [if_pos h1, if_pos ⟨(t34.1 h1).1, .inl (t34.1 h1).2⟩]
    · rw [if_neg h1]
      by_cases h2 : s.toList = [39]
      · rw [if_pos h2, if_pos ⟨(t39.1 h2).1, .inr (.inl (t39.1 h2).2)⟩]
      · rw [if_neg h2]
        by_cases h3 : s.toList = [41]
        · rw [if_pos h3, if_pos ⟨(t41.1 h3).1, .inr (.inr (.inl (t41.1 h3).2))⟩]
        · rw [if_neg h3]
          by_cases h4 : s.toList = [93]
          · rw [if_pos h4, if_pos ⟨(t93.1 h4).1, .inr (.inr (.inr (t93.1 h4).2))⟩]
          · rw [if_neg h4, if_neg]
            rintro ⟨q1, q | q | q | q⟩
            · exact h1 (t34.2 ⟨q1, q⟩)
            · exact h2 (t39.2 ⟨q1, q⟩)
            · exact h3 (t41.2 ⟨q1, q⟩)
            · exact h4 (t93.2 ⟨q1, q⟩)
theorem j1_f (l : List Tok) (f k : Nat) (hk : k < l.length) (b : Bool) (h8 : b = true ↔ (l[k].kind = 8 ∨ l[k].kind = 10 ∨ l[k].kind = 11 ∨ l[k].kind = 21)) :
    PEnds.frisketref10_Ends.j1 (f + 2) (l.map cE) k l[k].kind b = match tellM l[k] with | some b => some b | none => PEnds.frisketref10_Ends.l0 (if b = true then f + 1 else f) (l.map cE) (wrap64 ((k : Int) - 1)) := by
  rw [PEnds.frisketref10_Ends.j1]
  unfold tellM
  by_cases hb : b = true
  · rw [if_pos hb, if_pos (h8.1 hb), if_pos hb]
  · rw [if_neg hb, if_neg (fun h => hb (h8.2 h)), if_neg hb]
    by_cases h0 : l[k].kind = 0
    · rw [if_pos h0, if_neg (show ¬ (l[k].kind ≠ 0) from fun h => h h0), if_pos (show 0 ≤ (k : Int) by omega), if_pos (show (k : Int) < ((l.map cE).length : Int) by rw [List.length_map]; omega), rdE l k hk]
      have t46 := txt_is l[k].text 46 (by decide)
      have t63 := txt_is l[k].text 63 (by decide)
      have t33 := txt_is l[k].text 33 (by decide)
      rw [show UInt8.ofNat 46 = 46 from rfl] at t46
      rw [show UInt8.ofNat 63 = 63 from rfl] at t63
      rw [show UInt8.ofNat 33 = 33 from rfl] at t33
      have e1 : (cE l[k]).f1 = l[k].text := rfl
      rw [e1]
      have ex : ∃ b2 : Bool, (b2 = true ↔ (l[k].text.size = 1 ∧ (pk l[k].text 0 = 46 ∨ pk l[k].text 0 = 63 ∨ pk l[k].text 0 = 33))) ∧
          (if l[k].text.toList = [46] then PEnds.frisketref10_Ends.j2 (f + 1) (l.map cE) k l[k].text (l[k].text.toList == [46]) else if l[k].text.toList = [63] then PEnds.frisketref10_Ends.j2 (f + 1) (l.map cE) k l[k].text (l[k].text.toList == [63]) else PEnds.frisketref10_Ends.j2 (f + 1) (l.map cE) k l[k].text (l[k].text.toList == [33])) = PEnds.frisketref10_Ends.j2 (f + 1) (l.map cE) k l[k].text b2 := by
        by_cases q1 : l[k].text.toList = [46]
        · exact ⟨true, ⟨fun _ => ⟨(t46.1 q1).1, .inl (t46.1 q1).2⟩, fun _ => rfl⟩, by rw [if_pos q1, beq_iff_eq.2 q1]⟩
        · by_cases q2 : l[k].text.toList = [63]
          · exact ⟨true, ⟨fun _ => ⟨(t63.1 q2).1, .inr (.inl (t63.1 q2).2)⟩, fun _ => rfl⟩, by rw [if_neg q1, if_pos q2, beq_iff_eq.2 q2]⟩
          · refine ⟨l[k].text.toList == [33], ⟨fun h => ?_, fun h => ?_⟩, by rw [if_neg q1, if_neg q2]⟩
            · have := t33.1 (beq_iff_eq.1 h)
              exact ⟨this.1, .inr (.inr this.2)⟩
            · obtain ⟨p1, p | p | p⟩ := h
              · exact absurd (t46.2 ⟨p1, p⟩) q1
              · exact absurd (t63.2 ⟨p1, p⟩) q2
              · exact beq_iff_eq.2 (t33.2 ⟨p1, p⟩)
      obtain ⟨b2, hb2, e2⟩ := ex
      rw [e2, j2_f l f k l[k].text b2 ⟨fun h => .inr h, fun h => h.elim (fun q => hb2.2 ⟨q.1, .inr (.inr q.2)⟩) id⟩]
      by_cases hs : l[k].text.size = 1
      · rw [if_neg (show ¬ (l[k].text.size ≠ 1) from fun h => h hs)]
        by_cases hd : pk l[k].text 0 = 46 ∨ pk l[k].text 0 = 63 ∨ pk l[k].text 0 = 33
        · rw [if_pos (hb2.2 ⟨hs, hd⟩), if_pos hd]
        · rw [if_neg (fun h => hd (hb2.1 h).2), if_neg hd]
          by_cases hq : pk l[k].text 0 = 34 ∨ pk l[k].text 0 = 39 ∨ pk l[k].text 0 = 41 ∨ pk l[k].text 0 = 93
          · rw [if_pos ⟨hs, hq⟩, if_pos hq]
          · rw [if_neg (fun h => hq h.2), if_neg hq]
      · rw [if_pos (show l[k].text.size ≠ 1 from hs), if_neg (show ¬ (b2 = true) from fun h => hs (hb2.1 h).1), if_neg (show ¬ (l[k].text.size = 1 ∧ _) from fun h => hs h.1)]
    · rw [if_neg h0, if_pos h0]
theorem ends_f (l : List Tok) (hn : l.length ≤ 1000000) : ∀ k f, k ≤ l.length → 3 * k + 1 ≤ f → PEnds.frisketref10_Ends.l0 f (l.map cE) ((k : Int) - 1) = some (endsF l k)
  | 0, f, h1, h2 => by
    obtain ⟨f, rfl⟩ : ∃ g, f = g + 1 := ⟨f - 1, by omega⟩
    rw [PEnds.frisketref10_Ends.l0, if_neg (by omega)]
    rfl
  | k + 1, f, h1, h2 => by
    obtain ⟨f, rfl⟩ : ∃ g, f = g + 3 := ⟨f - 3, by omega⟩
    have hk : k < l.length := by omega
    rw [show (((k + 1 : Nat) : Int) - 1) = (k : Int) by omega, PEnds.frisketref10_Ends.l0, if_pos (by omega), if_pos (by omega), if_pos (by rw [List.length_map]; omega), rdE l k hk]
    have e0 : (cE l[k]).f0 = l[k].kind := rfl
    rw [e0]
    have ex : ∃ b : Bool, (b = true ↔ (l[k].kind = 8 ∨ l[k].kind = 10 ∨ l[k].kind = 11 ∨ l[k].kind = 21)) ∧
        (if l[k].kind = 8 then PEnds.frisketref10_Ends.j1 (f + 2) (l.map cE) k l[k].kind true else if l[k].kind = 10 then PEnds.frisketref10_Ends.j1 (f + 2) (l.map cE) k l[k].kind true else if l[k].kind = 11 then PEnds.frisketref10_Ends.j1 (f + 2) (l.map cE) k l[k].kind true else PEnds.frisketref10_Ends.j1 (f + 2) (l.map cE) k l[k].kind (l[k].kind == 21)) = PEnds.frisketref10_Ends.j1 (f + 2) (l.map cE) k l[k].kind b := by
      by_cases q1 : l[k].kind = 8
      · exact ⟨true, ⟨fun _ => .inl q1, fun _ => rfl⟩, by rw [if_pos q1]⟩
      · by_cases q2 : l[k].kind = 10
        · exact ⟨true, ⟨fun _ => .inr (.inl q2), fun _ => rfl⟩, by rw [if_neg q1, if_pos q2]⟩
        · by_cases q3 : l[k].kind = 11
          · exact ⟨true, ⟨fun _ => .inr (.inr (.inl q3)), fun _ => rfl⟩, by rw [if_neg q1, if_neg q2, if_pos q3]⟩
          · refine ⟨l[k].kind == 21, ⟨fun h => .inr (.inr (.inr (beq_iff_eq.1 h))), fun h => beq_iff_eq.2 (by omega)⟩, by rw [if_neg q1, if_neg q2, if_neg q3]⟩
    obtain ⟨b, hb, eb⟩ := ex
    rw [eb, j1_f l f k hk b hb, endsF, List.getElem?_eq_getElem hk]
    simp only []
    rcases tellM l[k] with _ | r
    · simp only []
      rw [wrap64_in _ (by omega) (by omega)]
      refine ends_f l hn k _ (by omega) ?_
      split <;> omega
    · rfl
theorem rends_calls (A : Option Addr) (c : Nat) (l : List Tok) (w : World) (hC : kTok.C w A l.length l) (hc : l.length ≤ c) (hn : l.length ≤ 1000000) :
    Calls Try.prog 12 #[.slice A l.length c] w fun e w' => e = .returned (.bool (endsM l)) ∧ Below w.heap.size w w' := by
  have h := PEnds.frisketref10_Ends.calls (3 * l.length + 1) A c (l.map cE) (endsM l) w (C_cE hC) (by rw [List.length_map]; exact hc) (by
    unfold PEnds.frisketref10_Ends.f
    rw [List.length_map, wrap64_in _ (by omega) (by omega)]
    exact ends_f l hn l.length _ (Nat.le_refl _) (by omega))
  rw [List.length_map] at h
  exact h.mono fun e w' h => ⟨h.1, h.2.below⟩

set_option maxHeartbeats 2000000 in
theorem tells_calls (A : Option Addr) (c : Nat) (l : List Tok) (w : World) (hC : kTok.C w A l.length l) (hc : l.length ≤ c) :
    Calls Try.prog 6 #[.slice A l.length c] w fun e w' => e = .returned (.bool true) ∧ Below w.heap.size w w' := by
  have HS := Lib.hid (fun W => sane_calls W)
  by_cases hbig : 200 < l.length
  · go_enter Try.func6, Try.ntmps6
    go_wp2_with (go_at_call 7; refine (HS.out _).mono ?_; rintro e w1 ⟨rfl, hb⟩)
    go_ret
    exact ⟨rfl, hb⟩
  have HE := Lib.hid (fun A c W (h : kTok.C W A l.length l) => ends_calls A c l (by omega) W (toks_of h))
  have HL := Lib.hid (fun A c W (h : kTok.C W A l.length l) => lead_calls A c l (by omega) W (toks_of h))
  have HA := Lib.hid (fun W (h : kTok.C W A l.length l) => as_calls A c l W h hc (by omega))
  have Hre := Lib.hid (fun A c W (h : kTok.C W A l.length l) (hc : l.length ≤ c) => rends_calls A c l W h hc (by omega))
  have Hrl := Lib.hid (fun A c W (h : kTok.C W A l.length l) (hc : l.length ≤ c) => rlead_calls A c l W h hc (by omega))
  obtain ⟨b, hb⟩ : ∃ b, endsM l = b := ⟨_, rfl⟩
  obtain ⟨n, hn⟩ : ∃ n, leadM l = n := ⟨_, rfl⟩
  rw [hb] at HE Hre
  rw [hn] at HL Hrl
  have HC := Lib.hid hC
  clear hb hn hC
  go_enter Try.func6, Try.ntmps6
  go_wp2_with fail
  refine (HE.out _ _ _ HC.out).mono ?_
  rintro e w1 ⟨rfl, b1⟩
  have C1 := Lib.hid (C_row HC.out b1)
  go_wp2_with fail
  refine (HA.out _ C1.out).mono ?_
  rintro e w2 ⟨A2, c2, rfl, hc2, C2, b2⟩
  have D2 := Lib.hid (C_row C1.out b2)
  have B2 := b1.trans (b2.mono b1.size)
  clear b1 b2
  go_wp2_with fail
  refine (Hre.out _ _ _ C2 hc2).mono ?_
  rintro e w3 ⟨rfl, b3⟩
  have D3 := Lib.hid (C_row D2.out b3)
  have B3 := B2.trans (b3.mono B2.size)
  clear b3 C2 hc2
  go_wp2_with fail
  refine (HL.out _ _ _ D3.out).mono ?_
  rintro e w4 ⟨rfl, b4⟩
  have D4 := Lib.hid (C_row D3.out b4)
  have B4 := B3.trans (b4.mono B3.size)
  clear b4
  go_wp2_with fail
  refine (HA.out _ D4.out).mono ?_
  rintro e w5 ⟨A5, c5, rfl, hc5, C5, b5⟩
  have B5 := B4.trans (b5.mono B4.size)
  clear b5
  go_wp2_with fail
  refine (Hrl.out _ _ _ C5 hc5).mono ?_
  rintro e w6 ⟨rfl, b6⟩
  have B6 := B5.trans (b6.mono B5.size)
  clear b6 C5 hc5
  go_wp2_with fail
  refine (HS.out _).mono ?_
  rintro e w7 ⟨rfl, b7⟩
  go_wp2
  go_ret
  exact ⟨rfl, B6.trans (b7.mono B6.size)⟩
end Go.Proofs.Ytaokofnhkojllaa

set_option linter.unusedVariables false
set_option linter.unusedSimpArgs false
namespace Go.Proofs.Ytaokofnhkojllaa
open Go.Shelf Go.RowKit Go.Opens Go.Lib Go.Aids Go.MapLit Go.Proofs.YtaokofnhkojllaaW.PrintWords

theorem stepM_stop {s : ByteArray} {a : Nat} {t : List Tok} (h : stepM s a = .stop t) : t.length ≤ 1 := by
  unfold stepM at h
  simp only at h
  repeat' split at h
  all_goals first
    | exact escM_stop h
    | (cases h; done)
theorem lineF_len (s : ByteArray) : ∀ f l a r, l.length ≤ a → a ≤ s.size → lineF s f l a = some r → r.length ≤ s.size
  | 0, l, a, r, h1, h2, h => by injection h with h; subst h; omega
  | f + 1, l, a, r, h1, h2, h => by
    unfold lineF at h
    split at h
    · rename_i ha
      rcases hs : stepM s a with _ | ⟨t, b⟩ | t
      · rw [hs] at h; cases h
      · rw [hs] at h
        have := stepM_end ha hs
        exact lineF_len s f _ b r (by rw [List.length_append]; omega) (by omega) h
      · rw [hs] at h
        have := stepM_stop hs
        injection h with h
        subst h
        rw [List.length_append]; omega
    · injection h with h; subst h; omega
theorem lineL_len (s : ByteArray) : (lineL s).1.length ≤ s.size := by
  unfold lineL
  split
  · exact Nat.zero_le _
  · rcases ho : lineM s with _ | l
    · exact Nat.zero_le _
    · exact lineF_len s s.size [] (startM s) l (Nat.zero_le _) (startM_le s) ho
theorem C_own55 {w : World} {base : Nat} {v : Value} {l : List Tok} (h : w.ownsRow base 55 3 v l.length (cellsOf l)) (hl : l.length ≤ 9223372036854775807) : ∃ A n, v = .slice A l.length n ∧ l.length ≤ n ∧ kTok.C w A l.length l := by
  rcases Nat.eq_zero_or_pos l.length with h0 | h0
  · have e : l = [] := List.eq_nil_of_length_eq_zero h0
    subst e
    obtain ⟨A, n, e⟩ := own_slice h
    exact ⟨A, n, e, Nat.zero_le _, rfl, Nat.zero_le _, fun h => absurd h (by decide)⟩
  · obtain ⟨g, cap, rfl, hgb, hgl⟩ := h.form h0
    have hcap : l.length ≤ cap := by
      obtain ⟨h1, h2⟩ := h
      rcases h2 with ⟨h2, -⟩ | ⟨g', cap', cur, e, -, -, r⟩
      · cases h2
      · injection e with e1 e2 e3
        subst e3
        exact r.1
    refine ⟨_, _, rfl, hcap, rfl, hl, fun _ => ⟨⟨g, 0, none⟩, rfl, fun j t hj => ?_⟩⟩
    obtain ⟨hlt, rfl⟩ := List.getElem?_eq_some_iff.1 hj
    obtain ⟨c1, c2, c3⟩ := cellsOf_at l j hlt
    have hcl := cellsOf_len l
    refine ⟨[.int .i64 l[j].kind, .string l[j].text, .int .i64 l[j].n], rfl, ⟨[.int .i64 l[j].kind], [.string l[j].text, .int .i64 l[j].n], rfl, rfl, ⟨[.string l[j].text], [.int .i64 l[j].n], rfl, rfl, rfl⟩⟩, fun i u hi => ?_⟩
    have ead : ∀ q, ((⟨g, 0, none⟩ : Addr).add q) = ⟨g, q, none⟩ := fun q => by
      simp [Addr.add]
      intro h; omega
    rw [show kTok.sz = 3 from rfl, ead]
    match i, hi with
    | 0, hi => injection hi with hi; subst hi; rw [h.cellAt _ (by omega)]; exact c1
    | 1, hi => injection hi with hi; subst hi; rw [h.cellAt _ (by omega)]; exact c2
    | 2, hi => injection hi with hi; subst hi; rw [h.cellAt _ (by omega)]; exact c3
    | i + 3, hi => simp at hi

set_option maxHeartbeats 4000000 in
set_option maxRecDepth 100000 in
theorem reads_calls (s : ByteArray) (hs : s.size ≤ 1000000) (w : World) : Calls Try.prog 9 #[.string s] w fun e w' => e = .returned (.bool true) ∧ Below w.heap.size w w' := by
  have HL1 := Lib.hid (fun W => Line_calls s W)
  have HL2 := Lib.hid (fun W => rLine_calls s W hs)
  have hlen := lineL_len s
  obtain ⟨l, hl⟩ : ∃ l, (lineL s).1 = l := ⟨_, rfl⟩
  obtain ⟨k, hk⟩ : ∃ k, (lineL s).2 = k := ⟨_, rfl⟩
  rw [hl] at HL1 HL2 hlen
  rw [hk] at HL1 HL2
  clear hl hk
  have HE := Lib.hid (fun A c W (h : kTok.C W A l.length l) => ends_calls A c l (by omega) W (toks_of h))
  have HLe := Lib.hid (fun A c W (h : kTok.C W A l.length l) => lead_calls A c l (by omega) W (toks_of h))
  have HA := Lib.hid (fun A c W (h : kTok.C W A l.length l) (hc : l.length ≤ c) => as_calls A c l W h hc (by omega))
  have Hre := Lib.hid (fun A c W (h : kTok.C W A l.length l) (hc : l.length ≤ c) => rends_calls A c l W h hc (by omega))
  have Hrl := Lib.hid (fun A c W (h : kTok.C W A l.length l) (hc : l.length ≤ c) => rlead_calls A c l W h hc (by omega))
  have Hsa := Lib.hid (fun A c B d W (hA : kTok.C W A l.length l) (hc : l.length ≤ c) (hB : kTok.C W B l.length l) (hd : l.length ≤ d) => same_calls A c B d l W hA hc hB hd (by omega))
  obtain ⟨b, hb⟩ : ∃ b, endsM l = b := ⟨_, rfl⟩
  obtain ⟨n, hn⟩ : ∃ n, leadM l = n := ⟨_, rfl⟩
  rw [hb] at HE Hre
  rw [hn] at HLe Hrl
  clear hb hn
  go_enter Try.func9, Try.ntmps9
  go_wp2_with fail
  refine (HL1.out _).mono ?_
  rintro e w1 ⟨v1, rfl, o1, b1⟩
  obtain ⟨A1, n1, rfl, hn1, C1⟩ := C_own o1 (by omega)
  have D1 := Lib.hid C1
  have B1 := Lib.hid b1
  clear o1 b1 C1
  go_wp2_with fail
  refine (HL2.out _).mono ?_
  rintro e w2 ⟨v2, rfl, o2, b2⟩
  obtain ⟨A2, n2, rfl, hn2, C2⟩ := C_own55 o2 (by omega)
  have D2 := Lib.hid C2
  have E2 := Lib.hid (C_row D1.out b2)
  have B2 := Lib.hid (B1.out.trans (b2.mono B1.out.size))
  clear o2 b2 C2
  go_wp2_with fail
  refine (HA.out _ _ _ E2.out hn1).mono ?_
  rintro e w3 ⟨A3, c3, rfl, hc3, C3, b3⟩
  have D3 := Lib.hid C3
  have E3 := Lib.hid (C_row E2.out b3)
  have F3 := Lib.hid (C_row D2.out b3)
  have B3 := Lib.hid (B2.out.trans (b3.mono B2.out.size))
  clear b3 C3
  go_wp2_with fail
  refine (Hsa.out _ _ _ _ _ D3.out hc3 F3.out hn2).mono ?_
  rintro e w4 ⟨rfl, b4⟩
  have E4 := Lib.hid (C_row E3.out b4)
  have F4 := Lib.hid (C_row F3.out b4)
  have B4 := Lib.hid (B3.out.trans (b4.mono B3.out.size))
  clear b4
  go_wp2_with fail
  refine (HE.out _ _ _ E4.out).mono ?_
  rintro e w5 ⟨rfl, b5⟩
  have E5 := Lib.hid (C_row E4.out b5)
  have F5 := Lib.hid (C_row F4.out b5)
  have B5 := Lib.hid (B4.out.trans (b5.mono B4.out.size))
  clear b5
  go_wp2_with fail
  refine (Hre.out _ _ _ F5.out hn2).mono ?_
  rintro e w6 ⟨rfl, b6⟩
  have E6 := Lib.hid (C_row E5.out b6)
  have F6 := Lib.hid (C_row F5.out b6)
  have B6 := Lib.hid (B5.out.trans (b6.mono B5.out.size))
  clear b6
  go_wp2_with fail
  refine (HLe.out _ _ _ E6.out).mono ?_
  rintro e w7 ⟨rfl, b7⟩
  have F7 := Lib.hid (C_row F6.out b7)
  have B7 := Lib.hid (B6.out.trans (b7.mono B6.out.size))
  clear b7
  go_wp2_with fail
  refine (Hrl.out _ _ _ F7.out hn2).mono ?_
  rintro e w8 ⟨rfl, b8⟩
  have B8 := Lib.hid (B7.out.trans (b8.mono B7.out.size))
  clear b8
  go_wp2
  go_ret
  exact ⟨rfl, B8.out⟩

set_option maxHeartbeats 2000000 in
theorem sreads_calls (s : ByteArray) (w : World) : Calls Try.prog 4 #[.string s] w fun e w' => e = .returned (.bool true) ∧ Below w.heap.size w w' := by
  have HS := Lib.hid (fun W => sane_calls W)
  by_cases hbig : 2200 < s.size
  · go_enter Try.func4, Try.ntmps4
    go_wp2_with (go_at_call 7; refine (HS.out _).mono ?_; rintro e w1 ⟨rfl, hb⟩)
    go_ret
    exact ⟨rfl, hb⟩
  · have HR := Lib.hid (fun W => reads_calls s (by omega) W)
    go_enter Try.func4, Try.ntmps4
    go_wp2_with fail
    refine (HR.out _).mono ?_
    rintro e w1 ⟨rfl, b1⟩
    go_wp2_with fail
    refine (HS.out _).mono ?_
    rintro e w2 ⟨rfl, b2⟩
    go_wp2
    go_ret
    exact ⟨rfl, b1.trans (b2.mono b1.size)⟩

/-! Bits. -/
theorem bits_step : ∃ L : List ByteArray, L.length = 63 ∧ (∀ x ∈ L, x.size ≤ 9) ∧ ∀ k x0 x3 x4, Pbits.frisketlaw10_bits.l0 (k + 1) x0 x3 x4 =
    if x4 < (x0.length : Int) then (if 0 ≤ x4 then (if (L.length : Int) = 0 then (none) else (if 0 ≤ (Int.tmod (wrap64 (rd x0 x4)) (L.length : Int)) then (if (Int.tmod (wrap64 (rd x0 x4)) (L.length : Int)) < (L.length : Int) then (if x3.size + (rdOf ByteArray.empty L (Int.tmod (wrap64 (rd x0 x4)) (L.length : Int))).size ≤ 9223372036854775807 then (Pbits.frisketlaw10_bits.l0 k x0 (x3 ++ (rdOf ByteArray.empty L (Int.tmod (wrap64 (rd x0 x4)) (L.length : Int)))) (wrap64 (x4 + 1))) else (none)) else (none)) else (none))) else (none)) else (some x3) := by
  refine ⟨_, ?_, ?_, fun k x0 x3 x4 => rfl⟩
  · rfl
  · decide +kernel
theorem bits_f (l : List Int) (hw : ∀ x ∈ l, 0 ≤ x ∧ x < 256) (hl : l.length ≤ 60) : ∀ f a t, l.length ≤ a + f → a ≤ l.length → t.size ≤ 9 * a → ∃ r, Pbits.frisketlaw10_bits.l0 (f + 1) l t (a : Nat) = some r ∧ r.size ≤ 540 := by
  obtain ⟨L, h1, h2, h3⟩ := bits_step
  intro f
  induction f with
  | zero =>
    intro a t g1 g2 g3
    rw [h3, if_neg (by omega)]
    exact ⟨t, rfl, by omega⟩
  | succ f ih =>
    intro a t g1 g2 g3
    rw [h3]
    by_cases hlt : a < l.length
    · obtain ⟨x0, x1⟩ := hw l[a] (List.getElem_mem hlt)
      have hrd : rd l (a : Int) = l[a] := by simp [rd, List.getD, hlt]
      have hwr : wrap64 l[a] = l[a] := wrap64_in _ (by omega) (by omega)
      rw [if_pos (by omega), if_pos (by omega), hrd, hwr, h1, if_neg (by decide)]
      have m0 := Int.tmod_nonneg ((63 : Nat) : Int) x0
      have m1 := Int.tmod_lt_of_pos l[a] (show (0 : Int) < ((63 : Nat) : Int) by decide)
      rw [if_pos m0, if_pos m1]
      obtain ⟨y, hy⟩ : ∃ y, rdOf ByteArray.empty L (Int.tmod l[a] ((63 : Nat) : Int)) = y := ⟨_, rfl⟩
      have hys : y.size ≤ 9 := by
        rw [← hy]
        unfold rdOf
        have : (Int.tmod l[a] ((63 : Nat) : Int)).toNat < L.length := by omega
        rw [List.getD, List.getElem?_eq_getElem this]
        exact h2 _ (List.getElem_mem this)
      rw [hy, if_pos (by omega), show wrap64 ((a : Int) + 1) = ((a + 1 : Nat) : Int) by rw [wrap64_in _ (by omega) (by omega)]; rfl]
      exact ih (a + 1) (t ++ y) (by omega) (by omega) (by rw [ByteArray.size_append]; omega)
    · rw [if_neg (by omega)]
      exact ⟨t, rfl, by omega⟩
set_option maxHeartbeats 2000000 in
theorem sbits_calls (A : Option Addr) (c : Nat) (l : List Int) (w : World) (hC : (Kd.int .u8).C w A l.length l) (hc : l.length ≤ c) (hw : ∀ x ∈ l, wfB x) : Calls Try.prog 5 #[.slice A l.length c] w fun e w' => e = .returned (.bool true) ∧ Below w.heap.size w w' := by
  have HS := Lib.hid (fun W => sane_calls W)
  have hr : ∀ x ∈ l, 0 ≤ x ∧ x < 256 := fun x hx => by
    have := hw x hx
    unfold wfB at this
    simp [Lit.wf] at this
    have e1 : IntKind.u8.min = 0 := by decide
    have e2 : IntKind.u8.max = 255 := by decide
    omega
  by_cases hbig : 60 < l.length
  · clear hw hr
    go_enter Try.func5, Try.ntmps5
    go_wp2_with (go_at_call 7; refine (HS.out _).mono ?_; rintro e w1 ⟨rfl, hb⟩)
    go_ret
    exact ⟨rfl, hb⟩
  · obtain ⟨r, hr1, hr2⟩ := bits_f l hr (by omega) l.length 0 ⟨#[]⟩ (by omega) (Nat.zero_le _) (Nat.le_refl _)
    have HB := Lib.hid (fun W (h : (Kd.int .u8).C W A l.length l) => Pbits.frisketlaw10_bits.calls (l.length + 1) A c l r W h hc hr1)
    have HR := Lib.hid (fun W => reads_calls r (by omega) W)
    have HC := Lib.hid hC
    clear hw hr hr1 hC
    go_enter Try.func5, Try.ntmps5
    go_wp2_with fail
    refine (HB.out _ HC.out).mono ?_
    rintro e w0 ⟨rfl, b0⟩
    go_wp2_with fail
    refine (HR.out _).mono ?_
    rintro e w1 ⟨rfl, b1⟩
    go_wp2_with fail
    refine (HS.out _).mono ?_
    rintro e w2 ⟨rfl, b2⟩
    go_wp2
    go_ret
    exact ⟨rfl, (b0.trans (b1.mono b0.size)).trans (b2.mono (b0.trans (b1.mono b0.size)).size)⟩
end Go.Proofs.Ytaokofnhkojllaa

set_option linter.unusedVariables false
namespace Go.RowAid
open Go.RowKit Go.WideShapes Go.ChangeShapes
variable {H : Type} {enc : TypeId × Value → H} {P : Program}

/-- What 'post' asks, of a world below whose first new block nothing has turned: whatever lies beyond may be frozen. -/
theorem post_of_below {f : Func} {s : ChangeSpec} {apart fresh handsOn again : Bool} {W W' : World} {args : Array Value} {v : Value} {ds gs : List (DataW H)} {before pa pv : List MemPlace}
    (hW : DataW.Whole enc P f.params.toList s.vars apart W args.toList ds gs before)
    (hres : ∀ (b : Nat) (sp : Nat → Bool) (hd : Bool), DataW.TrodAll enc P W' b sp hd f.resultTypes.toList (v.resultList f.resultTypes.size) (s.fn H (ds ++ gs)).results [])
    (hargs : ∀ sp : Nat → Bool, (∀ p ∈ before, sp p.block = true) → DataW.TrodAll enc P W' 0 sp true f.params.toList args.toList (s.fn H (ds ++ gs)).args pa)
    (hvars : ∀ sp : Nat → Bool, (∀ p ∈ before, sp p.block = true) → DataW.TrodVars enc P W' sp s.vars (s.fn H (ds ++ gs)).vars pv)
    (hps : before = pa ++ pv) (hb : Below W.heap.size W W')
    (hok : ∀ (j : Nat) (t : TypeId) (r : Value), f.resultTypes[j]? = some t → (v.resultList f.resultTypes.size)[j]? = some r → Value.okWide P W' .any 0 t r) :
    s.post enc P f apart fresh handsOn again W args v W' := by
  have below : ∀ p ∈ before, p.block < W.heap.size := fun p hp => hW.lt p hp
  have known : ∀ p ∈ before, (fun b => decide (b < W.heap.size)) p.block = true := fun p hp => decide_eq_true (below p hp)
  refine ⟨ds, gs, before, [], pa, pv, hW, hres _ _ _, hargs _ known, hvars _ known, World.keptBut_mono (fun p hp => ⟨hp, ?_⟩) (hb.frame (· ∈ before)), fun _ => ?_⟩
  · rw [hps, List.mem_append] at hp
    exact .inr hp
  obtain ⟨_, _, _, _, _, free, alone⟩ := hW
  refine ⟨hok, _, _, ([] ++ pa) ++ pv, ⟨[] ++ pa, pv, trodAll_append (hargs _ (fun _ _ => rfl)) (hres _ _ _), hvars _ (fun _ _ => rfl), rfl, ?_, ?_⟩, ?_⟩
  · intro b off hp
    have there : MemPlace.cell b off ∈ before := by rw [hps]; simpa using hp
    rw [hb.frozen (below _ there)]
    exact free b off there
  · intro ha
    have := alone ha
    rw [hps] at this
    simpa using this
  · intro p hp _
    rw [hps]
    simpa using hp
end Go.RowAid

/- Merged: RefD1, RefD2, RefD3, RefDD, RefF1, RefF2, RefF3, RefF4. -/
import Derived.Test.YtaokofnhkojllaaZS0
import Derived.Deep.RegionLaw
set_option linter.unusedVariables false
set_option linter.unusedSimpArgs false
namespace Go.Proofs.Ytaokofnhkojllaa
open Go.Shelf Go.RowKit Go.Lib Go.Aids Go.MapLit Go.Proofs.YtaokofnhkojllaaW.PrintWords
set_option maxRecDepth 100000 in
set_option maxHeartbeats 4000000 in
theorem rs_p1 (w : World) (b base : Nat) (v : Value) (s : ByteArray) (a : Nat) (l : List Tok) (h : RR w b base v s a l false) (hs : s.size ≤ 1000000) (hl : l.length ≤ 1000000) (ha : a ≤ s.size) (c d e3 : Nat) (q0 : qk s a 0 = c) (q1 : qk s a 1 = d) (q2 : qk s a 2 = e3) (hyp : c = 43 ∧ d < 48) :
    Calls Try.prog 47 #[.pointer (some ⟨b, 0, none⟩)] w (SizeR b base s l w (none)) := by
  obtain ⟨c0, c1, c2, c3, f1, f2, f3, hb⟩ := h.cells
  have hge := h.ge
  have HH := Lib.hid h
  clear h
  obtain ⟨R, hR, hz, hzu, hx⟩ := tail_at s a ha
  have x0 := hx 0 (by omega) (by decide)
  have x1 := hx 1 (by omega) (by decide)
  have x2 := hx 2 (by omega) (by decide)
  rw [q0] at x0
  rw [q1] at x1
  rw [q2] at x2
  have hcut := fun W => run_from (P := Try.prog) 9 Try.underlying9 s .i64 a ha W
  have hc := q_256 s a 0
  rw [q0] at hc
  have hd := q_256 s a 1
  rw [q1] at hd
  have he := q_256 s a 2
  rw [q2] at he
  have i0 : (0 : Int) < R.size := by omega
  have i1 : (1 : Int) < R.size := by omega
  have i2 : (2 : Int) < R.size := by omega
  have i9 : (1 : Int) ≤ R.size := by omega
  have j0 : 0 < R.size := by omega
  have j1 : 1 < R.size := by omega
  have j2 : 2 < R.size := by omega
  have e43 : ((c : Int) == 43) = true := by rw [beq_iff_eq]; omega
  have e45 : ((c : Int) == 45) = false := by rw [beq_eq_false_iff_ne]; omega
  have e40 : ((c : Int) == 40) = false := by rw [beq_eq_false_iff_ne]; omega
  have d49 : decide ((49 : Int) ≤ c) = false := decide_eq_false (by omega)
  have Dc := Lib.hid (fun W => dig_is2 c false (by unfold digB; rw [decide_eq_false_iff_not]; omega) W)
  have w48c : decide ((48 : Int) ≤ c) = false := decide_eq_false (by omega)
  have Dd := Lib.hid (fun W => dig_is2 d false (by unfold digB; rw [decide_eq_false_iff_not]; omega) W)
  have w48d : decide ((48 : Int) ≤ d) = false := decide_eq_false (by omega)
  clear hx q0 q1 q2 hzu
  clear hyp
  go_enter Try.func47, Try.ntmps47
  go_wp2
  go_quiet (fail)
  go_wp2
  go_end0
  exact ⟨rfl, ⟨v, a, l, (HH.out.drewN _).set3⟩, below_st (below_dr (Below.refl _ _)) hge⟩


set_option maxRecDepth 100000 in
set_option maxHeartbeats 4000000 in
theorem rs_p2 (w : World) (b base : Nat) (v : Value) (s : ByteArray) (a : Nat) (l : List Tok) (h : RR w b base v s a l false) (hs : s.size ≤ 1000000) (hl : l.length ≤ 1000000) (ha : a ≤ s.size) (c d e3 : Nat) (q0 : qk s a 0 = c) (q1 : qk s a 1 = d) (q2 : qk s a 2 = e3) (hyp : c = 43 ∧ 57 < d) :
    Calls Try.prog 47 #[.pointer (some ⟨b, 0, none⟩)] w (SizeR b base s l w (none)) := by
  obtain ⟨c0, c1, c2, c3, f1, f2, f3, hb⟩ := h.cells
  have hge := h.ge
  have HH := Lib.hid h
  clear h
  obtain ⟨R, hR, hz, hzu, hx⟩ := tail_at s a ha
  have x0 := hx 0 (by omega) (by decide)
  have x1 := hx 1 (by omega) (by decide)
  have x2 := hx 2 (by omega) (by decide)
  rw [q0] at x0
  rw [q1] at x1
  rw [q2] at x2
  have hcut := fun W => run_from (P := Try.prog) 9 Try.underlying9 s .i64 a ha W
  have hc := q_256 s a 0
  rw [q0] at hc
  have hd := q_256 s a 1
  rw [q1] at hd
  have he := q_256 s a 2
  rw [q2] at he
  have i0 : (0 : Int) < R.size := by omega
  have i1 : (1 : Int) < R.size := by omega
  have i2 : (2 : Int) < R.size := by omega
  have i9 : (1 : Int) ≤ R.size := by omega
  have j0 : 0 < R.size := by omega
  have j1 : 1 < R.size := by omega
  have j2 : 2 < R.size := by omega
  have e43 : ((c : Int) == 43) = true := by rw [beq_iff_eq]; omega
  have e45 : ((c : Int) == 45) = false := by rw [beq_eq_false_iff_ne]; omega
  have e40 : ((c : Int) == 40) = false := by rw [beq_eq_false_iff_ne]; omega
  have d49 : decide ((49 : Int) ≤ c) = false := decide_eq_false (by omega)
  have Dc := Lib.hid (fun W => dig_is2 c false (by unfold digB; rw [decide_eq_false_iff_not]; omega) W)
  have w48c : decide ((48 : Int) ≤ c) = false := decide_eq_false (by omega)
  have Dd := Lib.hid (fun W => dig_is2 d false (by unfold digB; rw [decide_eq_false_iff_not]; omega) W)
  have w48d : decide ((48 : Int) ≤ d) = true := decide_eq_true (by omega)
  have w57d : decide ((d : Int) ≤ 57) = false := decide_eq_false (by omega)
  clear hx q0 q1 q2 hzu
  clear hyp
  go_enter Try.func47, Try.ntmps47
  go_wp2
  go_quiet (fail)
  go_wp2
  go_end0
  exact ⟨rfl, ⟨v, a, l, (HH.out.drewN _).set3⟩, below_st (below_dr (Below.refl _ _)) hge⟩


set_option maxRecDepth 100000 in
set_option maxHeartbeats 4000000 in
theorem rs_p3 (w : World) (b base : Nat) (v : Value) (s : ByteArray) (a : Nat) (l : List Tok) (h : RR w b base v s a l false) (hs : s.size ≤ 1000000) (hl : l.length ≤ 1000000) (ha : a ≤ s.size) (c d e3 : Nat) (q0 : qk s a 0 = c) (q1 : qk s a 1 = d) (q2 : qk s a 2 = e3) (hyp : c = 43 ∧ (48 ≤ d ∧ d ≤ 57)) :
    Calls Try.prog 47 #[.pointer (some ⟨b, 0, none⟩)] w (SizeR b base s l w ((some (oneS c, d - 48, a + 2)))) := by
  obtain ⟨c0, c1, c2, c3, f1, f2, f3, hb⟩ := h.cells
  have hge := h.ge
  have HH := Lib.hid h
  clear h
  obtain ⟨R, hR, hz, hzu, hx⟩ := tail_at s a ha
  have x0 := hx 0 (by omega) (by decide)
  have x1 := hx 1 (by omega) (by decide)
  have x2 := hx 2 (by omega) (by decide)
  rw [q0] at x0
  rw [q1] at x1
  rw [q2] at x2
  have hcut := fun W => run_from (P := Try.prog) 9 Try.underlying9 s .i64 a ha W
  have hc := q_256 s a 0
  rw [q0] at hc
  have hd := q_256 s a 1
  rw [q1] at hd
  have he := q_256 s a 2
  rw [q2] at he
  have i0 : (0 : Int) < R.size := by omega
  have i1 : (1 : Int) < R.size := by omega
  have i2 : (2 : Int) < R.size := by omega
  have i9 : (1 : Int) ≤ R.size := by omega
  have j0 : 0 < R.size := by omega
  have j1 : 1 < R.size := by omega
  have j2 : 2 < R.size := by omega
  have e43 : ((c : Int) == 43) = true := by rw [beq_iff_eq]; omega
  have e45 : ((c : Int) == 45) = false := by rw [beq_eq_false_iff_ne]; omega
  have e40 : ((c : Int) == 40) = false := by rw [beq_eq_false_iff_ne]; omega
  have u8d : IntKind.u8.wrap ((d : Int) - 48) = (d : Int) - 48 := u8w _ (by omega) (by omega)
  have i6d : IntKind.i64.wrap ((d : Int) - 48) = (d : Int) - 48 := IntWalk.i64_in _ (by omega)
  have HN : Hid (((d : Int) - 48 : Int) = ((d - 48 : Nat) : Int)) := Lib.hid (by omega)
  have HONE := Lib.hid (one_ext R c (by omega) x0)
  have Dd := Lib.hid (fun W => dig_is2 d true (by unfold digB; rw [decide_eq_true_eq]; omega) W)
  have w48d : decide ((48 : Int) ≤ d) = true := decide_eq_true (by omega)
  have w57d : decide ((d : Int) ≤ 57) = true := decide_eq_true (by omega)
  clear hx q0 q1 q2 hzu
  clear hyp
  go_enter Try.func47, Try.ntmps47
  go_wp2
  go_quiet (fail)
  go_wp2
  have hw2 : IntKind.i64.wrap ((a : Int) + 2) = (a : Int) + 2 := IntWalk.i64_in _ (by omega)
  go_region_with (go_at_call 31; refine Calls.mono (put_at _ b base v s a l false 11 _ _ (HH.out.drewN _) hl (((d - 48 : Nat) : Int)) HN.out _ (HONE.out)) ?_; rintro e w2 ⟨rfl, ⟨v2, h2⟩, b2⟩; have HB2 := Lib.hid ((below_dr (Below.refl base w)).trans b2); obtain ⟨c20, c21, c22, c23, f21, f22, f23, hb2⟩ := h2.cells; have H2 := Lib.hid h2; clear h2 b2 c0 c1 c2 c3 f1 f2 f3 hb)
  go_wp2
  all_goals
    go_end0
    exact ⟨rfl, ⟨v2, RR.set1 H2.out _ (by omega)⟩, below_st HB2.out hge⟩


set_option maxRecDepth 100000 in
set_option maxHeartbeats 4000000 in
theorem rs_m1 (w : World) (b base : Nat) (v : Value) (s : ByteArray) (a : Nat) (l : List Tok) (h : RR w b base v s a l false) (hs : s.size ≤ 1000000) (hl : l.length ≤ 1000000) (ha : a ≤ s.size) (c d e3 : Nat) (q0 : qk s a 0 = c) (q1 : qk s a 1 = d) (q2 : qk s a 2 = e3) (hyp : c = 45 ∧ d < 48) :
    Calls Try.prog 47 #[.pointer (some ⟨b, 0, none⟩)] w (SizeR b base s l w (none)) := by
  obtain ⟨c0, c1, c2, c3, f1, f2, f3, hb⟩ := h.cells
  have hge := h.ge
  have HH := Lib.hid h
  clear h
  obtain ⟨R, hR, hz, hzu, hx⟩ := tail_at s a ha
  have x0 := hx 0 (by omega) (by decide)
  have x1 := hx 1 (by omega) (by decide)
  have x2 := hx 2 (by omega) (by decide)
  rw [q0] at x0
  rw [q1] at x1
  rw [q2] at x2
  have hcut := fun W => run_from (P := Try.prog) 9 Try.underlying9 s .i64 a ha W
  have hc := q_256 s a 0
  rw [q0] at hc
  have hd := q_256 s a 1
  rw [q1] at hd
  have he := q_256 s a 2
  rw [q2] at he
  have i0 : (0 : Int) < R.size := by omega
  have i1 : (1 : Int) < R.size := by omega
  have i2 : (2 : Int) < R.size := by omega
  have i9 : (1 : Int) ≤ R.size := by omega
  have j0 : 0 < R.size := by omega
  have j1 : 1 < R.size := by omega
  have j2 : 2 < R.size := by omega
  have e43 : ((c : Int) == 43) = false := by rw [beq_eq_false_iff_ne]; omega
  have e45 : ((c : Int) == 45) = true := by rw [beq_iff_eq]; omega
  have e40 : ((c : Int) == 40) = false := by rw [beq_eq_false_iff_ne]; omega
  have d49 : decide ((49 : Int) ≤ c) = false := decide_eq_false (by omega)
  have Dc := Lib.hid (fun W => dig_is2 c false (by unfold digB; rw [decide_eq_false_iff_not]; omega) W)
  have w48c : decide ((48 : Int) ≤ c) = false := decide_eq_false (by omega)
  have Dd := Lib.hid (fun W => dig_is2 d false (by unfold digB; rw [decide_eq_false_iff_not]; omega) W)
  have w48d : decide ((48 : Int) ≤ d) = false := decide_eq_false (by omega)
  clear hx q0 q1 q2 hzu
  clear hyp
  go_enter Try.func47, Try.ntmps47
  go_wp2
  go_quiet (fail)
  go_wp2
  go_end0
  exact ⟨rfl, ⟨v, a, l, (HH.out.drewN _).set3⟩, below_st (below_dr (Below.refl _ _)) hge⟩


set_option maxRecDepth 100000 in
set_option maxHeartbeats 4000000 in
theorem rs_m2 (w : World) (b base : Nat) (v : Value) (s : ByteArray) (a : Nat) (l : List Tok) (h : RR w b base v s a l false) (hs : s.size ≤ 1000000) (hl : l.length ≤ 1000000) (ha : a ≤ s.size) (c d e3 : Nat) (q0 : qk s a 0 = c) (q1 : qk s a 1 = d) (q2 : qk s a 2 = e3) (hyp : c = 45 ∧ 57 < d) :
    Calls Try.prog 47 #[.pointer (some ⟨b, 0, none⟩)] w (SizeR b base s l w (none)) := by
  obtain ⟨c0, c1, c2, c3, f1, f2, f3, hb⟩ := h.cells
  have hge := h.ge
  have HH := Lib.hid h
  clear h
  obtain ⟨R, hR, hz, hzu, hx⟩ := tail_at s a ha
  have x0 := hx 0 (by omega) (by decide)
  have x1 := hx 1 (by omega) (by decide)
  have x2 := hx 2 (by omega) (by decide)
  rw [q0] at x0
  rw [q1] at x1
  rw [q2] at x2
  have hcut := fun W => run_from (P := Try.prog) 9 Try.underlying9 s .i64 a ha W
  have hc := q_256 s a 0
  rw [q0] at hc
  have hd := q_256 s a 1
  rw [q1] at hd
  have he := q_256 s a 2
  rw [q2] at he
  have i0 : (0 : Int) < R.size := by omega
  have i1 : (1 : Int) < R.size := by omega
  have i2 : (2 : Int) < R.size := by omega
  have i9 : (1 : Int) ≤ R.size := by omega
  have j0 : 0 < R.size := by omega
  have j1 : 1 < R.size := by omega
  have j2 : 2 < R.size := by omega
  have e43 : ((c : Int) == 43) = false := by rw [beq_eq_false_iff_ne]; omega
  have e45 : ((c : Int) == 45) = true := by rw [beq_iff_eq]; omega
  have e40 : ((c : Int) == 40) = false := by rw [beq_eq_false_iff_ne]; omega
  have d49 : decide ((49 : Int) ≤ c) = false := decide_eq_false (by omega)
  have Dc := Lib.hid (fun W => dig_is2 c false (by unfold digB; rw [decide_eq_false_iff_not]; omega) W)
  have w48c : decide ((48 : Int) ≤ c) = false := decide_eq_false (by omega)
  have Dd := Lib.hid (fun W => dig_is2 d false (by unfold digB; rw [decide_eq_false_iff_not]; omega) W)
  have w48d : decide ((48 : Int) ≤ d) = true := decide_eq_true (by omega)
  have w57d : decide ((d : Int) ≤ 57) = false := decide_eq_false (by omega)
  clear hx q0 q1 q2 hzu
  clear hyp
  go_enter Try.func47, Try.ntmps47
  go_wp2
  go_quiet (fail)
  go_wp2
  go_end0
  exact ⟨rfl, ⟨v, a, l, (HH.out.drewN _).set3⟩, below_st (below_dr (Below.refl _ _)) hge⟩


set_option maxRecDepth 100000 in
set_option maxHeartbeats 4000000 in
theorem rs_m3 (w : World) (b base : Nat) (v : Value) (s : ByteArray) (a : Nat) (l : List Tok) (h : RR w b base v s a l false) (hs : s.size ≤ 1000000) (hl : l.length ≤ 1000000) (ha : a ≤ s.size) (c d e3 : Nat) (q0 : qk s a 0 = c) (q1 : qk s a 1 = d) (q2 : qk s a 2 = e3) (hyp : c = 45 ∧ (48 ≤ d ∧ d ≤ 57)) :
    Calls Try.prog 47 #[.pointer (some ⟨b, 0, none⟩)] w (SizeR b base s l w ((some (oneS c, d - 48, a + 2)))) := by
  obtain ⟨c0, c1, c2, c3, f1, f2, f3, hb⟩ := h.cells
  have hge := h.ge
  have HH := Lib.hid h
  clear h
  obtain ⟨R, hR, hz, hzu, hx⟩ := tail_at s a ha
  have x0 := hx 0 (by omega) (by decide)
  have x1 := hx 1 (by omega) (by decide)
  have x2 := hx 2 (by omega) (by decide)
  rw [q0] at x0
  rw [q1] at x1
  rw [q2] at x2
  have hcut := fun W => run_from (P := Try.prog) 9 Try.underlying9 s .i64 a ha W
  have hc := q_256 s a 0
  rw [q0] at hc
  have hd := q_256 s a 1
  rw [q1] at hd
  have he := q_256 s a 2
  rw [q2] at he
  have i0 : (0 : Int) < R.size := by omega
  have i1 : (1 : Int) < R.size := by omega
  have i2 : (2 : Int) < R.size := by omega
  have i9 : (1 : Int) ≤ R.size := by omega
  have j0 : 0 < R.size := by omega
  have j1 : 1 < R.size := by omega
  have j2 : 2 < R.size := by omega
  have e43 : ((c : Int) == 43) = false := by rw [beq_eq_false_iff_ne]; omega
  have e45 : ((c : Int) == 45) = true := by rw [beq_iff_eq]; omega
  have e40 : ((c : Int) == 40) = false := by rw [beq_eq_false_iff_ne]; omega
  have u8d : IntKind.u8.wrap ((d : Int) - 48) = (d : Int) - 48 := u8w _ (by omega) (by omega)
  have i6d : IntKind.i64.wrap ((d : Int) - 48) = (d : Int) - 48 := IntWalk.i64_in _ (by omega)
  have HN : Hid (((d : Int) - 48 : Int) = ((d - 48 : Nat) : Int)) := Lib.hid (by omega)
  have HONE := Lib.hid (one_ext R c (by omega) x0)
  have Dd := Lib.hid (fun W => dig_is2 d true (by unfold digB; rw [decide_eq_true_eq]; omega) W)
  have w48d : decide ((48 : Int) ≤ d) = true := decide_eq_true (by omega)
  have w57d : decide ((d : Int) ≤ 57) = true := decide_eq_true (by omega)
  clear hx q0 q1 q2 hzu
  clear hyp
  go_enter Try.func47, Try.ntmps47
  go_wp2
  go_quiet (fail)
  go_wp2
  have hw2 : IntKind.i64.wrap ((a : Int) + 2) = (a : Int) + 2 := IntWalk.i64_in _ (by omega)
  go_region_with (go_at_call 31; refine Calls.mono (put_at _ b base v s a l false 11 _ _ (HH.out.drewN _) hl (((d - 48 : Nat) : Int)) HN.out _ (HONE.out)) ?_; rintro e w2 ⟨rfl, ⟨v2, h2⟩, b2⟩; have HB2 := Lib.hid ((below_dr (Below.refl base w)).trans b2); obtain ⟨c20, c21, c22, c23, f21, f22, f23, hb2⟩ := h2.cells; have H2 := Lib.hid h2; clear h2 b2 c0 c1 c2 c3 f1 f2 f3 hb)
  go_wp2
  all_goals
    go_end0
    exact ⟨rfl, ⟨v2, RR.set1 H2.out _ (by omega)⟩, below_st HB2.out hge⟩


end Go.Proofs.Ytaokofnhkojllaa

set_option linter.unusedVariables false
set_option linter.unusedSimpArgs false
namespace Go.Proofs.Ytaokofnhkojllaa
open Go.Shelf Go.RowKit Go.Lib Go.Aids Go.MapLit Go.Proofs.YtaokofnhkojllaaW.PrintWords
set_option maxRecDepth 100000 in
set_option maxHeartbeats 4000000 in
theorem rs_b1 (w : World) (b base : Nat) (v : Value) (s : ByteArray) (a : Nat) (l : List Tok) (h : RR w b base v s a l false) (hs : s.size ≤ 1000000) (hl : l.length ≤ 1000000) (ha : a ≤ s.size) (c d e3 : Nat) (q0 : qk s a 0 = c) (q1 : qk s a 1 = d) (q2 : qk s a 2 = e3) (hyp : c = 40 ∧ d < 48) :
    Calls Try.prog 47 #[.pointer (some ⟨b, 0, none⟩)] w (SizeR b base s l w (none)) := by
  obtain ⟨c0, c1, c2, c3, f1, f2, f3, hb⟩ := h.cells
  have hge := h.ge
  have HH := Lib.hid h
  clear h
  obtain ⟨R, hR, hz, hzu, hx⟩ := tail_at s a ha
  have x0 := hx 0 (by omega) (by decide)
  have x1 := hx 1 (by omega) (by decide)
  have x2 := hx 2 (by omega) (by decide)
  rw [q0] at x0
  rw [q1] at x1
  rw [q2] at x2
  have hcut := fun W => run_from (P := Try.prog) 9 Try.underlying9 s .i64 a ha W
  have hc := q_256 s a 0
  rw [q0] at hc
  have hd := q_256 s a 1
  rw [q1] at hd
  have he := q_256 s a 2
  rw [q2] at he
  have i0 : (0 : Int) < R.size := by omega
  have i1 : (1 : Int) < R.size := by omega
  have i2 : (2 : Int) < R.size := by omega
  have i9 : (1 : Int) ≤ R.size := by omega
  have j0 : 0 < R.size := by omega
  have j1 : 1 < R.size := by omega
  have j2 : 2 < R.size := by omega
  have e43 : ((c : Int) == 43) = false := by rw [beq_eq_false_iff_ne]; omega
  have e45 : ((c : Int) == 45) = false := by rw [beq_eq_false_iff_ne]; omega
  have e40 : ((c : Int) == 40) = true := by rw [beq_iff_eq]; omega
  have d49 : decide ((49 : Int) ≤ c) = false := decide_eq_false (by omega)
  have Dc := Lib.hid (fun W => dig_is2 c false (by unfold digB; rw [decide_eq_false_iff_not]; omega) W)
  have w48c : decide ((48 : Int) ≤ c) = false := decide_eq_false (by omega)
  have Dd := Lib.hid (fun W => dig_is2 d false (by unfold digB; rw [decide_eq_false_iff_not]; omega) W)
  have w48d : decide ((48 : Int) ≤ d) = false := decide_eq_false (by omega)
  clear hx q0 q1 q2 hzu
  clear hyp
  go_enter Try.func47, Try.ntmps47
  go_wp2
  go_quiet (fail)
  go_wp2
  go_end0
  exact ⟨rfl, ⟨v, a, l, (HH.out.drewN _).set3⟩, below_st (below_dr (Below.refl _ _)) hge⟩


set_option maxRecDepth 100000 in
set_option maxHeartbeats 4000000 in
theorem rs_b2 (w : World) (b base : Nat) (v : Value) (s : ByteArray) (a : Nat) (l : List Tok) (h : RR w b base v s a l false) (hs : s.size ≤ 1000000) (hl : l.length ≤ 1000000) (ha : a ≤ s.size) (c d e3 : Nat) (q0 : qk s a 0 = c) (q1 : qk s a 1 = d) (q2 : qk s a 2 = e3) (hyp : c = 40 ∧ 57 < d) :
    Calls Try.prog 47 #[.pointer (some ⟨b, 0, none⟩)] w (SizeR b base s l w (none)) := by
  obtain ⟨c0, c1, c2, c3, f1, f2, f3, hb⟩ := h.cells
  have hge := h.ge
  have HH := Lib.hid h
  clear h
  obtain ⟨R, hR, hz, hzu, hx⟩ := tail_at s a ha
  have x0 := hx 0 (by omega) (by decide)
  have x1 := hx 1 (by omega) (by decide)
  have x2 := hx 2 (by omega) (by decide)
  rw [q0] at x0
  rw [q1] at x1
  rw [q2] at x2
  have hcut := fun W => run_from (P := Try.prog) 9 Try.underlying9 s .i64 a ha W
  have hc := q_256 s a 0
  rw [q0] at hc
  have hd := q_256 s a 1
  rw [q1] at hd
  have he := q_256 s a 2
  rw [q2] at he
  have i0 : (0 : Int) < R.size := by omega
  have i1 : (1 : Int) < R.size := by omega
  have i2 : (2 : Int) < R.size := by omega
  have i9 : (1 : Int) ≤ R.size := by omega
  have j0 : 0 < R.size := by omega
  have j1 : 1 < R.size := by omega
  have j2 : 2 < R.size := by omega
  have e43 : ((c : Int) == 43) = false := by rw [beq_eq_false_iff_ne]; omega
  have e45 : ((c : Int) == 45) = false := by rw [beq_eq_false_iff_ne]; omega
  have e40 : ((c : Int) == 40) = true := by rw [beq_iff_eq]; omega
  have d49 : decide ((49 : Int) ≤ c) = false := decide_eq_false (by omega)
  have Dc := Lib.hid (fun W => dig_is2 c false (by unfold digB; rw [decide_eq_false_iff_not]; omega) W)
  have w48c : decide ((48 : Int) ≤ c) = false := decide_eq_false (by omega)
  have Dd := Lib.hid (fun W => dig_is2 d false (by unfold digB; rw [decide_eq_false_iff_not]; omega) W)
  have w48d : decide ((48 : Int) ≤ d) = true := decide_eq_true (by omega)
  have w57d : decide ((d : Int) ≤ 57) = false := decide_eq_false (by omega)
  clear hx q0 q1 q2 hzu
  clear hyp
  go_enter Try.func47, Try.ntmps47
  go_wp2
  go_quiet (fail)
  go_wp2
  go_end0
  exact ⟨rfl, ⟨v, a, l, (HH.out.drewN _).set3⟩, below_st (below_dr (Below.refl _ _)) hge⟩


set_option maxRecDepth 100000 in
set_option maxHeartbeats 4000000 in
theorem rs_b3 (w : World) (b base : Nat) (v : Value) (s : ByteArray) (a : Nat) (l : List Tok) (h : RR w b base v s a l false) (hs : s.size ≤ 1000000) (hl : l.length ≤ 1000000) (ha : a ≤ s.size) (c d e3 : Nat) (q0 : qk s a 0 = c) (q1 : qk s a 1 = d) (q2 : qk s a 2 = e3) (hyp : c = 40 ∧ (48 ≤ d ∧ d ≤ 57) ∧ e3 < 48) :
    Calls Try.prog 47 #[.pointer (some ⟨b, 0, none⟩)] w (SizeR b base s l w (none)) := by
  obtain ⟨c0, c1, c2, c3, f1, f2, f3, hb⟩ := h.cells
  have hge := h.ge
  have HH := Lib.hid h
  clear h
  obtain ⟨R, hR, hz, hzu, hx⟩ := tail_at s a ha
  have x0 := hx 0 (by omega) (by decide)
  have x1 := hx 1 (by omega) (by decide)
  have x2 := hx 2 (by omega) (by decide)
  rw [q0] at x0
  rw [q1] at x1
  rw [q2] at x2
  have hcut := fun W => run_from (P := Try.prog) 9 Try.underlying9 s .i64 a ha W
  have hc := q_256 s a 0
  rw [q0] at hc
  have hd := q_256 s a 1
  rw [q1] at hd
  have he := q_256 s a 2
  rw [q2] at he
  have i0 : (0 : Int) < R.size := by omega
  have i1 : (1 : Int) < R.size := by omega
  have i2 : (2 : Int) < R.size := by omega
  have i9 : (1 : Int) ≤ R.size := by omega
  have j0 : 0 < R.size := by omega
  have j1 : 1 < R.size := by omega
  have j2 : 2 < R.size := by omega
  have e43 : ((c : Int) == 43) = false := by rw [beq_eq_false_iff_ne]; omega
  have e45 : ((c : Int) == 45) = false := by rw [beq_eq_false_iff_ne]; omega
  have e40 : ((c : Int) == 40) = true := by rw [beq_iff_eq]; omega
  have d49 : decide ((49 : Int) ≤ c) = false := decide_eq_false (by omega)
  have Dc := Lib.hid (fun W => dig_is2 c false (by unfold digB; rw [decide_eq_false_iff_not]; omega) W)
  have w48c : decide ((48 : Int) ≤ c) = false := decide_eq_false (by omega)
  have Dd := Lib.hid (fun W => dig_is2 d true (by unfold digB; rw [decide_eq_true_eq]; omega) W)
  have w48d : decide ((48 : Int) ≤ d) = true := decide_eq_true (by omega)
  have w57d : decide ((d : Int) ≤ 57) = true := decide_eq_true (by omega)
  have De3 := Lib.hid (fun W => dig_is2 e3 false (by unfold digB; rw [decide_eq_false_iff_not]; omega) W)
  have w48e3 : decide ((48 : Int) ≤ e3) = false := decide_eq_false (by omega)
  clear hx q0 q1 q2 hzu
  clear hyp
  go_enter Try.func47, Try.ntmps47
  go_wp2
  go_quiet (fail)
  go_wp2
  go_end0
  exact ⟨rfl, ⟨v, a, l, (HH.out.drewN _).set3⟩, below_st (below_dr (Below.refl _ _)) hge⟩


set_option maxRecDepth 100000 in
set_option maxHeartbeats 4000000 in
theorem rs_b4 (w : World) (b base : Nat) (v : Value) (s : ByteArray) (a : Nat) (l : List Tok) (h : RR w b base v s a l false) (hs : s.size ≤ 1000000) (hl : l.length ≤ 1000000) (ha : a ≤ s.size) (c d e3 : Nat) (q0 : qk s a 0 = c) (q1 : qk s a 1 = d) (q2 : qk s a 2 = e3) (hyp : c = 40 ∧ (48 ≤ d ∧ d ≤ 57) ∧ 57 < e3) :
    Calls Try.prog 47 #[.pointer (some ⟨b, 0, none⟩)] w (SizeR b base s l w (none)) := by
  obtain ⟨c0, c1, c2, c3, f1, f2, f3, hb⟩ := h.cells
  have hge := h.ge
  have HH := Lib.hid h
  clear h
  obtain ⟨R, hR, hz, hzu, hx⟩ := tail_at s a ha
  have x0 := hx 0 (by omega) (by decide)
  have x1 := hx 1 (by omega) (by decide)
  have x2 := hx 2 (by omega) (by decide)
  rw [q0] at x0
  rw [q1] at x1
  rw [q2] at x2
  have hcut := fun W => run_from (P := Try.prog) 9 Try.underlying9 s .i64 a ha W
  have hc := q_256 s a 0
  rw [q0] at hc
  have hd := q_256 s a 1
  rw [q1] at hd
  have he := q_256 s a 2
  rw [q2] at he
  have i0 : (0 : Int) < R.size := by omega
  have i1 : (1 : Int) < R.size := by omega
  have i2 : (2 : Int) < R.size := by omega
  have i9 : (1 : Int) ≤ R.size := by omega
  have j0 : 0 < R.size := by omega
  have j1 : 1 < R.size := by omega
  have j2 : 2 < R.size := by omega
  have e43 : ((c : Int) == 43) = false := by rw [beq_eq_false_iff_ne]; omega
  have e45 : ((c : Int) == 45) = false := by rw [beq_eq_false_iff_ne]; omega
  have e40 : ((c : Int) == 40) = true := by rw [beq_iff_eq]; omega
  have d49 : decide ((49 : Int) ≤ c) = false := decide_eq_false (by omega)
  have Dc := Lib.hid (fun W => dig_is2 c false (by unfold digB; rw [decide_eq_false_iff_not]; omega) W)
  have w48c : decide ((48 : Int) ≤ c) = false := decide_eq_false (by omega)
  have Dd := Lib.hid (fun W => dig_is2 d true (by unfold digB; rw [decide_eq_true_eq]; omega) W)
  have w48d : decide ((48 : Int) ≤ d) = true := decide_eq_true (by omega)
  have w57d : decide ((d : Int) ≤ 57) = true := decide_eq_true (by omega)
  have De3 := Lib.hid (fun W => dig_is2 e3 false (by unfold digB; rw [decide_eq_false_iff_not]; omega) W)
  have w48e3 : decide ((48 : Int) ≤ e3) = true := decide_eq_true (by omega)
  have w57e3 : decide ((e3 : Int) ≤ 57) = false := decide_eq_false (by omega)
  clear hx q0 q1 q2 hzu
  clear hyp
  go_enter Try.func47, Try.ntmps47
  go_wp2
  go_quiet (fail)
  go_wp2
  go_end0
  exact ⟨rfl, ⟨v, a, l, (HH.out.drewN _).set3⟩, below_st (below_dr (Below.refl _ _)) hge⟩


set_option maxRecDepth 100000 in
set_option maxHeartbeats 4000000 in
theorem rs_b5 (w : World) (b base : Nat) (v : Value) (s : ByteArray) (a : Nat) (l : List Tok) (h : RR w b base v s a l false) (hs : s.size ≤ 1000000) (hl : l.length ≤ 1000000) (ha : a ≤ s.size) (c d e3 : Nat) (q0 : qk s a 0 = c) (q1 : qk s a 1 = d) (q2 : qk s a 2 = e3) (hyp : c = 40 ∧ (48 ≤ d ∧ d ≤ 57) ∧ (48 ≤ e3 ∧ e3 ≤ 57)) :
    Calls Try.prog 47 #[.pointer (some ⟨b, 0, none⟩)] w (SizeR b base s l w ((some (⟨#[]⟩, (d - 48) * 10 + (e3 - 48), a + 3)))) := by
  obtain ⟨c0, c1, c2, c3, f1, f2, f3, hb⟩ := h.cells
  have hge := h.ge
  have HH := Lib.hid h
  clear h
  obtain ⟨R, hR, hz, hzu, hx⟩ := tail_at s a ha
  have x0 := hx 0 (by omega) (by decide)
  have x1 := hx 1 (by omega) (by decide)
  have x2 := hx 2 (by omega) (by decide)
  rw [q0] at x0
  rw [q1] at x1
  rw [q2] at x2
  have hcut := fun W => run_from (P := Try.prog) 9 Try.underlying9 s .i64 a ha W
  have hc := q_256 s a 0
  rw [q0] at hc
  have hd := q_256 s a 1
  rw [q1] at hd
  have he := q_256 s a 2
  rw [q2] at he
  have i0 : (0 : Int) < R.size := by omega
  have i1 : (1 : Int) < R.size := by omega
  have i2 : (2 : Int) < R.size := by omega
  have i9 : (1 : Int) ≤ R.size := by omega
  have j0 : 0 < R.size := by omega
  have j1 : 1 < R.size := by omega
  have j2 : 2 < R.size := by omega
  have e43 : ((c : Int) == 43) = false := by rw [beq_eq_false_iff_ne]; omega
  have e45 : ((c : Int) == 45) = false := by rw [beq_eq_false_iff_ne]; omega
  have e40 : ((c : Int) == 40) = true := by rw [beq_iff_eq]; omega
  have u8d : IntKind.u8.wrap ((d : Int) - 48) = (d : Int) - 48 := u8w _ (by omega) (by omega)
  have i6d : IntKind.i64.wrap ((d : Int) - 48) = (d : Int) - 48 := IntWalk.i64_in _ (by omega)
  have u8e3 : IntKind.u8.wrap ((e3 : Int) - 48) = (e3 : Int) - 48 := u8w _ (by omega) (by omega)
  have i6e3 : IntKind.i64.wrap ((e3 : Int) - 48) = (e3 : Int) - 48 := IntWalk.i64_in _ (by omega)
  have m6 : IntKind.i64.wrap (10 * ((d : Int) - 48)) = 10 * ((d : Int) - 48) := IntWalk.i64_in _ (by omega)
  have s6 : IntKind.i64.wrap (10 * ((d : Int) - 48) + ((e3 : Int) - 48)) = 10 * ((d : Int) - 48) + ((e3 : Int) - 48) := IntWalk.i64_in _ (by omega)
  have HN : Hid ((10 * ((d : Int) - 48) + ((e3 : Int) - 48) : Int) = (((d - 48) * 10 + (e3 - 48) : Nat) : Int)) := Lib.hid (by omega)
  have Dd := Lib.hid (fun W => dig_is2 d true (by unfold digB; rw [decide_eq_true_eq]; omega) W)
  have w48d : decide ((48 : Int) ≤ d) = true := decide_eq_true (by omega)
  have w57d : decide ((d : Int) ≤ 57) = true := decide_eq_true (by omega)
  have De3 := Lib.hid (fun W => dig_is2 e3 true (by unfold digB; rw [decide_eq_true_eq]; omega) W)
  have w48e3 : decide ((48 : Int) ≤ e3) = true := decide_eq_true (by omega)
  have w57e3 : decide ((e3 : Int) ≤ 57) = true := decide_eq_true (by omega)
  clear hx q0 q1 q2 hzu
  clear hyp
  go_enter Try.func47, Try.ntmps47
  go_wp2
  go_quiet (fail)
  have hw2 : IntKind.i64.wrap ((a : Int) + 3) = (a : Int) + 3 := IntWalk.i64_in _ (by omega)
  go_wp2_with (go_at_call 58; (first | (refine Calls.mono (Dc.out _) ?_) | (refine Calls.mono (Dd.out _) ?_) | (refine Calls.mono (De3.out _) ?_)); rintro e w' ⟨rfl, rfl⟩)
  go_region_with (go_at_call 31; refine Calls.mono (put_at _ b base v s a l false 11 _ _ (HH.out.drewN _) hl ((((d - 48) * 10 + (e3 - 48) : Nat) : Int)) HN.out _ (rfl)) ?_; rintro e w2 ⟨rfl, ⟨v2, h2⟩, b2⟩; have HB2 := Lib.hid ((below_dr (Below.refl base w)).trans b2); obtain ⟨c20, c21, c22, c23, f21, f22, f23, hb2⟩ := h2.cells; have H2 := Lib.hid h2; clear h2 b2 c0 c1 c2 c3 f1 f2 f3 hb)
  all_goals go_wp2
  all_goals
    go_end0
    exact ⟨rfl, ⟨v2, RR.set1 H2.out _ (by omega)⟩, below_st HB2.out hge⟩


end Go.Proofs.Ytaokofnhkojllaa

set_option linter.unusedVariables false
set_option linter.unusedSimpArgs false
namespace Go.Proofs.Ytaokofnhkojllaa
open Go.Shelf Go.RowKit Go.Lib Go.Aids Go.MapLit Go.Proofs.YtaokofnhkojllaaW.PrintWords
set_option maxRecDepth 100000 in
set_option maxHeartbeats 4000000 in
theorem rs_c1 (w : World) (b base : Nat) (v : Value) (s : ByteArray) (a : Nat) (l : List Tok) (h : RR w b base v s a l false) (hs : s.size ≤ 1000000) (hl : l.length ≤ 1000000) (ha : a ≤ s.size) (c d e3 : Nat) (q0 : qk s a 0 = c) (q1 : qk s a 1 = d) (q2 : qk s a 2 = e3) (hyp : (49 ≤ c ∧ c ≤ 51) ∧ d < 48) :
    Calls Try.prog 47 #[.pointer (some ⟨b, 0, none⟩)] w (SizeR b base s l w ((some (⟨#[]⟩, c - 48, a + 1)))) := by
  obtain ⟨c0, c1, c2, c3, f1, f2, f3, hb⟩ := h.cells
  have hge := h.ge
  have HH := Lib.hid h
  clear h
  obtain ⟨R, hR, hz, hzu, hx⟩ := tail_at s a ha
  have x0 := hx 0 (by omega) (by decide)
  have x1 := hx 1 (by omega) (by decide)
  have x2 := hx 2 (by omega) (by decide)
  rw [q0] at x0
  rw [q1] at x1
  rw [q2] at x2
  have hcut := fun W => run_from (P := Try.prog) 9 Try.underlying9 s .i64 a ha W
  have hc := q_256 s a 0
  rw [q0] at hc
  have hd := q_256 s a 1
  rw [q1] at hd
  have he := q_256 s a 2
  rw [q2] at he
  have i0 : (0 : Int) < R.size := by omega
  have i1 : (1 : Int) < R.size := by omega
  have i2 : (2 : Int) < R.size := by omega
  have i9 : (1 : Int) ≤ R.size := by omega
  have j0 : 0 < R.size := by omega
  have j1 : 1 < R.size := by omega
  have j2 : 2 < R.size := by omega
  have e43 : ((c : Int) == 43) = false := by rw [beq_eq_false_iff_ne]; omega
  have e45 : ((c : Int) == 45) = false := by rw [beq_eq_false_iff_ne]; omega
  have e40 : ((c : Int) == 40) = false := by rw [beq_eq_false_iff_ne]; omega
  have d49 : decide ((49 : Int) ≤ c) = true := decide_eq_true (by omega)
  have d51 : decide ((c : Int) ≤ 51) = true := decide_eq_true (by omega)
  have u8c : IntKind.u8.wrap ((c : Int) - 48) = (c : Int) - 48 := u8w _ (by omega) (by omega)
  have i6c : IntKind.i64.wrap ((c : Int) - 48) = (c : Int) - 48 := IntWalk.i64_in _ (by omega)
  have HN : Hid (((c : Int) - 48 : Int) = ((c - 48 : Nat) : Int)) := Lib.hid (by omega)
  have Dc := Lib.hid (fun W => dig_is2 c true (by unfold digB; rw [decide_eq_true_eq]; omega) W)
  have w48c : decide ((48 : Int) ≤ c) = true := decide_eq_true (by omega)
  have w57c : decide ((c : Int) ≤ 57) = true := decide_eq_true (by omega)
  have Dd := Lib.hid (fun W => dig_is2 d false (by unfold digB; rw [decide_eq_false_iff_not]; omega) W)
  have w48d : decide ((48 : Int) ≤ d) = false := decide_eq_false (by omega)
  clear hx q0 q1 q2 hzu
  clear hyp
  go_enter Try.func47, Try.ntmps47
  go_wp2
  go_quiet (fail)
  have hw2 : IntKind.i64.wrap ((a : Int) + 1) = (a : Int) + 1 := IntWalk.i64_in _ (by omega)
  go_wp2_with (first | (go_at_call 58; (first | (refine Calls.mono (Dc.out _) ?_) | (refine Calls.mono (Dd.out _) ?_) | (refine Calls.mono (De3.out _) ?_)); rintro e w' ⟨rfl, rfl⟩) | (go_at_call 31; refine Calls.mono (put_at _ b base v s a l false 11 _ _ (HH.out.drewN _) hl (((c - 48 : Nat) : Int)) HN.out _ (rfl)) ?_; rintro e w2 ⟨rfl, ⟨v2, h2⟩, b2⟩; have HB2 := Lib.hid ((below_dr (Below.refl base w)).trans b2); obtain ⟨c20, c21, c22, c23, f21, f22, f23, hb2⟩ := h2.cells; have H2 := Lib.hid h2; clear h2 b2 c0 c1 c2 c3 f1 f2 f3 hb))
  all_goals
    go_end0
    exact ⟨rfl, ⟨v2, RR.set1 H2.out _ (by omega)⟩, below_st HB2.out hge⟩


set_option maxRecDepth 100000 in
set_option maxHeartbeats 4000000 in
theorem rs_c2 (w : World) (b base : Nat) (v : Value) (s : ByteArray) (a : Nat) (l : List Tok) (h : RR w b base v s a l false) (hs : s.size ≤ 1000000) (hl : l.length ≤ 1000000) (ha : a ≤ s.size) (c d e3 : Nat) (q0 : qk s a 0 = c) (q1 : qk s a 1 = d) (q2 : qk s a 2 = e3) (hyp : (49 ≤ c ∧ c ≤ 51) ∧ 57 < d) :
    Calls Try.prog 47 #[.pointer (some ⟨b, 0, none⟩)] w (SizeR b base s l w ((some (⟨#[]⟩, c - 48, a + 1)))) := by
  obtain ⟨c0, c1, c2, c3, f1, f2, f3, hb⟩ := h.cells
  have hge := h.ge
  have HH := Lib.hid h
  clear h
  obtain ⟨R, hR, hz, hzu, hx⟩ := tail_at s a ha
  have x0 := hx 0 (by omega) (by decide)
  have x1 := hx 1 (by omega) (by decide)
  have x2 := hx 2 (by omega) (by decide)
  rw [q0] at x0
  rw [q1] at x1
  rw [q2] at x2
  have hcut := fun W => run_from (P := Try.prog) 9 Try.underlying9 s .i64 a ha W
  have hc := q_256 s a 0
  rw [q0] at hc
  have hd := q_256 s a 1
  rw [q1] at hd
  have he := q_256 s a 2
  rw [q2] at he
  have i0 : (0 : Int) < R.size := by omega
  have i1 : (1 : Int) < R.size := by omega
  have i2 : (2 : Int) < R.size := by omega
  have i9 : (1 : Int) ≤ R.size := by omega
  have j0 : 0 < R.size := by omega
  have j1 : 1 < R.size := by omega
  have j2 : 2 < R.size := by omega
  have e43 : ((c : Int) == 43) = false := by rw [beq_eq_false_iff_ne]; omega
  have e45 : ((c : Int) == 45) = false := by rw [beq_eq_false_iff_ne]; omega
  have e40 : ((c : Int) == 40) = false := by rw [beq_eq_false_iff_ne]; omega
  have d49 : decide ((49 : Int) ≤ c) = true := decide_eq_true (by omega)
  have d51 : decide ((c : Int) ≤ 51) = true := decide_eq_true (by omega)
  have u8c : IntKind.u8.wrap ((c : Int) - 48) = (c : Int) - 48 := u8w _ (by omega) (by omega)
  have i6c : IntKind.i64.wrap ((c : Int) - 48) = (c : Int) - 48 := IntWalk.i64_in _ (by omega)
  have HN : Hid (((c : Int) - 48 : Int) = ((c - 48 : Nat) : Int)) := Lib.hid (by omega)
  have Dc := Lib.hid (fun W => dig_is2 c true (by unfold digB; rw [decide_eq_true_eq]; omega) W)
  have w48c : decide ((48 : Int) ≤ c) = true := decide_eq_true (by omega)
  have w57c : decide ((c : Int) ≤ 57) = true := decide_eq_true (by omega)
  have Dd := Lib.hid (fun W => dig_is2 d false (by unfold digB; rw [decide_eq_false_iff_not]; omega) W)
  have w48d : decide ((48 : Int) ≤ d) = true := decide_eq_true (by omega)
  have w57d : decide ((d : Int) ≤ 57) = false := decide_eq_false (by omega)
  clear hx q0 q1 q2 hzu
  clear hyp
  go_enter Try.func47, Try.ntmps47
  go_wp2
  go_quiet (fail)
  have hw2 : IntKind.i64.wrap ((a : Int) + 1) = (a : Int) + 1 := IntWalk.i64_in _ (by omega)
  go_wp2_with (first | (go_at_call 58; (first | (refine Calls.mono (Dc.out _) ?_) | (refine Calls.mono (Dd.out _) ?_) | (refine Calls.mono (De3.out _) ?_)); rintro e w' ⟨rfl, rfl⟩) | (go_at_call 31; refine Calls.mono (put_at _ b base v s a l false 11 _ _ (HH.out.drewN _) hl (((c - 48 : Nat) : Int)) HN.out _ (rfl)) ?_; rintro e w2 ⟨rfl, ⟨v2, h2⟩, b2⟩; have HB2 := Lib.hid ((below_dr (Below.refl base w)).trans b2); obtain ⟨c20, c21, c22, c23, f21, f22, f23, hb2⟩ := h2.cells; have H2 := Lib.hid h2; clear h2 b2 c0 c1 c2 c3 f1 f2 f3 hb))
  all_goals
    go_end0
    exact ⟨rfl, ⟨v2, RR.set1 H2.out _ (by omega)⟩, below_st HB2.out hge⟩


set_option maxRecDepth 100000 in
set_option maxHeartbeats 4000000 in
theorem rs_c3 (w : World) (b base : Nat) (v : Value) (s : ByteArray) (a : Nat) (l : List Tok) (h : RR w b base v s a l false) (hs : s.size ≤ 1000000) (hl : l.length ≤ 1000000) (ha : a ≤ s.size) (c d e3 : Nat) (q0 : qk s a 0 = c) (q1 : qk s a 1 = d) (q2 : qk s a 2 = e3) (hyp : (49 ≤ c ∧ c ≤ 51) ∧ (48 ≤ d ∧ d ≤ 57)) :
    Calls Try.prog 47 #[.pointer (some ⟨b, 0, none⟩)] w (SizeR b base s l w ((some (⟨#[]⟩, (c - 48) * 10 + (d - 48), a + 2)))) := by
  obtain ⟨c0, c1, c2, c3, f1, f2, f3, hb⟩ := h.cells
  have hge := h.ge
  have HH := Lib.hid h
  clear h
  obtain ⟨R, hR, hz, hzu, hx⟩ := tail_at s a ha
  have x0 := hx 0 (by omega) (by decide)
  have x1 := hx 1 (by omega) (by decide)
  have x2 := hx 2 (by omega) (by decide)
  rw [q0] at x0
  rw [q1] at x1
  rw [q2] at x2
  have hcut := fun W => run_from (P := Try.prog) 9 Try.underlying9 s .i64 a ha W
  have hc := q_256 s a 0
  rw [q0] at hc
  have hd := q_256 s a 1
  rw [q1] at hd
  have he := q_256 s a 2
  rw [q2] at he
  have i0 : (0 : Int) < R.size := by omega
  have i1 : (1 : Int) < R.size := by omega
  have i2 : (2 : Int) < R.size := by omega
  have i9 : (1 : Int) ≤ R.size := by omega
  have j0 : 0 < R.size := by omega
  have j1 : 1 < R.size := by omega
  have j2 : 2 < R.size := by omega
  have e43 : ((c : Int) == 43) = false := by rw [beq_eq_false_iff_ne]; omega
  have e45 : ((c : Int) == 45) = false := by rw [beq_eq_false_iff_ne]; omega
  have e40 : ((c : Int) == 40) = false := by rw [beq_eq_false_iff_ne]; omega
  have d49 : decide ((49 : Int) ≤ c) = true := decide_eq_true (by omega)
  have d51 : decide ((c : Int) ≤ 51) = true := decide_eq_true (by omega)
  have u8c : IntKind.u8.wrap ((c : Int) - 48) = (c : Int) - 48 := u8w _ (by omega) (by omega)
  have i6c : IntKind.i64.wrap ((c : Int) - 48) = (c : Int) - 48 := IntWalk.i64_in _ (by omega)
  have u8d : IntKind.u8.wrap ((d : Int) - 48) = (d : Int) - 48 := u8w _ (by omega) (by omega)
  have i6d : IntKind.i64.wrap ((d : Int) - 48) = (d : Int) - 48 := IntWalk.i64_in _ (by omega)
  have m6 : IntKind.i64.wrap (10 * ((c : Int) - 48)) = 10 * ((c : Int) - 48) := IntWalk.i64_in _ (by omega)
  have s6 : IntKind.i64.wrap (10 * ((c : Int) - 48) + ((d : Int) - 48)) = 10 * ((c : Int) - 48) + ((d : Int) - 48) := IntWalk.i64_in _ (by omega)
  have HN : Hid ((10 * ((c : Int) - 48) + ((d : Int) - 48) : Int) = (((c - 48) * 10 + (d - 48) : Nat) : Int)) := Lib.hid (by omega)
  have Dd := Lib.hid (fun W => dig_is2 d true (by unfold digB; rw [decide_eq_true_eq]; omega) W)
  have w48d : decide ((48 : Int) ≤ d) = true := decide_eq_true (by omega)
  have w57d : decide ((d : Int) ≤ 57) = true := decide_eq_true (by omega)
  clear hx q0 q1 q2 hzu
  clear hyp
  go_enter Try.func47, Try.ntmps47
  go_wp2
  go_quiet (fail)
  have hw2 : IntKind.i64.wrap ((a : Int) + 2) = (a : Int) + 2 := IntWalk.i64_in _ (by omega)
  go_wp2_with (go_at_call 58; (first | (refine Calls.mono (Dc.out _) ?_) | (refine Calls.mono (Dd.out _) ?_) | (refine Calls.mono (De3.out _) ?_)); rintro e w' ⟨rfl, rfl⟩)
  go_region_with (go_at_call 31; refine Calls.mono (put_at _ b base v s a l false 11 _ _ (HH.out.drewN _) hl ((((c - 48) * 10 + (d - 48) : Nat) : Int)) HN.out _ (rfl)) ?_; rintro e w2 ⟨rfl, ⟨v2, h2⟩, b2⟩; have HB2 := Lib.hid ((below_dr (Below.refl base w)).trans b2); obtain ⟨c20, c21, c22, c23, f21, f22, f23, hb2⟩ := h2.cells; have H2 := Lib.hid h2; clear h2 b2 c0 c1 c2 c3 f1 f2 f3 hb)
  all_goals go_wp2
  all_goals
    go_end0
    exact ⟨rfl, ⟨v2, RR.set1 H2.out _ (by omega)⟩, below_st HB2.out hge⟩


set_option maxRecDepth 100000 in
set_option maxHeartbeats 4000000 in
theorem rs_d1 (w : World) (b base : Nat) (v : Value) (s : ByteArray) (a : Nat) (l : List Tok) (h : RR w b base v s a l false) (hs : s.size ≤ 1000000) (hl : l.length ≤ 1000000) (ha : a ≤ s.size) (c d e3 : Nat) (q0 : qk s a 0 = c) (q1 : qk s a 1 = d) (q2 : qk s a 2 = e3) (hyp : c = 48) :
    Calls Try.prog 47 #[.pointer (some ⟨b, 0, none⟩)] w (SizeR b base s l w ((some (⟨#[]⟩, c - 48, a + 1)))) := by
  obtain ⟨c0, c1, c2, c3, f1, f2, f3, hb⟩ := h.cells
  have hge := h.ge
  have HH := Lib.hid h
  clear h
  obtain ⟨R, hR, hz, hzu, hx⟩ := tail_at s a ha
  have x0 := hx 0 (by omega) (by decide)
  have x1 := hx 1 (by omega) (by decide)
  have x2 := hx 2 (by omega) (by decide)
  rw [q0] at x0
  rw [q1] at x1
  rw [q2] at x2
  have hcut := fun W => run_from (P := Try.prog) 9 Try.underlying9 s .i64 a ha W
  have hc := q_256 s a 0
  rw [q0] at hc
  have hd := q_256 s a 1
  rw [q1] at hd
  have he := q_256 s a 2
  rw [q2] at he
  have i0 : (0 : Int) < R.size := by omega
  have i1 : (1 : Int) < R.size := by omega
  have i2 : (2 : Int) < R.size := by omega
  have i9 : (1 : Int) ≤ R.size := by omega
  have j0 : 0 < R.size := by omega
  have j1 : 1 < R.size := by omega
  have j2 : 2 < R.size := by omega
  have e43 : ((c : Int) == 43) = false := by rw [beq_eq_false_iff_ne]; omega
  have e45 : ((c : Int) == 45) = false := by rw [beq_eq_false_iff_ne]; omega
  have e40 : ((c : Int) == 40) = false := by rw [beq_eq_false_iff_ne]; omega
  have d49 : decide ((49 : Int) ≤ c) = false := decide_eq_false (by omega)
  have u8c : IntKind.u8.wrap ((c : Int) - 48) = (c : Int) - 48 := u8w _ (by omega) (by omega)
  have i6c : IntKind.i64.wrap ((c : Int) - 48) = (c : Int) - 48 := IntWalk.i64_in _ (by omega)
  have HN : Hid (((c : Int) - 48 : Int) = ((c - 48 : Nat) : Int)) := Lib.hid (by omega)
  have Dc := Lib.hid (fun W => dig_is2 c true (by unfold digB; rw [decide_eq_true_eq]; omega) W)
  have w48c : decide ((48 : Int) ≤ c) = true := decide_eq_true (by omega)
  have w57c : decide ((c : Int) ≤ 57) = true := decide_eq_true (by omega)
  clear hx q0 q1 q2 hzu
  clear hyp
  go_enter Try.func47, Try.ntmps47
  go_wp2
  go_quiet (fail)
  have hw2 : IntKind.i64.wrap ((a : Int) + 1) = (a : Int) + 1 := IntWalk.i64_in _ (by omega)
  go_wp2_with (first | (go_at_call 58; (first | (refine Calls.mono (Dc.out _) ?_) | (refine Calls.mono (Dd.out _) ?_) | (refine Calls.mono (De3.out _) ?_)); rintro e w' ⟨rfl, rfl⟩) | (go_at_call 31; refine Calls.mono (put_at _ b base v s a l false 11 _ _ (HH.out.drewN _) hl (((c - 48 : Nat) : Int)) HN.out _ (rfl)) ?_; rintro e w2 ⟨rfl, ⟨v2, h2⟩, b2⟩; have HB2 := Lib.hid ((below_dr (Below.refl base w)).trans b2); obtain ⟨c20, c21, c22, c23, f21, f22, f23, hb2⟩ := h2.cells; have H2 := Lib.hid h2; clear h2 b2 c0 c1 c2 c3 f1 f2 f3 hb))
  all_goals
    go_end0
    exact ⟨rfl, ⟨v2, RR.set1 H2.out _ (by omega)⟩, below_st HB2.out hge⟩


set_option maxRecDepth 100000 in
set_option maxHeartbeats 4000000 in
theorem rs_d2 (w : World) (b base : Nat) (v : Value) (s : ByteArray) (a : Nat) (l : List Tok) (h : RR w b base v s a l false) (hs : s.size ≤ 1000000) (hl : l.length ≤ 1000000) (ha : a ≤ s.size) (c d e3 : Nat) (q0 : qk s a 0 = c) (q1 : qk s a 1 = d) (q2 : qk s a 2 = e3) (hyp : (52 ≤ c ∧ c ≤ 57)) :
    Calls Try.prog 47 #[.pointer (some ⟨b, 0, none⟩)] w (SizeR b base s l w ((some (⟨#[]⟩, c - 48, a + 1)))) := by
  obtain ⟨c0, c1, c2, c3, f1, f2, f3, hb⟩ := h.cells
  have hge := h.ge
  have HH := Lib.hid h
  clear h
  obtain ⟨R, hR, hz, hzu, hx⟩ := tail_at s a ha
  have x0 := hx 0 (by omega) (by decide)
  have x1 := hx 1 (by omega) (by decide)
  have x2 := hx 2 (by omega) (by decide)
  rw [q0] at x0
  rw [q1] at x1
  rw [q2] at x2
  have hcut := fun W => run_from (P := Try.prog) 9 Try.underlying9 s .i64 a ha W
  have hc := q_256 s a 0
  rw [q0] at hc
  have hd := q_256 s a 1
  rw [q1] at hd
  have he := q_256 s a 2
  rw [q2] at he
  have i0 : (0 : Int) < R.size := by omega
  have i1 : (1 : Int) < R.size := by omega
  have i2 : (2 : Int) < R.size := by omega
  have i9 : (1 : Int) ≤ R.size := by omega
  have j0 : 0 < R.size := by omega
  have j1 : 1 < R.size := by omega
  have j2 : 2 < R.size := by omega
  have e43 : ((c : Int) == 43) = false := by rw [beq_eq_false_iff_ne]; omega
  have e45 : ((c : Int) == 45) = false := by rw [beq_eq_false_iff_ne]; omega
  have e40 : ((c : Int) == 40) = false := by rw [beq_eq_false_iff_ne]; omega
  have d49 : decide ((49 : Int) ≤ c) = true := decide_eq_true (by omega)
  have d51 : decide ((c : Int) ≤ 51) = false := decide_eq_false (by omega)
  have u8c : IntKind.u8.wrap ((c : Int) - 48) = (c : Int) - 48 := u8w _ (by omega) (by omega)
  have i6c : IntKind.i64.wrap ((c : Int) - 48) = (c : Int) - 48 := IntWalk.i64_in _ (by omega)
  have HN : Hid (((c : Int) - 48 : Int) = ((c - 48 : Nat) : Int)) := Lib.hid (by omega)
  have Dc := Lib.hid (fun W => dig_is2 c true (by unfold digB; rw [decide_eq_true_eq]; omega) W)
  have w48c : decide ((48 : Int) ≤ c) = true := decide_eq_true (by omega)
  have w57c : decide ((c : Int) ≤ 57) = true := decide_eq_true (by omega)
  clear hx q0 q1 q2 hzu
  clear hyp
  go_enter Try.func47, Try.ntmps47
  go_wp2
  go_quiet (fail)
  have hw2 : IntKind.i64.wrap ((a : Int) + 1) = (a : Int) + 1 := IntWalk.i64_in _ (by omega)
  go_wp2_with (first | (go_at_call 58; (first | (refine Calls.mono (Dc.out _) ?_) | (refine Calls.mono (Dd.out _) ?_) | (refine Calls.mono (De3.out _) ?_)); rintro e w' ⟨rfl, rfl⟩) | (go_at_call 31; refine Calls.mono (put_at _ b base v s a l false 11 _ _ (HH.out.drewN _) hl (((c - 48 : Nat) : Int)) HN.out _ (rfl)) ?_; rintro e w2 ⟨rfl, ⟨v2, h2⟩, b2⟩; have HB2 := Lib.hid ((below_dr (Below.refl base w)).trans b2); obtain ⟨c20, c21, c22, c23, f21, f22, f23, hb2⟩ := h2.cells; have H2 := Lib.hid h2; clear h2 b2 c0 c1 c2 c3 f1 f2 f3 hb))
  all_goals
    go_end0
    exact ⟨rfl, ⟨v2, RR.set1 H2.out _ (by omega)⟩, below_st HB2.out hge⟩


set_option maxRecDepth 100000 in
set_option maxHeartbeats 4000000 in
theorem rs_e1 (w : World) (b base : Nat) (v : Value) (s : ByteArray) (a : Nat) (l : List Tok) (h : RR w b base v s a l false) (hs : s.size ≤ 1000000) (hl : l.length ≤ 1000000) (ha : a ≤ s.size) (c d e3 : Nat) (q0 : qk s a 0 = c) (q1 : qk s a 1 = d) (q2 : qk s a 2 = e3) (hyp : (c < 48 ∧ c ≠ 43 ∧ c ≠ 45 ∧ c ≠ 40)) :
    Calls Try.prog 47 #[.pointer (some ⟨b, 0, none⟩)] w (SizeR b base s l w (none)) := by
  obtain ⟨c0, c1, c2, c3, f1, f2, f3, hb⟩ := h.cells
  have hge := h.ge
  have HH := Lib.hid h
  clear h
  obtain ⟨R, hR, hz, hzu, hx⟩ := tail_at s a ha
  have x0 := hx 0 (by omega) (by decide)
  have x1 := hx 1 (by omega) (by decide)
  have x2 := hx 2 (by omega) (by decide)
  rw [q0] at x0
  rw [q1] at x1
  rw [q2] at x2
  have hcut := fun W => run_from (P := Try.prog) 9 Try.underlying9 s .i64 a ha W
  have hc := q_256 s a 0
  rw [q0] at hc
  have hd := q_256 s a 1
  rw [q1] at hd
  have he := q_256 s a 2
  rw [q2] at he
  have i0 : (0 : Int) < R.size := by omega
  have i1 : (1 : Int) < R.size := by omega
  have i2 : (2 : Int) < R.size := by omega
  have i9 : (1 : Int) ≤ R.size := by omega
  have j0 : 0 < R.size := by omega
  have j1 : 1 < R.size := by omega
  have j2 : 2 < R.size := by omega
  have e43 : ((c : Int) == 43) = false := by rw [beq_eq_false_iff_ne]; omega
  have e45 : ((c : Int) == 45) = false := by rw [beq_eq_false_iff_ne]; omega
  have e40 : ((c : Int) == 40) = false := by rw [beq_eq_false_iff_ne]; omega
  have d49 : decide ((49 : Int) ≤ c) = false := decide_eq_false (by omega)
  have Dc := Lib.hid (fun W => dig_is2 c false (by unfold digB; rw [decide_eq_false_iff_not]; omega) W)
  have w48c : decide ((48 : Int) ≤ c) = false := decide_eq_false (by omega)
  clear hx q0 q1 q2 hzu
  clear hyp
  go_enter Try.func47, Try.ntmps47
  go_wp2
  go_quiet (fail)
  go_wp2
  go_end0
  exact ⟨rfl, ⟨v, a, l, (HH.out.drewN _).set3⟩, below_st (below_dr (Below.refl _ _)) hge⟩


set_option maxRecDepth 100000 in
set_option maxHeartbeats 4000000 in
theorem rs_e2 (w : World) (b base : Nat) (v : Value) (s : ByteArray) (a : Nat) (l : List Tok) (h : RR w b base v s a l false) (hs : s.size ≤ 1000000) (hl : l.length ≤ 1000000) (ha : a ≤ s.size) (c d e3 : Nat) (q0 : qk s a 0 = c) (q1 : qk s a 1 = d) (q2 : qk s a 2 = e3) (hyp : 57 < c) :
    Calls Try.prog 47 #[.pointer (some ⟨b, 0, none⟩)] w (SizeR b base s l w (none)) := by
  obtain ⟨c0, c1, c2, c3, f1, f2, f3, hb⟩ := h.cells
  have hge := h.ge
  have HH := Lib.hid h
  clear h
  obtain ⟨R, hR, hz, hzu, hx⟩ := tail_at s a ha
  have x0 := hx 0 (by omega) (by decide)
  have x1 := hx 1 (by omega) (by decide)
  have x2 := hx 2 (by omega) (by decide)
  rw [q0] at x0
  rw [q1] at x1
  rw [q2] at x2
  have hcut := fun W => run_from (P := Try.prog) 9 Try.underlying9 s .i64 a ha W
  have hc := q_256 s a 0
  rw [q0] at hc
  have hd := q_256 s a 1
  rw [q1] at hd
  have he := q_256 s a 2
  rw [q2] at he
  have i0 : (0 : Int) < R.size := by omega
  have i1 : (1 : Int) < R.size := by omega
  have i2 : (2 : Int) < R.size := by omega
  have i9 : (1 : Int) ≤ R.size := by omega
  have j0 : 0 < R.size := by omega
  have j1 : 1 < R.size := by omega
  have j2 : 2 < R.size := by omega
  have e43 : ((c : Int) == 43) = false := by rw [beq_eq_false_iff_ne]; omega
  have e45 : ((c : Int) == 45) = false := by rw [beq_eq_false_iff_ne]; omega
  have e40 : ((c : Int) == 40) = false := by rw [beq_eq_false_iff_ne]; omega
  have d49 : decide ((49 : Int) ≤ c) = true := decide_eq_true (by omega)
  have d51 : decide ((c : Int) ≤ 51) = false := decide_eq_false (by omega)
  have Dc := Lib.hid (fun W => dig_is2 c false (by unfold digB; rw [decide_eq_false_iff_not]; omega) W)
  have w48c : decide ((48 : Int) ≤ c) = true := decide_eq_true (by omega)
  have w57c : decide ((c : Int) ≤ 57) = false := decide_eq_false (by omega)
  clear hx q0 q1 q2 hzu
  clear hyp
  go_enter Try.func47, Try.ntmps47
  go_wp2
  go_quiet (fail)
  go_wp2
  go_end0
  exact ⟨rfl, ⟨v, a, l, (HH.out.drewN _).set3⟩, below_st (below_dr (Below.refl _ _)) hge⟩


end Go.Proofs.Ytaokofnhkojllaa

set_option linter.unusedVariables false
set_option linter.unusedSimpArgs false
namespace Go.Proofs.Ytaokofnhkojllaa
open Go.Shelf Go.RowKit Go.Lib Go.Aids Go.MapLit Go.Proofs.YtaokofnhkojllaaW.PrintWords

theorem digB_ok (c : Nat) (h : 48 ≤ c ∧ c ≤ 57) : digB c = true := by unfold digB; rw [decide_eq_true_eq]; exact h
theorem digB_no (c : Nat) (h : ¬ (48 ≤ c ∧ c ≤ 57)) : digB c = false := by unfold digB; rw [decide_eq_false_iff_not]; exact h
/-- What stands behind \s, of its three bytes. -/
def sizeQ (c d e a : Nat) : Option (ByteArray × Nat × Nat) :=
  if c = 43 ∨ c = 45 then (if digB d = true then some (oneS c, d - 48, a + 2) else none)
  else if c = 40 then (if digB d = true ∧ digB e = true then some (⟨#[]⟩, (d - 48) * 10 + (e - 48), a + 3) else none)
  else if 49 ≤ c ∧ c ≤ 51 ∧ digB d = true then some (⟨#[]⟩, (c - 48) * 10 + (d - 48), a + 2)
  else if digB c = true then some (⟨#[]⟩, c - 48, a + 1) else none
theorem qk_or (s : ByteArray) (a i : Nat) : (qk s a i = pk s (a + i)) ∨ (qk s a i = 32 ∧ pk s (a + i) = 0) := by
  unfold qk
  split
  · exact .inl rfl
  · rename_i h
    exact .inr ⟨rfl, by unfold pk; rw [dif_neg h]⟩
theorem sizeQ_eq (s : ByteArray) (a : Nat) : sizeM s a = sizeQ (qk s a 0) (qk s a 1) (qk s a 2) a := by
  have d0 := q_dig s a 0
  have d1 := q_dig s a 1
  have d2 := q_dig s a 2
  rw [Nat.add_zero] at d0
  unfold sizeQ sizeM
  rw [d0, d1, d2]
  rcases qk_or s a 0 with e0 | ⟨e0, f0⟩ <;> rcases qk_or s a 1 with e1 | ⟨e1, f1⟩ <;> rcases qk_or s a 2 with e2 | ⟨e2, f2⟩
  all_goals
    first | rw [Nat.add_zero] at e0 | rw [Nat.add_zero] at f0
    simp_all [digB]
theorem rsize_calls (w : World) (b base : Nat) (v : Value) (s : ByteArray) (a : Nat) (l : List Tok) (h : RR w b base v s a l false) (hs : s.size ≤ 1000000) (hl : l.length ≤ 1000000) (ha : a ≤ s.size) :
    Calls Try.prog 47 #[.pointer (some ⟨b, 0, none⟩)] w (SizeR b base s l w (sizeM s a)) := by
  rw [sizeQ_eq]
  obtain ⟨c, hc⟩ : ∃ c, qk s a 0 = c := ⟨_, rfl⟩
  obtain ⟨d, hd⟩ : ∃ c, qk s a 1 = c := ⟨_, rfl⟩
  obtain ⟨e, he⟩ : ∃ c, qk s a 2 = c := ⟨_, rfl⟩
  rw [hc, hd, he]
  unfold sizeQ
  by_cases p : c = 43
  · rw [if_pos (.inl p)]
    by_cases q : 48 ≤ d ∧ d ≤ 57
    · rw [if_pos (digB_ok d q)]; exact rs_p3 w b base v s a l h hs hl ha c d e hc hd he ⟨p, q⟩
    · rw [if_neg (by rw [digB_no d q]; decide)]
      by_cases r : d < 48
      · exact rs_p1 w b base v s a l h hs hl ha c d e hc hd he ⟨p, r⟩
      · exact rs_p2 w b base v s a l h hs hl ha c d e hc hd he ⟨p, by omega⟩
  by_cases m : c = 45
  · rw [if_pos (.inr m)]
    by_cases q : 48 ≤ d ∧ d ≤ 57
    · rw [if_pos (digB_ok d q)]; exact rs_m3 w b base v s a l h hs hl ha c d e hc hd he ⟨m, q⟩
    · rw [if_neg (by rw [digB_no d q]; decide)]
      by_cases r : d < 48
      · exact rs_m1 w b base v s a l h hs hl ha c d e hc hd he ⟨m, r⟩
      · exact rs_m2 w b base v s a l h hs hl ha c d e hc hd he ⟨m, by omega⟩
  rw [if_neg (by omega)]
  by_cases f : c = 40
  · rw [if_pos f]
    by_cases q : 48 ≤ d ∧ d ≤ 57
    · by_cases q2 : 48 ≤ e ∧ e ≤ 57
      · rw [if_pos ⟨digB_ok d q, digB_ok e q2⟩]; exact rs_b5 w b base v s a l h hs hl ha c d e hc hd he ⟨f, q, q2⟩
      · rw [if_neg (by rw [digB_no e q2]; rintro ⟨-, x⟩; exact absurd x (by decide))]
        by_cases r : e < 48
        · exact rs_b3 w b base v s a l h hs hl ha c d e hc hd he ⟨f, q, r⟩
        · exact rs_b4 w b base v s a l h hs hl ha c d e hc hd he ⟨f, q, by omega⟩
    · rw [if_neg (by rw [digB_no d q]; rintro ⟨x, -⟩; exact absurd x (by decide))]
      by_cases r : d < 48
      · exact rs_b1 w b base v s a l h hs hl ha c d e hc hd he ⟨f, r⟩
      · exact rs_b2 w b base v s a l h hs hl ha c d e hc hd he ⟨f, by omega⟩
  rw [if_neg f]
  by_cases g : 49 ≤ c ∧ c ≤ 51
  · by_cases q : 48 ≤ d ∧ d ≤ 57
    · rw [if_pos ⟨g.1, g.2, digB_ok d q⟩]; exact rs_c3 w b base v s a l h hs hl ha c d e hc hd he ⟨g, q⟩
    · rw [if_neg (by rw [digB_no d q]; rintro ⟨-, -, x⟩; exact absurd x (by decide)), if_pos (digB_ok c (by omega))]
      by_cases r : d < 48
      · exact rs_c1 w b base v s a l h hs hl ha c d e hc hd he ⟨g, r⟩
      · exact rs_c2 w b base v s a l h hs hl ha c d e hc hd he ⟨g, by omega⟩
  rw [if_neg (fun x => g ⟨x.1, x.2.1⟩)]
  by_cases k : 48 ≤ c ∧ c ≤ 57
  · rw [if_pos (digB_ok c k)]
    by_cases k2 : c = 48
    · exact rs_d1 w b base v s a l h hs hl ha c d e hc hd he k2
    · exact rs_d2 w b base v s a l h hs hl ha c d e hc hd he (by omega)
  · rw [if_neg (by rw [digB_no c k]; decide)]
    by_cases k2 : c < 48
    · exact rs_e1 w b base v s a l h hs hl ha c d e hc hd he (by omega)
    · exact rs_e2 w b base v s a l h hs hl ha c d e hc hd he (by omega)
end Go.Proofs.Ytaokofnhkojllaa

set_option linter.unusedVariables false
set_option linter.unusedSimpArgs false
namespace Go.Proofs.Ytaokofnhkojllaa
open Go.Shelf Go.RowKit Go.Lib Go.Aids Go.MapLit Go.Proofs.YtaokofnhkojllaaW.PrintWords
set_option maxRecDepth 100000 in
set_option maxHeartbeats 4000000 in
theorem re_simple (w : World) (b base : Nat) (v : Value) (s : ByteArray) (a : Nat) (l : List Tok) (h : RR w b base v s a l false) (hs : s.size ≤ 1000000) (hl : l.length ≤ 900000) (ha : a < s.size) (t : Tok) (hsim : simR (pk s a) = (t, true)) (fst : Bool) (hfst : decide (a = 1) = fst) (hyp : t.kind ≠ 20 ∧ pk s a ≠ 104 ∧ pk s a ≠ 118 ∧ pk s a ≠ 120 ∧ pk s a ≠ 108 ∧ pk s a ≠ 68 ∧ pk s a ≠ 111) :
    Calls Try.prog 30 #[.pointer (some ⟨b, 0, none⟩)] w (EscR b base s l w (.go [t] (a + 1))) := by
  obtain ⟨c0, c1, c2, c3, f1, f2, f3, hb⟩ := h.cells
  have hge := h.ge
  have HH := Lib.hid h
  clear h
  have hk := pk_get s a ha
  have hi : (a : Int) < s.size := by omega
  have hw : IntKind.i64.wrap ((a : Int) + 1) = (a : Int) + 1 := IntWalk.i64_in _ (by omega)
  have e1 : ((a : Int) == 1) = fst := by rw [← hfst]; by_cases q : a = 1 <;> simp [q]; omega
  have e1' : (a == 1) = fst := by rw [← hfst]; by_cases q : a = 1 <;> simp [q]
  rw [hk] at hsim
  have HS := Lib.hid (fun W => rsimple_calls _ W t true hsim)
  have Go1 : Hid (∀ (n : Nat), RR ((w.drewN n).setCell ⟨b, 1, none⟩ (.int .i64 ((a : Int) + 1))) b base v s (a + 1) l false) := Lib.hid fun n => (HH.out.drewN n).set1 _ (by omega)
  have Bel1 : Hid (∀ (n : Nat), Below base w ((w.drewN n).setCell ⟨b, 1, none⟩ (.int .i64 ((a : Int) + 1)))) := Lib.hid fun n => below_st (below_dr (Below.refl _ _)) hge
  have t20 : (t.kind == 20) = false := by rw [beq_eq_false_iff_ne]; exact hyp.1
  have q104 : (((((⟨#[104, 118, 120, 108, 68, 111]⟩ : ByteArray)[0]'(by decide)).toNat : Nat) : Int) == (s[a].toNat : Int)) = false := by show ((104 : Int) == (s[a].toNat : Int)) = false; rw [beq_eq_false_iff_ne]; omega
  have q118 : (((((⟨#[104, 118, 120, 108, 68, 111]⟩ : ByteArray)[1]'(by decide)).toNat : Nat) : Int) == (s[a].toNat : Int)) = false := by show ((118 : Int) == (s[a].toNat : Int)) = false; rw [beq_eq_false_iff_ne]; omega
  have q120 : (((((⟨#[104, 118, 120, 108, 68, 111]⟩ : ByteArray)[2]'(by decide)).toNat : Nat) : Int) == (s[a].toNat : Int)) = false := by show ((120 : Int) == (s[a].toNat : Int)) = false; rw [beq_eq_false_iff_ne]; omega
  have q108 : (((((⟨#[104, 118, 120, 108, 68, 111]⟩ : ByteArray)[3]'(by decide)).toNat : Nat) : Int) == (s[a].toNat : Int)) = false := by show ((108 : Int) == (s[a].toNat : Int)) = false; rw [beq_eq_false_iff_ne]; omega
  have q68 : (((((⟨#[104, 118, 120, 108, 68, 111]⟩ : ByteArray)[4]'(by decide)).toNat : Nat) : Int) == (s[a].toNat : Int)) = false := by show ((68 : Int) == (s[a].toNat : Int)) = false; rw [beq_eq_false_iff_ne]; omega
  have q111 : (((((⟨#[104, 118, 120, 108, 68, 111]⟩ : ByteArray)[5]'(by decide)).toNat : Nat) : Int) == (s[a].toNat : Int)) = false := by show ((111 : Int) == (s[a].toNat : Int)) = false; rw [beq_eq_false_iff_ne]; omega
  clear hk hsim hfst hyp
  go_enter Try.func30, Try.ntmps30
  go_wp2
  go_quiet (fail)
  go_wp2_with (go_at_call 42; refine Calls.mono (HS.out _) ?_; rintro e w2 ⟨rfl, b2⟩; have h2 := (Go1.out _).below b2; have B2 := (Bel1.out _).trans (b2.mono (Go1.out _).top); clear b2 c0 c1 c2 c3 f1 f2 f3 hb; obtain ⟨c0, c1, c2, c3, f1, f2, f3, hb⟩ := h2.cells; have H2 := Lib.hid h2; have HB2 := Lib.hid B2; clear h2 B2)
  obtain ⟨g, hg⟩ : ∃ g, w2.heap.size = g := ⟨_, rfl⟩
  obtain ⟨W3, hW3⟩ : ∃ W, ((w2.alloc (.cells #[.int .i64 t.kind, .string t.text, .int .i64 t.n] 55)).alloc (.cells #[.int .i64 12, .int .i64 13, .int .i64 14, .int .i64 15, .int .i64 16, .int .i64 17] 3)) = W := ⟨_, rfl⟩
  have b3 : Below w2.heap.size w2 W3 := by rw [← hW3]; exact ((Below.refl _ _).alloc (Nat.le_refl _) _).alloc (by simp) _
  have H3 := Lib.hid (H2.out.below b3)
  have HB3 := Lib.hid (HB2.out.trans (b3.mono H2.out.top))
  have gb : g + 1 ≠ b := by have := H2.out.cells.2.2.2.2.2.2.2; omega
  have gne : some g ≠ v.ownBlock := fun e => by have := own_lt H2.out.own g e.symm; omega
  have kb : W3.heap[g]? = some (.cells #[.int .i64 t.kind, .string t.text, .int .i64 t.n] 55) := by rw [← hW3, ← hg]; exact (two_blk _ _ _).1
  have k0 : W3.cell? ⟨g, 0, none⟩ = some (.int .i64 t.kind) := by simp [World.cell?, kb]
  have k1 : W3.cell? ⟨g, 1, none⟩ = some (.string t.text) := by simp [World.cell?, kb]
  have k2 : W3.cell? ⟨g, 2, none⟩ = some (.int .i64 t.n) := by simp [World.cell?, kb]
  have zb : W3.heap[g + 1]? = some (.cells #[.int .i64 12, .int .i64 13, .int .i64 14, .int .i64 15, .int .i64 16, .int .i64 17] 3) := by rw [← hW3, ← hg]; exact (two_blk _ _ _).2
  have z0 : W3.cell? ⟨g + 1, 0, none⟩ = some (.int .i64 12) := by simp [World.cell?, zb]
  have z1 : W3.cell? ⟨g + 1, 1, none⟩ = some (.int .i64 13) := by simp [World.cell?, zb]
  have z2 : W3.cell? ⟨g + 1, 2, none⟩ = some (.int .i64 14) := by simp [World.cell?, zb]
  have z3 : W3.cell? ⟨g + 1, 3, none⟩ = some (.int .i64 15) := by simp [World.cell?, zb]
  have z4 : W3.cell? ⟨g + 1, 4, none⟩ = some (.int .i64 16) := by simp [World.cell?, zb]
  have z5 : W3.cell? ⟨g + 1, 5, none⟩ = some (.int .i64 17) := by simp [World.cell?, zb]
  have gl : g + 1 < W3.heap.size := by rw [← hW3, ← hg]; simp
  clear c0 c1 c2 c3 f1 f2 f3 hb
  rw [hW3, hg]
  clear hW3 hg H2 HB2 b3
  obtain ⟨c0, c1, c2, c3, f1, f2, f3, hb⟩ := H3.out.cells
  go_loopw [8] (fun i wr => wr = W3 ∧ (i = .int .i64 0 ∨ i = .int .i64 1 ∨ i = .int .i64 2 ∨ i = .int .i64 3 ∨ i = .int .i64 4 ∨ i = .int .i64 5 ∨ i = .int .i64 6)) (fun i _ => 7 - (RowKit.intOf i).toNat)
  case atStart => exact ⟨rfl, .inl rfl⟩
  case round =>
    rcases hrel with ⟨rfl, rfl | rfl | rfl | rfl | rfl | rfl | rfl⟩
    · go_wp2
      go_roundw
      case rel => simp
      case measure => simp [RowKit.intOf]
    · go_wp2
      go_roundw
      case rel => simp
      case measure => simp [RowKit.intOf]
    · go_wp2
      go_roundw
      case rel => simp
      case measure => simp [RowKit.intOf]
    · go_wp2
      go_roundw
      case rel => simp
      case measure => simp [RowKit.intOf]
    · go_wp2
      go_roundw
      case rel => simp
      case measure => simp [RowKit.intOf]
    · go_wp2
      go_roundw
      case rel => simp
      case measure => simp [RowKit.intOf]
    ·
      have hown := H3.out.own
      have hne := H3.out.ne
      have hbk := H3.out.blk
      have htop := H3.out.top
      have B3 := HB3.out
      clear z0 z1 z2 z3 z4 z5 zb
      go_wp2
      go_region_law ((refine step_append_cells (w0 := w) base (by rfl) _ _ 35 55 (.agg #[.int .i64 0, .string ⟨#[]⟩, .int .i64 0]) 3 32 (by rfl) Try.underlying35 info55 rfl (by decide) (by decide) v l.length (cellsOf l) [.int .i64 t.kind, .string t.text, .int .i64 t.n] (by rfl) (by rfl) rfl (by simp [Value.oneCell']) hown.drew B3.drew htop (by omega) ?_; intro v1 w4 hown1 hb1 hg1 hat1; have hbk4 : w4.heap[b]? = some (.cells #[.string s, .int .i64 ((a + 1 : Nat) : Int), v, .bool false] 64 (0, 0)) := (hg1.block b hb hne).trans hbk; have hgk : w4.heap[g]? = some (.cells #[.int .i64 t.kind, .string t.text, .int .i64 t.n] 55) := (hg1.block g (by simp; omega) gne).trans kb; have q0 : w4.cell? ⟨b, 0, none⟩ = some (.string s) := (by simp [World.cell?, hbk4]); have q1 : w4.cell? ⟨b, 2, none⟩ = some v := (by simp [World.cell?, hbk4]); have q4 : w4.cell? ⟨b, 1, none⟩ = some (.int .i64 ((a + 1 : Nat) : Int)) := (by simp [World.cell?, hbk4]); have q2 : w4.frozen? ⟨b, 2, none⟩ = false := (by simp [World.frozen?, hbk4]); have q3 : w4.frozen? ⟨b, 1, none⟩ = false := (by simp [World.frozen?, hbk4]); have r0 : w4.cell? ⟨g, 0, none⟩ = some (.int .i64 t.kind) := (by simp [World.cell?, hgk]); have nbg : b ≠ g := (by rintro rfl; rw [hbk4] at hgk; cases hgk); clear hg1 hat1; obtain ⟨A1, n1, rfl⟩ := own_slice hown1))
      all_goals
        go_wp2
        go_end0
        refine ⟨rfl, ⟨.slice A1 (l.length + 1) n1, ?_, ?_, hge⟩, hb1.setCell hge _⟩
        · simp [World.setCell, Array.getElem?_modify, hbk4]
        · have hne1 : some b ≠ (Value.slice A1 (l.length + 1) n1).ownBlock := own_ne hown1 hbk4 (by decide)
          rw [cellsOf_snoc, List.length_append]
          exact own_move hown1 fun k hk => Below.heap_setCell _ _ _ _ (by rintro rfl; exact hne1 hk.symm)

set_option maxRecDepth 100000 in
set_option maxHeartbeats 4000000 in
theorem re_stop (w : World) (b base : Nat) (v : Value) (s : ByteArray) (a : Nat) (l : List Tok) (h : RR w b base v s a l false) (hs : s.size ≤ 1000000) (hl : l.length ≤ 900000) (ha : a < s.size) (t : Tok) (hsim : simR (pk s a) = (t, true)) (fst : Bool) (hfst : decide (a = 1) = fst) (hyp : t.kind = 20 ∧ pk s a ≠ 104 ∧ pk s a ≠ 118 ∧ pk s a ≠ 120 ∧ pk s a ≠ 108 ∧ pk s a ≠ 68 ∧ pk s a ≠ 111) :
    Calls Try.prog 30 #[.pointer (some ⟨b, 0, none⟩)] w (EscR b base s l w (.stop [t])) := by
  obtain ⟨c0, c1, c2, c3, f1, f2, f3, hb⟩ := h.cells
  have hge := h.ge
  have HH := Lib.hid h
  clear h
  have hk := pk_get s a ha
  have hi : (a : Int) < s.size := by omega
  have hw : IntKind.i64.wrap ((a : Int) + 1) = (a : Int) + 1 := IntWalk.i64_in _ (by omega)
  have e1 : ((a : Int) == 1) = fst := by rw [← hfst]; by_cases q : a = 1 <;> simp [q]; omega
  have e1' : (a == 1) = fst := by rw [← hfst]; by_cases q : a = 1 <;> simp [q]
  rw [hk] at hsim
  have HS := Lib.hid (fun W => rsimple_calls _ W t true hsim)
  have Go1 : Hid (∀ (n : Nat), RR ((w.drewN n).setCell ⟨b, 1, none⟩ (.int .i64 ((a : Int) + 1))) b base v s (a + 1) l false) := Lib.hid fun n => (HH.out.drewN n).set1 _ (by omega)
  have Bel1 : Hid (∀ (n : Nat), Below base w ((w.drewN n).setCell ⟨b, 1, none⟩ (.int .i64 ((a : Int) + 1)))) := Lib.hid fun n => below_st (below_dr (Below.refl _ _)) hge
  have t20 : (t.kind == 20) = true := by rw [beq_iff_eq]; exact hyp.1
  have q104 : (((((⟨#[104, 118, 120, 108, 68, 111]⟩ : ByteArray)[0]'(by decide)).toNat : Nat) : Int) == (s[a].toNat : Int)) = false := by show ((104 : Int) == (s[a].toNat : Int)) = false; rw [beq_eq_false_iff_ne]; omega
  have q118 : (((((⟨#[104, 118, 120, 108, 68, 111]⟩ : ByteArray)[1]'(by decide)).toNat : Nat) : Int) == (s[a].toNat : Int)) = false := by show ((118 : Int) == (s[a].toNat : Int)) = false; rw [beq_eq_false_iff_ne]; omega
  have q120 : (((((⟨#[104, 118, 120, 108, 68, 111]⟩ : ByteArray)[2]'(by decide)).toNat : Nat) : Int) == (s[a].toNat : Int)) = false := by show ((120 : Int) == (s[a].toNat : Int)) = false; rw [beq_eq_false_iff_ne]; omega
  have q108 : (((((⟨#[104, 118, 120, 108, 68, 111]⟩ : ByteArray)[3]'(by decide)).toNat : Nat) : Int) == (s[a].toNat : Int)) = false := by show ((108 : Int) == (s[a].toNat : Int)) = false; rw [beq_eq_false_iff_ne]; omega
  have q68 : (((((⟨#[104, 118, 120, 108, 68, 111]⟩ : ByteArray)[4]'(by decide)).toNat : Nat) : Int) == (s[a].toNat : Int)) = false := by show ((68 : Int) == (s[a].toNat : Int)) = false; rw [beq_eq_false_iff_ne]; omega
  have q111 : (((((⟨#[104, 118, 120, 108, 68, 111]⟩ : ByteArray)[5]'(by decide)).toNat : Nat) : Int) == (s[a].toNat : Int)) = false := by show ((111 : Int) == (s[a].toNat : Int)) = false; rw [beq_eq_false_iff_ne]; omega
  clear hk hsim hfst hyp
  go_enter Try.func30, Try.ntmps30
  go_wp2
  go_quiet (fail)
  go_wp2_with (go_at_call 42; refine Calls.mono (HS.out _) ?_; rintro e w2 ⟨rfl, b2⟩; have h2 := (Go1.out _).below b2; have B2 := (Bel1.out _).trans (b2.mono (Go1.out _).top); clear b2 c0 c1 c2 c3 f1 f2 f3 hb; obtain ⟨c0, c1, c2, c3, f1, f2, f3, hb⟩ := h2.cells; have H2 := Lib.hid h2; have HB2 := Lib.hid B2; clear h2 B2)
  obtain ⟨g, hg⟩ : ∃ g, w2.heap.size = g := ⟨_, rfl⟩
  obtain ⟨W3, hW3⟩ : ∃ W, ((w2.alloc (.cells #[.int .i64 t.kind, .string t.text, .int .i64 t.n] 55)).alloc (.cells #[.int .i64 12, .int .i64 13, .int .i64 14, .int .i64 15, .int .i64 16, .int .i64 17] 3)) = W := ⟨_, rfl⟩
  have b3 : Below w2.heap.size w2 W3 := by rw [← hW3]; exact ((Below.refl _ _).alloc (Nat.le_refl _) _).alloc (by simp) _
  have H3 := Lib.hid (H2.out.below b3)
  have HB3 := Lib.hid (HB2.out.trans (b3.mono H2.out.top))
  have gb : g + 1 ≠ b := by have := H2.out.cells.2.2.2.2.2.2.2; omega
  have gne : some g ≠ v.ownBlock := fun e => by have := own_lt H2.out.own g e.symm; omega
  have kb : W3.heap[g]? = some (.cells #[.int .i64 t.kind, .string t.text, .int .i64 t.n] 55) := by rw [← hW3, ← hg]; exact (two_blk _ _ _).1
  have k0 : W3.cell? ⟨g, 0, none⟩ = some (.int .i64 t.kind) := by simp [World.cell?, kb]
  have k1 : W3.cell? ⟨g, 1, none⟩ = some (.string t.text) := by simp [World.cell?, kb]
  have k2 : W3.cell? ⟨g, 2, none⟩ = some (.int .i64 t.n) := by simp [World.cell?, kb]
  have zb : W3.heap[g + 1]? = some (.cells #[.int .i64 12, .int .i64 13, .int .i64 14, .int .i64 15, .int .i64 16, .int .i64 17] 3) := by rw [← hW3, ← hg]; exact (two_blk _ _ _).2
  have z0 : W3.cell? ⟨g + 1, 0, none⟩ = some (.int .i64 12) := by simp [World.cell?, zb]
  have z1 : W3.cell? ⟨g + 1, 1, none⟩ = some (.int .i64 13) := by simp [World.cell?, zb]
  have z2 : W3.cell? ⟨g + 1, 2, none⟩ = some (.int .i64 14) := by simp [World.cell?, zb]
  have z3 : W3.cell? ⟨g + 1, 3, none⟩ = some (.int .i64 15) := by simp [World.cell?, zb]
  have z4 : W3.cell? ⟨g + 1, 4, none⟩ = some (.int .i64 16) := by simp [World.cell?, zb]
  have z5 : W3.cell? ⟨g + 1, 5, none⟩ = some (.int .i64 17) := by simp [World.cell?, zb]
  have gl : g + 1 < W3.heap.size := by rw [← hW3, ← hg]; simp
  clear c0 c1 c2 c3 f1 f2 f3 hb
  rw [hW3, hg]
  clear hW3 hg H2 HB2 b3
  obtain ⟨c0, c1, c2, c3, f1, f2, f3, hb⟩ := H3.out.cells
  go_loopw [8] (fun i wr => wr = W3 ∧ (i = .int .i64 0 ∨ i = .int .i64 1 ∨ i = .int .i64 2 ∨ i = .int .i64 3 ∨ i = .int .i64 4 ∨ i = .int .i64 5 ∨ i = .int .i64 6)) (fun i _ => 7 - (RowKit.intOf i).toNat)
  case atStart => exact ⟨rfl, .inl rfl⟩
  case round =>
    rcases hrel with ⟨rfl, rfl | rfl | rfl | rfl | rfl | rfl | rfl⟩
    · go_wp2
      go_roundw
      case rel => simp
      case measure => simp [RowKit.intOf]
    · go_wp2
      go_roundw
      case rel => simp
      case measure => simp [RowKit.intOf]
    · go_wp2
      go_roundw
      case rel => simp
      case measure => simp [RowKit.intOf]
    · go_wp2
      go_roundw
      case rel => simp
      case measure => simp [RowKit.intOf]
    · go_wp2
      go_roundw
      case rel => simp
      case measure => simp [RowKit.intOf]
    · go_wp2
      go_roundw
      case rel => simp
      case measure => simp [RowKit.intOf]
    ·
      have hown := H3.out.own
      have hne := H3.out.ne
      have hbk := H3.out.blk
      have htop := H3.out.top
      have B3 := HB3.out
      clear z0 z1 z2 z3 z4 z5 zb
      go_wp2
      go_region_law ((refine step_append_cells (w0 := w) base (by rfl) _ _ 35 55 (.agg #[.int .i64 0, .string ⟨#[]⟩, .int .i64 0]) 3 32 (by rfl) Try.underlying35 info55 rfl (by decide) (by decide) v l.length (cellsOf l) [.int .i64 t.kind, .string t.text, .int .i64 t.n] (by rfl) (by rfl) rfl (by simp [Value.oneCell']) hown.drew B3.drew htop (by omega) ?_; intro v1 w4 hown1 hb1 hg1 hat1; have hbk4 : w4.heap[b]? = some (.cells #[.string s, .int .i64 ((a + 1 : Nat) : Int), v, .bool false] 64 (0, 0)) := (hg1.block b hb hne).trans hbk; have hgk : w4.heap[g]? = some (.cells #[.int .i64 t.kind, .string t.text, .int .i64 t.n] 55) := (hg1.block g (by simp; omega) gne).trans kb; have q0 : w4.cell? ⟨b, 0, none⟩ = some (.string s) := (by simp [World.cell?, hbk4]); have q1 : w4.cell? ⟨b, 2, none⟩ = some v := (by simp [World.cell?, hbk4]); have q4 : w4.cell? ⟨b, 1, none⟩ = some (.int .i64 ((a + 1 : Nat) : Int)) := (by simp [World.cell?, hbk4]); have q2 : w4.frozen? ⟨b, 2, none⟩ = false := (by simp [World.frozen?, hbk4]); have q3 : w4.frozen? ⟨b, 1, none⟩ = false := (by simp [World.frozen?, hbk4]); have r0 : w4.cell? ⟨g, 0, none⟩ = some (.int .i64 t.kind) := (by simp [World.cell?, hgk]); have nbg : b ≠ g := (by rintro rfl; rw [hbk4] at hgk; cases hgk); clear hg1 hat1; obtain ⟨A1, n1, rfl⟩ := own_slice hown1))
      all_goals
        go_wp2
      all_goals
        go_end0
        refine ⟨rfl, ⟨.slice A1 (l.length + 1) n1, ?_, ?_, hge⟩, (hb1.setCell hge _).setCell hge _⟩
        · simp [World.setCell, Array.getElem?_modify, hbk4]
        · have hne1 : some b ≠ (Value.slice A1 (l.length + 1) n1).ownBlock := own_ne hown1 hbk4 (by decide)
          rw [cellsOf_snoc, List.length_append]
          exact own_move hown1 fun k hk => (Below.heap_setCell _ _ _ _ (by rintro rfl; exact hne1 hk.symm)).trans (Below.heap_setCell _ _ _ _ (by rintro rfl; exact hne1 hk.symm))

set_option maxRecDepth 100000 in
set_option maxHeartbeats 4000000 in
theorem re_34 (w : World) (b base : Nat) (v : Value) (s : ByteArray) (a : Nat) (l : List Tok) (h : RR w b base v s a l false) (hs : s.size ≤ 1000000) (hl : l.length ≤ 900000) (ha : a < s.size) (t : Tok) (hsim : simR (pk s a) = (t, false)) (fst : Bool) (hfst : decide (a = 1) = fst) (hyp : pk s a = 34) :
    Calls Try.prog 30 #[.pointer (some ⟨b, 0, none⟩)] w (EscR b base s l w (.stop [])) := by
  obtain ⟨c0, c1, c2, c3, f1, f2, f3, hb⟩ := h.cells
  have hge := h.ge
  have HH := Lib.hid h
  clear h
  have hk := pk_get s a ha
  have hi : (a : Int) < s.size := by omega
  have hw : IntKind.i64.wrap ((a : Int) + 1) = (a : Int) + 1 := IntWalk.i64_in _ (by omega)
  have e1 : ((a : Int) == 1) = fst := by rw [← hfst]; by_cases q : a = 1 <;> simp [q]; omega
  have e1' : (a == 1) = fst := by rw [← hfst]; by_cases q : a = 1 <;> simp [q]
  rw [hk] at hsim
  have HS := Lib.hid (fun W => rsimple_calls _ W t false hsim)
  have Go1 : Hid (∀ (n : Nat), RR ((w.drewN n).setCell ⟨b, 1, none⟩ (.int .i64 ((a : Int) + 1))) b base v s (a + 1) l false) := Lib.hid fun n => (HH.out.drewN n).set1 _ (by omega)
  have Bel1 : Hid (∀ (n : Nat), Below base w ((w.drewN n).setCell ⟨b, 1, none⟩ (.int .i64 ((a : Int) + 1)))) := Lib.hid fun n => below_st (below_dr (Below.refl _ _)) hge
  have q104 : (((((⟨#[104, 118, 120, 108, 68, 111]⟩ : ByteArray)[0]'(by decide)).toNat : Nat) : Int) == (s[a].toNat : Int)) = false := by show ((104 : Int) == (s[a].toNat : Int)) = false; rw [beq_eq_false_iff_ne]; omega
  have q118 : (((((⟨#[104, 118, 120, 108, 68, 111]⟩ : ByteArray)[1]'(by decide)).toNat : Nat) : Int) == (s[a].toNat : Int)) = false := by show ((118 : Int) == (s[a].toNat : Int)) = false; rw [beq_eq_false_iff_ne]; omega
  have q120 : (((((⟨#[104, 118, 120, 108, 68, 111]⟩ : ByteArray)[2]'(by decide)).toNat : Nat) : Int) == (s[a].toNat : Int)) = false := by show ((120 : Int) == (s[a].toNat : Int)) = false; rw [beq_eq_false_iff_ne]; omega
  have q108 : (((((⟨#[104, 118, 120, 108, 68, 111]⟩ : ByteArray)[3]'(by decide)).toNat : Nat) : Int) == (s[a].toNat : Int)) = false := by show ((108 : Int) == (s[a].toNat : Int)) = false; rw [beq_eq_false_iff_ne]; omega
  have q68 : (((((⟨#[104, 118, 120, 108, 68, 111]⟩ : ByteArray)[4]'(by decide)).toNat : Nat) : Int) == (s[a].toNat : Int)) = false := by show ((68 : Int) == (s[a].toNat : Int)) = false; rw [beq_eq_false_iff_ne]; omega
  have q111 : (((((⟨#[104, 118, 120, 108, 68, 111]⟩ : ByteArray)[5]'(by decide)).toNat : Nat) : Int) == (s[a].toNat : Int)) = false := by show ((111 : Int) == (s[a].toNat : Int)) = false; rw [beq_eq_false_iff_ne]; omega
  have s34 : ((s[a].toNat : Int) == 34) = true := by rw [beq_iff_eq]; omega
  clear hk hsim hfst hyp
  go_enter Try.func30, Try.ntmps30
  go_wp2
  go_quiet (fail)
  go_wp2_with (go_at_call 42; refine Calls.mono (HS.out _) ?_; rintro e w2 ⟨rfl, b2⟩; have h2 := (Go1.out _).below b2; have B2 := (Bel1.out _).trans (b2.mono (Go1.out _).top); clear b2 c0 c1 c2 c3 f1 f2 f3 hb; obtain ⟨c0, c1, c2, c3, f1, f2, f3, hb⟩ := h2.cells; have H2 := Lib.hid h2; have HB2 := Lib.hid B2; clear h2 B2)
  obtain ⟨g, hg⟩ : ∃ g, w2.heap.size = g := ⟨_, rfl⟩
  obtain ⟨W3, hW3⟩ : ∃ W, ((w2.alloc (.cells #[.int .i64 t.kind, .string t.text, .int .i64 t.n] 55)).alloc (.cells #[.int .i64 12, .int .i64 13, .int .i64 14, .int .i64 15, .int .i64 16, .int .i64 17] 3)) = W := ⟨_, rfl⟩
  have b3 : Below w2.heap.size w2 W3 := by rw [← hW3]; exact ((Below.refl _ _).alloc (Nat.le_refl _) _).alloc (by simp) _
  have H3 := Lib.hid (H2.out.below b3)
  have HB3 := Lib.hid (HB2.out.trans (b3.mono H2.out.top))
  have gb : g + 1 ≠ b := by have := H2.out.cells.2.2.2.2.2.2.2; omega
  have gne : some g ≠ v.ownBlock := fun e => by have := own_lt H2.out.own g e.symm; omega
  have kb : W3.heap[g]? = some (.cells #[.int .i64 t.kind, .string t.text, .int .i64 t.n] 55) := by rw [← hW3, ← hg]; exact (two_blk _ _ _).1
  have k0 : W3.cell? ⟨g, 0, none⟩ = some (.int .i64 t.kind) := by simp [World.cell?, kb]
  have k1 : W3.cell? ⟨g, 1, none⟩ = some (.string t.text) := by simp [World.cell?, kb]
  have k2 : W3.cell? ⟨g, 2, none⟩ = some (.int .i64 t.n) := by simp [World.cell?, kb]
  have zb : W3.heap[g + 1]? = some (.cells #[.int .i64 12, .int .i64 13, .int .i64 14, .int .i64 15, .int .i64 16, .int .i64 17] 3) := by rw [← hW3, ← hg]; exact (two_blk _ _ _).2
  have z0 : W3.cell? ⟨g + 1, 0, none⟩ = some (.int .i64 12) := by simp [World.cell?, zb]
  have z1 : W3.cell? ⟨g + 1, 1, none⟩ = some (.int .i64 13) := by simp [World.cell?, zb]
  have z2 : W3.cell? ⟨g + 1, 2, none⟩ = some (.int .i64 14) := by simp [World.cell?, zb]
  have z3 : W3.cell? ⟨g + 1, 3, none⟩ = some (.int .i64 15) := by simp [World.cell?, zb]
  have z4 : W3.cell? ⟨g + 1, 4, none⟩ = some (.int .i64 16) := by simp [World.cell?, zb]
  have z5 : W3.cell? ⟨g + 1, 5, none⟩ = some (.int .i64 17) := by simp [World.cell?, zb]
  have gl : g + 1 < W3.heap.size := by rw [← hW3, ← hg]; simp
  clear c0 c1 c2 c3 f1 f2 f3 hb
  rw [hW3, hg]
  clear hW3 hg H2 HB2 b3
  obtain ⟨c0, c1, c2, c3, f1, f2, f3, hb⟩ := H3.out.cells
  go_loopw [8] (fun i wr => wr = W3 ∧ (i = .int .i64 0 ∨ i = .int .i64 1 ∨ i = .int .i64 2 ∨ i = .int .i64 3 ∨ i = .int .i64 4 ∨ i = .int .i64 5 ∨ i = .int .i64 6)) (fun i _ => 7 - (RowKit.intOf i).toNat)
  case atStart => exact ⟨rfl, .inl rfl⟩
  case round =>
    rcases hrel with ⟨rfl, rfl | rfl | rfl | rfl | rfl | rfl | rfl⟩
    · go_wp2
      go_roundw
      case rel => simp
      case measure => simp [RowKit.intOf]
    · go_wp2
      go_roundw
      case rel => simp
      case measure => simp [RowKit.intOf]
    · go_wp2
      go_roundw
      case rel => simp
      case measure => simp [RowKit.intOf]
    · go_wp2
      go_roundw
      case rel => simp
      case measure => simp [RowKit.intOf]
    · go_wp2
      go_roundw
      case rel => simp
      case measure => simp [RowKit.intOf]
    · go_wp2
      go_roundw
      case rel => simp
      case measure => simp [RowKit.intOf]
    · go_wp2
      go_end0
      exact ⟨rfl, ⟨v, by rw [List.append_nil]; exact H3.out.set1 _ rfl⟩, below_st HB3.out hge⟩

set_option maxRecDepth 100000 in
set_option maxHeartbeats 4000000 in
theorem re_123 (w : World) (b base : Nat) (v : Value) (s : ByteArray) (a : Nat) (l : List Tok) (h : RR w b base v s a l false) (hs : s.size ≤ 1000000) (hl : l.length ≤ 900000) (ha : a < s.size) (t : Tok) (hsim : simR (pk s a) = (t, false)) (fst : Bool) (hfst : decide (a = 1) = fst) (hyp : pk s a = 123) :
    Calls Try.prog 30 #[.pointer (some ⟨b, 0, none⟩)] w (EscR b base s l w (.go [] (a + 1))) := by
  obtain ⟨c0, c1, c2, c3, f1, f2, f3, hb⟩ := h.cells
  have hge := h.ge
  have HH := Lib.hid h
  clear h
  have hk := pk_get s a ha
  have hi : (a : Int) < s.size := by omega
  have hw : IntKind.i64.wrap ((a : Int) + 1) = (a : Int) + 1 := IntWalk.i64_in _ (by omega)
  have e1 : ((a : Int) == 1) = fst := by rw [← hfst]; by_cases q : a = 1 <;> simp [q]; omega
  have e1' : (a == 1) = fst := by rw [← hfst]; by_cases q : a = 1 <;> simp [q]
  rw [hk] at hsim
  have HS := Lib.hid (fun W => rsimple_calls _ W t false hsim)
  have Go1 : Hid (∀ (n : Nat), RR ((w.drewN n).setCell ⟨b, 1, none⟩ (.int .i64 ((a : Int) + 1))) b base v s (a + 1) l false) := Lib.hid fun n => (HH.out.drewN n).set1 _ (by omega)
  have Bel1 : Hid (∀ (n : Nat), Below base w ((w.drewN n).setCell ⟨b, 1, none⟩ (.int .i64 ((a : Int) + 1)))) := Lib.hid fun n => below_st (below_dr (Below.refl _ _)) hge
  have q104 : (((((⟨#[104, 118, 120, 108, 68, 111]⟩ : ByteArray)[0]'(by decide)).toNat : Nat) : Int) == (s[a].toNat : Int)) = false := by show ((104 : Int) == (s[a].toNat : Int)) = false; rw [beq_eq_false_iff_ne]; omega
  have q118 : (((((⟨#[104, 118, 120, 108, 68, 111]⟩ : ByteArray)[1]'(by decide)).toNat : Nat) : Int) == (s[a].toNat : Int)) = false := by show ((118 : Int) == (s[a].toNat : Int)) = false; rw [beq_eq_false_iff_ne]; omega
  have q120 : (((((⟨#[104, 118, 120, 108, 68, 111]⟩ : ByteArray)[2]'(by decide)).toNat : Nat) : Int) == (s[a].toNat : Int)) = false := by show ((120 : Int) == (s[a].toNat : Int)) = false; rw [beq_eq_false_iff_ne]; omega
  have q108 : (((((⟨#[104, 118, 120, 108, 68, 111]⟩ : ByteArray)[3]'(by decide)).toNat : Nat) : Int) == (s[a].toNat : Int)) = false := by show ((108 : Int) == (s[a].toNat : Int)) = false; rw [beq_eq_false_iff_ne]; omega
  have q68 : (((((⟨#[104, 118, 120, 108, 68, 111]⟩ : ByteArray)[4]'(by decide)).toNat : Nat) : Int) == (s[a].toNat : Int)) = false := by show ((68 : Int) == (s[a].toNat : Int)) = false; rw [beq_eq_false_iff_ne]; omega
  have q111 : (((((⟨#[104, 118, 120, 108, 68, 111]⟩ : ByteArray)[5]'(by decide)).toNat : Nat) : Int) == (s[a].toNat : Int)) = false := by show ((111 : Int) == (s[a].toNat : Int)) = false; rw [beq_eq_false_iff_ne]; omega
  have s34 : ((s[a].toNat : Int) == 34) = false := by rw [beq_eq_false_iff_ne]; omega
  have s123 : ((s[a].toNat : Int) == 123) = true := by rw [beq_iff_eq]; omega
  clear hk hsim hfst hyp
  go_enter Try.func30, Try.ntmps30
  go_wp2
  go_quiet (fail)
  go_wp2_with (go_at_call 42; refine Calls.mono (HS.out _) ?_; rintro e w2 ⟨rfl, b2⟩; have h2 := (Go1.out _).below b2; have B2 := (Bel1.out _).trans (b2.mono (Go1.out _).top); clear b2 c0 c1 c2 c3 f1 f2 f3 hb; obtain ⟨c0, c1, c2, c3, f1, f2, f3, hb⟩ := h2.cells; have H2 := Lib.hid h2; have HB2 := Lib.hid B2; clear h2 B2)
  obtain ⟨g, hg⟩ : ∃ g, w2.heap.size = g := ⟨_, rfl⟩
  obtain ⟨W3, hW3⟩ : ∃ W, ((w2.alloc (.cells #[.int .i64 t.kind, .string t.text, .int .i64 t.n] 55)).alloc (.cells #[.int .i64 12, .int .i64 13, .int .i64 14, .int .i64 15, .int .i64 16, .int .i64 17] 3)) = W := ⟨_, rfl⟩
  have b3 : Below w2.heap.size w2 W3 := by rw [← hW3]; exact ((Below.refl _ _).alloc (Nat.le_refl _) _).alloc (by simp) _
  have H3 := Lib.hid (H2.out.below b3)
  have HB3 := Lib.hid (HB2.out.trans (b3.mono H2.out.top))
  have gb : g + 1 ≠ b := by have := H2.out.cells.2.2.2.2.2.2.2; omega
  have gne : some g ≠ v.ownBlock := fun e => by have := own_lt H2.out.own g e.symm; omega
  have kb : W3.heap[g]? = some (.cells #[.int .i64 t.kind, .string t.text, .int .i64 t.n] 55) := by rw [← hW3, ← hg]; exact (two_blk _ _ _).1
  have k0 : W3.cell? ⟨g, 0, none⟩ = some (.int .i64 t.kind) := by simp [World.cell?, kb]
  have k1 : W3.cell? ⟨g, 1, none⟩ = some (.string t.text) := by simp [World.cell?, kb]
  have k2 : W3.cell? ⟨g, 2, none⟩ = some (.int .i64 t.n) := by simp [World.cell?, kb]
  have zb : W3.heap[g + 1]? = some (.cells #[.int .i64 12, .int .i64 13, .int .i64 14, .int .i64 15, .int .i64 16, .int .i64 17] 3) := by rw [← hW3, ← hg]; exact (two_blk _ _ _).2
  have z0 : W3.cell? ⟨g + 1, 0, none⟩ = some (.int .i64 12) := by simp [World.cell?, zb]
  have z1 : W3.cell? ⟨g + 1, 1, none⟩ = some (.int .i64 13) := by simp [World.cell?, zb]
  have z2 : W3.cell? ⟨g + 1, 2, none⟩ = some (.int .i64 14) := by simp [World.cell?, zb]
  have z3 : W3.cell? ⟨g + 1, 3, none⟩ = some (.int .i64 15) := by simp [World.cell?, zb]
  have z4 : W3.cell? ⟨g + 1, 4, none⟩ = some (.int .i64 16) := by simp [World.cell?, zb]
  have z5 : W3.cell? ⟨g + 1, 5, none⟩ = some (.int .i64 17) := by simp [World.cell?, zb]
  have gl : g + 1 < W3.heap.size := by rw [← hW3, ← hg]; simp
  clear c0 c1 c2 c3 f1 f2 f3 hb
  rw [hW3, hg]
  clear hW3 hg H2 HB2 b3
  obtain ⟨c0, c1, c2, c3, f1, f2, f3, hb⟩ := H3.out.cells
  go_loopw [8] (fun i wr => wr = W3 ∧ (i = .int .i64 0 ∨ i = .int .i64 1 ∨ i = .int .i64 2 ∨ i = .int .i64 3 ∨ i = .int .i64 4 ∨ i = .int .i64 5 ∨ i = .int .i64 6)) (fun i _ => 7 - (RowKit.intOf i).toNat)
  case atStart => exact ⟨rfl, .inl rfl⟩
  case round =>
    rcases hrel with ⟨rfl, rfl | rfl | rfl | rfl | rfl | rfl | rfl⟩
    · go_wp2
      go_roundw
      case rel => simp
      case measure => simp [RowKit.intOf]
    · go_wp2
      go_roundw
      case rel => simp
      case measure => simp [RowKit.intOf]
    · go_wp2
      go_roundw
      case rel => simp
      case measure => simp [RowKit.intOf]
    · go_wp2
      go_roundw
      case rel => simp
      case measure => simp [RowKit.intOf]
    · go_wp2
      go_roundw
      case rel => simp
      case measure => simp [RowKit.intOf]
    · go_wp2
      go_roundw
      case rel => simp
      case measure => simp [RowKit.intOf]
    · go_wp2
      go_end0
      exact ⟨rfl, ⟨v, by rw [List.append_nil]; exact H3.out⟩, HB3.out⟩

set_option maxRecDepth 100000 in
set_option maxHeartbeats 4000000 in
theorem re_125 (w : World) (b base : Nat) (v : Value) (s : ByteArray) (a : Nat) (l : List Tok) (h : RR w b base v s a l false) (hs : s.size ≤ 1000000) (hl : l.length ≤ 900000) (ha : a < s.size) (t : Tok) (hsim : simR (pk s a) = (t, false)) (fst : Bool) (hfst : decide (a = 1) = fst) (hyp : pk s a = 125) :
    Calls Try.prog 30 #[.pointer (some ⟨b, 0, none⟩)] w (EscR b base s l w (.go [] (a + 1))) := by
  obtain ⟨c0, c1, c2, c3, f1, f2, f3, hb⟩ := h.cells
  have hge := h.ge
  have HH := Lib.hid h
  clear h
  have hk := pk_get s a ha
  have hi : (a : Int) < s.size := by omega
  have hw : IntKind.i64.wrap ((a : Int) + 1) = (a : Int) + 1 := IntWalk.i64_in _ (by omega)
  have e1 : ((a : Int) == 1) = fst := by rw [← hfst]; by_cases q : a = 1 <;> simp [q]; omega
  have e1' : (a == 1) = fst := by rw [← hfst]; by_cases q : a = 1 <;> simp [q]
  rw [hk] at hsim
  have HS := Lib.hid (fun W => rsimple_calls _ W t false hsim)
  have Go1 : Hid (∀ (n : Nat), RR ((w.drewN n).setCell ⟨b, 1, none⟩ (.int .i64 ((a : Int) + 1))) b base v s (a + 1) l false) := Lib.hid fun n => (HH.out.drewN n).set1 _ (by omega)
  have Bel1 : Hid (∀ (n : Nat), Below base w ((w.drewN n).setCell ⟨b, 1, none⟩ (.int .i64 ((a : Int) + 1)))) := Lib.hid fun n => below_st (below_dr (Below.refl _ _)) hge
  have q104 : (((((⟨#[104, 118, 120, 108, 68, 111]⟩ : ByteArray)[0]'(by decide)).toNat : Nat) : Int) == (s[a].toNat : Int)) = false := by show ((104 : Int) == (s[a].toNat : Int)) = false; rw [beq_eq_false_iff_ne]; omega
  have q118 : (((((⟨#[104, 118, 120, 108, 68, 111]⟩ : ByteArray)[1]'(by decide)).toNat : Nat) : Int) == (s[a].toNat : Int)) = false := by show ((118 : Int) == (s[a].toNat : Int)) = false; rw [beq_eq_false_iff_ne]; omega
  have q120 : (((((⟨#[104, 118, 120, 108, 68, 111]⟩ : ByteArray)[2]'(by decide)).toNat : Nat) : Int) == (s[a].toNat : Int)) = false := by show ((120 : Int) == (s[a].toNat : Int)) = false; rw [beq_eq_false_iff_ne]; omega
  have q108 : (((((⟨#[104, 118, 120, 108, 68, 111]⟩ : ByteArray)[3]'(by decide)).toNat : Nat) : Int) == (s[a].toNat : Int)) = false := by show ((108 : Int) == (s[a].toNat : Int)) = false; rw [beq_eq_false_iff_ne]; omega
  have q68 : (((((⟨#[104, 118, 120, 108, 68, 111]⟩ : ByteArray)[4]'(by decide)).toNat : Nat) : Int) == (s[a].toNat : Int)) = false := by show ((68 : Int) == (s[a].toNat : Int)) = false; rw [beq_eq_false_iff_ne]; omega
  have q111 : (((((⟨#[104, 118, 120, 108, 68, 111]⟩ : ByteArray)[5]'(by decide)).toNat : Nat) : Int) == (s[a].toNat : Int)) = false := by show ((111 : Int) == (s[a].toNat : Int)) = false; rw [beq_eq_false_iff_ne]; omega
  have s34 : ((s[a].toNat : Int) == 34) = false := by rw [beq_eq_false_iff_ne]; omega
  have s123 : ((s[a].toNat : Int) == 123) = false := by rw [beq_eq_false_iff_ne]; omega
  have s125 : ((s[a].toNat : Int) == 125) = true := by rw [beq_iff_eq]; omega
  clear hk hsim hfst hyp
  go_enter Try.func30, Try.ntmps30
  go_wp2
  go_quiet (fail)
  go_wp2_with (go_at_call 42; refine Calls.mono (HS.out _) ?_; rintro e w2 ⟨rfl, b2⟩; have h2 := (Go1.out _).below b2; have B2 := (Bel1.out _).trans (b2.mono (Go1.out _).top); clear b2 c0 c1 c2 c3 f1 f2 f3 hb; obtain ⟨c0, c1, c2, c3, f1, f2, f3, hb⟩ := h2.cells; have H2 := Lib.hid h2; have HB2 := Lib.hid B2; clear h2 B2)
  obtain ⟨g, hg⟩ : ∃ g, w2.heap.size = g := ⟨_, rfl⟩
  obtain ⟨W3, hW3⟩ : ∃ W, ((w2.alloc (.cells #[.int .i64 t.kind, .string t.text, .int .i64 t.n] 55)).alloc (.cells #[.int .i64 12, .int .i64 13, .int .i64 14, .int .i64 15, .int .i64 16, .int .i64 17] 3)) = W := ⟨_, rfl⟩
  have b3 : Below w2.heap.size w2 W3 := by rw [← hW3]; exact ((Below.refl _ _).alloc (Nat.le_refl _) _).alloc (by simp) _
  have H3 := Lib.hid (H2.out.below b3)
  have HB3 := Lib.hid (HB2.out.trans (b3.mono H2.out.top))
  have gb : g + 1 ≠ b := by have := H2.out.cells.2.2.2.2.2.2.2; omega
  have gne : some g ≠ v.ownBlock := fun e => by have := own_lt H2.out.own g e.symm; omega
  have kb : W3.heap[g]? = some (.cells #[.int .i64 t.kind, .string t.text, .int .i64 t.n] 55) := by rw [← hW3, ← hg]; exact (two_blk _ _ _).1
  have k0 : W3.cell? ⟨g, 0, none⟩ = some (.int .i64 t.kind) := by simp [World.cell?, kb]
  have k1 : W3.cell? ⟨g, 1, none⟩ = some (.string t.text) := by simp [World.cell?, kb]
  have k2 : W3.cell? ⟨g, 2, none⟩ = some (.int .i64 t.n) := by simp [World.cell?, kb]
  have zb : W3.heap[g + 1]? = some (.cells #[.int .i64 12, .int .i64 13, .int .i64 14, .int .i64 15, .int .i64 16, .int .i64 17] 3) := by rw [← hW3, ← hg]; exact (two_blk _ _ _).2
  have z0 : W3.cell? ⟨g + 1, 0, none⟩ = some (.int .i64 12) := by simp [World.cell?, zb]
  have z1 : W3.cell? ⟨g + 1, 1, none⟩ = some (.int .i64 13) := by simp [World.cell?, zb]
  have z2 : W3.cell? ⟨g + 1, 2, none⟩ = some (.int .i64 14) := by simp [World.cell?, zb]
  have z3 : W3.cell? ⟨g + 1, 3, none⟩ = some (.int .i64 15) := by simp [World.cell?, zb]
  have z4 : W3.cell? ⟨g + 1, 4, none⟩ = some (.int .i64 16) := by simp [World.cell?, zb]
  have z5 : W3.cell? ⟨g + 1, 5, none⟩ = some (.int .i64 17) := by simp [World.cell?, zb]
  have gl : g + 1 < W3.heap.size := by rw [← hW3, ← hg]; simp
  clear c0 c1 c2 c3 f1 f2 f3 hb
  rw [hW3, hg]
  clear hW3 hg H2 HB2 b3
  obtain ⟨c0, c1, c2, c3, f1, f2, f3, hb⟩ := H3.out.cells
  go_loopw [8] (fun i wr => wr = W3 ∧ (i = .int .i64 0 ∨ i = .int .i64 1 ∨ i = .int .i64 2 ∨ i = .int .i64 3 ∨ i = .int .i64 4 ∨ i = .int .i64 5 ∨ i = .int .i64 6)) (fun i _ => 7 - (RowKit.intOf i).toNat)
  case atStart => exact ⟨rfl, .inl rfl⟩
  case round =>
    rcases hrel with ⟨rfl, rfl | rfl | rfl | rfl | rfl | rfl | rfl⟩
    · go_wp2
      go_roundw
      case rel => simp
      case measure => simp [RowKit.intOf]
    · go_wp2
      go_roundw
      case rel => simp
      case measure => simp [RowKit.intOf]
    · go_wp2
      go_roundw
      case rel => simp
      case measure => simp [RowKit.intOf]
    · go_wp2
      go_roundw
      case rel => simp
      case measure => simp [RowKit.intOf]
    · go_wp2
      go_roundw
      case rel => simp
      case measure => simp [RowKit.intOf]
    · go_wp2
      go_roundw
      case rel => simp
      case measure => simp [RowKit.intOf]
    · go_wp2
      go_end0
      exact ⟨rfl, ⟨v, by rw [List.append_nil]; exact H3.out⟩, HB3.out⟩

set_option maxRecDepth 100000 in
set_option maxHeartbeats 4000000 in
theorem re_first (w : World) (b base : Nat) (v : Value) (s : ByteArray) (a : Nat) (l : List Tok) (h : RR w b base v s a l false) (hs : s.size ≤ 1000000) (hl : l.length ≤ 900000) (ha : a < s.size) (t : Tok) (hsim : simR (pk s a) = (t, false)) (hfst : decide (a = 1) = true) (hyp : pk s a = 33) :
    Calls Try.prog 30 #[.pointer (some ⟨b, 0, none⟩)] w (EscR b base s l w (.go [] (a + 1))) := by
  obtain ⟨c0, c1, c2, c3, f1, f2, f3, hb⟩ := h.cells
  have hge := h.ge
  have HH := Lib.hid h
  clear h
  have hk := pk_get s a ha
  have hi : (a : Int) < s.size := by omega
  have hw : IntKind.i64.wrap ((a : Int) + 1) = (a : Int) + 1 := IntWalk.i64_in _ (by omega)
  have e1 : ((a : Int) == 1) = true := by rw [← hfst]; by_cases q : a = 1 <;> simp [q]; omega
  have e1' : (a == 1) = true := by rw [← hfst]; by_cases q : a = 1 <;> simp [q]
  rw [hk] at hsim
  have HS := Lib.hid (fun W => rsimple_calls _ W t false hsim)
  have Go1 : Hid (∀ (n : Nat), RR ((w.drewN n).setCell ⟨b, 1, none⟩ (.int .i64 ((a : Int) + 1))) b base v s (a + 1) l false) := Lib.hid fun n => (HH.out.drewN n).set1 _ (by omega)
  have Bel1 : Hid (∀ (n : Nat), Below base w ((w.drewN n).setCell ⟨b, 1, none⟩ (.int .i64 ((a : Int) + 1)))) := Lib.hid fun n => below_st (below_dr (Below.refl _ _)) hge
  have q104 : (((((⟨#[104, 118, 120, 108, 68, 111]⟩ : ByteArray)[0]'(by decide)).toNat : Nat) : Int) == (s[a].toNat : Int)) = false := by show ((104 : Int) == (s[a].toNat : Int)) = false; rw [beq_eq_false_iff_ne]; omega
  have q118 : (((((⟨#[104, 118, 120, 108, 68, 111]⟩ : ByteArray)[1]'(by decide)).toNat : Nat) : Int) == (s[a].toNat : Int)) = false := by show ((118 : Int) == (s[a].toNat : Int)) = false; rw [beq_eq_false_iff_ne]; omega
  have q120 : (((((⟨#[104, 118, 120, 108, 68, 111]⟩ : ByteArray)[2]'(by decide)).toNat : Nat) : Int) == (s[a].toNat : Int)) = false := by show ((120 : Int) == (s[a].toNat : Int)) = false; rw [beq_eq_false_iff_ne]; omega
  have q108 : (((((⟨#[104, 118, 120, 108, 68, 111]⟩ : ByteArray)[3]'(by decide)).toNat : Nat) : Int) == (s[a].toNat : Int)) = false := by show ((108 : Int) == (s[a].toNat : Int)) = false; rw [beq_eq_false_iff_ne]; omega
  have q68 : (((((⟨#[104, 118, 120, 108, 68, 111]⟩ : ByteArray)[4]'(by decide)).toNat : Nat) : Int) == (s[a].toNat : Int)) = false := by show ((68 : Int) == (s[a].toNat : Int)) = false; rw [beq_eq_false_iff_ne]; omega
  have q111 : (((((⟨#[104, 118, 120, 108, 68, 111]⟩ : ByteArray)[5]'(by decide)).toNat : Nat) : Int) == (s[a].toNat : Int)) = false := by show ((111 : Int) == (s[a].toNat : Int)) = false; rw [beq_eq_false_iff_ne]; omega
  have s34 : ((s[a].toNat : Int) == 34) = false := by rw [beq_eq_false_iff_ne]; omega
  have s123 : ((s[a].toNat : Int) == 123) = false := by rw [beq_eq_false_iff_ne]; omega
  have s125 : ((s[a].toNat : Int) == 125) = false := by rw [beq_eq_false_iff_ne]; omega
  have s33 : ((s[a].toNat : Int) == 33) = true := by rw [beq_iff_eq]; omega
  clear hk hsim hfst hyp
  go_enter Try.func30, Try.ntmps30
  go_wp2
  go_quiet (fail)
  go_wp2_with (go_at_call 42; refine Calls.mono (HS.out _) ?_; rintro e w2 ⟨rfl, b2⟩; have h2 := (Go1.out _).below b2; have B2 := (Bel1.out _).trans (b2.mono (Go1.out _).top); clear b2 c0 c1 c2 c3 f1 f2 f3 hb; obtain ⟨c0, c1, c2, c3, f1, f2, f3, hb⟩ := h2.cells; have H2 := Lib.hid h2; have HB2 := Lib.hid B2; clear h2 B2)
  obtain ⟨g, hg⟩ : ∃ g, w2.heap.size = g := ⟨_, rfl⟩
  obtain ⟨W3, hW3⟩ : ∃ W, ((w2.alloc (.cells #[.int .i64 t.kind, .string t.text, .int .i64 t.n] 55)).alloc (.cells #[.int .i64 12, .int .i64 13, .int .i64 14, .int .i64 15, .int .i64 16, .int .i64 17] 3)) = W := ⟨_, rfl⟩
  have b3 : Below w2.heap.size w2 W3 := by rw [← hW3]; exact ((Below.refl _ _).alloc (Nat.le_refl _) _).alloc (by simp) _
  have H3 := Lib.hid (H2.out.below b3)
  have HB3 := Lib.hid (HB2.out.trans (b3.mono H2.out.top))
  have gb : g + 1 ≠ b := by have := H2.out.cells.2.2.2.2.2.2.2; omega
  have gne : some g ≠ v.ownBlock := fun e => by have := own_lt H2.out.own g e.symm; omega
  have kb : W3.heap[g]? = some (.cells #[.int .i64 t.kind, .string t.text, .int .i64 t.n] 55) := by rw [← hW3, ← hg]; exact (two_blk _ _ _).1
  have k0 : W3.cell? ⟨g, 0, none⟩ = some (.int .i64 t.kind) := by simp [World.cell?, kb]
  have k1 : W3.cell? ⟨g, 1, none⟩ = some (.string t.text) := by simp [World.cell?, kb]
  have k2 : W3.cell? ⟨g, 2, none⟩ = some (.int .i64 t.n) := by simp [World.cell?, kb]
  have zb : W3.heap[g + 1]? = some (.cells #[.int .i64 12, .int .i64 13, .int .i64 14, .int .i64 15, .int .i64 16, .int .i64 17] 3) := by rw [← hW3, ← hg]; exact (two_blk _ _ _).2
  have z0 : W3.cell? ⟨g + 1, 0, none⟩ = some (.int .i64 12) := by simp [World.cell?, zb]
  have z1 : W3.cell? ⟨g + 1, 1, none⟩ = some (.int .i64 13) := by simp [World.cell?, zb]
  have z2 : W3.cell? ⟨g + 1, 2, none⟩ = some (.int .i64 14) := by simp [World.cell?, zb]
  have z3 : W3.cell? ⟨g + 1, 3, none⟩ = some (.int .i64 15) := by simp [World.cell?, zb]
  have z4 : W3.cell? ⟨g + 1, 4, none⟩ = some (.int .i64 16) := by simp [World.cell?, zb]
  have z5 : W3.cell? ⟨g + 1, 5, none⟩ = some (.int .i64 17) := by simp [World.cell?, zb]
  have gl : g + 1 < W3.heap.size := by rw [← hW3, ← hg]; simp
  clear c0 c1 c2 c3 f1 f2 f3 hb
  rw [hW3, hg]
  clear hW3 hg H2 HB2 b3
  obtain ⟨c0, c1, c2, c3, f1, f2, f3, hb⟩ := H3.out.cells
  go_loopw [8] (fun i wr => wr = W3 ∧ (i = .int .i64 0 ∨ i = .int .i64 1 ∨ i = .int .i64 2 ∨ i = .int .i64 3 ∨ i = .int .i64 4 ∨ i = .int .i64 5 ∨ i = .int .i64 6)) (fun i _ => 7 - (RowKit.intOf i).toNat)
  case atStart => exact ⟨rfl, .inl rfl⟩
  case round =>
    rcases hrel with ⟨rfl, rfl | rfl | rfl | rfl | rfl | rfl | rfl⟩
    · go_wp2
      go_roundw
      case rel => simp
      case measure => simp [RowKit.intOf]
    · go_wp2
      go_roundw
      case rel => simp
      case measure => simp [RowKit.intOf]
    · go_wp2
      go_roundw
      case rel => simp
      case measure => simp [RowKit.intOf]
    · go_wp2
      go_roundw
      case rel => simp
      case measure => simp [RowKit.intOf]
    · go_wp2
      go_roundw
      case rel => simp
      case measure => simp [RowKit.intOf]
    · go_wp2
      go_roundw
      case rel => simp
      case measure => simp [RowKit.intOf]
    · go_wp2
      go_end0
      exact ⟨rfl, ⟨v, by rw [List.append_nil]; exact H3.out⟩, HB3.out⟩

end Go.Proofs.Ytaokofnhkojllaa

set_option linter.unusedVariables false
set_option linter.unusedSimpArgs false
namespace Go.Proofs.Ytaokofnhkojllaa
open Go.Shelf Go.RowKit Go.Lib Go.Aids Go.MapLit Go.Proofs.YtaokofnhkojllaaW.PrintWords
set_option maxRecDepth 100000 in
set_option maxHeartbeats 4000000 in
theorem re_unseen (w : World) (b base : Nat) (v : Value) (s : ByteArray) (a : Nat) (l : List Tok) (h : RR w b base v s a l false) (hs : s.size ≤ 1000000) (hl : l.length ≤ 900000) (ha : a < s.size) (t : Tok) (hsim : simR (pk s a) = (t, false)) (fst : Bool) (hfst : decide (a = 1) = fst) (hyp : seenB (pk s a) = false ∧ pk s a ≠ 104 ∧ pk s a ≠ 118 ∧ pk s a ≠ 120 ∧ pk s a ≠ 108 ∧ pk s a ≠ 68 ∧ pk s a ≠ 111 ∧ pk s a ≠ 34 ∧ pk s a ≠ 123 ∧ pk s a ≠ 125 ∧ pk s a ≠ 33 ∧ pk s a ≠ 40 ∧ pk s a ≠ 91 ∧ pk s a ≠ 102 ∧ pk s a ≠ 115 ∧ pk s a ≠ 107 ∧ pk s a ≠ 109) :
    Calls Try.prog 30 #[.pointer (some ⟨b, 0, none⟩)] w (EscR b base s l w (.go [] (a + 1))) := by
  obtain ⟨c0, c1, c2, c3, f1, f2, f3, hb⟩ := h.cells
  have hge := h.ge
  have HH := Lib.hid h
  clear h
  have hk := pk_get s a ha
  have hi : (a : Int) < s.size := by omega
  have hw : IntKind.i64.wrap ((a : Int) + 1) = (a : Int) + 1 := IntWalk.i64_in _ (by omega)
  have e1 : ((a : Int) == 1) = fst := by rw [← hfst]; by_cases q : a = 1 <;> simp [q]; omega
  have e1' : (a == 1) = fst := by rw [← hfst]; by_cases q : a = 1 <;> simp [q]
  rw [hk] at hsim
  have HS := Lib.hid (fun W => rsimple_calls _ W t false hsim)
  have Go1 : Hid (∀ (n : Nat), RR ((w.drewN n).setCell ⟨b, 1, none⟩ (.int .i64 ((a : Int) + 1))) b base v s (a + 1) l false) := Lib.hid fun n => (HH.out.drewN n).set1 _ (by omega)
  have Bel1 : Hid (∀ (n : Nat), Below base w ((w.drewN n).setCell ⟨b, 1, none⟩ (.int .i64 ((a : Int) + 1)))) := Lib.hid fun n => below_st (below_dr (Below.refl _ _)) hge
  have hyp2 := hyp.2
  have q104 : (((((⟨#[104, 118, 120, 108, 68, 111]⟩ : ByteArray)[0]'(by decide)).toNat : Nat) : Int) == (s[a].toNat : Int)) = false := by show ((104 : Int) == (s[a].toNat : Int)) = false; rw [beq_eq_false_iff_ne]; omega
  have q118 : (((((⟨#[104, 118, 120, 108, 68, 111]⟩ : ByteArray)[1]'(by decide)).toNat : Nat) : Int) == (s[a].toNat : Int)) = false := by show ((118 : Int) == (s[a].toNat : Int)) = false; rw [beq_eq_false_iff_ne]; omega
  have q120 : (((((⟨#[104, 118, 120, 108, 68, 111]⟩ : ByteArray)[2]'(by decide)).toNat : Nat) : Int) == (s[a].toNat : Int)) = false := by show ((120 : Int) == (s[a].toNat : Int)) = false; rw [beq_eq_false_iff_ne]; omega
  have q108 : (((((⟨#[104, 118, 120, 108, 68, 111]⟩ : ByteArray)[3]'(by decide)).toNat : Nat) : Int) == (s[a].toNat : Int)) = false := by show ((108 : Int) == (s[a].toNat : Int)) = false; rw [beq_eq_false_iff_ne]; omega
  have q68 : (((((⟨#[104, 118, 120, 108, 68, 111]⟩ : ByteArray)[4]'(by decide)).toNat : Nat) : Int) == (s[a].toNat : Int)) = false := by show ((68 : Int) == (s[a].toNat : Int)) = false; rw [beq_eq_false_iff_ne]; omega
  have q111 : (((((⟨#[104, 118, 120, 108, 68, 111]⟩ : ByteArray)[5]'(by decide)).toNat : Nat) : Int) == (s[a].toNat : Int)) = false := by show ((111 : Int) == (s[a].toNat : Int)) = false; rw [beq_eq_false_iff_ne]; omega
  have s34 : ((s[a].toNat : Int) == 34) = false := by rw [beq_eq_false_iff_ne]; omega
  have s123 : ((s[a].toNat : Int) == 123) = false := by rw [beq_eq_false_iff_ne]; omega
  have s125 : ((s[a].toNat : Int) == 125) = false := by rw [beq_eq_false_iff_ne]; omega
  have s33 : ((s[a].toNat : Int) == 33) = false := by rw [beq_eq_false_iff_ne]; omega
  have s40 : ((s[a].toNat : Int) == 40) = false := by rw [beq_eq_false_iff_ne]; omega
  have s91 : ((s[a].toNat : Int) == 91) = false := by rw [beq_eq_false_iff_ne]; omega
  have s102 : ((s[a].toNat : Int) == 102) = false := by rw [beq_eq_false_iff_ne]; omega
  have s115 : ((s[a].toNat : Int) == 115) = false := by rw [beq_eq_false_iff_ne]; omega
  have s107 : ((s[a].toNat : Int) == 107) = false := by rw [beq_eq_false_iff_ne]; omega
  have s109 : ((s[a].toNat : Int) == 109) = false := by rw [beq_eq_false_iff_ne]; omega
  have hsn := hyp.1
  rw [hk] at hsn
  have HN := Lib.hid (fun W => seen_calls s[a].toNat W)
  rw [hsn] at HN
  clear hsn hyp2
  clear hk hsim hfst hyp
  go_enter Try.func30, Try.ntmps30
  go_wp2
  go_quiet (fail)
  go_wp2_with (go_at_call 42; refine Calls.mono (HS.out _) ?_; rintro e w2 ⟨rfl, b2⟩; have h2 := (Go1.out _).below b2; have B2 := (Bel1.out _).trans (b2.mono (Go1.out _).top); clear b2 c0 c1 c2 c3 f1 f2 f3 hb; obtain ⟨c0, c1, c2, c3, f1, f2, f3, hb⟩ := h2.cells; have H2 := Lib.hid h2; have HB2 := Lib.hid B2; clear h2 B2)
  obtain ⟨g, hg⟩ : ∃ g, w2.heap.size = g := ⟨_, rfl⟩
  obtain ⟨W3, hW3⟩ : ∃ W, ((w2.alloc (.cells #[.int .i64 t.kind, .string t.text, .int .i64 t.n] 55)).alloc (.cells #[.int .i64 12, .int .i64 13, .int .i64 14, .int .i64 15, .int .i64 16, .int .i64 17] 3)) = W := ⟨_, rfl⟩
  have b3 : Below w2.heap.size w2 W3 := by rw [← hW3]; exact ((Below.refl _ _).alloc (Nat.le_refl _) _).alloc (by simp) _
  have H3 := Lib.hid (H2.out.below b3)
  have HB3 := Lib.hid (HB2.out.trans (b3.mono H2.out.top))
  have gb : g + 1 ≠ b := by have := H2.out.cells.2.2.2.2.2.2.2; omega
  have gne : some g ≠ v.ownBlock := fun e => by have := own_lt H2.out.own g e.symm; omega
  have kb : W3.heap[g]? = some (.cells #[.int .i64 t.kind, .string t.text, .int .i64 t.n] 55) := by rw [← hW3, ← hg]; exact (two_blk _ _ _).1
  have k0 : W3.cell? ⟨g, 0, none⟩ = some (.int .i64 t.kind) := by simp [World.cell?, kb]
  have k1 : W3.cell? ⟨g, 1, none⟩ = some (.string t.text) := by simp [World.cell?, kb]
  have k2 : W3.cell? ⟨g, 2, none⟩ = some (.int .i64 t.n) := by simp [World.cell?, kb]
  have zb : W3.heap[g + 1]? = some (.cells #[.int .i64 12, .int .i64 13, .int .i64 14, .int .i64 15, .int .i64 16, .int .i64 17] 3) := by rw [← hW3, ← hg]; exact (two_blk _ _ _).2
  have z0 : W3.cell? ⟨g + 1, 0, none⟩ = some (.int .i64 12) := by simp [World.cell?, zb]
  have z1 : W3.cell? ⟨g + 1, 1, none⟩ = some (.int .i64 13) := by simp [World.cell?, zb]
  have z2 : W3.cell? ⟨g + 1, 2, none⟩ = some (.int .i64 14) := by simp [World.cell?, zb]
  have z3 : W3.cell? ⟨g + 1, 3, none⟩ = some (.int .i64 15) := by simp [World.cell?, zb]
  have z4 : W3.cell? ⟨g + 1, 4, none⟩ = some (.int .i64 16) := by simp [World.cell?, zb]
  have z5 : W3.cell? ⟨g + 1, 5, none⟩ = some (.int .i64 17) := by simp [World.cell?, zb]
  have gl : g + 1 < W3.heap.size := by rw [← hW3, ← hg]; simp
  clear c0 c1 c2 c3 f1 f2 f3 hb
  rw [hW3, hg]
  clear hW3 hg H2 HB2 b3
  obtain ⟨c0, c1, c2, c3, f1, f2, f3, hb⟩ := H3.out.cells
  go_loopw [8] (fun i wr => wr = W3 ∧ (i = .int .i64 0 ∨ i = .int .i64 1 ∨ i = .int .i64 2 ∨ i = .int .i64 3 ∨ i = .int .i64 4 ∨ i = .int .i64 5 ∨ i = .int .i64 6)) (fun i _ => 7 - (RowKit.intOf i).toNat)
  case atStart => exact ⟨rfl, .inl rfl⟩
  case round =>
    rcases hrel with ⟨rfl, rfl | rfl | rfl | rfl | rfl | rfl | rfl⟩
    · go_wp2
      go_roundw
      case rel => simp
      case measure => simp [RowKit.intOf]
    · go_wp2
      go_roundw
      case rel => simp
      case measure => simp [RowKit.intOf]
    · go_wp2
      go_roundw
      case rel => simp
      case measure => simp [RowKit.intOf]
    · go_wp2
      go_roundw
      case rel => simp
      case measure => simp [RowKit.intOf]
    · go_wp2
      go_roundw
      case rel => simp
      case measure => simp [RowKit.intOf]
    · go_wp2
      go_roundw
      case rel => simp
      case measure => simp [RowKit.intOf]
    · go_wp2_with (go_at_call 32; refine Calls.mono (HN.out _) ?_; rintro e w' ⟨rfl, n, rfl⟩)
      go_end0
      exact ⟨rfl, ⟨v, by rw [List.append_nil]; exact H3.out.drewN _⟩, below_dr HB3.out⟩

set_option maxRecDepth 100000 in
set_option maxHeartbeats 4000000 in
theorem re_seen33 (w : World) (b base : Nat) (v : Value) (s : ByteArray) (a : Nat) (l : List Tok) (h : RR w b base v s a l false) (hs : s.size ≤ 1000000) (hl : l.length ≤ 900000) (ha : a < s.size) (t : Tok) (hsim : simR (pk s a) = (t, false)) (hfst : decide (a = 1) = false) (hyp : pk s a = 33) :
    Calls Try.prog 30 #[.pointer (some ⟨b, 0, none⟩)] w (EscR b base s l w (.go [⟨0, oneS (pk s a), 0⟩] (a + 1))) := by
  obtain ⟨c0, c1, c2, c3, f1, f2, f3, hb⟩ := h.cells
  have hge := h.ge
  have HH := Lib.hid h
  clear h
  have hk := pk_get s a ha
  have hi : (a : Int) < s.size := by omega
  have hw : IntKind.i64.wrap ((a : Int) + 1) = (a : Int) + 1 := IntWalk.i64_in _ (by omega)
  have e1 : ((a : Int) == 1) = false := by rw [← hfst]; by_cases q : a = 1 <;> simp [q]; omega
  have e1' : (a == 1) = false := by rw [← hfst]; by_cases q : a = 1 <;> simp [q]
  rw [hk] at hsim
  have HS := Lib.hid (fun W => rsimple_calls _ W t false hsim)
  have Go1 : Hid (∀ (n : Nat), RR ((w.drewN n).setCell ⟨b, 1, none⟩ (.int .i64 ((a : Int) + 1))) b base v s (a + 1) l false) := Lib.hid fun n => (HH.out.drewN n).set1 _ (by omega)
  have Bel1 : Hid (∀ (n : Nat), Below base w ((w.drewN n).setCell ⟨b, 1, none⟩ (.int .i64 ((a : Int) + 1)))) := Lib.hid fun n => below_st (below_dr (Below.refl _ _)) hge
  have q104 : (((((⟨#[104, 118, 120, 108, 68, 111]⟩ : ByteArray)[0]'(by decide)).toNat : Nat) : Int) == (s[a].toNat : Int)) = false := by show ((104 : Int) == (s[a].toNat : Int)) = false; rw [beq_eq_false_iff_ne]; omega
  have q118 : (((((⟨#[104, 118, 120, 108, 68, 111]⟩ : ByteArray)[1]'(by decide)).toNat : Nat) : Int) == (s[a].toNat : Int)) = false := by show ((118 : Int) == (s[a].toNat : Int)) = false; rw [beq_eq_false_iff_ne]; omega
  have q120 : (((((⟨#[104, 118, 120, 108, 68, 111]⟩ : ByteArray)[2]'(by decide)).toNat : Nat) : Int) == (s[a].toNat : Int)) = false := by show ((120 : Int) == (s[a].toNat : Int)) = false; rw [beq_eq_false_iff_ne]; omega
  have q108 : (((((⟨#[104, 118, 120, 108, 68, 111]⟩ : ByteArray)[3]'(by decide)).toNat : Nat) : Int) == (s[a].toNat : Int)) = false := by show ((108 : Int) == (s[a].toNat : Int)) = false; rw [beq_eq_false_iff_ne]; omega
  have q68 : (((((⟨#[104, 118, 120, 108, 68, 111]⟩ : ByteArray)[4]'(by decide)).toNat : Nat) : Int) == (s[a].toNat : Int)) = false := by show ((68 : Int) == (s[a].toNat : Int)) = false; rw [beq_eq_false_iff_ne]; omega
  have q111 : (((((⟨#[104, 118, 120, 108, 68, 111]⟩ : ByteArray)[5]'(by decide)).toNat : Nat) : Int) == (s[a].toNat : Int)) = false := by show ((111 : Int) == (s[a].toNat : Int)) = false; rw [beq_eq_false_iff_ne]; omega
  have s34 : ((s[a].toNat : Int) == 34) = false := by rw [beq_eq_false_iff_ne]; omega
  have s123 : ((s[a].toNat : Int) == 123) = false := by rw [beq_eq_false_iff_ne]; omega
  have s125 : ((s[a].toNat : Int) == 125) = false := by rw [beq_eq_false_iff_ne]; omega
  have s33 : ((s[a].toNat : Int) == 33) = true := by rw [beq_iff_eq]; omega
  have s40 : ((s[a].toNat : Int) == 40) = false := by rw [beq_eq_false_iff_ne]; omega
  have s91 : ((s[a].toNat : Int) == 91) = false := by rw [beq_eq_false_iff_ne]; omega
  have s102 : ((s[a].toNat : Int) == 102) = false := by rw [beq_eq_false_iff_ne]; omega
  have s115 : ((s[a].toNat : Int) == 115) = false := by rw [beq_eq_false_iff_ne]; omega
  have s107 : ((s[a].toNat : Int) == 107) = false := by rw [beq_eq_false_iff_ne]; omega
  have s109 : ((s[a].toNat : Int) == 109) = false := by rw [beq_eq_false_iff_ne]; omega
  have hsn : seenB (pk s a) = true := by rw [hyp]; decide
  rw [hk] at hsn ⊢
  have HN := Lib.hid (fun W => seen_calls s[a].toNat W)
  rw [hsn] at HN
  clear hsn
  clear hk hsim hfst hyp
  go_enter Try.func30, Try.ntmps30
  go_wp2
  go_quiet (fail)
  go_wp2_with (go_at_call 42; refine Calls.mono (HS.out _) ?_; rintro e w2 ⟨rfl, b2⟩; have h2 := (Go1.out _).below b2; have B2 := (Bel1.out _).trans (b2.mono (Go1.out _).top); clear b2 c0 c1 c2 c3 f1 f2 f3 hb; obtain ⟨c0, c1, c2, c3, f1, f2, f3, hb⟩ := h2.cells; have H2 := Lib.hid h2; have HB2 := Lib.hid B2; clear h2 B2)
  obtain ⟨g, hg⟩ : ∃ g, w2.heap.size = g := ⟨_, rfl⟩
  obtain ⟨W3, hW3⟩ : ∃ W, ((w2.alloc (.cells #[.int .i64 t.kind, .string t.text, .int .i64 t.n] 55)).alloc (.cells #[.int .i64 12, .int .i64 13, .int .i64 14, .int .i64 15, .int .i64 16, .int .i64 17] 3)) = W := ⟨_, rfl⟩
  have b3 : Below w2.heap.size w2 W3 := by rw [← hW3]; exact ((Below.refl _ _).alloc (Nat.le_refl _) _).alloc (by simp) _
  have H3 := Lib.hid (H2.out.below b3)
  have HB3 := Lib.hid (HB2.out.trans (b3.mono H2.out.top))
  have gb : g + 1 ≠ b := by have := H2.out.cells.2.2.2.2.2.2.2; omega
  have gne : some g ≠ v.ownBlock := fun e => by have := own_lt H2.out.own g e.symm; omega
  have kb : W3.heap[g]? = some (.cells #[.int .i64 t.kind, .string t.text, .int .i64 t.n] 55) := by rw [← hW3, ← hg]; exact (two_blk _ _ _).1
  have k0 : W3.cell? ⟨g, 0, none⟩ = some (.int .i64 t.kind) := by simp [World.cell?, kb]
  have k1 : W3.cell? ⟨g, 1, none⟩ = some (.string t.text) := by simp [World.cell?, kb]
  have k2 : W3.cell? ⟨g, 2, none⟩ = some (.int .i64 t.n) := by simp [World.cell?, kb]
  have zb : W3.heap[g + 1]? = some (.cells #[.int .i64 12, .int .i64 13, .int .i64 14, .int .i64 15, .int .i64 16, .int .i64 17] 3) := by rw [← hW3, ← hg]; exact (two_blk _ _ _).2
  have z0 : W3.cell? ⟨g + 1, 0, none⟩ = some (.int .i64 12) := by simp [World.cell?, zb]
  have z1 : W3.cell? ⟨g + 1, 1, none⟩ = some (.int .i64 13) := by simp [World.cell?, zb]
  have z2 : W3.cell? ⟨g + 1, 2, none⟩ = some (.int .i64 14) := by simp [World.cell?, zb]
  have z3 : W3.cell? ⟨g + 1, 3, none⟩ = some (.int .i64 15) := by simp [World.cell?, zb]
  have z4 : W3.cell? ⟨g + 1, 4, none⟩ = some (.int .i64 16) := by simp [World.cell?, zb]
  have z5 : W3.cell? ⟨g + 1, 5, none⟩ = some (.int .i64 17) := by simp [World.cell?, zb]
  have gl : g + 1 < W3.heap.size := by rw [← hW3, ← hg]; simp
  clear c0 c1 c2 c3 f1 f2 f3 hb
  rw [hW3, hg]
  clear hW3 hg H2 HB2 b3
  obtain ⟨c0, c1, c2, c3, f1, f2, f3, hb⟩ := H3.out.cells
  have hcv : ∀ n, (Go.convert 30 9 (.slice (some ⟨W3.heap.size, 0, none⟩) 1 1)).run Try.prog ((W3.drewN n).alloc (.cells #[.int .u8 s[a].toNat] 5)) = .ok (.string (oneS s[a].toNat)) ((W3.drewN n).alloc (.cells #[.int .u8 s[a].toNat] 5)) := fun n => conv_one _ _ _ (by simp)
  have HA : Hid (∀ n, RR ((W3.drewN n).alloc (.cells #[.int .u8 s[a].toNat] 5)) b base v s (a + 1) l false) := Lib.hid fun n => (H3.out.drewN n).below ((Below.refl _ _).alloc (Nat.le_refl _) _)
  have HBA : Hid (∀ n, Below base w ((W3.drewN n).alloc (.cells #[.int .u8 s[a].toNat] 5))) := Lib.hid fun n => (below_dr HB3.out).alloc H3.out.top _
  go_loopw [8] (fun i wr => wr = W3 ∧ (i = .int .i64 0 ∨ i = .int .i64 1 ∨ i = .int .i64 2 ∨ i = .int .i64 3 ∨ i = .int .i64 4 ∨ i = .int .i64 5 ∨ i = .int .i64 6)) (fun i _ => 7 - (RowKit.intOf i).toNat)
  case atStart => exact ⟨rfl, .inl rfl⟩
  case round =>
    rcases hrel with ⟨rfl, rfl | rfl | rfl | rfl | rfl | rfl | rfl⟩
    · go_wp2
      go_roundw
      case rel => simp
      case measure => simp [RowKit.intOf]
    · go_wp2
      go_roundw
      case rel => simp
      case measure => simp [RowKit.intOf]
    · go_wp2
      go_roundw
      case rel => simp
      case measure => simp [RowKit.intOf]
    · go_wp2
      go_roundw
      case rel => simp
      case measure => simp [RowKit.intOf]
    · go_wp2
      go_roundw
      case rel => simp
      case measure => simp [RowKit.intOf]
    · go_wp2
      go_roundw
      case rel => simp
      case measure => simp [RowKit.intOf]
    · go_wp2_with (first | (go_at_call 32; refine Calls.mono (HN.out _) ?_; rintro e w' ⟨rfl, n, rfl⟩) | (go_at_call 31; refine Calls.mono (put_calls _ b base v s (a + 1) l false 0 _ 0 (HA.out _) (by omega)) ?_; rintro e w6 ⟨rfl, ⟨v6, h6⟩, b6⟩; have H6 := Lib.hid h6; have HB6 := Lib.hid ((HBA.out _).trans b6); clear h6 b6))
      go_end0
      exact ⟨rfl, ⟨v6, H6.out⟩, HB6.out⟩

set_option maxRecDepth 100000 in
set_option maxHeartbeats 4000000 in
theorem re_seen (w : World) (b base : Nat) (v : Value) (s : ByteArray) (a : Nat) (l : List Tok) (h : RR w b base v s a l false) (hs : s.size ≤ 1000000) (hl : l.length ≤ 900000) (ha : a < s.size) (t : Tok) (hsim : simR (pk s a) = (t, false)) (fst : Bool) (hfst : decide (a = 1) = fst) (hyp : seenB (pk s a) = true ∧ pk s a ≠ 104 ∧ pk s a ≠ 118 ∧ pk s a ≠ 120 ∧ pk s a ≠ 108 ∧ pk s a ≠ 68 ∧ pk s a ≠ 111 ∧ pk s a ≠ 34 ∧ pk s a ≠ 123 ∧ pk s a ≠ 125 ∧ pk s a ≠ 33 ∧ pk s a ≠ 40 ∧ pk s a ≠ 91 ∧ pk s a ≠ 102 ∧ pk s a ≠ 115 ∧ pk s a ≠ 107 ∧ pk s a ≠ 109) :
    Calls Try.prog 30 #[.pointer (some ⟨b, 0, none⟩)] w (EscR b base s l w (.go [⟨0, oneS (pk s a), 0⟩] (a + 1))) := by
  obtain ⟨c0, c1, c2, c3, f1, f2, f3, hb⟩ := h.cells
  have hge := h.ge
  have HH := Lib.hid h
  clear h
  have hk := pk_get s a ha
  have hi : (a : Int) < s.size := by omega
  have hw : IntKind.i64.wrap ((a : Int) + 1) = (a : Int) + 1 := IntWalk.i64_in _ (by omega)
  have e1 : ((a : Int) == 1) = fst := by rw [← hfst]; by_cases q : a = 1 <;> simp [q]; omega
  have e1' : (a == 1) = fst := by rw [← hfst]; by_cases q : a = 1 <;> simp [q]
  rw [hk] at hsim
  have HS := Lib.hid (fun W => rsimple_calls _ W t false hsim)
  have Go1 : Hid (∀ (n : Nat), RR ((w.drewN n).setCell ⟨b, 1, none⟩ (.int .i64 ((a : Int) + 1))) b base v s (a + 1) l false) := Lib.hid fun n => (HH.out.drewN n).set1 _ (by omega)
  have Bel1 : Hid (∀ (n : Nat), Below base w ((w.drewN n).setCell ⟨b, 1, none⟩ (.int .i64 ((a : Int) + 1)))) := Lib.hid fun n => below_st (below_dr (Below.refl _ _)) hge
  have hyp2 := hyp.2
  have q104 : (((((⟨#[104, 118, 120, 108, 68, 111]⟩ : ByteArray)[0]'(by decide)).toNat : Nat) : Int) == (s[a].toNat : Int)) = false := by show ((104 : Int) == (s[a].toNat : Int)) = false; rw [beq_eq_false_iff_ne]; omega
  have q118 : (((((⟨#[104, 118, 120, 108, 68, 111]⟩ : ByteArray)[1]'(by decide)).toNat : Nat) : Int) == (s[a].toNat : Int)) = false := by show ((118 : Int) == (s[a].toNat : Int)) = false; rw [beq_eq_false_iff_ne]; omega
  have q120 : (((((⟨#[104, 118, 120, 108, 68, 111]⟩ : ByteArray)[2]'(by decide)).toNat : Nat) : Int) == (s[a].toNat : Int)) = false := by show ((120 : Int) == (s[a].toNat : Int)) = false; rw [beq_eq_false_iff_ne]; omega
  have q108 : (((((⟨#[104, 118, 120, 108, 68, 111]⟩ : ByteArray)[3]'(by decide)).toNat : Nat) : Int) == (s[a].toNat : Int)) = false := by show ((108 : Int) == (s[a].toNat : Int)) = false; rw [beq_eq_false_iff_ne]; omega
  have q68 : (((((⟨#[104, 118, 120, 108, 68, 111]⟩ : ByteArray)[4]'(by decide)).toNat : Nat) : Int) == (s[a].toNat : Int)) = false := by show ((68 : Int) == (s[a].toNat : Int)) = false; rw [beq_eq_false_iff_ne]; omega
  have q111 : (((((⟨#[104, 118, 120, 108, 68, 111]⟩ : ByteArray)[5]'(by decide)).toNat : Nat) : Int) == (s[a].toNat : Int)) = false := by show ((111 : Int) == (s[a].toNat : Int)) = false; rw [beq_eq_false_iff_ne]; omega
  have s34 : ((s[a].toNat : Int) == 34) = false := by rw [beq_eq_false_iff_ne]; omega
  have s123 : ((s[a].toNat : Int) == 123) = false := by rw [beq_eq_false_iff_ne]; omega
  have s125 : ((s[a].toNat : Int) == 125) = false := by rw [beq_eq_false_iff_ne]; omega
  have s33 : ((s[a].toNat : Int) == 33) = false := by rw [beq_eq_false_iff_ne]; omega
  have s40 : ((s[a].toNat : Int) == 40) = false := by rw [beq_eq_false_iff_ne]; omega
  have s91 : ((s[a].toNat : Int) == 91) = false := by rw [beq_eq_false_iff_ne]; omega
  have s102 : ((s[a].toNat : Int) == 102) = false := by rw [beq_eq_false_iff_ne]; omega
  have s115 : ((s[a].toNat : Int) == 115) = false := by rw [beq_eq_false_iff_ne]; omega
  have s107 : ((s[a].toNat : Int) == 107) = false := by rw [beq_eq_false_iff_ne]; omega
  have s109 : ((s[a].toNat : Int) == 109) = false := by rw [beq_eq_false_iff_ne]; omega
  have hsn := hyp.1
  clear hyp2
  rw [hk] at hsn ⊢
  have HN := Lib.hid (fun W => seen_calls s[a].toNat W)
  rw [hsn] at HN
  clear hsn
  clear hk hsim hfst hyp
  go_enter Try.func30, Try.ntmps30
  go_wp2
  go_quiet (fail)
  go_wp2_with (go_at_call 42; refine Calls.mono (HS.out _) ?_; rintro e w2 ⟨rfl, b2⟩; have h2 := (Go1.out _).below b2; have B2 := (Bel1.out _).trans (b2.mono (Go1.out _).top); clear b2 c0 c1 c2 c3 f1 f2 f3 hb; obtain ⟨c0, c1, c2, c3, f1, f2, f3, hb⟩ := h2.cells; have H2 := Lib.hid h2; have HB2 := Lib.hid B2; clear h2 B2)
  obtain ⟨g, hg⟩ : ∃ g, w2.heap.size = g := ⟨_, rfl⟩
  obtain ⟨W3, hW3⟩ : ∃ W, ((w2.alloc (.cells #[.int .i64 t.kind, .string t.text, .int .i64 t.n] 55)).alloc (.cells #[.int .i64 12, .int .i64 13, .int .i64 14, .int .i64 15, .int .i64 16, .int .i64 17] 3)) = W := ⟨_, rfl⟩
  have b3 : Below w2.heap.size w2 W3 := by rw [← hW3]; exact ((Below.refl _ _).alloc (Nat.le_refl _) _).alloc (by simp) _
  have H3 := Lib.hid (H2.out.below b3)
  have HB3 := Lib.hid (HB2.out.trans (b3.mono H2.out.top))
  have gb : g + 1 ≠ b := by have := H2.out.cells.2.2.2.2.2.2.2; omega
  have gne : some g ≠ v.ownBlock := fun e => by have := own_lt H2.out.own g e.symm; omega
  have kb : W3.heap[g]? = some (.cells #[.int .i64 t.kind, .string t.text, .int .i64 t.n] 55) := by rw [← hW3, ← hg]; exact (two_blk _ _ _).1
  have k0 : W3.cell? ⟨g, 0, none⟩ = some (.int .i64 t.kind) := by simp [World.cell?, kb]
  have k1 : W3.cell? ⟨g, 1, none⟩ = some (.string t.text) := by simp [World.cell?, kb]
  have k2 : W3.cell? ⟨g, 2, none⟩ = some (.int .i64 t.n) := by simp [World.cell?, kb]
  have zb : W3.heap[g + 1]? = some (.cells #[.int .i64 12, .int .i64 13, .int .i64 14, .int .i64 15, .int .i64 16, .int .i64 17] 3) := by rw [← hW3, ← hg]; exact (two_blk _ _ _).2
  have z0 : W3.cell? ⟨g + 1, 0, none⟩ = some (.int .i64 12) := by simp [World.cell?, zb]
  have z1 : W3.cell? ⟨g + 1, 1, none⟩ = some (.int .i64 13) := by simp [World.cell?, zb]
  have z2 : W3.cell? ⟨g + 1, 2, none⟩ = some (.int .i64 14) := by simp [World.cell?, zb]
  have z3 : W3.cell? ⟨g + 1, 3, none⟩ = some (.int .i64 15) := by simp [World.cell?, zb]
  have z4 : W3.cell? ⟨g + 1, 4, none⟩ = some (.int .i64 16) := by simp [World.cell?, zb]
  have z5 : W3.cell? ⟨g + 1, 5, none⟩ = some (.int .i64 17) := by simp [World.cell?, zb]
  have gl : g + 1 < W3.heap.size := by rw [← hW3, ← hg]; simp
  clear c0 c1 c2 c3 f1 f2 f3 hb
  rw [hW3, hg]
  clear hW3 hg H2 HB2 b3
  obtain ⟨c0, c1, c2, c3, f1, f2, f3, hb⟩ := H3.out.cells
  have hcv : ∀ n, (Go.convert 30 9 (.slice (some ⟨W3.heap.size, 0, none⟩) 1 1)).run Try.prog ((W3.drewN n).alloc (.cells #[.int .u8 s[a].toNat] 5)) = .ok (.string (oneS s[a].toNat)) ((W3.drewN n).alloc (.cells #[.int .u8 s[a].toNat] 5)) := fun n => conv_one _ _ _ (by simp)
  have HA : Hid (∀ n, RR ((W3.drewN n).alloc (.cells #[.int .u8 s[a].toNat] 5)) b base v s (a + 1) l false) := Lib.hid fun n => (H3.out.drewN n).below ((Below.refl _ _).alloc (Nat.le_refl _) _)
  have HBA : Hid (∀ n, Below base w ((W3.drewN n).alloc (.cells #[.int .u8 s[a].toNat] 5))) := Lib.hid fun n => (below_dr HB3.out).alloc H3.out.top _
  go_loopw [8] (fun i wr => wr = W3 ∧ (i = .int .i64 0 ∨ i = .int .i64 1 ∨ i = .int .i64 2 ∨ i = .int .i64 3 ∨ i = .int .i64 4 ∨ i = .int .i64 5 ∨ i = .int .i64 6)) (fun i _ => 7 - (RowKit.intOf i).toNat)
  case atStart => exact ⟨rfl, .inl rfl⟩
  case round =>
    rcases hrel with ⟨rfl, rfl | rfl | rfl | rfl | rfl | rfl | rfl⟩
    · go_wp2
      go_roundw
      case rel => simp
      case measure => simp [RowKit.intOf]
    · go_wp2
      go_roundw
      case rel => simp
      case measure => simp [RowKit.intOf]
    · go_wp2
      go_roundw
      case rel => simp
      case measure => simp [RowKit.intOf]
    · go_wp2
      go_roundw
      case rel => simp
      case measure => simp [RowKit.intOf]
    · go_wp2
      go_roundw
      case rel => simp
      case measure => simp [RowKit.intOf]
    · go_wp2
      go_roundw
      case rel => simp
      case measure => simp [RowKit.intOf]
    · go_wp2_with (first | (go_at_call 32; refine Calls.mono (HN.out _) ?_; rintro e w' ⟨rfl, n, rfl⟩) | (go_at_call 31; refine Calls.mono (put_calls _ b base v s (a + 1) l false 0 _ 0 (HA.out _) (by omega)) ?_; rintro e w6 ⟨rfl, ⟨v6, h6⟩, b6⟩; have H6 := Lib.hid h6; have HB6 := Lib.hid ((HBA.out _).trans b6); clear h6 b6))
      go_end0
      exact ⟨rfl, ⟨v6, H6.out⟩, HB6.out⟩

set_option maxRecDepth 100000 in
set_option maxHeartbeats 4000000 in
theorem re_size (w : World) (b base : Nat) (v : Value) (s : ByteArray) (a : Nat) (l : List Tok) (h : RR w b base v s a l false) (hs : s.size ≤ 1000000) (hl : l.length ≤ 900000) (ha : a < s.size) (t : Tok) (hsim : simR (pk s a) = (t, false)) (fst : Bool) (hfst : decide (a = 1) = fst) (hyp : pk s a = 115) :
    Calls Try.prog 30 #[.pointer (some ⟨b, 0, none⟩)] w (EscR b base s l w (sizeE (sizeM s (a + 1)))) := by
  obtain ⟨c0, c1, c2, c3, f1, f2, f3, hb⟩ := h.cells
  have hge := h.ge
  have HH := Lib.hid h
  clear h
  have hk := pk_get s a ha
  have hi : (a : Int) < s.size := by omega
  have hw : IntKind.i64.wrap ((a : Int) + 1) = (a : Int) + 1 := IntWalk.i64_in _ (by omega)
  have e1 : ((a : Int) == 1) = fst := by rw [← hfst]; by_cases q : a = 1 <;> simp [q]; omega
  have e1' : (a == 1) = fst := by rw [← hfst]; by_cases q : a = 1 <;> simp [q]
  rw [hk] at hsim
  have HS := Lib.hid (fun W => rsimple_calls _ W t false hsim)
  have Go1 : Hid (∀ (n : Nat), RR ((w.drewN n).setCell ⟨b, 1, none⟩ (.int .i64 ((a : Int) + 1))) b base v s (a + 1) l false) := Lib.hid fun n => (HH.out.drewN n).set1 _ (by omega)
  have Bel1 : Hid (∀ (n : Nat), Below base w ((w.drewN n).setCell ⟨b, 1, none⟩ (.int .i64 ((a : Int) + 1)))) := Lib.hid fun n => below_st (below_dr (Below.refl _ _)) hge
  have q104 : (((((⟨#[104, 118, 120, 108, 68, 111]⟩ : ByteArray)[0]'(by decide)).toNat : Nat) : Int) == (s[a].toNat : Int)) = false := by show ((104 : Int) == (s[a].toNat : Int)) = false; rw [beq_eq_false_iff_ne]; omega
  have q118 : (((((⟨#[104, 118, 120, 108, 68, 111]⟩ : ByteArray)[1]'(by decide)).toNat : Nat) : Int) == (s[a].toNat : Int)) = false := by show ((118 : Int) == (s[a].toNat : Int)) = false; rw [beq_eq_false_iff_ne]; omega
  have q120 : (((((⟨#[104, 118, 120, 108, 68, 111]⟩ : ByteArray)[2]'(by decide)).toNat : Nat) : Int) == (s[a].toNat : Int)) = false := by show ((120 : Int) == (s[a].toNat : Int)) = false; rw [beq_eq_false_iff_ne]; omega
  have q108 : (((((⟨#[104, 118, 120, 108, 68, 111]⟩ : ByteArray)[3]'(by decide)).toNat : Nat) : Int) == (s[a].toNat : Int)) = false := by show ((108 : Int) == (s[a].toNat : Int)) = false; rw [beq_eq_false_iff_ne]; omega
  have q68 : (((((⟨#[104, 118, 120, 108, 68, 111]⟩ : ByteArray)[4]'(by decide)).toNat : Nat) : Int) == (s[a].toNat : Int)) = false := by show ((68 : Int) == (s[a].toNat : Int)) = false; rw [beq_eq_false_iff_ne]; omega
  have q111 : (((((⟨#[104, 118, 120, 108, 68, 111]⟩ : ByteArray)[5]'(by decide)).toNat : Nat) : Int) == (s[a].toNat : Int)) = false := by show ((111 : Int) == (s[a].toNat : Int)) = false; rw [beq_eq_false_iff_ne]; omega
  have s34 : ((s[a].toNat : Int) == 34) = false := by rw [beq_eq_false_iff_ne]; omega
  have s123 : ((s[a].toNat : Int) == 123) = false := by rw [beq_eq_false_iff_ne]; omega
  have s125 : ((s[a].toNat : Int) == 125) = false := by rw [beq_eq_false_iff_ne]; omega
  have s33 : ((s[a].toNat : Int) == 33) = false := by rw [beq_eq_false_iff_ne]; omega
  have s40 : ((s[a].toNat : Int) == 40) = false := by rw [beq_eq_false_iff_ne]; omega
  have s91 : ((s[a].toNat : Int) == 91) = false := by rw [beq_eq_false_iff_ne]; omega
  have s102 : ((s[a].toNat : Int) == 102) = false := by rw [beq_eq_false_iff_ne]; omega
  have s115 : ((s[a].toNat : Int) == 115) = true := by rw [beq_iff_eq]; omega
  obtain ⟨O, hO⟩ : ∃ O, sizeM s (a + 1) = O := ⟨_, rfl⟩
  rw [hO]
  have HO := Lib.hid hO
  clear hO
  clear hk hsim hfst hyp
  go_enter Try.func30, Try.ntmps30
  go_wp2
  go_quiet (fail)
  go_wp2_with (go_at_call 42; refine Calls.mono (HS.out _) ?_; rintro e w2 ⟨rfl, b2⟩; have h2 := (Go1.out _).below b2; have B2 := (Bel1.out _).trans (b2.mono (Go1.out _).top); clear b2 c0 c1 c2 c3 f1 f2 f3 hb; obtain ⟨c0, c1, c2, c3, f1, f2, f3, hb⟩ := h2.cells; have H2 := Lib.hid h2; have HB2 := Lib.hid B2; clear h2 B2)
  obtain ⟨g, hg⟩ : ∃ g, w2.heap.size = g := ⟨_, rfl⟩
  obtain ⟨W3, hW3⟩ : ∃ W, ((w2.alloc (.cells #[.int .i64 t.kind, .string t.text, .int .i64 t.n] 55)).alloc (.cells #[.int .i64 12, .int .i64 13, .int .i64 14, .int .i64 15, .int .i64 16, .int .i64 17] 3)) = W := ⟨_, rfl⟩
  have b3 : Below w2.heap.size w2 W3 := by rw [← hW3]; exact ((Below.refl _ _).alloc (Nat.le_refl _) _).alloc (by simp) _
  have H3 := Lib.hid (H2.out.below b3)
  have HB3 := Lib.hid (HB2.out.trans (b3.mono H2.out.top))
  have gb : g + 1 ≠ b := by have := H2.out.cells.2.2.2.2.2.2.2; omega
  have gne : some g ≠ v.ownBlock := fun e => by have := own_lt H2.out.own g e.symm; omega
  have kb : W3.heap[g]? = some (.cells #[.int .i64 t.kind, .string t.text, .int .i64 t.n] 55) := by rw [← hW3, ← hg]; exact (two_blk _ _ _).1
  have k0 : W3.cell? ⟨g, 0, none⟩ = some (.int .i64 t.kind) := by simp [World.cell?, kb]
  have k1 : W3.cell? ⟨g, 1, none⟩ = some (.string t.text) := by simp [World.cell?, kb]
  have k2 : W3.cell? ⟨g, 2, none⟩ = some (.int .i64 t.n) := by simp [World.cell?, kb]
  have zb : W3.heap[g + 1]? = some (.cells #[.int .i64 12, .int .i64 13, .int .i64 14, .int .i64 15, .int .i64 16, .int .i64 17] 3) := by rw [← hW3, ← hg]; exact (two_blk _ _ _).2
  have z0 : W3.cell? ⟨g + 1, 0, none⟩ = some (.int .i64 12) := by simp [World.cell?, zb]
  have z1 : W3.cell? ⟨g + 1, 1, none⟩ = some (.int .i64 13) := by simp [World.cell?, zb]
  have z2 : W3.cell? ⟨g + 1, 2, none⟩ = some (.int .i64 14) := by simp [World.cell?, zb]
  have z3 : W3.cell? ⟨g + 1, 3, none⟩ = some (.int .i64 15) := by simp [World.cell?, zb]
  have z4 : W3.cell? ⟨g + 1, 4, none⟩ = some (.int .i64 16) := by simp [World.cell?, zb]
  have z5 : W3.cell? ⟨g + 1, 5, none⟩ = some (.int .i64 17) := by simp [World.cell?, zb]
  have gl : g + 1 < W3.heap.size := by rw [← hW3, ← hg]; simp
  clear c0 c1 c2 c3 f1 f2 f3 hb
  rw [hW3, hg]
  clear hW3 hg H2 HB2 b3
  obtain ⟨c0, c1, c2, c3, f1, f2, f3, hb⟩ := H3.out.cells
  have HC := rsize_calls W3 b base v s (a + 1) l H3.out hs (by omega) (by omega)
  rw [HO.out] at HC
  have HHC := Lib.hid HC
  clear HC HO
  go_loopw [8] (fun i wr => wr = W3 ∧ (i = .int .i64 0 ∨ i = .int .i64 1 ∨ i = .int .i64 2 ∨ i = .int .i64 3 ∨ i = .int .i64 4 ∨ i = .int .i64 5 ∨ i = .int .i64 6)) (fun i _ => 7 - (RowKit.intOf i).toNat)
  case atStart => exact ⟨rfl, .inl rfl⟩
  case round =>
    rcases hrel with ⟨rfl, rfl | rfl | rfl | rfl | rfl | rfl | rfl⟩
    · go_wp2
      go_roundw
      case rel => simp
      case measure => simp [RowKit.intOf]
    · go_wp2
      go_roundw
      case rel => simp
      case measure => simp [RowKit.intOf]
    · go_wp2
      go_roundw
      case rel => simp
      case measure => simp [RowKit.intOf]
    · go_wp2
      go_roundw
      case rel => simp
      case measure => simp [RowKit.intOf]
    · go_wp2
      go_roundw
      case rel => simp
      case measure => simp [RowKit.intOf]
    · go_wp2
      go_roundw
      case rel => simp
      case measure => simp [RowKit.intOf]
    · go_wp2_with fail
      refine Calls.mono HHC.out ?_
      rcases O with _ | ⟨t', n', a'⟩
      · rintro e w5 ⟨rfl, ⟨v5, a5, l5, h5⟩, b5⟩
        have HB5 := Lib.hid b5
        clear b5
        go_wp2
        go_end0
        exact ⟨rfl, ⟨v5, a5, l5, h5⟩, HB3.out.trans HB5.out⟩
      · rintro e w5 ⟨rfl, ⟨v5, h5⟩, b5⟩
        have HB5 := Lib.hid b5
        clear b5
        go_wp2
        go_end0
        exact ⟨rfl, ⟨v5, h5⟩, HB3.out.trans HB5.out⟩

end Go.Proofs.Ytaokofnhkojllaa

set_option linter.unusedVariables false
set_option linter.unusedSimpArgs false
namespace Go.Proofs.Ytaokofnhkojllaa
open Go.Shelf Go.RowKit Go.Lib Go.Aids Go.MapLit Go.Proofs.YtaokofnhkojllaaW.PrintWords
set_option maxRecDepth 100000 in
set_option maxHeartbeats 4000000 in
theorem re_two (w : World) (b base : Nat) (v : Value) (s : ByteArray) (a : Nat) (l : List Tok) (h : RR w b base v s a l false) (hs : s.size ≤ 1000000) (hl : l.length ≤ 900000) (ha : a < s.size) (t : Tok) (hsim : simR (pk s a) = (t, false)) (fst : Bool) (hfst : decide (a = 1) = fst) (hyp : pk s a = 40) :
    Calls Try.prog 30 #[.pointer (some ⟨b, 0, none⟩)] w (EscR b base s l w (namedE 0 (twoM s (a + 1)))) := by
  obtain ⟨c0, c1, c2, c3, f1, f2, f3, hb⟩ := h.cells
  have hge := h.ge
  have HH := Lib.hid h
  clear h
  have hk := pk_get s a ha
  have hi : (a : Int) < s.size := by omega
  have hw : IntKind.i64.wrap ((a : Int) + 1) = (a : Int) + 1 := IntWalk.i64_in _ (by omega)
  have e1 : ((a : Int) == 1) = fst := by rw [← hfst]; by_cases q : a = 1 <;> simp [q]; omega
  have e1' : (a == 1) = fst := by rw [← hfst]; by_cases q : a = 1 <;> simp [q]
  rw [hk] at hsim
  have HS := Lib.hid (fun W => rsimple_calls _ W t false hsim)
  have Go1 : Hid (∀ (n : Nat), RR ((w.drewN n).setCell ⟨b, 1, none⟩ (.int .i64 ((a : Int) + 1))) b base v s (a + 1) l false) := Lib.hid fun n => (HH.out.drewN n).set1 _ (by omega)
  have Bel1 : Hid (∀ (n : Nat), Below base w ((w.drewN n).setCell ⟨b, 1, none⟩ (.int .i64 ((a : Int) + 1)))) := Lib.hid fun n => below_st (below_dr (Below.refl _ _)) hge
  have q104 : (((((⟨#[104, 118, 120, 108, 68, 111]⟩ : ByteArray)[0]'(by decide)).toNat : Nat) : Int) == (s[a].toNat : Int)) = false := by show ((104 : Int) == (s[a].toNat : Int)) = false; rw [beq_eq_false_iff_ne]; omega
  have q118 : (((((⟨#[104, 118, 120, 108, 68, 111]⟩ : ByteArray)[1]'(by decide)).toNat : Nat) : Int) == (s[a].toNat : Int)) = false := by show ((118 : Int) == (s[a].toNat : Int)) = false; rw [beq_eq_false_iff_ne]; omega
  have q120 : (((((⟨#[104, 118, 120, 108, 68, 111]⟩ : ByteArray)[2]'(by decide)).toNat : Nat) : Int) == (s[a].toNat : Int)) = false := by show ((120 : Int) == (s[a].toNat : Int)) = false; rw [beq_eq_false_iff_ne]; omega
  have q108 : (((((⟨#[104, 118, 120, 108, 68, 111]⟩ : ByteArray)[3]'(by decide)).toNat : Nat) : Int) == (s[a].toNat : Int)) = false := by show ((108 : Int) == (s[a].toNat : Int)) = false; rw [beq_eq_false_iff_ne]; omega
  have q68 : (((((⟨#[104, 118, 120, 108, 68, 111]⟩ : ByteArray)[4]'(by decide)).toNat : Nat) : Int) == (s[a].toNat : Int)) = false := by show ((68 : Int) == (s[a].toNat : Int)) = false; rw [beq_eq_false_iff_ne]; omega
  have q111 : (((((⟨#[104, 118, 120, 108, 68, 111]⟩ : ByteArray)[5]'(by decide)).toNat : Nat) : Int) == (s[a].toNat : Int)) = false := by show ((111 : Int) == (s[a].toNat : Int)) = false; rw [beq_eq_false_iff_ne]; omega
  have s34 : ((s[a].toNat : Int) == 34) = false := by rw [beq_eq_false_iff_ne]; omega
  have s123 : ((s[a].toNat : Int) == 123) = false := by rw [beq_eq_false_iff_ne]; omega
  have s125 : ((s[a].toNat : Int) == 125) = false := by rw [beq_eq_false_iff_ne]; omega
  have s33 : ((s[a].toNat : Int) == 33) = false := by rw [beq_eq_false_iff_ne]; omega
  have s40 : ((s[a].toNat : Int) == 40) = true := by rw [beq_iff_eq]; omega
  obtain ⟨O, hO⟩ : ∃ O, twoM s (a + 1) = O := ⟨_, rfl⟩
  rw [hO]
  have HO := Lib.hid hO
  clear hO
  clear hk hsim hfst hyp
  go_enter Try.func30, Try.ntmps30
  go_wp2
  go_quiet (fail)
  go_wp2_with (go_at_call 42; refine Calls.mono (HS.out _) ?_; rintro e w2 ⟨rfl, b2⟩; have h2 := (Go1.out _).below b2; have B2 := (Bel1.out _).trans (b2.mono (Go1.out _).top); clear b2 c0 c1 c2 c3 f1 f2 f3 hb; obtain ⟨c0, c1, c2, c3, f1, f2, f3, hb⟩ := h2.cells; have H2 := Lib.hid h2; have HB2 := Lib.hid B2; clear h2 B2)
  obtain ⟨g, hg⟩ : ∃ g, w2.heap.size = g := ⟨_, rfl⟩
  obtain ⟨W3, hW3⟩ : ∃ W, ((w2.alloc (.cells #[.int .i64 t.kind, .string t.text, .int .i64 t.n] 55)).alloc (.cells #[.int .i64 12, .int .i64 13, .int .i64 14, .int .i64 15, .int .i64 16, .int .i64 17] 3)) = W := ⟨_, rfl⟩
  have b3 : Below w2.heap.size w2 W3 := by rw [← hW3]; exact ((Below.refl _ _).alloc (Nat.le_refl _) _).alloc (by simp) _
  have H3 := Lib.hid (H2.out.below b3)
  have HB3 := Lib.hid (HB2.out.trans (b3.mono H2.out.top))
  have gb : g + 1 ≠ b := by have := H2.out.cells.2.2.2.2.2.2.2; omega
  have gne : some g ≠ v.ownBlock := fun e => by have := own_lt H2.out.own g e.symm; omega
  have kb : W3.heap[g]? = some (.cells #[.int .i64 t.kind, .string t.text, .int .i64 t.n] 55) := by rw [← hW3, ← hg]; exact (two_blk _ _ _).1
  have k0 : W3.cell? ⟨g, 0, none⟩ = some (.int .i64 t.kind) := by simp [World.cell?, kb]
  have k1 : W3.cell? ⟨g, 1, none⟩ = some (.string t.text) := by simp [World.cell?, kb]
  have k2 : W3.cell? ⟨g, 2, none⟩ = some (.int .i64 t.n) := by simp [World.cell?, kb]
  have zb : W3.heap[g + 1]? = some (.cells #[.int .i64 12, .int .i64 13, .int .i64 14, .int .i64 15, .int .i64 16, .int .i64 17] 3) := by rw [← hW3, ← hg]; exact (two_blk _ _ _).2
  have z0 : W3.cell? ⟨g + 1, 0, none⟩ = some (.int .i64 12) := by simp [World.cell?, zb]
  have z1 : W3.cell? ⟨g + 1, 1, none⟩ = some (.int .i64 13) := by simp [World.cell?, zb]
  have z2 : W3.cell? ⟨g + 1, 2, none⟩ = some (.int .i64 14) := by simp [World.cell?, zb]
  have z3 : W3.cell? ⟨g + 1, 3, none⟩ = some (.int .i64 15) := by simp [World.cell?, zb]
  have z4 : W3.cell? ⟨g + 1, 4, none⟩ = some (.int .i64 16) := by simp [World.cell?, zb]
  have z5 : W3.cell? ⟨g + 1, 5, none⟩ = some (.int .i64 17) := by simp [World.cell?, zb]
  have gl : g + 1 < W3.heap.size := by rw [← hW3, ← hg]; simp
  clear c0 c1 c2 c3 f1 f2 f3 hb
  rw [hW3, hg]
  clear hW3 hg H2 HB2 b3
  obtain ⟨c0, c1, c2, c3, f1, f2, f3, hb⟩ := H3.out.cells
  have HC := rtwo_calls W3 b base v s (a + 1) l H3.out hs (by omega)
  rw [HO.out] at HC
  have HHC := Lib.hid HC
  clear HC HO
  go_loopw [8] (fun i wr => wr = W3 ∧ (i = .int .i64 0 ∨ i = .int .i64 1 ∨ i = .int .i64 2 ∨ i = .int .i64 3 ∨ i = .int .i64 4 ∨ i = .int .i64 5 ∨ i = .int .i64 6)) (fun i _ => 7 - (RowKit.intOf i).toNat)
  case atStart => exact ⟨rfl, .inl rfl⟩
  case round =>
    rcases hrel with ⟨rfl, rfl | rfl | rfl | rfl | rfl | rfl | rfl⟩
    · go_wp2
      go_roundw
      case rel => simp
      case measure => simp [RowKit.intOf]
    · go_wp2
      go_roundw
      case rel => simp
      case measure => simp [RowKit.intOf]
    · go_wp2
      go_roundw
      case rel => simp
      case measure => simp [RowKit.intOf]
    · go_wp2
      go_roundw
      case rel => simp
      case measure => simp [RowKit.intOf]
    · go_wp2
      go_roundw
      case rel => simp
      case measure => simp [RowKit.intOf]
    · go_wp2
      go_roundw
      case rel => simp
      case measure => simp [RowKit.intOf]
    · go_wp2_with fail
      refine Calls.mono HHC.out ?_
      rcases O with _ | ⟨t', a'⟩
      · rintro e w5 ⟨rfl, ⟨v5, a5, h5⟩, b5⟩
        have HB5 := Lib.hid b5
        clear b5
        go_wp2_with (go_at_call 31; refine Calls.mono (put_calls _ b base v5 s a5 l true 0 _ 0 h5 (by omega)) ?_; rintro e w6 ⟨rfl, ⟨v6, h6⟩, b6⟩; have H6 := Lib.hid h6; have HB6 := Lib.hid b6; clear h6 b6)
        go_end0
        exact ⟨rfl, ⟨v6, a5, _, H6.out⟩, HB3.out.trans (HB5.out.trans HB6.out)⟩
      · rintro e w5 ⟨rfl, ⟨v5, h5⟩, b5⟩
        have HB5 := Lib.hid b5
        clear b5
        go_wp2_with (go_at_call 31; refine Calls.mono (put_calls _ b base v5 s a' l false 0 _ 0 h5 (by omega)) ?_; rintro e w6 ⟨rfl, ⟨v6, h6⟩, b6⟩; have H6 := Lib.hid h6; have HB6 := Lib.hid b6; clear h6 b6)
        go_end0
        exact ⟨rfl, ⟨v6, H6.out⟩, HB3.out.trans (HB5.out.trans HB6.out)⟩

set_option maxRecDepth 100000 in
set_option maxHeartbeats 4000000 in
theorem re_bracket (w : World) (b base : Nat) (v : Value) (s : ByteArray) (a : Nat) (l : List Tok) (h : RR w b base v s a l false) (hs : s.size ≤ 1000000) (hl : l.length ≤ 900000) (ha : a < s.size) (t : Tok) (hsim : simR (pk s a) = (t, false)) (fst : Bool) (hfst : decide (a = 1) = fst) (hyp : pk s a = 91) :
    Calls Try.prog 30 #[.pointer (some ⟨b, 0, none⟩)] w (EscR b base s l w (namedE 0 (bracketM 1 10 s (a + 1)))) := by
  obtain ⟨c0, c1, c2, c3, f1, f2, f3, hb⟩ := h.cells
  have hge := h.ge
  have HH := Lib.hid h
  clear h
  have hk := pk_get s a ha
  have hi : (a : Int) < s.size := by omega
  have hw : IntKind.i64.wrap ((a : Int) + 1) = (a : Int) + 1 := IntWalk.i64_in _ (by omega)
  have e1 : ((a : Int) == 1) = fst := by rw [← hfst]; by_cases q : a = 1 <;> simp [q]; omega
  have e1' : (a == 1) = fst := by rw [← hfst]; by_cases q : a = 1 <;> simp [q]
  rw [hk] at hsim
  have HS := Lib.hid (fun W => rsimple_calls _ W t false hsim)
  have Go1 : Hid (∀ (n : Nat), RR ((w.drewN n).setCell ⟨b, 1, none⟩ (.int .i64 ((a : Int) + 1))) b base v s (a + 1) l false) := Lib.hid fun n => (HH.out.drewN n).set1 _ (by omega)
  have Bel1 : Hid (∀ (n : Nat), Below base w ((w.drewN n).setCell ⟨b, 1, none⟩ (.int .i64 ((a : Int) + 1)))) := Lib.hid fun n => below_st (below_dr (Below.refl _ _)) hge
  have q104 : (((((⟨#[104, 118, 120, 108, 68, 111]⟩ : ByteArray)[0]'(by decide)).toNat : Nat) : Int) == (s[a].toNat : Int)) = false := by show ((104 : Int) == (s[a].toNat : Int)) = false; rw [beq_eq_false_iff_ne]; omega
  have q118 : (((((⟨#[104, 118, 120, 108, 68, 111]⟩ : ByteArray)[1]'(by decide)).toNat : Nat) : Int) == (s[a].toNat : Int)) = false := by show ((118 : Int) == (s[a].toNat : Int)) = false; rw [beq_eq_false_iff_ne]; omega
  have q120 : (((((⟨#[104, 118, 120, 108, 68, 111]⟩ : ByteArray)[2]'(by decide)).toNat : Nat) : Int) == (s[a].toNat : Int)) = false := by show ((120 : Int) == (s[a].toNat : Int)) = false; rw [beq_eq_false_iff_ne]; omega
  have q108 : (((((⟨#[104, 118, 120, 108, 68, 111]⟩ : ByteArray)[3]'(by decide)).toNat : Nat) : Int) == (s[a].toNat : Int)) = false := by show ((108 : Int) == (s[a].toNat : Int)) = false; rw [beq_eq_false_iff_ne]; omega
  have q68 : (((((⟨#[104, 118, 120, 108, 68, 111]⟩ : ByteArray)[4]'(by decide)).toNat : Nat) : Int) == (s[a].toNat : Int)) = false := by show ((68 : Int) == (s[a].toNat : Int)) = false; rw [beq_eq_false_iff_ne]; omega
  have q111 : (((((⟨#[104, 118, 120, 108, 68, 111]⟩ : ByteArray)[5]'(by decide)).toNat : Nat) : Int) == (s[a].toNat : Int)) = false := by show ((111 : Int) == (s[a].toNat : Int)) = false; rw [beq_eq_false_iff_ne]; omega
  have s34 : ((s[a].toNat : Int) == 34) = false := by rw [beq_eq_false_iff_ne]; omega
  have s123 : ((s[a].toNat : Int) == 123) = false := by rw [beq_eq_false_iff_ne]; omega
  have s125 : ((s[a].toNat : Int) == 125) = false := by rw [beq_eq_false_iff_ne]; omega
  have s33 : ((s[a].toNat : Int) == 33) = false := by rw [beq_eq_false_iff_ne]; omega
  have s40 : ((s[a].toNat : Int) == 40) = false := by rw [beq_eq_false_iff_ne]; omega
  have s91 : ((s[a].toNat : Int) == 91) = true := by rw [beq_iff_eq]; omega
  obtain ⟨O, hO⟩ : ∃ O, bracketM 1 10 s (a + 1) = O := ⟨_, rfl⟩
  rw [hO]
  have HO := Lib.hid hO
  clear hO
  clear hk hsim hfst hyp
  go_enter Try.func30, Try.ntmps30
  go_wp2
  go_quiet (fail)
  go_wp2_with (go_at_call 42; refine Calls.mono (HS.out _) ?_; rintro e w2 ⟨rfl, b2⟩; have h2 := (Go1.out _).below b2; have B2 := (Bel1.out _).trans (b2.mono (Go1.out _).top); clear b2 c0 c1 c2 c3 f1 f2 f3 hb; obtain ⟨c0, c1, c2, c3, f1, f2, f3, hb⟩ := h2.cells; have H2 := Lib.hid h2; have HB2 := Lib.hid B2; clear h2 B2)
  obtain ⟨g, hg⟩ : ∃ g, w2.heap.size = g := ⟨_, rfl⟩
  obtain ⟨W3, hW3⟩ : ∃ W, ((w2.alloc (.cells #[.int .i64 t.kind, .string t.text, .int .i64 t.n] 55)).alloc (.cells #[.int .i64 12, .int .i64 13, .int .i64 14, .int .i64 15, .int .i64 16, .int .i64 17] 3)) = W := ⟨_, rfl⟩
  have b3 : Below w2.heap.size w2 W3 := by rw [← hW3]; exact ((Below.refl _ _).alloc (Nat.le_refl _) _).alloc (by simp) _
  have H3 := Lib.hid (H2.out.below b3)
  have HB3 := Lib.hid (HB2.out.trans (b3.mono H2.out.top))
  have gb : g + 1 ≠ b := by have := H2.out.cells.2.2.2.2.2.2.2; omega
  have gne : some g ≠ v.ownBlock := fun e => by have := own_lt H2.out.own g e.symm; omega
  have kb : W3.heap[g]? = some (.cells #[.int .i64 t.kind, .string t.text, .int .i64 t.n] 55) := by rw [← hW3, ← hg]; exact (two_blk _ _ _).1
  have k0 : W3.cell? ⟨g, 0, none⟩ = some (.int .i64 t.kind) := by simp [World.cell?, kb]
  have k1 : W3.cell? ⟨g, 1, none⟩ = some (.string t.text) := by simp [World.cell?, kb]
  have k2 : W3.cell? ⟨g, 2, none⟩ = some (.int .i64 t.n) := by simp [World.cell?, kb]
  have zb : W3.heap[g + 1]? = some (.cells #[.int .i64 12, .int .i64 13, .int .i64 14, .int .i64 15, .int .i64 16, .int .i64 17] 3) := by rw [← hW3, ← hg]; exact (two_blk _ _ _).2
  have z0 : W3.cell? ⟨g + 1, 0, none⟩ = some (.int .i64 12) := by simp [World.cell?, zb]
  have z1 : W3.cell? ⟨g + 1, 1, none⟩ = some (.int .i64 13) := by simp [World.cell?, zb]
  have z2 : W3.cell? ⟨g + 1, 2, none⟩ = some (.int .i64 14) := by simp [World.cell?, zb]
  have z3 : W3.cell? ⟨g + 1, 3, none⟩ = some (.int .i64 15) := by simp [World.cell?, zb]
  have z4 : W3.cell? ⟨g + 1, 4, none⟩ = some (.int .i64 16) := by simp [World.cell?, zb]
  have z5 : W3.cell? ⟨g + 1, 5, none⟩ = some (.int .i64 17) := by simp [World.cell?, zb]
  have gl : g + 1 < W3.heap.size := by rw [← hW3, ← hg]; simp
  clear c0 c1 c2 c3 f1 f2 f3 hb
  rw [hW3, hg]
  clear hW3 hg H2 HB2 b3
  obtain ⟨c0, c1, c2, c3, f1, f2, f3, hb⟩ := H3.out.cells
  have HC := rbracket_calls W3 b base v s (a + 1) l 1 10 H3.out hs (by omega) (by omega) (by decide)
  rw [HO.out] at HC
  have HHC := Lib.hid HC
  clear HC HO
  go_loopw [8] (fun i wr => wr = W3 ∧ (i = .int .i64 0 ∨ i = .int .i64 1 ∨ i = .int .i64 2 ∨ i = .int .i64 3 ∨ i = .int .i64 4 ∨ i = .int .i64 5 ∨ i = .int .i64 6)) (fun i _ => 7 - (RowKit.intOf i).toNat)
  case atStart => exact ⟨rfl, .inl rfl⟩
  case round =>
    rcases hrel with ⟨rfl, rfl | rfl | rfl | rfl | rfl | rfl | rfl⟩
    · go_wp2
      go_roundw
      case rel => simp
      case measure => simp [RowKit.intOf]
    · go_wp2
      go_roundw
      case rel => simp
      case measure => simp [RowKit.intOf]
    · go_wp2
      go_roundw
      case rel => simp
      case measure => simp [RowKit.intOf]
    · go_wp2
      go_roundw
      case rel => simp
      case measure => simp [RowKit.intOf]
    · go_wp2
      go_roundw
      case rel => simp
      case measure => simp [RowKit.intOf]
    · go_wp2
      go_roundw
      case rel => simp
      case measure => simp [RowKit.intOf]
    · go_wp2_with fail
      refine Calls.mono HHC.out ?_
      rcases O with _ | ⟨t', a'⟩
      · rintro e w5 ⟨rfl, ⟨v5, a5, h5⟩, b5⟩
        have HB5 := Lib.hid b5
        clear b5
        go_wp2_with (go_at_call 31; refine Calls.mono (put_calls _ b base v5 s a5 l true 0 _ 0 h5 (by omega)) ?_; rintro e w6 ⟨rfl, ⟨v6, h6⟩, b6⟩; have H6 := Lib.hid h6; have HB6 := Lib.hid b6; clear h6 b6)
        go_end0
        exact ⟨rfl, ⟨v6, a5, _, H6.out⟩, HB3.out.trans (HB5.out.trans HB6.out)⟩
      · rintro e w5 ⟨rfl, ⟨v5, h5⟩, b5⟩
        have HB5 := Lib.hid b5
        clear b5
        go_wp2_with (go_at_call 31; refine Calls.mono (put_calls _ b base v5 s a' l false 0 _ 0 h5 (by omega)) ?_; rintro e w6 ⟨rfl, ⟨v6, h6⟩, b6⟩; have H6 := Lib.hid h6; have HB6 := Lib.hid b6; clear h6 b6)
        go_end0
        exact ⟨rfl, ⟨v6, H6.out⟩, HB3.out.trans (HB5.out.trans HB6.out)⟩

set_option maxRecDepth 100000 in
set_option maxHeartbeats 4000000 in
theorem re_f (w : World) (b base : Nat) (v : Value) (s : ByteArray) (a : Nat) (l : List Tok) (h : RR w b base v s a l false) (hs : s.size ≤ 1000000) (hl : l.length ≤ 900000) (ha : a < s.size) (t : Tok) (hsim : simR (pk s a) = (t, false)) (fst : Bool) (hfst : decide (a = 1) = fst) (hyp : pk s a = 102) :
    Calls Try.prog 30 #[.pointer (some ⟨b, 0, none⟩)] w (EscR b base s l w (namedE 10 (nameM 1 20 s (a + 1)))) := by
  obtain ⟨c0, c1, c2, c3, f1, f2, f3, hb⟩ := h.cells
  have hge := h.ge
  have HH := Lib.hid h
  clear h
  have hk := pk_get s a ha
  have hi : (a : Int) < s.size := by omega
  have hw : IntKind.i64.wrap ((a : Int) + 1) = (a : Int) + 1 := IntWalk.i64_in _ (by omega)
  have e1 : ((a : Int) == 1) = fst := by rw [← hfst]; by_cases q : a = 1 <;> simp [q]; omega
  have e1' : (a == 1) = fst := by rw [← hfst]; by_cases q : a = 1 <;> simp [q]
  rw [hk] at hsim
  have HS := Lib.hid (fun W => rsimple_calls _ W t false hsim)
  have Go1 : Hid (∀ (n : Nat), RR ((w.drewN n).setCell ⟨b, 1, none⟩ (.int .i64 ((a : Int) + 1))) b base v s (a + 1) l false) := Lib.hid fun n => (HH.out.drewN n).set1 _ (by omega)
  have Bel1 : Hid (∀ (n : Nat), Below base w ((w.drewN n).setCell ⟨b, 1, none⟩ (.int .i64 ((a : Int) + 1)))) := Lib.hid fun n => below_st (below_dr (Below.refl _ _)) hge
  have q104 : (((((⟨#[104, 118, 120, 108, 68, 111]⟩ : ByteArray)[0]'(by decide)).toNat : Nat) : Int) == (s[a].toNat : Int)) = false := by show ((104 : Int) == (s[a].toNat : Int)) = false; rw [beq_eq_false_iff_ne]; omega
  have q118 : (((((⟨#[104, 118, 120, 108, 68, 111]⟩ : ByteArray)[1]'(by decide)).toNat : Nat) : Int) == (s[a].toNat : Int)) = false := by show ((118 : Int) == (s[a].toNat : Int)) = false; rw [beq_eq_false_iff_ne]; omega
  have q120 : (((((⟨#[104, 118, 120, 108, 68, 111]⟩ : ByteArray)[2]'(by decide)).toNat : Nat) : Int) == (s[a].toNat : Int)) = false := by show ((120 : Int) == (s[a].toNat : Int)) = false; rw [beq_eq_false_iff_ne]; omega
  have q108 : (((((⟨#[104, 118, 120, 108, 68, 111]⟩ : ByteArray)[3]'(by decide)).toNat : Nat) : Int) == (s[a].toNat : Int)) = false := by show ((108 : Int) == (s[a].toNat : Int)) = false; rw [beq_eq_false_iff_ne]; omega
  have q68 : (((((⟨#[104, 118, 120, 108, 68, 111]⟩ : ByteArray)[4]'(by decide)).toNat : Nat) : Int) == (s[a].toNat : Int)) = false := by show ((68 : Int) == (s[a].toNat : Int)) = false; rw [beq_eq_false_iff_ne]; omega
  have q111 : (((((⟨#[104, 118, 120, 108, 68, 111]⟩ : ByteArray)[5]'(by decide)).toNat : Nat) : Int) == (s[a].toNat : Int)) = false := by show ((111 : Int) == (s[a].toNat : Int)) = false; rw [beq_eq_false_iff_ne]; omega
  have s34 : ((s[a].toNat : Int) == 34) = false := by rw [beq_eq_false_iff_ne]; omega
  have s123 : ((s[a].toNat : Int) == 123) = false := by rw [beq_eq_false_iff_ne]; omega
  have s125 : ((s[a].toNat : Int) == 125) = false := by rw [beq_eq_false_iff_ne]; omega
  have s33 : ((s[a].toNat : Int) == 33) = false := by rw [beq_eq_false_iff_ne]; omega
  have s40 : ((s[a].toNat : Int) == 40) = false := by rw [beq_eq_false_iff_ne]; omega
  have s91 : ((s[a].toNat : Int) == 91) = false := by rw [beq_eq_false_iff_ne]; omega
  have s102 : ((s[a].toNat : Int) == 102) = true := by rw [beq_iff_eq]; omega
  obtain ⟨O, hO⟩ : ∃ O, nameM 1 20 s (a + 1) = O := ⟨_, rfl⟩
  rw [hO]
  have HO := Lib.hid hO
  clear hO
  clear hk hsim hfst hyp
  go_enter Try.func30, Try.ntmps30
  go_wp2
  go_quiet (fail)
  go_wp2_with (go_at_call 42; refine Calls.mono (HS.out _) ?_; rintro e w2 ⟨rfl, b2⟩; have h2 := (Go1.out _).below b2; have B2 := (Bel1.out _).trans (b2.mono (Go1.out _).top); clear b2 c0 c1 c2 c3 f1 f2 f3 hb; obtain ⟨c0, c1, c2, c3, f1, f2, f3, hb⟩ := h2.cells; have H2 := Lib.hid h2; have HB2 := Lib.hid B2; clear h2 B2)
  obtain ⟨g, hg⟩ : ∃ g, w2.heap.size = g := ⟨_, rfl⟩
  obtain ⟨W3, hW3⟩ : ∃ W, ((w2.alloc (.cells #[.int .i64 t.kind, .string t.text, .int .i64 t.n] 55)).alloc (.cells #[.int .i64 12, .int .i64 13, .int .i64 14, .int .i64 15, .int .i64 16, .int .i64 17] 3)) = W := ⟨_, rfl⟩
  have b3 : Below w2.heap.size w2 W3 := by rw [← hW3]; exact ((Below.refl _ _).alloc (Nat.le_refl _) _).alloc (by simp) _
  have H3 := Lib.hid (H2.out.below b3)
  have HB3 := Lib.hid (HB2.out.trans (b3.mono H2.out.top))
  have gb : g + 1 ≠ b := by have := H2.out.cells.2.2.2.2.2.2.2; omega
  have gne : some g ≠ v.ownBlock := fun e => by have := own_lt H2.out.own g e.symm; omega
  have kb : W3.heap[g]? = some (.cells #[.int .i64 t.kind, .string t.text, .int .i64 t.n] 55) := by rw [← hW3, ← hg]; exact (two_blk _ _ _).1
  have k0 : W3.cell? ⟨g, 0, none⟩ = some (.int .i64 t.kind) := by simp [World.cell?, kb]
  have k1 : W3.cell? ⟨g, 1, none⟩ = some (.string t.text) := by simp [World.cell?, kb]
  have k2 : W3.cell? ⟨g, 2, none⟩ = some (.int .i64 t.n) := by simp [World.cell?, kb]
  have zb : W3.heap[g + 1]? = some (.cells #[.int .i64 12, .int .i64 13, .int .i64 14, .int .i64 15, .int .i64 16, .int .i64 17] 3) := by rw [← hW3, ← hg]; exact (two_blk _ _ _).2
  have z0 : W3.cell? ⟨g + 1, 0, none⟩ = some (.int .i64 12) := by simp [World.cell?, zb]
  have z1 : W3.cell? ⟨g + 1, 1, none⟩ = some (.int .i64 13) := by simp [World.cell?, zb]
  have z2 : W3.cell? ⟨g + 1, 2, none⟩ = some (.int .i64 14) := by simp [World.cell?, zb]
  have z3 : W3.cell? ⟨g + 1, 3, none⟩ = some (.int .i64 15) := by simp [World.cell?, zb]
  have z4 : W3.cell? ⟨g + 1, 4, none⟩ = some (.int .i64 16) := by simp [World.cell?, zb]
  have z5 : W3.cell? ⟨g + 1, 5, none⟩ = some (.int .i64 17) := by simp [World.cell?, zb]
  have gl : g + 1 < W3.heap.size := by rw [← hW3, ← hg]; simp
  clear c0 c1 c2 c3 f1 f2 f3 hb
  rw [hW3, hg]
  clear hW3 hg H2 HB2 b3
  obtain ⟨c0, c1, c2, c3, f1, f2, f3, hb⟩ := H3.out.cells
  have HC := rname_calls W3 b base v s (a + 1) l 1 H3.out hs (by omega) (by omega)
  rw [HO.out] at HC
  have HHC := Lib.hid HC
  clear HC HO
  go_loopw [8] (fun i wr => wr = W3 ∧ (i = .int .i64 0 ∨ i = .int .i64 1 ∨ i = .int .i64 2 ∨ i = .int .i64 3 ∨ i = .int .i64 4 ∨ i = .int .i64 5 ∨ i = .int .i64 6)) (fun i _ => 7 - (RowKit.intOf i).toNat)
  case atStart => exact ⟨rfl, .inl rfl⟩
  case round =>
    rcases hrel with ⟨rfl, rfl | rfl | rfl | rfl | rfl | rfl | rfl⟩
    · go_wp2
      go_roundw
      case rel => simp
      case measure => simp [RowKit.intOf]
    · go_wp2
      go_roundw
      case rel => simp
      case measure => simp [RowKit.intOf]
    · go_wp2
      go_roundw
      case rel => simp
      case measure => simp [RowKit.intOf]
    · go_wp2
      go_roundw
      case rel => simp
      case measure => simp [RowKit.intOf]
    · go_wp2
      go_roundw
      case rel => simp
      case measure => simp [RowKit.intOf]
    · go_wp2
      go_roundw
      case rel => simp
      case measure => simp [RowKit.intOf]
    · go_wp2_with fail
      refine Calls.mono HHC.out ?_
      rcases O with _ | ⟨t', a'⟩
      · rintro e w5 ⟨rfl, ⟨v5, a5, h5⟩, b5⟩
        have HB5 := Lib.hid b5
        clear b5
        go_wp2_with (go_at_call 31; refine Calls.mono (put_calls _ b base v5 s a5 l true 10 _ 0 h5 (by omega)) ?_; rintro e w6 ⟨rfl, ⟨v6, h6⟩, b6⟩; have H6 := Lib.hid h6; have HB6 := Lib.hid b6; clear h6 b6)
        go_end0
        exact ⟨rfl, ⟨v6, a5, _, H6.out⟩, HB3.out.trans (HB5.out.trans HB6.out)⟩
      · rintro e w5 ⟨rfl, ⟨v5, h5⟩, b5⟩
        have HB5 := Lib.hid b5
        clear b5
        go_wp2_with (go_at_call 31; refine Calls.mono (put_calls _ b base v5 s a' l false 10 _ 0 h5 (by omega)) ?_; rintro e w6 ⟨rfl, ⟨v6, h6⟩, b6⟩; have H6 := Lib.hid h6; have HB6 := Lib.hid b6; clear h6 b6)
        go_end0
        exact ⟨rfl, ⟨v6, H6.out⟩, HB3.out.trans (HB5.out.trans HB6.out)⟩

set_option maxRecDepth 100000 in
set_option maxHeartbeats 4000000 in
theorem re_k (w : World) (b base : Nat) (v : Value) (s : ByteArray) (a : Nat) (l : List Tok) (h : RR w b base v s a l false) (hs : s.size ≤ 1000000) (hl : l.length ≤ 900000) (ha : a < s.size) (t : Tok) (hsim : simR (pk s a) = (t, false)) (fst : Bool) (hfst : decide (a = 1) = fst) (hyp : pk s a = 107) :
    Calls Try.prog 30 #[.pointer (some ⟨b, 0, none⟩)] w (EscR b base s l w (namedE 19 (nameM 1 20 s (a + 1)))) := by
  obtain ⟨c0, c1, c2, c3, f1, f2, f3, hb⟩ := h.cells
  have hge := h.ge
  have HH := Lib.hid h
  clear h
  have hk := pk_get s a ha
  have hi : (a : Int) < s.size := by omega
  have hw : IntKind.i64.wrap ((a : Int) + 1) = (a : Int) + 1 := IntWalk.i64_in _ (by omega)
  have e1 : ((a : Int) == 1) = fst := by rw [← hfst]; by_cases q : a = 1 <;> simp [q]; omega
  have e1' : (a == 1) = fst := by rw [← hfst]; by_cases q : a = 1 <;> simp [q]
  rw [hk] at hsim
  have HS := Lib.hid (fun W => rsimple_calls _ W t false hsim)
  have Go1 : Hid (∀ (n : Nat), RR ((w.drewN n).setCell ⟨b, 1, none⟩ (.int .i64 ((a : Int) + 1))) b base v s (a + 1) l false) := Lib.hid fun n => (HH.out.drewN n).set1 _ (by omega)
  have Bel1 : Hid (∀ (n : Nat), Below base w ((w.drewN n).setCell ⟨b, 1, none⟩ (.int .i64 ((a : Int) + 1)))) := Lib.hid fun n => below_st (below_dr (Below.refl _ _)) hge
  have q104 : (((((⟨#[104, 118, 120, 108, 68, 111]⟩ : ByteArray)[0]'(by decide)).toNat : Nat) : Int) == (s[a].toNat : Int)) = false := by show ((104 : Int) == (s[a].toNat : Int)) = false; rw [beq_eq_false_iff_ne]; omega
  have q118 : (((((⟨#[104, 118, 120, 108, 68, 111]⟩ : ByteArray)[1]'(by decide)).toNat : Nat) : Int) == (s[a].toNat : Int)) = false := by show ((118 : Int) == (s[a].toNat : Int)) = false; rw [beq_eq_false_iff_ne]; omega
  have q120 : (((((⟨#[104, 118, 120, 108, 68, 111]⟩ : ByteArray)[2]'(by decide)).toNat : Nat) : Int) == (s[a].toNat : Int)) = false := by show ((120 : Int) == (s[a].toNat : Int)) = false; rw [beq_eq_false_iff_ne]; omega
  have q108 : (((((⟨#[104, 118, 120, 108, 68, 111]⟩ : ByteArray)[3]'(by decide)).toNat : Nat) : Int) == (s[a].toNat : Int)) = false := by show ((108 : Int) == (s[a].toNat : Int)) = false; rw [beq_eq_false_iff_ne]; omega
  have q68 : (((((⟨#[104, 118, 120, 108, 68, 111]⟩ : ByteArray)[4]'(by decide)).toNat : Nat) : Int) == (s[a].toNat : Int)) = false := by show ((68 : Int) == (s[a].toNat : Int)) = false; rw [beq_eq_false_iff_ne]; omega
  have q111 : (((((⟨#[104, 118, 120, 108, 68, 111]⟩ : ByteArray)[5]'(by decide)).toNat : Nat) : Int) == (s[a].toNat : Int)) = false := by show ((111 : Int) == (s[a].toNat : Int)) = false; rw [beq_eq_false_iff_ne]; omega
  have s34 : ((s[a].toNat : Int) == 34) = false := by rw [beq_eq_false_iff_ne]; omega
  have s123 : ((s[a].toNat : Int) == 123) = false := by rw [beq_eq_false_iff_ne]; omega
  have s125 : ((s[a].toNat : Int) == 125) = false := by rw [beq_eq_false_iff_ne]; omega
  have s33 : ((s[a].toNat : Int) == 33) = false := by rw [beq_eq_false_iff_ne]; omega
  have s40 : ((s[a].toNat : Int) == 40) = false := by rw [beq_eq_false_iff_ne]; omega
  have s91 : ((s[a].toNat : Int) == 91) = false := by rw [beq_eq_false_iff_ne]; omega
  have s102 : ((s[a].toNat : Int) == 102) = false := by rw [beq_eq_false_iff_ne]; omega
  have s115 : ((s[a].toNat : Int) == 115) = false := by rw [beq_eq_false_iff_ne]; omega
  have s107 : ((s[a].toNat : Int) == 107) = true := by rw [beq_iff_eq]; omega
  obtain ⟨O, hO⟩ : ∃ O, nameM 1 20 s (a + 1) = O := ⟨_, rfl⟩
  rw [hO]
  have HO := Lib.hid hO
  clear hO
  clear hk hsim hfst hyp
  go_enter Try.func30, Try.ntmps30
  go_wp2
  go_quiet (fail)
  go_wp2_with (go_at_call 42; refine Calls.mono (HS.out _) ?_; rintro e w2 ⟨rfl, b2⟩; have h2 := (Go1.out _).below b2; have B2 := (Bel1.out _).trans (b2.mono (Go1.out _).top); clear b2 c0 c1 c2 c3 f1 f2 f3 hb; obtain ⟨c0, c1, c2, c3, f1, f2, f3, hb⟩ := h2.cells; have H2 := Lib.hid h2; have HB2 := Lib.hid B2; clear h2 B2)
  obtain ⟨g, hg⟩ : ∃ g, w2.heap.size = g := ⟨_, rfl⟩
  obtain ⟨W3, hW3⟩ : ∃ W, ((w2.alloc (.cells #[.int .i64 t.kind, .string t.text, .int .i64 t.n] 55)).alloc (.cells #[.int .i64 12, .int .i64 13, .int .i64 14, .int .i64 15, .int .i64 16, .int .i64 17] 3)) = W := ⟨_, rfl⟩
  have b3 : Below w2.heap.size w2 W3 := by rw [← hW3]; exact ((Below.refl _ _).alloc (Nat.le_refl _) _).alloc (by simp) _
  have H3 := Lib.hid (H2.out.below b3)
  have HB3 := Lib.hid (HB2.out.trans (b3.mono H2.out.top))
  have gb : g + 1 ≠ b := by have := H2.out.cells.2.2.2.2.2.2.2; omega
  have gne : some g ≠ v.ownBlock := fun e => by have := own_lt H2.out.own g e.symm; omega
  have kb : W3.heap[g]? = some (.cells #[.int .i64 t.kind, .string t.text, .int .i64 t.n] 55) := by rw [← hW3, ← hg]; exact (two_blk _ _ _).1
  have k0 : W3.cell? ⟨g, 0, none⟩ = some (.int .i64 t.kind) := by simp [World.cell?, kb]
  have k1 : W3.cell? ⟨g, 1, none⟩ = some (.string t.text) := by simp [World.cell?, kb]
  have k2 : W3.cell? ⟨g, 2, none⟩ = some (.int .i64 t.n) := by simp [World.cell?, kb]
  have zb : W3.heap[g + 1]? = some (.cells #[.int .i64 12, .int .i64 13, .int .i64 14, .int .i64 15, .int .i64 16, .int .i64 17] 3) := by rw [← hW3, ← hg]; exact (two_blk _ _ _).2
  have z0 : W3.cell? ⟨g + 1, 0, none⟩ = some (.int .i64 12) := by simp [World.cell?, zb]
  have z1 : W3.cell? ⟨g + 1, 1, none⟩ = some (.int .i64 13) := by simp [World.cell?, zb]
  have z2 : W3.cell? ⟨g + 1, 2, none⟩ = some (.int .i64 14) := by simp [World.cell?, zb]
  have z3 : W3.cell? ⟨g + 1, 3, none⟩ = some (.int .i64 15) := by simp [World.cell?, zb]
  have z4 : W3.cell? ⟨g + 1, 4, none⟩ = some (.int .i64 16) := by simp [World.cell?, zb]
  have z5 : W3.cell? ⟨g + 1, 5, none⟩ = some (.int .i64 17) := by simp [World.cell?, zb]
  have gl : g + 1 < W3.heap.size := by rw [← hW3, ← hg]; simp
  clear c0 c1 c2 c3 f1 f2 f3 hb
  rw [hW3, hg]
  clear hW3 hg H2 HB2 b3
  obtain ⟨c0, c1, c2, c3, f1, f2, f3, hb⟩ := H3.out.cells
  have HC := rname_calls W3 b base v s (a + 1) l 1 H3.out hs (by omega) (by omega)
  rw [HO.out] at HC
  have HHC := Lib.hid HC
  clear HC HO
  go_loopw [8] (fun i wr => wr = W3 ∧ (i = .int .i64 0 ∨ i = .int .i64 1 ∨ i = .int .i64 2 ∨ i = .int .i64 3 ∨ i = .int .i64 4 ∨ i = .int .i64 5 ∨ i = .int .i64 6)) (fun i _ => 7 - (RowKit.intOf i).toNat)
  case atStart => exact ⟨rfl, .inl rfl⟩
  case round =>
    rcases hrel with ⟨rfl, rfl | rfl | rfl | rfl | rfl | rfl | rfl⟩
    · go_wp2
      go_roundw
      case rel => simp
      case measure => simp [RowKit.intOf]
    · go_wp2
      go_roundw
      case rel => simp
      case measure => simp [RowKit.intOf]
    · go_wp2
      go_roundw
      case rel => simp
      case measure => simp [RowKit.intOf]
    · go_wp2
      go_roundw
      case rel => simp
      case measure => simp [RowKit.intOf]
    · go_wp2
      go_roundw
      case rel => simp
      case measure => simp [RowKit.intOf]
    · go_wp2
      go_roundw
      case rel => simp
      case measure => simp [RowKit.intOf]
    · go_wp2_with fail
      refine Calls.mono HHC.out ?_
      rcases O with _ | ⟨t', a'⟩
      · rintro e w5 ⟨rfl, ⟨v5, a5, h5⟩, b5⟩
        have HB5 := Lib.hid b5
        clear b5
        go_wp2_with (go_at_call 31; refine Calls.mono (put_calls _ b base v5 s a5 l true 19 _ 0 h5 (by omega)) ?_; rintro e w6 ⟨rfl, ⟨v6, h6⟩, b6⟩; have H6 := Lib.hid h6; have HB6 := Lib.hid b6; clear h6 b6)
        go_end0
        exact ⟨rfl, ⟨v6, a5, _, H6.out⟩, HB3.out.trans (HB5.out.trans HB6.out)⟩
      · rintro e w5 ⟨rfl, ⟨v5, h5⟩, b5⟩
        have HB5 := Lib.hid b5
        clear b5
        go_wp2_with (go_at_call 31; refine Calls.mono (put_calls _ b base v5 s a' l false 19 _ 0 h5 (by omega)) ?_; rintro e w6 ⟨rfl, ⟨v6, h6⟩, b6⟩; have H6 := Lib.hid h6; have HB6 := Lib.hid b6; clear h6 b6)
        go_end0
        exact ⟨rfl, ⟨v6, H6.out⟩, HB3.out.trans (HB5.out.trans HB6.out)⟩

set_option maxRecDepth 100000 in
set_option maxHeartbeats 4000000 in
theorem re_m (w : World) (b base : Nat) (v : Value) (s : ByteArray) (a : Nat) (l : List Tok) (h : RR w b base v s a l false) (hs : s.size ≤ 1000000) (hl : l.length ≤ 900000) (ha : a < s.size) (t : Tok) (hsim : simR (pk s a) = (t, false)) (fst : Bool) (hfst : decide (a = 1) = fst) (hyp : pk s a = 109) :
    Calls Try.prog 30 #[.pointer (some ⟨b, 0, none⟩)] w (EscR b base s l w (namedE 21 (nameM 0 20 s (a + 1)))) := by
  obtain ⟨c0, c1, c2, c3, f1, f2, f3, hb⟩ := h.cells
  have hge := h.ge
  have HH := Lib.hid h
  clear h
  have hk := pk_get s a ha
  have hi : (a : Int) < s.size := by omega
  have hw : IntKind.i64.wrap ((a : Int) + 1) = (a : Int) + 1 := IntWalk.i64_in _ (by omega)
  have e1 : ((a : Int) == 1) = fst := by rw [← hfst]; by_cases q : a = 1 <;> simp [q]; omega
  have e1' : (a == 1) = fst := by rw [← hfst]; by_cases q : a = 1 <;> simp [q]
  rw [hk] at hsim
  have HS := Lib.hid (fun W => rsimple_calls _ W t false hsim)
  have Go1 : Hid (∀ (n : Nat), RR ((w.drewN n).setCell ⟨b, 1, none⟩ (.int .i64 ((a : Int) + 1))) b base v s (a + 1) l false) := Lib.hid fun n => (HH.out.drewN n).set1 _ (by omega)
  have Bel1 : Hid (∀ (n : Nat), Below base w ((w.drewN n).setCell ⟨b, 1, none⟩ (.int .i64 ((a : Int) + 1)))) := Lib.hid fun n => below_st (below_dr (Below.refl _ _)) hge
  have q104 : (((((⟨#[104, 118, 120, 108, 68, 111]⟩ : ByteArray)[0]'(by decide)).toNat : Nat) : Int) == (s[a].toNat : Int)) = false := by show ((104 : Int) == (s[a].toNat : Int)) = false; rw [beq_eq_false_iff_ne]; omega
  have q118 : (((((⟨#[104, 118, 120, 108, 68, 111]⟩ : ByteArray)[1]'(by decide)).toNat : Nat) : Int) == (s[a].toNat : Int)) = false := by show ((118 : Int) == (s[a].toNat : Int)) = false; rw [beq_eq_false_iff_ne]; omega
  have q120 : (((((⟨#[104, 118, 120, 108, 68, 111]⟩ : ByteArray)[2]'(by decide)).toNat : Nat) : Int) == (s[a].toNat : Int)) = false := by show ((120 : Int) == (s[a].toNat : Int)) = false; rw [beq_eq_false_iff_ne]; omega
  have q108 : (((((⟨#[104, 118, 120, 108, 68, 111]⟩ : ByteArray)[3]'(by decide)).toNat : Nat) : Int) == (s[a].toNat : Int)) = false := by show ((108 : Int) == (s[a].toNat : Int)) = false; rw [beq_eq_false_iff_ne]; omega
  have q68 : (((((⟨#[104, 118, 120, 108, 68, 111]⟩ : ByteArray)[4]'(by decide)).toNat : Nat) : Int) == (s[a].toNat : Int)) = false := by show ((68 : Int) == (s[a].toNat : Int)) = false; rw [beq_eq_false_iff_ne]; omega
  have q111 : (((((⟨#[104, 118, 120, 108, 68, 111]⟩ : ByteArray)[5]'(by decide)).toNat : Nat) : Int) == (s[a].toNat : Int)) = false := by show ((111 : Int) == (s[a].toNat : Int)) = false; rw [beq_eq_false_iff_ne]; omega
  have s34 : ((s[a].toNat : Int) == 34) = false := by rw [beq_eq_false_iff_ne]; omega
  have s123 : ((s[a].toNat : Int) == 123) = false := by rw [beq_eq_false_iff_ne]; omega
  have s125 : ((s[a].toNat : Int) == 125) = false := by rw [beq_eq_false_iff_ne]; omega
  have s33 : ((s[a].toNat : Int) == 33) = false := by rw [beq_eq_false_iff_ne]; omega
  have s40 : ((s[a].toNat : Int) == 40) = false := by rw [beq_eq_false_iff_ne]; omega
  have s91 : ((s[a].toNat : Int) == 91) = false := by rw [beq_eq_false_iff_ne]; omega
  have s102 : ((s[a].toNat : Int) == 102) = false := by rw [beq_eq_false_iff_ne]; omega
  have s115 : ((s[a].toNat : Int) == 115) = false := by rw [beq_eq_false_iff_ne]; omega
  have s107 : ((s[a].toNat : Int) == 107) = false := by rw [beq_eq_false_iff_ne]; omega
  have s109 : ((s[a].toNat : Int) == 109) = true := by rw [beq_iff_eq]; omega
  obtain ⟨O, hO⟩ : ∃ O, nameM 0 20 s (a + 1) = O := ⟨_, rfl⟩
  rw [hO]
  have HO := Lib.hid hO
  clear hO
  clear hk hsim hfst hyp
  go_enter Try.func30, Try.ntmps30
  go_wp2
  go_quiet (fail)
  go_wp2_with (go_at_call 42; refine Calls.mono (HS.out _) ?_; rintro e w2 ⟨rfl, b2⟩; have h2 := (Go1.out _).below b2; have B2 := (Bel1.out _).trans (b2.mono (Go1.out _).top); clear b2 c0 c1 c2 c3 f1 f2 f3 hb; obtain ⟨c0, c1, c2, c3, f1, f2, f3, hb⟩ := h2.cells; have H2 := Lib.hid h2; have HB2 := Lib.hid B2; clear h2 B2)
  obtain ⟨g, hg⟩ : ∃ g, w2.heap.size = g := ⟨_, rfl⟩
  obtain ⟨W3, hW3⟩ : ∃ W, ((w2.alloc (.cells #[.int .i64 t.kind, .string t.text, .int .i64 t.n] 55)).alloc (.cells #[.int .i64 12, .int .i64 13, .int .i64 14, .int .i64 15, .int .i64 16, .int .i64 17] 3)) = W := ⟨_, rfl⟩
  have b3 : Below w2.heap.size w2 W3 := by rw [← hW3]; exact ((Below.refl _ _).alloc (Nat.le_refl _) _).alloc (by simp) _
  have H3 := Lib.hid (H2.out.below b3)
  have HB3 := Lib.hid (HB2.out.trans (b3.mono H2.out.top))
  have gb : g + 1 ≠ b := by have := H2.out.cells.2.2.2.2.2.2.2; omega
  have gne : some g ≠ v.ownBlock := fun e => by have := own_lt H2.out.own g e.symm; omega
  have kb : W3.heap[g]? = some (.cells #[.int .i64 t.kind, .string t.text, .int .i64 t.n] 55) := by rw [← hW3, ← hg]; exact (two_blk _ _ _).1
  have k0 : W3.cell? ⟨g, 0, none⟩ = some (.int .i64 t.kind) := by simp [World.cell?, kb]
  have k1 : W3.cell? ⟨g, 1, none⟩ = some (.string t.text) := by simp [World.cell?, kb]
  have k2 : W3.cell? ⟨g, 2, none⟩ = some (.int .i64 t.n) := by simp [World.cell?, kb]
  have zb : W3.heap[g + 1]? = some (.cells #[.int .i64 12, .int .i64 13, .int .i64 14, .int .i64 15, .int .i64 16, .int .i64 17] 3) := by rw [← hW3, ← hg]; exact (two_blk _ _ _).2
  have z0 : W3.cell? ⟨g + 1, 0, none⟩ = some (.int .i64 12) := by simp [World.cell?, zb]
  have z1 : W3.cell? ⟨g + 1, 1, none⟩ = some (.int .i64 13) := by simp [World.cell?, zb]
  have z2 : W3.cell? ⟨g + 1, 2, none⟩ = some (.int .i64 14) := by simp [World.cell?, zb]
  have z3 : W3.cell? ⟨g + 1, 3, none⟩ = some (.int .i64 15) := by simp [World.cell?, zb]
  have z4 : W3.cell? ⟨g + 1, 4, none⟩ = some (.int .i64 16) := by simp [World.cell?, zb]
  have z5 : W3.cell? ⟨g + 1, 5, none⟩ = some (.int .i64 17) := by simp [World.cell?, zb]
  have gl : g + 1 < W3.heap.size := by rw [← hW3, ← hg]; simp
  clear c0 c1 c2 c3 f1 f2 f3 hb
  rw [hW3, hg]
  clear hW3 hg H2 HB2 b3
  obtain ⟨c0, c1, c2, c3, f1, f2, f3, hb⟩ := H3.out.cells
  have HC := rname_calls W3 b base v s (a + 1) l 0 H3.out hs (by omega) (by omega)
  rw [HO.out] at HC
  have HHC := Lib.hid HC
  clear HC HO
  go_loopw [8] (fun i wr => wr = W3 ∧ (i = .int .i64 0 ∨ i = .int .i64 1 ∨ i = .int .i64 2 ∨ i = .int .i64 3 ∨ i = .int .i64 4 ∨ i = .int .i64 5 ∨ i = .int .i64 6)) (fun i _ => 7 - (RowKit.intOf i).toNat)
  case atStart => exact ⟨rfl, .inl rfl⟩
  case round =>
    rcases hrel with ⟨rfl, rfl | rfl | rfl | rfl | rfl | rfl | rfl⟩
    · go_wp2
      go_roundw
      case rel => simp
      case measure => simp [RowKit.intOf]
    · go_wp2
      go_roundw
      case rel => simp
      case measure => simp [RowKit.intOf]
    · go_wp2
      go_roundw
      case rel => simp
      case measure => simp [RowKit.intOf]
    · go_wp2
      go_roundw
      case rel => simp
      case measure => simp [RowKit.intOf]
    · go_wp2
      go_roundw
      case rel => simp
      case measure => simp [RowKit.intOf]
    · go_wp2
      go_roundw
      case rel => simp
      case measure => simp [RowKit.intOf]
    · go_wp2_with fail
      refine Calls.mono HHC.out ?_
      rcases O with _ | ⟨t', a'⟩
      · rintro e w5 ⟨rfl, ⟨v5, a5, h5⟩, b5⟩
        have HB5 := Lib.hid b5
        clear b5
        go_wp2_with (go_at_call 31; refine Calls.mono (put_calls _ b base v5 s a5 l true 21 _ 0 h5 (by omega)) ?_; rintro e w6 ⟨rfl, ⟨v6, h6⟩, b6⟩; have H6 := Lib.hid h6; have HB6 := Lib.hid b6; clear h6 b6)
        go_end0
        exact ⟨rfl, ⟨v6, a5, _, H6.out⟩, HB3.out.trans (HB5.out.trans HB6.out)⟩
      · rintro e w5 ⟨rfl, ⟨v5, h5⟩, b5⟩
        have HB5 := Lib.hid b5
        clear b5
        go_wp2_with (go_at_call 31; refine Calls.mono (put_calls _ b base v5 s a' l false 21 _ 0 h5 (by omega)) ?_; rintro e w6 ⟨rfl, ⟨v6, h6⟩, b6⟩; have H6 := Lib.hid h6; have HB6 := Lib.hid b6; clear h6 b6)
        go_end0
        exact ⟨rfl, ⟨v6, H6.out⟩, HB3.out.trans (HB5.out.trans HB6.out)⟩

end Go.Proofs.Ytaokofnhkojllaa

set_option linter.unusedVariables false
set_option linter.unusedSimpArgs false
namespace Go.Proofs.Ytaokofnhkojllaa
open Go.Shelf Go.RowKit Go.Lib Go.Aids Go.MapLit Go.Proofs.YtaokofnhkojllaaW.PrintWords
set_option maxRecDepth 100000 in
set_option maxHeartbeats 4000000 in
theorem re_q0n (w : World) (b base : Nat) (v : Value) (s : ByteArray) (a : Nat) (l : List Tok) (h : RR w b base v s a l false) (hs : s.size ≤ 1000000) (hl : l.length ≤ 900000) (ha : a < s.size) (t : Tok) (is : Bool) (hsim : simR (pk s a) = (t, is)) (fst : Bool) (hfst : decide (a = 1) = fst) (hyp : pk s a = 104) (hO : quotedM s (a + 1) = none) :
    Calls Try.prog 30 #[.pointer (some ⟨b, 0, none⟩)] w (EscR b base s l w (namedE 12 (none))) := by
  obtain ⟨c0, c1, c2, c3, f1, f2, f3, hb⟩ := h.cells
  have hge := h.ge
  have HH := Lib.hid h
  clear h
  have hk := pk_get s a ha
  have hi : (a : Int) < s.size := by omega
  have hw : IntKind.i64.wrap ((a : Int) + 1) = (a : Int) + 1 := IntWalk.i64_in _ (by omega)
  have e1 : ((a : Int) == 1) = fst := by rw [← hfst]; by_cases q : a = 1 <;> simp [q]; omega
  have e1' : (a == 1) = fst := by rw [← hfst]; by_cases q : a = 1 <;> simp [q]
  rw [hk] at hsim
  have HS := Lib.hid (fun W => rsimple_calls _ W t is hsim)
  have Go1 : Hid (∀ (n : Nat), RR ((w.drewN n).setCell ⟨b, 1, none⟩ (.int .i64 ((a : Int) + 1))) b base v s (a + 1) l false) := Lib.hid fun n => (HH.out.drewN n).set1 _ (by omega)
  have Bel1 : Hid (∀ (n : Nat), Below base w ((w.drewN n).setCell ⟨b, 1, none⟩ (.int .i64 ((a : Int) + 1)))) := Lib.hid fun n => below_st (below_dr (Below.refl _ _)) hge
  have q104 : (((((⟨#[104, 118, 120, 108, 68, 111]⟩ : ByteArray)[0]'(by decide)).toNat : Nat) : Int) == (s[a].toNat : Int)) = true := by show ((104 : Int) == (s[a].toNat : Int)) = true; rw [beq_iff_eq]; omega
  have HO := Lib.hid hO
  clear hO
  clear hk hsim hfst hyp
  go_enter Try.func30, Try.ntmps30
  go_wp2
  go_quiet (fail)
  go_wp2_with (go_at_call 42; refine Calls.mono (HS.out _) ?_; rintro e w2 ⟨rfl, b2⟩; have h2 := (Go1.out _).below b2; have B2 := (Bel1.out _).trans (b2.mono (Go1.out _).top); clear b2 c0 c1 c2 c3 f1 f2 f3 hb; obtain ⟨c0, c1, c2, c3, f1, f2, f3, hb⟩ := h2.cells; have H2 := Lib.hid h2; have HB2 := Lib.hid B2; clear h2 B2)
  obtain ⟨g, hg⟩ : ∃ g, w2.heap.size = g := ⟨_, rfl⟩
  obtain ⟨W3, hW3⟩ : ∃ W, ((w2.alloc (.cells #[.int .i64 t.kind, .string t.text, .int .i64 t.n] 55)).alloc (.cells #[.int .i64 12, .int .i64 13, .int .i64 14, .int .i64 15, .int .i64 16, .int .i64 17] 3)) = W := ⟨_, rfl⟩
  have b3 : Below w2.heap.size w2 W3 := by rw [← hW3]; exact ((Below.refl _ _).alloc (Nat.le_refl _) _).alloc (by simp) _
  have H3 := Lib.hid (H2.out.below b3)
  have HB3 := Lib.hid (HB2.out.trans (b3.mono H2.out.top))
  have gb : g + 1 ≠ b := by have := H2.out.cells.2.2.2.2.2.2.2; omega
  have gne : some g ≠ v.ownBlock := fun e => by have := own_lt H2.out.own g e.symm; omega
  have kb : W3.heap[g]? = some (.cells #[.int .i64 t.kind, .string t.text, .int .i64 t.n] 55) := by rw [← hW3, ← hg]; exact (two_blk _ _ _).1
  have k0 : W3.cell? ⟨g, 0, none⟩ = some (.int .i64 t.kind) := by simp [World.cell?, kb]
  have k1 : W3.cell? ⟨g, 1, none⟩ = some (.string t.text) := by simp [World.cell?, kb]
  have k2 : W3.cell? ⟨g, 2, none⟩ = some (.int .i64 t.n) := by simp [World.cell?, kb]
  have zb : W3.heap[g + 1]? = some (.cells #[.int .i64 12, .int .i64 13, .int .i64 14, .int .i64 15, .int .i64 16, .int .i64 17] 3) := by rw [← hW3, ← hg]; exact (two_blk _ _ _).2
  have z0 : W3.cell? ⟨g + 1, 0, none⟩ = some (.int .i64 12) := by simp [World.cell?, zb]
  have z1 : W3.cell? ⟨g + 1, 1, none⟩ = some (.int .i64 13) := by simp [World.cell?, zb]
  have z2 : W3.cell? ⟨g + 1, 2, none⟩ = some (.int .i64 14) := by simp [World.cell?, zb]
  have z3 : W3.cell? ⟨g + 1, 3, none⟩ = some (.int .i64 15) := by simp [World.cell?, zb]
  have z4 : W3.cell? ⟨g + 1, 4, none⟩ = some (.int .i64 16) := by simp [World.cell?, zb]
  have z5 : W3.cell? ⟨g + 1, 5, none⟩ = some (.int .i64 17) := by simp [World.cell?, zb]
  have gl : g + 1 < W3.heap.size := by rw [← hW3, ← hg]; simp
  clear c0 c1 c2 c3 f1 f2 f3 hb
  rw [hW3, hg]
  clear hW3 hg H2 HB2 b3
  obtain ⟨c0, c1, c2, c3, f1, f2, f3, hb⟩ := H3.out.cells
  have HC := fun n => rquoted2_calls (W3.drewN n) b base v s (a + 1) l (H3.out.drewN n) hs (by omega)
  rw [HO.out] at HC
  have HHC := Lib.hid HC
  clear HC HO
  go_loopw [8] (fun i wr => wr = W3 ∧ (i = .int .i64 0)) (fun i _ => 7 - (RowKit.intOf i).toNat)
  case atStart => exact ⟨rfl, rfl⟩
  case round =>
    rcases hrel with ⟨rfl, rfl⟩
    · go_wp2
      go_region_with (first | (go_at_call 43; refine Calls.mono (HHC.out _) ?_; rintro e w5 ⟨⟨rfl, ⟨v5, a5, h5⟩, b5⟩, kp⟩; have hz5 := (kp (g + 1) gb).trans zb; have zz : w5.cell? ⟨g + 1, 0, none⟩ = some (.int .i64 12) := (by simp [World.cell?, hz5]); have HB5 := Lib.hid ((below_dr HB3.out).trans b5); clear b5 kp) | (go_at_call 31; refine Calls.mono (put_calls _ b base v5 s a5 l true 12 _ 0 h5 (by omega)) ?_; rintro e w6 ⟨rfl, ⟨v6, h6⟩, b6⟩; have H6 := Lib.hid h6; have HB6 := Lib.hid b6; clear h6 b6))
      all_goals
        go_wp2
        go_end0
        exact ⟨rfl, ⟨v6, a5, _, H6.out⟩, HB5.out.trans HB6.out⟩

set_option maxRecDepth 100000 in
set_option maxHeartbeats 4000000 in
theorem re_q1n (w : World) (b base : Nat) (v : Value) (s : ByteArray) (a : Nat) (l : List Tok) (h : RR w b base v s a l false) (hs : s.size ≤ 1000000) (hl : l.length ≤ 900000) (ha : a < s.size) (t : Tok) (is : Bool) (hsim : simR (pk s a) = (t, is)) (fst : Bool) (hfst : decide (a = 1) = fst) (hyp : pk s a = 118) (hO : quotedM s (a + 1) = none) :
    Calls Try.prog 30 #[.pointer (some ⟨b, 0, none⟩)] w (EscR b base s l w (namedE 13 (none))) := by
  obtain ⟨c0, c1, c2, c3, f1, f2, f3, hb⟩ := h.cells
  have hge := h.ge
  have HH := Lib.hid h
  clear h
  have hk := pk_get s a ha
  have hi : (a : Int) < s.size := by omega
  have hw : IntKind.i64.wrap ((a : Int) + 1) = (a : Int) + 1 := IntWalk.i64_in _ (by omega)
  have e1 : ((a : Int) == 1) = fst := by rw [← hfst]; by_cases q : a = 1 <;> simp [q]; omega
  have e1' : (a == 1) = fst := by rw [← hfst]; by_cases q : a = 1 <;> simp [q]
  rw [hk] at hsim
  have HS := Lib.hid (fun W => rsimple_calls _ W t is hsim)
  have Go1 : Hid (∀ (n : Nat), RR ((w.drewN n).setCell ⟨b, 1, none⟩ (.int .i64 ((a : Int) + 1))) b base v s (a + 1) l false) := Lib.hid fun n => (HH.out.drewN n).set1 _ (by omega)
  have Bel1 : Hid (∀ (n : Nat), Below base w ((w.drewN n).setCell ⟨b, 1, none⟩ (.int .i64 ((a : Int) + 1)))) := Lib.hid fun n => below_st (below_dr (Below.refl _ _)) hge
  have q104 : (((((⟨#[104, 118, 120, 108, 68, 111]⟩ : ByteArray)[0]'(by decide)).toNat : Nat) : Int) == (s[a].toNat : Int)) = false := by show ((104 : Int) == (s[a].toNat : Int)) = false; rw [beq_eq_false_iff_ne]; omega
  have q118 : (((((⟨#[104, 118, 120, 108, 68, 111]⟩ : ByteArray)[1]'(by decide)).toNat : Nat) : Int) == (s[a].toNat : Int)) = true := by show ((118 : Int) == (s[a].toNat : Int)) = true; rw [beq_iff_eq]; omega
  have HO := Lib.hid hO
  clear hO
  clear hk hsim hfst hyp
  go_enter Try.func30, Try.ntmps30
  go_wp2
  go_quiet (fail)
  go_wp2_with (go_at_call 42; refine Calls.mono (HS.out _) ?_; rintro e w2 ⟨rfl, b2⟩; have h2 := (Go1.out _).below b2; have B2 := (Bel1.out _).trans (b2.mono (Go1.out _).top); clear b2 c0 c1 c2 c3 f1 f2 f3 hb; obtain ⟨c0, c1, c2, c3, f1, f2, f3, hb⟩ := h2.cells; have H2 := Lib.hid h2; have HB2 := Lib.hid B2; clear h2 B2)
  obtain ⟨g, hg⟩ : ∃ g, w2.heap.size = g := ⟨_, rfl⟩
  obtain ⟨W3, hW3⟩ : ∃ W, ((w2.alloc (.cells #[.int .i64 t.kind, .string t.text, .int .i64 t.n] 55)).alloc (.cells #[.int .i64 12, .int .i64 13, .int .i64 14, .int .i64 15, .int .i64 16, .int .i64 17] 3)) = W := ⟨_, rfl⟩
  have b3 : Below w2.heap.size w2 W3 := by rw [← hW3]; exact ((Below.refl _ _).alloc (Nat.le_refl _) _).alloc (by simp) _
  have H3 := Lib.hid (H2.out.below b3)
  have HB3 := Lib.hid (HB2.out.trans (b3.mono H2.out.top))
  have gb : g + 1 ≠ b := by have := H2.out.cells.2.2.2.2.2.2.2; omega
  have gne : some g ≠ v.ownBlock := fun e => by have := own_lt H2.out.own g e.symm; omega
  have kb : W3.heap[g]? = some (.cells #[.int .i64 t.kind, .string t.text, .int .i64 t.n] 55) := by rw [← hW3, ← hg]; exact (two_blk _ _ _).1
  have k0 : W3.cell? ⟨g, 0, none⟩ = some (.int .i64 t.kind) := by simp [World.cell?, kb]
  have k1 : W3.cell? ⟨g, 1, none⟩ = some (.string t.text) := by simp [World.cell?, kb]
  have k2 : W3.cell? ⟨g, 2, none⟩ = some (.int .i64 t.n) := by simp [World.cell?, kb]
  have zb : W3.heap[g + 1]? = some (.cells #[.int .i64 12, .int .i64 13, .int .i64 14, .int .i64 15, .int .i64 16, .int .i64 17] 3) := by rw [← hW3, ← hg]; exact (two_blk _ _ _).2
  have z0 : W3.cell? ⟨g + 1, 0, none⟩ = some (.int .i64 12) := by simp [World.cell?, zb]
  have z1 : W3.cell? ⟨g + 1, 1, none⟩ = some (.int .i64 13) := by simp [World.cell?, zb]
  have z2 : W3.cell? ⟨g + 1, 2, none⟩ = some (.int .i64 14) := by simp [World.cell?, zb]
  have z3 : W3.cell? ⟨g + 1, 3, none⟩ = some (.int .i64 15) := by simp [World.cell?, zb]
  have z4 : W3.cell? ⟨g + 1, 4, none⟩ = some (.int .i64 16) := by simp [World.cell?, zb]
  have z5 : W3.cell? ⟨g + 1, 5, none⟩ = some (.int .i64 17) := by simp [World.cell?, zb]
  have gl : g + 1 < W3.heap.size := by rw [← hW3, ← hg]; simp
  clear c0 c1 c2 c3 f1 f2 f3 hb
  rw [hW3, hg]
  clear hW3 hg H2 HB2 b3
  obtain ⟨c0, c1, c2, c3, f1, f2, f3, hb⟩ := H3.out.cells
  have HC := fun n => rquoted2_calls (W3.drewN n) b base v s (a + 1) l (H3.out.drewN n) hs (by omega)
  rw [HO.out] at HC
  have HHC := Lib.hid HC
  clear HC HO
  go_loopw [8] (fun i wr => wr = W3 ∧ (i = .int .i64 0 ∨ i = .int .i64 1)) (fun i _ => 7 - (RowKit.intOf i).toNat)
  case atStart => exact ⟨rfl, .inl rfl⟩
  case round =>
    rcases hrel with ⟨rfl, rfl | rfl⟩
    · go_wp2
      go_roundw
      case rel => simp
      case measure => simp [RowKit.intOf]
    · go_wp2
      go_region_with (first | (go_at_call 43; refine Calls.mono (HHC.out _) ?_; rintro e w5 ⟨⟨rfl, ⟨v5, a5, h5⟩, b5⟩, kp⟩; have hz5 := (kp (g + 1) gb).trans zb; have zz : w5.cell? ⟨g + 1, 1, none⟩ = some (.int .i64 13) := (by simp [World.cell?, hz5]); have HB5 := Lib.hid ((below_dr HB3.out).trans b5); clear b5 kp) | (go_at_call 31; refine Calls.mono (put_calls _ b base v5 s a5 l true 13 _ 0 h5 (by omega)) ?_; rintro e w6 ⟨rfl, ⟨v6, h6⟩, b6⟩; have H6 := Lib.hid h6; have HB6 := Lib.hid b6; clear h6 b6))
      all_goals
        go_wp2
        go_end0
        exact ⟨rfl, ⟨v6, a5, _, H6.out⟩, HB5.out.trans HB6.out⟩

set_option maxRecDepth 100000 in
set_option maxHeartbeats 4000000 in
theorem re_q2n (w : World) (b base : Nat) (v : Value) (s : ByteArray) (a : Nat) (l : List Tok) (h : RR w b base v s a l false) (hs : s.size ≤ 1000000) (hl : l.length ≤ 900000) (ha : a < s.size) (t : Tok) (is : Bool) (hsim : simR (pk s a) = (t, is)) (fst : Bool) (hfst : decide (a = 1) = fst) (hyp : pk s a = 120) (hO : quotedM s (a + 1) = none) :
    Calls Try.prog 30 #[.pointer (some ⟨b, 0, none⟩)] w (EscR b base s l w (namedE 14 (none))) := by
  obtain ⟨c0, c1, c2, c3, f1, f2, f3, hb⟩ := h.cells
  have hge := h.ge
  have HH := Lib.hid h
  clear h
  have hk := pk_get s a ha
  have hi : (a : Int) < s.size := by omega
  have hw : IntKind.i64.wrap ((a : Int) + 1) = (a : Int) + 1 := IntWalk.i64_in _ (by omega)
  have e1 : ((a : Int) == 1) = fst := by rw [← hfst]; by_cases q : a = 1 <;> simp [q]; omega
  have e1' : (a == 1) = fst := by rw [← hfst]; by_cases q : a = 1 <;> simp [q]
  rw [hk] at hsim
  have HS := Lib.hid (fun W => rsimple_calls _ W t is hsim)
  have Go1 : Hid (∀ (n : Nat), RR ((w.drewN n).setCell ⟨b, 1, none⟩ (.int .i64 ((a : Int) + 1))) b base v s (a + 1) l false) := Lib.hid fun n => (HH.out.drewN n).set1 _ (by omega)
  have Bel1 : Hid (∀ (n : Nat), Below base w ((w.drewN n).setCell ⟨b, 1, none⟩ (.int .i64 ((a : Int) + 1)))) := Lib.hid fun n => below_st (below_dr (Below.refl _ _)) hge
  have q104 : (((((⟨#[104, 118, 120, 108, 68, 111]⟩ : ByteArray)[0]'(by decide)).toNat : Nat) : Int) == (s[a].toNat : Int)) = false := by show ((104 : Int) == (s[a].toNat : Int)) = false; rw [beq_eq_false_iff_ne]; omega
  have q118 : (((((⟨#[104, 118, 120, 108, 68, 111]⟩ : ByteArray)[1]'(by decide)).toNat : Nat) : Int) == (s[a].toNat : Int)) = false := by show ((118 : Int) == (s[a].toNat : Int)) = false; rw [beq_eq_false_iff_ne]; omega
  have q120 : (((((⟨#[104, 118, 120, 108, 68, 111]⟩ : ByteArray)[2]'(by decide)).toNat : Nat) : Int) == (s[a].toNat : Int)) = true := by show ((120 : Int) == (s[a].toNat : Int)) = true; rw [beq_iff_eq]; omega
  have HO := Lib.hid hO
  clear hO
  clear hk hsim hfst hyp
  go_enter Try.func30, Try.ntmps30
  go_wp2
  go_quiet (fail)
  go_wp2_with (go_at_call 42; refine Calls.mono (HS.out _) ?_; rintro e w2 ⟨rfl, b2⟩; have h2 := (Go1.out _).below b2; have B2 := (Bel1.out _).trans (b2.mono (Go1.out _).top); clear b2 c0 c1 c2 c3 f1 f2 f3 hb; obtain ⟨c0, c1, c2, c3, f1, f2, f3, hb⟩ := h2.cells; have H2 := Lib.hid h2; have HB2 := Lib.hid B2; clear h2 B2)
  obtain ⟨g, hg⟩ : ∃ g, w2.heap.size = g := ⟨_, rfl⟩
  obtain ⟨W3, hW3⟩ : ∃ W, ((w2.alloc (.cells #[.int .i64 t.kind, .string t.text, .int .i64 t.n] 55)).alloc (.cells #[.int .i64 12, .int .i64 13, .int .i64 14, .int .i64 15, .int .i64 16, .int .i64 17] 3)) = W := ⟨_, rfl⟩
  have b3 : Below w2.heap.size w2 W3 := by rw [← hW3]; exact ((Below.refl _ _).alloc (Nat.le_refl _) _).alloc (by simp) _
  have H3 := Lib.hid (H2.out.below b3)
  have HB3 := Lib.hid (HB2.out.trans (b3.mono H2.out.top))
  have gb : g + 1 ≠ b := by have := H2.out.cells.2.2.2.2.2.2.2; omega
  have gne : some g ≠ v.ownBlock := fun e => by have := own_lt H2.out.own g e.symm; omega
  have kb : W3.heap[g]? = some (.cells #[.int .i64 t.kind, .string t.text, .int .i64 t.n] 55) := by rw [← hW3, ← hg]; exact (two_blk _ _ _).1
  have k0 : W3.cell? ⟨g, 0, none⟩ = some (.int .i64 t.kind) := by simp [World.cell?, kb]
  have k1 : W3.cell? ⟨g, 1, none⟩ = some (.string t.text) := by simp [World.cell?, kb]
  have k2 : W3.cell? ⟨g, 2, none⟩ = some (.int .i64 t.n) := by simp [World.cell?, kb]
  have zb : W3.heap[g + 1]? = some (.cells #[.int .i64 12, .int .i64 13, .int .i64 14, .int .i64 15, .int .i64 16, .int .i64 17] 3) := by rw [← hW3, ← hg]; exact (two_blk _ _ _).2
  have z0 : W3.cell? ⟨g + 1, 0, none⟩ = some (.int .i64 12) := by simp [World.cell?, zb]
  have z1 : W3.cell? ⟨g + 1, 1, none⟩ = some (.int .i64 13) := by simp [World.cell?, zb]
  have z2 : W3.cell? ⟨g + 1, 2, none⟩ = some (.int .i64 14) := by simp [World.cell?, zb]
  have z3 : W3.cell? ⟨g + 1, 3, none⟩ = some (.int .i64 15) := by simp [World.cell?, zb]
  have z4 : W3.cell? ⟨g + 1, 4, none⟩ = some (.int .i64 16) := by simp [World.cell?, zb]
  have z5 : W3.cell? ⟨g + 1, 5, none⟩ = some (.int .i64 17) := by simp [World.cell?, zb]
  have gl : g + 1 < W3.heap.size := by rw [← hW3, ← hg]; simp
  clear c0 c1 c2 c3 f1 f2 f3 hb
  rw [hW3, hg]
  clear hW3 hg H2 HB2 b3
  obtain ⟨c0, c1, c2, c3, f1, f2, f3, hb⟩ := H3.out.cells
  have HC := fun n => rquoted2_calls (W3.drewN n) b base v s (a + 1) l (H3.out.drewN n) hs (by omega)
  rw [HO.out] at HC
  have HHC := Lib.hid HC
  clear HC HO
  go_loopw [8] (fun i wr => wr = W3 ∧ (i = .int .i64 0 ∨ i = .int .i64 1 ∨ i = .int .i64 2)) (fun i _ => 7 - (RowKit.intOf i).toNat)
  case atStart => exact ⟨rfl, .inl rfl⟩
  case round =>
    rcases hrel with ⟨rfl, rfl | rfl | rfl⟩
    · go_wp2
      go_roundw
      case rel => simp
      case measure => simp [RowKit.intOf]
    · go_wp2
      go_roundw
      case rel => simp
      case measure => simp [RowKit.intOf]
    · go_wp2
      go_region_with (first | (go_at_call 43; refine Calls.mono (HHC.out _) ?_; rintro e w5 ⟨⟨rfl, ⟨v5, a5, h5⟩, b5⟩, kp⟩; have hz5 := (kp (g + 1) gb).trans zb; have zz : w5.cell? ⟨g + 1, 2, none⟩ = some (.int .i64 14) := (by simp [World.cell?, hz5]); have HB5 := Lib.hid ((below_dr HB3.out).trans b5); clear b5 kp) | (go_at_call 31; refine Calls.mono (put_calls _ b base v5 s a5 l true 14 _ 0 h5 (by omega)) ?_; rintro e w6 ⟨rfl, ⟨v6, h6⟩, b6⟩; have H6 := Lib.hid h6; have HB6 := Lib.hid b6; clear h6 b6))
      all_goals
        go_wp2
        go_end0
        exact ⟨rfl, ⟨v6, a5, _, H6.out⟩, HB5.out.trans HB6.out⟩

set_option maxRecDepth 100000 in
set_option maxHeartbeats 4000000 in
theorem re_q3n (w : World) (b base : Nat) (v : Value) (s : ByteArray) (a : Nat) (l : List Tok) (h : RR w b base v s a l false) (hs : s.size ≤ 1000000) (hl : l.length ≤ 900000) (ha : a < s.size) (t : Tok) (is : Bool) (hsim : simR (pk s a) = (t, is)) (fst : Bool) (hfst : decide (a = 1) = fst) (hyp : pk s a = 108) (hO : quotedM s (a + 1) = none) :
    Calls Try.prog 30 #[.pointer (some ⟨b, 0, none⟩)] w (EscR b base s l w (namedE 15 (none))) := by
  obtain ⟨c0, c1, c2, c3, f1, f2, f3, hb⟩ := h.cells
  have hge := h.ge
  have HH := Lib.hid h
  clear h
  have hk := pk_get s a ha
  have hi : (a : Int) < s.size := by omega
  have hw : IntKind.i64.wrap ((a : Int) + 1) = (a : Int) + 1 := IntWalk.i64_in _ (by omega)
  have e1 : ((a : Int) == 1) = fst := by rw [← hfst]; by_cases q : a = 1 <;> simp [q]; omega
  have e1' : (a == 1) = fst := by rw [← hfst]; by_cases q : a = 1 <;> simp [q]
  rw [hk] at hsim
  have HS := Lib.hid (fun W => rsimple_calls _ W t is hsim)
  have Go1 : Hid (∀ (n : Nat), RR ((w.drewN n).setCell ⟨b, 1, none⟩ (.int .i64 ((a : Int) + 1))) b base v s (a + 1) l false) := Lib.hid fun n => (HH.out.drewN n).set1 _ (by omega)
  have Bel1 : Hid (∀ (n : Nat), Below base w ((w.drewN n).setCell ⟨b, 1, none⟩ (.int .i64 ((a : Int) + 1)))) := Lib.hid fun n => below_st (below_dr (Below.refl _ _)) hge
  have q104 : (((((⟨#[104, 118, 120, 108, 68, 111]⟩ : ByteArray)[0]'(by decide)).toNat : Nat) : Int) == (s[a].toNat : Int)) = false := by show ((104 : Int) == (s[a].toNat : Int)) = false; rw [beq_eq_false_iff_ne]; omega
  have q118 : (((((⟨#[104, 118, 120, 108, 68, 111]⟩ : ByteArray)[1]'(by decide)).toNat : Nat) : Int) == (s[a].toNat : Int)) = false := by show ((118 : Int) == (s[a].toNat : Int)) = false; rw [beq_eq_false_iff_ne]; omega
  have q120 : (((((⟨#[104, 118, 120, 108, 68, 111]⟩ : ByteArray)[2]'(by decide)).toNat : Nat) : Int) == (s[a].toNat : Int)) = false := by show ((120 : Int) == (s[a].toNat : Int)) = false; rw [beq_eq_false_iff_ne]; omega
  have q108 : (((((⟨#[104, 118, 120, 108, 68, 111]⟩ : ByteArray)[3]'(by decide)).toNat : Nat) : Int) == (s[a].toNat : Int)) = true := by show ((108 : Int) == (s[a].toNat : Int)) = true; rw [beq_iff_eq]; omega
  have HO := Lib.hid hO
  clear hO
  clear hk hsim hfst hyp
  go_enter Try.func30, Try.ntmps30
  go_wp2
  go_quiet (fail)
  go_wp2_with (go_at_call 42; refine Calls.mono (HS.out _) ?_; rintro e w2 ⟨rfl, b2⟩; have h2 := (Go1.out _).below b2; have B2 := (Bel1.out _).trans (b2.mono (Go1.out _).top); clear b2 c0 c1 c2 c3 f1 f2 f3 hb; obtain ⟨c0, c1, c2, c3, f1, f2, f3, hb⟩ := h2.cells; have H2 := Lib.hid h2; have HB2 := Lib.hid B2; clear h2 B2)
  obtain ⟨g, hg⟩ : ∃ g, w2.heap.size = g := ⟨_, rfl⟩
  obtain ⟨W3, hW3⟩ : ∃ W, ((w2.alloc (.cells #[.int .i64 t.kind, .string t.text, .int .i64 t.n] 55)).alloc (.cells #[.int .i64 12, .int .i64 13, .int .i64 14, .int .i64 15, .int .i64 16, .int .i64 17] 3)) = W := ⟨_, rfl⟩
  have b3 : Below w2.heap.size w2 W3 := by rw [← hW3]; exact ((Below.refl _ _).alloc (Nat.le_refl _) _).alloc (by simp) _
  have H3 := Lib.hid (H2.out.below b3)
  have HB3 := Lib.hid (HB2.out.trans (b3.mono H2.out.top))
  have gb : g + 1 ≠ b := by have := H2.out.cells.2.2.2.2.2.2.2; omega
  have gne : some g ≠ v.ownBlock := fun e => by have := own_lt H2.out.own g e.symm; omega
  have kb : W3.heap[g]? = some (.cells #[.int .i64 t.kind, .string t.text, .int .i64 t.n] 55) := by rw [← hW3, ← hg]; exact (two_blk _ _ _).1
  have k0 : W3.cell? ⟨g, 0, none⟩ = some (.int .i64 t.kind) := by simp [World.cell?, kb]
  have k1 : W3.cell? ⟨g, 1, none⟩ = some (.string t.text) := by simp [World.cell?, kb]
  have k2 : W3.cell? ⟨g, 2, none⟩ = some (.int .i64 t.n) := by simp [World.cell?, kb]
  have zb : W3.heap[g + 1]? = some (.cells #[.int .i64 12, .int .i64 13, .int .i64 14, .int .i64 15, .int .i64 16, .int .i64 17] 3) := by rw [← hW3, ← hg]; exact (two_blk _ _ _).2
  have z0 : W3.cell? ⟨g + 1, 0, none⟩ = some (.int .i64 12) := by simp [World.cell?, zb]
  have z1 : W3.cell? ⟨g + 1, 1, none⟩ = some (.int .i64 13) := by simp [World.cell?, zb]
  have z2 : W3.cell? ⟨g + 1, 2, none⟩ = some (.int .i64 14) := by simp [World.cell?, zb]
  have z3 : W3.cell? ⟨g + 1, 3, none⟩ = some (.int .i64 15) := by simp [World.cell?, zb]
  have z4 : W3.cell? ⟨g + 1, 4, none⟩ = some (.int .i64 16) := by simp [World.cell?, zb]
  have z5 : W3.cell? ⟨g + 1, 5, none⟩ = some (.int .i64 17) := by simp [World.cell?, zb]
  have gl : g + 1 < W3.heap.size := by rw [← hW3, ← hg]; simp
  clear c0 c1 c2 c3 f1 f2 f3 hb
  rw [hW3, hg]
  clear hW3 hg H2 HB2 b3
  obtain ⟨c0, c1, c2, c3, f1, f2, f3, hb⟩ := H3.out.cells
  have HC := fun n => rquoted2_calls (W3.drewN n) b base v s (a + 1) l (H3.out.drewN n) hs (by omega)
  rw [HO.out] at HC
  have HHC := Lib.hid HC
  clear HC HO
  go_loopw [8] (fun i wr => wr = W3 ∧ (i = .int .i64 0 ∨ i = .int .i64 1 ∨ i = .int .i64 2 ∨ i = .int .i64 3)) (fun i _ => 7 - (RowKit.intOf i).toNat)
  case atStart => exact ⟨rfl, .inl rfl⟩
  case round =>
    rcases hrel with ⟨rfl, rfl | rfl | rfl | rfl⟩
    · go_wp2
      go_roundw
      case rel => simp
      case measure => simp [RowKit.intOf]
    · go_wp2
      go_roundw
      case rel => simp
      case measure => simp [RowKit.intOf]
    · go_wp2
      go_roundw
      case rel => simp
      case measure => simp [RowKit.intOf]
    · go_wp2
      go_region_with (first | (go_at_call 43; refine Calls.mono (HHC.out _) ?_; rintro e w5 ⟨⟨rfl, ⟨v5, a5, h5⟩, b5⟩, kp⟩; have hz5 := (kp (g + 1) gb).trans zb; have zz : w5.cell? ⟨g + 1, 3, none⟩ = some (.int .i64 15) := (by simp [World.cell?, hz5]); have HB5 := Lib.hid ((below_dr HB3.out).trans b5); clear b5 kp) | (go_at_call 31; refine Calls.mono (put_calls _ b base v5 s a5 l true 15 _ 0 h5 (by omega)) ?_; rintro e w6 ⟨rfl, ⟨v6, h6⟩, b6⟩; have H6 := Lib.hid h6; have HB6 := Lib.hid b6; clear h6 b6))
      all_goals
        go_wp2
        go_end0
        exact ⟨rfl, ⟨v6, a5, _, H6.out⟩, HB5.out.trans HB6.out⟩

set_option maxRecDepth 100000 in
set_option maxHeartbeats 4000000 in
theorem re_q4n (w : World) (b base : Nat) (v : Value) (s : ByteArray) (a : Nat) (l : List Tok) (h : RR w b base v s a l false) (hs : s.size ≤ 1000000) (hl : l.length ≤ 900000) (ha : a < s.size) (t : Tok) (is : Bool) (hsim : simR (pk s a) = (t, is)) (fst : Bool) (hfst : decide (a = 1) = fst) (hyp : pk s a = 68) (hO : quotedM s (a + 1) = none) :
    Calls Try.prog 30 #[.pointer (some ⟨b, 0, none⟩)] w (EscR b base s l w (namedE 16 (none))) := by
  obtain ⟨c0, c1, c2, c3, f1, f2, f3, hb⟩ := h.cells
  have hge := h.ge
  have HH := Lib.hid h
  clear h
  have hk := pk_get s a ha
  have hi : (a : Int) < s.size := by omega
  have hw : IntKind.i64.wrap ((a : Int) + 1) = (a : Int) + 1 := IntWalk.i64_in _ (by omega)
  have e1 : ((a : Int) == 1) = fst := by rw [← hfst]; by_cases q : a = 1 <;> simp [q]; omega
  have e1' : (a == 1) = fst := by rw [← hfst]; by_cases q : a = 1 <;> simp [q]
  rw [hk] at hsim
  have HS := Lib.hid (fun W => rsimple_calls _ W t is hsim)
  have Go1 : Hid (∀ (n : Nat), RR ((w.drewN n).setCell ⟨b, 1, none⟩ (.int .i64 ((a : Int) + 1))) b base v s (a + 1) l false) := Lib.hid fun n => (HH.out.drewN n).set1 _ (by omega)
  have Bel1 : Hid (∀ (n : Nat), Below base w ((w.drewN n).setCell ⟨b, 1, none⟩ (.int .i64 ((a : Int) + 1)))) := Lib.hid fun n => below_st (below_dr (Below.refl _ _)) hge
  have q104 : (((((⟨#[104, 118, 120, 108, 68, 111]⟩ : ByteArray)[0]'(by decide)).toNat : Nat) : Int) == (s[a].toNat : Int)) = false := by show ((104 : Int) == (s[a].toNat : Int)) = false; rw [beq_eq_false_iff_ne]; omega
  have q118 : (((((⟨#[104, 118, 120, 108, 68, 111]⟩ : ByteArray)[1]'(by decide)).toNat : Nat) : Int) == (s[a].toNat : Int)) = false := by show ((118 : Int) == (s[a].toNat : Int)) = false; rw [beq_eq_false_iff_ne]; omega
  have q120 : (((((⟨#[104, 118, 120, 108, 68, 111]⟩ : ByteArray)[2]'(by decide)).toNat : Nat) : Int) == (s[a].toNat : Int)) = false := by show ((120 : Int) == (s[a].toNat : Int)) = false; rw [beq_eq_false_iff_ne]; omega
  have q108 : (((((⟨#[104, 118, 120, 108, 68, 111]⟩ : ByteArray)[3]'(by decide)).toNat : Nat) : Int) == (s[a].toNat : Int)) = false := by show ((108 : Int) == (s[a].toNat : Int)) = false; rw [beq_eq_false_iff_ne]; omega
  have q68 : (((((⟨#[104, 118, 120, 108, 68, 111]⟩ : ByteArray)[4]'(by decide)).toNat : Nat) : Int) == (s[a].toNat : Int)) = true := by show ((68 : Int) == (s[a].toNat : Int)) = true; rw [beq_iff_eq]; omega
  have HO := Lib.hid hO
  clear hO
  clear hk hsim hfst hyp
  go_enter Try.func30, Try.ntmps30
  go_wp2
  go_quiet (fail)
  go_wp2_with (go_at_call 42; refine Calls.mono (HS.out _) ?_; rintro e w2 ⟨rfl, b2⟩; have h2 := (Go1.out _).below b2; have B2 := (Bel1.out _).trans (b2.mono (Go1.out _).top); clear b2 c0 c1 c2 c3 f1 f2 f3 hb; obtain ⟨c0, c1, c2, c3, f1, f2, f3, hb⟩ := h2.cells; have H2 := Lib.hid h2; have HB2 := Lib.hid B2; clear h2 B2)
  obtain ⟨g, hg⟩ : ∃ g, w2.heap.size = g := ⟨_, rfl⟩
  obtain ⟨W3, hW3⟩ : ∃ W, ((w2.alloc (.cells #[.int .i64 t.kind, .string t.text, .int .i64 t.n] 55)).alloc (.cells #[.int .i64 12, .int .i64 13, .int .i64 14, .int .i64 15, .int .i64 16, .int .i64 17] 3)) = W := ⟨_, rfl⟩
  have b3 : Below w2.heap.size w2 W3 := by rw [← hW3]; exact ((Below.refl _ _).alloc (Nat.le_refl _) _).alloc (by simp) _
  have H3 := Lib.hid (H2.out.below b3)
  have HB3 := Lib.hid (HB2.out.trans (b3.mono H2.out.top))
  have gb : g + 1 ≠ b := by have := H2.out.cells.2.2.2.2.2.2.2; omega
  have gne : some g ≠ v.ownBlock := fun e => by have := own_lt H2.out.own g e.symm; omega
  have kb : W3.heap[g]? = some (.cells #[.int .i64 t.kind, .string t.text, .int .i64 t.n] 55) := by rw [← hW3, ← hg]; exact (two_blk _ _ _).1
  have k0 : W3.cell? ⟨g, 0, none⟩ = some (.int .i64 t.kind) := by simp [World.cell?, kb]
  have k1 : W3.cell? ⟨g, 1, none⟩ = some (.string t.text) := by simp [World.cell?, kb]
  have k2 : W3.cell? ⟨g, 2, none⟩ = some (.int .i64 t.n) := by simp [World.cell?, kb]
  have zb : W3.heap[g + 1]? = some (.cells #[.int .i64 12, .int .i64 13, .int .i64 14, .int .i64 15, .int .i64 16, .int .i64 17] 3) := by rw [← hW3, ← hg]; exact (two_blk _ _ _).2
  have z0 : W3.cell? ⟨g + 1, 0, none⟩ = some (.int .i64 12) := by simp [World.cell?, zb]
  have z1 : W3.cell? ⟨g + 1, 1, none⟩ = some (.int .i64 13) := by simp [World.cell?, zb]
  have z2 : W3.cell? ⟨g + 1, 2, none⟩ = some (.int .i64 14) := by simp [World.cell?, zb]
  have z3 : W3.cell? ⟨g + 1, 3, none⟩ = some (.int .i64 15) := by simp [World.cell?, zb]
  have z4 : W3.cell? ⟨g + 1, 4, none⟩ = some (.int .i64 16) := by simp [World.cell?, zb]
  have z5 : W3.cell? ⟨g + 1, 5, none⟩ = some (.int .i64 17) := by simp [World.cell?, zb]
  have gl : g + 1 < W3.heap.size := by rw [← hW3, ← hg]; simp
  clear c0 c1 c2 c3 f1 f2 f3 hb
  rw [hW3, hg]
  clear hW3 hg H2 HB2 b3
  obtain ⟨c0, c1, c2, c3, f1, f2, f3, hb⟩ := H3.out.cells
  have HC := fun n => rquoted2_calls (W3.drewN n) b base v s (a + 1) l (H3.out.drewN n) hs (by omega)
  rw [HO.out] at HC
  have HHC := Lib.hid HC
  clear HC HO
  go_loopw [8] (fun i wr => wr = W3 ∧ (i = .int .i64 0 ∨ i = .int .i64 1 ∨ i = .int .i64 2 ∨ i = .int .i64 3 ∨ i = .int .i64 4)) (fun i _ => 7 - (RowKit.intOf i).toNat)
  case atStart => exact ⟨rfl, .inl rfl⟩
  case round =>
    rcases hrel with ⟨rfl, rfl | rfl | rfl | rfl | rfl⟩
    · go_wp2
      go_roundw
      case rel => simp
      case measure => simp [RowKit.intOf]
    · go_wp2
      go_roundw
      case rel => simp
      case measure => simp [RowKit.intOf]
    · go_wp2
      go_roundw
      case rel => simp
      case measure => simp [RowKit.intOf]
    · go_wp2
      go_roundw
      case rel => simp
      case measure => simp [RowKit.intOf]
    · go_wp2
      go_region_with (first | (go_at_call 43; refine Calls.mono (HHC.out _) ?_; rintro e w5 ⟨⟨rfl, ⟨v5, a5, h5⟩, b5⟩, kp⟩; have hz5 := (kp (g + 1) gb).trans zb; have zz : w5.cell? ⟨g + 1, 4, none⟩ = some (.int .i64 16) := (by simp [World.cell?, hz5]); have HB5 := Lib.hid ((below_dr HB3.out).trans b5); clear b5 kp) | (go_at_call 31; refine Calls.mono (put_calls _ b base v5 s a5 l true 16 _ 0 h5 (by omega)) ?_; rintro e w6 ⟨rfl, ⟨v6, h6⟩, b6⟩; have H6 := Lib.hid h6; have HB6 := Lib.hid b6; clear h6 b6))
      all_goals
        go_wp2
        go_end0
        exact ⟨rfl, ⟨v6, a5, _, H6.out⟩, HB5.out.trans HB6.out⟩

set_option maxRecDepth 100000 in
set_option maxHeartbeats 4000000 in
theorem re_q5n (w : World) (b base : Nat) (v : Value) (s : ByteArray) (a : Nat) (l : List Tok) (h : RR w b base v s a l false) (hs : s.size ≤ 1000000) (hl : l.length ≤ 900000) (ha : a < s.size) (t : Tok) (is : Bool) (hsim : simR (pk s a) = (t, is)) (fst : Bool) (hfst : decide (a = 1) = fst) (hyp : pk s a = 111) (hO : quotedM s (a + 1) = none) :
    Calls Try.prog 30 #[.pointer (some ⟨b, 0, none⟩)] w (EscR b base s l w (namedE 17 (none))) := by
  obtain ⟨c0, c1, c2, c3, f1, f2, f3, hb⟩ := h.cells
  have hge := h.ge
  have HH := Lib.hid h
  clear h
  have hk := pk_get s a ha
  have hi : (a : Int) < s.size := by omega
  have hw : IntKind.i64.wrap ((a : Int) + 1) = (a : Int) + 1 := IntWalk.i64_in _ (by omega)
  have e1 : ((a : Int) == 1) = fst := by rw [← hfst]; by_cases q : a = 1 <;> simp [q]; omega
  have e1' : (a == 1) = fst := by rw [← hfst]; by_cases q : a = 1 <;> simp [q]
  rw [hk] at hsim
  have HS := Lib.hid (fun W => rsimple_calls _ W t is hsim)
  have Go1 : Hid (∀ (n : Nat), RR ((w.drewN n).setCell ⟨b, 1, none⟩ (.int .i64 ((a : Int) + 1))) b base v s (a + 1) l false) := Lib.hid fun n => (HH.out.drewN n).set1 _ (by omega)
  have Bel1 : Hid (∀ (n : Nat), Below base w ((w.drewN n).setCell ⟨b, 1, none⟩ (.int .i64 ((a : Int) + 1)))) := Lib.hid fun n => below_st (below_dr (Below.refl _ _)) hge
  have q104 : (((((⟨#[104, 118, 120, 108, 68, 111]⟩ : ByteArray)[0]'(by decide)).toNat : Nat) : Int) == (s[a].toNat : Int)) = false := by show ((104 : Int) == (s[a].toNat : Int)) = false; rw [beq_eq_false_iff_ne]; omega
  have q118 : (((((⟨#[104, 118, 120, 108, 68, 111]⟩ : ByteArray)[1]'(by decide)).toNat : Nat) : Int) == (s[a].toNat : Int)) = false := by show ((118 : Int) == (s[a].toNat : Int)) = false; rw [beq_eq_false_iff_ne]; omega
  have q120 : (((((⟨#[104, 118, 120, 108, 68, 111]⟩ : ByteArray)[2]'(by decide)).toNat : Nat) : Int) == (s[a].toNat : Int)) = false := by show ((120 : Int) == (s[a].toNat : Int)) = false; rw [beq_eq_false_iff_ne]; omega
  have q108 : (((((⟨#[104, 118, 120, 108, 68, 111]⟩ : ByteArray)[3]'(by decide)).toNat : Nat) : Int) == (s[a].toNat : Int)) = false := by show ((108 : Int) == (s[a].toNat : Int)) = false; rw [beq_eq_false_iff_ne]; omega
  have q68 : (((((⟨#[104, 118, 120, 108, 68, 111]⟩ : ByteArray)[4]'(by decide)).toNat : Nat) : Int) == (s[a].toNat : Int)) = false := by show ((68 : Int) == (s[a].toNat : Int)) = false; rw [beq_eq_false_iff_ne]; omega
  have q111 : (((((⟨#[104, 118, 120, 108, 68, 111]⟩ : ByteArray)[5]'(by decide)).toNat : Nat) : Int) == (s[a].toNat : Int)) = true := by show ((111 : Int) == (s[a].toNat : Int)) = true; rw [beq_iff_eq]; omega
  have HO := Lib.hid hO
  clear hO
  clear hk hsim hfst hyp
  go_enter Try.func30, Try.ntmps30
  go_wp2
  go_quiet (fail)
  go_wp2_with (go_at_call 42; refine Calls.mono (HS.out _) ?_; rintro e w2 ⟨rfl, b2⟩; have h2 := (Go1.out _).below b2; have B2 := (Bel1.out _).trans (b2.mono (Go1.out _).top); clear b2 c0 c1 c2 c3 f1 f2 f3 hb; obtain ⟨c0, c1, c2, c3, f1, f2, f3, hb⟩ := h2.cells; have H2 := Lib.hid h2; have HB2 := Lib.hid B2; clear h2 B2)
  obtain ⟨g, hg⟩ : ∃ g, w2.heap.size = g := ⟨_, rfl⟩
  obtain ⟨W3, hW3⟩ : ∃ W, ((w2.alloc (.cells #[.int .i64 t.kind, .string t.text, .int .i64 t.n] 55)).alloc (.cells #[.int .i64 12, .int .i64 13, .int .i64 14, .int .i64 15, .int .i64 16, .int .i64 17] 3)) = W := ⟨_, rfl⟩
  have b3 : Below w2.heap.size w2 W3 := by rw [← hW3]; exact ((Below.refl _ _).alloc (Nat.le_refl _) _).alloc (by simp) _
  have H3 := Lib.hid (H2.out.below b3)
  have HB3 := Lib.hid (HB2.out.trans (b3.mono H2.out.top))
  have gb : g + 1 ≠ b := by have := H2.out.cells.2.2.2.2.2.2.2; omega
  have gne : some g ≠ v.ownBlock := fun e => by have := own_lt H2.out.own g e.symm; omega
  have kb : W3.heap[g]? = some (.cells #[.int .i64 t.kind, .string t.text, .int .i64 t.n] 55) := by rw [← hW3, ← hg]; exact (two_blk _ _ _).1
  have k0 : W3.cell? ⟨g, 0, none⟩ = some (.int .i64 t.kind) := by simp [World.cell?, kb]
  have k1 : W3.cell? ⟨g, 1, none⟩ = some (.string t.text) := by simp [World.cell?, kb]
  have k2 : W3.cell? ⟨g, 2, none⟩ = some (.int .i64 t.n) := by simp [World.cell?, kb]
  have zb : W3.heap[g + 1]? = some (.cells #[.int .i64 12, .int .i64 13, .int .i64 14, .int .i64 15, .int .i64 16, .int .i64 17] 3) := by rw [← hW3, ← hg]; exact (two_blk _ _ _).2
  have z0 : W3.cell? ⟨g + 1, 0, none⟩ = some (.int .i64 12) := by simp [World.cell?, zb]
  have z1 : W3.cell? ⟨g + 1, 1, none⟩ = some (.int .i64 13) := by simp [World.cell?, zb]
  have z2 : W3.cell? ⟨g + 1, 2, none⟩ = some (.int .i64 14) := by simp [World.cell?, zb]
  have z3 : W3.cell? ⟨g + 1, 3, none⟩ = some (.int .i64 15) := by simp [World.cell?, zb]
  have z4 : W3.cell? ⟨g + 1, 4, none⟩ = some (.int .i64 16) := by simp [World.cell?, zb]
  have z5 : W3.cell? ⟨g + 1, 5, none⟩ = some (.int .i64 17) := by simp [World.cell?, zb]
  have gl : g + 1 < W3.heap.size := by rw [← hW3, ← hg]; simp
  clear c0 c1 c2 c3 f1 f2 f3 hb
  rw [hW3, hg]
  clear hW3 hg H2 HB2 b3
  obtain ⟨c0, c1, c2, c3, f1, f2, f3, hb⟩ := H3.out.cells
  have HC := fun n => rquoted2_calls (W3.drewN n) b base v s (a + 1) l (H3.out.drewN n) hs (by omega)
  rw [HO.out] at HC
  have HHC := Lib.hid HC
  clear HC HO
  go_loopw [8] (fun i wr => wr = W3 ∧ (i = .int .i64 0 ∨ i = .int .i64 1 ∨ i = .int .i64 2 ∨ i = .int .i64 3 ∨ i = .int .i64 4 ∨ i = .int .i64 5)) (fun i _ => 7 - (RowKit.intOf i).toNat)
  case atStart => exact ⟨rfl, .inl rfl⟩
  case round =>
    rcases hrel with ⟨rfl, rfl | rfl | rfl | rfl | rfl | rfl⟩
    · go_wp2
      go_roundw
      case rel => simp
      case measure => simp [RowKit.intOf]
    · go_wp2
      go_roundw
      case rel => simp
      case measure => simp [RowKit.intOf]
    · go_wp2
      go_roundw
      case rel => simp
      case measure => simp [RowKit.intOf]
    · go_wp2
      go_roundw
      case rel => simp
      case measure => simp [RowKit.intOf]
    · go_wp2
      go_roundw
      case rel => simp
      case measure => simp [RowKit.intOf]
    · go_wp2
      go_region_with (first | (go_at_call 43; refine Calls.mono (HHC.out _) ?_; rintro e w5 ⟨⟨rfl, ⟨v5, a5, h5⟩, b5⟩, kp⟩; have hz5 := (kp (g + 1) gb).trans zb; have zz : w5.cell? ⟨g + 1, 5, none⟩ = some (.int .i64 17) := (by simp [World.cell?, hz5]); have HB5 := Lib.hid ((below_dr HB3.out).trans b5); clear b5 kp) | (go_at_call 31; refine Calls.mono (put_calls _ b base v5 s a5 l true 17 _ 0 h5 (by omega)) ?_; rintro e w6 ⟨rfl, ⟨v6, h6⟩, b6⟩; have H6 := Lib.hid h6; have HB6 := Lib.hid b6; clear h6 b6))
      all_goals
        go_wp2
        go_end0
        exact ⟨rfl, ⟨v6, a5, _, H6.out⟩, HB5.out.trans HB6.out⟩

end Go.Proofs.Ytaokofnhkojllaa

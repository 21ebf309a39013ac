/- Walks of layer 1's reader: operand, over the contracts at less fuel. -/
import Derived.Test.YtkomofphgnekoaaDoorWalkH
set_option linter.unusedVariables false
set_option linter.unusedSimpArgs false
namespace Go.Proofs.YtkomofphgnekoaaDoor
open Go.Shelf Go.RowKit Go.Lib Go.Aids Go.MapLit

/-- operand's contract at a fuel. -/
def CO (c : Cx) (f : Nat) : Prop := ∀ (w : World) (b a deep : Nat), St w b c a → a ≤ c.s.size → deep ≤ 20 → run c f (.oper a deep) ≠ .stuck →
  Calls Tryd.prog 33 #[.pointer (some ⟨b, 0, none⟩), .int .i64 deep] w (Post b c w (run c f (.oper a deep)))
def CE (c : Cx) (f : Nat) : Prop := ∀ (w : World) (b a deep : Nat), St w b c a → a ≤ c.s.size → deep ≤ 20 → run c f (.expr a deep) ≠ .stuck →
  Calls Tryd.prog 19 #[.pointer (some ⟨b, 0, none⟩), .int .i64 deep] w (Post b c w (run c f (.expr a deep)))

theorem number_post (w w2 : World) (b a : Nat) (c : Cx) (h : St w2 b c a) (ok : c.Ok) (ha : a ≤ c.s.size) (hk : Kp b w w2) :
    Calls Tryd.prog 45 #[.pointer (some ⟨b, 0, none⟩)] w2 (Post b c w (numberO c a)) := by
  refine (number_calls w2 b a c h ok ha).mono fun e w' hp => ?_
  cases hn : numberO c a <;> rw [hn] at hp
  · exact ⟨hp.1, hk.trans hp.2.1, hp.2.2⟩
  · exact ⟨hp.1, hk.trans hp.2⟩
  · trivial

set_option maxRecDepth 100000 in
set_option maxHeartbeats 8000000 in
theorem oper_step (c : Cx) (ok : c.Ok) (f : Nat) (IO : CO c f) (IE : CE c f) : CO c (f + 1) := by
  intro w b a0 deep h ha hd hns
  obtain ⟨o, ho⟩ : ∃ o, run c (f + 1) (.oper a0 deep) = o := ⟨_, rfl⟩
  rw [ho] at hns ⊢
  have hbl := blanks_calls w b a0 deep c h.rd ok.hs ha (by omega)
  simp only [run] at ho
  have hsk := skip_le c.s deep a0 ha
  obtain ⟨a, hask⟩ : ∃ a, skip c.s deep a0 = a := ⟨_, rfl⟩
  rw [hask] at ho hsk hbl
  have hs := ok.hs
  have Ho := Lib.hid ho
  have Hbl := Lib.hid hbl
  clear ho hbl hask
  by_cases hsign : pk c.s a = 43 ∨ pk c.s a = 45 ∨ pk c.s a = 33 ∨ pk c.s a = 124
  · have hlt := pk_lt (s := c.s) (a := a) (by omega)
    have ho := Ho.out
    rw [if_pos hsign] at ho
    have IO1 := fun w2 h2 => IO w2 b (a + 1) deep h2 (by omega) hd
    obtain ⟨o1, ho1⟩ : ∃ o1, run c f (.oper (a + 1) deep) = o1 := ⟨_, rfl⟩
    rw [ho1] at ho
    simp only [ho1] at IO1
    have hx : ∀ x t, o1 = .ok x t → (-1000000000 ≤ x ∧ x ≤ 1000000000) := fun x t e => (run_bound c f (.oper (a + 1) deep) x t (by show _ ≤ _; omega) (by rw [ho1, e])).1
    have HI := Lib.hid IO1
    have HO := Lib.hid ho
    clear IO1 ho ho1 Ho
    have hh0 := ok.h0
    have hh1 := ok.h1
    rcases o1 with ⟨x, t⟩ | k | _
    · obtain ⟨hx0, hx1⟩ := hx x t rfl
      rcases hsign with hp | hp | hp | hp
      · have hp' : ((pk c.s a : Nat) : Int) = 43 := by omega
        have ho := HO.out
        simp only [hp] at ho
        have Hoo := Lib.hid (show Out.ok x t = o from ho)
        clear ho
        go_enter Tryd.func33, Tryd.ntmps33
        go_wp2_with (first
          | (go_at_call 34; (with_reducible refine Hbl.out.mono ?_); rintro e w1 ⟨rfl, hk1, hrd1⟩; obtain ⟨q0, q1, q2, q3, q4, q5, q6, q7, qf⟩ := hrd1.cells)
          | (go_at_call 43; (with_reducible refine (peek_calls _ b a c (by (repeat (first | assumption | with_reducible apply Rd.drewN | with_reducible apply Rd.set1 | with_reducible apply Rd.set))) hs).mono ?_); rintro e w2 ⟨rfl, dn, rfl⟩)
          | (go_at_call 33; refine (HI.out _ (h.kp (by (repeat (first | assumption | with_reducible exact Kp.refl _ _ | with_reducible apply Kp.dr | with_reducible apply Kp.st))) (by (repeat (first | assumption | with_reducible apply Rd.drewN | with_reducible apply Rd.set1 | with_reducible apply Rd.set)))) (by intro h; cases h)).mono ?_; rintro e w3 ⟨rfl, hk3, hrd3⟩; obtain ⟨p0, p1, p2, p3, p4, p5, p6, p7, pf⟩ := hrd3.cells)
          )
        go_ret
        rw [← Hoo.out]
        exact ⟨rfl, (Kp.trans (by (repeat (first | assumption | with_reducible exact Kp.refl _ _ | with_reducible apply Kp.dr | with_reducible apply Kp.st))) hk3), hrd3⟩
      · have hp' : ((pk c.s a : Nat) : Int) = 45 := by omega
        have ho := HO.out
        simp only [hp] at ho
        have Hoo := Lib.hid (show Out.ok (-x) t = o from ho)
        clear ho
        go_enter Tryd.func33, Tryd.ntmps33
        go_wp2_with (first
          | (go_at_call 34; (with_reducible refine Hbl.out.mono ?_); rintro e w1 ⟨rfl, hk1, hrd1⟩; obtain ⟨q0, q1, q2, q3, q4, q5, q6, q7, qf⟩ := hrd1.cells)
          | (go_at_call 43; (with_reducible refine (peek_calls _ b a c (by (repeat (first | assumption | with_reducible apply Rd.drewN | with_reducible apply Rd.set1 | with_reducible apply Rd.set))) hs).mono ?_); rintro e w2 ⟨rfl, dn, rfl⟩)
          | (go_at_call 33; refine (HI.out _ (h.kp (by (repeat (first | assumption | with_reducible exact Kp.refl _ _ | with_reducible apply Kp.dr | with_reducible apply Kp.st))) (by (repeat (first | assumption | with_reducible apply Rd.drewN | with_reducible apply Rd.set1 | with_reducible apply Rd.set)))) (by intro h; cases h)).mono ?_; rintro e w3 ⟨rfl, hk3, hrd3⟩; obtain ⟨p0, p1, p2, p3, p4, p5, p6, p7, pf⟩ := hrd3.cells)
          )
        go_ret
        rw [← Hoo.out]
        exact ⟨rfl, (Kp.trans (by (repeat (first | assumption | with_reducible exact Kp.refl _ _ | with_reducible apply Kp.dr | with_reducible apply Kp.st))) hk3), hrd3⟩
      · have hp' : ((pk c.s a : Nat) : Int) = 33 := by omega
        have ho := HO.out
        simp only [hp] at ho
        by_cases hxp : 0 < x
        · have Hoo := Lib.hid (show Out.ok 0 t = o from by rw [← ho]; simp [hxp])
          clear ho
          go_enter Tryd.func33, Tryd.ntmps33
          go_wp2_with (first
          | (go_at_call 34; (with_reducible refine Hbl.out.mono ?_); rintro e w1 ⟨rfl, hk1, hrd1⟩; obtain ⟨q0, q1, q2, q3, q4, q5, q6, q7, qf⟩ := hrd1.cells)
          | (go_at_call 43; (with_reducible refine (peek_calls _ b a c (by (repeat (first | assumption | with_reducible apply Rd.drewN | with_reducible apply Rd.set1 | with_reducible apply Rd.set))) hs).mono ?_); rintro e w2 ⟨rfl, dn, rfl⟩)
          | (go_at_call 33; refine (HI.out _ (h.kp (by (repeat (first | assumption | with_reducible exact Kp.refl _ _ | with_reducible apply Kp.dr | with_reducible apply Kp.st))) (by (repeat (first | assumption | with_reducible apply Rd.drewN | with_reducible apply Rd.set1 | with_reducible apply Rd.set)))) (by intro h; cases h)).mono ?_; rintro e w3 ⟨rfl, hk3, hrd3⟩; obtain ⟨p0, p1, p2, p3, p4, p5, p6, p7, pf⟩ := hrd3.cells)
          )
          go_ret
          rw [← Hoo.out]
          exact ⟨rfl, (Kp.trans (by (repeat (first | assumption | with_reducible exact Kp.refl _ _ | with_reducible apply Kp.dr | with_reducible apply Kp.st))) hk3), hrd3⟩
        · have Hoo := Lib.hid (show Out.ok 1 t = o from by rw [← ho]; simp [hxp])
          clear ho
          go_enter Tryd.func33, Tryd.ntmps33
          go_wp2_with (first
          | (go_at_call 34; (with_reducible refine Hbl.out.mono ?_); rintro e w1 ⟨rfl, hk1, hrd1⟩; obtain ⟨q0, q1, q2, q3, q4, q5, q6, q7, qf⟩ := hrd1.cells)
          | (go_at_call 43; (with_reducible refine (peek_calls _ b a c (by (repeat (first | assumption | with_reducible apply Rd.drewN | with_reducible apply Rd.set1 | with_reducible apply Rd.set))) hs).mono ?_); rintro e w2 ⟨rfl, dn, rfl⟩)
          | (go_at_call 33; refine (HI.out _ (h.kp (by (repeat (first | assumption | with_reducible exact Kp.refl _ _ | with_reducible apply Kp.dr | with_reducible apply Kp.st))) (by (repeat (first | assumption | with_reducible apply Rd.drewN | with_reducible apply Rd.set1 | with_reducible apply Rd.set)))) (by intro h; cases h)).mono ?_; rintro e w3 ⟨rfl, hk3, hrd3⟩; obtain ⟨p0, p1, p2, p3, p4, p5, p6, p7, pf⟩ := hrd3.cells)
          )
          go_ret
          rw [← Hoo.out]
          exact ⟨rfl, (Kp.trans (by (repeat (first | assumption | with_reducible exact Kp.refl _ _ | with_reducible apply Kp.dr | with_reducible apply Kp.st))) hk3), hrd3⟩
      · have hp' : ((pk c.s a : Nat) : Int) = 124 := by omega
        have ho := HO.out
        simp only [hp] at ho
        have ho2 : heldO c (x - c.here) t = o := ho
        have Hoo := Lib.hid ho2
        have hH := fun wz (hz : Rd wz b c t) => held_ends wz b t c (x - c.here) hz
        rw [ho2] at hH
        have HH := Lib.hid hH
        clear ho ho2 hH
        rcases o with ⟨n', t'⟩ | k | _
        · obtain rfl : t' = t := (heldO_bound Hoo.out).2
          go_enter Tryd.func33, Tryd.ntmps33
          go_wp2_with (first
          | (go_at_call 34; (with_reducible refine Hbl.out.mono ?_); rintro e w1 ⟨rfl, hk1, hrd1⟩; obtain ⟨q0, q1, q2, q3, q4, q5, q6, q7, qf⟩ := hrd1.cells)
          | (go_at_call 43; (with_reducible refine (peek_calls _ b a c (by (repeat (first | assumption | with_reducible apply Rd.drewN | with_reducible apply Rd.set1 | with_reducible apply Rd.set))) hs).mono ?_); rintro e w2 ⟨rfl, dn, rfl⟩)
          | (go_at_call 33; refine (HI.out _ (h.kp (by (repeat (first | assumption | with_reducible exact Kp.refl _ _ | with_reducible apply Kp.dr | with_reducible apply Kp.st))) (by (repeat (first | assumption | with_reducible apply Rd.drewN | with_reducible apply Rd.set1 | with_reducible apply Rd.set)))) (by intro h; cases h)).mono ?_; rintro e w3 ⟨rfl, hk3, hrd3⟩; obtain ⟨p0, p1, p2, p3, p4, p5, p6, p7, pf⟩ := hrd3.cells)
          | (go_at_call 44; (with_reducible refine (HH.out _ hrd3).mono ?_); rintro e w5 ⟨rfl, rfl⟩))
          go_ret
          exact ⟨rfl, (Kp.trans (by (repeat (first | assumption | with_reducible exact Kp.refl _ _ | with_reducible apply Kp.dr | with_reducible apply Kp.st))) hk3), hrd3⟩
        · go_enter Tryd.func33, Tryd.ntmps33
          go_wp2_with (first
          | (go_at_call 34; (with_reducible refine Hbl.out.mono ?_); rintro e w1 ⟨rfl, hk1, hrd1⟩; obtain ⟨q0, q1, q2, q3, q4, q5, q6, q7, qf⟩ := hrd1.cells)
          | (go_at_call 43; (with_reducible refine (peek_calls _ b a c (by (repeat (first | assumption | with_reducible apply Rd.drewN | with_reducible apply Rd.set1 | with_reducible apply Rd.set))) hs).mono ?_); rintro e w2 ⟨rfl, dn, rfl⟩)
          | (go_at_call 33; refine (HI.out _ (h.kp (by (repeat (first | assumption | with_reducible exact Kp.refl _ _ | with_reducible apply Kp.dr | with_reducible apply Kp.st))) (by (repeat (first | assumption | with_reducible apply Rd.drewN | with_reducible apply Rd.set1 | with_reducible apply Rd.set)))) (by intro h; cases h)).mono ?_; rintro e w3 ⟨rfl, hk3, hrd3⟩; obtain ⟨p0, p1, p2, p3, p4, p5, p6, p7, pf⟩ := hrd3.cells)
          | (go_at_call 44; (with_reducible refine (HH.out _ hrd3).mono ?_); rintro e w5 ⟨rfl, rfl⟩))
          exact ⟨rfl, rfl, (Kp.trans (by (repeat (first | assumption | with_reducible exact Kp.refl _ _ | with_reducible apply Kp.dr | with_reducible apply Kp.st))) hk3)⟩
        · exact absurd Hoo.out heldO_stuck
    · have Hoo := Lib.hid (show Out.die k = o from HO.out)
      rcases hsign with hp | hp | hp | hp
      · have hp' : ((pk c.s a : Nat) : Int) = 43 := by omega
        go_enter Tryd.func33, Tryd.ntmps33
        go_wp2_with (first
          | (go_at_call 34; (with_reducible refine Hbl.out.mono ?_); rintro e w1 ⟨rfl, hk1, hrd1⟩; obtain ⟨q0, q1, q2, q3, q4, q5, q6, q7, qf⟩ := hrd1.cells)
          | (go_at_call 43; (with_reducible refine (peek_calls _ b a c (by (repeat (first | assumption | with_reducible apply Rd.drewN | with_reducible apply Rd.set1 | with_reducible apply Rd.set))) hs).mono ?_); rintro e w2 ⟨rfl, dn, rfl⟩)
          | (go_at_call 33; refine (HI.out _ (h.kp (by (repeat (first | assumption | with_reducible exact Kp.refl _ _ | with_reducible apply Kp.dr | with_reducible apply Kp.st))) (by (repeat (first | assumption | with_reducible apply Rd.drewN | with_reducible apply Rd.set1 | with_reducible apply Rd.set)))) (by intro h; cases h)).mono ?_; rintro e w3 ⟨rfl, hk3⟩)
          )
        rw [← Hoo.out]
        exact ⟨rfl, rfl, (Kp.trans (by (repeat (first | assumption | with_reducible exact Kp.refl _ _ | with_reducible apply Kp.dr | with_reducible apply Kp.st))) hk3)⟩
      · have hp' : ((pk c.s a : Nat) : Int) = 45 := by omega
        go_enter Tryd.func33, Tryd.ntmps33
        go_wp2_with (first
          | (go_at_call 34; (with_reducible refine Hbl.out.mono ?_); rintro e w1 ⟨rfl, hk1, hrd1⟩; obtain ⟨q0, q1, q2, q3, q4, q5, q6, q7, qf⟩ := hrd1.cells)
          | (go_at_call 43; (with_reducible refine (peek_calls _ b a c (by (repeat (first | assumption | with_reducible apply Rd.drewN | with_reducible apply Rd.set1 | with_reducible apply Rd.set))) hs).mono ?_); rintro e w2 ⟨rfl, dn, rfl⟩)
          | (go_at_call 33; refine (HI.out _ (h.kp (by (repeat (first | assumption | with_reducible exact Kp.refl _ _ | with_reducible apply Kp.dr | with_reducible apply Kp.st))) (by (repeat (first | assumption | with_reducible apply Rd.drewN | with_reducible apply Rd.set1 | with_reducible apply Rd.set)))) (by intro h; cases h)).mono ?_; rintro e w3 ⟨rfl, hk3⟩)
          )
        rw [← Hoo.out]
        exact ⟨rfl, rfl, (Kp.trans (by (repeat (first | assumption | with_reducible exact Kp.refl _ _ | with_reducible apply Kp.dr | with_reducible apply Kp.st))) hk3)⟩
      · have hp' : ((pk c.s a : Nat) : Int) = 33 := by omega
        go_enter Tryd.func33, Tryd.ntmps33
        go_wp2_with (first
          | (go_at_call 34; (with_reducible refine Hbl.out.mono ?_); rintro e w1 ⟨rfl, hk1, hrd1⟩; obtain ⟨q0, q1, q2, q3, q4, q5, q6, q7, qf⟩ := hrd1.cells)
          | (go_at_call 43; (with_reducible refine (peek_calls _ b a c (by (repeat (first | assumption | with_reducible apply Rd.drewN | with_reducible apply Rd.set1 | with_reducible apply Rd.set))) hs).mono ?_); rintro e w2 ⟨rfl, dn, rfl⟩)
          | (go_at_call 33; refine (HI.out _ (h.kp (by (repeat (first | assumption | with_reducible exact Kp.refl _ _ | with_reducible apply Kp.dr | with_reducible apply Kp.st))) (by (repeat (first | assumption | with_reducible apply Rd.drewN | with_reducible apply Rd.set1 | with_reducible apply Rd.set)))) (by intro h; cases h)).mono ?_; rintro e w3 ⟨rfl, hk3⟩)
          )
        rw [← Hoo.out]
        exact ⟨rfl, rfl, (Kp.trans (by (repeat (first | assumption | with_reducible exact Kp.refl _ _ | with_reducible apply Kp.dr | with_reducible apply Kp.st))) hk3)⟩
      · have hp' : ((pk c.s a : Nat) : Int) = 124 := by omega
        go_enter Tryd.func33, Tryd.ntmps33
        go_wp2_with (first
          | (go_at_call 34; (with_reducible refine Hbl.out.mono ?_); rintro e w1 ⟨rfl, hk1, hrd1⟩; obtain ⟨q0, q1, q2, q3, q4, q5, q6, q7, qf⟩ := hrd1.cells)
          | (go_at_call 43; (with_reducible refine (peek_calls _ b a c (by (repeat (first | assumption | with_reducible apply Rd.drewN | with_reducible apply Rd.set1 | with_reducible apply Rd.set))) hs).mono ?_); rintro e w2 ⟨rfl, dn, rfl⟩)
          | (go_at_call 33; refine (HI.out _ (h.kp (by (repeat (first | assumption | with_reducible exact Kp.refl _ _ | with_reducible apply Kp.dr | with_reducible apply Kp.st))) (by (repeat (first | assumption | with_reducible apply Rd.drewN | with_reducible apply Rd.set1 | with_reducible apply Rd.set)))) (by intro h; cases h)).mono ?_; rintro e w3 ⟨rfl, hk3⟩)
          )
        rw [← Hoo.out]
        exact ⟨rfl, rfl, (Kp.trans (by (repeat (first | assumption | with_reducible exact Kp.refl _ _ | with_reducible apply Kp.dr | with_reducible apply Kp.st))) hk3)⟩
    · exact absurd (show Out.stuck = o from HO.out).symm hns
  · have ho := Ho.out
    rw [if_neg hsign] at ho
    have n1 : ¬ ((pk c.s a : Nat) : Int) = 43 := by omega
    have n2 : ¬ ((pk c.s a : Nat) : Int) = 45 := by omega
    have n3 : ¬ ((pk c.s a : Nat) : Int) = 33 := by omega
    have n4 : ¬ ((pk c.s a : Nat) : Int) = 124 := by omega
    by_cases hp : pk c.s a = 40
    · rw [if_pos hp] at ho
      have hp' : ((pk c.s a : Nat) : Int) = 40 := by omega
      have hlt := pk_lt (s := c.s) (a := a) (by omega)
      clear n1 n2 n3 n4 Ho
      by_cases hd20 : deep = 20
      · rw [if_pos hd20] at ho
        have Hoo := Lib.hid ho
        clear ho
        have hd20' : (deep : Int) = 20 := by omega
        have hb2 := Hbl.out
        rw [hd20'] at hb2 ⊢
        have Hbl := Lib.hid hb2
        clear hb2 hd20'
        go_enter Tryd.func33, Tryd.ntmps33
        go_wp2_with (first
          | (go_at_call 34; (with_reducible refine Hbl.out.mono ?_); rintro e w1 ⟨rfl, hk1, hrd1⟩; obtain ⟨q0, q1, q2, q3, q4, q5, q6, q7, qf⟩ := hrd1.cells)
          | (go_at_call 43; (with_reducible refine (peek_calls _ b a c (by assumption) hs).mono ?_); rintro e w2 ⟨rfl, dn, rfl⟩)
          )
        rw [← Hoo.out]
        exact ⟨rfl, rfl, by (repeat (first | assumption | with_reducible exact Kp.refl _ _ | with_reducible apply Kp.dr | with_reducible apply Kp.st))⟩
      · rw [if_neg hd20] at ho
        have hd20' : ¬ (deep : Int) = 20 := by omega
        have IE1 := fun w2 h2 => IE w2 b (a + 1) (deep + 1) h2 (by omega) (by omega)
        obtain ⟨o1, ho1⟩ : ∃ o1, run c f (.expr (a + 1) (deep + 1)) = o1 := ⟨_, rfl⟩
        rw [ho1] at ho
        simp only [ho1] at IE1
        have ht : ∀ x t, o1 = .ok x t → t ≤ c.s.size := fun x t e => (run_bound c f (.expr (a + 1) (deep + 1)) x t (by show _ ≤ _; omega) (by rw [ho1, e])).2
        have HI := Lib.hid IE1
        have HO := Lib.hid ho
        clear IE1 ho ho1
        rcases o1 with ⟨x, t⟩ | k | _
        · have hts := ht x t rfl
          by_cases hq : pk c.s t = 41
          · have hq' : ((pk c.s t : Nat) : Int) = 41 := by omega
            have hltt := pk_lt (s := c.s) (a := t) (by omega)
            have Hoo := Lib.hid (show Out.ok x (t + 1) = o from by have := HO.out; simp only [if_pos hq] at this; exact this)
            go_enter Tryd.func33, Tryd.ntmps33
            go_wp2_with (first
          | (go_at_call 34; (with_reducible refine Hbl.out.mono ?_); rintro e w1 ⟨rfl, hk1, hrd1⟩; obtain ⟨q0, q1, q2, q3, q4, q5, q6, q7, qf⟩ := hrd1.cells)
          | (go_at_call 43; (with_reducible refine (peek_calls _ b a c (by assumption) hs).mono ?_); rintro e w2 ⟨rfl, dn, rfl⟩)
          | (go_at_call 19; refine (HI.out _ (h.kp (by (repeat (first | assumption | with_reducible exact Kp.refl _ _ | with_reducible apply Kp.dr | with_reducible apply Kp.st))) (by (repeat (first | assumption | with_reducible apply Rd.drewN | with_reducible apply Rd.set1 | with_reducible apply Rd.set)))) (by intro h; cases h)).mono ?_; rintro e w3 ⟨rfl, hk3, hrd3⟩; obtain ⟨p0, p1, p2, p3, p4, p5, p6, p7, pf⟩ := hrd3.cells)
          | (go_at_call 43; (with_reducible refine (peek_calls _ b t c hrd3 hs).mono ?_); rintro e w2 ⟨rfl, dn2, rfl⟩))
            go_ret
            rw [← Hoo.out]
            exact ⟨rfl, ((Kp.trans (by (repeat (first | assumption | with_reducible exact Kp.refl _ _ | with_reducible apply Kp.dr | with_reducible apply Kp.st))) hk3).dr _).st _ _, by (repeat (first | assumption | with_reducible apply Rd.drewN | with_reducible apply Rd.set1 | with_reducible apply Rd.set))⟩
          · have hq' : ¬ ((pk c.s t : Nat) : Int) = 41 := by omega
            have Hoo := Lib.hid (show Out.die 4 = o from by have := HO.out; simp only [if_neg hq] at this; exact this)
            go_enter Tryd.func33, Tryd.ntmps33
            go_wp2_with (first
          | (go_at_call 34; (with_reducible refine Hbl.out.mono ?_); rintro e w1 ⟨rfl, hk1, hrd1⟩; obtain ⟨q0, q1, q2, q3, q4, q5, q6, q7, qf⟩ := hrd1.cells)
          | (go_at_call 43; (with_reducible refine (peek_calls _ b a c (by assumption) hs).mono ?_); rintro e w2 ⟨rfl, dn, rfl⟩)
          | (go_at_call 19; refine (HI.out _ (h.kp (by (repeat (first | assumption | with_reducible exact Kp.refl _ _ | with_reducible apply Kp.dr | with_reducible apply Kp.st))) (by (repeat (first | assumption | with_reducible apply Rd.drewN | with_reducible apply Rd.set1 | with_reducible apply Rd.set)))) (by intro h; cases h)).mono ?_; rintro e w3 ⟨rfl, hk3, hrd3⟩; obtain ⟨p0, p1, p2, p3, p4, p5, p6, p7, pf⟩ := hrd3.cells)
          | (go_at_call 43; (with_reducible refine (peek_calls _ b t c hrd3 hs).mono ?_); rintro e w2 ⟨rfl, dn2, rfl⟩))
            rw [← Hoo.out]
            exact ⟨rfl, rfl, (Kp.trans (by (repeat (first | assumption | with_reducible exact Kp.refl _ _ | with_reducible apply Kp.dr | with_reducible apply Kp.st))) hk3).dr _⟩
        · have Hoo := Lib.hid (show Out.die k = o from HO.out)
          go_enter Tryd.func33, Tryd.ntmps33
          go_wp2_with (first
          | (go_at_call 34; (with_reducible refine Hbl.out.mono ?_); rintro e w1 ⟨rfl, hk1, hrd1⟩; obtain ⟨q0, q1, q2, q3, q4, q5, q6, q7, qf⟩ := hrd1.cells)
          | (go_at_call 43; (with_reducible refine (peek_calls _ b a c (by assumption) hs).mono ?_); rintro e w2 ⟨rfl, dn, rfl⟩)
          | (go_at_call 19; refine (HI.out _ (h.kp (by (repeat (first | assumption | with_reducible exact Kp.refl _ _ | with_reducible apply Kp.dr | with_reducible apply Kp.st))) (by (repeat (first | assumption | with_reducible apply Rd.drewN | with_reducible apply Rd.set1 | with_reducible apply Rd.set)))) (by intro h; cases h)).mono ?_; rintro e w3 ⟨rfl, hk3⟩))
          rw [← Hoo.out]
          exact ⟨rfl, rfl, Kp.trans (by (repeat (first | assumption | with_reducible exact Kp.refl _ _ | with_reducible apply Kp.dr | with_reducible apply Kp.st))) hk3⟩
        · exact absurd (show Out.stuck = o from HO.out).symm hns
    · rw [if_neg hp] at ho
      have n5 : ¬ ((pk c.s a : Nat) : Int) = 40 := by omega
      have Hoo := Lib.hid ho
      clear ho Ho
      rcases o with ⟨n', t'⟩ | k | _
      · go_enter Tryd.func33, Tryd.ntmps33
        go_wp2_with (first
          | (go_at_call 34; (with_reducible refine Hbl.out.mono ?_); rintro e w1 ⟨rfl, hk1, hrd1⟩; obtain ⟨q0, q1, q2, q3, q4, q5, q6, q7, qf⟩ := hrd1.cells)
          | (go_at_call 43; (with_reducible refine (peek_calls _ b a c (by assumption) hs).mono ?_); rintro e w2 ⟨rfl, dn, rfl⟩)
          | (go_at_call 45; refine (number_post w _ b a c (h.kp (by (repeat (first | assumption | with_reducible exact Kp.refl _ _ | with_reducible apply Kp.dr | with_reducible apply Kp.st))) (by (repeat (first | assumption | with_reducible apply Rd.drewN | with_reducible apply Rd.set1 | with_reducible apply Rd.set)))) ok hsk (by (repeat (first | assumption | with_reducible exact Kp.refl _ _ | with_reducible apply Kp.dr | with_reducible apply Kp.st)))).mono ?_; rw [Hoo.out]; rintro e w5 ⟨rfl, hk5, hrd5⟩))
        go_ret
        exact ⟨rfl, hk5, hrd5⟩
      · go_enter Tryd.func33, Tryd.ntmps33
        go_wp2_with (first
          | (go_at_call 34; (with_reducible refine Hbl.out.mono ?_); rintro e w1 ⟨rfl, hk1, hrd1⟩; obtain ⟨q0, q1, q2, q3, q4, q5, q6, q7, qf⟩ := hrd1.cells)
          | (go_at_call 43; (with_reducible refine (peek_calls _ b a c (by assumption) hs).mono ?_); rintro e w2 ⟨rfl, dn, rfl⟩)
          | (go_at_call 45; refine (number_post w _ b a c (h.kp (by (repeat (first | assumption | with_reducible exact Kp.refl _ _ | with_reducible apply Kp.dr | with_reducible apply Kp.st))) (by (repeat (first | assumption | with_reducible apply Rd.drewN | with_reducible apply Rd.set1 | with_reducible apply Rd.set)))) ok hsk (by (repeat (first | assumption | with_reducible exact Kp.refl _ _ | with_reducible apply Kp.dr | with_reducible apply Kp.st)))).mono ?_; rw [Hoo.out]; rintro e w5 ⟨rfl, hk5⟩))
        exact ⟨rfl, rfl, hk5⟩
      · exact absurd rfl hns
end Go.Proofs.YtkomofphgnekoaaDoor

/- Walks of layer 1's reader: expr, over the contracts at less fuel. -/
import Derived.Test.YtkomofphgnekoaaDoorWalkI
set_option linter.unusedVariables false
set_option linter.unusedSimpArgs false
namespace Go.Proofs.YtkomofphgnekoaaDoor
open Go.Shelf Go.RowKit Go.Lib Go.Aids Go.MapLit

set_option maxRecDepth 100000 in
set_option maxHeartbeats 8000000 in
theorem expr_step (c : Cx) (ok : c.Ok) (f : Nat) (IO : ∀ g, g ≤ f → CO c g) : CE c (f + 1) := by
  intro w b a0 deep h ha hd hns
  obtain ⟨o, ho⟩ : ∃ o, run c (f + 1) (.expr a0 deep) = o := ⟨_, rfl⟩
  rw [ho] at hns ⊢
  simp only [run] at ho
  have IO1 := fun hn => IO f (Nat.le_refl _) w b a0 deep h ha hd hn
  obtain ⟨o1, ho1⟩ : ∃ o1, run c f (.oper a0 deep) = o1 := ⟨_, rfl⟩
  rw [ho1] at ho IO1
  have hx : ∀ x t, o1 = .ok x t → (-1000000000 ≤ x ∧ x ≤ 1000000000) ∧ t ≤ c.s.size := fun x t e => run_bound c f (.oper a0 deep) x t ha (by rw [ho1, e])
  have hs := ok.hs
  have HI := Lib.hid IO1
  have HO := Lib.hid ho
  clear IO1 ho ho1
  rcases o1 with ⟨x0, t0⟩ | k | _
  · obtain ⟨hx0, ht0⟩ := hx x0 t0 rfl
    clear hx
    have Hoo := Lib.hid (show run c f (.loop x0 t0 deep) = o from HO.out)
    clear HO
    go_enter Tryd.func19, Tryd.ntmps19
    go_wp2_with (go_at_call 33; refine (HI.out (by intro h; cases h)).mono ?_; rintro e w1 ⟨rfl, hk1, hrd1⟩)
    go_loopg [5] f (fun k v wr => ∃ (x : Int) (a : Nat), v = .int .i64 x ∧ Kp b w wr ∧ Rd wr b c a ∧ a ≤ c.s.size ∧ (-1000000000 ≤ x ∧ x ≤ 1000000000) ∧ k ≤ f ∧ Hid (run c k (.loop x a deep) = o))
    case atStart => exact ⟨x0, t0, rfl, hk1, hrd1, ht0, hx0, Nat.le_refl _, Hoo⟩
    case round =>
      obtain ⟨x, a, rfl, hkp, hrd, hal, hxb, hkf, H⟩ := hrel
      clear hk1 hrd1 Hoo HI
      rcases gk with _ | k'
      · have := H.out
        exact absurd this.symm (by intro h; exact hns h)
      have hr := H.out
      simp only [run] at hr
      have hbl := fun w2 h2 => blanks_calls w2 b a deep c h2 hs hal (by omega)
      have hsk := skip_le c.s deep a hal
      obtain ⟨a1, ha1⟩ : ∃ a1, skip c.s deep a = a1 := ⟨_, rfl⟩
      rw [ha1] at hr hsk
      simp only [ha1] at hbl
      have Hbl := Lib.hid hbl
      have hop := fun w2 h2 => operator_calls w2 b a1 c h2 hs hsk
      clear hbl ha1 H
      rcases hol : operL c.s a1 with _ | p
      · rw [hol] at hr
        have e1 : opName c.s a1 = ⟨#[]⟩ := by unfold opName; rw [hol]; rfl
        simp only [e1] at hop
        have Hop := Lib.hid hop
        have Hr := Lib.hid (show Out.ok x a1 = o from hr)
        clear hop hr hol e1
        go_wp2_with (first
          | (go_at_call 34; (with_reducible refine (Hbl.out _ hrd).mono ?_); rintro e w1 ⟨rfl, hk1, hrd1⟩; obtain ⟨q0, q1, q2, q3, q4, q5, q6, q7, qf⟩ := hrd1.cells)
          | (go_at_call 35; (with_reducible refine (Hop.out _ hrd1).mono ?_); rintro e w2 ⟨rfl, hk2, hrd2⟩))
        go_ret
        rw [← Hr.out]
        exact ⟨rfl, (hkp.trans hk1).trans hk2, hrd2⟩
      · rw [hol] at hr
        obtain ⟨e1, hne⟩ := operL_name hol
        obtain ⟨hmem, hle, hpos⟩ := operL_some hol
        have hle := hle hsk
        simp only [e1] at hop
        have Hop := Lib.hid hop
        clear hop hol e1
        have IO2 := fun w2 b2 h2 hn => IO k' (by omega) w2 b2 (a1 + p.size) deep h2 hle hd hn
        obtain ⟨o1, ho1⟩ : ∃ o1, run c k' (.oper (a1 + p.size) deep) = o1 := ⟨_, rfl⟩
        have hy : ∀ y t, o1 = .ok y t → (-1000000000 ≤ y ∧ y ≤ 1000000000) ∧ t ≤ c.s.size := fun y t e => run_bound c k' (.oper (a1 + p.size) deep) y t hle (by rw [ho1, e])
        have hdz : ∀ k, o1 = .die k → k ≠ 0 := fun k e => run_die c k' (.oper (a1 + p.size) deep) k (by rw [ho1, e])
        simp only [ho1] at hr IO2
        have HR := Lib.hid hr
        clear hr ho1
        rcases o1 with ⟨y, t⟩ | k | _
        · obtain ⟨hyb, ht⟩ := hy y t rfl
          clear hy hdz
          have HI := Lib.hid (fun w2 h2 hn => IO2 w2 b h2 hn)
          have hre := fun w2 h2 => reckon_calls w2 b t c p x y h2 hmem hxb hyb
          obtain ⟨o2, ho2⟩ : ∃ o2, reckonO c p x y t = o2 := ⟨_, rfl⟩
          have hrr := HR.out
          simp only [ho2] at hrr hre
          have hz : ∀ z t2, o2 = .ok z t2 → (-1000000000 ≤ z ∧ z ≤ 1000000000) ∧ t2 = t := fun z t2 e => reckonO_bound (by rw [ho2, e])
          have hns2 : o2 ≠ .stuck := by rw [← ho2]; exact fun h => reckonO_stuck h
          have Hre := Lib.hid hre
          have HR2 := Lib.hid hrr
          clear hre hrr ho2 HR
          by_cases hdm : deep = 0 ∧ c.mute = true
          · obtain ⟨hd0, hmu⟩ := hdm
            have hd0' : (deep : Int) = 0 := by omega
            have Hfit := Lib.hid (show ∀ w2 b2, St w2 b2 c (a1 + p.size) → Calls Tryd.prog 33 #[.pointer (some ⟨b2, 0, none⟩), .int .i64 0] w2 (Post b2 c w2 (.ok y t)) from fun w2 b2 h2 => by rw [← hd0']; exact IO2 w2 b2 h2 (by intro h; cases h))
            have hde : ((deep : Int) == 0) = true := by rw [hd0']; rfl
            clear hd0 hd0' IO2
            rcases o2 with ⟨z, t2⟩ | k | _
            · obtain ⟨hzb, rfl⟩ := hz z t2 rfl
              clear hz hns2
              go_wp2_with (first
          | (go_at_call 34; (with_reducible refine (Hbl.out _ hrd).mono ?_); rintro e w1 ⟨rfl, hk1, hrd1⟩; obtain ⟨q0, q1, q2, q3, q4, q5, q6, q7, qf⟩ := hrd1.cells)
          | (go_at_call 35; (with_reducible refine (Hop.out _ hrd1).mono ?_); rintro e w2 ⟨rfl, hk2, hrd2⟩; have hk02 := (hkp.trans hk1).trans hk2; obtain ⟨y0, y1, y2, y3, y4, y5, y6, y7, yf⟩ := hrd2.cells)
          | (go_at_call 36; refine (fits_calls _ b (a1 + p.size) c _ (h.kp hk02 hrd2) Hfit.out (by intro h; cases h) (by intro k h; cases h)).mono ?_; rintro e w3 ⟨rfl, hb3⟩; have hk03 := hk02.trans (Kp.below hb3); have hrd3 := hrd2.below hb3; obtain ⟨z0, z1, z2, z3, z4, z5, z6, z7, zf⟩ := hrd3.cells)
          | (go_at_call 33; refine (HI.out _ (h.kp hk03 hrd3) (by intro h; cases h)).mono ?_; rintro e w4 ⟨rfl, hk4, hrd4⟩)
          | (go_at_call 37; (with_reducible refine (Hre.out _ hrd4).mono ?_); rintro e w5 ⟨rfl, rfl⟩))
              go_roundg k'
              case measure => omega
              case rel => exact ⟨z, _, rfl, hk03.trans hk4, hrd4, ht, hzb, by omega, Lib.hid HR2.out⟩
            · try clear hz hns2
              go_wp2_with (first
          | (go_at_call 34; (with_reducible refine (Hbl.out _ hrd).mono ?_); rintro e w1 ⟨rfl, hk1, hrd1⟩; obtain ⟨q0, q1, q2, q3, q4, q5, q6, q7, qf⟩ := hrd1.cells)
          | (go_at_call 35; (with_reducible refine (Hop.out _ hrd1).mono ?_); rintro e w2 ⟨rfl, hk2, hrd2⟩; have hk02 := (hkp.trans hk1).trans hk2; obtain ⟨y0, y1, y2, y3, y4, y5, y6, y7, yf⟩ := hrd2.cells)
          | (go_at_call 36; refine (fits_calls _ b (a1 + p.size) c _ (h.kp hk02 hrd2) Hfit.out (by intro h; cases h) (by intro k h; cases h)).mono ?_; rintro e w3 ⟨rfl, hb3⟩; have hk03 := hk02.trans (Kp.below hb3); have hrd3 := hrd2.below hb3; obtain ⟨z0, z1, z2, z3, z4, z5, z6, z7, zf⟩ := hrd3.cells)
          | (go_at_call 33; refine (HI.out _ (h.kp hk03 hrd3) (by intro h; cases h)).mono ?_; rintro e w4 ⟨rfl, hk4, hrd4⟩)
          | (go_at_call 37; (with_reducible refine (Hre.out _ hrd4).mono ?_); rintro e w5 ⟨rfl, rfl⟩))
              rw [← HR2.out]
              exact ⟨rfl, rfl, hk03.trans hk4⟩
            · exact absurd rfl hns2
          · clear IO2
            have hdm' : (((deep : Int) == 0) = false) ∨ (((deep : Int) == 0) = true ∧ c.mute = false) := by
              by_cases hd0 : deep = 0
              · right; refine ⟨by rw [hd0]; rfl, ?_⟩
                cases hm : c.mute
                · rfl
                · exact absurd ⟨hd0, hm⟩ hdm
              · left; exact beq_eq_false_iff_ne.2 (by omega)
            clear hdm
            rcases hdm' with hde | ⟨hde, hmu⟩
            all_goals
              rcases o2 with ⟨z, t2⟩ | k | _
              · obtain ⟨hzb, rfl⟩ := hz z t2 rfl
                clear hz hns2
                go_wp2_with (first
          | (go_at_call 34; (with_reducible refine (Hbl.out _ hrd).mono ?_); rintro e w1 ⟨rfl, hk1, hrd1⟩; obtain ⟨q0, q1, q2, q3, q4, q5, q6, q7, qf⟩ := hrd1.cells)
          | (go_at_call 35; (with_reducible refine (Hop.out _ hrd1).mono ?_); rintro e w2 ⟨rfl, hk2, hrd2⟩; have hk02 := (hkp.trans hk1).trans hk2; obtain ⟨y0, y1, y2, y3, y4, y5, y6, y7, yf⟩ := hrd2.cells)
          | (go_at_call 33; refine (HI.out _ (h.kp hk02 hrd2) (by intro h; cases h)).mono ?_; rintro e w4 ⟨rfl, hk4, hrd4⟩)
          | (go_at_call 37; (with_reducible refine (Hre.out _ hrd4).mono ?_); rintro e w5 ⟨rfl, rfl⟩))
                all_goals
                  go_roundg k'
                  case measure => omega
                  case rel => exact ⟨z, _, rfl, hk02.trans hk4, hrd4, ht, hzb, by omega, Lib.hid HR2.out⟩
              · try clear hz hns2
                go_wp2_with (first
          | (go_at_call 34; (with_reducible refine (Hbl.out _ hrd).mono ?_); rintro e w1 ⟨rfl, hk1, hrd1⟩; obtain ⟨q0, q1, q2, q3, q4, q5, q6, q7, qf⟩ := hrd1.cells)
          | (go_at_call 35; (with_reducible refine (Hop.out _ hrd1).mono ?_); rintro e w2 ⟨rfl, hk2, hrd2⟩; have hk02 := (hkp.trans hk1).trans hk2; obtain ⟨y0, y1, y2, y3, y4, y5, y6, y7, yf⟩ := hrd2.cells)
          | (go_at_call 33; refine (HI.out _ (h.kp hk02 hrd2) (by intro h; cases h)).mono ?_; rintro e w4 ⟨rfl, hk4, hrd4⟩)
          | (go_at_call 37; (with_reducible refine (Hre.out _ hrd4).mono ?_); rintro e w5 ⟨rfl, rfl⟩))
                all_goals
                  rw [← HR2.out]
                  exact ⟨rfl, rfl, hk02.trans hk4⟩
              · exact absurd rfl hns2
        · have hkz := hdz k rfl
          clear hy hdz
          have HI := Lib.hid (fun w2 h2 hn => IO2 w2 b h2 hn)
          by_cases hdm : deep = 0 ∧ c.mute = true
          · have hrr := HR.out
            simp only [if_pos hdm] at hrr
            have HR2 := Lib.hid hrr
            clear hrr HR
            obtain ⟨hd0, hmu⟩ := hdm
            have hd0' : (deep : Int) = 0 := by omega
            have Hfit := Lib.hid (show ∀ w2 b2, St w2 b2 c (a1 + p.size) → Calls Tryd.prog 33 #[.pointer (some ⟨b2, 0, none⟩), .int .i64 0] w2 (Post b2 c w2 (.die k)) from fun w2 b2 h2 => by rw [← hd0']; exact IO2 w2 b2 h2 (by intro h; cases h))
            have hde : ((deep : Int) == 0) = true := by rw [hd0']; rfl
            clear hd0 hd0' IO2 HI
            go_wp2_with (first
          | (go_at_call 34; (with_reducible refine (Hbl.out _ hrd).mono ?_); rintro e w1 ⟨rfl, hk1, hrd1⟩; obtain ⟨q0, q1, q2, q3, q4, q5, q6, q7, qf⟩ := hrd1.cells)
          | (go_at_call 35; (with_reducible refine (Hop.out _ hrd1).mono ?_); rintro e w2 ⟨rfl, hk2, hrd2⟩; have hk02 := (hkp.trans hk1).trans hk2; obtain ⟨y0, y1, y2, y3, y4, y5, y6, y7, yf⟩ := hrd2.cells)
          | (go_at_call 36; refine (fits_calls _ b (a1 + p.size) c _ (h.kp hk02 hrd2) Hfit.out (by intro h; cases h) (by intro k h; injection h with h; subst h; exact hkz)).mono ?_; rintro e w3 ⟨rfl, hb3⟩; have hk03 := hk02.trans (Kp.below hb3); have hrd3 := hrd2.below hb3; obtain ⟨z0, z1, z2, z3, z4, z5, z6, z7, zf⟩ := hrd3.cells))
            go_ret
            rw [← HR2.out]
            exact ⟨rfl, hk03.st _ _, hrd3.set _⟩
          · have hrr := HR.out
            simp only [if_neg hdm] at hrr
            have HR2 := Lib.hid hrr
            clear hrr HR
            have hdm' : (((deep : Int) == 0) = false) ∨ (((deep : Int) == 0) = true ∧ c.mute = false) := by
              by_cases hd0 : deep = 0
              · right; refine ⟨by rw [hd0]; rfl, ?_⟩
                cases hm : c.mute
                · rfl
                · exact absurd ⟨hd0, hm⟩ hdm
              · left; exact beq_eq_false_iff_ne.2 (by omega)
            clear hdm
            rcases hdm' with hde | ⟨hde, hmu⟩
            all_goals
              go_wp2_with (first
          | (go_at_call 34; (with_reducible refine (Hbl.out _ hrd).mono ?_); rintro e w1 ⟨rfl, hk1, hrd1⟩; obtain ⟨q0, q1, q2, q3, q4, q5, q6, q7, qf⟩ := hrd1.cells)
          | (go_at_call 35; (with_reducible refine (Hop.out _ hrd1).mono ?_); rintro e w2 ⟨rfl, hk2, hrd2⟩; have hk02 := (hkp.trans hk1).trans hk2; obtain ⟨y0, y1, y2, y3, y4, y5, y6, y7, yf⟩ := hrd2.cells)
          | (go_at_call 33; refine (HI.out _ (h.kp hk02 hrd2) (by intro h; cases h)).mono ?_; rintro e w4 ⟨rfl, hk4⟩))
              all_goals
                rw [← HR2.out]
                exact ⟨rfl, rfl, hk02.trans hk4⟩
        · exact absurd (show Out.stuck = o from HR.out).symm hns
  · have Hoo := Lib.hid (show Out.die k = o from HO.out)
    go_enter Tryd.func19, Tryd.ntmps19
    go_wp2_with (go_at_call 33; refine (HI.out (by intro h; cases h)).mono ?_; rintro e w1 ⟨rfl, hk1⟩)
    rw [← Hoo.out]
    exact ⟨rfl, rfl, hk1⟩
  · exact absurd (show Out.stuck = o from HO.out).symm hns
end Go.Proofs.YtkomofphgnekoaaDoor

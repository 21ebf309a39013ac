/- Printed by the kit's print, over the mended text. -/
import Derived.Test.YtmoloaneidledaaDoorPdatax0
import Derived.Test.YtmoloaneidledaaDoorRefA
import Derived.Test.YtmoloaneidledaaDoorPdatax3
namespace Go.Proofs.YtmoloaneidledaaDoor.Pdata
open Go.RowKit Go.Proofs.YtmoloaneidledaaDoorW.PrintWords Go.Proofs.YtmoloaneidledaaDoorW.PrintLast Go.Proofs.YtmoloaneidledaaDoorW.PrintMore
attribute [local go_sem] max2_int min2_int max_two min_two max_three min_three max_four min_four   -- for this text's walks alone
set_option linter.unusedVariables false
set_option linter.unusedSimpArgs false

/-! ### frisketref26_Data: function 25 -/
mutual
def frisketref26_Data.l0 : Nat → List (List (S69)) → List (S69) → List ByteArray → Int → Option ((List (List (S69))) × Int)
  | 0, _, _, _, _ => none
  | k + 1, x4, x5, x6, x7 => if x7 < (x6.length : Int) then (if 0 ≤ x7 then (if (rdOf ByteArray.empty x6 x7).toList = ([] : List UInt8) then (if (wrap64 ((x5.length : Int) - 1)) ≥ 0 then (if x4.length < 5864062014805 then (frisketref26_Data.l0 k (x4 ++ [x5]) ([] : List (S69)) x6 (wrap64 (x7 + 1))) else (none)) else (frisketref26_Data.l0 k x4 ([] : List (S69)) x6 (wrap64 (x7 + 1)))) else (if 0 < ((rdOf ByteArray.empty x6 x7).size : Int) then (if (bt (rdOf ByteArray.empty x6 x7) 0) = 37 then (frisketref26_Data.j1 k x4 x5 x6 x7 (rdOf ByteArray.empty x6 x7) (wrap64 ((x5.length : Int) - 1)) false) else (frisketref26_Data.j1 k x4 x5 x6 x7 (rdOf ByteArray.empty x6 x7) (wrap64 ((x5.length : Int) - 1)) (decide ((wrap64 ((x5.length : Int) - 1)) < 0)))) else (none))) else (none)) else (if (x4.length : Int) > 500 then (some (([] : List (List (S69))), 2)) else (some (x4, 0)))
def frisketref26_Data.j1 : Nat → List (List (S69)) → List (S69) → List ByteArray → Int → ByteArray → Int → Bool → Option ((List (List (S69))) × Int)
  | 0, _, _, _, _, _, _, _ => none
  | k + 1, x4, x5, x6, x7, x8, x9, x44 => if x44 = true then (some (([] : List (List (S69))), 4)) else (if 0 < (x8.size : Int) then (if (bt x8 0) = 37 then (if (x8.size : Int) < 4 then (frisketref26_Data.j2 k x4 x5 x6 x7 x8 true) else (if 1 < (x8.size : Int) then ((frisketref26_capital.f (bt x8 1)).bind fun t136 => (if t136 = true then (if 2 < (x8.size : Int) then (frisketref26_Data.j2 k x4 x5 x6 x7 x8 ((bt x8 2) != 32)) else (none)) else (frisketref26_Data.j2 k x4 x5 x6 x7 x8 true))) else (none))) else (if 0 ≤ x9 then (if x9 < (x5.length : Int) then (if ((rd_T69 x5 x9).f1).size + 1 ≤ 9223372036854775807 then (if (((rd_T69 x5 x9).f1) ++ (⟨#[32]⟩ : ByteArray)).size + x8.size ≤ 9223372036854775807 then (frisketref26_Data.l0 k x4 (x5.set (x9 : Int).toNat (⟨(rd_T69 x5 x9).f0, (((rd_T69 x5 x9).f1) ++ (⟨#[32]⟩ : ByteArray)) ++ x8⟩ : S69)) x6 (wrap64 (x7 + 1))) else (none)) else (none)) else (none)) else (none))) else (none))
def frisketref26_Data.j2 : Nat → List (List (S69)) → List (S69) → List ByteArray → Int → ByteArray → Bool → Option ((List (List (S69))) × Int)
  | 0, _, _, _, _, _, _ => none
  | k + 1, x4, x5, x6, x7, x8, x68 => if x68 = true then (some (([] : List (List (S69))), 4)) else (if 1 < (x8.size : Int) then (if (bt x8 1) = 65 then (if 3 ≤ (x8.size : Int) then (if x5.length < 5864062014805 then (frisketref26_Data.l0 k x4 (x5 ++ [(⟨bt x8 1, x8.extract 3 x8.size⟩ : S69)]) x6 (wrap64 (x7 + 1))) else (none)) else (none)) else ((frisketref26_has.f k x5 (bt x8 1)).bind fun t140 => (if t140 = true then (some (([] : List (List (S69))), 7)) else (if 3 ≤ (x8.size : Int) then (if x5.length < 5864062014805 then (frisketref26_Data.l0 k x4 (x5 ++ [(⟨bt x8 1, x8.extract 3 x8.size⟩ : S69)]) x6 (wrap64 (x7 + 1))) else (none)) else (none))))) else (none))
end
def frisketref26_Data.f (k : Nat) (a0 : ByteArray) : Option ((List (List (S69))) × Int) := (frisketref26_Lines.f k a0).bind fun t126 => (if t126.length < 8796093022208 then (frisketref26_Data.l0 k ([] : List (List (S69))) ([] : List (S69)) (t126 ++ [(⟨#[]⟩ : ByteArray)]) 0) else (none))
theorem frisketref26_Data.mono_l : ∀ k, (∀ y0 y1 y2 y3, LeO (frisketref26_Data.l0 k y0 y1 y2 y3) (frisketref26_Data.l0 (k + 1) y0 y1 y2 y3)) ∧ (∀ y0 y1 y2 y3 y4 y5 y6, LeO (frisketref26_Data.j1 k y0 y1 y2 y3 y4 y5 y6) (frisketref26_Data.j1 (k + 1) y0 y1 y2 y3 y4 y5 y6)) ∧ (∀ y0 y1 y2 y3 y4 y5, LeO (frisketref26_Data.j2 k y0 y1 y2 y3 y4 y5) (frisketref26_Data.j2 (k + 1) y0 y1 y2 y3 y4 y5))
  | 0 => ⟨fun _ _ _ _ r h => by simp [frisketref26_Data.l0] at h, fun _ _ _ _ _ _ _ r h => by simp [frisketref26_Data.j1] at h, fun _ _ _ _ _ _ r h => by simp [frisketref26_Data.j2] at h⟩
  | k + 1 => by
    obtain ⟨ih0, ih1, ih2⟩ := frisketref26_Data.mono_l k
    refine ⟨?_, ?_, ?_⟩
    · intro y0 y1 y2 y3
      unfold frisketref26_Data.l0
      repeat' first
      | (with_reducible exact ih0 _ _ _ _)
      | (with_reducible exact ih1 _ _ _ _ _ _ _)
      | (with_reducible exact ih2 _ _ _ _ _ _)
      | (with_reducible exact frisketref26_Lines.mono _ _)
      | (with_reducible exact frisketref26_has.mono _ _ _)
      | (with_reducible exact LeO.refl _)
      | (with_reducible exact LeO.none _)
      | (with_reducible refine LeO.ite ?_ ?_)
      | (with_reducible refine LeO.bind ?_ (fun _ => ?_))
      | exact ih0 _ _ _ _
      | exact ih1 _ _ _ _ _ _ _
      | exact ih2 _ _ _ _ _ _
      | exact frisketref26_Lines.mono _ _
      | exact frisketref26_has.mono _ _ _
      | exact LeO.none _
      | refine LeO.ite ?_ ?_
      | refine LeO.bind ?_ (fun _ => ?_)
    · intro y0 y1 y2 y3 y4 y5 y6
      unfold frisketref26_Data.j1
      repeat' first
      | (with_reducible exact ih0 _ _ _ _)
      | (with_reducible exact ih1 _ _ _ _ _ _ _)
      | (with_reducible exact ih2 _ _ _ _ _ _)
      | (with_reducible exact frisketref26_Lines.mono _ _)
      | (with_reducible exact frisketref26_has.mono _ _ _)
      | (with_reducible exact LeO.refl _)
      | (with_reducible exact LeO.none _)
      | (with_reducible refine LeO.ite ?_ ?_)
      | (with_reducible refine LeO.bind ?_ (fun _ => ?_))
      | exact ih0 _ _ _ _
      | exact ih1 _ _ _ _ _ _ _
      | exact ih2 _ _ _ _ _ _
      | exact frisketref26_Lines.mono _ _
      | exact frisketref26_has.mono _ _ _
      | exact LeO.none _
      | refine LeO.ite ?_ ?_
      | refine LeO.bind ?_ (fun _ => ?_)
    · intro y0 y1 y2 y3 y4 y5
      unfold frisketref26_Data.j2
      repeat' first
      | (with_reducible exact ih0 _ _ _ _)
      | (with_reducible exact ih1 _ _ _ _ _ _ _)
      | (with_reducible exact ih2 _ _ _ _ _ _)
      | (with_reducible exact frisketref26_Lines.mono _ _)
      | (with_reducible exact frisketref26_has.mono _ _ _)
      | (with_reducible exact LeO.refl _)
      | (with_reducible exact LeO.none _)
      | (with_reducible refine LeO.ite ?_ ?_)
      | (with_reducible refine LeO.bind ?_ (fun _ => ?_))
      | exact ih0 _ _ _ _
      | exact ih1 _ _ _ _ _ _ _
      | exact ih2 _ _ _ _ _ _
      | exact frisketref26_Lines.mono _ _
      | exact frisketref26_has.mono _ _ _
      | exact LeO.none _
      | refine LeO.ite ?_ ?_
      | refine LeO.bind ?_ (fun _ => ?_)
theorem frisketref26_Data.mono : ∀ a0 k, LeO (frisketref26_Data.f k a0) (frisketref26_Data.f (k + 1) a0) := by
  intro a0 k
  obtain ⟨ih0, ih1, ih2⟩ := frisketref26_Data.mono_l k
  unfold frisketref26_Data.f
  repeat' first
      | (with_reducible exact ih0 _ _ _ _)
      | (with_reducible exact ih1 _ _ _ _ _ _ _)
      | (with_reducible exact ih2 _ _ _ _ _ _)
      | (with_reducible exact frisketref26_Lines.mono _ _)
      | (with_reducible exact frisketref26_has.mono _ _ _)
      | (with_reducible exact LeO.refl _)
      | (with_reducible exact LeO.none _)
      | (with_reducible refine LeO.ite ?_ ?_)
      | (with_reducible refine LeO.bind ?_ (fun _ => ?_))
      | exact ih0 _ _ _ _
      | exact ih1 _ _ _ _ _ _ _
      | exact ih2 _ _ _ _ _ _
      | exact frisketref26_Lines.mono _ _
      | exact frisketref26_has.mono _ _ _
      | exact LeO.none _
      | refine LeO.ite ?_ ?_
      | refine LeO.bind ?_ (fun _ => ?_)
def frisketref26_Data.T9 : Bool × List (List Nat × List Nat) := (true, [([], []), ([], []), ([1], [1]), ([], []), ([3], [3]), ([2, 4], [2, 4]), ([5], [5]), ([0, 6], [0, 6]), ([7, 7, 0, 1, 2, 3, 4, 5, 6, 7], [0, 7])])
def frisketref26_Data.B9 : List Nat := [0, 0, 2, 0, 8, 30, 62, 127, 255]
theorem frisketref26_Data.tab9 : rtab .any (opsOf Tryd.f25 9) = frisketref26_Data.T9 := by kernel_rfl
theorem frisketref26_Data.bits9 : waitsOk frisketref26_Data.T9.2 frisketref26_Data.B9 = true := by kernel_rfl
set_option maxHeartbeats 8000000 in
set_option maxRecDepth 100000 in
theorem frisketref26_Data.calls (k : Nat) (a0 : ByteArray) (r1 : List (List (S69))) (r2 : Int) (w : World) (h : frisketref26_Data.f k a0 = some (r1, r2)) :
    Calls Tryd.prog 25 #[.string a0] w fun e w' => ∃ v0_ : Value, e = .returned (.tuple #[v0_, .int .i64 r2]) ∧ Kd.S (Kd.slice 69 k69) 45 w' w.heap.size (fun _ => True) v0_ r1 ∧ Below w.heap.size w w' := by
  have hu69 := Tryd.underlying69
  have HB := Aside0.mk (Below.refl w.heap.size w)
  have H : ((frisketref26_Lines.f k a0).bind fun t126 => (if t126.length < 8796093022208 then (frisketref26_Data.l0 k ([] : List (List (S69))) ([] : List (S69)) (t126 ++ [(⟨#[]⟩ : ByteArray)]) 0) else (none))) = some (r1, r2) := h
  clear h
  replace H := Option.bind_eq_some_iff.mp H
  obtain ⟨t126, A20, H⟩ := H
  replace H : (if t126.length < 8796093022208 then (frisketref26_Data.l0 k ([] : List (List (S69))) ([] : List (S69)) (t126 ++ [(⟨#[]⟩ : ByteArray)]) 0) else (none)) = some (r1, r2) := H
  have A2 := Aside0.mk A20
  clear A20
  by_cases c3 : t126.length < 8796093022208
  · rw [if_pos c3] at H
    have LMc3 := Aside0.mk c3
    clear c3
    obtain ⟨y129, hy129⟩ : ∃ y_ : List ByteArray, y_ = (t126 ++ [(⟨#[]⟩ : ByteArray)]) := ⟨_, rfl⟩
    replace H : (frisketref26_Data.l0 k ([] : List (List (S69))) ([] : List (S69)) y129 0) = some (r1, r2) := by first | (rw [hy129]; with_reducible exact H) | (have H2_ := (Option.bind_some _ _).symm.trans H; rw [hy129]; with_reducible exact H2_) | (have H2_ := (Option.bind_some _ _).symm.trans H; with_reducible exact H2_) | with_reducible exact H | (rw [hy129]; exact H) | exact H
    have Ny129 := Aside0.mk hy129
    clear hy129
    have H' := Aside0.mk H
    clear H
    go_enter Tryd.func25, Tryd.ntmps25
    go_wp2_with (first | ((with_reducible refine gate_callee (f := 46) rfl ?_); refine goesL_ (some 11) rfl rfl Tryd.func46 (by kernel_rfl) rfl #[.string a0] rfl (by (try simp only [List.map_toArray, List.map_cons, List.map_nil]); first | done | rfl | (simp only [List.length_drop, List.length_take]; rfl)) ?_; (with_reducible refine (frisketref26_Lines.calls k a0 t126 _ A2.out).mono ?_); rintro e w4 ⟨v127, rfl, ho0, hb⟩; refine ⟨_, rfl, ?_⟩; have n0_ := Aside0.mk (Kd.R_lower ho0 (below_size (by repeat (first | (with_reducible first | exact HB.out | apply below_alloc | apply pw_below_drewN | apply below_drew1) | exact HB.out)))); have n1_ := Aside0.mk (below_step (by repeat (first | (with_reducible first | exact HB.out | apply below_alloc | apply pw_below_drewN | apply below_drew1) | exact HB.out)) hb); clear HB; have HO128 := n0_; have HB := n1_; clear n0_ n1_; (try clear hb); (try clear hb2); (try clear hk); (try clear hi); (try clear ho0)) | ((with_reducible refine gate_builtin (b := .append) (xs := #[.tmp 11, .tmp 12]) rfl ?_); at_builtin; refine Kd.R_append Kd.string (w0 := w) w.heap.size rfl (.tmp 11) (.tmp 12) 39 9 (.string ⟨#[]⟩) 16 rfl Tryd.underlying39 info9 rfl (by decide) (by omega) v127 t126 (⟨#[]⟩ : ByteArray) [.string (⟨#[]⟩ : ByteArray)] (fun _ => True) (fun _ => False) rfl rfl ?aP (fun _ hk => hk.elim) ?aF ?aO ?aB ?aS ?aL ?_; (case aP => exact rfl); (case aB => exact (by repeat (first | (with_reducible first | exact HB.out | apply below_alloc | apply pw_below_drewN | apply below_drew1) | exact HB.out))); (case aF => exact (fun _ _ => trivial)); (case aO => exact (by (with_reducible repeat (first | apply Kd.R_alloc | apply Kd.R_drewN | apply Kd.R_drew)); exact HO128.out)); (case aS => exact (below_size (by repeat (first | (with_reducible first | exact HB.out | apply below_alloc | apply pw_below_drewN | apply below_drew1) | exact HB.out)))); (case aL => have := LMc3.out; omega); intro v130 w5 ho hb hg hat; rw [← Ny129.out] at ho; have n0_ := Aside0.mk (hb); have n1_ := Aside0.mk (ho); clear HB; clear HO128; have HB := n0_; have HO131 := n1_; clear n0_ n1_; clear ho hb hg hat))
    go_loopg [4, 5, 7] k (fun kq v4 v5 v7 w' => ∃ (x4_1 : List (List (S69))) (x5_1 : List (S69)) (x7_1 : Int), v7 = .int .i64 x7_1 ∧ Aside0 (frisketref26_Data.l0 kq x4_1 x5_1 y129 x7_1 = some (r1, r2)) ∧ Aside0 (kq ≤ k) ∧ Aside0 (Kd.S (Kd.slice 69 k69) 45 w' w.heap.size (fun k_ => some k_ ≠ (v5 : Value).ownBlock) v4 x4_1) ∧ Aside0 (Kd.R k69 69 w' w.heap.size (fun _ => True) v5 x5_1) ∧ Aside0 (Kd.R Kd.string 9 w' w.heap.size (fun _ => True) v130 y129) ∧ Aside0 (Below w.heap.size w w'))
    case atStart => exact ⟨(([] : List (List (S69)))), (([] : List (S69))), (0), (by first | rfl | (simp; done) | (simp [*]; done)), H', ⟨Nat.le_refl _⟩, ⟨by first | exact Kd.S_nil _ _ _ _ _ | exact Kd.N_nil _ _ _ _ _ | exact Kd.V_nil _ _ _ _ _ | exact Kd.Q_nil _ _ _ _ _ | exact Kd.R_nil _ _ _ _ _⟩, ⟨by first | exact Kd.R_nil _ _ _ _ _ | exact Kd.N_nil _ _ _ _ _ | exact Kd.V_nil _ _ _ _ _ | exact Kd.Q_nil _ _ _ _ _ | exact Kd.S_nil _ _ _ _ _⟩, ⟨by (with_reducible repeat (first | apply Kd.R_alloc | apply Kd.R_drewN | apply Kd.R_drew)); exact HO131.out⟩, ⟨by repeat (first | (with_reducible first | exact HB.out | apply below_alloc | apply pw_below_drewN | apply below_drew1) | exact HB.out)⟩⟩
    case round =>
      clear H'
      try clear c2
      try clear p2
      try clear c3
      try clear c4
      obtain ⟨x4_1, x5_1, x7_1, rfl, HA, HK1, HO_4, HO_5, HO_6, HB⟩ := hrel
      cases gk with
      | zero => exact absurd HA.out (by simp [frisketref26_Data.l0])
      | succ k1 =>
        have H := HA.out
        clear HA
        simp only [frisketref26_Data.l0] at H
        by_cases c6 : x7_1 < (y129.length : Int)
        · rw [if_pos c6] at H
          have c6b0 : decide (x7_1 < (y129.length : Int)) = true := decide_eq_true c6
          clear c6
          by_cases c7 : 0 ≤ x7_1
          · rw [if_pos c7] at H
            have c7b0 : decide (0 ≤ x7_1) = true := decide_eq_true c7
            clear c7
            by_cases c8 : (rdOf ByteArray.empty y129 x7_1).toList = ([] : List UInt8)
            · rw [if_pos c8] at H
              have c8b0 : ((rdOf ByteArray.empty y129 x7_1).toList == ([] : List UInt8)) = true := beq_iff_eq.mpr c8
              have c8b1 : ((rdOf ByteArray.empty y129 x7_1).toList != ([] : List UInt8)) = false := bne_eq_false_iff_eq.mpr c8
              clear c8
              by_cases c9 : (wrap64 ((x5_1.length : Int) - 1)) ≥ 0
              · rw [if_pos c9] at H
                have c9b0 : decide (0 ≤ (wrap64 ((x5_1.length : Int) - 1))) = true := decide_eq_true c9
                clear c9
                by_cases c10 : x4_1.length < 5864062014805
                · rw [if_pos c10] at H
                  have LMc10 := Aside0.mk c10
                  clear c10
                  obtain ⟨y133, hy133⟩ : ∃ y_ : List (List (S69)), y_ = (x4_1 ++ [x5_1]) := ⟨_, rfl⟩
                  replace H : (frisketref26_Data.l0 k1 y133 ([] : List (S69)) y129 (wrap64 (x7_1 + 1))) = some (r1, r2) := by first | (rw [hy133]; with_reducible exact H) | (have H2_ := (Option.bind_some _ _).symm.trans H; rw [hy133]; with_reducible exact H2_) | (have H2_ := (Option.bind_some _ _).symm.trans H; with_reducible exact H2_) | with_reducible exact H | (rw [hy133]; exact H) | exact H
                  have Ny133 := Aside0.mk hy133
                  clear hy133
                  have H' := Aside0.mk H
                  clear H
                  obtain ⟨Ao11, co11, eo11⟩ := Kd.R_slice HO_6.out
                  subst eo11
                  have p132 : 0 ≤ (x7_1 : Int) := of_decide_eq_true (by first | (with_reducible assumption) | assumption)
                  have q132 : x7_1 < (y129.length : Int) := of_decide_eq_true (by first | (with_reducible assumption) | assumption)
                  obtain ⟨ad132, e132, hx132_0⟩ := Kd.at_string (Kd.R_reads' HO_6.out).2.2 x7_1 p132 q132
                  cases e132
                  replace p132 := eq_true p132
                  replace q132 := eq_true q132
                  obtain ⟨Ao12, co12, eo12⟩ := Kd.R_slice HO_5.out
                  subst eo12
                  go_wp2_with (first | ((with_reducible refine gate_builtin (b := .append) (xs := #[.tmp 40, .tmp 42]) rfl ?_); at_builtin; refine Kd.S_append (Kd.slice 69 k69) (w0 := w) w.heap.size rfl (.tmp 40) (.tmp 42) 33 45 (.slice none 0 0) 24 rfl Tryd.underlying33 info45 rfl (by decide) (by omega) u4 x4_1 x5_1 [.slice Ao12 x5_1.length co12] (fun _ => True) (fun k_ => some k_ = (.slice Ao12 x5_1.length co12 : Value).ownBlock) rfl rfl ?aP (fun k_ hk_ => ((Kd.R_mono (ok' := fun k_ => ((fun _ => True)) k_ ∧ some k_ ≠ (u4 : Value).ownBlock) (Kd.R_apart' (HO_5.out) (Kd.S_typed HO_4.out) (by decide)) (fun k_ hk => ⟨trivial, hk.2⟩))).1 k_ hk_.symm) ?aF ?aO ?aB ?aS ?aL ?_; (case aP => exact Kd.M_row (Kd.R_mono (Kd.R_tight rfl (Kd.R_mono (ok' := fun k_ => ((fun _ => True)) k_ ∧ some k_ ≠ (u4 : Value).ownBlock) (Kd.R_apart' (HO_5.out) (Kd.S_typed HO_4.out) (by decide)) (fun k_ hk => ⟨trivial, hk.2⟩))) (fun _ h_ => h_))); (case aB => exact (by repeat (first | (with_reducible first | exact HB.out | apply below_alloc | apply pw_below_drewN | apply below_drew1) | exact HB.out))); (case aF => exact (fun _ _ => trivial)); (case aO => exact (by (with_reducible repeat (first | apply Kd.S_alloc | apply Kd.S_drewN | apply Kd.S_drew)); exact Kd.S_mono HO_4.out (fun k_ hk => ⟨trivial, fun e_ => hk e_⟩))); (case aS => exact (below_size (by repeat (first | (with_reducible first | exact HB.out | apply below_alloc | apply pw_below_drewN | apply below_drew1) | exact HB.out)))); (case aL => have := LMc10.out; omega); intro v134 w13 ho hb hg hat; rw [← Ny133.out] at ho; have n0_ := Aside0.mk (Kd.R_over' (by (with_reducible repeat (first | apply Kd.R_alloc | apply Kd.R_drewN | apply Kd.R_drew)); exact HO_6.out) (Kd.S_typed (by (with_reducible repeat (first | apply Kd.S_alloc | apply Kd.S_drewN | apply Kd.S_drew)); exact HO_4.out)) (by decide) hg); have n1_ := Aside0.mk (hb); have n2_ := Aside0.mk (ho); clear HO_6; clear HB; clear HO_4; clear HO_5; have HO_6 := n0_; have HB := n1_; have HO135 := n2_; clear n0_ n1_ n2_; clear ho hb hg hat))
                  go_roundg k1
                  case measure => have := HK1.out; omega
                  case rel => exact ⟨(y133), (([] : List (S69))), (wrap64 (x7_1 + 1)), (by first | rfl | (simp; done) | (simp [*]; done)), H', ⟨by have := HK1.out; omega⟩, ⟨by (with_reducible repeat (first | apply Kd.S_alloc | apply Kd.S_drewN | apply Kd.S_drew)); exact Kd.S_mono HO135.out (fun _ hk => (by simp [Value.ownBlock]))⟩, ⟨by first | exact Kd.R_nil _ _ _ _ _ | exact Kd.N_nil _ _ _ _ _ | exact Kd.V_nil _ _ _ _ _ | exact Kd.Q_nil _ _ _ _ _ | exact Kd.S_nil _ _ _ _ _⟩, ⟨by (with_reducible repeat (first | apply Kd.R_alloc | apply Kd.R_drewN | apply Kd.R_drew)); exact HO_6.out⟩, ⟨by repeat (first | (with_reducible first | exact HB.out | apply below_alloc | apply pw_below_drewN | apply below_drew1) | exact HB.out)⟩⟩
                · rw [if_neg c10] at H
                  exact absurd H (by simp)
              · rw [if_neg c9] at H
                have c9b0 : decide (0 ≤ (wrap64 ((x5_1.length : Int) - 1))) = false := decide_eq_false c9
                clear c9
                have H' := Aside0.mk H
                clear H
                obtain ⟨Ao14, co14, eo14⟩ := Kd.R_slice HO_6.out
                subst eo14
                have p132 : 0 ≤ (x7_1 : Int) := of_decide_eq_true (by first | (with_reducible assumption) | assumption)
                have q132 : x7_1 < (y129.length : Int) := of_decide_eq_true (by first | (with_reducible assumption) | assumption)
                obtain ⟨ad132, e132, hx132_0⟩ := Kd.at_string (Kd.R_reads' HO_6.out).2.2 x7_1 p132 q132
                cases e132
                replace p132 := eq_true p132
                replace q132 := eq_true q132
                obtain ⟨Ao15, co15, eo15⟩ := Kd.R_slice HO_5.out
                subst eo15
                go_wp2
                go_roundg k1
                case measure => have := HK1.out; omega
                case rel => exact ⟨(x4_1), (([] : List (S69))), (wrap64 (x7_1 + 1)), (by first | rfl | (simp; done) | (simp [*]; done)), H', ⟨by have := HK1.out; omega⟩, ⟨by (with_reducible repeat (first | apply Kd.S_alloc | apply Kd.S_drewN | apply Kd.S_drew)); exact Kd.S_mono HO_4.out (fun _ hk => (by simp [Value.ownBlock]))⟩, ⟨by first | exact Kd.R_nil _ _ _ _ _ | exact Kd.N_nil _ _ _ _ _ | exact Kd.V_nil _ _ _ _ _ | exact Kd.Q_nil _ _ _ _ _ | exact Kd.S_nil _ _ _ _ _⟩, ⟨by (with_reducible repeat (first | apply Kd.R_alloc | apply Kd.R_drewN | apply Kd.R_drew)); exact HO_6.out⟩, ⟨by repeat (first | (with_reducible first | exact HB.out | apply below_alloc | apply pw_below_drewN | apply below_drew1) | exact HB.out)⟩⟩
            · rw [if_neg c8] at H
              have c8b0 : ((rdOf ByteArray.empty y129 x7_1).toList == ([] : List UInt8)) = false := beq_eq_false_iff_ne.mpr c8
              have c8b1 : ((rdOf ByteArray.empty y129 x7_1).toList != ([] : List UInt8)) = true := bne_iff_ne.mpr c8
              have HC16 := Aside0.mk H
              clear H
              obtain ⟨Ao17, co17, eo17⟩ := Kd.R_slice HO_6.out
              subst eo17
              have p132 : 0 ≤ (x7_1 : Int) := of_decide_eq_true (by first | (with_reducible assumption) | assumption)
              have q132 : x7_1 < (y129.length : Int) := of_decide_eq_true (by first | (with_reducible assumption) | assumption)
              obtain ⟨ad132, e132, hx132_0⟩ := Kd.at_string (Kd.R_reads' HO_6.out).2.2 x7_1 p132 q132
              cases e132
              replace p132 := eq_true p132
              replace q132 := eq_true q132
              obtain ⟨Ao18, co18, eo18⟩ := Kd.R_slice HO_5.out
              subst eo18
              go_upto_region 14 with (fail)
              go_cut [44] (fun v44 wc => ∃ (kq : Nat) (x44_15 : Bool), v44 = .bool x44_15 ∧ Aside0 (frisketref26_Data.j1 kq x4_1 x5_1 y129 x7_1 (rdOf ByteArray.empty y129 x7_1) (wrap64 ((x5_1.length : Int) - 1)) x44_15 = some (r1, r2)) ∧ Aside0 (kq ≤ k1) ∧ Aside0 (Kd.S (Kd.slice 69 k69) 45 wc w.heap.size (fun k_ => some k_ ≠ ((.slice Ao18 x5_1.length co18) : Value).ownBlock) u4 x4_1) ∧ Aside0 (Kd.R k69 69 wc w.heap.size (fun _ => True) (.slice Ao18 x5_1.length co18) x5_1) ∧ Aside0 (Kd.R Kd.string 9 wc w.heap.size (fun _ => True) (.slice (some ad132) y129.length co17) y129) ∧ Aside0 (Below w.heap.size w wc))
              case first =>
                have H := HC16.out
                clear HC16
                by_cases c19 : 0 < ((rdOf ByteArray.empty y129 x7_1).size : Int)
                · rw [if_pos c19] at H
                  have c19b0 : decide (0 < ((rdOf ByteArray.empty y129 x7_1).size : Int)) = true := decide_eq_true c19
                  have c19b1 : decide (0 < (rdOf ByteArray.empty y129 x7_1).size) = true := decide_eq_true (by omega)
                  clear c19
                  (first | rw [c19b0] | (simp only [i64_w, i32_w]; rw [c19b0]) | skip)
                  by_cases c21 : (bt (rdOf ByteArray.empty y129 x7_1) 0) = 37
                  · rw [if_pos c21] at H
                    have c21b0 : ((bt (rdOf ByteArray.empty y129 x7_1) 0) == 37) = true := beq_iff_eq.mpr c21
                    have c21b1 : ((bt (rdOf ByteArray.empty y129 x7_1) 0) != 37) = false := bne_eq_false_iff_eq.mpr c21
                    clear c21
                    have H' := Aside0.mk H
                    clear H
                    have p20 : 0 ≤ (0 : Int) := (by omega)
                    have q20 : 0 < (rdOf ByteArray.empty y129 x7_1).size := (by have : (0 : Int) < ((rdOf ByteArray.empty y129 x7_1).size : Int) := of_decide_eq_true (by first | (with_reducible assumption) | assumption); omega)
                    have hx20 : ∀ h : 0 < (rdOf ByteArray.empty y129 x7_1).size, (((rdOf ByteArray.empty y129 x7_1)[0]'h).toNat : Int) = bt (rdOf ByteArray.empty y129 x7_1) 0 := bt_at (rdOf ByteArray.empty y129 x7_1) 0
                    clear p20
                    have qi20 : (0 < ((rdOf ByteArray.empty y129 x7_1).size : Int)) = True := eq_true (of_decide_eq_true (by first | (with_reducible assumption) | assumption))
                    replace q20 := eq_true q20
                    go_wp2
                    go_meet
                    case rel => exact ⟨_, (false), (by first | rfl | (simp; done) | (simp [*]; done)), H', ⟨by have := HK1.out; first | omega | exact Nat.le_refl _⟩, ⟨by (with_reducible repeat (first | apply Kd.S_alloc | apply Kd.S_drewN | apply Kd.S_drew)); exact HO_4.out⟩, ⟨by (with_reducible repeat (first | apply Kd.R_alloc | apply Kd.R_drewN | apply Kd.R_drew)); exact HO_5.out⟩, ⟨by (with_reducible repeat (first | apply Kd.R_alloc | apply Kd.R_drewN | apply Kd.R_drew)); exact HO_6.out⟩, ⟨by repeat (first | (with_reducible first | exact HB.out | apply below_alloc | apply pw_below_drewN | apply below_drew1) | exact HB.out)⟩⟩
                  · rw [if_neg c21] at H
                    have c21b0 : ((bt (rdOf ByteArray.empty y129 x7_1) 0) == 37) = false := beq_eq_false_iff_ne.mpr c21
                    have c21b1 : ((bt (rdOf ByteArray.empty y129 x7_1) 0) != 37) = true := bne_iff_ne.mpr c21
                    have H' := Aside0.mk H
                    clear H
                    have p20 : 0 ≤ (0 : Int) := (by omega)
                    have q20 : 0 < (rdOf ByteArray.empty y129 x7_1).size := (by have : (0 : Int) < ((rdOf ByteArray.empty y129 x7_1).size : Int) := of_decide_eq_true (by first | (with_reducible assumption) | assumption); omega)
                    have hx20 : ∀ h : 0 < (rdOf ByteArray.empty y129 x7_1).size, (((rdOf ByteArray.empty y129 x7_1)[0]'h).toNat : Int) = bt (rdOf ByteArray.empty y129 x7_1) 0 := bt_at (rdOf ByteArray.empty y129 x7_1) 0
                    clear p20
                    have qi20 : (0 < ((rdOf ByteArray.empty y129 x7_1).size : Int)) = True := eq_true (of_decide_eq_true (by first | (with_reducible assumption) | assumption))
                    replace q20 := eq_true q20
                    go_wp2
                    go_meet
                    case rel => exact ⟨_, (decide ((wrap64 ((x5_1.length : Int) - 1)) < 0)), (by first | rfl | (simp; done) | (simp [*]; done)), H', ⟨by have := HK1.out; first | omega | exact Nat.le_refl _⟩, ⟨by (with_reducible repeat (first | apply Kd.S_alloc | apply Kd.S_drewN | apply Kd.S_drew)); exact HO_4.out⟩, ⟨by (with_reducible repeat (first | apply Kd.R_alloc | apply Kd.R_drewN | apply Kd.R_drew)); exact HO_5.out⟩, ⟨by (with_reducible repeat (first | apply Kd.R_alloc | apply Kd.R_drewN | apply Kd.R_drew)); exact HO_6.out⟩, ⟨by repeat (first | (with_reducible first | exact HB.out | apply below_alloc | apply pw_below_drewN | apply below_drew1) | exact HB.out)⟩⟩
                · rw [if_neg c19] at H
                  exact absurd H (by simp)
              case rest =>
                clear HC16
                try clear c1
                try clear p1
                try clear q1
                try clear hx1
                try clear c2
                try clear p2
                try clear q2
                try clear hx2
                try clear qi2
                try clear c3
                try clear c4
                try clear c6
                try clear c6b0
                try clear p6
                try clear c7
                try clear c7b0
                try clear c8
                try clear c8b0
                try clear c8b1
                try clear c9
                try clear c9b0
                try clear c10
                try clear p13
                try clear q13
                try clear hx13
                try clear c19
                try clear c19b0
                try clear c19b1
                try clear p20
                try clear q20
                try clear hx20
                try clear qi20
                try clear c21
                try clear c21b0
                try clear c21b1
                try clear hx132_0
                try clear p132
                try clear p2
                try clear p20
                try clear q132
                try clear q20
                obtain ⟨kq, x44_15, rfl, HA, HJ15, HO_4, HO_5, HO_6, HB⟩ := hcut
                cases kq with
                | zero => exact absurd HA.out (by simp [frisketref26_Data.j1])
                | succ kj15 =>
                  have H := HA.out
                  clear HA
                  simp only [frisketref26_Data.j1] at H
                  by_cases c22 : x44_15 = true
                  · subst c22
                    have H1 : (some (([] : List (List (S69))), 4)) = some (r1, r2) := by rw [if_pos rfl] at H; exact H
                    clear H
                    have H := H1
                    clear H1
                    simp only [Option.some.injEq, Prod.mk.injEq] at H
                    obtain ⟨rfl, rfl⟩ := H
                    go_wp2
                    go_ret2
                    exact ⟨_, by first | rfl | (simp [errW_none, errW_some] <;> rfl) | (simp [*, errW_none, errW_some] <;> rfl), by first | exact Kd.S_nil _ _ _ _ _ | exact Kd.N_nil _ _ _ _ _ | exact Kd.V_nil _ _ _ _ _ | exact Kd.Q_nil _ _ _ _ _ | exact Kd.R_nil _ _ _ _ _, by repeat (first | (with_reducible first | exact HB.out | apply below_alloc | apply pw_below_drewN | apply below_drew1) | exact HB.out)⟩
                  · replace c22 := Bool.eq_false_iff.mpr c22
                    subst c22
                    have H1 : (if 0 < ((rdOf ByteArray.empty y129 x7_1).size : Int) then (if (bt (rdOf ByteArray.empty y129 x7_1) 0) = 37 then (if ((rdOf ByteArray.empty y129 x7_1).size : Int) < 4 then (frisketref26_Data.j2 kj15 x4_1 x5_1 y129 x7_1 (rdOf ByteArray.empty y129 x7_1) true) else (if 1 < ((rdOf ByteArray.empty y129 x7_1).size : Int) then ((frisketref26_capital.f (bt (rdOf ByteArray.empty y129 x7_1) 1)).bind fun t136 => (if t136 = true then (if 2 < ((rdOf ByteArray.empty y129 x7_1).size : Int) then (frisketref26_Data.j2 kj15 x4_1 x5_1 y129 x7_1 (rdOf ByteArray.empty y129 x7_1) ((bt (rdOf ByteArray.empty y129 x7_1) 2) != 32)) else (none)) else (frisketref26_Data.j2 kj15 x4_1 x5_1 y129 x7_1 (rdOf ByteArray.empty y129 x7_1) true))) else (none))) else (if 0 ≤ (wrap64 ((x5_1.length : Int) - 1)) then (if (wrap64 ((x5_1.length : Int) - 1)) < (x5_1.length : Int) then (if ((rd_T69 x5_1 (wrap64 ((x5_1.length : Int) - 1))).f1).size + 1 ≤ 9223372036854775807 then (if (((rd_T69 x5_1 (wrap64 ((x5_1.length : Int) - 1))).f1) ++ (⟨#[32]⟩ : ByteArray)).size + (rdOf ByteArray.empty y129 x7_1).size ≤ 9223372036854775807 then (frisketref26_Data.l0 kj15 x4_1 (x5_1.set ((wrap64 ((x5_1.length : Int) - 1)) : Int).toNat (⟨(rd_T69 x5_1 (wrap64 ((x5_1.length : Int) - 1))).f0, (((rd_T69 x5_1 (wrap64 ((x5_1.length : Int) - 1))).f1) ++ (⟨#[32]⟩ : ByteArray)) ++ (rdOf ByteArray.empty y129 x7_1)⟩ : S69)) y129 (wrap64 (x7_1 + 1))) else (none)) else (none)) else (none)) else (none))) else (none)) = some (r1, r2) := by rw [if_neg (show ¬ (false = true) by decide)] at H; exact H
                    clear H
                    have H := H1
                    clear H1
                    by_cases c23 : 0 < ((rdOf ByteArray.empty y129 x7_1).size : Int)
                    · rw [if_pos c23] at H
                      have c23b0 : decide (0 < ((rdOf ByteArray.empty y129 x7_1).size : Int)) = true := decide_eq_true c23
                      have c23b1 : decide (0 < (rdOf ByteArray.empty y129 x7_1).size) = true := decide_eq_true (by omega)
                      clear c23
                      by_cases c25 : (bt (rdOf ByteArray.empty y129 x7_1) 0) = 37
                      · rw [if_pos c25] at H
                        have c25b0 : ((bt (rdOf ByteArray.empty y129 x7_1) 0) == 37) = true := beq_iff_eq.mpr c25
                        have c25b1 : ((bt (rdOf ByteArray.empty y129 x7_1) 0) != 37) = false := bne_eq_false_iff_eq.mpr c25
                        clear c25
                        have HC26 := Aside0.mk H
                        clear H
                        have p24 : 0 ≤ (0 : Int) := (by omega)
                        have q24 : 0 < (rdOf ByteArray.empty y129 x7_1).size := (by have : (0 : Int) < ((rdOf ByteArray.empty y129 x7_1).size : Int) := of_decide_eq_true (by first | (with_reducible assumption) | assumption); omega)
                        have hx24 : ∀ h : 0 < (rdOf ByteArray.empty y129 x7_1).size, (((rdOf ByteArray.empty y129 x7_1)[0]'h).toNat : Int) = bt (rdOf ByteArray.empty y129 x7_1) 0 := bt_at (rdOf ByteArray.empty y129 x7_1) 0
                        clear p24
                        have qi24 : (0 < ((rdOf ByteArray.empty y129 x7_1).size : Int)) = True := eq_true (of_decide_eq_true (by first | (with_reducible assumption) | assumption))
                        replace q24 := eq_true q24
                        go_upto_region 18 with (fail)
                        go_cut [68] (fun v68 wc => ∃ (kq : Nat) (x68_25 : Bool), v68 = .bool x68_25 ∧ Aside0 (frisketref26_Data.j2 kq x4_1 x5_1 y129 x7_1 (rdOf ByteArray.empty y129 x7_1) x68_25 = some (r1, r2)) ∧ Aside0 (kq ≤ kj15) ∧ Aside0 (Kd.S (Kd.slice 69 k69) 45 wc w.heap.size (fun k_ => some k_ ≠ ((.slice Ao18 x5_1.length co18) : Value).ownBlock) u4 x4_1) ∧ Aside0 (Kd.R k69 69 wc w.heap.size (fun _ => True) (.slice Ao18 x5_1.length co18) x5_1) ∧ Aside0 (Kd.R Kd.string 9 wc w.heap.size (fun _ => True) (.slice (some ad132) y129.length co17) y129) ∧ Aside0 (Below w.heap.size w wc))
                        case first =>
                          have H := HC26.out
                          clear HC26
                          by_cases c27 : ((rdOf ByteArray.empty y129 x7_1).size : Int) < 4
                          · rw [if_pos c27] at H
                            have c27b0 : decide (((rdOf ByteArray.empty y129 x7_1).size : Int) < 4) = true := decide_eq_true c27
                            have c27b1 : decide ((rdOf ByteArray.empty y129 x7_1).size < 4) = true := decide_eq_true (by omega)
                            clear c27
                            (first | rw [c27b0] | (simp only [i64_w, i32_w]; rw [c27b0]) | skip)
                            have H' := Aside0.mk H
                            clear H
                            go_wp2
                            go_meet
                            case rel => exact ⟨_, (true), (by first | rfl | (simp; done) | (simp [*]; done)), H', ⟨by have := HK1.out; have := HJ15.out; first | omega | exact Nat.le_refl _⟩, ⟨by (with_reducible repeat (first | apply Kd.S_alloc | apply Kd.S_drewN | apply Kd.S_drew)); exact HO_4.out⟩, ⟨by (with_reducible repeat (first | apply Kd.R_alloc | apply Kd.R_drewN | apply Kd.R_drew)); exact HO_5.out⟩, ⟨by (with_reducible repeat (first | apply Kd.R_alloc | apply Kd.R_drewN | apply Kd.R_drew)); exact HO_6.out⟩, ⟨by repeat (first | (with_reducible first | exact HB.out | apply below_alloc | apply pw_below_drewN | apply below_drew1) | exact HB.out)⟩⟩
                          · rw [if_neg c27] at H
                            have c27b0 : decide (((rdOf ByteArray.empty y129 x7_1).size : Int) < 4) = false := decide_eq_false c27
                            have c27b1 : decide ((rdOf ByteArray.empty y129 x7_1).size < 4) = false := decide_eq_false (by omega)
                            clear c27
                            (first | rw [c27b0] | (simp only [i64_w, i32_w]; rw [c27b0]) | skip)
                            by_cases c28 : 1 < ((rdOf ByteArray.empty y129 x7_1).size : Int)
                            · rw [if_pos c28] at H
                              have c28b0 : decide (1 < ((rdOf ByteArray.empty y129 x7_1).size : Int)) = true := decide_eq_true c28
                              have c28b1 : decide (1 < (rdOf ByteArray.empty y129 x7_1).size) = true := decide_eq_true (by omega)
                              clear c28
                              replace H := Option.bind_eq_some_iff.mp H
                              obtain ⟨t136, A300, H⟩ := H
                              replace H : (if t136 = true then (if 2 < ((rdOf ByteArray.empty y129 x7_1).size : Int) then (frisketref26_Data.j2 kj15 x4_1 x5_1 y129 x7_1 (rdOf ByteArray.empty y129 x7_1) ((bt (rdOf ByteArray.empty y129 x7_1) 2) != 32)) else (none)) else (frisketref26_Data.j2 kj15 x4_1 x5_1 y129 x7_1 (rdOf ByteArray.empty y129 x7_1) true)) = some (r1, r2) := H
                              have A30 := Aside0.mk A300
                              clear A300
                              by_cases c31 : t136 = true
                              · subst c31
                                have H1 : (if 2 < ((rdOf ByteArray.empty y129 x7_1).size : Int) then (frisketref26_Data.j2 kj15 x4_1 x5_1 y129 x7_1 (rdOf ByteArray.empty y129 x7_1) ((bt (rdOf ByteArray.empty y129 x7_1) 2) != 32)) else (none)) = some (r1, r2) := by rw [if_pos rfl] at H; exact H
                                clear H
                                have H := H1
                                clear H1
                                by_cases c32 : 2 < ((rdOf ByteArray.empty y129 x7_1).size : Int)
                                · rw [if_pos c32] at H
                                  have c32b0 : decide (2 < ((rdOf ByteArray.empty y129 x7_1).size : Int)) = true := decide_eq_true c32
                                  have c32b1 : decide (2 < (rdOf ByteArray.empty y129 x7_1).size) = true := decide_eq_true (by omega)
                                  clear c32
                                  have H' := Aside0.mk H
                                  clear H
                                  have p29 : 0 ≤ (1 : Int) := (by omega)
                                  have q29 : 1 < (rdOf ByteArray.empty y129 x7_1).size := (by have : (1 : Int) < ((rdOf ByteArray.empty y129 x7_1).size : Int) := of_decide_eq_true (by first | (with_reducible assumption) | assumption); omega)
                                  have hx29 : ∀ h : 1 < (rdOf ByteArray.empty y129 x7_1).size, (((rdOf ByteArray.empty y129 x7_1)[1]'h).toNat : Int) = bt (rdOf ByteArray.empty y129 x7_1) 1 := bt_at (rdOf ByteArray.empty y129 x7_1) 1
                                  clear p29
                                  have qi29 : (1 < ((rdOf ByteArray.empty y129 x7_1).size : Int)) = True := eq_true (of_decide_eq_true (by first | (with_reducible assumption) | assumption))
                                  replace q29 := eq_true q29
                                  go_wp2_with (first | (go_at_call 31; (with_reducible refine (frisketref26_capital.calls (bt (rdOf ByteArray.empty y129 x7_1) 1) true _ A30.out).mono ?_); rintro e w' ⟨rfl, ⟨nd, rfl⟩⟩; have p33 : 0 ≤ (2 : Int) := (by omega); have q33 : 2 < (rdOf ByteArray.empty y129 x7_1).size := (by have : (2 : Int) < ((rdOf ByteArray.empty y129 x7_1).size : Int) := of_decide_eq_true (by first | (with_reducible assumption) | assumption); omega); have hx33 : ∀ h : 2 < (rdOf ByteArray.empty y129 x7_1).size, (((rdOf ByteArray.empty y129 x7_1)[2]'h).toNat : Int) = bt (rdOf ByteArray.empty y129 x7_1) 2 := bt_at (rdOf ByteArray.empty y129 x7_1) 2; clear p33; have qi33 : (2 < ((rdOf ByteArray.empty y129 x7_1).size : Int)) = True := eq_true (of_decide_eq_true (by first | (with_reducible assumption) | assumption)); replace q33 := eq_true q33))
                                  go_meet
                                  case rel => exact ⟨_, (((bt (rdOf ByteArray.empty y129 x7_1) 2) != 32)), (by first | rfl | (simp; done) | (simp [*]; done)), H', ⟨by have := HK1.out; have := HJ15.out; first | omega | exact Nat.le_refl _⟩, ⟨by (with_reducible repeat (first | apply Kd.S_alloc | apply Kd.S_drewN | apply Kd.S_drew)); exact HO_4.out⟩, ⟨by (with_reducible repeat (first | apply Kd.R_alloc | apply Kd.R_drewN | apply Kd.R_drew)); exact HO_5.out⟩, ⟨by (with_reducible repeat (first | apply Kd.R_alloc | apply Kd.R_drewN | apply Kd.R_drew)); exact HO_6.out⟩, ⟨by repeat (first | (with_reducible first | exact HB.out | apply below_alloc | apply pw_below_drewN | apply below_drew1) | exact HB.out)⟩⟩
                                · rw [if_neg c32] at H
                                  exact absurd H (by simp)
                              · replace c31 := Bool.eq_false_iff.mpr c31
                                subst c31
                                have H1 : (frisketref26_Data.j2 kj15 x4_1 x5_1 y129 x7_1 (rdOf ByteArray.empty y129 x7_1) true) = some (r1, r2) := by rw [if_neg (show ¬ (false = true) by decide)] at H; exact H
                                clear H
                                have H := H1
                                clear H1
                                have H' := Aside0.mk H
                                clear H
                                have p29 : 0 ≤ (1 : Int) := (by omega)
                                have q29 : 1 < (rdOf ByteArray.empty y129 x7_1).size := (by have : (1 : Int) < ((rdOf ByteArray.empty y129 x7_1).size : Int) := of_decide_eq_true (by first | (with_reducible assumption) | assumption); omega)
                                have hx29 : ∀ h : 1 < (rdOf ByteArray.empty y129 x7_1).size, (((rdOf ByteArray.empty y129 x7_1)[1]'h).toNat : Int) = bt (rdOf ByteArray.empty y129 x7_1) 1 := bt_at (rdOf ByteArray.empty y129 x7_1) 1
                                clear p29
                                have qi29 : (1 < ((rdOf ByteArray.empty y129 x7_1).size : Int)) = True := eq_true (of_decide_eq_true (by first | (with_reducible assumption) | assumption))
                                replace q29 := eq_true q29
                                go_wp2_with (first | (go_at_call 31; (with_reducible refine (frisketref26_capital.calls (bt (rdOf ByteArray.empty y129 x7_1) 1) false _ A30.out).mono ?_); rintro e w' ⟨rfl, ⟨nd, rfl⟩⟩))
                                go_meet
                                case rel => exact ⟨_, (true), (by first | rfl | (simp; done) | (simp [*]; done)), H', ⟨by have := HK1.out; have := HJ15.out; first | omega | exact Nat.le_refl _⟩, ⟨by (with_reducible repeat (first | apply Kd.S_alloc | apply Kd.S_drewN | apply Kd.S_drew)); exact HO_4.out⟩, ⟨by (with_reducible repeat (first | apply Kd.R_alloc | apply Kd.R_drewN | apply Kd.R_drew)); exact HO_5.out⟩, ⟨by (with_reducible repeat (first | apply Kd.R_alloc | apply Kd.R_drewN | apply Kd.R_drew)); exact HO_6.out⟩, ⟨by repeat (first | (with_reducible first | exact HB.out | apply below_alloc | apply pw_below_drewN | apply below_drew1) | exact HB.out)⟩⟩
                            · rw [if_neg c28] at H
                              exact absurd H (by simp)
                        case rest =>
                          clear HC26
                          try clear c1
                          try clear p1
                          try clear q1
                          try clear hx1
                          try clear c2
                          try clear p2
                          try clear q2
                          try clear hx2
                          try clear qi2
                          try clear c3
                          try clear p3
                          try clear q3
                          try clear hx3
                          try clear qi3
                          try clear c4
                          try clear c6
                          try clear c6b0
                          try clear p6
                          try clear c7
                          try clear c7b0
                          try clear c8
                          try clear c8b0
                          try clear c8b1
                          try clear c9
                          try clear c9b0
                          try clear c10
                          try clear p13
                          try clear q13
                          try clear hx13
                          try clear c19
                          try clear c19b0
                          try clear c19b1
                          try clear p20
                          try clear q20
                          try clear hx20
                          try clear qi20
                          try clear c21
                          try clear c21b0
                          try clear c21b1
                          try clear c22
                          try clear c23
                          try clear c23b0
                          try clear c23b1
                          try clear p24
                          try clear q24
                          try clear hx24
                          try clear qi24
                          try clear c25
                          try clear c25b0
                          try clear c25b1
                          try clear c27
                          try clear c27b0
                          try clear c27b1
                          try clear c28
                          try clear c28b0
                          try clear c28b1
                          try clear p29
                          try clear q29
                          try clear hx29
                          try clear qi29
                          try clear c31
                          try clear c32
                          try clear c32b0
                          try clear c32b1
                          try clear p33
                          try clear q33
                          try clear hx33
                          try clear qi33
                          try clear hx132_0
                          try clear p1
                          try clear p13
                          try clear p132
                          try clear p2
                          try clear p20
                          try clear p24
                          try clear p29
                          try clear p33
                          try clear p6
                          try clear q1
                          try clear q13
                          try clear q132
                          try clear q2
                          try clear q20
                          try clear q24
                          try clear q29
                          try clear q33
                          obtain ⟨kq, x68_25, rfl, HA, HJ25, HO_4, HO_5, HO_6, HB⟩ := hcut
                          cases kq with
                          | zero => exact absurd HA.out (by simp [frisketref26_Data.j2])
                          | succ kj25 =>
                            have H := HA.out
                            clear HA
                            simp only [frisketref26_Data.j2] at H
                            by_cases c34 : x68_25 = true
                            · subst c34
                              have H1 : (some (([] : List (List (S69))), 4)) = some (r1, r2) := by rw [if_pos rfl] at H; exact H
                              clear H
                              have H := H1
                              clear H1
                              simp only [Option.some.injEq, Prod.mk.injEq] at H
                              obtain ⟨rfl, rfl⟩ := H
                              go_wp2
                              go_ret2
                              exact ⟨_, by first | rfl | (simp [errW_none, errW_some] <;> rfl) | (simp [*, errW_none, errW_some] <;> rfl), by first | exact Kd.S_nil _ _ _ _ _ | exact Kd.N_nil _ _ _ _ _ | exact Kd.V_nil _ _ _ _ _ | exact Kd.Q_nil _ _ _ _ _ | exact Kd.R_nil _ _ _ _ _, by repeat (first | (with_reducible first | exact HB.out | apply below_alloc | apply pw_below_drewN | apply below_drew1) | exact HB.out)⟩
                            · replace c34 := Bool.eq_false_iff.mpr c34
                              subst c34
                              have H1 : (if 1 < ((rdOf ByteArray.empty y129 x7_1).size : Int) then (if (bt (rdOf ByteArray.empty y129 x7_1) 1) = 65 then (if 3 ≤ ((rdOf ByteArray.empty y129 x7_1).size : Int) then (if x5_1.length < 5864062014805 then (frisketref26_Data.l0 kj25 x4_1 (x5_1 ++ [(⟨bt (rdOf ByteArray.empty y129 x7_1) 1, (rdOf ByteArray.empty y129 x7_1).extract 3 (rdOf ByteArray.empty y129 x7_1).size⟩ : S69)]) y129 (wrap64 (x7_1 + 1))) else (none)) else (none)) else ((frisketref26_has.f kj25 x5_1 (bt (rdOf ByteArray.empty y129 x7_1) 1)).bind fun t140 => (if t140 = true then (some (([] : List (List (S69))), 7)) else (if 3 ≤ ((rdOf ByteArray.empty y129 x7_1).size : Int) then (if x5_1.length < 5864062014805 then (frisketref26_Data.l0 kj25 x4_1 (x5_1 ++ [(⟨bt (rdOf ByteArray.empty y129 x7_1) 1, (rdOf ByteArray.empty y129 x7_1).extract 3 (rdOf ByteArray.empty y129 x7_1).size⟩ : S69)]) y129 (wrap64 (x7_1 + 1))) else (none)) else (none))))) else (none)) = some (r1, r2) := by rw [if_neg (show ¬ (false = true) by decide)] at H; exact H
                              clear H
                              have H := H1
                              clear H1
                              by_cases c35 : 1 < ((rdOf ByteArray.empty y129 x7_1).size : Int)
                              · rw [if_pos c35] at H
                                have c35b0 : decide (1 < ((rdOf ByteArray.empty y129 x7_1).size : Int)) = true := decide_eq_true c35
                                have c35b1 : decide (1 < (rdOf ByteArray.empty y129 x7_1).size) = true := decide_eq_true (by omega)
                                clear c35
                                by_cases c37 : (bt (rdOf ByteArray.empty y129 x7_1) 1) = 65
                                · rw [if_pos c37] at H
                                  have c37b0 : ((bt (rdOf ByteArray.empty y129 x7_1) 1) == 65) = true := beq_iff_eq.mpr c37
                                  have c37b1 : ((bt (rdOf ByteArray.empty y129 x7_1) 1) != 65) = false := bne_eq_false_iff_eq.mpr c37
                                  clear c37
                                  by_cases c39 : 3 ≤ ((rdOf ByteArray.empty y129 x7_1).size : Int)
                                  · rw [if_pos c39] at H
                                    have c39b0 := eq_true c39
                                    have c39b1 : decide (3 ≤ ((rdOf ByteArray.empty y129 x7_1).size : Int)) = true := decide_eq_true c39
                                    clear c39
                                    by_cases c40 : x5_1.length < 5864062014805
                                    · rw [if_pos c40] at H
                                      have LMc40 := Aside0.mk c40
                                      clear c40
                                      obtain ⟨y137, hy137⟩ : ∃ y_ : List (S69), y_ = (x5_1 ++ [(⟨bt (rdOf ByteArray.empty y129 x7_1) 1, (rdOf ByteArray.empty y129 x7_1).extract 3 (rdOf ByteArray.empty y129 x7_1).size⟩ : S69)]) := ⟨_, rfl⟩
                                      replace H : (frisketref26_Data.l0 kj25 x4_1 y137 y129 (wrap64 (x7_1 + 1))) = some (r1, r2) := by first | (rw [hy137]; with_reducible exact H) | (have H2_ := (Option.bind_some _ _).symm.trans H; rw [hy137]; with_reducible exact H2_) | (have H2_ := (Option.bind_some _ _).symm.trans H; with_reducible exact H2_) | with_reducible exact H | (rw [hy137]; exact H) | exact H
                                      have Ny137 := Aside0.mk hy137
                                      clear hy137
                                      have H' := Aside0.mk H
                                      clear H
                                      have p36 : 0 ≤ (1 : Int) := (by omega)
                                      have q36 : 1 < (rdOf ByteArray.empty y129 x7_1).size := (by have : (1 : Int) < ((rdOf ByteArray.empty y129 x7_1).size : Int) := of_decide_eq_true (by first | (with_reducible assumption) | assumption); omega)
                                      have hx36 : ∀ h : 1 < (rdOf ByteArray.empty y129 x7_1).size, (((rdOf ByteArray.empty y129 x7_1)[1]'h).toNat : Int) = bt (rdOf ByteArray.empty y129 x7_1) 1 := bt_at (rdOf ByteArray.empty y129 x7_1) 1
                                      clear p36
                                      have qi36 : (1 < ((rdOf ByteArray.empty y129 x7_1).size : Int)) = True := eq_true (of_decide_eq_true (by first | (with_reducible assumption) | assumption))
                                      replace q36 := eq_true q36
                                      try go_wp2
                                      have n0_ := Aside0.mk (Kd.S_drew HO_4.out)
                                      have n1_ := Aside0.mk (Kd.R_drew HO_5.out)
                                      have n2_ := Aside0.mk (Kd.R_drew HO_6.out)
                                      have n3_ := Aside0.mk (below_drew1 HB.out)
                                      clear HO_4
                                      clear HO_5
                                      clear HO_6
                                      clear HB
                                      have HO_4 := n0_
                                      have HO_5 := n1_
                                      have HO_6 := n2_
                                      have HB := n3_
                                      clear n0_ n1_ n2_ n3_
                                      have p38 : 0 ≤ (1 : Int) := (by omega)
                                      have q38 : 1 < (rdOf ByteArray.empty y129 x7_1).size := (by have : (1 : Int) < ((rdOf ByteArray.empty y129 x7_1).size : Int) := of_decide_eq_true (by first | (with_reducible assumption) | assumption); omega)
                                      have hx38 : ∀ h : 1 < (rdOf ByteArray.empty y129 x7_1).size, (((rdOf ByteArray.empty y129 x7_1)[1]'h).toNat : Int) = bt (rdOf ByteArray.empty y129 x7_1) 1 := bt_at (rdOf ByteArray.empty y129 x7_1) 1
                                      clear p38
                                      have qi38 : (1 < ((rdOf ByteArray.empty y129 x7_1).size : Int)) = True := eq_true (of_decide_eq_true (by first | (with_reducible assumption) | assumption))
                                      replace q38 := eq_true q38
                                      refine start_ (n := 9) (S := fun w' => True) (ds := []) #[false, false, false, false, false, false, false, false, false] (by kernel_rfl) rfl rfl trivial (fun hHeld => ?_); refine with_tabW frisketref26_Data.tab9 frisketref26_Data.bits9 (fun HT_ HW_ => ?_)
                                      generalize wc.drew = w41 at HO_4 HO_5 HO_6 HB hHeld ⊢
                                      refine pure_ (i := 0) (N := some 27) (v := ?_) (a' := ?_) #[true, false, false, false, false, false, false, false, false] rfl rfl (any_of HT_.out (by kernel_rfl)) (fun _ _ _ h => h) (Or.inl ⟨by rfl, ?_⟩) ?_ ?_
                                      rotate_left
                                      · intro w'
                                        go_simp
                                        with_reducible rfl
                                      rotate_left
                                      · simp only [Act.put, List.setIfInBounds_toArray, List.set_cons_zero, List.set_cons_succ, i64_w, i32_w]
                                        rfl
                                      refine pure_ (i := 1) (N := some 28) (v := ?_) (a' := ?_) #[true, true, false, false, false, false, false, false, false] rfl rfl (any_of HT_.out (by kernel_rfl)) (fun _ _ _ h => h) (Or.inl ⟨by rfl, ?_⟩) ?_ ?_
                                      rotate_left
                                      · intro w'
                                        go_simp
                                        with_reducible rfl
                                      rotate_left
                                      · simp only [Act.put, List.setIfInBounds_toArray, List.set_cons_zero, List.set_cons_succ, i64_w, i32_w]
                                        rfl
                                      refine pure_ (i := 3) (N := some 30) (v := ?_) (a' := ?_) #[true, true, false, true, false, false, false, false, false] rfl rfl (any_of HT_.out (by kernel_rfl)) (fun _ _ _ h => h) (Or.inl ⟨by rfl, ?_⟩) ?_ ?_
                                      rotate_left
                                      · intro w'
                                        go_simp
                                        with_reducible rfl
                                      rotate_left
                                      · simp only [Act.put, List.setIfInBounds_toArray, List.set_cons_zero, List.set_cons_succ, i64_w, i32_w]
                                        rfl
                                      refine pure_ (i := 4) (N := some 31) (v := ?_) (a' := ?_) #[true, true, false, true, true, false, false, false, false] rfl rfl (any_of HT_.out (by kernel_rfl)) (fun _ _ _ h => h) (Or.inl ⟨by rfl, ?_⟩) ?_ ?_
                                      rotate_left
                                      · intro w'
                                        go_simp
                                        with_reducible rfl
                                      rotate_left
                                      · simp only [Act.put, List.setIfInBounds_toArray, List.set_cons_zero, List.set_cons_succ, i64_w, i32_w]
                                        rfl
                                      refine take_ (i := 2) (N := some 29) (v := ?_) (a' := ?_) #[true, true, true, true, true, false, false, false, false] rfl rfl (take_ofW HT_.out HW_.out (by kernel_rfl)) (fun _ _ _ h => h) (Or.inl ⟨by rfl, ?_⟩) hHeld ?_ ?_
                                      rotate_left
                                      · intro w' _
                                        go_simp
                                        with_reducible rfl
                                      rotate_left
                                      · simp only [Act.put, List.setIfInBounds_toArray, List.set_cons_zero, List.set_cons_succ, i64_w, i32_w]
                                        rfl
                                      refine pure_ (i := 5) (N := some 32) (v := ?_) (a' := ?_) #[true, true, true, true, true, true, false, false, false] rfl rfl (any_of HT_.out (by kernel_rfl)) (fun _ _ _ h => h) (Or.inl ⟨by rfl, ?_⟩) ?_ ?_
                                      rotate_left
                                      · intro w'
                                        go_simp
                                        with_reducible rfl
                                      rotate_left
                                      · simp only [Act.put, List.setIfInBounds_toArray, List.set_cons_zero, List.set_cons_succ, i64_w, i32_w]
                                        rfl
                                      refine one_ (i := 6) (N := some 33) #[true, true, true, true, true, true, true, false, false] rfl rfl (one_of HT_.out (by kernel_rfl)) (by decide) (fun K hK => ?_)
                                      refine value_ (w1 := ?_) (v := ?_) (by rfl) rfl ?_ ?_
                                      rotate_left 2
                                      · go_simp
                                        constructor
                                        · rfl
                                        · rfl
                                      refine hK.out _ _ trivial (fun hHeld => ?_)
                                      clear hK K
                                      refine norm_ (a' := ?_) ?_ ?_
                                      rotate_left
                                      · show Act.put _ (some 33) _ = _
                                        simp only [Act.put, List.setIfInBounds_toArray, List.set_cons_zero, List.set_cons_succ, i64_w, i32_w]
                                        rfl
                                      refine one_ (i := 7) (N := some 34) #[true, true, true, true, true, true, true, true, false] rfl rfl (one_of HT_.out (by kernel_rfl)) (by decide) (fun K hK => ?_)
                                      refine Kd.R_append_step k69 (w0 := w) w.heap.size (by rfl) (.tmp 27) (.tmp 33) 45 69 (.agg #[(.int .u8 0), (.string ⟨#[]⟩)]) 24 rfl Tryd.underlying45 info69 rfl (by decide) (by omega) (.slice Ao18 x5_1.length co18) x5_1 (⟨bt (rdOf ByteArray.empty y129 x7_1) 1, (rdOf ByteArray.empty y129 x7_1).extract 3 (rdOf ByteArray.empty y129 x7_1).size⟩ : S69) [.int .u8 (bt (rdOf ByteArray.empty y129 x7_1) 1), .string ((rdOf ByteArray.empty y129 x7_1).extract 3 (rdOf ByteArray.empty y129 x7_1).size)] (fun _ => True) (fun _ => False) rfl rfl ?aP (fun _ hk => hk.elim) ?aF ?aO ?aB ?aS ?aL ?_
                                      (case aP => exact k69_mkM _ _ _ (⟨bt (rdOf ByteArray.empty y129 x7_1) 1, (rdOf ByteArray.empty y129 x7_1).extract 3 (rdOf ByteArray.empty y129 x7_1).size⟩ : S69))
                                      (case aB => exact (by repeat (first | (with_reducible first | exact HB.out | apply below_alloc | apply pw_below_drewN | apply below_drew1) | exact HB.out)))
                                      (case aF => exact (fun _ _ => trivial))
                                      (case aO => exact (by (with_reducible repeat (first | apply Kd.R_alloc | apply Kd.R_drewN | apply Kd.R_drew)); exact HO_5.out))
                                      (case aS => exact (below_size (by repeat (first | (with_reducible first | exact HB.out | apply below_alloc | apply pw_below_drewN | apply below_drew1) | exact HB.out))))
                                      (case aL => have := LMc40.out; omega)
                                      intro v138 w42 ho hb hg hat
                                      rw [← Ny137.out] at ho
                                      have n0_ := Aside0.mk (Kd.S_after (ok := (fun _ => True)) (by (with_reducible repeat (first | apply Kd.S_alloc | apply Kd.S_drewN | apply Kd.S_drew)); exact Kd.S_mono HO_4.out (fun _ hk => ⟨trivial, hk⟩)) hg hat)
                                      have n1_ := Aside0.mk (Kd.R_over' (by (with_reducible repeat (first | apply Kd.R_alloc | apply Kd.R_drewN | apply Kd.R_drew)); exact HO_6.out) (Kd.R_typed (by (with_reducible repeat (first | apply Kd.R_alloc | apply Kd.R_drewN | apply Kd.R_drew)); exact HO_5.out)) (by decide) hg)
                                      have n2_ := Aside0.mk (hb)
                                      have n3_ := Aside0.mk (ho)
                                      clear HO_4
                                      clear HO_6
                                      clear HB
                                      clear HO_5
                                      have HO_4 := n0_
                                      have HO_6 := n1_
                                      have HB := n2_
                                      have HO139 := n3_
                                      clear n0_ n1_ n2_ n3_
                                      clear ho hb hg hat
                                      refine hK.out _ _ trivial (fun hHeld => ?_)
                                      clear hK K
                                      refine norm_ (a' := ?_) ?_ ?_
                                      rotate_left
                                      · show Act.put _ (some 34) _ = _
                                        simp only [Act.put, List.setIfInBounds_toArray, List.set_cons_zero, List.set_cons_succ, i64_w, i32_w]
                                        rfl
                                      refine pure_ (i := 8) (N := some 5) (v := ?_) (a' := ?_) #[true, true, true, true, true, true, true, true, true] rfl rfl (any_of HT_.out (by kernel_rfl)) (fun _ _ _ h => h) (Or.inl ⟨by rfl, ?_⟩) ?_ ?_
                                      rotate_left
                                      · intro w'
                                        go_simp
                                        with_reducible rfl
                                      rotate_left
                                      · simp only [Act.put, List.setIfInBounds_toArray, List.set_cons_zero, List.set_cons_succ, i64_w, i32_w]
                                        rfl
                                      refine done_ (done_of HT_.out (by kernel_rfl)) ?_
                                      try go_wp2
                                      go_roundg kj25
                                      case measure => have := HK1.out; have := HJ15.out; have := HJ25.out; omega
                                      case rel => exact ⟨(x4_1), (y137), (wrap64 (x7_1 + 1)), (by first | rfl | (simp; done) | (simp [*]; done)), H', ⟨by have := HK1.out; have := HJ15.out; have := HJ25.out; omega⟩, ⟨by (with_reducible repeat (first | apply Kd.S_alloc | apply Kd.S_drewN | apply Kd.S_drew)); exact Kd.S_mono HO_4.out (fun _ hk => hk.2)⟩, ⟨by (with_reducible repeat (first | apply Kd.R_alloc | apply Kd.R_drewN | apply Kd.R_drew)); exact HO139.out⟩, ⟨by (with_reducible repeat (first | apply Kd.R_alloc | apply Kd.R_drewN | apply Kd.R_drew)); exact HO_6.out⟩, ⟨by repeat (first | (with_reducible first | exact HB.out | apply below_alloc | apply pw_below_drewN | apply below_drew1) | exact HB.out)⟩⟩
                                    · rw [if_neg c40] at H
                                      exact absurd H (by simp)
                                  · rw [if_neg c39] at H
                                    exact absurd H (by simp)
                                · rw [if_neg c37] at H
                                  have c37b0 : ((bt (rdOf ByteArray.empty y129 x7_1) 1) == 65) = false := beq_eq_false_iff_ne.mpr c37
                                  have c37b1 : ((bt (rdOf ByteArray.empty y129 x7_1) 1) != 65) = true := bne_iff_ne.mpr c37
                                  replace H := Option.bind_eq_some_iff.mp H
                                  obtain ⟨t140, A440, H⟩ := H
                                  replace H : (if t140 = true then (some (([] : List (List (S69))), 7)) else (if 3 ≤ ((rdOf ByteArray.empty y129 x7_1).size : Int) then (if x5_1.length < 5864062014805 then (frisketref26_Data.l0 kj25 x4_1 (x5_1 ++ [(⟨bt (rdOf ByteArray.empty y129 x7_1) 1, (rdOf ByteArray.empty y129 x7_1).extract 3 (rdOf ByteArray.empty y129 x7_1).size⟩ : S69)]) y129 (wrap64 (x7_1 + 1))) else (none)) else (none))) = some (r1, r2) := H
                                  have A44 := Aside0.mk A440
                                  clear A440
                                  by_cases c45 : t140 = true
                                  · subst c45
                                    have H1 : (some (([] : List (List (S69))), 7)) = some (r1, r2) := by rw [if_pos rfl] at H; exact H
                                    clear H
                                    have H := H1
                                    clear H1
                                    simp only [Option.some.injEq, Prod.mk.injEq] at H
                                    obtain ⟨rfl, rfl⟩ := H
                                    have p36 : 0 ≤ (1 : Int) := (by omega)
                                    have q36 : 1 < (rdOf ByteArray.empty y129 x7_1).size := (by have : (1 : Int) < ((rdOf ByteArray.empty y129 x7_1).size : Int) := of_decide_eq_true (by first | (with_reducible assumption) | assumption); omega)
                                    have hx36 : ∀ h : 1 < (rdOf ByteArray.empty y129 x7_1).size, (((rdOf ByteArray.empty y129 x7_1)[1]'h).toNat : Int) = bt (rdOf ByteArray.empty y129 x7_1) 1 := bt_at (rdOf ByteArray.empty y129 x7_1) 1
                                    clear p36
                                    have qi36 : (1 < ((rdOf ByteArray.empty y129 x7_1).size : Int)) = True := eq_true (of_decide_eq_true (by first | (with_reducible assumption) | assumption))
                                    replace q36 := eq_true q36
                                    have p43 : 0 ≤ (1 : Int) := (by omega)
                                    have q43 : 1 < (rdOf ByteArray.empty y129 x7_1).size := (by have : (1 : Int) < ((rdOf ByteArray.empty y129 x7_1).size : Int) := of_decide_eq_true (by first | (with_reducible assumption) | assumption); omega)
                                    have hx43 : ∀ h : 1 < (rdOf ByteArray.empty y129 x7_1).size, (((rdOf ByteArray.empty y129 x7_1)[1]'h).toNat : Int) = bt (rdOf ByteArray.empty y129 x7_1) 1 := bt_at (rdOf ByteArray.empty y129 x7_1) 1
                                    clear p43
                                    have qi43 : (1 < ((rdOf ByteArray.empty y129 x7_1).size : Int)) = True := eq_true (of_decide_eq_true (by first | (with_reducible assumption) | assumption))
                                    replace q43 := eq_true q43
                                    go_wp2_with (first | (go_at_call 32; (with_reducible refine (frisketref26_has.calls kj25 _ _ x5_1 (bt (rdOf ByteArray.empty y129 x7_1) 1) true _ ?side1 ?side2 A44.out).mono ?_); (case side1 => repeat (first | exact (Kd.R_reads' HO_5.out).2.2 | (with_reducible refine Kd.C_alloc ?_ _) | (with_reducible refine Kd.C_drewN ?_ _) | (with_reducible refine Kd.C_drew ?_))); (case side2 => exact (Kd.R_reads' HO_5.out).2.1); rintro e w' ⟨rfl, ⟨nd, rfl⟩⟩))
                                    go_ret2
                                    exact ⟨_, by first | rfl | (simp [errW_none, errW_some] <;> rfl) | (simp [*, errW_none, errW_some] <;> rfl), by first | exact Kd.S_nil _ _ _ _ _ | exact Kd.N_nil _ _ _ _ _ | exact Kd.V_nil _ _ _ _ _ | exact Kd.Q_nil _ _ _ _ _ | exact Kd.R_nil _ _ _ _ _, by repeat (first | (with_reducible first | exact HB.out | apply below_alloc | apply pw_below_drewN | apply below_drew1) | exact HB.out)⟩
                                  · replace c45 := Bool.eq_false_iff.mpr c45
                                    subst c45
                                    have H1 : (if 3 ≤ ((rdOf ByteArray.empty y129 x7_1).size : Int) then (if x5_1.length < 5864062014805 then (frisketref26_Data.l0 kj25 x4_1 (x5_1 ++ [(⟨bt (rdOf ByteArray.empty y129 x7_1) 1, (rdOf ByteArray.empty y129 x7_1).extract 3 (rdOf ByteArray.empty y129 x7_1).size⟩ : S69)]) y129 (wrap64 (x7_1 + 1))) else (none)) else (none)) = some (r1, r2) := by rw [if_neg (show ¬ (false = true) by decide)] at H; exact H
                                    clear H
                                    have H := H1
                                    clear H1
                                    by_cases c47 : 3 ≤ ((rdOf ByteArray.empty y129 x7_1).size : Int)
                                    · rw [if_pos c47] at H
                                      have c47b0 := eq_true c47
                                      have c47b1 : decide (3 ≤ ((rdOf ByteArray.empty y129 x7_1).size : Int)) = true := decide_eq_true c47
                                      clear c47
                                      by_cases c48 : x5_1.length < 5864062014805
                                      · rw [if_pos c48] at H
                                        have LMc48 := Aside0.mk c48
                                        clear c48
                                        obtain ⟨y141, hy141⟩ : ∃ y_ : List (S69), y_ = (x5_1 ++ [(⟨bt (rdOf ByteArray.empty y129 x7_1) 1, (rdOf ByteArray.empty y129 x7_1).extract 3 (rdOf ByteArray.empty y129 x7_1).size⟩ : S69)]) := ⟨_, rfl⟩
                                        replace H : (frisketref26_Data.l0 kj25 x4_1 y141 y129 (wrap64 (x7_1 + 1))) = some (r1, r2) := by first | (rw [hy141]; with_reducible exact H) | (have H2_ := (Option.bind_some _ _).symm.trans H; rw [hy141]; with_reducible exact H2_) | (have H2_ := (Option.bind_some _ _).symm.trans H; with_reducible exact H2_) | with_reducible exact H | (rw [hy141]; exact H) | exact H
                                        have Ny141 := Aside0.mk hy141
                                        clear hy141
                                        have H' := Aside0.mk H
                                        clear H
                                        have p36 : 0 ≤ (1 : Int) := (by omega)
                                        have q36 : 1 < (rdOf ByteArray.empty y129 x7_1).size := (by have : (1 : Int) < ((rdOf ByteArray.empty y129 x7_1).size : Int) := of_decide_eq_true (by first | (with_reducible assumption) | assumption); omega)
                                        have hx36 : ∀ h : 1 < (rdOf ByteArray.empty y129 x7_1).size, (((rdOf ByteArray.empty y129 x7_1)[1]'h).toNat : Int) = bt (rdOf ByteArray.empty y129 x7_1) 1 := bt_at (rdOf ByteArray.empty y129 x7_1) 1
                                        clear p36
                                        have qi36 : (1 < ((rdOf ByteArray.empty y129 x7_1).size : Int)) = True := eq_true (of_decide_eq_true (by first | (with_reducible assumption) | assumption))
                                        replace q36 := eq_true q36
                                        have p43 : 0 ≤ (1 : Int) := (by omega)
                                        have q43 : 1 < (rdOf ByteArray.empty y129 x7_1).size := (by have : (1 : Int) < ((rdOf ByteArray.empty y129 x7_1).size : Int) := of_decide_eq_true (by first | (with_reducible assumption) | assumption); omega)
                                        have hx43 : ∀ h : 1 < (rdOf ByteArray.empty y129 x7_1).size, (((rdOf ByteArray.empty y129 x7_1)[1]'h).toNat : Int) = bt (rdOf ByteArray.empty y129 x7_1) 1 := bt_at (rdOf ByteArray.empty y129 x7_1) 1
                                        clear p43
                                        have qi43 : (1 < ((rdOf ByteArray.empty y129 x7_1).size : Int)) = True := eq_true (of_decide_eq_true (by first | (with_reducible assumption) | assumption))
                                        replace q43 := eq_true q43
                                        try go_wp2_with (first | (go_at_call 32; (with_reducible refine (frisketref26_has.calls kj25 _ _ x5_1 (bt (rdOf ByteArray.empty y129 x7_1) 1) false _ ?side1 ?side2 A44.out).mono ?_); (case side1 => repeat (first | exact (Kd.R_reads' HO_5.out).2.2 | (with_reducible refine Kd.C_alloc ?_ _) | (with_reducible refine Kd.C_drewN ?_ _) | (with_reducible refine Kd.C_drew ?_))); (case side2 => exact (Kd.R_reads' HO_5.out).2.1); rintro e w' ⟨rfl, ⟨nd, rfl⟩⟩))
                                        (try (rw [drewN_self wc]; generalize hq_ : World.drewN wc _ = wc; have n0_ : Aside0 (Kd.S (Kd.slice 69 k69) 45 wc w.heap.size (fun k_ => some k_ ≠ (.slice Ao18 x5_1.length co18 : Value).ownBlock) u4 x4_1) := ⟨by rw [← hq_]; exact (by (with_reducible repeat (first | apply Kd.S_alloc | apply Kd.S_drewN | apply Kd.S_drew)); exact HO_4.out)⟩; have n1_ : Aside0 (Kd.R k69 69 wc w.heap.size (fun _ => True) (.slice Ao18 x5_1.length co18) x5_1) := ⟨by rw [← hq_]; exact (by (with_reducible repeat (first | apply Kd.R_alloc | apply Kd.R_drewN | apply Kd.R_drew)); exact HO_5.out)⟩; have n2_ : Aside0 (Kd.R Kd.string 9 wc w.heap.size (fun _ => True) (.slice (some ad132) y129.length co17) y129) := ⟨by rw [← hq_]; exact (by (with_reducible repeat (first | apply Kd.R_alloc | apply Kd.R_drewN | apply Kd.R_drew)); exact HO_6.out)⟩; have n3_ : Aside0 (Below w.heap.size w wc) := ⟨by rw [← hq_]; exact (by repeat (first | (with_reducible first | exact HB.out | apply below_alloc | apply pw_below_drewN | apply below_drew1) | exact HB.out))⟩; clear HO_4 HO_5 HO_6 HB hq_; have HO_4 := n0_; have HO_5 := n1_; have HO_6 := n2_; have HB := n3_; clear n0_ n1_ n2_ n3_))
                                        have n0_ := Aside0.mk (Kd.S_drew HO_4.out)
                                        have n1_ := Aside0.mk (Kd.R_drew HO_5.out)
                                        have n2_ := Aside0.mk (Kd.R_drew HO_6.out)
                                        have n3_ := Aside0.mk (below_drew1 HB.out)
                                        clear HO_4
                                        clear HO_5
                                        clear HO_6
                                        clear HB
                                        have HO_4 := n0_
                                        have HO_5 := n1_
                                        have HO_6 := n2_
                                        have HB := n3_
                                        clear n0_ n1_ n2_ n3_
                                        have p46 : 0 ≤ (1 : Int) := (by omega)
                                        have q46 : 1 < (rdOf ByteArray.empty y129 x7_1).size := (by have : (1 : Int) < ((rdOf ByteArray.empty y129 x7_1).size : Int) := of_decide_eq_true (by first | (with_reducible assumption) | assumption); omega)
                                        have hx46 : ∀ h : 1 < (rdOf ByteArray.empty y129 x7_1).size, (((rdOf ByteArray.empty y129 x7_1)[1]'h).toNat : Int) = bt (rdOf ByteArray.empty y129 x7_1) 1 := bt_at (rdOf ByteArray.empty y129 x7_1) 1
                                        clear p46
                                        have qi46 : (1 < ((rdOf ByteArray.empty y129 x7_1).size : Int)) = True := eq_true (of_decide_eq_true (by first | (with_reducible assumption) | assumption))
                                        replace q46 := eq_true q46
                                        refine start_ (n := 9) (S := fun w' => True) (ds := []) #[false, false, false, false, false, false, false, false, false] (by kernel_rfl) rfl rfl trivial (fun hHeld => ?_); refine with_tabW frisketref26_Data.tab9 frisketref26_Data.bits9 (fun HT_ HW_ => ?_)
                                        generalize wc.drew = w49 at HO_4 HO_5 HO_6 HB hHeld ⊢
                                        refine pure_ (i := 0) (N := some 27) (v := ?_) (a' := ?_) #[true, false, false, false, false, false, false, false, false] rfl rfl (any_of HT_.out (by kernel_rfl)) (fun _ _ _ h => h) (Or.inl ⟨by rfl, ?_⟩) ?_ ?_
                                        rotate_left
                                        · intro w'
                                          go_simp
                                          with_reducible rfl
                                        rotate_left
                                        · simp only [Act.put, List.setIfInBounds_toArray, List.set_cons_zero, List.set_cons_succ, i64_w, i32_w]
                                          rfl
                                        refine pure_ (i := 1) (N := some 28) (v := ?_) (a' := ?_) #[true, true, false, false, false, false, false, false, false] rfl rfl (any_of HT_.out (by kernel_rfl)) (fun _ _ _ h => h) (Or.inl ⟨by rfl, ?_⟩) ?_ ?_
                                        rotate_left
                                        · intro w'
                                          go_simp
                                          with_reducible rfl
                                        rotate_left
                                        · simp only [Act.put, List.setIfInBounds_toArray, List.set_cons_zero, List.set_cons_succ, i64_w, i32_w]
                                          rfl
                                        refine pure_ (i := 3) (N := some 30) (v := ?_) (a' := ?_) #[true, true, false, true, false, false, false, false, false] rfl rfl (any_of HT_.out (by kernel_rfl)) (fun _ _ _ h => h) (Or.inl ⟨by rfl, ?_⟩) ?_ ?_
                                        rotate_left
                                        · intro w'
                                          go_simp
                                          with_reducible rfl
                                        rotate_left
                                        · simp only [Act.put, List.setIfInBounds_toArray, List.set_cons_zero, List.set_cons_succ, i64_w, i32_w]
                                          rfl
                                        refine pure_ (i := 4) (N := some 31) (v := ?_) (a' := ?_) #[true, true, false, true, true, false, false, false, false] rfl rfl (any_of HT_.out (by kernel_rfl)) (fun _ _ _ h => h) (Or.inl ⟨by rfl, ?_⟩) ?_ ?_
                                        rotate_left
                                        · intro w'
                                          go_simp
                                          with_reducible rfl
                                        rotate_left
                                        · simp only [Act.put, List.setIfInBounds_toArray, List.set_cons_zero, List.set_cons_succ, i64_w, i32_w]
                                          rfl
                                        refine take_ (i := 2) (N := some 29) (v := ?_) (a' := ?_) #[true, true, true, true, true, false, false, false, false] rfl rfl (take_ofW HT_.out HW_.out (by kernel_rfl)) (fun _ _ _ h => h) (Or.inl ⟨by rfl, ?_⟩) hHeld ?_ ?_
                                        rotate_left
                                        · intro w' _
                                          go_simp
                                          with_reducible rfl
                                        rotate_left
                                        · simp only [Act.put, List.setIfInBounds_toArray, List.set_cons_zero, List.set_cons_succ, i64_w, i32_w]
                                          rfl
                                        refine pure_ (i := 5) (N := some 32) (v := ?_) (a' := ?_) #[true, true, true, true, true, true, false, false, false] rfl rfl (any_of HT_.out (by kernel_rfl)) (fun _ _ _ h => h) (Or.inl ⟨by rfl, ?_⟩) ?_ ?_
                                        rotate_left
                                        · intro w'
                                          go_simp
                                          with_reducible rfl
                                        rotate_left
                                        · simp only [Act.put, List.setIfInBounds_toArray, List.set_cons_zero, List.set_cons_succ, i64_w, i32_w]
                                          rfl
                                        refine one_ (i := 6) (N := some 33) #[true, true, true, true, true, true, true, false, false] rfl rfl (one_of HT_.out (by kernel_rfl)) (by decide) (fun K hK => ?_)
                                        refine value_ (w1 := ?_) (v := ?_) (by rfl) rfl ?_ ?_
                                        rotate_left 2
                                        · go_simp
                                          constructor
                                          · rfl
                                          · rfl
                                        refine hK.out _ _ trivial (fun hHeld => ?_)
                                        clear hK K
                                        refine norm_ (a' := ?_) ?_ ?_
                                        rotate_left
                                        · show Act.put _ (some 33) _ = _
                                          simp only [Act.put, List.setIfInBounds_toArray, List.set_cons_zero, List.set_cons_succ, i64_w, i32_w]
                                          rfl
                                        refine one_ (i := 7) (N := some 34) #[true, true, true, true, true, true, true, true, false] rfl rfl (one_of HT_.out (by kernel_rfl)) (by decide) (fun K hK => ?_)
                                        refine Kd.R_append_step k69 (w0 := w) w.heap.size (by rfl) (.tmp 27) (.tmp 33) 45 69 (.agg #[(.int .u8 0), (.string ⟨#[]⟩)]) 24 rfl Tryd.underlying45 info69 rfl (by decide) (by omega) (.slice Ao18 x5_1.length co18) x5_1 (⟨bt (rdOf ByteArray.empty y129 x7_1) 1, (rdOf ByteArray.empty y129 x7_1).extract 3 (rdOf ByteArray.empty y129 x7_1).size⟩ : S69) [.int .u8 (bt (rdOf ByteArray.empty y129 x7_1) 1), .string ((rdOf ByteArray.empty y129 x7_1).extract 3 (rdOf ByteArray.empty y129 x7_1).size)] (fun _ => True) (fun _ => False) rfl rfl ?aP (fun _ hk => hk.elim) ?aF ?aO ?aB ?aS ?aL ?_
                                        (case aP => exact k69_mkM _ _ _ (⟨bt (rdOf ByteArray.empty y129 x7_1) 1, (rdOf ByteArray.empty y129 x7_1).extract 3 (rdOf ByteArray.empty y129 x7_1).size⟩ : S69))
                                        (case aB => exact (by repeat (first | (with_reducible first | exact HB.out | apply below_alloc | apply pw_below_drewN | apply below_drew1) | exact HB.out)))
                                        (case aF => exact (fun _ _ => trivial))
                                        (case aO => exact (by (with_reducible repeat (first | apply Kd.R_alloc | apply Kd.R_drewN | apply Kd.R_drew)); exact HO_5.out))
                                        (case aS => exact (below_size (by repeat (first | (with_reducible first | exact HB.out | apply below_alloc | apply pw_below_drewN | apply below_drew1) | exact HB.out))))
                                        (case aL => have := LMc48.out; omega)
                                        intro v142 w50 ho hb hg hat
                                        rw [← Ny141.out] at ho
                                        have n0_ := Aside0.mk (Kd.S_after (ok := (fun _ => True)) (by (with_reducible repeat (first | apply Kd.S_alloc | apply Kd.S_drewN | apply Kd.S_drew)); exact Kd.S_mono HO_4.out (fun _ hk => ⟨trivial, hk⟩)) hg hat)
                                        have n1_ := Aside0.mk (Kd.R_over' (by (with_reducible repeat (first | apply Kd.R_alloc | apply Kd.R_drewN | apply Kd.R_drew)); exact HO_6.out) (Kd.R_typed (by (with_reducible repeat (first | apply Kd.R_alloc | apply Kd.R_drewN | apply Kd.R_drew)); exact HO_5.out)) (by decide) hg)
                                        have n2_ := Aside0.mk (hb)
                                        have n3_ := Aside0.mk (ho)
                                        clear HO_4
                                        clear HO_6
                                        clear HB
                                        clear HO_5
                                        have HO_4 := n0_
                                        have HO_6 := n1_
                                        have HB := n2_
                                        have HO143 := n3_
                                        clear n0_ n1_ n2_ n3_
                                        clear ho hb hg hat
                                        refine hK.out _ _ trivial (fun hHeld => ?_)
                                        clear hK K
                                        refine norm_ (a' := ?_) ?_ ?_
                                        rotate_left
                                        · show Act.put _ (some 34) _ = _
                                          simp only [Act.put, List.setIfInBounds_toArray, List.set_cons_zero, List.set_cons_succ, i64_w, i32_w]
                                          rfl
                                        refine pure_ (i := 8) (N := some 5) (v := ?_) (a' := ?_) #[true, true, true, true, true, true, true, true, true] rfl rfl (any_of HT_.out (by kernel_rfl)) (fun _ _ _ h => h) (Or.inl ⟨by rfl, ?_⟩) ?_ ?_
                                        rotate_left
                                        · intro w'
                                          go_simp
                                          with_reducible rfl
                                        rotate_left
                                        · simp only [Act.put, List.setIfInBounds_toArray, List.set_cons_zero, List.set_cons_succ, i64_w, i32_w]
                                          rfl
                                        refine done_ (done_of HT_.out (by kernel_rfl)) ?_
                                        try go_wp2
                                        go_roundg kj25
                                        case measure => have := HK1.out; have := HJ15.out; have := HJ25.out; omega
                                        case rel => exact ⟨(x4_1), (y141), (wrap64 (x7_1 + 1)), (by first | rfl | (simp; done) | (simp [*]; done)), H', ⟨by have := HK1.out; have := HJ15.out; have := HJ25.out; omega⟩, ⟨by (with_reducible repeat (first | apply Kd.S_alloc | apply Kd.S_drewN | apply Kd.S_drew)); exact Kd.S_mono HO_4.out (fun _ hk => hk.2)⟩, ⟨by (with_reducible repeat (first | apply Kd.R_alloc | apply Kd.R_drewN | apply Kd.R_drew)); exact HO143.out⟩, ⟨by (with_reducible repeat (first | apply Kd.R_alloc | apply Kd.R_drewN | apply Kd.R_drew)); exact HO_6.out⟩, ⟨by repeat (first | (with_reducible first | exact HB.out | apply below_alloc | apply pw_below_drewN | apply below_drew1) | exact HB.out)⟩⟩
                                      · rw [if_neg c48] at H
                                        exact absurd H (by simp)
                                    · rw [if_neg c47] at H
                                      exact absurd H (by simp)
                              · rw [if_neg c35] at H
                                exact absurd H (by simp)
                      · rw [if_neg c25] at H
                        have c25b0 : ((bt (rdOf ByteArray.empty y129 x7_1) 0) == 37) = false := beq_eq_false_iff_ne.mpr c25
                        have c25b1 : ((bt (rdOf ByteArray.empty y129 x7_1) 0) != 37) = true := bne_iff_ne.mpr c25
                        obtain ⟨ji51, hji51⟩ : ∃ j_ : Int, (wrap64 ((x5_1.length : Int) - 1)) = j_ := ⟨_, rfl⟩
                        replace H : (if 0 ≤ (ji51) then (if (ji51) < (x5_1.length : Int) then (if ((rd_T69 x5_1 (ji51)).f1).size + 1 ≤ 9223372036854775807 then (if (((rd_T69 x5_1 (ji51)).f1) ++ (⟨#[32]⟩ : ByteArray)).size + (rdOf ByteArray.empty y129 x7_1).size ≤ 9223372036854775807 then (frisketref26_Data.l0 kj15 x4_1 (x5_1.set ((ji51) : Int).toNat (⟨(rd_T69 x5_1 (ji51)).f0, (((rd_T69 x5_1 (ji51)).f1) ++ (⟨#[32]⟩ : ByteArray)) ++ (rdOf ByteArray.empty y129 x7_1)⟩ : S69)) y129 (wrap64 (x7_1 + 1))) else (none)) else (none)) else (none)) else (none)) = some (r1, r2) := by first | (rw [hji51] at H; exact H) | (simp only [hji51] at H ⊢; exact H)
                        have hji51w : (IntKind.i64.wrap ((x5_1.length : Int) - 1)) = ji51 := (i64_w _).trans hji51
                        by_cases c52 : 0 ≤ (ji51)
                        · rw [if_pos c52] at H
                          have c52b0 : decide (0 ≤ (ji51)) = true := decide_eq_true c52
                          clear c52
                          by_cases c53 : (ji51) < (x5_1.length : Int)
                          · rw [if_pos c53] at H
                            have c53b0 : decide ((ji51) < (x5_1.length : Int)) = true := decide_eq_true c53
                            clear c53
                            by_cases c54 : ((rd_T69 x5_1 (ji51)).f1).size + 1 ≤ 9223372036854775807
                            · rw [if_pos c54] at H
                              have c54b0 := eq_true c54
                              have c54b1 : decide (((rd_T69 x5_1 (ji51)).f1).size + 1 ≤ 9223372036854775807) = true := decide_eq_true c54
                              try have c54b2 : (9223372036854775807 < ((rd_T69 x5_1 (ji51)).f1).size + 1) = False := eq_false (Nat.not_lt.2 c54)
                              by_cases c55 : (((rd_T69 x5_1 (ji51)).f1) ++ (⟨#[32]⟩ : ByteArray)).size + (rdOf ByteArray.empty y129 x7_1).size ≤ 9223372036854775807
                              · rw [if_pos c55] at H
                                have c55b0 := eq_true c55
                                have c55b1 : decide ((((rd_T69 x5_1 (ji51)).f1) ++ (⟨#[32]⟩ : ByteArray)).size + (rdOf ByteArray.empty y129 x7_1).size ≤ 9223372036854775807) = true := decide_eq_true c55
                                try have c55b2 : (9223372036854775807 < (((rd_T69 x5_1 (ji51)).f1) ++ (⟨#[32]⟩ : ByteArray)).size + (rdOf ByteArray.empty y129 x7_1).size) = False := eq_false (Nat.not_lt.2 c55)
                                obtain ⟨y145, hy145⟩ : ∃ y_ : List (S69), y_ = (x5_1.set ((ji51) : Int).toNat (⟨(rd_T69 x5_1 (ji51)).f0, (((rd_T69 x5_1 (ji51)).f1) ++ (⟨#[32]⟩ : ByteArray)) ++ (rdOf ByteArray.empty y129 x7_1)⟩ : S69)) := ⟨_, rfl⟩
                                replace H : (frisketref26_Data.l0 kj15 x4_1 y145 y129 (wrap64 (x7_1 + 1))) = some (r1, r2) := by first | (rw [hy145]; with_reducible exact H) | (have H2_ := (Option.bind_some _ _).symm.trans H; rw [hy145]; with_reducible exact H2_) | (have H2_ := (Option.bind_some _ _).symm.trans H; with_reducible exact H2_) | with_reducible exact H | (rw [hy145]; exact H) | exact H
                                have Ny145 := Aside0.mk hy145
                                clear hy145
                                have H' := Aside0.mk H
                                clear H
                                have p24 : 0 ≤ (0 : Int) := (by omega)
                                have q24 : 0 < (rdOf ByteArray.empty y129 x7_1).size := (by have : (0 : Int) < ((rdOf ByteArray.empty y129 x7_1).size : Int) := of_decide_eq_true (by first | (with_reducible assumption) | assumption); omega)
                                have hx24 : ∀ h : 0 < (rdOf ByteArray.empty y129 x7_1).size, (((rdOf ByteArray.empty y129 x7_1)[0]'h).toNat : Int) = bt (rdOf ByteArray.empty y129 x7_1) 0 := bt_at (rdOf ByteArray.empty y129 x7_1) 0
                                clear p24
                                have qi24 : (0 < ((rdOf ByteArray.empty y129 x7_1).size : Int)) = True := eq_true (of_decide_eq_true (by first | (with_reducible assumption) | assumption))
                                replace q24 := eq_true q24
                                have p144 : 0 ≤ ((ji51) : Int) := of_decide_eq_true (by first | (with_reducible assumption) | assumption)
                                have q144 : (ji51) < (x5_1.length : Int) := of_decide_eq_true (by first | (with_reducible assumption) | assumption)
                                obtain ⟨ad144, e144, hx144_0, hx144_1⟩ := at_T69 (Kd.R_reads' HO_5.out).2.2 (ji51) p144 q144
                                cases e144
                                replace p144 := eq_true p144
                                replace q144 := eq_true q144
                                have p56 : 0 ≤ ((ji51) : Int) := of_decide_eq_true (by first | (with_reducible assumption) | assumption)
                                have q56 : ((ji51) : Int) < ((x5_1.length : Int) : Int) := of_decide_eq_true (by first | (with_reducible assumption) | assumption)
                                obtain ⟨go56, co56, eo56, gb56, gl56, cl56, HG56⟩ := Kd.R_form HO_5.out (by omega)
                                (first | cases eo56 | (injection eo56 with ea_ en_ ec_; (first | subst ea_ | (injection ea_ with ea_; subst ea_)); subst ec_; clear en_))
                                have GB56 := Aside0.mk gb56
                                have GG56 := Aside0.mk HG56
                                clear gb56 gl56 HG56
                                (first | simp only [add_plain] at hx144_0 | skip)
                                (first | simp only [add_plain] at hx144_1 | skip)
                                obtain ⟨ce56, hcl56, hM56, hcc56, hfr56⟩ := Kd.R_elem HO_5.out z69 ((ji51) : Int) p56 q56
                                obtain rfl := k69_openM hM56
                                have hx56_0 : wc.cell? ⟨go56, ((ji51) : Int).toNat * 2, none⟩ = some (.int .u8 ((rd_T69 x5_1 (ji51)).f0)) := hcc56 0 _ rfl
                                have hx56_1 : wc.cell? ⟨go56, ((ji51) : Int).toNat * 2 + 1, none⟩ = some (.string ((rd_T69 x5_1 (ji51)).f1)) := hcc56 1 _ rfl
                                have hf56_0 : wc.frozen? ⟨go56, ((ji51) : Int).toNat * 2, none⟩ = false := hfr56 0
                                have hf56_1 : wc.frozen? ⟨go56, ((ji51) : Int).toNat * 2 + 1, none⟩ = false := hfr56 1
                                clear hcl56 hcc56 hfr56 hM56
                                replace p56 := eq_true p56
                                replace q56 := eq_true q56
                                have HX57 := Aside0.mk (show Kd.R k69 69 wc w.heap.size (fun _ => True) (.slice (some ⟨go56, 0, none⟩) x5_1.length co18) x5_1 from (by (with_reducible repeat (first | apply Kd.R_alloc | apply Kd.R_drewN | apply Kd.R_drew)); exact HO_5.out))
                                obtain ⟨ce57, hcl57, hM57, hcc57, hfr57⟩ := Kd.R_elem HX57.out z69 ((ji51) : Int) (of_decide_eq_true (by first | (with_reducible assumption) | assumption)) (by have h_ : ((ji51) : Int) < ((x5_1.length : Int) : Int) := of_decide_eq_true (by first | (with_reducible assumption) | assumption); first | exact h_ | (have e_ := (Kd.R_reads' HO_5.out).1; omega) | simpa using h_)
                                obtain rfl := k69_openM hM57
                                have HP57 := Kd.R_seg HX57.out ((ji51) : Int) (of_decide_eq_true (by first | (with_reducible assumption) | assumption)) (by have h_ : ((ji51) : Int) < ((x5_1.length : Int) : Int) := of_decide_eq_true (by first | (with_reducible assumption) | assumption); first | exact h_ | (have e_ := (Kd.R_reads' HO_5.out).1; omega) | simpa using h_) (seg := [.string ((((rd_T69 x5_1 (ji51)).f1) ++ (⟨#[32]⟩ : ByteArray)) ++ (rdOf ByteArray.empty y129 x7_1))]) (j := 1) hcl57 hcc57 (show 2 ≤ 2 from by decide) (x' := (⟨(rd_T69 x5_1 (ji51)).f0, (((rd_T69 x5_1 (ji51)).f1) ++ (⟨#[32]⟩ : ByteArray)) ++ (rdOf ByteArray.empty y129 x7_1)⟩ : S69)) (k69_mkM _ _ _ (⟨(rd_T69 x5_1 (ji51)).f0, (((rd_T69 x5_1 (ji51)).f1) ++ (⟨#[32]⟩ : ByteArray)) ++ (rdOf ByteArray.empty y129 x7_1)⟩ : S69) ) (fun _ hk => hk)
                                have hx57_1 := hcc57 1 _ rfl
                                (try simp only [show (k69).sz = 2 from rfl, Nat.mul_one, Nat.add_zero] at hx57_1)
                                have hf57_1 := hfr57 1
                                (try simp only [show (k69).sz = 2 from rfl, Nat.mul_one, Nat.add_zero] at hf57_1)
                                clear hcl57 hcc57 hfr57 hM57
                                go_wp2_with (first | ((with_reducible refine gate_store (t := 9) (p := 67) rfl ?_); refine store_event (t := 9) (p := 67) (v := ?vo_w58) (w1 := (wc.setCell ⟨go56, ((ji51) : Int).toNat * 2 + 1, none⟩ (.string ((((rd_T69 x5_1 (ji51)).f1) ++ (⟨#[32]⟩ : ByteArray)) ++ (rdOf ByteArray.empty y129 x7_1))))) ?hg ?ho ?hn ?hr ?_; (case ho => rfl); (case hg => rfl); (case hn => rfl); (case hr => first | (go_simp; done) | (go_simp; rfl)); intro w58 hw; have hg : wc.grownBy w58 (some go56) := (by rw [hw]; exact HP57.2); have hp_ : Kd.R k69 69 w58 w.heap.size (fun _ => True) (.slice (some ⟨go56, 0, none⟩) x5_1.length co18) y145 := (by rw [hw, Ny145.out]; exact HP57.1); clear HP57; have n0_ := Aside0.mk (Kd.S_after (v := (.slice (some ⟨go56, 0, none⟩) x5_1.length co18)) (v1 := (.slice (some ⟨go56, 0, none⟩) x5_1.length co18)) (ok := (fun _ => True)) (by (with_reducible repeat (first | apply Kd.S_alloc | apply Kd.S_drewN | apply Kd.S_drew)); exact Kd.S_mono HO_4.out (fun _ hk => ⟨trivial, hk⟩)) hg (.inl rfl)); have n1_ := Aside0.mk (hp_); have n2_ := Aside0.mk (Kd.R_over' (v := (.slice (some ⟨go56, 0, none⟩) x5_1.length co18)) (by (with_reducible repeat (first | apply Kd.R_alloc | apply Kd.R_drewN | apply Kd.R_drew)); exact HO_6.out) (Kd.R_typed HO_5.out) (by decide) hg); have n3_ := Aside0.mk ((by rw [hw]; exact below_set (HB.out) GB56.out : Below w.heap.size w w58)); clear HO_4; clear HO_5; clear HO_6; clear HB; have HO_4 := n0_; have HO_5 := n1_; have HO_6 := n2_; have HB := n3_; clear n0_ n1_ n2_ n3_; clear hg hw hp_))
                                go_roundg kj15
                                case measure => have := HK1.out; have := HJ15.out; omega
                                case rel => exact ⟨(x4_1), (y145), (wrap64 (x7_1 + 1)), (by first | rfl | (simp; done) | (simp [*]; done)), H', ⟨by have := HK1.out; have := HJ15.out; omega⟩, ⟨by (with_reducible repeat (first | apply Kd.S_alloc | apply Kd.S_drewN | apply Kd.S_drew)); exact Kd.S_mono HO_4.out (fun _ hk => hk.2)⟩, ⟨by (with_reducible repeat (first | apply Kd.R_alloc | apply Kd.R_drewN | apply Kd.R_drew)); exact HO_5.out⟩, ⟨by (with_reducible repeat (first | apply Kd.R_alloc | apply Kd.R_drewN | apply Kd.R_drew)); exact HO_6.out⟩, ⟨by repeat (first | (with_reducible first | exact HB.out | apply below_alloc | apply pw_below_drewN | apply below_drew1) | exact HB.out)⟩⟩
                              · rw [if_neg c55] at H
                                exact absurd H (by simp)
                            · rw [if_neg c54] at H
                              exact absurd H (by simp)
                          · rw [if_neg c53] at H
                            exact absurd H (by simp)
                        · rw [if_neg c52] at H
                          exact absurd H (by simp)
                    · rw [if_neg c23] at H
                      exact absurd H (by simp)
          · rw [if_neg c7] at H
            exact absurd H (by simp)
        · rw [if_neg c6] at H
          have c6b0 : decide (x7_1 < (y129.length : Int)) = false := decide_eq_false c6
          clear c6
          by_cases c59 : (x4_1.length : Int) > 500
          · rw [if_pos c59] at H
            have c59b0 : decide (500 < (x4_1.length : Int)) = true := decide_eq_true c59
            have c59b1 : decide (500 < x4_1.length) = true := decide_eq_true (by omega)
            clear c59
            simp only [Option.some.injEq, Prod.mk.injEq] at H
            obtain ⟨rfl, rfl⟩ := H
            obtain ⟨Ao60, co60, eo60⟩ := Kd.R_slice HO_6.out
            subst eo60
            obtain ⟨Ao61, co61, eo61⟩ := Kd.S_slice HO_4.out
            subst eo61
            go_wp2
            go_ret2
            exact ⟨_, by first | rfl | (simp [errW_none, errW_some] <;> rfl) | (simp [*, errW_none, errW_some] <;> rfl), by first | exact Kd.S_nil _ _ _ _ _ | exact Kd.N_nil _ _ _ _ _ | exact Kd.V_nil _ _ _ _ _ | exact Kd.Q_nil _ _ _ _ _ | exact Kd.R_nil _ _ _ _ _, by repeat (first | (with_reducible first | exact HB.out | apply below_alloc | apply pw_below_drewN | apply below_drew1) | exact HB.out)⟩
          · rw [if_neg c59] at H
            have c59b0 : decide (500 < (x4_1.length : Int)) = false := decide_eq_false c59
            have c59b1 : decide (500 < x4_1.length) = false := decide_eq_false (by omega)
            clear c59
            simp only [Option.some.injEq, Prod.mk.injEq] at H
            obtain ⟨rfl, rfl⟩ := H
            obtain ⟨Ao62, co62, eo62⟩ := Kd.R_slice HO_6.out
            subst eo62
            obtain ⟨Ao63, co63, eo63⟩ := Kd.S_slice HO_4.out
            subst eo63
            go_wp2
            go_ret2
            exact ⟨_, by first | rfl | (simp [errW_none, errW_some] <;> rfl) | (simp [*, errW_none, errW_some] <;> rfl), by (with_reducible repeat (first | apply Kd.S_alloc | apply Kd.S_drewN | apply Kd.S_drew)); exact Kd.S_mono HO_4.out (fun _ hk => trivial), by repeat (first | (with_reducible first | exact HB.out | apply below_alloc | apply pw_below_drewN | apply below_drew1) | exact HB.out)⟩
  · rw [if_neg c3] at H
    exact absurd H (by simp)

end Go.Proofs.YtmoloaneidledaaDoor.Pdata

/- Walks of layer 14: Take, where a number is shown or left out. -/
import Derived.Test.YtgdoebpdpcfbeaaDoorWalkB
set_option linter.unusedVariables false
set_option linter.unusedSimpArgs false
namespace Go.Proofs.YtgdoebpdpcfbeaaDoor
open Go.Shelf Go.RowKit Go.Lib Go.Aids Go.Proofs.YtgdoebpdpcfbeaaDoorW.PrintWords Go.Proofs.YtgdoebpdpcfbeaaDoorW.PrintMore
attribute [local go_sem] max2_int min2_int max_two min_two


set_option maxRecDepth 100000 in
set_option maxHeartbeats 4000000 in
theorem show_lowP {n e s i : Int} (h : Fit n e s i 0) (hm : (n.tmod e == 0) = true) (hn1 : wrap64 (n + 1) = n + 1) (hgt : decide ((1000000 : Int) < n + 1) = false) (w : World) (t : ByteArray) (ht : t.size ≤ 100) (HI : Hid (∀ W, Below w.heap.size w W → Calls Tryd.prog 15 #[.int .i64 n] W fun e' w' => e' = .returned (.string t) ∧ Below W.heap.size W w')) (c d : Int) (hwr : IntKind.i64.wrap (3 - (t.size : Int)) = d) (hd : 0 < d ∧ c = d) (Bl : ByteArray) (hbl : Bl.size ≤ 3) (HR : Hid (∀ W, Calls Tryd.prog 14 #[.string ⟨#[32]⟩, .int .i64 c] W fun e' w' => e' = .returned (.string Bl) ∧ Below W.heap.size W w')) :
    Calls Tryd.prog 7 #[num true n e s i 0] w fun e' w' => e' = .returned (.tuple #[.string (Bl ++ t), num true (n + 1) e s i 0, .int .i64 0]) ∧ Below w.heap.size w w' := by
  have HV := Lib.hid (fun W => valid_calls true h W)
  have he0 : e ≠ 0 := by have := h.e0; omega
  obtain ⟨hd0, rfl⟩ := hd
  clear h
  go_enter Tryd.func7, Tryd.ntmps7
  go_wp2_with fail
  refine (HV.out _).mono ?_
  rintro e' w1 ⟨rfl, hb⟩
  have B0 : Below w.heap.size w w1 := (((Below.refl _ w).alloc (Nat.le_refl _) _).alloc (by simp) _).trans (hb.mono (by simp; omega))
  have N0 : Nb w1 w.heap.size true n e s i 0 := ((Nb.new w true n e s i 0).alloc _).below hb
  have N1 : Nb w1 (w.heap.size + 1) false 0 0 0 0 0 := by
    have := (Nb.new (w.alloc (.cells #[.bool true, .int .i64 n, .int .i64 e, .int .i64 s, .int .i64 i, .int .i64 0] 23)) false 0 0 0 0 0).below hb
    simpa using this
  clear hb HV
  obtain ⟨c0, c1, c2, c3, c4, c5, cf, cl⟩ := N0.cells
  go_wp2_with fail
  refine (HI.out _ B0).mono ?_
  rintro e' w0 ⟨rfl, hb0⟩
  have N0 := N0.below hb0
  have N1 := N1.below hb0
  have B0 := B0.trans (hb0.mono B0.size)
  clear c0 c1 c2 c3 c4 c5 cf cl hb0 HI
  obtain ⟨c0, c1, c2, c3, c4, c5, cf, cl⟩ := N0.cells
  generalize w0 = w1 at *
  have M0 := N0.set1 (n + 1)
  have M1 := N1.other (c := w.heap.size) (o := 1) (.int .i64 (n + 1)) (by omega)
  have C0 := B0.setCell (p := ⟨w.heap.size, 1, none⟩) (Nat.le_refl _) (.int .i64 (n + 1))
  go_wp2
  clear N0 N1 B0 c0 c1 c2 c3 c4 c5 cf cl
  generalize w1.setCell ⟨w.heap.size, 1, none⟩ (.int .i64 (n + 1)) = w2 at *
  obtain ⟨c0, c1, c2, c3, c4, c5, cf, cl⟩ := M0.cells
  have hs2 := C0.size
  go_region_with (go_at_call 14; refine (HR.out _).mono ?_; rintro e' w3 ⟨rfl, hb3⟩; obtain ⟨g0, g1, g2, g3, g4, g5, gf, gl⟩ := (M0.drew.below hb3).cells; obtain ⟨d0, d1, d2, d3, d4, d5, df, dl⟩ := (M1.drew.below hb3).cells; have N1 := M1.drew.below hb3; have B3 := C0.drew.trans (hb3.mono hs2))
  all_goals
    go_wp2
    have N2 := N1.put true (n + 1) e s i 0
    have B2 := put6_below B3 (Nat.le_succ _) true (n + 1) e s i 0
    change bodyPost _ _ _ _ _ (put6 w3 (w.heap.size + 1) true (n + 1) e s i 0)
    generalize put6 w3 (w.heap.size + 1) true (n + 1) e s i 0 = w4 at *
    obtain ⟨r0, r1, r2, r3, r4, r5, rf, rl⟩ := N2.cells
    clear N1 N2 B3 c0 c1 c2 c3 c4 c5 cf cl d0 d1 d2 d3 d4 d5 df dl g0 g1 g2 g3 g4 g5 gf gl HR
    simp [bodyPost, results, Tryd.results7, go_sem, r0, r1, r2, r3, r4, r5]
    exact B2

end Go.Proofs.YtgdoebpdpcfbeaaDoor

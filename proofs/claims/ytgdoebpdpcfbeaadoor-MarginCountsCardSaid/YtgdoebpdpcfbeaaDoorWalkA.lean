/- Walks of layer 14: Take, Field, the fixed example. -/
import Derived.Test.YtgdoebpdpcfbeaaDoorShelf
import Derived.Test.YtgdoebpdpcfbeaaDoorAids
import Derived.Test.YtgdoebpdpcfbeaaDoorPMadex1
import Derived.Test.YtgdoebpdpcfbeaaDoorPFieldx1
import Derived.WalkKit
import Derived.WalkSpells
import Derived.WalkLawsBesides
import Derived.Deep.QuietTactic
import Derived.StillTailTactics
import Derived.LoopTactic
import Derived.LoopN
import Derived.Lib.Hide
set_option linter.unusedVariables false
set_option linter.unusedSimpArgs false
namespace Go.Proofs.YtgdoebpdpcfbeaaDoor
open Go.Shelf Go.RowKit Go.Lib Go.Aids Go.Proofs.YtgdoebpdpcfbeaaDoorW.PrintWords

/-- Numbers, as a value. -/
abbrev num (on : Bool) (n e s i k : Int) : Value := .agg #[.bool on, .int .i64 n, .int .i64 e, .int .i64 s, .int .i64 i, .int .i64 k]
/-- They are such. -/
structure Fit (n e s i k : Int) : Prop where
  n0 : 0 ≤ n
  n1 : n ≤ 1000000
  e0 : 1 ≤ e
  e1 : e ≤ 1000
  s0 : 0 ≤ s
  s1 : s ≤ 100
  i0 : 0 ≤ i
  i1 : i ≤ 100
  k0 : 0 ≤ k
  k1 : k ≤ 1000
theorem within_yes {a lo hi : Int} (h1 : lo ≤ a) (h2 : a ≤ hi) : PField.margin_within.f a lo hi = some true := by
  unfold PField.margin_within.f; rw [if_pos h1, decide_eq_true h2]
theorem valid_calls {n e s i k : Int} (on : Bool) (h : Fit n e s i k) (w : World) : Calls Tryd.prog 13 #[num on n e s i k] w fun e w' => e = .returned (.bool true) ∧ Below w.heap.size w w' := by
  refine PField.margin_Valid.calls on n e s i k true w ?_
  unfold PField.margin_Valid.f
  rw [within_yes h.n0 h.n1, within_yes h.e0 h.e1, within_yes h.s0 h.s1, within_yes h.i0 h.i1, within_yes h.k0 h.k1]
  rfl
theorem field_off {n e s i k : Int} (h : Fit n e s i k) (w : World) : Calls Tryd.prog 10 #[num false n e s i k] w fun e w' => e = .returned (.tuple #[.int .i64 0, .int .i64 0]) ∧ Below w.heap.size w w' := by
  refine PField.margin_Field.calls false n e s i k 0 0 w ?_
  unfold PField.margin_Field.f PField.margin_Valid.f
  rw [within_yes h.n0 h.n1, within_yes h.e0 h.e1, within_yes h.s0 h.s1, within_yes h.i0 h.i1, within_yes h.k0 h.k1]
  rfl

/-- Numbers lie in a block. -/
def Nb (w : World) (b : Nat) (on : Bool) (n e s i k : Int) : Prop := w.heap[b]? = some (.cells #[.bool on, .int .i64 n, .int .i64 e, .int .i64 s, .int .i64 i, .int .i64 k] 23 (0, 0))
theorem Nb.cells {w : World} {b : Nat} {on : Bool} {n e s i k : Int} (h : Nb w b on n e s i k) :
    w.cell? ⟨b, 0, none⟩ = some (.bool on) ∧ w.cell? ⟨b, 1, none⟩ = some (.int .i64 n) ∧ w.cell? ⟨b, 2, none⟩ = some (.int .i64 e) ∧ w.cell? ⟨b, 3, none⟩ = some (.int .i64 s) ∧ w.cell? ⟨b, 4, none⟩ = some (.int .i64 i) ∧ w.cell? ⟨b, 5, none⟩ = some (.int .i64 k) ∧
    (∀ o, w.frozen? ⟨b, o, none⟩ = false) ∧ b < w.heap.size := by
  unfold Nb at h
  refine ⟨?_, ?_, ?_, ?_, ?_, ?_, ?_, ?_⟩
  all_goals first | (simp [World.cell?, World.frozen?, h]; done) | skip
  rw [Array.getElem?_eq_some_iff] at h; exact h.1
theorem Nb.new (w : World) (on : Bool) (n e s i k : Int) : Nb (w.alloc (.cells #[.bool on, .int .i64 n, .int .i64 e, .int .i64 s, .int .i64 i, .int .i64 k] 23)) w.heap.size on n e s i k := heap_alloc_new w _
theorem Nb.lt {w : World} {b : Nat} {on : Bool} {n e s i k : Int} (h : Nb w b on n e s i k) : b < w.heap.size := h.cells.2.2.2.2.2.2.2
theorem Nb.below {w w' : World} {b : Nat} {on : Bool} {n e s i k : Int} (h : Nb w b on n e s i k) (hb : Below w.heap.size w w') : Nb w' b on n e s i k := (hb.block b h.lt).trans h
theorem Nb.alloc {w : World} {b : Nat} {on : Bool} {n e s i k : Int} (h : Nb w b on n e s i k) (o : Obj) : Nb (w.alloc o) b on n e s i k := (Below.heap_alloc w o b h.lt).trans h
theorem Nb.drew {w : World} {b : Nat} {on : Bool} {n e s i k : Int} (h : Nb w b on n e s i k) : Nb w.drew b on n e s i k := by
  unfold Nb at h ⊢; exact h
theorem Nb.set1 {w : World} {b : Nat} {on : Bool} {n e s i k : Int} (h : Nb w b on n e s i k) (n' : Int) : Nb (w.setCell ⟨b, 1, none⟩ (.int .i64 n')) b on n' e s i k := by
  unfold Nb at h ⊢
  simp [World.setCell, Array.getElem?_modify, h]
theorem Nb.set5 {w : World} {b : Nat} {on : Bool} {n e s i k : Int} (h : Nb w b on n e s i k) (k' : Int) : Nb (w.setCell ⟨b, 5, none⟩ (.int .i64 k')) b on n e s i k' := by
  unfold Nb at h ⊢
  simp [World.setCell, Array.getElem?_modify, h]
theorem Nb.other {w : World} {b c o : Nat} {on : Bool} {n e s i k : Int} (h : Nb w b on n e s i k) (v : Value) (hne : b ≠ c) : Nb (w.setCell ⟨c, o, none⟩ v) b on n e s i k := (Below.heap_setCell w _ v b hne).trans h
/-- All six are stored. -/
def put6 (w : World) (b : Nat) (on : Bool) (n e s i k : Int) : World := (((((w.setCell ⟨b, 0, none⟩ (.bool on)).setCell ⟨b, 1, none⟩ (.int .i64 n)).setCell ⟨b, 2, none⟩ (.int .i64 e)).setCell ⟨b, 3, none⟩ (.int .i64 s)).setCell ⟨b, 4, none⟩ (.int .i64 i)).setCell ⟨b, 5, none⟩ (.int .i64 k)
theorem Nb.put {w : World} {b : Nat} {on : Bool} {n e s i k : Int} (h : Nb w b on n e s i k) (on' : Bool) (n' e' s' i' k' : Int) : Nb (put6 w b on' n' e' s' i' k') b on' n' e' s' i' k' := by
  unfold Nb at h ⊢
  simp [put6, World.setCell, Array.getElem?_modify, h]
theorem put6_below {B : Nat} {a w : World} {b : Nat} (h : Below B a w) (hb : B ≤ b) (on : Bool) (n e s i k : Int) : Below B a (put6 w b on n e s i k) :=
  (((((h.setCell (p := ⟨b, 0, none⟩) hb _).setCell (p := ⟨b, 1, none⟩) hb _).setCell (p := ⟨b, 2, none⟩) hb _).setCell (p := ⟨b, 3, none⟩) hb _).setCell (p := ⟨b, 4, none⟩) hb _).setCell (p := ⟨b, 5, none⟩) hb _
set_option maxRecDepth 100000 in
set_option maxHeartbeats 4000000 in
theorem take_off {n e s i k : Int} (h : Fit n e s i k) (w : World) : Calls Tryd.prog 7 #[num false n e s i k] w fun e' w' => e' = .returned (.tuple #[.string ⟨#[]⟩, num false n e s i k, .int .i64 0]) ∧ Below w.heap.size w w' := by
  have HV := Lib.hid (fun W => valid_calls false h W)
  go_enter Tryd.func7, Tryd.ntmps7
  go_wp2_with fail
  refine (HV.out _).mono ?_
  rintro e' w1 ⟨rfl, hb⟩
  have B0 : Below w.heap.size w w1 := (((Below.refl _ w).alloc (Nat.le_refl _) _).alloc (by simp) _).trans (hb.mono (by simp; omega))
  have N0 : Nb w1 w.heap.size false n e s i k := ((Nb.new w false n e s i k).alloc _).below hb
  have N1 : Nb w1 (w.heap.size + 1) false 0 0 0 0 0 := by
    have := (Nb.new (w.alloc (.cells #[.bool false, .int .i64 n, .int .i64 e, .int .i64 s, .int .i64 i, .int .i64 k] 23)) false 0 0 0 0 0).below hb
    simpa using this
  clear hb
  obtain ⟨c0, c1, c2, c3, c4, c5, cf, cl⟩ := N0.cells
  obtain ⟨d0, d1, d2, d3, d4, d5, df, dl⟩ := N1.cells
  go_wp2
  go_region
  go_wp2
  have N2 : Nb (put6 w1 (w.heap.size + 1) false n e s i k).drew (w.heap.size + 1) false n e s i k := (N1.put false n e s i k).drew
  have B2 : Below w.heap.size w (put6 w1 (w.heap.size + 1) false n e s i k).drew := (put6_below B0 (Nat.le_succ _) false n e s i k).drew
  change bodyPost _ _ _ _ _ (put6 w1 (w.heap.size + 1) false n e s i k).drew
  generalize (put6 w1 (w.heap.size + 1) false n e s i k).drew = w2 at *
  obtain ⟨r0, r1, r2, r3, r4, r5, rf, rl⟩ := N2.cells
  clear N0 N1 N2 c0 c1 c2 c3 c4 c5 cf cl d0 d1 d2 d3 d4 d5 df dl HV
  simp [bodyPost, results, Tryd.results7, go_sem, r0, r1, r2, r3, r4, r5]
  exact B2

/-- So many blanks. -/
def blanks (c : Nat) : ByteArray := ⟨(Lib.repeatL (⟨#[32]⟩ : ByteArray).data.toList c).toArray⟩
theorem rep_calls (c : Nat) (hc : c ≤ 3) (w : World) : Calls Tryd.prog 14 #[.string ⟨#[32]⟩, .int .i64 c] w fun e w' => e = .returned (.string (blanks c)) ∧ Below w.heap.size w w' :=
  Tryd.strings_Repeat ⟨#[32]⟩ c w (by omega) (by have : (⟨#[32]⟩ : ByteArray).size = 1 := rfl; rw [this]; omega)

set_option maxRecDepth 100000 in
set_option maxHeartbeats 4000000 in
theorem take_skip {n e s i k : Int} (h : Fit n e s i k) (hk : 0 < k) (w : World) : Calls Tryd.prog 7 #[num true n e s i k] w fun e' w' => e' = .returned (.tuple #[.string (blanks 3), num true n e s i (k - 1), .int .i64 0]) ∧ Below w.heap.size w w' := by
  have HV := Lib.hid (fun W => valid_calls true h W)
  have HR := Lib.hid (fun W => rep_calls 3 (by decide) W)
  have hk1 : wrap64 (k - 1) = k - 1 := by unfold wrap64; have := h.k1; omega
  go_enter Tryd.func7, Tryd.ntmps7
  go_wp2_with fail
  refine (HV.out _).mono ?_
  rintro e' w1 ⟨rfl, hb⟩
  have B0 : Below w.heap.size w w1 := (((Below.refl _ w).alloc (Nat.le_refl _) _).alloc (by simp) _).trans (hb.mono (by simp; omega))
  have N0 : Nb w1 w.heap.size true n e s i k := ((Nb.new w true n e s i k).alloc _).below hb
  have N1 : Nb w1 (w.heap.size + 1) false 0 0 0 0 0 := by
    have := (Nb.new (w.alloc (.cells #[.bool true, .int .i64 n, .int .i64 e, .int .i64 s, .int .i64 i, .int .i64 k] 23)) false 0 0 0 0 0).below hb
    simpa using this
  clear hb
  obtain ⟨c0, c1, c2, c3, c4, c5, cf, cl⟩ := N0.cells
  obtain ⟨d0, d1, d2, d3, d4, d5, df, dl⟩ := N1.cells
  go_wp2
  have M0 := N0.set5 (k - 1)
  have M1 := N1.other (c := w.heap.size) (o := 5) (.int .i64 (k - 1)) (by omega)
  have C0 := B0.setCell (p := ⟨w.heap.size, 5, none⟩) (Nat.le_refl _) (.int .i64 (k - 1))
  clear N0 N1 B0 c0 c1 c2 c3 c4 c5 cf cl d0 d1 d2 d3 d4 d5 df dl HV
  generalize w1.setCell ⟨w.heap.size, 5, none⟩ (.int .i64 (k - 1)) = w2 at *
  obtain ⟨c0, c1, c2, c3, c4, c5, cf, cl⟩ := M0.cells
  have hs2 := C0.size
  go_region_with (go_at_call 14; refine (HR.out _).mono ?_; rintro e' w3 ⟨rfl, hb3⟩; obtain ⟨g0, g1, g2, g3, g4, g5, gf, gl⟩ := (M0.drew.below hb3).cells; obtain ⟨d0, d1, d2, d3, d4, d5, df, dl⟩ := (M1.drew.below hb3).cells; have N1 := M1.drew.below hb3; have B3 := C0.drew.trans (hb3.mono hs2))
  all_goals
    go_wp2
    have N2 := N1.put true n e s i (k - 1)
    have B2 := put6_below B3 (Nat.le_succ _) true n e s i (k - 1)
    change bodyPost _ _ _ _ _ (put6 w3 (w.heap.size + 1) true n e s i (k - 1))
    generalize put6 w3 (w.heap.size + 1) true n e s i (k - 1) = w4 at *
    obtain ⟨r0, r1, r2, r3, r4, r5, rf, rl⟩ := N2.cells
    clear N1 N2 B3 c0 c1 c2 c3 c4 c5 cf cl d0 d1 d2 d3 d4 d5 df dl g0 g1 g2 g3 g4 g5 gf gl HR
    simp [bodyPost, results, Tryd.results7, go_sem, r0, r1, r2, r3, r4, r5]
    exact B2
end Go.Proofs.YtgdoebpdpcfbeaaDoor

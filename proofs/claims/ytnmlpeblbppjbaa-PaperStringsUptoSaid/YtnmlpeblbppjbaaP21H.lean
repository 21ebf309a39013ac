/- Walks of layer 21: the law PaperStrings. -/
import Derived.Test.YtnmlpeblbppjbaaP21HA
set_option linter.unusedVariables false
set_option linter.unusedSimpArgs false
namespace Go.Proofs.Ytnmlpeblbppjbaa
open Go.RowKit Go.Opens Go.Lib Go.Aids Go.MapLit Go.Proofs.YtnmlpeblbppjbaaW.PrintWords

def wfI (n : Int) : Prop := (Lit.int .i64 n).wf = true
abbrev kI : Kd Int := Kd.int .i64
theorem ints_at {w : World} {A : Option Addr} {l : List Int} (h : kI.C w A l.length l) (hn : 0 < l.length) : ∃ b off, A = some ⟨b, off, none⟩ ∧ b < w.heap.size ∧
    ∀ k (hk : k < l.length), w.cell? ⟨b, off + k, none⟩ = some (.int .i64 l[k]) := by
  obtain ⟨b, off, hA, hb, hc⟩ := C_at h (by show 0 < 1; omega) hn
  refine ⟨b, off, hA, hb, fun i hi => ?_⟩
  obtain ⟨c, _, hk, hcell⟩ := hc i hi
  have e : c = [.int .i64 l[i]] := hk
  subst e
  have := hcell 0 _ rfl
  rw [show kI.sz = 1 from rfl, Nat.mul_one] at this
  exact this

/-- The law's two lists of texts. -/
structure Lists (W : World) (p : Nat) : Prop where
  top : p + 2 ≤ W.heap.size
  nms : ∀ j, j < 8 → ∃ s : ByteArray, s.size ≤ 20 ∧ W.cell? ⟨p, j, none⟩ = some (.string s)
  vls : ∀ j, j < 9 → ∃ s : ByteArray, s.size ≤ 20 ∧ W.cell? ⟨p + 1, j, none⟩ = some (.string s)
theorem Lists.step {W W1 : World} {p : Nat} (h : Lists W p) (hb0 : Below W.heap.size W W1) : Lists W1 p :=
  have hb := hb0.mono h.top
  ⟨Nat.le_trans h.top hb.size, fun j hj => let ⟨s, h1, h2⟩ := h.nms j hj; ⟨s, h1, (hb.cell (p := ⟨p, j, none⟩) (by show p < p + 2; omega)).trans h2⟩,
    fun j hj => let ⟨s, h1, h2⟩ := h.vls j hj; ⟨s, h1, (hb.cell (p := ⟨p + 1, j, none⟩) (by show p + 1 < p + 2; omega)).trans h2⟩⟩
theorem lists_made (w : World) (cn cv : Array Value) (hn : ∀ j, j < 8 → ∃ s : ByteArray, s.size ≤ 20 ∧ cn[j]? = some (.string s)) (hv : ∀ j, j < 9 → ∃ s : ByteArray, s.size ≤ 20 ∧ cv[j]? = some (.string s)) :
    Lists ((w.alloc (.cells cn 9)).alloc (.cells cv 9)) w.heap.size := by
  refine ⟨by simp, fun j hj => ?_, fun j hj => ?_⟩
  · obtain ⟨s, h1, h2⟩ := hn j hj
    exact ⟨s, h1, by rw [World.cell?_alloc_past _ _ _ (by simp), World.cell?_alloc_at _ _ _ _ rfl, h2]⟩
  · obtain ⟨s, h1, h2⟩ := hv j hj
    exact ⟨s, h1, by rw [World.cell?_alloc_at _ _ _ _ (by simp), h2]⟩

set_option maxRecDepth 100000 in
set_option maxHeartbeats 4000000 in
theorem law_calls (A : Option Addr) (c : Nat) (L : List Lab) (hc : L.length ≤ c) (hL : Low L) (B : Option Addr) (d : Nat) (P : List Int) (hd : P.length ≤ d) (hP : ∀ x ∈ P, wfI x) (hPl : P.length ≤ 9223372036854775807) (w : World) (hC : kLab.C w A L.length L) (hI : kI.C w B P.length P) :
    Calls Try.prog 3 #[.slice A L.length c, .slice B P.length d] w fun e w' => e = .returned (.bool true) ∧ Below w.heap.size w w' := by
  have HC := Lib.hid hC
  have HL := Lib.hid hL
  have HI := Lib.hid hI
  have HP := Lib.hid hP
  clear hC hL hI hP
  have hl63 : L.length ≤ 9223372036854775807 := HC.out.2.1
  go_enter Try.func3, Try.ntmps3
  by_cases h1 : 100 < L.length
  · have i1 : (100 : Int) < L.length := by omega
    go_wp2_with fail
    refine (sane_calls _).mono ?_
    rintro e w1 ⟨rfl, hb⟩
    go_wp2_with fail
    go_ret
    exact ⟨rfl, hb⟩
  have i1 : ¬ ((100 : Int) < L.length) := by omega
  go_wp2_with fail
  have HW0 := lists_made w #[.string ⟨#[97]⟩, .string ⟨#[98]⟩, .string ⟨#[102, 105, 103, 58, 49]⟩, .string ⟨#[97, 98, 99, 100, 101, 102, 103, 104, 105, 106, 107, 108, 109, 110, 111, 112, 113, 114]⟩, .string ⟨#[97, 98, 99, 100, 101, 102, 103, 104, 105, 106, 107, 108, 109, 110, 111, 112, 113, 114, 115]⟩, .string ⟨#[97, 93]⟩, .string ⟨#[]⟩, .string ⟨#[120, 32, 121]⟩]
    #[.string ⟨#[53]⟩, .string ⟨#[49, 50]⟩, .string ⟨#[105, 105]⟩, .string ⟨#[]⟩, .string ⟨#[32, 120]⟩, .string ⟨#[34, 113]⟩, .string ⟨#[97, 92, 98]⟩, .string ⟨#[97, 32, 98]⟩, .string ⟨#[55, 10]⟩]
    (fun j hj => by
      match j, hj with
      | 0, _ | 1, _ | 2, _ | 3, _ | 4, _ | 5, _ | 6, _ | 7, _ => exact ⟨_, by decide, rfl⟩
      | j + 8, hj => omega)
    (fun j hj => by
      match j, hj with
      | 0, _ | 1, _ | 2, _ | 3, _ | 4, _ | 5, _ | 6, _ | 7, _ | 8, _ => exact ⟨_, by decide, rfl⟩
      | j + 9, hj => omega)
  have B0 : Below w.heap.size w ((w.alloc (.cells #[.string ⟨#[97]⟩, .string ⟨#[98]⟩, .string ⟨#[102, 105, 103, 58, 49]⟩, .string ⟨#[97, 98, 99, 100, 101, 102, 103, 104, 105, 106, 107, 108, 109, 110, 111, 112, 113, 114]⟩, .string ⟨#[97, 98, 99, 100, 101, 102, 103, 104, 105, 106, 107, 108, 109, 110, 111, 112, 113, 114, 115]⟩, .string ⟨#[97, 93]⟩, .string ⟨#[]⟩, .string ⟨#[120, 32, 121]⟩] 9)).alloc (.cells #[.string ⟨#[53]⟩, .string ⟨#[49, 50]⟩, .string ⟨#[105, 105]⟩, .string ⟨#[]⟩, .string ⟨#[32, 120]⟩, .string ⟨#[34, 113]⟩, .string ⟨#[97, 92, 98]⟩, .string ⟨#[97, 32, 98]⟩, .string ⟨#[55, 10]⟩] 9)) := ((Below.refl _ w).alloc (Nat.le_refl _) _).alloc (by simp) _
  obtain ⟨W0, hW0⟩ : ∃ W, (w.alloc (.cells #[.string ⟨#[97]⟩, .string ⟨#[98]⟩, .string ⟨#[102, 105, 103, 58, 49]⟩, .string ⟨#[97, 98, 99, 100, 101, 102, 103, 104, 105, 106, 107, 108, 109, 110, 111, 112, 113, 114]⟩, .string ⟨#[97, 98, 99, 100, 101, 102, 103, 104, 105, 106, 107, 108, 109, 110, 111, 112, 113, 114, 115]⟩, .string ⟨#[97, 93]⟩, .string ⟨#[]⟩, .string ⟨#[120, 32, 121]⟩] 9)).alloc (.cells #[.string ⟨#[53]⟩, .string ⟨#[49, 50]⟩, .string ⟨#[105, 105]⟩, .string ⟨#[]⟩, .string ⟨#[32, 120]⟩, .string ⟨#[34, 113]⟩, .string ⟨#[97, 92, 98]⟩, .string ⟨#[97, 32, 98]⟩, .string ⟨#[55, 10]⟩] 9) = W := ⟨_, rfl⟩
  rw [hW0] at HW0 B0 ⊢
  obtain ⟨p, hp⟩ : ∃ p, w.heap.size = p := ⟨_, rfl⟩
  have HG := Lib.hid hp
  rw [hp] at HW0
  have HC0 := Lib.hid (C_row HC.out B0)
  have HI0 := Lib.hid (Kd.C_below HI.out B0)
  rw [hp] at B0
  simp only [hp]
  have HLs := Lib.hid HW0
  have HB0 := Lib.hid B0
  clear hW0 hp B0 HW0
  go_loopg [0, 7] 12 (fun gk s0 s7 wx => ∃ (i : Nat) (A' : Option Addr) (c' : Nat) (L' : List Lab), i + gk = 12 ∧ s7 = .int .i64 i ∧ s0 = .slice A' L'.length c' ∧ L'.length ≤ c' ∧ L'.length ≤ 100 + i ∧ Hid (kLab.C wx A' L'.length L') ∧ Hid (Low L') ∧ Hid (Below W0.heap.size W0 wx))
  case atStart => exact ⟨0, A, c, L, rfl, rfl, rfl, hc, by omega, HC0, HL, Lib.hid (Below.refl _ _)⟩
  case round =>
    obtain ⟨i, A', c', L', hi, rfl, rfl, hc', hl', C', LL, B1⟩ := hrel
    by_cases hlt : i < P.length ∧ i < 12
    · obtain ⟨hlt1, hlt2⟩ := hlt
      have i0 : (i : Int) < P.length := by omega
      have i2 : (i : Int) < 12 := by omega
      obtain ⟨b, off, rfl, hbl, hcell⟩ := ints_at (Kd.C_below HI0.out B1.out) (by omega)
      have c0 := hcell i hlt1
      obtain ⟨x, hx⟩ : ∃ x, P[i] = x := ⟨_, rfl⟩
      rw [hx] at c0
      clear hcell
      go_wp2_with fail
      obtain ⟨k, hk⟩ : ∃ k, IntKind.u64.wrap x = k := ⟨_, rfl⟩
      have k0 : 0 ≤ k := by rw [← hk]; unfold IntKind.wrap; simp [IntKind.signed, IntKind.bits]; omega
      have k1 : k < 18446744073709551616 := by rw [← hk]; unfold IntKind.wrap; simp [IntKind.signed, IntKind.bits]; omega
      rw [hk]
      clear hk hx c0 hbl
      have L1 := HLs.out.step B1.out
      obtain ⟨na, ha1, ha2⟩ := L1.nms (k % 3).toNat (by omega)
      obtain ⟨nb, hb1, hb2⟩ := L1.nms (k / 17 % 8).toNat (by omega)
      obtain ⟨va, hc1, hc2⟩ := L1.vls (k / 3 % 3).toNat (by omega)
      obtain ⟨vb, hd1, hd2⟩ := L1.vls (k / 136 % 9).toNat (by omega)
      have r1 : k % 3 < 8 := by omega
      have r2 : 0 ≤ k % 3 := by omega
      have r3 : k / 3 % 3 < 9 := by omega
      have r4 : 0 ≤ k / 3 % 3 := by omega
      have tp := L1.top
      have t0 : p < wr.heap.size := by omega
      have t1 : p + 1 < wr.heap.size := by omega
      have x1 := (World.cell?_alloc_past (w := wr) (.cells #[.string ⟨#[]⟩, .string ⟨#[]⟩] 28) (p + 1) (k / 3 % 3).toNat t1).trans hc2
      have x0 := (World.cell?_alloc_past (w := wr) (.cells #[.string ⟨#[]⟩, .string ⟨#[]⟩] 28) p (k % 3).toNat t0).trans ha2
      clear L1
      go_region
      obtain ⟨q, hq⟩ : ∃ q, wr.heap.size = q := ⟨_, rfl⟩
      obtain ⟨W1, hW1⟩ : ∃ W, (wr.alloc (.cells #[.string na, .string va] 28)).drew = W := ⟨_, rfl⟩
      have HQ := Lib.hid (show W1.heap[q]? = some (.cells #[.string na, .string va] 28 (0, 0)) by rw [← hW1, ← hq]; exact heap_alloc_new wr _)
      have B2 := Lib.hid (show Below wr.heap.size wr W1 by rw [← hW1]; exact ((Below.refl _ _).alloc (Nat.le_refl _) _).drew)
      have hq1 : q < W1.heap.size := by rw [← hW1, ← hq]; simp
      have y1 : W1.cell? ⟨p + 1, (k / 136 % 9).toNat, none⟩ = some (.string vb) := (B2.out.cell (p := ⟨p + 1, _, none⟩) t1).trans hd2
      have y0 : W1.cell? ⟨p, (k / 17 % 8).toNat, none⟩ = some (.string nb) := (B2.out.cell (p := ⟨p, _, none⟩) t0).trans hb2
      have hqp : Hid (wr.heap.size = q) := Lib.hid hq
      rw [hW1]
      simp only [hq]
      have z0 : W1.cell? ⟨q, 0, none⟩ = some (.string na) := by rw [Lib.cell_of_heap HQ.out]; rfl
      have z1 : W1.cell? ⟨q, 1, none⟩ = some (.string va) := by rw [Lib.cell_of_heap HQ.out]; rfl
      have f0 : W1.frozen? ⟨q, 0, none⟩ = false := Lib.frozen_of_heap HQ.out 0
      have f1 : W1.frozen? ⟨q, 1, none⟩ = false := Lib.frozen_of_heap HQ.out 1
      clear x0 x1 t0 t1 hW1 hq ha2 hb2 hc2 hd2 r1 r2 r3 r4 tp
      have r1 : k / 17 % 8 < 8 := by omega
      have r2 : 0 ≤ k / 17 % 8 := by omega
      have r3 : k / 136 % 9 < 9 := by omega
      have r4 : 0 ≤ k / 136 % 9 := by omega
      by_cases h17 : k % 17 = 0
      case' pos =>
        go_wp2_with fail
        go_region
        obtain ⟨W2, hW2⟩ : ∃ W, ((W1.setCell ⟨q, 0, none⟩ (.string nb)).setCell ⟨q, 1, none⟩ (.string vb)).drew = W := ⟨_, rfl⟩
        obtain ⟨nm, hnm⟩ : ∃ s, s = nb := ⟨_, rfl⟩
        obtain ⟨vl, hvl⟩ : ∃ s, s = vb := ⟨_, rfl⟩
        have hs1 : nm.size ≤ 20 := by rw [hnm]; exact hb1
        have hs2 : vl.size ≤ 20 := by rw [hvl]; exact hd1
        have HX : Hid (W2.heap[q]? = some (.cells #[.string nm, .string vl] 28 (0, 0))) := Lib.hid (by
          rw [← hW2, hnm, hvl]
          show ((W1.setCell ⟨q, 0, none⟩ (.string nb)).setCell ⟨q, 1, none⟩ (.string vb)).heap[q]? = _
          simp [World.setCell, Array.getElem?_modify, HQ.out])
        have HB2 : Hid (Below q wr W2) := Lib.hid (by
          rw [← hW2]
          have h := B2.out
          rw [hqp.out] at h
          exact ((h.setCell (p := ⟨q, 0, none⟩) (Nat.le_refl _) _).setCell (p := ⟨q, 1, none⟩) (Nat.le_refl _) _).drew)
        rw [hW2]
        have z0 : W2.cell? ⟨q, 0, none⟩ = some (.string nm) := by rw [Lib.cell_of_heap HX.out]; rfl
        have z1 : W2.cell? ⟨q, 1, none⟩ = some (.string vl) := by rw [Lib.cell_of_heap HX.out]; rfl
        clear hW2 hnm hvl
        go_wp2_with fail
      case' neg =>
        go_wp2_with fail
        obtain ⟨W2, hW2⟩ : ∃ W, W1 = W := ⟨_, rfl⟩
        obtain ⟨nm, hnm⟩ : ∃ s, s = na := ⟨_, rfl⟩
        obtain ⟨vl, hvl⟩ : ∃ s, s = va := ⟨_, rfl⟩
        have hs1 : nm.size ≤ 20 := by rw [hnm]; exact ha1
        have hs2 : vl.size ≤ 20 := by rw [hvl]; exact hc1
        have HX : Hid (W2.heap[q]? = some (.cells #[.string nm, .string vl] 28 (0, 0))) := Lib.hid (by
          rw [← hW2, hnm, hvl]
          exact HQ.out)
        have HB2 : Hid (Below q wr W2) := Lib.hid (by
          rw [← hW2]
          have h := B2.out
          rw [hqp.out] at h
          exact h)
        rw [hW2]
        have z0 : W2.cell? ⟨q, 0, none⟩ = some (.string nm) := by rw [Lib.cell_of_heap HX.out]; rfl
        have z1 : W2.cell? ⟨q, 1, none⟩ = some (.string vl) := by rw [Lib.cell_of_heap HX.out]; rfl
        clear hW2 hnm hvl
      all_goals
        have C2 := Lib.hid (C_row C'.out (hqp.out.symm ▸ HB2.out))
        have ql : q < W2.heap.size := by
          have := HX.out
          rw [Array.getElem?_eq_some_iff] at this
          exact this.1
        clear HQ B2 y0 y1 r1 r2 r3 r4 h17
        have BD : Below W2.heap.size W2 W2.drew := (Below.refl _ _).drew
        have BE : Below W2.heap.size W2 (W2.drew.alloc (.cells #[] 28)) := BD.alloc (Nat.le_refl _) _
        have BY : Below W2.heap.size W2 (W2.drew.alloc (.cells #[.string nm, .string vl] 28)) := BD.alloc (Nat.le_refl _) _
        have BEY : Below W2.heap.size W2 ((W2.drew.alloc (.cells #[] 28)).alloc (.cells #[.string nm, .string vl] 28)) := BE.alloc BE.size _
        have BYE : Below W2.heap.size W2 ((W2.drew.alloc (.cells #[.string nm, .string vl] 28)).alloc (.cells #[] 28)) := BY.alloc BY.size _
        have OE : (W2.drew.alloc (.cells #[] 28)).ownsRow W2.heap.size 28 2 (.slice (some ⟨W2.heap.size, 0, none⟩) 0 0) 0 (cellsL []) := own_empty W2.drew _ _ rfl (Nat.le_refl _)
        have OYE : ((W2.drew.alloc (.cells #[.string nm, .string vl] 28)).alloc (.cells #[] 28)).ownsRow W2.heap.size 28 2 (.slice (some ⟨W2.heap.size + 1, 0, none⟩) 0 0) 0 (cellsL []) := own_empty (W2.drew.alloc (.cells #[.string nm, .string vl] 28)) _ _ (by simp) (by simp)
        have HBD := Lib.hid BE
        have HBEY := Lib.hid BEY
        have HBYE := Lib.hid BYE
        have HOE := Lib.hid OE
        have HOYE := Lib.hid OYE
        have HYB : Hid (∀ w1, ((W2.drew.alloc (.cells #[] 28)).alloc (.cells #[.string nm, .string vl] 28)).grownBy w1 (Value.ownBlock (.slice (some ⟨W2.heap.size, 0, none⟩) 0 0)) → w1.heap[W2.heap.size + 1]? = some (.cells #[.string nm, .string vl] 28 (0, 0))) := Lib.hid (fun w1 hg => by
          refine (hg.block (W2.heap.size + 1) (by simp) (by simp [Value.ownBlock])).trans ?_
          have := heap_alloc_new (W2.drew.alloc (.cells #[] 28)) (.cells #[.string nm, .string vl] 28)
          simpa using this)
        have HYC : Hid (∀ w1, ((W2.drew.alloc (.cells #[.string nm, .string vl] 28)).alloc (.cells #[] 28)).grownBy w1 (Value.ownBlock (.slice (some ⟨W2.heap.size + 1, 0, none⟩) 0 0)) → w1.heap[W2.heap.size]? = some (.cells #[.string nm, .string vl] 28 (0, 0))) := Lib.hid (fun w1 hg => by
          refine (hg.block W2.heap.size (by simp; omega) (by simp [Value.ownBlock])).trans ?_
          exact (Lib.alloc_old (W2.drew.alloc (.cells #[.string nm, .string vl] 28)) (.cells #[] 28) W2.heap.size (by simp)).trans (heap_alloc_new W2.drew (.cells #[.string nm, .string vl] 28)))
        have HOEY := Lib.hid (OE.alloc (.cells #[.string nm, .string vl] 28))
        clear BD BE BY BEY BYE OE OYE
        go_region_law (first
          | (refine step_lab1 (W2 := W2) (by rfl) _ _ (by rfl) (.slice (some ⟨W2.heap.size, 0, none⟩) 0 0) (by rfl) HOE.out A' c' L' (by rfl) C2.out HBD.out (by omega) ?_; intro v1 w1 hown1 hb1 hg1; have z10 := (hb1.cell (p := ⟨q, 0, none⟩) ql).trans z0; have z11 := (hb1.cell (p := ⟨q, 1, none⟩) ql).trans z1; have ql1 : q < w1.heap.size := Nat.lt_of_lt_of_le ql hb1.size; have HO1 := Lib.hid hown1; have HB1 := Lib.hid hb1; clear hown1 hb1 hg1)
          | (refine step_lab1 (W2 := W2) (by rfl) _ _ (by rfl) (.slice (some ⟨W2.heap.size, 0, none⟩) 0 0) (by rfl) HOEY.out A' c' L' (by rfl) C2.out HBEY.out (by omega) ?_; intro v1 w1 hown1 hb1 hg1; have HY := Lib.hid (HYB.out w1 hg1); have HO1 := Lib.hid hown1; have HB1 := Lib.hid hb1; clear hown1 hb1 hg1)
          | (refine step_lab1 (W2 := W2) (by rfl) _ _ (by rfl) (.slice (some ⟨W2.heap.size + 1, 0, none⟩) 0 0) (by rfl) HOYE.out A' c' L' (by rfl) C2.out HBYE.out (by omega) ?_; intro v1 w1 hown1 hb1 hg1; have HY := Lib.hid (HYC.out w1 hg1); have HO1 := Lib.hid hown1; have HB1 := Lib.hid hb1; clear hown1 hb1 hg1)
          | (refine step_lab2 (W2 := W2) (by rfl) _ _ (by rfl) v1 L'.length L' (by rfl) (HO1.out.alloc (.cells #[.string nm, .string vl] 28)) w1.heap.size (by rfl) nm vl (heap_alloc_new w1 (.cells #[.string nm, .string vl] 28)) (HB1.out.alloc HB1.out.size (.cells #[.string nm, .string vl] 28)) (by omega) ?_; intro v2 w3 hown2 hb2; have HO2 := Lib.hid hown2; have HB3 := Lib.hid hb2; clear hown2 hb2)
          | (refine step_lab2 (W2 := W2) (by rfl) _ _ (by rfl) v1 L'.length L' (by rfl) HO1.out _ (by rfl) nm vl HY.out HB1.out (by omega) ?_; intro v2 w3 hown2 hb2; have HO2 := Lib.hid hown2; have HB3 := Lib.hid hb2; clear hown2 hb2))
        all_goals
          obtain ⟨A3, n3, rfl, hc3, C3⟩ := C_ownL (l := L' ++ [(nm, vl)]) (by rw [List.length_append]; exact HO2.out) (by rw [List.length_append]; simp; omega)
          obtain ⟨g', rfl⟩ : ∃ g', gk = g' + 1 := ⟨gk - 1, by omega⟩
          have HC3 := Lib.hid C3
          have HL3 : Hid (Low (L' ++ [(nm, vl)])) := Lib.hid (fun pp hpp => by
            rw [List.mem_append, List.mem_singleton] at hpp
            rcases hpp with hpp | hpp
            · exact LL.out pp hpp
            · subst hpp; exact ⟨by show nm.size ≤ _; omega, by show vl.size ≤ _; omega⟩)
          have HB4 : Hid (Below W0.heap.size W0 w3) := Lib.hid ((B1.out.trans (HB2.out.mono (by rw [← hqp.out]; exact B1.out.size))).trans (HB3.out.mono (by have := B1.out.size; have := HB2.out.size; omega)))
          have hl3 : Hid ((L' ++ [(nm, vl)]).length = L'.length + 1) := Lib.hid (by rw [List.length_append]; rfl)
          obtain ⟨L3, hL3⟩ : ∃ L3, L' ++ [(nm, vl)] = L3 := ⟨_, rfl⟩
          rw [hL3] at HC3 HL3 hl3 hc3
          simp only [hL3]
          clear C3 HO2 HB3 hL3 z0 z1
          go_wp2_with fail
          go_roundg g'
          case measure => omega
          case rel => exact ⟨i + 1, A3, n3, L3, by omega, by go_num, rfl, hc3, by rw [hl3.out]; omega, HC3, HL3, HB4⟩
    · have hor : (P.length ≤ i) ∨ (i < P.length ∧ 12 ≤ i) := by omega
      have hl3 : L'.length ≤ 112 := by omega
      have HB9 : Hid (Below w.heap.size w wr) := Lib.hid (by
        rw [HG.out]
        have hb := HB0.out
        exact hb.trans (B1.out.mono (by have := hb.size; have := HG.out; omega)))
      clear hlt
      obtain ⟨WA, hWA⟩ : ∃ W, W = wr := ⟨_, rfl⟩
      subst hWA
      rcases hor with hor | ⟨hor1, hor⟩
      case' inl =>
        have i0 : ¬ ((i : Int) < P.length) := by omega
        go_wp2_with fail
      case' inr =>
        have i0 : (i : Int) < P.length := by omega
        have i2 : ¬ ((i : Int) < 12) := by omega
        go_wp2_with fail
      all_goals
        clear i0 hor
        try clear i2 hor1
        go_loopg [10, 11] L'.length (fun gk s10 s11 wx => ∃ j : Nat, j + gk = L'.length ∧ s11 = .int .i64 j ∧ Hid (wx.ownsRow WA.heap.size 30 2 s10 j (cellsL (L'.take j))) ∧ Hid (Below WA.heap.size WA wx))
        case atStart => exact ⟨0, by omega, rfl, Lib.hid (own_nil _ _ _ _), Lib.hid (Below.refl _ _)⟩
        case round =>
          obtain ⟨j, hj, rfl, HO, HB⟩ := hrel
          by_cases hjl : j < L'.length
          · have j0 : (j : Int) < L'.length := by omega
            obtain ⟨bb, bo, rfl, hbl, hcell⟩ := labs_at (C_row C'.out HB.out) (by omega)
            obtain ⟨c0, c1⟩ := hcell j hjl
            have htk : L'.take (j + 1) = L'.take j ++ [L'[j]] := by rw [List.take_succ_eq_append_getElem hjl]
            obtain ⟨nm, hnm⟩ : ∃ nm, L'[j].1 = nm := ⟨_, rfl⟩
            obtain ⟨vl, hvl⟩ : ∃ nm, L'[j].2 = nm := ⟨_, rfl⟩
            rw [hnm] at c0
            rw [hvl] at c1
            have HT : Hid (L'.take (j + 1) = L'.take j ++ [(nm, vl)]) := Lib.hid (by rw [htk, ← hnm, ← hvl])
            clear hnm hvl htk hcell
            go_wp2_with fail
            go_region_law (refine step_ref (W2 := WA) (by rfl) _ _ (by rfl) u10 j (L'.take j) (by rfl) (HO.out.alloc (.cells #[.string nm, .string vl] 30)) wr.heap.size (by rfl) nm vl (heap_alloc_new wr.drew (.cells #[.string nm, .string vl] 30)) (HB.out.drew.alloc HB.out.size (.cells #[.string nm, .string vl] 30)) (by omega) ?_; intro v2 w3 hown2 hb2; have HO2 := Lib.hid hown2; have HB3 := Lib.hid hb2; clear hown2 hb2)
            all_goals
              obtain ⟨g', rfl⟩ : ∃ g', gk = g' + 1 := ⟨gk - 1, by omega⟩
              go_wp2_with fail
              go_roundg g'
              case measure => omega
              case rel => exact ⟨j + 1, by omega, by go_num, Lib.hid (by rw [HT.out]; exact HO2.out), HB3⟩
          · have j0 : ¬ ((j : Int) < L'.length) := by omega
            have htk : L'.take j = L' := List.take_of_length_le (by omega)
            have hjn : j = L'.length := by omega
            have hO := HO.out
            rw [htk, hjn] at hO
            obtain ⟨A3, n3, rfl, hc3, C3⟩ := C_ownL hO (by omega)
            have HC1 := Lib.hid (C_row C'.out HB.out)
            have HC3 := Lib.hid C3
            have HS1 := Lib.hid (fun W h => pstrings_calls A' c' L' (by omega) LL.out W h)
            have HS2 := Lib.hid (fun W h => rstrings_calls A3 n3 L' W h hc3 LL.out (by omega))
            obtain ⟨X, hX⟩ : ∃ X, (textO L').1 = X := ⟨_, rfl⟩
            obtain ⟨Y, hY⟩ : ∃ X, (textO L').2 = X := ⟨_, rfl⟩
            rw [hX, hY] at HS1 HS2
            clear hX hY hO C3 htk hjn
            go_wp2_with fail
            refine (HS1.out _ HC1.out).mono ?_
            rintro e w5 ⟨rfl, hb5⟩
            have HC5 := Lib.hid (C_row HC3.out hb5)
            have HB5 := Lib.hid ((HB9.out.trans (HB.out.mono HB9.out.size)).trans (hb5.mono (by have := HB9.out.size; have := HB.out.size; omega)))
            clear hb5
            go_wp2_with fail
            refine (HS2.out _ HC5.out).mono ?_
            rintro e w6 ⟨rfl, hb6⟩
            have HB6 := Lib.hid (HB5.out.trans (hb6.mono HB5.out.size))
            clear hb6
            go_wp2_with fail
            refine (sane_calls _).mono ?_
            rintro e w7 ⟨rfl, hb7⟩
            have HB7 := Lib.hid (HB6.out.trans (hb7.mono HB6.out.size))
            clear hb7
            go_wp2_with fail
            go_ret
            exact ⟨rfl, HB7.out⟩
end Go.Proofs.Ytnmlpeblbppjbaa

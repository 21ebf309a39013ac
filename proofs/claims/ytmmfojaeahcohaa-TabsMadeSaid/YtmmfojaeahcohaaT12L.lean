/- Walks of layer 12: tabs.way. -/
import Derived.Test.YtmmfojaeahcohaaT12K
set_option linter.unusedVariables false
set_option linter.unusedSimpArgs false
namespace Go.Proofs.Ytmmfojaeahcohaa
open Go.Shelf Go.RowKit Go.Lib Go.Aids Go.Opens Go.Proofs.YtmmfojaeahcohaaW.PrintWords Go.Proofs.Ytmmfojaeahcohaa.PTabsMade

def rightS (r : Int) : S28 := ⟨2, r, 0, 0, ⟨#[]⟩, ⟨#[]⟩, []⟩
def rightC (r : Int) : List Value := [.int .i64 2, .int .i64 r, .int .i64 0, .int .i64 0, .string ⟨#[]⟩, .string ⟨#[]⟩, .slice none 0 0]
def boxC (x : S28) (A : Option Addr) (c : Nat) : List Value := [.int .i64 x.f0, .int .i64 x.f1, .int .i64 x.f2, .int .i64 x.f3, .string x.f4, .string x.f5, .slice A x.f6.length c]
def manyL (far : Int) (x : S28) : Nat := if x.f0 = 0 ∧ 0 < x.f1 then (far / x.f1).toNat else 0
def wayL (far : Int) (x : S28) : List S28 := (if far - (manyL far x : Int) * x.f1 = 0 then [] else [rightS (far - (manyL far x : Int) * x.f1)]) ++ List.replicate (manyL far x) x
theorem right_K (w : World) (r : Int) : k28.K w (rightS r) (rightC r) := k28_mk w (rightS r) (A6 := none) (c6 := 0) (Nat.le_refl _) ⟨rfl, Nat.zero_le _, fun h => absurd h (Nat.lt_irrefl 0)⟩
theorem many_le (far : Int) (x : S28) (hf : 0 < far) (hf2 : far ≤ 1000000000) : manyL far x ≤ 1000000000 ∧ (manyL far x : Int) * x.f1 ≤ far ∧ (x.f0 = 0 → 0 < x.f1 → 0 ≤ (manyL far x : Int) * x.f1) := by
  unfold manyL
  split
  · rename_i h
    have h1 := Int.ediv_nonneg (Int.le_of_lt hf) (Int.le_of_lt h.2)
    have h2 := Int.ediv_mul_le far (Int.ne_of_gt h.2)
    have h3 := Int.ediv_le_self x.f1 (Int.le_of_lt hf)
    have h4 : ((far / x.f1).toNat : Int) = far / x.f1 := Int.toNat_of_nonneg h1
    rw [h4]
    refine ⟨by omega, h2, fun _ _ => Int.mul_nonneg h1 (Int.le_of_lt h.2)⟩
  · exact ⟨by omega, by simp; omega, fun _ _ => by simp⟩
theorem reps_rep {R : BoxR} {x : S28} {cs : List Value} (h : R x cs) (hl : cs.length = 7) : ∀ n, Reps R 7 (List.replicate n x) (repC cs n)
  | 0 => Reps.none _ _
  | n + 1 => by
    have := (reps_rep h hl n).snoc h hl
    rw [List.replicate_succ', repC_add, repC_one]
    exact this
theorem or_reads {R : BoxR} {w : World} {base : Nat} {v : Value} {ps : List S28} (h : OwnRow R 28 7 w base v ps) : ∃ A c, v = .slice A ps.length c ∧ ReadsRow R 7 w A ps.length ps := by
  obtain ⟨A, c, e, _, hr⟩ := OwnRow.reads h
  exact ⟨A, c, e, hr⟩
theorem reads_new {R : BoxR} (W : World) (cs : Array Value) (B : Nat) (hB : B = W.heap.size) (hl : cs.size = 7) (x : S28) (h : R x cs.toList) : ReadsRow R 7 (W.alloc (.cells cs 28)) (some ⟨B, 0, none⟩) [x].length [x] := by
  subst hB
  refine ⟨rfl, by simp, fun _ => ⟨_, rfl, fun j p hj => ?_⟩⟩
  match j, hj with
  | 0, hj =>
    injection hj with hj
    subst hj
    refine ⟨cs.toList, by simpa using hl, h, fun i u hi => ?_⟩
    have ead : ((⟨W.heap.size, 0, none⟩ : Addr).add (0 * 7 + i)) = ⟨W.heap.size, i, none⟩ := by
      simp [Addr.add]
      intro h; omega
    rw [ead, World.cell?_alloc_at _ _ _ _ rfl]
    simpa using hi
  | j + 1, hj => simp at hj
theorem src_new (W : World) (cs : List Value) (B : Nat) (hB : B = W.heap.size) : ∀ j v, cs[j]? = some v → (W.alloc (.cells cs.toArray 28)).cell? ((⟨B, 0, none⟩ : Addr).add j) = some v := by
  intro j v hj
  have ead : ((⟨B, 0, none⟩ : Addr).add j) = ⟨B, j, none⟩ := by
    simp [Addr.add]
    intro h; omega
  rw [ead, World.cell?_alloc_at _ _ _ _ hB]
  simpa using hj
set_option maxRecDepth 100000 in
set_option maxHeartbeats 400000 in
theorem way_calls (R : BoxR) (hR : OneC R) (far : Int) (x : S28) (A : Option Addr) (c : Nat) (hf : 0 < far) (hf2 : far ≤ 1000000000) (hw : -1000000 ≤ x.f1 ∧ x.f1 ≤ 1000000) (hRx : R x (boxC x A c)) (hRz : ∀ r, R (rightS r) (rightC r)) (w : World) :
    Calls Try.prog 35 #[.int .i64 far, boxV x.f0 x.f1 x.f2 x.f3 x.f4 x.f5 A x.f6.length c] w fun e w' => ∃ v, e = .returned v ∧ OwnRow R 28 7 w' w.heap.size v (wayL far x) ∧ Below w.heap.size w w' := by
  have hml := many_le far x hf hf2
  have HWL : Hid (wayL far x = (if far - (manyL far x : Int) * x.f1 = 0 then [] else [rightS (far - (manyL far x : Int) * x.f1)]) ++ List.replicate (manyL far x) x) := Lib.hid rfl
  obtain ⟨L, hL⟩ : ∃ L, wayL far x = L := ⟨_, rfl⟩
  rw [hL] at HWL ⊢
  clear hL
  obtain ⟨m, hm⟩ : ∃ m, manyL far x = m := ⟨_, rfl⟩
  have hmm : Hid ((x.f0 = 0 → 0 < x.f1 → far / x.f1 = (m : Int)) ∧ (¬ (x.f0 = 0 ∧ 0 < x.f1) → m = 0)) := Lib.hid (by
    rw [← hm]
    unfold manyL
    constructor
    · intro h1 h2
      rw [if_pos ⟨h1, h2⟩]
      exact (Int.toNat_of_nonneg (Int.ediv_nonneg (Int.le_of_lt hf) (Int.le_of_lt h2))).symm
    · intro h
      rw [if_neg h])
  rw [hm] at hml HWL
  clear hm
  obtain ⟨k, w0, f, s, nm, cl, l⟩ := x
  obtain ⟨hm1, hm2, hm3⟩ := hml
  have HRx := Lib.hid hRx
  have HRz := Lib.hid hRz
  have HRR := Lib.hid hR
  clear hRx hRz hR
  simp only at hw hm2 hm3 HWL
  have hmax : max far 0 = far := by omega
  have e0 : 0 ≤ far := by omega
  have hw630 : wrap64 ((m : Int) * w0) = (m : Int) * w0 := by
    have h1 : -1000000000000000 ≤ (m : Int) * w0 := by
      rcases Int.lt_or_le w0 0 with h | h
      · have : (m : Int) * (-w0) ≤ 1000000000 * 1000000 := Int.mul_le_mul (by omega) (by omega) (by omega) (by omega)
        rw [Int.mul_neg] at this; omega
      · have := Int.mul_nonneg (show (0 : Int) ≤ m by omega) h
        omega
    unfold wrap64; omega
  obtain ⟨P, hP⟩ : ∃ P, (m : Int) * w0 = P := ⟨_, rfl⟩
  have hP2 : -1000000000000000 ≤ P := by
    rw [← hP]
    rcases Int.lt_or_le w0 0 with h | h
    · have : (m : Int) * (-w0) ≤ 1000000000 * 1000000 := Int.mul_le_mul (by omega) (by omega) (by omega) (by omega)
      rw [Int.mul_neg] at this; omega
    · have := Int.mul_nonneg (show (0 : Int) ≤ m by omega) h
      omega
  have hw63 := hw630.trans hP
  clear hw630
  rw [hP] at hm2 hm3 HWL
  obtain ⟨r, hr⟩ : ∃ r, far - P = r := ⟨_, rfl⟩
  have hws : wrap64 (far - P) = r := by rw [← hr]; unfold wrap64; omega
  rw [hr] at HWL
  have hd1 : Hid (far / w0 = (m : Int) ∨ ¬ (k = 0 ∧ 0 < w0)) := Lib.hid (by
    by_cases h : k = 0 ∧ 0 < w0
    · exact .inl (hmm.out.1 h.1 h.2)
    · exact .inr h)
  have HL : Hid (L = if r = 0 then List.replicate m ⟨k, w0, f, s, nm, cl, l⟩ else rightS r :: List.replicate m ⟨k, w0, f, s, nm, cl, l⟩) := Lib.hid (by rw [HWL.out]; split <;> rfl)
  have HMM := hmm
  clear hmm hd1 HWL hw hm3
  by_cases hk : k = 0 ∧ 0 < w0
  · obtain ⟨hk0, hw0⟩ := hk
    subst hk0
    have hq : far / w0 = (m : Int) := HMM.out.1 rfl hw0
    have hq2 : far.tdiv w0 = (m : Int) := by rw [Int.tdiv_eq_ediv_of_nonneg e0]; exact hq
    have hw00 : ¬ w0 = 0 := by omega
    clear hP
    by_cases hr0 : r = 0
    · subst hr0
      have HL2 : Hid (L = List.replicate m ⟨0, w0, f, s, nm, cl, l⟩) := Lib.hid (by rw [HL.out, if_pos rfl])
      go_enter Try.func35, Try.ntmps35
      go_wp2_with fail
      clear hq hq2 hmax hw63 hws hm2 hP2
      have hb0 : Below w.heap.size w ((w.alloc (.cells #[.int .i64 0, .int .i64 w0, .int .i64 f, .int .i64 s, .string nm, .string cl, .slice A l.length c] 28)).alloc (.cells #[.int .i64 0, .int .i64 w0, .int .i64 f, .int .i64 s, .string nm, .string cl, .slice A l.length c] 28)) := ((Below.refl _ _).alloc (Nat.le_refl _) _).alloc (by simp) _
      have HRP := Lib.hid (repeat_calls (w.heap.size + 1) 0 1 m (boxC ⟨0, w0, f, s, nm, cl, l⟩ A c) rfl (HRR.out _ _ HRx.out) hm1 ((w.alloc (.cells #[.int .i64 0, .int .i64 w0, .int .i64 f, .int .i64 s, .string nm, .string cl, .slice A l.length c] 28)).alloc (.cells #[.int .i64 0, .int .i64 w0, .int .i64 f, .int .i64 s, .string nm, .string cl, .slice A l.length c] 28)) (fun j v hj => by
        have ead : ((⟨w.heap.size + 1, 0, none⟩ : Addr).add j) = ⟨w.heap.size + 1, j, none⟩ := by
          simp [Addr.add]
          intro h; omega
        rw [ead, World.cell?_alloc_at _ _ _ _ (by simp)]
        simpa [boxC] using hj) (by simp))
      have HB0 := Lib.hid hb0
      clear hb0
      refine HRP.out.mono ?_
      rintro e w5 ⟨g5, rfl, ho5, hb5⟩
      have O5 : OwnRow R 28 7 w5 ((w.alloc (.cells #[.int .i64 0, .int .i64 w0, .int .i64 f, .int .i64 s, .string nm, .string cl, .slice A l.length c] 28)).alloc (.cells #[.int .i64 0, .int .i64 w0, .int .i64 f, .int .i64 s, .string nm, .string cl, .slice A l.length c] 28)).heap.size (.slice (some ⟨g5, 0, none⟩) m m) (List.replicate m ⟨0, w0, f, s, nm, cl, l⟩) := ⟨_, by rw [List.length_replicate]; exact ho5, reps_rep HRx.out rfl m⟩
      obtain ⟨A5, c5, e5, R5⟩ := or_reads O5
      injection e5 with e6 e7 e8
      have HR5 := Lib.hid R5
      have HB5 := Lib.hid (HB0.out.trans (hb5.mono (by simp; omega)))
      rw [← e6] at HR5
      clear ho5 hb5 O5 R5 e6 e7 e8 A5 c5
      go_wp2_with (at_builtin; refine wpList_append_boxes R HRR.out rfl _ _ rfl w.heap.size (.slice none 0 0) [] (List.replicate m ⟨0, w0, f, s, nm, cl, l⟩) (by rfl) (OwnRow.none_ _ _ _ _ _) (some ⟨g5, 0, none⟩) m m (by rfl) (by rw [List.length_replicate]) HR5.out (by rw [List.length_replicate]; simp; omega) HB5.out.size ?_; intro v6 w6 ho6 hg6; have HO6 := Lib.hid ho6; have HB6 := Lib.hid (HB5.out.grown hg6 HB5.out.size (fun k hk => by simp [Value.ownBlock] at hk)); clear ho6 hg6)
      go_ret
      exact ⟨_, rfl, by rw [HL2.out]; exact HO6.out, HB6.out⟩
    · have HL2 : Hid (L = [rightS r] ++ List.replicate m ⟨0, w0, f, s, nm, cl, l⟩) := Lib.hid (by rw [HL.out, if_neg hr0]; rfl)
      have HRR2 := Lib.hid (reads_new (R := R) (w.alloc (.cells #[.int .i64 0, .int .i64 w0, .int .i64 f, .int .i64 s, .string nm, .string cl, .slice A l.length c] 28)) #[.int .i64 2, .int .i64 r, .int .i64 0, .int .i64 0, .string ⟨#[]⟩, .string ⟨#[]⟩, .slice none 0 0] (w.heap.size + 1) (by simp) rfl (rightS r) (HRz.out r))
      have HBB := Lib.hid (((Below.refl (w.heap.size + 1) (w.alloc (.cells #[.int .i64 0, .int .i64 w0, .int .i64 f, .int .i64 s, .string nm, .string cl, .slice A l.length c] 28))).alloc (by simp) (.cells #[.int .i64 2, .int .i64 r, .int .i64 0, .int .i64 0, .string ⟨#[]⟩, .string ⟨#[]⟩, .slice none 0 0] 28)))
      have HB00 := Lib.hid ((Below.refl w.heap.size w).alloc (Nat.le_refl _) (.cells #[.int .i64 0, .int .i64 w0, .int .i64 f, .int .i64 s, .string nm, .string cl, .slice A l.length c] 28))
      go_enter Try.func35, Try.ntmps35
      go_wp2_with (at_builtin; refine wpList_append_boxes R HRR.out rfl _ _ rfl (w.heap.size + 1) (.slice none 0 0) [] [rightS r] (by rfl) (OwnRow.none_ _ _ _ _ _) (some ⟨w.heap.size + 1, 0, none⟩) 1 1 (by rfl) rfl HRR2.out (by simp) (by simp) ?_; intro v5 w5 ho5 hg5; have hb5 := HBB.out.grown hg5 (by simp) (fun k hk => by simp [Value.ownBlock] at hk); have hc5 : ∀ o, w5.cell? ⟨w.heap.size, o, none⟩ = (w.alloc (.cells #[.int .i64 0, .int .i64 w0, .int .i64 f, .int .i64 s, .string nm, .string cl, .slice A l.length c] 28)).cell? ⟨w.heap.size, o, none⟩ := (fun o => hb5.cell (p := ⟨w.heap.size, o, none⟩) (Nat.lt_succ_self _)); have hl5 : w.heap.size < w5.heap.size := (by have := hb5.size; simp at this; omega); have HO5 := Lib.hid ho5; have HB5 := Lib.hid hb5; clear ho5 hg5 hb5)
      clear hq hq2 hmax hw63 hws hm2 hP2
      have HRP := Lib.hid (repeat_calls w5.heap.size 0 1 m (boxC ⟨0, w0, f, s, nm, cl, l⟩ A c) rfl (HRR.out _ _ HRx.out) hm1 (w5.alloc (.cells #[.int .i64 0, .int .i64 w0, .int .i64 f, .int .i64 s, .string nm, .string cl, .slice A l.length c] 28)) (src_new w5 (boxC ⟨0, w0, f, s, nm, cl, l⟩ A c) w5.heap.size rfl) (by simp))
      have HB6 := Lib.hid (HB5.out.alloc (by have := HB5.out.size; simp at this; omega) (.cells #[.int .i64 0, .int .i64 w0, .int .i64 f, .int .i64 s, .string nm, .string cl, .slice A l.length c] 28))
      refine HRP.out.mono ?_
      rintro e w7 ⟨g7, rfl, ho7, hb7⟩
      have O7 : OwnRow R 28 7 w7 (w5.alloc (.cells #[.int .i64 0, .int .i64 w0, .int .i64 f, .int .i64 s, .string nm, .string cl, .slice A l.length c] 28)).heap.size (.slice (some ⟨g7, 0, none⟩) m m) (List.replicate m ⟨0, w0, f, s, nm, cl, l⟩) := ⟨_, by rw [List.length_replicate]; exact ho7, reps_rep HRx.out rfl m⟩
      obtain ⟨A7, c7, e7, R7⟩ := or_reads O7
      injection e7 with e8 e9 e10
      rw [← e8] at R7
      have HR7 := Lib.hid R7
      have HO7 := Lib.hid (OwnRow.below HO5.out ((((Below.refl w5.heap.size w5).alloc (Nat.le_refl _) (.cells #[.int .i64 0, .int .i64 w0, .int .i64 f, .int .i64 s, .string nm, .string cl, .slice A l.length c] 28))).trans (hb7.mono (by simp))))
      have HB7 := Lib.hid (HB6.out.trans (hb7.mono (by have := HB5.out.size; simp at this ⊢; omega)))
      clear ho7 hb7 O7 R7 e8 e9 e10 A7 c7
      go_wp2_with (at_builtin; refine wpList_append_boxes R HRR.out rfl _ _ rfl (w.heap.size + 1) v5 [rightS r] (List.replicate m ⟨0, w0, f, s, nm, cl, l⟩) (by rfl) HO7.out (some ⟨g7, 0, none⟩) m m (by rfl) (by rw [List.length_replicate]) HR7.out (by rw [List.length_replicate]; simp; omega) (by have := HB7.out.size; simpa using this) ?_; intro v8 w8 ho8 hg8; have HO8 := Lib.hid ho8; have HB8 := Lib.hid (or_grown HO7.out HB7.out (by have := HB7.out.size; simpa using this) hg8); clear ho8 hg8)
      go_ret
      exact ⟨_, rfl, by rw [HL2.out]; exact OwnRow.lower HO8.out (Nat.le_succ _), HB00.out.trans (HB8.out.mono (Nat.le_succ _))⟩
  · have hm0 : m = 0 := HMM.out.2 hk
    subst hm0
    have hP0 : P = 0 := by rw [← hP]; simp
    have hr0 : ¬ r = 0 := by omega
    have hrf : r = far := by omega
    subst hrf
    have z1 : wrap64 0 = 0 := by unfold wrap64; omega
    have z2 : wrap64 r = r := by unfold wrap64; omega
    clear hw63 hws hP HMM
    by_cases hk0 : k = 0
    · subst hk0
      have hw0 : ¬ 0 < w0 := fun h => hk ⟨rfl, h⟩
      clear hk
      have HL2 : Hid (L = [rightS r] ++ []) := Lib.hid (by rw [HL.out, if_neg hr0]; rfl)
      have HRR2 := Lib.hid (reads_new (R := R) (w.alloc (.cells #[.int .i64 0, .int .i64 w0, .int .i64 f, .int .i64 s, .string nm, .string cl, .slice A l.length c] 28)) #[.int .i64 2, .int .i64 r, .int .i64 0, .int .i64 0, .string ⟨#[]⟩, .string ⟨#[]⟩, .slice none 0 0] (w.heap.size + 1) (by simp) rfl (rightS r) (HRz.out r))
      have HBB := Lib.hid (((Below.refl (w.heap.size + 1) (w.alloc (.cells #[.int .i64 0, .int .i64 w0, .int .i64 f, .int .i64 s, .string nm, .string cl, .slice A l.length c] 28))).alloc (by simp) (.cells #[.int .i64 2, .int .i64 r, .int .i64 0, .int .i64 0, .string ⟨#[]⟩, .string ⟨#[]⟩, .slice none 0 0] 28)))
      have HB00 := Lib.hid ((Below.refl w.heap.size w).alloc (Nat.le_refl _) (.cells #[.int .i64 0, .int .i64 w0, .int .i64 f, .int .i64 s, .string nm, .string cl, .slice A l.length c] 28))
      go_enter Try.func35, Try.ntmps35
      go_wp2_with (at_builtin; refine wpList_append_boxes R HRR.out rfl _ _ rfl (w.heap.size + 1) (.slice none 0 0) [] [rightS r] (by rfl) (OwnRow.none_ _ _ _ _ _) (some ⟨w.heap.size + 1, 0, none⟩) 1 1 (by rfl) rfl HRR2.out (by simp) (by simp) ?_; intro v5 w5 ho5 hg5; have hb5 := HBB.out.grown hg5 (by simp) (fun k hk => by simp [Value.ownBlock] at hk); have hc5 : ∀ o, w5.cell? ⟨w.heap.size, o, none⟩ = (w.alloc (.cells #[.int .i64 0, .int .i64 w0, .int .i64 f, .int .i64 s, .string nm, .string cl, .slice A l.length c] 28)).cell? ⟨w.heap.size, o, none⟩ := (fun o => hb5.cell (p := ⟨w.heap.size, o, none⟩) (Nat.lt_succ_self _)); have hl5 : w.heap.size < w5.heap.size := (by have := hb5.size; simp at this; omega); have HO5 := Lib.hid ho5; have HB5 := Lib.hid hb5; clear ho5 hg5 hb5)
      have HRP := Lib.hid (repeat_calls w5.heap.size 0 1 0 (boxC ⟨0, w0, f, s, nm, cl, l⟩ A c) rfl (HRR.out _ _ HRx.out) hm1 (w5.alloc (.cells #[.int .i64 0, .int .i64 w0, .int .i64 f, .int .i64 s, .string nm, .string cl, .slice A l.length c] 28)) (src_new w5 (boxC ⟨0, w0, f, s, nm, cl, l⟩ A c) w5.heap.size rfl) (by simp))
      have HB6 := Lib.hid (HB5.out.alloc (by have := HB5.out.size; simp at this; omega) (.cells #[.int .i64 0, .int .i64 w0, .int .i64 f, .int .i64 s, .string nm, .string cl, .slice A l.length c] 28))
      rw [show ((0 : Nat) : Int) = 0 from rfl] at HRP
      refine HRP.out.mono ?_
      rintro e w7 ⟨g7, rfl, ho7, hb7⟩
      have O7 : OwnRow R 28 7 w7 (w5.alloc (.cells #[.int .i64 0, .int .i64 w0, .int .i64 f, .int .i64 s, .string nm, .string cl, .slice A l.length c] 28)).heap.size (.slice (some ⟨g7, 0, none⟩) 0 0) (List.replicate 0 ⟨0, w0, f, s, nm, cl, l⟩) := ⟨_, by rw [List.length_replicate]; exact ho7, reps_rep HRx.out rfl 0⟩
      obtain ⟨A7, c7, e7, R7⟩ := or_reads O7
      injection e7 with e8 e9 e10
      rw [← e8] at R7
      rw [List.replicate_zero] at R7
      have HR7 := Lib.hid R7
      have HO7 := Lib.hid (OwnRow.below HO5.out ((((Below.refl w5.heap.size w5).alloc (Nat.le_refl _) (.cells #[.int .i64 0, .int .i64 w0, .int .i64 f, .int .i64 s, .string nm, .string cl, .slice A l.length c] 28))).trans (hb7.mono (by simp))))
      have HB7 := Lib.hid (HB6.out.trans (hb7.mono (by have := HB5.out.size; simp at this ⊢; omega)))
      clear ho7 hb7 O7 R7 e8 e9 e10 A7 c7
      go_wp2_with (at_builtin; refine wpList_append_boxes R HRR.out rfl _ _ rfl (w.heap.size + 1) v5 [rightS r] [] (by rfl) HO7.out (some ⟨g7, 0, none⟩) 0 0 (by rfl) rfl HR7.out (by simp) (by have := HB7.out.size; simpa using this) ?_; intro v8 w8 ho8 hg8; have HO8 := Lib.hid ho8; have HB8 := Lib.hid (or_grown HO7.out HB7.out (by have := HB7.out.size; simpa using this) hg8); clear ho8 hg8)
      go_ret
      exact ⟨_, rfl, by rw [HL2.out]; exact OwnRow.lower HO8.out (Nat.le_succ _), HB00.out.trans (HB8.out.mono (Nat.le_succ _))⟩

    · clear hk
      have HL2 : Hid (L = [rightS r] ++ []) := Lib.hid (by rw [HL.out, if_neg hr0]; rfl)
      have HRR2 := Lib.hid (reads_new (R := R) (w.alloc (.cells #[.int .i64 k, .int .i64 w0, .int .i64 f, .int .i64 s, .string nm, .string cl, .slice A l.length c] 28)) #[.int .i64 2, .int .i64 r, .int .i64 0, .int .i64 0, .string ⟨#[]⟩, .string ⟨#[]⟩, .slice none 0 0] (w.heap.size + 1) (by simp) rfl (rightS r) (HRz.out r))
      have HBB := Lib.hid (((Below.refl (w.heap.size + 1) (w.alloc (.cells #[.int .i64 k, .int .i64 w0, .int .i64 f, .int .i64 s, .string nm, .string cl, .slice A l.length c] 28))).alloc (by simp) (.cells #[.int .i64 2, .int .i64 r, .int .i64 0, .int .i64 0, .string ⟨#[]⟩, .string ⟨#[]⟩, .slice none 0 0] 28)))
      have HB00 := Lib.hid ((Below.refl w.heap.size w).alloc (Nat.le_refl _) (.cells #[.int .i64 k, .int .i64 w0, .int .i64 f, .int .i64 s, .string nm, .string cl, .slice A l.length c] 28))
      go_enter Try.func35, Try.ntmps35
      go_wp2_with (at_builtin; refine wpList_append_boxes R HRR.out rfl _ _ rfl (w.heap.size + 1) (.slice none 0 0) [] [rightS r] (by rfl) (OwnRow.none_ _ _ _ _ _) (some ⟨w.heap.size + 1, 0, none⟩) 1 1 (by rfl) rfl HRR2.out (by simp) (by simp) ?_; intro v5 w5 ho5 hg5; have hb5 := HBB.out.grown hg5 (by simp) (fun k hk => by simp [Value.ownBlock] at hk); have hc5 : ∀ o, w5.cell? ⟨w.heap.size, o, none⟩ = (w.alloc (.cells #[.int .i64 k, .int .i64 w0, .int .i64 f, .int .i64 s, .string nm, .string cl, .slice A l.length c] 28)).cell? ⟨w.heap.size, o, none⟩ := (fun o => hb5.cell (p := ⟨w.heap.size, o, none⟩) (Nat.lt_succ_self _)); have hl5 : w.heap.size < w5.heap.size := (by have := hb5.size; simp at this; omega); have HO5 := Lib.hid ho5; have HB5 := Lib.hid hb5; clear ho5 hg5 hb5)
      have HRP := Lib.hid (repeat_calls w5.heap.size 0 1 0 (boxC ⟨k, w0, f, s, nm, cl, l⟩ A c) rfl (HRR.out _ _ HRx.out) hm1 (w5.alloc (.cells #[.int .i64 k, .int .i64 w0, .int .i64 f, .int .i64 s, .string nm, .string cl, .slice A l.length c] 28)) (src_new w5 (boxC ⟨k, w0, f, s, nm, cl, l⟩ A c) w5.heap.size rfl) (by simp))
      have HB6 := Lib.hid (HB5.out.alloc (by have := HB5.out.size; simp at this; omega) (.cells #[.int .i64 k, .int .i64 w0, .int .i64 f, .int .i64 s, .string nm, .string cl, .slice A l.length c] 28))
      rw [show ((0 : Nat) : Int) = 0 from rfl] at HRP
      refine HRP.out.mono ?_
      rintro e w7 ⟨g7, rfl, ho7, hb7⟩
      have O7 : OwnRow R 28 7 w7 (w5.alloc (.cells #[.int .i64 k, .int .i64 w0, .int .i64 f, .int .i64 s, .string nm, .string cl, .slice A l.length c] 28)).heap.size (.slice (some ⟨g7, 0, none⟩) 0 0) (List.replicate 0 ⟨k, w0, f, s, nm, cl, l⟩) := ⟨_, by rw [List.length_replicate]; exact ho7, reps_rep HRx.out rfl 0⟩
      obtain ⟨A7, c7, e7, R7⟩ := or_reads O7
      injection e7 with e8 e9 e10
      rw [← e8] at R7
      rw [List.replicate_zero] at R7
      have HR7 := Lib.hid R7
      have HO7 := Lib.hid (OwnRow.below HO5.out ((((Below.refl w5.heap.size w5).alloc (Nat.le_refl _) (.cells #[.int .i64 k, .int .i64 w0, .int .i64 f, .int .i64 s, .string nm, .string cl, .slice A l.length c] 28))).trans (hb7.mono (by simp))))
      have HB7 := Lib.hid (HB6.out.trans (hb7.mono (by have := HB5.out.size; simp at this ⊢; omega)))
      clear ho7 hb7 O7 R7 e8 e9 e10 A7 c7
      go_wp2_with (at_builtin; refine wpList_append_boxes R HRR.out rfl _ _ rfl (w.heap.size + 1) v5 [rightS r] [] (by rfl) HO7.out (some ⟨g7, 0, none⟩) 0 0 (by rfl) rfl HR7.out (by simp) (by have := HB7.out.size; simpa using this) ?_; intro v8 w8 ho8 hg8; have HO8 := Lib.hid ho8; have HB8 := Lib.hid (or_grown HO7.out HB7.out (by have := HB7.out.size; simpa using this) hg8); clear ho8 hg8)
      go_ret
      exact ⟨_, rfl, by rw [HL2.out]; exact OwnRow.lower HO8.out (Nat.le_succ _), HB00.out.trans (HB8.out.mono (Nat.le_succ _))⟩
end Go.Proofs.Ytmmfojaeahcohaa

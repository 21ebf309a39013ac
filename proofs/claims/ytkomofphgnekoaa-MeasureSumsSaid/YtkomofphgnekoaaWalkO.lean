/- Walks of layer 1's reader: Prefix. -/
import Derived.Test.YtkomofphgnekoaaWalkM
set_option linter.unusedVariables false
set_option linter.unusedSimpArgs false
namespace Go.Proofs.Ytkomofphgnekoaa
open Go.Shelf Go.RowKit Go.Lib Go.Aids Go.MapLit Go.Proofs.YtkomofphgnekoaaW.PrintWords

theorem reckonO_mute {c : Cx} (hm : c.mute = true) (op : ByteArray) (x y : Int) (a : Nat) : reckonO c op x y a = .ok 0 a := by
  unfold reckonO; rw [hm, if_pos rfl]
theorem loop_mute {c : Cx} (hm : c.mute = true) : ∀ f x a e, run c f (.loop x a 0) ≠ .die e
  | 0, x, a, e => by intro h; cases h
  | f + 1, x, a, e => by
    intro h
    rw [run] at h
    rcases hop : operL c.s (skip c.s 0 a) with _ | op
    · simp only [hop] at h; cases h
    · simp only [hop] at h
      rcases hr : run c f (.oper (skip c.s 0 a + op.size) 0) with ⟨y, t⟩ | k | _
      · rw [hr] at h
        simp only [reckonO_mute hm] at h
        exact loop_mute hm f _ _ _ h
      · rw [hr] at h
        simp only [hm, and_self, if_true] at h
        cases h
      · rw [hr] at h; cases h
theorem expr_mute {c : Cx} (hm : c.mute = true) {f a : Nat} {x : Int} {t : Nat} (h : run c f (.oper a 0) = .ok x t) (e : Int) : run c (f + 1) (.expr a 0) ≠ .die e := by
  rw [run, h]
  exact loop_mute hm f x t e

/-- What Prefix hands back. -/
def operRun (s : ByteArray) (scale : Nat) (size vs here : Int) : Out := run ⟨s, scale, size, vs, here, 0, true⟩ (2 * s.size + 1) (.oper 0 0)
def prefixO (s : ByteArray) (scale : Nat) (size vs here : Int) : Int × Int × Int :=
  if okB scale size vs here then
    match operRun s scale size vs here, evalRun s scale size vs here true with
    | .ok _ _, .ok _ t => if (evalO (s.extract 0 t) scale size vs here).2 = 0 then ((evalO (s.extract 0 t) scale size vs here).1, t, 0) else (0, 0, (evalO (s.extract 0 t) scale size vs here).2)
    | _, _ => (0, 0, 4)
  else (0, 0, 1)
theorem Rd.mute {w : World} {b a : Nat} {c : Cx} (h : Rd w b c a) : Rd (w.setCell ⟨b, 7, none⟩ (.bool true)) b { c with mute := true } a := by
  have := h.blk
  refine ⟨?_⟩
  simp [World.setCell, Array.getElem?_modify, this]
theorem Rd.mute_free {w : World} {b a : Nat} {c : Cx} (h : Rd w b c a) : w.frozen? ⟨b, 7, none⟩ = false := by
  have := h.blk
  simp [World.frozen?, this]
theorem St.below {w w' : World} {b a : Nat} {c : Cx} (h : St w b c a) (hb : Below w.heap.size w w') : St w' b c a := ⟨h.rd.below hb, Go.MapLit.MapIs.below eK eV h.mp hb, h.ne⟩
theorem run_cut0 {P : Program} (t : TypeId) (ht : P.underlying t = some .string) (s : ByteArray) (k : IntKind) (j : Nat) (h2 : j ≤ s.size) (W : World) :
    (Instr.slice t (.string s) none (some (.int k (j : Int))) none).run P W = .ok (.string (s.extract 0 j)) W := by
  have e1 := run_sliceBound (P := P) (w := W) k (j : Int) s.size .sliceAlen (by omega) (by omega)
  simp [Instr.slice, run_underlying ht, Instr.sliceBounds, e1, Result.andThen]

set_option maxRecDepth 100000 in
set_option maxHeartbeats 4000000 in
theorem prefix_arg (s : ByteArray) (scale : Nat) (size vs here : Int) (w : World) (hsc : scale < 256) (hob : okB scale size vs here = false) :
    Calls Try.prog 10 #[.string s, .int .u8 scale, .agg #[.int .i64 size, .int .i64 vs, .int .i64 here]] w fun e w' => e = .returned (.tuple #[.int .i64 0, .int .i64 0, .int .i64 1]) ∧ Below w.heap.size w w' := by
  have HO := Lib.hid (fun W => open_calls s scale size vs here W hsc)
  rw [hob] at HO
  clear hob
  go_enter Try.func10, Try.ntmps10
  go_wp2_with fail
  refine (HO.out _).mono ?_
  rintro e w4 ⟨b, m, rfl, hb, -, -, -, -, -⟩
  go_wp2
  go_ret3
  exact ⟨rfl, ((Below.refl _ w).alloc (Nat.le_refl _) _).trans (hb.mono (by simp))⟩
theorem operRun_stuck (s : ByteArray) (scale : Nat) (size vs here : Int) : operRun s scale size vs here ≠ .stuck :=
  run_fuel _ _ _ (Nat.zero_le _) (by show 2 * (s.size - 0) + 1 ≤ 2 * s.size + 1; omega)

set_option maxRecDepth 100000 in
set_option maxHeartbeats 4000000 in
theorem prefix_none (s : ByteArray) (scale : Nat) (size vs here : Int) (w : World) (hsc : scale < 256) (hob : okB scale size vs here = true) (hs : s.size ≤ 4611686018427387904) (hop : isOk (operRun s scale size vs here) = false) :
    Calls Try.prog 10 #[.string s, .int .u8 scale, .agg #[.int .i64 size, .int .i64 vs, .int .i64 here]] w fun e w' => e = .returned (.tuple #[.int .i64 0, .int .i64 0, .int .i64 4]) ∧ Below w.heap.size w w' := by
  have HO := Lib.hid (fun W => open_calls s scale size vs here W hsc)
  have hok := fun m => okB_ok hob hs hsc m true
  rw [hob] at HO
  clear hob
  go_enter Try.func10, Try.ntmps10
  go_wp2_with fail
  refine (HO.out _).mono ?_
  rintro e w4 ⟨b, m, rfl, hb, hb1, hm1, hmb, hrd, hmp⟩
  have hst : St (w4.setCell ⟨b, 7, none⟩ (.bool true)) b ⟨s, scale, size, vs, here, m, true⟩ 0 := ⟨hrd.mute, MapIs.kp hmp (Kp.set _ _ _ _) hmb, hmb⟩
  have hF := Lib.hid (fits_calls (w4.setCell ⟨b, 7, none⟩ (.bool true)) b 0 ⟨s, scale, size, vs, here, m, true⟩ (operRun s scale size vs here) hst
    (fun W b' hst' => by
      have := (run_calls ⟨s, scale, size, vs, here, m, true⟩ (hok m) (2 * s.size + 1)).1 W b' 0 0 hst' (Nat.zero_le _) (by omega) (by rw [run_m ⟨s, scale, size, vs, here, 0, true⟩ m]; exact operRun_stuck s scale size vs here)
      rw [run_m ⟨s, scale, size, vs, here, 0, true⟩ m] at this
      exact this) (operRun_stuck s scale size vs here) (fun k h => run_die _ _ _ k h))
  rw [hop] at hF
  have hfz := hrd.mute_free
  have hc7 := hrd.cells.2.2.2.2.2.2.2.1
  have hbl := hrd.lt
  clear hst hmp hop
  go_wp2_with (go_at_call 17; refine hF.out.mono ?_; rintro e w5 ⟨rfl, hb5⟩)
  go_ret3
  have q0 := ((Below.refl _ w).alloc (Nat.le_refl _) (.cells #[.int .i64 size, .int .i64 vs, .int .i64 here] 30)).trans (hb.mono (by simp))
  have q1 := q0.setCell (p := ⟨b, 7, none⟩) (by simp at hb1; show w.heap.size ≤ b; omega) (.bool true)
  exact ⟨rfl, q1.trans (hb5.mono q1.size)⟩

theorem evalRun_ok (s : ByteArray) (scale : Nat) (size vs here : Int) {n : Int} {t : Nat} (h : operRun s scale size vs here = .ok n t) : ∃ n' t', evalRun s scale size vs here true = .ok n' t' ∧ t' ≤ s.size := by
  have hd : ∀ e, evalRun s scale size vs here true ≠ .die e := expr_mute (c := ⟨s, scale, size, vs, here, 0, true⟩) rfl (f := 2 * s.size + 1) h
  have hst := evalRun_stuck s scale size vs here true
  rcases hr : evalRun s scale size vs here true with ⟨n', t'⟩ | e | _
  · exact ⟨_, _, rfl, (run_bound ⟨s, scale, size, vs, here, 0, true⟩ (fuelOf s) (.expr 0 0) _ _ (Nat.zero_le _) hr).2⟩
  · exact absurd hr (hd e)
  · exact absurd hr hst

set_option maxRecDepth 100000 in
set_option maxHeartbeats 4000000 in
theorem prefix_read (s : ByteArray) (scale : Nat) (size vs here : Int) (w : World) (hsc : scale < 256) (hob : okB scale size vs here = true) (hs : s.size ≤ 4611686018427387904) (hop : isOk (operRun s scale size vs here) = true)
    (n : Int) (t : Nat) (ht : t ≤ s.size) (hev : evalRun s scale size vs here true = .ok n t) (x k : Int) (hxk : evalO (s.extract 0 t) scale size vs here = (x, k)) :
    Calls Try.prog 10 #[.string s, .int .u8 scale, .agg #[.int .i64 size, .int .i64 vs, .int .i64 here]] w fun e w' => e = .returned (.tuple (if k = 0 then #[.int .i64 x, .int .i64 t, .int .i64 0] else #[.int .i64 0, .int .i64 0, .int .i64 k])) ∧ Below w.heap.size w w' := by
  have HO := Lib.hid (fun W => open_calls s scale size vs here W hsc)
  have hok := fun m => okB_ok hob hs hsc m true
  have hE := fun W => eval_calls (s.extract 0 t) scale size vs here W hsc (by rw [ByteArray.size_extract]; omega)
  rw [hxk] at hE
  rw [hob] at HO
  clear hob
  have HE := Lib.hid hE
  clear hE
  have hcut := fun W => run_cut0 (P := Try.prog) 9 Try.underlying9 s .i64 t ht W
  go_enter Try.func10, Try.ntmps10
  go_wp2_with fail
  refine (HO.out _).mono ?_
  rintro e w4 ⟨b, m, rfl, hb, hb1, hm1, hmb, hrd, hmp⟩
  have hst : St (w4.setCell ⟨b, 7, none⟩ (.bool true)) b ⟨s, scale, size, vs, here, m, true⟩ 0 := ⟨hrd.mute, MapIs.kp hmp (Kp.set _ _ _ _) hmb, hmb⟩
  have hF := Lib.hid (fits_calls (w4.setCell ⟨b, 7, none⟩ (.bool true)) b 0 ⟨s, scale, size, vs, here, m, true⟩ (operRun s scale size vs here) hst
    (fun W b' hst' => by
      have := (run_calls ⟨s, scale, size, vs, here, m, true⟩ (hok m) (2 * s.size + 1)).1 W b' 0 0 hst' (Nat.zero_le _) (by omega) (by rw [run_m ⟨s, scale, size, vs, here, 0, true⟩ m]; exact operRun_stuck s scale size vs here)
      rw [run_m ⟨s, scale, size, vs, here, 0, true⟩ m] at this
      exact this) (operRun_stuck s scale size vs here) (fun k h => run_die _ _ _ k h))
  have hX := Lib.hid (fun (W : World) (hst' : St W b ⟨s, scale, size, vs, here, m, true⟩ 0) => show Calls Try.prog 15 #[.pointer (some ⟨b, 0, none⟩), .int .i64 0] W (Post b ⟨s, scale, size, vs, here, m, true⟩ W (.ok n t)) from by
      have := (run_calls ⟨s, scale, size, vs, here, m, true⟩ (hok m) (fuelOf s)).2 W b 0 0 hst' (Nat.zero_le _) (by omega) (by rw [run_m ⟨s, scale, size, vs, here, 0, true⟩ m]; exact evalRun_stuck s scale size vs here true)
      rw [run_m ⟨s, scale, size, vs, here, 0, true⟩ m] at this
      rw [← hev]
      exact this)
  rw [hop] at hF
  have hfz := hrd.mute_free
  have hc7 := hrd.cells.2.2.2.2.2.2.2.1
  have hbl := hrd.lt
  have q0 := ((Below.refl _ w).alloc (Nat.le_refl _) (.cells #[.int .i64 size, .int .i64 vs, .int .i64 here] 30)).trans (hb.mono (by simp))
  have hbw : w.heap.size + 1 ≤ b := by simpa using hb1
  have q1 := q0.setCell (p := ⟨b, 7, none⟩) (by show w.heap.size ≤ b; omega) (.bool true)
  have hbox : (w4.setCell ⟨b, 7, none⟩ (.bool true)).heap[w.heap.size]? = some (.cells #[.int .i64 size, .int .i64 vs, .int .i64 here] 30 (0, 0)) := by
    rw [Below.heap_setCell _ _ _ _ (by show w.heap.size ≠ b; omega), hb.block _ (by simp)]
    exact heap_alloc_new w _
  have Hst := Lib.hid hst
  clear hst hmp hop hev hxk
  go_wp2_with (first
    | (go_at_call 17; refine hF.out.mono ?_; rintro e w5 ⟨rfl, hb5⟩)
    | (go_at_call 15; refine (hX.out _ (Hst.out.below hb5)).mono ?_; rintro e w6 ⟨rfl, hk6, hrd6⟩))
  have hb56 := hb5
  have g1 := hrd6.cells.2.1
  have hbox6 : w6.heap[w.heap.size]? = some (.cells #[.int .i64 size, .int .i64 vs, .int .i64 here] 30 (0, 0)) := by
    have hstr : w.heap.size < (w4.setCell ⟨b, 7, none⟩ (.bool true)).heap.size := by simp; omega
    rw [hk6.block _ (by have := hb5.size; omega) (by omega), hb5.block _ hstr]
    exact hbox
  have hlt := hrd6.lt
  have g2 : w6.cell? ⟨w.heap.size, 0, none⟩ = some (.int .i64 size) := by simp [World.cell?, hbox6]
  have g3 : w6.cell? ⟨w.heap.size, 1, none⟩ = some (.int .i64 vs) := by simp [World.cell?, hbox6]
  have g4 : w6.cell? ⟨w.heap.size, 2, none⟩ = some (.int .i64 here) := by simp [World.cell?, hbox6]
  have q5 := q1.trans (hb5.mono q1.size)
  have q6 := Below.of_kp q5 hk6 (by omega) q5.size
  clear hbox6 hbox hF hX Hst hb hrd hfz hc7 hb5 hk6 q0 q1 q5 hrd6 hb56 HO hb1 hm1 hmb hbl hok
  go_region_with (go_at_call 8; refine (HE.out _).mono ?_; rintro e w7 ⟨rfl, hb7⟩)
  all_goals
    have hlt6 : b < w6.drew.heap.size := by show b < w6.heap.size; exact hlt
    have k1 : w7.cell? ⟨b, 1, none⟩ = some (.int .i64 t) := ((bcell hb7).1 b 1 hlt6).trans g1
    have q7 := (q6.drew).trans (hb7.mono (by show w.heap.size ≤ w6.heap.size; exact q6.size))
    clear hb7 g1 g2 g3 g4 q6
    by_cases hk0 : k = 0
    · subst hk0
      go_wp2
      go_quiet (fail)
      go_wp2
      go_ret3
      exact ⟨rfl, Go.Aids.belowN q7 _⟩
    · go_wp2
      go_ret3
      exact ⟨rfl, q7⟩
theorem prefix_calls (s : ByteArray) (scale : Nat) (size vs here : Int) (w : World) (hsc : scale < 256) (hs : s.size ≤ 4611686018427387904) :
    Calls Try.prog 10 #[.string s, .int .u8 scale, .agg #[.int .i64 size, .int .i64 vs, .int .i64 here]] w fun e w' => e = .returned (.tuple #[.int .i64 (prefixO s scale size vs here).1, .int .i64 (prefixO s scale size vs here).2.1, .int .i64 (prefixO s scale size vs here).2.2]) ∧ Below w.heap.size w w' := by
  unfold prefixO
  rcases hob : okB scale size vs here with _ | _
  · exact prefix_arg s scale size vs here w hsc hob
  · rcases ho : operRun s scale size vs here with ⟨n0, t0⟩ | k | _
    · obtain ⟨n, t, he, ht⟩ := evalRun_ok s scale size vs here ho
      rw [he]
      obtain ⟨⟨x, k⟩, hxk⟩ : ∃ r, evalO (s.extract 0 t) scale size vs here = r := ⟨_, rfl⟩
      refine (prefix_read s scale size vs here w hsc hob hs (by rw [ho]; rfl) n t ht he x k hxk).mono ?_
      rintro e w' ⟨rfl, hb⟩
      refine ⟨?_, hb⟩
      simp only [hxk]
      by_cases hk : k = 0
      · simp [hk]
      · simp [hk]
    · exact prefix_none s scale size vs here w hsc hob hs (by rw [ho]; rfl)
    · exact absurd ho (operRun_stuck s scale size vs here)
end Go.Proofs.Ytkomofphgnekoaa

/- Walks of layer 1's reader: whole over a way of reading, Eval. -/
import Derived.Test.YtkomofphgnekoaaDoorWalkK
set_option linter.unusedVariables false
set_option linter.unusedSimpArgs false
namespace Go.Proofs.YtkomofphgnekoaaDoor
open Go.Shelf Go.RowKit Go.Lib Go.Aids Go.MapLit Go.Proofs.YtkomofphgnekoaaDoorW.PrintWords

/-- What whole hands back, of what was read. -/
def wholeN (size : Nat) : Out → Int × Int
  | .ok n t => if t = size then (n, 0) else (0, 4)
  | .die k => (0, k)
  | .stuck => (0, 0)

theorem eval1_calls (w : World) (b : Nat) (c : Cx) (f : Nat) (h : St w b c 0) (ok : c.Ok) (hn : run c f (.expr 0 0) ≠ .stuck) :
    Calls Tryd.prog 18 #[.pointer (some ⟨b, 0, none⟩)] w (Post b c w (run c f (.expr 0 0))) := by
  have H := (run_calls c ok f).2 w b 0 0 h (Nat.zero_le _) (by omega) hn
  obtain ⟨o, ho⟩ : ∃ o, run c f (.expr 0 0) = o := ⟨_, rfl⟩
  rw [ho] at H hn ⊢
  have HH := Lib.hid H
  clear H ho
  rcases o with ⟨n, t⟩ | k | _
  · go_enter Tryd.func18, Tryd.ntmps18
    go_wp2_with (go_at_call 19; refine HH.out.mono ?_; rintro e w1 ⟨rfl, hk, hrd⟩)
    go_ret
    exact ⟨rfl, hk, hrd⟩
  · go_enter Tryd.func18, Tryd.ntmps18
    go_wp2_with (go_at_call 19; refine HH.out.mono ?_; rintro e w1 ⟨rfl, hk⟩)
    exact ⟨rfl, rfl, hk⟩
  · exact absurd rfl hn

theorem Bk.below {w w' : World} {b : Nat} {v : Value} {t : TypeId} (h : Bk w b v t) (hb : Below w.heap.size w w') : Bk w' b v t := (hb.block b h.lt).trans h
/-- What whole's variables stand on. -/
structure Wh (w W : World) (n e : Int) : Prop where
  bel : Below w.heap.size w W
  sz : w.heap.size + 3 ≤ W.heap.size
  n : Bk W (w.heap.size + 1) (.int .i64 n) 3
  e : Bk W (w.heap.size + 1 + 1) (.int .i64 e) 25
theorem Wh.new (w : World) (size vs here : Int) : Wh w (((w.alloc (.cells #[.int .i64 size, .int .i64 vs, .int .i64 here] 23)).alloc (.cells #[.int .i64 0] 3)).alloc (.cells #[.int .i64 0] 25)) 0 0 := by
  refine ⟨(((Below.refl _ w).alloc (Nat.le_refl _) _).alloc (by simp) _).alloc (by simp; omega) _, by simp, ?_, ?_⟩
  · have := (Bk.new (w.alloc (.cells #[.int .i64 size, .int .i64 vs, .int .i64 here] 23)) (.int .i64 0) 3).alloc (.cells #[.int .i64 0] 25)
    simpa using this
  · have := Bk.new ((w.alloc (.cells #[.int .i64 size, .int .i64 vs, .int .i64 here] 23)).alloc (.cells #[.int .i64 0] 3)) (.int .i64 0) 25
    simpa using this
theorem Wh.setN {w W : World} {n e : Int} (h : Wh w W n e) (n' : Int) : Wh w (W.setCell ⟨w.heap.size + 1, 0, none⟩ (.int .i64 n')) n' e :=
  ⟨h.bel.setCell (by show w.heap.size ≤ w.heap.size + 1; omega) _, by simpa using h.sz, h.n.set _, h.e.other _ (by omega)⟩
theorem Wh.setE {w W : World} {n e : Int} (h : Wh w W n e) (e' : Int) : Wh w (W.setCell ⟨w.heap.size + 1 + 1, 0, none⟩ (.int .i64 e')) n e' :=
  ⟨h.bel.setCell (by show w.heap.size ≤ w.heap.size + 1 + 1; omega) _, by simpa using h.sz, h.n.other _ (by omega), h.e.set _⟩
theorem Wh.below {w W W' : World} {n e : Int} (h : Wh w W n e) (hb : Below W.heap.size W W') : Wh w W' n e :=
  ⟨h.bel.trans (hb.mono (by have := h.sz; omega)), by have := h.sz; have := hb.size; omega, h.n.below hb, h.e.below hb⟩
theorem Wh.kp {w W W' : World} {n e : Int} {b : Nat} (h : Wh w W n e) (hk : Kp b W W') (hb : w.heap.size + 3 ≤ b) : Wh w W' n e :=
  ⟨Below.of_kp h.bel hk (by omega) (by have := h.sz; omega), by have := h.sz; have := hk.size; omega, h.n.kp hk (by omega), h.e.kp hk (by omega)⟩
theorem Wh.alloc {w W : World} {n e : Int} (h : Wh w W n e) (o : Obj) : Wh w (W.alloc o) n e := h.below ((Below.refl _ _).alloc (Nat.le_refl _) o)

theorem whole14_arg (s : ByteArray) (scale : Nat) (size vs here : Int) (w : World) (hsc : scale < 256) (hob : okB scale size vs here = false) :
    Calls Tryd.prog 17 #[.string s, .int .u8 scale, .agg #[.int .i64 size, .int .i64 vs, .int .i64 here], .func (.func 18) #[] #[]] w fun e w' => e = .returned (.tuple #[.int .i64 0, .int .i64 1]) ∧ Below w.heap.size w w' := by
  have hmf : ∀ (fn : Fn) (first cap : Array Value) (w : World), (Instr.makeFunc fn first cap).run Tryd.prog w = .ok (.func fn first cap) w := fun _ _ _ _ => rfl
  have HO := Lib.hid (fun W => open_calls s scale size vs here W hsc)
  rw [hob] at HO
  clear hob
  go_enter_defers Tryd.func17, Tryd.ntmps17
  go_wp2_with fail
  refine (HO.out _).mono ?_
  rintro e w4 ⟨b, m, rfl, hb, -, -, -, -, -⟩
  have h4 := (Wh.new w size vs here).below hb
  have n0 := h4.n.cell
  have n1 := h4.n.free
  have e0 := h4.e.cell
  have e1 := h4.e.free
  clear hb
  go_wp2
  have h5 := (h4.setN 0).setE 1
  have r0 := h5.n.cell
  have r1 := h5.e.cell
  simp [bodyPostD, Leaves, settle, results, Tryd.results17, go_sem, r0, r1]
  exact h5.bel

set_option maxRecDepth 100000 in
set_option maxHeartbeats 4000000 in
theorem whole14_read (s : ByteArray) (scale : Nat) (size vs here : Int) (w : World) (hsc : scale < 256) (hob : okB scale size vs here = true) (o : Out) (ho : o ≠ .stuck) (hk0 : ∀ k, o = .die k → k ≠ 0) (hs : s.size ≤ 4611686018427387904)
    (H : ∀ (W : World) (b m : Nat), St W b ⟨s, scale, size, vs, here, m, false⟩ 0 → Calls Tryd.prog 18 #[.pointer (some ⟨b, 0, none⟩)] W (Post b ⟨s, scale, size, vs, here, m, false⟩ W o)) :
    Calls Tryd.prog 17 #[.string s, .int .u8 scale, .agg #[.int .i64 size, .int .i64 vs, .int .i64 here], .func (.func 18) #[] #[]] w fun e w' => e = .returned (.tuple #[.int .i64 (wholeN s.size o).1, .int .i64 (wholeN s.size o).2]) ∧ Below w.heap.size w w' := by
  have hmf : ∀ (fn : Fn) (first cap : Array Value) (w : World), (Instr.makeFunc fn first cap).run Tryd.prog w = .ok (.func fn first cap) w := fun _ _ _ _ => rfl
  have HO := Lib.hid (fun W => open_calls s scale size vs here W hsc)
  rw [hob] at HO
  clear hob
  obtain ⟨rn, hrn⟩ : ∃ r, wholeN s.size o = r := ⟨_, rfl⟩
  rw [hrn]
  have Hrn := Lib.hid hrn
  have HH := Lib.hid H
  clear hrn H
  go_enter_defers Tryd.func17, Tryd.ntmps17
  go_wp2_with fail
  refine (HO.out _).mono ?_
  rintro e w4 ⟨b, m, rfl, hb, hb1, hm1, hmb, hrd, hmp⟩
  have h4 := (Wh.new w size vs here).below hb
  have hb3 : w.heap.size + 3 ≤ b := by simpa using hb1
  have hst : St w4 b ⟨s, scale, size, vs, here, m, false⟩ 0 := ⟨hrd, hmp, hmb⟩
  clear hb hb1 hm1 hmb hrd hmp HO
  rcases o with ⟨n, t⟩ | k | _
  · by_cases ht : t = s.size
    · have ht' : (t : Int) = s.size := by omega
      obtain rfl : (n, (0 : Int)) = rn := by have := Hrn.out; simp only [wholeN, if_pos ht] at this; exact this
      go_wp2_with (go_at_call 18; refine (HH.out w4 b m hst).mono ?_; rintro e w5 ⟨rfl, hk5, hrd5⟩; have h5 := h4.kp hk5 hb3; have n0 := h5.n.cell; have n1 := h5.n.free; have e0 := h5.e.cell; have e1 := h5.e.free; obtain ⟨-, q1, -, -, -, -, -, -, -⟩ := hrd5.cells)
      have h6 := ((h5.setN n).setN n).setE 0
      refine leaves_cons (f := 32) (args := #[.pointer (some ⟨w.heap.size + 1 + 1, 0, none⟩)]) (by simp) (by simp [go_sem]) ?_
      refine (catch_idle _ _).mono ?_
      rintro e u' w'' ⟨rfl, rfl, rfl⟩
      refine leaves_cons (f := 31) (args := #[.pointer (some ⟨w.heap.size + 1 + 1, 0, none⟩), .pointer (some ⟨w.heap.size + 1, 0, none⟩)]) (by simp [settle]) (by simp [go_sem]) ?_
      refine (whole1_calls _ _ 0 n _ _ h6.e.cell h6.n.cell h6.n.free).mono ?_
      rintro e u' w'' ⟨rfl, rfl, hw⟩
      rw [if_pos rfl] at hw
      subst hw
      have r0 := h6.n.cell
      have r1 := h6.e.cell
      simp [Leaves, settle, results, Tryd.results17, go_sem, r0, r1]
      exact h6.bel
    · have ht' : ¬ (t : Int) = s.size := by omega
      obtain rfl : ((0 : Int), (4 : Int)) = rn := by have := Hrn.out; simp only [wholeN, if_neg ht] at this; exact this
      go_wp2_with (go_at_call 18; refine (HH.out w4 b m hst).mono ?_; rintro e w5 ⟨rfl, hk5, hrd5⟩; have h5 := h4.kp hk5 hb3; have n0 := h5.n.cell; have n1 := h5.n.free; have e0 := h5.e.cell; have e1 := h5.e.free; obtain ⟨-, q1, -, -, -, -, -, -, -⟩ := hrd5.cells)
      have h6 := ((h5.setN n).setN 0).setE 4
      refine leaves_cons (f := 32) (args := #[.pointer (some ⟨w.heap.size + 1 + 1, 0, none⟩)]) (by simp) (by simp [go_sem]) ?_
      refine (catch_idle _ _).mono ?_
      rintro e u' w'' ⟨rfl, rfl, rfl⟩
      refine leaves_cons (f := 31) (args := #[.pointer (some ⟨w.heap.size + 1 + 1, 0, none⟩), .pointer (some ⟨w.heap.size + 1, 0, none⟩)]) (by simp [settle]) (by simp [go_sem]) ?_
      refine (whole1_calls _ _ 4 0 _ _ h6.e.cell h6.n.cell h6.n.free).mono ?_
      rintro e u' w'' ⟨rfl, rfl, hw⟩
      rw [if_neg (by decide)] at hw
      subst hw
      have h7 := h6.setN 0
      have r0 := h7.n.cell
      have r1 := h7.e.cell
      simp [Leaves, settle, results, Tryd.results17, go_sem, r0, r1]
      exact h7.bel
  · have hk := hk0 k rfl
    obtain rfl : ((0 : Int), k) = rn := Hrn.out
    go_wp2_with (go_at_call 18; refine (HH.out w4 b m hst).mono ?_; rintro e w5 ⟨rfl, hk5⟩)
    have h5 := h4.kp hk5 hb3
    refine leaves_cons (f := 32) (args := #[.pointer (some ⟨w.heap.size + 1 + 1, 0, none⟩)]) (by simp) (by simp [go_sem]) ?_
    refine (catch_panicking _ 0 k [] _ h5.e.lt h5.e.cell h5.e.free).mono ?_
    rintro e u' w'' ⟨rfl, rfl, oo, rfl⟩
    have h6 := (h5.setE k).alloc oo
    refine leaves_cons (f := 31) (args := #[.pointer (some ⟨w.heap.size + 1 + 1, 0, none⟩), .pointer (some ⟨w.heap.size + 1, 0, none⟩)]) (by simp [settle]) (by simp [go_sem]) ?_
    refine (whole1_calls _ _ k 0 _ _ h6.e.cell h6.n.cell h6.n.free).mono ?_
    rintro e u' w'' ⟨rfl, rfl, hw⟩
    rw [if_neg hk] at hw
    subst hw
    have h7 := h6.setN 0
    have r0 := h7.n.cell
    have r1 := h7.e.cell
    simp [Leaves, settle, results, Tryd.results17, go_sem, r0, r1]
    exact h7.bel
  · exact absurd rfl ho
end Go.Proofs.YtkomofphgnekoaaDoor

/- Walks of layer 10's reader: what catches, Line. -/
import Derived.Test.YtaokofnhkojllaaWalkI
set_option linter.unusedVariables false
set_option linter.unusedSimpArgs false
namespace Go.Proofs.Ytaokofnhkojllaa
open Go.Shelf Go.RowKit Go.Lib Go.Aids Go.MapLit Go.Proofs.YtaokofnhkojllaaW.PrintWords

theorem frame17 (u v : Value) : #[u, v] ++ Array.replicate (Try.f17.ntmps - #[u, v].size) undef = #[u, v, undef, undef, undef, undef, undef, undef, undef, undef, undef, undef, undef, undef, undef, undef] := by rw [Try.ntmps17]; rfl
theorem catch_idle (p q : Addr) (w : World) :
    CallsD Try.prog 17 #[.pointer (some p), .pointer (some q)] .returning w fun e u' w' => e = .returned (.tuple #[]) ∧ u' = .returning ∧ w' = w := by
  refine callsD_of_wpS Try.func17 rfl fun c₀ cs hu => ?_
  rw [frame17]
  apply wpS_seq
  apply wpS_region
  simp [wpOpsS, go_sem, recoverD, hu, Exit.thenS]
  refine wpS_of_wp ?_
  go_wp2
  cases c₀
  simp_all [bodyPostS, results, Try.results17]
theorem run_form (o : Value) (W : World) : (Instr.typeAssert (.iface 43 (.agg #[o])) 20 43 true).run Try.prog W = .ok (.tuple #[.agg #[o], .bool true]) W := by
  simp [Instr.typeAssert, run_underlying Try.underlying43, go_sem, Result.andThen]
set_option maxHeartbeats 1000000 in
theorem catch_panicking (g : Nat) (po : Addr) (older : List PanicEntry) (w : World) (hg : g + 1 < w.heap.size) (hc : w.cell? ⟨g, 0, none⟩ = some (.slice none 0 0)) (hz : w.frozen? ⟨g, 0, none⟩ = false) (hd : w.cell? ⟨g + 1, 0, none⟩ = some (.int .i64 0)) (hy : w.frozen? ⟨g + 1, 0, none⟩ = false) :
    CallsD Try.prog 17 #[.pointer (some ⟨g, 0, none⟩), .pointer (some ⟨g + 1, 0, none⟩)] (.panicking ({ v := .iface 43 (.agg #[erW po]), recovered := false } :: older)) w fun e u' w' =>
      e = .returned (.tuple #[]) ∧ u' = .panicking ({ v := .iface 43 (.agg #[erW po]), recovered := true } :: older) ∧ ∃ oo, w' = ((w.setCell ⟨g, 0, none⟩ (.slice none 0 0)).setCell ⟨g + 1, 0, none⟩ (.int .i64 4)).alloc oo := by
  refine callsD_of_wpS Try.func17 rfl fun c₀ cs hu => ?_
  rw [frame17]
  apply wpS_seq
  apply wpS_region
  simp [wpOpsS, go_sem, recoverD, hu, Exit.thenS]
  refine wpS_of_wp ?_
  have hta := run_form (erW po)
  have hg1 : g < w.heap.size := by omega
  go_wp2
  cases c₀
  simp_all [bodyPostS, results, Try.results17]
  exact ⟨_, rfl⟩

/-- A block of one cell. -/
def Bk (w : World) (b : Nat) (v : Value) (t : TypeId) : Prop := w.heap[b]? = some (.cells #[v] t (0, 0))
theorem Bk.cell {w : World} {b : Nat} {v : Value} {t : TypeId} (h : Bk w b v t) : w.cell? ⟨b, 0, none⟩ = some v := by
  unfold Bk at h; simp [World.cell?, h]
theorem Bk.free {w : World} {b : Nat} {v : Value} {t : TypeId} (h : Bk w b v t) : w.frozen? ⟨b, 0, none⟩ = false := by
  unfold Bk at h; simp [World.frozen?, h]
theorem Bk.lt {w : World} {b : Nat} {v : Value} {t : TypeId} (h : Bk w b v t) : b < w.heap.size := by
  unfold Bk at h; rw [Array.getElem?_eq_some_iff] at h; exact h.1
theorem Bk.new (w : World) (v : Value) (t : TypeId) : Bk (w.alloc (.cells #[v] t)) w.heap.size v t := heap_alloc_new w _
theorem Bk.alloc {w : World} {b : Nat} {v : Value} {t : TypeId} (h : Bk w b v t) (o : Obj) : Bk (w.alloc o) b v t := (Below.heap_alloc w o b h.lt).trans h
theorem Bk.bel {w w' : World} {b n : Nat} {v : Value} {t : TypeId} (h : Bk w b v t) (hb : Below n w w') (hn : b < n) : Bk w' b v t := (hb.block b hn).trans h
theorem Bk.set {w : World} {b : Nat} {v : Value} {t : TypeId} (h : Bk w b v t) (v' : Value) : Bk (w.setCell ⟨b, 0, none⟩ v') b v' t := by
  unfold Bk at *; simp [World.setCell, Array.getElem?_modify, h]
theorem Bk.other {w : World} {b g : Nat} {v : Value} {t : TypeId} (h : Bk w b v t) (v' : Value) (hne : b ≠ g) : Bk (w.setCell ⟨g, 0, none⟩ v') b v t := (Below.heap_setCell w _ v' b hne).trans h

/-- What Line hands back. -/
def lineL (s : ByteArray) : List Tok × Int := if 2000 < s.size ∨ hasLF s = true then ([], 1) else match lineM s with | some l => (l, 0) | none => ([], 4)
def LinePost (w : World) (l : List Tok) (k : Int) (e : Ending) (w' : World) : Prop := ∃ v, e = .returned (.tuple #[v, .int .i64 k]) ∧ w'.ownsRow w.heap.size 28 3 v l.length (cellsOf l) ∧ Below w.heap.size w w'
theorem LF_calls (s : ByteArray) (w : World) : Calls Try.prog 16 #[.string s, .string ⟨#[10]⟩] w fun e w' => e = .returned (.bool (hasLF s)) ∧ w = w' := by
  refine (Try.strings_Contains_one s 10 w).mono ?_
  rintro e w' ⟨rfl, rfl⟩
  refine ⟨?_, rfl⟩
  have h := index_whole s 10 (by decide)
  rw [show (UInt8.ofNat 10) = 10 from rfl] at h
  rw [h]
  unfold hasLF
  by_cases hf : findB s 0 10 < s.size
  · rw [if_pos hf, decide_eq_true hf, decide_eq_true (by omega)]
  · rw [if_neg hf, decide_eq_false hf]; rfl
/-- The two results' cells. -/
structure Two (w W : World) (v : Value) (k : Int) : Prop where
  r : Bk W w.heap.size v 23
  e : Bk W (w.heap.size + 1) (.int .i64 k) 24
  bel : Below w.heap.size w W
theorem Two.new (w : World) : Two w ((w.alloc (.cells #[.slice none 0 0] 23)).alloc (.cells #[.int .i64 0] 24)) (.slice none 0 0) 0 := by
  refine ⟨(Bk.new w _ _).alloc _, ?_, ((Below.refl _ w).alloc (Nat.le_refl _) _).alloc (by simp) _⟩
  have := Bk.new (w.alloc (.cells #[.slice none 0 0] 23)) (.int .i64 0) 24
  simpa using this
theorem Two.setR {w W : World} {v : Value} {k : Int} (h : Two w W v k) (v' : Value) : Two w (W.setCell ⟨w.heap.size, 0, none⟩ v') v' k :=
  ⟨h.r.set v', h.e.other v' (by omega), h.bel.setCell (Nat.le_refl _) _⟩
theorem Two.setE {w W : World} {v : Value} {k : Int} (h : Two w W v k) (k' : Int) : Two w (W.setCell ⟨w.heap.size + 1, 0, none⟩ (.int .i64 k')) v k' :=
  ⟨h.r.other _ (by omega), h.e.set _, h.bel.setCell (by show w.heap.size ≤ w.heap.size + 1; omega) _⟩
theorem Two.below {w W W' : World} {v : Value} {k : Int} (h : Two w W v k) (hb : Below (w.heap.size + 2) W W') : Two w W' v k :=
  ⟨h.r.bel hb (by omega), h.e.bel hb (by omega), h.bel.trans (hb.mono (by omega))⟩
theorem Two.alloc {w W : World} {v : Value} {k : Int} (h : Two w W v k) (o : Obj) : Two w (W.alloc o) v k :=
  ⟨h.r.alloc o, h.e.alloc o, h.bel.alloc h.bel.size o⟩
set_option maxRecDepth 100000 in
set_option maxHeartbeats 2000000 in
theorem Line_long (s : ByteArray) (w : World) (h : 2000 < s.size) : Calls Try.prog 8 #[.string s] w (LinePost w [] 1) := by
  have hmf : ∀ (fn : Fn) (first cap : Array Value) (w : World), (Instr.makeFunc fn first cap).run Try.prog w = .ok (.func fn first cap) w := fun _ _ _ _ => rfl
  have d1 : decide ((2000 : Int) < s.size) = true := decide_eq_true (by omega)
  go_enter_defers Try.func8, Try.ntmps8
  go_wp2
  have t := ((Two.new w).setR (.slice none 0 0)).setE 1
  have r0 := t.r.cell
  have r1 := t.e.cell
  have tb := t.bel
  simp [bodyPostD, Leaves, settle, results, Try.results8, go_sem, r0, r1]
  exact ⟨_, rfl, World.ownsRow_nil _ _ _ _, ((Below.refl _ w).alloc (Nat.le_refl _) _).alloc (by simp) _⟩
set_option maxRecDepth 100000 in
set_option maxHeartbeats 2000000 in
theorem Line_LF (s : ByteArray) (w : World) (h : ¬ 2000 < s.size) (hf : hasLF s = true) : Calls Try.prog 8 #[.string s] w (LinePost w [] 1) := by
  have hmf : ∀ (fn : Fn) (first cap : Array Value) (w : World), (Instr.makeFunc fn first cap).run Try.prog w = .ok (.func fn first cap) w := fun _ _ _ _ => rfl
  have d1 : decide ((2000 : Int) < s.size) = false := decide_eq_false (by omega)
  have HL := Lib.hid (fun W => LF_calls s W)
  rw [hf] at HL
  go_enter_defers Try.func8, Try.ntmps8
  go_wp2_with fail
  refine (HL.out _).mono ?_
  rintro e w1 ⟨rfl, rfl⟩
  go_wp2
  have t := ((Two.new w).setR (.slice none 0 0)).setE 1
  have r0 := t.r.cell
  have r1 := t.e.cell
  have tb := t.bel
  simp [bodyPostD, Leaves, settle, results, Try.results8, go_sem, r0, r1]
  exact ⟨_, rfl, World.ownsRow_nil _ _ _ _, ((Below.refl _ w).alloc (Nat.le_refl _) _).alloc (by simp) _⟩
set_option maxRecDepth 100000 in
set_option maxHeartbeats 4000000 in
theorem Line_ok (s : ByteArray) (w : World) (h : ¬ 2000 < s.size) (hf : hasLF s = false) (l : List Tok) (ho : lineM s = some l) : Calls Try.prog 8 #[.string s] w (LinePost w l 0) := by
  have hmf : ∀ (fn : Fn) (first cap : Array Value) (w : World), (Instr.makeFunc fn first cap).run Try.prog w = .ok (.func fn first cap) w := fun _ _ _ _ => rfl
  have d1 : decide ((2000 : Int) < s.size) = false := decide_eq_false (by omega)
  have HL := Lib.hid (fun W => LF_calls s W)
  rw [hf] at HL
  have Ho := Lib.hid ho
  have hs : s.size ≤ 100000 := by omega
  clear hf ho
  go_enter_defers Try.func8, Try.ntmps8
  go_wp2_with fail
  refine (HL.out _).mono ?_
  rintro e w1 ⟨rfl, hw⟩
  subst hw
  obtain ⟨W2, hW2⟩ : ∃ W, (w.alloc (.cells #[.slice none 0 0] 23)).alloc (.cells #[.int .i64 0] 24) = W := ⟨_, rfl⟩
  have t2 := Two.new w
  have hz2 : W2.heap.size = w.heap.size + 2 := by rw [← hW2]; simp
  rw [hW2] at t2
  have hrd : Rd (W2.alloc (.cells #[.string s, .slice none 0 0] 47)) W2.heap.size (w.heap.size + 2) (.slice none 0 0) s [] :=
    ⟨heap_alloc_new W2 _, World.ownsRow_nil _ _ _ _, by omega⟩
  rw [hz2] at hrd
  have hC := line_calls _ _ _ _ s hrd hs
  rw [Ho.out] at hC
  have t3 := t2.alloc (.cells #[.string s, .slice none 0 0] 47)
  have HC := Lib.hid hC
  have HW := Lib.hid hW2
  clear hC hW2
  go_wp2_with (go_at_call 18; rw [HW.out]; (with_reducible refine HC.out.mono ?_); rintro e w5 ⟨rfl, ⟨v5, R5, h5⟩, b5⟩; have t5 := t3.below b5; obtain ⟨q0, q1, q2, q3, q4⟩ := h5.cells; obtain ⟨A5, n5, rfl⟩ := own_slice h5.own; have q5 := t5.r.cell; have q6 := t5.r.free; have q7 := t5.e.cell; have q8 := t5.e.free)
  have t6 := (t5.setR (.slice A5 l.length n5)).setE 0
  refine leaves_cons (f := 17) (args := #[.pointer (some ⟨w.heap.size, 0, none⟩), .pointer (some ⟨w.heap.size + 1, 0, none⟩)]) (by simp) (by simp [go_sem]) ?_
  refine (catch_idle _ _ _).mono ?_
  rintro e u' w'' ⟨rfl, rfl, rfl⟩
  have r0 := t6.r.cell
  have r1 := t6.e.cell
  have tb := t6.bel
  have hown := own_weaken h5.own (show w.heap.size ≤ w.heap.size + 2 by omega)
  have hn0 : some w.heap.size ≠ (Value.slice A5 l.length n5).ownBlock := own_ne h5.own t5.r (by decide)
  have hn1 : some (w.heap.size + 1) ≠ (Value.slice A5 l.length n5).ownBlock := own_ne h5.own t5.e (by decide)
  have hown6 := own_move (own_move hown fun k hk => Below.heap_setCell w5 ⟨w.heap.size, 0, none⟩ (.slice A5 l.length n5) k (by rintro rfl; exact hn0 hk.symm)) fun k hk => Below.heap_setCell _ ⟨w.heap.size + 1, 0, none⟩ (.int .i64 0) k (by rintro rfl; exact hn1 hk.symm)
  simp [Leaves, settle, results, Try.results8, go_sem, r0, r1]
  exact ⟨_, rfl, hown6, tb⟩
set_option maxRecDepth 100000 in
set_option maxHeartbeats 4000000 in
theorem Line_bad (s : ByteArray) (w : World) (h : ¬ 2000 < s.size) (hf : hasLF s = false) (ho : lineM s = none) : Calls Try.prog 8 #[.string s] w (LinePost w [] 4) := by
  have hmf : ∀ (fn : Fn) (first cap : Array Value) (w : World), (Instr.makeFunc fn first cap).run Try.prog w = .ok (.func fn first cap) w := fun _ _ _ _ => rfl
  have d1 : decide ((2000 : Int) < s.size) = false := decide_eq_false (by omega)
  have HL := Lib.hid (fun W => LF_calls s W)
  rw [hf] at HL
  have Ho := Lib.hid ho
  have hs : s.size ≤ 100000 := by omega
  clear hf ho
  go_enter_defers Try.func8, Try.ntmps8
  go_wp2_with fail
  refine (HL.out _).mono ?_
  rintro e w1 ⟨rfl, hw⟩
  subst hw
  obtain ⟨W2, hW2⟩ : ∃ W, (w.alloc (.cells #[.slice none 0 0] 23)).alloc (.cells #[.int .i64 0] 24) = W := ⟨_, rfl⟩
  have t2 := Two.new w
  have hz2 : W2.heap.size = w.heap.size + 2 := by rw [← hW2]; simp
  rw [hW2] at t2
  have hrd : Rd (W2.alloc (.cells #[.string s, .slice none 0 0] 47)) W2.heap.size (w.heap.size + 2) (.slice none 0 0) s [] :=
    ⟨heap_alloc_new W2 _, World.ownsRow_nil _ _ _ _, by omega⟩
  rw [hz2] at hrd
  have hC := line_calls _ _ _ _ s hrd hs
  rw [Ho.out] at hC
  have t3 := t2.alloc (.cells #[.string s, .slice none 0 0] 47)
  have HC := Lib.hid hC
  have HW := Lib.hid hW2
  clear hC hW2
  go_wp2_with (go_at_call 18; rw [HW.out]; (with_reducible refine HC.out.mono ?_); rintro e w5 ⟨po, rfl, b5⟩; have t5 := t3.below b5)
  refine leaves_cons (f := 17) (args := #[.pointer (some ⟨w.heap.size, 0, none⟩), .pointer (some ⟨w.heap.size + 1, 0, none⟩)]) (by simp) (by simp [go_sem]) ?_
  refine (catch_panicking _ po [] _ t5.e.lt t5.r.cell t5.r.free t5.e.cell t5.e.free).mono ?_
  rintro e u' w'' ⟨rfl, rfl, oo, rfl⟩
  have t6 := ((t5.setR (.slice none 0 0)).setE 4).alloc oo
  have r0 := t6.r.cell
  have r1 := t6.e.cell
  have tb := t6.bel
  simp [Leaves, settle, results, Try.results8, go_sem, r0, r1]
  exact ⟨_, rfl, World.ownsRow_nil _ _ _ _, tb⟩
theorem Line_calls (s : ByteArray) (w : World) : Calls Try.prog 8 #[.string s] w (LinePost w (lineL s).1 (lineL s).2) := by
  unfold lineL
  by_cases h : 2000 < s.size
  · rw [if_pos (.inl h)]; exact Line_long s w h
  · rcases hf : hasLF s with _ | _
    · rw [if_neg (by rintro (h' | h'); exact h h'; cases h')]
      rcases ho : lineM s with _ | l
      · exact Line_bad s w h hf ho
      · exact Line_ok s w h hf l ho
    · rw [if_pos (.inr rfl)]; exact Line_LF s w h hf
end Go.Proofs.Ytaokofnhkojllaa

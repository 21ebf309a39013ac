/- Walks of layer 1's reader: reckon, catch. -/
import Derived.Test.YtkomofphgnekoaaDoorWalkF
import Derived.Defers
import Derived.Recover
import Derived.Laws.Pointers
set_option linter.unusedVariables false
set_option linter.unusedSimpArgs false
namespace Go.Proofs.YtkomofphgnekoaaDoor
open Go.Shelf Go.RowKit Go.Lib Go.Aids Go.MapLit

set_option maxRecDepth 100000 in
set_option maxHeartbeats 1000000 in
theorem reckon_calls (w : World) (b a : Nat) (c : Cx) (op : ByteArray) (x y : Int) (h : Rd w b c a) (hop : op ∈ ops) (hx : -1000000000 ≤ x ∧ x ≤ 1000000000) (hy : -1000000000 ≤ y ∧ y ≤ 1000000000) :
    Calls Tryd.prog 37 #[.pointer (some ⟨b, 0, none⟩), .string op, .int .i64 x, .int .i64 y] w fun e w' => w' = w ∧ Ends (reckonO c op x y a) e := by
  unfold reckonO
  rcases hm : c.mute with _ | _
  · rw [if_neg (by simp)]
    by_cases hz : (op = ⟨#[47]⟩ ∨ op = ⟨#[37]⟩) ∧ y = 0
    · rw [if_pos hz]
      obtain ⟨hz1, rfl⟩ := hz
      obtain ⟨-, -, -, -, -, -, -, h7, -⟩ := h.cells
      rw [hm] at h7
      rcases hz1 with rfl | rfl
      all_goals
        go_enter Tryd.func37, Tryd.ntmps37
        go_wp2
        exact ⟨rfl, rfl, rfl⟩
    · rw [if_neg hz]
      exact reckon_live w b a c op x y h hop hx hy hm hz
  · rw [if_pos rfl]
    obtain ⟨-, -, -, -, -, -, -, h7, -⟩ := h.cells
    rw [hm] at h7
    go_enter Tryd.func37, Tryd.ntmps37
    go_wp2
    go_ret
    exact ⟨rfl, rfl⟩

theorem frame27 (v : Value) : #[v] ++ Array.replicate (Tryd.f32.ntmps - #[v].size) undef = #[v, undef, undef, undef, undef, undef, undef, undef, undef, undef, undef, undef, undef, undef, undef] := by rw [Tryd.ntmps32]; rfl

theorem catch_idle (p : Addr) (w : World) :
    CallsD Tryd.prog 32 #[.pointer (some p)] .returning w fun e u' w' => e = .returned (.tuple #[]) ∧ u' = .returning ∧ w' = w := by
  refine callsD_of_wpS Tryd.func32 rfl fun c₀ cs hu => ?_
  rw [frame27]
  apply wpS_seq
  apply wpS_region
  simp [wpOpsS, go_sem, recoverD, hu, Exit.thenS]
  refine wpS_of_wp ?_
  go_wp2
  cases c₀
  simp_all [bodyPostS, results, Tryd.results32]

theorem run_fail (k : Int) (W : World) : (Instr.typeAssert (.iface 73 (.agg #[.int .i64 k])) 20 73 true).run Tryd.prog W = .ok (.tuple #[.agg #[.int .i64 k], .bool true]) W := by
  simp [Instr.typeAssert, run_underlying Tryd.underlying73, go_sem, Result.andThen]
set_option maxHeartbeats 1000000 in
theorem catch_panicking (g : Nat) (x k : Int) (older : List PanicEntry) (w : World) (hg : g < w.heap.size) (hc : w.cell? ⟨g, 0, none⟩ = some (.int .i64 x)) (hz : w.frozen? ⟨g, 0, none⟩ = false) :
    CallsD Tryd.prog 32 #[.pointer (some ⟨g, 0, none⟩)] (.panicking ({ v := .iface 73 (.agg #[.int .i64 k]), recovered := false } :: older)) w fun e u' w' =>
      e = .returned (.tuple #[]) ∧ u' = .panicking ({ v := .iface 73 (.agg #[.int .i64 k]), recovered := true } :: older) ∧ ∃ o, w' = (w.setCell ⟨g, 0, none⟩ (.int .i64 k)).alloc o := by
  refine callsD_of_wpS Tryd.func32 rfl fun c₀ cs hu => ?_
  rw [frame27]
  apply wpS_seq
  apply wpS_region
  simp [wpOpsS, go_sem, recoverD, hu, Exit.thenS]
  refine wpS_of_wp ?_
  have hta := run_fail k
  go_wp2
  cases c₀
  simp_all [bodyPostS, results, Tryd.results32]
  exact ⟨_, rfl⟩

theorem fits1_calls (e r : Nat) (x : Int) (t : Bool) (u : FrameMode) (w : World) (he : w.cell? ⟨e, 0, none⟩ = some (.int .i64 x)) (hr : w.cell? ⟨r, 0, none⟩ = some (.bool t)) (hz : w.frozen? ⟨r, 0, none⟩ = false) :
    CallsD Tryd.prog 48 #[.pointer (some ⟨e, 0, none⟩), .pointer (some ⟨r, 0, none⟩)] u w fun en u' w' => u' = u ∧ en = .returned (.tuple #[]) ∧ w' = w.setCell ⟨r, 0, none⟩ (.bool (decide (x = 0))) := by
  go_enter_d Tryd.func48, Tryd.ntmps48
  go_wp2
  go_end0
  exact ⟨rfl, rfl⟩
theorem whole1_calls (e r : Nat) (x y : Int) (u : FrameMode) (w : World) (he : w.cell? ⟨e, 0, none⟩ = some (.int .i64 x)) (hr : w.cell? ⟨r, 0, none⟩ = some (.int .i64 y)) (hz : w.frozen? ⟨r, 0, none⟩ = false) :
    CallsD Tryd.prog 31 #[.pointer (some ⟨e, 0, none⟩), .pointer (some ⟨r, 0, none⟩)] u w fun en u' w' => u' = u ∧ en = .returned (.tuple #[]) ∧ w' = if x = 0 then w else w.setCell ⟨r, 0, none⟩ (.int .i64 0) := by
  by_cases hx : x = 0
  · rw [if_pos hx]
    go_enter_d Tryd.func31, Tryd.ntmps31
    go_wp2
    go_end0
    exact ⟨rfl, rfl⟩
  · rw [if_neg hx]
    go_enter_d Tryd.func31, Tryd.ntmps31
    go_wp2
    go_end0
    exact ⟨rfl, rfl⟩

/-- A variable of one cell. -/
def Bk (w : World) (b : Nat) (v : Value) (t : TypeId) : Prop := w.heap[b]? = some (.cells #[v] t (0, 0))
theorem Bk.cell {w : World} {b : Nat} {v : Value} {t : TypeId} (h : Bk w b v t) : w.cell? ⟨b, 0, none⟩ = some v := by
  unfold Bk at h; simp [World.cell?, h]
theorem Bk.free {w : World} {b : Nat} {v : Value} {t : TypeId} (h : Bk w b v t) : w.frozen? ⟨b, 0, none⟩ = false := by
  unfold Bk at h; simp [World.frozen?, h]
theorem Bk.lt {w : World} {b : Nat} {v : Value} {t : TypeId} (h : Bk w b v t) : b < w.heap.size := by
  unfold Bk at h; rw [Array.getElem?_eq_some_iff] at h; exact h.1
theorem Bk.new (w : World) (v : Value) (t : TypeId) : Bk (w.alloc (.cells #[v] t)) w.heap.size v t := heap_alloc_new w _
theorem Bk.alloc {w : World} {b : Nat} {v : Value} {t : TypeId} (h : Bk w b v t) (o : Obj) : Bk (w.alloc o) b v t := (Below.heap_alloc w o b h.lt).trans h
theorem Bk.kp {w w' : World} {b r : Nat} {v : Value} {t : TypeId} (h : Bk w b v t) (hk : Kp r w w') (hne : b ≠ r) : Bk w' b v t := (hk.block b h.lt hne).trans h
theorem Bk.set {w : World} {b : Nat} {v : Value} {t : TypeId} (h : Bk w b v t) (v' : Value) : Bk (w.setCell ⟨b, 0, none⟩ v') b v' t := by
  unfold Bk at *; simp [World.setCell, Array.getElem?_modify, h]
theorem Bk.other {w : World} {b g : Nat} {v : Value} {t : TypeId} (h : Bk w b v t) (v' : Value) (hne : b ≠ g) : Bk (w.setCell ⟨g, 0, none⟩ v') b v t := (Below.heap_setCell w _ v' b hne).trans h
theorem Rd.new (w : World) (c : Cx) (a : Nat) : Rd (w.alloc (.cells #[.string c.s, .int .i64 a, .int .u8 c.scale, .int .i64 c.size, .int .i64 c.vs, .int .i64 c.here, .map (some c.m), .bool c.mute] 52)) w.heap.size c a := ⟨heap_alloc_new w _⟩
theorem MapIs.lt {w : World} {m : Nat} {l : SS} (h : MapIs eK eV w m l) : m < w.heap.size := by
  have h' : w.heap[m]? = some _ := h
  rw [Array.getElem?_eq_some_iff] at h'; exact h'.1
/-- .. where all below a size that is no more than the block. -/
theorem Below.of_kp {w w1 w2 : World} {n b : Nat} (h : Below n w w1) (hk : Kp b w1 w2) (hb : n ≤ b) (hn : n ≤ w1.heap.size) : Below n w w2 :=
  ⟨hk.os.trans h.os, hk.tape.trans h.tape, hk.output.trans h.output, Nat.le_trans h.size hk.size, fun k hk' => (hk.block k (Nat.lt_of_lt_of_le hk' hn) (by omega)).trans (h.block k hk')⟩

def isOk : Out → Bool
  | .ok _ _ => true
  | _ => false

set_option maxHeartbeats 2000000 in
/-- fits, over a contract of operand at any block. -/
theorem fits_calls (w : World) (b a : Nat) (c : Cx) (o : Out) (h : St w b c a)
    (H : ∀ (w : World) (b : Nat), St w b c a → Calls Tryd.prog 33 #[.pointer (some ⟨b, 0, none⟩), .int .i64 0] w (Post b c w o)) (ho : o ≠ .stuck) (hk0 : ∀ k, o = .die k → k ≠ 0) :
    Calls Tryd.prog 36 #[.pointer (some ⟨b, 0, none⟩)] w fun e w' => e = .returned (.bool (isOk o)) ∧ Below w.heap.size w w' := by
  have hmf : ∀ (fn : Fn) (first cap : Array Value) (w : World), (Instr.makeFunc fn first cap).run Tryd.prog w = .ok (.func fn first cap) w := fun _ _ _ _ => rfl
  obtain ⟨h0, h1, h2, h3, h4, h5, h6, h7, hf⟩ := h.rd.cells
  have hb := h.rd.lt
  obtain ⟨W3, hW3⟩ : ∃ W, W = ((w.alloc (.cells #[.bool false] 4)).alloc (.cells #[.string c.s, .int .i64 a, .int .u8 c.scale, .int .i64 c.size, .int .i64 c.vs, .int .i64 c.here, .map (some c.m), .bool c.mute] 52)).alloc (.cells #[.int .i64 0] 25) := ⟨_, rfl⟩
  have hbel : Below w.heap.size w W3 := by rw [hW3]; exact (((Below.refl _ w).alloc (Nat.le_refl _) _).alloc (by simp) _).alloc (by simp; omega) _
  have hB0 : Bk W3 w.heap.size (.bool false) 4 := by rw [hW3]; exact ((Bk.new w _ _).alloc _).alloc _
  have hB2 : Bk W3 (w.heap.size + 1 + 1) (.int .i64 0) 25 := by
    rw [hW3]
    have := Bk.new ((w.alloc (.cells #[.bool false] 4)).alloc (.cells #[.string c.s, .int .i64 a, .int .u8 c.scale, .int .i64 c.size, .int .i64 c.vs, .int .i64 c.here, .map (some c.m), .bool c.mute] 52)) (.int .i64 0) 25
    simpa using this
  have hsz : W3.heap.size = w.heap.size + 3 := by rw [hW3]; simp
  have hSt : St W3 (w.heap.size + 1) c a := by
    refine ⟨?_, Go.MapLit.MapIs.below eK eV h.mp hbel, ?_⟩
    · rw [hW3]
      have := (Rd.new (w.alloc (.cells #[.bool false] 4)) c a).below ((Below.refl _ _).alloc (Nat.le_refl _) (.cells #[.int .i64 0] 25))
      simpa using this
    · have := MapIs.lt h.mp; omega
  have HC := Lib.hid (H W3 (w.heap.size + 1) hSt)
  clear H
  have HW3 := Lib.hid hW3.symm
  clear hW3
  rcases o with ⟨n, t⟩ | k | _
  · go_enter_defers Tryd.func36, Tryd.ntmps36
    go_wp2_with (go_at_call 33; rw [HW3.out]; (with_reducible refine HC.out.mono ?_); rintro e w4 ⟨rfl, hk4, hrd4⟩; have c0 := (hB0.kp hk4 (by omega)).cell; have f0 := (hB0.kp hk4 (by omega)).free)
    have e4 := hB2.kp hk4 (by omega)
    have o4 := hB0.kp hk4 (by omega)
    have o5 := o4.set (.bool true)
    have e5 := e4.other (g := w.heap.size) (.bool true) (by omega)
    refine leaves_cons (f := 32) (args := #[.pointer (some ⟨w.heap.size + 1 + 1, 0, none⟩)]) (by simp) (by simp [go_sem]) ?_
    refine (catch_idle _ _).mono ?_
    rintro e u' w'' ⟨rfl, rfl, rfl⟩
    refine leaves_cons (f := 48) (args := #[.pointer (some ⟨w.heap.size + 1 + 1, 0, none⟩), .pointer (some ⟨w.heap.size, 0, none⟩)]) (by simp [settle]) (by simp [go_sem]) ?_
    refine (fits1_calls _ _ 0 true _ _ e5.cell o5.cell o5.free).mono ?_
    rintro e u' w'' ⟨rfl, rfl, rfl⟩
    have c6 := (o5.set (.bool true)).cell
    have hB : Below w.heap.size w ((w4.setCell ⟨w.heap.size, 0, none⟩ (.bool true)).setCell ⟨w.heap.size, 0, none⟩ (.bool true)) := ((Below.of_kp hbel hk4 (by omega) (by omega)).setCell (Nat.le_refl _) _).setCell (Nat.le_refl _) _
    simp [Leaves, settle, results, Tryd.results36, go_sem, c6]
    exact ⟨rfl, hB⟩
  · go_enter_defers Tryd.func36, Tryd.ntmps36
    go_wp2_with (go_at_call 33; rw [HW3.out]; (with_reducible refine HC.out.mono ?_); rintro e w4 ⟨rfl, hk4⟩)
    have hk0' := hk0 k rfl
    have e4 := hB2.kp hk4 (by omega)
    have o4 := hB0.kp hk4 (by omega)
    refine leaves_cons (f := 32) (args := #[.pointer (some ⟨w.heap.size + 1 + 1, 0, none⟩)]) (by simp) (by simp [go_sem]) ?_
    refine (catch_panicking _ 0 k [] _ e4.lt e4.cell e4.free).mono ?_
    rintro e u' w'' ⟨rfl, rfl, oo, rfl⟩
    have e5 := (e4.set (.int .i64 k)).alloc oo
    have o5 := (o4.other (g := w.heap.size + 1 + 1) (.int .i64 k) (by omega)).alloc oo
    refine leaves_cons (f := 48) (args := #[.pointer (some ⟨w.heap.size + 1 + 1, 0, none⟩), .pointer (some ⟨w.heap.size, 0, none⟩)]) (by simp [settle]) (by simp [go_sem]) ?_
    refine (fits1_calls _ _ k false _ _ e5.cell o5.cell o5.free).mono ?_
    rintro e u' w'' ⟨rfl, rfl, rfl⟩
    have c6 := (o5.set (.bool (decide (k = 0)))).cell
    have hb4 : Below w.heap.size w w4 := Below.of_kp hbel hk4 (by omega) (by omega)
    have hs4 := hk4.size
    have hB := ((hb4.setCell (p := ⟨w.heap.size + 1 + 1, 0, none⟩) (by show w.heap.size ≤ w.heap.size + 1 + 1; omega) (.int .i64 k)).alloc (by simp; omega) oo).setCell (p := ⟨w.heap.size, 0, none⟩) (Nat.le_refl _) (.bool (decide (k = 0)))
    simp [Leaves, settle, results, Tryd.results36, go_sem, c6]
    exact ⟨by simp [hk0', isOk], hB⟩
  · exact absurd rfl ho
end Go.Proofs.YtkomofphgnekoaaDoor

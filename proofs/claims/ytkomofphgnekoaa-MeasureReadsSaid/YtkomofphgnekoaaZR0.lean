/- Merged: Aids, Model, WalkA, MapLit, WalkB, WalkC, WalkD, WalkE, WalkF, WalkG, WalkH, WalkI, WalkJ, WalkK, WalkL, PureA, WalkM, Digits, PureB, WalkN, PureC, Opens, Kinds, RefA, RefB, RefC, RefD. -/
import Derived.Test.YtkomofphgnekoaaWWords
import Derived.Lib.ConvBytes
import Derived.Test.YtkomofphgnekoaaShelf
import Derived.WalkKit
import Derived.WalkSpells
import Derived.WalkLawsBesides
import Derived.Deep.QuietTactic
import Derived.StillTailTactics
import Derived.LoopTactic
import Derived.LoopN
import Derived.Lib.Hide
import Derived.Deep.LoopGhost
import Derived.Maps.RangeRun
import Derived.Maps.RangeWalk
import Derived.Deep.DeepCutAuto
import Derived.BigQuiet
import Derived.Defers
import Derived.Recover
import Derived.Laws.Pointers
import Derived.Test.YtkomofphgnekoaaPDigitsx1
import Derived.Deep.Slices
import Derived.OpenShut
import Derived.Test.YtkomofphgnekoaaPskipx1
import Derived.Test.YtkomofphgnekoaaPoperatorx1
import Derived.Test.YtkomofphgnekoaaPreckonx1
import Derived.Test.YtkomofphgnekoaaPNumberx3
set_option linter.unusedVariables false
set_option linter.unusedSimpArgs false
namespace Go.Aids
open Go.RowKit Go.Proofs.YtkomofphgnekoaaW.PrintWords
section
variable {P : Program} {ops : Array Oper} {rest : List Oper} {o : Oper} {a : Act} {Q : Exit → Act → World → Prop}
/-- append(v, x), x of one cell or several; behind 'at_builtin'. B: the number of the variadic's block. -/
theorem append_cells {w0 W : World} (base : Nat) (hgd : o.guard = none) (s x : Operand) (t e : TypeId) (z : Value) (size bytes B : Nat)
    (ho : o.op = .call { callee := .builtin .append, args := #[s, x], argTypes := #[t, t] })
    (ht : P.underlying t = some (.slice e)) (hinfo : (P.info? e).map (fun i => (i.zero, i.size, i.bytes)) = some (some z, size, bytes)) (hz : z.cells.size = size) (hs0 : 0 < size) (hb0 : 0 < bytes)
    (v : Value) (n : Nat) (xs ys : List Value) (hs : a.eval s = v) (hx : a.eval x = .slice (some ⟨B, 0, none⟩) 1 1) (hB : W.heap.size = B) (hys : ys.length = size) (h1 : ∀ u ∈ ys, u.oneCell' = true)
    (HO : W.ownsRow base e size v n xs) (HB : Below base w0 W) (hbase : base ≤ W.heap.size) (hl : (n + 1) * bytes ≤ 140737488355328)
    (h : ∀ v1 w1, w1.ownsRow base e size v1 (n + 1) (xs ++ ys) → Below base w0 w1 → W.grownBy w1 v.ownBlock → (v1.ownBlock = v.ownBlock ∨ ∃ b, v1.ownBlock = some b ∧ W.heap.size ≤ b) → wpList P ops Q rest (a.put o.dst v1) w1) :
    wpList P ops Q (o :: rest) a (W.alloc (.cells ys.toArray e)) := by
  subst hB
  exact print_append_cells base hgd s x t e z size bytes ho ht hinfo hz hs0 hb0 v n xs ys hs hx hys h1 HO HB hbase hl h

/-- '[]byte(s)': a new row that holds the bytes. -/
theorem wpList_bytes {w : World} (hg : o.guard = none) (x : Operand) (src dst e : TypeId) (hop : o.op = Op.convert src dst x) (hs : P.underlying src = some .string) (hd : P.underlying dst = some (.slice e)) (he : P.underlying e = some (.int .u8))
    (s : ByteArray) (hx : a.eval x = .string s)
    (hK : ∀ (w1 : World) (c : Nat), Below w.heap.size w w1 → w1.heap.size = w.heap.size + 1 → (∀ j, j < s.size → w1.cell? ⟨w.heap.size, j, none⟩ = some (.int .u8 (s.data.toList.getD j 0).toNat)) → wpList P ops Q rest (a.put o.dst (.slice (some ⟨w.heap.size, 0, none⟩) s.size c)) w1) :
    wpList P ops Q (o :: rest) a w := by
  refine wpList_plain hg fun K' hK' => ?_
  unfold Oper.wp
  have hrun := Go.Lib.run_convert_string_bytes (P := P) w src dst e s hs hd he
  simp only [execOp, hop, hx, Sem.run_bind, Sem.run_pure]
  rw [hrun]
  refine hK' _ _ (hK (Go.Lib.bytesWorld w e s) (grownCap w s.size 0 e) ⟨rfl, rfl, rfl, ?_, ?_⟩ (Go.Lib.bytesWorld_size w e s) fun j hj => Go.Lib.bytesWorld_cell w e s j hj)
  · rw [Go.Lib.bytesWorld_size]; omega
  · exact fun k hk => Go.Lib.bytesWorld_at_old w e s k hk
end
theorem run_cut {P : Program} (t : TypeId) (ht : P.underlying t = some .string) (s : ByteArray) (k : IntKind) (i j : Int) (h0 : 0 ≤ i) (h1 : i ≤ j) (h2 : j ≤ s.size) (W : World) :
    (Instr.slice t (.string s) (some (.int k i)) (some (.int k j)) none).run P W = .ok (.string (s.extract i.toNat j.toNat)) W := by
  have e1 := run_sliceBound (P := P) (w := W) k j s.size .sliceAlen (by omega) (by omega)
  have e2 := run_sliceBound (P := P) (w := W) k i j.toNat .sliceB (by omega) (by omega)
  simp [Instr.slice, run_underlying ht, Instr.sliceBounds, e1, e2, Result.andThen]
theorem belowN {B : Nat} {w W : World} (h : Below B w W) (n : Nat) : Below B w (W.drewN n) := ⟨h.os, h.tape, h.output, h.size, h.block⟩
theorem bcell {W w1 : World} (hb : Below W.heap.size W w1) : (∀ b o, b < W.heap.size → w1.cell? ⟨b, o, none⟩ = W.cell? ⟨b, o, none⟩) ∧ (∀ b o, b < W.heap.size → w1.frozen? ⟨b, o, none⟩ = W.frozen? ⟨b, o, none⟩) :=
  ⟨fun b o h => hb.cell (p := ⟨b, o, none⟩) h, fun b o h => hb.frozen (p := ⟨b, o, none⟩) h⟩
theorem take_snoc (s : ByteArray) (k : Nat) (h : k < s.size) : s.data.toList.take (k + 1) = s.data.toList.take k ++ [s[k]] := by
  rw [List.take_succ_eq_append_getElem (by simpa using h)]; rfl
end Go.Aids

set_option linter.unusedVariables false
set_option linter.unusedSimpArgs false
namespace Go.Proofs.Ytkomofphgnekoaa

/-- What does not turn while a text is read. -/
structure Cx where
  s : ByteArray
  scale : Nat
  size : Int
  vs : Int
  here : Int
  m : Nat
  mute : Bool

/-- The byte at a place, 0 at the end. -/
def pk (s : ByteArray) (a : Nat) : Nat := if h : a < s.size then s[a].toNat else 0
def skipF (s : ByteArray) : Nat → Nat → Nat
  | 0, a => a
  | k + 1, a => if pk s a = 32 then skipF s k (a + 1) else a
def skip (s : ByteArray) (deep a : Nat) : Nat := if 0 < deep then skipF s (s.size - a) a else a
def isDig (s : ByteArray) (a : Nat) : Prop := 48 ≤ pk s a ∧ pk s a ≤ 57
instance (s : ByteArray) (a : Nat) : Decidable (isDig s a) := by unfold isDig; infer_instance
/-- At most k digits, behind those that are read (n). -/
def rowF (s : ByteArray) : Nat → Nat → Nat → Nat × Nat
  | 0, n, a => (n, a)
  | k + 1, n, a => if isDig s a then rowF s k (n * 10 + (pk s a - 48)) (a + 1) else (n, a)
inductive Out where
  | ok (n : Int) (a : Nat)
  | die (e : Int)
  | stuck
def big (n : Int) : Prop := n < -1000000000 ∨ 1000000000 < n
instance (n : Int) : Decidable (big n) := by unfold big; infer_instance
def heldO (c : Cx) (n : Int) (a : Nat) : Out := if c.mute then .ok 0 a else if big n then .die 5 else .ok n a
/-- What one of a scale is. -/
def unitOf (c : Cx) (b : Nat) : Option Int :=
  if b = 117 then some 1 else if b = 112 then some 10 else if b = 80 then some 120 else if b = 105 then some 720 else if b = 99 then some 283
  else if b = 109 then some (10 * c.size) else if b = 110 then some (5 * c.size) else if b = 118 then some c.vs else none
def numberO (c : Cx) (a : Nat) : Out :=
  let r1 := rowF c.s 9 0 a
  let r2 := if pk c.s r1.2 = 46 then rowF c.s 9 0 (r1.2 + 1) else (0, r1.2 + 1)
  let places := r2.2 - (r1.2 + 1)
  let a2 := if places = 0 then r1.2 else r2.2
  if r1.2 = a ∧ places = 0 then .die 4
  else match unitOf c (pk c.s a2) with
    | some u => heldO c ((r1.1 : Int) * u + ((r2.1 : Int) * u).tdiv ((10 ^ places : Nat) : Int)) (a2 + 1)
    | none => heldO c ((r1.1 : Int) * ((unitOf c c.scale).getD 0) + ((r2.1 : Int) * ((unitOf c c.scale).getD 0)).tdiv ((10 ^ places : Nat) : Int)) a2
def pre (s p : ByteArray) (a : Nat) : Bool := Go.Lib.hasPrefix (s.data.toList.drop a) p.data.toList
def ops : List ByteArray := [⟨#[60, 61]⟩, ⟨#[62, 61]⟩, ⟨#[61, 61]⟩, ⟨#[43]⟩, ⟨#[45]⟩, ⟨#[42]⟩, ⟨#[47]⟩, ⟨#[37]⟩, ⟨#[60]⟩, ⟨#[62]⟩, ⟨#[61]⟩, ⟨#[38]⟩, ⟨#[58]⟩]
def operL (s : ByteArray) (a : Nat) : Option ByteArray := ops.find? (fun p => pre s p a)
def bitO (b : Bool) : Int := if b then 1 else 0
def reckonV (op : ByteArray) (x y : Int) : Int :=
  if op = ⟨#[43]⟩ then x + y else if op = ⟨#[45]⟩ then x - y else if op = ⟨#[42]⟩ then x * y else if op = ⟨#[47]⟩ then x.tdiv y else if op = ⟨#[37]⟩ then x.tmod y
  else if op = ⟨#[60]⟩ then bitO (decide (x < y)) else if op = ⟨#[62]⟩ then bitO (decide (x > y)) else if op = ⟨#[60, 61]⟩ then bitO (decide (x ≤ y)) else if op = ⟨#[62, 61]⟩ then bitO (decide (x ≥ y))
  else if op = ⟨#[61]⟩ ∨ op = ⟨#[61, 61]⟩ then bitO (decide (x = y)) else if op = ⟨#[38]⟩ then bitO (decide (x > 0) && decide (y > 0)) else bitO (decide (x > 0) || decide (y > 0))
def reckonO (c : Cx) (op : ByteArray) (x y : Int) (a : Nat) : Out :=
  if c.mute then .ok 0 a else if (op = ⟨#[47]⟩ ∨ op = ⟨#[37]⟩) ∧ y = 0 then .die 11 else heldO c (reckonV op x y) a
inductive Job where
  | oper (a deep : Nat)
  | expr (a deep : Nat)
  | loop (x : Int) (a deep : Nat)
def run (c : Cx) : Nat → Job → Out
  | 0, _ => .stuck
  | f + 1, .oper a0 deep =>
    let a := skip c.s deep a0
    let b := pk c.s a
    if b = 43 ∨ b = 45 ∨ b = 33 ∨ b = 124 then
      match run c f (.oper (a + 1) deep) with
      | .ok x t => if b = 45 then .ok (-x) t else if b = 33 ∧ 0 < x then .ok 0 t else if b = 33 then .ok 1 t else if b = 124 then heldO c (x - c.here) t else .ok x t
      | o => o
    else if b = 40 then
      if deep = 20 then .die 4
      else match run c f (.expr (a + 1) (deep + 1)) with
        | .ok x t => if pk c.s t = 41 then .ok x (t + 1) else .die 4
        | o => o
    else numberO c a
  | f + 1, .expr a deep =>
    match run c f (.oper a deep) with
    | .ok x t => run c f (.loop x t deep)
    | o => o
  | f + 1, .loop x a0 deep =>
    let a := skip c.s deep a0
    match operL c.s a with
    | none => .ok x a
    | some op =>
      match run c f (.oper (a + op.size) deep) with
      | .ok y t => match reckonO c op x y t with
        | .ok z t => run c f (.loop z t deep)
        | o => o
      | .die e => if deep = 0 ∧ c.mute then .ok x a else .die e
      | .stuck => .stuck
end Go.Proofs.Ytkomofphgnekoaa

set_option linter.unusedVariables false
set_option linter.unusedSimpArgs false
namespace Go.Proofs.Ytkomofphgnekoaa
open Go.Shelf Go.RowKit Go.Lib Go.Aids

/-- The reader lies in block b, at a place. -/
structure Rd (w : World) (b : Nat) (c : Cx) (a : Nat) : Prop where
  blk : w.heap[b]? = some (.cells #[.string c.s, .int .i64 a, .int .u8 c.scale, .int .i64 c.size, .int .i64 c.vs, .int .i64 c.here, .map (some c.m), .bool c.mute] 50 (0, 0))
/-- All but block b stays. -/
structure Kp (b : Nat) (w w' : World) : Prop where
  os : w'.os = w.os
  tape : w'.tape = w.tape
  output : w'.output = w.output
  size : w.heap.size ≤ w'.heap.size
  block : ∀ k, k < w.heap.size → k ≠ b → w'.heap[k]? = w.heap[k]?
theorem Kp.refl (b : Nat) (w : World) : Kp b w w := ⟨rfl, rfl, rfl, Nat.le_refl _, fun _ _ _ => rfl⟩
theorem Kp.trans {b : Nat} {w w1 w2 : World} (h : Kp b w w1) (k : Kp b w1 w2) : Kp b w w2 :=
  ⟨k.os.trans h.os, k.tape.trans h.tape, k.output.trans h.output, Nat.le_trans h.size k.size, fun i hi hb => (k.block i (Nat.lt_of_lt_of_le hi h.size) hb).trans (h.block i hi hb)⟩
theorem Kp.drewN (b : Nat) (w : World) (n : Nat) : Kp b w (w.drewN n) := ⟨rfl, rfl, rfl, Nat.le_refl _, fun _ _ _ => rfl⟩
theorem Kp.set (w : World) (b o : Nat) (v : Value) : Kp b w (w.setCell ⟨b, o, none⟩ v) :=
  ⟨rfl, rfl, rfl, by simp, fun k hk hb => Below.heap_setCell w _ v k hb⟩
theorem Kp.below {b : Nat} {w w' : World} (h : Below w.heap.size w w') : Kp b w w' := ⟨h.os, h.tape, h.output, h.size, fun k hk _ => h.block k hk⟩
theorem Rd.lt {w : World} {b a : Nat} {c : Cx} (h : Rd w b c a) : b < w.heap.size := by
  have := h.blk
  rw [Array.getElem?_eq_some_iff] at this
  exact this.1
theorem Rd.drewN {w : World} {b a : Nat} {c : Cx} (h : Rd w b c a) (n : Nat) : Rd (w.drewN n) b c a := ⟨h.blk⟩
theorem Rd.below {w w' : World} {b a : Nat} {c : Cx} (h : Rd w b c a) (hb : Below w.heap.size w w') : Rd w' b c a := ⟨(hb.block b h.lt).trans h.blk⟩
theorem Rd.cells {w : World} {b a : Nat} {c : Cx} (h : Rd w b c a) :
    w.cell? ⟨b, 0, none⟩ = some (.string c.s) ∧ w.cell? ⟨b, 1, none⟩ = some (.int .i64 a) ∧ w.cell? ⟨b, 2, none⟩ = some (.int .u8 c.scale) ∧ w.cell? ⟨b, 3, none⟩ = some (.int .i64 c.size) ∧
    w.cell? ⟨b, 4, none⟩ = some (.int .i64 c.vs) ∧ w.cell? ⟨b, 5, none⟩ = some (.int .i64 c.here) ∧ w.cell? ⟨b, 6, none⟩ = some (.map (some c.m)) ∧ w.cell? ⟨b, 7, none⟩ = some (.bool c.mute) ∧ w.frozen? ⟨b, 1, none⟩ = false := by
  have := h.blk
  refine ⟨?_, ?_, ?_, ?_, ?_, ?_, ?_, ?_, ?_⟩ <;> simp [World.cell?, World.frozen?, this]
theorem Rd.set {w : World} {b a : Nat} {c : Cx} (h : Rd w b c a) (a' : Nat) : Rd (w.setCell ⟨b, 1, none⟩ (.int .i64 a')) b c a' := by
  have := h.blk
  refine ⟨?_⟩
  simp [World.setCell, Array.getElem?_modify, this]

theorem pk_lt {s : ByteArray} {a : Nat} (h : pk s a ≠ 0) : a < s.size := by
  unfold pk at h
  by_cases hl : a < s.size
  · exact hl
  · rw [dif_neg hl] at h; exact absurd rfl h
theorem pk_256 (s : ByteArray) (a : Nat) : pk s a < 256 := by
  unfold pk
  split
  · exact UInt8.toNat_lt _
  · omega

/-- What is thrown. -/
abbrev thrown (k : Int) : Ending := .panicked [{ v := .iface 74 (.agg #[.int .i64 k]), recovered := false }]

set_option maxHeartbeats 400000 in
theorem peek_calls (w : World) (b a : Nat) (c : Cx) (h : Rd w b c a) (hs : c.s.size ≤ 4611686018427387904) :
    Calls Try.prog 35 #[.pointer (some ⟨b, 0, none⟩)] w fun e w' => e = .returned (.int .u8 (pk c.s a)) ∧ ∃ n, w' = w.drewN n := by
  obtain ⟨h0, h1, -, -, -, -, -, -, -⟩ := h.cells
  by_cases hlt : a < c.s.size
  · have hp : pk c.s a = c.s[a].toNat := by unfold pk; rw [dif_pos hlt]
    rw [hp]
    have hi : (a : Int) < c.s.size := by omega
    go_enter Try.func35, Try.ntmps35
    go_wp2
    go_quiet (fail)
    go_wp2
    go_quiet (fail)
    go_wp2
    go_ret
    exact ⟨rfl, _, World.drewN_drewN _ _ _⟩
  · have hp : pk c.s a = 0 := by unfold pk; rw [dif_neg hlt]
    rw [hp]
    have hi : ¬ (a : Int) < c.s.size := by omega
    go_enter Try.func35, Try.ntmps35
    go_wp2
    go_quiet (fail)
    go_wp2
    go_ret
    exact ⟨rfl, _, rfl⟩

theorem held_calls (w : World) (b a : Nat) (c : Cx) (n : Int) (h : Rd w b c a) :
    Calls Try.prog 41 #[.pointer (some ⟨b, 0, none⟩), .int .i64 n] w fun e w' => w' = w ∧ match heldO c n a with | .ok n _ => e = .returned (.int .i64 n) | .die k => e = thrown k | .stuck => False := by
  obtain ⟨-, -, -, -, -, -, -, h7, -⟩ := h.cells
  unfold heldO
  rcases hm : c.mute with _ | _
  · rw [hm] at h7
    by_cases hb : big n
    · rw [if_neg (by simp), if_pos hb]
      unfold big at hb
      go_enter Try.func41, Try.ntmps41
      go_wp2
      all_goals first | (exfalso; omega) | skip
      all_goals exact ⟨rfl, rfl, rfl⟩
    · rw [if_neg (by simp), if_neg hb]
      unfold big at hb
      go_enter Try.func41, Try.ntmps41
      go_wp2
      all_goals first | (exfalso; omega) | skip
      go_ret
      exact ⟨rfl, rfl⟩
  · rw [hm] at h7
    rw [if_pos rfl]
    go_enter Try.func41, Try.ntmps41
    go_wp2
    go_ret
    exact ⟨rfl, rfl⟩

theorem skipF_le (s : ByteArray) : ∀ k a, a + k ≤ s.size → skipF s k a ≤ s.size
  | 0, a, h => h
  | k + 1, a, h => by
    unfold skipF
    split
    · exact skipF_le s k (a + 1) (by omega)
    · omega
theorem skip_le (s : ByteArray) (deep a : Nat) (h : a ≤ s.size) : skip s deep a ≤ s.size := by
  unfold skip
  split
  · exact skipF_le s _ a (by omega)
  · exact h

set_option maxHeartbeats 1000000 in
theorem blanks_calls (w : World) (b a deep : Nat) (c : Cx) (h : Rd w b c a) (hs : c.s.size ≤ 4611686018427387904) (ha : a ≤ c.s.size) (hd : deep ≤ 1000) :
    Calls Try.prog 29 #[.pointer (some ⟨b, 0, none⟩), .int .i64 deep] w fun e w' => e = .returned (.tuple #[]) ∧ Kp b w w' ∧ Rd w' b c (skip c.s deep a) := by
  obtain ⟨r, hr⟩ : ∃ r, skip c.s deep a = r := ⟨_, rfl⟩
  rw [hr]
  have Hr := Lib.hid hr
  clear hr
  go_enter Try.func29, Try.ntmps29
  go_wp2
  go_loopg [4] (c.s.size - a) (fun k v wr => ∃ a' : Nat, Rd wr b c a' ∧ Kp b w wr ∧ a' + k = c.s.size ∧ Hid ((if 0 < deep then skipF c.s k a' else a') = r))
  case atStart => exact ⟨a, h, Kp.refl _ _, by omega, Hr.out⟩
  case round =>
    obtain ⟨a', hrd, hkp, hk, H⟩ := hrel
    obtain ⟨-, h1, -, -, -, -, -, -, hf⟩ := hrd.cells
    by_cases hd0 : 0 < deep
    · by_cases hp : pk c.s a' = 32
      · have hlt := pk_lt (show pk c.s a' ≠ 0 by omega)
        obtain ⟨k', rfl⟩ : ∃ k', gk = k' + 1 := ⟨gk - 1, by omega⟩
        have hp' : ((pk c.s a' : Nat) : Int) = 32 := by omega
        go_wp2_with (go_at_call 35; (with_reducible refine (peek_calls _ b a' c hrd hs).mono ?_); rintro e w1 ⟨rfl, n, rfl⟩)
        go_roundg k'
        case measure => omega
        case rel =>
          refine ⟨a' + 1, (hrd.drewN n).set (a' + 1), hkp.trans ((Kp.drewN b _ n).trans (Kp.set _ b 1 _)), by omega, ?_⟩
          have := H.out
          rw [if_pos hd0, skipF, if_pos hp] at this
          show _ = _
          rw [if_pos hd0]; exact this
      · have hp' : ¬ ((pk c.s a' : Nat) : Int) = 32 := by omega
        go_wp2_with (go_at_call 35; (with_reducible refine (peek_calls _ b a' c hrd hs).mono ?_); rintro e w1 ⟨rfl, n, rfl⟩)
        go_end0
        have := H.out
        rw [if_pos hd0] at this
        have e : skipF c.s gk a' = a' := by cases gk <;> simp [skipF, hp]
        rw [e] at this
        subst this
        exact ⟨rfl, hkp.trans (Kp.drewN b _ n), hrd.drewN n⟩
    · go_wp2
      go_end0
      have := H.out
      rw [if_neg hd0] at this
      subst this
      exact ⟨rfl, hkp, hrd⟩
end Go.Proofs.Ytkomofphgnekoaa

set_option linter.unusedVariables false
set_option linter.unusedSimpArgs false
namespace Go.MapLit
open Go.RowKit
open Go.ChangeMaps (setBlock)

/-- Keys of one kind: how they are compared. -/
structure KeyLit (P : Program) (K : TypeId) {α : Type} [DecidableEq α] (encK : α → Value) : Prop where
  kind : ∃ kd, P.underlying K = some kd ∧ ∀ x y, Instr.sameNow kd (encK x) (encK y) = some (decide (x = y))
  check : ∀ e x w, (Instr.checkKey e 10000 K (encK x)).run P w = .ok () w
  same : ∀ x, Instr.sameBits 10000 (encK x) (encK x) = true

theorem KeyLit.string {P : Program} {K : TypeId} (h : P.underlying K = some .string) : KeyLit P K Value.string := by
  refine ⟨⟨_, h, fun x y => ?_⟩, fun e x w => ?_, fun x => ?_⟩
  · simp only [Instr.sameNow]
    congr 1
    rw [Bool.eq_iff_iff, MapKept.bytes_beq]; simp
  · rw [show (10000 : Nat) = 9999 + 1 from rfl, Instr.checkKey]
    simp [run_underlying h, Result.andThen]
  · simp only [Instr.sameBits]; exact (MapKept.bytes_beq x x).2 rfl
theorem KeyLit.int {P : Program} {K : TypeId} {k : IntKind} (h : P.underlying K = some (.int k)) : KeyLit P K (Value.int k) := by
  refine ⟨⟨_, h, fun x y => ?_⟩, fun e x w => ?_, fun x => ?_⟩
  · simp only [Instr.sameNow, if_true]
    congr 1
  · rw [show (10000 : Nat) = 9999 + 1 from rfl, Instr.checkKey]
    simp [run_underlying h, Result.andThen]
  · simp [Instr.sameBits]

section
variable {P : Program} {α β : Type} (encK : α → Value) (encV : β → Value)

/-- The entries of a literal, in the order of its text. -/
def litEs (l : List (α × β)) : Array MapEntry := (l.zipIdx.map fun p => (⟨encK p.1.1, encV p.1.2, p.2⟩ : MapEntry)).toArray
/-- Block b is the map of these pairs. -/
def MapIs (w : World) (b : Nat) (l : List (α × β)) : Prop := w.heap[b]? = some (.map (litEs encK encV l) l.length)

theorem litEs_push (l : List (α × β)) (k : α) (v : β) : (litEs encK encV l).push ⟨encK k, encV v, l.length⟩ = litEs encK encV (l ++ [(k, v)]) := by
  simp [litEs, List.zipIdx_append]

def find [DecidableEq α] (l : List (α × β)) (k : α) : Option β := (l.find? fun p => decide (k = p.1)).map (·.2)

theorem findNow_zip [DecidableEq α] (kd : TypeDesc) (hkd : ∀ x y, Instr.sameNow kd (encK x) (encK y) = some (decide (x = y))) (k : α) : ∀ (l : List (α × β)) (i n : Nat),
    ∃ r, Instr.findNow kd (encK k) ((l.zipIdx n).map fun p => (⟨encK p.1.1, encV p.1.2, p.2⟩ : MapEntry)) i = some r ∧ r.map (·.2) = (find l k).map encV ∧ (r = none ↔ find l k = none)
  | [], i, n => ⟨none, rfl, rfl, by simp [find]⟩
  | p :: l, i, n => by
    simp only [List.zipIdx_cons, List.map_cons, Instr.findNow, hkd]
    by_cases h : k = p.1
    · refine ⟨some (i, encV p.2), ?_, ?_, ?_⟩ <;> simp [h, find]
    · obtain ⟨r, h1, h2, h3⟩ := findNow_zip kd hkd k l (i + 1) (n + 1)
      refine ⟨r, ?_, ?_, ?_⟩
      · simp [h, h1]
      · simpa [find, h] using h2
      · simpa [find, h] using h3

theorem findNow_lit [DecidableEq α] (kd : TypeDesc) (hkd : ∀ x y, Instr.sameNow kd (encK x) (encK y) = some (decide (x = y))) (k : α) (l : List (α × β)) :
    ∃ r, Instr.findNow kd (encK k) (litEs encK encV l).toList 0 = some r ∧ r.map (·.2) = (find l k).map encV ∧ (r = none ↔ find l k = none) := by
  have := findNow_zip encK encV kd hkd k l 0 0
  simpa [litEs] using this

/-- A new key laid into the map that was just made. -/
theorem run_insert [DecidableEq α] {t K E : TypeId} (hk : KeyLit P K encK) (ht : P.underlying t = some (.map K E)) (l : List (α × β)) (k : α) (v : β) (hnew : find l k = none) (w : World) :
    (Instr.mapUpdate t (.map (some w.heap.size)) (encK k) (encV v)).run P (w.alloc (.map (litEs encK encV l) l.length)) = .ok () (w.alloc (.map (litEs encK encV (l ++ [(k, v)])) (l.length + 1))) := by
  obtain ⟨kd, h1, h2⟩ := hk.kind
  obtain ⟨r, h3, _, h4⟩ := findNow_lit encK encV kd h2 k l
  have hr : r = none := h4.2 hnew
  subst hr
  have hb : (w.alloc (.map (litEs encK encV l) l.length)).heap[w.heap.size]? = some (.map (litEs encK encV l) l.length) := heap_alloc_new w _
  have hget : ∀ W : World, W.heap[w.heap.size]? = some (.map (litEs encK encV l) l.length) → (getObj w.heap.size).run P W = .ok (.map (litEs encK encV l) l.length) W := by
    intro W h
    simp [getObj, Sem.run, h]
  simp only [Instr.mapUpdate, Sem.run_bind, run_underlying ht, Result.andThen, hget _ hb, hk.check, Instr.findKey, run_underlying h1, h3, Sem.run_pure]
  simp only [setObj, Sem.run, hb]
  rw [litEs_push]
  congr 1
  have e : ∀ o : Obj, (w.alloc o).heap = w.heap.push o := fun _ => rfl
  have e2 : ∀ o : Obj, (w.heap.push (.map (litEs encK encV l) l.length)).setIfInBounds w.heap.size o = w.heap.push o := fun o => by
    apply Array.ext_getElem?
    intro i
    rw [Array.getElem?_setIfInBounds, Array.getElem?_push, Array.getElem?_push]
    by_cases h : w.heap.size = i
    · subst h; simp
    · rw [if_neg h, if_neg (fun e => h e.symm), if_neg (fun e => h e.symm)]
  show ({ w.alloc (.map (litEs encK encV l) l.length) with heap := (w.heap.push (.map (litEs encK encV l) l.length)).setIfInBounds w.heap.size _ } : World) = _
  rw [e2]; rfl

theorem run_lookup [DecidableEq α] {t K E : TypeId} (hk : KeyLit P K encK) (ht : P.underlying t = some (.map K E)) {z : Value} (hz : ∀ w, (zeroValue E).run P w = .ok z w) (l : List (α × β)) (k : α) {w : World} {b : Nat} (hb : MapIs encK encV w b l) (ok : Bool) :
    (Instr.lookup t (.map (some b)) (encK k) ok).run P w = .ok (if ok then .tuple #[((find l k).map encV).getD z, .bool (find l k).isSome] else ((find l k).map encV).getD z) w := by
  obtain ⟨kd, h1, h2⟩ := hk.kind
  obtain ⟨r, h3, h5, h4⟩ := findNow_lit encK encV kd h2 k l
  have hget : (getObj b).run P w = .ok (.map (litEs encK encV l) l.length) w := by
    have hb' : w.heap[b]? = some (.map (litEs encK encV l) l.length) := hb
    simp [getObj, Sem.run, hb']
  simp only [Instr.lookup, Sem.run_bind, run_underlying ht, Result.andThen, hget, hk.check, Instr.findKey, run_underlying h1, h3, Sem.run_pure]
  cases hf : find l k with
  | none =>
    have hr : r = none := h4.2 hf
    subst hr
    simp only [Sem.run_bind, hz, Result.andThen, Sem.run_pure, Option.map_none, Option.getD_none, Option.isSome_none]
  | some v =>
    cases r with
    | none => simp [h4.1 rfl] at hf
    | some q =>
      rw [hf] at h5
      simp at h5
      simp only [Sem.run_pure, Option.map_some, Option.getD_some, Option.isSome_some, ← h5]
      cases ok <;> simp

theorem MapIs.below {w w' : World} {b : Nat} {l : List (α × β)} (h : MapIs encK encV w b l) (hb : Below w.heap.size w w') : MapIs encK encV w' b l := by
  have hlt : b < w.heap.size := by
    unfold MapIs at h
    exact (Array.getElem?_eq_some_iff.1 h).1
  exact (hb.block b hlt).trans h
theorem MapIs.made (w : World) (l : List (α × β)) : MapIs encK encV (w.alloc (.map (litEs encK encV l) l.length)) w.heap.size l := heap_alloc_new w _
theorem MapIs.grown {w w' : World} {b : Nat} {l : List (α × β)} (h : MapIs encK encV w b l) {row : Option Nat} (hg : w.grownBy w' row) (hr : some b ≠ row) : MapIs encK encV w' b l := by
  have hlt : b < w.heap.size := by
    unfold MapIs at h
    exact (Array.getElem?_eq_some_iff.1 h).1
  exact (hg.block b hlt hr).trans h

theorem litEs_mem {l : List (α × β)} {e : MapEntry} (h : e ∈ (litEs encK encV l).toList) : ∃ (i : Nat) (hi : i < l.length), e = ⟨encK l[i].1, encV l[i].2, i⟩ := by
  simp only [litEs, List.mem_map] at h
  obtain ⟨⟨p, i⟩, hp, rfl⟩ := h
  have := List.mem_zipIdx' hp
  exact ⟨i, this.1, by simp [this.2]⟩
theorem litEs_at {l : List (α × β)} (i : Nat) (hi : i < l.length) : (⟨encK l[i].1, encV l[i].2, i⟩ : MapEntry) ∈ (litEs encK encV l).toList := by
  simp only [litEs, List.mem_map]
  exact ⟨(l[i], i), List.mk_mem_zipIdx_iff_getElem?.2 (by simp [hi]), rfl⟩
theorem litEs_born (l : List (α × β)) : ((litEs encK encV l).toList.map (·.born)).Nodup := by
  have : ((litEs encK encV l).toList.map (·.born)) = List.range l.length := by
    apply List.ext_getElem
    · simp [litEs]
    · intro i h1 h2
      simp [litEs]
  rw [this]
  exact List.nodup_range

/-- Where a range over the map stands: the iterator's block. -/
def IterIs (w : World) (r b n : Nat) (seen : Array Nat) : Prop := ∃ c0, n ≤ c0 ∧ w.heap[r]? = some (.mapIter (some b) n seen c0)

theorem run_range {t K E : TypeId} (ht : P.underlying t = some (.map K E)) (l : List (α × β)) {w : World} {b : Nat} (hb : MapIs encK encV w b l) :
    (Instr.range t (.map (some b))).run P w = .ok (.pointer (some ⟨w.heap.size, 0, none⟩)) (w.alloc (.mapIter (some b) l.length #[] l.length)) :=
  run_range_map w t K E b _ _ ht hb
theorem IterIs.made (w : World) (b n : Nat) : IterIs (w.alloc (.mapIter (some b) n #[] n)) w.heap.size b n #[] := ⟨n, Nat.le_refl _, heap_alloc_new w _⟩

/-- One step of a range over the map: nothing is left, or one that has not come yet comes. -/
theorem wpList_next_lit {w : World} {ops : Array Oper} {rest : List Oper} {o : Oper} {a : Act} {Q : Exit → Act → World → Prop}
    (hg : o.guard = none) (it : Operand) (hop : o.op = Op.next it false) (l : List (α × β)) (b r : Nat) (seen : Array Nat) (hit : a.eval it = .pointer (some ⟨r, 0, none⟩))
    (hr : IterIs w r b l.length seen) (hb : MapIs encK encV w b l)
    (hDone : (∀ i, i < l.length → seen.contains i = true) → wpList P ops Q rest (a.put o.dst (.tuple #[.bool false])) w)
    (hMore : ∀ (i : Nat) (k : α) (v : β) (w' : World), l[i]? = some (k, v) → seen.contains i = false → IterIs w' r b l.length (seen.push i) → MapIs encK encV w' b l → w.grownBy w' (some r) → w'.heap.size = w.heap.size →
      (Instr.entry (.pointer (some ⟨r, 0, none⟩))).run P w' = .ok (.tuple #[encK k, encV v]) w' → wpList P ops Q rest (a.put o.dst (.tuple #[.bool true, encK k, encV v])) w') :
    wpList P ops Q (o :: rest) a w := by
  obtain ⟨c0, hc0, hr⟩ := hr
  have hold : ∀ x ∈ (litEs encK encV l).toList, x.born < l.length := by
    intro x hx
    obtain ⟨i, hi, rfl⟩ := litEs_mem encK encV hx
    exact hi
  refine wpList_plain hg fun K' hK' => ?_
  unfold Oper.wp
  rcases run_next_at (P := P) w o.type r b l.length c0 seen (litEs encK encV l) l.length hr hb hold hc0 with ⟨h0, hrun⟩ | ⟨e, he, w1, hw1, hrun⟩
  · simp [execOp, hop, hit, hrun, Result.andThen]
    refine hK' _ _ (hDone fun i hi => ?_)
    have := all_seen _ _ h0 _ (litEs_at encK encV i hi)
    exact this
  · obtain ⟨he1, he2⟩ := mem_left he
    obtain ⟨i, hi, rfl⟩ := litEs_mem encK encV he1
    simp [execOp, hop, hit, hrun, Result.andThen]
    have hne : r ≠ b := by
      intro h
      subst h
      have hb' : w.heap[r]? = _ := hb
      rw [hr] at hb'
      cases hb'
    have hr1 : w1.heap[r]? = some (.mapIter (some b) l.length seen c0) := by rcases hw1 with rfl | rfl <;> exact hr
    have hb1 : w1.heap[b]? = some (.map (litEs encK encV l) l.length) := by rcases hw1 with rfl | rfl <;> exact hb
    have hsz : w1.heap.size = w.heap.size := by rcases hw1 with rfl | rfl <;> rfl
    have hlt : r < w1.heap.size := (Array.getElem?_eq_some_iff.1 hr1).1
    have h1 : (setBlock w1 r (.mapIter (some b) l.length (seen.push i) l.length)).heap[r]? = some (.mapIter (some b) l.length (seen.push i) l.length) := by
      simp [setBlock, hlt]
    have h2 : (setBlock w1 r (.mapIter (some b) l.length (seen.push i) l.length)).heap[b]? = some (.map (litEs encK encV l) l.length) := by
      simp only [setBlock, Array.getElem?_setIfInBounds]
      rw [if_neg (by omega)]
      exact hb1
    refine hK' _ _ (hMore i l[i].1 l[i].2 _ (by simp [hi]) he2 ⟨_, Nat.le_refl _, h1⟩ h2 ?_ (by simp [setBlock, hsz]) (run_entry_at _ r b l.length seen _ l.length _ h1 h2 he1 (litEs_born encK encV l)))
    refine ⟨?_, ?_, ?_, ?_, ?_⟩
    · rcases hw1 with rfl | rfl <;> rfl
    · rcases hw1 with rfl | rfl <;> rfl
    · rcases hw1 with rfl | rfl <;> rfl
    · simp [setBlock, hsz]
    · intro k hk hne
      simp only [setBlock, Array.getElem?_setIfInBounds]
      rw [if_neg (by intro h; subst h; exact hne rfl)]
      rcases hw1 with rfl | rfl <;> rfl
end

/-- How many are still to come. -/
def left (n : Nat) (seen : Array Nat) : Nat := ((List.range n).filter fun i => !seen.contains i).length
theorem left_push {n i : Nat} {seen : Array Nat} (hi : i < n) (h : seen.contains i = false) : left n (seen.push i) < left n seen := by
  refine filter_lt (fun j => !seen.contains j) (fun j => !(seen.push i).contains j) ?_ i ?_ ?_ (List.range n) (by simpa using hi)
  · intro x hx
    rw [contains_push] at hx
    cases hc : seen.contains x
    · rfl
    · rw [hc] at hx; simp at hx
  · show (!seen.contains i) = true
    rw [h]; rfl
  · show (!(seen.push i).contains i) = false
    rw [contains_push]; simp
end Go.MapLit

set_option linter.unusedVariables false
set_option linter.unusedSimpArgs false
namespace Go.Proofs.Ytkomofphgnekoaa
open Go.Shelf Go.RowKit Go.Lib Go.Aids Go.MapLit

theorem Kp.dr {b : Nat} {w w1 : World} (h : Kp b w w1) (n : Nat) : Kp b w (w1.drewN n) := h.trans (Kp.drewN b _ n)
theorem Kp.st {b : Nat} {w w1 : World} (h : Kp b w w1) (o : Nat) (v : Value) : Kp b w (w1.setCell ⟨b, o, none⟩ v) := h.trans (Kp.set _ b o v)
theorem Rd.set1 {w : World} {b a a0 : Nat} {c : Cx} (h : Rd w b c a0) : Rd (w.setCell ⟨b, 1, none⟩ (.int .i64 ((a : Int) + 1))) b c (a + 1) := h.set (a + 1)
/-- The reader and what stays, of the walk's world. -/

theorem rowF_bound (s : ByteArray) : ∀ k n a, a ≤ (rowF s k n a).2 ∧ (rowF s k n a).2 ≤ a + k ∧ ((rowF s k n a).1 + 1) ≤ (n + 1) * 10 ^ ((rowF s k n a).2 - a) ∧ (a ≤ s.size → (rowF s k n a).2 ≤ s.size)
  | 0, n, a => by simp [rowF]
  | k + 1, n, a => by
    unfold rowF
    split
    · rename_i hd
      obtain ⟨h1, h2, h3, h4⟩ := rowF_bound s k (n * 10 + (pk s a - 48)) (a + 1)
      have hlt := pk_lt (show pk s a ≠ 0 by unfold isDig at hd; omega)
      refine ⟨by omega, by omega, ?_, fun _ => h4 (by omega)⟩
      refine Nat.le_trans h3 ?_
      rw [show (rowF s k (n * 10 + (pk s a - 48)) (a + 1)).2 - a = ((rowF s k (n * 10 + (pk s a - 48)) (a + 1)).2 - (a + 1)) + 1 by omega, Nat.pow_succ, Nat.mul_comm (10 ^ _) 10, ← Nat.mul_assoc]
      refine Nat.mul_le_mul_right _ ?_
      unfold isDig at hd
      omega
    · simp

set_option maxHeartbeats 1000000 in
theorem row_calls (w : World) (b a : Nat) (c : Cx) (h : Rd w b c a) (hs : c.s.size ≤ 4611686018427387904) (ha : a ≤ c.s.size) :
    Calls Try.prog 45 #[.pointer (some ⟨b, 0, none⟩)] w fun e w' => e = .returned (.tuple #[.int .i64 (rowF c.s 9 0 a).1, .int .i64 ((rowF c.s 9 0 a).2 - a : Nat)]) ∧ Kp b w w' ∧ Rd w' b c (rowF c.s 9 0 a).2 := by
  obtain ⟨r, hr⟩ : ∃ r, rowF c.s 9 0 a = r := ⟨_, rfl⟩
  rw [hr]
  have Hr := Lib.hid hr
  clear hr
  go_enter Try.func45, Try.ntmps45
  go_wp2
  go_loopg [2, 3] 9 (fun k v u wr => ∃ n m a' : Nat, v = .int .i64 n ∧ u = .int .i64 m ∧ Rd wr b c a' ∧ Kp b w wr ∧ m + k = 9 ∧ Hid (a' = a + m) ∧ n < 10 ^ m ∧ a' ≤ c.s.size ∧ Hid (rowF c.s k n a' = r))
  case atStart => exact ⟨0, 0, a, rfl, rfl, h, Kp.refl _ _, rfl, Lib.hid rfl, by decide, ha, Hr⟩
  case round =>
    obtain ⟨n, m, a', rfl, rfl, hrd, hkp, hmk, hae, hn, hal, H⟩ := hrel
    have hn9 : n < 1000000000 := Nat.lt_of_lt_of_le hn (by
      have : 10 ^ m ≤ 10 ^ 9 := Nat.pow_le_pow_right (by decide) (by omega)
      simpa using this)
    obtain ⟨-, h1, -, -, -, -, -, -, hf⟩ := hrd.cells
    rcases Nat.eq_zero_or_pos gk with h0 | h0
    · subst h0
      obtain rfl : m = 9 := by omega
      have := H.out
      rw [rowF] at this
      subst this
      go_wp2
      go_ret2
      have := hae.out
      refine ⟨?_, hkp, hrd⟩
      show Ending.returned (.tuple #[.int .i64 n, .int .i64 9]) = Ending.returned (.tuple #[.int .i64 n, .int .i64 (a' - a : Nat)])
      rw [show a' - a = 9 by omega]; rfl
    · obtain ⟨k', rfl⟩ : ∃ k', gk = k' + 1 := ⟨gk - 1, by omega⟩
      have hm9 : (m : Int) < 9 := by omega
      have hp256 := pk_256 c.s a'
      by_cases hd : isDig c.s a'
      · have hd' := hd
        unfold isDig at hd'
        have hp1 : (48 : Int) ≤ (pk c.s a' : Nat) := by omega
        have hp2 : ((pk c.s a' : Nat) : Int) ≤ 57 := by omega
        have hlt := pk_lt (show pk c.s a' ≠ 0 by omega)
        have hwp : IntKind.u8.wrap (((pk c.s a' : Nat) : Int) - 48) = ((pk c.s a' : Nat) : Int) - 48 := IntWalk.u8_in _ (by omega)
        go_wp2_with (go_at_call 35; (with_reducible refine (peek_calls _ b a' c (by (repeat (first | assumption | with_reducible apply Rd.drewN | with_reducible apply Rd.set1 | with_reducible apply Rd.set))) hs).mono ?_); rintro e w1 ⟨rfl, dn, rfl⟩)
        go_roundg k'
        case measure => omega
        case rel =>
          have hH := H.out
          rw [rowF, if_pos hd] at hH
          refine ⟨n * 10 + (pk c.s a' - 48), m + 1, a' + 1, by go_num, by go_num, by (repeat (first | assumption | with_reducible apply Rd.drewN | with_reducible apply Rd.set1 | with_reducible apply Rd.set)), by (repeat (first | assumption | with_reducible exact Kp.refl _ _ | with_reducible apply Kp.dr | with_reducible apply Kp.st)), by omega, Lib.hid (by have := hae.out; omega), ?_, by omega, Lib.hid hH⟩
          rw [Nat.pow_succ]; omega
      · go_wp2_with (go_at_call 35; (with_reducible refine (peek_calls _ b a' c (by (repeat (first | assumption | with_reducible apply Rd.drewN | with_reducible apply Rd.set1 | with_reducible apply Rd.set))) hs).mono ?_); rintro e w1 ⟨rfl, dn, rfl⟩)
        all_goals first | (exfalso; unfold isDig at hd; omega) | skip
        all_goals
          go_ret2
          have hH := H.out
          rw [rowF, if_neg hd] at hH
          subst hH
          have := hae.out
          refine ⟨?_, by (repeat (first | assumption | with_reducible exact Kp.refl _ _ | with_reducible apply Kp.dr | with_reducible apply Kp.st)), by (repeat (first | assumption | with_reducible apply Rd.drewN | with_reducible apply Rd.set1 | with_reducible apply Rd.set))⟩
          show Ending.returned (.tuple #[.int .i64 n, .int .i64 m]) = Ending.returned (.tuple #[.int .i64 n, .int .i64 (a' - a : Nat)])
          rw [show a' - a = m by omega]
end Go.Proofs.Ytkomofphgnekoaa

set_option linter.unusedVariables false
set_option linter.unusedSimpArgs false
namespace Go.Proofs.Ytkomofphgnekoaa
open Go.Shelf Go.RowKit Go.Lib Go.Aids Go.MapLit

abbrev SS := List (Int × Int)
abbrev eK : Int → Value := Value.int .u8
abbrev eV : Int → Value := Value.int .i64
theorem keyU : KeyLit Try.prog 5 eK := KeyLit.int Try.underlying5
theorem zeroI (w : World) : (zeroValue 3).run Try.prog w = .ok (.int .i64 0) w := by kernel_rfl
def scL (size vs : Int) : SS := [(117, 1), (112, 10), (80, 120), (105, 720), (99, 283), (109, wrap64 (10 * size)), (110, wrap64 (5 * size)), (118, vs)]
def MS (l : SS) (n : Nat) : Obj := .map (litEs eK eV l) n
def scT (size vs : Int) (n : Nat) : SS := (scL size vs).take n

set_option maxHeartbeats 1000000 in
theorem scales_calls (size vs here : Int) (w : World) :
    Calls Try.prog 32 #[.agg #[.int .i64 size, .int .i64 vs, .int .i64 here]] w fun e w' => e = .returned (.map (some (w.heap.size + 1))) ∧ MapIs eK eV w' (w.heap.size + 1) (scL size vs) ∧ Below w.heap.size w w' := by
  obtain ⟨W0, hW0⟩ : ∃ W, W = w.alloc (.cells #[.int .i64 size, .int .i64 vs, .int .i64 here] 30) := ⟨_, rfl⟩
  have hsz : W0.heap.size = w.heap.size + 1 := by rw [hW0]; simp
  have hmm := @run_makeMap Try.prog
  have H : ∀ (n : Nat) (k v : Int), find (scT size vs n) k = none → scT size vs n ++ [(k, v)] = scT size vs (n + 1) → (scT size vs n).length = n →
      (Instr.mapUpdate 48 (.map (some (w.heap.size + 1))) (.int .u8 k) (.int .i64 v)).run Try.prog (W0.alloc (MS (scT size vs n) n)) = .ok () (W0.alloc (MS (scT size vs (n + 1)) (n + 1))) := by
    intro n k v h1 h2 h3
    have := run_insert eK eV keyU Try.underlying48 (scT size vs n) k v h1 W0
    rw [h2, h3, hsz] at this
    exact this
  have h1 : (Instr.mapUpdate 48 (.map (some (w.heap.size + 1))) (.int .u8 117) (.int .i64 1)).run Try.prog (W0.alloc (.map #[] 0)) = .ok () (W0.alloc (MS (scT size vs 1) 1)) := H 0 117 1 rfl rfl rfl
  have h2 := H 1 112 10 rfl rfl rfl
  have h3 := H 2 80 120 rfl rfl rfl
  have h4 := H 3 105 720 rfl rfl rfl
  have h5 := H 4 99 283 rfl rfl rfl
  have h6 := H 5 109 (wrap64 (10 * size)) rfl rfl rfl
  have h7 := H 6 110 (wrap64 (5 * size)) rfl rfl rfl
  have h8 := H 7 118 vs rfl rfl rfl
  clear H
  subst hW0
  go_enter Try.func32, Try.ntmps32
  go_wp2
  go_ret
  exact ⟨rfl, by have := MapIs.made eK eV (w.alloc (.cells #[.int .i64 size, .int .i64 vs, .int .i64 here] 30)) (scL size vs); rw [hsz] at this; exact this, ((Below.refl _ w).alloc (Nat.le_refl _) _).alloc (by simp) _⟩
end Go.Proofs.Ytkomofphgnekoaa

set_option linter.unusedVariables false
set_option linter.unusedSimpArgs false
namespace Go.Proofs.Ytkomofphgnekoaa
open Go.Shelf Go.RowKit Go.Lib Go.Aids Go.MapLit

structure St (w : World) (b : Nat) (c : Cx) (a : Nat) : Prop where
  rd : Rd w b c a
  mp : MapIs eK eV w c.m (scL c.size c.vs)
  ne : c.m ≠ b
/-- The context is one. -/
structure Cx.Ok (c : Cx) : Prop where
  hs : c.s.size ≤ 4611686018427387904
  s0 : 0 ≤ c.size
  s1 : c.size ≤ 1000000
  v0 : 0 ≤ c.vs
  v1 : c.vs ≤ 1000000
  h0 : -1000000000 ≤ c.here
  h1 : c.here ≤ 1000000000
  sc : c.scale < 256
  u : (unitOf c c.scale).isSome
theorem MapIs.kp {w w' : World} {b m : Nat} {l : SS} (h : MapIs eK eV w m l) (hk : Kp b w w') (hne : m ≠ b) : MapIs eK eV w' m l := by
  have h' : w.heap[m]? = some _ := h
  have hlt : m < w.heap.size := by rw [Array.getElem?_eq_some_iff] at h'; exact h'.1
  exact (hk.block m hlt hne).trans h'
theorem St.kp {w w' : World} {b a a' : Nat} {c : Cx} (h : St w b c a) (hk : Kp b w w') (hr : Rd w' b c a') : St w' b c a' := ⟨hr, MapIs.kp h.mp hk h.ne, h.ne⟩
def Post (b : Nat) (c : Cx) (w : World) (o : Out) (e : Ending) (w' : World) : Prop :=
  match o with
  | .ok n t => e = .returned (.int .i64 n) ∧ Kp b w w' ∧ Rd w' b c t
  | .die k => e = thrown k ∧ Kp b w w'
  | .stuck => True
theorem wrap64_in (n : Int) (h0 : -9223372036854775808 ≤ n) (h1 : n ≤ 9223372036854775807) : wrap64 n = n := by unfold wrap64; omega
theorem find_cons (k0 v : Int) (l : SS) (k : Int) : find ((k0, v) :: l) k = if k = k0 then some v else find l k := by
  unfold find
  rw [List.find?_cons]
  by_cases h : k = k0
  · simp [h]
  · simp [h]
theorem find_none (k : Int) : find ([] : SS) k = none := rfl
theorem int_nat (k j : Nat) : ((k : Int) = (j : Int)) = (k = j) := propext (by omega)
theorem find_sc (c : Cx) (ok : c.Ok) (k : Nat) : find (scL c.size c.vs) (k : Int) = unitOf c k := by
  have := ok.s0; have := ok.s1
  unfold scL unitOf
  rw [wrap64_in _ (by omega) (by omega), wrap64_in _ (by omega) (by omega)]
  simp only [find_cons, find_none]
  rw [show (117 : Int) = ((117 : Nat) : Int) from rfl, show (112 : Int) = ((112 : Nat) : Int) from rfl, show (80 : Int) = ((80 : Nat) : Int) from rfl, show (105 : Int) = ((105 : Nat) : Int) from rfl, show (99 : Int) = ((99 : Nat) : Int) from rfl, show (109 : Int) = ((109 : Nat) : Int) from rfl, show (110 : Int) = ((110 : Nat) : Int) from rfl, show (118 : Int) = ((118 : Nat) : Int) from rfl]
  simp only [int_nat]
theorem unit_bound (c : Cx) (ok : c.Ok) (k : Nat) (u : Int) (h : unitOf c k = some u) : 0 ≤ u ∧ u ≤ 10000000 := by
  have := ok.s0; have := ok.s1; have := ok.v0; have := ok.v1
  unfold unitOf at h
  repeat' split at h
  all_goals (first | (injection h; omega) | cases h)

/-- What stands behind the point: the part, how many digits, and where it ends. -/
def dotO (s : ByteArray) (a : Nat) : Nat × Nat × Nat :=
  if pk s a = 46 then (let r := rowF s 9 0 (a + 1); (r.1, r.2 - (a + 1), if r.2 - (a + 1) = 0 then a else r.2)) else (0, 0, a)
def number2 (c : Cx) (a : Nat) (r1 : Nat × Nat) (d : Nat × Nat × Nat) : Out :=
  if r1.2 = a ∧ d.2.1 = 0 then .die 4
  else match unitOf c (pk c.s d.2.2) with
    | some u => heldO c ((r1.1 : Int) * u + ((d.1 : Int) * u).tdiv ((10 ^ d.2.1 : Nat) : Int)) (d.2.2 + 1)
    | none => heldO c ((r1.1 : Int) * ((unitOf c c.scale).getD 0) + ((d.1 : Int) * ((unitOf c c.scale).getD 0)).tdiv ((10 ^ d.2.1 : Nat) : Int)) d.2.2
theorem numberO_two (c : Cx) (a : Nat) : numberO c a = number2 c a (rowF c.s 9 0 a) (dotO c.s (rowF c.s 9 0 a).2) := by
  unfold numberO number2 dotO
  by_cases h : pk c.s (rowF c.s 9 0 a).2 = 46
  · simp only [if_pos h] <;> rfl
  · simp [if_neg h] <;> rfl
theorem dotO_bound (s : ByteArray) (a : Nat) (h : a ≤ s.size) : (dotO s a).1 < 1000000000 ∧ (dotO s a).2.1 ≤ 9 ∧ (dotO s a).2.2 ≤ s.size := by
  unfold dotO
  split
  · rename_i hd
    have hlt := pk_lt (show pk s a ≠ 0 by omega)
    obtain ⟨h1, h2, h3, h4⟩ := rowF_bound s 9 0 (a + 1)
    have h5 := h4 (by omega)
    have : 10 ^ ((rowF s 9 0 (a + 1)).2 - (a + 1)) ≤ 10 ^ 9 := Nat.pow_le_pow_right (by decide) (by omega)
    refine ⟨?_, by show _ - _ ≤ 9; omega, ?_⟩
    · show (rowF s 9 0 (a + 1)).1 < 1000000000
      have e9 : 10 ^ 9 = 1000000000 := by decide
      omega
    · show (if _ then a else _) ≤ _
      split
      · omega
      · exact h5
  · exact ⟨by show 0 < 1000000000; omega, Nat.zero_le _, h⟩

theorem heldO_ok {c : Cx} {n m : Int} {a t : Nat} (h : heldO c n a = .ok m t) : t = a := by
  unfold heldO at h
  repeat' split at h
  all_goals first | (injection h; rename_i h; exact h.symm) | cases h | (injection h with h1 h2; exact h2.symm)
theorem heldO_stuck {c : Cx} {n : Int} {a : Nat} : ¬ heldO c n a = .stuck := by
  intro h
  unfold heldO at h
  repeat' split at h
  all_goals cases h

set_option maxRecDepth 100000 in
set_option maxHeartbeats 4000000 in
theorem number_calls (w : World) (b a : Nat) (c : Cx) (h : St w b c a) (ok : c.Ok) (ha : a ≤ c.s.size) :
    Calls Try.prog 36 #[.pointer (some ⟨b, 0, none⟩)] w (Post b c w (numberO c a)) := by
  rw [numberO_two]
  obtain ⟨r1, hr1⟩ : ∃ r, rowF c.s 9 0 a = r := ⟨_, rfl⟩
  obtain ⟨d, hd⟩ : ∃ d, dotO c.s r1.2 = d := ⟨_, rfl⟩
  have hb1 := rowF_bound c.s 9 0 a
  have hrow := row_calls w b a c h.rd ok.hs ha
  rw [hr1] at hb1 hrow
  obtain ⟨hb2, hb3, hb4, hb5⟩ := hb1
  have hb6 := hb5 ha
  have hbd := dotO_bound c.s r1.2 hb6
  rw [hr1, hd]
  rw [hd] at hbd
  have Hd := Lib.hid hd
  have HRow := Lib.hid hrow
  clear hd hr1 hrow hb5
  obtain ⟨n1, a1⟩ := r1
  obtain ⟨o, ho⟩ : ∃ o, number2 c a (n1, a1) d = o := ⟨_, rfl⟩
  rw [ho]
  have Ho := Lib.hid ho
  clear ho
  have hs := ok.hs
  go_enter Try.func36, Try.ntmps36
  go_wp2_with fail
  refine HRow.out.mono ?_
  rintro e w1 ⟨rfl, hk1, hrd1⟩
  obtain ⟨-, c1, -, -, -, -, -, -, f1⟩ := hrd1.cells
  go_upto_if 22 with (go_at_call 35; (with_reducible refine (peek_calls _ b a1 c (by (repeat (first | assumption | with_reducible apply Rd.drewN | with_reducible apply Rd.set1 | with_reducible apply Rd.set))) ok.hs).mono ?_); rintro e w2 ⟨rfl, dn, rfl⟩)
  go_cut [5, 6] (fun v5 v6 wx => v5 = .int .i64 d.1 ∧ v6 = .int .i64 d.2.1 ∧ Kp b w wx ∧ Rd wx b c d.2.2)
  case first =>
    by_cases hp : pk c.s a1 = 46
    · have hp' : ((pk c.s a1 : Nat) : Int) = 46 := by omega
      have hlt := pk_lt (show pk c.s a1 ≠ 0 by omega)
      have e := Hd.out
      unfold dotO at e
      rw [if_pos hp] at e
      obtain ⟨r2, hr2⟩ : ∃ r, rowF c.s 9 0 (a1 + 1) = r := ⟨_, rfl⟩
      simp only [hr2] at e
      have hrow2 := fun (w2 : World) (h2 : Rd w2 b c (a1 + 1)) => row_calls w2 b (a1 + 1) c h2 ok.hs (by omega)
      simp only [hr2] at hrow2
      have HR2 := Lib.hid hrow2
      obtain ⟨pl, hpl⟩ : ∃ n, r2.2 - (a1 + 1) = n := ⟨_, rfl⟩
      simp only [hpl] at e
      have He := Lib.hid e
      clear e hr2 hrow2
      by_cases hz : pl = 0
      · have hz' : (pl : Int) = 0 := by omega
        rw [if_pos hz] at He
        go_wp2_with (first
          | (go_at_call 45; (with_reducible refine (HR2.out _ (by (repeat (first | assumption | with_reducible apply Rd.drewN | with_reducible apply Rd.set1 | with_reducible apply Rd.set)))).mono ?_); rintro e w3 ⟨rfl, hk3, hrd3⟩; obtain ⟨-, c3, -, -, -, -, -, -, f3⟩ := hrd3.cells))
        go_meet
        case rel =>
          have he := He.out
          subst he
          exact ⟨rfl, by rw [hz]; rfl, (Kp.trans (by (repeat (first | assumption | with_reducible exact Kp.refl _ _ | with_reducible apply Kp.dr | with_reducible apply Kp.st))) hk3).st _ _, hrd3.set _⟩
      · have hz' : ¬ (pl : Int) = 0 := by omega
        rw [if_neg hz] at He
        go_wp2_with (first
          | (go_at_call 45; (with_reducible refine (HR2.out _ (by (repeat (first | assumption | with_reducible apply Rd.drewN | with_reducible apply Rd.set1 | with_reducible apply Rd.set)))).mono ?_); rintro e w3 ⟨rfl, hk3, hrd3⟩))
        go_meet
        case rel =>
          have he := He.out
          subst he
          exact ⟨rfl, rfl, Kp.trans (by (repeat (first | assumption | with_reducible exact Kp.refl _ _ | with_reducible apply Kp.dr | with_reducible apply Kp.st))) hk3, hrd3⟩
    · have hp' : ¬ ((pk c.s a1 : Nat) : Int) = 46 := by omega
      have e := Hd.out
      unfold dotO at e
      rw [if_neg hp] at e
      have He := Lib.hid e
      clear e
      go_wp2
      go_meet
      case rel =>
        rw [← He.out]
        exact ⟨rfl, rfl, by (repeat (first | assumption | with_reducible exact Kp.refl _ _ | with_reducible apply Kp.dr | with_reducible apply Kp.st)), by (repeat (first | assumption | with_reducible apply Rd.drewN | with_reducible apply Rd.set1 | with_reducible apply Rd.set))⟩
  case rest =>
    obtain ⟨rfl, rfl, hk2, hrd2⟩ := hcut
    clear Hd HRow hk1 hrd1 c1 f1
    obtain ⟨P, pl, a2⟩ := d
    simp only at hbd hk2 hrd2
    obtain ⟨hP, hpl, ha2⟩ := hbd
    obtain ⟨mm, hmm⟩ : ∃ n, a1 - a = n := ⟨_, rfl⟩
    have hcm : (a1 = a) ↔ mm = 0 := by omega
    have hn1 : n1 < 1000000000 := by
      have : 10 ^ (a1 - a) ≤ 10 ^ 9 := Nat.pow_le_pow_right (by decide) (by omega)
      have e9 : 10 ^ 9 = 1000000000 := by decide
      omega
    have ho := Ho.out
    unfold number2 at ho
    simp only [hcm] at ho
    have HO := Lib.hid ho
    clear ho Ho
    simp only [hmm]
    clear hb4 hcm hmm hb2 hb3 hb6
    have hst2 : St wc b c a2 := h.kp hk2 hrd2
    have hp256 := pk_256 c.s a2
    obtain ⟨h0, h1, h2, h3, h4, h5, h6, h7, hf⟩ := hrd2.cells
    go_upto_region 9 with fail
    go_cut [46] (fun v wx => v = .bool (decide (mm = 0 ∧ pl = 0)) ∧ wx = wc)
    case first =>
      by_cases hm0 : mm = 0
      · have e1 : (mm : Int) = 0 := by omega
        by_cases hp0 : pl = 0
        · have e2 : (pl : Int) = 0 := by omega
          go_wp2
          go_meet
          case rel => exact ⟨by simp [hm0, hp0], rfl⟩
        · have e2 : ¬ (pl : Int) = 0 := by omega
          go_wp2
          go_meet
          case rel => exact ⟨by simp [hm0, hp0], rfl⟩
      · have e1 : ¬ (mm : Int) = 0 := by omega
        go_wp2
        go_meet
        case rel => exact ⟨by simp [hm0], rfl⟩
    case rest =>
      obtain ⟨rfl, hwx⟩ := hcut
      subst hwx
      by_cases hz : mm = 0 ∧ pl = 0
      · rw [decide_eq_true hz]
        go_wp2
        have := HO.out
        rw [if_pos hz] at this
        subst this
        exact ⟨rfl, rfl, hk2⟩
      · rw [decide_eq_false hz]
        have ho := HO.out
        rw [if_neg hz] at ho
        clear HO
        obtain ⟨ou, hou⟩ : ∃ x, unitOf c (pk c.s a2) = x := ⟨_, rfl⟩
        rw [hou] at ho
        have hl : ∀ n, (Instr.lookup 48 (.map (some c.m)) (.int .u8 (pk c.s a2)) true).run Try.prog (wc.drewN n) = .ok (.tuple #[.int .i64 (ou.getD 0), .bool ou.isSome]) (wc.drewN n) := by
          intro n
          have := run_lookup (w := wc.drewN n) eK eV keyU Try.underlying48 zeroI (scL c.size c.vs) (pk c.s a2) hst2.mp true
          rw [find_sc c ok, hou] at this
          rw [this]
          cases ou <;> rfl
        obtain ⟨us, hus⟩ : ∃ u, unitOf c c.scale = some u := Option.isSome_iff_exists.1 ok.u
        have hl2 : ∀ n, (Instr.lookup 48 (.map (some c.m)) (.int .u8 c.scale) false).run Try.prog (wc.drewN n) = .ok (.int .i64 us) (wc.drewN n) := by
          intro n
          have := run_lookup (w := wc.drewN n) eK eV keyU Try.underlying48 zeroI (scL c.size c.vs) c.scale hst2.mp false
          rw [find_sc c ok, hus] at this
          rw [this]
          rfl
        rw [hus] at ho
        have hub : ∀ u, ou = some u → 0 ≤ u ∧ u ≤ 10000000 := fun u h => unit_bound c ok (pk c.s a2) u (by rw [hou, h])
        have husb := unit_bound c ok c.scale us hus
        have Hou := Lib.hid hou
        have Hus := Lib.hid hus
        have HO := Lib.hid ho
        clear ho hou hus
        go_upto_region 11 with fail
        go_cut [8, 9] (fun v8 v9 wx => v8 = .int .i64 (ou.getD 0) ∧ v9 = .bool ou.isSome ∧ ∃ n, wx = wc.drewN n)
        case first =>
          go_quiet (first | (go_at_call 35; exact Calls.quiet_of (peek_calls _ b a2 c (by (repeat (first | assumption | with_reducible apply Rd.drewN | with_reducible apply Rd.set1 | with_reducible apply Rd.set))) hs)))
          go_wp2
          go_meet
          case rel => exact ⟨rfl, rfl, _, rfl⟩
        case rest =>
          obtain ⟨rfl, rfl, dn2, rfl⟩ := hcut
          obtain ⟨U, hU⟩ : ∃ U, ou.getD us = U := ⟨_, rfl⟩
          obtain ⟨a3, ha3⟩ : ∃ a3, (if ou.isSome then a2 + 1 else a2) = a3 := ⟨_, rfl⟩
          have hUb : 0 ≤ U ∧ U ≤ 10000000 := by
            rcases ou with _ | u
            · subst hU; exact husb
            · subst hU; exact hub u rfl
          have HO2 : Hid (heldO c ((n1 : Int) * U + ((P : Int) * U).tdiv ((10 ^ pl : Nat) : Int)) a3 = o) := by
            have := HO.out
            show _ = _
            rcases ou with _ | u
            · subst hU; subst ha3; exact this
            · subst hU; subst ha3; exact this
          go_upto_if 59 with fail
          go_cut [8] (fun v wx => v = .int .i64 U ∧ Kp b w wx ∧ Rd wx b c a3)
          case first =>
            rcases ou with _ | u
            · simp only [Option.getD_none, Option.isSome_none] at hU ha3 ⊢
              go_wp2
              go_quiet (fail)
              go_wp2
              go_meet
              case rel =>
                subst hU
                exact ⟨rfl, (hk2.dr _).dr _, by rw [← ha3]; exact (hrd2.drewN _).drewN _⟩
            · have hpk : pk c.s a2 ≠ 0 := by
                intro h
                have := Hou.out
                rw [h] at this
                cases this
              have hlt := pk_lt hpk
              simp only [Option.getD_some, Option.isSome_some] at hU ha3 ⊢
              go_wp2
              go_meet
              case rel =>
                subst hU
                exact ⟨rfl, (hk2.dr _).st _ _, by rw [← ha3]; exact (hrd2.drewN _).set1⟩
          case rest =>
            obtain ⟨rfl, hk3, hrd3⟩ := hcut
            go_wp2
            have hpos : ∀ n : Nat, (0 : Int) < ((10 ^ n : Nat) : Int) := fun n => by
              have : 0 < 10 ^ n := Nat.pow_pos (by decide)
              omega
            have hnU : (n1 : Int) * U ≤ 10000000000000000 ∧ 0 ≤ (n1 : Int) * U := ⟨by
              have h1 : (n1 : Int) * U ≤ 1000000000 * 10000000 := Int.mul_le_mul (by omega) hUb.2 hUb.1 (by decide)
              omega, Int.mul_nonneg (by omega) hUb.1⟩
            have hPU : (P : Int) * U ≤ 10000000000000000 ∧ 0 ≤ (P : Int) * U := ⟨by
              have h1 : (P : Int) * U ≤ 1000000000 * 10000000 := Int.mul_le_mul (by omega) hUb.2 hUb.1 (by decide)
              omega, Int.mul_nonneg (by omega) hUb.1⟩
            have hq : 0 ≤ ((P : Int) * U).tdiv ((10 ^ pl : Nat) : Int) ∧ ((P : Int) * U).tdiv ((10 ^ pl : Nat) : Int) ≤ 10000000000000000 := by
              refine ⟨Int.tdiv_nonneg hPU.2 (by have := hpos pl; omega), ?_⟩
              rw [Int.tdiv_eq_ediv_of_nonneg hPU.2]
              exact Int.le_trans (Int.ediv_le_self _ hPU.2) hPU.1
            have m1 := wrap64_in ((n1 : Int) * U) (by omega) (by omega)
            have m2 := wrap64_in ((P : Int) * U) (by omega) (by omega)
            obtain ⟨q, hqq⟩ : ∃ q, ((P : Int) * U).tdiv ((10 ^ pl : Nat) : Int) = q := ⟨_, rfl⟩
            rw [hqq] at HO2 hq
            have m3 := wrap64_in ((n1 : Int) * U + q) (by omega) (by omega)
            have m4 := wrap64_in q (by omega) (by omega)
            have Hq := Lib.hid hqq
            clear hqq
            have hle := hk3.size
            go_loopg [10, 77] pl (fun k v i wr => ∃ j pw : Nat, v = .int .i64 pw ∧ i = .int .i64 j ∧ j + k = pl ∧ Hid (10 ^ j = pw) ∧ Kp b w wr ∧ Rd wr b c a3)
            case atStart => exact ⟨0, 1, rfl, rfl, by omega, Lib.hid rfl, hk3, hrd3⟩
            case round =>
              obtain ⟨j, pw, rfl, rfl, hjk, Hpw, hk4, hrd4⟩ := hrel
              have hpw : 0 < pw ∧ pw ≤ 1000000000 := by
                have h1 : 10 ^ j ≤ 10 ^ 9 := Nat.pow_le_pow_right (by decide) (by omega)
                have e9 : 10 ^ 9 = 1000000000 := by decide
                have h2 : 0 < 10 ^ j := Nat.pow_pos (by decide)
                have := Hpw.out
                omega
              obtain ⟨hpw0, hpw1⟩ := hpw
              by_cases hlt : j < pl
              · have hlt' : (j : Int) < pl := by omega
                obtain ⟨k', rfl⟩ : ∃ k', gk = k' + 1 := ⟨gk - 1, by omega⟩
                go_wp2
                go_roundg k'
                case measure => omega
                case rel => exact ⟨j + 1, pw * 10, by go_num, by go_num, by omega, Lib.hid (by rw [Nat.pow_succ, Hpw.out]), hk4, hrd4⟩
              · obtain rfl : j = pl := by omega
                have hne : ¬ (pw : Int) = 0 := by omega
                have hq2 : ((P : Int) * U).tdiv (pw : Int) = q := by rw [← Hpw.out]; exact Hq.out
                have hH := fun wz (hz : Rd wz b c a3) => held_calls wz b a3 c ((n1 : Int) * U + q) hz
                simp only [HO2.out] at hH
                have HH := Lib.hid hH
                clear hH
                rcases o with ⟨n', t⟩ | k | _
                · obtain rfl : t = a3 := heldO_ok HO2.out
                  go_wp2_with (go_at_call 41; (with_reducible refine (HH.out _ hrd4).mono ?_); rintro e w5 ⟨rfl, rfl⟩)
                  go_ret
                  exact ⟨rfl, hk4, hrd4⟩
                · go_wp2_with (go_at_call 41; (with_reducible refine (HH.out _ hrd4).mono ?_); rintro e w5 ⟨rfl, rfl⟩)
                  exact ⟨rfl, rfl, hk4⟩
                · exact absurd HO2.out heldO_stuck
end Go.Proofs.Ytkomofphgnekoaa

set_option linter.unusedVariables false
set_option linter.unusedSimpArgs false
namespace Go.Proofs.Ytkomofphgnekoaa
open Go.Shelf Go.RowKit Go.Lib Go.Aids Go.MapLit

def opsV : Array Value := #[.string ⟨#[60, 61]⟩, .string ⟨#[62, 61]⟩, .string ⟨#[61, 61]⟩, .string ⟨#[43]⟩, .string ⟨#[45]⟩, .string ⟨#[42]⟩, .string ⟨#[47]⟩, .string ⟨#[37]⟩, .string ⟨#[60]⟩, .string ⟨#[62]⟩, .string ⟨#[61]⟩, .string ⟨#[38]⟩, .string ⟨#[58]⟩]
theorem operators_calls (w : World) : Calls Try.prog 42 #[] w fun e w' => e = .returned (.slice (some ⟨w.heap.size, 0, none⟩) 13 13) ∧ w' = w.alloc (.cells opsV 9) := by
  go_enter Try.func42, Try.ntmps42
  go_wp2
  go_ret
  exact ⟨rfl, rfl⟩
theorem opsV_at (i : Nat) (hi : i < 13) : opsV[i]? = some (.string (ops.getD i ⟨#[]⟩)) := by
  have : ∀ i, i < 13 → opsV[i]? = some (.string (ops.getD i ⟨#[]⟩)) := by
    intro i hi
    match i, hi with
    | 0, _ | 1, _ | 2, _ | 3, _ | 4, _ | 5, _ | 6, _ | 7, _ | 8, _ | 9, _ | 10, _ | 11, _ | 12, _ => rfl
  exact this i hi
theorem run_tail (s : ByteArray) (a : Nat) (h : a ≤ s.size) (W : World) :
    (Instr.slice 9 (.string s) (some (.int .i64 a)) none none).run Try.prog W = .ok (.string (s.extract a s.size)) W := by
  have e1 := run_sliceBound (P := Try.prog) (w := W) .i64 (a : Int) s.size .sliceB (by omega) (by omega)
  simp [Instr.slice, run_underlying Try.underlying9, Instr.sliceBounds, e1, Result.andThen]
theorem tail_list (s : ByteArray) (a : Nat) : (s.extract a s.size).data.toList = s.data.toList.drop a := by
  rw [ByteArray.data_extract, Array.toList_extract, List.extract_eq_take_drop]
  refine List.take_of_length_le ?_
  rw [List.length_drop]
  exact Nat.le_refl _
theorem bit_calls (x : Bool) (w : World) : Calls Try.prog 44 #[.bool x] w fun e w' => e = .returned (.int .i64 (bitO x)) ∧ w' = w := by
  cases x
  · go_enter Try.func44, Try.ntmps44
    go_wp2
    go_ret
    exact ⟨rfl, rfl⟩
  · go_enter Try.func44, Try.ntmps44
    go_wp2
    go_ret
    exact ⟨rfl, rfl⟩

def opName (s : ByteArray) (a : Nat) : ByteArray := (operL s a).getD ⟨#[]⟩
set_option maxHeartbeats 2000000 in
theorem operator_calls (w : World) (b a : Nat) (c : Cx) (h : Rd w b c a) (hs : c.s.size ≤ 4611686018427387904) (ha : a ≤ c.s.size) :
    Calls Try.prog 30 #[.pointer (some ⟨b, 0, none⟩)] w fun e w' => e = .returned (.string (opName c.s a)) ∧ Kp b w w' ∧ Rd w' b c (a + (opName c.s a).size) := by
  obtain ⟨r, hr⟩ : ∃ r, opName c.s a = r := ⟨_, rfl⟩
  rw [hr]
  have Hr := Lib.hid hr
  clear hr
  have hbw := h.lt
  have ht := fun W => run_tail c.s a ha W
  go_enter Try.func30, Try.ntmps30
  go_wp2_with fail
  refine (operators_calls w).mono ?_
  rintro e w1 ⟨rfl, hw1⟩
  have hk1 : Kp b w w1 := by rw [hw1]; exact Kp.below ((Below.refl _ _).alloc (Nat.le_refl _) _)
  have hr1 : Rd w1 b c a := by rw [hw1]; exact h.below ((Below.refl _ _).alloc (Nat.le_refl _) _)
  have hcell : Hid (∀ i, i < 13 → w1.cell? ⟨w.heap.size, i, none⟩ = some (.string (ops.getD i ⟨#[]⟩))) := by
    intro i hi
    rw [hw1]
    have e := heap_alloc_new w (.cells opsV 9)
    unfold World.cell?
    simp only []
    rw [e]
    exact opsV_at i hi
  clear hw1
  go_wp2
  go_loopg [7] 13 (fun k v wr => ∃ i : Nat, v = .int .i64 i ∧ i + k = 13 ∧ Kp b w wr ∧ Rd wr b c a ∧ Hid (∀ i, i < 13 → wr.cell? ⟨w.heap.size, i, none⟩ = some (.string (ops.getD i ⟨#[]⟩))) ∧ Hid (((ops.drop i).find? (fun p => pre c.s p a)).getD ⟨#[]⟩ = r))
  case atStart => exact ⟨0, rfl, rfl, hk1, hr1, hcell, Lib.hid Hr.out⟩
  case round =>
    obtain ⟨i, rfl, hik, hkp, hrd, hcell, H⟩ := hrel
    obtain ⟨h0, h1, -, -, -, -, -, -, hf⟩ := hrd.cells
    by_cases hi : i < 13
    · obtain ⟨k', rfl⟩ : ∃ k', gk = k' + 1 := ⟨gk - 1, by omega⟩
      have hi' : (i : Int) < 13 := by omega
      have hc := hcell.out i hi
      obtain ⟨p, hp⟩ : ∃ p, ops.getD i ⟨#[]⟩ = p := ⟨_, rfl⟩
      rw [hp] at hc
      have hH := H.out
      have hdrop : ops.drop i = p :: ops.drop (i + 1) := by
        rw [List.drop_eq_getElem_cons (show i < ops.length from hi)]
        congr 1
        rw [← hp, List.getD_eq_getElem?_getD, List.getElem?_eq_getElem (show i < ops.length from hi)]
        rfl
      rw [hdrop, List.find?_cons] at hH
      have hps : p.size ≤ 2 := by
        have : ∀ q ∈ ops, q.size ≤ 2 := by decide
        refine this p ?_
        rw [← hp, List.getD_eq_getElem?_getD, List.getElem?_eq_getElem (show i < ops.length from hi)]
        exact List.getElem_mem _
      have hpre : Lib.hasPrefix (c.s.extract a c.s.size).data.toList p.data.toList = pre c.s p a := by rw [tail_list]; rfl
      have hcp := fun W => Try.strings_HasPrefix (c.s.extract a c.s.size) p W
      rw [hpre] at hcp
      rcases hb : pre c.s p a with _ | _
      · rw [hb] at hH hcp
        have Hcp := Lib.hid hcp
        clear hcp hpre
        have hH' := Lib.hid hH
        clear hH H hdrop hp hb
        go_wp2
        go_quiet (first | (go_at_call 43; exact Calls.quiet_of_same (Hcp.out _)))
        go_wp2
        go_roundg k'
        case measure => omega
        case rel => exact ⟨i + 1, by go_num, by omega, hkp.dr _, hrd.drewN _, hcell, hH'⟩
      · rw [hb] at hH hcp
        have Hcp := Lib.hid hcp
        clear hcp hpre
        have hH' := Lib.hid hH
        clear hH H hdrop hp hb
        go_wp2
        go_quiet (first | (go_at_call 43; exact Calls.quiet_of_same (Hcp.out _)))
        go_wp2
        go_ret
        obtain rfl : p = r := hH'.out
        exact ⟨rfl, by (repeat (first | assumption | with_reducible exact Kp.refl _ _ | with_reducible apply Kp.dr | with_reducible apply Kp.st)), (hrd.drewN _).set (a + p.size)⟩
    · obtain rfl : i = 13 := by omega
      have hH := H.out
      go_wp2
      go_ret
      obtain rfl : (⟨#[]⟩ : ByteArray) = r := hH
      exact ⟨rfl, by (repeat (first | assumption | with_reducible exact Kp.refl _ _ | with_reducible apply Kp.dr | with_reducible apply Kp.st)), by (repeat (first | assumption | with_reducible apply Rd.drewN | with_reducible apply Rd.set1 | with_reducible apply Rd.set))⟩
end Go.Proofs.Ytkomofphgnekoaa

set_option linter.unusedVariables false
set_option linter.unusedSimpArgs false
namespace Go.Proofs.Ytkomofphgnekoaa
open Go.Shelf Go.RowKit Go.Lib Go.Aids Go.MapLit

/-- How a quick Out ends: a number, or what is thrown. -/
def Ends (o : Out) (e : Ending) : Prop :=
  match o with
  | .ok n _ => e = .returned (.int .i64 n)
  | .die k => e = thrown k
  | .stuck => False
theorem held_ends (w : World) (b a : Nat) (c : Cx) (n : Int) (h : Rd w b c a) :
    Calls Try.prog 41 #[.pointer (some ⟨b, 0, none⟩), .int .i64 n] w fun e w' => w' = w ∧ Ends (heldO c n a) e :=
  (held_calls w b a c n h).mono fun e w' hh => hh

theorem mul_fits (x y : Int) (hx : -1000000000 ≤ x ∧ x ≤ 1000000000) (hy : -1000000000 ≤ y ∧ y ≤ 1000000000) : -1000000000000000000 ≤ x * y ∧ x * y ≤ 1000000000000000000 := by
  have h : (x * y).natAbs ≤ 1000000000 * 1000000000 := by
    rw [Int.natAbs_mul]
    exact Nat.mul_le_mul (by omega) (by omega)
  omega
theorem tdiv_fits (x y : Int) (hx : -1000000000 ≤ x ∧ x ≤ 1000000000) : -1000000000 ≤ x.tdiv y ∧ x.tdiv y ≤ 1000000000 := by
  have h : (x.tdiv y).natAbs ≤ x.natAbs := by rw [Int.natAbs_tdiv]; exact Nat.div_le_self _ _
  omega
theorem tmod_fits (x y : Int) (hx : -1000000000 ≤ x ∧ x ≤ 1000000000) : -1000000000 ≤ x.tmod y ∧ x.tmod y ≤ 1000000000 := by
  have h : (x.tmod y).natAbs ≤ x.natAbs := by rw [Int.natAbs_tmod]; exact Nat.mod_le _ _
  omega

set_option maxRecDepth 100000 in
set_option maxHeartbeats 8000000 in
theorem reckon_live (w : World) (b a : Nat) (c : Cx) (op : ByteArray) (x y : Int) (h : Rd w b c a) (hop : op ∈ ops) (hx : -1000000000 ≤ x ∧ x ≤ 1000000000) (hy : -1000000000 ≤ y ∧ y ≤ 1000000000)
    (hm : c.mute = false) (hz : ¬ ((op = ⟨#[47]⟩ ∨ op = ⟨#[37]⟩) ∧ y = 0)) :
    Calls Try.prog 31 #[.pointer (some ⟨b, 0, none⟩), .string op, .int .i64 x, .int .i64 y] w fun e w' => w' = w ∧ Ends (heldO c (reckonV op x y) a) e := by
  obtain ⟨-, -, -, -, -, -, -, h7, -⟩ := h.cells
  rw [hm] at h7
  have m1 := mul_fits x y hx hy
  have m2 := tdiv_fits x y hx
  have m3 := tmod_fits x y hx
  have w1 := wrap64_in (x * y) (by omega) (by omega)
  have w2 := wrap64_in (x.tdiv y) (by omega) (by omega)
  have w3 := wrap64_in (x.tmod y) (by omega) (by omega)
  obtain ⟨hx0, hx1⟩ := hx
  obtain ⟨hy0, hy1⟩ := hy
  clear m1 m2 m3
  obtain ⟨v, hv⟩ : ∃ v, reckonV op x y = v := ⟨_, rfl⟩
  obtain ⟨o, ho⟩ : ∃ o, heldO c v a = o := ⟨_, rfl⟩
  have Hh := Lib.hid (fun wz (hz : Rd wz b c a) => held_ends wz b a c (reckonV op x y) hz)
  rw [hv, ho]
  rw [hv, ho] at Hh
  have Hv := Lib.hid hv
  have HO0 := Lib.hid ho
  clear hv ho
  simp only [ops, List.mem_cons, List.not_mem_nil, or_false] at hop
  rcases o with ⟨n, t⟩ | k | _
  · rcases hop with rfl | rfl | rfl | rfl | rfl | rfl | rfl | rfl | rfl | rfl | rfl | rfl | rfl
    · have hv : (bitO (decide (x ≤ y))) = v := Hv.out
      go_enter Try.func31, Try.ntmps31
      go_wp2_with (first | (go_at_call 44; (with_reducible refine (bit_calls _ _).mono ?_); rintro e w1 ⟨rfl, rfl⟩) | (go_at_call 41; (with_reducible refine (Hh.out _ h).mono ?_); rintro e w5 ⟨rfl, rfl⟩))
      go_ret
      exact ⟨rfl, rfl⟩
    · have hv : (bitO (decide (x ≥ y))) = v := Hv.out
      go_enter Try.func31, Try.ntmps31
      go_wp2_with (first | (go_at_call 44; (with_reducible refine (bit_calls _ _).mono ?_); rintro e w1 ⟨rfl, rfl⟩) | (go_at_call 41; (with_reducible refine (Hh.out _ h).mono ?_); rintro e w5 ⟨rfl, rfl⟩))
      go_ret
      exact ⟨rfl, rfl⟩
    · have hv : (bitO (decide (x = y))) = v := Hv.out
      have hv2 : bitO (x == y) = v := by rw [← hv]; congr 1
      go_enter Try.func31, Try.ntmps31
      go_wp2_with (first | (go_at_call 44; (with_reducible refine (bit_calls _ _).mono ?_); rintro e w1 ⟨rfl, rfl⟩) | (go_at_call 41; (with_reducible refine (Hh.out _ h).mono ?_); rintro e w5 ⟨rfl, rfl⟩))
      go_ret
      exact ⟨rfl, rfl⟩
    · have hv : x + y = v := Hv.out
      go_enter Try.func31, Try.ntmps31
      go_wp2_with (first | (go_at_call 44; (with_reducible refine (bit_calls _ _).mono ?_); rintro e w1 ⟨rfl, rfl⟩) | (go_at_call 41; (with_reducible refine (Hh.out _ h).mono ?_); rintro e w5 ⟨rfl, rfl⟩))
      go_ret
      exact ⟨rfl, rfl⟩
    · have hv : x - y = v := Hv.out
      go_enter Try.func31, Try.ntmps31
      go_wp2_with (first | (go_at_call 44; (with_reducible refine (bit_calls _ _).mono ?_); rintro e w1 ⟨rfl, rfl⟩) | (go_at_call 41; (with_reducible refine (Hh.out _ h).mono ?_); rintro e w5 ⟨rfl, rfl⟩))
      go_ret
      exact ⟨rfl, rfl⟩
    · have hv : x * y = v := Hv.out
      have hwv : wrap64 v = v := by rw [← hv]; exact w1
      go_enter Try.func31, Try.ntmps31
      go_wp2_with (first | (go_at_call 44; (with_reducible refine (bit_calls _ _).mono ?_); rintro e w1 ⟨rfl, rfl⟩) | (go_at_call 41; (with_reducible refine (Hh.out _ h).mono ?_); rintro e w5 ⟨rfl, rfl⟩))
      go_ret
      exact ⟨rfl, rfl⟩
    · have hv : x.tdiv y = v := Hv.out
      have hwv : wrap64 v = v := by rw [← hv]; exact w2
      have hy : ¬ y = 0 := fun hy => hz ⟨by simp, hy⟩
      go_enter Try.func31, Try.ntmps31
      go_wp2_with (first | (go_at_call 44; (with_reducible refine (bit_calls _ _).mono ?_); rintro e w1 ⟨rfl, rfl⟩) | (go_at_call 41; (with_reducible refine (Hh.out _ h).mono ?_); rintro e w5 ⟨rfl, rfl⟩))
      go_ret
      exact ⟨rfl, rfl⟩
    · have hv : x.tmod y = v := Hv.out
      have hwv : wrap64 v = v := by rw [← hv]; exact w3
      have hy : ¬ y = 0 := fun hy => hz ⟨by simp, hy⟩
      go_enter Try.func31, Try.ntmps31
      go_wp2_with (first | (go_at_call 44; (with_reducible refine (bit_calls _ _).mono ?_); rintro e w1 ⟨rfl, rfl⟩) | (go_at_call 41; (with_reducible refine (Hh.out _ h).mono ?_); rintro e w5 ⟨rfl, rfl⟩))
      go_ret
      exact ⟨rfl, rfl⟩
    · have hv : (bitO (decide (x < y))) = v := Hv.out
      go_enter Try.func31, Try.ntmps31
      go_wp2_with (first | (go_at_call 44; (with_reducible refine (bit_calls _ _).mono ?_); rintro e w1 ⟨rfl, rfl⟩) | (go_at_call 41; (with_reducible refine (Hh.out _ h).mono ?_); rintro e w5 ⟨rfl, rfl⟩))
      go_ret
      exact ⟨rfl, rfl⟩
    · have hv : (bitO (decide (x > y))) = v := Hv.out
      go_enter Try.func31, Try.ntmps31
      go_wp2_with (first | (go_at_call 44; (with_reducible refine (bit_calls _ _).mono ?_); rintro e w1 ⟨rfl, rfl⟩) | (go_at_call 41; (with_reducible refine (Hh.out _ h).mono ?_); rintro e w5 ⟨rfl, rfl⟩))
      go_ret
      exact ⟨rfl, rfl⟩
    · have hv : (bitO (decide (x = y))) = v := Hv.out
      have hv2 : bitO (x == y) = v := by rw [← hv]; congr 1
      go_enter Try.func31, Try.ntmps31
      go_wp2_with (first | (go_at_call 44; (with_reducible refine (bit_calls _ _).mono ?_); rintro e w1 ⟨rfl, rfl⟩) | (go_at_call 41; (with_reducible refine (Hh.out _ h).mono ?_); rintro e w5 ⟨rfl, rfl⟩))
      go_ret
      exact ⟨rfl, rfl⟩
    · have hv : bitO (decide (x > 0) && decide (y > 0)) = v := Hv.out
      by_cases p1 : 0 < x <;> by_cases p2 : 0 < y
      all_goals
        simp only [p1, p2, gt_iff_lt, decide_true, decide_false, Bool.and_true, Bool.and_false, Bool.true_and, Bool.false_and, Bool.or_true, Bool.or_false, Bool.true_or, Bool.false_or] at hv
        go_enter Try.func31, Try.ntmps31
        go_wp2_with (first | (go_at_call 44; (with_reducible refine (bit_calls _ _).mono ?_); rintro e w1 ⟨rfl, rfl⟩) | (go_at_call 41; (with_reducible refine (Hh.out _ h).mono ?_); rintro e w5 ⟨rfl, rfl⟩))
        go_ret
        exact ⟨rfl, rfl⟩
    · have hv : bitO (decide (x > 0) || decide (y > 0)) = v := Hv.out
      by_cases p1 : 0 < x <;> by_cases p2 : 0 < y
      all_goals
        simp only [p1, p2, gt_iff_lt, decide_true, decide_false, Bool.and_true, Bool.and_false, Bool.true_and, Bool.false_and, Bool.or_true, Bool.or_false, Bool.true_or, Bool.false_or] at hv
        go_enter Try.func31, Try.ntmps31
        go_wp2_with (first | (go_at_call 44; (with_reducible refine (bit_calls _ _).mono ?_); rintro e w1 ⟨rfl, rfl⟩) | (go_at_call 41; (with_reducible refine (Hh.out _ h).mono ?_); rintro e w5 ⟨rfl, rfl⟩))
        go_ret
        exact ⟨rfl, rfl⟩
  · rcases hop with rfl | rfl | rfl | rfl | rfl | rfl | rfl | rfl | rfl | rfl | rfl | rfl | rfl
    · have hv : (bitO (decide (x ≤ y))) = v := Hv.out
      go_enter Try.func31, Try.ntmps31
      go_wp2_with (first | (go_at_call 44; (with_reducible refine (bit_calls _ _).mono ?_); rintro e w1 ⟨rfl, rfl⟩) | (go_at_call 41; (with_reducible refine (Hh.out _ h).mono ?_); rintro e w5 ⟨rfl, rfl⟩))
      exact ⟨rfl, rfl, rfl⟩
    · have hv : (bitO (decide (x ≥ y))) = v := Hv.out
      go_enter Try.func31, Try.ntmps31
      go_wp2_with (first | (go_at_call 44; (with_reducible refine (bit_calls _ _).mono ?_); rintro e w1 ⟨rfl, rfl⟩) | (go_at_call 41; (with_reducible refine (Hh.out _ h).mono ?_); rintro e w5 ⟨rfl, rfl⟩))
      exact ⟨rfl, rfl, rfl⟩
    · have hv : (bitO (decide (x = y))) = v := Hv.out
      have hv2 : bitO (x == y) = v := by rw [← hv]; congr 1
      go_enter Try.func31, Try.ntmps31
      go_wp2_with (first | (go_at_call 44; (with_reducible refine (bit_calls _ _).mono ?_); rintro e w1 ⟨rfl, rfl⟩) | (go_at_call 41; (with_reducible refine (Hh.out _ h).mono ?_); rintro e w5 ⟨rfl, rfl⟩))
      exact ⟨rfl, rfl, rfl⟩
    · have hv : x + y = v := Hv.out
      go_enter Try.func31, Try.ntmps31
      go_wp2_with (first | (go_at_call 44; (with_reducible refine (bit_calls _ _).mono ?_); rintro e w1 ⟨rfl, rfl⟩) | (go_at_call 41; (with_reducible refine (Hh.out _ h).mono ?_); rintro e w5 ⟨rfl, rfl⟩))
      exact ⟨rfl, rfl, rfl⟩
    · have hv : x - y = v := Hv.out
      go_enter Try.func31, Try.ntmps31
      go_wp2_with (first | (go_at_call 44; (with_reducible refine (bit_calls _ _).mono ?_); rintro e w1 ⟨rfl, rfl⟩) | (go_at_call 41; (with_reducible refine (Hh.out _ h).mono ?_); rintro e w5 ⟨rfl, rfl⟩))
      exact ⟨rfl, rfl, rfl⟩
    · have hv : x * y = v := Hv.out
      have hwv : wrap64 v = v := by rw [← hv]; exact w1
      go_enter Try.func31, Try.ntmps31
      go_wp2_with (first | (go_at_call 44; (with_reducible refine (bit_calls _ _).mono ?_); rintro e w1 ⟨rfl, rfl⟩) | (go_at_call 41; (with_reducible refine (Hh.out _ h).mono ?_); rintro e w5 ⟨rfl, rfl⟩))
      exact ⟨rfl, rfl, rfl⟩
    · have hv : x.tdiv y = v := Hv.out
      have hwv : wrap64 v = v := by rw [← hv]; exact w2
      have hy : ¬ y = 0 := fun hy => hz ⟨by simp, hy⟩
      go_enter Try.func31, Try.ntmps31
      go_wp2_with (first | (go_at_call 44; (with_reducible refine (bit_calls _ _).mono ?_); rintro e w1 ⟨rfl, rfl⟩) | (go_at_call 41; (with_reducible refine (Hh.out _ h).mono ?_); rintro e w5 ⟨rfl, rfl⟩))
      exact ⟨rfl, rfl, rfl⟩
    · have hv : x.tmod y = v := Hv.out
      have hwv : wrap64 v = v := by rw [← hv]; exact w3
      have hy : ¬ y = 0 := fun hy => hz ⟨by simp, hy⟩
      go_enter Try.func31, Try.ntmps31
      go_wp2_with (first | (go_at_call 44; (with_reducible refine (bit_calls _ _).mono ?_); rintro e w1 ⟨rfl, rfl⟩) | (go_at_call 41; (with_reducible refine (Hh.out _ h).mono ?_); rintro e w5 ⟨rfl, rfl⟩))
      exact ⟨rfl, rfl, rfl⟩
    · have hv : (bitO (decide (x < y))) = v := Hv.out
      go_enter Try.func31, Try.ntmps31
      go_wp2_with (first | (go_at_call 44; (with_reducible refine (bit_calls _ _).mono ?_); rintro e w1 ⟨rfl, rfl⟩) | (go_at_call 41; (with_reducible refine (Hh.out _ h).mono ?_); rintro e w5 ⟨rfl, rfl⟩))
      exact ⟨rfl, rfl, rfl⟩
    · have hv : (bitO (decide (x > y))) = v := Hv.out
      go_enter Try.func31, Try.ntmps31
      go_wp2_with (first | (go_at_call 44; (with_reducible refine (bit_calls _ _).mono ?_); rintro e w1 ⟨rfl, rfl⟩) | (go_at_call 41; (with_reducible refine (Hh.out _ h).mono ?_); rintro e w5 ⟨rfl, rfl⟩))
      exact ⟨rfl, rfl, rfl⟩
    · have hv : (bitO (decide (x = y))) = v := Hv.out
      have hv2 : bitO (x == y) = v := by rw [← hv]; congr 1
      go_enter Try.func31, Try.ntmps31
      go_wp2_with (first | (go_at_call 44; (with_reducible refine (bit_calls _ _).mono ?_); rintro e w1 ⟨rfl, rfl⟩) | (go_at_call 41; (with_reducible refine (Hh.out _ h).mono ?_); rintro e w5 ⟨rfl, rfl⟩))
      exact ⟨rfl, rfl, rfl⟩
    · have hv : bitO (decide (x > 0) && decide (y > 0)) = v := Hv.out
      by_cases p1 : 0 < x <;> by_cases p2 : 0 < y
      all_goals
        simp only [p1, p2, gt_iff_lt, decide_true, decide_false, Bool.and_true, Bool.and_false, Bool.true_and, Bool.false_and, Bool.or_true, Bool.or_false, Bool.true_or, Bool.false_or] at hv
        go_enter Try.func31, Try.ntmps31
        go_wp2_with (first | (go_at_call 44; (with_reducible refine (bit_calls _ _).mono ?_); rintro e w1 ⟨rfl, rfl⟩) | (go_at_call 41; (with_reducible refine (Hh.out _ h).mono ?_); rintro e w5 ⟨rfl, rfl⟩))
        exact ⟨rfl, rfl, rfl⟩
    · have hv : bitO (decide (x > 0) || decide (y > 0)) = v := Hv.out
      by_cases p1 : 0 < x <;> by_cases p2 : 0 < y
      all_goals
        simp only [p1, p2, gt_iff_lt, decide_true, decide_false, Bool.and_true, Bool.and_false, Bool.true_and, Bool.false_and, Bool.or_true, Bool.or_false, Bool.true_or, Bool.false_or] at hv
        go_enter Try.func31, Try.ntmps31
        go_wp2_with (first | (go_at_call 44; (with_reducible refine (bit_calls _ _).mono ?_); rintro e w1 ⟨rfl, rfl⟩) | (go_at_call 41; (with_reducible refine (Hh.out _ h).mono ?_); rintro e w5 ⟨rfl, rfl⟩))
        exact ⟨rfl, rfl, rfl⟩
  · exact absurd HO0.out heldO_stuck
end Go.Proofs.Ytkomofphgnekoaa

set_option linter.unusedVariables false
set_option linter.unusedSimpArgs false
namespace Go.Proofs.Ytkomofphgnekoaa
open Go.Shelf Go.RowKit Go.Lib Go.Aids Go.MapLit

set_option maxRecDepth 100000 in
set_option maxHeartbeats 1000000 in
theorem reckon_calls (w : World) (b a : Nat) (c : Cx) (op : ByteArray) (x y : Int) (h : Rd w b c a) (hop : op ∈ ops) (hx : -1000000000 ≤ x ∧ x ≤ 1000000000) (hy : -1000000000 ≤ y ∧ y ≤ 1000000000) :
    Calls Try.prog 31 #[.pointer (some ⟨b, 0, none⟩), .string op, .int .i64 x, .int .i64 y] w fun e w' => w' = w ∧ Ends (reckonO c op x y a) e := by
  unfold reckonO
  rcases hm : c.mute with _ | _
  · rw [if_neg (by simp)]
    by_cases hz : (op = ⟨#[47]⟩ ∨ op = ⟨#[37]⟩) ∧ y = 0
    · rw [if_pos hz]
      obtain ⟨hz1, rfl⟩ := hz
      obtain ⟨-, -, -, -, -, -, -, h7, -⟩ := h.cells
      rw [hm] at h7
      rcases hz1 with rfl | rfl
      all_goals
        go_enter Try.func31, Try.ntmps31
        go_wp2
        exact ⟨rfl, rfl, rfl⟩
    · rw [if_neg hz]
      exact reckon_live w b a c op x y h hop hx hy hm hz
  · rw [if_pos rfl]
    obtain ⟨-, -, -, -, -, -, -, h7, -⟩ := h.cells
    rw [hm] at h7
    go_enter Try.func31, Try.ntmps31
    go_wp2
    go_ret
    exact ⟨rfl, rfl⟩

theorem frame27 (v : Value) : #[v] ++ Array.replicate (Try.f27.ntmps - #[v].size) undef = #[v, undef, undef, undef, undef, undef, undef, undef, undef, undef, undef, undef, undef, undef, undef] := by rw [Try.ntmps27]; rfl

theorem catch_idle (p : Addr) (w : World) :
    CallsD Try.prog 27 #[.pointer (some p)] .returning w fun e u' w' => e = .returned (.tuple #[]) ∧ u' = .returning ∧ w' = w := by
  refine callsD_of_wpS Try.func27 rfl fun c₀ cs hu => ?_
  rw [frame27]
  apply wpS_seq
  apply wpS_region
  simp [wpOpsS, go_sem, recoverD, hu, Exit.thenS]
  refine wpS_of_wp ?_
  go_wp2
  cases c₀
  simp_all [bodyPostS, results, Try.results27]

theorem run_fail (k : Int) (W : World) : (Instr.typeAssert (.iface 74 (.agg #[.int .i64 k])) 20 74 true).run Try.prog W = .ok (.tuple #[.agg #[.int .i64 k], .bool true]) W := by
  simp [Instr.typeAssert, run_underlying Try.underlying74, go_sem, Result.andThen]
set_option maxHeartbeats 1000000 in
theorem catch_panicking (g : Nat) (x k : Int) (older : List PanicEntry) (w : World) (hg : g < w.heap.size) (hc : w.cell? ⟨g, 0, none⟩ = some (.int .i64 x)) (hz : w.frozen? ⟨g, 0, none⟩ = false) :
    CallsD Try.prog 27 #[.pointer (some ⟨g, 0, none⟩)] (.panicking ({ v := .iface 74 (.agg #[.int .i64 k]), recovered := false } :: older)) w fun e u' w' =>
      e = .returned (.tuple #[]) ∧ u' = .panicking ({ v := .iface 74 (.agg #[.int .i64 k]), recovered := true } :: older) ∧ ∃ o, w' = (w.setCell ⟨g, 0, none⟩ (.int .i64 k)).alloc o := by
  refine callsD_of_wpS Try.func27 rfl fun c₀ cs hu => ?_
  rw [frame27]
  apply wpS_seq
  apply wpS_region
  simp [wpOpsS, go_sem, recoverD, hu, Exit.thenS]
  refine wpS_of_wp ?_
  have hta := run_fail k
  go_wp2
  cases c₀
  simp_all [bodyPostS, results, Try.results27]
  exact ⟨_, rfl⟩

theorem fits1_calls (e r : Nat) (x : Int) (t : Bool) (u : FrameMode) (w : World) (he : w.cell? ⟨e, 0, none⟩ = some (.int .i64 x)) (hr : w.cell? ⟨r, 0, none⟩ = some (.bool t)) (hz : w.frozen? ⟨r, 0, none⟩ = false) :
    CallsD Try.prog 33 #[.pointer (some ⟨e, 0, none⟩), .pointer (some ⟨r, 0, none⟩)] u w fun en u' w' => u' = u ∧ en = .returned (.tuple #[]) ∧ w' = w.setCell ⟨r, 0, none⟩ (.bool (decide (x = 0))) := by
  go_enter_d Try.func33, Try.ntmps33
  go_wp2
  go_end0
  exact ⟨rfl, rfl⟩
theorem whole1_calls (e r : Nat) (x y : Int) (u : FrameMode) (w : World) (he : w.cell? ⟨e, 0, none⟩ = some (.int .i64 x)) (hr : w.cell? ⟨r, 0, none⟩ = some (.int .i64 y)) (hz : w.frozen? ⟨r, 0, none⟩ = false) :
    CallsD Try.prog 26 #[.pointer (some ⟨e, 0, none⟩), .pointer (some ⟨r, 0, none⟩)] u w fun en u' w' => u' = u ∧ en = .returned (.tuple #[]) ∧ w' = if x = 0 then w else w.setCell ⟨r, 0, none⟩ (.int .i64 0) := by
  by_cases hx : x = 0
  · rw [if_pos hx]
    go_enter_d Try.func26, Try.ntmps26
    go_wp2
    go_end0
    exact ⟨rfl, rfl⟩
  · rw [if_neg hx]
    go_enter_d Try.func26, Try.ntmps26
    go_wp2
    go_end0
    exact ⟨rfl, rfl⟩

/-- A variable of one cell. -/
def Bk (w : World) (b : Nat) (v : Value) (t : TypeId) : Prop := w.heap[b]? = some (.cells #[v] t (0, 0))
theorem Bk.cell {w : World} {b : Nat} {v : Value} {t : TypeId} (h : Bk w b v t) : w.cell? ⟨b, 0, none⟩ = some v := by
  unfold Bk at h; simp [World.cell?, h]
theorem Bk.free {w : World} {b : Nat} {v : Value} {t : TypeId} (h : Bk w b v t) : w.frozen? ⟨b, 0, none⟩ = false := by
  unfold Bk at h; simp [World.frozen?, h]
theorem Bk.lt {w : World} {b : Nat} {v : Value} {t : TypeId} (h : Bk w b v t) : b < w.heap.size := by
  unfold Bk at h; rw [Array.getElem?_eq_some_iff] at h; exact h.1
theorem Bk.new (w : World) (v : Value) (t : TypeId) : Bk (w.alloc (.cells #[v] t)) w.heap.size v t := heap_alloc_new w _
theorem Bk.alloc {w : World} {b : Nat} {v : Value} {t : TypeId} (h : Bk w b v t) (o : Obj) : Bk (w.alloc o) b v t := (Below.heap_alloc w o b h.lt).trans h
theorem Bk.kp {w w' : World} {b r : Nat} {v : Value} {t : TypeId} (h : Bk w b v t) (hk : Kp r w w') (hne : b ≠ r) : Bk w' b v t := (hk.block b h.lt hne).trans h
theorem Bk.set {w : World} {b : Nat} {v : Value} {t : TypeId} (h : Bk w b v t) (v' : Value) : Bk (w.setCell ⟨b, 0, none⟩ v') b v' t := by
  unfold Bk at *; simp [World.setCell, Array.getElem?_modify, h]
theorem Bk.other {w : World} {b g : Nat} {v : Value} {t : TypeId} (h : Bk w b v t) (v' : Value) (hne : b ≠ g) : Bk (w.setCell ⟨g, 0, none⟩ v') b v t := (Below.heap_setCell w _ v' b hne).trans h
theorem Rd.new (w : World) (c : Cx) (a : Nat) : Rd (w.alloc (.cells #[.string c.s, .int .i64 a, .int .u8 c.scale, .int .i64 c.size, .int .i64 c.vs, .int .i64 c.here, .map (some c.m), .bool c.mute] 50)) w.heap.size c a := ⟨heap_alloc_new w _⟩
theorem MapIs.lt {w : World} {m : Nat} {l : SS} (h : MapIs eK eV w m l) : m < w.heap.size := by
  have h' : w.heap[m]? = some _ := h
  rw [Array.getElem?_eq_some_iff] at h'; exact h'.1
/-- .. where all below a size that is no more than the block. -/
theorem Below.of_kp {w w1 w2 : World} {n b : Nat} (h : Below n w w1) (hk : Kp b w1 w2) (hb : n ≤ b) (hn : n ≤ w1.heap.size) : Below n w w2 :=
  ⟨hk.os.trans h.os, hk.tape.trans h.tape, hk.output.trans h.output, Nat.le_trans h.size hk.size, fun k hk' => (hk.block k (Nat.lt_of_lt_of_le hk' hn) (by omega)).trans (h.block k hk')⟩

def isOk : Out → Bool
  | .ok _ _ => true
  | _ => false

set_option maxHeartbeats 2000000 in
/-- fits, over a contract of operand at any block. -/
theorem fits_calls (w : World) (b a : Nat) (c : Cx) (o : Out) (h : St w b c a)
    (H : ∀ (w : World) (b : Nat), St w b c a → Calls Try.prog 28 #[.pointer (some ⟨b, 0, none⟩), .int .i64 0] w (Post b c w o)) (ho : o ≠ .stuck) (hk0 : ∀ k, o = .die k → k ≠ 0) :
    Calls Try.prog 17 #[.pointer (some ⟨b, 0, none⟩)] w fun e w' => e = .returned (.bool (isOk o)) ∧ Below w.heap.size w w' := by
  have hmf : ∀ (fn : Fn) (first cap : Array Value) (w : World), (Instr.makeFunc fn first cap).run Try.prog w = .ok (.func fn first cap) w := fun _ _ _ _ => rfl
  obtain ⟨h0, h1, h2, h3, h4, h5, h6, h7, hf⟩ := h.rd.cells
  have hb := h.rd.lt
  obtain ⟨W3, hW3⟩ : ∃ W, W = ((w.alloc (.cells #[.bool false] 4)).alloc (.cells #[.string c.s, .int .i64 a, .int .u8 c.scale, .int .i64 c.size, .int .i64 c.vs, .int .i64 c.here, .map (some c.m), .bool c.mute] 50)).alloc (.cells #[.int .i64 0] 26) := ⟨_, rfl⟩
  have hbel : Below w.heap.size w W3 := by rw [hW3]; exact (((Below.refl _ w).alloc (Nat.le_refl _) _).alloc (by simp) _).alloc (by simp; omega) _
  have hB0 : Bk W3 w.heap.size (.bool false) 4 := by rw [hW3]; exact ((Bk.new w _ _).alloc _).alloc _
  have hB2 : Bk W3 (w.heap.size + 1 + 1) (.int .i64 0) 26 := by
    rw [hW3]
    have := Bk.new ((w.alloc (.cells #[.bool false] 4)).alloc (.cells #[.string c.s, .int .i64 a, .int .u8 c.scale, .int .i64 c.size, .int .i64 c.vs, .int .i64 c.here, .map (some c.m), .bool c.mute] 50)) (.int .i64 0) 26
    simpa using this
  have hsz : W3.heap.size = w.heap.size + 3 := by rw [hW3]; simp
  have hSt : St W3 (w.heap.size + 1) c a := by
    refine ⟨?_, Go.MapLit.MapIs.below eK eV h.mp hbel, ?_⟩
    · rw [hW3]
      have := (Rd.new (w.alloc (.cells #[.bool false] 4)) c a).below ((Below.refl _ _).alloc (Nat.le_refl _) (.cells #[.int .i64 0] 26))
      simpa using this
    · have := MapIs.lt h.mp; omega
  have HC := Lib.hid (H W3 (w.heap.size + 1) hSt)
  clear H
  have HW3 := Lib.hid hW3.symm
  clear hW3
  rcases o with ⟨n, t⟩ | k | _
  · go_enter_defers Try.func17, Try.ntmps17
    go_wp2_with (go_at_call 28; rw [HW3.out]; (with_reducible refine HC.out.mono ?_); rintro e w4 ⟨rfl, hk4, hrd4⟩; have c0 := (hB0.kp hk4 (by omega)).cell; have f0 := (hB0.kp hk4 (by omega)).free)
    have e4 := hB2.kp hk4 (by omega)
    have o4 := hB0.kp hk4 (by omega)
    have o5 := o4.set (.bool true)
    have e5 := e4.other (g := w.heap.size) (.bool true) (by omega)
    refine leaves_cons (f := 27) (args := #[.pointer (some ⟨w.heap.size + 1 + 1, 0, none⟩)]) (by simp) (by simp [go_sem]) ?_
    refine (catch_idle _ _).mono ?_
    rintro e u' w'' ⟨rfl, rfl, rfl⟩
    refine leaves_cons (f := 33) (args := #[.pointer (some ⟨w.heap.size + 1 + 1, 0, none⟩), .pointer (some ⟨w.heap.size, 0, none⟩)]) (by simp [settle]) (by simp [go_sem]) ?_
    refine (fits1_calls _ _ 0 true _ _ e5.cell o5.cell o5.free).mono ?_
    rintro e u' w'' ⟨rfl, rfl, rfl⟩
    have c6 := (o5.set (.bool true)).cell
    have hB : Below w.heap.size w ((w4.setCell ⟨w.heap.size, 0, none⟩ (.bool true)).setCell ⟨w.heap.size, 0, none⟩ (.bool true)) := ((Below.of_kp hbel hk4 (by omega) (by omega)).setCell (Nat.le_refl _) _).setCell (Nat.le_refl _) _
    simp [Leaves, settle, results, Try.results17, go_sem, c6]
    exact ⟨rfl, hB⟩
  · go_enter_defers Try.func17, Try.ntmps17
    go_wp2_with (go_at_call 28; rw [HW3.out]; (with_reducible refine HC.out.mono ?_); rintro e w4 ⟨rfl, hk4⟩)
    have hk0' := hk0 k rfl
    have e4 := hB2.kp hk4 (by omega)
    have o4 := hB0.kp hk4 (by omega)
    refine leaves_cons (f := 27) (args := #[.pointer (some ⟨w.heap.size + 1 + 1, 0, none⟩)]) (by simp) (by simp [go_sem]) ?_
    refine (catch_panicking _ 0 k [] _ e4.lt e4.cell e4.free).mono ?_
    rintro e u' w'' ⟨rfl, rfl, oo, rfl⟩
    have e5 := (e4.set (.int .i64 k)).alloc oo
    have o5 := (o4.other (g := w.heap.size + 1 + 1) (.int .i64 k) (by omega)).alloc oo
    refine leaves_cons (f := 33) (args := #[.pointer (some ⟨w.heap.size + 1 + 1, 0, none⟩), .pointer (some ⟨w.heap.size, 0, none⟩)]) (by simp [settle]) (by simp [go_sem]) ?_
    refine (fits1_calls _ _ k false _ _ e5.cell o5.cell o5.free).mono ?_
    rintro e u' w'' ⟨rfl, rfl, rfl⟩
    have c6 := (o5.set (.bool (decide (k = 0)))).cell
    have hb4 : Below w.heap.size w w4 := Below.of_kp hbel hk4 (by omega) (by omega)
    have hs4 := hk4.size
    have hB := ((hb4.setCell (p := ⟨w.heap.size + 1 + 1, 0, none⟩) (by show w.heap.size ≤ w.heap.size + 1 + 1; omega) (.int .i64 k)).alloc (by simp; omega) oo).setCell (p := ⟨w.heap.size, 0, none⟩) (Nat.le_refl _) (.bool (decide (k = 0)))
    simp [Leaves, settle, results, Try.results17, go_sem, c6]
    exact ⟨by simp [hk0', isOk], hB⟩
  · exact absurd rfl ho
end Go.Proofs.Ytkomofphgnekoaa

set_option linter.unusedVariables false
set_option linter.unusedSimpArgs false
namespace Go.Proofs.Ytkomofphgnekoaa
open Go.Shelf Go.RowKit Go.Lib Go.Aids Go.MapLit

theorem isPre_len : ∀ (p l : List UInt8), p.isPrefixOf l = true → p.length ≤ l.length
  | [], _, _ => Nat.zero_le _
  | _ :: _, [], h => by simp [List.isPrefixOf] at h
  | x :: p, y :: l, h => by
    simp [List.isPrefixOf] at h
    have := isPre_len p l (by simpa using h.2)
    simpa using this
theorem operL_some {s : ByteArray} {a : Nat} {p : ByteArray} (h : operL s a = some p) : p ∈ ops ∧ (a ≤ s.size → a + p.size ≤ s.size) ∧ 0 < p.size := by
  unfold operL at h
  have hm := List.mem_of_find?_eq_some h
  have hp := List.find?_some h
  refine ⟨hm, fun ha => ?_, ?_⟩
  · unfold pre Lib.hasPrefix at hp
    have := isPre_len _ _ hp
    rw [List.length_drop] at this
    have e1 : p.data.toList.length = p.size := rfl
    have e2 : s.data.toList.length = s.size := rfl
    omega
  · have : ∀ q ∈ ops, 0 < q.size := by decide
    exact this p hm
theorem operL_name {s : ByteArray} {a : Nat} {p : ByteArray} (h : operL s a = some p) : opName s a = p ∧ p.toList.isEmpty = false := by
  have := operL_some h
  refine ⟨by unfold opName; rw [h]; rfl, ?_⟩
  have h2 : ∀ q ∈ ops, q.toList.isEmpty = false := by decide +kernel
  exact h2 p this.1

theorem heldO_bound {c : Cx} {n m : Int} {a t : Nat} (h : heldO c n a = .ok m t) : (-1000000000 ≤ m ∧ m ≤ 1000000000) ∧ t = a := by
  unfold heldO at h
  split at h
  · injection h with h1 h2; subst h1; exact ⟨by omega, h2.symm⟩
  · split at h
    · cases h
    · rename_i hb; unfold big at hb; injection h with h1 h2; subst h1; exact ⟨by omega, h2.symm⟩
theorem heldO_die {c : Cx} {n k : Int} {a : Nat} (h : heldO c n a = .die k) : k ≠ 0 := by
  unfold heldO at h
  split at h
  · cases h
  · split at h
    · injection h with h; omega
    · cases h
theorem numberO_bound {c : Cx} {a : Nat} {m : Int} {t : Nat} (ha : a ≤ c.s.size) (h : numberO c a = .ok m t) : (-1000000000 ≤ m ∧ m ≤ 1000000000) ∧ t ≤ c.s.size := by
  rw [numberO_two] at h
  have hb := dotO_bound c.s (rowF c.s 9 0 a).2 ((rowF_bound c.s 9 0 a).2.2.2 ha)
  obtain ⟨d, hd⟩ : ∃ d, dotO c.s (rowF c.s 9 0 a).2 = d := ⟨_, rfl⟩
  rw [hd] at h hb
  unfold number2 at h
  split at h
  · cases h
  · split at h
    · rename_i u hu
      obtain ⟨h1, rfl⟩ := heldO_bound h
      refine ⟨h1, ?_⟩
      have hlt : d.2.2 < c.s.size := pk_lt (fun h0 => by rw [h0] at hu; cases hu)
      omega
    · obtain ⟨h1, rfl⟩ := heldO_bound h
      exact ⟨h1, hb.2.2⟩
theorem numberO_die {c : Cx} {a : Nat} {k : Int} (h : numberO c a = .die k) : k ≠ 0 := by
  rw [numberO_two] at h
  unfold number2 at h
  split at h
  · injection h with h; omega
  · split at h
    · exact heldO_die h
    · exact heldO_die h
theorem reckonO_bound {c : Cx} {op : ByteArray} {x y m : Int} {a t : Nat} (h : reckonO c op x y a = .ok m t) : (-1000000000 ≤ m ∧ m ≤ 1000000000) ∧ t = a := by
  unfold reckonO at h
  split at h
  · injection h with h1 h2; subst h1; exact ⟨by omega, h2.symm⟩
  · split at h
    · cases h
    · exact heldO_bound h
theorem reckonO_die {c : Cx} {op : ByteArray} {x y k : Int} {a : Nat} (h : reckonO c op x y a = .die k) : k ≠ 0 := by
  unfold reckonO at h
  split at h
  · cases h
  · split at h
    · injection h with h; omega
    · exact heldO_die h
theorem reckonO_stuck {c : Cx} {op : ByteArray} {x y : Int} {a : Nat} : ¬ reckonO c op x y a = .stuck := by
  intro h
  unfold reckonO at h
  split at h
  · cases h
  · split at h
    · cases h
    · exact heldO_stuck h
def jobOk (c : Cx) : Job → Prop
  | .oper a _ => a ≤ c.s.size
  | .expr a _ => a ≤ c.s.size
  | .loop x a _ => a ≤ c.s.size ∧ -1000000000 ≤ x ∧ x ≤ 1000000000
theorem run_bound (c : Cx) : ∀ f j m t, jobOk c j → run c f j = .ok m t → (-1000000000 ≤ m ∧ m ≤ 1000000000) ∧ t ≤ c.s.size
  | 0, j, m, t, _, h => by cases j <;> cases h
  | f + 1, .oper a0 deep, m, t, hj, h => by
    have hs := skip_le c.s deep a0 hj
    simp only [run] at h
    obtain ⟨a, ha⟩ : ∃ a, skip c.s deep a0 = a := ⟨_, rfl⟩
    rw [ha] at h hs
    split at h
    · rename_i hb
      have hlt := pk_lt (s := c.s) (a := a) (by omega)
      split at h
      · rename_i x t' hr
        obtain ⟨h1, h2⟩ := run_bound c f (.oper (a + 1) deep) x t' (by show _ ≤ _; omega) hr
        split at h
        · injection h with e1 e2; subst e1; subst e2; exact ⟨by omega, h2⟩
        · split at h
          · injection h with e1 e2; subst e1; subst e2; exact ⟨by omega, h2⟩
          · split at h
            · injection h with e1 e2; subst e1; subst e2; exact ⟨by omega, h2⟩
            · split at h
              · obtain ⟨h3, rfl⟩ := heldO_bound h; exact ⟨h3, h2⟩
              · injection h with e1 e2; subst e1; subst e2; exact ⟨h1, h2⟩
      · rename_i hne
        exact absurd h (hne m t)
    · split at h
      · rename_i hb
        have hlt := pk_lt (s := c.s) (a := a) (by omega)
        split at h
        · cases h
        · split at h
          · rename_i x t' hr
            obtain ⟨h1, h2⟩ := run_bound c f (.expr (a + 1) (deep + 1)) x t' (by show _ ≤ _; omega) hr
            split at h
            · rename_i hp
              have hlt := pk_lt (s := c.s) (a := t') (by omega)
              injection h with e1 e2; subst e1; subst e2; exact ⟨h1, by omega⟩
            · cases h
          · rename_i hne
            exact absurd h (hne m t)
      · exact numberO_bound hs h
  | f + 1, .expr a deep, m, t, hj, h => by
    simp only [run] at h
    split at h
    · rename_i x t' hr
      obtain ⟨h1, h2⟩ := run_bound c f (.oper a deep) x t' hj hr
      exact run_bound c f (.loop x t' deep) m t ⟨h2, h1⟩ h
    · rename_i hne
      exact absurd h (hne m t)
  | f + 1, .loop x a0 deep, m, t, hj, h => by
    obtain ⟨hj1, hj2⟩ := hj
    have hs := skip_le c.s deep a0 hj1
    simp only [run] at h
    split at h
    · injection h with e1 e2; subst e1; subst e2; exact ⟨hj2, hs⟩
    · rename_i op hop
      obtain ⟨h1, h2, h3⟩ := operL_some hop
      split at h
      · rename_i y t1 hr
        obtain ⟨h4, h5⟩ := run_bound c f (.oper _ deep) y t1 (h2 hs) hr
        split at h
        · rename_i z t2 hz
          obtain ⟨h6, rfl⟩ := reckonO_bound hz
          exact run_bound c f (.loop z _ deep) m t ⟨h5, h6⟩ h
        · rename_i hne
          exact absurd h (hne m t)
      · split at h
        · injection h with e1 e2; subst e1; subst e2; exact ⟨hj2, hs⟩
        · cases h
      · cases h
theorem run_die (c : Cx) : ∀ f j k, run c f j = .die k → k ≠ 0
  | 0, j, k, h => by cases j <;> cases h
  | f + 1, .oper a0 deep, k, h => by
    simp only [run] at h
    split at h
    · split at h
      · split at h
        · cases h
        · split at h
          · cases h
          · split at h
            · cases h
            · split at h
              · exact heldO_die h
              · cases h
      · exact run_die c f _ k h
    · split at h
      · split at h
        · injection h with h; omega
        · split at h
          · split at h
            · cases h
            · injection h with h; omega
          · exact run_die c f _ k h
      · exact numberO_die h
  | f + 1, .expr a deep, k, h => by
    simp only [run] at h
    split at h
    · exact run_die c f _ k h
    · exact run_die c f _ k h
  | f + 1, .loop x a0 deep, k, h => by
    simp only [run] at h
    split at h
    · cases h
    · split at h
      · split at h
        · exact run_die c f _ k h
        · exact reckonO_die h
      · rename_i hr
        split at h
        · cases h
        · injection h with h; subst h; exact run_die c f _ _ hr
      · cases h
end Go.Proofs.Ytkomofphgnekoaa

set_option linter.unusedVariables false
set_option linter.unusedSimpArgs false
namespace Go.Proofs.Ytkomofphgnekoaa
open Go.Shelf Go.RowKit Go.Lib Go.Aids Go.MapLit

/-- operand's contract at a fuel. -/
def CO (c : Cx) (f : Nat) : Prop := ∀ (w : World) (b a deep : Nat), St w b c a → a ≤ c.s.size → deep ≤ 20 → run c f (.oper a deep) ≠ .stuck →
  Calls Try.prog 28 #[.pointer (some ⟨b, 0, none⟩), .int .i64 deep] w (Post b c w (run c f (.oper a deep)))
def CE (c : Cx) (f : Nat) : Prop := ∀ (w : World) (b a deep : Nat), St w b c a → a ≤ c.s.size → deep ≤ 20 → run c f (.expr a deep) ≠ .stuck →
  Calls Try.prog 15 #[.pointer (some ⟨b, 0, none⟩), .int .i64 deep] w (Post b c w (run c f (.expr a deep)))

theorem number_post (w w2 : World) (b a : Nat) (c : Cx) (h : St w2 b c a) (ok : c.Ok) (ha : a ≤ c.s.size) (hk : Kp b w w2) :
    Calls Try.prog 36 #[.pointer (some ⟨b, 0, none⟩)] w2 (Post b c w (numberO c a)) := by
  refine (number_calls w2 b a c h ok ha).mono fun e w' hp => ?_
  cases hn : numberO c a <;> rw [hn] at hp
  · exact ⟨hp.1, hk.trans hp.2.1, hp.2.2⟩
  · exact ⟨hp.1, hk.trans hp.2⟩
  · trivial

set_option maxRecDepth 100000 in
set_option maxHeartbeats 8000000 in
theorem oper_step (c : Cx) (ok : c.Ok) (f : Nat) (IO : CO c f) (IE : CE c f) : CO c (f + 1) := by
  intro w b a0 deep h ha hd hns
  obtain ⟨o, ho⟩ : ∃ o, run c (f + 1) (.oper a0 deep) = o := ⟨_, rfl⟩
  rw [ho] at hns ⊢
  have hbl := blanks_calls w b a0 deep c h.rd ok.hs ha (by omega)
  simp only [run] at ho
  have hsk := skip_le c.s deep a0 ha
  obtain ⟨a, hask⟩ : ∃ a, skip c.s deep a0 = a := ⟨_, rfl⟩
  rw [hask] at ho hsk hbl
  have hs := ok.hs
  have Ho := Lib.hid ho
  have Hbl := Lib.hid hbl
  clear ho hbl hask
  by_cases hsign : pk c.s a = 43 ∨ pk c.s a = 45 ∨ pk c.s a = 33 ∨ pk c.s a = 124
  · have hlt := pk_lt (s := c.s) (a := a) (by omega)
    have ho := Ho.out
    rw [if_pos hsign] at ho
    have IO1 := fun w2 h2 => IO w2 b (a + 1) deep h2 (by omega) hd
    obtain ⟨o1, ho1⟩ : ∃ o1, run c f (.oper (a + 1) deep) = o1 := ⟨_, rfl⟩
    rw [ho1] at ho
    simp only [ho1] at IO1
    have hx : ∀ x t, o1 = .ok x t → (-1000000000 ≤ x ∧ x ≤ 1000000000) := fun x t e => (run_bound c f (.oper (a + 1) deep) x t (by show _ ≤ _; omega) (by rw [ho1, e])).1
    have HI := Lib.hid IO1
    have HO := Lib.hid ho
    clear IO1 ho ho1 Ho
    have hh0 := ok.h0
    have hh1 := ok.h1
    rcases o1 with ⟨x, t⟩ | k | _
    · obtain ⟨hx0, hx1⟩ := hx x t rfl
      rcases hsign with hp | hp | hp | hp
      · have hp' : ((pk c.s a : Nat) : Int) = 43 := by omega
        have ho := HO.out
        simp only [hp] at ho
        have Hoo := Lib.hid (show Out.ok x t = o from ho)
        clear ho
        go_enter Try.func28, Try.ntmps28
        go_wp2_with (first
          | (go_at_call 29; (with_reducible refine Hbl.out.mono ?_); rintro e w1 ⟨rfl, hk1, hrd1⟩; obtain ⟨q0, q1, q2, q3, q4, q5, q6, q7, qf⟩ := hrd1.cells)
          | (go_at_call 35; (with_reducible refine (peek_calls _ b a c (by (repeat (first | assumption | with_reducible apply Rd.drewN | with_reducible apply Rd.set1 | with_reducible apply Rd.set))) hs).mono ?_); rintro e w2 ⟨rfl, dn, rfl⟩)
          | (go_at_call 28; refine (HI.out _ (h.kp (by (repeat (first | assumption | with_reducible exact Kp.refl _ _ | with_reducible apply Kp.dr | with_reducible apply Kp.st))) (by (repeat (first | assumption | with_reducible apply Rd.drewN | with_reducible apply Rd.set1 | with_reducible apply Rd.set)))) (by intro h; cases h)).mono ?_; rintro e w3 ⟨rfl, hk3, hrd3⟩; obtain ⟨p0, p1, p2, p3, p4, p5, p6, p7, pf⟩ := hrd3.cells)
          )
        go_ret
        rw [← Hoo.out]
        exact ⟨rfl, (Kp.trans (by (repeat (first | assumption | with_reducible exact Kp.refl _ _ | with_reducible apply Kp.dr | with_reducible apply Kp.st))) hk3), hrd3⟩
      · have hp' : ((pk c.s a : Nat) : Int) = 45 := by omega
        have ho := HO.out
        simp only [hp] at ho
        have Hoo := Lib.hid (show Out.ok (-x) t = o from ho)
        clear ho
        go_enter Try.func28, Try.ntmps28
        go_wp2_with (first
          | (go_at_call 29; (with_reducible refine Hbl.out.mono ?_); rintro e w1 ⟨rfl, hk1, hrd1⟩; obtain ⟨q0, q1, q2, q3, q4, q5, q6, q7, qf⟩ := hrd1.cells)
          | (go_at_call 35; (with_reducible refine (peek_calls _ b a c (by (repeat (first | assumption | with_reducible apply Rd.drewN | with_reducible apply Rd.set1 | with_reducible apply Rd.set))) hs).mono ?_); rintro e w2 ⟨rfl, dn, rfl⟩)
          | (go_at_call 28; refine (HI.out _ (h.kp (by (repeat (first | assumption | with_reducible exact Kp.refl _ _ | with_reducible apply Kp.dr | with_reducible apply Kp.st))) (by (repeat (first | assumption | with_reducible apply Rd.drewN | with_reducible apply Rd.set1 | with_reducible apply Rd.set)))) (by intro h; cases h)).mono ?_; rintro e w3 ⟨rfl, hk3, hrd3⟩; obtain ⟨p0, p1, p2, p3, p4, p5, p6, p7, pf⟩ := hrd3.cells)
          )
        go_ret
        rw [← Hoo.out]
        exact ⟨rfl, (Kp.trans (by (repeat (first | assumption | with_reducible exact Kp.refl _ _ | with_reducible apply Kp.dr | with_reducible apply Kp.st))) hk3), hrd3⟩
      · have hp' : ((pk c.s a : Nat) : Int) = 33 := by omega
        have ho := HO.out
        simp only [hp] at ho
        by_cases hxp : 0 < x
        · have Hoo := Lib.hid (show Out.ok 0 t = o from by rw [← ho]; simp [hxp])
          clear ho
          go_enter Try.func28, Try.ntmps28
          go_wp2_with (first
          | (go_at_call 29; (with_reducible refine Hbl.out.mono ?_); rintro e w1 ⟨rfl, hk1, hrd1⟩; obtain ⟨q0, q1, q2, q3, q4, q5, q6, q7, qf⟩ := hrd1.cells)
          | (go_at_call 35; (with_reducible refine (peek_calls _ b a c (by (repeat (first | assumption | with_reducible apply Rd.drewN | with_reducible apply Rd.set1 | with_reducible apply Rd.set))) hs).mono ?_); rintro e w2 ⟨rfl, dn, rfl⟩)
          | (go_at_call 28; refine (HI.out _ (h.kp (by (repeat (first | assumption | with_reducible exact Kp.refl _ _ | with_reducible apply Kp.dr | with_reducible apply Kp.st))) (by (repeat (first | assumption | with_reducible apply Rd.drewN | with_reducible apply Rd.set1 | with_reducible apply Rd.set)))) (by intro h; cases h)).mono ?_; rintro e w3 ⟨rfl, hk3, hrd3⟩; obtain ⟨p0, p1, p2, p3, p4, p5, p6, p7, pf⟩ := hrd3.cells)
          )
          go_ret
          rw [← Hoo.out]
          exact ⟨rfl, (Kp.trans (by (repeat (first | assumption | with_reducible exact Kp.refl _ _ | with_reducible apply Kp.dr | with_reducible apply Kp.st))) hk3), hrd3⟩
        · have Hoo := Lib.hid (show Out.ok 1 t = o from by rw [← ho]; simp [hxp])
          clear ho
          go_enter Try.func28, Try.ntmps28
          go_wp2_with (first
          | (go_at_call 29; (with_reducible refine Hbl.out.mono ?_); rintro e w1 ⟨rfl, hk1, hrd1⟩; obtain ⟨q0, q1, q2, q3, q4, q5, q6, q7, qf⟩ := hrd1.cells)
          | (go_at_call 35; (with_reducible refine (peek_calls _ b a c (by (repeat (first | assumption | with_reducible apply Rd.drewN | with_reducible apply Rd.set1 | with_reducible apply Rd.set))) hs).mono ?_); rintro e w2 ⟨rfl, dn, rfl⟩)
          | (go_at_call 28; refine (HI.out _ (h.kp (by (repeat (first | assumption | with_reducible exact Kp.refl _ _ | with_reducible apply Kp.dr | with_reducible apply Kp.st))) (by (repeat (first | assumption | with_reducible apply Rd.drewN | with_reducible apply Rd.set1 | with_reducible apply Rd.set)))) (by intro h; cases h)).mono ?_; rintro e w3 ⟨rfl, hk3, hrd3⟩; obtain ⟨p0, p1, p2, p3, p4, p5, p6, p7, pf⟩ := hrd3.cells)
          )
          go_ret
          rw [← Hoo.out]
          exact ⟨rfl, (Kp.trans (by (repeat (first | assumption | with_reducible exact Kp.refl _ _ | with_reducible apply Kp.dr | with_reducible apply Kp.st))) hk3), hrd3⟩
      · have hp' : ((pk c.s a : Nat) : Int) = 124 := by omega
        have ho := HO.out
        simp only [hp] at ho
        have ho2 : heldO c (x - c.here) t = o := ho
        have Hoo := Lib.hid ho2
        have hH := fun wz (hz : Rd wz b c t) => held_ends wz b t c (x - c.here) hz
        rw [ho2] at hH
        have HH := Lib.hid hH
        clear ho ho2 hH
        rcases o with ⟨n', t'⟩ | k | _
        · obtain rfl : t' = t := (heldO_bound Hoo.out).2
          go_enter Try.func28, Try.ntmps28
          go_wp2_with (first
          | (go_at_call 29; (with_reducible refine Hbl.out.mono ?_); rintro e w1 ⟨rfl, hk1, hrd1⟩; obtain ⟨q0, q1, q2, q3, q4, q5, q6, q7, qf⟩ := hrd1.cells)
          | (go_at_call 35; (with_reducible refine (peek_calls _ b a c (by (repeat (first | assumption | with_reducible apply Rd.drewN | with_reducible apply Rd.set1 | with_reducible apply Rd.set))) hs).mono ?_); rintro e w2 ⟨rfl, dn, rfl⟩)
          | (go_at_call 28; refine (HI.out _ (h.kp (by (repeat (first | assumption | with_reducible exact Kp.refl _ _ | with_reducible apply Kp.dr | with_reducible apply Kp.st))) (by (repeat (first | assumption | with_reducible apply Rd.drewN | with_reducible apply Rd.set1 | with_reducible apply Rd.set)))) (by intro h; cases h)).mono ?_; rintro e w3 ⟨rfl, hk3, hrd3⟩; obtain ⟨p0, p1, p2, p3, p4, p5, p6, p7, pf⟩ := hrd3.cells)
          | (go_at_call 41; (with_reducible refine (HH.out _ hrd3).mono ?_); rintro e w5 ⟨rfl, rfl⟩))
          go_ret
          exact ⟨rfl, (Kp.trans (by (repeat (first | assumption | with_reducible exact Kp.refl _ _ | with_reducible apply Kp.dr | with_reducible apply Kp.st))) hk3), hrd3⟩
        · go_enter Try.func28, Try.ntmps28
          go_wp2_with (first
          | (go_at_call 29; (with_reducible refine Hbl.out.mono ?_); rintro e w1 ⟨rfl, hk1, hrd1⟩; obtain ⟨q0, q1, q2, q3, q4, q5, q6, q7, qf⟩ := hrd1.cells)
          | (go_at_call 35; (with_reducible refine (peek_calls _ b a c (by (repeat (first | assumption | with_reducible apply Rd.drewN | with_reducible apply Rd.set1 | with_reducible apply Rd.set))) hs).mono ?_); rintro e w2 ⟨rfl, dn, rfl⟩)
          | (go_at_call 28; refine (HI.out _ (h.kp (by (repeat (first | assumption | with_reducible exact Kp.refl _ _ | with_reducible apply Kp.dr | with_reducible apply Kp.st))) (by (repeat (first | assumption | with_reducible apply Rd.drewN | with_reducible apply Rd.set1 | with_reducible apply Rd.set)))) (by intro h; cases h)).mono ?_; rintro e w3 ⟨rfl, hk3, hrd3⟩; obtain ⟨p0, p1, p2, p3, p4, p5, p6, p7, pf⟩ := hrd3.cells)
          | (go_at_call 41; (with_reducible refine (HH.out _ hrd3).mono ?_); rintro e w5 ⟨rfl, rfl⟩))
          exact ⟨rfl, rfl, (Kp.trans (by (repeat (first | assumption | with_reducible exact Kp.refl _ _ | with_reducible apply Kp.dr | with_reducible apply Kp.st))) hk3)⟩
        · exact absurd Hoo.out heldO_stuck
    · have Hoo := Lib.hid (show Out.die k = o from HO.out)
      rcases hsign with hp | hp | hp | hp
      · have hp' : ((pk c.s a : Nat) : Int) = 43 := by omega
        go_enter Try.func28, Try.ntmps28
        go_wp2_with (first
          | (go_at_call 29; (with_reducible refine Hbl.out.mono ?_); rintro e w1 ⟨rfl, hk1, hrd1⟩; obtain ⟨q0, q1, q2, q3, q4, q5, q6, q7, qf⟩ := hrd1.cells)
          | (go_at_call 35; (with_reducible refine (peek_calls _ b a c (by (repeat (first | assumption | with_reducible apply Rd.drewN | with_reducible apply Rd.set1 | with_reducible apply Rd.set))) hs).mono ?_); rintro e w2 ⟨rfl, dn, rfl⟩)
          | (go_at_call 28; refine (HI.out _ (h.kp (by (repeat (first | assumption | with_reducible exact Kp.refl _ _ | with_reducible apply Kp.dr | with_reducible apply Kp.st))) (by (repeat (first | assumption | with_reducible apply Rd.drewN | with_reducible apply Rd.set1 | with_reducible apply Rd.set)))) (by intro h; cases h)).mono ?_; rintro e w3 ⟨rfl, hk3⟩)
          )
        rw [← Hoo.out]
        exact ⟨rfl, rfl, (Kp.trans (by (repeat (first | assumption | with_reducible exact Kp.refl _ _ | with_reducible apply Kp.dr | with_reducible apply Kp.st))) hk3)⟩
      · have hp' : ((pk c.s a : Nat) : Int) = 45 := by omega
        go_enter Try.func28, Try.ntmps28
        go_wp2_with (first
          | (go_at_call 29; (with_reducible refine Hbl.out.mono ?_); rintro e w1 ⟨rfl, hk1, hrd1⟩; obtain ⟨q0, q1, q2, q3, q4, q5, q6, q7, qf⟩ := hrd1.cells)
          | (go_at_call 35; (with_reducible refine (peek_calls _ b a c (by (repeat (first | assumption | with_reducible apply Rd.drewN | with_reducible apply Rd.set1 | with_reducible apply Rd.set))) hs).mono ?_); rintro e w2 ⟨rfl, dn, rfl⟩)
          | (go_at_call 28; refine (HI.out _ (h.kp (by (repeat (first | assumption | with_reducible exact Kp.refl _ _ | with_reducible apply Kp.dr | with_reducible apply Kp.st))) (by (repeat (first | assumption | with_reducible apply Rd.drewN | with_reducible apply Rd.set1 | with_reducible apply Rd.set)))) (by intro h; cases h)).mono ?_; rintro e w3 ⟨rfl, hk3⟩)
          )
        rw [← Hoo.out]
        exact ⟨rfl, rfl, (Kp.trans (by (repeat (first | assumption | with_reducible exact Kp.refl _ _ | with_reducible apply Kp.dr | with_reducible apply Kp.st))) hk3)⟩
      · have hp' : ((pk c.s a : Nat) : Int) = 33 := by omega
        go_enter Try.func28, Try.ntmps28
        go_wp2_with (first
          | (go_at_call 29; (with_reducible refine Hbl.out.mono ?_); rintro e w1 ⟨rfl, hk1, hrd1⟩; obtain ⟨q0, q1, q2, q3, q4, q5, q6, q7, qf⟩ := hrd1.cells)
          | (go_at_call 35; (with_reducible refine (peek_calls _ b a c (by (repeat (first | assumption | with_reducible apply Rd.drewN | with_reducible apply Rd.set1 | with_reducible apply Rd.set))) hs).mono ?_); rintro e w2 ⟨rfl, dn, rfl⟩)
          | (go_at_call 28; refine (HI.out _ (h.kp (by (repeat (first | assumption | with_reducible exact Kp.refl _ _ | with_reducible apply Kp.dr | with_reducible apply Kp.st))) (by (repeat (first | assumption | with_reducible apply Rd.drewN | with_reducible apply Rd.set1 | with_reducible apply Rd.set)))) (by intro h; cases h)).mono ?_; rintro e w3 ⟨rfl, hk3⟩)
          )
        rw [← Hoo.out]
        exact ⟨rfl, rfl, (Kp.trans (by (repeat (first | assumption | with_reducible exact Kp.refl _ _ | with_reducible apply Kp.dr | with_reducible apply Kp.st))) hk3)⟩
      · have hp' : ((pk c.s a : Nat) : Int) = 124 := by omega
        go_enter Try.func28, Try.ntmps28
        go_wp2_with (first
          | (go_at_call 29; (with_reducible refine Hbl.out.mono ?_); rintro e w1 ⟨rfl, hk1, hrd1⟩; obtain ⟨q0, q1, q2, q3, q4, q5, q6, q7, qf⟩ := hrd1.cells)
          | (go_at_call 35; (with_reducible refine (peek_calls _ b a c (by (repeat (first | assumption | with_reducible apply Rd.drewN | with_reducible apply Rd.set1 | with_reducible apply Rd.set))) hs).mono ?_); rintro e w2 ⟨rfl, dn, rfl⟩)
          | (go_at_call 28; refine (HI.out _ (h.kp (by (repeat (first | assumption | with_reducible exact Kp.refl _ _ | with_reducible apply Kp.dr | with_reducible apply Kp.st))) (by (repeat (first | assumption | with_reducible apply Rd.drewN | with_reducible apply Rd.set1 | with_reducible apply Rd.set)))) (by intro h; cases h)).mono ?_; rintro e w3 ⟨rfl, hk3⟩)
          )
        rw [← Hoo.out]
        exact ⟨rfl, rfl, (Kp.trans (by (repeat (first | assumption | with_reducible exact Kp.refl _ _ | with_reducible apply Kp.dr | with_reducible apply Kp.st))) hk3)⟩
    · exact absurd (show Out.stuck = o from HO.out).symm hns
  · have ho := Ho.out
    rw [if_neg hsign] at ho
    have n1 : ¬ ((pk c.s a : Nat) : Int) = 43 := by omega
    have n2 : ¬ ((pk c.s a : Nat) : Int) = 45 := by omega
    have n3 : ¬ ((pk c.s a : Nat) : Int) = 33 := by omega
    have n4 : ¬ ((pk c.s a : Nat) : Int) = 124 := by omega
    by_cases hp : pk c.s a = 40
    · rw [if_pos hp] at ho
      have hp' : ((pk c.s a : Nat) : Int) = 40 := by omega
      have hlt := pk_lt (s := c.s) (a := a) (by omega)
      clear n1 n2 n3 n4 Ho
      by_cases hd20 : deep = 20
      · rw [if_pos hd20] at ho
        have Hoo := Lib.hid ho
        clear ho
        have hd20' : (deep : Int) = 20 := by omega
        have hb2 := Hbl.out
        rw [hd20'] at hb2 ⊢
        have Hbl := Lib.hid hb2
        clear hb2 hd20'
        go_enter Try.func28, Try.ntmps28
        go_wp2_with (first
          | (go_at_call 29; (with_reducible refine Hbl.out.mono ?_); rintro e w1 ⟨rfl, hk1, hrd1⟩; obtain ⟨q0, q1, q2, q3, q4, q5, q6, q7, qf⟩ := hrd1.cells)
          | (go_at_call 35; (with_reducible refine (peek_calls _ b a c (by assumption) hs).mono ?_); rintro e w2 ⟨rfl, dn, rfl⟩)
          )
        rw [← Hoo.out]
        exact ⟨rfl, rfl, by (repeat (first | assumption | with_reducible exact Kp.refl _ _ | with_reducible apply Kp.dr | with_reducible apply Kp.st))⟩
      · rw [if_neg hd20] at ho
        have hd20' : ¬ (deep : Int) = 20 := by omega
        have IE1 := fun w2 h2 => IE w2 b (a + 1) (deep + 1) h2 (by omega) (by omega)
        obtain ⟨o1, ho1⟩ : ∃ o1, run c f (.expr (a + 1) (deep + 1)) = o1 := ⟨_, rfl⟩
        rw [ho1] at ho
        simp only [ho1] at IE1
        have ht : ∀ x t, o1 = .ok x t → t ≤ c.s.size := fun x t e => (run_bound c f (.expr (a + 1) (deep + 1)) x t (by show _ ≤ _; omega) (by rw [ho1, e])).2
        have HI := Lib.hid IE1
        have HO := Lib.hid ho
        clear IE1 ho ho1
        rcases o1 with ⟨x, t⟩ | k | _
        · have hts := ht x t rfl
          by_cases hq : pk c.s t = 41
          · have hq' : ((pk c.s t : Nat) : Int) = 41 := by omega
            have hltt := pk_lt (s := c.s) (a := t) (by omega)
            have Hoo := Lib.hid (show Out.ok x (t + 1) = o from by have := HO.out; simp only [if_pos hq] at this; exact this)
            go_enter Try.func28, Try.ntmps28
            go_wp2_with (first
          | (go_at_call 29; (with_reducible refine Hbl.out.mono ?_); rintro e w1 ⟨rfl, hk1, hrd1⟩; obtain ⟨q0, q1, q2, q3, q4, q5, q6, q7, qf⟩ := hrd1.cells)
          | (go_at_call 35; (with_reducible refine (peek_calls _ b a c (by assumption) hs).mono ?_); rintro e w2 ⟨rfl, dn, rfl⟩)
          | (go_at_call 15; refine (HI.out _ (h.kp (by (repeat (first | assumption | with_reducible exact Kp.refl _ _ | with_reducible apply Kp.dr | with_reducible apply Kp.st))) (by (repeat (first | assumption | with_reducible apply Rd.drewN | with_reducible apply Rd.set1 | with_reducible apply Rd.set)))) (by intro h; cases h)).mono ?_; rintro e w3 ⟨rfl, hk3, hrd3⟩; obtain ⟨p0, p1, p2, p3, p4, p5, p6, p7, pf⟩ := hrd3.cells)
          | (go_at_call 35; (with_reducible refine (peek_calls _ b t c hrd3 hs).mono ?_); rintro e w2 ⟨rfl, dn2, rfl⟩))
            go_ret
            rw [← Hoo.out]
            exact ⟨rfl, ((Kp.trans (by (repeat (first | assumption | with_reducible exact Kp.refl _ _ | with_reducible apply Kp.dr | with_reducible apply Kp.st))) hk3).dr _).st _ _, by (repeat (first | assumption | with_reducible apply Rd.drewN | with_reducible apply Rd.set1 | with_reducible apply Rd.set))⟩
          · have hq' : ¬ ((pk c.s t : Nat) : Int) = 41 := by omega
            have Hoo := Lib.hid (show Out.die 4 = o from by have := HO.out; simp only [if_neg hq] at this; exact this)
            go_enter Try.func28, Try.ntmps28
            go_wp2_with (first
          | (go_at_call 29; (with_reducible refine Hbl.out.mono ?_); rintro e w1 ⟨rfl, hk1, hrd1⟩; obtain ⟨q0, q1, q2, q3, q4, q5, q6, q7, qf⟩ := hrd1.cells)
          | (go_at_call 35; (with_reducible refine (peek_calls _ b a c (by assumption) hs).mono ?_); rintro e w2 ⟨rfl, dn, rfl⟩)
          | (go_at_call 15; refine (HI.out _ (h.kp (by (repeat (first | assumption | with_reducible exact Kp.refl _ _ | with_reducible apply Kp.dr | with_reducible apply Kp.st))) (by (repeat (first | assumption | with_reducible apply Rd.drewN | with_reducible apply Rd.set1 | with_reducible apply Rd.set)))) (by intro h; cases h)).mono ?_; rintro e w3 ⟨rfl, hk3, hrd3⟩; obtain ⟨p0, p1, p2, p3, p4, p5, p6, p7, pf⟩ := hrd3.cells)
          | (go_at_call 35; (with_reducible refine (peek_calls _ b t c hrd3 hs).mono ?_); rintro e w2 ⟨rfl, dn2, rfl⟩))
            rw [← Hoo.out]
            exact ⟨rfl, rfl, (Kp.trans (by (repeat (first | assumption | with_reducible exact Kp.refl _ _ | with_reducible apply Kp.dr | with_reducible apply Kp.st))) hk3).dr _⟩
        · have Hoo := Lib.hid (show Out.die k = o from HO.out)
          go_enter Try.func28, Try.ntmps28
          go_wp2_with (first
          | (go_at_call 29; (with_reducible refine Hbl.out.mono ?_); rintro e w1 ⟨rfl, hk1, hrd1⟩; obtain ⟨q0, q1, q2, q3, q4, q5, q6, q7, qf⟩ := hrd1.cells)
          | (go_at_call 35; (with_reducible refine (peek_calls _ b a c (by assumption) hs).mono ?_); rintro e w2 ⟨rfl, dn, rfl⟩)
          | (go_at_call 15; refine (HI.out _ (h.kp (by (repeat (first | assumption | with_reducible exact Kp.refl _ _ | with_reducible apply Kp.dr | with_reducible apply Kp.st))) (by (repeat (first | assumption | with_reducible apply Rd.drewN | with_reducible apply Rd.set1 | with_reducible apply Rd.set)))) (by intro h; cases h)).mono ?_; rintro e w3 ⟨rfl, hk3⟩))
          rw [← Hoo.out]
          exact ⟨rfl, rfl, Kp.trans (by (repeat (first | assumption | with_reducible exact Kp.refl _ _ | with_reducible apply Kp.dr | with_reducible apply Kp.st))) hk3⟩
        · exact absurd (show Out.stuck = o from HO.out).symm hns
    · rw [if_neg hp] at ho
      have n5 : ¬ ((pk c.s a : Nat) : Int) = 40 := by omega
      have Hoo := Lib.hid ho
      clear ho Ho
      rcases o with ⟨n', t'⟩ | k | _
      · go_enter Try.func28, Try.ntmps28
        go_wp2_with (first
          | (go_at_call 29; (with_reducible refine Hbl.out.mono ?_); rintro e w1 ⟨rfl, hk1, hrd1⟩; obtain ⟨q0, q1, q2, q3, q4, q5, q6, q7, qf⟩ := hrd1.cells)
          | (go_at_call 35; (with_reducible refine (peek_calls _ b a c (by assumption) hs).mono ?_); rintro e w2 ⟨rfl, dn, rfl⟩)
          | (go_at_call 36; refine (number_post w _ b a c (h.kp (by (repeat (first | assumption | with_reducible exact Kp.refl _ _ | with_reducible apply Kp.dr | with_reducible apply Kp.st))) (by (repeat (first | assumption | with_reducible apply Rd.drewN | with_reducible apply Rd.set1 | with_reducible apply Rd.set)))) ok hsk (by (repeat (first | assumption | with_reducible exact Kp.refl _ _ | with_reducible apply Kp.dr | with_reducible apply Kp.st)))).mono ?_; rw [Hoo.out]; rintro e w5 ⟨rfl, hk5, hrd5⟩))
        go_ret
        exact ⟨rfl, hk5, hrd5⟩
      · go_enter Try.func28, Try.ntmps28
        go_wp2_with (first
          | (go_at_call 29; (with_reducible refine Hbl.out.mono ?_); rintro e w1 ⟨rfl, hk1, hrd1⟩; obtain ⟨q0, q1, q2, q3, q4, q5, q6, q7, qf⟩ := hrd1.cells)
          | (go_at_call 35; (with_reducible refine (peek_calls _ b a c (by assumption) hs).mono ?_); rintro e w2 ⟨rfl, dn, rfl⟩)
          | (go_at_call 36; refine (number_post w _ b a c (h.kp (by (repeat (first | assumption | with_reducible exact Kp.refl _ _ | with_reducible apply Kp.dr | with_reducible apply Kp.st))) (by (repeat (first | assumption | with_reducible apply Rd.drewN | with_reducible apply Rd.set1 | with_reducible apply Rd.set)))) ok hsk (by (repeat (first | assumption | with_reducible exact Kp.refl _ _ | with_reducible apply Kp.dr | with_reducible apply Kp.st)))).mono ?_; rw [Hoo.out]; rintro e w5 ⟨rfl, hk5⟩))
        exact ⟨rfl, rfl, hk5⟩
      · exact absurd rfl hns
end Go.Proofs.Ytkomofphgnekoaa

set_option linter.unusedVariables false
set_option linter.unusedSimpArgs false
namespace Go.Proofs.Ytkomofphgnekoaa
open Go.Shelf Go.RowKit Go.Lib Go.Aids Go.MapLit

set_option maxRecDepth 100000 in
set_option maxHeartbeats 8000000 in
theorem expr_step (c : Cx) (ok : c.Ok) (f : Nat) (IO : ∀ g, g ≤ f → CO c g) : CE c (f + 1) := by
  intro w b a0 deep h ha hd hns
  obtain ⟨o, ho⟩ : ∃ o, run c (f + 1) (.expr a0 deep) = o := ⟨_, rfl⟩
  rw [ho] at hns ⊢
  simp only [run] at ho
  have IO1 := fun hn => IO f (Nat.le_refl _) w b a0 deep h ha hd hn
  obtain ⟨o1, ho1⟩ : ∃ o1, run c f (.oper a0 deep) = o1 := ⟨_, rfl⟩
  rw [ho1] at ho IO1
  have hx : ∀ x t, o1 = .ok x t → (-1000000000 ≤ x ∧ x ≤ 1000000000) ∧ t ≤ c.s.size := fun x t e => run_bound c f (.oper a0 deep) x t ha (by rw [ho1, e])
  have hs := ok.hs
  have HI := Lib.hid IO1
  have HO := Lib.hid ho
  clear IO1 ho ho1
  rcases o1 with ⟨x0, t0⟩ | k | _
  · obtain ⟨hx0, ht0⟩ := hx x0 t0 rfl
    clear hx
    have Hoo := Lib.hid (show run c f (.loop x0 t0 deep) = o from HO.out)
    clear HO
    go_enter Try.func15, Try.ntmps15
    go_wp2_with (go_at_call 28; refine (HI.out (by intro h; cases h)).mono ?_; rintro e w1 ⟨rfl, hk1, hrd1⟩)
    go_loopg [5] f (fun k v wr => ∃ (x : Int) (a : Nat), v = .int .i64 x ∧ Kp b w wr ∧ Rd wr b c a ∧ a ≤ c.s.size ∧ (-1000000000 ≤ x ∧ x ≤ 1000000000) ∧ k ≤ f ∧ Hid (run c k (.loop x a deep) = o))
    case atStart => exact ⟨x0, t0, rfl, hk1, hrd1, ht0, hx0, Nat.le_refl _, Hoo⟩
    case round =>
      obtain ⟨x, a, rfl, hkp, hrd, hal, hxb, hkf, H⟩ := hrel
      clear hk1 hrd1 Hoo HI
      rcases gk with _ | k'
      · have := H.out
        exact absurd this.symm (by intro h; exact hns h)
      have hr := H.out
      simp only [run] at hr
      have hbl := fun w2 h2 => blanks_calls w2 b a deep c h2 hs hal (by omega)
      have hsk := skip_le c.s deep a hal
      obtain ⟨a1, ha1⟩ : ∃ a1, skip c.s deep a = a1 := ⟨_, rfl⟩
      rw [ha1] at hr hsk
      simp only [ha1] at hbl
      have Hbl := Lib.hid hbl
      have hop := fun w2 h2 => operator_calls w2 b a1 c h2 hs hsk
      clear hbl ha1 H
      rcases hol : operL c.s a1 with _ | p
      · rw [hol] at hr
        have e1 : opName c.s a1 = ⟨#[]⟩ := by unfold opName; rw [hol]; rfl
        simp only [e1] at hop
        have Hop := Lib.hid hop
        have Hr := Lib.hid (show Out.ok x a1 = o from hr)
        clear hop hr hol e1
        go_wp2_with (first
          | (go_at_call 29; (with_reducible refine (Hbl.out _ hrd).mono ?_); rintro e w1 ⟨rfl, hk1, hrd1⟩; obtain ⟨q0, q1, q2, q3, q4, q5, q6, q7, qf⟩ := hrd1.cells)
          | (go_at_call 30; (with_reducible refine (Hop.out _ hrd1).mono ?_); rintro e w2 ⟨rfl, hk2, hrd2⟩))
        go_ret
        rw [← Hr.out]
        exact ⟨rfl, (hkp.trans hk1).trans hk2, hrd2⟩
      · rw [hol] at hr
        obtain ⟨e1, hne⟩ := operL_name hol
        obtain ⟨hmem, hle, hpos⟩ := operL_some hol
        have hle := hle hsk
        simp only [e1] at hop
        have Hop := Lib.hid hop
        clear hop hol e1
        have IO2 := fun w2 b2 h2 hn => IO k' (by omega) w2 b2 (a1 + p.size) deep h2 hle hd hn
        obtain ⟨o1, ho1⟩ : ∃ o1, run c k' (.oper (a1 + p.size) deep) = o1 := ⟨_, rfl⟩
        have hy : ∀ y t, o1 = .ok y t → (-1000000000 ≤ y ∧ y ≤ 1000000000) ∧ t ≤ c.s.size := fun y t e => run_bound c k' (.oper (a1 + p.size) deep) y t hle (by rw [ho1, e])
        have hdz : ∀ k, o1 = .die k → k ≠ 0 := fun k e => run_die c k' (.oper (a1 + p.size) deep) k (by rw [ho1, e])
        simp only [ho1] at hr IO2
        have HR := Lib.hid hr
        clear hr ho1
        rcases o1 with ⟨y, t⟩ | k | _
        · obtain ⟨hyb, ht⟩ := hy y t rfl
          clear hy hdz
          have HI := Lib.hid (fun w2 h2 hn => IO2 w2 b h2 hn)
          have hre := fun w2 h2 => reckon_calls w2 b t c p x y h2 hmem hxb hyb
          obtain ⟨o2, ho2⟩ : ∃ o2, reckonO c p x y t = o2 := ⟨_, rfl⟩
          have hrr := HR.out
          simp only [ho2] at hrr hre
          have hz : ∀ z t2, o2 = .ok z t2 → (-1000000000 ≤ z ∧ z ≤ 1000000000) ∧ t2 = t := fun z t2 e => reckonO_bound (by rw [ho2, e])
          have hns2 : o2 ≠ .stuck := by rw [← ho2]; exact fun h => reckonO_stuck h
          have Hre := Lib.hid hre
          have HR2 := Lib.hid hrr
          clear hre hrr ho2 HR
          by_cases hdm : deep = 0 ∧ c.mute = true
          · obtain ⟨hd0, hmu⟩ := hdm
            have hd0' : (deep : Int) = 0 := by omega
            have Hfit := Lib.hid (show ∀ w2 b2, St w2 b2 c (a1 + p.size) → Calls Try.prog 28 #[.pointer (some ⟨b2, 0, none⟩), .int .i64 0] w2 (Post b2 c w2 (.ok y t)) from fun w2 b2 h2 => by rw [← hd0']; exact IO2 w2 b2 h2 (by intro h; cases h))
            have hde : ((deep : Int) == 0) = true := by rw [hd0']; rfl
            clear hd0 hd0' IO2
            rcases o2 with ⟨z, t2⟩ | k | _
            · obtain ⟨hzb, rfl⟩ := hz z t2 rfl
              clear hz hns2
              go_wp2_with (first
          | (go_at_call 29; (with_reducible refine (Hbl.out _ hrd).mono ?_); rintro e w1 ⟨rfl, hk1, hrd1⟩; obtain ⟨q0, q1, q2, q3, q4, q5, q6, q7, qf⟩ := hrd1.cells)
          | (go_at_call 30; (with_reducible refine (Hop.out _ hrd1).mono ?_); rintro e w2 ⟨rfl, hk2, hrd2⟩; have hk02 := (hkp.trans hk1).trans hk2; obtain ⟨y0, y1, y2, y3, y4, y5, y6, y7, yf⟩ := hrd2.cells)
          | (go_at_call 17; refine (fits_calls _ b (a1 + p.size) c _ (h.kp hk02 hrd2) Hfit.out (by intro h; cases h) (by intro k h; cases h)).mono ?_; rintro e w3 ⟨rfl, hb3⟩; have hk03 := hk02.trans (Kp.below hb3); have hrd3 := hrd2.below hb3; obtain ⟨z0, z1, z2, z3, z4, z5, z6, z7, zf⟩ := hrd3.cells)
          | (go_at_call 28; refine (HI.out _ (h.kp hk03 hrd3) (by intro h; cases h)).mono ?_; rintro e w4 ⟨rfl, hk4, hrd4⟩)
          | (go_at_call 31; (with_reducible refine (Hre.out _ hrd4).mono ?_); rintro e w5 ⟨rfl, rfl⟩))
              go_roundg k'
              case measure => omega
              case rel => exact ⟨z, _, rfl, hk03.trans hk4, hrd4, ht, hzb, by omega, Lib.hid HR2.out⟩
            · try clear hz hns2
              go_wp2_with (first
          | (go_at_call 29; (with_reducible refine (Hbl.out _ hrd).mono ?_); rintro e w1 ⟨rfl, hk1, hrd1⟩; obtain ⟨q0, q1, q2, q3, q4, q5, q6, q7, qf⟩ := hrd1.cells)
          | (go_at_call 30; (with_reducible refine (Hop.out _ hrd1).mono ?_); rintro e w2 ⟨rfl, hk2, hrd2⟩; have hk02 := (hkp.trans hk1).trans hk2; obtain ⟨y0, y1, y2, y3, y4, y5, y6, y7, yf⟩ := hrd2.cells)
          | (go_at_call 17; refine (fits_calls _ b (a1 + p.size) c _ (h.kp hk02 hrd2) Hfit.out (by intro h; cases h) (by intro k h; cases h)).mono ?_; rintro e w3 ⟨rfl, hb3⟩; have hk03 := hk02.trans (Kp.below hb3); have hrd3 := hrd2.below hb3; obtain ⟨z0, z1, z2, z3, z4, z5, z6, z7, zf⟩ := hrd3.cells)
          | (go_at_call 28; refine (HI.out _ (h.kp hk03 hrd3) (by intro h; cases h)).mono ?_; rintro e w4 ⟨rfl, hk4, hrd4⟩)
          | (go_at_call 31; (with_reducible refine (Hre.out _ hrd4).mono ?_); rintro e w5 ⟨rfl, rfl⟩))
              rw [← HR2.out]
              exact ⟨rfl, rfl, hk03.trans hk4⟩
            · exact absurd rfl hns2
          · clear IO2
            have hdm' : (((deep : Int) == 0) = false) ∨ (((deep : Int) == 0) = true ∧ c.mute = false) := by
              by_cases hd0 : deep = 0
              · right; refine ⟨by rw [hd0]; rfl, ?_⟩
                cases hm : c.mute
                · rfl
                · exact absurd ⟨hd0, hm⟩ hdm
              · left; exact beq_eq_false_iff_ne.2 (by omega)
            clear hdm
            rcases hdm' with hde | ⟨hde, hmu⟩
            all_goals
              rcases o2 with ⟨z, t2⟩ | k | _
              · obtain ⟨hzb, rfl⟩ := hz z t2 rfl
                clear hz hns2
                go_wp2_with (first
          | (go_at_call 29; (with_reducible refine (Hbl.out _ hrd).mono ?_); rintro e w1 ⟨rfl, hk1, hrd1⟩; obtain ⟨q0, q1, q2, q3, q4, q5, q6, q7, qf⟩ := hrd1.cells)
          | (go_at_call 30; (with_reducible refine (Hop.out _ hrd1).mono ?_); rintro e w2 ⟨rfl, hk2, hrd2⟩; have hk02 := (hkp.trans hk1).trans hk2; obtain ⟨y0, y1, y2, y3, y4, y5, y6, y7, yf⟩ := hrd2.cells)
          | (go_at_call 28; refine (HI.out _ (h.kp hk02 hrd2) (by intro h; cases h)).mono ?_; rintro e w4 ⟨rfl, hk4, hrd4⟩)
          | (go_at_call 31; (with_reducible refine (Hre.out _ hrd4).mono ?_); rintro e w5 ⟨rfl, rfl⟩))
                all_goals
                  go_roundg k'
                  case measure => omega
                  case rel => exact ⟨z, _, rfl, hk02.trans hk4, hrd4, ht, hzb, by omega, Lib.hid HR2.out⟩
              · try clear hz hns2
                go_wp2_with (first
          | (go_at_call 29; (with_reducible refine (Hbl.out _ hrd).mono ?_); rintro e w1 ⟨rfl, hk1, hrd1⟩; obtain ⟨q0, q1, q2, q3, q4, q5, q6, q7, qf⟩ := hrd1.cells)
          | (go_at_call 30; (with_reducible refine (Hop.out _ hrd1).mono ?_); rintro e w2 ⟨rfl, hk2, hrd2⟩; have hk02 := (hkp.trans hk1).trans hk2; obtain ⟨y0, y1, y2, y3, y4, y5, y6, y7, yf⟩ := hrd2.cells)
          | (go_at_call 28; refine (HI.out _ (h.kp hk02 hrd2) (by intro h; cases h)).mono ?_; rintro e w4 ⟨rfl, hk4, hrd4⟩)
          | (go_at_call 31; (with_reducible refine (Hre.out _ hrd4).mono ?_); rintro e w5 ⟨rfl, rfl⟩))
                all_goals
                  rw [← HR2.out]
                  exact ⟨rfl, rfl, hk02.trans hk4⟩
              · exact absurd rfl hns2
        · have hkz := hdz k rfl
          clear hy hdz
          have HI := Lib.hid (fun w2 h2 hn => IO2 w2 b h2 hn)
          by_cases hdm : deep = 0 ∧ c.mute = true
          · have hrr := HR.out
            simp only [if_pos hdm] at hrr
            have HR2 := Lib.hid hrr
            clear hrr HR
            obtain ⟨hd0, hmu⟩ := hdm
            have hd0' : (deep : Int) = 0 := by omega
            have Hfit := Lib.hid (show ∀ w2 b2, St w2 b2 c (a1 + p.size) → Calls Try.prog 28 #[.pointer (some ⟨b2, 0, none⟩), .int .i64 0] w2 (Post b2 c w2 (.die k)) from fun w2 b2 h2 => by rw [← hd0']; exact IO2 w2 b2 h2 (by intro h; cases h))
            have hde : ((deep : Int) == 0) = true := by rw [hd0']; rfl
            clear hd0 hd0' IO2 HI
            go_wp2_with (first
          | (go_at_call 29; (with_reducible refine (Hbl.out _ hrd).mono ?_); rintro e w1 ⟨rfl, hk1, hrd1⟩; obtain ⟨q0, q1, q2, q3, q4, q5, q6, q7, qf⟩ := hrd1.cells)
          | (go_at_call 30; (with_reducible refine (Hop.out _ hrd1).mono ?_); rintro e w2 ⟨rfl, hk2, hrd2⟩; have hk02 := (hkp.trans hk1).trans hk2; obtain ⟨y0, y1, y2, y3, y4, y5, y6, y7, yf⟩ := hrd2.cells)
          | (go_at_call 17; refine (fits_calls _ b (a1 + p.size) c _ (h.kp hk02 hrd2) Hfit.out (by intro h; cases h) (by intro k h; injection h with h; subst h; exact hkz)).mono ?_; rintro e w3 ⟨rfl, hb3⟩; have hk03 := hk02.trans (Kp.below hb3); have hrd3 := hrd2.below hb3; obtain ⟨z0, z1, z2, z3, z4, z5, z6, z7, zf⟩ := hrd3.cells))
            go_ret
            rw [← HR2.out]
            exact ⟨rfl, hk03.st _ _, hrd3.set _⟩
          · have hrr := HR.out
            simp only [if_neg hdm] at hrr
            have HR2 := Lib.hid hrr
            clear hrr HR
            have hdm' : (((deep : Int) == 0) = false) ∨ (((deep : Int) == 0) = true ∧ c.mute = false) := by
              by_cases hd0 : deep = 0
              · right; refine ⟨by rw [hd0]; rfl, ?_⟩
                cases hm : c.mute
                · rfl
                · exact absurd ⟨hd0, hm⟩ hdm
              · left; exact beq_eq_false_iff_ne.2 (by omega)
            clear hdm
            rcases hdm' with hde | ⟨hde, hmu⟩
            all_goals
              go_wp2_with (first
          | (go_at_call 29; (with_reducible refine (Hbl.out _ hrd).mono ?_); rintro e w1 ⟨rfl, hk1, hrd1⟩; obtain ⟨q0, q1, q2, q3, q4, q5, q6, q7, qf⟩ := hrd1.cells)
          | (go_at_call 30; (with_reducible refine (Hop.out _ hrd1).mono ?_); rintro e w2 ⟨rfl, hk2, hrd2⟩; have hk02 := (hkp.trans hk1).trans hk2; obtain ⟨y0, y1, y2, y3, y4, y5, y6, y7, yf⟩ := hrd2.cells)
          | (go_at_call 28; refine (HI.out _ (h.kp hk02 hrd2) (by intro h; cases h)).mono ?_; rintro e w4 ⟨rfl, hk4⟩))
              all_goals
                rw [← HR2.out]
                exact ⟨rfl, rfl, hk02.trans hk4⟩
        · exact absurd (show Out.stuck = o from HR.out).symm hns
  · have Hoo := Lib.hid (show Out.die k = o from HO.out)
    go_enter Try.func15, Try.ntmps15
    go_wp2_with (go_at_call 28; refine (HI.out (by intro h; cases h)).mono ?_; rintro e w1 ⟨rfl, hk1⟩)
    rw [← Hoo.out]
    exact ⟨rfl, rfl, hk1⟩
  · exact absurd (show Out.stuck = o from HO.out).symm hns
end Go.Proofs.Ytkomofphgnekoaa

set_option linter.unusedVariables false
set_option linter.unusedSimpArgs false
namespace Go.Proofs.Ytkomofphgnekoaa
open Go.Shelf Go.RowKit Go.Lib Go.Aids Go.MapLit Go.Proofs.YtkomofphgnekoaaW.PrintWords

theorem run_calls (c : Cx) (ok : c.Ok) : ∀ f, CO c f ∧ CE c f := by
  intro f
  induction f using Nat.strongRecOn with
  | ind f ih =>
    rcases f with _ | f
    · exact ⟨fun w b a deep h ha hd hn => absurd rfl hn, fun w b a deep h ha hd hn => absurd rfl hn⟩
    · exact ⟨oper_step c ok f (ih f (Nat.lt_succ_self _)).1 (ih f (Nat.lt_succ_self _)).2, expr_step c ok f (fun g hg => (ih g (by omega)).1)⟩

/-- open's second result: are the scale and the context ones? -/
def okB (scale : Nat) (size vs here : Int) : Bool :=
  (find (scL size vs) scale).isSome && decide (min size vs ≥ 0) && decide (max size vs ≤ 1000000) && decide (here ≥ -1000000000) && decide (here ≤ 1000000000)

def OpenPost (s : ByteArray) (scale : Nat) (size vs here : Int) (w : World) (ob : Bool) (e : Ending) (w' : World) : Prop :=
  ∃ b m, e = .returned (.tuple #[.pointer (some ⟨b, 0, none⟩), .bool ob]) ∧ Below w.heap.size w w' ∧
      w.heap.size ≤ b ∧ w.heap.size ≤ m ∧ m ≠ b ∧ Rd w' b ⟨s, scale, size, vs, here, m, false⟩ 0 ∧ MapIs eK eV w' m (scL size vs)

set_option maxRecDepth 100000 in
set_option maxHeartbeats 4000000 in
theorem open_calls (s : ByteArray) (scale : Nat) (size vs here : Int) (w : World) (hsc : scale < 256) :
    Calls Try.prog 16 #[.string s, .int .u8 scale, .agg #[.int .i64 size, .int .i64 vs, .int .i64 here]] w (OpenPost s scale size vs here w (okB scale size vs here)) := by
  obtain ⟨ob, hob⟩ : ∃ x, okB scale size vs here = x := ⟨_, rfl⟩
  rw [hob]
  have Hob := Lib.hid hob
  clear hob
  go_enter Try.func16, Try.ntmps16
  go_wp2_with fail
  refine (scales_calls size vs here _).mono ?_
  rintro e w1 ⟨rfl, hm, hb⟩
  obtain ⟨fv, hfv⟩ : ∃ x, find (scL size vs) (scale : Int) = x := ⟨_, rfl⟩
  have hl := run_lookup eK eV keyU Try.underlying48 zeroI (scL size vs) scale hm true
  rw [hfv] at hl
  simp only [if_true] at hl
  have hz1 : (w.alloc (.cells #[.int .i64 size, .int .i64 vs, .int .i64 here] 30)).heap.size = w.heap.size + 1 := by simp
  rw [hz1] at hl hm
  have hbw : Below w.heap.size w w1 := ((Below.refl _ w).alloc (Nat.le_refl _) _).trans (hb.mono (by simp))
  have hbox := Bk.new
  have k0 : w1.cell? ⟨w.heap.size, 0, none⟩ = some (.int .i64 size) := pw_cell_below hb (by simp [go_sem])
  have k1 : w1.cell? ⟨w.heap.size, 1, none⟩ = some (.int .i64 vs) := pw_cell_below hb (by simp [go_sem])
  have k2 : w1.cell? ⟨w.heap.size, 2, none⟩ = some (.int .i64 here) := pw_cell_below hb (by simp [go_sem])
  have hsz := hb.size
  clear hbox
  have hlt : w.heap.size + 1 + 1 < w1.heap.size := MapIs.lt hm
  have hbs := hbw.size
  go_wp2
  all_goals
    go_ret2
    refine ⟨w1.heap.size, w.heap.size + 1 + 1, ?_, hbw.alloc hbs _, hbs, by omega, by omega, Rd.new w1 ⟨s, scale, size, vs, here, w.heap.size + 1 + 1, false⟩ 0, Go.MapLit.MapIs.below eK eV hm ((Below.refl _ _).alloc (Nat.le_refl _) _)⟩
    refine congrArg (fun x => Ending.returned (.tuple #[.pointer (some ⟨w1.heap.size, 0, none⟩), .bool x])) (?_ : _ = ob)
    have e := Hob.out
    unfold okB at e
    rw [hfv] at e
    rw [← e]
    clear hl hm hb k0 k1 k2 e Hob
    simp_all <;> omega
end Go.Proofs.Ytkomofphgnekoaa

set_option linter.unusedVariables false
set_option linter.unusedSimpArgs false
namespace Go.Proofs.Ytkomofphgnekoaa
open Go.Shelf Go.RowKit Go.Lib Go.Aids Go.MapLit Go.Proofs.YtkomofphgnekoaaW.PrintWords

/-- What whole hands back, of what was read. -/
def wholeN (size : Nat) : Out → Int × Int
  | .ok n t => if t = size then (n, 0) else (0, 4)
  | .die k => (0, k)
  | .stuck => (0, 0)

theorem eval1_calls (w : World) (b : Nat) (c : Cx) (f : Nat) (h : St w b c 0) (ok : c.Ok) (hn : run c f (.expr 0 0) ≠ .stuck) :
    Calls Try.prog 14 #[.pointer (some ⟨b, 0, none⟩)] w (Post b c w (run c f (.expr 0 0))) := by
  have H := (run_calls c ok f).2 w b 0 0 h (Nat.zero_le _) (by omega) hn
  obtain ⟨o, ho⟩ : ∃ o, run c f (.expr 0 0) = o := ⟨_, rfl⟩
  rw [ho] at H hn ⊢
  have HH := Lib.hid H
  clear H ho
  rcases o with ⟨n, t⟩ | k | _
  · go_enter Try.func14, Try.ntmps14
    go_wp2_with (go_at_call 15; refine HH.out.mono ?_; rintro e w1 ⟨rfl, hk, hrd⟩)
    go_ret
    exact ⟨rfl, hk, hrd⟩
  · go_enter Try.func14, Try.ntmps14
    go_wp2_with (go_at_call 15; refine HH.out.mono ?_; rintro e w1 ⟨rfl, hk⟩)
    exact ⟨rfl, rfl, hk⟩
  · exact absurd rfl hn

theorem Bk.below {w w' : World} {b : Nat} {v : Value} {t : TypeId} (h : Bk w b v t) (hb : Below w.heap.size w w') : Bk w' b v t := (hb.block b h.lt).trans h
/-- What whole's variables stand on. -/
structure Wh (w W : World) (n e : Int) : Prop where
  bel : Below w.heap.size w W
  sz : w.heap.size + 3 ≤ W.heap.size
  n : Bk W (w.heap.size + 1) (.int .i64 n) 3
  e : Bk W (w.heap.size + 1 + 1) (.int .i64 e) 26
theorem Wh.new (w : World) (size vs here : Int) : Wh w (((w.alloc (.cells #[.int .i64 size, .int .i64 vs, .int .i64 here] 30)).alloc (.cells #[.int .i64 0] 3)).alloc (.cells #[.int .i64 0] 26)) 0 0 := by
  refine ⟨(((Below.refl _ w).alloc (Nat.le_refl _) _).alloc (by simp) _).alloc (by simp; omega) _, by simp, ?_, ?_⟩
  · have := (Bk.new (w.alloc (.cells #[.int .i64 size, .int .i64 vs, .int .i64 here] 30)) (.int .i64 0) 3).alloc (.cells #[.int .i64 0] 26)
    simpa using this
  · have := Bk.new ((w.alloc (.cells #[.int .i64 size, .int .i64 vs, .int .i64 here] 30)).alloc (.cells #[.int .i64 0] 3)) (.int .i64 0) 26
    simpa using this
theorem Wh.setN {w W : World} {n e : Int} (h : Wh w W n e) (n' : Int) : Wh w (W.setCell ⟨w.heap.size + 1, 0, none⟩ (.int .i64 n')) n' e :=
  ⟨h.bel.setCell (by show w.heap.size ≤ w.heap.size + 1; omega) _, by simpa using h.sz, h.n.set _, h.e.other _ (by omega)⟩
theorem Wh.setE {w W : World} {n e : Int} (h : Wh w W n e) (e' : Int) : Wh w (W.setCell ⟨w.heap.size + 1 + 1, 0, none⟩ (.int .i64 e')) n e' :=
  ⟨h.bel.setCell (by show w.heap.size ≤ w.heap.size + 1 + 1; omega) _, by simpa using h.sz, h.n.other _ (by omega), h.e.set _⟩
theorem Wh.below {w W W' : World} {n e : Int} (h : Wh w W n e) (hb : Below W.heap.size W W') : Wh w W' n e :=
  ⟨h.bel.trans (hb.mono (by have := h.sz; omega)), by have := h.sz; have := hb.size; omega, h.n.below hb, h.e.below hb⟩
theorem Wh.kp {w W W' : World} {n e : Int} {b : Nat} (h : Wh w W n e) (hk : Kp b W W') (hb : w.heap.size + 3 ≤ b) : Wh w W' n e :=
  ⟨Below.of_kp h.bel hk (by omega) (by have := h.sz; omega), by have := h.sz; have := hk.size; omega, h.n.kp hk (by omega), h.e.kp hk (by omega)⟩
theorem Wh.alloc {w W : World} {n e : Int} (h : Wh w W n e) (o : Obj) : Wh w (W.alloc o) n e := h.below ((Below.refl _ _).alloc (Nat.le_refl _) o)

theorem whole14_arg (s : ByteArray) (scale : Nat) (size vs here : Int) (w : World) (hsc : scale < 256) (hob : okB scale size vs here = false) :
    Calls Try.prog 13 #[.string s, .int .u8 scale, .agg #[.int .i64 size, .int .i64 vs, .int .i64 here], .func (.func 14) #[] #[]] w fun e w' => e = .returned (.tuple #[.int .i64 0, .int .i64 1]) ∧ Below w.heap.size w w' := by
  have hmf : ∀ (fn : Fn) (first cap : Array Value) (w : World), (Instr.makeFunc fn first cap).run Try.prog w = .ok (.func fn first cap) w := fun _ _ _ _ => rfl
  have HO := Lib.hid (fun W => open_calls s scale size vs here W hsc)
  rw [hob] at HO
  clear hob
  go_enter_defers Try.func13, Try.ntmps13
  go_wp2_with fail
  refine (HO.out _).mono ?_
  rintro e w4 ⟨b, m, rfl, hb, -, -, -, -, -⟩
  have h4 := (Wh.new w size vs here).below hb
  have n0 := h4.n.cell
  have n1 := h4.n.free
  have e0 := h4.e.cell
  have e1 := h4.e.free
  clear hb
  go_wp2
  have h5 := (h4.setN 0).setE 1
  have r0 := h5.n.cell
  have r1 := h5.e.cell
  simp [bodyPostD, Leaves, settle, results, Try.results13, go_sem, r0, r1]
  exact h5.bel

set_option maxRecDepth 100000 in
set_option maxHeartbeats 4000000 in
theorem whole14_read (s : ByteArray) (scale : Nat) (size vs here : Int) (w : World) (hsc : scale < 256) (hob : okB scale size vs here = true) (o : Out) (ho : o ≠ .stuck) (hk0 : ∀ k, o = .die k → k ≠ 0) (hs : s.size ≤ 4611686018427387904)
    (H : ∀ (W : World) (b m : Nat), St W b ⟨s, scale, size, vs, here, m, false⟩ 0 → Calls Try.prog 14 #[.pointer (some ⟨b, 0, none⟩)] W (Post b ⟨s, scale, size, vs, here, m, false⟩ W o)) :
    Calls Try.prog 13 #[.string s, .int .u8 scale, .agg #[.int .i64 size, .int .i64 vs, .int .i64 here], .func (.func 14) #[] #[]] w fun e w' => e = .returned (.tuple #[.int .i64 (wholeN s.size o).1, .int .i64 (wholeN s.size o).2]) ∧ Below w.heap.size w w' := by
  have hmf : ∀ (fn : Fn) (first cap : Array Value) (w : World), (Instr.makeFunc fn first cap).run Try.prog w = .ok (.func fn first cap) w := fun _ _ _ _ => rfl
  have HO := Lib.hid (fun W => open_calls s scale size vs here W hsc)
  rw [hob] at HO
  clear hob
  obtain ⟨rn, hrn⟩ : ∃ r, wholeN s.size o = r := ⟨_, rfl⟩
  rw [hrn]
  have Hrn := Lib.hid hrn
  have HH := Lib.hid H
  clear hrn H
  go_enter_defers Try.func13, Try.ntmps13
  go_wp2_with fail
  refine (HO.out _).mono ?_
  rintro e w4 ⟨b, m, rfl, hb, hb1, hm1, hmb, hrd, hmp⟩
  have h4 := (Wh.new w size vs here).below hb
  have hb3 : w.heap.size + 3 ≤ b := by simpa using hb1
  have hst : St w4 b ⟨s, scale, size, vs, here, m, false⟩ 0 := ⟨hrd, hmp, hmb⟩
  clear hb hb1 hm1 hmb hrd hmp HO
  rcases o with ⟨n, t⟩ | k | _
  · by_cases ht : t = s.size
    · have ht' : (t : Int) = s.size := by omega
      obtain rfl : (n, (0 : Int)) = rn := by have := Hrn.out; simp only [wholeN, if_pos ht] at this; exact this
      go_wp2_with (go_at_call 14; refine (HH.out w4 b m hst).mono ?_; rintro e w5 ⟨rfl, hk5, hrd5⟩; have h5 := h4.kp hk5 hb3; have n0 := h5.n.cell; have n1 := h5.n.free; have e0 := h5.e.cell; have e1 := h5.e.free; obtain ⟨-, q1, -, -, -, -, -, -, -⟩ := hrd5.cells)
      have h6 := ((h5.setN n).setN n).setE 0
      refine leaves_cons (f := 27) (args := #[.pointer (some ⟨w.heap.size + 1 + 1, 0, none⟩)]) (by simp) (by simp [go_sem]) ?_
      refine (catch_idle _ _).mono ?_
      rintro e u' w'' ⟨rfl, rfl, rfl⟩
      refine leaves_cons (f := 26) (args := #[.pointer (some ⟨w.heap.size + 1 + 1, 0, none⟩), .pointer (some ⟨w.heap.size + 1, 0, none⟩)]) (by simp [settle]) (by simp [go_sem]) ?_
      refine (whole1_calls _ _ 0 n _ _ h6.e.cell h6.n.cell h6.n.free).mono ?_
      rintro e u' w'' ⟨rfl, rfl, hw⟩
      rw [if_pos rfl] at hw
      subst hw
      have r0 := h6.n.cell
      have r1 := h6.e.cell
      simp [Leaves, settle, results, Try.results13, go_sem, r0, r1]
      exact h6.bel
    · have ht' : ¬ (t : Int) = s.size := by omega
      obtain rfl : ((0 : Int), (4 : Int)) = rn := by have := Hrn.out; simp only [wholeN, if_neg ht] at this; exact this
      go_wp2_with (go_at_call 14; refine (HH.out w4 b m hst).mono ?_; rintro e w5 ⟨rfl, hk5, hrd5⟩; have h5 := h4.kp hk5 hb3; have n0 := h5.n.cell; have n1 := h5.n.free; have e0 := h5.e.cell; have e1 := h5.e.free; obtain ⟨-, q1, -, -, -, -, -, -, -⟩ := hrd5.cells)
      have h6 := ((h5.setN n).setN 0).setE 4
      refine leaves_cons (f := 27) (args := #[.pointer (some ⟨w.heap.size + 1 + 1, 0, none⟩)]) (by simp) (by simp [go_sem]) ?_
      refine (catch_idle _ _).mono ?_
      rintro e u' w'' ⟨rfl, rfl, rfl⟩
      refine leaves_cons (f := 26) (args := #[.pointer (some ⟨w.heap.size + 1 + 1, 0, none⟩), .pointer (some ⟨w.heap.size + 1, 0, none⟩)]) (by simp [settle]) (by simp [go_sem]) ?_
      refine (whole1_calls _ _ 4 0 _ _ h6.e.cell h6.n.cell h6.n.free).mono ?_
      rintro e u' w'' ⟨rfl, rfl, hw⟩
      rw [if_neg (by decide)] at hw
      subst hw
      have h7 := h6.setN 0
      have r0 := h7.n.cell
      have r1 := h7.e.cell
      simp [Leaves, settle, results, Try.results13, go_sem, r0, r1]
      exact h7.bel
  · have hk := hk0 k rfl
    obtain rfl : ((0 : Int), k) = rn := Hrn.out
    go_wp2_with (go_at_call 14; refine (HH.out w4 b m hst).mono ?_; rintro e w5 ⟨rfl, hk5⟩)
    have h5 := h4.kp hk5 hb3
    refine leaves_cons (f := 27) (args := #[.pointer (some ⟨w.heap.size + 1 + 1, 0, none⟩)]) (by simp) (by simp [go_sem]) ?_
    refine (catch_panicking _ 0 k [] _ h5.e.lt h5.e.cell h5.e.free).mono ?_
    rintro e u' w'' ⟨rfl, rfl, oo, rfl⟩
    have h6 := (h5.setE k).alloc oo
    refine leaves_cons (f := 26) (args := #[.pointer (some ⟨w.heap.size + 1 + 1, 0, none⟩), .pointer (some ⟨w.heap.size + 1, 0, none⟩)]) (by simp [settle]) (by simp [go_sem]) ?_
    refine (whole1_calls _ _ k 0 _ _ h6.e.cell h6.n.cell h6.n.free).mono ?_
    rintro e u' w'' ⟨rfl, rfl, hw⟩
    rw [if_neg hk] at hw
    subst hw
    have h7 := h6.setN 0
    have r0 := h7.n.cell
    have r1 := h7.e.cell
    simp [Leaves, settle, results, Try.results13, go_sem, r0, r1]
    exact h7.bel
  · exact absurd rfl ho
end Go.Proofs.Ytkomofphgnekoaa

set_option linter.unusedVariables false
set_option linter.unusedSimpArgs false
namespace Go.Proofs.Ytkomofphgnekoaa
open Go.Shelf Go.RowKit Go.Lib Go.Aids Go.MapLit

theorem skipF_ge (s : ByteArray) : ∀ k a, a ≤ skipF s k a
  | 0, a => Nat.le_refl _
  | k + 1, a => by
    unfold skipF
    split
    · exact Nat.le_trans (Nat.le_succ _) (skipF_ge s k (a + 1))
    · exact Nat.le_refl _
theorem skip_ge (s : ByteArray) (deep a : Nat) : a ≤ skip s deep a := by
  unfold skip
  split
  · exact skipF_ge s _ a
  · exact Nat.le_refl _
theorem heldO_at {c : Cx} {n m : Int} {a t : Nat} (h : heldO c n a = .ok m t) : t = a := (heldO_bound h).2
theorem dotO_ge (s : ByteArray) (a : Nat) : a ≤ (dotO s a).2.2 := by
  unfold dotO
  split
  · show a ≤ (if _ then a else _)
    split
    · exact Nat.le_refl _
    · have := (rowF_bound s 9 0 (a + 1)).1
      omega
  · exact Nat.le_refl _
theorem numberO_ge {c : Cx} {a : Nat} {m : Int} {t : Nat} (h : numberO c a = .ok m t) : a ≤ t := by
  rw [numberO_two] at h
  have h1 := (rowF_bound c.s 9 0 a).1
  have h2 := dotO_ge c.s (rowF c.s 9 0 a).2
  unfold number2 at h
  split at h
  · cases h
  · split at h
    · have := heldO_at h; omega
    · have := heldO_at h; omega
def Job.at : Job → Nat
  | .oper a _ => a
  | .expr a _ => a
  | .loop _ a _ => a
theorem run_ge (c : Cx) : ∀ f j m t, run c f j = .ok m t → j.at ≤ t
  | 0, j, m, t, h => by cases j <;> cases h
  | f + 1, .oper a0 deep, m, t, h => by
    have hs := skip_ge c.s deep a0
    simp only [run] at h
    obtain ⟨a, ha⟩ : ∃ a, skip c.s deep a0 = a := ⟨_, rfl⟩
    rw [ha] at h hs
    show a0 ≤ t
    split at h
    · split at h
      · rename_i x t' hr
        have h1 : a + 1 ≤ t' := run_ge c f (.oper (a + 1) deep) x t' hr
        split at h
        · injection h with e1 e2; omega
        · split at h
          · injection h with e1 e2; omega
          · split at h
            · injection h with e1 e2; omega
            · split at h
              · have := heldO_at h; omega
              · injection h with e1 e2; omega
      · rename_i hne
        exact absurd h (hne m t)
    · split at h
      · split at h
        · cases h
        · split at h
          · rename_i x t' hr
            have h1 : a + 1 ≤ t' := run_ge c f (.expr (a + 1) (deep + 1)) x t' hr
            split at h
            · injection h with e1 e2; omega
            · cases h
          · rename_i hne
            exact absurd h (hne m t)
      · have := numberO_ge h; omega
  | f + 1, .expr a deep, m, t, h => by
    simp only [run] at h
    show a ≤ t
    split at h
    · rename_i x t' hr
      have h1 : a ≤ t' := run_ge c f (.oper a deep) x t' hr
      have h2 : t' ≤ t := run_ge c f (.loop x t' deep) m t h
      omega
    · rename_i hne
      exact absurd h (hne m t)
  | f + 1, .loop x a0 deep, m, t, h => by
    have hs := skip_ge c.s deep a0
    simp only [run] at h
    show a0 ≤ t
    split at h
    · injection h with e1 e2; omega
    · rename_i op hop
      split at h
      · rename_i y t1 hr
        have h1 : skip c.s deep a0 + op.size ≤ t1 := run_ge c f (.oper _ deep) y t1 hr
        split at h
        · rename_i z t2 hz
          have h3 := (reckonO_bound hz).2
          have h2 : t2 ≤ t := run_ge c f (.loop z t2 deep) m t h
          omega
        · rename_i hne
          exact absurd h (hne m t)
      · split at h
        · injection h with e1 e2; omega
        · cases h
      · cases h
/-- The fuel that a job wants. -/
def need (c : Cx) : Job → Nat
  | .oper a _ => 2 * (c.s.size - a) + 1
  | .expr a _ => 2 * (c.s.size - a) + 2
  | .loop _ a _ => 2 * (c.s.size - a) + 1
theorem numberO_stuck {c : Cx} {a : Nat} : ¬ numberO c a = .stuck := by
  intro h
  rw [numberO_two] at h
  unfold number2 at h
  split at h
  · cases h
  · split at h
    · exact heldO_stuck h
    · exact heldO_stuck h
theorem run_fuel (c : Cx) : ∀ f j, j.at ≤ c.s.size → need c j ≤ f → run c f j ≠ .stuck
  | 0, j, hj, h => by cases j <;> simp [need] at h
  | f + 1, .oper a0 deep, hj, h => by
    have hs := skip_ge c.s deep a0
    have hl := skip_le c.s deep a0 hj
    have hn : 2 * (c.s.size - a0) + 1 ≤ f + 1 := h
    intro he
    simp only [run] at he
    obtain ⟨a, ha⟩ : ∃ a, skip c.s deep a0 = a := ⟨_, rfl⟩
    rw [ha] at he hs hl
    split at he
    · have hlt := pk_lt (s := c.s) (a := a) (by omega)
      have h1 := run_fuel c f (.oper (a + 1) deep) (by show a + 1 ≤ c.s.size; omega) (by show 2 * _ + 1 ≤ f; omega)
      split at he
      · split at he
        · cases he
        · split at he
          · cases he
          · split at he
            · cases he
            · split at he
              · exact heldO_stuck he
              · cases he
      · exact h1 he
    · split at he
      · have hlt := pk_lt (s := c.s) (a := a) (by omega)
        split at he
        · cases he
        · have h1 := run_fuel c f (.expr (a + 1) (deep + 1)) (by show a + 1 ≤ c.s.size; omega) (by show 2 * _ + 2 ≤ f; omega)
          split at he
          · split at he
            · cases he
            · cases he
          · exact h1 he
      · exact numberO_stuck he
  | f + 1, .expr a deep, hj, h => by
    have hn : 2 * (c.s.size - a) + 2 ≤ f + 1 := h
    have hj' : a ≤ c.s.size := hj
    intro he
    simp only [run] at he
    have h1 := run_fuel c f (.oper a deep) hj (by show 2 * _ + 1 ≤ f; omega)
    split at he
    · rename_i x t' hr
      have h2 : a ≤ t' := run_ge c f (.oper a deep) x t' hr
      have h3 := (run_bound c f (.oper a deep) x t' hj hr).2
      exact run_fuel c f (.loop x t' deep) h3 (by show 2 * _ + 1 ≤ f; omega) he
    · exact h1 he
  | f + 1, .loop x a0 deep, hj, h => by
    have hs := skip_ge c.s deep a0
    have hl := skip_le c.s deep a0 hj
    have hn : 2 * (c.s.size - a0) + 1 ≤ f + 1 := h
    intro he
    simp only [run] at he
    split at he
    · cases he
    · rename_i op hop
      obtain ⟨h1, h2, h3⟩ := operL_some hop
      have h2 := h2 hl
      have h4 := run_fuel c f (.oper (skip c.s deep a0 + op.size) deep) h2 (by show 2 * _ + 1 ≤ f; omega)
      split at he
      · rename_i y t1 hr
        have h5 : skip c.s deep a0 + op.size ≤ t1 := run_ge c f (.oper _ deep) y t1 hr
        have h6 := (run_bound c f (.oper _ deep) y t1 h2 hr).2
        split at he
        · rename_i z t2 hz
          have h7 := (reckonO_bound hz).2
          exact run_fuel c f (.loop z t2 deep) (by show t2 ≤ c.s.size; omega) (by show 2 * _ + 1 ≤ f; omega) he
        · exact reckonO_stuck he
      · split at he
        · cases he
        · cases he
      · rename_i hr
        exact h4 hr
end Go.Proofs.Ytkomofphgnekoaa

set_option linter.unusedVariables false
set_option linter.unusedSimpArgs false
namespace Go.Proofs.Ytkomofphgnekoaa
open Go.Shelf Go.RowKit Go.Lib Go.Aids Go.MapLit Go.Proofs.YtkomofphgnekoaaW.PrintWords

theorem run_m (c : Cx) (m : Nat) : ∀ f j, run { c with m := m } f j = run c f j
  | 0, j => by cases j <;> rfl
  | f + 1, .oper a0 deep => by
    simp only [run, run_m c m f]
    rfl
  | f + 1, .expr a deep => by
    simp only [run, run_m c m f]
  | f + 1, .loop x a0 deep => by
    simp only [run, run_m c m f]
    rfl
theorem okB_ok {s : ByteArray} {scale : Nat} {size vs here : Int} (h : okB scale size vs here = true) (hs : s.size ≤ 4611686018427387904) (hsc : scale < 256) (m : Nat) (mute : Bool) : Cx.Ok ⟨s, scale, size, vs, here, m, mute⟩ := by
  unfold okB at h
  simp only [Bool.and_eq_true, decide_eq_true_eq] at h
  obtain ⟨⟨⟨⟨h1, h2⟩, h3⟩, h4⟩, h5⟩ := h
  have a1 : 0 ≤ size := by omega
  have a2 : size ≤ 1000000 := by omega
  have a3 : 0 ≤ vs := by omega
  have a4 : vs ≤ 1000000 := by omega
  refine ⟨hs, a1, a2, a3, a4, h4, h5, hsc, ?_⟩
  unfold scL at h1
  rw [wrap64_in _ (by omega) (by omega), wrap64_in _ (by omega) (by omega)] at h1
  simp only [find_cons, find_none] at h1
  rw [show (117 : Int) = ((117 : Nat) : Int) from rfl, show (112 : Int) = ((112 : Nat) : Int) from rfl, show (80 : Int) = ((80 : Nat) : Int) from rfl, show (105 : Int) = ((105 : Nat) : Int) from rfl, show (99 : Int) = ((99 : Nat) : Int) from rfl, show (109 : Int) = ((109 : Nat) : Int) from rfl, show (110 : Int) = ((110 : Nat) : Int) from rfl, show (118 : Int) = ((118 : Nat) : Int) from rfl] at h1
  simp only [int_nat] at h1
  exact h1

def fuelOf (s : ByteArray) : Nat := 2 * s.size + 2
def evalRun (s : ByteArray) (scale : Nat) (size vs here : Int) (mute : Bool) : Out := run ⟨s, scale, size, vs, here, 0, mute⟩ (fuelOf s) (.expr 0 0)
def evalO (s : ByteArray) (scale : Nat) (size vs here : Int) : Int × Int :=
  if okB scale size vs here then wholeN s.size (evalRun s scale size vs here false) else (0, 1)
theorem evalRun_stuck (s : ByteArray) (scale : Nat) (size vs here : Int) (mute : Bool) : evalRun s scale size vs here mute ≠ .stuck :=
  run_fuel _ _ _ (Nat.zero_le _) (by show 2 * (s.size - 0) + 2 ≤ 2 * s.size + 2; omega)

theorem whole14_calls (s : ByteArray) (scale : Nat) (size vs here : Int) (w : World) (hsc : scale < 256) (hs : s.size ≤ 4611686018427387904) :
    Calls Try.prog 13 #[.string s, .int .u8 scale, .agg #[.int .i64 size, .int .i64 vs, .int .i64 here], .func (.func 14) #[] #[]] w fun e w' => e = .returned (.tuple #[.int .i64 (evalO s scale size vs here).1, .int .i64 (evalO s scale size vs here).2]) ∧ Below w.heap.size w w' := by
  unfold evalO
  rcases hob : okB scale size vs here with _ | _
  · exact whole14_arg s scale size vs here w hsc hob
  · refine whole14_read s scale size vs here w hsc hob _ (evalRun_stuck _ _ _ _ _ _) (fun k h => run_die _ _ _ k h) hs fun W b m h => ?_
    have ok := okB_ok (s := s) hob hs hsc m false
    have e : run ⟨s, scale, size, vs, here, m, false⟩ (fuelOf s) (.expr 0 0) = evalRun s scale size vs here false := run_m ⟨s, scale, size, vs, here, 0, false⟩ m _ _
    have hns := evalRun_stuck s scale size vs here false
    rw [← e] at hns ⊢
    exact eval1_calls W b _ _ h ok hns

theorem eval_calls (s : ByteArray) (scale : Nat) (size vs here : Int) (w : World) (hsc : scale < 256) (hs : s.size ≤ 4611686018427387904) :
    Calls Try.prog 8 #[.string s, .int .u8 scale, .agg #[.int .i64 size, .int .i64 vs, .int .i64 here]] w fun e w' => e = .returned (.tuple #[.int .i64 (evalO s scale size vs here).1, .int .i64 (evalO s scale size vs here).2]) ∧ Below w.heap.size w w' := by
  have HO := Lib.hid (fun W => whole14_calls s scale size vs here W hsc hs)
  obtain ⟨r, hr⟩ : ∃ r, evalO s scale size vs here = r := ⟨_, rfl⟩
  rw [hr] at HO ⊢
  clear hr
  go_enter Try.func8, Try.ntmps8
  go_wp2_with (go_at_call 13; refine (HO.out _).mono ?_; rintro e w1 ⟨rfl, hb⟩)
  go_ret2
  exact ⟨rfl, ((Below.refl _ w).alloc (Nat.le_refl _) _).trans (hb.mono (by simp))⟩
end Go.Proofs.Ytkomofphgnekoaa

set_option linter.unusedVariables false
set_option linter.unusedSimpArgs false
namespace Go.Proofs.Ytkomofphgnekoaa
open Go.Shelf Go.RowKit Go.Lib Go.Aids Go.MapLit Go.Proofs.YtkomofphgnekoaaW.PrintWords

/-- One byte. -/
def one (b : Nat) : ByteArray := ⟨#[UInt8.ofNat b]⟩
/-- A number's digits. -/
def digs (n : Nat) : ByteArray := if h : n < 10 then one (48 + n) else digs (n / 10) ++ one (48 + n % 10)
termination_by n
decreasing_by omega
theorem ba_assoc (a b c : ByteArray) : a ++ b ++ c = a ++ (b ++ c) := ByteArray.append_assoc
theorem ba_nil (a : ByteArray) : (⟨#[]⟩ : ByteArray) ++ a = a := ByteArray.empty_append
theorem num_one (n : Nat) (h : n < 10) : strOfNums ([wrap64 (48 + ((n : Int))) % 256] : List Int) = one (48 + n) := by
  rw [wrap64_in _ (by omega) (by omega)]
  have : n = 0 ∨ n = 1 ∨ n = 2 ∨ n = 3 ∨ n = 4 ∨ n = 5 ∨ n = 6 ∨ n = 7 ∨ n = 8 ∨ n = 9 := by omega
  rcases this with rfl | rfl | rfl | rfl | rfl | rfl | rfl | rfl | rfl | rfl <;> rfl
theorem one_size (n : Nat) : (one n).size = 1 := rfl
theorem digs_split (n : Nat) (h : ¬ n < 10) : digs n = digs (n / 10) ++ one (48 + n % 10) := by rw [digs, dif_neg h]
theorem digs_low (n : Nat) : digs n = (if n < 10 then ⟨#[]⟩ else digs (n / 10)) ++ one (48 + n % 10) := by
  by_cases h : n < 10
  · rw [digs, dif_pos h, if_pos h, ba_nil, Nat.mod_eq_of_lt h]
  · rw [digs, dif_neg h, if_neg h]
theorem l0_digs : ∀ (k n : Nat) (x : ByteArray), n < 1000000000000 → n ≤ k → x.size + n ≤ 1000000000000000 → PDigits.frisketref01_Digits.l0 (k + 1) n x = some ((if n < 10 then ⟨#[]⟩ else digs (n / 10)) ++ x) := by
  intro k
  induction k with
  | zero =>
    intro n x hn hk hx
    obtain rfl : n = 0 := by omega
    rw [if_pos (by omega), ba_nil]
    rfl
  | succ k ih =>
    intro n x hn hk hx
    rw [PDigits.frisketref01_Digits.l0]
    by_cases h : n < 10
    · rw [if_neg (by omega), if_pos h, ba_nil]
    · rw [if_pos (by omega), if_neg h, Option.bind_some]
      have e1 : wrap64 (Int.tdiv (n : Int) 10) = ((n / 10 : Nat) : Int) := by rw [Int.tdiv_eq_ediv_of_nonneg (by omega), wrap64_in _ (by omega) (by omega)]; omega
      have e2 : Int.tmod ((n / 10 : Nat) : Int) 10 = ((n / 10 % 10 : Nat) : Int) := by rw [Int.tmod_eq_emod_of_nonneg (by omega)]; omega
      rw [e1, e2, num_one _ (by omega)]
      have hsz : (one (48 + n / 10 % 10) ++ x).size = 1 + x.size := by rw [ByteArray.size_append, one_size]
      rw [if_pos (by rw [one_size]; omega), ih (n / 10) _ (by omega) (by omega) (by rw [hsz]; omega), digs_low (n / 10), ba_assoc]
theorem digits_calls (n : Nat) (w : World) (hn : n < 1000000000000) : Calls Try.prog 7 #[.int .i64 n] w fun e w' => e = .returned (.string (digs n)) ∧ Below w.heap.size w w' := by
  refine PDigits.frisketref01_Digits.calls (n + 1) n (digs n) w ?_
  unfold PDigits.frisketref01_Digits.f
  have e2 : Int.tmod (n : Int) 10 = ((n % 10 : Nat) : Int) := by rw [Int.tmod_eq_emod_of_nonneg (by omega)]; omega
  rw [e2, num_one _ (by omega), l0_digs n n _ hn (Nat.le_refl _) (by rw [one_size]; omega), ← digs_low]
end Go.Proofs.Ytkomofphgnekoaa

set_option linter.unusedVariables false
set_option linter.unusedSimpArgs false
namespace Go.Proofs.Ytkomofphgnekoaa
open Go.Shelf Go.RowKit Go.Lib Go.Aids Go.MapLit

/-- Behind a place stands this list. -/
def At (s : ByteArray) (a : Nat) (l : List UInt8) : Prop := s.data.toList.drop a = l
theorem At.size {s : ByteArray} {a : Nat} {l : List UInt8} (h : At s a l) (hl : l ≠ []) : a + l.length = s.size := by
  have e : (s.data.toList.drop a).length = l.length := congrArg List.length h
  rw [List.length_drop] at e
  have : 0 < l.length := List.length_pos_iff.2 hl
  have : s.data.toList.length = s.size := by rw [Array.length_toList]; rfl
  omega
theorem At.next {s : ByteArray} {a : Nat} {x : UInt8} {l : List UInt8} (h : At s a (x :: l)) : At s (a + 1) l := by
  unfold At at h ⊢
  rw [← List.drop_drop, h]
  rfl
theorem At.add {s : ByteArray} {a : Nat} {p l : List UInt8} (h : At s a (p ++ l)) : At s (a + p.length) l := by
  unfold At at h ⊢
  rw [← List.drop_drop, h, List.drop_left]
theorem pk_at {s : ByteArray} {a : Nat} {x : UInt8} {l : List UInt8} (h : At s a (x :: l)) : pk s a = x.toNat := by
  have hs := h.size (by simp)
  rw [List.length_cons] at hs
  have ha : a < s.size := by omega
  unfold pk
  rw [dif_pos ha]
  have e : s.data.toList[a]? = some x := by
    have := congrArg List.head? h
    rw [List.head?_drop] at this
    exact this
  have ha' : a < s.data.toList.length := by rw [Array.length_toList]; exact ha
  rw [List.getElem?_eq_getElem ha'] at e
  injection e with e
  rw [← e]
  rfl
theorem pk_end {s : ByteArray} {a : Nat} (h : At s a []) : pk s a = 0 := by
  have : s.data.toList.length ≤ a := by
    have := congrArg List.length h
    rw [List.length_drop] at this
    simp at this ⊢
    omega
  unfold pk
  rw [dif_neg (by rw [Array.length_toList] at this; exact Nat.not_lt.2 this)]

/-- All are digits. -/
def Digs (D : List UInt8) : Prop := ∀ x ∈ D, 48 ≤ x.toNat ∧ x.toNat ≤ 57
def val (n : Nat) (D : List UInt8) : Nat := D.foldl (fun n d => n * 10 + (d.toNat - 48)) n
/-- No digit stands here. -/
def NoDig (s : ByteArray) (a : Nat) : Prop := ¬ isDig s a
theorem rowF_at (s : ByteArray) : ∀ (D : List UInt8) (k n a : Nat) (l : List UInt8), At s a (D ++ l) → D.length ≤ k → Digs D → (D.length < k → NoDig s (a + D.length)) → rowF s k n a = (val n D, a + D.length)
  | [], k, n, a, l, h, hk, hd, hn => by
    cases k with
    | zero => rfl
    | succ k =>
      unfold rowF
      exact if_neg (hn (Nat.succ_pos _))
  | x :: D, 0, n, a, l, h, hk, hd, hn => by simp at hk
  | x :: D, k + 1, n, a, l, h, hk, hd, hn => by
    have hp := pk_at (show At s a (x :: (D ++ l)) from h)
    have hx := hd x (by simp)
    unfold rowF
    rw [if_pos (show isDig s a by unfold isDig; rw [hp]; exact hx), hp]
    rw [List.length_cons] at hk hn
    rw [rowF_at s D k _ (a + 1) l (At.next h) (by omega) (fun y hy => hd y (by simp [hy])) (fun hh => by rw [Nat.add_assoc, Nat.add_comm 1]; exact hn (by omega))]
    simp only [val, List.foldl_cons, List.length_cons]
    rw [Nat.add_assoc, Nat.add_comm 1]

/-- A number's digits, as a list. -/
def dl (n : Nat) : List UInt8 := (digs n).data.toList
theorem list_append (x y : ByteArray) : (x ++ y).data.toList = x.data.toList ++ y.data.toList := by rw [ByteArray.data_append, Array.toList_append]
theorem dl_low (n : Nat) (h : n < 10) : dl n = [UInt8.ofNat (48 + n)] := by rw [dl, digs, dif_pos h]; rfl
theorem dl_high (n : Nat) (h : ¬ n < 10) : dl n = dl (n / 10) ++ [UInt8.ofNat (48 + n % 10)] := by
  rw [dl, digs, dif_neg h, list_append]; rfl
theorem u8_dig (n : Nat) (h : n < 10) : (UInt8.ofNat (48 + n)).toNat = 48 + n := by
  rw [UInt8.toNat_ofNat']; omega
theorem dl_facts : ∀ k n, n ≤ k → Digs (dl n) ∧ val 0 (dl n) = n ∧ 0 < (dl n).length
  | k, n, hk => by
    by_cases h : n < 10
    · rw [dl_low n h]
      refine ⟨?_, ?_, by simp⟩
      · intro x hx
        simp only [List.mem_singleton] at hx
        subst hx
        rw [u8_dig n h]; omega
      · simp only [val, List.foldl_cons, List.foldl_nil]
        rw [u8_dig n h]; omega
    · match k with
      | 0 => omega
      | k + 1 =>
        obtain ⟨h1, h2, h3⟩ := dl_facts k (n / 10) (by omega)
        rw [dl_high n h]
        refine ⟨?_, ?_, by simp⟩
        · intro x hx
          rcases List.mem_append.1 hx with hx | hx
          · exact h1 x hx
          · simp only [List.mem_singleton] at hx
            subst hx
            rw [u8_dig _ (Nat.mod_lt _ (by decide))]
            have := Nat.mod_lt n (show 0 < 10 by decide)
            omega
        · unfold val at h2 ⊢
          rw [List.foldl_append, h2]
          simp only [List.foldl_cons, List.foldl_nil]
          rw [u8_dig _ (Nat.mod_lt _ (by decide))]
          omega
theorem dl_digs (n : Nat) : Digs (dl n) := (dl_facts n n (Nat.le_refl _)).1
theorem dl_val (n : Nat) : val 0 (dl n) = n := (dl_facts n n (Nat.le_refl _)).2.1
theorem dl_pos (n : Nat) : 0 < (dl n).length := (dl_facts n n (Nat.le_refl _)).2.2
theorem dl_len : ∀ k n, 0 < k → n < 10 ^ k → (dl n).length ≤ k
  | 0, n, h, _ => absurd h (by decide)
  | k + 1, n, _, hn => by
    by_cases h : n < 10
    · rw [dl_low n h]; simp
    · rw [dl_high n h, List.length_append]
      have hk : 0 < k := by
        rcases Nat.eq_zero_or_pos k with rfl | hk
        · simp at hn; omega
        · exact hk
      have := dl_len k (n / 10) hk (by rw [Nat.pow_succ] at hn; omega)
      simp only [List.length_singleton]
      omega
theorem dl_head (n : Nat) : ∃ x t, dl n = x :: t ∧ 48 ≤ x.toNat ∧ x.toNat ≤ 57 := by
  have h := dl_pos n
  have hd := dl_digs n
  rcases e : dl n with _ | ⟨x, t⟩
  · rw [e] at h; simp at h
  · rw [e] at hd; exact ⟨x, t, rfl, hd x (by simp)⟩

/-- The byte behind a number: no digit, no point, no scale. -/
def Stops (b : Nat) : Prop := ¬ (48 ≤ b ∧ b ≤ 57) ∧ b ≠ 46 ∧ b ≠ 117 ∧ b ≠ 112 ∧ b ≠ 80 ∧ b ≠ 105 ∧ b ≠ 99 ∧ b ≠ 109 ∧ b ≠ 110 ∧ b ≠ 118
instance (b : Nat) : Decidable (Stops b) := by unfold Stops; infer_instance
theorem number_at (c : Cx) (hsc : c.scale = 117) (n a : Nat) (l : List UInt8) (h : At c.s a (dl n ++ l)) (hn : n < 1000000000) (hs : Stops (pk c.s (a + (dl n).length))) :
    numberO c a = heldO c n (a + (dl n).length) := by
  have hr := rowF_at c.s (dl n) 9 0 a l h (dl_len 9 n (by decide) hn) (dl_digs n) (fun _ hd => hs.1 hd)
  rw [dl_val] at hr
  have hpos := dl_pos n
  unfold numberO
  simp only [hr]
  rw [if_neg hs.2.1]
  simp only [Nat.sub_self, if_pos]
  rw [if_neg (by omega)]
  have hu : unitOf c (pk c.s (a + (dl n).length)) = none := by
    obtain ⟨h0, h1, h2, h3, h4, h5, h6, h7, h8, h9⟩ := hs
    unfold unitOf
    rw [if_neg h2, if_neg h3, if_neg h4, if_neg h5, if_neg h6, if_neg h7, if_neg h8, if_neg h9]
  rw [hu, hsc]
  have h1 : unitOf c 117 = some 1 := rfl
  simp only [h1, Option.getD_some]
  congr 1
  simp

/-- More fuel answers alike. -/
theorem run_more (c : Cx) : ∀ f j o, run c f j = o → o ≠ .stuck → run c (f + 1) j = o
  | 0, j, o, h, ho => by cases j <;> exact absurd h.symm ho
  | f + 1, .oper a0 deep, o, h, ho => by
    have ih := run_more c f
    rw [run] at h ⊢
    split at h
    · rename_i hb
      simp only [hb, if_true]
      rcases hr : run c f (.oper (skip c.s deep a0 + 1) deep) with ⟨x, t⟩ | e | _
      · rw [hr] at h; rw [ih _ _ hr (by simp)]; exact h
      · rw [hr] at h; rw [ih _ _ hr (by simp)]; exact h
      · rw [hr] at h; exact absurd h.symm ho
    · rename_i hb
      simp only [hb, if_false]
      split at h
      · rename_i hb2
        simp only [hb2, if_true]
        split at h
        · rename_i hd
          rw [if_pos hd]; exact h
        · rename_i hd
          rw [if_neg hd]
          rcases hr : run c f (.expr (skip c.s deep a0 + 1) (deep + 1)) with ⟨x, t⟩ | e | _
          · rw [hr] at h; rw [ih _ _ hr (by simp)]; exact h
          · rw [hr] at h; rw [ih _ _ hr (by simp)]; exact h
          · rw [hr] at h; exact absurd h.symm ho
      · rename_i hb2
        simp only [hb2, if_false]
        exact h
  | f + 1, .expr a deep, o, h, ho => by
    have ih := run_more c f
    rw [run] at h ⊢
    rcases hr : run c f (.oper a deep) with ⟨x, t⟩ | e | _
    · rw [hr] at h; rw [ih _ _ hr (by simp)]; exact ih _ _ h ho
    · rw [hr] at h; rw [ih _ _ hr (by simp)]; exact h
    · rw [hr] at h; exact absurd h.symm ho
  | f + 1, .loop x a0 deep, o, h, ho => by
    have ih := run_more c f
    rw [run] at h ⊢
    rcases hop : operL c.s (skip c.s deep a0) with _ | op
    · simp only [hop] at h ⊢; exact h
    · simp only [hop] at h ⊢
      rcases hr : run c f (.oper (skip c.s deep a0 + op.size) deep) with ⟨y, t⟩ | e | _
      · rw [hr] at h
        rw [ih _ _ hr (by simp)]
        simp only at h ⊢
        rcases hz : reckonO c op x y t with ⟨z, t2⟩ | e | _
        · simp only [hz] at h ⊢; exact ih _ _ h ho
        · simp only [hz] at h ⊢; exact h
        · simp only [hz] at h ⊢; exact h
      · rw [hr] at h; rw [ih _ _ hr (by simp)]; exact h
      · rw [hr] at h; exact absurd h.symm ho
/-- A job's answer, at some fuel. -/
def Runs (c : Cx) (j : Job) (o : Out) : Prop := o ≠ .stuck ∧ ∃ f, run c f j = o
theorem run_add (c : Cx) (j : Job) (o : Out) (ho : o ≠ .stuck) (f : Nat) (h : run c f j = o) : ∀ k, run c (f + k) j = o
  | 0 => h
  | k + 1 => run_more c (f + k) j o (run_add c j o ho f h k) ho
theorem Runs.eq {c : Cx} {j : Job} {o : Out} (h : Runs c j o) (f : Nat) (hf : run c f j ≠ .stuck) : run c f j = o := by
  obtain ⟨ho, g, hg⟩ := h
  have h1 := run_add c j o ho g hg f
  have h2 := run_add c j _ hf f rfl g
  rw [Nat.add_comm g f, h2] at h1
  exact h1
theorem Runs.of {c : Cx} {j : Job} {f : Nat} {o : Out} (h : run c f j = o) (ho : o ≠ .stuck) : Runs c j o := ⟨ho, f, h⟩
theorem evalRun_eq {s : ByteArray} {scale : Nat} {size vs here : Int} {mute : Bool} {o : Out} (h : Runs ⟨s, scale, size, vs, here, 0, mute⟩ (.expr 0 0) o) : evalRun s scale size vs here mute = o :=
  h.eq _ (evalRun_stuck s scale size vs here mute)
/-- The steps. -/
theorem Runs.expr {c : Cx} {a deep t : Nat} {x : Int} {o : Out} (h : Runs c (.oper a deep) (.ok x t)) (k : Runs c (.loop x t deep) o) : Runs c (.expr a deep) o := by
  obtain ⟨h1, f, hf⟩ := h
  obtain ⟨h2, g, hg⟩ := k
  refine ⟨h2, f + g + 1, ?_⟩
  rw [run, run_add c _ _ h1 f hf g, Nat.add_comm f g]
  exact run_add c _ _ h2 g hg f
theorem Runs.loop_end {c : Cx} {x : Int} {a deep : Nat} (h : operL c.s (skip c.s deep a) = none) : Runs c (.loop x a deep) (.ok x (skip c.s deep a)) := by
  refine ⟨by simp, 1, ?_⟩
  rw [run, h]
theorem Runs.loop_step {c : Cx} {x y z : Int} {a deep t t2 : Nat} {op : ByteArray} {o : Out} (h : operL c.s (skip c.s deep a) = some op) (hy : Runs c (.oper (skip c.s deep a + op.size) deep) (.ok y t)) (hz : reckonO c op x y t = .ok z t2)
    (k : Runs c (.loop z t2 deep) o) : Runs c (.loop x a deep) o := by
  obtain ⟨h1, f, hf⟩ := hy
  obtain ⟨h2, g, hg⟩ := k
  refine ⟨h2, f + g + 1, ?_⟩
  rw [run, h]
  simp only
  rw [run_add c _ _ h1 f hf g]
  simp only [hz]
  rw [Nat.add_comm f g]
  exact run_add c _ _ h2 g hg f
theorem Runs.loop_die {c : Cx} {x y e : Int} {a deep t : Nat} {op : ByteArray} (h : operL c.s (skip c.s deep a) = some op) (hy : Runs c (.oper (skip c.s deep a + op.size) deep) (.ok y t)) (hz : reckonO c op x y t = .die e) : Runs c (.loop x a deep) (.die e) := by
  obtain ⟨h1, f, hf⟩ := hy
  refine ⟨by simp, f + 1, ?_⟩
  rw [run, h]
  simp only
  rw [hf]
  simp only [hz]
theorem Runs.expr_die {c : Cx} {a deep : Nat} {e : Int} (h : Runs c (.oper a deep) (.die e)) : Runs c (.expr a deep) (.die e) := by
  obtain ⟨h1, f, hf⟩ := h
  refine ⟨by simp, f + 1, ?_⟩
  rw [run, hf]
theorem Runs.paren {c : Cx} {a deep t : Nat} {x : Int} (hb : pk c.s (skip c.s deep a) = 40) (hd : deep ≠ 20) (h : Runs c (.expr (skip c.s deep a + 1) (deep + 1)) (.ok x t)) (ht : pk c.s t = 41) : Runs c (.oper a deep) (.ok x (t + 1)) := by
  obtain ⟨h1, f, hf⟩ := h
  refine ⟨by simp, f + 1, ?_⟩
  rw [run]
  simp only [hb]
  rw [if_neg (by decide), if_pos trivial, if_neg hd, hf]
  simp only
  rw [if_pos ht]
theorem Runs.paren_die {c : Cx} {a deep : Nat} {e : Int} (hb : pk c.s (skip c.s deep a) = 40) (hd : deep ≠ 20) (h : Runs c (.expr (skip c.s deep a + 1) (deep + 1)) (.die e)) : Runs c (.oper a deep) (.die e) := by
  obtain ⟨h1, f, hf⟩ := h
  refine ⟨by simp, f + 1, ?_⟩
  rw [run]
  simp only [hb]
  rw [if_neg (by decide), if_pos trivial, if_neg hd, hf]
theorem Runs.number {c : Cx} {a deep : Nat} {o : Out} (hb : 46 < pk c.s (skip c.s deep a)) (hb2 : pk c.s (skip c.s deep a) < 124) (h : numberO c (skip c.s deep a) = o) (ho : o ≠ .stuck) : Runs c (.oper a deep) o := by
  refine ⟨ho, 1, ?_⟩
  rw [run]
  rw [if_neg (by omega), if_neg (by omega), h]
theorem skip_zero (s : ByteArray) (a : Nat) : skip s 0 a = a := rfl
theorem skip_stay (s : ByteArray) (deep a : Nat) (h : pk s a ≠ 32) : skip s deep a = a := by
  unfold skip
  split
  · cases s.size - a with
    | zero => rfl
    | succ k => unfold skipF; rw [if_neg h]
  · rfl
/-- A number is an operand. -/
theorem Runs.digs {c : Cx} (hsc : c.scale = 117) {n a deep : Nat} {l : List UInt8} (h : At c.s a (dl n ++ l)) (hn : n < 1000000000) (hs : Stops (pk c.s (a + (dl n).length))) (hm : c.mute = false) : Runs c (.oper a deep) (.ok n (a + (dl n).length)) := by
  obtain ⟨x, t, e, h1, h2⟩ := dl_head n
  have hp : pk c.s a = x.toNat := pk_at (l := t ++ l) (by rw [e] at h; exact h)
  have hsk := skip_stay c.s deep a (by omega)
  refine Runs.number (by rw [hsk]; omega) (by rw [hsk]; omega) ?_ (by simp)
  rw [hsk, number_at c hsc n a l h hn hs]
  unfold heldO
  rw [hm, if_neg (by decide), if_neg (by unfold big; omega)]
theorem Runs.digs_mute {c : Cx} (hsc : c.scale = 117) {n a deep : Nat} {l : List UInt8} (h : At c.s a (dl n ++ l)) (hn : n < 1000000000) (hs : Stops (pk c.s (a + (dl n).length))) (hm : c.mute = true) : Runs c (.oper a deep) (.ok 0 (a + (dl n).length)) := by
  obtain ⟨x, t, e, h1, h2⟩ := dl_head n
  have hp : pk c.s a = x.toNat := pk_at (l := t ++ l) (by rw [e] at h; exact h)
  have hsk := skip_stay c.s deep a (by omega)
  refine Runs.number (by rw [hsk]; omega) (by rw [hsk]; omega) ?_ (by simp)
  rw [hsk, number_at c hsc n a l h hn hs]
  unfold heldO
  rw [hm, if_pos rfl]
end Go.Proofs.Ytkomofphgnekoaa

set_option linter.unusedVariables false
set_option linter.unusedSimpArgs false
namespace Go.Proofs.Ytkomofphgnekoaa
open Go.Shelf Go.RowKit Go.Lib Go.Aids Go.MapLit Go.Proofs.YtkomofphgnekoaaW.PrintWords

theorem sane_eval : evalO ⟨#[49, 105, 43, 50, 112, 42, 51]⟩ 117 0 0 0 = (2220, 0) := by decide +kernel
theorem sane_calls (w : World) : Calls Try.prog 9 #[] w fun e w' => e = .returned (.bool true) ∧ Below w.heap.size w w' := by
  have H := fun W => eval_calls ⟨#[49, 105, 43, 50, 112, 42, 51]⟩ 117 0 0 0 W (by decide) (by decide)
  rw [sane_eval] at H
  have HH := Lib.hid H
  clear H
  go_enter Try.func9, Try.ntmps9
  go_wp2_with (go_at_call 8; refine (HH.out _).mono ?_; rintro e w1 ⟨rfl, hb⟩)
  go_ret
  exact ⟨rfl, hb⟩

def opsS : ByteArray := ⟨#[43, 45, 42, 47, 37, 60, 62, 61, 38, 58]⟩
def opAt (i : Nat) : ByteArray := opsS.extract i (i + 1)
def leftA (a b c i j : Nat) : ByteArray := digs a ++ opAt i ++ digs b ++ opAt j ++ digs c
def leftB (a b c i j : Nat) : ByteArray := ⟨#[40]⟩ ++ digs a ++ opAt i ++ digs b ++ ⟨#[41]⟩ ++ opAt j ++ digs c
theorem u64_range (A : Int) : 0 ≤ IntKind.u64.wrap A ∧ IntKind.u64.wrap A < 18446744073709551616 := by rw [IntKind.wrap_u64]; omega
theorem u64_mod (A k : Int) (hk : 0 < k) (hk2 : k ≤ 1000000) : ∃ n : Nat, (n : Int) < k ∧ (IntKind.u64.wrap A).tmod k = n ∧ wrap64 n = n := by
  have := u64_range A
  have e : (IntKind.u64.wrap A).tmod k = (IntKind.u64.wrap A) % k := Int.tmod_eq_emod_of_nonneg this.1
  have h0 := Int.emod_nonneg (IntKind.u64.wrap A) (show k ≠ 0 by omega)
  have h1 := Int.emod_lt_of_pos (IntKind.u64.wrap A) hk
  refine ⟨((IntKind.u64.wrap A) % k).toNat, by omega, by rw [e]; omega, wrap64_in _ (by omega) (by omega)⟩
theorem u64_3000 (A : Int) : ∃ n : Nat, n < 3000 ∧ (IntKind.u64.wrap A).tmod 3000 = n ∧ wrap64 n = n := by
  obtain ⟨n, h1, h2, h3⟩ := u64_mod A 3000 (by decide) (by decide)
  exact ⟨n, by clear h2 h3; omega, h2, h3⟩
theorem u64_10 (A : Int) : ∃ n : Nat, n < 10 ∧ (IntKind.u64.wrap A).tmod 10 = n ∧ wrap64 n = n := by
  obtain ⟨n, h1, h2, h3⟩ := u64_mod A 10 (by decide) (by decide)
  exact ⟨n, by clear h2 h3; omega, h2, h3⟩
theorem wrap_succ (i : Nat) (h : i < 10) : wrap64 ((i : Int) + 1) = (i : Int) + 1 := wrap64_in _ (by omega) (by omega)
theorem digs_size (n : Nat) (h : n < 10000) : (digs n).size ≤ 4 := by
  have h1 : ∀ m, m < 10 → (digs m).size = 1 := fun m hm => by rw [digs, dif_pos hm]; rfl
  have step : ∀ m k, (m < 10 → True) → (digs (m / 10)).size ≤ k → 1 ≤ k + 1 → (digs m).size ≤ k + 1 := by
    intro m k _ hk _
    rw [digs]
    split
    · rw [one_size]; omega
    · rw [ByteArray.size_append, one_size]; omega
  have a1 : (digs (n / 10 / 10 / 10)).size ≤ 1 := by rw [h1 _ (by omega)]; omega
  exact step n 3 (fun _ => trivial) (step (n / 10) 2 (fun _ => trivial) (step (n / 10 / 10) 1 (fun _ => trivial) a1 (by omega)) (by omega)) (by omega)

theorem run_op (s : ByteArray) (hs : s.size = 10) (i : Nat) (hi : i < 10) (W : World) :
    (Instr.slice 9 (.string s) (some (.int .i64 (i : Int))) (some (.int .i64 ((i : Int) + 1))) none).run Try.prog W = .ok (.string (s.extract i (i + 1))) W := by
  have h := Go.Aids.run_cut (P := Try.prog) 9 Try.underlying9 s .i64 (i : Int) ((i : Int) + 1) (by omega) (by omega) (by rw [hs]; omega) W
  rw [show ((i : Int)).toNat = i by omega, show ((i : Int) + 1).toNat = i + 1 by omega] at h
  exact h
theorem belowN {B : Nat} {w W : World} (h : Below B w W) (n : Nat) : Below B w (W.drewN n) := ⟨h.os, h.tape, h.output, h.size, h.block⟩
theorem belowStep {B : Nat} {w W W' : World} (h : Below B w W) (k : Below W.heap.size W W') (hB : B ≤ W.heap.size) : Below B w W' := h.trans (k.mono hB)
theorem opAt_size (i : Nat) (h : i < 10) : (opAt i).size = 1 := by
  rw [opAt, ByteArray.size_extract, show opsS.size = 10 from rfl]; omega
set_option maxRecDepth 100000 in
set_option maxHeartbeats 4000000 in
theorem left_calls (A B C op th : Int) (w : World) (HP : ∀ a b c i j : Nat, a < 3000 → b < 3000 → c < 3000 → i < 10 → j < 10 → evalO (leftA a b c i j) 117 0 0 0 = evalO (leftB a b c i j) 117 0 0 0) :
    Calls Try.prog 3 #[.agg #[.int .i64 A, .int .i64 B, .int .i64 C, .int .i64 op, .int .i64 th]] w fun e w' => e = .returned (.bool true) ∧ Below w.heap.size w w' := by
  obtain ⟨a, ha, hA, wA⟩ := u64_3000 A
  obtain ⟨b, hb, hB, wB⟩ := u64_3000 B
  obtain ⟨c, hc, hC, wC⟩ := u64_3000 C
  obtain ⟨i, hi, hI, wI⟩ := u64_10 op
  obtain ⟨j, hj, hJ, wJ⟩ := u64_10 th
  have wi1 := wrap_succ i hi
  have wj1 := wrap_succ j hj
  have ci : ∀ W, (Instr.slice 9 (.string ⟨#[43, 45, 42, 47, 37, 60, 62, 61, 38, 58]⟩) (some (.int .i64 (wrap64 ((IntKind.u64.wrap op).tmod 10)))) (some (.int .i64 (wrap64 (wrap64 ((IntKind.u64.wrap op).tmod 10) + 1)))) none).run Try.prog W = .ok (.string (opAt i)) W := by
    intro W
    rw [hI, wI, wi1]
    exact run_op ⟨#[43, 45, 42, 47, 37, 60, 62, 61, 38, 58]⟩ rfl i hi W
  have cj : ∀ W, (Instr.slice 9 (.string ⟨#[43, 45, 42, 47, 37, 60, 62, 61, 38, 58]⟩) (some (.int .i64 (wrap64 ((IntKind.u64.wrap th).tmod 10)))) (some (.int .i64 (wrap64 (wrap64 ((IntKind.u64.wrap th).tmod 10) + 1)))) none).run Try.prog W = .ok (.string (opAt j)) W := by
    intro W
    rw [hJ, wJ, wj1]
    exact run_op ⟨#[43, 45, 42, 47, 37, 60, 62, 61, 38, 58]⟩ rfl j hj W
  have ua := fun W => digits_calls a W (Nat.lt_trans ha (by decide))
  have ub := fun W => digits_calls b W (Nat.lt_trans hb (by decide))
  have uc := fun W => digits_calls c W (Nat.lt_trans hc (by decide))
  have hp := HP a b c i j ha hb hc hi hj
  clear HP
  have sa := digs_size a (Nat.lt_trans ha (by decide))
  have sb := digs_size b (Nat.lt_trans hb (by decide))
  have sc := digs_size c (Nat.lt_trans hc (by decide))
  have si := opAt_size i hi
  have sj := opAt_size j hj
  have hA' : ∀ _ : Unit, (IntKind.u64.wrap A).tmod 3000 = a := fun _ => hA
  have hB' : ∀ _ : Unit, (IntKind.u64.wrap B).tmod 3000 = b := fun _ => hB
  have hC' : ∀ _ : Unit, (IntKind.u64.wrap C).tmod 3000 = c := fun _ => hC
  have hI' : ∀ _ : Unit, (IntKind.u64.wrap op).tmod 10 = i := fun _ => hI
  have hJ' : ∀ _ : Unit, (IntKind.u64.wrap th).tmod 10 = j := fun _ => hJ
  clear hA hB hC hI hJ
  have Hua := Lib.hid ua
  have Hub := Lib.hid ub
  have Huc := Lib.hid uc
  have sA : (leftA a b c i j).size ≤ 100 := by simp only [leftA, ByteArray.size_append]; omega
  have sB : (leftB a b c i j).size ≤ 100 := by simp only [leftB, ByteArray.size_append, show (ByteArray.mk #[40]).size = 1 from rfl, show (ByteArray.mk #[41]).size = 1 from rfl]; omega
  have E1 := fun W => eval_calls (leftA a b c i j) 117 0 0 0 W (by decide) (by omega)
  have E2 := fun W => eval_calls (leftB a b c i j) 117 0 0 0 W (by decide) (by omega)
  rw [← hp] at E2
  generalize evalO (leftA a b c i j) 117 0 0 0 = r at E1 E2
  obtain ⟨rx, ry⟩ := r
  have S1 := fun W => sane_calls W
  have HE1 := Lib.hid E1
  have HE2 := Lib.hid E2
  have HS1 := Lib.hid S1
  clear ua ub uc hp E1 E2 S1 sA sB
  go_enter Try.func3, Try.ntmps3
  go_wp2
  go_quiet (fail)
  rename Nat => nq0
  go_wp2_with fail
  simp only [hA' (), wA]
  refine (Hua.out _).mono ?_
  rintro e w1 ⟨rfl, b1⟩
  go_wp2_with fail
  simp only [hB' (), wB]
  refine (Hub.out _).mono ?_
  rintro e w2 ⟨rfl, b2⟩
  go_wp2_with fail
  simp only [hC' (), wC]
  refine (Huc.out _).mono ?_
  rintro e w3 ⟨rfl, b3⟩
  go_wp2_with fail
  go_quiet (fail)
  go_wp2_with fail
  refine (HE1.out _).mono ?_
  rintro e w4 ⟨rfl, b4⟩
  go_wp2_with fail
  refine (HE2.out _).mono ?_
  rintro e w5 ⟨rfl, b5⟩
  go_wp2_with fail
  refine (HS1.out _).mono ?_
  rintro e w6 ⟨rfl, b6⟩
  go_wp2_with fail
  go_ret
  have q0 := belowN ((Below.refl w.heap.size w).alloc (Nat.le_refl _) (Obj.cells #[Value.int IntKind.i64 A, Value.int IntKind.i64 B, Value.int IntKind.i64 C, Value.int IntKind.i64 op, Value.int IntKind.i64 th] 23)) nq0
  have q1 := belowStep q0 b1 q0.size
  have q2 := belowStep q1 b2 q1.size
  have q3 := belowStep q2 b3 q2.size
  have q3 := belowN q3 nq
  have q4 := belowStep q3 b4 q3.size
  have q5 := belowStep q4 b5 q4.size
  exact ⟨rfl, belowStep q5 b6 q5.size⟩
end Go.Proofs.Ytkomofphgnekoaa

set_option linter.unusedVariables false
set_option linter.unusedSimpArgs false
namespace Go.Proofs.Ytkomofphgnekoaa
open Go.Shelf Go.RowKit Go.Lib Go.Aids Go.MapLit

def ob (i : Nat) : UInt8 := opsS.data.toList.getD i 0
theorem opAt_ob : ∀ i, i < 10 → opAt i = ⟨#[ob i]⟩ := by
  intro i h
  have : i = 0 ∨ i = 1 ∨ i = 2 ∨ i = 3 ∨ i = 4 ∨ i = 5 ∨ i = 6 ∨ i = 7 ∨ i = 8 ∨ i = 9 := by omega
  rcases this with rfl | rfl | rfl | rfl | rfl | rfl | rfl | rfl | rfl | rfl <;> decide +kernel
theorem ob_cases (i : Nat) (h : i < 10) : ob i = 43 ∨ ob i = 45 ∨ ob i = 42 ∨ ob i = 47 ∨ ob i = 37 ∨ ob i = 60 ∨ ob i = 62 ∨ ob i = 61 ∨ ob i = 38 ∨ ob i = 58 := by
  have : i = 0 ∨ i = 1 ∨ i = 2 ∨ i = 3 ∨ i = 4 ∨ i = 5 ∨ i = 6 ∨ i = 7 ∨ i = 8 ∨ i = 9 := by omega
  rcases this with rfl | rfl | rfl | rfl | rfl | rfl | rfl | rfl | rfl | rfl <;> decide +kernel
theorem pre_at {s : ByteArray} {a : Nat} {l : List UInt8} (h : At s a l) (p : ByteArray) : pre s p a = p.data.toList.isPrefixOf l := by
  unfold pre
  rw [show s.data.toList.drop a = l from h]
  rfl
theorem oper_one {s : ByteArray} {a : Nat} {x d : UInt8} {l : List UInt8} (h : At s a (x :: d :: l)) (hx : x = 43 ∨ x = 45 ∨ x = 42 ∨ x = 47 ∨ x = 37 ∨ x = 60 ∨ x = 62 ∨ x = 61 ∨ x = 38 ∨ x = 58) (hd : d.toNat ≠ 61) : operL s a = some ⟨#[x]⟩ := by
  have hd' : (61 == d) = false := by
    rw [beq_eq_false_iff_ne]
    intro e
    rw [← e] at hd
    exact hd rfl
  unfold operL ops
  simp only [List.find?, pre_at h, List.isPrefixOf, hd']
  rcases hx with rfl | rfl | rfl | rfl | rfl | rfl | rfl | rfl | rfl | rfl <;> rfl
theorem oper_end {s : ByteArray} {a : Nat} (h : At s a []) : operL s a = none := by
  unfold operL ops
  simp only [List.find?, pre_at h, List.isPrefixOf]
theorem oper_close {s : ByteArray} {a : Nat} {l : List UInt8} (h : At s a (41 :: l)) : operL s a = none := by
  unfold operL ops
  simp only [List.find?, pre_at h, List.isPrefixOf]
  rfl
theorem reckon_val (op : ByteArray) (x y : Int) : (∃ z, ∀ c t, Cx.mute c = false → reckonO c op x y t = .ok z t) ∨ (∃ e, ∀ c t, Cx.mute c = false → reckonO c op x y t = .die e) := by
  by_cases h1 : (op = ⟨#[47]⟩ ∨ op = ⟨#[37]⟩) ∧ y = 0
  · refine .inr ⟨11, fun c t hm => ?_⟩
    unfold reckonO
    rw [hm, if_neg (by decide), if_pos h1]
  · by_cases h2 : big (reckonV op x y)
    · refine .inr ⟨5, fun c t hm => ?_⟩
      unfold reckonO heldO
      rw [hm, if_neg (by decide), if_neg h1, if_neg (by decide), if_pos h2]
    · refine .inl ⟨reckonV op x y, fun c t hm => ?_⟩
      unfold reckonO heldO
      rw [hm, if_neg (by decide), if_neg h1, if_neg (by decide), if_neg h2]
theorem stops_ob {x : UInt8} (hx : x = 43 ∨ x = 45 ∨ x = 42 ∨ x = 47 ∨ x = 37 ∨ x = 60 ∨ x = 62 ∨ x = 61 ∨ x = 38 ∨ x = 58) : Stops x.toNat := by
  rcases hx with rfl | rfl | rfl | rfl | rfl | rfl | rfl | rfl | rfl | rfl <;> decide
theorem ob_space {x : UInt8} (hx : x = 43 ∨ x = 45 ∨ x = 42 ∨ x = 47 ∨ x = 37 ∨ x = 60 ∨ x = 62 ∨ x = 61 ∨ x = 38 ∨ x = 58) : x.toNat ≠ 32 := by
  rcases hx with rfl | rfl | rfl | rfl | rfl | rfl | rfl | rfl | rfl | rfl <;> decide
/-- An operator and a number behind a value. -/
theorem step_ok {c : Cx} (hsc : c.scale = 117) (hm : c.mute = false) {x z : Int} {a n deep : Nat} {o : UInt8} {l : List UInt8} {r : Out} (h : At c.s a (o :: (dl n ++ l)))
    (ho : o = 43 ∨ o = 45 ∨ o = 42 ∨ o = 47 ∨ o = 37 ∨ o = 60 ∨ o = 62 ∨ o = 61 ∨ o = 38 ∨ o = 58) (hn : n < 1000000000) (hs : Stops (pk c.s (a + 1 + (dl n).length)))
    (hz : ∀ c t, Cx.mute c = false → reckonO c ⟨#[o]⟩ x n t = .ok z t) (k : Runs c (.loop z (a + 1 + (dl n).length) deep) r) : Runs c (.loop x a deep) r := by
  have hp := pk_at h
  have hsk := skip_stay c.s deep a (by rw [hp]; exact ob_space ho)
  obtain ⟨d, t, e, h1, h2⟩ := dl_head n
  have hop : operL c.s a = some ⟨#[o]⟩ := oper_one (d := d) (l := t ++ l) (by rw [e] at h; exact h) ho (by omega)
  refine Runs.loop_step (op := ⟨#[o]⟩) (y := n) (t := a + 1 + (dl n).length) (z := z) (by rw [hsk]; exact hop) ?_ (hz c _ hm) k
  rw [hsk]
  exact Runs.digs hsc (At.next h) hn hs hm
theorem step_die {c : Cx} (hsc : c.scale = 117) (hm : c.mute = false) {x e : Int} {a n deep : Nat} {o : UInt8} {l : List UInt8} (h : At c.s a (o :: (dl n ++ l)))
    (ho : o = 43 ∨ o = 45 ∨ o = 42 ∨ o = 47 ∨ o = 37 ∨ o = 60 ∨ o = 62 ∨ o = 61 ∨ o = 38 ∨ o = 58) (hn : n < 1000000000) (hs : Stops (pk c.s (a + 1 + (dl n).length)))
    (hz : ∀ c t, Cx.mute c = false → reckonO c ⟨#[o]⟩ x n t = .die e) : Runs c (.loop x a deep) (.die e) := by
  have hp := pk_at h
  have hsk := skip_stay c.s deep a (by rw [hp]; exact ob_space ho)
  obtain ⟨d, t, e', h1, h2⟩ := dl_head n
  have hop : operL c.s a = some ⟨#[o]⟩ := oper_one (d := d) (l := t ++ l) (by rw [e'] at h; exact h) ho (by omega)
  refine Runs.loop_die (op := ⟨#[o]⟩) (y := n) (t := a + 1 + (dl n).length) (by rw [hsk]; exact hop) ?_ (hz c _ hm)
  rw [hsk]
  exact Runs.digs hsc (At.next h) hn hs hm
theorem At.start (s : ByteArray) : At s 0 s.data.toList := rfl
theorem At.at_size {s : ByteArray} {a : Nat} (h : At s a []) (ha : a ≤ s.size) : a = s.size := by
  have := congrArg List.length h
  rw [List.length_drop, Array.length_toList] at this
  have e : s.data.size = s.size := rfl
  simp at this
  omega
theorem leftA_list (a b c i j : Nat) (hi : i < 10) (hj : j < 10) : (leftA a b c i j).data.toList = dl a ++ (ob i :: (dl b ++ (ob j :: (dl c ++ [])))) := by
  unfold leftA
  rw [opAt_ob i hi, opAt_ob j hj, list_append, list_append, list_append, list_append]
  simp [dl]
theorem leftB_list (a b c i j : Nat) (hi : i < 10) (hj : j < 10) : (leftB a b c i j).data.toList = 40 :: (dl a ++ (ob i :: (dl b ++ (41 :: (ob j :: (dl c ++ [])))))) := by
  unfold leftB
  rw [opAt_ob i hi, opAt_ob j hj, list_append, list_append, list_append, list_append, list_append, list_append]
  simp [dl]
theorem left_same (a b c i j : Nat) (ha : a < 3000) (hb : b < 3000) (hc : c < 3000) (hi : i < 10) (hj : j < 10) : evalO (leftA a b c i j) 117 0 0 0 = evalO (leftB a b c i j) 117 0 0 0 := by
  have oi := ob_cases i hi
  have oj := ob_cases j hj
  have hok : okB 117 0 0 0 = true := by decide +kernel
  have A0 : At (leftA a b c i j) 0 (dl a ++ (ob i :: (dl b ++ (ob j :: (dl c ++ []))))) := leftA_list a b c i j hi hj
  have B0 : At (leftB a b c i j) 0 (40 :: (dl a ++ (ob i :: (dl b ++ (41 :: (ob j :: (dl c ++ []))))))) := leftB_list a b c i j hi hj
  have A1 := A0.add
  have A2 := A1.next.add
  have A3 := A2.next.add
  have B1 := B0.next
  have B2 := B1.add
  have B3 := B2.next.add
  have B4 := B3.next
  have B5 := B4.next.add
  generalize leftA a b c i j = sA at *
  generalize leftB a b c i j = sB at *
  have eA := At.at_size A3 (by have := A2.size (by simp); simp at this ⊢; omega)
  have eB := At.at_size B5 (by have := B4.size (by simp); simp at this ⊢; omega)
  have pA1 := pk_at A1
  have pA2 := pk_at A2
  have pA3 := pk_end A3
  have pB0 := pk_at B0
  have pB2 := pk_at B2
  have pB3 := pk_at B3
  have pB4 := pk_at B4
  have pB5 := pk_end B5
  have s0 : Stops 0 := by decide
  have s41 : Stops (41 : UInt8).toNat := by decide
  unfold evalO
  rw [hok]
  simp only [if_true]
  obtain ⟨cA, hcA⟩ : ∃ c : Cx, c = ⟨sA, 117, 0, 0, 0, 0, false⟩ := ⟨_, rfl⟩
  obtain ⟨cB, hcB⟩ : ∃ c : Cx, c = ⟨sB, 117, 0, 0, 0, 0, false⟩ := ⟨_, rfl⟩
  have a1 : cA.s = sA := by rw [hcA]
  have a2 : cA.scale = 117 := by rw [hcA]
  have a3 : cA.mute = false := by rw [hcA]
  have b1 : cB.s = sB := by rw [hcB]
  have b2 : cB.scale = 117 := by rw [hcB]
  have b3 : cB.mute = false := by rw [hcB]
  have rA : Runs cA (.oper 0 0) (.ok a (0 + (dl a).length)) := Runs.digs a2 (by rw [a1]; exact A0) (by omega) (by rw [a1, pA1]; exact stops_ob oi) a3
  have rB : Runs cB (.oper 1 1) (.ok a (0 + 1 + (dl a).length)) := Runs.digs b2 (by rw [b1]; exact B1) (by omega) (by rw [b1, pB2]; exact stops_ob oi) b3
  have kB : skip cB.s 0 0 = 0 := rfl
  have pB0' : pk cB.s (skip cB.s 0 0) = 40 := by rw [kB, b1, pB0]; rfl
  rcases reckon_val ⟨#[ob i]⟩ a b with ⟨z, hz⟩ | ⟨e, hz⟩
  · have lB : Runs cB (.oper 0 0) (.ok z (0 + 1 + (dl a).length + 1 + (dl b).length + 1)) := by
      refine Runs.paren pB0' (by decide) (Runs.expr rB (step_ok b2 b3 (by rw [b1]; exact B2) oi (by omega) (by rw [b1, pB3]; exact s41) hz ?_)) (by rw [b1, pB3]; rfl)
      have hs := skip_stay cB.s 1 (0 + 1 + (dl a).length + 1 + (dl b).length) (by rw [b1, pB3]; decide)
      have := Runs.loop_end (c := cB) (x := z) (a := 0 + 1 + (dl a).length + 1 + (dl b).length) (deep := 1) (by rw [hs, b1]; exact oper_close B3)
      rw [hs] at this
      exact this
    rcases reckon_val ⟨#[ob j]⟩ z c with ⟨y, hy⟩ | ⟨e, hy⟩
    · have RA : Runs cA (.expr 0 0) (.ok y sA.size) := by
        rw [← eA]
        refine Runs.expr rA (step_ok a2 a3 (by rw [a1]; exact A1) oi (by omega) (by rw [a1, pA2]; exact stops_ob oj) hz ?_)
        refine step_ok a2 a3 (by rw [a1]; exact A2) oj (by omega) (by rw [a1, pA3]; exact s0) hy ?_
        exact Runs.loop_end (by rw [skip_zero, a1]; exact oper_end A3)
      have RB : Runs cB (.expr 0 0) (.ok y sB.size) := by
        rw [← eB]
        refine Runs.expr lB ?_
        refine step_ok b2 b3 (by rw [b1]; exact B4) oj (by omega) (by rw [b1, pB5]; exact s0) hy ?_
        exact Runs.loop_end (by rw [skip_zero, b1]; exact oper_end B5)
      rw [evalRun_eq (hcA ▸ RA), evalRun_eq (hcB ▸ RB)]
      simp [wholeN]
    · have RA : Runs cA (.expr 0 0) (.die e) :=
        Runs.expr rA (step_ok a2 a3 (by rw [a1]; exact A1) oi (by omega) (by rw [a1, pA2]; exact stops_ob oj) hz (step_die a2 a3 (by rw [a1]; exact A2) oj (by omega) (by rw [a1, pA3]; exact s0) hy))
      have RB : Runs cB (.expr 0 0) (.die e) :=
        Runs.expr lB (step_die b2 b3 (by rw [b1]; exact B4) oj (by omega) (by rw [b1, pB5]; exact s0) hy)
      rw [evalRun_eq (hcA ▸ RA), evalRun_eq (hcB ▸ RB)]
      rfl
  · have RA : Runs cA (.expr 0 0) (.die e) :=
      Runs.expr rA (step_die a2 a3 (by rw [a1]; exact A1) oi (by omega) (by rw [a1, pA2]; exact stops_ob oj) hz)
    have RB : Runs cB (.expr 0 0) (.die e) :=
      Runs.expr_die (Runs.paren_die pB0' (by decide) (Runs.expr rB (step_die b2 b3 (by rw [b1]; exact B2) oi (by omega) (by rw [b1, pB3]; exact s41) hz)))
    rw [evalRun_eq (hcA ▸ RA), evalRun_eq (hcB ▸ RB)]
    rfl
end Go.Proofs.Ytkomofphgnekoaa

set_option linter.unusedVariables false
set_option linter.unusedSimpArgs false
namespace Go.Opens
open Go.RowKit Go.ChangeShapes Go.WideShapes Go.Proofs.YtkomofphgnekoaaW.PrintWords
variable {P : Program}

/-- Whatever reads as a value of type t is, by the kind d, some a of which wf holds. -/
structure Opens (P : Program) (t : TypeId) {α : Type} (d : Kd α) (wf : α → Prop) : Prop where
  size : P.cellsOf t = d.sz
  opens : ∀ {H : Type} {enc : TypeId × Value → H} {w : World} {base : Nat} {sp : Nat → Bool} {held : Bool} {fuel : Nat} {cs : List Value} {x : DataW H × List MemPlace},
    DataW.trod enc P w base sp held fuel t cs = some x → ∃ a, d.K w a cs ∧ wf a

theorem Opens.int {t : TypeId} {k : IntKind} (ht : P.underlying t = some (.int k)) (hs : P.cellsOf t = 1) : Opens P t (Kd.int k) (fun n => (Lit.int k n).wf = true) := by
  refine ⟨hs, fun {H enc w base sp held fuel cs x} h => ?_⟩
  obtain ⟨n, rfl, _, hw⟩ := DataW.trod_int ht h
  exact ⟨n, rfl, hw⟩
theorem Opens.bool {t : TypeId} (ht : P.underlying t = some .bool) (hs : P.cellsOf t = 1) : Opens P t Kd.bool (fun _ => True) := by
  refine ⟨hs, fun {H enc w base sp held fuel cs x} h => ?_⟩
  obtain ⟨n, rfl, _⟩ := DataW.trod_bool ht h
  exact ⟨n, rfl, trivial⟩
theorem Opens.string {t : TypeId} (ht : P.underlying t = some .string) (hs : P.cellsOf t = 1) : Opens P t Kd.string (fun s => s.size ≤ maxLen) := by
  refine ⟨hs, fun {H enc w base sp held fuel cs x} h => ?_⟩
  obtain ⟨n, rfl, _, hw⟩ := DataW.trod_string ht h
  exact ⟨n, rfl, hw⟩
theorem Opens.imp {t : TypeId} {α : Type} {d : Kd α} {wf wf' : α → Prop} (h : Opens P t d wf) (hi : ∀ a, wf a → wf' a) : Opens P t d wf' :=
  ⟨h.size, fun hx => let ⟨a, h1, h2⟩ := h.opens hx; ⟨a, h1, hi a h2⟩⟩

theorem cells_of {w : World} {base n : Nat} {a : Addr} {cs : List Value} (h : w.cells? base a n = some cs) : cs.length = n ∧ ∀ i u, cs[i]? = some u → w.cell? (a.add i) = some u := by
  obtain ⟨_, h1, h2⟩ := World.cells?_some h
  refine ⟨h1, fun i u hu => ?_⟩
  have hi : i < n := by have := (List.getElem?_eq_some_iff.1 hu).1; omega
  rw [h2 i hi]; exact hu

theorem Opens.slice {t e : TypeId} {α : Type} {d : Kd α} {wf : α → Prop} (he : Opens P e d wf) (ht : P.underlying t = some (.slice e)) (hs : P.cellsOf t = 1) :
    Opens P t (Kd.slice e d) (fun l => l.length ≤ 9223372036854775807 ∧ ∀ a ∈ l, wf a) := by
  refine ⟨hs, fun {H enc w base sp held fuel cs x} h => ?_⟩
  rcases Go.Deep.open_slice ht h with ⟨rfl, _⟩ | ⟨a, len, cap, m, n, D, Pl, rfl, hb, hlc, hcap, hm, hx0, hel⟩
  · exact ⟨[], ⟨none, 0, rfl, Nat.le_refl _, rfl, by simp, fun h => absurd h (by simp)⟩, by simp, by simp⟩
  · have hlm : len ≤ m := by rw [hm]; split <;> omega
    have hall : ∀ i, i < len → ∃ q : α, (∃ c, c.length = d.sz ∧ d.K w q c ∧ ∀ j u, c[j]? = some u → w.cell? (a.add (i * d.sz + j)) = some u) ∧ wf q := by
      intro i hi
      obtain ⟨cs', hc, htr⟩ := hel i (by omega)
      obtain ⟨q, hq, hw⟩ := he.opens htr
      obtain ⟨h1, h2⟩ := cells_of hc
      refine ⟨q, ⟨cs', d.K_len hq, hq, fun j u hu => ?_⟩, hw⟩
      have := h2 j u hu
      rw [Go.Deep.add_add, he.size] at this
      exact this
    have hex : ∃ l : List α, l.length = len ∧ ∀ i q, l[i]? = some q → (∃ c, c.length = d.sz ∧ d.K w q c ∧ ∀ j u, c[j]? = some u → w.cell? (a.add (i * d.sz + j)) = some u) ∧ wf q := by
      clear hel hm hlm h hlc hx0 hcap
      induction len with
      | zero => exact ⟨[], rfl, fun i q h => by simp at h⟩
      | succ k ih =>
        obtain ⟨l, h1, h2⟩ := ih (fun i hi => hall i (by omega))
        obtain ⟨q, hq⟩ := hall k (by omega)
        refine ⟨l ++ [q], by simp [h1], fun i q' hq' => ?_⟩
        by_cases hi : i < l.length
        · rw [List.getElem?_append_left hi] at hq'
          exact h2 i q' hq'
        · have hk : i = k := by
            have := (List.getElem?_eq_some_iff.1 hq').1
            simp at this
            omega
          subst hk
          rw [List.getElem?_append_right (by omega), h1] at hq'
          simp at hq'
          subst hq'
          exact hq
    obtain ⟨l, h1, h2⟩ := hex
    have hc64 : len ≤ 9223372036854775807 := by unfold maxLen at hcap; omega
    refine ⟨l, ⟨some a, cap, by rw [h1], by omega, rfl, by omega, fun _ => ⟨a, rfl, fun j q hq => (h2 j q hq).1⟩⟩, by omega, fun q hq => ?_⟩
    obtain ⟨i, hi, rfl⟩ := List.mem_iff_getElem.1 hq
    exact (h2 i _ (List.getElem?_eq_getElem hi)).2

/-- Fields in line, from cell off on. -/
structure Fields (P : Program) (fs : List Go.Field) (off : Nat) {α : Type} (d : Kd α) (wf : α → Prop) : Prop where
  opens : ∀ {H : Type} {enc : TypeId × Value → H} {w : World} {base : Nat} {sp : Nat → Bool} {held : Bool} {n : Nat} {cs : List Value},
    (∀ (i : Nat) (f : Go.Field), fs[i]? = some f → ∃ x, DataW.trod enc P w base sp held n f.type ((cs.drop f.offset).take (P.cellsOf f.type)) = some x) → cs.length = off + d.sz → ∃ a, d.K w a (cs.drop off) ∧ wf a
theorem Fields.one {f : Go.Field} {off : Nat} {α : Type} {d : Kd α} {wf : α → Prop} (h : Opens P f.type d wf) (ho : f.offset = off) : Fields P [f] off d wf := by
  refine ⟨fun {H enc w base sp held n cs} hall hl => ?_⟩
  obtain ⟨x, hx⟩ := hall 0 f rfl
  rw [ho, List.take_of_length_le (by rw [List.length_drop, h.size]; omega)] at hx
  exact h.opens hx
theorem Fields.cons {f : Go.Field} {fs : List Go.Field} {off : Nat} {α β : Type} {d : Kd α} {d2 : Kd β} {wf : α → Prop} {wf2 : β → Prop} (h : Opens P f.type d wf) (ho : f.offset = off) (h2 : Fields P fs (off + d.sz) d2 wf2) :
    Fields P (f :: fs) off (Kd.pair d d2) (fun p => wf p.1 ∧ wf2 p.2) := by
  refine ⟨fun {H enc w base sp held n cs} hall hl => ?_⟩
  have hl' : cs.length = off + (d.sz + d2.sz) := hl
  obtain ⟨x, hx⟩ := hall 0 f rfl
  rw [ho, h.size] at hx
  obtain ⟨a, ha, hwa⟩ := h.opens hx
  obtain ⟨b, hb, hwb⟩ := h2.opens (H := H) (enc := enc) (w := w) (base := base) (sp := sp) (held := held) (n := n) (cs := cs) (fun i g hg => hall (i + 1) g (by simpa using hg)) (by omega)
  refine ⟨(a, b), ⟨_, _, ?_, ha, hb⟩, hwa, hwb⟩
  rw [← List.drop_drop, List.take_append_drop]
theorem Opens.struct {t : TypeId} {fs : Array Go.Field} {α : Type} {d : Kd α} {wf : α → Prop} (ht : P.underlying t = some (.struct fs)) (hs : P.cellsOf t = d.sz) (h : Fields P fs.toList 0 d wf) : Opens P t d wf := by
  refine ⟨hs, fun {H enc w base sp held fuel cs x} hx => ?_⟩
  obtain ⟨xs, n, _, _, hl, hn, hf⟩ := DataW.trod_struct ht hx
  have := h.opens (H := H) (enc := enc) (w := w) (base := base) (sp := sp) (held := held) (n := n) (cs := cs) (fun i f hi => ?_) (by omega)
  · simpa using this
  · have hi' : fs[i]? = some f := by simpa using hi
    have hlt : i < fs.size := (Array.getElem?_eq_some_iff.1 hi').1
    rw [hf i f hi']
    exact ⟨_, List.getElem?_eq_getElem (by omega)⟩
theorem Opens.iso {t : TypeId} {α β : Type} {d : Kd α} {wf : α → Prop} (h : Opens P t d wf) (f : β → α) (g : α → β) (hfg : ∀ a, f (g a) = a) : Opens P t (Kd.iso d f) (fun b => wf (f b)) := by
  refine ⟨h.size, fun hx => ?_⟩
  obtain ⟨a, h1, h2⟩ := h.opens hx
  exact ⟨g a, by show d.K _ (f (g a)) _; rw [hfg]; exact h1, by rw [hfg]; exact h2⟩

/-- A parameter that is a slice: its value and what it holds. -/
theorem open_row {t e : TypeId} {α : Type} {d : Kd α} {wf : α → Prop} (he : Opens P e d wf) (ht : P.underlying t = some (.slice e)) (hs : P.cellsOf t = 1) {H : Type} {enc : TypeId × Value → H} {w : World} {base : Nat} {sp : Nat → Bool} {held : Bool} {v : Value} {x : DataW H} {ps : List MemPlace}
    (h : DataW.Trod enc P w base sp held t v x ps) (hv : ∃ a n c, v = .slice a n c) : ∃ A c l, v = .slice A l.length c ∧ l.length ≤ c ∧ l.length ≤ 9223372036854775807 ∧ d.C w A l.length l ∧ ∀ a ∈ l, wf a := by
  obtain ⟨fuel, hf⟩ := h
  obtain ⟨l, ⟨A, c, h1, h2, h3⟩, h4, h5⟩ := (Opens.slice he ht hs).opens hf
  obtain ⟨a0, n0, c0, rfl⟩ := hv
  simp [Value.cells] at h1
  obtain ⟨rfl, rfl, rfl⟩ := h1
  exact ⟨_, _, l, rfl, h2, h4, h3, h5⟩

/-- A parameter that is a struct. -/
theorem open_agg {t : TypeId} {fs : Array Go.Field} {α : Type} {d : Kd α} {wf : α → Prop} (he : Opens P t d wf) (ht : P.underlying t = some (.struct fs)) {H : Type} {enc : TypeId × Value → H} {w : World} {base : Nat} {sp : Nat → Bool} {held : Bool} {v : Value} {x : DataW H} {ps : List MemPlace} {r : Reach} {b0 : Nat}
    (h : DataW.Trod enc P w base sp held t v x ps) (hv : Value.okWide P w r b0 t v) : ∃ cs a, v = .agg cs ∧ d.K w a cs.toList ∧ wf a := by
  obtain ⟨fuel, hf⟩ := h
  obtain ⟨a, h1, h2⟩ := he.opens hf
  obtain ⟨cs, rfl, _⟩ := okWide_struct ht hv
  exact ⟨cs, a, rfl, h1, h2⟩

/-- The elements of a row that is read, by their places. -/
theorem C_at {α : Type} {d : Kd α} {w : World} {A : Option Addr} {l : List α} (h : d.C w A l.length l) (hsz : 0 < d.sz) (hn : 0 < l.length) : ∃ b off, A = some ⟨b, off, none⟩ ∧ b < w.heap.size ∧
    ∀ i (hi : i < l.length), ∃ c, c.length = d.sz ∧ d.K w l[i] c ∧ ∀ j u, c[j]? = some u → w.cell? ⟨b, off + i * d.sz + j, none⟩ = some u := by
  obtain ⟨ad, rfl, hc⟩ := h.2.2 hn
  have hcell : ∀ i (hi : i < l.length), ∃ c, c.length = d.sz ∧ d.K w l[i] c ∧ ∀ j u, c[j]? = some u → w.cell? (ad.add (i * d.sz + j)) = some u := fun i hi => hc i _ (List.getElem?_eq_getElem hi)
  obtain ⟨c0, h1, h2, h3⟩ := hcell 0 hn
  have h0 : w.cell? ad = some (c0[0]'(by omega)) := by
    have := h3 0 _ (List.getElem?_eq_getElem (by omega))
    simpa [Addr.add] using this
  obtain ⟨b, off, spot⟩ := ad
  have hspot : spot = none := by
    cases spot with
    | none => rfl
    | some q =>
      exfalso
      unfold World.cell? at h0
      split at h0
      · simp at h0
      · cases h0
  subst hspot
  refine ⟨b, off, rfl, World.block_lt_of_cell? w ⟨b, off, none⟩ h0, fun i hi => ?_⟩
  obtain ⟨c, g1, g2, g3⟩ := hcell i hi
  refine ⟨c, g1, g2, fun j u hu => ?_⟩
  have := g3 j u hu
  unfold Addr.add at this
  split at this
  · rename_i hz
    have : i * d.sz = 0 := by omega
    have hj : j = 0 := by omega
    subst hj
    simp_all
  · simpa [Nat.add_assoc] using this
end Go.Opens

set_option linter.unusedVariables false
set_option linter.unusedSimpArgs false
namespace Go.Proofs.Ytkomofphgnekoaa
open Go.Shelf Go.RowKit Go.Lib Go.Aids Go.MapLit Go.Opens Go.Proofs.YtkomofphgnekoaaW.PrintWords

abbrev kInt : Kd Int := Kd.int .i64
abbrev kThree := Kd.pair kInt (Kd.pair kInt kInt)
abbrev kFive := Kd.pair kInt (Kd.pair kInt (Kd.pair kInt (Kd.pair kInt kInt)))
def wfI (n : Int) : Prop := (Lit.int .i64 n).wf = true
theorem o3 : Opens Try.prog 3 kInt wfI := Opens.int Try.underlying3 (by kernel_rfl)
theorem o23 : Opens Try.prog 23 kFive (fun p => wfI p.1 ∧ wfI p.2.1 ∧ wfI p.2.2.1 ∧ wfI p.2.2.2.1 ∧ wfI p.2.2.2.2) :=
  Opens.struct (d := kFive) Try.underlying23 (by kernel_rfl) (Fields.cons o3 rfl (Fields.cons o3 rfl (Fields.cons o3 rfl (Fields.cons o3 rfl (Fields.one o3 rfl)))))
theorem o30 : Opens Try.prog 30 kThree (fun p => wfI p.1 ∧ wfI p.2.1 ∧ wfI p.2.2) :=
  Opens.struct (d := kThree) Try.underlying30 (by kernel_rfl) (Fields.cons o3 rfl (Fields.cons o3 rfl (Fields.one o3 rfl)))
theorem three_is {w : World} {a : Int × Int × Int} {cs : Array Value} (h : kThree.K w a cs.toList) : cs = #[.int .i64 a.1, .int .i64 a.2.1, .int .i64 a.2.2] := by
  obtain ⟨c1, c2, e, h1, d1, d2, e2, h2, h3⟩ := h
  have g1 : c1 = [.int .i64 a.1] := h1
  have g2 : d1 = [.int .i64 a.2.1] := h2
  have g3 : d2 = [.int .i64 a.2.2] := h3
  subst g1 g2 g3 e2
  apply Array.ext'
  simpa using e
theorem five_is {w : World} {a : Int × Int × Int × Int × Int} {cs : Array Value} (h : kFive.K w a cs.toList) : cs = #[.int .i64 a.1, .int .i64 a.2.1, .int .i64 a.2.2.1, .int .i64 a.2.2.2.1, .int .i64 a.2.2.2.2] := by
  obtain ⟨c1, c2, e, h1, d1, d2, e2, h2, f1, f2, e3, h3, i1, i2, e4, h4, h5⟩ := h
  have g1 : c1 = [.int .i64 a.1] := h1
  have g2 : d1 = [.int .i64 a.2.1] := h2
  have g3 : f1 = [.int .i64 a.2.2.1] := h3
  have g4 : i1 = [.int .i64 a.2.2.2.1] := h4
  have g5 : i2 = [.int .i64 a.2.2.2.2] := h5
  subst g1 g2 g3 g4 g5 e4 e3 e2
  apply Array.ext'
  simpa using e
theorem left_row {W w : World} {cs : Array Value} {a : Int × Int × Int × Int × Int} (h : kFive.K W a cs.toList) : Calls Try.prog 3 #[.agg cs] w fun e w' => e = .returned (.bool true) ∧ Below w.heap.size w w' := by
  rw [five_is h]
  exact left_calls _ _ _ _ _ w left_same
end Go.Proofs.Ytkomofphgnekoaa

set_option linter.unusedVariables false
set_option linter.unusedSimpArgs false
namespace Go.Proofs.Ytkomofphgnekoaa
open Go.Shelf Go.RowKit Go.Lib Go.Aids Go.MapLit Go.Proofs.YtkomofphgnekoaaW.PrintWords

theorem bt_pk (s : ByteArray) (a : Nat) (h : a < s.size) : bt s (a : Int) = (pk s a : Int) := by
  have : a < s.data.toList.length := by rw [Array.length_toList]; exact h
  simp [bt, pk, h]
/-- The reference's reader, as a value. -/
abbrev rdr (s : ByteArray) (scale : Nat) (size vs here : Int) (form : Bool) : Value := .agg #[.string s, .int .u8 scale, .int .i64 size, .int .i64 vs, .int .i64 here, .bool form]
theorem skip_l0 (s : ByteArray) (hs : s.size ≤ 4611686018427387904) (q1 q2 q3 q4 : Int) (q5 : Bool) (deep : Nat) : ∀ n a, s.size - a = n → a ≤ s.size → Pskip.frisketref01_reader_skip.l0 (n + 1) a deep s q1 q2 q3 q4 q5 = some ((skip s deep a : Nat) : Int)
  | n, a, hn, ha => by
    rw [Pskip.frisketref01_reader_skip.l0]
    by_cases hd : 0 < deep
    · rw [if_pos (by omega)]
      by_cases hlt : a < s.size
      · rw [if_pos (by omega), if_pos (by omega), bt_pk s a hlt]
        obtain ⟨m, rfl⟩ : ∃ m, n = m + 1 := ⟨n - 1, by omega⟩
        have hsk : skip s deep a = if pk s a = 32 then skip s deep (a + 1) else a := by
          unfold skip
          rw [if_pos hd, if_pos hd, hn, skipF, show s.size - (a + 1) = m by omega]
        by_cases hp : pk s a = 32
        · rw [if_pos (by omega), show wrap64 ((a : Int) + 1) = ((a + 1 : Nat) : Int) by rw [wrap64_in _ (by omega) (by omega)]; rfl, skip_l0 s hs q1 q2 q3 q4 q5 deep m (a + 1) (by omega) (by omega), hsk, if_pos hp]
        · rw [if_neg (by omega), hsk, if_neg hp]
      · rw [if_neg (by omega)]
        obtain rfl : n = 0 := by omega
        unfold skip
        rw [if_pos hd, hn]
        rfl
    · rw [if_neg (by omega)]
      unfold skip
      rw [if_neg hd]
theorem rskip_calls (s : ByteArray) (hs : s.size ≤ 4611686018427387904) (scale : Nat) (size vs here : Int) (form : Bool) (a deep : Nat) (ha : a ≤ s.size) (w : World) :
    Calls Try.prog 52 #[rdr s scale size vs here form, .int .i64 a, .int .i64 deep] w fun e w' => e = .returned (.int .i64 (skip s deep a : Nat)) ∧ Below w.heap.size w w' :=
  Pskip.frisketref01_reader_skip.calls (s.size - a + 1) s scale size vs here form a deep _ w (skip_l0 s hs scale size vs here form deep _ a rfl ha)

/-- What operator hands back. -/
def operN (s : ByteArray) (a : Nat) : ByteArray := (operL s a).getD ⟨#[]⟩
def operT (s : ByteArray) (a : Nat) : Nat := a + (operN s a).size
theorem ext_list (s : ByteArray) (a b : Nat) : (s.extract a b).data.toList = (s.data.toList.drop a).take (b - a) := by
  rw [ByteArray.data_extract, Array.toList_extract]
theorem ba_eq {a b : ByteArray} (h : a.data.toList = b.data.toList) : a = b := by
  obtain ⟨⟨a⟩⟩ := a
  obtain ⟨⟨b⟩⟩ := b
  exact congrArg (fun l => (⟨⟨l⟩⟩ : ByteArray)) h
def isOp (x : UInt8) : Bool := x == 43 || x == 45 || x == 42 || x == 47 || x == 37 || x == 60 || x == 62 || x == 61 || x == 38 || x == 58
theorem lit_at (i j : Nat) (l : List UInt8) (h : ((([43, 45, 42, 47, 37, 60, 62, 61, 38, 58] : List UInt8).drop i).take (j - i)) = l) : ((⟨#[43, 45, 42, 47, 37, 60, 62, 61, 38, 58]⟩ : ByteArray).extract i j).toList = l := by
  rw [Lib.toList_data, ext_list]
  exact h
theorem one_list (x : UInt8) : (⟨#[x]⟩ : ByteArray).toList = [x] := by rw [Lib.toList_data]
theorem oper_l0 (x : UInt8) (a : Nat) (ha : a ≤ 4611686018427387904) : Poperator.frisketref01_reader_operator.l0 11 a ⟨#[x]⟩ 0 = some (if isOp x then (⟨#[x]⟩, ((a + 1 : Nat) : Int)) else (⟨#[]⟩, (a : Int))) := by
  have ea : wrap64 ((a : Int) + 1) = ((a + 1 : Nat) : Int) := by rw [wrap64_in _ (by omega) (by omega)]; rfl
  have w0 : wrap64 ((0 : Int) + 1) = 1 := by decide +kernel
  have w1 : wrap64 ((1 : Int) + 1) = 2 := by decide +kernel
  have w2 : wrap64 ((2 : Int) + 1) = 3 := by decide +kernel
  have w3 : wrap64 ((3 : Int) + 1) = 4 := by decide +kernel
  have w4 : wrap64 ((4 : Int) + 1) = 5 := by decide +kernel
  have w5 : wrap64 ((5 : Int) + 1) = 6 := by decide +kernel
  have w6 : wrap64 ((6 : Int) + 1) = 7 := by decide +kernel
  have w7 : wrap64 ((7 : Int) + 1) = 8 := by decide +kernel
  have w8 : wrap64 ((8 : Int) + 1) = 9 := by decide +kernel
  have w9 : wrap64 ((9 : Int) + 1) = 10 := by decide +kernel
  have step : ∀ (k i : Nat) (c : UInt8) (wi : wrap64 ((i : Int) + 1) = ((i + 1 : Nat) : Int)) (hi : i < 10) (hc : ((([43, 45, 42, 47, 37, 60, 62, 61, 38, 58] : List UInt8).drop i).take 1) = [c]),
      Poperator.frisketref01_reader_operator.l0 (k + 1) a ⟨#[x]⟩ i = if c = x then some (⟨#[x]⟩, ((a + 1 : Nat) : Int)) else Poperator.frisketref01_reader_operator.l0 k a ⟨#[x]⟩ ((i + 1 : Nat) : Int) := by
    intro k i c wi hi hc
    rw [Poperator.frisketref01_reader_operator.l0, wi, if_pos (by omega), if_pos (by omega), if_pos (by omega), if_pos (by omega), ea, one_list]
    rw [show (((i : Nat) : Int)).toNat = i by omega, show (((i + 1 : Nat) : Int)).toNat = i + 1 by omega, lit_at i (i + 1) [c] (by rw [show i + 1 - i = 1 by omega]; exact hc)]
    by_cases h : c = x
    · rw [if_pos h, if_pos (by rw [h])]
    · rw [if_neg h, if_neg (by intro e; injection e with e; exact h e)]
  have fin : Poperator.frisketref01_reader_operator.l0 1 a ⟨#[x]⟩ ((10 : Nat) : Int) = some (⟨#[]⟩, (a : Int)) := by
    rw [Poperator.frisketref01_reader_operator.l0, if_neg (by omega)]
  have all := step 10 0 43 w0 (by decide) rfl
  rw [step 9 1 45 w1 (by decide) rfl, step 8 2 42 w2 (by decide) rfl, step 7 3 47 w3 (by decide) rfl, step 6 4 37 w4 (by decide) rfl, step 5 5 60 w5 (by decide) rfl, step 4 6 62 w6 (by decide) rfl, step 3 7 61 w7 (by decide) rfl, step 2 8 38 w8 (by decide) rfl, step 1 9 58 w9 (by decide) rfl, fin] at all
  refine all.trans ?_
  unfold isOp
  by_cases h0 : x = 43
  · subst h0; rfl
  by_cases h1 : x = 45
  · subst h1; rfl
  by_cases h2 : x = 42
  · subst h2; rfl
  by_cases h3 : x = 47
  · subst h3; rfl
  by_cases h4 : x = 37
  · subst h4; rfl
  by_cases h5 : x = 60
  · subst h5; rfl
  by_cases h6 : x = 62
  · subst h6; rfl
  by_cases h7 : x = 61
  · subst h7; rfl
  by_cases h8 : x = 38
  · subst h8; rfl
  by_cases h9 : x = 58
  · subst h9; rfl
  rw [if_neg (Ne.symm h0), if_neg (Ne.symm h1), if_neg (Ne.symm h2), if_neg (Ne.symm h3), if_neg (Ne.symm h4), if_neg (Ne.symm h5), if_neg (Ne.symm h6), if_neg (Ne.symm h7), if_neg (Ne.symm h8), if_neg (Ne.symm h9)]
  simp [h0, h1, h2, h3, h4, h5, h6, h7, h8, h9]
end Go.Proofs.Ytkomofphgnekoaa

set_option linter.unusedVariables false
set_option linter.unusedSimpArgs false
namespace Go.Proofs.Ytkomofphgnekoaa
open Go.Shelf Go.RowKit Go.Lib Go.Aids Go.MapLit Go.Proofs.YtkomofphgnekoaaW.PrintWords

theorem find_op (x y : UInt8) (l : List UInt8) (hy : l = [] ∨ l = y :: l.tail) (h2 : ¬ (l = y :: l.tail ∧ y = 61 ∧ (x = 60 ∨ x = 62 ∨ x = 61))) :
    ops.find? (fun p => p.data.toList.isPrefixOf (x :: l)) = if isOp x then some ⟨#[x]⟩ else none := by
  have e2 : ∀ c : UInt8, (c = 60 ∨ c = 62 ∨ c = 61) → ([c, 61] : List UInt8).isPrefixOf (x :: l) = false := by
    intro c hc
    rw [Bool.eq_false_iff]
    intro h
    rcases hy with hl | hl
    · rw [hl] at h; simp [List.isPrefixOf] at h
    · rw [hl] at h
      simp [List.isPrefixOf] at h
      obtain ⟨rfl, rfl⟩ := h
      exact h2 ⟨hl, rfl, hc⟩
  have e1 : ∀ c : UInt8, ([c] : List UInt8).isPrefixOf (x :: l) = (c == x) := by intro c; simp [List.isPrefixOf]
  unfold ops
  simp only [List.find?, e2 60 (.inl rfl), e2 62 (.inr (.inl rfl)), e2 61 (.inr (.inr rfl)), e1]
  unfold isOp
  by_cases h0 : x = 43
  · subst h0; rfl
  by_cases h1 : x = 45
  · subst h1; rfl
  by_cases h2 : x = 42
  · subst h2; rfl
  by_cases h3 : x = 47
  · subst h3; rfl
  by_cases h4 : x = 37
  · subst h4; rfl
  by_cases h5 : x = 60
  · subst h5; rfl
  by_cases h6 : x = 62
  · subst h6; rfl
  by_cases h7 : x = 61
  · subst h7; rfl
  by_cases h8 : x = 38
  · subst h8; rfl
  by_cases h9 : x = 58
  · subst h9; rfl
  have nb : ∀ c : UInt8, ¬ x = c → (c == x) = false := fun c hc => by rw [beq_eq_false_iff_ne]; exact Ne.symm hc
  have nc : ∀ c : UInt8, ¬ x = c → (x == c) = false := fun c hc => by rw [beq_eq_false_iff_ne]; exact hc
  rw [nb _ h0, nb _ h1, nb _ h2, nb _ h3, nb _ h4, nb _ h5, nb _ h6, nb _ h7, nb _ h8, nb _ h9, nc _ h0, nc _ h1, nc _ h2, nc _ h3, nc _ h4, nc _ h5, nc _ h6, nc _ h7, nc _ h8, nc _ h9]
  rfl
theorem operL_list {s : ByteArray} {a : Nat} {l : List UInt8} (h : At s a l) : operL s a = ops.find? (fun p => p.data.toList.isPrefixOf l) := by
  unfold operL
  congr 1
  funext p
  exact pre_at h p
theorem two_op (x : UInt8) (l : List UInt8) (hx : x = 60 ∨ x = 62 ∨ x = 61) : ops.find? (fun p => p.data.toList.isPrefixOf (x :: 61 :: l)) = some ⟨#[x, 61]⟩ := by
  rcases hx with rfl | rfl | rfl <;> rfl
theorem oper_f (s : ByteArray) (hs : s.size ≤ 4611686018427387904) (q1 q2 q3 q4 : Int) (q5 : Bool) (a : Nat) (ha : a ≤ s.size) :
    Poperator.frisketref01_reader_operator.f 12 s q1 q2 q3 q4 q5 a = some (operN s a, ((operT s a : Nat) : Int)) := by
  unfold Poperator.frisketref01_reader_operator.f
  have sl : s.data.toList.length = s.size := by rw [Array.length_toList]; rfl
  rcases hl : s.data.toList.drop a with _ | ⟨x, l⟩
  · have hlen := congrArg List.length hl
    rw [List.length_drop, sl] at hlen
    simp at hlen
    have h : At s a [] := hl
    rw [if_pos (by omega)]
    unfold operT operN
    rw [oper_end h]
    rfl
  · have h : At s a (x :: l) := hl
    have hsz := h.size (by simp)
    rw [List.length_cons] at hsz
    have ea : wrap64 ((a : Int) + 1) = ((a + 1 : Nat) : Int) := by rw [wrap64_in _ (by omega) (by omega)]; rfl
    have ea2 : wrap64 ((a : Int) + 2) = ((a + 2 : Nat) : Int) := by rw [wrap64_in _ (by omega) (by omega)]; rfl
    have one : s.extract a (a + 1) = ⟨#[x]⟩ := by
      apply ba_eq
      rw [ext_list, hl, show a + 1 - a = 1 by omega]
      rfl
    have hj : Poperator.frisketref01_reader_operator.j0 12 a s q1 q2 q3 q4 q5 = some (if isOp x then (⟨#[x]⟩, ((a + 1 : Nat) : Int)) else (⟨#[]⟩, (a : Int))) := by
      rw [Poperator.frisketref01_reader_operator.j0, ea, if_pos (by omega), if_pos (by omega), if_pos (by omega), show ((a : Nat) : Int).toNat = a by omega, show ((a + 1 : Nat) : Int).toNat = a + 1 by omega, one]
      exact oper_l0 x a (by omega)
    rw [if_neg (by omega), ea]
    have hone : ops.find? (fun p => p.data.toList.isPrefixOf (x :: l)) = (if isOp x then some ⟨#[x]⟩ else none) → some (if isOp x then ((⟨#[x]⟩ : ByteArray), ((a + 1 : Nat) : Int)) else (⟨#[]⟩, (a : Int))) = some (operN s a, ((operT s a : Nat) : Int)) := by
      intro hf
      unfold operT operN
      rw [operL_list h, hf]
      by_cases ho : isOp x <;> simp [ho] <;> rfl
    rcases hl2 : l with _ | ⟨y, t⟩
    · rw [hl2] at hsz
      simp at hsz
      rw [if_neg (by omega), hj]
      refine hone (find_op x 0 l (.inl hl2) ?_)
      rintro ⟨h1, -⟩
      rw [hl2] at h1
      cases h1
    · rw [hl2, List.length_cons] at hsz
      have two : s.extract a (a + 2) = ⟨#[x, y]⟩ := by
        apply ba_eq
        rw [ext_list, hl, hl2, show a + 2 - a = 2 by omega]
        rfl
      have tl : (⟨#[x, y]⟩ : ByteArray).toList = [x, y] := by rw [Lib.toList_data]
      rw [if_pos (by omega), if_pos (by omega), ea2, if_pos (by omega), if_pos (by omega), show ((a : Nat) : Int).toNat = a by omega, show ((a + 2 : Nat) : Int).toNat = a + 2 by omega, two, tl]
      have htwo : ∀ c : UInt8, (c = 60 ∨ c = 62 ∨ c = 61) → x = c → y = 61 → some ((⟨#[x, y]⟩ : ByteArray), ((a + 2 : Nat) : Int)) = some (operN s a, ((operT s a : Nat) : Int)) := by
        rintro c hc rfl rfl
        unfold operT operN
        rw [operL_list h, hl2, two_op x t hc]
        rfl
      by_cases c1 : [x, y] = ([60, 61] : List UInt8)
      · rw [if_pos c1]
        injection c1 with c1 c2; injection c2 with c2
        exact htwo 60 (.inl rfl) c1 c2
      · rw [if_neg c1]
        by_cases c2 : [x, y] = ([62, 61] : List UInt8)
        · rw [if_pos c2]
          injection c2 with d1 d2; injection d2 with d2
          exact htwo 62 (.inr (.inl rfl)) d1 d2
        · rw [if_neg c2]
          by_cases c3 : [x, y] = ([61, 61] : List UInt8)
          · rw [if_pos c3]
            injection c3 with d1 d2; injection d2 with d2
            exact htwo 61 (.inr (.inr rfl)) d1 d2
          · rw [if_neg c3, hj]
            refine hone (find_op x y l (.inr (by rw [hl2]; rfl)) ?_)
            rintro ⟨-, rfl, rfl | rfl | rfl⟩
            · exact c1 rfl
            · exact c2 rfl
            · exact c3 rfl
theorem roper_calls (s : ByteArray) (hs : s.size ≤ 4611686018427387904) (scale : Nat) (size vs here : Int) (form : Bool) (a : Nat) (ha : a ≤ s.size) (w : World) :
    Calls Try.prog 51 #[rdr s scale size vs here form, .int .i64 a] w fun e w' => e = .returned (.tuple #[.string (operN s a), .int .i64 (operT s a : Nat)]) ∧ Below w.heap.size w w' :=
  Poperator.frisketref01_reader_operator.calls 12 s scale size vs here form a _ _ w (oper_f s hs scale size vs here form a ha)
end Go.Proofs.Ytkomofphgnekoaa

set_option linter.unusedVariables false
set_option linter.unusedSimpArgs false
namespace Go.Proofs.Ytkomofphgnekoaa
open Go.Shelf Go.RowKit Go.Lib Go.Aids Go.MapLit Go.Proofs.YtkomofphgnekoaaW.PrintWords

/-- What reckon hands back. -/
def reckonR (op : ByteArray) (x y : Int) : Int × Int := if (op = ⟨#[47]⟩ ∨ op = ⟨#[37]⟩) ∧ y = 0 then (0, 11) else if big (reckonV op x y) then (0, 5) else (reckonV op x y, 0)
def heldR (v : Int) : Int × Int := if big v then (0, 5) else (v, 0)
theorem within_f (v : Int) : ((Preckon.frisketref01_within.f v).bind fun t => if t = true then some (v, (0 : Int)) else some (0, 5)) = some (heldR v) := by
  unfold Preckon.frisketref01_within.f heldR
  by_cases h1 : v ≥ -1000000000
  · rw [if_pos h1, Option.bind_some]
    by_cases h2 : v ≤ 1000000000
    · rw [if_pos (by simpa using h2), if_neg (by unfold big; omega)]
    · rw [if_neg (by simpa using h2), if_pos (by unfold big; omega)]
  · rw [if_neg h1, Option.bind_some, if_neg (by decide), if_pos (by unfold big; omega)]
theorem truth_f (b : Bool) : ((Preckon.frisketref01_truth.f b).bind fun t => (Preckon.frisketref01_within.f t).bind fun t' => if t' = true then some (t, (0 : Int)) else some (0, 5)) = some (heldR (bitO b)) := by
  cases b
  · rw [show Preckon.frisketref01_truth.f false = some 0 from rfl, Option.bind_some]; exact within_f 0
  · rw [show Preckon.frisketref01_truth.f true = some 1 from rfl, Option.bind_some]; exact within_f 1
theorem mul_bound {x y : Int} (hx : -1000000000 ≤ x ∧ x ≤ 1000000000) (hy : -1000000000 ≤ y ∧ y ≤ 1000000000) : wrap64 (x * y) = x * y := by
  have h1 : x.natAbs ≤ 1000000000 := by omega
  have h2 : y.natAbs ≤ 1000000000 := by omega
  have h3 : (x * y).natAbs ≤ 1000000000 * 1000000000 := by rw [Int.natAbs_mul]; exact Nat.mul_le_mul h1 h2
  exact wrap64_in _ (by omega) (by omega)
theorem div_bound {x y : Int} (hx : -1000000000 ≤ x ∧ x ≤ 1000000000) : wrap64 (x.tdiv y) = x.tdiv y := by
  have h3 : (x.tdiv y).natAbs ≤ 1000000000 := by
    rw [Int.natAbs_tdiv]
    exact Nat.le_trans (Nat.div_le_self _ _) (by omega)
  generalize x.tdiv y = z at *
  exact wrap64_in _ (by omega) (by omega)
theorem l1 (b : UInt8) : (⟨#[b]⟩ : ByteArray).toList = [b] := by rw [Lib.toList_data]
theorem l2 (b c : UInt8) : (⟨#[b, c]⟩ : ByteArray).toList = [b, c] := by rw [Lib.toList_data]
theorem reckon_f (op : ByteArray) (hop : op ∈ ops) (x y : Int) (hx : -1000000000 ≤ x ∧ x ≤ 1000000000) (hy : -1000000000 ≤ y ∧ y ≤ 1000000000) :
    Preckon.frisketref01_reckon.f 3 op x y = some (reckonR op x y) := by
  have ws : wrap64 (x + y) = x + y := wrap64_in _ (by omega) (by omega)
  have wd : wrap64 (x - y) = x - y := wrap64_in _ (by omega) (by omega)
  have wm := mul_bound hx hy
  have wq := div_bound (y := y) hx
  have R : ∀ (op : ByteArray) (v : Int), ¬ (op = ⟨#[47]⟩ ∨ op = ⟨#[37]⟩) → reckonV op x y = v → reckonR op x y = heldR v := by
    intro op v h1 h2
    unfold reckonR heldR
    rw [if_neg (fun h => h1 h.1), h2]
  simp only [ops, List.mem_cons, List.mem_nil_iff, or_false] at hop
  rcases hop with rfl | rfl | rfl | rfl | rfl | rfl | rfl | rfl | rfl | rfl | rfl | rfl | rfl
  · simp only [Preckon.frisketref01_reckon.f, Preckon.frisketref01_reckon.j0, Preckon.frisketref01_reckon.j1, l1, l2]
    (repeat (first | rw [if_neg (by decide)] | rw [if_pos (by decide)]))
    rw [R _ (bitO (decide (x ≤ y))) (by decide) (by unfold reckonV; (repeat (first | rw [if_neg (by decide)] | rw [if_pos (by decide)])))]
    exact truth_f _
  · simp only [Preckon.frisketref01_reckon.f, Preckon.frisketref01_reckon.j0, Preckon.frisketref01_reckon.j1, l1, l2]
    (repeat (first | rw [if_neg (by decide)] | rw [if_pos (by decide)]))
    rw [R _ (bitO (decide (x ≥ y))) (by decide) (by unfold reckonV; (repeat (first | rw [if_neg (by decide)] | rw [if_pos (by decide)])))]
    exact truth_f _
  · simp only [Preckon.frisketref01_reckon.f, Preckon.frisketref01_reckon.j0, Preckon.frisketref01_reckon.j1, l1, l2]
    (repeat (first | rw [if_neg (by decide)] | rw [if_pos (by decide)]))
    rw [R _ (bitO (decide (x = y))) (by decide) (by unfold reckonV; (repeat (first | rw [if_neg (by decide)] | rw [if_pos (by decide)])))]
    exact (truth_f _).trans (by congr 3)
  · simp only [Preckon.frisketref01_reckon.f, Preckon.frisketref01_reckon.j0, Preckon.frisketref01_reckon.j1, l1, l2]
    (repeat (first | rw [if_neg (by decide)] | rw [if_pos (by decide)]))
    rw [R _ (x + y) (by decide) (by unfold reckonV; (repeat (first | rw [if_neg (by decide)] | rw [if_pos (by decide)])))]
    rw [ws]; exact within_f _
  · simp only [Preckon.frisketref01_reckon.f, Preckon.frisketref01_reckon.j0, Preckon.frisketref01_reckon.j1, l1, l2]
    (repeat (first | rw [if_neg (by decide)] | rw [if_pos (by decide)]))
    rw [R _ (x - y) (by decide) (by unfold reckonV; (repeat (first | rw [if_neg (by decide)] | rw [if_pos (by decide)])))]
    rw [wd]; exact within_f _
  · simp only [Preckon.frisketref01_reckon.f, Preckon.frisketref01_reckon.j0, Preckon.frisketref01_reckon.j1, l1, l2]
    (repeat (first | rw [if_neg (by decide)] | rw [if_pos (by decide)]))
    rw [R _ (x * y) (by decide) (by unfold reckonV; (repeat (first | rw [if_neg (by decide)] | rw [if_pos (by decide)])))]
    rw [wm]; exact within_f _
  · simp only [Preckon.frisketref01_reckon.f, Preckon.frisketref01_reckon.j0, Preckon.frisketref01_reckon.j1, l1, l2]
    (repeat (first | rw [if_neg (by decide)] | rw [if_pos (by decide)]))
    by_cases h0 : y = 0
    · rw [if_pos h0]
      unfold reckonR
      rw [if_pos ⟨.inl rfl, h0⟩]
    · rw [if_neg h0]
      (repeat (first | rw [if_neg (by decide)] | rw [if_pos (by decide)]))
      have e : reckonR ⟨#[47]⟩ x y = heldR (x.tdiv y) := by
        unfold reckonR heldR
        rw [if_neg (fun h => h0 h.2), show reckonV ⟨#[47]⟩ x y = x.tdiv y from (by unfold reckonV; (repeat (first | rw [if_neg (by decide)] | rw [if_pos (by decide)])))]
      rw [e]
      rw [wq]; exact within_f _
  · simp only [Preckon.frisketref01_reckon.f, Preckon.frisketref01_reckon.j0, Preckon.frisketref01_reckon.j1, l1, l2]
    (repeat (first | rw [if_neg (by decide)] | rw [if_pos (by decide)]))
    by_cases h0 : y = 0
    · rw [if_pos h0]
      unfold reckonR
      rw [if_pos ⟨.inr rfl, h0⟩]
    · rw [if_neg h0]
      (repeat (first | rw [if_neg (by decide)] | rw [if_pos (by decide)]))
      have e : reckonR ⟨#[37]⟩ x y = heldR (x.tmod y) := by
        unfold reckonR heldR
        rw [if_neg (fun h => h0 h.2), show reckonV ⟨#[37]⟩ x y = x.tmod y from (by unfold reckonV; (repeat (first | rw [if_neg (by decide)] | rw [if_pos (by decide)])))]
      rw [e]
      exact within_f _
  · simp only [Preckon.frisketref01_reckon.f, Preckon.frisketref01_reckon.j0, Preckon.frisketref01_reckon.j1, l1, l2]
    (repeat (first | rw [if_neg (by decide)] | rw [if_pos (by decide)]))
    rw [R _ (bitO (decide (x < y))) (by decide) (by unfold reckonV; (repeat (first | rw [if_neg (by decide)] | rw [if_pos (by decide)])))]
    exact truth_f _
  · simp only [Preckon.frisketref01_reckon.f, Preckon.frisketref01_reckon.j0, Preckon.frisketref01_reckon.j1, l1, l2]
    (repeat (first | rw [if_neg (by decide)] | rw [if_pos (by decide)]))
    rw [R _ (bitO (decide (x > y))) (by decide) (by unfold reckonV; (repeat (first | rw [if_neg (by decide)] | rw [if_pos (by decide)])))]
    exact truth_f _
  · simp only [Preckon.frisketref01_reckon.f, Preckon.frisketref01_reckon.j0, Preckon.frisketref01_reckon.j1, l1, l2]
    (repeat (first | rw [if_neg (by decide)] | rw [if_pos (by decide)]))
    rw [R _ (bitO (decide (x = y))) (by decide) (by unfold reckonV; (repeat (first | rw [if_neg (by decide)] | rw [if_pos (by decide)])))]
    exact (truth_f _).trans (by congr 3)
  · simp only [Preckon.frisketref01_reckon.f, Preckon.frisketref01_reckon.j0, Preckon.frisketref01_reckon.j1, l1, l2]
    (repeat (first | rw [if_neg (by decide)] | rw [if_pos (by decide)]))
    rw [R _ (bitO (decide (x > 0) && decide (y > 0))) (by decide) (by unfold reckonV; (repeat (first | rw [if_neg (by decide)] | rw [if_pos (by decide)])))]
    by_cases h : x > 0
    · rw [if_pos h, decide_eq_true h, Bool.true_and]; exact truth_f _
    · rw [if_neg h, decide_eq_false h, Bool.false_and]; exact truth_f _
  · simp only [Preckon.frisketref01_reckon.f, Preckon.frisketref01_reckon.j0, Preckon.frisketref01_reckon.j1, l1, l2]
    (repeat (first | rw [if_neg (by decide)] | rw [if_pos (by decide)]))
    rw [R _ (bitO (decide (x > 0) || decide (y > 0))) (by decide) (by unfold reckonV; (repeat (first | rw [if_neg (by decide)] | rw [if_pos (by decide)])))]
    by_cases h : x > 0
    · rw [if_pos h, decide_eq_true h, Bool.true_or]; exact truth_f _
    · rw [if_neg h, decide_eq_false h, Bool.false_or]; exact truth_f _
end Go.Proofs.Ytkomofphgnekoaa

set_option linter.unusedVariables false
set_option linter.unusedSimpArgs false
namespace Go.Proofs.Ytkomofphgnekoaa
open Go.Shelf Go.RowKit Go.Lib Go.Aids Go.MapLit Go.Proofs.YtkomofphgnekoaaW.PrintWords
open PNumber (frisketref01_number.f frisketref01_number.l0 frisketref01_number.l1 frisketref01_number.j1 frisketref01_number.j2 frisketref01_number.j4 frisketref01_number.j5 frisketref01_number.j6)

theorem unit_f (c : Cx) (ok : c.Ok) (b : Nat) (u : Int) (h : unitOf c b = some u) : PNumber.frisketref01_unit.f b c.size c.vs c.here = some u := by
  have w1 : wrap64 (10 * c.size) = 10 * c.size := wrap64_in _ (by have := ok.s0; omega) (by have := ok.s1; omega)
  have w2 : wrap64 (5 * c.size) = 5 * c.size := wrap64_in _ (by have := ok.s0; omega) (by have := ok.s1; omega)
  unfold PNumber.frisketref01_unit.f
  unfold unitOf at h
  rw [w1, w2]
  repeat' split at h
  all_goals first
    | (injection h with h; subst h; subst_vars; rfl)
    | (injection h with h; subst h
       repeat (first | rw [if_neg (by omega)] | rw [if_pos (by omega)]))
    | (cases h)
theorem unitB (c : Cx) (ok : c.Ok) (b : Nat) (u : Int) (h : unitOf c b = some u) : 0 ≤ u ∧ u ≤ 10000000 := by
  have := ok.s0; have := ok.s1; have := ok.v0; have := ok.v1
  unfold unitOf at h
  repeat' split at h
  all_goals first
    | (injection h with h; omega)
    | (cases h)
theorem scale_f (c : Cx) (k b : Nat) (hb : b < 256) : PNumber.frisketref01_isScale.f (k + 9) b = some (unitOf c b).isSome := by
  unfold PNumber.frisketref01_isScale.f
  have step : ∀ (n i : Nat) (x : Nat) (hx : bt (⟨#[117, 112, 80, 105, 99, 109, 110, 118]⟩ : ByteArray) i = x) (wi : wrap64 ((i : Int) + 1) = ((i + 1 : Nat) : Int)) (hi : i < 8),
      PNumber.frisketref01_isScale.l0 (n + 1) b i = if x = b then some true else PNumber.frisketref01_isScale.l0 n b ((i + 1 : Nat) : Int) := by
    intro n i x hx wi hi
    rw [PNumber.frisketref01_isScale.l0, if_pos (by omega), if_pos (by omega), hx, wi]
    by_cases h : x = b
    · rw [if_pos h, if_pos (by omega)]
    · rw [if_neg h, if_neg (by omega)]
  have fin : PNumber.frisketref01_isScale.l0 (k + 1) b ((8 : Nat) : Int) = some false := by
    rw [PNumber.frisketref01_isScale.l0, if_neg (by omega)]
  have all := step (k + 8) 0 117 (by decide +kernel) (by decide +kernel) (by decide)
  rw [step (k + 7) 1 112 (by decide +kernel) (by decide +kernel) (by decide), step (k + 6) 2 80 (by decide +kernel) (by decide +kernel) (by decide), step (k + 5) 3 105 (by decide +kernel) (by decide +kernel) (by decide), step (k + 4) 4 99 (by decide +kernel) (by decide +kernel) (by decide),
    step (k + 3) 5 109 (by decide +kernel) (by decide +kernel) (by decide), step (k + 2) 6 110 (by decide +kernel) (by decide +kernel) (by decide), step (k + 1) 7 118 (by decide +kernel) (by decide +kernel) (by decide), fin] at all
  refine all.trans ?_
  by_cases h0 : b = 117
  · subst h0; rfl
  by_cases h1 : b = 112
  · subst h1; rfl
  by_cases h2 : b = 80
  · subst h2; rfl
  by_cases h3 : b = 105
  · subst h3; rfl
  by_cases h4 : b = 99
  · subst h4; rfl
  by_cases h5 : b = 109
  · subst h5; rfl
  by_cases h6 : b = 110
  · subst h6; rfl
  by_cases h7 : b = 118
  · subst h7; rfl
  rw [if_neg (Ne.symm h0), if_neg (Ne.symm h1), if_neg (Ne.symm h2), if_neg (Ne.symm h3), if_neg (Ne.symm h4), if_neg (Ne.symm h5), if_neg (Ne.symm h6), if_neg (Ne.symm h7)]
  unfold unitOf
  rw [if_neg h0, if_neg h1, if_neg h2, if_neg h3, if_neg h4, if_neg h5, if_neg h6, if_neg h7]
  rfl
/-- What is handed back of a value. -/
def finR (v : Int) (t : Nat) : Int × Int × Int := if big v then (0, (t : Int), 5) else (v, (t : Int), 0)
def numR (c : Cx) (n p pl a2 : Nat) : Int × Int × Int :=
  match unitOf c (pk c.s a2) with
  | some u => finR ((n : Int) * u + ((p : Int) * u).tdiv ((10 ^ pl : Nat) : Int)) (a2 + 1)
  | none => finR ((n : Int) * ((unitOf c c.scale).getD 0) + ((p : Int) * ((unitOf c c.scale).getD 0)).tdiv ((10 ^ pl : Nat) : Int)) a2
theorem prod_bound {n : Nat} {u : Int} (hn : n < 1000000000) (hu : 0 ≤ u ∧ u ≤ 10000000) : 0 ≤ (n : Int) * u ∧ (n : Int) * u ≤ 10000000000000000 := by
  have h1 := Int.mul_nonneg (show (0 : Int) ≤ n by omega) hu.1
  have h2 : (n : Int) * u ≤ 1000000000 * 10000000 := Int.mul_le_mul (by omega) hu.2 hu.1 (by omega)
  omega
theorem j6_f (c : Cx) (ok : c.Ok) (k : Nat) (b : Nat) (u : Int) (h : unitOf c b = some u) (n p pl t : Nat) (hn : n < 1000000000) (hp : p < 1000000000) :
    frisketref01_number.j6 (k + 1) (t : Int) b n p ((10 ^ pl : Nat) : Int) c.size c.vs c.here = some (finR ((n : Int) * u + ((p : Int) * u).tdiv ((10 ^ pl : Nat) : Int)) t) := by
  have hu := unitB c ok b u h
  have b1 := prod_bound hn hu
  have b2 := prod_bound hp hu
  have hpow : 0 < 10 ^ pl := Nat.pow_pos (by decide)
  have w1 : wrap64 ((n : Int) * u) = (n : Int) * u := wrap64_in _ (by omega) (by omega)
  have w2 : wrap64 ((p : Int) * u) = (p : Int) * u := wrap64_in _ (by omega) (by omega)
  have b3 : 0 ≤ ((p : Int) * u).tdiv ((10 ^ pl : Nat) : Int) ∧ ((p : Int) * u).tdiv ((10 ^ pl : Nat) : Int) ≤ 10000000000000000 := by
    rw [Int.tdiv_eq_ediv_of_nonneg b2.1]
    refine ⟨Int.ediv_nonneg b2.1 (by omega), ?_⟩
    exact Int.le_trans (Int.ediv_le_self _ b2.1) b2.2
  generalize hq : ((p : Int) * u).tdiv ((10 ^ pl : Nat) : Int) = q at *
  have w3 : wrap64 q = q := wrap64_in _ (by omega) (by omega)
  have w4 : wrap64 ((n : Int) * u + q) = (n : Int) * u + q := wrap64_in _ (by omega) (by omega)
  rw [frisketref01_number.j6, unit_f c ok b u h, Option.bind_some, if_neg (by omega), w1, w2, hq, w3, w4]
  unfold PNumber.frisketref01_within.f finR
  generalize (n : Int) * u + q = v
  by_cases h1 : v ≥ -1000000000
  · rw [if_pos h1, Option.bind_some]
    by_cases h2 : v ≤ 1000000000
    · rw [if_pos (by simpa using h2), if_neg (by unfold big; omega)]
    · rw [if_neg (by simpa using h2), if_pos (by unfold big; omega)]
  · rw [if_neg h1, Option.bind_some, if_neg (by decide), if_pos (by unfold big; omega)]
end Go.Proofs.Ytkomofphgnekoaa

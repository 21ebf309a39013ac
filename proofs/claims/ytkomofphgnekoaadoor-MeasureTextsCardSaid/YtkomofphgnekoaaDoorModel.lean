/- The reader of layer 1, in plain Lean. -/
import Derived.Test.YtkomofphgnekoaaDoorShelf
import Derived.Test.YtkomofphgnekoaaDoorAids
set_option linter.unusedVariables false
set_option linter.unusedSimpArgs false
namespace Go.Proofs.YtkomofphgnekoaaDoor

/-- What does not turn while a text is read. -/
structure Cx where
  s : ByteArray
  scale : Nat
  size : Int
  vs : Int
  here : Int
  m : Nat
  mute : Bool

/-- The byte at a place, 0 at the end. -/
def pk (s : ByteArray) (a : Nat) : Nat := if h : a < s.size then s[a].toNat else 0
def skipF (s : ByteArray) : Nat → Nat → Nat
  | 0, a => a
  | k + 1, a => if pk s a = 32 then skipF s k (a + 1) else a
def skip (s : ByteArray) (deep a : Nat) : Nat := if 0 < deep then skipF s (s.size - a) a else a
def isDig (s : ByteArray) (a : Nat) : Prop := 48 ≤ pk s a ∧ pk s a ≤ 57
instance (s : ByteArray) (a : Nat) : Decidable (isDig s a) := by unfold isDig; infer_instance
/-- At most k digits, behind those that are read (n). -/
def rowF (s : ByteArray) : Nat → Nat → Nat → Nat × Nat
  | 0, n, a => (n, a)
  | k + 1, n, a => if isDig s a then rowF s k (n * 10 + (pk s a - 48)) (a + 1) else (n, a)
inductive Out where
  | ok (n : Int) (a : Nat)
  | die (e : Int)
  | stuck
def big (n : Int) : Prop := n < -1000000000 ∨ 1000000000 < n
instance (n : Int) : Decidable (big n) := by unfold big; infer_instance
def heldO (c : Cx) (n : Int) (a : Nat) : Out := if c.mute then .ok 0 a else if big n then .die 5 else .ok n a
/-- What one of a scale is. -/
def unitOf (c : Cx) (b : Nat) : Option Int :=
  if b = 117 then some 1 else if b = 112 then some 10 else if b = 80 then some 120 else if b = 105 then some 720 else if b = 99 then some 283
  else if b = 109 then some (10 * c.size) else if b = 110 then some (5 * c.size) else if b = 118 then some c.vs else none
def numberO (c : Cx) (a : Nat) : Out :=
  let r1 := rowF c.s 9 0 a
  let r2 := if pk c.s r1.2 = 46 then rowF c.s 9 0 (r1.2 + 1) else (0, r1.2 + 1)
  let places := r2.2 - (r1.2 + 1)
  let a2 := if places = 0 then r1.2 else r2.2
  if r1.2 = a ∧ places = 0 then .die 4
  else match unitOf c (pk c.s a2) with
    | some u => heldO c ((r1.1 : Int) * u + ((r2.1 : Int) * u).tdiv ((10 ^ places : Nat) : Int)) (a2 + 1)
    | none => heldO c ((r1.1 : Int) * ((unitOf c c.scale).getD 0) + ((r2.1 : Int) * ((unitOf c c.scale).getD 0)).tdiv ((10 ^ places : Nat) : Int)) a2
def pre (s p : ByteArray) (a : Nat) : Bool := Go.Lib.hasPrefix (s.data.toList.drop a) p.data.toList
def ops : List ByteArray := [⟨#[60, 61]⟩, ⟨#[62, 61]⟩, ⟨#[61, 61]⟩, ⟨#[43]⟩, ⟨#[45]⟩, ⟨#[42]⟩, ⟨#[47]⟩, ⟨#[37]⟩, ⟨#[60]⟩, ⟨#[62]⟩, ⟨#[61]⟩, ⟨#[38]⟩, ⟨#[58]⟩]
def operL (s : ByteArray) (a : Nat) : Option ByteArray := ops.find? (fun p => pre s p a)
def bitO (b : Bool) : Int := if b then 1 else 0
def reckonV (op : ByteArray) (x y : Int) : Int :=
  if op = ⟨#[43]⟩ then x + y else if op = ⟨#[45]⟩ then x - y else if op = ⟨#[42]⟩ then x * y else if op = ⟨#[47]⟩ then x.tdiv y else if op = ⟨#[37]⟩ then x.tmod y
  else if op = ⟨#[60]⟩ then bitO (decide (x < y)) else if op = ⟨#[62]⟩ then bitO (decide (x > y)) else if op = ⟨#[60, 61]⟩ then bitO (decide (x ≤ y)) else if op = ⟨#[62, 61]⟩ then bitO (decide (x ≥ y))
  else if op = ⟨#[61]⟩ ∨ op = ⟨#[61, 61]⟩ then bitO (decide (x = y)) else if op = ⟨#[38]⟩ then bitO (decide (x > 0) && decide (y > 0)) else bitO (decide (x > 0) || decide (y > 0))
def reckonO (c : Cx) (op : ByteArray) (x y : Int) (a : Nat) : Out :=
  if c.mute then .ok 0 a else if (op = ⟨#[47]⟩ ∨ op = ⟨#[37]⟩) ∧ y = 0 then .die 11 else heldO c (reckonV op x y) a
inductive Job where
  | oper (a deep : Nat)
  | expr (a deep : Nat)
  | loop (x : Int) (a deep : Nat)
def run (c : Cx) : Nat → Job → Out
  | 0, _ => .stuck
  | f + 1, .oper a0 deep =>
    let a := skip c.s deep a0
    let b := pk c.s a
    if b = 43 ∨ b = 45 ∨ b = 33 ∨ b = 124 then
      match run c f (.oper (a + 1) deep) with
      | .ok x t => if b = 45 then .ok (-x) t else if b = 33 ∧ 0 < x then .ok 0 t else if b = 33 then .ok 1 t else if b = 124 then heldO c (x - c.here) t else .ok x t
      | o => o
    else if b = 40 then
      if deep = 20 then .die 4
      else match run c f (.expr (a + 1) (deep + 1)) with
        | .ok x t => if pk c.s t = 41 then .ok x (t + 1) else .die 4
        | o => o
    else numberO c a
  | f + 1, .expr a deep =>
    match run c f (.oper a deep) with
    | .ok x t => run c f (.loop x t deep)
    | o => o
  | f + 1, .loop x a0 deep =>
    let a := skip c.s deep a0
    match operL c.s a with
    | none => .ok x a
    | some op =>
      match run c f (.oper (a + op.size) deep) with
      | .ok y t => match reckonO c op x y t with
        | .ok z t => run c f (.loop z t deep)
        | o => o
      | .die e => if deep = 0 ∧ c.mute then .ok x a else .die e
      | .stuck => .stuck
end Go.Proofs.YtkomofphgnekoaaDoor

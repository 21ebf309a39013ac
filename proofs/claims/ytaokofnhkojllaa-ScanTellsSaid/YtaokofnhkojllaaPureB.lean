/- What is told of tokens, in plain Lean. -/
import Derived.Test.YtaokofnhkojllaaPureA
set_option linter.unusedVariables false
set_option linter.unusedSimpArgs false
namespace Go.Proofs.Ytaokofnhkojllaa
open Go.Lib

/-- What a token at a line's end tells: it ends a sentence or does not, or the one ahead of it is asked. -/
def tellM (t : Tok) : Option Bool :=
  if t.kind = 8 ∨ t.kind = 10 ∨ t.kind = 11 ∨ t.kind = 21 then none
  else if t.kind ≠ 0 then some false
  else if t.text.size ≠ 1 then some false
  else if pk t.text 0 = 46 ∨ pk t.text 0 = 63 ∨ pk t.text 0 = 33 then some true
  else if pk t.text 0 = 34 ∨ pk t.text 0 = 39 ∨ pk t.text 0 = 41 ∨ pk t.text 0 = 93 then none else some false
/-- Of the first so many tokens. -/
def endsF (l : List Tok) : Nat → Bool
  | 0 => false
  | k + 1 => match l[k]? with
    | some t => (match tellM t with | some b => b | none => endsF l k)
    | none => false
def endsM (l : List Tok) : Bool := endsF l l.length
def leadF (l : List Tok) : Nat → Nat → Nat
  | 0, a => a
  | f + 1, a => match l[a]? with
    | some t => if t.kind = 1 then leadF l f (a + 1) else a
    | none => a
def leadM (l : List Tok) : Nat := leadF l l.length 0
theorem leadF_bound (l : List Tok) : ∀ f a, a ≤ leadF l f a ∧ leadF l f a ≤ a + f
  | 0, a => by simp [leadF]
  | f + 1, a => by
    unfold leadF
    split
    · split
      · have := leadF_bound l f (a + 1); omega
      · omega
    · omega
end Go.Proofs.Ytaokofnhkojllaa

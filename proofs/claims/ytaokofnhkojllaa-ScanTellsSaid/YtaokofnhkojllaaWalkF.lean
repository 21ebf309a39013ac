/- Walks of layer 10's reader: the two tables. -/
import Derived.Test.YtaokofnhkojllaaWalkE
set_option linter.unusedVariables false
set_option linter.unusedSimpArgs false
namespace Go.Proofs.Ytaokofnhkojllaa
open Go.Shelf Go.RowKit Go.Lib Go.Aids Go.MapLit Go.Proofs.YtaokofnhkojllaaW.PrintWords

abbrev eK : Int → Value := Value.int .u8
abbrev eI : Int → Value := Value.int .i64
abbrev eT : Tok → Value := fun t => .agg #[.int .i64 t.kind, .string t.text, .int .i64 t.n]
theorem keyU : KeyLit Try.prog 5 eK := KeyLit.int Try.underlying5
theorem zeroI (w : World) : (zeroValue 3).run Try.prog w = .ok (.int .i64 0) w := by kernel_rfl
theorem zeroT (w : World) : (zeroValue 28).run Try.prog w = .ok (.agg #[.int .i64 0, .string ⟨#[]⟩, .int .i64 0]) w := by kernel_rfl
def simpleI : List (Int × Tok) := simpleL.map fun p => ((p.1 : Int), p.2)
def quotesI : List (Int × Int) := quotesL.map fun p => ((p.1 : Int), p.2)
theorem find_look {β : Type} (l : List (Nat × β)) (k : Nat) : find (l.map fun p => ((p.1 : Int), p.2)) (k : Int) = look l k := by
  unfold find look
  induction l with
  | nil => rfl
  | cons p l ih =>
    rw [List.map_cons, List.find?_cons, List.find?_cons]
    have e : decide ((k : Int) = (p.1 : Int)) = decide (k = p.1) := by rw [decide_eq_decide]; omega
    simp only [e]
    cases decide (k = p.1)
    · exact ih
    · rfl
def MT (l : List (Int × Tok)) (n : Nat) : Obj := .map (litEs eK eT l) n
def MI (l : List (Int × Int)) (n : Nat) : Obj := .map (litEs eK eI l) n

set_option maxHeartbeats 2000000 in
theorem quotes_calls (w : World) : Calls Try.prog 38 #[] w fun e w' => e = .returned (.map (some w.heap.size)) ∧ MapIs eK eI w' w.heap.size quotesI ∧ Below w.heap.size w w' := by
  have hmm := @run_makeMap Try.prog
  have H : ∀ (n : Nat) (k : Int) (v : Int), find (quotesI.take n) k = none → quotesI.take n ++ [(k, v)] = quotesI.take (n + 1) → (quotesI.take n).length = n →
      (Instr.mapUpdate 71 (.map (some w.heap.size)) (.int .u8 k) (eI v)).run Try.prog (w.alloc (MI (quotesI.take n) n)) = .ok () (w.alloc (MI (quotesI.take (n + 1)) (n + 1))) := by
    intro n k v h1 h2 h3
    have := run_insert eK eI keyU Try.underlying71 (quotesI.take n) k v h1 w
    rw [h2, h3] at this
    exact this
  have h1 : (Instr.mapUpdate 71 (.map (some w.heap.size)) (.int .u8 104) (.int .i64 12)).run Try.prog (w.alloc (.map #[] 0)) = .ok () (w.alloc (MI (quotesI.take 1) 1)) := H 0 104 12 rfl rfl rfl
  have h2 := H 1 118 13 rfl rfl rfl
  have h3 := H 2 120 14 rfl rfl rfl
  have h4 := H 3 108 15 rfl rfl rfl
  have h5 := H 4 68 16 rfl rfl rfl
  have h6 := H 5 111 17 rfl rfl rfl
  clear H
  go_enter Try.func38, Try.ntmps38
  go_wp2
  go_ret
  exact ⟨rfl, MapIs.made eK eI w quotesI, (Below.refl _ w).alloc (Nat.le_refl _) _⟩
set_option maxHeartbeats 2000000 in
theorem simple_calls (w : World) : Calls Try.prog 37 #[] w fun e w' => e = .returned (.map (some w.heap.size)) ∧ MapIs eK eT w' w.heap.size simpleI ∧ Below w.heap.size w w' := by
  have hmm := @run_makeMap Try.prog
  have H : ∀ (n : Nat) (k : Int) (v : Tok), find (simpleI.take n) k = none → simpleI.take n ++ [(k, v)] = simpleI.take (n + 1) → (simpleI.take n).length = n →
      (Instr.mapUpdate 68 (.map (some w.heap.size)) (.int .u8 k) (eT v)).run Try.prog (w.alloc (MT (simpleI.take n) n)) = .ok () (w.alloc (MT (simpleI.take (n + 1)) (n + 1))) := by
    intro n k v h1 h2 h3
    have := run_insert eK eT keyU Try.underlying68 (simpleI.take n) k v h1 w
    rw [h2, h3] at this
    exact this
  have h1 : (Instr.mapUpdate 68 (.map (some w.heap.size)) (.int .u8 101) (.agg #[.int .i64 0, .string ⟨#[92]⟩, .int .i64 0])).run Try.prog (w.alloc (.map #[] 0)) = .ok () (w.alloc (MT (simpleI.take 1) 1)) := H 0 101 ⟨0, ⟨#[92]⟩, 0⟩ rfl rfl rfl
  have h2 : (Instr.mapUpdate 68 (.map (some w.heap.size)) (.int .u8 92) (.agg #[.int .i64 0, .string ⟨#[92]⟩, .int .i64 0])).run Try.prog (w.alloc (MT (simpleI.take 1) 1)) = .ok () (w.alloc (MT (simpleI.take 2) 2)) := H 1 92 ⟨0, ⟨#[92]⟩, 0⟩ rfl rfl rfl
  have h3 : (Instr.mapUpdate 68 (.map (some w.heap.size)) (.int .u8 45) (.agg #[.int .i64 0, .string ⟨#[109, 105]⟩, .int .i64 0])).run Try.prog (w.alloc (MT (simpleI.take 2) 2)) = .ok () (w.alloc (MT (simpleI.take 3) 3)) := H 2 45 ⟨0, ⟨#[109, 105]⟩, 0⟩ rfl rfl rfl
  have h4 : (Instr.mapUpdate 68 (.map (some w.heap.size)) (.int .u8 116) (.agg #[.int .i64 2, .string ⟨#[]⟩, .int .i64 0])).run Try.prog (w.alloc (MT (simpleI.take 3) 3)) = .ok () (w.alloc (MT (simpleI.take 4) 4)) := H 3 116 ⟨2, ⟨#[]⟩, 0⟩ rfl rfl rfl
  have h5 : (Instr.mapUpdate 68 (.map (some w.heap.size)) (.int .u8 97) (.agg #[.int .i64 3, .string ⟨#[]⟩, .int .i64 0])).run Try.prog (w.alloc (MT (simpleI.take 4) 4)) = .ok () (w.alloc (MT (simpleI.take 5) 5)) := H 4 97 ⟨3, ⟨#[]⟩, 0⟩ rfl rfl rfl
  have h6 : (Instr.mapUpdate 68 (.map (some w.heap.size)) (.int .u8 126) (.agg #[.int .i64 4, .string ⟨#[]⟩, .int .i64 0])).run Try.prog (w.alloc (MT (simpleI.take 5) 5)) = .ok () (w.alloc (MT (simpleI.take 6) 6)) := H 5 126 ⟨4, ⟨#[]⟩, 0⟩ rfl rfl rfl
  have h7 : (Instr.mapUpdate 68 (.map (some w.heap.size)) (.int .u8 32) (.agg #[.int .i64 5, .string ⟨#[]⟩, .int .i64 0])).run Try.prog (w.alloc (MT (simpleI.take 6) 6)) = .ok () (w.alloc (MT (simpleI.take 7) 7)) := H 6 32 ⟨5, ⟨#[]⟩, 0⟩ rfl rfl rfl
  have h8 : (Instr.mapUpdate 68 (.map (some w.heap.size)) (.int .u8 124) (.agg #[.int .i64 6, .string ⟨#[]⟩, .int .i64 167])).run Try.prog (w.alloc (MT (simpleI.take 7) 7)) = .ok () (w.alloc (MT (simpleI.take 8) 8)) := H 7 124 ⟨6, ⟨#[]⟩, 167⟩ rfl rfl rfl
  have h9 : (Instr.mapUpdate 68 (.map (some w.heap.size)) (.int .u8 94) (.agg #[.int .i64 6, .string ⟨#[]⟩, .int .i64 83])).run Try.prog (w.alloc (MT (simpleI.take 8) 8)) = .ok () (w.alloc (MT (simpleI.take 9) 9)) := H 8 94 ⟨6, ⟨#[]⟩, 83⟩ rfl rfl rfl
  have h10 : (Instr.mapUpdate 68 (.map (some w.heap.size)) (.int .u8 48) (.agg #[.int .i64 7, .string ⟨#[]⟩, .int .i64 0])).run Try.prog (w.alloc (MT (simpleI.take 9) 9)) = .ok () (w.alloc (MT (simpleI.take 10) 10)) := H 9 48 ⟨7, ⟨#[]⟩, 0⟩ rfl rfl rfl
  have h11 : (Instr.mapUpdate 68 (.map (some w.heap.size)) (.int .u8 37) (.agg #[.int .i64 8, .string ⟨#[]⟩, .int .i64 0])).run Try.prog (w.alloc (MT (simpleI.take 10) 10)) = .ok () (w.alloc (MT (simpleI.take 11) 11)) := H 10 37 ⟨8, ⟨#[]⟩, 0⟩ rfl rfl rfl
  have h12 : (Instr.mapUpdate 68 (.map (some w.heap.size)) (.int .u8 38) (.agg #[.int .i64 9, .string ⟨#[]⟩, .int .i64 0])).run Try.prog (w.alloc (MT (simpleI.take 11) 11)) = .ok () (w.alloc (MT (simpleI.take 12) 12)) := H 11 38 ⟨9, ⟨#[]⟩, 0⟩ rfl rfl rfl
  have h13 : (Instr.mapUpdate 68 (.map (some w.heap.size)) (.int .u8 117) (.agg #[.int .i64 13, .string ⟨#[45, 49, 110]⟩, .int .i64 0])).run Try.prog (w.alloc (MT (simpleI.take 12) 12)) = .ok () (w.alloc (MT (simpleI.take 13) 13)) := H 12 117 ⟨13, ⟨#[45, 49, 110]⟩, 0⟩ rfl rfl rfl
  have h14 : (Instr.mapUpdate 68 (.map (some w.heap.size)) (.int .u8 100) (.agg #[.int .i64 13, .string ⟨#[49, 110]⟩, .int .i64 0])).run Try.prog (w.alloc (MT (simpleI.take 13) 13)) = .ok () (w.alloc (MT (simpleI.take 14) 14)) := H 13 100 ⟨13, ⟨#[49, 110]⟩, 0⟩ rfl rfl rfl
  have h15 : (Instr.mapUpdate 68 (.map (some w.heap.size)) (.int .u8 122) (.agg #[.int .i64 18, .string ⟨#[]⟩, .int .i64 0])).run Try.prog (w.alloc (MT (simpleI.take 14) 14)) = .ok () (w.alloc (MT (simpleI.take 15) 15)) := H 14 122 ⟨18, ⟨#[]⟩, 0⟩ rfl rfl rfl
  clear H
  go_enter Try.func37, Try.ntmps37
  go_wp2
  go_ret
  exact ⟨rfl, MapIs.made eK eT w simpleI, (Below.refl _ w).alloc (Nat.le_refl _) _⟩
end Go.Proofs.Ytaokofnhkojllaa

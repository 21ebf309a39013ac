/- The law of the runs of marks. -/
import Derived.Test.YtbhmhoocohiieaaWalkG
set_option linter.unusedVariables false
set_option linter.unusedSimpArgs false
namespace Go.Proofs.Ytbhmhoocohiieaa
open Go.Shelf Go.RowKit Go.Lib Go.MapLit Go.Opens Go.Aids Go.Proofs.YtbhmhoocohiieaaW.PrintWords

/-- Runs from a to b, one behind the other. -/
def Chain : Nat → List (Nat × Nat) → Nat → Prop
  | a, [], b => a = b
  | a, p :: r, b => p.1 = a ∧ a < p.2 ∧ Chain p.2 r b
theorem chain_snoc (r : List (Nat × Nat)) (p : Nat × Nat) (a b : Nat) : Chain a (r ++ [p]) b ↔ Chain a r p.1 ∧ p.1 < p.2 ∧ p.2 = b := by
  induction r generalizing a with
  | nil => simp only [List.nil_append, Chain]; constructor
           · rintro ⟨h1, h2, h3⟩; exact ⟨h1.symm, by omega, h3⟩
           · rintro ⟨h1, h2, h3⟩; exact ⟨h1.symm, by omega, h3⟩
  | cons q r ih => simp only [List.cons_append, Chain, ih, and_assoc]
theorem chain_le (r : List (Nat × Nat)) (a b : Nat) (h : Chain a r b) : a ≤ b := by
  induction r generalizing a with
  | nil => exact Nat.le_of_eq h
  | cons p r ih => obtain ⟨h1, h2, h3⟩ := h; have := ih _ h3; omega
theorem runsTo_chain (l : List Mark) : ∀ k, Chain 0 (runsTo l k) k
  | 0 => rfl
  | k + 1 => by
    have ih := runsTo_chain l k
    unfold runsTo
    split
    · rename_i h
      obtain ⟨q, p, hq⟩ : ∃ q p, runsTo l k = q ++ [p] := ⟨_, _, (List.dropLast_concat_getLast (List.ne_nil_of_length_pos h.1)).symm⟩
      rw [hq] at ih ⊢
      have e : setLast (q ++ [p]) (k + 1) = q ++ [(p.1, k + 1)] := by simp [setLast, List.getD]
      rw [e]
      rw [chain_snoc] at ih ⊢
      exact ⟨ih.1, by show p.1 < k + 1; omega, rfl⟩
    · rw [chain_snoc]; exact ⟨ih, by show k < k + 1; omega, rfl⟩
def endAt (a : Nat) (r : List (Nat × Nat)) (i : Nat) : Nat := if i = 0 then a else (r.getD (i - 1) (0, 0)).2
theorem endAt_zero (a : Nat) (r : List (Nat × Nat)) : endAt a r 0 = a := rfl
theorem endAt_succ (a : Nat) (r : List (Nat × Nat)) (i : Nat) (hi : i < r.length) : endAt a r (i + 1) = r[i].2 := by simp [endAt, List.getD, hi]
theorem endAt_cons (a : Nat) (p : Nat × Nat) (r : List (Nat × Nat)) (i : Nat) : endAt a (p :: r) (i + 1) = endAt p.2 r i := by
  cases i <;> simp [endAt]
theorem chain_at (r : List (Nat × Nat)) (a b : Nat) (h : Chain a r b) : (∀ i (hi : i < r.length), r[i].1 = endAt a r i ∧ endAt a r i < r[i].2) ∧ endAt a r r.length = b := by
  induction r generalizing a with
  | nil => exact ⟨fun i hi => absurd hi (Nat.not_lt_zero _), h⟩
  | cons p r ih =>
    obtain ⟨h1, h2, h3⟩ := h
    obtain ⟨g1, g2⟩ := ih _ h3
    refine ⟨fun i hi => ?_, by rw [List.length_cons, endAt_cons]; exact g2⟩
    cases i with
    | zero => exact ⟨h1, h2⟩
    | succ i => rw [endAt_cons]; exact g1 i (by simpa using hi)
theorem chain_ends (r : List (Nat × Nat)) (a b : Nat) (h : Chain a r b) : ∀ i, i ≤ r.length → endAt a r i ≤ b := by
  induction r generalizing a with
  | nil => intro i hi; obtain rfl : i = 0 := Nat.le_zero.1 hi; exact Nat.le_of_eq h
  | cons p r ih =>
    intro i hi
    cases i with
    | zero => exact chain_le _ _ _ h
    | succ i => rw [endAt_cons]; exact ih _ h.2.2 i (by simpa using hi)

@[go_sem] theorem eq30 (a b c d : Int) (w : World) : (Op.equalIn 10000 30 (.agg #[.int .i64 a, .int .i64 b]) (.agg #[.int .i64 c, .int .i64 d])).run Try.prog w = .ok (a == c && b == d) w := by
  have u3 := Try.underlying3
  have a3 := Try.isAgg3
  have z3 := Try.sizeOf3
  rw [show (10000 : Nat) = 9999 + 1 from rfl, Op.equalIn]
  simp only [Sem.run_bind, run_underlying Try.underlying30, Result.andThen_ok]
  simp only [Std.Legacy.Range.forIn_eq_forIn_range', Std.Legacy.Range.size, Nat.sub_zero, Nat.add_sub_cancel, Nat.div_one, List.range'_succ, List.range'_zero, List.forIn_cons, List.forIn_nil]
  go_simp
  by_cases h1 : a = c <;> by_cases h2 : b = d <;> simp [h1, h2]

set_option maxRecDepth 100000 in
set_option maxHeartbeats 4000000 in
theorem law_runs (A : Option Addr) (c : Nat) (l : List Mark) (w : World) (hC : kMark.C w A l.length l) (hll : l.length ≤ 9223372036854775807) :
    Calls Try.prog 4 #[.slice A l.length c] w fun e w' => e = .returned (.bool true) ∧ Below w.heap.size w w' := by
  by_cases hl : l.length ≤ 200
  case neg =>
    go_enter Try.func4, Try.ntmps4
    go_wp2_with (go_at_call 5; (with_reducible refine (sane_calls _).mono ?_); rintro e w1 ⟨rfl, hb⟩)
    go_ret
    exact ⟨rfl, hb⟩
  have Hch := Lib.hid (chain_at _ _ _ (runsTo_chain l l.length))
  have Hle := Lib.hid (chain_ends _ _ _ (runsTo_chain l l.length))
  have hrl := runsTo_len l l.length
  obtain ⟨r, hr⟩ : ∃ r, runsTo l l.length = r := ⟨_, rfl⟩
  have P1 := pruns_calls A c l w hC hl
  have P2 := fun (w1 : World) (hb : Below w.heap.size w w1) => rruns_calls A c l w1 (Kd.C_below hC hb) hl
  rw [hr] at Hch Hle hrl P1
  simp only [hr] at P2
  have H1 := Lib.hid P1
  have H2 := Lib.hid P2
  clear P1 P2 hr hC
  go_enter Try.func4, Try.ntmps4
  go_wp2_with fail
  refine H1.out.mono ?_
  rintro e w1 ⟨va, rfl, hva, b1⟩
  go_wp2_with fail
  refine (H2.out w1 b1).mono ?_
  rintro e w2 ⟨vb, rfl, hvb, b2⟩
  have hva2 := pw_own_below hva b2
  have b12 : Below w.heap.size w w2 := b1.trans (b2.mono b1.size)
  have hs12 := b1.size
  obtain ⟨RA, ca, rfl⟩ := own_slice hva2
  obtain ⟨RB, cb, rfl⟩ := own_slice hvb
  go_wp2
  go_loopw [5, 6] (fun t i wr => ∃ k m : Nat, k ≤ r.length ∧ t = .int .i64 (endAt 0 r k) ∧ i = .int .i64 k ∧ wr = w2.drewN m) (fun _ i _ => r.length - (intOf i).toNat)
  case atStart => exact ⟨0, 0, Nat.zero_le _, rfl, rfl, rfl⟩
  case round =>
    obtain ⟨k, m, hk, rfl, rfl, rfl⟩ := hrel
    by_cases hlt : k < r.length
    · obtain ⟨g, cap, ha, hgb, hgl⟩ := hva2.form (by omega)
      obtain ⟨g2, cap2, hb, hgb2, hgl2⟩ := hvb.form (by omega)
      obtain ⟨rfl, rfl⟩ : RA = some ⟨g, 0, none⟩ ∧ ca = cap := by simpa using ha
      obtain ⟨rfl, rfl⟩ : RB = some ⟨g2, 0, none⟩ ∧ cb = cap2 := by simpa using hb
      have hlen := flat_len r
      obtain ⟨e1, e2⟩ := Hch.out.1 k hlt
      have e3 := Hle.out k hk
      have e4 := Hle.out (k + 1) hlt
      rw [endAt_succ _ _ _ hlt] at e4
      have c1 : w2.cell? ⟨g, k * 2, none⟩ = some (.int .i64 r[k].1) := by rw [hva2.cellAt _ (by omega)]; exact (flat_at r k hlt).1
      have c2 : w2.cell? ⟨g, k * 2 + 1, none⟩ = some (.int .i64 r[k].2) := by rw [hva2.cellAt _ (by omega)]; exact (flat_at r k hlt).2
      have c3 : w2.cell? ⟨g2, k * 2, none⟩ = some (.int .i64 r[k].1) := by rw [hvb.cellAt _ (by omega)]; exact (flat_at r k hlt).1
      have c4 : w2.cell? ⟨g2, k * 2 + 1, none⟩ = some (.int .i64 r[k].2) := by rw [hvb.cellAt _ (by omega)]; exact (flat_at r k hlt).2
      have hend := Lib.hid (endAt_succ 0 r k hlt)
      obtain ⟨x, hx⟩ : ∃ x, endAt 0 r k = x := ⟨_, rfl⟩
      obtain ⟨y, hy⟩ : ∃ y, r[k].2 = y := ⟨_, rfl⟩
      rw [e1, hx] at c1 c3
      rw [hx] at e2 e3
      rw [hy] at c2 c4 e2 e4 hend
      rw [hx]
      clear hx e1 hy hva hva2 hvb ha hb
      have hk0 : (k : Int) < r.length := by omega
      go_wp2
      go_quiet (fail)
      go_wp2
      exact ⟨⟨k + 1, m + nq, hlt, by rw [hend.out], by go_num, rfl⟩, by simp [intOf]; omega⟩
    · obtain rfl : k = r.length := by omega
      have he := Hch.out.2
      rw [he]
      go_wp2_with (go_at_call 5; (with_reducible refine (sane_calls _).mono ?_); rintro e w4 ⟨rfl, b4⟩)
      go_ret
      exact ⟨rfl, (belowN b12 m).trans (b4.mono (belowN b12 m).size)⟩
end Go.Proofs.Ytbhmhoocohiieaa

/- MeasureSums in plain Lean: a chain of + and - is the sum. -/
import Derived.Test.YtkomofphgnekoaaPureC
import Derived.Test.YtkomofphgnekoaaWalkO
set_option linter.unusedVariables false
set_option linter.unusedSimpArgs false
namespace Go.Proofs.Ytkomofphgnekoaa
open Go.Shelf Go.RowKit Go.Lib Go.Aids Go.MapLit

/-- A chain's terms: is it added, and the number. -/
def sL : List (Bool × Nat) → List UInt8
  | [] => []
  | (p, n) :: r => (if p then 43 else 45) :: (dl n ++ sL r)
def sV : List (Bool × Nat) → Int → Int
  | [], x => x
  | (p, n) :: r, x => sV r (if p then x + n else x - n)
theorem sL_append (a b : List (Bool × Nat)) : sL (a ++ b) = sL a ++ sL b := by
  induction a with
  | nil => rfl
  | cons q r ih => obtain ⟨p, n⟩ := q; simp [sL, ih]
theorem sV_append (a b : List (Bool × Nat)) (x : Int) : sV (a ++ b) x = sV b (sV a x) := by
  induction a generalizing x with
  | nil => rfl
  | cons q r ih => obtain ⟨p, n⟩ := q; simp [sV, ih]
theorem reckon_sign {c : Cx} (hm : c.mute = false) (p : Bool) (x : Int) (n t : Nat) (hx : -900000000 ≤ x ∧ x ≤ 900000000) (hn : n < 1000000) :
    reckonO c ⟨#[if p then 43 else 45]⟩ x n t = .ok (if p then x + n else x - n) t := by
  cases p
  · unfold reckonO heldO
    simp only [Bool.false_eq_true, if_false]
    rw [hm, if_neg (by decide), if_neg (by rintro ⟨h, -⟩; rcases h with h | h <;> revert h <;> decide), if_neg (by decide)]
    have e : reckonV ⟨#[45]⟩ x n = x - n := by unfold reckonV; rw [if_neg (by decide), if_pos rfl]
    rw [e, if_neg (by unfold big; omega)]
  · unfold reckonO heldO
    simp only [if_true]
    rw [hm, if_neg (by decide), if_neg (by rintro ⟨h, -⟩; rcases h with h | h <;> revert h <;> decide), if_neg (by decide)]
    have e : reckonV ⟨#[43]⟩ x n = x + n := by unfold reckonV; rw [if_pos rfl]
    rw [e, if_neg (by unfold big; omega)]
theorem sign_is (p : Bool) : (if p then 43 else 45 : UInt8) = 43 ∨ (if p then 43 else 45 : UInt8) = 45 := by cases p <;> simp
theorem sign_op (p : Bool) : ∀ x : UInt8, x = (if p then 43 else 45 : UInt8) → (x = 43 ∨ x = 45 ∨ x = 42 ∨ x = 47 ∨ x = 37 ∨ x = 60 ∨ x = 62 ∨ x = 61 ∨ x = 38 ∨ x = 58) := by
  rintro x rfl; cases p <;> simp
theorem stops_next {s : ByteArray} {a : Nat} (ts : List (Bool × Nat)) (l : List UInt8) (h : At s a (sL ts ++ l)) (hl : Stops (l.headD 0).toNat) : Stops (pk s a) := by
  rcases ts with _ | ⟨⟨p, n⟩, r⟩
  · rcases l with _ | ⟨x, l⟩
    · rw [pk_end h]; exact hl
    · rw [pk_at h]; exact hl
  · rw [pk_at (l := dl n ++ sL r ++ l) (x := if p then 43 else 45) (by rw [show (if p then (43 : UInt8) else 45) :: (dl n ++ sL r ++ l) = sL ((p, n) :: r) ++ l from rfl]; exact h)]
    exact stops_ob (sign_op p _ rfl)
theorem oper_space {s : ByteArray} {a : Nat} {l : List UInt8} (h : At s a (32 :: l)) : operL s a = none := by
  unfold operL ops
  simp only [List.find?, pre_at h, List.isPrefixOf]
  rfl
set_option maxRecDepth 100000 in
/-- The loop over a chain. -/
theorem sums_run {c : Cx} (hsc : c.scale = 117) (hm : c.mute = false) (l : List UInt8) (hl : Stops (l.headD 0).toNat) (hend : ∀ a, At c.s a l → operL c.s a = none) :
    ∀ (ts : List (Bool × Nat)) (x : Int) (a : Nat), At c.s a (sL ts ++ l) → (∀ q ∈ ts, q.2 < 1000000) → ts.length ≤ 100 → (-800000000 + 1000000 * (ts.length : Int) ≤ x ∧ x ≤ 800000000 - 1000000 * (ts.length : Int)) →
      Runs c (.loop x a 0) (.ok (sV ts x) (a + (sL ts).length)) := by
  intro ts
  induction ts with
  | nil =>
    intro x a h hq hk hx
    have := Runs.loop_end (c := c) (x := x) (a := a) (deep := 0) (by rw [skip_zero]; exact hend a h)
    rw [skip_zero] at this
    exact this
  | cons q r ihr =>
    obtain ⟨p, n⟩ := q
    intro x a h hq hk hx
    rw [List.length_cons] at hk hx
    have hn : n < 1000000 := hq (p, n) (by simp)
    have h' : At c.s a ((if p then 43 else 45) :: (dl n ++ (sL r ++ l))) := by
      have : (if p then (43 : UInt8) else 45) :: (dl n ++ (sL r ++ l)) = sL ((p, n) :: r) ++ l := by simp [sL]
      rw [this]; exact h
    have h2 := (At.next h').add
    have hs := stops_next r l h2 hl
    have e : a + (sL ((p, n) :: r)).length = a + 1 + (dl n).length + (sL r).length := by simp [sL]; omega
    rw [e]
    have ih := ihr (if p then x + n else x - n) _ h2 (fun q hq' => hq q (by simp [hq'])) (by omega) (by split <;> omega)
    have hp := pk_at h'
    obtain ⟨d, t, e', d1, d2⟩ := dl_head n
    have hop : operL c.s a = some ⟨#[if p then 43 else 45]⟩ := oper_one (d := d) (l := t ++ (sL r ++ l)) (by rw [e'] at h'; exact h') (sign_op p _ rfl) (by omega)
    exact Runs.loop_step (op := ⟨#[if p then 43 else 45]⟩) (y := n) (t := a + 1 + (dl n).length) (z := if p then x + n else x - n) (by rw [skip_zero]; exact hop) (Runs.digs hsc (At.next h') (by omega) hs hm)
      (reckon_sign hm p x n _ (by omega) hn) ih
theorem sums_mute {c : Cx} (hsc : c.scale = 117) (hm : c.mute = true) (l : List UInt8) (hl : Stops (l.headD 0).toNat) (hend : ∀ a, At c.s a l → operL c.s a = none) :
    ∀ (ts : List (Bool × Nat)) (a : Nat), At c.s a (sL ts ++ l) → (∀ q ∈ ts, q.2 < 1000000) → Runs c (.loop 0 a 0) (.ok 0 (a + (sL ts).length))
  | [], a, h, hq => by
    have := Runs.loop_end (c := c) (x := 0) (a := a) (deep := 0) (by rw [skip_zero]; exact hend a h)
    rw [skip_zero] at this
    exact this
  | (p, n) :: r, a, h, hq => by
    have hn : n < 1000000 := hq (p, n) (by simp)
    have h' : At c.s a ((if p then 43 else 45) :: (dl n ++ (sL r ++ l))) := by
      have : (if p then (43 : UInt8) else 45) :: (dl n ++ (sL r ++ l)) = sL ((p, n) :: r) ++ l := by simp [sL]
      rw [this]; exact h
    have h2 := (At.next h').add
    have hs := stops_next r l h2 hl
    have e : a + (sL ((p, n) :: r)).length = a + 1 + (dl n).length + (sL r).length := by simp [sL]; omega
    rw [e]
    have ih := sums_mute hsc hm l hl hend r _ h2 (fun q hq' => hq q (by simp [hq']))
    have hp := pk_at h'
    obtain ⟨d, t, e', d1, d2⟩ := dl_head n
    have hop : operL c.s a = some ⟨#[if p then 43 else 45]⟩ := oper_one (d := d) (l := t ++ (sL r ++ l)) (by rw [e'] at h'; exact h') (sign_op p _ rfl) (by omega)
    exact Runs.loop_step (op := ⟨#[if p then 43 else 45]⟩) (y := 0) (t := a + 1 + (dl n).length) (z := 0) (by rw [skip_zero]; exact hop) (Runs.digs_mute hsc (At.next h') (by omega) hs hm)
      (reckonO_mute hm _ _ _ _) ih

/-- The chain's text. -/
def sT : List (Bool × Nat) → ByteArray → ByteArray
  | [], s => s
  | (p, n) :: r, s => sT r (s ++ (⟨#[if p then 43 else 45]⟩ : ByteArray) ++ digs n)
theorem sT_list (ts : List (Bool × Nat)) (s : ByteArray) : (sT ts s).data.toList = s.data.toList ++ sL ts := by
  induction ts generalizing s with
  | nil => simp [sT, sL]
  | cons q r ih =>
    obtain ⟨p, n⟩ := q
    rw [sT, ih, list_append, list_append]
    simp [sL, dl]
theorem sT_snoc (ts : List (Bool × Nat)) (p : Bool) (n : Nat) (s : ByteArray) : sT (ts ++ [(p, n)]) s = sT ts s ++ (⟨#[if p then 43 else 45]⟩ : ByteArray) ++ digs n := by
  induction ts generalizing s with
  | nil => rfl
  | cons q r ih => obtain ⟨p', n'⟩ := q; rw [List.cons_append, sT, ih, sT]
def nought : ByteArray := ⟨#[48]⟩
def moreS : ByteArray := ⟨#[32, 109, 111, 114, 101]⟩
theorem nought_at {s : ByteArray} {l : List UInt8} (h : s.data.toList = 48 :: l) : At s 0 (dl 0 ++ l) := by
  rw [dl_low 0 (by decide)]
  exact h
theorem sums_eval (ts : List (Bool × Nat)) (hq : ∀ q ∈ ts, q.2 < 1000000) (hk : ts.length ≤ 100) : evalO (sT ts nought) 117 0 0 0 = (sV ts 0, 0) := by
  have hl : (sT ts nought).data.toList = 48 :: (sL ts ++ []) := by rw [sT_list]; simp [nought]
  have h0 := nought_at hl
  have h1 := h0.add
  have e1 : (dl 0).length = 1 := by rw [dl_low 0 (by decide)]; rfl
  generalize sT ts nought = s at *
  have hsz : 1 + (sL ts).length = s.size := by
    have e : s.data.toList.length = s.size := by rw [Array.length_toList]; rfl
    rw [← e, hl, List.append_nil, List.length_cons]
    omega
  unfold evalO
  rw [show okB 117 0 0 0 = true by decide +kernel]
  simp only [if_true]
  have R : Runs ⟨s, 117, 0, 0, 0, 0, false⟩ (.expr 0 0) (.ok (sV ts 0) s.size) := by
    have := sums_run (c := ⟨s, 117, 0, 0, 0, 0, false⟩) rfl rfl [] (by decide) (fun a h => oper_end h) ts 0 _ h1 hq hk (by omega)
    rw [e1, show 0 + 1 + (sL ts).length = s.size by omega] at this
    refine Runs.expr (Runs.digs (c := ⟨s, 117, 0, 0, 0, 0, false⟩) rfl (n := 0) h0 (by decide) (stops_next ts [] h1 (by decide)) rfl) ?_
    rw [e1]
    exact this
  rw [evalRun_eq R]
  simp [wholeN]
theorem sums_prefix (ts : List (Bool × Nat)) (hq : ∀ q ∈ ts, q.2 < 1000000) (hk : ts.length ≤ 100) : prefixO (sT ts nought ++ moreS) 117 0 0 0 = (sV ts 0, ((sT ts nought).size : Int), 0) := by
  have hE := sums_eval ts hq hk
  have hl : (sT ts nought ++ moreS).data.toList = 48 :: (sL ts ++ [32, 109, 111, 114, 101]) := by rw [list_append, sT_list]; simp [nought, moreS]
  have hsz : 1 + (sL ts).length = (sT ts nought).size := by
    have e : (sT ts nought).data.toList.length = (sT ts nought).size := by rw [Array.length_toList]; rfl
    rw [← e, sT_list, List.length_append]
    rfl
  have hx : (sT ts nought ++ moreS).extract 0 (sT ts nought).size = sT ts nought := by
    rw [ByteArray.extract_append_eq_left (by rfl)]
  have h0 := nought_at hl
  have h1 := h0.add
  have e1 : (dl 0).length = 1 := by rw [dl_low 0 (by decide)]; rfl
  generalize sT ts nought ++ moreS = s at *
  have R0 : Runs ⟨s, 117, 0, 0, 0, 0, true⟩ (.oper 0 0) (.ok 0 (0 + (dl 0).length)) :=
    Runs.digs_mute (c := ⟨s, 117, 0, 0, 0, 0, true⟩) rfl (n := 0) h0 (by decide) (stops_next ts [32, 109, 111, 114, 101] h1 (by decide)) rfl
  have R : Runs ⟨s, 117, 0, 0, 0, 0, true⟩ (.expr 0 0) (.ok 0 (sT ts nought).size) := by
    have := sums_mute (c := ⟨s, 117, 0, 0, 0, 0, true⟩) rfl rfl [32, 109, 111, 114, 101] (by decide) (fun a h => oper_space h) ts _ h1 hq
    rw [← hsz]
    refine Runs.expr R0 ?_
    rw [e1] at this ⊢
    rw [show 0 + 1 + (sL ts).length = 1 + (sL ts).length by omega] at this
    exact this
  have ho : operRun s 117 0 0 0 = .ok 0 (0 + (dl 0).length) := R0.eq _ (operRun_stuck s 117 0 0 0)
  unfold prefixO
  rw [show okB 117 0 0 0 = true by decide +kernel, evalRun_eq R, ho]
  simp only [if_true]
  rw [hx, hE]
  rfl
end Go.Proofs.Ytkomofphgnekoaa

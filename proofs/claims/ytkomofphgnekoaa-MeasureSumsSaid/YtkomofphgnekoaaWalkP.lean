/- Walks: the law MeasureSums. -/
import Derived.Test.YtkomofphgnekoaaPureD
import Derived.Test.YtkomofphgnekoaaOpens
set_option linter.unusedVariables false
set_option linter.unusedSimpArgs false
namespace Go.Proofs.Ytkomofphgnekoaa
open Go.Shelf Go.RowKit Go.Lib Go.Aids Go.MapLit Go.Opens Go.Proofs.YtkomofphgnekoaaW.PrintWords

/-- A number's term in the chain. -/
def termOf (x : Int) : Bool × Nat := (x.tmod 2 == 0, ((IntKind.u64.wrap x).tmod 1000000).toNat)
def terms (l : List Int) : List (Bool × Nat) := l.map termOf
theorem term_lt (l : List Int) : ∀ q ∈ terms l, q.2 < 1000000 := by
  intro q hq
  obtain ⟨x, _, rfl⟩ := List.mem_map.1 hq
  obtain ⟨n, h1, h2, h3⟩ := u64_mod x 1000000 (by decide) (by decide)
  simp only [termOf, h2]
  omega
theorem terms_take (l : List Int) (k : Nat) (h : k < l.length) : terms (l.take (k + 1)) = terms (l.take k) ++ [termOf l[k]] := by
  rw [List.take_succ_eq_append_getElem h, terms, List.map_append]; rfl
theorem sT_size (ts : List (Bool × Nat)) (hq : ∀ q ∈ ts, q.2 < 1000000) : ∀ s : ByteArray, (sT ts s).size ≤ s.size + 7 * ts.length := by
  induction ts with
  | nil => intro s; simp [sT]
  | cons q r ih =>
    intro s
    obtain ⟨p, n⟩ := q
    have hn := hq (p, n) (by simp)
    have := ih (fun q hq' => hq q (by simp [hq'])) (s ++ (⟨#[if p then 43 else 45]⟩ : ByteArray) ++ digs n)
    rw [sT]
    have hd : (digs n).size ≤ 6 := by
      have h1 := dl_len 6 n (by decide) (by simpa using hn)
      have h2 : (dl n).length = (digs n).size := by rw [dl, Array.length_toList]; rfl
      omega
    rw [ByteArray.size_append, ByteArray.size_append] at this
    have h1 : (⟨#[if p then 43 else 45]⟩ : ByteArray).size = 1 := rfl
    rw [List.length_cons]
    omega
theorem sV_bound (ts : List (Bool × Nat)) (hq : ∀ q ∈ ts, q.2 < 1000000) : ∀ x : Int, x - 1000000 * (ts.length : Int) ≤ sV ts x ∧ sV ts x ≤ x + 1000000 * (ts.length : Int) := by
  induction ts with
  | nil => intro x; simp [sV]
  | cons q r ih =>
    intro x
    obtain ⟨p, n⟩ := q
    have hn := hq (p, n) (by simp)
    have := ih (fun q hq' => hq q (by simp [hq'])) (if p then x + n else x - n)
    rw [sV, List.length_cons]
    revert this
    cases p <;> simp <;> intro h1 h2 <;> omega

theorem term_facts (x : Int) : ∃ n : Nat, n < 1000000 ∧ termOf x = (x.tmod 2 == 0, n) ∧ (∀ _ : Unit, (IntKind.u64.wrap x).tmod 1000000 = n) ∧ wrap64 n = n ∧ (digs n).size ≤ 6 := by
  obtain ⟨n, h1, h2, h3⟩ := u64_mod x 1000000 (by decide) (by decide)
  have hn : n < 1000000 := by clear h2 h3; omega
  refine ⟨n, hn, ?_, fun _ => h2, h3, ?_⟩
  · simp [termOf, h2]
  · have h1 := dl_len 6 n (by decide) (by clear h2 h3; omega)
    have h2 : (dl n).length = (digs n).size := by rw [dl, Array.length_toList]; rfl
    rw [← h2]; exact h1
theorem sum_wrap (X : Int) (n k : Nat) (hk : k < 101) (hn : n < 1000000) (h : 0 - 1000000 * (k : Int) ≤ X ∧ X ≤ 0 + 1000000 * (k : Int)) : wrap64 (X + n) = X + n ∧ wrap64 (X - n) = X - n :=
  ⟨wrap64_in _ (by omega) (by omega), wrap64_in _ (by omega) (by omega)⟩
theorem ints_at {w : World} {A : Option Addr} {l : List Int} (hC : (Kd.int .i64).C w A l.length l) (h : 0 < l.length) : ∃ b off, A = some ⟨b, off, none⟩ ∧ b < w.heap.size ∧ ∀ k (hk : k < l.length), w.cell? ⟨b, off + k, none⟩ = some (.int .i64 l[k]) := by
  obtain ⟨b, off, rfl, hb, hat⟩ := C_at hC (by decide) h
  refine ⟨b, off, rfl, hb, fun k hk => ?_⟩
  obtain ⟨c, h1, h2, h3⟩ := hat k hk
  have e : c = [.int .i64 l[k]] := h2
  subst e
  have := h3 0 _ rfl
  rw [show (Kd.int IntKind.i64).sz = 1 from rfl] at this
  simpa using this

set_option maxRecDepth 100000 in
set_option maxHeartbeats 4000000 in
theorem sums_calls (A : Option Addr) (c : Nat) (l : List Int) (w : World) (hC : (Kd.int .i64).C w A l.length l) (hl : l.length ≤ 9223372036854775807) :
    Calls Try.prog 4 #[.slice A l.length c] w fun e w' => e = .returned (.bool true) ∧ Below w.heap.size w w' := by
  have HS1 := Lib.hid (fun W => sane_calls W)
  by_cases hbig : 100 < l.length
  · go_enter Try.func4, Try.ntmps4
    go_wp2_with (go_at_call 9; refine (HS1.out _).mono ?_; rintro e w1 ⟨rfl, hb⟩)
    go_ret
    exact ⟨rfl, hb⟩
  have hSl : (sT (terms l) nought).size ≤ 1000 := by
    have := sT_size (terms l) (term_lt l) nought
    rw [show nought.size = 1 from rfl, show (terms l).length = l.length from List.length_map _] at this
    omega
  have hVl := sV_bound (terms l) (term_lt l) 0
  have htl : (terms l).length ≤ 100 := by rw [show (terms l).length = l.length from List.length_map _]; omega
  have hPs : (sT (terms l) nought ++ moreS).size ≤ 1010 := by rw [ByteArray.size_append, show moreS.size = 5 from rfl]; omega
  have E0 := sums_eval (terms l) (term_lt l) htl
  have P0 := sums_prefix (terms l) (term_lt l) htl
  have hP := fun W => prefix_calls (sT (terms l) nought ++ moreS) 117 0 0 0 W (by decide) (by omega)
  rw [P0] at hP
  have hE := fun W => eval_calls (sT (terms l) nought) 117 0 0 0 W (by decide) (by omega)
  rw [E0] at hE
  have HE := Lib.hid hE
  have HP := Lib.hid hP
  clear E0 P0 hE hP
  obtain ⟨S0, hS0⟩ : ∃ S, sT (terms l) nought = S := ⟨_, rfl⟩
  obtain ⟨X0, hX0⟩ : ∃ X, sV (terms l) 0 = X := ⟨_, rfl⟩
  rw [hS0] at hSl hPs HE HP
  rw [hX0] at hVl HE HP
  have HS0 := Lib.hid hS0
  have HX0 := Lib.hid hX0
  clear hS0 hX0 htl
  have HC : Hid (∀ k (hk : k < l.length), ∃ b off, A = some ⟨b, off, none⟩ ∧ b < w.heap.size ∧ w.cell? ⟨b, off + k, none⟩ = some (.int .i64 l[k])) := Lib.hid (fun k hk => by
    obtain ⟨b, off, rfl, hb, hat⟩ := ints_at hC (by omega)
    exact ⟨b, off, rfl, hb, hat k hk⟩)
  clear hC
  have hwl : wrap64 (l.length : Int) = l.length := wrap64_in _ (by omega) (by omega)
  go_enter Try.func4, Try.ntmps4
  go_wp2
  go_loopw [3, 4, 5] (fun s v i wr => ∃ k : Nat, k ≤ l.length ∧ i = .int .i64 k ∧ s = .string (sT (terms (l.take k)) nought) ∧ v = .int .i64 (sV (terms (l.take k)) 0) ∧ Below w.heap.size w wr) (fun _ _ i _ => l.length - (RowKit.intOf i).toNat)
  case atStart => exact ⟨0, Nat.zero_le _, rfl, rfl, rfl, Below.refl _ _⟩
  case round =>
    obtain ⟨k, hk, rfl, rfl, rfl, hb⟩ := hrel
    by_cases hlt : k < l.length
    · obtain ⟨b, off, hA, hbw, hcell0⟩ := HC.out k hlt
      subst hA
      have hcell := ((bcell hb).1 b (off + k) hbw).trans hcell0
      have hbr : b < wr.heap.size := by have := hb.size; omega
      clear hcell0
      have hts := terms_take l k hlt
      have hsz := sT_size (terms (l.take k)) (term_lt _) nought
      have hsv := sV_bound (terms (l.take k)) (term_lt _) 0
      have htl : (terms (l.take k)).length = k := by simp [terms]; omega
      rw [htl] at hsz hsv
      rw [show nought.size = 1 from rfl] at hsz
      obtain ⟨x, hx⟩ : ∃ x, l[k] = x := ⟨_, rfl⟩
      rw [hx] at hcell hts
      clear hx
      obtain ⟨n, hn, hterm, hn', hn2, hd6⟩ := term_facts x
      rw [hterm] at hts
      clear hterm
      have HD := Lib.hid (fun W => digits_calls n W (Nat.lt_trans hn (by decide)))
      obtain ⟨S, hS⟩ : ∃ S, sT (terms (l.take k)) nought = S := ⟨_, rfl⟩
      obtain ⟨X, hX⟩ : ∃ X, sV (terms (l.take k)) 0 = X := ⟨_, rfl⟩
      rw [hS] at hsz
      rw [hX] at hsv
      have hS1 : Hid (sT (terms (l.take (k + 1))) nought = S ++ (⟨#[if x.tmod 2 == 0 then 43 else 45]⟩ : ByteArray) ++ digs n) := Lib.hid (by rw [hts, sT_snoc, hS])
      have hX1 : Hid (sV (terms (l.take (k + 1))) 0 = if x.tmod 2 == 0 then X + n else X - n) := Lib.hid (by rw [hts, sV_append, hX]; rfl)
      rw [hS, hX]
      clear hts hS hX HC
      obtain ⟨hXn, hXm⟩ := sum_wrap X n k (by omega) hn hsv
      obtain ⟨D, hD⟩ : ∃ D, digs n = D := ⟨_, rfl⟩
      rw [hD] at HD hd6 hS1
      clear hD
      by_cases hp : x.tmod 2 = 0
      · have hp' : (x.tmod 2 == 0) = true := by simp [hp]
        rw [hp'] at hS1 hX1
        have hpu : ∀ _ : Unit, x.tmod 2 = 0 := fun _ => hp
        clear hp
        go_wp2_with (go_at_call 7; simp only [hn' (), hn2, hXn, hXm]; refine (HD.out _).mono ?_; rintro e w1 ⟨rfl, hb1⟩)
        go_roundw
        case rel => exact ⟨k + 1, by omega, by go_num, by rw [hS1.out]; rfl, by rw [hX1.out]; rfl, hb.trans (hb1.mono hb.size)⟩
        case measure => simp [RowKit.intOf]; omega
      · have hp' : (x.tmod 2 == 0) = false := by simp [hp]
        rw [hp'] at hS1 hX1
        have hpu : ∀ _ : Unit, ¬ x.tmod 2 = 0 := fun _ => hp
        clear hp
        go_wp2_with (go_at_call 7; simp only [hn' (), hn2, hXn, hXm]; refine (HD.out _).mono ?_; rintro e w1 ⟨rfl, hb1⟩)
        go_roundw
        case rel => exact ⟨k + 1, by omega, by go_num, by rw [hS1.out]; rfl, by rw [hX1.out]; rfl, hb.trans (hb1.mono hb.size)⟩
        case measure => simp [RowKit.intOf]; omega
    · obtain rfl : k = l.length := by omega
      rw [List.take_length, HS0.out, HX0.out]
      have hms : moreS.size = 5 := rfl
      go_wp2_with (first
        | (go_at_call 8; refine (HE.out _).mono ?_; rintro e w1 ⟨rfl, b1⟩)
        | (go_at_call 10; refine (HP.out _).mono ?_; rintro e w2 ⟨rfl, b2⟩)
        | (go_at_call 9; refine (HS1.out _).mono ?_; rintro e w3 ⟨rfl, b3⟩))
      go_ret
      have q1 := hb.trans (b1.mono hb.size)
      have q2 := q1.trans (b2.mono q1.size)
      exact ⟨rfl, q2.trans (b3.mono q2.size)⟩
end Go.Proofs.Ytkomofphgnekoaa

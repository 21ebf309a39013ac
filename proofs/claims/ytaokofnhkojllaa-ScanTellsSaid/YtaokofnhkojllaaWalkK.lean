/- The laws of layer 10: the fixed example; ScanPlain. -/
import Derived.Test.YtaokofnhkojllaaWalkJ
set_option linter.unusedVariables false
set_option linter.unusedSimpArgs false
namespace Go.Proofs.Ytaokofnhkojllaa
open Go.Shelf Go.RowKit Go.Lib Go.Aids Go.MapLit Go.Proofs.YtaokofnhkojllaaW.PrintWords

def saneL : List Tok := [⟨0, ⟨#[97]⟩, 0⟩, ⟨10, ⟨#[73]⟩, 0⟩, ⟨0, ⟨#[98]⟩, 0⟩, ⟨10, ⟨#[80]⟩, 0⟩]
theorem sane_line : lineL ⟨#[97, 92, 102, 73, 98, 92, 102, 80]⟩ = (saneL, 0) := by kernel_rfl
theorem sane_calls (w : World) : Calls Try.prog 7 #[] w fun e w' => e = .returned (.bool true) ∧ Below w.heap.size w w' := by
  have hC := fun W => Line_calls ⟨#[97, 92, 102, 73, 98, 92, 102, 80]⟩ W
  simp only [sane_line] at hC
  have HC := Lib.hid hC
  clear hC
  go_enter Try.func7, Try.ntmps7
  go_wp2_with fail
  refine (HC.out _).mono ?_
  rintro e w1 ⟨v, rfl, hown, hb⟩
  have hown : w1.ownsRow w.heap.size 28 3 v 4 (cellsOf saneL) := hown
  obtain ⟨g, cap, rfl, hgb, hgl⟩ := hown.form (by decide)
  have k0 : w1.cell? ⟨g, 3, none⟩ = some (.int .i64 10) := by rw [hown.cellAt _ (by decide)]; rfl
  have k1 : w1.cell? ⟨g, 4, none⟩ = some (.string ⟨#[73]⟩) := by rw [hown.cellAt _ (by decide)]; rfl
  have k2 : w1.cell? ⟨g, 10, none⟩ = some (.string ⟨#[80]⟩) := by rw [hown.cellAt _ (by decide)]; rfl
  clear hown
  go_wp2
  go_ret
  exact ⟨rfl, hb⟩

def plain (c : Nat) : Prop := c = 32 ∨ (97 ≤ c ∧ c ≤ 122) ∨ (65 ≤ c ∧ c ≤ 90) ∨ (48 ≤ c ∧ c ≤ 57)
instance (c : Nat) : Decidable (plain c) := by unfold plain; infer_instance
def plainTok (c : Nat) : Tok := if c = 32 then ⟨1, ⟨#[]⟩, 0⟩ else ⟨0, oneS c, 0⟩
def plainL (s : ByteArray) (n : Nat) : List Tok := (List.range n).map fun k => plainTok (pk s k)
theorem plainL_succ (s : ByteArray) (n : Nat) : plainL s (n + 1) = plainL s n ++ [plainTok (pk s n)] := by
  unfold plainL; rw [List.range_succ, List.map_append]; rfl
theorem step_plain (s : ByteArray) (a : Nat) (h : plain (pk s a)) : stepM s a = .go [plainTok (pk s a)] (a + 1) := by
  unfold stepM plainTok
  simp only
  unfold plain at h
  rw [if_neg (by omega)]
  by_cases h32 : pk s a = 32
  · rw [if_pos h32, if_pos h32]
  · rw [if_neg h32, if_neg (by omega), if_neg h32, if_pos (by unfold seenB; rw [decide_eq_true_eq]; omega)]
theorem line_plain (s : ByteArray) (h : ∀ k, k < s.size → plain (pk s k)) : ∀ f a, a ≤ s.size → s.size ≤ a + f → lineF s f (plainL s a) a = some (plainL s s.size)
  | 0, a, h1, h2 => by
    obtain rfl : a = s.size := by omega
    rfl
  | f + 1, a, h1, h2 => by
    rw [lineF]
    by_cases hlt : a < s.size
    · rw [if_pos hlt, step_plain s a (h a hlt)]
      simp only
      rw [← plainL_succ]
      exact line_plain s h f (a + 1) (by omega) (by omega)
    · rw [if_neg hlt]
      obtain rfl : a = s.size := by omega
      rfl
theorem lineL_plain (s : ByteArray) (h : ∀ k, k < s.size → plain (pk s k)) (hs : ¬ 2000 < s.size) : lineL s = (plainL s s.size, 0) := by
  have hlf : hasLF s = false := by
    unfold hasLF
    rw [decide_eq_false_iff_not]
    intro hf
    have h1 := findB_at s 0 10 hf (Nat.zero_le _)
    have h2 := h _ hf
    rw [h1] at h2
    exact absurd h2 (by decide)
  have hst : startM s = 0 := by
    unfold startM
    rw [if_neg]
    rintro ⟨h1, -⟩
    have := h 0 (pk_lt (by omega))
    rw [h1] at this
    exact absurd this (by decide)
  unfold lineL lineM
  rw [if_neg (by rintro (h' | h'); exact hs h'; rw [hlf] at h'; cases h'), hst]
  have := line_plain s h s.size 0 (Nat.zero_le _) (by omega)
  rw [show plainL s 0 = [] from rfl] at this
  rw [this]
/-- Where a row of tokens lies, and what its cells are. -/
theorem own_toks {w : World} {base n : Nat} {A : Option Addr} {l : List Tok} (h : w.ownsRow base 28 3 (.slice A l.length n) l.length (cellsOf l)) (k : Nat) (hk : k < l.length) :
    ∃ g, A = some ⟨g, 0, none⟩ ∧ g < w.heap.size ∧ w.cell? ⟨g, k * 3, none⟩ = some (.int .i64 l[k].kind) ∧ w.cell? ⟨g, k * 3 + 1, none⟩ = some (.string l[k].text) ∧ w.cell? ⟨g, k * 3 + 2, none⟩ = some (.int .i64 l[k].n) := by
  obtain ⟨g, cap, e, hgb, hgl⟩ := h.form (by omega)
  injection e with e1 e2 e3
  subst e1
  have hl := cellsOf_len l
  obtain ⟨c1, c2, c3⟩ := cellsOf_at l k hk
  rw [← e3] at *
  exact ⟨g, rfl, hgl, by rw [h.cellAt _ (by omega)]; exact c1, by rw [h.cellAt _ (by omega)]; exact c2, by rw [h.cellAt _ (by omega)]; exact c3⟩
theorem plainL_len (s : ByteArray) (n : Nat) : (plainL s n).length = n := by simp [plainL]
theorem plainL_at (s : ByteArray) (n k : Nat) (h : k < (plainL s n).length) : (plainL s n)[k] = plainTok (pk s k) := by simp [plainL]
set_option maxRecDepth 100000 in
set_option maxHeartbeats 4000000 in
theorem plain_calls (s : ByteArray) (w : World) : Calls Try.prog 3 #[.string s] w fun e w' => e = .returned (.bool true) ∧ Below w.heap.size w w' := by
  have HS := Lib.hid (fun W => sane_calls W)
  by_cases hbig : 2000 < s.size
  · go_enter Try.func3, Try.ntmps3
    go_wp2_with (go_at_call 7; refine (HS.out _).mono ?_; rintro e w1 ⟨rfl, hb⟩)
    go_ret
    exact ⟨rfl, hb⟩
  have HL := Lib.hid (fun (h : ∀ k, k < s.size → plain (pk s k)) W => show Calls Try.prog 8 #[.string s] W (LinePost W (plainL s s.size) 0) from by have := Line_calls s W; rw [lineL_plain s h hbig] at this; exact this)
  have hsz : s.size ≤ 2000 := by omega
  go_enter Try.func3, Try.ntmps3
  go_wp2
  go_loop [3] (fun i => ∃ k : Nat, k ≤ s.size ∧ i = .int .i64 k ∧ Hid (∀ j, j < k → plain (pk s j))) (fun i => s.size - (RowKit.intOf i).toNat)
  case atStart => exact ⟨0, Nat.zero_le _, rfl, Lib.hid (fun j hj => absurd hj (Nat.not_lt_zero _))⟩
  case round =>
    obtain ⟨k, hk, rfl, H⟩ := hrel
    by_cases hlt : k < s.size
    · have hi : (k : Int) < s.size := by omega
      have H2 : Hid (plain (pk s k) → ∀ j, j < k + 1 → plain (pk s j)) := Lib.hid fun hp j hj => by
        by_cases e : j = k
        · subst e; exact hp
        · exact H.out j (by omega)
      have hx := pk_get s k hlt
      have h256 := pk_256 s k
      rw [hx] at h256
      by_cases q0 : s[k].toNat = 32
      · have HP := Lib.hid (H2.out (by rw [hx]; unfold plain; omega))
        have f32 : ((s[k].toNat : Int) == 32) = true := by rw [beq_iff_eq]; omega
        clear q0 hx h256 H2
        go_wp2
        go_round
        case rel => exact ⟨k + 1, by omega, by go_num, HP⟩
        case measure => simp [RowKit.intOf]; omega
      by_cases q1 : 97 ≤ s[k].toNat ∧ s[k].toNat ≤ 122
      · have HP := Lib.hid (H2.out (by rw [hx]; unfold plain; omega))
        have f32 : ((s[k].toNat : Int) == 32) = false := by rw [beq_eq_false_iff_ne]; omega
        have ge97 : decide (97 ≤ (s[k].toNat : Int)) = true := decide_eq_true (by omega)
        have le122 : decide ((s[k].toNat : Int) ≤ 122) = true := decide_eq_true (by omega)
        clear q0 q1 hx h256 H2
        go_wp2
        go_round
        case rel => exact ⟨k + 1, by omega, by go_num, HP⟩
        case measure => simp [RowKit.intOf]; omega
      by_cases q2 : 65 ≤ s[k].toNat ∧ s[k].toNat ≤ 90
      · have HP := Lib.hid (H2.out (by rw [hx]; unfold plain; omega))
        have f32 : ((s[k].toNat : Int) == 32) = false := by rw [beq_eq_false_iff_ne]; omega
        have ge97 : decide (97 ≤ (s[k].toNat : Int)) = false := decide_eq_false (by omega)
        have ge65 : decide (65 ≤ (s[k].toNat : Int)) = true := decide_eq_true (by omega)
        have le90 : decide ((s[k].toNat : Int) ≤ 90) = true := decide_eq_true (by omega)
        clear q0 q1 q2 hx h256 H2
        go_wp2
        go_round
        case rel => exact ⟨k + 1, by omega, by go_num, HP⟩
        case measure => simp [RowKit.intOf]; omega
      by_cases q3 : 48 ≤ s[k].toNat ∧ s[k].toNat ≤ 57
      · have HP := Lib.hid (H2.out (by rw [hx]; unfold plain; omega))
        have f32 : ((s[k].toNat : Int) == 32) = false := by rw [beq_eq_false_iff_ne]; omega
        have ge97 : decide (97 ≤ (s[k].toNat : Int)) = false := decide_eq_false (by omega)
        have ge65 : decide (65 ≤ (s[k].toNat : Int)) = false := decide_eq_false (by omega)
        have ge48 : decide (48 ≤ (s[k].toNat : Int)) = true := decide_eq_true (by omega)
        have le57 : decide ((s[k].toNat : Int) ≤ 57) = true := decide_eq_true (by omega)
        clear q0 q1 q2 q3 hx h256 H2
        go_wp2
        go_round
        case rel => exact ⟨k + 1, by omega, by go_num, HP⟩
        case measure => simp [RowKit.intOf]; omega
      by_cases q4 : s[k].toNat < 48
      · skip
        have f32 : ((s[k].toNat : Int) == 32) = false := by rw [beq_eq_false_iff_ne]; omega
        have ge97 : decide (97 ≤ (s[k].toNat : Int)) = false := decide_eq_false (by omega)
        have ge65 : decide (65 ≤ (s[k].toNat : Int)) = false := decide_eq_false (by omega)
        have ge48 : decide (48 ≤ (s[k].toNat : Int)) = false := decide_eq_false (by omega)
        clear q0 q1 q2 q3 q4 hx h256 H2
        go_wp2_with (go_at_call 7; refine (HS.out _).mono ?_; rintro e w1 ⟨rfl, hb⟩)
        go_ret
        exact ⟨rfl, hb⟩
      by_cases q5 : s[k].toNat < 65
      · skip
        have f32 : ((s[k].toNat : Int) == 32) = false := by rw [beq_eq_false_iff_ne]; omega
        have ge97 : decide (97 ≤ (s[k].toNat : Int)) = false := decide_eq_false (by omega)
        have ge65 : decide (65 ≤ (s[k].toNat : Int)) = false := decide_eq_false (by omega)
        have ge48 : decide (48 ≤ (s[k].toNat : Int)) = true := decide_eq_true (by omega)
        have le57 : decide ((s[k].toNat : Int) ≤ 57) = false := decide_eq_false (by omega)
        clear q0 q1 q2 q3 q4 q5 hx h256 H2
        go_wp2_with (go_at_call 7; refine (HS.out _).mono ?_; rintro e w1 ⟨rfl, hb⟩)
        go_ret
        exact ⟨rfl, hb⟩
      by_cases q6 : s[k].toNat < 97
      · skip
        have f32 : ((s[k].toNat : Int) == 32) = false := by rw [beq_eq_false_iff_ne]; omega
        have ge97 : decide (97 ≤ (s[k].toNat : Int)) = false := decide_eq_false (by omega)
        have ge65 : decide (65 ≤ (s[k].toNat : Int)) = true := decide_eq_true (by omega)
        have le90 : decide ((s[k].toNat : Int) ≤ 90) = false := decide_eq_false (by omega)
        have ge48 : decide (48 ≤ (s[k].toNat : Int)) = true := decide_eq_true (by omega)
        have le57 : decide ((s[k].toNat : Int) ≤ 57) = false := decide_eq_false (by omega)
        clear q0 q1 q2 q3 q4 q5 q6 hx h256 H2
        go_wp2_with (go_at_call 7; refine (HS.out _).mono ?_; rintro e w1 ⟨rfl, hb⟩)
        go_ret
        exact ⟨rfl, hb⟩
      by_cases q7 : True
      · skip
        have f32 : ((s[k].toNat : Int) == 32) = false := by rw [beq_eq_false_iff_ne]; omega
        have ge97 : decide (97 ≤ (s[k].toNat : Int)) = true := decide_eq_true (by omega)
        have le122 : decide ((s[k].toNat : Int) ≤ 122) = false := decide_eq_false (by omega)
        have ge65 : decide (65 ≤ (s[k].toNat : Int)) = true := decide_eq_true (by omega)
        have le90 : decide ((s[k].toNat : Int) ≤ 90) = false := decide_eq_false (by omega)
        have ge48 : decide (48 ≤ (s[k].toNat : Int)) = true := decide_eq_true (by omega)
        have le57 : decide ((s[k].toNat : Int) ≤ 57) = false := decide_eq_false (by omega)
        clear q0 q1 q2 q3 q4 q5 q6 q7 hx h256 H2
        go_wp2_with (go_at_call 7; refine (HS.out _).mono ?_; rintro e w1 ⟨rfl, hb⟩)
        go_ret
        exact ⟨rfl, hb⟩
      exact absurd trivial q7
    · obtain rfl : k = s.size := by omega
      have HC := Lib.hid (fun W => HL.out H.out W)
      clear HL
      go_wp2_with fail
      refine (HC.out _).mono ?_
      rintro e w1 ⟨v, rfl, hown, hb⟩
      have HT : Hid (∀ k (hk : k < (plainL s s.size).length), v = v) := Lib.hid (fun _ _ => rfl)
      obtain ⟨A, n, rfl⟩ := own_slice hown
      have HO := Lib.hid (fun k hk => own_toks hown k hk)
      have HN := Lib.hid (fun k hk => plainL_at s s.size k hk)
      have HP := Lib.hid (plainL_len s s.size)
      rw [plainL_len]
      clear hown HT
      go_wp2
      go_loopw [7] (fun i wr => ∃ k : Nat, k ≤ s.size ∧ i = .int .i64 k ∧ Below w1.heap.size w1 wr) (fun i _ => s.size - (RowKit.intOf i).toNat)
      case atStart => exact ⟨0, Nat.zero_le _, rfl, Below.refl _ _⟩
      case round =>
        obtain ⟨k, hk, rfl, hbr⟩ := hrel
        by_cases hlt : k < s.size
        · obtain ⟨g, rfl, hgl, c0, c1, c2⟩ := HO.out k (by rw [HP.out]; exact hlt)
          rw [HN.out k _] at c0 c1 c2
          have c0 := ((bcell hbr).1 g (k * 3) hgl).trans c0
          have c1 := ((bcell hbr).1 g (k * 3 + 1) hgl).trans c1
          have c2 := ((bcell hbr).1 g (k * 3 + 2) hgl).trans c2
          have hgl : g < wr.heap.size := by have := hbr.size; omega
          have hi : (k : Int) < s.size := by omega
          have hx := pk_get s k hlt
          by_cases h32 : pk s k = 32
          · have ht : plainTok (pk s k) = ⟨1, ⟨#[]⟩, 0⟩ := by unfold plainTok; rw [if_pos h32]
            rw [ht] at c0 c1 c2
            rw [hx] at h32
            have f1 : ((s[k].toNat : Int) == 32) = true := by rw [beq_iff_eq]; omega
            have f2 : ((s[k].toNat : Int) != 32) = false := by rw [bne, f1]; rfl
            clear h32 hx ht
            go_wp2
            go_quiet (fail)
            go_wp2
            go_roundw
            case rel => exact ⟨k + 1, by omega, by go_num, belowN hbr _⟩
            case measure => simp [RowKit.intOf]; omega
          · have ht : plainTok (pk s k) = ⟨0, oneS (pk s k), 0⟩ := by unfold plainTok; rw [if_neg h32]
            rw [ht] at c0 c1 c2
            have hcut : s.extract k (k + 1) = oneS (pk s k) := ext_one s k hlt
            rw [← hcut] at c1
            rw [hx] at h32
            have f1 : ((s[k].toNat : Int) == 32) = false := by rw [beq_eq_false_iff_ne]; omega
            have f2 : ((s[k].toNat : Int) != 32) = true := by rw [bne, f1]; rfl
            clear h32 hx ht hcut
            go_wp2
            go_quiet (fail)
            go_wp2
            go_roundw
            case rel => exact ⟨k + 1, by omega, by go_num, belowN hbr _⟩
            case measure => simp [RowKit.intOf]; omega
        · obtain rfl : k = s.size := by omega
          go_wp2_with (go_at_call 7; refine (HS.out _).mono ?_; rintro e w3 ⟨rfl, hb3⟩)
          go_ret
          exact ⟨rfl, (hb.trans (hbr.mono hb.size)).trans (hb3.mono (by have := hb.size; have := hbr.size; omega))⟩
end Go.Proofs.Ytaokofnhkojllaa

/- Walks: slices.IndexFunc at tokens; scan.Lead. -/
import Derived.Test.YtaokofnhkojllaaWalkL
set_option linter.unusedVariables false
set_option linter.unusedSimpArgs false
namespace Go.Proofs.Ytaokofnhkojllaa
open Go.Shelf Go.RowKit Go.Lib Go.Aids Go.MapLit Go.Proofs.YtaokofnhkojllaaW.PrintWords

theorem lead1_calls (t : Tok) (w : World) : Calls Try.prog 23 #[.agg #[.int .i64 t.kind, .string t.text, .int .i64 t.n]] w fun e w' => e = .returned (.bool (t.kind != 1)) ∧ Below w.heap.size w w' := by
  go_enter Try.func23, Try.ntmps23
  go_wp2
  go_ret
  exact ⟨rfl, (Below.refl _ w).alloc (Nat.le_refl _) _⟩
theorem leadF_step (l : List Tok) (f a : Nat) (h : a < l.length) : leadF l (f + 1) a = if (l.getD a tok0).kind = 1 then leadF l f (a + 1) else a := by
  rw [leadF, List.getElem?_eq_getElem h]
  simp [List.getD, h]
set_option maxRecDepth 100000 in
set_option maxHeartbeats 2000000 in
theorem index_calls (A : Option Addr) (cap : Nat) (zs : List Tok) (hz : zs.length ≤ 1000000) (w : World) (hI : Toks w.heap.size w A zs) (R : Int) (hR : (if leadM zs < zs.length then (leadM zs : Int) else -1) = R) :
    Calls Try.prog 22 #[.slice A zs.length cap, .func (.func 23) #[] #[]] w fun e w' => e = .returned (.int .i64 R) ∧ Below w.heap.size w w' := by
  unfold leadM at hR
  have HR := Lib.hid hR
  have HI := Lib.hid hI
  clear hR hI
  go_enter Try.func22, Try.ntmps22
  go_wp2
  go_loopw [8] (fun i wr => ∃ k : Nat, k ≤ zs.length ∧ i = .int .i64 k ∧ Below w.heap.size w wr ∧ Hid (leadF zs (zs.length - k) k = leadF zs zs.length 0)) (fun i _ => zs.length - (RowKit.intOf i).toNat)
  case atStart => exact ⟨0, Nat.zero_le _, rfl, Below.refl _ _, Lib.hid rfl⟩
  case round =>
    obtain ⟨k, hk, rfl, hb, H⟩ := hrel
    by_cases hlt : k < zs.length
    · obtain ⟨b, off, rfl, hbl, c0, c1, c2⟩ := HI.out k hlt
      have c0 := ((bcell hb).1 b (off + k * 3) hbl).trans c0
      have c1 := ((bcell hb).1 b (off + k * 3 + 1) hbl).trans c1
      have c2 := ((bcell hb).1 b (off + k * 3 + 2) hbl).trans c2
      have hbr : b < wr.heap.size := by have := hb.size; omega
      have h := H.out
      rw [show zs.length - k = (zs.length - (k + 1)) + 1 by omega, leadF_step zs _ k hlt] at h
      obtain ⟨t, ht⟩ : ∃ t, zs.getD k tok0 = t := ⟨_, rfl⟩
      rw [ht] at c0 c1 c2 h
      clear ht H
      by_cases h1 : t.kind = 1
      · rw [if_pos h1] at h
        have HH := Lib.hid h
        have HC := Lib.hid (fun W => lead1_calls t W)
        rw [show (t.kind != 1) = false by rw [h1]; rfl] at HC
        clear h h1
        go_wp2_with (go_at_call 23; refine (HC.out _).mono ?_; rintro e w1 ⟨rfl, hb1⟩)
        go_roundw
        case rel => exact ⟨k + 1, by omega, by go_num, hb.trans (hb1.mono hb.size), HH⟩
        case measure => simp [RowKit.intOf]; omega
      · rw [if_neg h1] at h
        have hr := HR.out
        rw [← h, if_pos hlt] at hr
        subst hr
        have HC := Lib.hid (fun W => lead1_calls t W)
        rw [show (t.kind != 1) = true by rw [bne_iff_ne]; exact h1] at HC
        clear h h1
        go_wp2_with (go_at_call 23; refine (HC.out _).mono ?_; rintro e w1 ⟨rfl, hb1⟩)
        go_ret
        exact ⟨rfl, hb.trans (hb1.mono hb.size)⟩
    · obtain rfl : k = zs.length := by omega
      have h := H.out
      rw [Nat.sub_self, leadF] at h
      have hr := HR.out
      rw [← h, if_neg (Nat.lt_irrefl _)] at hr
      subst hr
      clear h
      go_wp2
      go_ret
      exact ⟨rfl, hb⟩
set_option maxHeartbeats 1000000 in
theorem lead_calls (A : Option Addr) (cap : Nat) (zs : List Tok) (hz : zs.length ≤ 1000000) (w : World) (hI : Toks w.heap.size w A zs) :
    Calls Try.prog 14 #[.slice A zs.length cap] w fun e w' => e = .returned (.int .i64 (leadM zs : Nat)) ∧ Below w.heap.size w w' := by
  have hb := leadF_bound zs zs.length 0
  have HC := Lib.hid (index_calls A cap zs hz w hI _ rfl)
  by_cases h : leadM zs < zs.length
  · rw [if_pos h] at HC
    have d : decide ((leadM zs : Int) < 0) = false := decide_eq_false (by omega)
    obtain ⟨L, hL⟩ : ∃ L, leadM zs = L := ⟨_, rfl⟩
    rw [hL] at HC d ⊢
    clear hL hI h hb
    go_enter Try.func14, Try.ntmps14
    go_wp2_with (go_at_call 22; refine HC.out.mono ?_; rintro e w1 ⟨rfl, hb1⟩)
    go_ret
    exact ⟨rfl, hb1⟩
  · rw [if_neg h] at HC
    have he : leadM zs = zs.length := by
      have : leadM zs = leadF zs zs.length 0 := rfl
      omega
    rw [he]
    clear hI h hb he
    go_enter Try.func14, Try.ntmps14
    go_wp2_with (go_at_call 22; refine HC.out.mono ?_; rintro e w1 ⟨rfl, hb1⟩)
    go_ret
    exact ⟨rfl, hb1⟩
end Go.Proofs.Ytaokofnhkojllaa

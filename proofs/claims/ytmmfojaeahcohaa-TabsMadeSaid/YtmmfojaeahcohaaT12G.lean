/- Walks of layer 12: slices.IndexFunc and ContainsFunc over cells; the functions that tabs.Set makes. -/
import Derived.Test.YtmmfojaeahcohaaT12F
set_option linter.unusedVariables false
set_option linter.unusedSimpArgs false
namespace Go.Proofs.Ytmmfojaeahcohaa
open Go.Shelf Go.RowKit Go.Lib Go.Aids Go.Opens Go.Proofs.YtmmfojaeahcohaaW.PrintWords Go.Proofs.Ytmmfojaeahcohaa.PTabsMade

/-- What a function tells of a cell. -/
def TellsC (w : World) (g : Nat) (lb : Array Value) (p : List S28 → Bool) : Prop := ∀ (W : World), Below w.heap.size w W → ∀ (x : List S28) (A : Option Addr) (c : Nat), x.length ≤ c → (∀ y ∈ x, y.f6.length ≤ 9223372036854775807) → Kd.C k28 W A x.length x →
  Calls Try.prog g (#[.slice A x.length c] ++ lb) W fun e w' => e = .returned (.bool (p x)) ∧ Below W.heap.size W w'
set_option maxHeartbeats 2000000 in
theorem icell_calls (g : Nat) (lb : Array Value) (eg : ∀ args w, (callFunc g args).run Try.prog w = .ok (.enter g args) w) (p : List S28 → Bool) (A : Option Addr) (c : Nat) (L : List (List S28)) (hL : L.length ≤ 9223372036854775807) (hc : L.length ≤ c) (w : World) (hC : Kd.C (Kd.slice 28 k28) w A L.length L) (hn : ∀ y ∈ L, ∀ x ∈ y, x.f6.length ≤ 9223372036854775807) (hp : TellsC w g lb p) :
    Calls Try.prog 58 #[.slice A L.length c, .func (.func g) #[] lb] w fun e w' => ∃ r : Int, e = .returned (.int .i64 r) ∧ decide (0 ≤ r) = L.any p ∧ Below w.heap.size w w' := by
  have HC := Lib.hid hC
  have HP := Lib.hid hp
  have HN := Lib.hid hn
  clear hC hp hn
  go_enter Try.func58, Try.ntmps58
  go_wp2_with fail
  go_loopg [8] L.length (fun gk s8 wx => ∃ i : Nat, i + gk = L.length ∧ s8 = .int .i64 i ∧ Hid (L.any p = (L.drop i).any p) ∧ Hid (Below w.heap.size w wx))
  case atStart => exact ⟨0, by omega, rfl, Lib.hid rfl, Lib.hid (Below.refl _ _)⟩
  case round =>
    obtain ⟨i, hi, rfl, HD, HB⟩ := hrel
    by_cases hlt : i < L.length
    · have i0 : (i : Int) < L.length := by omega
      obtain ⟨b, off, rfl, hbl, hcell⟩ := cells_at (Kd.C_below HC.out HB.out) (by omega)
      obtain ⟨A6, c6, c0, l6, g6⟩ := hcell i hlt
      have hd : L.drop i = L[i] :: L.drop (i + 1) := List.drop_eq_getElem_cons hlt
      have hany : (L.drop i).any p = (p L[i] || (L.drop (i + 1)).any p) := by rw [hd, List.any_cons]
      have HX := Lib.hid (HP.out wr HB.out L[i] A6 c6 l6 (HN.out _ (List.getElem_mem hlt)) g6)
      have HD2 := Lib.hid (HD.out.trans hany)
      obtain ⟨x, hx⟩ : ∃ x, L[i] = x := ⟨_, rfl⟩
      rw [hx] at HX HD2 c0
      obtain ⟨q, hq⟩ : ∃ q, p x = q := ⟨_, rfl⟩
      rw [hq] at HX HD2
      clear hcell hd hany hx hq g6 l6
      have hent : ∀ args w, (callFunc g args).run Try.prog w = .ok (.enter g args) w := eg
      obtain ⟨g', rfl⟩ : ∃ g', gk = g' + 1 := ⟨gk - 1, by omega⟩
      cases q
      · go_wp2_with fail
        refine HX.out.mono ?_
        rintro e w2 ⟨rfl, hb⟩
        have HB2 := Lib.hid (HB.out.trans (hb.mono HB.out.size))
        clear hb
        go_wp2_with fail
        go_roundg g'
        case measure => omega
        case rel => exact ⟨i + 1, by omega, by go_num, Lib.hid (by rw [HD2.out, Bool.false_or]), HB2⟩
      · go_wp2_with fail
        refine HX.out.mono ?_
        rintro e w2 ⟨rfl, hb⟩
        have HB2 := Lib.hid (HB.out.trans (hb.mono HB.out.size))
        clear hb
        go_wp2_with fail
        go_ret
        exact ⟨i, rfl, by rw [HD2.out, Bool.true_or, decide_eq_true (by omega)], HB2.out⟩
    · have i0 : ¬ ((i : Int) < L.length) := by omega
      have hd : L.drop i = [] := List.drop_eq_nil_of_le (by omega)
      have HD2 := Lib.hid (HD.out.trans (by rw [hd]; rfl : (L.drop i).any p = false))
      clear hd
      go_wp2_with fail
      go_ret
      exact ⟨-1, rfl, by rw [HD2.out]; rfl, HB.out⟩
theorem ccell_calls (g : Nat) (lb : Array Value) (eg : ∀ args w, (callFunc g args).run Try.prog w = .ok (.enter g args) w) (p : List S28 → Bool) (A : Option Addr) (c : Nat) (L : List (List S28)) (hL : L.length ≤ 9223372036854775807) (hc : L.length ≤ c) (w : World) (hC : Kd.C (Kd.slice 28 k28) w A L.length L) (hn : ∀ y ∈ L, ∀ x ∈ y, x.f6.length ≤ 9223372036854775807) (hp : TellsC w g lb p) :
    Calls Try.prog 26 #[.slice A L.length c, .func (.func g) #[] lb] w fun e w' => e = .returned (.bool (L.any p)) ∧ Below w.heap.size w w' := by
  have HI := Lib.hid (icell_calls g lb eg p A c L hL hc w hC hn hp)
  obtain ⟨q, hq⟩ : ∃ q, L.any p = q := ⟨_, rfl⟩
  rw [hq] at HI ⊢
  clear hC hp hn hq eg
  go_enter Try.func26, Try.ntmps26
  go_wp2_with fail
  refine HI.out.mono ?_
  rintro e w2 ⟨r, rfl, hr, hb⟩
  go_wp2_with fail
  go_ret
  exact ⟨rfl, hb⟩

/-- The variable that holds 'bad'. -/
def BadAt (w : World) (v : Nat) : Prop := w.cell? ⟨v, 0, none⟩ = some (.func (.func 23) #[] #[]) ∧ v < w.heap.size
theorem BadAt.below {w w1 : World} {v : Nat} (h : BadAt w v) (hb : Below w.heap.size w w1) : BadAt w1 v := ⟨(hb.cell (p := ⟨v, 0, none⟩) h.2).trans h.1, Nat.lt_of_lt_of_le h.2 hb.size⟩
theorem e23 : ∀ args w, (callFunc 23 args).run Try.prog w = .ok (.enter 23 args) w := enters_of Try.func23 (by kernel_rfl) rfl
theorem e27 : ∀ args w, (callFunc 27 args).run Try.prog w = .ok (.enter 27 args) w := enters_of Try.func27 (by kernel_rfl) rfl
theorem e29 : ∀ args w, (callFunc 29 args).run Try.prog w = .ok (.enter 29 args) w := enters_of Try.func29 (by kernel_rfl) rfl
theorem fn27_calls (v : Nat) (x : List S28) (A : Option Addr) (c : Nat) (hx : x.length ≤ c) (hn : ∀ y ∈ x, y.f6.length ≤ 9223372036854775807) (W : World) (hv : BadAt W v) (hC : Kd.C k28 W A x.length x) :
    Calls Try.prog 27 #[.slice A x.length c, .pointer (some ⟨v, 0, none⟩)] W fun e w' => e = .returned (.bool (x.any fun y => !validS y)) ∧ Below W.heap.size W w' := by
  have hl : x.length ≤ 9223372036854775807 := hC.2.1
  have HI := Lib.hid (cbox_calls 23 #[] e23 (fun y => !validS y) A c x hl hx W hC hn (bad_tells W))
  obtain ⟨q, hq⟩ : ∃ q, (x.any fun y => !validS y) = q := ⟨_, rfl⟩
  rw [hq] at HI ⊢
  have c0 := hv.1
  clear hC hn hq hv
  go_enter Try.func27, Try.ntmps27
  go_wp2_with fail
  refine HI.out.mono ?_
  rintro e w2 ⟨rfl, hb⟩
  go_wp2_with fail
  go_ret
  exact ⟨rfl, hb⟩
theorem fn27_tells (w : World) (v : Nat) (hv : BadAt w v) : TellsC w 27 #[.pointer (some ⟨v, 0, none⟩)] (fun x => x.any fun y => !validS y) := fun W hb x A c hx hn hC => fn27_calls v x A c hx hn W (hv.below hb) hC
def fillB (x : S28) : Bool := !validS x || (decide (x.f0 ≠ 0) && decide (x.f0 ≠ 5))
set_option maxRecDepth 100000 in
set_option maxHeartbeats 4000000 in
theorem fn29_calls (v : Nat) (x : S28) (A : Option Addr) (c : Nat) (hl : x.f6.length ≤ 9223372036854775807) (W : World) (hv : BadAt W v) (hC : kI.C W A x.f6.length x.f6) :
    Calls Try.prog 29 #[boxV x.f0 x.f1 x.f2 x.f3 x.f4 x.f5 A x.f6.length c, .pointer (some ⟨v, 0, none⟩)] W fun e w' => e = .returned (.bool (fillB x)) ∧ Below W.heap.size W w' := by
  obtain ⟨k, w0, f, s, nm, cl, l⟩ := x
  have HV := Lib.hid (fun W h => bad_calls k w0 f s nm cl A c l hl W h)
  have hv2 : fillB ⟨k, w0, f, s, nm, cl, l⟩ = (!validB k w0 f s nm cl l || (decide (k ≠ 0) && decide (k ≠ 5))) := rfl
  obtain ⟨R, hR⟩ : ∃ R, validB k w0 f s nm cl l = R := ⟨_, rfl⟩
  rw [hR] at HV hv2
  rw [hv2]
  have hb0 := (Below.refl _ W).alloc (Nat.le_refl _) (.cells #[.int .i64 k, .int .i64 w0, .int .i64 f, .int .i64 s, .string nm, .string cl, .slice A l.length c] 28)
  have HC := Lib.hid (Kd.C_below hC hb0)
  have HB0 := Lib.hid hb0
  have c0 := (hv.below hb0).1
  have c1 := hv.1
  have hv3 := hv.2
  clear hC hR hv2 hv hb0
  cases R
  all_goals
    by_cases k0 : k = 0
    all_goals by_cases k5 : k = 5
    all_goals try subst k0
    all_goals try subst k5
    all_goals
      first
        | (exfalso; omega)
        | (go_enter Try.func29, Try.ntmps29
           go_wp2_with fail
           refine (HV.out _ HC.out).mono ?_
           rintro e w2 ⟨rfl, hb⟩
           obtain ⟨hc2, hf2⟩ := bcell hb
           have hz2 : W.heap.size < w2.heap.size := (by have h := hb.size; simp at h; omega)
           have HB := Lib.hid (HB0.out.trans (hb.mono (by simp)))
           clear hb
           go_wp2_with fail
           go_ret
           exact ⟨by simp [*], HB.out⟩)
theorem fn29_tells (w : World) (v : Nat) (hv : BadAt w v) : Tells w 29 #[.pointer (some ⟨v, 0, none⟩)] fillB := fun W hb x A c hl hC => fn29_calls v x A c hl W (hv.below hb) hC
def markB (m : Int) : Bool := decide (m ≠ 0) && decide (m ≠ 1)
theorem mark_pred (w : World) : PredAt Try.prog 31 #[] (Value.int .i64) markB w := fun W r _ => by
  unfold FnGives markB
  by_cases h1 : r = 0 <;> by_cases h2 : r = 1
  all_goals
    go_enter Try.func31, Try.ntmps31
    go_wp2
    all_goals first | (exfalso; omega) | (go_ret; exact ⟨by first | (simp [h1, h2]; done) | (simp [h1, h2]; omega), 0, rfl⟩)
theorem marks_calls (A : Option Addr) (c : Nat) (l : List Int) (w : World) (h : kI.C w A l.length l) (hl : l.length ≤ 9223372036854775807) :
    Calls Try.prog 30 #[.slice A l.length c, .func (.func 31) #[] #[]] w fun e w' => e = .returned (.bool (l.any markB)) ∧ Below w.heap.size w w' := by
  rcases Nat.eq_zero_or_pos l.length with h0 | h0
  · have e : l = [] := List.eq_nil_of_length_eq_zero h0
    subst e
    refine (Try.slices_ContainsFunc_empty (α := Int) A c _ w).mono ?_
    rintro e w' ⟨rfl, rfl⟩
    exact ⟨rfl, Below.refl _ _⟩
  · obtain ⟨b, off, rfl, hb, hc⟩ := ints_at h h0
    refine (Try.slices_ContainsFunc (Value.int .i64) markB 31 #[] (enters_of Try.func31 (by kernel_rfl) rfl) b off l.length c l w (mark_pred w) (Nat.le_refl _) hl fun j hj => ?_).mono ?_
    · rw [hc j hj, getElem!_pos l j hj]
    · rintro e w' ⟨rfl, q, rfl⟩
      rw [List.take_of_length_le (Nat.le_refl _)]
      exact ⟨rfl, drewN_below w q⟩
end Go.Proofs.Ytmmfojaeahcohaa

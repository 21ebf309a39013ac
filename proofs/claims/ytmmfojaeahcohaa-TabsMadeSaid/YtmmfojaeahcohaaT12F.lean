/- Walks of layer 12: is any of the boxes none: slices.IndexFunc and ContainsFunc over boxes and over cells. -/
import Derived.Test.YtmmfojaeahcohaaT12E
import Derived.Test.YtmmfojaeahcohaaPTabsMadex0
set_option linter.unusedVariables false
set_option linter.unusedSimpArgs false
namespace Go.Proofs.Ytmmfojaeahcohaa
open Go.Shelf Go.RowKit Go.Lib Go.Aids Go.Opens Go.Proofs.YtmmfojaeahcohaaW.PrintWords Go.Proofs.Ytmmfojaeahcohaa.PTabsMade

def validS (x : S28) : Bool := validB x.f0 x.f1 x.f2 x.f3 x.f4 x.f5 x.f6
theorem boxes_at {w : World} {A : Option Addr} {l : List S28} (h : Kd.C k28 w A l.length l) (hn : 0 < l.length) : ∃ b off, A = some ⟨b, off, none⟩ ∧ b < w.heap.size ∧
    ∀ k (hk : k < l.length), ∃ A6 c6, w.cell? ⟨b, off + k * 7, none⟩ = some (.int .i64 l[k].f0) ∧ w.cell? ⟨b, off + k * 7 + 1, none⟩ = some (.int .i64 l[k].f1) ∧ w.cell? ⟨b, off + k * 7 + 2, none⟩ = some (.int .i64 l[k].f2) ∧ w.cell? ⟨b, off + k * 7 + 3, none⟩ = some (.int .i64 l[k].f3) ∧
      w.cell? ⟨b, off + k * 7 + 4, none⟩ = some (.string l[k].f4) ∧ w.cell? ⟨b, off + k * 7 + 5, none⟩ = some (.string l[k].f5) ∧ w.cell? ⟨b, off + k * 7 + 6, none⟩ = some (.slice A6 l[k].f6.length c6) ∧ l[k].f6.length ≤ c6 ∧ kI.C w A6 l[k].f6.length l[k].f6 := by
  obtain ⟨b, off, hA, hb, hc⟩ := C_at h (by show 0 < 7; omega) hn
  refine ⟨b, off, hA, hb, fun i hi => ?_⟩
  obtain ⟨c, _, hk, hcell⟩ := hc i hi
  obtain ⟨A6, c6, e, l6, g6⟩ := k28_open hk
  subst e
  exact ⟨A6, c6, hcell 0 _ rfl, hcell 1 _ rfl, hcell 2 _ rfl, hcell 3 _ rfl, hcell 4 _ rfl, hcell 5 _ rfl, hcell 6 _ rfl, l6, g6⟩
theorem cells_at {w : World} {A : Option Addr} {l : List (List S28)} (h : Kd.C (Kd.slice 28 k28) w A l.length l) (hn : 0 < l.length) : ∃ b off, A = some ⟨b, off, none⟩ ∧ b < w.heap.size ∧
    ∀ k (hk : k < l.length), ∃ A6 c6, w.cell? ⟨b, off + k, none⟩ = some (.slice A6 l[k].length c6) ∧ l[k].length ≤ c6 ∧ Kd.C k28 w A6 l[k].length l[k] := by
  obtain ⟨b, off, hA, hb, hc⟩ := C_at h (by show 0 < 1; omega) hn
  refine ⟨b, off, hA, hb, fun i hi => ?_⟩
  obtain ⟨c, _, hk, hcell⟩ := hc i hi
  obtain ⟨A6, c6, e, l6, g6⟩ := hk
  subst e
  have := hcell 0 _ rfl
  rw [show (Kd.slice 28 k28).sz = 1 from rfl, Nat.mul_one] at this
  exact ⟨A6, c6, this, l6, g6⟩
/-- What a function tells of a box. -/
def Tells (w : World) (g : Nat) (lb : Array Value) (p : S28 → Bool) : Prop := ∀ (W : World), Below w.heap.size w W → ∀ (x : S28) (A : Option Addr) (c : Nat), x.f6.length ≤ 9223372036854775807 → kI.C W A x.f6.length x.f6 →
  Calls Try.prog g (#[boxV x.f0 x.f1 x.f2 x.f3 x.f4 x.f5 A x.f6.length c] ++ lb) W fun e w' => e = .returned (.bool (p x)) ∧ Below W.heap.size W w'
theorem bad_calls (k w f s : Int) (nm cl : ByteArray) (A : Option Addr) (c : Nat) (l : List Int) (hl : l.length ≤ 9223372036854775807) (W1 : World) (hC : kI.C W1 A l.length l) :
    Calls Try.prog 23 #[boxV k w f s nm cl A l.length c] W1 fun e W' => e = .returned (.bool (!validB k w f s nm cl l)) ∧ Below W1.heap.size W1 W' := by
  have HV := Lib.hid (fun W h => gvalid_calls k w f s nm cl A c l hl W h)
  obtain ⟨R, hR⟩ : ∃ R, validB k w f s nm cl l = R := ⟨_, rfl⟩
  rw [hR] at HV ⊢
  have HC := Lib.hid (Kd.C_below hC ((Below.refl _ W1).alloc (Nat.le_refl _) (.cells #[.int .i64 k, .int .i64 w, .int .i64 f, .int .i64 s, .string nm, .string cl, .slice A l.length c] 28)))
  clear hC hR
  go_enter Try.func23, Try.ntmps23
  go_wp2_with fail
  refine (HV.out _ HC.out).mono ?_
  rintro e w2 ⟨rfl, hb⟩
  have HB := Lib.hid (((Below.refl _ W1).alloc (Nat.le_refl _) (.cells #[.int .i64 k, .int .i64 w, .int .i64 f, .int .i64 s, .string nm, .string cl, .slice A l.length c] 28)).trans (hb.mono (by simp)))
  clear hb
  go_wp2_with fail
  go_ret
  exact ⟨rfl, HB.out⟩
theorem bad_tells (w : World) : Tells w 23 #[] (fun x => !validS x) := fun W _ x A c hl hC => bad_calls x.f0 x.f1 x.f2 x.f3 x.f4 x.f5 A c x.f6 hl W hC
set_option maxHeartbeats 2000000 in
theorem ibox_calls (g : Nat) (lb : Array Value) (eg : ∀ args w, (callFunc g args).run Try.prog w = .ok (.enter g args) w) (p : S28 → Bool) (A : Option Addr) (c : Nat) (L : List S28) (hL : L.length ≤ 9223372036854775807) (hc : L.length ≤ c) (w : World) (hC : Kd.C k28 w A L.length L) (hn : ∀ x ∈ L, x.f6.length ≤ 9223372036854775807) (hp : Tells w g lb p) :
    Calls Try.prog 59 #[.slice A L.length c, .func (.func g) #[] lb] w fun e w' => ∃ r : Int, e = .returned (.int .i64 r) ∧ decide (0 ≤ r) = L.any p ∧ Below w.heap.size w w' := by
  have HC := Lib.hid hC
  have HP := Lib.hid hp
  have HN := Lib.hid hn
  clear hC hp hn
  go_enter Try.func59, Try.ntmps59
  go_wp2_with fail
  go_loopg [8] L.length (fun gk s8 wx => ∃ i : Nat, i + gk = L.length ∧ s8 = .int .i64 i ∧ Hid (L.any p = (L.drop i).any p) ∧ Hid (Below w.heap.size w wx))
  case atStart => exact ⟨0, by omega, rfl, Lib.hid rfl, Lib.hid (Below.refl _ _)⟩
  case round =>
    obtain ⟨i, hi, rfl, HD, HB⟩ := hrel
    by_cases hlt : i < L.length
    · have i0 : (i : Int) < L.length := by omega
      obtain ⟨b, off, rfl, hbl, hcell⟩ := boxes_at (Kd.C_below HC.out HB.out) (by omega)
      obtain ⟨A6, c6, c0, c1, c2, c3, c4, c5, c6c, l6, g6⟩ := hcell i hlt
      have hd : L.drop i = L[i] :: L.drop (i + 1) := List.drop_eq_getElem_cons hlt
      have hany : (L.drop i).any p = (p L[i] || (L.drop (i + 1)).any p) := by rw [hd, List.any_cons]
      have HX := Lib.hid (HP.out wr HB.out L[i] A6 c6 (HN.out _ (List.getElem_mem hlt)) g6)
      have HD2 := Lib.hid (HD.out.trans hany)
      obtain ⟨x, hx⟩ : ∃ x, L[i] = x := ⟨_, rfl⟩
      rw [hx] at HX HD2 c0 c1 c2 c3 c4 c5 c6c
      obtain ⟨q, hq⟩ : ∃ q, p x = q := ⟨_, rfl⟩
      rw [hq] at HX HD2
      clear hcell hd hany hx hq g6 l6
      have hent : ∀ args w, (callFunc g args).run Try.prog w = .ok (.enter g args) w := eg
      obtain ⟨g', rfl⟩ : ∃ g', gk = g' + 1 := ⟨gk - 1, by omega⟩
      cases q
      · go_wp2_with fail
        refine HX.out.mono ?_
        rintro e w2 ⟨rfl, hb⟩
        have HB2 := Lib.hid (HB.out.trans (hb.mono HB.out.size))
        clear hb
        go_wp2_with fail
        go_roundg g'
        case measure => omega
        case rel => exact ⟨i + 1, by omega, by go_num, Lib.hid (by rw [HD2.out, Bool.false_or]), HB2⟩
      · go_wp2_with fail
        refine HX.out.mono ?_
        rintro e w2 ⟨rfl, hb⟩
        have HB2 := Lib.hid (HB.out.trans (hb.mono HB.out.size))
        clear hb
        go_wp2_with fail
        go_ret
        exact ⟨i, rfl, by rw [HD2.out, Bool.true_or, decide_eq_true (by omega)], HB2.out⟩
    · have i0 : ¬ ((i : Int) < L.length) := by omega
      have hd : L.drop i = [] := List.drop_eq_nil_of_le (by omega)
      have HD2 := Lib.hid (HD.out.trans (by rw [hd]; rfl : (L.drop i).any p = false))
      clear hd
      go_wp2_with fail
      go_ret
      exact ⟨-1, rfl, by rw [HD2.out]; rfl, HB.out⟩
theorem cbox_calls (g : Nat) (lb : Array Value) (eg : ∀ args w, (callFunc g args).run Try.prog w = .ok (.enter g args) w) (p : S28 → Bool) (A : Option Addr) (c : Nat) (L : List S28) (hL : L.length ≤ 9223372036854775807) (hc : L.length ≤ c) (w : World) (hC : Kd.C k28 w A L.length L) (hn : ∀ x ∈ L, x.f6.length ≤ 9223372036854775807) (hp : Tells w g lb p) :
    Calls Try.prog 28 #[.slice A L.length c, .func (.func g) #[] lb] w fun e w' => e = .returned (.bool (L.any p)) ∧ Below w.heap.size w w' := by
  have HI := Lib.hid (ibox_calls g lb eg p A c L hL hc w hC hn hp)
  obtain ⟨q, hq⟩ : ∃ q, L.any p = q := ⟨_, rfl⟩
  rw [hq] at HI ⊢
  clear hC hp hn hq eg
  go_enter Try.func28, Try.ntmps28
  go_wp2_with fail
  refine HI.out.mono ?_
  rintro e w2 ⟨r, rfl, hr, hb⟩
  go_wp2_with fail
  go_ret
  exact ⟨rfl, hb⟩
end Go.Proofs.Ytmmfojaeahcohaa

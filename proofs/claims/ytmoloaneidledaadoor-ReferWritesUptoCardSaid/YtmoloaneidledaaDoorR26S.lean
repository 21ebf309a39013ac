/- Walks: the law's data and sane. -/
import Derived.Test.YtmoloaneidledaaDoorR26D
import Derived.Test.YtmoloaneidledaaDoorR26Q
import Derived.Test.YtmoloaneidledaaDoorR26W
set_option linter.unusedVariables false
set_option linter.unusedSimpArgs false
namespace Go.Proofs.YtmoloaneidledaaDoor
open Go.Shelf Go.RowKit Go.Lib Go.Proofs.YtmoloaneidledaaDoorW.PrintWords Go.Proofs.YtmoloaneidledaaDoor.Pdata

abbrev saneS : ByteArray := ⟨#[37, 65, 32, 65, 110, 110, 32, 76, 101, 101, 10, 37, 84, 32, 79, 110, 32, 84, 121, 112, 101, 10]⟩
abbrev q1 : ByteArray := ⟨#[108, 101, 101, 32, 116, 121, 112]⟩
abbrev q2 : ByteArray := ⟨#[108, 101, 101, 32, 120]⟩
abbrev recS : List Fld := [⟨65, ⟨#[65, 110, 110, 32, 76, 101, 101]⟩⟩, ⟨84, ⟨#[79, 110, 32, 84, 121, 112, 101]⟩⟩]
theorem saneM : dataM saneS = ([recS], 0) := by kernel_rfl
theorem fitQ1 : fitsB recS q1 = true := by kernel_rfl
theorem fitQ2 : fitsB recS q2 = false := by kernel_rfl
theorem keyS : (keyB recS).length = 4 := by kernel_rfl
theorem wq1 : (wordsB q1).length = 2 := by kernel_rfl
theorem wq2 : (wordsB q2).length = 2 := by kernel_rfl
theorem fold_rec (B : Nat) : ∀ (l : List ByteArray) (d : List (List Fld)) (r : List Fld) (d' : List (List Fld)) (r' : List Fld), (∀ q ∈ d, q.length ≤ B) → r.length + l.length ≤ B → l.foldl stepS (.on d r) = .on d' r' → ∀ q ∈ flush d' r', q.length ≤ B
  | [], d, r, d', r', hd, hr, h, q, hq => by
    simp only [List.foldl_nil, St.on.injEq] at h
    obtain ⟨rfl, rfl⟩ := h
    unfold flush at hq
    split at hq
    · exact hd q hq
    · rcases List.mem_append.1 hq with h1 | h1
      · exact hd q h1
      · simp at h1
        subst h1
        simpa using hr
  | x :: l, d, r, d', r', hd, hr, h, q, hq => by
    rw [List.foldl_cons, stepS_on] at h
    rw [List.length_cons] at hr
    have hfl : ∀ z ∈ flush d r, z.length ≤ B := fun z hz => by
      unfold flush at hz
      split at hz
      · exact hd z hz
      · rcases List.mem_append.1 hz with h1 | h1
        · exact hd z h1
        · simp at h1
          subst h1
          omega
    split at h
    · exact fold_rec B l _ _ _ _ hfl (by simp; omega) h q hq
    split at h
    · split at h
      · rw [foldl_bad] at h; cases h
      · exact fold_rec B l _ _ _ _ hd (by rw [addT_len]; omega) h q hq
    split at h
    · rw [foldl_bad] at h; cases h
    split at h
    · rw [foldl_bad] at h; cases h
    · exact fold_rec B l _ _ _ _ hd (by simp; omega) h q hq
theorem dataM_bound (s : ByteArray) (hs : s.size ≤ 900000) : (dataM s).1.length ≤ 500 ∧ ∀ r ∈ (dataM s).1, r.length ≤ 1000000 := by
  have hp := parts_len s.data.toList []
  have hl : s.data.toList.length = s.size := by rw [Array.length_toList]; rfl
  unfold dataM
  cases hS : (partsP s.data.toList []).foldl stepS (.on [] []) with
  | bad e => exact ⟨Nat.zero_le _, fun r hr => by cases hr⟩
  | on d r =>
    have hb := fold_rec 1000000 _ _ _ _ _ (by simp) (by simp; omega) hS
    rw [finS]
    split
    · exact ⟨Nat.zero_le _, fun r hr => by cases hr⟩
    · rename_i h5
      exact ⟨by show (flush d r).length ≤ 500; omega, hb⟩
/-- The program's answer, as the printed words read it. -/
theorem prog_calls (s : ByteArray) (hs : s.size ≤ 900000) (w : World) :
    Calls Tryd.prog 13 #[.string s] w fun e W' => (∃ A c, e = .returned (.tuple #[.slice A (dataM s).1.length c, .int .i64 (dataM s).2]) ∧ (dataM s).1.length ≤ c ∧ Kd.C (Kd.slice 58 k58) W' A (dataM s).1.length ((dataM s).1.map (List.map c58))) ∧ Below w.heap.size w W' := by
  obtain ⟨h1, h2⟩ := dataM_bound s hs
  refine (data_calls s (by omega) w).mono ?_
  rintro e W' ⟨⟨v, rfl, hS⟩, hB⟩
  obtain ⟨A, c, rfl, hc, hC⟩ := shape_C hS (by omega) (fun r hr => by have := h2 r hr; omega)
  exact ⟨⟨A, c, rfl, hc, hC⟩, hB⟩
theorem ref_calls (s : ByteArray) (hs : s.size ≤ 900000) (w : World) :
    Calls Tryd.prog 25 #[.string s] w fun e W' => (∃ A c, e = .returned (.tuple #[.slice A (dataM s).1.length c, .int .i64 (dataM s).2]) ∧ (dataM s).1.length ≤ c ∧ Kd.C (Kd.slice 69 k69) W' A (dataM s).1.length ((dataM s).1.map (List.map c69))) ∧ Below w.heap.size w W' := by
  refine (frisketref26_Data.calls _ s _ _ w (data_f s (by omega))).mono ?_
  rintro e W' ⟨v, rfl, hS, hB⟩
  obtain ⟨A, c, rfl, hc, hC⟩ := Kd.S_reads hS
  rw [List.length_map] at hc hC ⊢
  exact ⟨⟨A, c, rfl, hc, hC⟩, hB⟩
theorem as_calls (D : List (List Fld)) (hD : D.length ≤ 500) (hR : ∀ r ∈ D, r.length ≤ 1000000) (A : Option Addr) (c : Nat) (w : World) (hc : D.length ≤ c) (hC : Kd.C (Kd.slice 58 k58) w A D.length (D.map (List.map c58))) :
    Calls Tryd.prog 12 #[.slice A D.length c] w fun e W' => (∃ B b, e = .returned (.slice B D.length b) ∧ D.length ≤ b ∧ Kd.C (Kd.slice 69 k69) W' B D.length (D.map (List.map c69))) ∧ Below w.heap.size w W' := by
  have h := frisketlaw26_as.calls (need D) A c (D.map (List.map c58)) (D.map (List.map c69)) w (by rw [List.length_map]; exact hC) (by rw [List.length_map]; exact hc) (as_f D (by omega) hR)
  rw [List.length_map] at h
  refine h.mono ?_
  rintro e W' ⟨v, rfl, hS, hB⟩
  obtain ⟨B, b, rfl, hb, hC'⟩ := Kd.S_reads hS
  rw [List.length_map] at hb hC' ⊢
  exact ⟨⟨B, b, rfl, hb, hC'⟩, hB⟩
theorem same_calls (D : List (List Fld)) (hD : D.length ≤ 500) (hR : ∀ r ∈ D, r.length ≤ 1000000) (A B : Option Addr) (c b : Nat) (w : World) (hc : D.length ≤ c) (hb : D.length ≤ b) (hC : Kd.C (Kd.slice 69 k69) w A D.length (D.map (List.map c69))) (hC' : Kd.C (Kd.slice 69 k69) w B D.length (D.map (List.map c69))) :
    Calls Tryd.prog 14 #[.slice A D.length c, .slice B D.length b] w fun e W' => e = .returned (.bool true) ∧ Below w.heap.size w W' := by
  have hl : (D.map (List.map c69)).length = D.length := List.length_map _
  have h := frisketref26_Same.calls (need (D.map (List.map c69))) A c (D.map (List.map c69)) B b (D.map (List.map c69)) true w (by rw [hl]; exact hC) (by rw [hl]; exact hc) (by rw [hl]; exact hC') (by rw [hl]; exact hb) (same_f _ (by omega) (fun r hr => by
    obtain ⟨q, hq, rfl⟩ := List.mem_map.1 hr
    rw [List.length_map]
    exact hR q hq))
  rw [hl] at h
  refine h.mono ?_
  rintro e W' ⟨rfl, hB⟩
  exact ⟨rfl, hB.below⟩
set_option maxHeartbeats 2000000 in
theorem data7_calls (s : ByteArray) (hs : s.size ≤ 900000) (w : World) : Calls Tryd.prog 7 #[.string s] w fun e w' => e = .returned (.bool true) ∧ Below w.heap.size w w' := by
  obtain ⟨h1, h2⟩ := dataM_bound s hs
  have P := fun W => prog_calls s hs W
  have R := fun W => ref_calls s hs W
  obtain ⟨⟨D, E⟩, hDE⟩ : ∃ p, dataM s = p := ⟨_, rfl⟩
  simp only [hDE] at h1 h2 P R
  have H13 := Lib.hid P
  have H25 := Lib.hid R
  have H12 := Lib.hid (fun A c W hc hC => as_calls D h1 h2 A c W hc hC)
  have H14 := Lib.hid (fun A B c b W hc hb hC hC' => same_calls D h1 h2 A B c b W hc hb hC hC')
  clear P R hDE h2
  go_enter Tryd.func7, Tryd.ntmps7
  go_wp2_with (first | (go_at_call 13; refine (H13.out _).mono ?_; rintro e w1 ⟨⟨A, c, rfl, hc, hC⟩, b1⟩) | (go_at_call 25; refine (H25.out _).mono ?_; rintro e w2 ⟨⟨B, b, rfl, hb, hC2⟩, b2⟩) | (go_at_call 12; refine (H12.out _ _ _ hc (Kd.C_below hC b2)).mono ?_; rintro e w3 ⟨⟨G, g, rfl, hg, hC3⟩, b3⟩) | (go_at_call 14; refine (H14.out _ _ _ _ _ hg hb hC3 (Kd.C_below hC2 b3)).mono ?_; rintro e w4 ⟨rfl, b4⟩))
  go_ret
  have s1 := b1.size
  have s2 := b2.size
  have s3 := b3.size
  exact ⟨rfl, ((b1.trans (b2.mono s1)).trans (b3.mono (by omega))).trans (b4.mono (by omega))⟩
theorem fitsS (q : ByteArray) (b : Bool) (hq : q.size ≤ 1000000) (hqw : (wordsB q).length ≤ 1000000) (hb : fitsB recS q = b) (A : Option Addr) (c : Nat) (W : World) (h : Flds W.heap.size W A recS) :
    Calls Tryd.prog 18 #[.slice A 2 c, .string q] W fun e w' => e = .returned (.bool b) ∧ Below W.heap.size W w' := by
  subst hb
  have htx : ∀ f ∈ recS, f.t.size ≤ 1000000 := by
    intro f hf
    simp at hf
    rcases hf with rfl | rfl <;> decide
  exact fits_calls A c recS (by decide) htx (by rw [keyS]; decide) (by rw [keyS]; decide) q hq hqw W h
theorem Flds.later {W W' : World} {A : Option Addr} {r : List Fld} (h : Flds W.heap.size W A r) (hb : Below W.heap.size W W') : Flds W'.heap.size W' A r := fun m hm => by
  obtain ⟨b, off, e, hl, c0, c1⟩ := (h.below hb) m hm
  exact ⟨b, off, e, Nat.lt_of_lt_of_le hl hb.size, c0, c1⟩
set_option maxRecDepth 100000 in
set_option maxHeartbeats 2000000 in
theorem sane_calls (w : World) : Calls Tryd.prog 6 #[] w fun e w' => e = .returned (.bool true) ∧ Below w.heap.size w w' := by
  have P : Calls Tryd.prog 13 #[.string saneS] w fun e W' => (∃ g gr c cr, e = .returned (.tuple #[.slice (some ⟨g, 0, none⟩) 1 c, .int .i64 0]) ∧ W'.cell? ⟨g, 0, none⟩ = some (.slice gr 2 cr) ∧ Flds W'.heap.size W' gr recS) ∧ Below w.heap.size w W' := by
    refine (data_calls saneS (by decide) w).mono ?_
    rintro e W' ⟨⟨v, rfl, hS⟩, hB⟩
    rw [saneM] at hS ⊢
    obtain ⟨m, hs', m1, m2, m3, m4⟩ := hS
    have m4 := (m4.resolve_right (fun q => q.1 rfl)).2
    have hl : hs'.length = 1 := m3.1
    obtain ⟨g, c, rfl⟩ := row_form m4 (by omega)
    have h0 := m4.cellAt 0 (by omega)
    rw [List.getElem?_eq_getElem (by omega)] at h0
    obtain ⟨A, cr, e1, hf⟩ := row_flds (m3.2 0 (by omega) (by decide)).1
    rw [e1] at h0
    rw [hl]
    exact ⟨⟨g, A, c, cr, rfl, h0, hf⟩, hB⟩
  have H13 := Lib.hid P
  have G1 := Lib.hid (fitsS q1 true (by decide) (by rw [wq1]; decide) fitQ1)
  have G2 := Lib.hid (fitsS q2 false (by decide) (by rw [wq2]; decide) fitQ2)
  clear P
  go_enter Tryd.func6, Tryd.ntmps6
  go_wp2_with (first | (go_at_call 13; refine H13.out.mono ?_; rintro e w1 ⟨⟨g, gr, c, cr, rfl, h0, hf⟩, b1⟩; have lg := World.block_lt_of_cell? w1 _ h0) | (go_at_call 18; go_loud (first | (with_reducible refine (G1.out _ _ _ hf).mono ?_; clear G1; rintro e w2 ⟨rfl, b2⟩; have h2 := (b2.cell (p := ⟨g, 0, none⟩) lg).trans h0; have hf2 := hf.later b2) | (with_reducible refine (G2.out _ _ _ hf2).mono ?_; rintro e w3 ⟨rfl, b3⟩))))
  go_ret
  have s1 := b1.size
  have s2 := b2.size
  exact ⟨rfl, (b1.trans (b2.mono s1)).trans (b3.mono (by omega))⟩
end Go.Proofs.YtmoloaneidledaaDoor

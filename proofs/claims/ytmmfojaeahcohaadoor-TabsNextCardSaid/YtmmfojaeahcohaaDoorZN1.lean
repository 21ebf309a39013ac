/- Merged: D12F, D12FB, D12G, D12H, T12N, T12O, T12P, T12R, T12S, T12Q, T12T, D12I, D12J. -/
import Derived.Test.YtmmfojaeahcohaaDoorZN0
import Derived.Test.YtmmfojaeahcohaaDoorPTabsNextx2
import Derived.Lib.SliceRun
import Derived.Deep.RegionHeld3
import Derived.Test.YtmmfojaeahcohaaDoorOpens
import Derived.Test.YtmmfojaeahcohaaDoorRows
import Derived.Lib.LaidTab
import Derived.MakeChecks
import Derived.Stop.LaidErr
set_option linter.unusedVariables false
set_option linter.unusedSimpArgs false
namespace Go.Proofs.YtmmfojaeahcohaaDoor
open Go.Shelf Go.RowKit Go.Lib Go.Aids Go.Opens Go.Proofs.YtmmfojaeahcohaaDoorW.PrintWords Go.Proofs.YtmmfojaeahcohaaDoor.PTabsNext

theorem digits_calls (n : Nat) (hn : n < 10000000) (w : World) : Calls Tryd.prog 20 #[.int .i64 n] w fun e w' => e = .returned (.string (digs n)) ∧ Below w.heap.size w w' :=
  frisketref01_Digits.calls (n + 1) n (digs n) w (digits_f n hn n (by omega))
theorem conv_byte (c : Int) (w : World) : (convert 64 9 (.slice (some ⟨w.heap.size, 0, none⟩) 1 1)).run Tryd.prog (w.alloc (.cells #[.int .u8 c] 5)) = .ok (.string ⟨#[c.toNat.toUInt8]⟩) (w.alloc (.cells #[.int .u8 c] 5)) :=
  run_convert_bytes_arg _ 64 5 Tryd.underlying64 Tryd.underlying5 w.heap.size 0 1 1 [c] rfl (fun i hi => by
    obtain rfl : i = 0 := by omega
    simp) 9 Tryd.underlying9
set_option maxRecDepth 100000 in
theorem conv_kept (c : Int) (w W : World) (hb : Below (w.alloc (.cells #[.int .u8 c] 5)).drew.heap.size (w.alloc (.cells #[.int .u8 c] 5)).drew W) :
    (convert 64 9 (.slice (some ⟨w.heap.size, 0, none⟩) 1 1)).run Tryd.prog W = .ok (.string ⟨#[c.toNat.toUInt8]⟩) W := by
  have hc : W.cell? ⟨w.heap.size, 0, none⟩ = some (.int .u8 c) := by
    rw [hb.cell (p := ⟨w.heap.size, 0, none⟩) (by simp)]
    simp
  exact run_convert_bytes_arg _ 64 5 Tryd.underlying64 Tryd.underlying5 w.heap.size 0 1 1 [c] rfl (fun i hi => by
    obtain rfl : i = 0 := by omega
    exact hc) 9 Tryd.underlying9
theorem rstops_at {w : World} {A : Option Addr} {l : List S41} (h : Kd.C k44 w A l.length (l.map cv)) (hn : 0 < l.length) : ∃ b off, A = some ⟨b, off, none⟩ ∧ b < w.heap.size ∧
    ∀ k (hk : k < l.length), w.cell? ⟨b, off + k * 2, none⟩ = some (.int .i64 l[k].f0) ∧ w.cell? ⟨b, off + k * 2 + 1, none⟩ = some (.int .u8 l[k].f1) := by
  obtain ⟨b, off, hA, hb, hc⟩ := C_at (l := l.map cv) (by simpa using h) (by show 0 < 2; omega) (by simpa using hn)
  refine ⟨b, off, hA, hb, fun i hi => ?_⟩
  obtain ⟨c, _, hk, hcell⟩ := hc i (by simpa using hi)
  have e := k44_open hk
  subst e
  have h0 := hcell 0 _ rfl
  have h1 := hcell 1 _ rfl
  rw [List.getElem_map] at h0 h1
  exact ⟨h0, h1⟩
theorem join_ne (L : List S41) (hL : 0 < L.length) : 0 < (joinB (wordsI L)).size := by
  have h : ∀ l : List S41, ∀ t, 0 < (joinB (wordsI (l ++ [t]))).size := by
    intro l t
    have e : wordsI (l ++ [t]) = wordsI l ++ [itemL t] := by unfold wordsI; simp
    have hi : 0 < (itemL t).size := by
      unfold itemL
      simp only [ByteArray.size_append, show (ByteArray.mk #[117]).size = 1 from rfl]
      omega
    rw [e]
    by_cases h0 : wordsI l = []
    · rw [h0, List.nil_append, joinB_one]; exact hi
    · rw [joinB_snoc _ h0]
      simp only [ByteArray.size_append, show (ByteArray.mk #[32]).size = 1 from rfl]
      omega
  have h2 := (List.dropLast_concat_getLast (l := L) (by rintro rfl; exact absurd hL (by decide)))
  rw [← h2]
  exact h _ _
theorem words_ne' (L : List S41) (i : Nat) (h0 : ¬ i = 0) (h : i ≤ L.length) : wordsI (L.take i) ≠ [] := by
  unfold wordsI
  intro hn
  have := congrArg List.length hn
  simp at this
  rcases this with h1 | h1
  · exact h0 h1
  · subst h1; exact h0 (Nat.le_zero.1 h)
theorem pos_int (r : Nat) (h : ¬ r = 0) : decide ((r : Int) > 0) = true := decide_eq_true (by omega)
theorem ba_ne (X : ByteArray) (h : 0 < X.size) : (!X.toList.isEmpty) = false → False := by
  intro h2
  have h3 : X.toList = [] := by simpa using h2
  rw [ByteArray.toList_eq] at h3
  have h4 := congrArg List.length h3
  rw [Array.length_toList] at h4
  have h5 : X.data.size = X.size := rfl
  rw [h5, List.length_nil] at h4
  omega
theorem sz_facts (D E X : ByteArray) (hD : D.size ≤ 7) (hE : E.size = 1) (hX : X.size ≤ 1000) :
    (9223372036854775807 < D.size + 1) = False ∧ (9223372036854775807 < D.size + 1 + E.size) = False ∧ (9223372036854775807 < X.size + (D.size + 1 + E.size)) = False ∧ (9223372036854775807 < X.size + 1) = False ∧ (9223372036854775807 < D.size + 1 + 1) = False ∧ (9223372036854775807 < X.size + (D.size + 1 + 1)) = False :=
  ⟨eq_false (by omega), eq_false (by omega), eq_false (by omega), eq_false (by omega), eq_false (by omega), eq_false (by omega)⟩
set_option maxRecDepth 100000 in
set_option maxHeartbeats 4000000 in
theorem rtext_good (A : Option Addr) (c : Nat) (L : List S41) (ev : Int) (hc : L.length ≤ c) (w : World) (hC : Kd.C k44 w A L.length (L.map cv)) (hv : tvalidB L ev = true) :
    Calls Tryd.prog 11 #[.agg #[.slice A L.length c, .int .i64 ev]] w fun e w' => e = .returned (.tuple #[.string (textS L ev), .int .i64 0]) ∧ Below w.heap.size w w' := by
  have hv2 := hv
  unfold tvalidB at hv2
  simp only [Bool.and_eq_true, decide_eq_true_eq] at hv2
  have HS := Lib.hid (okStops_stp2 L (-1) (by omega) hv2.1)
  have hn : L.length ≤ 40 := hv2.2.1
  have he0 := hv2.2.2.1
  have he1 := hv2.2.2.2
  have HC := Lib.hid hC
  have HV := Lib.hid (fun W (h : Below w.heap.size w W) => rvalid_calls A c L ev W (Kd.C_below hC h) hc)
  rw [hv] at HV
  have HDG := Lib.hid (fun n hn W => digits_calls n hn W)
  have HT0 := Lib.hid (fun h => text_every ev h)
  have HT1 := Lib.hid (fun hL h => text_full L ev hL h)
  have HT2 := Lib.hid (fun h => text_none L ev h)
  have HTZ := Lib.hid (text_size L (fun t ht => (okStops_stp2 L (-1) (by omega) hv2.1 t ht).2.1))
  clear hv2 hC hv
  go_enter Tryd.func11, Tryd.ntmps11
  have HB0 := Lib.hid ((Below.refl w.heap.size w).alloc (Nat.le_refl _) (.cells #[.slice A L.length c, .int .i64 ev] 33))
  obtain ⟨g, hg⟩ : ∃ g, w.heap.size = g := ⟨_, rfl⟩
  have HG := Lib.hid hg
  have HCC : Hid ((w.alloc (.cells #[.slice A L.length c, .int .i64 ev] 33)).cell? ⟨g, 0, none⟩ = some (.slice A L.length c) ∧ (w.alloc (.cells #[.slice A L.length c, .int .i64 ev] 33)).cell? ⟨g, 1, none⟩ = some (.int .i64 ev) ∧ g < (w.alloc (.cells #[.slice A L.length c, .int .i64 ev] 33)).heap.size) := Lib.hid (by subst hg; simp)
  go_upto_region 1 with fail
  obtain ⟨W0, hW0⟩ : ∃ W, w.alloc (.cells #[.slice A L.length c, .int .i64 ev] 33) = W := ⟨_, rfl⟩
  simp only [hW0, hg] at HB0 HCC ⊢
  clear hW0
  obtain ⟨c0, c1, gl⟩ := HCC.out
  have HV2 := Lib.hid (HV.out W0 (by rw [hg]; exact HB0.out))
  clear HCC HV
  go_upto_region 5 with (go_at_call 8; refine HV2.out.mono ?_; rintro e w1 ⟨rfl, b1⟩; have k0 := (b1.cell (p := ⟨g, 0, none⟩) gl).trans c0; have k1 := (b1.cell (p := ⟨g, 1, none⟩) gl).trans c1; have kl : g < w1.heap.size := Nat.lt_of_lt_of_le gl b1.size)
  have HB1 : Hid (Below w.heap.size w w1) := Lib.hid (by
    have h0 := HB0.out
    rw [← HG.out] at h0
    exact h0.trans (b1.mono h0.size))
  have HKS := Lib.hid (show ∀ w' : World, Below w1.heap.size w1 w' → w'.cell? ⟨g, 0, none⟩ = some (.slice A L.length c) ∧ w'.cell? ⟨g, 1, none⟩ = some (.int .i64 ev) from fun w' h => ⟨(h.cell (p := ⟨g, 0, none⟩) kl).trans k0, (h.cell (p := ⟨g, 1, none⟩) kl).trans k1⟩)
  clear hg HV2 HB0 c0 c1 gl b1 k0 k1
  go_loopg [4, 5] L.length (fun gk s4 s5 wx => ∃ i : Nat, i + gk = L.length ∧ s5 = .int .i64 i ∧ s4 = .string (joinB (wordsI (L.take i))) ∧ Hid (Below w1.heap.size w1 wx))
  case atStart => exact ⟨0, by omega, rfl, rfl, Lib.hid (Below.refl _ _)⟩
  case round =>
    obtain ⟨i, hi, rfl, rfl, HB⟩ := hrel
    obtain ⟨k0, k1⟩ := HKS.out _ HB.out
    by_cases hlt : i < L.length
    · have i0 : (i : Int) < L.length := by omega
      have p0 : decide ((i : Int) < (L.length : Int)) = true := decide_eq_true i0
      obtain ⟨g', rfl⟩ : ∃ g', gk = g' + 1 := ⟨gk - 1, by omega⟩
      obtain ⟨b, off, rfl, hbl, hcell⟩ := rstops_at (Kd.C_below HC.out (HB1.out.trans (HB.out.mono HB1.out.size))) (by omega)
      have hst := HS.out _ (List.getElem_mem hlt)
      have HWT := Lib.hid (words_take L i hlt)
      have hsz := HTZ.out i (by omega)
      obtain ⟨d0, d1⟩ := hcell i hlt
      obtain ⟨t, hT⟩ : ∃ t, L[i] = t := ⟨_, rfl⟩
      rw [hT] at d0 d1 hst HWT
      have hds := digs_size t.f0.toNat (by omega)
      have HIT := Lib.hid (fun D E hD hE => item_eq t D E hD hE)
      have ef : ((t.f0.toNat : Nat) : Int) = t.f0 := Int.toNat_of_nonneg hst.1
      have HI3 : Hid (∀ W, Calls Tryd.prog 20 #[.int .i64 t.f0] W fun e w' => e = .returned (.string (digs t.f0.toNat)) ∧ Below W.heap.size W w') := Lib.hid (fun W => by
        have := HDG.out t.f0.toNat (by omega) W
        rw [ef] at this
        exact this)
      obtain ⟨D, hD⟩ : ∃ D, digs t.f0.toNat = D := ⟨_, rfl⟩
      obtain ⟨E, hE⟩ : ∃ E, (⟨#[t.f1.toNat.toUInt8]⟩ : ByteArray) = E := ⟨_, rfl⟩
      have hEs : E.size = 1 := by rw [← hE]; rfl
      have hit := HIT.out D E hD hE
      obtain ⟨y, hy⟩ : ∃ y, itemL t = y := ⟨_, rfl⟩
      rw [hy] at hit HWT
      rw [hD] at hds HI3
      have hcv := fun W => conv_byte t.f1 W
      rw [hE] at hcv
      have hck := fun W h => conv_kept t.f1 wr W h
      rw [hE] at hck
      obtain ⟨f0, hf0⟩ : ∃ x, t.f0 = x := ⟨_, rfl⟩
      obtain ⟨f1, hf1⟩ : ∃ x, t.f1 = x := ⟨_, rfl⟩
      rw [hf0] at d0 HI3
      rw [hf1] at d1
      simp only [hf1] at hcv hck
      have HCV3 := Lib.hid hck
      clear hck
      have HY := Lib.hid hit
      have HK := Lib.hid (show ∀ w' : World, Below wr.heap.size wr w' → w'.cell? ⟨g, 0, none⟩ = some (.slice (some ⟨b, off, none⟩) L.length c) ∧ w'.cell? ⟨b, off + i * 2, none⟩ = some (.int .i64 f0) ∧ w'.cell? ⟨b, off + i * 2 + 1, none⟩ = some (.int .u8 f1) from fun w' h => ⟨(HKS.out w' (HB.out.trans (h.mono HB.out.size))).1, (h.cell (p := ⟨b, off + i * 2, none⟩) hbl).trans d0, (h.cell (p := ⟨b, off + i * 2 + 1, none⟩) hbl).trans d1⟩)
      have HKA := Lib.hid (show ∀ W o, Below wr.heap.size wr W → (W.alloc o).cell? ⟨g, 0, none⟩ = some (.slice (some ⟨b, off, none⟩) L.length c) ∧ (W.alloc o).cell? ⟨b, off + i * 2, none⟩ = some (.int .i64 f0) ∧ (W.alloc o).cell? ⟨b, off + i * 2 + 1, none⟩ = some (.int .u8 f1) from fun W o h => HK.out (W.alloc o) (h.alloc h.size o))
      have HXN := Lib.hid (fun h0 => words_ne' L i h0 (by omega))
      have HX0 : Hid (i = 0 → wordsI (L.take i) = []) := Lib.hid (fun h0 => by subst h0; rfl)
      clear hcell hT hst hD hE hy hf0 hf1 HIT ef hit
      obtain ⟨ps, hps⟩ : ∃ ps, wordsI (L.take i) = ps := ⟨_, rfl⟩
      rw [hps] at HWT hsz HXN HX0
      simp only [hps]
      clear hps
      have HZ : Hid (∃ Z : ByteArray, Z.size ≤ 1000 ∧ (i = 0 → Z = joinB ps) ∧ (¬ i = 0 → Z = joinB ps ++ ⟨#[32]⟩) ∧ joinB (ps ++ [y]) = Z ++ y) := Lib.hid (by
        by_cases hp : i = 0
        · have hps0 : ps = [] := HX0.out hp
          exact ⟨joinB ps, by omega, fun _ => rfl, fun h => absurd hp h, by rw [hps0, List.nil_append, joinB_one, joinB_nil, ba_nil]⟩
        · exact ⟨joinB ps ++ ⟨#[32]⟩, by rw [ByteArray.size_append, show (ByteArray.mk #[32]).size = 1 from rfl]; omega, fun h => absurd h hp, fun _ => rfl, joinB_snoc ps (HXN.out hp) y⟩)
      obtain ⟨Z, hZs, hZ0, hZ1, hZ2⟩ := HZ.out
      have HZ2 := Lib.hid hZ2
      clear HZ hZ2
      obtain ⟨X, hX⟩ : ∃ X, joinB ps = X := ⟨_, rfl⟩
      rw [hX] at hsz hZ0 hZ1
      simp only [hX]
      clear hX HX0 HXN
      go_upto_if 17 with fail
      go_cut [4] (fun v4 wx => v4 = .string Z ∧ wx = wr)
      case first =>
        by_cases hp : i = 0
        · have q0 : decide ((i : Int) > 0) = false := decide_eq_false (by omega)
          have q1 : decide ((0 : Int) < (i : Int)) = false := decide_eq_false (by omega)
          have q2 : ¬ (0 < i) := by omega
          have hz := hZ0 hp
          clear hZ0 hZ1
          go_wp2_with fail
          go_meet
          exact ⟨by rw [hz], rfl⟩
        · have q0 : decide ((i : Int) > 0) = true := pos_int i hp
          have q1 : decide ((0 : Int) < (i : Int)) = true := pos_int i hp
          have q2 : (0 < i) = True := eq_true (Nat.pos_of_ne_zero hp)
          have hz := hZ1 hp
          obtain ⟨_, _, _, z4, _, _⟩ := sz_facts D E X hds hEs (by omega)
          clear hZ0 hZ1
          go_wp2_with fail
          go_meet
          exact ⟨by rw [hz], rfl⟩
      case rest =>
        obtain ⟨rfl, rfl⟩ := hcut
        clear hZ0 hZ1
        obtain ⟨s1, s2, s3, s4, s5, s6⟩ := sz_facts D E Z hds hEs hZs
        go_upto_region 9 with fail
        have hN : Below wc.heap.size wc wc.drew := (Below.refl _ _).drew
        have hcv2 : (convert 64 9 (.slice (some ⟨wc.heap.size, 0, none⟩) 1 1)).run Tryd.prog (wc.alloc (.cells #[.int .u8 f1] 5)).drew = .ok (.string E) (wc.alloc (.cells #[.int .u8 f1] 5)).drew := hcv wc.drew
        have HBD : Hid (Below wc.heap.size wc (wc.alloc (.cells #[.int .u8 f1] 5)).drew) := Lib.hid ((Below.refl wc.heap.size wc).alloc (Nat.le_refl _) (.cells #[.int .u8 f1] 5)).drew
        have HKD := Lib.hid (HK.out _ HBD.out)
        obtain ⟨m0, m1, m2⟩ := HKA.out wc (.cells #[.int .u8 f1] 5) (Below.refl _ _)
        obtain ⟨y0, y1, y2⟩ := HK.out wc (Below.refl _ _)
        obtain ⟨v0, v1, v2⟩ := HK.out wc.drew hN
        obtain ⟨o0, o1, o2⟩ := HKD.out
        clear k1
        have HJZ : Hid (joinB (wordsI (L.take (i + 1))) = Z ++ (D ++ ⟨#[117]⟩ ++ E)) := Lib.hid (by rw [HWT.out, HZ2.out, HY.out])
        go_region_with (first | (go_at_call 20; refine (HI3.out _).mono ?_; rintro e w5 ⟨rfl, hb5⟩; have hN : Below wc.heap.size wc w5 := (by first | exact Below.trans hN (hb5.mono hN.size) | exact Below.trans HBD.out (hb5.mono HBD.out.size)); (try have hcv3 := HCV3.out w5 hb5); obtain ⟨n0, n1, n2⟩ := HK.out w5 hN; obtain ⟨r0, r1, r2⟩ := HKA.out w5 (.cells #[.int .u8 f1] 5) hN))
        all_goals
          go_wp2_with fail
          go_roundg g'
          case measure => omega
          case rel => exact ⟨i + 1, by omega, by go_num, by rw [HJZ.out], Lib.hid (by first | exact HB.out.trans (hN.mono HB.out.size) | exact HB.out.trans ((hN.alloc hN.size _).mono HB.out.size))⟩
    · obtain rfl : i = L.length := by omega
      have p0 : decide ((L.length : Int) < (L.length : Int)) = false := decide_eq_false (by omega)
      have hsz := HTZ.out L.length (Nat.le_refl _)
      rw [List.take_length] at hsz
      simp only [List.take_length]
      have HEV : Hid (∀ W, Calls Tryd.prog 20 #[.int .i64 ev] W fun e w' => e = .returned (.string (digs ev.toNat)) ∧ Below W.heap.size W w') := Lib.hid (fun W => by
        have := HDG.out ev.toNat (by omega) W
        rw [Int.toNat_of_nonneg he0] at this
        exact this)
      have hds := digs_size ev.toNat (by omega)
      by_cases hev : ev > 0
      · have q0 : decide (ev > 0) = true := decide_eq_true hev
        have q1 : decide (0 < ev) = true := decide_eq_true hev
        by_cases hL : L.length = 0
        · obtain rfl : L = [] := List.eq_nil_of_length_eq_zero hL
          have HT := Lib.hid (HT0.out hev)
          obtain ⟨D, hD⟩ : ∃ D, digs ev.toNat = D := ⟨_, rfl⟩
          rw [hD] at hds HEV HT
          clear hD
          clear HT0 HT1 HT2 HTZ
          simp only [show joinB (wordsI []) = ⟨#[]⟩ from rfl]
          go_wp2_with (go_at_call 20; refine (HEV.out _).mono ?_; rintro e w5 ⟨rfl, hb5⟩)
          go_ret2
          have r1 := HB1.out.trans (HB.out.mono HB1.out.size)
          refine ⟨?_, r1.trans (hb5.mono r1.size)⟩
          rw [HT.out]
          try rfl
        · have HT := Lib.hid (HT1.out (by rintro rfl; exact hL rfl) hev)
          have hXp := join_ne L (Nat.pos_of_ne_zero hL)
          obtain ⟨D, hD⟩ : ∃ D, digs ev.toNat = D := ⟨_, rfl⟩
          rw [hD] at hds HEV HT
          clear hD
          obtain ⟨X, hX⟩ : ∃ X, joinB (wordsI L) = X := ⟨_, rfl⟩
          rw [hX] at HT hsz hXp
          simp only [hX]
          clear hX HT0 HT1 HT2 HTZ
          go_wp2_with (go_at_call 20; refine (HEV.out _).mono ?_; rintro e w5 ⟨rfl, hb5⟩)
          all_goals first
            | (exfalso; exact ba_ne X hXp (by assumption))
            | (go_ret2
               have r1 := HB1.out.trans (HB.out.mono HB1.out.size)
               refine ⟨?_, r1.trans (hb5.mono r1.size)⟩
               rw [HT.out]
               try rfl)
      · have q0 : decide (ev > 0) = false := decide_eq_false hev
        have q1 : decide (0 < ev) = false := decide_eq_false hev
        have HT := Lib.hid (HT2.out (by omega))
        clear HT0 HT1 HT2 HTZ HEV
        go_wp2_with fail
        go_ret2
        have r1 := HB1.out.trans (HB.out.mono HB1.out.size)
        refine ⟨?_, r1⟩
        rw [HT.out]
        try rfl
end Go.Proofs.YtmmfojaeahcohaaDoor

set_option linter.unusedVariables false
set_option linter.unusedSimpArgs false
namespace Go.Proofs.YtmmfojaeahcohaaDoor
open Go.Shelf Go.RowKit Go.Lib Go.Aids Go.Opens Go.Proofs.YtmmfojaeahcohaaDoorW.PrintWords Go.Proofs.YtmmfojaeahcohaaDoor.PTabsNext

set_option maxRecDepth 100000 in
set_option maxHeartbeats 2000000 in
theorem rtext_bad (A : Option Addr) (c : Nat) (L : List S41) (ev : Int) (hc : L.length ≤ c) (w : World) (hC : Kd.C k44 w A L.length (L.map cv)) (hv : tvalidB L ev = false) :
    Calls Tryd.prog 11 #[.agg #[.slice A L.length c, .int .i64 ev]] w fun e w' => e = .returned (.tuple #[.string ⟨#[]⟩, .int .i64 1]) ∧ Below w.heap.size w w' := by
  have HV := Lib.hid (fun W (h : Below w.heap.size w W) => rvalid_calls A c L ev W (Kd.C_below hC h) hc)
  rw [hv] at HV
  clear hC hv
  go_enter Tryd.func11, Tryd.ntmps11
  have HB0 := Lib.hid ((Below.refl w.heap.size w).alloc (Nat.le_refl _) (.cells #[.slice A L.length c, .int .i64 ev] 33))
  go_wp2_with (go_at_call 8; refine (HV.out _ HB0.out).mono ?_; rintro e w1 ⟨rfl, b1⟩)
  go_ret2
  exact ⟨rfl, HB0.out.trans (b1.mono HB0.out.size)⟩
theorem rtext_calls (A : Option Addr) (c : Nat) (L : List S41) (ev : Int) (hc : L.length ≤ c) (w : World) (hC : Kd.C k44 w A L.length (L.map cv)) :
    Calls Tryd.prog 11 #[.agg #[.slice A L.length c, .int .i64 ev]] w fun e w' => e = .returned (.tuple #[.string (if tvalidB L ev then (textS L ev, (0 : Int)) else (⟨#[]⟩, 1)).1, .int .i64 (if tvalidB L ev then (textS L ev, (0 : Int)) else (⟨#[]⟩, 1)).2]) ∧ Below w.heap.size w w' := by
  cases hv : tvalidB L ev
  · exact rtext_bad A c L ev hc w hC hv
  · exact rtext_good A c L ev hc w hC hv
end Go.Proofs.YtmmfojaeahcohaaDoor

set_option linter.unusedVariables false
set_option linter.unusedSimpArgs false
namespace Go.Proofs.YtmmfojaeahcohaaDoor
open Go.Lib Go.RowKit Go.Proofs.YtmmfojaeahcohaaDoorW.PrintWords Go.Proofs.YtmmfojaeahcohaaDoor.PTabsNext

theorem num_b (n : Int) : 0 ≤ wrap64 (Int.tmod (IntKind.u64.wrap n) 100000) ∧ wrap64 (Int.tmod (IntKind.u64.wrap n) 100000) ≤ 99999 := by
  have e : IntKind.u64.wrap n = n % 18446744073709551616 := by simp [IntKind.wrap, IntKind.signed, IntKind.bits]
  rw [e, Int.tmod_eq_emod_of_nonneg (by omega), wrapI _ (by omega) (by omega)]
  omega
theorem mod_b (d : Int) (hd : 0 ≤ d) (q : Int) (hq : 0 < q) : 0 ≤ Int.tmod d q ∧ Int.tmod d q < q := by
  rw [Int.tmod_eq_emod_of_nonneg hd]
  exact ⟨Int.emod_nonneg _ (by omega), Int.emod_lt_of_pos _ hq⟩
theorem okS_snoc (t : S41) (ht : t.f0 ≤ 1000000) (hk : kindT t.f1 = true) : ∀ (L : List S41) (last : Int), okStops last L = true → (∀ x ∈ L, x.f0 < t.f0) → last < t.f0 → okStops last (L ++ [t]) = true
  | [], last, h, hx, h0 => by
    show (decide (last < t.f0) && (decide (t.f0 ≤ 1000000) && (kindT t.f1 && okStops t.f0 []))) = true
    rw [decide_eq_true h0, decide_eq_true ht, hk]; rfl
  | x :: r, last, h, hx, h0 => by
    have e : okStops last (x :: r) = (decide (last < x.f0) && (decide (x.f0 ≤ 1000000) && (kindT x.f1 && okStops x.f0 r))) := rfl
    rw [e] at h
    simp only [Bool.and_eq_true] at h
    obtain ⟨h1, h2, h3, h4⟩ := h
    show (decide (last < x.f0) && (decide (x.f0 ≤ 1000000) && (kindT x.f1 && okStops x.f0 (r ++ [t])))) = true
    rw [h1, h2, h3, okS_snoc t ht hk r x.f0 h4 (fun y hy => hx y (by simp [hy])) (hx x (by simp))]
    rfl
def OkS (L : List S41) (at_ : Int) : Prop := okStops (-1) L = true ∧ ∀ x ∈ L, x.f0 ≤ at_ ∧ 0 ≤ x.f1 ∧ x.f1 < 256
theorem lrc (q : Int) (h0 : 0 ≤ q) (h1 : q < 3) : kindT (bt (⟨#[76, 82, 67]⟩ : ByteArray) q) = true ∧ 0 ≤ bt (⟨#[76, 82, 67]⟩ : ByteArray) q ∧ bt (⟨#[76, 82, 67]⟩ : ByteArray) q < 256 := by
  have : q = 0 ∨ q = 1 ∨ q = 2 := by omega
  rcases this with rfl | rfl | rfl <;> decide
theorem OkS.snoc {L : List S41} {at_ d k : Int} (h : OkS L at_) (ha : 0 ≤ at_) (hd : 1 ≤ d) (hb : at_ + d ≤ 1000000) (hk : kindT k = true) (h0 : 0 ≤ k) (h1 : k < 256) : OkS (L ++ [⟨at_ + d, k⟩]) (at_ + d) := by
  refine ⟨okS_snoc ⟨at_ + d, k⟩ hb hk L (-1) h.1 (fun x hx => ?_) (by show -1 < at_ + d; omega), fun x hx => ?_⟩
  · have := (h.2 x hx).1
    show x.f0 < at_ + d
    omega
  · rcases List.mem_append.1 hx with hx | hx
    · have := h.2 x hx
      omega
    · rw [List.mem_singleton] at hx; subst hx
      exact ⟨Int.le_refl _, h0, h1⟩
def Ny (l : List Int) (i : Int) (N : Nat) (at_ : Int) : Prop := ∀ a (L : List S41) ev K', OkS L a → 0 ≤ a → a ≤ at_ + 150 → 0 ≤ ev → ev ≤ 1000 → N ≤ K' → L.length ≤ i.toNat + 1 → ∃ r ev', frisketlaw12_Made.l0 K' l a (wrap64 (i + 1)) L ev = some (r, ev') ∧ okStops (-1) r = true ∧ r.length ≤ 10 ∧ (∀ x ∈ r, 0 ≤ x.f1 ∧ x.f1 < 256) ∧ 0 ≤ ev' ∧ ev' ≤ 1000
theorem made_app (l : List Int) (i : Int) (N K : Nat) (at_ : Int) (ih : Ny l i N at_) (hK : N ≤ K) (L : List S41) (ev v : Int) (hO : OkS L at_) (ha : 0 ≤ at_) (ha2 : at_ ≤ 2000) (he : 0 ≤ ev) (he2 : ev ≤ 1000) (hv : 0 ≤ v ∧ v ≤ 99999) (hL : L.length ≤ i.toNat) (hi : i ≤ 10) (hi0 : 0 ≤ i) :
    ∃ r ev', (if 0 ≤ (Int.tmod (wrap64 (Int.tdiv v 150)) 3) then (if (Int.tmod (wrap64 (Int.tdiv v 150)) 3) < 3 then (if L.length < 8796093022208 then (frisketlaw12_Made.l0 K l (wrap64 (at_ + (wrap64 (1 + (Int.tmod v 150))))) (wrap64 (i + 1)) (L ++ [(⟨wrap64 (at_ + (wrap64 (1 + (Int.tmod v 150)))), bt (⟨#[76, 82, 67]⟩ : ByteArray) (Int.tmod (wrap64 (Int.tdiv v 150)) 3)⟩ : S41)]) ev) else (none)) else (none)) else (none)) = some (r, ev') ∧ okStops (-1) r = true ∧ r.length ≤ 10 ∧ (∀ x ∈ r, 0 ≤ x.f1 ∧ x.f1 < 256) ∧ 0 ≤ ev' ∧ ev' ≤ 1000 := by
  have e1 : wrap64 (Int.tdiv v 150) = v / 150 := by rw [Int.tdiv_eq_ediv_of_nonneg hv.1, wrapI _ (by omega) (by omega)]
  rw [e1]
  have h1 := mod_b (v / 150) (by omega) 3 (by omega)
  have h2 := mod_b v hv.1 150 (by omega)
  obtain ⟨q, hq⟩ : ∃ q, Int.tmod (v / 150) 3 = q := ⟨_, rfl⟩
  obtain ⟨d, hd⟩ : ∃ d, Int.tmod v 150 = d := ⟨_, rfl⟩
  rw [hq] at h1 ⊢
  rw [hd] at h2 ⊢
  have e2 : wrap64 (1 + d) = 1 + d := wrapI _ (by omega) (by omega)
  have e3 : wrap64 (at_ + (1 + d)) = at_ + (1 + d) := wrapI _ (by omega) (by omega)
  rw [e2, e3, if_pos h1.1, if_pos h1.2, if_pos (by omega)]
  have hk := lrc q h1.1 h1.2
  exact ih _ _ _ _ (hO.snoc ha (by omega) (by omega) hk.1 hk.2.1 hk.2.2) (by omega) (by omega) he he2 hK (by simp; omega)
theorem made_l (l : List Int) (hl : l.length ≤ 9223372036854775807) : ∀ (f i : Nat) (at_ : Int) (L : List S41) (ev : Int) (K : Nat), OkS L at_ → 0 ≤ at_ → at_ ≤ 150 * (i : Int) → L.length ≤ i → i ≤ 10 → 10 ≤ i + f → 0 ≤ ev → ev ≤ 1000 → 2 * f + 4 ≤ K →
    ∃ r ev', frisketlaw12_Made.l0 K l at_ (i : Nat) L ev = some (r, ev') ∧ okStops (-1) r = true ∧ r.length ≤ 10 ∧ (∀ x ∈ r, 0 ≤ x.f1 ∧ x.f1 < 256) ∧ 0 ≤ ev' ∧ ev' ≤ 1000
  | f, i, at_, L, ev, K, hO, ha, ha2, hL, hi, hf, he, he2, hK => by
    obtain ⟨K1, rfl⟩ : ∃ k, K = k + 2 := ⟨K - 2, by omega⟩
    rw [show K1 + 2 = (K1 + 1) + 1 from rfl, frisketlaw12_Made.l0]
    by_cases hlt : i < l.length
    · rw [if_pos (by omega), frisketlaw12_Made.j1]
      by_cases h10 : (i : Int) < 10
      · obtain ⟨f', rfl⟩ : ∃ f', f = f' + 1 := ⟨f - 1, by omega⟩
        rw [decide_eq_true h10, if_pos rfl, if_pos (by omega), if_pos (by omega)]
        have hb := num_b (rd l (i : Int))
        obtain ⟨v, hv⟩ : ∃ v, wrap64 (Int.tmod (IntKind.u64.wrap (rd l (i : Int))) 100000) = v := ⟨_, rfl⟩
        rw [hv] at hb ⊢
        have ih : Ny l (i : Nat) (2 * f' + 4) at_ := fun a L' ev' K' h1 h2 h3 h4 h5 h6 h7 => by
          rw [wrapS i l.length hlt (by omega)]
          exact made_l l hl f' (i + 1) a L' ev' K' h1 h2 (by omega) (by simpa using h7) (by omega) (by omega) h4 h5 h6
        by_cases i0 : (i : Int) = 0
        · rw [if_pos i0]
          by_cases m3 : Int.tmod v 3 = 0
          · rw [if_pos m3]
            have h3 := mod_b v hb.1 300 (by omega)
            obtain ⟨d, hd⟩ : ∃ d, Int.tmod v 300 = d := ⟨_, rfl⟩
            rw [hd] at h3 ⊢
            rw [wrapI (1 + d) (by omega) (by omega)]
            exact ih _ _ _ _ hO ha (by omega) (by omega) (by omega) (by omega) (by simp; omega)
          · rw [if_neg m3]
            exact made_app l (i : Nat) _ K1 at_ ih (by omega) L ev v hO ha (by omega) he he2 hb (by simpa using hL) (by omega) (by omega)
        · rw [if_neg i0]
          exact made_app l (i : Nat) _ K1 at_ ih (by omega) L ev v hO ha (by omega) he he2 hb (by simpa using hL) (by omega) (by omega)
      · rw [decide_eq_false h10, if_neg (by simp)]
        exact ⟨L, ev, rfl, hO.1, by omega, fun x hx => (hO.2 x hx).2, he, he2⟩
    · rw [if_neg (by omega), frisketlaw12_Made.j1, if_neg (by simp)]
      exact ⟨L, ev, rfl, hO.1, by omega, fun x hx => (hO.2 x hx).2, he, he2⟩
theorem made_f (l : List Int) (hl : l.length ≤ 9223372036854775807) : ∃ r ev, frisketlaw12_Made.f 24 l = some (r, ev) ∧ tvalidB r ev = true ∧ (∀ x ∈ r, 0 ≤ x.f1 ∧ x.f1 < 256) ∧ r.length ≤ 10 := by
  obtain ⟨r, ev, h1, h2, h3, h4, h5, h6⟩ := made_l l hl 10 0 0 [] 0 24 ⟨rfl, fun x hx => (by cases hx)⟩ (by omega) (by omega) (by simp) (by omega) (by omega) (by omega) (by omega) (by omega)
  refine ⟨r, ev, h1, ?_, h4, h3⟩
  unfold tvalidB
  rw [h2, decide_eq_true (by omega), decide_eq_true h5, decide_eq_true (by omega)]; rfl
end Go.Proofs.YtmmfojaeahcohaaDoor

set_option linter.unusedVariables false
set_option linter.unusedSimpArgs false
namespace Go.Proofs.YtmmfojaeahcohaaDoor
open Go.Shelf Go.RowKit Go.Lib Go.Aids Go.Opens Go.Proofs.YtmmfojaeahcohaaDoorW.PrintWords Go.Proofs.YtmmfojaeahcohaaDoor.PTabsNext

def nextO (L : List S41) (ev k : Int) : Int × Int × Bool := if tvalidB L ev then nextL L 0 ev k else (0, 0, false)
theorem rnextO_f (L : List S41) (ev k : Int) (hL : L.length ≤ 9223372036854775807) (h0 : 0 ≤ k) (h1 : k ≤ 3000) : frisketref12_Next.f (L.length + 1) (L.map cv) ev k = some (nextO L ev k) := by
  unfold nextO
  cases hv : tvalidB L ev
  · unfold frisketref12_Next.f
    rw [rtv_f L ev hL _ (Nat.le_refl _), Option.bind_some, hv]
    rfl
  · exact rnext_f L ev k hv (by omega) (by omega)
theorem rnextO_calls (A : Option Addr) (c : Nat) (L : List S41) (ev k : Int) (h0 : 0 ≤ k) (h1 : k ≤ 3000) (w : World) (hC : Kd.C k44 w A L.length (L.map cv)) (hc : L.length ≤ c) :
    Calls Tryd.prog 13 #[.agg #[.slice A L.length c, .int .i64 ev], .int .i64 k] w fun e w' => e = .returned (.tuple #[.agg #[.int .i64 (nextO L ev k).1, .int .u8 (nextO L ev k).2.1], .bool (nextO L ev k).2.2]) ∧ Below w.heap.size w w' := by
  have e1 : (L.map cv).length = L.length := List.length_map ..
  have h := frisketref12_Next.calls (L.length + 1) A c (L.map cv) ev k _ _ _ w (by rw [e1]; exact hC) (by rw [e1]; exact hc) (rnextO_f L ev k hC.2.1 h0 h1)
  rw [e1] at h
  exact h
set_option maxRecDepth 100000 in
set_option maxHeartbeats 2000000 in
theorem pnext_calls (A : Option Addr) (c : Nat) (L : List S41) (ev k : Int) (hc : L.length ≤ c) (hn : L.length ≤ 1000) (hb : ∀ t ∈ L, 0 ≤ t.f1 ∧ t.f1 < 256) (h0 : 0 ≤ k) (h1 : k ≤ 3000) (w : World) (hC : Kd.C k41 w A L.length L) :
    Calls Tryd.prog 12 #[.agg #[.slice A L.length c, .int .i64 ev], .int .i64 k] w fun e w' => e = .returned (.tuple #[.agg #[.int .i64 (nextO L ev k).1, .int .u8 (nextO L ev k).2.1], .bool (nextO L ev k).2.2]) ∧ Below w.heap.size w w' := by
  have HV := Lib.hid (fun W (h : Below w.heap.size w W) => tvalid_calls A c L ev hc hb W (Kd.C_below hC h))
  have HX : Hid (tvalidB L ev = true → ∀ W, Below w.heap.size w W → Calls Tryd.prog 21 #[.agg #[.slice A L.length c, .int .i64 ev], .int .i64 k] W fun e w' => e = .returned (.tuple #[.agg #[.int .i64 (nextL L 0 ev k).1, .int .u8 (nextL L 0 ev k).2.1], .bool (nextL L 0 ev k).2.2]) ∧ Below W.heap.size W w') := Lib.hid (fun hv W h => by
    unfold tvalidB at hv
    simp only [Bool.and_eq_true, decide_eq_true_eq] at hv
    exact next_calls A c L ev k (okStops_stp L (-1) (by omega) hv.1) (by omega) hv.2.2.1 hv.2.2.2 (by omega) (by omega) W (Kd.C_below hC h) hc)
  unfold nextO
  obtain ⟨V, hV⟩ : ∃ V, tvalidB L ev = V := ⟨_, rfl⟩
  rw [hV] at HV HX ⊢
  clear hV hC hb
  go_enter Tryd.func12, Tryd.ntmps12
  have HB0 := Lib.hid (((Below.refl w.heap.size w).alloc (Nat.le_refl _) (.cells #[.slice A L.length c, .int .i64 ev] 24)).alloc (by simp) (.cells #[.int .i64 0, .int .u8 0] 41))
  go_upto_region 1 with fail
  have HQ : Hid (((w.alloc (.cells #[.slice A L.length c, .int .i64 ev] 24)).alloc (.cells #[.int .i64 0, .int .u8 0] 41)).heap[w.heap.size]? = some (.cells #[.slice A L.length c, .int .i64 ev] 24 (0, 0)) ∧ ((w.alloc (.cells #[.slice A L.length c, .int .i64 ev] 24)).alloc (.cells #[.int .i64 0, .int .u8 0] 41)).heap[w.heap.size + 1]? = some (.cells #[.int .i64 0, .int .u8 0] 41 (0, 0))) := Lib.hid ⟨blk_alloc (blk_new w _) _, by
    have := blk_new (w.alloc (.cells #[.slice A L.length c, .int .i64 ev] 24)) (.cells #[.int .i64 0, .int .u8 0] 41)
    rw [show (w.alloc (.cells #[.slice A L.length c, .int .i64 ev] 24)).heap.size = w.heap.size + 1 by simp] at this
    exact this⟩
  obtain ⟨W0, hW0⟩ : ∃ W, (w.alloc (.cells #[.slice A L.length c, .int .i64 ev] 24)).alloc (.cells #[.int .i64 0, .int .u8 0] 41) = W := ⟨_, rfl⟩
  simp only [hW0] at HQ HB0 ⊢
  clear hW0
  obtain ⟨g, hg⟩ : ∃ g, w.heap.size = g := ⟨_, rfl⟩
  have HG := Lib.hid hg
  have HV2 := Lib.hid (HV.out W0 HB0.out)
  have HX2 := Lib.hid (fun hv W (h : Below W0.heap.size W0 W) => HX.out hv W (HB0.out.trans (h.mono HB0.out.size)))
  simp only [hg] at HQ ⊢
  clear hg HV HX
  have c0 : W0.cell? ⟨g, 0, none⟩ = some (.slice A L.length c) := (blk_cell HQ.out.1 0).trans rfl
  have c1 : W0.cell? ⟨g, 1, none⟩ = some (.int .i64 ev) := (blk_cell HQ.out.1 1).trans rfl
  cases V
  · go_wp2_with (go_at_call 7; refine HV2.out.mono ?_; rintro e w1 ⟨rfl, b1⟩; have B1 := Lib.hid (blk_below HQ.out.2 b1); have d0 : w1.cell? ⟨g + 1, 0, none⟩ = some (.int .i64 0) := (blk_cell B1.out 0).trans rfl; have d1 : w1.cell? ⟨g + 1, 1, none⟩ = some (.int .u8 0) := (blk_cell B1.out 1).trans rfl; have f0 := blk_frozen B1.out 0; have f1 := blk_frozen B1.out 1)
    refine bodyPost_ret (results_ct rfl _ _ (g + 1) 41 #[.int .i64 0, .int .u8 0] (0, 0) _ rfl (by refine blk_put (cs := #[.int .i64 0, .int .u8 0]) ?_ 1 _ rfl; refine blk_put (cs := #[.int .i64 0, .int .u8 0]) ?_ 0 _ rfl; exact B1.out) Tryd.underlying41 rfl (by kernel_rfl)) rfl ?_
    refine ⟨rfl, ?_⟩
    have r1 := HB0.out.trans (b1.mono HB0.out.size)
    have hle : w.heap.size ≤ g + 1 := by rw [HG.out]; exact Nat.le_succ g
    exact (r1.setCell hle _).setCell hle _
  · have HX3 := Lib.hid (HX2.out rfl)
    go_wp2_with (first
      | (go_at_call 7; refine HV2.out.mono ?_; rintro e w1 ⟨rfl, b1⟩; have e0 := (b1.cell (p := ⟨g, 0, none⟩) (blk_lt HQ.out.1)).trans c0; have e1 := (b1.cell (p := ⟨g, 1, none⟩) (blk_lt HQ.out.1)).trans c1)
      | (go_at_call 21; refine (HX3.out _ b1).mono ?_; rintro e w2 ⟨rfl, b2⟩; have B1 := Lib.hid (blk_below (blk_below HQ.out.2 b1) b2); have d0 : w2.cell? ⟨g + 1, 0, none⟩ = some (.int .i64 0) := (blk_cell B1.out 0).trans rfl; have d1 : w2.cell? ⟨g + 1, 1, none⟩ = some (.int .u8 0) := (blk_cell B1.out 1).trans rfl; have f0 := blk_frozen B1.out 0; have f1 := blk_frozen B1.out 1))
    refine bodyPost_ret (results_ct rfl _ _ (g + 1) 41 #[.int .i64 (nextL L 0 ev k).1, .int .u8 (nextL L 0 ev k).2.1] (0, 0) _ rfl (by refine blk_put (cs := #[.int .i64 (nextL L 0 ev k).1, .int .u8 0]) ?_ 1 _ rfl; refine blk_put (cs := #[.int .i64 0, .int .u8 0]) ?_ 0 _ rfl; exact B1.out) Tryd.underlying41 rfl (by kernel_rfl)) rfl ?_
    refine ⟨rfl, ?_⟩
    have r1 := HB0.out.trans (b1.mono HB0.out.size)
    have r2 := r1.trans (b2.mono r1.size)
    have hle : w.heap.size ≤ g + 1 := by rw [HG.out]; exact Nat.le_succ g
    exact (r2.setCell hle _).setCell hle _
end Go.Proofs.YtmmfojaeahcohaaDoor

set_option linter.unusedVariables false
set_option linter.unusedSimpArgs false
namespace Go.Proofs.YtmmfojaeahcohaaDoor
open Go.Shelf Go.RowKit Go.Lib Go.Aids Go.Opens Go.Proofs.YtmmfojaeahcohaaDoorW.PrintWords Go.Proofs.YtmmfojaeahcohaaDoor.PTabsNext

/-- What tabs.Set asks. -/
def okSet (C : List (List S56)) (M : List Int) (L : List S41) (ev : Int) (t l : S56) : Bool :=
  tvalidB L ev && (!(C.any fun c => c.any fun x => !validS x) && (!([t, l].any fillB) && (!(M.any markB) && decide ((M.length : Int) = max ((C.length : Int) - 1) 0))))
theorem two_C (W : World) (B : Nat) (hB : B = W.heap.size) (t l : S56) (At Al : Option Addr) (ct cl : Nat) (ht : k56.K W t (boxC t At ct)) (hl : k56.K W l (boxC l Al cl)) :
    Kd.C k56 (W.alloc (.cells (boxC t At ct ++ boxC l Al cl).toArray 56)) (some ⟨B, 0, none⟩) [t, l].length [t, l] := by
  subst hB
  refine ⟨rfl, by simp, fun _ => ⟨_, rfl, fun j p hj => ?_⟩⟩
  have hb := (Below.refl W.heap.size W).alloc (Nat.le_refl _) (.cells (boxC t At ct ++ boxC l Al cl).toArray 56)
  have ead : ∀ q, ((⟨W.heap.size, 0, none⟩ : Addr).add q) = ⟨W.heap.size, q, none⟩ := fun q => by
    simp [Addr.add]
    intro h; omega
  match j, hj with
  | 0, hj =>
    injection hj with hj
    subst hj
    refine ⟨boxC t At ct, rfl, k56.K_below hb ht, fun i u hi => ?_⟩
    rw [ead, World.cell?_alloc_at _ _ _ _ rfl, show k56.sz = 7 from rfl]
    have hil := (List.getElem?_eq_some_iff.1 hi).1
    rw [List.getElem?_toArray, List.getElem?_append_left (by omega)]
    simpa using hi
  | 1, hj =>
    injection hj with hj
    subst hj
    refine ⟨boxC l Al cl, rfl, k56.K_below hb hl, fun i u hi => ?_⟩
    rw [ead, World.cell?_alloc_at _ _ _ _ rfl, show k56.sz = 7 from rfl]
    rw [List.getElem?_toArray, List.getElem?_append_right (by show 7 ≤ 1 * 7 + i; omega)]
    have : 1 * 7 + i - (boxC t At ct).length = i := by show 1 * 7 + i - 7 = i; omega
    rw [this]
    exact hi
  | j + 2, hj => simp at hj
theorem box_K (w : World) (x : S56) (A : Option Addr) (c : Nat) (hc : x.f6.length ≤ c) (h : kI.C w A x.f6.length x.f6) : k56.K w x (boxC x A c) := k56_mk w x hc h
/-- What stands behind the making of Set's variables. -/
structure Pre (w W : World) (g : Nat) (As : Option Addr) (ns cs : Nat) (ev : Int) (t l : S56) : Prop where
  below : Below w.heap.size w W
  s0 : W.cell? ⟨g, 0, none⟩ = some (.slice As ns cs)
  s1 : W.cell? ⟨g, 1, none⟩ = some (.int .i64 ev)
  bad : BadAt W (g + 3)
  fills : Kd.C k56 W (some ⟨g + 4, 0, none⟩) [t, l].length [t, l]
  top : W.heap.size = g + 5
  gw : w.heap.size = g
set_option maxRecDepth 100000 in
set_option maxHeartbeats 4000000 in
theorem pre_made (w : World) (g : Nat) (hg : w.heap.size = g) (As : Option Addr) (ns cs : Nat) (ev : Int) (t l : S56) (At Al : Option Addr) (ct cl : Nat) (htc : t.f6.length ≤ ct) (hlc : l.f6.length ≤ cl) (ht : kI.C w At t.f6.length t.f6) (hl : kI.C w Al l.f6.length l.f6) :
    Pre w (((((w.alloc (.cells #[.slice As ns cs, .int .i64 ev] 24)).alloc (.cells (boxC t At ct).toArray 56)).alloc (.cells (boxC l Al cl).toArray 56)).alloc (.cells #[.func (.func 26) #[] #[]] 70)).alloc (.cells (boxC t At ct ++ boxC l Al cl).toArray 56)) g As ns cs ev t l := by
  subst hg
  have hb : Below w.heap.size w ((((w.alloc (.cells #[.slice As ns cs, .int .i64 ev] 24)).alloc (.cells (boxC t At ct).toArray 56)).alloc (.cells (boxC l Al cl).toArray 56)).alloc (.cells #[.func (.func 26) #[] #[]] 70)) :=
    ((((Below.refl _ _).alloc (Nat.le_refl _) _).alloc (by simp) _).alloc (by simp; omega) _).alloc (by simp; omega) _
  have p4 : ∀ (w : World) (o1 o2 o3 o4 : Obj) (n i : Nat), n < w.heap.size → ((((w.alloc o1).alloc o2).alloc o3).alloc o4).cell? ⟨n, i, none⟩ = w.cell? ⟨n, i, none⟩ := fun w o1 o2 o3 o4 n i h => by
    rw [World.cell?_alloc_past _ _ _ (by simp; omega), World.cell?_alloc_past _ _ _ (by simp; omega), World.cell?_alloc_past _ _ _ (by simp; omega), World.cell?_alloc_past _ _ _ h]
  refine ⟨hb.alloc (by simp; omega) _, ?_, ?_, ⟨?_, ?_⟩, ?_, ?_, rfl⟩
  · rw [p4 _ _ _ _ _ _ _ (by simp), World.cell?_alloc_at _ _ _ _ rfl]; rfl
  · rw [p4 _ _ _ _ _ _ _ (by simp), World.cell?_alloc_at _ _ _ _ rfl]; rfl
  · rw [World.cell?_alloc_past _ _ _ (by simp), World.cell?_alloc_at _ _ _ _ (by simp)]; rfl
  · simp
  · exact two_C _ _ (by simp) t l At Al ct cl (box_K _ t At ct htc (Kd.C_below ht hb)) (box_K _ l Al cl hlc (Kd.C_below hl hb))
  · simp
end Go.Proofs.YtmmfojaeahcohaaDoor

set_option linter.unusedVariables false
set_option linter.unusedSimpArgs false
namespace Go.Proofs.YtmmfojaeahcohaaDoor
open Go.Shelf Go.RowKit Go.Lib Go.Aids Go.Opens Go.Proofs.YtmmfojaeahcohaaDoorW.PrintWords Go.Proofs.YtmmfojaeahcohaaDoor.PTabsNext

/-- What comes in. -/
structure SetIn (w : World) (C : List (List S56)) (M : List Int) (L : List S41) (ev : Int) (t l : S56) (Ac Am As At Al : Option Addr) (cc cm cs ct cl : Nat) : Prop where
  c : Kd.C (Kd.slice 56 k56) w Ac C.length C
  cn : C.length ≤ cc
  cl63 : ∀ y ∈ C, ∀ x ∈ y, x.f6.length ≤ 9223372036854775807
  m : kI.C w Am M.length M
  mn : M.length ≤ cm
  s : Kd.C k41 w As L.length L
  sn : L.length ≤ cs
  sb : ∀ x ∈ L, 0 ≤ x.f1 ∧ x.f1 < 256
  tk : kI.C w At t.f6.length t.f6
  tn : t.f6.length ≤ ct
  lk : kI.C w Al l.f6.length l.f6
  ln : l.f6.length ≤ cl
theorem SetIn.below {w w1 : World} {C : List (List S56)} {M : List Int} {L : List S41} {ev : Int} {t l : S56} {Ac Am As At Al : Option Addr} {cc cm cs ct cl : Nat} (h : SetIn w C M L ev t l Ac Am As At Al cc cm cs ct cl) (hb : Below w.heap.size w w1) : SetIn w1 C M L ev t l Ac Am As At Al cc cm cs ct cl :=
  ⟨Kd.C_below h.c hb, h.cn, h.cl63, Kd.C_below h.m hb, h.mn, Kd.C_below h.s hb, h.sn, h.sb, Kd.C_below h.tk hb, h.tn, Kd.C_below h.lk hb, h.ln⟩
theorem Pre.step {w W W1 : World} {g : Nat} {As : Option Addr} {ns cs : Nat} {ev : Int} {t l : S56} (h : Pre w W g As ns cs ev t l) (hb : Below W.heap.size W W1) :
    Below w.heap.size w W1 ∧ W1.cell? ⟨g, 0, none⟩ = some (.slice As ns cs) ∧ W1.cell? ⟨g, 1, none⟩ = some (.int .i64 ev) ∧ BadAt W1 (g + 3) ∧ Kd.C k56 W1 (some ⟨g + 4, 0, none⟩) [t, l].length [t, l] ∧ g < W1.heap.size := by
  have ht := h.top
  have hg := h.gw
  have hs := hb.size
  exact ⟨h.below.trans (hb.mono (by omega)), (hb.cell (p := ⟨g, 0, none⟩) (by show g < _; omega)).trans h.s0, (hb.cell (p := ⟨g, 1, none⟩) (by show g < _; omega)).trans h.s1, h.bad.below hb, Kd.C_below h.fills hb, by omega⟩
theorem store_new (W : World) (B : Nat) (hB : B = W.heap.size) (u v : Value) (t : TypeId) (h1 : v.oneCell' = true) : (store ⟨B, 0, none⟩ v).run Tryd.prog (W.alloc (.cells #[u] t)) = .ok () (W.alloc (.cells #[v] t)) := by
  subst hB
  rw [run_store Tryd.prog (W.alloc (.cells #[u] t)) ⟨W.heap.size, 0, none⟩ v _ h1, World.cell?_alloc_at _ _ _ _ rfl]
  have hf : (W.alloc (.cells #[u] t)).frozen? ⟨W.heap.size, 0, none⟩ = false := Lib.frozen_of_heap (heap_alloc_new W (.cells #[u] t)) 0
  rw [hf, World.setCell_alloc_at _ _ _ _ _ rfl]
  rfl
set_option maxRecDepth 100000 in
set_option maxHeartbeats 4000000 in
theorem set_refuse (w : World) (C : List (List S56)) (M : List Int) (L : List S41) (ev : Int) (t l : S56) (Ac Am As At Al : Option Addr) (cc cm cs ct cl : Nat) (h : SetIn w C M L ev t l Ac Am As At Al cc cm cs ct cl) (hok : okSet C M L ev t l = false) :
    Calls Tryd.prog 16 #[.slice Ac C.length cc, .slice Am M.length cm, .agg #[.slice As L.length cs, .int .i64 ev], boxV t.f0 t.f1 t.f2 t.f3 t.f4 t.f5 At t.f6.length ct, boxV l.f0 l.f1 l.f2 l.f3 l.f4 l.f5 Al l.f6.length cl] w fun e w' => e = .returned (.tuple #[.slice none 0 0, .int .i64 1]) ∧ Below w.heap.size w w' := by
  have HP := pre_made w w.heap.size rfl As L.length cs ev t l At Al ct cl h.tn h.ln h.tk h.lk
  have HI := Lib.hid h
  have HOK := Lib.hid hok
  clear h hok
  simp only [boxC, List.cons_append, List.nil_append] at HP
  have HPP := Lib.hid HP
  clear HP
  have hst := store_new (((w.alloc (.cells #[.slice As L.length cs, .int .i64 ev] 24)).alloc (.cells #[.int .i64 t.f0, .int .i64 t.f1, .int .i64 t.f2, .int .i64 t.f3, .string t.f4, .string t.f5, .slice At t.f6.length ct] 56)).alloc (.cells #[.int .i64 l.f0, .int .i64 l.f1, .int .i64 l.f2, .int .i64 l.f3, .string l.f4, .string l.f5, .slice Al l.f6.length cl] 56)) (w.heap.size + 1 + 1 + 1) (by simp) .nilFunc (.func (.func 26) #[] #[]) 70 rfl
  go_enter Tryd.func16, Tryd.ntmps16
  go_wp2_with fail
  clear hst
  obtain ⟨W1, hW1⟩ : ∃ W, (((((w.alloc (.cells #[.slice As L.length cs, .int .i64 ev] 24)).alloc (.cells #[.int .i64 t.f0, .int .i64 t.f1, .int .i64 t.f2, .int .i64 t.f3, .string t.f4, .string t.f5, .slice At t.f6.length ct] 56)).alloc (.cells #[.int .i64 l.f0, .int .i64 l.f1, .int .i64 l.f2, .int .i64 l.f3, .string l.f4, .string l.f5, .slice Al l.f6.length cl] 56)).alloc (.cells #[.func (.func 26) #[] #[]] 70)).alloc (.cells #[.int .i64 t.f0, .int .i64 t.f1, .int .i64 t.f2, .int .i64 t.f3, .string t.f4, .string t.f5, .slice At t.f6.length ct, .int .i64 l.f0, .int .i64 l.f1, .int .i64 l.f2, .int .i64 l.f3, .string l.f4, .string l.f5, .slice Al l.f6.length cl] 56)) = W := ⟨_, rfl⟩
  rw [hW1] at HPP ⊢
  clear hW1
  have HI1 := Lib.hid (HI.out.below HPP.out.below)
  have hv := HPP.out.bad
  refine (tvalid_calls As cs L ev HI1.out.sn HI1.out.sb W1 HI1.out.s).mono ?_
  rintro e w2 ⟨rfl, hb2⟩
  have HI2 := Lib.hid (HI1.out.below hb2)
  have HS2 := Lib.hid (HPP.out.step hb2)
  have HB2 := Lib.hid hb2
  clear hb2 hv
  have hOK := HOK.out
  unfold okSet at hOK
  obtain ⟨b1, hb1⟩ : ∃ b, tvalidB L ev = b := ⟨_, rfl⟩
  rw [hb1] at hOK ⊢
  clear hb1
  cases b1
  · go_wp2_with fail
    go_ret2
    exact ⟨rfl, HS2.out.1⟩
  have HC26 := Lib.hid (ccell_calls 29 #[.pointer (some ⟨w.heap.size + 1 + 1 + 1, 0, none⟩)] e27 (fun x => x.any fun y => !validS y) Ac cc C HI2.out.c.2.1 HI2.out.cn w2 HI2.out.c HI2.out.cl63 (fn27_tells w2 _ HS2.out.2.2.2.1))
  obtain ⟨b2, hb2⟩ : ∃ b, (C.any fun c => c.any fun x => !validS x) = b := ⟨_, rfl⟩
  rw [hb2] at hOK HC26
  clear hb2
  go_wp2_with fail
  refine HC26.out.mono ?_
  rintro e w3 ⟨rfl, hb3⟩
  have HI3 := Lib.hid (HI2.out.below hb3)
  have HB3 := Lib.hid (HB2.out.trans (hb3.mono HB2.out.size))
  have HS3 := Lib.hid (HPP.out.step HB3.out)
  clear hb3
  cases b2
  case true =>
    go_wp2_with fail
    go_ret2
    exact ⟨rfl, HS3.out.1⟩
  have hn2 : ∀ x ∈ [t, l], x.f6.length ≤ 9223372036854775807 := fun x hx => by
    simp only [List.mem_cons, List.not_mem_nil, or_false] at hx
    rcases hx with rfl | rfl
    · exact HI3.out.tk.2.1
    · exact HI3.out.lk.2.1
  have HC28 := Lib.hid (cbox_calls 31 #[.pointer (some ⟨w.heap.size + 1 + 1 + 1, 0, none⟩)] e29 fillB (some ⟨w.heap.size + 1 + 1 + 1 + 1, 0, none⟩) 2 [t, l] (by simp) (by simp) w3 HS3.out.2.2.2.2.1 hn2 (fn29_tells w3 _ HS3.out.2.2.2.1))
  obtain ⟨b3, hb3⟩ : ∃ b, [t, l].any fillB = b := ⟨_, rfl⟩
  rw [hb3] at hOK HC28
  clear hb3 hn2
  go_wp2_with fail
  refine HC28.out.mono ?_
  rintro e w4 ⟨rfl, hb4⟩
  have HI4 := Lib.hid (HI3.out.below hb4)
  have HB4 := Lib.hid (HB3.out.trans (hb4.mono HB3.out.size))
  have HS4 := Lib.hid (HPP.out.step HB4.out)
  clear hb4
  cases b3
  case true =>
    go_wp2_with fail
    go_ret2
    exact ⟨rfl, HS4.out.1⟩
  have HC30 := Lib.hid (marks_calls Am cm M w4 HI4.out.m HI4.out.m.2.1)
  obtain ⟨b4, hb4⟩ : ∃ b, M.any markB = b := ⟨_, rfl⟩
  rw [hb4] at hOK HC30
  clear hb4
  go_wp2_with fail
  refine HC30.out.mono ?_
  rintro e w5 ⟨rfl, hb5⟩
  have HB5 := Lib.hid (HB4.out.trans (hb5.mono HB4.out.size))
  have HS5 := Lib.hid (HPP.out.step HB5.out)
  clear hb5
  cases b4
  case true =>
    go_wp2_with fail
    go_ret2
    exact ⟨rfl, HS5.out.1⟩
  simp only [Bool.not_false, Bool.true_and, decide_eq_false_iff_not] at hOK
  have hc63 : C.length ≤ 9223372036854775807 := HI4.out.c.2.1
  have hm63 : M.length ≤ 9223372036854775807 := HI4.out.m.2.1
  have hwr : wrap64 ((C.length : Int) - 1) = (C.length : Int) - 1 := wrap64_in _ (by omega) (by omega)
  go_wp2_with fail
  all_goals go_ret2
  all_goals exact ⟨rfl, HS5.out.1⟩
end Go.Proofs.YtmmfojaeahcohaaDoor

set_option linter.unusedVariables false
set_option linter.unusedSimpArgs false
namespace Go.Proofs.YtmmfojaeahcohaaDoor
open Go.Lib Go.RowKit Go.Proofs.YtmmfojaeahcohaaDoorW.PrintWords Go.Proofs.YtmmfojaeahcohaaDoor.PTabsNext

/-- Where a cell begins. -/
def beginL (L : List S41) (ev at_ w : Int) : Int :=
  (nextL L 0 ev at_).1 - (if (nextL L 0 ev at_).2.1 = 82 then w else if (nextL L 0 ev at_).2.1 = 67 then w / 2 else 0)
/-- What is laid ahead of a cell that is not the first, and its place. -/
def gapL (L : List S41) (ev : Int) (t l : S56) (m at_ w : Int) : List S56 × Int :=
  if (nextL L 0 ev at_).2.2 = true ∧ at_ < beginL L ev at_ w then (wayL (beginL L ev at_ w - at_) (if m = 0 then t else l), beginL L ev at_ w) else ([], at_)
/-- What stands behind i cells. -/
def stL (C : List (List S56)) (M : List Int) (L : List S41) (ev : Int) (t l : S56) : Nat → List S56 × Int
  | 0 => ([], 0)
  | i + 1 =>
    let s := stL C M L ev t l i
    let c := C.getD i []
    let g := if i = 0 then ([], s.2) else gapL L ev t l (M.getD (i - 1) 0) s.2 (widthL c)
    (s.1 ++ g.1 ++ c, g.2 + widthL c)
/-- How many boxes the first i cells have. -/
def sumL (C : List (List S56)) : Nat → Nat
  | 0 => 0
  | i + 1 => sumL C i + (C.getD i []).length
theorem sum_mono (C : List (List S56)) : ∀ i j, i ≤ j → sumL C i ≤ sumL C j
  | i, 0, h => by
    have : i = 0 := by omega
    subst this; exact Nat.le_refl _
  | i, j + 1, h => by
    by_cases e : i = j + 1
    · subst e; exact Nat.le_refl _
    · have := sum_mono C i j (by omega)
      show _ ≤ sumL C j + _
      omega
theorem wayL_len (far : Int) (x : S56) (hf : 0 < far) (hf2 : far ≤ 1000000000) : (wayL far x).length ≤ 1000000001 := by
  have := many_le far x hf hf2
  unfold wayL
  rw [List.length_append, List.length_replicate]
  split <;> simp <;> omega
/-- What keeps the numbers small. -/
structure Fine (C : List (List S56)) (L : List S41) (ev : Int) : Prop where
  wid : ∀ c ∈ C, Wid c
  stp : Stp L
  ev0 : 0 ≤ ev
  ev1 : ev ≤ 1000000
  n : C.length ≤ 200
  sum : sumL C C.length ≤ 200
theorem Fine.cell {C : List (List S56)} {L : List S41} {ev : Int} (h : Fine C L ev) (i : Nat) : Wid (C.getD i []) := by
  rw [List.getD_eq_getElem?_getD]
  cases hq : C[i]? with
  | none => exact fun x hx => by simp at hx
  | some c => exact h.wid c (List.mem_of_getElem? hq)
theorem begin_bound {C : List (List S56)} {L : List S41} {ev : Int} (h : Fine C L ev) (at_ w : Int) (k : Nat) (hk : k ≤ 200) (ha0 : -1000000000000 ≤ at_) (ha1 : at_ ≤ 1000000000) (hw0 : -(1000000 * (k : Int)) ≤ w) (hw1 : w ≤ 1000000 * (k : Int)) :
    beginL L ev at_ w ≤ max at_ 1000000 + 1000000 + 1000000 * (k : Int) ∧ -(1000000 * (k : Int)) ≤ beginL L ev at_ w := by
  have hb := next_bound L ev at_ h.stp h.ev0 h.ev1 ha0 (by omega) 0 (by omega) (by omega)
  unfold beginL
  obtain ⟨p, hp⟩ : ∃ p, (nextL L 0 ev at_).1 = p := ⟨_, rfl⟩
  rw [hp] at hb ⊢
  split
  · omega
  · split <;> omega
theorem st_bound {C : List (List S56)} {M : List Int} {L : List S41} {ev : Int} {t l : S56} (h : Fine C L ev) : ∀ i, i ≤ C.length →
    -(1000000 * (sumL C i : Int)) ≤ (stL C M L ev t l i).2 ∧ (stL C M L ev t l i).2 ≤ 1000000 * ((i : Int) + 1) + 2000000 * (sumL C i : Int) ∧ (stL C M L ev t l i).1.length ≤ i * 1000000300
  | 0, _ => by simp [stL, sumL]
  | i + 1, hi => by
    obtain ⟨h1, h2, h3⟩ := st_bound (M := M) (t := t) (l := l) h i (by omega)
    have hs := sum_mono C (i + 1) C.length hi
    have hs2 := h.sum
    have hn := h.n
    have e : sumL C (i + 1) = sumL C i + (C.getD i []).length := rfl
    have hw := widthL_b (C.getD i []) (h.cell i)
    have est : stL C M L ev t l (i + 1) = ((stL C M L ev t l i).1 ++ (if i = 0 then ([], (stL C M L ev t l i).2) else gapL L ev t l (M.getD (i - 1) 0) (stL C M L ev t l i).2 (widthL (C.getD i []))).1 ++ C.getD i [], (if i = 0 then ([], (stL C M L ev t l i).2) else gapL L ev t l (M.getD (i - 1) 0) (stL C M L ev t l i).2 (widthL (C.getD i []))).2 + widthL (C.getD i [])) := rfl
    rw [est, e]
    clear est
    obtain ⟨s, hs0⟩ : ∃ s, stL C M L ev t l i = s := ⟨_, rfl⟩
    rw [hs0] at h1 h2 h3 ⊢
    clear hs0
    obtain ⟨out, at_⟩ := s
    rw [e] at hs
    obtain ⟨W, hW⟩ : ∃ k, sumL C i = k := ⟨_, rfl⟩
    obtain ⟨k, hk⟩ : ∃ k, (C.getD i []).length = k := ⟨_, rfl⟩
    obtain ⟨w, hww⟩ : ∃ w, widthL (C.getD i []) = w := ⟨_, rfl⟩
    rw [hk, hww] at hw
    rw [hW, hk] at hs
    rw [hW] at h1 h2
    simp only at h1 h2 h3 ⊢
    rw [List.length_append, List.length_append, hk, hww, hW]
    obtain ⟨hw0, hw1⟩ := hw
    clear e hk hww hW
    by_cases h0 : i = 0
    · rw [if_pos h0]
      simp only [List.length_nil]
      refine ⟨by omega, by omega, ?_⟩
      rw [Nat.add_mul]
      omega
    · rw [if_neg h0]
      have hb := begin_bound h at_ w k (by omega) (by omega) (by omega) hw0 hw1
      unfold gapL
      split
      · rename_i hg
        have hl := wayL_len (beginL L ev at_ w - at_) (if M.getD (i - 1) 0 = 0 then t else l) (by omega) (by omega)
        simp only
        obtain ⟨b, hbb⟩ : ∃ b, beginL L ev at_ w = b := ⟨_, rfl⟩
        rw [hbb] at hb hg hl ⊢
        refine ⟨by omega, by omega, ?_⟩
        rw [Nat.add_mul]
        omega
      · simp only [List.length_nil]
        refine ⟨by omega, by omega, ?_⟩
        rw [Nat.add_mul]
        omega
end Go.Proofs.YtmmfojaeahcohaaDoor

set_option linter.unusedVariables false
set_option linter.unusedSimpArgs false
namespace Go.Proofs.YtmmfojaeahcohaaDoor
open Go.Shelf Go.RowKit Go.Lib Go.Aids Go.Opens Go.Proofs.YtmmfojaeahcohaaDoorW.PrintWords Go.Proofs.YtmmfojaeahcohaaDoor.PTabsNext

theorem own_empty28 (W : World) (base : Nat) (hb : base ≤ W.heap.size) (R : BoxR) : OwnRow R 56 7 (W.alloc (.cells #[] 56)) base (.slice (some ⟨W.heap.size, 0, none⟩) 0 0) [] :=
  ⟨[], World.ownsRow_lit W #[] 0 hb (by unfold maxLen; omega) rfl, Reps.none _ _⟩
set_option maxRecDepth 100000 in
set_option maxHeartbeats 1000000 in
theorem clone_calls (R : BoxR) (hR : OneC R) (A : Option Addr) (c : Nat) (qs : List S56) (hq : qs.length ≤ 900000000000) (w : World) (hC : ReadsRow R 7 w A qs.length qs) :
    Calls Tryd.prog 37 #[.slice A qs.length c] w fun e w' => ∃ v, e = .returned v ∧ OwnRow R 56 7 w' w.heap.size v qs ∧ Below w.heap.size w w' := by
  have HC := Lib.hid hC
  have HR := Lib.hid hR
  clear hR
  have q31 : ∀ (w : World) (a : Option Addr) (n c n' c' : Nat), (binOp .eql 57 (.slice a n c) (.slice none n' c')).run Tryd.prog w = .ok (.bool a.isNone) w := fun w a n c n' c' => Lib.run_eql_slice_nil w _ _ a n c n' c' Tryd.underlying57
  cases A with
  | none =>
    have h0 : qs = [] := by
      rcases Nat.eq_zero_or_pos qs.length with h | h
      · exact List.eq_nil_of_length_eq_zero h
      · obtain ⟨ad, h, _⟩ := hC.2.2 h
        cases h
    subst h0
    clear hC
    go_enter Tryd.func37, Tryd.ntmps37
    go_wp2_with fail
    go_ret
    exact ⟨_, rfl, OwnRow.none_ _ _ _ _ _, Below.refl _ _⟩
  | some ad =>
    clear hC
    have HB := Lib.hid ((Below.refl w.heap.size w).alloc (Nat.le_refl _) (.cells #[] 56))
    have HRD : Hid (ReadsRow R 7 (w.alloc (.cells #[] 56)) (some ad) qs.length qs) := Lib.hid (HC.out.imp_ HB.out (fun _ _ h => h))
    go_enter Tryd.func37, Tryd.ntmps37
    go_wp2_with (at_builtin; refine wpList_append_boxes R HR.out rfl _ _ rfl w.heap.size (.slice (some ⟨w.heap.size, 0, none⟩) 0 0) [] qs (by rfl) (own_empty28 w w.heap.size (Nat.le_refl _) R) (some ad) qs.length c (by rfl) rfl HRD.out (by simp; omega) HB.out.size ?_; intro v5 w5 ho5 hg5; have HO5 := Lib.hid ho5; have HB5 := Lib.hid (or_grown (own_empty28 w w.heap.size (Nat.le_refl _) R) HB.out HB.out.size hg5); clear ho5 hg5)
    go_ret
    exact ⟨_, rfl, by simpa using HO5.out, HB5.out⟩
/-- Ints that lie in another block are as they were. -/
theorem ints_move {W W1 : World} {A : Option Addr} {l : List Int} {g : Nat} (h : kI.C W A l.length l) (hA : ∀ ad, A = some ad → 0 < l.length → ad.block ≠ g) (hm : ∀ k, k ≠ g → k < W.heap.size → W1.heap[k]? = W.heap[k]?) : kI.C W1 A l.length l := by
  refine ⟨h.1, h.2.1, fun hn => ?_⟩
  obtain ⟨b, off, rfl, hb, hc⟩ := ints_at h hn
  have hne := hA _ rfl hn
  refine ⟨_, rfl, fun j p hj => ?_⟩
  obtain ⟨hjl, rfl⟩ := List.getElem?_eq_some_iff.1 hj
  refine ⟨[.int .i64 l[j]], rfl, rfl, fun i u hi => ?_⟩
  match i, hi with
  | 0, hi =>
    injection hi with hi
    subst hi
    have ead : ((⟨b, off, none⟩ : Addr).add (j * 1 + 0)) = ⟨b, off + j, none⟩ := by simp [Addr.add]
    rw [show kI.sz = 1 from rfl, ead]
    have := hc j hjl
    unfold World.cell? at this ⊢
    rw [hm b hne hb]
    exact this
  | i + 1, hi => simp at hi
end Go.Proofs.YtmmfojaeahcohaaDoor

set_option linter.unusedVariables false
set_option linter.unusedSimpArgs false
namespace Go.Proofs.YtmmfojaeahcohaaDoor
open Go.Shelf Go.RowKit Go.Lib Go.Aids Go.Opens Go.Proofs.YtmmfojaeahcohaaDoorW.PrintWords Go.Proofs.YtmmfojaeahcohaaDoor.PTabsNext

theorem cloneN_calls (A : Option Addr) (c : Nat) (l : List Int) (w : World) (hC : kI.C w A l.length l) (hl : l.length ≤ 1000) :
    Calls Tryd.prog 38 #[.slice A l.length c] w fun e w' => ∃ A' c', e = .returned (.slice A' l.length c') ∧ l.length ≤ c' ∧ kI.C w' A' l.length l ∧ (∀ ad, A' = some ad → 0 < l.length → w.heap.size ≤ ad.block) ∧ Below w.heap.size w w' := by
  rcases Nat.eq_zero_or_pos l.length with h0 | h0
  · have e : l = [] := List.eq_nil_of_length_eq_zero h0
    subst e
    cases A with
    | none =>
      refine (Tryd.slices_Clone_int_nil 0 c w).mono ?_
      rintro e w' ⟨rfl, rfl⟩
      exact ⟨none, 0, rfl, Nat.le_refl _, ⟨rfl, Nat.zero_le _, fun h => absurd h (Nat.lt_irrefl 0)⟩, fun ad (h : none = some ad) _ => (by cases h), Below.refl _ _⟩
    | some a =>
      refine (Tryd.slices_Clone_int_zero a c w).mono ?_
      rintro e w' ⟨v', rfl, ho, _, hb⟩
      obtain ⟨A', c', rfl⟩ := own_slice ho
      exact ⟨A', c', rfl, Nat.zero_le _, ⟨rfl, Nat.zero_le _, fun h => absurd h (Nat.lt_irrefl 0)⟩, fun ad _ h => absurd h (Nat.lt_irrefl 0), hb⟩
  · obtain ⟨b, off, rfl, hb, hc⟩ := ints_at hC h0
    refine (Tryd.slices_Clone_int b off l.length c l w (Nat.le_refl _) (by omega) (fun j hj => by rw [hc j hj]; simp [List.getD, hj])).mono ?_
    rintro e w' ⟨v', rfl, ho, _, hb'⟩
    rw [List.take_of_length_le (Nat.le_refl _)] at ho
    obtain ⟨g, cap, rfl, hg1, hg2⟩ := ho.form h0
    have hcap : l.length ≤ cap := own_cap ho
    refine ⟨_, _, rfl, hcap, ⟨rfl, hC.2.1, fun _ => ⟨_, rfl, fun j p hj => ?_⟩⟩, fun ad h _ => by injection h with h; subst h; exact hg1, hb'⟩
    obtain ⟨hjl, rfl⟩ := List.getElem?_eq_some_iff.1 hj
    refine ⟨[.int .i64 l[j]], rfl, rfl, fun i u hi => ?_⟩
    match i, hi with
    | 0, hi =>
      injection hi with hi
      subst hi
      have ead : ((⟨g, 0, none⟩ : Addr).add (j * 1 + 0)) = ⟨g, j, none⟩ := by
        simp [Addr.add]
        intro h; omega
      rw [show kI.sz = 1 from rfl, ead, ho.cellAt j (by omega), List.getElem?_map, List.getElem?_eq_getElem hjl]
      rfl
    | i + 1, hi => simp at hi
/-- A row of boxes of the call's own, whose numbers lie elsewhere. -/
structure RowOK (w : World) (g : Nat) (out : List S56) : Prop where
  ex : ∃ cur : Array Value, w.heap[g]? = some (.cells cur 56 (0, 0)) ∧ ∀ k (hk : k < out.length), ∃ A c, cur[k * 7]? = some (.int .i64 out[k].f0) ∧ cur[k * 7 + 1]? = some (.int .i64 out[k].f1) ∧ cur[k * 7 + 2]? = some (.int .i64 out[k].f2) ∧ cur[k * 7 + 3]? = some (.int .i64 out[k].f3) ∧ cur[k * 7 + 4]? = some (.string out[k].f4) ∧ cur[k * 7 + 5]? = some (.string out[k].f5) ∧ cur[k * 7 + 6]? = some (.slice A out[k].f6.length c) ∧ out[k].f6.length ≤ c ∧ kI.C w A out[k].f6.length out[k].f6 ∧ (∀ ad, A = some ad → 0 < out[k].f6.length → ad.block ≠ g)
theorem RowOK.below {w w1 : World} {g : Nat} {out : List S56} (h : RowOK w g out) (hb : Below w.heap.size w w1) : RowOK w1 g out := by
  obtain ⟨cur, hg, hk⟩ := h.ex
  have hlt : g < w.heap.size := (Array.getElem?_eq_some_iff.1 hg).1
  refine ⟨cur, (hb.block g hlt).trans hg, fun k hkl => ?_⟩
  obtain ⟨A, c, c0, c1, c2, c3, c4, c5, c6, l6, g6, ne⟩ := hk k hkl
  exact ⟨A, c, c0, c1, c2, c3, c4, c5, c6, l6, Kd.C_below g6 hb, ne⟩
theorem RowOK.put {w : World} {g : Nat} {out : List S56} (h : RowOK w g out) (j : Nat) (hj : j < out.length) (A' : Option Addr) (c' : Nat) (hc' : out[j].f6.length ≤ c') (hC : kI.C w A' out[j].f6.length out[j].f6) (hne : ∀ ad, A' = some ad → 0 < out[j].f6.length → ad.block ≠ g) :
    RowOK (w.setCell ⟨g, j * 7 + 6, none⟩ (.slice A' out[j].f6.length c')) g out := by
  obtain ⟨cur, hg, hk⟩ := h.ex
  have hmv : ∀ k, k ≠ g → k < w.heap.size → (w.setCell ⟨g, j * 7 + 6, none⟩ (.slice A' out[j].f6.length c')).heap[k]? = w.heap[k]? := fun k hk _ => Below.heap_setCell _ _ _ _ hk
  refine ⟨cur.setIfInBounds (j * 7 + 6) (.slice A' out[j].f6.length c'), ?_, fun k hkl => ?_⟩
  · simp [World.setCell, Array.getElem?_modify, hg]
  · obtain ⟨A, c, c0, c1, c2, c3, c4, c5, c6, l6, g6, ne⟩ := hk k hkl
    have hs : ∀ i v, i ≠ j * 7 + 6 → cur[i]? = v → (cur.setIfInBounds (j * 7 + 6) (.slice A' out[j].f6.length c'))[i]? = v := fun i v hi hv => by
      rw [Array.getElem?_setIfInBounds, if_neg (fun e => hi e.symm)]; exact hv
    by_cases e : k = j
    · subst e
      have hin : k * 7 + 6 < cur.size := (Array.getElem?_eq_some_iff.1 c6).1
      exact ⟨A', c', hs _ _ (by omega) c0, hs _ _ (by omega) c1, hs _ _ (by omega) c2, hs _ _ (by omega) c3, hs _ _ (by omega) c4, hs _ _ (by omega) c5, by rw [Array.getElem?_setIfInBounds, if_pos rfl, if_pos hin], hc', ints_move hC hne hmv, hne⟩
    · exact ⟨A, c, hs _ _ (by omega) c0, hs _ _ (by omega) c1, hs _ _ (by omega) c2, hs _ _ (by omega) c3, hs _ _ (by omega) c4, hs _ _ (by omega) c5, hs _ _ (by omega) c6, l6, ints_move g6 ne hmv, ne⟩
theorem RowOK.read {w : World} {g : Nat} {out : List S56} (h : RowOK w g out) (hn : out.length ≤ 9223372036854775807) : Kd.C k56 w (some ⟨g, 0, none⟩) out.length out := by
  obtain ⟨cur, hg, hk⟩ := h.ex
  refine ⟨rfl, hn, fun _ => ⟨_, rfl, fun j p hj => ?_⟩⟩
  obtain ⟨hjl, rfl⟩ := List.getElem?_eq_some_iff.1 hj
  obtain ⟨A, c, c0, c1, c2, c3, c4, c5, c6, l6, g6, ne⟩ := hk j hjl
  refine ⟨boxC out[j] A c, rfl, box_K w out[j] A c l6 g6, fun i u hi => ?_⟩
  have ead : ∀ q, ((⟨g, 0, none⟩ : Addr).add q) = ⟨g, q, none⟩ := fun q => by
    simp [Addr.add]
    intro h; omega
  rw [show k56.sz = 7 from rfl, ead, Lib.cell_of_heap hg]
  match i, hi with
  | 0, hi => injection hi with hi; subst hi; exact c0
  | 1, hi => injection hi with hi; subst hi; exact c1
  | 2, hi => injection hi with hi; subst hi; exact c2
  | 3, hi => injection hi with hi; subst hi; exact c3
  | 4, hi => injection hi with hi; subst hi; exact c4
  | 5, hi => injection hi with hi; subst hi; exact c5
  | 6, hi => injection hi with hi; subst hi; exact c6
  | i + 7, hi => simp [boxC] at hi
/-- A row whose numbers lie in an elder world. -/
theorem RowOK.of {w W : World} {base g n cap : Nat} {out : List S56} (h : OwnRow (k56.K w) 56 7 W base (.slice (some ⟨g, 0, none⟩) n cap) out) (hb : Below w.heap.size w W) (hbase : w.heap.size ≤ base) : RowOK W g out := by
  obtain ⟨inner, ho, hr⟩ := h
  have hgb := own_base ho g rfl
  rcases ho.2 with ⟨e, _⟩ | ⟨g', cap', cur, e, _, hg, _, _, hcs, htake⟩
  · cases e
  injection e with e1 e2 e3
  injection e1 with e1
  injection e1 with e1
  subst e1
  refine ⟨cur, hg, fun k hk => ?_⟩
  have hlen := hr.1
  obtain ⟨A, c, e, l6, g6⟩ := k56_open (hr.2 k _ (List.getElem?_eq_getElem hk))
  have hcell : ∀ i (hi : i < 7), cur[k * 7 + i]? = ((inner.drop (k * 7)).take 7)[i]? := fun i hi => by
    rw [List.getElem?_take, if_pos hi, List.getElem?_drop, ← htake, List.getElem?_take, if_pos (by omega), Array.getElem?_toList]
  rw [e] at hcell
  have hA : ∀ ad, A = some ad → 0 < out[k].f6.length → ad.block ≠ g := fun ad hA hp => by
    obtain ⟨b, off, hA2, hb2, _⟩ := ints_at g6 hp
    rw [hA2] at hA
    injection hA with hA
    subst hA
    show b ≠ g
    omega
  exact ⟨A, c, hcell 0 (by omega), hcell 1 (by omega), hcell 2 (by omega), hcell 3 (by omega), hcell 4 (by omega), hcell 5 (by omega), hcell 6 (by omega), l6, Kd.C_below g6 hb, hA⟩
/-- Boxes that have few numbers. -/
def Few (L : List S56) : Prop := ∀ x ∈ L, x.f6.length ≤ 40
theorem validS_n (x : S56) (h : validS x = true) : x.f6.length ≤ 40 := by
  unfold validS validB at h
  split at h
  · cases h
  rw [Bool.and_eq_true] at h
  have h := h.2
  unfold kindB bareB at h
  repeat' split at h
  all_goals first | (simp only [Bool.and_eq_true, decide_eq_true_eq] at h; omega) | (cases h; done)
theorem fillB_n (x : S56) (h : fillB x = false) : x.f6.length ≤ 40 := by
  unfold fillB at h
  rw [Bool.or_eq_false_iff] at h
  exact validS_n x (by simpa using h.1)
theorem wayL_few (far : Int) (x : S56) (h : x.f6.length ≤ 40) : Few (wayL far x) := by
  intro y hy
  unfold wayL at hy
  rw [List.mem_append] at hy
  rcases hy with hy | hy
  · split at hy
    · cases hy
    · rw [List.mem_singleton] at hy
      subst hy
      show ([] : List Int).length ≤ 40
      simp
  · rw [List.mem_replicate] at hy
    rw [hy.2]; exact h
theorem stL_few {C : List (List S56)} {M : List Int} {L : List S41} {ev : Int} {t l : S56} (hC : ∀ c ∈ C, Few c) (ht : t.f6.length ≤ 40) (hl : l.f6.length ≤ 40) : ∀ i, Few (stL C M L ev t l i).1
  | 0 => fun x hx => by cases hx
  | i + 1 => by
    have ih := stL_few (M := M) (L := L) (ev := ev) hC ht hl i
    have hc : Few (C.getD i []) := by
      rw [List.getD_eq_getElem?_getD]
      cases hq : C[i]? with
      | none => exact fun x hx => by simp at hx
      | some c => exact hC c (List.mem_of_getElem? hq)
    have hg : Few (if i = 0 then ([], (stL C M L ev t l i).2) else gapL L ev t l (M.getD (i - 1) 0) (stL C M L ev t l i).2 (widthL (C.getD i []))).1 := by
      split
      · exact fun x hx => by cases hx
      · unfold gapL
        split
        · refine wayL_few _ _ ?_
          split
          · exact ht
          · exact hl
        · exact fun x hx => by cases hx
    intro x hx
    have e : (stL C M L ev t l (i + 1)).1 = (stL C M L ev t l i).1 ++ (if i = 0 then ([], (stL C M L ev t l i).2) else gapL L ev t l (M.getD (i - 1) 0) (stL C M L ev t l i).2 (widthL (C.getD i []))).1 ++ C.getD i [] := rfl
    rw [e, List.mem_append, List.mem_append] at hx
    rcases hx with (hx | hx) | hx
    · exact ih x hx
    · exact hg x hx
    · exact hc x hx
end Go.Proofs.YtmmfojaeahcohaaDoor

set_option linter.unusedVariables false
set_option linter.unusedSimpArgs false
namespace Go.Proofs.YtmmfojaeahcohaaDoor
open Go.Shelf Go.RowKit Go.Lib Go.Aids Go.Opens Go.Proofs.YtmmfojaeahcohaaDoorW.PrintWords Go.Proofs.YtmmfojaeahcohaaDoor.PTabsNext

theorem fillB_w (x : S56) (h : fillB x = false) : -1000000 ≤ x.f1 ∧ x.f1 ≤ 1000000 := by
  unfold fillB at h
  rw [Bool.or_eq_false_iff] at h
  have hv : validS x = true := by simpa using h.1
  unfold validS validB at hv
  split at hv
  · cases hv
  · omega
set_option maxRecDepth 100000 in
set_option maxHeartbeats 4000000 in
theorem set_ok (w : World) (C : List (List S56)) (M : List Int) (L : List S41) (ev : Int) (t l : S56) (Ac Am As At Al : Option Addr) (cc cm cs ct cl : Nat) (h : SetIn w C M L ev t l Ac Am As At Al cc cm cs ct cl) (hok : okSet C M L ev t l = true) (hF : Fine C L ev) :
    Calls Tryd.prog 16 #[.slice Ac C.length cc, .slice Am M.length cm, .agg #[.slice As L.length cs, .int .i64 ev], boxV t.f0 t.f1 t.f2 t.f3 t.f4 t.f5 At t.f6.length ct, boxV l.f0 l.f1 l.f2 l.f3 l.f4 l.f5 Al l.f6.length cl] w fun e w' => ∃ A n, e = .returned (.tuple #[.slice A (stL C M L ev t l C.length).1.length n, .int .i64 0]) ∧ (stL C M L ev t l C.length).1.length ≤ n ∧ Kd.C k56 w' A (stL C M L ev t l C.length).1.length (stL C M L ev t l C.length).1 ∧ Below w.heap.size w w' := by
  have HP := pre_made w w.heap.size rfl As L.length cs ev t l At Al ct cl h.tn h.ln h.tk h.lk
  have HI := Lib.hid h
  have HOK := Lib.hid hok
  have HF := Lib.hid hF
  clear h hok hF
  simp only [boxC, List.cons_append, List.nil_append] at HP
  have HPP := Lib.hid HP
  clear HP
  have HFH : Hid ((((((w.alloc (.cells #[.slice As L.length cs, .int .i64 ev] 24)).alloc (.cells #[.int .i64 t.f0, .int .i64 t.f1, .int .i64 t.f2, .int .i64 t.f3, .string t.f4, .string t.f5, .slice At t.f6.length ct] 56)).alloc (.cells #[.int .i64 l.f0, .int .i64 l.f1, .int .i64 l.f2, .int .i64 l.f3, .string l.f4, .string l.f5, .slice Al l.f6.length cl] 56)).alloc (.cells #[.func (.func 26) #[] #[]] 70)).alloc (.cells #[.int .i64 t.f0, .int .i64 t.f1, .int .i64 t.f2, .int .i64 t.f3, .string t.f4, .string t.f5, .slice At t.f6.length ct, .int .i64 l.f0, .int .i64 l.f1, .int .i64 l.f2, .int .i64 l.f3, .string l.f4, .string l.f5, .slice Al l.f6.length cl] 56)).heap[w.heap.size + 1 + 1 + 1 + 1]? = some (.cells #[.int .i64 t.f0, .int .i64 t.f1, .int .i64 t.f2, .int .i64 t.f3, .string t.f4, .string t.f5, .slice At t.f6.length ct, .int .i64 l.f0, .int .i64 l.f1, .int .i64 l.f2, .int .i64 l.f3, .string l.f4, .string l.f5, .slice Al l.f6.length cl] 56 (0, 0))) := Lib.hid (by
    have := heap_alloc_new ((((w.alloc (.cells #[.slice As L.length cs, .int .i64 ev] 24)).alloc (.cells #[.int .i64 t.f0, .int .i64 t.f1, .int .i64 t.f2, .int .i64 t.f3, .string t.f4, .string t.f5, .slice At t.f6.length ct] 56)).alloc (.cells #[.int .i64 l.f0, .int .i64 l.f1, .int .i64 l.f2, .int .i64 l.f3, .string l.f4, .string l.f5, .slice Al l.f6.length cl] 56)).alloc (.cells #[.func (.func 26) #[] #[]] 70)) (.cells #[.int .i64 t.f0, .int .i64 t.f1, .int .i64 t.f2, .int .i64 t.f3, .string t.f4, .string t.f5, .slice At t.f6.length ct, .int .i64 l.f0, .int .i64 l.f1, .int .i64 l.f2, .int .i64 l.f3, .string l.f4, .string l.f5, .slice Al l.f6.length cl] 56)
    simpa using this)
  have hst := store_new (((w.alloc (.cells #[.slice As L.length cs, .int .i64 ev] 24)).alloc (.cells #[.int .i64 t.f0, .int .i64 t.f1, .int .i64 t.f2, .int .i64 t.f3, .string t.f4, .string t.f5, .slice At t.f6.length ct] 56)).alloc (.cells #[.int .i64 l.f0, .int .i64 l.f1, .int .i64 l.f2, .int .i64 l.f3, .string l.f4, .string l.f5, .slice Al l.f6.length cl] 56)) (w.heap.size + 1 + 1 + 1) (by simp) .nilFunc (.func (.func 26) #[] #[]) 70 rfl
  go_enter Tryd.func16, Tryd.ntmps16
  go_wp2_with fail
  clear hst
  obtain ⟨W1, hW1⟩ : ∃ W, (((((w.alloc (.cells #[.slice As L.length cs, .int .i64 ev] 24)).alloc (.cells #[.int .i64 t.f0, .int .i64 t.f1, .int .i64 t.f2, .int .i64 t.f3, .string t.f4, .string t.f5, .slice At t.f6.length ct] 56)).alloc (.cells #[.int .i64 l.f0, .int .i64 l.f1, .int .i64 l.f2, .int .i64 l.f3, .string l.f4, .string l.f5, .slice Al l.f6.length cl] 56)).alloc (.cells #[.func (.func 26) #[] #[]] 70)).alloc (.cells #[.int .i64 t.f0, .int .i64 t.f1, .int .i64 t.f2, .int .i64 t.f3, .string t.f4, .string t.f5, .slice At t.f6.length ct, .int .i64 l.f0, .int .i64 l.f1, .int .i64 l.f2, .int .i64 l.f3, .string l.f4, .string l.f5, .slice Al l.f6.length cl] 56)) = W := ⟨_, rfl⟩
  rw [hW1] at HPP HFH ⊢
  clear hW1
  have HI1 := Lib.hid (HI.out.below HPP.out.below)
  have hv := HPP.out.bad
  refine (tvalid_calls As cs L ev HI1.out.sn HI1.out.sb W1 HI1.out.s).mono ?_
  rintro e w2 ⟨rfl, hb2⟩
  have HI2 := Lib.hid (HI1.out.below hb2)
  have HS2 := Lib.hid (HPP.out.step hb2)
  have HB2 := Lib.hid hb2
  clear hb2 hv
  have hOK := HOK.out
  unfold okSet at hOK
  obtain ⟨b1, hb1⟩ : ∃ b, tvalidB L ev = b := ⟨_, rfl⟩
  rw [hb1] at hOK ⊢
  clear hb1
  cases b1
  · cases hOK
  have HC26 := Lib.hid (ccell_calls 29 #[.pointer (some ⟨w.heap.size + 1 + 1 + 1, 0, none⟩)] e27 (fun x => x.any fun y => !validS y) Ac cc C HI2.out.c.2.1 HI2.out.cn w2 HI2.out.c HI2.out.cl63 (fn27_tells w2 _ HS2.out.2.2.2.1))
  obtain ⟨b2, hb2⟩ : ∃ b, (C.any fun c => c.any fun x => !validS x) = b := ⟨_, rfl⟩
  rw [hb2] at hOK HC26
  clear hb2
  go_wp2_with fail
  refine HC26.out.mono ?_
  rintro e w3 ⟨rfl, hb3⟩
  have HI3 := Lib.hid (HI2.out.below hb3)
  have HB3 := Lib.hid (HB2.out.trans (hb3.mono HB2.out.size))
  have HS3 := Lib.hid (HPP.out.step HB3.out)
  clear hb3
  cases b2
  case true => cases hOK
  have hn2 : ∀ x ∈ [t, l], x.f6.length ≤ 9223372036854775807 := fun x hx => by
    simp only [List.mem_cons, List.not_mem_nil, or_false] at hx
    rcases hx with rfl | rfl
    · exact HI3.out.tk.2.1
    · exact HI3.out.lk.2.1
  have HC28 := Lib.hid (cbox_calls 31 #[.pointer (some ⟨w.heap.size + 1 + 1 + 1, 0, none⟩)] e29 fillB (some ⟨w.heap.size + 1 + 1 + 1 + 1, 0, none⟩) 2 [t, l] (by simp) (by simp) w3 HS3.out.2.2.2.2.1 hn2 (fn29_tells w3 _ HS3.out.2.2.2.1))
  obtain ⟨b3, hb3⟩ : ∃ b, [t, l].any fillB = b := ⟨_, rfl⟩
  rw [hb3] at hOK HC28
  clear hb3 hn2
  go_wp2_with fail
  refine HC28.out.mono ?_
  rintro e w4 ⟨rfl, hb4⟩
  have HI4 := Lib.hid (HI3.out.below hb4)
  have HB4 := Lib.hid (HB3.out.trans (hb4.mono HB3.out.size))
  have HS4 := Lib.hid (HPP.out.step HB4.out)
  clear hb4
  cases b3
  case true => cases hOK
  have HC30 := Lib.hid (marks_calls Am cm M w4 HI4.out.m HI4.out.m.2.1)
  obtain ⟨b4, hb4⟩ : ∃ b, M.any markB = b := ⟨_, rfl⟩
  rw [hb4] at hOK HC30
  clear hb4
  go_wp2_with fail
  refine HC30.out.mono ?_
  rintro e w5 ⟨rfl, hb5⟩
  have HB5 := Lib.hid (HB4.out.trans (hb5.mono HB4.out.size))
  have HS5 := Lib.hid (HPP.out.step HB5.out)
  clear hb5
  cases b4
  case true => cases hOK
  simp only [Bool.not_false, Bool.true_and, decide_eq_true_eq] at hOK
  have hc63 : C.length ≤ 9223372036854775807 := HI4.out.c.2.1
  have hm63 : M.length ≤ 9223372036854775807 := HI4.out.m.2.1
  have hwr : wrap64 ((C.length : Int) - 1) = (C.length : Int) - 1 := wrap64_in _ (by omega) (by omega)
  have HV0 := Lib.hid (show OwnRow (k56.K w) 56 7 w5 w5.heap.size (.slice none 0 0) [] from OwnRow.none_ _ _ _ _ _)
  go_wp2_with fail
  have HM := Lib.hid hOK
  have hok2 := HOK.out
  unfold okSet at hok2
  simp only [Bool.and_eq_true, Bool.not_eq_true'] at hok2
  obtain ⟨ok1, ok2, ok3, ok4, ok5⟩ := hok2
  have HFL : Hid (L.length ≤ 1000000) := Lib.hid (by
    unfold tvalidB at ok1
    simp only [Bool.and_eq_true, decide_eq_true_eq] at ok1
    have := ok1.2.1
    omega)
  have hfl2 : fillB t = false ∧ fillB l = false := by simpa using ok3
  have HTW := Lib.hid (fillB_w t hfl2.1)
  have HLW := Lib.hid (fillB_w l hfl2.2)
  have HMK : Hid (∀ m ∈ M, m = 0 ∨ m = 1) := Lib.hid (fun m hm => by
    have := List.any_eq_false.1 ok4 m hm
    unfold markB at this
    simp at this
    omega)
  have HFEW : Hid (∀ i, Few (stL C M L ev t l i).1) := Lib.hid (stL_few (fun c hc x hx => by
    have h1 := List.any_eq_false.1 ok2 c hc
    have h2 : ¬ ((!validS x) = true) := fun h => h1 (List.any_eq_true.2 ⟨x, hx, h⟩)
    exact validS_n x (by simpa using h2)) (fillB_n t hfl2.1) (fillB_n l hfl2.2))
  clear ok1 ok2 ok3 ok4 ok5 hfl2
  clear hOK hwr HC26 HC28 HC30
  go_loopg [14, 15, 47] C.length (fun gk s14 s15 s47 wx => ∃ i : Nat, i + gk = C.length ∧ s47 = .int .i64 i ∧ s15 = .int .i64 (stL C M L ev t l i).2 ∧ Hid (OwnRow (k56.K w) 56 7 wx w5.heap.size s14 (stL C M L ev t l i).1) ∧ Hid (Below w5.heap.size w5 wx))
  case atStart => exact ⟨0, by omega, rfl, rfl, HV0, Lib.hid (Below.refl _ _)⟩
  case round =>
    obtain ⟨i, hi, rfl, rfl, HO, HB⟩ := hrel
    by_cases hlt : i < C.length
    · have i0 : (i : Int) < C.length := by omega
      obtain ⟨g', rfl⟩ : ∃ g', gk = g' + 1 := ⟨gk - 1, by omega⟩
      have HSr := Lib.hid (HPP.out.step (HB5.out.trans (HB.out.mono HB5.out.size)))
      have HIr := Lib.hid (HI.out.below HSr.out.1)
      obtain ⟨b, off, rfl, hbl, hcell⟩ := cells_at HI.out.c (by omega)
      obtain ⟨A6, c6, c0, l6, g6⟩ := hcell i hlt
      have c0r := (HSr.out.1.cell (p := ⟨b, off + i, none⟩) hbl).trans c0
      have hblr : b < wr.heap.size := Nat.lt_of_lt_of_le hbl HSr.out.1.size
      have hst : stL C M L ev t l (i + 1) = ((stL C M L ev t l i).1 ++ (if i = 0 then ([], (stL C M L ev t l i).2) else gapL L ev t l (M.getD (i - 1) 0) (stL C M L ev t l i).2 (widthL C[i])).1 ++ C[i], (if i = 0 then ([], (stL C M L ev t l i).2) else gapL L ev t l (M.getD (i - 1) 0) (stL C M L ev t l i).2 (widthL C[i])).2 + widthL C[i]) := by
        have hg : C.getD i [] = C[i] := by simp [List.getD, hlt]
        rw [← hg]; rfl
      have hbd := st_bound (M := M) (t := t) (l := l) HF.out i (by omega)
      have hbd2 := st_bound (M := M) (t := t) (l := l) HF.out (i + 1) (by omega)
      have hwid := HF.out.wid _ (List.getElem_mem hlt)
      have hsum1 := sum_mono C i C.length (by omega)
      have hsum2 := sum_mono C (i + 1) C.length (by omega)
      have hsum3 := HF.out.sum
      have hcn := HF.out.n
      have hlen : sumL C (i + 1) = sumL C i + C[i].length := by
        have hg : C.getD i [] = C[i] := by simp [List.getD, hlt]
        show sumL C i + (C.getD i []).length = _
        rw [hg]
      obtain ⟨y, hy⟩ : ∃ y, C[i] = y := ⟨_, rfl⟩
      rw [hy] at hst hwid hlen c0r l6 g6
      have hy200 : y.length ≤ 200 := by omega
      have HRw := Lib.hid g6
      have HWC := Lib.hid (fun W hC => width_calls A6 c6 y hwid (by omega) W hC l6)
      have hww := widthL_b y hwid
      obtain ⟨w_, hw_⟩ : ∃ w_, widthL y = w_ := ⟨_, rfl⟩
      rw [hw_] at hst HWC hww
      rw [hst] at hbd2
      have HST0 := Lib.hid hst
      clear hst hcell c0 g6 hy hw_ hbl
      obtain ⟨s, hs⟩ : ∃ s, stL C M L ev t l i = s := ⟨_, rfl⟩
      rw [hs] at HST0 hbd hbd2 HO
      simp only [hs]
      clear hs
      obtain ⟨out, at_⟩ := s
      simp only at HST0 hbd hbd2 HO ⊢
      go_wp2_with fail
      refine (HWC.out _ (Kd.C_below HRw.out HSr.out.1)).mono ?_
      rintro e w6 ⟨rfl, hb6⟩
      have HB6 := Lib.hid (HB.out.trans (hb6.mono HB.out.size))
      have HO6 := Lib.hid (OwnRow.below HO.out hb6)
      have HS6 := Lib.hid (HPP.out.step (HB5.out.trans (HB6.out.mono HB5.out.size)))
      clear hb6
      by_cases hi0 : i = 0
      · have i1 : ¬ (0 : Int) < i := by omega
        have HST : Hid (stL C M L ev t l (i + 1) = (out ++ y, at_ + w_)) := Lib.hid (by rw [HST0.out, if_pos hi0]; simp)
        have HRT : Hid (ReadsRow (k56.K w) 7 w6 A6 y.length y) := Lib.hid (HRw.out.imp_ HS6.out.1 (fun _ _ h => h))
        have hwa : wrap64 (at_ + w_) = at_ + w_ := wrap64_in _ (by omega) (by omega)
        go_wp2_with (at_builtin; refine wpList_append_boxes (k56.K w) (oneC_K w) rfl _ _ rfl w5.heap.size u14 out y (by rfl) HO6.out A6 y.length c6 (by rfl) rfl HRT.out (by omega) HB6.out.size ?_; intro v8 w8 ho8 hg8; have HO8 := Lib.hid ho8; have HB8 := Lib.hid (or_grown HO6.out HB6.out HB6.out.size hg8); clear ho8 hg8)
        go_roundg g'
        case measure => omega
        case rel => exact ⟨i + 1, by omega, by go_num, by first | (rw [HST.out]; done) | (rw [HST.out]; simp), Lib.hid (by rw [HST.out]; exact HO8.out), HB8⟩
      · have i1 : (0 : Int) < i := by omega
        have hN := next_bound L ev at_ HF.out.stp HF.out.ev0 HF.out.ev1 (by omega) (by omega) 0 (by omega) (by omega)
        have HNX := Lib.hid (next_calls As cs L ev at_ HF.out.stp HFL.out HF.out.ev0 HF.out.ev1 (by omega) (by omega) w6 (HI.out.below HS6.out.1).s (HI.out.sn))
        have d0 := HS6.out.2.1
        have d1 := HS6.out.2.2.1
        have d2 := HS6.out.2.2.2.2.2
        have HST1 : Hid (stL C M L ev t l (i + 1) = (out ++ (gapL L ev t l (M.getD (i - 1) 0) at_ w_).1 ++ y, (gapL L ev t l (M.getD (i - 1) 0) at_ w_).2 + w_)) := Lib.hid (by rw [HST0.out, if_neg hi0])
        have HGP : Hid (gapL L ev t l (M.getD (i - 1) 0) at_ w_ = if (nextL L 0 ev at_).2.2 = true ∧ at_ < beginL L ev at_ w_ then (wayL (beginL L ev at_ w_ - at_) (if M.getD (i - 1) 0 = 0 then t else l), beginL L ev at_ w_) else ([], at_)) := Lib.hid rfl
        have HBG : Hid ((nextL L 0 ev at_).1 - (if (nextL L 0 ev at_).2.1 = 82 then w_ else if (nextL L 0 ev at_).2.1 = 67 then w_ / 2 else 0) = beginL L ev at_ w_) := Lib.hid rfl
        obtain ⟨bg, hbgn⟩ : ∃ b, beginL L ev at_ w_ = b := ⟨_, rfl⟩
        obtain ⟨p, hp⟩ : ∃ b, (nextL L 0 ev at_).1 = b := ⟨_, rfl⟩
        obtain ⟨kd, hkd⟩ : ∃ b, (nextL L 0 ev at_).2.1 = b := ⟨_, rfl⟩
        obtain ⟨q, hq⟩ : ∃ b, (nextL L 0 ev at_).2.2 = b := ⟨_, rfl⟩
        rw [hbgn, hq] at HGP
        rw [hbgn, hp, hkd] at HBG
        rw [hp] at hN
        rw [hp, hkd, hq] at HNX
        rw [HGP.out] at HST1
        clear hbgn hp hkd hq hbd2
        go_wp2_with fail
        refine HNX.out.mono ?_
        rintro e w7 ⟨rfl, hb7⟩
        have HB7 := Lib.hid (HB6.out.trans (hb7.mono HB6.out.size))
        have HO7 := Lib.hid (OwnRow.below HO6.out hb7)
        clear hb7 d0 d1 d2
        by_cases k80 : kd = 82
        · subst k80
          have hbg : Hid (bg = p - w_) := Lib.hid (by rw [← HBG.out, if_pos rfl])
          have hbg2 := hbg.out
          clear hbg
          subst hbg2
          have HBX := Lib.hid (HB7.out.alloc HB7.out.size (.cells #[.int .i64 p, .int .u8 82] 41))
          have HOX := Lib.hid (OwnRow.below HO7.out ((Below.refl _ _).alloc (Nat.le_refl _) (.cells #[.int .i64 p, .int .u8 82] 41)))
          have HSX := Lib.hid (HPP.out.step (HB5.out.trans (HBX.out.mono HB5.out.size)))
          by_cases hg : q = true ∧ at_ < p - w_
          · obtain ⟨hq1, hg2⟩ := hg
            subst hq1
            have hMl := HM.out
            have him : i - 1 < M.length := by omega
            obtain ⟨bm, om, rfl, hbm, hmc⟩ := ints_at HI.out.m (by omega)
            have mc := (HSX.out.1.cell (p := ⟨bm, om + (i - 1), none⟩) hbm).trans (hmc (i - 1) him)
            have hbm2 : bm < (w7.alloc (.cells #[.int .i64 p, .int .u8 82] 41)).heap.size := Nat.lt_of_lt_of_le hbm HSX.out.1.size
            have hmv := HMK.out _ (List.getElem_mem him)
            have hgd : M.getD (i - 1) 0 = M[i - 1] := by simp [List.getD, him]
            obtain ⟨mv, hmv2⟩ : ∃ m, M[i - 1] = m := ⟨_, rfl⟩
            rw [hmv2] at mc hmv hgd
            have HMV := Lib.hid hgd
            clear hgd hmv2
            have e1 : ((i : Int) - 1).toNat = i - 1 := by omega
            have e2 : 0 ≤ (i : Int) - 1 := by omega
            have e3 : (i : Int) - 1 < M.length := by omega
            have e4 : wrap64 ((i : Int) - 1) = (i : Int) - 1 := wrap64_in _ (by omega) (by omega)
            have wf : wrap64 ((p - w_) - at_) = (p - w_) - at_ := wrap64_in _ (by omega) (by omega)
            have hwa : wrap64 ((p - w_) + w_) = (p - w_) + w_ := wrap64_in _ (by omega) (by omega)
            have HFX : (w7.alloc (.cells #[.int .i64 p, .int .u8 82] 41)).heap[w.heap.size + 1 + 1 + 1 + 1]? = _ := ((HB5.out.trans (HBX.out.mono HB5.out.size)).block _ (by have := HPP.out.top; omega)).trans HFH.out
            have hF : w.heap.size + 1 + 1 + 1 + 1 < (w7.alloc (.cells #[.int .i64 p, .int .u8 82] 41)).heap.size := by
              have := (Array.getElem?_eq_some_iff.1 HFX).1
              exact this
            rcases hmv with rfl | rfl
            · have f0 : (w7.alloc (.cells #[.int .i64 p, .int .u8 82] 41)).cell? ⟨w.heap.size + 1 + 1 + 1 + 1, 0, none⟩ = some (.int .i64 t.f0) := by rw [Lib.cell_of_heap HFX]; rfl
              have f1 : (w7.alloc (.cells #[.int .i64 p, .int .u8 82] 41)).cell? ⟨w.heap.size + 1 + 1 + 1 + 1, 1, none⟩ = some (.int .i64 t.f1) := by rw [Lib.cell_of_heap HFX]; rfl
              have f2 : (w7.alloc (.cells #[.int .i64 p, .int .u8 82] 41)).cell? ⟨w.heap.size + 1 + 1 + 1 + 1, 2, none⟩ = some (.int .i64 t.f2) := by rw [Lib.cell_of_heap HFX]; rfl
              have f3 : (w7.alloc (.cells #[.int .i64 p, .int .u8 82] 41)).cell? ⟨w.heap.size + 1 + 1 + 1 + 1, 3, none⟩ = some (.int .i64 t.f3) := by rw [Lib.cell_of_heap HFX]; rfl
              have f4 : (w7.alloc (.cells #[.int .i64 p, .int .u8 82] 41)).cell? ⟨w.heap.size + 1 + 1 + 1 + 1, 4, none⟩ = some (.string t.f4) := by rw [Lib.cell_of_heap HFX]; rfl
              have f5 : (w7.alloc (.cells #[.int .i64 p, .int .u8 82] 41)).cell? ⟨w.heap.size + 1 + 1 + 1 + 1, 5, none⟩ = some (.string t.f5) := by rw [Lib.cell_of_heap HFX]; rfl
              have f6 : (w7.alloc (.cells #[.int .i64 p, .int .u8 82] 41)).cell? ⟨w.heap.size + 1 + 1 + 1 + 1, 6, none⟩ = some (.slice At t.f6.length ct) := by rw [Lib.cell_of_heap HFX]; rfl
              have HWY := Lib.hid (way_calls (k56.K w) (oneC_K w) ((p - w_) - at_) t At ct (by omega) (by omega) HTW.out (box_K w t At ct HI.out.tn HI.out.tk) (right_K w) (w7.alloc (.cells #[.int .i64 p, .int .u8 82] 41)))
              have hlen10 := wayL_len ((p - w_) - at_) t (by omega) (by omega)
              have HST : Hid (stL C M L ev t l (i + 1) = (out ++ wayL ((p - w_) - at_) t ++ y, (p - w_) + w_)) := Lib.hid (by rw [HST1.out, if_pos ⟨rfl, hg2⟩]; simp only [HMV.out]; rfl)
              obtain ⟨WL, hWL⟩ : ∃ W, wayL ((p - w_) - at_) t = W := ⟨_, rfl⟩
              rw [hWL] at HWY hlen10 HST
              clear hWL HST1 HGP
              go_wp2_with fail
              refine HWY.out.mono ?_
              rintro e w10 ⟨v10, rfl, ho10, hb10⟩
              obtain ⟨A10, c10, rfl, R10⟩ := or_reads ho10
              have HR10 := Lib.hid R10
              have HB10 := Lib.hid (HBX.out.trans (hb10.mono HBX.out.size))
              have HO10 := Lib.hid (OwnRow.below HOX.out hb10)
              clear ho10 R10 hb10 f0 f1 f2 f3 f4 f5 f6 HFX hmc
              go_wp2_with (first | (at_builtin; refine wpList_append_boxes (k56.K w) (oneC_K w) rfl (.tmp 83) (.tmp 95) rfl w5.heap.size u14 out WL (by rfl) HO10.out A10 WL.length c10 (by rfl) rfl HR10.out (by omega) HB10.out.size ?_; intro v11 w11 ho11 hg11; have HO11 := Lib.hid ho11; have HB11 := Lib.hid (or_grown HO10.out HB10.out HB10.out.size hg11); have HR11 : Hid (ReadsRow (k56.K w) 7 w11 A6 y.length y) := Lib.hid (HRw.out.imp_ ((HPP.out.step (HB5.out.trans (HB11.out.mono HB5.out.size))).1) (fun _ _ h => h)); clear ho11 hg11) | (at_builtin; refine wpList_append_boxes (k56.K w) (oneC_K w) rfl (.tmp 98) (.tmp 99) rfl w5.heap.size v11 (out ++ WL) y (by rfl) HO11.out A6 y.length c6 (by rfl) rfl HR11.out (by rw [List.length_append]; omega) HB11.out.size ?_; intro v8 w8 ho8 hg8; have HO8 := Lib.hid ho8; have HB8 := Lib.hid (or_grown HO11.out HB11.out HB11.out.size hg8); clear ho8 hg8))
              go_roundg g'
              case measure => omega
              case rel => exact ⟨i + 1, by omega, by go_num, by first | (rw [HST.out]; done) | (rw [HST.out]; simp), Lib.hid (by rw [HST.out]; exact HO8.out), HB8⟩
            · have f0 : (w7.alloc (.cells #[.int .i64 p, .int .u8 82] 41)).cell? ⟨w.heap.size + 1 + 1 + 1 + 1, 7, none⟩ = some (.int .i64 l.f0) := by rw [Lib.cell_of_heap HFX]; rfl
              have f1 : (w7.alloc (.cells #[.int .i64 p, .int .u8 82] 41)).cell? ⟨w.heap.size + 1 + 1 + 1 + 1, 8, none⟩ = some (.int .i64 l.f1) := by rw [Lib.cell_of_heap HFX]; rfl
              have f2 : (w7.alloc (.cells #[.int .i64 p, .int .u8 82] 41)).cell? ⟨w.heap.size + 1 + 1 + 1 + 1, 9, none⟩ = some (.int .i64 l.f2) := by rw [Lib.cell_of_heap HFX]; rfl
              have f3 : (w7.alloc (.cells #[.int .i64 p, .int .u8 82] 41)).cell? ⟨w.heap.size + 1 + 1 + 1 + 1, 10, none⟩ = some (.int .i64 l.f3) := by rw [Lib.cell_of_heap HFX]; rfl
              have f4 : (w7.alloc (.cells #[.int .i64 p, .int .u8 82] 41)).cell? ⟨w.heap.size + 1 + 1 + 1 + 1, 11, none⟩ = some (.string l.f4) := by rw [Lib.cell_of_heap HFX]; rfl
              have f5 : (w7.alloc (.cells #[.int .i64 p, .int .u8 82] 41)).cell? ⟨w.heap.size + 1 + 1 + 1 + 1, 12, none⟩ = some (.string l.f5) := by rw [Lib.cell_of_heap HFX]; rfl
              have f6 : (w7.alloc (.cells #[.int .i64 p, .int .u8 82] 41)).cell? ⟨w.heap.size + 1 + 1 + 1 + 1, 13, none⟩ = some (.slice Al l.f6.length cl) := by rw [Lib.cell_of_heap HFX]; rfl
              have HWY := Lib.hid (way_calls (k56.K w) (oneC_K w) ((p - w_) - at_) l Al cl (by omega) (by omega) HLW.out (box_K w l Al cl HI.out.ln HI.out.lk) (right_K w) (w7.alloc (.cells #[.int .i64 p, .int .u8 82] 41)))
              have hlen10 := wayL_len ((p - w_) - at_) l (by omega) (by omega)
              have HST : Hid (stL C M L ev t l (i + 1) = (out ++ wayL ((p - w_) - at_) l ++ y, (p - w_) + w_)) := Lib.hid (by rw [HST1.out, if_pos ⟨rfl, hg2⟩]; simp only [HMV.out]; rfl)
              obtain ⟨WL, hWL⟩ : ∃ W, wayL ((p - w_) - at_) l = W := ⟨_, rfl⟩
              rw [hWL] at HWY hlen10 HST
              clear hWL HST1 HGP
              go_wp2_with fail
              refine HWY.out.mono ?_
              rintro e w10 ⟨v10, rfl, ho10, hb10⟩
              obtain ⟨A10, c10, rfl, R10⟩ := or_reads ho10
              have HR10 := Lib.hid R10
              have HB10 := Lib.hid (HBX.out.trans (hb10.mono HBX.out.size))
              have HO10 := Lib.hid (OwnRow.below HOX.out hb10)
              clear ho10 R10 hb10 f0 f1 f2 f3 f4 f5 f6 HFX hmc
              go_wp2_with (first | (at_builtin; refine wpList_append_boxes (k56.K w) (oneC_K w) rfl (.tmp 83) (.tmp 95) rfl w5.heap.size u14 out WL (by rfl) HO10.out A10 WL.length c10 (by rfl) rfl HR10.out (by omega) HB10.out.size ?_; intro v11 w11 ho11 hg11; have HO11 := Lib.hid ho11; have HB11 := Lib.hid (or_grown HO10.out HB10.out HB10.out.size hg11); have HR11 : Hid (ReadsRow (k56.K w) 7 w11 A6 y.length y) := Lib.hid (HRw.out.imp_ ((HPP.out.step (HB5.out.trans (HB11.out.mono HB5.out.size))).1) (fun _ _ h => h)); clear ho11 hg11) | (at_builtin; refine wpList_append_boxes (k56.K w) (oneC_K w) rfl (.tmp 98) (.tmp 99) rfl w5.heap.size v11 (out ++ WL) y (by rfl) HO11.out A6 y.length c6 (by rfl) rfl HR11.out (by rw [List.length_append]; omega) HB11.out.size ?_; intro v8 w8 ho8 hg8; have HO8 := Lib.hid ho8; have HB8 := Lib.hid (or_grown HO11.out HB11.out HB11.out.size hg8); clear ho8 hg8))
              go_roundg g'
              case measure => omega
              case rel => exact ⟨i + 1, by omega, by go_num, by first | (rw [HST.out]; done) | (rw [HST.out]; simp), Lib.hid (by rw [HST.out]; exact HO8.out), HB8⟩
          · have HST : Hid (stL C M L ev t l (i + 1) = (out ++ y, at_ + w_)) := Lib.hid (by rw [HST1.out, if_neg hg]; simp)
            have HRT : Hid (ReadsRow (k56.K w) 7 (w7.alloc (.cells #[.int .i64 p, .int .u8 82] 41)) A6 y.length y) := Lib.hid (HRw.out.imp_ HSX.out.1 (fun _ _ h => h))
            have hwa : wrap64 (at_ + w_) = at_ + w_ := wrap64_in _ (by omega) (by omega)
            cases q
            · go_wp2_with (at_builtin; refine wpList_append_boxes (k56.K w) (oneC_K w) rfl _ _ rfl w5.heap.size u14 out y (by rfl) HOX.out A6 y.length c6 (by rfl) rfl HRT.out (by omega) HBX.out.size ?_; intro v8 w8 ho8 hg8; have HO8 := Lib.hid ho8; have HB8 := Lib.hid (or_grown HOX.out HBX.out HBX.out.size hg8); clear ho8 hg8)
              go_roundg g'
              case measure => omega
              case rel => exact ⟨i + 1, by omega, by go_num, by first | (rw [HST.out]; done) | (rw [HST.out]; simp), Lib.hid (by rw [HST.out]; exact HO8.out), HB8⟩
            · have hg2 : ¬ at_ < p - w_ := fun h => hg ⟨rfl, h⟩
              go_wp2_with (at_builtin; refine wpList_append_boxes (k56.K w) (oneC_K w) rfl _ _ rfl w5.heap.size u14 out y (by rfl) HOX.out A6 y.length c6 (by rfl) rfl HRT.out (by omega) HBX.out.size ?_; intro v8 w8 ho8 hg8; have HO8 := Lib.hid ho8; have HB8 := Lib.hid (or_grown HOX.out HBX.out HBX.out.size hg8); clear ho8 hg8)
              go_roundg g'
              case measure => omega
              case rel => exact ⟨i + 1, by omega, by go_num, by first | (rw [HST.out]; done) | (rw [HST.out]; simp), Lib.hid (by rw [HST.out]; exact HO8.out), HB8⟩
        by_cases k40 : kd = 67
        · subst k40
          clear k80
          have hbg : Hid (bg = p - w_ / 2) := Lib.hid (by rw [← HBG.out, if_neg (by omega), if_pos rfl])
          have hbg2 := hbg.out
          clear hbg
          subst hbg2
          have hwp : wrap64 (p - w_ / 2) = p - w_ / 2 := wrap64_in _ (by omega) (by omega)
          have HHF := Lib.hid (half_calls w_ (by omega) (by omega) (w7.alloc (.cells #[.int .i64 p, .int .u8 67] 41)))
          go_wp2_with fail
          refine HHF.out.mono ?_
          rintro e w9 ⟨rfl, hb9⟩
          have HB70 := Lib.hid (HB7.out.alloc HB7.out.size (.cells #[.int .i64 p, .int .u8 67] 41))
          have HO70 := Lib.hid (OwnRow.below HO7.out ((Below.refl _ _).alloc (Nat.le_refl _) (.cells #[.int .i64 p, .int .u8 67] 41)))
          have HBX := Lib.hid (HB70.out.trans (hb9.mono HB70.out.size))
          have HOX := Lib.hid (OwnRow.below HO70.out hb9)
          clear hb9
          have HSX := Lib.hid (HPP.out.step (HB5.out.trans (HBX.out.mono HB5.out.size)))
          by_cases hg : q = true ∧ at_ < p - w_ / 2
          · obtain ⟨hq1, hg2⟩ := hg
            subst hq1
            have hMl := HM.out
            have him : i - 1 < M.length := by omega
            obtain ⟨bm, om, rfl, hbm, hmc⟩ := ints_at HI.out.m (by omega)
            have mc := (HSX.out.1.cell (p := ⟨bm, om + (i - 1), none⟩) hbm).trans (hmc (i - 1) him)
            have hbm2 : bm < w9.heap.size := Nat.lt_of_lt_of_le hbm HSX.out.1.size
            have hmv := HMK.out _ (List.getElem_mem him)
            have hgd : M.getD (i - 1) 0 = M[i - 1] := by simp [List.getD, him]
            obtain ⟨mv, hmv2⟩ : ∃ m, M[i - 1] = m := ⟨_, rfl⟩
            rw [hmv2] at mc hmv hgd
            have HMV := Lib.hid hgd
            clear hgd hmv2
            have e1 : ((i : Int) - 1).toNat = i - 1 := by omega
            have e2 : 0 ≤ (i : Int) - 1 := by omega
            have e3 : (i : Int) - 1 < M.length := by omega
            have e4 : wrap64 ((i : Int) - 1) = (i : Int) - 1 := wrap64_in _ (by omega) (by omega)
            have wf : wrap64 ((p - w_ / 2) - at_) = (p - w_ / 2) - at_ := wrap64_in _ (by omega) (by omega)
            have hwa : wrap64 ((p - w_ / 2) + w_) = (p - w_ / 2) + w_ := wrap64_in _ (by omega) (by omega)
            have HFX : w9.heap[w.heap.size + 1 + 1 + 1 + 1]? = _ := ((HB5.out.trans (HBX.out.mono HB5.out.size)).block _ (by have := HPP.out.top; omega)).trans HFH.out
            have hF : w.heap.size + 1 + 1 + 1 + 1 < w9.heap.size := by
              have := (Array.getElem?_eq_some_iff.1 HFX).1
              exact this
            rcases hmv with rfl | rfl
            · have f0 : w9.cell? ⟨w.heap.size + 1 + 1 + 1 + 1, 0, none⟩ = some (.int .i64 t.f0) := by rw [Lib.cell_of_heap HFX]; rfl
              have f1 : w9.cell? ⟨w.heap.size + 1 + 1 + 1 + 1, 1, none⟩ = some (.int .i64 t.f1) := by rw [Lib.cell_of_heap HFX]; rfl
              have f2 : w9.cell? ⟨w.heap.size + 1 + 1 + 1 + 1, 2, none⟩ = some (.int .i64 t.f2) := by rw [Lib.cell_of_heap HFX]; rfl
              have f3 : w9.cell? ⟨w.heap.size + 1 + 1 + 1 + 1, 3, none⟩ = some (.int .i64 t.f3) := by rw [Lib.cell_of_heap HFX]; rfl
              have f4 : w9.cell? ⟨w.heap.size + 1 + 1 + 1 + 1, 4, none⟩ = some (.string t.f4) := by rw [Lib.cell_of_heap HFX]; rfl
              have f5 : w9.cell? ⟨w.heap.size + 1 + 1 + 1 + 1, 5, none⟩ = some (.string t.f5) := by rw [Lib.cell_of_heap HFX]; rfl
              have f6 : w9.cell? ⟨w.heap.size + 1 + 1 + 1 + 1, 6, none⟩ = some (.slice At t.f6.length ct) := by rw [Lib.cell_of_heap HFX]; rfl
              have HWY := Lib.hid (way_calls (k56.K w) (oneC_K w) ((p - w_ / 2) - at_) t At ct (by omega) (by omega) HTW.out (box_K w t At ct HI.out.tn HI.out.tk) (right_K w) w9)
              have hlen10 := wayL_len ((p - w_ / 2) - at_) t (by omega) (by omega)
              have HST : Hid (stL C M L ev t l (i + 1) = (out ++ wayL ((p - w_ / 2) - at_) t ++ y, (p - w_ / 2) + w_)) := Lib.hid (by rw [HST1.out, if_pos ⟨rfl, hg2⟩]; simp only [HMV.out]; rfl)
              obtain ⟨WL, hWL⟩ : ∃ W, wayL ((p - w_ / 2) - at_) t = W := ⟨_, rfl⟩
              rw [hWL] at HWY hlen10 HST
              clear hWL HST1 HGP
              go_wp2_with fail
              refine HWY.out.mono ?_
              rintro e w10 ⟨v10, rfl, ho10, hb10⟩
              obtain ⟨A10, c10, rfl, R10⟩ := or_reads ho10
              have HR10 := Lib.hid R10
              have HB10 := Lib.hid (HBX.out.trans (hb10.mono HBX.out.size))
              have HO10 := Lib.hid (OwnRow.below HOX.out hb10)
              clear ho10 R10 hb10 f0 f1 f2 f3 f4 f5 f6 HFX hmc
              go_wp2_with (first | (at_builtin; refine wpList_append_boxes (k56.K w) (oneC_K w) rfl (.tmp 83) (.tmp 95) rfl w5.heap.size u14 out WL (by rfl) HO10.out A10 WL.length c10 (by rfl) rfl HR10.out (by omega) HB10.out.size ?_; intro v11 w11 ho11 hg11; have HO11 := Lib.hid ho11; have HB11 := Lib.hid (or_grown HO10.out HB10.out HB10.out.size hg11); have HR11 : Hid (ReadsRow (k56.K w) 7 w11 A6 y.length y) := Lib.hid (HRw.out.imp_ ((HPP.out.step (HB5.out.trans (HB11.out.mono HB5.out.size))).1) (fun _ _ h => h)); clear ho11 hg11) | (at_builtin; refine wpList_append_boxes (k56.K w) (oneC_K w) rfl (.tmp 98) (.tmp 99) rfl w5.heap.size v11 (out ++ WL) y (by rfl) HO11.out A6 y.length c6 (by rfl) rfl HR11.out (by rw [List.length_append]; omega) HB11.out.size ?_; intro v8 w8 ho8 hg8; have HO8 := Lib.hid ho8; have HB8 := Lib.hid (or_grown HO11.out HB11.out HB11.out.size hg8); clear ho8 hg8))
              go_roundg g'
              case measure => omega
              case rel => exact ⟨i + 1, by omega, by go_num, by first | (rw [HST.out]; done) | (rw [HST.out]; simp), Lib.hid (by rw [HST.out]; exact HO8.out), HB8⟩
            · have f0 : w9.cell? ⟨w.heap.size + 1 + 1 + 1 + 1, 7, none⟩ = some (.int .i64 l.f0) := by rw [Lib.cell_of_heap HFX]; rfl
              have f1 : w9.cell? ⟨w.heap.size + 1 + 1 + 1 + 1, 8, none⟩ = some (.int .i64 l.f1) := by rw [Lib.cell_of_heap HFX]; rfl
              have f2 : w9.cell? ⟨w.heap.size + 1 + 1 + 1 + 1, 9, none⟩ = some (.int .i64 l.f2) := by rw [Lib.cell_of_heap HFX]; rfl
              have f3 : w9.cell? ⟨w.heap.size + 1 + 1 + 1 + 1, 10, none⟩ = some (.int .i64 l.f3) := by rw [Lib.cell_of_heap HFX]; rfl
              have f4 : w9.cell? ⟨w.heap.size + 1 + 1 + 1 + 1, 11, none⟩ = some (.string l.f4) := by rw [Lib.cell_of_heap HFX]; rfl
              have f5 : w9.cell? ⟨w.heap.size + 1 + 1 + 1 + 1, 12, none⟩ = some (.string l.f5) := by rw [Lib.cell_of_heap HFX]; rfl
              have f6 : w9.cell? ⟨w.heap.size + 1 + 1 + 1 + 1, 13, none⟩ = some (.slice Al l.f6.length cl) := by rw [Lib.cell_of_heap HFX]; rfl
              have HWY := Lib.hid (way_calls (k56.K w) (oneC_K w) ((p - w_ / 2) - at_) l Al cl (by omega) (by omega) HLW.out (box_K w l Al cl HI.out.ln HI.out.lk) (right_K w) w9)
              have hlen10 := wayL_len ((p - w_ / 2) - at_) l (by omega) (by omega)
              have HST : Hid (stL C M L ev t l (i + 1) = (out ++ wayL ((p - w_ / 2) - at_) l ++ y, (p - w_ / 2) + w_)) := Lib.hid (by rw [HST1.out, if_pos ⟨rfl, hg2⟩]; simp only [HMV.out]; rfl)
              obtain ⟨WL, hWL⟩ : ∃ W, wayL ((p - w_ / 2) - at_) l = W := ⟨_, rfl⟩
              rw [hWL] at HWY hlen10 HST
              clear hWL HST1 HGP
              go_wp2_with fail
              refine HWY.out.mono ?_
              rintro e w10 ⟨v10, rfl, ho10, hb10⟩
              obtain ⟨A10, c10, rfl, R10⟩ := or_reads ho10
              have HR10 := Lib.hid R10
              have HB10 := Lib.hid (HBX.out.trans (hb10.mono HBX.out.size))
              have HO10 := Lib.hid (OwnRow.below HOX.out hb10)
              clear ho10 R10 hb10 f0 f1 f2 f3 f4 f5 f6 HFX hmc
              go_wp2_with (first | (at_builtin; refine wpList_append_boxes (k56.K w) (oneC_K w) rfl (.tmp 83) (.tmp 95) rfl w5.heap.size u14 out WL (by rfl) HO10.out A10 WL.length c10 (by rfl) rfl HR10.out (by omega) HB10.out.size ?_; intro v11 w11 ho11 hg11; have HO11 := Lib.hid ho11; have HB11 := Lib.hid (or_grown HO10.out HB10.out HB10.out.size hg11); have HR11 : Hid (ReadsRow (k56.K w) 7 w11 A6 y.length y) := Lib.hid (HRw.out.imp_ ((HPP.out.step (HB5.out.trans (HB11.out.mono HB5.out.size))).1) (fun _ _ h => h)); clear ho11 hg11) | (at_builtin; refine wpList_append_boxes (k56.K w) (oneC_K w) rfl (.tmp 98) (.tmp 99) rfl w5.heap.size v11 (out ++ WL) y (by rfl) HO11.out A6 y.length c6 (by rfl) rfl HR11.out (by rw [List.length_append]; omega) HB11.out.size ?_; intro v8 w8 ho8 hg8; have HO8 := Lib.hid ho8; have HB8 := Lib.hid (or_grown HO11.out HB11.out HB11.out.size hg8); clear ho8 hg8))
              go_roundg g'
              case measure => omega
              case rel => exact ⟨i + 1, by omega, by go_num, by first | (rw [HST.out]; done) | (rw [HST.out]; simp), Lib.hid (by rw [HST.out]; exact HO8.out), HB8⟩
          · have HST : Hid (stL C M L ev t l (i + 1) = (out ++ y, at_ + w_)) := Lib.hid (by rw [HST1.out, if_neg hg]; simp)
            have HRT : Hid (ReadsRow (k56.K w) 7 w9 A6 y.length y) := Lib.hid (HRw.out.imp_ HSX.out.1 (fun _ _ h => h))
            have hwa : wrap64 (at_ + w_) = at_ + w_ := wrap64_in _ (by omega) (by omega)
            cases q
            · go_wp2_with (at_builtin; refine wpList_append_boxes (k56.K w) (oneC_K w) rfl _ _ rfl w5.heap.size u14 out y (by rfl) HOX.out A6 y.length c6 (by rfl) rfl HRT.out (by omega) HBX.out.size ?_; intro v8 w8 ho8 hg8; have HO8 := Lib.hid ho8; have HB8 := Lib.hid (or_grown HOX.out HBX.out HBX.out.size hg8); clear ho8 hg8)
              go_roundg g'
              case measure => omega
              case rel => exact ⟨i + 1, by omega, by go_num, by first | (rw [HST.out]; done) | (rw [HST.out]; simp), Lib.hid (by rw [HST.out]; exact HO8.out), HB8⟩
            · have hg2 : ¬ at_ < p - w_ / 2 := fun h => hg ⟨rfl, h⟩
              go_wp2_with (at_builtin; refine wpList_append_boxes (k56.K w) (oneC_K w) rfl _ _ rfl w5.heap.size u14 out y (by rfl) HOX.out A6 y.length c6 (by rfl) rfl HRT.out (by omega) HBX.out.size ?_; intro v8 w8 ho8 hg8; have HO8 := Lib.hid ho8; have HB8 := Lib.hid (or_grown HOX.out HBX.out HBX.out.size hg8); clear ho8 hg8)
              go_roundg g'
              case measure => omega
              case rel => exact ⟨i + 1, by omega, by go_num, by first | (rw [HST.out]; done) | (rw [HST.out]; simp), Lib.hid (by rw [HST.out]; exact HO8.out), HB8⟩
        have hbg : Hid (bg = p) := Lib.hid (by rw [← HBG.out, if_neg k80, if_neg k40]; omega)
        have hwp : bg = p := hbg.out
        subst hwp
        have HBX := Lib.hid (HB7.out.alloc HB7.out.size (.cells #[.int .i64 bg, .int .u8 kd] 41))
        have HOX := Lib.hid (OwnRow.below HO7.out ((Below.refl _ _).alloc (Nat.le_refl _) (.cells #[.int .i64 bg, .int .u8 kd] 41)))
        have HSX := Lib.hid (HPP.out.step (HB5.out.trans (HBX.out.mono HB5.out.size)))
        by_cases hg : q = true ∧ at_ < bg
        · obtain ⟨hq1, hg2⟩ := hg
          subst hq1
          have hMl := HM.out
          have him : i - 1 < M.length := by omega
          obtain ⟨bm, om, rfl, hbm, hmc⟩ := ints_at HI.out.m (by omega)
          have mc := (HSX.out.1.cell (p := ⟨bm, om + (i - 1), none⟩) hbm).trans (hmc (i - 1) him)
          have hbm2 : bm < (w7.alloc (.cells #[.int .i64 bg, .int .u8 kd] 41)).heap.size := Nat.lt_of_lt_of_le hbm HSX.out.1.size
          have hmv := HMK.out _ (List.getElem_mem him)
          have hgd : M.getD (i - 1) 0 = M[i - 1] := by simp [List.getD, him]
          obtain ⟨mv, hmv2⟩ : ∃ m, M[i - 1] = m := ⟨_, rfl⟩
          rw [hmv2] at mc hmv hgd
          have HMV := Lib.hid hgd
          clear hgd hmv2
          have e1 : ((i : Int) - 1).toNat = i - 1 := by omega
          have e2 : 0 ≤ (i : Int) - 1 := by omega
          have e3 : (i : Int) - 1 < M.length := by omega
          have e4 : wrap64 ((i : Int) - 1) = (i : Int) - 1 := wrap64_in _ (by omega) (by omega)
          have wf : wrap64 (bg - at_) = bg - at_ := wrap64_in _ (by omega) (by omega)
          have hwa : wrap64 (bg + w_) = bg + w_ := wrap64_in _ (by omega) (by omega)
          have HFX : (w7.alloc (.cells #[.int .i64 bg, .int .u8 kd] 41)).heap[w.heap.size + 1 + 1 + 1 + 1]? = _ := ((HB5.out.trans (HBX.out.mono HB5.out.size)).block _ (by have := HPP.out.top; omega)).trans HFH.out
          have hF : w.heap.size + 1 + 1 + 1 + 1 < (w7.alloc (.cells #[.int .i64 bg, .int .u8 kd] 41)).heap.size := by
            have := (Array.getElem?_eq_some_iff.1 HFX).1
            exact this
          rcases hmv with rfl | rfl
          · have f0 : (w7.alloc (.cells #[.int .i64 bg, .int .u8 kd] 41)).cell? ⟨w.heap.size + 1 + 1 + 1 + 1, 0, none⟩ = some (.int .i64 t.f0) := by rw [Lib.cell_of_heap HFX]; rfl
            have f1 : (w7.alloc (.cells #[.int .i64 bg, .int .u8 kd] 41)).cell? ⟨w.heap.size + 1 + 1 + 1 + 1, 1, none⟩ = some (.int .i64 t.f1) := by rw [Lib.cell_of_heap HFX]; rfl
            have f2 : (w7.alloc (.cells #[.int .i64 bg, .int .u8 kd] 41)).cell? ⟨w.heap.size + 1 + 1 + 1 + 1, 2, none⟩ = some (.int .i64 t.f2) := by rw [Lib.cell_of_heap HFX]; rfl
            have f3 : (w7.alloc (.cells #[.int .i64 bg, .int .u8 kd] 41)).cell? ⟨w.heap.size + 1 + 1 + 1 + 1, 3, none⟩ = some (.int .i64 t.f3) := by rw [Lib.cell_of_heap HFX]; rfl
            have f4 : (w7.alloc (.cells #[.int .i64 bg, .int .u8 kd] 41)).cell? ⟨w.heap.size + 1 + 1 + 1 + 1, 4, none⟩ = some (.string t.f4) := by rw [Lib.cell_of_heap HFX]; rfl
            have f5 : (w7.alloc (.cells #[.int .i64 bg, .int .u8 kd] 41)).cell? ⟨w.heap.size + 1 + 1 + 1 + 1, 5, none⟩ = some (.string t.f5) := by rw [Lib.cell_of_heap HFX]; rfl
            have f6 : (w7.alloc (.cells #[.int .i64 bg, .int .u8 kd] 41)).cell? ⟨w.heap.size + 1 + 1 + 1 + 1, 6, none⟩ = some (.slice At t.f6.length ct) := by rw [Lib.cell_of_heap HFX]; rfl
            have HWY := Lib.hid (way_calls (k56.K w) (oneC_K w) (bg - at_) t At ct (by omega) (by omega) HTW.out (box_K w t At ct HI.out.tn HI.out.tk) (right_K w) (w7.alloc (.cells #[.int .i64 bg, .int .u8 kd] 41)))
            have hlen10 := wayL_len (bg - at_) t (by omega) (by omega)
            have HST : Hid (stL C M L ev t l (i + 1) = (out ++ wayL (bg - at_) t ++ y, bg + w_)) := Lib.hid (by rw [HST1.out, if_pos ⟨rfl, hg2⟩]; simp only [HMV.out]; rfl)
            obtain ⟨WL, hWL⟩ : ∃ W, wayL (bg - at_) t = W := ⟨_, rfl⟩
            rw [hWL] at HWY hlen10 HST
            clear hWL HST1 HGP
            go_wp2_with fail
            refine HWY.out.mono ?_
            rintro e w10 ⟨v10, rfl, ho10, hb10⟩
            obtain ⟨A10, c10, rfl, R10⟩ := or_reads ho10
            have HR10 := Lib.hid R10
            have HB10 := Lib.hid (HBX.out.trans (hb10.mono HBX.out.size))
            have HO10 := Lib.hid (OwnRow.below HOX.out hb10)
            clear ho10 R10 hb10 f0 f1 f2 f3 f4 f5 f6 HFX hmc
            go_wp2_with (first | (at_builtin; refine wpList_append_boxes (k56.K w) (oneC_K w) rfl (.tmp 83) (.tmp 95) rfl w5.heap.size u14 out WL (by rfl) HO10.out A10 WL.length c10 (by rfl) rfl HR10.out (by omega) HB10.out.size ?_; intro v11 w11 ho11 hg11; have HO11 := Lib.hid ho11; have HB11 := Lib.hid (or_grown HO10.out HB10.out HB10.out.size hg11); have HR11 : Hid (ReadsRow (k56.K w) 7 w11 A6 y.length y) := Lib.hid (HRw.out.imp_ ((HPP.out.step (HB5.out.trans (HB11.out.mono HB5.out.size))).1) (fun _ _ h => h)); clear ho11 hg11) | (at_builtin; refine wpList_append_boxes (k56.K w) (oneC_K w) rfl (.tmp 98) (.tmp 99) rfl w5.heap.size v11 (out ++ WL) y (by rfl) HO11.out A6 y.length c6 (by rfl) rfl HR11.out (by rw [List.length_append]; omega) HB11.out.size ?_; intro v8 w8 ho8 hg8; have HO8 := Lib.hid ho8; have HB8 := Lib.hid (or_grown HO11.out HB11.out HB11.out.size hg8); clear ho8 hg8))
            go_roundg g'
            case measure => omega
            case rel => exact ⟨i + 1, by omega, by go_num, by first | (rw [HST.out]; done) | (rw [HST.out]; simp), Lib.hid (by rw [HST.out]; exact HO8.out), HB8⟩
          · have f0 : (w7.alloc (.cells #[.int .i64 bg, .int .u8 kd] 41)).cell? ⟨w.heap.size + 1 + 1 + 1 + 1, 7, none⟩ = some (.int .i64 l.f0) := by rw [Lib.cell_of_heap HFX]; rfl
            have f1 : (w7.alloc (.cells #[.int .i64 bg, .int .u8 kd] 41)).cell? ⟨w.heap.size + 1 + 1 + 1 + 1, 8, none⟩ = some (.int .i64 l.f1) := by rw [Lib.cell_of_heap HFX]; rfl
            have f2 : (w7.alloc (.cells #[.int .i64 bg, .int .u8 kd] 41)).cell? ⟨w.heap.size + 1 + 1 + 1 + 1, 9, none⟩ = some (.int .i64 l.f2) := by rw [Lib.cell_of_heap HFX]; rfl
            have f3 : (w7.alloc (.cells #[.int .i64 bg, .int .u8 kd] 41)).cell? ⟨w.heap.size + 1 + 1 + 1 + 1, 10, none⟩ = some (.int .i64 l.f3) := by rw [Lib.cell_of_heap HFX]; rfl
            have f4 : (w7.alloc (.cells #[.int .i64 bg, .int .u8 kd] 41)).cell? ⟨w.heap.size + 1 + 1 + 1 + 1, 11, none⟩ = some (.string l.f4) := by rw [Lib.cell_of_heap HFX]; rfl
            have f5 : (w7.alloc (.cells #[.int .i64 bg, .int .u8 kd] 41)).cell? ⟨w.heap.size + 1 + 1 + 1 + 1, 12, none⟩ = some (.string l.f5) := by rw [Lib.cell_of_heap HFX]; rfl
            have f6 : (w7.alloc (.cells #[.int .i64 bg, .int .u8 kd] 41)).cell? ⟨w.heap.size + 1 + 1 + 1 + 1, 13, none⟩ = some (.slice Al l.f6.length cl) := by rw [Lib.cell_of_heap HFX]; rfl
            have HWY := Lib.hid (way_calls (k56.K w) (oneC_K w) (bg - at_) l Al cl (by omega) (by omega) HLW.out (box_K w l Al cl HI.out.ln HI.out.lk) (right_K w) (w7.alloc (.cells #[.int .i64 bg, .int .u8 kd] 41)))
            have hlen10 := wayL_len (bg - at_) l (by omega) (by omega)
            have HST : Hid (stL C M L ev t l (i + 1) = (out ++ wayL (bg - at_) l ++ y, bg + w_)) := Lib.hid (by rw [HST1.out, if_pos ⟨rfl, hg2⟩]; simp only [HMV.out]; rfl)
            obtain ⟨WL, hWL⟩ : ∃ W, wayL (bg - at_) l = W := ⟨_, rfl⟩
            rw [hWL] at HWY hlen10 HST
            clear hWL HST1 HGP
            go_wp2_with fail
            refine HWY.out.mono ?_
            rintro e w10 ⟨v10, rfl, ho10, hb10⟩
            obtain ⟨A10, c10, rfl, R10⟩ := or_reads ho10
            have HR10 := Lib.hid R10
            have HB10 := Lib.hid (HBX.out.trans (hb10.mono HBX.out.size))
            have HO10 := Lib.hid (OwnRow.below HOX.out hb10)
            clear ho10 R10 hb10 f0 f1 f2 f3 f4 f5 f6 HFX hmc
            go_wp2_with (first | (at_builtin; refine wpList_append_boxes (k56.K w) (oneC_K w) rfl (.tmp 83) (.tmp 95) rfl w5.heap.size u14 out WL (by rfl) HO10.out A10 WL.length c10 (by rfl) rfl HR10.out (by omega) HB10.out.size ?_; intro v11 w11 ho11 hg11; have HO11 := Lib.hid ho11; have HB11 := Lib.hid (or_grown HO10.out HB10.out HB10.out.size hg11); have HR11 : Hid (ReadsRow (k56.K w) 7 w11 A6 y.length y) := Lib.hid (HRw.out.imp_ ((HPP.out.step (HB5.out.trans (HB11.out.mono HB5.out.size))).1) (fun _ _ h => h)); clear ho11 hg11) | (at_builtin; refine wpList_append_boxes (k56.K w) (oneC_K w) rfl (.tmp 98) (.tmp 99) rfl w5.heap.size v11 (out ++ WL) y (by rfl) HO11.out A6 y.length c6 (by rfl) rfl HR11.out (by rw [List.length_append]; omega) HB11.out.size ?_; intro v8 w8 ho8 hg8; have HO8 := Lib.hid ho8; have HB8 := Lib.hid (or_grown HO11.out HB11.out HB11.out.size hg8); clear ho8 hg8))
            go_roundg g'
            case measure => omega
            case rel => exact ⟨i + 1, by omega, by go_num, by first | (rw [HST.out]; done) | (rw [HST.out]; simp), Lib.hid (by rw [HST.out]; exact HO8.out), HB8⟩
        · have HST : Hid (stL C M L ev t l (i + 1) = (out ++ y, at_ + w_)) := Lib.hid (by rw [HST1.out, if_neg hg]; simp)
          have HRT : Hid (ReadsRow (k56.K w) 7 (w7.alloc (.cells #[.int .i64 bg, .int .u8 kd] 41)) A6 y.length y) := Lib.hid (HRw.out.imp_ HSX.out.1 (fun _ _ h => h))
          have hwa : wrap64 (at_ + w_) = at_ + w_ := wrap64_in _ (by omega) (by omega)
          cases q
          · go_wp2_with (at_builtin; refine wpList_append_boxes (k56.K w) (oneC_K w) rfl _ _ rfl w5.heap.size u14 out y (by rfl) HOX.out A6 y.length c6 (by rfl) rfl HRT.out (by omega) HBX.out.size ?_; intro v8 w8 ho8 hg8; have HO8 := Lib.hid ho8; have HB8 := Lib.hid (or_grown HOX.out HBX.out HBX.out.size hg8); clear ho8 hg8)
            go_roundg g'
            case measure => omega
            case rel => exact ⟨i + 1, by omega, by go_num, by first | (rw [HST.out]; done) | (rw [HST.out]; simp), Lib.hid (by rw [HST.out]; exact HO8.out), HB8⟩
          · have hg2 : ¬ at_ < bg := fun h => hg ⟨rfl, h⟩
            go_wp2_with (at_builtin; refine wpList_append_boxes (k56.K w) (oneC_K w) rfl _ _ rfl w5.heap.size u14 out y (by rfl) HOX.out A6 y.length c6 (by rfl) rfl HRT.out (by omega) HBX.out.size ?_; intro v8 w8 ho8 hg8; have HO8 := Lib.hid ho8; have HB8 := Lib.hid (or_grown HOX.out HBX.out HBX.out.size hg8); clear ho8 hg8)
            go_roundg g'
            case measure => omega
            case rel => exact ⟨i + 1, by omega, by go_num, by first | (rw [HST.out]; done) | (rw [HST.out]; simp), Lib.hid (by rw [HST.out]; exact HO8.out), HB8⟩
    · have hin : i = C.length := by omega
      subst hin
      have i0 : ¬ ((C.length : Int) < C.length) := by omega
      have hbd := st_bound (M := M) (t := t) (l := l) HF.out C.length (Nat.le_refl _)
      have hcn := HF.out.n
      have hfew := HFEW.out C.length
      obtain ⟨s, hs⟩ : ∃ s, stL C M L ev t l C.length = s := ⟨_, rfl⟩
      rw [hs] at hbd HO hfew
      have HSO := Lib.hid hs
      simp only [hs]
      clear hs
      obtain ⟨out, at_⟩ := s
      simp only at hbd HO hfew ⊢
      have HFO := Lib.hid hfew
      clear hfew
      have hon : out.length ≤ 900000000000 := by omega
      clear hbd
      obtain ⟨A1, n1, rfl, R1⟩ := or_reads HO.out
      have HCL := Lib.hid (clone_calls (k56.K w) (oneC_K w) A1 n1 out hon wr R1)
      have HBW := Lib.hid ((HPP.out.step (HB5.out.trans (HB.out.mono HB5.out.size))).1)
      clear R1
      go_wp2_with fail
      refine HCL.out.mono ?_
      rintro e w10 ⟨v10, rfl, ho10, hb10⟩
      have HB10 := Lib.hid (HBW.out.trans (hb10.mono HBW.out.size))
      have hrow : 0 < out.length → ∃ g n, v10 = .slice (some ⟨g, 0, none⟩) out.length n ∧ out.length ≤ n ∧ w.heap.size ≤ g ∧ RowOK w10 g out := fun hp => by
        obtain ⟨inner, ho, hr⟩ := ho10
        obtain ⟨g, cap, rfl, hg1, hg2⟩ := ho.form hp
        have := HBW.out.size
        exact ⟨g, cap, rfl, own_cap ho, by omega, RowOK.of ⟨inner, ho, hr⟩ HB10.out HBW.out.size⟩
      obtain ⟨A2, n2, rfl, hn2, _⟩ := OwnRow.reads ho10
      have HROW : Hid (0 < out.length → ∃ g, A2 = some ⟨g, 0, none⟩ ∧ w.heap.size ≤ g ∧ RowOK w10 g out) := Lib.hid (fun hp => by
        obtain ⟨g, n, e, _, h2, h3⟩ := hrow hp
        injection e with e1 e2 e3
        exact ⟨g, e1, h2, h3⟩)
      have HN2 := Lib.hid hn2
      clear hrow ho10 hb10 hn2
      have hon63 : out.length ≤ 9223372036854775807 := by omega
      go_wp2_with fail
      go_loopg [109] out.length (fun gk s109 wx => ∃ j : Nat, j + gk = out.length ∧ s109 = .int .i64 j ∧ Hid (0 < out.length → ∃ g, A2 = some ⟨g, 0, none⟩ ∧ w.heap.size ≤ g ∧ RowOK wx g out) ∧ Hid (Below w.heap.size w wx))
      case atStart => exact ⟨0, by omega, rfl, HROW, HB10⟩
      case round =>
        obtain ⟨j, hj, rfl, HRJ, HBJ⟩ := hrel
        by_cases hjl : j < out.length
        · have j0 : (j : Int) < out.length := by omega
          obtain ⟨g, rfl, hgw, hro⟩ := HRJ.out (by omega)
          obtain ⟨g', rfl⟩ : ∃ g', gk = g' + 1 := ⟨gk - 1, by omega⟩
          obtain ⟨cur, hcur, hk⟩ := hro.ex
          obtain ⟨A, c, c0, c1, c2, c3, c4, c5, c6, l6, g6, ne⟩ := hk j hjl
          have x6 : wr.cell? ⟨g, j * 7 + 6, none⟩ = some (.slice A out[j].f6.length c) := by rw [Lib.cell_of_heap hcur]; exact c6
          have hgl : g < wr.heap.size := (Array.getElem?_eq_some_iff.1 hcur).1
          have HRO := Lib.hid hro
          have HCN := Lib.hid (cloneN_calls A c out[j].f6 wr g6 (by have := HFO.out _ (List.getElem_mem hjl); omega))
          clear hro hk c0 c1 c2 c3 c4 c5 c6 l6 g6 ne hcur
          obtain ⟨N, hN⟩ : ∃ N, out[j].f6 = N := ⟨_, rfl⟩
          rw [hN] at HCN x6
          have HN := Lib.hid hN
          clear hN
          go_wp2_with fail
          refine HCN.out.mono ?_
          rintro e w11 ⟨A', c', rfl, hc', hC', hne', hb11⟩
          have HRO2 := Lib.hid (HRO.out.below hb11)
          have HB11 := Lib.hid (HBJ.out.trans (hb11.mono HBJ.out.size))
          obtain ⟨cur2, hcur2, hk2⟩ := HRO2.out.ex
          obtain ⟨_, _, _, _, _, _, _, _, c6, _⟩ := hk2 j hjl
          have y6 : ∃ v, w11.cell? ⟨g, j * 7 + 6, none⟩ = some v := ⟨_, by rw [Lib.cell_of_heap hcur2]; exact c6⟩
          obtain ⟨v6, y6⟩ := y6
          have z6 : w11.frozen? ⟨g, j * 7 + 6, none⟩ = false := Lib.frozen_of_heap hcur2 _
          have hgl2 : g < w11.heap.size := Nat.lt_of_lt_of_le hgl hb11.size
          have HRN := Lib.hid (HRO2.out.put j hjl A' c' (by rw [HN.out]; exact hc') (by rw [HN.out]; exact hC') (by rw [HN.out]; exact fun ad h1 h2 => by have := hne' ad h1 h2; omega))
          rw [HN.out] at HRN
          have HBN := Lib.hid (HB11.out.setCell (p := ⟨g, j * 7 + 6, none⟩) hgw (.slice A' N.length c'))
          clear hc' hC' hne' hb11 hcur2 hk2 c6
          go_wp2_with fail
          go_roundg g'
          case measure => omega
          case rel => exact ⟨j + 1, by omega, by go_num, Lib.hid (fun _ => ⟨g, rfl, hgw, HRN.out⟩), HBN⟩
        · have j0 : ¬ ((j : Int) < out.length) := by omega
          go_wp2_with fail
          go_ret2
          rw [HSO.out]
          refine ⟨A2, n2, rfl, HN2.out, ?_, HBJ.out⟩
          show Kd.C k56 _ A2 out.length out
          rcases Nat.eq_zero_or_pos out.length with h | h
          · exact ⟨rfl, hon63, fun h2 => by omega⟩
          · obtain ⟨g, rfl, _, hro⟩ := HRJ.out h
            exact hro.read hon63
end Go.Proofs.YtmmfojaeahcohaaDoor

set_option linter.unusedVariables false
set_option linter.unusedSimpArgs false
namespace Go.Proofs.YtmmfojaeahcohaaDoor
open Go.Shelf Go.RowKit Go.Lib Go.Aids Go.Opens Go.Proofs.YtmmfojaeahcohaaDoorW.PrintWords Go.Proofs.YtmmfojaeahcohaaDoor.PTabsNext

def exX : S56 := ⟨6, 10, 0, 0, ⟨#[]⟩, ⟨#[]⟩, []⟩
def exY : S56 := ⟨6, 30, 0, 0, ⟨#[]⟩, ⟨#[]⟩, []⟩
def exP : S56 := ⟨5, 0, 0, 0, ⟨#[]⟩, ⟨#[]⟩, []⟩
def exC : List (List S56) := [[exX], [exY]]
def exL : List S41 := [⟨100, 82⟩]
theorem ex_ok : okSet exC [0] exL 0 exP exP = true := by kernel_rfl
theorem ex_out : (stL exC [0] exL 0 exP exP exC.length).1 = [exX, rightS 60, exY] := by kernel_rfl
theorem ex_fine : Fine exC exL 0 := by
  refine ⟨?_, ?_, by decide, by decide, by decide, by decide⟩
  · intro c hc x hx
    simp only [exC, List.mem_cons, List.not_mem_nil, or_false] at hc
    rcases hc with rfl | rfl <;> (rw [List.mem_singleton] at hx; subst hx; decide)
  · intro t ht
    simp only [exL, List.mem_singleton] at ht
    subst ht
    decide
theorem C_heap {α : Type} {d : Kd α} {W : World} {b : Nat} {t : TypeId} {fr : Nat × Nat} {L : List α} {cs : List Value} (hr : Reps (d.K W) d.sz L cs) (hl : L.length ≤ 9223372036854775807) (hh : W.heap[b]? = some (.cells cs.toArray t fr)) : d.C W (some ⟨b, 0, none⟩) L.length L := by
  refine ⟨rfl, hl, fun _ => ⟨_, rfl, fun j p hj => ?_⟩⟩
  have hk := hr.2 j p hj
  refine ⟨_, d.K_len hk, hk, fun i u hi => ?_⟩
  have hil := (List.getElem?_eq_some_iff.1 hi).1
  rw [List.length_take] at hil
  have ead : ∀ q, ((⟨b, 0, none⟩ : Addr).add q) = ⟨b, q, none⟩ := fun q => by
    simp [Addr.add]
    intro h; omega
  rw [ead, Lib.cell_of_heap hh, List.getElem?_toArray]
  rw [List.getElem?_take, if_pos (by omega), List.getElem?_drop] at hi
  exact hi
theorem heap_at (W : World) (o : Obj) (B : Nat) (hB : B = W.heap.size) : (W.alloc o).heap[B]? = some o := by subst hB; exact heap_alloc_new W o
theorem reps_single {α : Type} {R : α → List Value → Prop} {n : Nat} {x : α} {cs : List Value} (h : R x cs) (hl : cs.length = n) : Reps R n [x] cs := by
  have := (Reps.none R n).snoc h hl
  simpa using this
set_option maxRecDepth 100000 in
theorem ex_in (w : World) : SetIn (((((((w.alloc (.cells #[.int .i64 6, .int .i64 10, .int .i64 0, .int .i64 0, .string ⟨#[]⟩, .string ⟨#[]⟩, .slice none 0 0] 56)).alloc (.cells #[.int .i64 6, .int .i64 30, .int .i64 0, .int .i64 0, .string ⟨#[]⟩, .string ⟨#[]⟩, .slice none 0 0] 56)).alloc (.cells #[.int .i64 6, .int .i64 10, .int .i64 0, .int .i64 0, .string ⟨#[]⟩, .string ⟨#[]⟩, .slice none 0 0] 56)).alloc (.cells #[.int .i64 6, .int .i64 30, .int .i64 0, .int .i64 0, .string ⟨#[]⟩, .string ⟨#[]⟩, .slice none 0 0] 56)).alloc (.cells #[.slice (some ⟨w.heap.size + 1 + 1, 0, none⟩) 1 1, .slice (some ⟨w.heap.size + 1 + 1 + 1, 0, none⟩) 1 1] 57)).alloc (.cells #[.int .i64 0] 3)).alloc (.cells #[.int .i64 100, .int .u8 82] 41)) exC [0] exL 0 exP exP (some ⟨w.heap.size + 1 + 1 + 1 + 1, 0, none⟩) (some ⟨w.heap.size + 1 + 1 + 1 + 1 + 1, 0, none⟩) (some ⟨w.heap.size + 1 + 1 + 1 + 1 + 1 + 1, 0, none⟩) none none 2 1 1 0 0 := by
  obtain ⟨W, hW⟩ : ∃ W, (((((((w.alloc (.cells #[.int .i64 6, .int .i64 10, .int .i64 0, .int .i64 0, .string ⟨#[]⟩, .string ⟨#[]⟩, .slice none 0 0] 56)).alloc (.cells #[.int .i64 6, .int .i64 30, .int .i64 0, .int .i64 0, .string ⟨#[]⟩, .string ⟨#[]⟩, .slice none 0 0] 56)).alloc (.cells #[.int .i64 6, .int .i64 10, .int .i64 0, .int .i64 0, .string ⟨#[]⟩, .string ⟨#[]⟩, .slice none 0 0] 56)).alloc (.cells #[.int .i64 6, .int .i64 30, .int .i64 0, .int .i64 0, .string ⟨#[]⟩, .string ⟨#[]⟩, .slice none 0 0] 56)).alloc (.cells #[.slice (some ⟨w.heap.size + 1 + 1, 0, none⟩) 1 1, .slice (some ⟨w.heap.size + 1 + 1 + 1, 0, none⟩) 1 1] 57)).alloc (.cells #[.int .i64 0] 3)).alloc (.cells #[.int .i64 100, .int .u8 82] 41)) = W := ⟨_, rfl⟩
  have hz : kI.C W none 0 [] := ⟨rfl, by decide, fun h => absurd h (Nat.lt_irrefl 0)⟩
  have h2 : W.heap[w.heap.size + 1 + 1]? = some (.cells #[.int .i64 6, .int .i64 10, .int .i64 0, .int .i64 0, .string ⟨#[]⟩, .string ⟨#[]⟩, .slice none 0 0] 56 (0, 0)) := by
    rw [← hW, Lib.alloc_old _ _ _ (by first | (simp; done) | (simp; omega)), Lib.alloc_old _ _ _ (by first | (simp; done) | (simp; omega)), Lib.alloc_old _ _ _ (by first | (simp; done) | (simp; omega)), Lib.alloc_old _ _ _ (by simp), heap_at _ _ _ (by simp)]
  have h3 : W.heap[w.heap.size + 1 + 1 + 1]? = some (.cells #[.int .i64 6, .int .i64 30, .int .i64 0, .int .i64 0, .string ⟨#[]⟩, .string ⟨#[]⟩, .slice none 0 0] 56 (0, 0)) := by
    rw [← hW, Lib.alloc_old _ _ _ (by first | (simp; done) | (simp; omega)), Lib.alloc_old _ _ _ (by first | (simp; done) | (simp; omega)), Lib.alloc_old _ _ _ (by simp), heap_at _ _ _ (by simp)]
  have h4 : W.heap[w.heap.size + 1 + 1 + 1 + 1]? = some (.cells #[.slice (some ⟨w.heap.size + 1 + 1, 0, none⟩) 1 1, .slice (some ⟨w.heap.size + 1 + 1 + 1, 0, none⟩) 1 1] 57 (0, 0)) := by
    rw [← hW, Lib.alloc_old _ _ _ (by first | (simp; done) | (simp; omega)), Lib.alloc_old _ _ _ (by simp), heap_at _ _ _ (by simp)]
  have h5 : W.heap[w.heap.size + 1 + 1 + 1 + 1 + 1]? = some (.cells #[.int .i64 0] 3 (0, 0)) := by
    rw [← hW, Lib.alloc_old _ _ _ (by simp), heap_at _ _ _ (by simp)]
  have h6 : W.heap[w.heap.size + 1 + 1 + 1 + 1 + 1 + 1]? = some (.cells #[.int .i64 100, .int .u8 82] 41 (0, 0)) := by
    rw [← hW, heap_at _ _ _ (by simp)]
  rw [hW]
  clear hW
  have cx : Kd.C k56 W (some ⟨w.heap.size + 1 + 1, 0, none⟩) [exX].length [exX] := C_heap (reps_single (box_K W exX none 0 (Nat.le_refl _) hz) rfl) (by decide) h2
  have cy : Kd.C k56 W (some ⟨w.heap.size + 1 + 1 + 1, 0, none⟩) [exY].length [exY] := C_heap (reps_single (box_K W exY none 0 (Nat.le_refl _) hz) rfl) (by decide) h3
  refine ⟨?_, by decide, ?_, ?_, by decide, ?_, by decide, ?_, hz, by decide, hz, by decide⟩
  · refine C_heap (cs := [.slice (some ⟨w.heap.size + 1 + 1, 0, none⟩) 1 1, .slice (some ⟨w.heap.size + 1 + 1 + 1, 0, none⟩) 1 1]) ?_ (by decide) h4
    have k1 : (Kd.slice 56 k56).K W [exX] [.slice (some ⟨w.heap.size + 1 + 1, 0, none⟩) 1 1] := ⟨_, 1, rfl, Nat.le_refl _, cx⟩
    have k2 : (Kd.slice 56 k56).K W [exY] [.slice (some ⟨w.heap.size + 1 + 1 + 1, 0, none⟩) 1 1] := ⟨_, 1, rfl, Nat.le_refl _, cy⟩
    exact (reps_single k1 rfl).snoc k2 rfl
  · intro y hy x hx
    simp only [exC, List.mem_cons, List.not_mem_nil, or_false] at hy
    rcases hy with rfl | rfl <;> (rw [List.mem_singleton] at hx; subst hx; decide)
  · exact C_heap (reps_single (R := kI.K W) (x := (0 : Int)) (cs := [.int .i64 0]) rfl rfl) (by decide) h5
  · exact C_heap (reps_single (k41_mk W ⟨100, 82⟩) rfl) (by decide) h6
  · intro x hx
    simp only [exL, List.mem_singleton] at hx
    subst hx
    decide
set_option maxRecDepth 100000 in
set_option maxHeartbeats 4000000 in
theorem sane_calls (w : World) : Calls Tryd.prog 5 #[] w fun e w' => e = .returned (.bool true) ∧ Below w.heap.size w w' := by
  have hs := set_ok _ exC [0] exL 0 exP exP _ _ _ none none 2 1 1 0 0 (ex_in w) ex_ok ex_fine
  rw [ex_out] at hs
  have HS := Lib.hid hs
  clear hs
  go_enter Tryd.func5, Tryd.ntmps5
  go_wp2_with fail
  refine HS.out.mono ?_
  rintro e w2 ⟨A, n, rfl, hn, hC, hb⟩
  have HBn := Lib.hid hb
  obtain ⟨b, off, rfl, hbl, hcell⟩ := boxes_at (l := [exX, rightS 60, exY]) hC (by decide)
  obtain ⟨A6, c6, c0, c1, _⟩ := hcell 1 (by decide)
  have d0 : w2.cell? ⟨b, off + 7, none⟩ = some (.int .i64 2) := c0
  have d1 : w2.cell? ⟨b, off + 7 + 1, none⟩ = some (.int .i64 60) := c1
  clear hcell c0 c1 hC hb hn
  go_wp2_with fail
  go_ret
  exact ⟨rfl, (((((((((Below.refl _ w).alloc (Nat.le_refl _) _).alloc (by simp) _).alloc (by simp; omega) _).alloc (by simp; omega) _).alloc (by simp; omega) _).alloc (by simp; omega) _).alloc (by simp; omega) _).trans (HBn.out.mono (by simp; omega)))⟩
end Go.Proofs.YtmmfojaeahcohaaDoor

set_option linter.unusedVariables false
set_option linter.unusedSimpArgs false
namespace Go.Proofs.YtmmfojaeahcohaaDoor
open Go.Shelf Go.RowKit Go.Lib Go.Aids Go.Opens Go.Proofs.YtmmfojaeahcohaaDoorW.PrintWords Go.Proofs.YtmmfojaeahcohaaDoor.PTabsNext

theorem made_calls (Am : Option Addr) (cm : Nat) (l : List Int) (hl : l.length ≤ 9223372036854775807) : ∃ r ev, (∀ x ∈ r, 0 ≤ x.f1 ∧ x.f1 < 256) ∧ r.length ≤ 10 ∧ ∀ w, Kd.C (Kd.int .i64) w Am l.length l → l.length ≤ cm →
    Calls Tryd.prog 6 #[.slice Am l.length cm] w fun e w' => ∃ B d, e = .returned (.agg #[.slice B r.length d, .int .i64 ev]) ∧ r.length ≤ d ∧ Kd.C k41 w' B r.length r ∧ Below w.heap.size w w' := by
  obtain ⟨r, ev, h1, h2, h3, h4⟩ := made_f l hl
  refine ⟨r, ev, h3, h4, fun w hC hc => ?_⟩
  refine (frisketlaw12_Made.calls 24 Am cm l r ev w hC hc h1).mono ?_
  rintro e w' ⟨v, rfl, hR, hb⟩
  obtain ⟨B, d, rfl, hd, hC'⟩ := Kd.R_reads hR
  exact ⟨B, d, rfl, hd, hC', hb⟩
theorem at_mod (A : Int) : ∃ n : Nat, (n : Int) < 3000 ∧ (IntKind.u64.wrap A).tmod 3000 = n ∧ wrap64 n = n := by
  have h : 0 ≤ IntKind.u64.wrap A := by simp [IntKind.wrap, IntKind.signed, IntKind.bits]; omega
  have e : (IntKind.u64.wrap A).tmod 3000 = (IntKind.u64.wrap A) % 3000 := Int.tmod_eq_emod_of_nonneg h
  have h0 := Int.emod_nonneg (IntKind.u64.wrap A) (show (3000 : Int) ≠ 0 by omega)
  have h1 := Int.emod_lt_of_pos (IntKind.u64.wrap A) (show (0 : Int) < 3000 by omega)
  refine ⟨((IntKind.u64.wrap A) % 3000).toNat, by omega, by rw [e]; omega, wrap64_in _ (by omega) (by omega)⟩
/-- A stop's row at a place. -/
structure RowAt (w : World) (q i : Nat) (A : Option Addr) (c : Nat) (L : List S41) (ev : Int) : Prop where
  c0 : w.cell? ⟨q, i * 2, none⟩ = some (.slice A L.length c)
  c1 : w.cell? ⟨q, i * 2 + 1, none⟩ = some (.int .i64 ev)
  lt : q < w.heap.size
  hc : L.length ≤ c
  hn : L.length ≤ 200
  hb : ∀ t ∈ L, 0 ≤ t.f1 ∧ t.f1 < 256
  hC : Kd.C k41 w A L.length L
theorem RowAt.below {w w' : World} {q i : Nat} {A : Option Addr} {c : Nat} {L : List S41} {ev : Int} (h : RowAt w q i A c L ev) (b : Below w.heap.size w w') : RowAt w' q i A c L ev :=
  ⟨(b.cell (p := ⟨q, i * 2, none⟩) h.lt).trans h.c0, (b.cell (p := ⟨q, i * 2 + 1, none⟩) h.lt).trans h.c1, Nat.lt_of_lt_of_le h.lt b.size, h.hc, h.hn, h.hb, Kd.C_below h.hC b⟩
theorem rows_two (w : World) (A B : Option Addr) (c d : Nat) (L r : List S41) (ev er : Int) (hc : L.length ≤ c) (hn : L.length ≤ 200) (hb : ∀ t ∈ L, 0 ≤ t.f1 ∧ t.f1 < 256) (hC : Kd.C k41 w A L.length L) (hd : r.length ≤ d) (hrn : r.length ≤ 200) (hrb : ∀ t ∈ r, 0 ≤ t.f1 ∧ t.f1 < 256) (hR : Kd.C k41 w B r.length r) :
    RowAt (w.alloc (.cells #[.slice A L.length c, .int .i64 ev, .slice B r.length d, .int .i64 er] 24)) w.heap.size 0 A c L ev ∧ RowAt (w.alloc (.cells #[.slice A L.length c, .int .i64 ev, .slice B r.length d, .int .i64 er] 24)) w.heap.size 1 B d r er := by
  have hb1 := (Below.refl w.heap.size w).alloc (Nat.le_refl _) (.cells #[.slice A L.length c, .int .i64 ev, .slice B r.length d, .int .i64 er] 24)
  have hk := blk_new w (.cells #[.slice A L.length c, .int .i64 ev, .slice B r.length d, .int .i64 er] 24)
  exact ⟨⟨(blk_cell hk 0).trans rfl, (blk_cell hk 1).trans rfl, blk_lt hk, hc, hn, hb, Kd.C_below hC hb1⟩, ⟨(blk_cell hk 2).trans rfl, (blk_cell hk 3).trans rfl, blk_lt hk, hd, hrn, hrb, Kd.C_below hR hb1⟩⟩
set_option maxRecDepth 100000 in
set_option maxHeartbeats 4000000 in
theorem law3_calls (A : Option Addr) (c : Nat) (L : List S41) (ev a : Int) (Am : Option Addr) (cm : Nat) (l : List Int) (hc : L.length ≤ c) (hb : ∀ t ∈ L, 0 ≤ t.f1 ∧ t.f1 < 256) (hm : l.length ≤ cm) (w : World) (ht : Tab w) (hC : Kd.C k41 w A L.length L) (hM : Kd.C (Kd.int .i64) w Am l.length l) :
    Calls Tryd.prog 3 #[.agg #[.slice A L.length c, .int .i64 ev], .int .i64 a, .slice Am l.length cm] w fun e w' => e = .returned (.bool true) ∧ Below w.heap.size w w' := by
  have HSN := Lib.hid (fun W => sane_calls W)
  have hl41 : L.length ≤ 9223372036854775807 := hC.2.1
  by_cases hbig : 200 < L.length
  · have q0 : decide ((L.length : Int) > 200) = true := decide_eq_true (by omega)
    have q1 : decide ((200 : Int) < (L.length : Int)) = true := decide_eq_true (by omega)
    clear hC hM hb ht
    go_enter Tryd.func3, Tryd.ntmps3
    go_wp2_with (go_at_call 5; refine (HSN.out _).mono ?_; rintro e w1 ⟨rfl, b1⟩)
    go_ret
    exact ⟨rfl, ((Below.refl w.heap.size w).alloc (Nat.le_refl _) _).trans (b1.mono (by simp))⟩
  · have q0 : decide ((L.length : Int) > 200) = false := decide_eq_false (by omega)
    have q1 : decide ((200 : Int) < (L.length : Int)) = false := decide_eq_false (by omega)
    have q2 : ¬ (200 < L.length) := hbig
    obtain ⟨r, er, hrb, hrn, hmade⟩ := made_calls Am cm l hM.2.1
    obtain ⟨k, hk, hK, wK⟩ := at_mod a
    have HMD := Lib.hid (fun W (h : Below w.heap.size w W) => hmade W (Kd.C_below hM h) hm)
    have HCW := Lib.hid (fun W (h : Below w.heap.size w W) => Kd.C_below hC h)
    have HTW := Lib.hid (fun W (h : Below w.heap.size w W) => ht.below h)
    have HBL := Lib.hid hb
    have HRB := Lib.hid hrb
    have HKM : Hid (∀ _ : Unit, (IntKind.u64.wrap a).tmod 3000 = k ∧ wrap64 (k : Int) = k) := Lib.hid (fun _ => ⟨hK, wK⟩)
    clear hmade hC hM hb ht hrb hK wK
    go_enter Tryd.func3, Tryd.ntmps3
    have HB0 := Lib.hid ((Below.refl w.heap.size w).alloc (Nat.le_refl _) (.cells #[.slice A L.length c, .int .i64 ev] 24))
    have HQ : Hid ((w.alloc (.cells #[.slice A L.length c, .int .i64 ev] 24)).heap[w.heap.size]? = some (.cells #[.slice A L.length c, .int .i64 ev] 24 (0, 0))) := Lib.hid (blk_new w _)
    go_upto_region 3 with fail
    obtain ⟨W0, hW0⟩ : ∃ W, w.alloc (.cells #[.slice A L.length c, .int .i64 ev] 24) = W := ⟨_, rfl⟩
    simp only [hW0] at HQ HB0 ⊢
    clear hW0
    obtain ⟨g, hg⟩ : ∃ g, w.heap.size = g := ⟨_, rfl⟩
    have HG := Lib.hid hg
    have HMD2 := Lib.hid (fun W (h : Below W0.heap.size W0 W) => HMD.out W (HB0.out.trans (h.mono HB0.out.size)))
    have HC0 : Hid (Kd.C k41 W0 A L.length L) := Lib.hid (HCW.out W0 HB0.out)
    have HT0 : Hid (Tab W0) := Lib.hid (HTW.out W0 HB0.out)
    simp only [hg] at HQ ⊢
    clear hg HMD HCW HTW
    have HK := Lib.hid (show ∀ w' : World, Below W0.heap.size W0 w' → w'.cell? ⟨g, 0, none⟩ = some (.slice A L.length c) ∧ w'.cell? ⟨g, 1, none⟩ = some (.int .i64 ev) from fun w' h => ⟨(blk_cell (blk_below HQ.out h) 0).trans rfl, (blk_cell (blk_below HQ.out h) 1).trans rfl⟩)
    go_cut [7] (fun v7 wx => ∃ q, v7 = .slice (some ⟨q, 0, none⟩) 2 2 ∧ Hid (Below W0.heap.size W0 wx ∧ RowAt wx q 0 A c L ev ∧ ∃ B d, RowAt wx q 1 B d r er))
    case first =>
      have hN : Below W0.heap.size W0 W0.drew := (Below.refl _ _).drew
      go_region_held3 (fun w' => w'.cell? ⟨g, 0, none⟩ = some (.slice A L.length c) ∧ w'.cell? ⟨g, 1, none⟩ = some (.int .i64 ev))
        (first | exact HK.out _ (by assumption) | exact HK.out _ (Below.alloc (by assumption) (Below.size (by assumption)) _))
        (first | (go_at_call 6; refine (HMD2.out _ hN).mono ?_; rintro e w5 ⟨B, d, rfl, hd, hCB, hb5⟩; have hN := Below.trans hN (hb5.mono hN.size)))
      all_goals
        have HR2 := Lib.hid (rows_two w5 A B c d L r ev er hc (by omega) HBL.out (Kd.C_below HC0.out hN) hd (by omega) HRB.out hCB)
        have HB3 := Lib.hid (hN.alloc hN.size (.cells #[.slice A L.length c, .int .i64 ev, .slice B r.length d, .int .i64 er] 24))
        clear hCB hN hb5
        go_wp2_with fail
        go_meet
      all_goals exact ⟨_, rfl, Lib.hid ⟨HB3.out, HR2.out.1, _, _, HR2.out.2⟩⟩
    case rest =>
      obtain ⟨q, rfl, HQ3⟩ := hcut
      obtain ⟨B, d, hr1⟩ := HQ3.out.2.2
      have HRW : Hid (∀ i : Nat, i < 2 → ∃ A c L ev, RowAt wc q i A c L ev) := Lib.hid (fun i hi => by
        rcases (show i = 0 ∨ i = 1 by omega) with rfl | rfl
        · exact ⟨_, _, _, _, HQ3.out.2.1⟩
        · exact ⟨_, _, _, _, hr1⟩)
      have HBW := Lib.hid HQ3.out.1
      clear HQ3 hr1 hm hc hl41 hbig q0 q1 q2 hrn
      have HT3 : Hid (∀ W, Below wc.heap.size wc W → Tab W) := Lib.hid (fun W h => HT0.out.below (HBW.out.trans (h.mono HBW.out.size)))
      clear HT0 HC0 HMD2 HK HRB HBL
      have HFI : Hid (∀ W, Below wc.heap.size wc W → Below w.heap.size w W) := Lib.hid (fun W h => by
        have h1 := HB0.out.trans (HBW.out.mono HB0.out.size)
        exact h1.trans (h.mono h1.size))
      go_upto_region 5 with fail
      go_loopg [8] 2 (fun gk s8 wx => ∃ i : Nat, i + gk = 2 ∧ s8 = .int .i64 i ∧ Hid (Below wc.heap.size wc wx))
      case atStart => exact ⟨0, by omega, rfl, Lib.hid (Below.refl _ _)⟩
      case round =>
        obtain ⟨i, hi, rfl, HB⟩ := hrel
        by_cases hlt : i < 2
        · have i0 : decide ((i : Int) < 2) = true := decide_eq_true (by omega)
          obtain ⟨g', rfl⟩ : ∃ g', gk = g' + 1 := ⟨gk - 1, by omega⟩
          obtain ⟨A, c, L, ev, hrow0⟩ := HRW.out i hlt
          have HRO := Lib.hid (hrow0.below HB.out)
          have hl2 : (i : Int) < 2 := by omega
          have hl3 : (0 : Int) ≤ (i : Int) := by omega
          clear hrow0
          have HV := Lib.hid (fun W (h : Below wr.heap.size wr W) => tvalid_calls A c L ev HRO.out.hc HRO.out.hb W (Kd.C_below HRO.out.hC h))
          have HA := Lib.hid (fun W (h : Below wr.heap.size wr W) => as2_calls A c L ev (by have := HRO.out.hn; omega) W (Kd.C_below HRO.out.hC h) HRO.out.hc)
          have HRV := Lib.hid (fun B d W (h : Kd.C k44 W B L.length (L.map cv)) (hd : L.length ≤ d) => rvalid_calls B d L ev W h hd)
          have HT := Lib.hid (fun W (h : Below wr.heap.size wr W) => text_calls A c L ev HRO.out.hc HRO.out.hb W (HT3.out W (HB.out.trans (h.mono HB.out.size))) (Kd.C_below HRO.out.hC h))
          have HRT := Lib.hid (fun B d W (h : Kd.C k44 W B L.length (L.map cv)) (hd : L.length ≤ d) => rtext_calls B d L ev hd W h)
          have HN := Lib.hid (fun W (h : Below wr.heap.size wr W) => pnext_calls A c L ev k HRO.out.hc (by have := HRO.out.hn; omega) HRO.out.hb (by omega) (by omega) W (Kd.C_below HRO.out.hC h))
          have HRN := Lib.hid (fun B d W (h : Kd.C k44 W B L.length (L.map cv)) (hd : L.length ≤ d) => rnextO_calls B d L ev k (by omega) (by omega) W h hd)
          generalize (if tvalidB L ev then (textS L ev, (0 : Int)) else (⟨#[]⟩, 1)) = tx at HT HRT
          generalize tvalidB L ev = vb at HV HRV
          generalize nextO L ev k = nx at HN HRN
          obtain ⟨t1, t2⟩ := tx
          obtain ⟨n1, n2, n3⟩ := nx
          have HK := Lib.hid (show ∀ w' : World, Below wr.heap.size wr w' → w'.cell? ⟨q, i * 2, none⟩ = some (.slice A L.length c) ∧ w'.cell? ⟨q, i * 2 + 1, none⟩ = some (.int .i64 ev) from fun w' h => ⟨(HRO.out.below h).c0, (HRO.out.below h).c1⟩)
          go_upto_region 7 with fail
          go_cut [42] (fun v42 wx => v42 = .bool false ∧ Hid (Below wr.heap.size wr wx))
          case first =>
            have hN : Below wr.heap.size wr wr.drew := (Below.refl _ _).drew
            go_region_held3 (fun w' => w'.cell? ⟨q, i * 2, none⟩ = some (.slice A L.length c) ∧ w'.cell? ⟨q, i * 2 + 1, none⟩ = some (.int .i64 ev))
              (exact HK.out _ (by assumption))
              (first
                | (go_at_call 7; refine (HV.out _ hN).mono ?_; rintro e w7 ⟨rfl, hb7⟩; have hN := Below.trans hN (hb7.mono hN.size))
                | (go_at_call 9; refine (HA.out _ hN).mono ?_; rintro e w6 ⟨B, d, rfl, hd, hCB, hb6⟩; have hN := Below.trans hN (hb6.mono hN.size))
                | (go_at_call 8; refine (HRV.out _ _ _ (by first | exact hCB | exact Kd.C_below hCB hb7) hd).mono ?_; rintro e w8 ⟨rfl, hb8⟩; have hN := Below.trans hN (hb8.mono hN.size)))
            all_goals
              have HBL := Lib.hid hN
              go_wp2_with fail
              go_meet
            all_goals exact ⟨rfl, HBL⟩
          case rest =>
            obtain ⟨rfl, HB1⟩ := hcut
            have hN := HB1.out
            obtain ⟨k0, k1⟩ := HK.out _ hN
            go_upto_region 13 with (first
              | (go_at_call 10; refine (HT.out _ hN).mono ?_; rintro e w2 ⟨rfl, hb2⟩; have hN := Below.trans hN (hb2.mono hN.size); obtain ⟨k0, k1⟩ := HK.out _ hN; clear hb2)
              | (go_at_call 9; refine (HA.out _ hN).mono ?_; rintro e w3 ⟨B, d, rfl, hd, hCB, hb3⟩; have hN := Below.trans hN (hb3.mono hN.size); clear hb3)
              | (go_at_call 11; refine (HRT.out _ _ _ hCB hd).mono ?_; rintro e w4 ⟨rfl, hb4⟩; have hN := Below.trans hN (hb4.mono hN.size); obtain ⟨k0, k1⟩ := HK.out _ hN; clear hb4))
            obtain ⟨hK, wK⟩ := HKM.out ()
            go_upto_region 14 with fail
            clear hK wK
            go_upto_region 15 with (first
              | (go_at_call 12; refine (HN.out _ hN).mono ?_; rintro e w5 ⟨rfl, hb5⟩; have hN := Below.trans hN (hb5.mono hN.size); clear hb5))
            have HN6 := Lib.hid (hN.alloc hN.size (.cells #[.int .i64 n1, .int .u8 n2] 41))
            have HP6 := Lib.hid (blk_new w5 (.cells #[.int .i64 n1, .int .u8 n2] 41))
            obtain ⟨W6, hW6⟩ : ∃ W, w5.alloc (.cells #[.int .i64 n1, .int .u8 n2] 41) = W := ⟨_, rfl⟩
            simp only [hW6] at HN6 HP6 ⊢
            clear hW6
            obtain ⟨p6, hp6⟩ : ∃ p, w5.heap.size = p := ⟨_, rfl⟩
            simp only [hp6] at HP6 ⊢
            clear hp6 hN
            have hN := HN6.out
            have hM : Below W6.heap.size W6 W6 := Below.refl _ _
            obtain ⟨k0, k1⟩ := HK.out _ hN
            go_upto_region 16 with (first
              | (go_at_call 9; refine (HA.out _ hN).mono ?_; rintro e w7 ⟨B, d, rfl, hd, hCB, hb7⟩; have hN := Below.trans hN (hb7.mono hN.size); have hM := Below.trans hM (hb7.mono hM.size); clear hb7)
              | (go_at_call 13; refine (HRN.out _ _ _ hCB hd).mono ?_; rintro e w8 ⟨rfl, hb8⟩; have hN := Below.trans hN (hb8.mono hN.size); have hM := Below.trans hM (hb8.mono hM.size); clear hb8))
            have HM8 := Lib.hid (hM.alloc hM.size (.cells #[.int .i64 n1, .int .u8 n2] 44))
            have HB8 := Lib.hid (hN.alloc hN.size (.cells #[.int .i64 n1, .int .u8 n2] 44))
            have HP8 := Lib.hid (blk_new w8 (.cells #[.int .i64 n1, .int .u8 n2] 44))
            obtain ⟨W8, hW8⟩ : ∃ W, w8.alloc (.cells #[.int .i64 n1, .int .u8 n2] 44) = W := ⟨_, rfl⟩
            simp only [hW8] at HM8 HB8 HP8 ⊢
            clear hW8
            obtain ⟨p8, hp8⟩ : ∃ p, w8.heap.size = p := ⟨_, rfl⟩
            simp only [hp8] at HP8 ⊢
            clear hp8 hN hM
            have d0 : W8.cell? ⟨p6, 0, none⟩ = some (.int .i64 n1) := (blk_cell (blk_below HP6.out HM8.out) 0).trans rfl
            have d1 : W8.cell? ⟨p6, 1, none⟩ = some (.int .u8 n2) := (blk_cell (blk_below HP6.out HM8.out) 1).trans rfl
            have d2 : W8.cell? ⟨p8, 0, none⟩ = some (.int .i64 n1) := (blk_cell HP8.out 0).trans rfl
            have d3 : W8.cell? ⟨p8, 1, none⟩ = some (.int .u8 n2) := (blk_cell HP8.out 1).trans rfl
            go_wp2_with fail
            go_roundg g'
            case measure => omega
            case rel => exact ⟨i + 1, by omega, by go_num, Lib.hid (HB.out.trans (HB8.out.mono HB.out.size))⟩
        · have i0 : decide ((i : Int) < 2) = false := decide_eq_false (by omega)
          go_wp2_with (go_at_call 5; refine (HSN.out _).mono ?_; rintro e w9 ⟨rfl, b9⟩)
          go_ret
          have q5 := HFI.out _ HB.out
          exact ⟨rfl, q5.trans (b9.mono q5.size)⟩
end Go.Proofs.YtmmfojaeahcohaaDoor

set_option linter.unusedVariables false
set_option linter.unusedSimpArgs false
namespace Go.Proofs.YtmmfojaeahcohaaDoor
open Go.Shelf Go.RowKit Go.Opens Go.Lib Go.Aids Go.Proofs.YtmmfojaeahcohaaDoorW.PrintWords Go.Proofs.YtmmfojaeahcohaaDoor.PTabsNext

def wfI (n : Int) : Prop := (Lit.int .i64 n).wf = true
theorem o3 : Opens Tryd.prog 3 (Kd.int .i64) wfI := Opens.int Tryd.underlying3 (by kernel_rfl)
def wfB (n : Int) : Prop := (Lit.int .u8 n).wf = true
theorem o5 : Opens Tryd.prog 5 (Kd.int .u8) wfB := Opens.int Tryd.underlying5 (by kernel_rfl)
def wf41 (x : S41) : Prop := wfI x.f0 ∧ wfB x.f1
theorem o41 : Opens Tryd.prog 41 k41 wf41 :=
  Opens.iso (Opens.struct (d := Kd.pair (Kd.int .i64) (Kd.int .u8)) Tryd.underlying41 (by kernel_rfl) (Fields.cons o3 rfl (Fields.one o5 rfl))) (fun x : S41 => (x.f0, x.f1)) (fun p => ⟨p.1, p.2⟩) (fun _ => rfl)
def wf22 (l : List S41) : Prop := l.length ≤ 9223372036854775807 ∧ ∀ x ∈ l, wf41 x
theorem o22 : Opens Tryd.prog 22 (Kd.slice 41 k41) wf22 := Opens.slice o41 Tryd.underlying22 (by kernel_rfl)
abbrev kStops := Kd.pair (Kd.slice 41 k41) (Kd.int .i64)
def wf24 (p : List S41 × Int) : Prop := wf22 p.1 ∧ wfI p.2
theorem o24 : Opens Tryd.prog 24 kStops wf24 := Opens.struct (d := kStops) Tryd.underlying24 (by kernel_rfl) (Fields.cons o22 rfl (Fields.one o3 rfl))
theorem wfB_b (n : Int) (h : wfB n) : 0 ≤ n ∧ n < 256 := by
  have h1 : IntKind.u8.min = 0 := by rfl
  have h2 : IntKind.u8.max = 255 := by rfl
  have h3 : (decide (IntKind.u8.min ≤ n) && decide (n ≤ IntKind.u8.max)) = true := h
  rw [h1, h2, Bool.and_eq_true, decide_eq_true_eq, decide_eq_true_eq] at h3
  omega
theorem tab_of {W : World} (h : laidMetH Tryd.prog Rows.tabsNextRow.laid W) : Tab W := by
  rw [MakeChecks.laidMetH_plain _ _ _ (by kernel_rfl)] at h
  have h2 : laidMet Tryd.prog [("internal/strconv.uint64pow10", Lib.tabData .u64 Lib.pow10Tab)] W := h.tail.tail
  exact Lib.tabIs_of_head gPow (t := 136) (e := 116) (n := 20) (by kernel_rfl) (by kernel_rfl) (by kernel_rfl) (by kernel_rfl) (by kernel_rfl) h2
theorem next_row {W : World} {cs : Array Value} {p : List S41 × Int} {Am : Option Addr} {cm : Nat} {l : List Int} (a : Int) (hK : kStops.K W p cs.toList) (hw : wf24 p) (hm : l.length ≤ cm) (hM : Kd.C (Kd.int .i64) W Am l.length l) (ht : Tab W) :
    Calls Tryd.prog 3 #[.agg cs, .int .i64 a, .slice Am l.length cm] W fun e w' => e = .returned (.bool true) ∧ Below W.heap.size W w' := by
  obtain ⟨L, ev⟩ := p
  obtain ⟨c0, c1, e0, ⟨A, c, rfl, hc, hA⟩, h2⟩ := hK
  have g2 : c1 = [.int .i64 ev] := h2
  subst g2
  have hcs : cs = #[.slice A L.length c, .int .i64 ev] := by
    apply Array.ext'
    simpa using e0
  rw [hcs]
  exact law3_calls A c L ev a Am cm l hc (fun t ht => wfB_b _ (hw.1.2 t ht).2) hm W ht hA hM
end Go.Proofs.YtmmfojaeahcohaaDoor

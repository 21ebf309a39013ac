/- Walks of layer 12: tabs.Valid. -/
import Derived.Test.YtmmfojaeahcohaaT12G
set_option linter.unusedVariables false
set_option linter.unusedSimpArgs false
namespace Go.Proofs.Ytmmfojaeahcohaa
open Go.Shelf Go.RowKit Go.Lib Go.Aids Go.Opens Go.Proofs.YtmmfojaeahcohaaW.PrintWords Go.Proofs.Ytmmfojaeahcohaa.PTabsMade

def kindT (c : Int) : Bool := decide (c = 76) || (decide (c = 82) || decide (c = 67))
def okStops : Int → List S68 → Bool
  | _, [] => true
  | last, t :: r => decide (last < t.f0) && (decide (t.f0 ≤ 1000000) && (kindT t.f1 && okStops t.f0 r))
def tvalidB (L : List S68) (ev : Int) : Bool := okStops (-1) L && (decide (L.length ≤ 40) && (decide (0 ≤ ev) && decide (ev ≤ 1000000)))
theorem lrc_is (c : Int) (h0 : 0 ≤ c) (h1 : c < 256) : decide (Lib.indexByte (⟨#[76, 82, 67]⟩ : ByteArray).data.toList c.toNat.toUInt8 < 0) = !kindT c := by
  obtain ⟨n, rfl⟩ : ∃ n : Nat, c = n := ⟨c.toNat, by omega⟩
  have h : n < 256 := by omega
  have : ∀ n : Nat, n < 256 → decide (Lib.indexByte [76, 82, 67] n.toUInt8 < 0) = !(decide (n = 76) || (decide (n = 82) || decide (n = 67))) := by decide +kernel
  have e : kindT (n : Int) = (decide (n = 76) || (decide (n = 82) || decide (n = 67))) := by
    unfold kindT
    have e1 : ((n : Int) = 76) ↔ n = 76 := by omega
    have e2 : ((n : Int) = 82) ↔ n = 82 := by omega
    have e3 : ((n : Int) = 67) ↔ n = 67 := by omega
    simp only [e1, e2, e3]
  rw [e]
  exact this n h
theorem stops_at {w : World} {A : Option Addr} {l : List S68} (h : Kd.C k68 w A l.length l) (hn : 0 < l.length) : ∃ b off, A = some ⟨b, off, none⟩ ∧ b < w.heap.size ∧
    ∀ k (hk : k < l.length), w.cell? ⟨b, off + k * 2, none⟩ = some (.int .i64 l[k].f0) ∧ w.cell? ⟨b, off + k * 2 + 1, none⟩ = some (.int .u8 l[k].f1) := by
  obtain ⟨b, off, hA, hb, hc⟩ := C_at h (by show 0 < 2; omega) hn
  refine ⟨b, off, hA, hb, fun i hi => ?_⟩
  obtain ⟨c, _, hk, hcell⟩ := hc i hi
  have e := k68_open hk
  subst e
  exact ⟨hcell 0 _ rfl, hcell 1 _ rfl⟩
set_option maxRecDepth 100000 in
set_option maxHeartbeats 4000000 in
theorem tvalid_calls (A : Option Addr) (c : Nat) (L : List S68) (ev : Int) (hc : L.length ≤ c) (hb : ∀ t ∈ L, 0 ≤ t.f1 ∧ t.f1 < 256) (w : World) (hC : Kd.C k68 w A L.length L) :
    Calls Try.prog 25 #[.agg #[.slice A L.length c, .int .i64 ev]] w fun e w' => e = .returned (.bool (tvalidB L ev)) ∧ Below w.heap.size w w' := by
  have HC := Lib.hid hC
  have HH := Lib.hid hb
  have hl : L.length ≤ 9223372036854775807 := hC.2.1
  obtain ⟨V, hV⟩ : ∃ V, tvalidB L ev = V := ⟨_, rfl⟩
  have HV := Lib.hid hV
  rw [hV]
  clear hC hb hV
  go_enter Try.func25, Try.ntmps25
  go_wp2_with fail
  obtain ⟨g, hg⟩ : ∃ g, w.heap.size = g := ⟨_, rfl⟩
  obtain ⟨W0, hW0⟩ : ∃ W, w.alloc (.cells #[.slice A L.length c, .int .i64 ev] 26) = W := ⟨_, rfl⟩
  have c0 : W0.cell? ⟨g, 0, none⟩ = some (.slice A L.length c) := by rw [← hW0, ← hg]; simp
  have c1 : W0.cell? ⟨g, 1, none⟩ = some (.int .i64 ev) := by rw [← hW0, ← hg]; simp
  have gl : g < W0.heap.size := by rw [← hW0, ← hg]; simp
  have HB0 := Lib.hid (show Below w.heap.size w W0 by rw [← hW0]; exact (Below.refl _ _).alloc (Nat.le_refl _) _)
  rw [hW0]
  simp only [hg]
  have HG := Lib.hid hg
  clear hW0 hg
  go_loopg [3, 9] L.length (fun gk s3 s9 wx => ∃ (i : Nat) (last : Int), i + gk = L.length ∧ s3 = .int .i64 last ∧ s9 = .int .i64 i ∧ Hid (okStops (-1) L = okStops last (L.drop i)) ∧ Hid (Below W0.heap.size W0 wx))
  case atStart => exact ⟨0, -1, by omega, rfl, rfl, Lib.hid rfl, Lib.hid (Below.refl _ _)⟩
  case round =>
    obtain ⟨i, last, hi, rfl, rfl, HD, HB⟩ := hrel
    have k0 := (HB.out.cell (p := ⟨g, 0, none⟩) gl).trans c0
    have k1 := (HB.out.cell (p := ⟨g, 1, none⟩) gl).trans c1
    have kl : g < wr.heap.size := Nat.lt_of_lt_of_le gl HB.out.size
    by_cases hlt : i < L.length
    · have i0 : (i : Int) < L.length := by omega
      obtain ⟨b, off, rfl, hbl, hcell⟩ := stops_at (Kd.C_below HC.out (HB0.out.trans (HB.out.mono HB0.out.size))) (by omega)
      obtain ⟨d0, d1⟩ := hcell i hlt
      have hd : L.drop i = L[i] :: L.drop (i + 1) := List.drop_eq_getElem_cons hlt
      have hst : okStops last (L.drop i) = (decide (last < L[i].f0) && (decide (L[i].f0 ≤ 1000000) && (kindT L[i].f1 && okStops L[i].f0 (L.drop (i + 1))))) := by rw [hd]; rfl
      have hbk := HH.out _ (List.getElem_mem hlt)
      have hlr := lrc_is L[i].f1 hbk.1 hbk.2
      obtain ⟨at_, hat⟩ : ∃ x, L[i].f0 = x := ⟨_, rfl⟩
      obtain ⟨kd, hkd⟩ : ∃ x, L[i].f1 = x := ⟨_, rfl⟩
      rw [hat, hkd] at hst
      rw [hkd] at hlr d1
      rw [hat] at d0
      have HI := Lib.hid (fun W => Try.strings_IndexByte ⟨#[76, 82, 67]⟩ kd W)
      obtain ⟨R, hR⟩ : ∃ R, Lib.indexByte (⟨#[76, 82, 67]⟩ : ByteArray).data.toList kd.toNat.toUInt8 = R := ⟨_, rfl⟩
      rw [hR] at HI hlr
      obtain ⟨q, hq⟩ : ∃ q, kindT kd = q := ⟨_, rfl⟩
      rw [hq] at hst hlr
      have HS := Lib.hid hst
      have HR2 := Lib.hid hlr
      clear hcell hd hst hbk hat hkd hR hq hlr hbl
      have hno : Hid (∀ z : Bool, okStops last (L.drop i) = z → (z = false → V = false)) := Lib.hid (fun z hz e => by
        rw [← HV.out]; unfold tvalidB; rw [HD.out, hz, e]; rfl)
      by_cases h1 : at_ ≤ last
      · have hV : Hid (V = false) := Lib.hid (hno.out false (by rw [HS.out, decide_eq_false (by omega)]; rfl) rfl)
        go_wp2_with fail
        go_ret
        exact ⟨by rw [hV.out]; rfl, HB0.out.trans ((HB.out.mono HB0.out.size).alloc (by have := HB0.out.size; have := HB.out.size; omega) _)⟩
      by_cases h2 : 1000000 < at_
      · have hV : Hid (V = false) := Lib.hid (hno.out false (by rw [HS.out, decide_eq_false (by omega : ¬ at_ ≤ 1000000)]; simp) rfl)
        go_wp2_with fail
        go_ret
        exact ⟨by rw [hV.out]; rfl, HB0.out.trans ((HB.out.mono HB0.out.size).alloc (by have := HB0.out.size; have := HB.out.size; omega) _)⟩
      cases q
      · have hR3 : R < 0 := of_decide_eq_true HR2.out
        have hV : Hid (V = false) := Lib.hid (hno.out false (by rw [HS.out]; simp) rfl)
        go_wp2_with (go_at_call 49; refine (HI.out _).mono ?_; rintro e w2 ⟨rfl, rfl⟩)
        go_ret
        exact ⟨by rw [hV.out]; rfl, HB0.out.trans ((HB.out.mono HB0.out.size).alloc (by have := HB0.out.size; have := HB.out.size; omega) _)⟩
      · have hR3 : ¬ R < 0 := of_decide_eq_false HR2.out
        obtain ⟨g', rfl⟩ : ∃ g', gk = g' + 1 := ⟨gk - 1, by omega⟩
        go_wp2_with (go_at_call 49; refine (HI.out _).mono ?_; rintro e w2 ⟨rfl, rfl⟩)
        go_roundg g'
        case measure => omega
        case rel => exact ⟨i + 1, at_, by omega, rfl, by go_num, Lib.hid (by rw [HD.out, HS.out, decide_eq_true (by omega : last < at_), decide_eq_true (by omega : at_ ≤ 1000000)]; rfl), Lib.hid (HB.out.alloc HB.out.size _)⟩
    · have i0 : ¬ ((i : Int) < L.length) := by omega
      have hd : L.drop i = [] := List.drop_eq_nil_of_le (by omega)
      have HV2 : Hid (V = (decide (L.length ≤ 40) && (decide (0 ≤ ev) && decide (ev ≤ 1000000)))) := Lib.hid (by
        rw [← HV.out]; unfold tvalidB; rw [HD.out, hd]; rfl)
      obtain ⟨m, hm⟩ : ∃ m, L.length = m := ⟨_, rfl⟩
      rw [hm] at HV2
      have hm1 : ((L.length : Nat) : Int) ≤ 40 ↔ m ≤ 40 := by omega
      clear hd
      by_cases e1 : m ≤ 40
      all_goals by_cases e2 : 0 ≤ ev
      all_goals by_cases e3 : ev ≤ 1000000
      all_goals
        have HV3 := HV2.out
        simp only [e1, e2, e3, decide_true, decide_false, Bool.and_true, Bool.and_false, Bool.true_and, Bool.false_and] at HV3
        have HV4 := Lib.hid HV3
        clear HV3
        first
          | (have j0 : ((L.length : Nat) : Int) ≤ 40 := by omega)
          | (have j0 : ¬ ((L.length : Nat) : Int) ≤ 40 := by omega)
        go_wp2_with fail
        all_goals go_ret
        all_goals exact ⟨by first | (rw [HV4.out]; done) | (rw [HV4.out]; rfl), HB0.out.trans (HB.out.mono HB0.out.size)⟩
end Go.Proofs.Ytmmfojaeahcohaa

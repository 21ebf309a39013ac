/- Walks of layer 1's reader: number. -/
import Derived.Test.YtkomofphgnekoaaDoorWalkC
import Derived.Deep.DeepCutAuto
import Derived.BigQuiet
set_option linter.unusedVariables false
set_option linter.unusedSimpArgs false
namespace Go.Proofs.YtkomofphgnekoaaDoor
open Go.Shelf Go.RowKit Go.Lib Go.Aids Go.MapLit

structure St (w : World) (b : Nat) (c : Cx) (a : Nat) : Prop where
  rd : Rd w b c a
  mp : MapIs eK eV w c.m (scL c.size c.vs)
  ne : c.m ≠ b
/-- The context is one. -/
structure Cx.Ok (c : Cx) : Prop where
  hs : c.s.size ≤ 4611686018427387904
  s0 : 0 ≤ c.size
  s1 : c.size ≤ 1000000
  v0 : 0 ≤ c.vs
  v1 : c.vs ≤ 1000000
  h0 : -1000000000 ≤ c.here
  h1 : c.here ≤ 1000000000
  sc : c.scale < 256
  u : (unitOf c c.scale).isSome
theorem MapIs.kp {w w' : World} {b m : Nat} {l : SS} (h : MapIs eK eV w m l) (hk : Kp b w w') (hne : m ≠ b) : MapIs eK eV w' m l := by
  have h' : w.heap[m]? = some _ := h
  have hlt : m < w.heap.size := by rw [Array.getElem?_eq_some_iff] at h'; exact h'.1
  exact (hk.block m hlt hne).trans h'
theorem St.kp {w w' : World} {b a a' : Nat} {c : Cx} (h : St w b c a) (hk : Kp b w w') (hr : Rd w' b c a') : St w' b c a' := ⟨hr, MapIs.kp h.mp hk h.ne, h.ne⟩
def Post (b : Nat) (c : Cx) (w : World) (o : Out) (e : Ending) (w' : World) : Prop :=
  match o with
  | .ok n t => e = .returned (.int .i64 n) ∧ Kp b w w' ∧ Rd w' b c t
  | .die k => e = thrown k ∧ Kp b w w'
  | .stuck => True
theorem wrap64_in (n : Int) (h0 : -9223372036854775808 ≤ n) (h1 : n ≤ 9223372036854775807) : wrap64 n = n := by unfold wrap64; omega
theorem find_cons (k0 v : Int) (l : SS) (k : Int) : find ((k0, v) :: l) k = if k = k0 then some v else find l k := by
  unfold find
  rw [List.find?_cons]
  by_cases h : k = k0
  · simp [h]
  · simp [h]
theorem find_none (k : Int) : find ([] : SS) k = none := rfl
theorem int_nat (k j : Nat) : ((k : Int) = (j : Int)) = (k = j) := propext (by omega)
theorem find_sc (c : Cx) (ok : c.Ok) (k : Nat) : find (scL c.size c.vs) (k : Int) = unitOf c k := by
  have := ok.s0; have := ok.s1
  unfold scL unitOf
  rw [wrap64_in _ (by omega) (by omega), wrap64_in _ (by omega) (by omega)]
  simp only [find_cons, find_none]
  rw [show (117 : Int) = ((117 : Nat) : Int) from rfl, show (112 : Int) = ((112 : Nat) : Int) from rfl, show (80 : Int) = ((80 : Nat) : Int) from rfl, show (105 : Int) = ((105 : Nat) : Int) from rfl, show (99 : Int) = ((99 : Nat) : Int) from rfl, show (109 : Int) = ((109 : Nat) : Int) from rfl, show (110 : Int) = ((110 : Nat) : Int) from rfl, show (118 : Int) = ((118 : Nat) : Int) from rfl]
  simp only [int_nat]
theorem unit_bound (c : Cx) (ok : c.Ok) (k : Nat) (u : Int) (h : unitOf c k = some u) : 0 ≤ u ∧ u ≤ 10000000 := by
  have := ok.s0; have := ok.s1; have := ok.v0; have := ok.v1
  unfold unitOf at h
  repeat' split at h
  all_goals (first | (injection h; omega) | cases h)

/-- What stands behind the point: the part, how many digits, and where it ends. -/
def dotO (s : ByteArray) (a : Nat) : Nat × Nat × Nat :=
  if pk s a = 46 then (let r := rowF s 9 0 (a + 1); (r.1, r.2 - (a + 1), if r.2 - (a + 1) = 0 then a else r.2)) else (0, 0, a)
def number2 (c : Cx) (a : Nat) (r1 : Nat × Nat) (d : Nat × Nat × Nat) : Out :=
  if r1.2 = a ∧ d.2.1 = 0 then .die 4
  else match unitOf c (pk c.s d.2.2) with
    | some u => heldO c ((r1.1 : Int) * u + ((d.1 : Int) * u).tdiv ((10 ^ d.2.1 : Nat) : Int)) (d.2.2 + 1)
    | none => heldO c ((r1.1 : Int) * ((unitOf c c.scale).getD 0) + ((d.1 : Int) * ((unitOf c c.scale).getD 0)).tdiv ((10 ^ d.2.1 : Nat) : Int)) d.2.2
theorem numberO_two (c : Cx) (a : Nat) : numberO c a = number2 c a (rowF c.s 9 0 a) (dotO c.s (rowF c.s 9 0 a).2) := by
  unfold numberO number2 dotO
  by_cases h : pk c.s (rowF c.s 9 0 a).2 = 46
  · simp only [if_pos h]; rfl
  · simp [if_neg h]; rfl
theorem dotO_bound (s : ByteArray) (a : Nat) (h : a ≤ s.size) : (dotO s a).1 < 1000000000 ∧ (dotO s a).2.1 ≤ 9 ∧ (dotO s a).2.2 ≤ s.size := by
  unfold dotO
  split
  · rename_i hd
    have hlt := pk_lt (show pk s a ≠ 0 by omega)
    obtain ⟨h1, h2, h3, h4⟩ := rowF_bound s 9 0 (a + 1)
    have h5 := h4 (by omega)
    have : 10 ^ ((rowF s 9 0 (a + 1)).2 - (a + 1)) ≤ 10 ^ 9 := Nat.pow_le_pow_right (by decide) (by omega)
    refine ⟨?_, by show _ - _ ≤ 9; omega, ?_⟩
    · show (rowF s 9 0 (a + 1)).1 < 1000000000
      have e9 : 10 ^ 9 = 1000000000 := by decide
      omega
    · show (if _ then a else _) ≤ _
      split
      · omega
      · exact h5
  · exact ⟨by show 0 < 1000000000; omega, Nat.zero_le _, h⟩

theorem heldO_ok {c : Cx} {n m : Int} {a t : Nat} (h : heldO c n a = .ok m t) : t = a := by
  unfold heldO at h
  repeat' split at h
  all_goals first | (injection h; rename_i h; exact h.symm) | cases h | (injection h with h1 h2; exact h2.symm)
theorem heldO_stuck {c : Cx} {n : Int} {a : Nat} : ¬ heldO c n a = .stuck := by
  intro h
  unfold heldO at h
  repeat' split at h
  all_goals cases h

set_option maxRecDepth 100000 in
set_option maxHeartbeats 4000000 in
theorem number_calls (w : World) (b a : Nat) (c : Cx) (h : St w b c a) (ok : c.Ok) (ha : a ≤ c.s.size) :
    Calls Tryd.prog 45 #[.pointer (some ⟨b, 0, none⟩)] w (Post b c w (numberO c a)) := by
  rw [numberO_two]
  obtain ⟨r1, hr1⟩ : ∃ r, rowF c.s 9 0 a = r := ⟨_, rfl⟩
  obtain ⟨d, hd⟩ : ∃ d, dotO c.s r1.2 = d := ⟨_, rfl⟩
  have hb1 := rowF_bound c.s 9 0 a
  have hrow := row_calls w b a c h.rd ok.hs ha
  rw [hr1] at hb1 hrow
  obtain ⟨hb2, hb3, hb4, hb5⟩ := hb1
  have hb6 := hb5 ha
  have hbd := dotO_bound c.s r1.2 hb6
  rw [hr1, hd]
  rw [hd] at hbd
  have Hd := Lib.hid hd
  have HRow := Lib.hid hrow
  clear hd hr1 hrow hb5
  obtain ⟨n1, a1⟩ := r1
  obtain ⟨o, ho⟩ : ∃ o, number2 c a (n1, a1) d = o := ⟨_, rfl⟩
  rw [ho]
  have Ho := Lib.hid ho
  clear ho
  have hs := ok.hs
  go_enter Tryd.func45, Tryd.ntmps45
  go_wp2_with fail
  refine HRow.out.mono ?_
  rintro e w1 ⟨rfl, hk1, hrd1⟩
  obtain ⟨-, c1, -, -, -, -, -, -, f1⟩ := hrd1.cells
  go_upto_if 22 with (go_at_call 43; (with_reducible refine (peek_calls _ b a1 c (by (repeat (first | assumption | with_reducible apply Rd.drewN | with_reducible apply Rd.set1 | with_reducible apply Rd.set))) ok.hs).mono ?_); rintro e w2 ⟨rfl, dn, rfl⟩)
  go_cut [5, 6] (fun v5 v6 wx => v5 = .int .i64 d.1 ∧ v6 = .int .i64 d.2.1 ∧ Kp b w wx ∧ Rd wx b c d.2.2)
  case first =>
    by_cases hp : pk c.s a1 = 46
    · have hp' : ((pk c.s a1 : Nat) : Int) = 46 := by omega
      have hlt := pk_lt (show pk c.s a1 ≠ 0 by omega)
      have e := Hd.out
      unfold dotO at e
      rw [if_pos hp] at e
      obtain ⟨r2, hr2⟩ : ∃ r, rowF c.s 9 0 (a1 + 1) = r := ⟨_, rfl⟩
      simp only [hr2] at e
      have hrow2 := fun (w2 : World) (h2 : Rd w2 b c (a1 + 1)) => row_calls w2 b (a1 + 1) c h2 ok.hs (by omega)
      simp only [hr2] at hrow2
      have HR2 := Lib.hid hrow2
      obtain ⟨pl, hpl⟩ : ∃ n, r2.2 - (a1 + 1) = n := ⟨_, rfl⟩
      simp only [hpl] at e
      have He := Lib.hid e
      clear e hr2 hrow2
      by_cases hz : pl = 0
      · have hz' : (pl : Int) = 0 := by omega
        rw [if_pos hz] at He
        go_wp2_with (first
          | (go_at_call 57; (with_reducible refine (HR2.out _ (by (repeat (first | assumption | with_reducible apply Rd.drewN | with_reducible apply Rd.set1 | with_reducible apply Rd.set)))).mono ?_); rintro e w3 ⟨rfl, hk3, hrd3⟩; obtain ⟨-, c3, -, -, -, -, -, -, f3⟩ := hrd3.cells))
        go_meet
        case rel =>
          have he := He.out
          subst he
          exact ⟨rfl, by rw [hz]; rfl, (Kp.trans (by (repeat (first | assumption | with_reducible exact Kp.refl _ _ | with_reducible apply Kp.dr | with_reducible apply Kp.st))) hk3).st _ _, hrd3.set _⟩
      · have hz' : ¬ (pl : Int) = 0 := by omega
        rw [if_neg hz] at He
        go_wp2_with (first
          | (go_at_call 57; (with_reducible refine (HR2.out _ (by (repeat (first | assumption | with_reducible apply Rd.drewN | with_reducible apply Rd.set1 | with_reducible apply Rd.set)))).mono ?_); rintro e w3 ⟨rfl, hk3, hrd3⟩))
        go_meet
        case rel =>
          have he := He.out
          subst he
          exact ⟨rfl, rfl, Kp.trans (by (repeat (first | assumption | with_reducible exact Kp.refl _ _ | with_reducible apply Kp.dr | with_reducible apply Kp.st))) hk3, hrd3⟩
    · have hp' : ¬ ((pk c.s a1 : Nat) : Int) = 46 := by omega
      have e := Hd.out
      unfold dotO at e
      rw [if_neg hp] at e
      have He := Lib.hid e
      clear e
      go_wp2
      go_meet
      case rel =>
        rw [← He.out]
        exact ⟨rfl, rfl, by (repeat (first | assumption | with_reducible exact Kp.refl _ _ | with_reducible apply Kp.dr | with_reducible apply Kp.st)), by (repeat (first | assumption | with_reducible apply Rd.drewN | with_reducible apply Rd.set1 | with_reducible apply Rd.set))⟩
  case rest =>
    obtain ⟨rfl, rfl, hk2, hrd2⟩ := hcut
    clear Hd HRow hk1 hrd1 c1 f1
    obtain ⟨P, pl, a2⟩ := d
    simp only at hbd hk2 hrd2
    obtain ⟨hP, hpl, ha2⟩ := hbd
    obtain ⟨mm, hmm⟩ : ∃ n, a1 - a = n := ⟨_, rfl⟩
    have hcm : (a1 = a) ↔ mm = 0 := by omega
    have hn1 : n1 < 1000000000 := by
      have : 10 ^ (a1 - a) ≤ 10 ^ 9 := Nat.pow_le_pow_right (by decide) (by omega)
      have e9 : 10 ^ 9 = 1000000000 := by decide
      omega
    have ho := Ho.out
    unfold number2 at ho
    simp only [hcm] at ho
    have HO := Lib.hid ho
    clear ho Ho
    simp only [hmm]
    clear hb4 hcm hmm hb2 hb3 hb6
    have hst2 : St wc b c a2 := h.kp hk2 hrd2
    have hp256 := pk_256 c.s a2
    obtain ⟨h0, h1, h2, h3, h4, h5, h6, h7, hf⟩ := hrd2.cells
    go_upto_region 9 with fail
    go_cut [46] (fun v wx => v = .bool (decide (mm = 0 ∧ pl = 0)) ∧ wx = wc)
    case first =>
      by_cases hm0 : mm = 0
      · have e1 : (mm : Int) = 0 := by omega
        by_cases hp0 : pl = 0
        · have e2 : (pl : Int) = 0 := by omega
          go_wp2
          go_meet
          case rel => exact ⟨by simp [hm0, hp0], rfl⟩
        · have e2 : ¬ (pl : Int) = 0 := by omega
          go_wp2
          go_meet
          case rel => exact ⟨by simp [hm0, hp0], rfl⟩
      · have e1 : ¬ (mm : Int) = 0 := by omega
        go_wp2
        go_meet
        case rel => exact ⟨by simp [hm0], rfl⟩
    case rest =>
      obtain ⟨rfl, hwx⟩ := hcut
      subst hwx
      by_cases hz : mm = 0 ∧ pl = 0
      · rw [decide_eq_true hz]
        go_wp2
        have := HO.out
        rw [if_pos hz] at this
        subst this
        exact ⟨rfl, rfl, hk2⟩
      · rw [decide_eq_false hz]
        have ho := HO.out
        rw [if_neg hz] at ho
        clear HO
        obtain ⟨ou, hou⟩ : ∃ x, unitOf c (pk c.s a2) = x := ⟨_, rfl⟩
        rw [hou] at ho
        have hl : ∀ n, (Instr.lookup 39 (.map (some c.m)) (.int .u8 (pk c.s a2)) true).run Tryd.prog (wc.drewN n) = .ok (.tuple #[.int .i64 (ou.getD 0), .bool ou.isSome]) (wc.drewN n) := by
          intro n
          have := run_lookup (w := wc.drewN n) eK eV keyU Tryd.underlying39 zeroI (scL c.size c.vs) (pk c.s a2) hst2.mp true
          rw [find_sc c ok, hou] at this
          rw [this]
          cases ou <;> rfl
        obtain ⟨us, hus⟩ : ∃ u, unitOf c c.scale = some u := Option.isSome_iff_exists.1 ok.u
        have hl2 : ∀ n, (Instr.lookup 39 (.map (some c.m)) (.int .u8 c.scale) false).run Tryd.prog (wc.drewN n) = .ok (.int .i64 us) (wc.drewN n) := by
          intro n
          have := run_lookup (w := wc.drewN n) eK eV keyU Tryd.underlying39 zeroI (scL c.size c.vs) c.scale hst2.mp false
          rw [find_sc c ok, hus] at this
          rw [this]
          rfl
        rw [hus] at ho
        have hub : ∀ u, ou = some u → 0 ≤ u ∧ u ≤ 10000000 := fun u h => unit_bound c ok (pk c.s a2) u (by rw [hou, h])
        have husb := unit_bound c ok c.scale us hus
        have Hou := Lib.hid hou
        have Hus := Lib.hid hus
        have HO := Lib.hid ho
        clear ho hou hus
        go_upto_region 11 with fail
        go_cut [8, 9] (fun v8 v9 wx => v8 = .int .i64 (ou.getD 0) ∧ v9 = .bool ou.isSome ∧ ∃ n, wx = wc.drewN n)
        case first =>
          go_quiet (first | (go_at_call 43; exact Calls.quiet_of (peek_calls _ b a2 c (by (repeat (first | assumption | with_reducible apply Rd.drewN | with_reducible apply Rd.set1 | with_reducible apply Rd.set))) hs)))
          go_wp2
          go_meet
          case rel => exact ⟨rfl, rfl, _, rfl⟩
        case rest =>
          obtain ⟨rfl, rfl, dn2, rfl⟩ := hcut
          obtain ⟨U, hU⟩ : ∃ U, ou.getD us = U := ⟨_, rfl⟩
          obtain ⟨a3, ha3⟩ : ∃ a3, (if ou.isSome then a2 + 1 else a2) = a3 := ⟨_, rfl⟩
          have hUb : 0 ≤ U ∧ U ≤ 10000000 := by
            rcases ou with _ | u
            · subst hU; exact husb
            · subst hU; exact hub u rfl
          have HO2 : Hid (heldO c ((n1 : Int) * U + ((P : Int) * U).tdiv ((10 ^ pl : Nat) : Int)) a3 = o) := by
            have := HO.out
            show _ = _
            rcases ou with _ | u
            · subst hU; subst ha3; exact this
            · subst hU; subst ha3; exact this
          go_upto_if 59 with fail
          go_cut [8] (fun v wx => v = .int .i64 U ∧ Kp b w wx ∧ Rd wx b c a3)
          case first =>
            rcases ou with _ | u
            · simp only [Option.getD_none, Option.isSome_none] at hU ha3 ⊢
              go_wp2
              go_quiet (fail)
              go_wp2
              go_meet
              case rel =>
                subst hU
                exact ⟨rfl, (hk2.dr _).dr _, by rw [← ha3]; exact (hrd2.drewN _).drewN _⟩
            · have hpk : pk c.s a2 ≠ 0 := by
                intro h
                have := Hou.out
                rw [h] at this
                cases this
              have hlt := pk_lt hpk
              simp only [Option.getD_some, Option.isSome_some] at hU ha3 ⊢
              go_wp2
              go_meet
              case rel =>
                subst hU
                exact ⟨rfl, (hk2.dr _).st _ _, by rw [← ha3]; exact (hrd2.drewN _).set1⟩
          case rest =>
            obtain ⟨rfl, hk3, hrd3⟩ := hcut
            go_wp2
            have hpos : ∀ n : Nat, (0 : Int) < ((10 ^ n : Nat) : Int) := fun n => by
              have : 0 < 10 ^ n := Nat.pow_pos (by decide)
              omega
            have hnU : (n1 : Int) * U ≤ 10000000000000000 ∧ 0 ≤ (n1 : Int) * U := ⟨by
              have h1 : (n1 : Int) * U ≤ 1000000000 * 10000000 := Int.mul_le_mul (by omega) hUb.2 hUb.1 (by decide)
              omega, Int.mul_nonneg (by omega) hUb.1⟩
            have hPU : (P : Int) * U ≤ 10000000000000000 ∧ 0 ≤ (P : Int) * U := ⟨by
              have h1 : (P : Int) * U ≤ 1000000000 * 10000000 := Int.mul_le_mul (by omega) hUb.2 hUb.1 (by decide)
              omega, Int.mul_nonneg (by omega) hUb.1⟩
            have hq : 0 ≤ ((P : Int) * U).tdiv ((10 ^ pl : Nat) : Int) ∧ ((P : Int) * U).tdiv ((10 ^ pl : Nat) : Int) ≤ 10000000000000000 := by
              refine ⟨Int.tdiv_nonneg hPU.2 (by have := hpos pl; omega), ?_⟩
              rw [Int.tdiv_eq_ediv_of_nonneg hPU.2]
              exact Int.le_trans (Int.ediv_le_self _ hPU.2) hPU.1
            have m1 := wrap64_in ((n1 : Int) * U) (by omega) (by omega)
            have m2 := wrap64_in ((P : Int) * U) (by omega) (by omega)
            obtain ⟨q, hqq⟩ : ∃ q, ((P : Int) * U).tdiv ((10 ^ pl : Nat) : Int) = q := ⟨_, rfl⟩
            rw [hqq] at HO2 hq
            have m3 := wrap64_in ((n1 : Int) * U + q) (by omega) (by omega)
            have m4 := wrap64_in q (by omega) (by omega)
            have Hq := Lib.hid hqq
            clear hqq
            have hle := hk3.size
            go_loopg [10, 77] pl (fun k v i wr => ∃ j pw : Nat, v = .int .i64 pw ∧ i = .int .i64 j ∧ j + k = pl ∧ Hid (10 ^ j = pw) ∧ Kp b w wr ∧ Rd wr b c a3)
            case atStart => exact ⟨0, 1, rfl, rfl, by omega, Lib.hid rfl, hk3, hrd3⟩
            case round =>
              obtain ⟨j, pw, rfl, rfl, hjk, Hpw, hk4, hrd4⟩ := hrel
              have hpw : 0 < pw ∧ pw ≤ 1000000000 := by
                have h1 : 10 ^ j ≤ 10 ^ 9 := Nat.pow_le_pow_right (by decide) (by omega)
                have e9 : 10 ^ 9 = 1000000000 := by decide
                have h2 : 0 < 10 ^ j := Nat.pow_pos (by decide)
                have := Hpw.out
                omega
              obtain ⟨hpw0, hpw1⟩ := hpw
              by_cases hlt : j < pl
              · have hlt' : (j : Int) < pl := by omega
                obtain ⟨k', rfl⟩ : ∃ k', gk = k' + 1 := ⟨gk - 1, by omega⟩
                go_wp2
                go_roundg k'
                case measure => omega
                case rel => exact ⟨j + 1, pw * 10, by go_num, by go_num, by omega, Lib.hid (by rw [Nat.pow_succ, Hpw.out]), hk4, hrd4⟩
              · obtain rfl : j = pl := by omega
                have hne : ¬ (pw : Int) = 0 := by omega
                have hq2 : ((P : Int) * U).tdiv (pw : Int) = q := by rw [← Hpw.out]; exact Hq.out
                have hH := fun wz (hz : Rd wz b c a3) => held_calls wz b a3 c ((n1 : Int) * U + q) hz
                simp only [HO2.out] at hH
                have HH := Lib.hid hH
                clear hH
                rcases o with ⟨n', t⟩ | k | _
                · obtain rfl : t = a3 := heldO_ok HO2.out
                  go_wp2_with (go_at_call 44; (with_reducible refine (HH.out _ hrd4).mono ?_); rintro e w5 ⟨rfl, rfl⟩)
                  go_ret
                  exact ⟨rfl, hk4, hrd4⟩
                · go_wp2_with (go_at_call 44; (with_reducible refine (HH.out _ hrd4).mono ?_); rintro e w5 ⟨rfl, rfl⟩)
                  exact ⟨rfl, rfl, hk4⟩
                · exact absurd HO2.out heldO_stuck
end Go.Proofs.YtkomofphgnekoaaDoor

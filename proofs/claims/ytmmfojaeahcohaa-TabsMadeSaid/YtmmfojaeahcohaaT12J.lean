/- Walks of layer 12: slices.Repeat of one box. -/
import Derived.Test.YtmmfojaeahcohaaT12I
import Derived.Test.YtmmfojaeahcohaaWMore
set_option linter.unusedVariables false
set_option linter.unusedSimpArgs false
namespace Go.Proofs.Ytmmfojaeahcohaa
open Go.Shelf Go.RowKit Go.Lib Go.Aids Go.Opens Go.Proofs.YtmmfojaeahcohaaW.PrintWords Go.Proofs.Ytmmfojaeahcohaa.PTabsMade

theorem step_copy_boxes {ops : Array Oper} {o : Oper} {a : Act} {w : World} {K : Act → World → Prop} {Q : Exit → Act → World → Prop} {E : Prop} (hgd : o.guard = none) (d s : Operand)
    (ho : o.op = .call { callee := .builtin .copy, args := #[d, s], argTypes := #[31, 31] }) (g n k : Nat) (x : List Value) (h : Filled w g n k x) (hx : x.length = 7) (m : Nat) (hm : k + m ≤ n) (hox : ∀ u ∈ x, u.oneCell' = true)
    (ad : Addr) (sLen sCap dLen dCap : Nat) (hmin : Nat.min sLen dLen = m) (hsrc : ∀ j v, (repC x m)[j]? = some v → w.cell? (ad.add j) = some v) (hd : a.eval d = .slice (some ⟨g, k * 7, none⟩) dLen dCap) (hs : a.eval s = .slice (some ad) sLen sCap)
    (hK : ∀ w', Filled w' g n (k + m) x → (∀ B w0, Below B w0 w → B ≤ g → Below B w0 w') → K (a.put o.dst (goInt m)) w') :
    if Region.wanted o (yielded ops a.tmps) = true then Oper.wp Try.prog o a w K Q else E := by
  have hw : Region.wanted o (yielded ops a.tmps) = true := by simp [Region.wanted, hgd]
  rw [if_pos hw]
  obtain ⟨w', hr, h1, h2⟩ := h.more hx m hm hox o.type ad sLen sCap dLen dCap hmin hsrc
  unfold Oper.wp
  simp [execOp, ho, resolve, invoke, builtin, hd, hs, hr, Result.andThen]
  exact hK w' h1 h2
theorem wpList_copy_boxes {ops : Array Oper} {rest : List Oper} {o : Oper} {a : Act} {w : World} {Q : Exit → Act → World → Prop} (hgd : o.guard = none) (d s : Operand)
    (ho : o.op = .call { callee := .builtin .copy, args := #[d, s], argTypes := #[31, 31] }) (g n k : Nat) (x : List Value) (h : Filled w g n k x) (hx : x.length = 7) (m : Nat) (hm : k + m ≤ n) (hox : ∀ u ∈ x, u.oneCell' = true)
    (ad : Addr) (sLen sCap dLen dCap : Nat) (hmin : Nat.min sLen dLen = m) (hsrc : ∀ j v, (repC x m)[j]? = some v → w.cell? (ad.add j) = some v) (hd : a.eval d = .slice (some ⟨g, k * 7, none⟩) dLen dCap) (hs : a.eval s = .slice (some ad) sLen sCap)
    (hK : ∀ w', Filled w' g n (k + m) x → (∀ B w0, Below B w0 w → B ≤ g → Below B w0 w') → wpList Try.prog ops Q rest (a.put o.dst (goInt m)) w') :
    wpList Try.prog ops Q (o :: rest) a w := by
  refine wpList_plain hgd fun K hK2 => ?_
  obtain ⟨w', hr, h1, h2⟩ := h.more hx m hm hox o.type ad sLen sCap dLen dCap hmin hsrc
  unfold Oper.wp
  simp [execOp, ho, resolve, invoke, builtin, hd, hs, hr, Result.andThen]
  exact hK2 _ _ (hK w' h1 h2)
theorem filled_new (w : World) (n : Nat) (x : List Value) (c : Array Value) (hc : c.size = n * 7) : Filled (w.alloc (.cells c 28)) w.heap.size n 0 x :=
  ⟨⟨c, heap_alloc_new w _, hc, by simp [repC]⟩⟩

set_option maxRecDepth 100000 in
set_option maxHeartbeats 4000000 in
theorem repeat_calls (b o cx n : Nat) (x : List Value) (hx : x.length = 7) (hox : ∀ u ∈ x, u.oneCell' = true) (hn : n ≤ 1000000000) (w : World) (hsrc : ∀ j v, x[j]? = some v → w.cell? ((⟨b, o, none⟩ : Addr).add j) = some v) (hb : b < w.heap.size) :
    Calls Try.prog 61 #[.slice (some ⟨b, o, none⟩) 1 cx, .int .i64 n] w fun e w' => ∃ g, e = .returned (.slice (some ⟨g, 0, none⟩) n n) ∧ w'.ownsRow w.heap.size 28 7 (.slice (some ⟨g, 0, none⟩) n n) n (repC x n) ∧ Below w.heap.size w w' := by
  have HM := Lib.hid (fun W => Try.bits_Mul 1 n (by omega) (by omega) W)
  have e0 : (1 * n / 18446744073709551616 : Nat) = 0 := by omega
  have e1 : (1 * n % 18446744073709551616 : Nat) = n := by omega
  rw [e0, e1] at HM
  have n0 : ¬ (n : Int) < 0 := by omega
  have n1 : decide ((9223372036854775807 : Int) < (n : Int)) = false := decide_eq_false (by omega)
  have n2 : (n : Int) ≤ 9223372036854775807 := by omega
  have w1 : IntKind.u64.wrap (n : Int) = (n : Int) := by unfold IntKind.wrap; simp [IntKind.signed, IntKind.bits]; omega
  have w2 : IntKind.i64.wrap (n : Int) = (n : Int) := by rw [IntKind.wrap_i64]; omega
  obtain ⟨i0, hi, hz0, hz1, hz2⟩ := info_parts info28
  have hmk : ∀ u : World, (Instr.makeSlice 31 (.int .i64 (n : Int)) (.int .i64 (n : Int))).run Try.prog u =
      .ok (.slice (some ⟨u.heap.size, 0, none⟩) n n) (u.alloc (.cells (madeCells #[.int .i64 0, .int .i64 0, .int .i64 0, .int .i64 0, .string ⟨#[]⟩, .string ⟨#[]⟩, .slice none 0 0] (n * 7)) 28)) := fun u => by
    have h := run_make (P := Try.prog) u 31 28 i0 (.agg #[.int .i64 0, .int .i64 0, .int .i64 0, .int .i64 0, .string ⟨#[]⟩, .string ⟨#[]⟩, .slice none 0 0]) Try.underlying31 hi hz0 .i64 .i64 (n : Int) (n : Int) (by omega) (Int.le_refl _) (by rw [hz2]; omega) (by omega)
    have e : (n : Int).toNat = n := by simp
    rw [e, hz1] at h
    exact h
  have HSR := Lib.hid hsrc
  clear hsrc e0 e1 hi hz0 hz1 hz2
  go_enter Try.func61, Try.ntmps61
  have hsr : ∀ j v, (repC x (Nat.min 1 n))[j]? = some v → w.cell? ((⟨b, o, none⟩ : Addr).add j) = some v := by
    rcases Nat.eq_zero_or_pos n with h | h
    · rw [h, show Nat.min 1 0 = 0 from rfl]
      intro j v hj
      simp [repC] at hj
    · rw [show Nat.min 1 n = 1 by show min 1 n = 1; omega, repC_one]
      exact HSR.out
  have HS2 := Lib.hid hsr
  clear hsr
  obtain ⟨m0, hm0⟩ : ∃ m0, Nat.min 1 n = m0 := ⟨_, rfl⟩
  rw [hm0] at HS2
  have hm1 : m0 ≤ n ∧ (0 < n → 0 < m0) := by rw [← hm0]; show min 1 n ≤ n ∧ (0 < n → 0 < min 1 n); omega
  obtain ⟨hm2, hm3⟩ := hm1
  have HM0 := Lib.hid hm0
  have HM3 := Lib.hid hm3
  clear hm0 hm3
  obtain ⟨zs, hzs⟩ : ∃ zs, madeCells #[.int .i64 0, .int .i64 0, .int .i64 0, .int .i64 0, .string ⟨#[]⟩, .string ⟨#[]⟩, .slice none 0 0] (n * 7) = zs := ⟨_, rfl⟩
  have hzl : Hid (zs.size = n * 7) := Lib.hid (by rw [← hzs]; simp [madeCells])
  rw [hzs] at hmk
  clear hzs
  have HS3 : Hid (∀ j v, (repC x m0)[j]? = some v → (w.alloc (.cells zs 28)).cell? ((⟨b, o, none⟩ : Addr).add j) = some v) := Lib.hid (fun j v hj => (World.cell?_alloc_lt w _ _ (by unfold Addr.add; split <;> exact hb)).trans (HS2.out j v hj))
  go_wp2_with (first
    | (go_at_call 78; refine (HM.out _).mono ?_; rintro e w3 ⟨rfl, hw3⟩; rw [hw3]; clear hw3 w3)
    | ((with_reducible refine gate_builtin (b := .copy) (xs := #[.tmp 31, .tmp 32]) rfl ?_); refine wpList_copy_boxes rfl _ _ rfl w.heap.size n 0 x (filled_new w n x zs hzl.out) hx m0 (by omega) hox ⟨b, o, none⟩ 1 cx n n HM0.out HS3.out (by rfl) (by rfl) ?_; intro w4 hf4 hb4; have HF4 := Lib.hid hf4; have HB4 := Lib.hid (hb4 w.heap.size w ((Below.refl _ _).alloc (Nat.le_refl _) _) (Nat.le_refl _)); clear hf4 hb4))
  rw [Nat.zero_add] at HF4
  clear hmk w1 w2 n1 n2 HM HSR HS2 HS3 HM0 hzl hb n0
  go_loopg [8] n (fun gk s8 wx => ∃ k : Nat, n ≤ k + gk ∧ s8 = .int .i64 k ∧ k ≤ n ∧ Hid (0 < n → 0 < k) ∧ Hid (Filled wx w.heap.size n k x) ∧ Hid (Below w.heap.size w wx))
  case atStart => exact ⟨m0, by omega, rfl, hm2, HM3, HF4, HB4⟩
  case round =>
    obtain ⟨k, hk, rfl, hkn, HP, HF, HB⟩ := hrel
    have HX := Lib.hid hx
    have HOX := Lib.hid hox
    clear hx hox
    by_cases hlt : k < n
    · have i0 : (k : Int) < n := by omega
      have i1 : ¬ k = n := by omega
      have i3 : ¬ n = k := by omega
      have i2 : ¬ (k : Int) = n := by omega
      have hp := HP.out (by omega)
      obtain ⟨m, hm⟩ : ∃ m, Nat.min k (n - k) = m := ⟨_, rfl⟩
      have hmk2 : m ≤ k ∧ k + m ≤ n ∧ 0 < m := by rw [← hm]; show min k (n - k) ≤ k ∧ k + min k (n - k) ≤ n ∧ 0 < min k (n - k); omega
      obtain ⟨hm4, hm5, hm6⟩ := hmk2
      have HMm := Lib.hid hm
      have hwr : IntKind.i64.wrap ((k : Int) + (m : Int)) = (k : Int) + (m : Int) := by rw [IntKind.wrap_i64]; omega
      have HFd : Hid (Filled wr.drew w.heap.size n k x) := Lib.hid ⟨HF.out.ex⟩
      have HSm := Lib.hid (HFd.out.src HX.out m hm4)
      obtain ⟨g', rfl⟩ : ∃ g', gk = g' + 1 := ⟨gk - 1, by omega⟩
      clear hm
      go_wp2_with fail
      go_region_law (refine step_copy_boxes (by rfl) (.tmp 41) (.tmp 44) (by rfl) w.heap.size n k x HFd.out HX.out m hm5 HOX.out ⟨w.heap.size, 0, none⟩ k n (n - k) (n - k) HMm.out HSm.out (by simp [Act.eval, Act.put]) (by simp [Act.eval, Act.put]) ?_; intro w5 hf5 hb5; have HF5 := Lib.hid hf5; have HB5 := Lib.hid (hb5 w.heap.size w HB.out.drew (Nat.le_refl _)); clear hf5 hb5)
      all_goals
        go_wp2_with fail
        go_roundg g'
        case measure => omega
        case rel => exact ⟨k + m, by omega, by go_num, hm5, Lib.hid (fun _ => by omega), HF5, HB5⟩
    · have hkn2 : k = n := by omega
      subst hkn2
      have i0 : ¬ ((k : Int) < k) := by omega
      go_wp2_with fail
      go_ret
      exact ⟨_, rfl, HF.out.own HX.out _ (Nat.le_refl _) (by unfold maxLen; omega), HB.out⟩
end Go.Proofs.Ytmmfojaeahcohaa

/- Walks: slices.Backward; scan.Ends. -/
import Derived.RangeFuncNested
import Derived.RangeFuncBound
import Derived.RangeFuncCalls
import Derived.RangeFuncLeaves
import Derived.Shelf.Abstract
import Derived.Shelf.RegionOpen
import Derived.WalkKit
import Derived.OwnWalkIn
import Derived.TacticsInMore
import Derived.LoopNIn
import Derived.LoopIn
import Derived.Test.YtaokofnhkojllaaWalkK
set_option linter.unusedVariables false
set_option linter.unusedSimpArgs false
namespace Go.Proofs.Ytaokofnhkojllaa
open Go.Shelf Go.RowKit Go.Lib Go.Aids Go.MapLit
attribute [local go_sem] Oper.semAt_some

def tok0 : Tok := ⟨0, ⟨#[]⟩, 0⟩
/-- The pair of a place. -/
def at2 (zs : List Tok) (m : Nat) : Nat × Tok := (m, zs.getD m tok0)
/-- What has come when k rounds are over. -/
def comes (zs : List Tok) (k : Nat) : List (Nat × Tok) := (List.range k).map fun j => at2 zs (zs.length - 1 - j)
theorem comes_succ (zs : List Tok) (k : Nat) : comes zs (k + 1) = comes zs k ++ [at2 zs (zs.length - 1 - k)] := by simp [comes, List.range_succ]
theorem comes_len (zs : List Tok) (k : Nat) : (comes zs k).length = k := by simp [comes]
abbrev encP (x : Nat × Tok) : Array Value := #[.int .i64 (x.1 : Int), .agg #[.int .i64 x.2.kind, .string x.2.text, .int .i64 x.2.n]]
/-- The tokens' cells, below a block. -/
def Toks (n₀ : Nat) (W : World) (A : Option Addr) (zs : List Tok) : Prop :=
  ∀ m, m < zs.length → ∃ b off, A = some ⟨b, off, none⟩ ∧ b < n₀ ∧ W.cell? ⟨b, off + m * 3, none⟩ = some (.int .i64 (zs.getD m tok0).kind) ∧ W.cell? ⟨b, off + m * 3 + 1, none⟩ = some (.string (zs.getD m tok0).text) ∧ W.cell? ⟨b, off + m * 3 + 2, none⟩ = some (.int .i64 (zs.getD m tok0).n)
theorem Toks.below {n₀ : Nat} {W W' : World} {A : Option Addr} {zs : List Tok} (h : Toks n₀ W A zs) (hb : Below n₀ W W') : Toks n₀ W' A zs := fun m hm => by
  obtain ⟨b, off, e, hlt, c0, c1, c2⟩ := h m hm
  exact ⟨b, off, e, hlt, (hb.cell (p := ⟨b, off + m * 3, none⟩) hlt).trans c0, (hb.cell (p := ⟨b, off + m * 3 + 1, none⟩) hlt).trans c1, (hb.cell (p := ⟨b, off + m * 3 + 2, none⟩) hlt).trans c2⟩

set_option maxRecDepth 100000 in
set_option maxHeartbeats 2000000 in
theorem back1_in (F : Fence) (n : Nat) (h33 : F.fn 33) (hro : F.round = none) (hn : 1 ≤ n) (l Bs n₀ cap : Nat) (A : Option Addr) (zs : List Tok) (hz : zs.length ≤ 1000000) (J Jx : List (Nat × Tok) → World → Prop)
    (hY : ∀ pre x W, J pre W → pre.length < zs.length → YieldAt F (n - 1) Try.prog l (encP x) W fun e W' =>
      (e = .returned (.bool true) ∧ J (pre ++ [x]) W' ∧ Below n₀ W W') ∨ (e = .returned (.bool false) ∧ Jx (pre ++ [x]) W'))
    (W : World) (hn₀ : Bs < n₀) (hBs : W.cell? ⟨Bs, 0, none⟩ = some (.slice A zs.length cap)) (hc : Toks n₀ W A zs) (h0 : J [] W) :
    CallsIn F n Try.prog 33 #[.func (.yield l) #[] #[], .pointer (some ⟨Bs, 0, none⟩)] W fun e W' => (∃ v, e = .returned v) ∧
      ((∃ ys, ys = comes zs zs.length ∧ J ys W') ∨ (∃ pre, (∃ k, k ≤ zs.length ∧ pre = comes zs k) ∧ Jx pre W')) := by
  refine callsIn_of_wp Try.func33 rfl h33 ?_ hro
  simp only [Try.ntmps33, List.size_toArray, List.length_cons, List.length_nil, Nat.reduceAdd, Nat.reduceSub, Array.replicate_succ, Array.replicate_zero, List.push_toArray, List.append_toArray, List.nil_append, List.cons_append]
  gi_wp2
  gi_loopw [3] (fun i wr => ∃ j : Nat, j ≤ zs.length ∧ i = .int .i64 ((j : Int) - 1) ∧ J (comes zs (zs.length - j)) wr ∧ Below n₀ W wr)
    (fun i _ => (intOf i + 1).toNat)
  case atStart => exact ⟨zs.length, Nat.le_refl _, rfl, by rw [Nat.sub_self]; exact h0, Below.refl _ _⟩
  case round =>
    obtain ⟨j, hj, rfl, hJs, hnx⟩ := hrel
    have hBr := (hnx.cell (p := ⟨Bs, 0, none⟩) hn₀).trans hBs
    rcases j with _ | m
    · rw [show (((0 : Nat) : Int) - 1) = -1 from rfl]
      gi_wp2
      go_end0
      exact ⟨⟨_, rfl⟩, .inl ⟨_, rfl, by rw [Nat.sub_zero] at hJs; exact hJs⟩⟩
    · obtain ⟨b, off, rfl, hb, c0, c1, c2⟩ := (hc.below hnx) m (by omega)
      have hxx : at2 zs (zs.length - 1 - (zs.length - (m + 1))) = at2 zs m := by rw [show zs.length - 1 - (zs.length - (m + 1)) = m by omega]
      have hup : comes zs (zs.length - m) = comes zs (zs.length - (m + 1)) ++ [at2 zs m] := by
        rw [show zs.length - m = zs.length - (m + 1) + 1 by omega, comes_succ, hxx]
      obtain ⟨fn, tmps, assign, body, hy, hR⟩ := hY _ (at2 zs m) wr hJs (by rw [comes_len]; omega)
      dsimp only [encP, at2] at hy
      rw [show (((m + 1 : Nat) : Int) - 1) = (m : Int) by omega]
      have hml : (m : Int) < zs.length := by omega
      have HU := Lib.hid hup
      clear hup hxx hc hY
      obtain ⟨zm, hzm⟩ : ∃ z, zs.getD m tok0 = z := ⟨_, rfl⟩
      rw [hzm] at c0 c1 c2 hy
      have hbl : b < wr.heap.size := by
        obtain ⟨o, ho, -⟩ := cells_of_cell c0
        exact (Array.getElem?_eq_some_iff.1 ho).1
      gi_wp2
      refine hR.mono ?_
      rintro e W3 (⟨rfl, hJ3, hk3⟩ | ⟨rfl, hJx3⟩)
      · gi_wp2
        go_roundw
        case rel => exact ⟨m, by omega, by simp, by rw [HU.out]; exact hJ3, hnx.trans hk3⟩
        case measure => simp [intOf]
      · gi_wp2
        refine bodyPost_ret (results_none rfl _ _ _) rfl ?_
        exact ⟨⟨_, rfl⟩, .inr ⟨_, ⟨zs.length - m, by omega, HU.out.symm⟩, hJx3⟩⟩

set_option maxHeartbeats 1000000 in
theorem back_in (F : Fence) (n : Nat) (h21 : F.fn 21) (hro : F.round = none) (a : Option Addr) (len cap : Nat) (w : World) :
    CallsIn F n Try.prog 21 #[.slice a len cap] w fun e w' => e = .returned (.func (.func 33) #[] #[.pointer (some ⟨w.heap.size, 0, none⟩)]) ∧ w' = w.alloc (.cells #[.slice a len cap] 23) := by
  refine callsIn_of_wp Try.func21 rfl h21 ?_ hro
  simp only [Try.ntmps21, List.size_toArray, List.length_cons, List.length_nil, Nat.reduceAdd, Nat.reduceSub, Array.replicate_succ, Array.replicate_zero, List.push_toArray, List.append_toArray, List.nil_append, List.cons_append]
  gi_wp2
  go_ret
  exact ⟨rfl, rfl⟩
theorem back_stops (F : Fence) (n : Nat) (h33 : F.fn 33) (hro : F.round = none) (hn : 1 ≤ n) (Bs n₀ cap : Nat) (A : Option Addr) (zs : List Tok) (hz : zs.length ≤ 1000000) (w : World) (hB : Bs < n₀) (hn₀ : n₀ ≤ w.heap.size)
    (hc : w.cell? ⟨Bs, 0, none⟩ = some (.slice A zs.length cap)) (hI : Toks n₀ w A zs) :
    SeqStopsK F n Try.prog 33 #[.pointer (some ⟨Bs, 0, none⟩)] encP (Below n₀) (fun ys => ys = comes zs zs.length) (fun pre => ∃ k, k ≤ zs.length ∧ pre = comes zs k) zs.length w := fun l J Jx W hW _ _ hY h0 => by
  exact back1_in F n h33 hro hn l Bs n₀ cap A zs hz J Jx hY W hB ((hW.cell (p := ⟨Bs, 0, none⟩) (show Bs < w.heap.size by omega)).trans hc) (hI.below (hW.mono hn₀)) h0

/-! What Ends tells. -/
theorem ends_skip (zs : List Tok) : ∀ k, k ≤ zs.length → (∀ p ∈ comes zs k, tellM p.2 = none) → endsM zs = endsF zs (zs.length - k)
  | 0, _, _ => rfl
  | k + 1, hk, h => by
    rw [ends_skip zs k (by omega) (fun p hp => h p (by rw [comes_succ]; exact List.mem_append.2 (.inl hp)))]
    have hl := h (at2 zs (zs.length - 1 - k)) (by rw [comes_succ]; exact List.mem_append.2 (.inr (by simp)))
    rw [show zs.length - k = (zs.length - 1 - k) + 1 by omega, endsF]
    have hlt : zs.length - 1 - k < zs.length := by omega
    have e : (at2 zs (zs.length - 1 - k)).2 = zs[zs.length - 1 - k] := by simp [at2, List.getD, hlt]
    rw [e] at hl
    rw [List.getElem?_eq_getElem hlt]
    simp only [hl]
    rw [show zs.length - (k + 1) = zs.length - 1 - k by omega]
theorem ends_stop (zs : List Tok) (k : Nat) (b : Bool) (hk : k < zs.length) (h : ∀ p ∈ comes zs k, tellM p.2 = none) (hb : tellM (at2 zs (zs.length - 1 - k)).2 = some b) : endsM zs = b := by
  rw [ends_skip zs k (by omega) h, show zs.length - k = (zs.length - 1 - k) + 1 by omega, endsF]
  have hlt : zs.length - 1 - k < zs.length := by omega
  have e : (at2 zs (zs.length - 1 - k)).2 = zs[zs.length - 1 - k] := by simp [at2, List.getD, hlt]
  rw [e] at hb
  rw [List.getElem?_eq_getElem hlt]
  simp only [hb]
theorem cont_a (c : Nat) (hc : c < 256) (w : World) : Calls Try.prog 16 #[.string ⟨#[46, 63, 33]⟩, .string (oneS c)] w fun e w' => e = .returned (.bool (decide (c = 46 ∨ c = 63 ∨ c = 33))) ∧ w = w' := by
  refine (Try.strings_Contains_one ⟨#[46, 63, 33]⟩ (UInt8.ofNat c) w).mono ?_
  rintro e w' ⟨rfl, rfl⟩
  refine ⟨?_, rfl⟩
  have key : ∀ c, c < 256 → decide (0 ≤ Lib.indexByte [46, 63, 33] (UInt8.ofNat c)) = decide (c = 46 ∨ c = 63 ∨ c = 33) := by decide +kernel
  rw [← key c hc]
theorem cont_b (c : Nat) (hc : c < 256) (w : World) : Calls Try.prog 16 #[.string ⟨#[34, 39, 41, 93]⟩, .string (oneS c)] w fun e w' => e = .returned (.bool (decide (c = 34 ∨ c = 39 ∨ c = 41 ∨ c = 93))) ∧ w = w' := by
  refine (Try.strings_Contains_one ⟨#[34, 39, 41, 93]⟩ (UInt8.ofNat c) w).mono ?_
  rintro e w' ⟨rfl, rfl⟩
  refine ⟨?_, rfl⟩
  have key : ∀ c, c < 256 → decide (0 ≤ Lib.indexByte [34, 39, 41, 93] (UInt8.ofNat c)) = decide (c = 34 ∨ c = 39 ∨ c = 41 ∨ c = 93) := by decide +kernel
  rw [← key c hc]

/-- The box of a round's token. -/
def TokB (W : World) (B : Nat) (t : Tok) : Prop := W.heap[B]? = some (.cells #[.int .i64 t.kind, .string t.text, .int .i64 t.n] 28 (0, 0))
theorem TokB.cells {W : World} {B : Nat} {t : Tok} (h : TokB W B t) : W.cell? ⟨B, 0, none⟩ = some (.int .i64 t.kind) ∧ W.cell? ⟨B, 1, none⟩ = some (.string t.text) ∧ W.cell? ⟨B, 2, none⟩ = some (.int .i64 t.n) ∧ B < W.heap.size := by
  unfold TokB at h
  refine ⟨by simp [World.cell?, h], by simp [World.cell?, h], by simp [World.cell?, h], (Array.getElem?_eq_some_iff.1 h).1⟩

theorem TokB.kept {X Y : World} {row : Option Nat} {B : Nat} {t : Tok} (h : TokB X B t) (hg : X.grownBy Y row) (hr : ∀ r, row = some r → ∃ o : Obj, X.heap[r]? = some o ∧ o.isCells = false) : TokB Y B t :=
  (grownBy_keeps_cells hg hr h rfl).trans h
theorem one_of_size {s : ByteArray} (h : s.size = 1) : s = oneS (pk s 0) := by
  have := ext_one s 0 (by omega)
  rw [← this]
  have e := ext_all s
  rw [h] at e
  exact e.symm
abbrev frL (w : World) (A : Option Addr) (cap : Nat) (zs : List Tok) (Bx : Nat) (x : Nat × Tok) : Act :=
  { tmps := #[.slice A zs.length cap, undef, .pointer (some ⟨w.heap.size, 0, none⟩), undef, .pointer (some ⟨Bx, 0, none⟩), .slice A zs.length cap, .func (.func 33) #[] #[.pointer (some ⟨w.heap.size + 1, 0, none⟩)], .int .i64 (x.1 : Int), .agg #[.int .i64 x.2.kind, .string x.2.text, .int .i64 x.2.n],
      undef, undef, undef, undef, undef, undef, undef, undef, undef, undef, undef, undef, undef, undef, undef, undef, undef, undef, undef, undef], defers := [] }
set_option maxRecDepth 100000 in
set_option maxHeartbeats 8000000 in
theorem ends_in (n : Nat) (hn : 3 ≤ n) (A : Option Addr) (cap : Nat) (zs : List Tok) (hz : zs.length ≤ 1000000) (w : World) (hI : Toks w.heap.size w A zs) :
    CallsIn Fence.wide n Try.prog 11 #[.slice A zs.length cap] w fun e W' => e = .returned (.bool (endsM zs)) ∧ Below w.heap.size w W' := by
  have h1 : 1 ≤ n := by omega
  have hro : Fence.wide.round = none := rfl
  refine callsIn_of_wp_marks Try.func11 rfl trivial ?_ hro
  simp only [Try.ntmps11, List.size_toArray, List.length_cons, List.length_nil, Nat.reduceAdd, Nat.reduceSub, Array.replicate_succ, Array.replicate_zero, List.push_toArray, List.append_toArray, List.nil_append, List.cons_append]
  gi_wp2_with (refine ⟨trivial, ?_⟩; gi_at_call 21; refine (back_in Fence.wide (n - 1) trivial hro _ _ _ _).mono ?_; rintro e w' ⟨rfl, rfl⟩)
  have bR := (Boxed.new w 4 (.bool false)).alloc (.cells #[.slice A zs.length cap] 23)
  have bN := Boxed.new (w.alloc (.cells #[.bool false] 4)) 23 (.slice A zs.length cap)
  rw [World.size_alloc] at bN
  have hB0 : Below w.heap.size w ((w.alloc (.cells #[.bool false] 4)).alloc (.cells #[.slice A zs.length cap] 23)) := ((Below.refl _ w).alloc (Nat.le_refl _) _).alloc (by simp) _
  have hsz : ((w.alloc (.cells #[.bool false] 4)).alloc (.cells #[.slice A zs.length cap] 23)).heap.size = w.heap.size + 2 := by simp
  obtain ⟨W0, hW0⟩ : ∃ W0, (w.alloc (.cells #[.bool false] 4)).alloc (.cells #[.slice A zs.length cap] 23) = W0 := ⟨_, rfl⟩
  rw [hW0] at bR bN hB0 hsz ⊢
  clear hW0
  have hI0 : Toks (w.heap.size + 2) W0 A zs := fun m hm => by
    obtain ⟨b, off, e, hlt, c0, c1, c2⟩ := (hI.below hB0) m hm
    exact ⟨b, off, e, by omega, c0, c1, c2⟩
  refine wpIn_rangeFunc_ownH hro h1 (gf := 33) (lb := #[.pointer (some ⟨w.heap.size + 1, 0, none⟩)]) rfl trivial (enters_of Try.func33 (by kernel_rfl) rfl)
    (back_stops Fence.wide (n - 1) trivial hro (by omega) (w.heap.size + 1) (w.heap.size + 2) cap A zs hz W0 (by omega) (by omega) bN.cell hI0) belowK_t (belowK_b (by omega)) (Below.refl _ _) (fun _ => rfl)
    (fun pre W => ((∀ p ∈ pre, tellM p.2 = none) ∧ Boxed W w.heap.size 4 (.bool false) ∧ Boxed W (w.heap.size + 1) 23 (.slice A zs.length cap)) ∧ Below w.heap.size w W)
    (fun c pre W => (c = .ret ∧ ∃ ini last b, pre = ini ++ [last] ∧ (∀ p ∈ ini, tellM p.2 = none) ∧ tellM last.2 = some b ∧ Boxed W w.heap.size 4 (.bool b)) ∧ Below w.heap.size w W)
    (OwnFrom.and (Own.from (fun s A B row hs hg hr => ⟨hs.1, boxed_own w.heap.size 4 (fun (_ : Unit) => Value.bool false) () A B row hs.2.1 hg hr, boxed_own (w.heap.size + 1) 23 (fun (_ : Unit) => Value.slice _ _ _) () A B row hs.2.2 hg hr⟩) _) (ownFrom_below (Nat.le_refl _) (by omega)))
    (fun c => OwnFrom.and (Own.from (fun s A B row hs hg hr => by obtain ⟨hc, ini, last, b, e1, e2, e3, e4⟩ := hs; exact ⟨hc, ini, last, b, e1, e2, e3, boxed_own w.heap.size 4 (fun (_ : Unit) => Value.bool b) () A B row e4 hg hr⟩) _) (ownFrom_below (Nat.le_refl _) (by omega)))
    ⟨⟨by simp, bR, bN⟩, hB0⟩
    (fun x a' W => ∃ Bx, w.heap.size + 1 < Bx ∧ TokB W Bx x.2 ∧ a' = frL w A cap zs Bx x)
    (fun x a' _ X Y row hs hg hr => by obtain ⟨Bx, h1, h2, h3⟩ := hs; exact ⟨Bx, h1, h2.kept hg (fun r e => (hr r e).2), h3⟩)
    ?assign ?body ?done ?stop
  case assign =>
    rintro l pre x W K ⟨⟨hp, bR1, bN1⟩, hB1⟩ hK
    have hlt := bN1.lt
    gi_wp2
    exact hK _ _ ((KeepsOthers.alloc _ _).from _) ((Below.refl _ W).alloc (by omega) _) ⟨⟨hp, bR1.alloc _, bN1.alloc _⟩, hB1.alloc hB1.size _⟩ ⟨W.heap.size, hlt, heap_alloc_new W _, rfl⟩
  case body =>
    rintro l pre ⟨xi, k, s, nn⟩ a' W hl ⟨r, hr⟩ ⟨⟨hp, bR1, bN1⟩, hB1⟩ ⟨Bx, hBx, bX, rfl⟩ hlt
    have h1' : 1 ≤ n - 1 - 1 := by omega
    obtain ⟨c0, c1, c2, cl⟩ := bX.cells
    have rc := bR1.cell
    have rf := bR1.frozen
    simp only at c0 c1 c2
    clear bX hr
    by_cases k8 : k = 8
    · subst k8
      have HT := Lib.hid (show tellM ⟨8, s, nn⟩ = none from rfl)
      gi_wp2
      exact ⟨KeepsFrom.refl _ _, Below.refl _ _, ⟨fun p hp' => (List.mem_append.1 hp').elim (hp p) (fun e => by simp at e; subst e; exact HT.out), bR1, bN1⟩, hB1⟩
    by_cases k10 : k = 10
    · subst k10
      have HT := Lib.hid (show tellM ⟨10, s, nn⟩ = none from rfl)
      gi_wp2
      exact ⟨KeepsFrom.refl _ _, Below.refl _ _, ⟨fun p hp' => (List.mem_append.1 hp').elim (hp p) (fun e => by simp at e; subst e; exact HT.out), bR1, bN1⟩, hB1⟩
    by_cases k11 : k = 11
    · subst k11
      have HT := Lib.hid (show tellM ⟨11, s, nn⟩ = none from rfl)
      gi_wp2
      exact ⟨KeepsFrom.refl _ _, Below.refl _ _, ⟨fun p hp' => (List.mem_append.1 hp').elim (hp p) (fun e => by simp at e; subst e; exact HT.out), bR1, bN1⟩, hB1⟩
    by_cases k21 : k = 21
    · subst k21
      have HT := Lib.hid (show tellM ⟨21, s, nn⟩ = none from rfl)
      gi_wp2
      exact ⟨KeepsFrom.refl _ _, Below.refl _ _, ⟨fun p hp' => (List.mem_append.1 hp').elim (hp p) (fun e => by simp at e; subst e; exact HT.out), bR1, bN1⟩, hB1⟩
    have f8 : (k == 8) = false := by rw [beq_eq_false_iff_ne]; exact k8
    have f10 : (k == 10) = false := by rw [beq_eq_false_iff_ne]; exact k10
    have f11 : (k == 11) = false := by rw [beq_eq_false_iff_ne]; exact k11
    have f21 : (k == 21) = false := by rw [beq_eq_false_iff_ne]; exact k21
    by_cases k0 : k = 0
    · subst k0
      clear k8 k10 k11 k21 f8 f10 f11 f21
      by_cases hs1 : s.size = 1
      · have ho := one_of_size hs1
        have hc := pk_256 s 0
        obtain ⟨c, hcc⟩ : ∃ c, pk s 0 = c := ⟨_, rfl⟩
        rw [hcc] at ho hc
        have HC := Lib.hid hcc
        clear hcc hs1
        subst ho
        have hpk : pk (oneS c) 0 = c := HC.out
        by_cases hA : c = 46 ∨ c = 63 ∨ c = 33
        · have HA := Lib.hid (fun W => cont_a c hc W)
          rw [decide_eq_true hA] at HA
          have HT := Lib.hid (show tellM ⟨0, oneS c, nn⟩ = some true from by
            unfold tellM
            simp only
            rw [if_neg (by decide), if_neg (by decide), if_neg (by rw [oneS_size]; decide), hpk, if_pos hA])
          have HB := HA
          clear hpk hA HC
          gi_wp2_with (refine ⟨trivial, ?_⟩; gi_at_call 16; first | (refine (CallsIn.inRound l (callsIn_wide.2 (HA.out _))).mono ?_; rintro e w' ⟨rfl, rfl⟩) | (refine (CallsIn.inRound l (callsIn_wide.2 (HB.out _))).mono ?_; rintro e w' ⟨rfl, rfl⟩))
          exact ⟨(KeepsOthers.setCell _ _ _).from _, ⟨rfl, pre, _, _, rfl, hp, HT.out, bR1.set _⟩, hB1.setCell (p := ⟨w.heap.size, 0, none⟩) (Nat.le_refl _) _⟩
        · have HA := Lib.hid (fun W => cont_a c hc W)
          rw [decide_eq_false hA] at HA
          have HB := Lib.hid (fun W => cont_b c hc W)
          by_cases hb2 : c = 34 ∨ c = 39 ∨ c = 41 ∨ c = 93
          · rw [decide_eq_true hb2] at HB
            have HT := Lib.hid (show tellM ⟨0, oneS c, nn⟩ = none from by
              unfold tellM
              simp only
              rw [if_neg (by decide), if_neg (by decide), if_neg (by rw [oneS_size]; decide), hpk, if_neg hA, if_pos hb2])
            clear hpk hA HC hb2
            gi_wp2_with (refine ⟨trivial, ?_⟩; gi_at_call 16; first | (refine (CallsIn.inRound l (callsIn_wide.2 (HA.out _))).mono ?_; rintro e w' ⟨rfl, rfl⟩) | (refine (CallsIn.inRound l (callsIn_wide.2 (HB.out _))).mono ?_; rintro e w' ⟨rfl, rfl⟩))
            exact ⟨KeepsFrom.refl _ _, Below.refl _ _, ⟨fun p hp' => (List.mem_append.1 hp').elim (hp p) (fun e => by simp at e; subst e; exact HT.out), bR1, bN1⟩, hB1⟩
          · rw [decide_eq_false hb2] at HB
            have HT := Lib.hid (show tellM ⟨0, oneS c, nn⟩ = some false from by
              unfold tellM
              simp only
              rw [if_neg (by decide), if_neg (by decide), if_neg (by rw [oneS_size]; decide), hpk, if_neg hA, if_neg hb2])
            clear hpk hA HC hb2
            gi_wp2_with (refine ⟨trivial, ?_⟩; gi_at_call 16; first | (refine (CallsIn.inRound l (callsIn_wide.2 (HA.out _))).mono ?_; rintro e w' ⟨rfl, rfl⟩) | (refine (CallsIn.inRound l (callsIn_wide.2 (HB.out _))).mono ?_; rintro e w' ⟨rfl, rfl⟩))
            exact ⟨(KeepsOthers.setCell _ _ _).from _, ⟨rfl, pre, _, _, rfl, hp, HT.out, bR1.set _⟩, hB1.setCell (p := ⟨w.heap.size, 0, none⟩) (Nat.le_refl _) _⟩
      · have HT := Lib.hid (show tellM ⟨0, s, nn⟩ = some false from by
          unfold tellM
          simp only
          rw [if_neg (by decide), if_neg (by decide), if_pos hs1])
        have g1 : ((s.size : Int) != 1) = true := by rw [bne_iff_ne]; omega
        clear hs1
        gi_wp2
        exact ⟨(KeepsOthers.setCell _ _ _).from _, ⟨rfl, pre, _, _, rfl, hp, HT.out, bR1.set _⟩, hB1.setCell (p := ⟨w.heap.size, 0, none⟩) (Nat.le_refl _) _⟩
    · have HT := Lib.hid (show tellM ⟨k, s, nn⟩ = some false from by
        unfold tellM
        simp only
        rw [if_neg (by omega), if_pos k0])
      have f0 : (k == 0) = false := by rw [beq_eq_false_iff_ne]; exact k0
      clear k8 k10 k11 k21 k0
      gi_wp2
      exact ⟨(KeepsOthers.setCell _ _ _).from _, ⟨rfl, pre, _, _, rfl, hp, HT.out, bR1.set _⟩, hB1.setCell (p := ⟨w.heap.size, 0, none⟩) (Nat.le_refl _) _⟩
  case done =>
    rintro D ys W hD rfl ⟨⟨hne, bR1, bN1⟩, hB⟩ hK
    have rc := bR1.cell
    have rf := bR1.frozen
    have he := ends_skip zs zs.length (Nat.le_refl _) hne
    rw [Nat.sub_self] at he
    have HE := Lib.hid (show endsM zs = false from he)
    clear he hne
    gi_wp2
    have hK' := (KeepsOthers.setCell W ⟨w.heap.size, 0, none⟩ (.bool false)).same D _ hK rfl
    refine ⟨by simp, .inl ⟨_, _, rfl, run_takeDeferred hK', ?_⟩⟩
    have hc5 := cell_kept (World.cell?_setCell_same' W ⟨w.heap.size, 0, none⟩ (.bool false) (by rw [rc]; rfl)) (grownBy_putObj' _ D (.deferred none)) (fun r e => by cases e; exact ⟨_, hK', rfl⟩)
    refine ⟨.bool false, ?_, by rw [HE.out], (hB.setCell (p := ⟨w.heap.size, 0, none⟩) (Nat.le_refl _) _).trans (belowK_b (w := w) (Nat.le_refl _) _ D _ _ (by omega) hK' rfl rfl)⟩
    simp [results, Try.f11, go_sem, hc5]
  case stop =>
    rintro D c pre W hD ⟨k, hk, rfl⟩ ⟨⟨rfl, ini, last, b, e1, e2, e3, bR1⟩, hB⟩ hK
    have rc := bR1.cell
    obtain ⟨k', rfl⟩ : ∃ k', k = k' + 1 := by
      cases k with
      | zero => simp [comes] at e1
      | succ k' => exact ⟨k', rfl⟩
    rw [comes_succ] at e1
    obtain ⟨rfl, e5⟩ := List.append_inj' e1 rfl
    obtain rfl : at2 zs (zs.length - 1 - k') = last := by simpa using e5
    have HE := Lib.hid (ends_stop zs k' b (by omega) e2 e3)
    clear e1 e2 e3 e5
    gi_wp2
    refine ⟨by simp, .inl ⟨_, _, rfl, run_takeDeferred hK, ?_⟩⟩
    have hc5 := cell_kept rc (grownBy_putObj' _ D (.deferred none)) (fun r e => by cases e; exact ⟨_, hK, rfl⟩)
    refine ⟨.bool b, ?_, by rw [HE.out], hB.trans (belowK_b (w := w) (Nat.le_refl _) W D _ _ (by omega) hK rfl rfl)⟩
    simp [results, Try.f11, go_sem, hc5]
theorem ends_calls (A : Option Addr) (cap : Nat) (zs : List Tok) (hz : zs.length ≤ 1000000) (w : World) (hI : Toks w.heap.size w A zs) :
    Calls Try.prog 11 #[.slice A zs.length cap] w fun e W' => e = .returned (.bool (endsM zs)) ∧ Below w.heap.size w W' :=
  callsIn_wide.1 (ends_in 3 (Nat.le_refl _) A cap zs hz w hI)
end Go.Proofs.Ytaokofnhkojllaa

/- strings.SplitSeq at a line feed: what it hands to the rounds. -/
import Derived.RangeFuncNested
import Derived.RangeFuncBound
import Derived.RangeFuncCalls
import Derived.RangeFuncLeaves
import Derived.Shelf.Abstract
import Derived.Shelf.RegionOpen
import Derived.WalkKit
import Derived.OwnWalkIn
import Derived.TacticsInMore
import Derived.LoopNIn
import Derived.LoopIn
import Derived.Lib.Hide
import Derived.Test.YtmoloaneidledaaDoorShelf
import Derived.Test.YtmoloaneidledaaDoorR26L
import Derived.Test.YtmoloaneidledaaDoorR26A
set_option linter.unusedVariables false
set_option linter.unusedSimpArgs false
namespace Go.Proofs.YtmoloaneidledaaDoor
open Go.Shelf Go.RowKit Go.Lib
attribute [local go_sem] Oper.semAt_some

theorem split0_calls (s sep : ByteArray) (w : World) :
    Calls Tryd.prog 50 #[.string s, .string sep, .int .i64 0] w fun e w' => e = .returned (.func (.func 63) #[] #[.pointer (some ⟨w.heap.size + 1, 0, none⟩), .pointer (some ⟨w.heap.size, 0, none⟩), .pointer (some ⟨w.heap.size + 2, 0, none⟩)]) ∧ w' = ((w.alloc (.cells #[.string s] 9)).alloc (.cells #[.string sep] 9)).alloc (.cells #[.int .i64 0] 3) := by
  go_enter Tryd.func50, Tryd.ntmps50
  go_wp2
  go_ret
  exact ⟨by simp, rfl⟩
theorem split_calls (s sep : ByteArray) (w : World) :
    Calls Tryd.prog 33 #[.string s, .string sep] w fun e w' => e = .returned (.func (.func 63) #[] #[.pointer (some ⟨w.heap.size + 1, 0, none⟩), .pointer (some ⟨w.heap.size, 0, none⟩), .pointer (some ⟨w.heap.size + 2, 0, none⟩)]) ∧ w' = ((w.alloc (.cells #[.string s] 9)).alloc (.cells #[.string sep] 9)).alloc (.cells #[.int .i64 0] 3) := by
  go_enter Tryd.func33, Tryd.ntmps33
  go_wp2_with (go_at_call 50; refine (split0_calls s sep w).mono ?_; rintro e w' ⟨rfl, rfl⟩)
  go_ret
  exact ⟨rfl, rfl⟩
/-- The size of the text in the iterator's box. -/
def left9 (W : World) (Bs : Nat) : Nat := match W.cell? ⟨Bs, 0, none⟩ with | some (.string b) => b.size + 1 | _ => 0
theorem left9_of {W : World} {Bs : Nat} {b : ByteArray} (h : W.cell? ⟨Bs, 0, none⟩ = some (.string b)) : left9 W Bs = b.size + 1 := by simp [left9, h]
/-- A text that is no longer than a file may be. -/
abbrev Txt := { b : ByteArray // b.size ≤ 1000000 }
abbrev vals (l : List Txt) : List ByteArray := l.map Subtype.val
structure Its (W : World) (Bs : Nat) (cur : ByteArray) : Prop where
  c : W.cell? ⟨Bs, 0, none⟩ = some (.string cur)
  f : W.frozen? ⟨Bs, 0, none⟩ = false
  s : W.cell? ⟨Bs + 1, 0, none⟩ = some (.string ⟨#[10]⟩)
  z : W.cell? ⟨Bs + 2, 0, none⟩ = some (.int .i64 0)
theorem Its.kept {W W' : World} {Bs : Nat} {cur : ByteArray} (h : Its W Bs cur) (k : K3 Bs W W') : Its W' Bs cur :=
  ⟨(World.cell?_of_block (w := W) (k Bs (by omega) (by omega))).trans h.c, (World.frozen?_of_block (w := W) (k Bs (by omega) (by omega))).trans h.f,
    (World.cell?_of_block (w := W) (k (Bs + 1) (by omega) (by omega))).trans h.s, (World.cell?_of_block (w := W) (k (Bs + 2) (by omega) (by omega))).trans h.z⟩
theorem Its.set {W : World} {Bs : Nat} {cur : ByteArray} (h : Its W Bs cur) (v : ByteArray) : Its (W.setCell ⟨Bs, 0, none⟩ (.string v)) Bs v :=
  ⟨World.cell?_setCell_same' _ _ _ (by rw [h.c]; rfl), by rw [World.frozen?_setCell]; exact h.f,
    (World.cell?_of_block (w := W) (Below.heap_setCell _ _ _ _ (show Bs + 1 ≠ Bs by omega))).trans h.s, (World.cell?_of_block (w := W) (Below.heap_setCell _ _ _ _ (show Bs + 2 ≠ Bs by omega))).trans h.z⟩
set_option maxRecDepth 100000 in
set_option maxHeartbeats 4000000 in
theorem split1_in (n l Bs : Nat) (hn : 1 ≤ n) (s : ByteArray) (hs : s.size ≤ 1000000) (J Jx : List Txt → World → Prop) (hJB : ∀ p A v, J p A → J p (A.setCell ⟨Bs, 0, none⟩ v))
    (hY : ∀ pre x W1, J pre W1 → pre.length < (partsP s.data.toList []).length → YieldAt Fence.wide (n - 1) Tryd.prog l #[.string x.1] W1 fun e W' =>
      (e = .returned (.bool true) ∧ J (pre ++ [x]) W' ∧ K3 Bs W1 W') ∨ (e = .returned (.bool false) ∧ Jx (pre ++ [x]) W'))
    (W : World) (hI : Its W Bs s) (h0 : J [] W) :
    CallsIn Fence.wide n Tryd.prog 63 #[.func (.yield l) #[] #[], .pointer (some ⟨Bs + 1, 0, none⟩), .pointer (some ⟨Bs, 0, none⟩), .pointer (some ⟨Bs + 2, 0, none⟩)] W fun e W' => (∃ v, e = .returned v) ∧
      ((∃ ys, vals ys = partsP s.data.toList [] ∧ J ys W') ∨ (∃ pre, (∃ k, k ≤ (partsP s.data.toList []).length ∧ vals pre = (partsP s.data.toList []).take k) ∧ Jx pre W')) := by
  refine callsIn_of_wp Tryd.func63 rfl trivial ?_ rfl
  simp only [Tryd.ntmps63, List.size_toArray, List.length_cons, List.length_nil, Nat.reduceAdd, Nat.reduceSub, Array.replicate_succ, Array.replicate_zero, List.push_toArray, List.append_toArray, List.nil_append, List.cons_append]
  have hIs := hI.s
  gi_wp2
  gi_loopw [7] (fun _ wr => ∃ (cur : ByteArray) (pre : List Txt), Its wr Bs cur ∧ Hid (partsP s.data.toList [] = vals pre ++ partsP cur.data.toList [] ∧ cur.size ≤ s.size) ∧ J pre wr)
    (fun _ wr => left9 wr Bs)
  case atStart => exact ⟨s, [], hI, Lib.hid ⟨rfl, Nat.le_refl _⟩, h0⟩
  case round =>
    obtain ⟨cur, pre, hi, hh, hJs⟩ := hrel
    obtain ⟨hc, hf, hsep, hz⟩ := hi
    have hC := callsIn_wide (n := n - 1).2 (Tryd.strings_Index_one cur 10 wr)
    have hge := indexByte_ge cur.data.toList 10
    have hcs : cur.size ≤ 1000000 := by have := hh.out.2; omega
    by_cases h1 : indexByte cur.data.toList 10 = -1
    · have e := parts_none cur.data.toList [] h1
      rw [List.nil_append, tx_of] at e
      obtain ⟨fn, tmps, assign, body, hy, hR⟩ := hY pre ⟨cur, hcs⟩ wr hJs (by rw [hh.out.1, e]; simp)
      have HX := Lib.hid (show partsP s.data.toList [] = vals pre ++ [cur] by rw [hh.out.1, e])
      dsimp only at hy
      rw [h1] at hC
      clear hh hY e h1 hge
      gi_wp2_with (refine ⟨trivial, ?_⟩; gi_at_call 61; refine hC.mono ?_; rintro e w' ⟨rfl, rfl⟩)
      refine hR.mono ?_
      rintro e W3 (⟨rfl, hJ3, hk3⟩ | ⟨rfl, hJx3⟩)
      · gi_wp2
        go_end0
        exact ⟨⟨_, rfl⟩, .inl ⟨_, by rw [HX.out]; simp, hJ3⟩⟩
      · gi_wp2
        go_end0
        exact ⟨⟨_, rfl⟩, .inr ⟨_, ⟨_, Nat.le_refl _, by rw [List.take_length, HX.out]; simp⟩, hJx3⟩⟩
    · obtain ⟨i, hi⟩ : ∃ i : Nat, indexByte cur.data.toList 10 = i := ⟨(indexByte cur.data.toList 10).toNat, by omega⟩
      obtain ⟨hlt, e⟩ := parts_some cur.data.toList [] i hi
      rw [List.nil_append, ← tx_list (List.drop (i + 1) cur.data.toList)] at e
      have hlc : cur.size = cur.data.toList.length := by rw [Array.length_toList]; rfl
      have e1 : cur.extract 0 i = tx (cur.data.toList.take i) := by
        rw [show cur.extract 0 i = (tx cur.data.toList).extract 0 i by rw [tx_of], tx_extract]; rfl
      have e2 : cur.extract (i + 1) cur.size = tx (cur.data.toList.drop (i + 1)) := by
        rw [show cur.extract (i + 1) cur.size = (tx cur.data.toList).extract (i + 1) cur.size by rw [tx_of], tx_extract, hlc, List.take_length]
      rw [← e1, ← e2] at e
      have hil : i < cur.size := by omega
      have hxs : (cur.extract 0 i).size ≤ 1000000 := by rw [ByteArray.size_extract]; omega
      obtain ⟨fn, tmps, assign, body, hy, hR⟩ := hY pre ⟨cur.extract 0 i, hxs⟩ wr hJs (by rw [hh.out.1, e]; simp)
      dsimp only at hy
      have HX := Lib.hid (show partsP s.data.toList [] = (vals pre ++ [cur.extract 0 i]) ++ partsP (cur.extract (i + 1) cur.size).data.toList [] ∧ (cur.extract (i + 1) cur.size).size ≤ s.size ∧ (cur.extract (i + 1) cur.size).size < cur.size by
        rw [hh.out.1, e, List.append_assoc]
        have h2 := hh.out.2
        refine ⟨rfl, ?_⟩
        rw [ByteArray.size_extract]
        omega)
      rw [hi] at hC
      clear hh hY e h1 hge hlt hlc hi e1 e2
      gi_wp2_with (refine ⟨trivial, ?_⟩; gi_at_call 61; refine hC.mono ?_; rintro e w' ⟨rfl, rfl⟩)
      refine hR.mono ?_
      rintro e W3 (⟨rfl, hJ3, hk3⟩ | ⟨rfl, hJx3⟩)
      · obtain ⟨hc3, hf3, hs3, hz3⟩ := (Its.mk hc hf hsep hz).kept hk3
        gi_wp2
        go_roundw
        case rel => exact ⟨_, _, (Its.mk hc3 hf3 hs3 hz3).set _, Lib.hid ⟨by rw [HX.out.1]; simp, HX.out.2.1⟩, hJB _ _ _ hJ3⟩
        case measure =>
          rw [left9_of hc, left9_of ((Its.mk hc3 hf3 hs3 hz3).set _).c]
          have := HX.out.2.2
          omega
      · gi_wp2
        refine bodyPost_ret (results_none rfl _ _ _) rfl ?_
        refine ⟨⟨_, rfl⟩, .inr ⟨_, ⟨(vals pre ++ [cur.extract 0 i]).length, ?_, ?_⟩, hJx3⟩⟩
        · rw [HX.out.1]; simp
        · rw [HX.out.1, List.take_append_of_le_length (Nat.le_refl _), List.take_length]; simp
/-- The iterator's contract: it hands the parts of s to the rounds, one behind the other. -/
theorem split_box (n Bs : Nat) (hn : 1 ≤ n) (s : ByteArray) (hs : s.size ≤ 1000000) (w : World) (hB : Bs + 2 < w.heap.size) (hI : Its w Bs s) :
    SeqBox Fence.wide n Tryd.prog 63 #[.pointer (some ⟨Bs + 1, 0, none⟩), .pointer (some ⟨Bs, 0, none⟩), .pointer (some ⟨Bs + 2, 0, none⟩)] (fun x : Txt => #[.string x.1]) Bs (fun ys => vals ys = partsP s.data.toList []) (fun pre => ∃ k, k ≤ (partsP s.data.toList []).length ∧ vals pre = (partsP s.data.toList []).take k) (partsP s.data.toList []).length w :=
  fun l J Jx W hW hJB hY h0 => split1_in n l Bs hn s hs J Jx hJB hY W (hI.kept fun k h1 h2 => hW.block k (by omega)) h0
end Go.Proofs.YtmoloaneidledaaDoor

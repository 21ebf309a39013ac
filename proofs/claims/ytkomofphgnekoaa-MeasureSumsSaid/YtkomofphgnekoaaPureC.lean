/- MeasureLeft in plain Lean: brackets around the beginning change nothing. -/
import Derived.Test.YtkomofphgnekoaaPureB
import Derived.Test.YtkomofphgnekoaaWalkN
set_option linter.unusedVariables false
set_option linter.unusedSimpArgs false
namespace Go.Proofs.Ytkomofphgnekoaa
open Go.Shelf Go.RowKit Go.Lib Go.Aids Go.MapLit

def ob (i : Nat) : UInt8 := opsS.data.toList.getD i 0
theorem opAt_ob : ∀ i, i < 10 → opAt i = ⟨#[ob i]⟩ := by
  intro i h
  have : i = 0 ∨ i = 1 ∨ i = 2 ∨ i = 3 ∨ i = 4 ∨ i = 5 ∨ i = 6 ∨ i = 7 ∨ i = 8 ∨ i = 9 := by omega
  rcases this with rfl | rfl | rfl | rfl | rfl | rfl | rfl | rfl | rfl | rfl <;> decide +kernel
theorem ob_cases (i : Nat) (h : i < 10) : ob i = 43 ∨ ob i = 45 ∨ ob i = 42 ∨ ob i = 47 ∨ ob i = 37 ∨ ob i = 60 ∨ ob i = 62 ∨ ob i = 61 ∨ ob i = 38 ∨ ob i = 58 := by
  have : i = 0 ∨ i = 1 ∨ i = 2 ∨ i = 3 ∨ i = 4 ∨ i = 5 ∨ i = 6 ∨ i = 7 ∨ i = 8 ∨ i = 9 := by omega
  rcases this with rfl | rfl | rfl | rfl | rfl | rfl | rfl | rfl | rfl | rfl <;> decide +kernel
theorem pre_at {s : ByteArray} {a : Nat} {l : List UInt8} (h : At s a l) (p : ByteArray) : pre s p a = p.data.toList.isPrefixOf l := by
  unfold pre
  rw [show s.data.toList.drop a = l from h]
  rfl
theorem oper_one {s : ByteArray} {a : Nat} {x d : UInt8} {l : List UInt8} (h : At s a (x :: d :: l)) (hx : x = 43 ∨ x = 45 ∨ x = 42 ∨ x = 47 ∨ x = 37 ∨ x = 60 ∨ x = 62 ∨ x = 61 ∨ x = 38 ∨ x = 58) (hd : d.toNat ≠ 61) : operL s a = some ⟨#[x]⟩ := by
  have hd' : (61 == d) = false := by
    rw [beq_eq_false_iff_ne]
    intro e
    rw [← e] at hd
    exact hd rfl
  unfold operL ops
  simp only [List.find?, pre_at h, List.isPrefixOf, hd']
  rcases hx with rfl | rfl | rfl | rfl | rfl | rfl | rfl | rfl | rfl | rfl <;> rfl
theorem oper_end {s : ByteArray} {a : Nat} (h : At s a []) : operL s a = none := by
  unfold operL ops
  simp only [List.find?, pre_at h, List.isPrefixOf]
theorem oper_close {s : ByteArray} {a : Nat} {l : List UInt8} (h : At s a (41 :: l)) : operL s a = none := by
  unfold operL ops
  simp only [List.find?, pre_at h, List.isPrefixOf]
  rfl
theorem reckon_val (op : ByteArray) (x y : Int) : (∃ z, ∀ c t, Cx.mute c = false → reckonO c op x y t = .ok z t) ∨ (∃ e, ∀ c t, Cx.mute c = false → reckonO c op x y t = .die e) := by
  by_cases h1 : (op = ⟨#[47]⟩ ∨ op = ⟨#[37]⟩) ∧ y = 0
  · refine .inr ⟨11, fun c t hm => ?_⟩
    unfold reckonO
    rw [hm, if_neg (by decide), if_pos h1]
  · by_cases h2 : big (reckonV op x y)
    · refine .inr ⟨5, fun c t hm => ?_⟩
      unfold reckonO heldO
      rw [hm, if_neg (by decide), if_neg h1, if_neg (by decide), if_pos h2]
    · refine .inl ⟨reckonV op x y, fun c t hm => ?_⟩
      unfold reckonO heldO
      rw [hm, if_neg (by decide), if_neg h1, if_neg (by decide), if_neg h2]
theorem stops_ob {x : UInt8} (hx : x = 43 ∨ x = 45 ∨ x = 42 ∨ x = 47 ∨ x = 37 ∨ x = 60 ∨ x = 62 ∨ x = 61 ∨ x = 38 ∨ x = 58) : Stops x.toNat := by
  rcases hx with rfl | rfl | rfl | rfl | rfl | rfl | rfl | rfl | rfl | rfl <;> decide
theorem ob_space {x : UInt8} (hx : x = 43 ∨ x = 45 ∨ x = 42 ∨ x = 47 ∨ x = 37 ∨ x = 60 ∨ x = 62 ∨ x = 61 ∨ x = 38 ∨ x = 58) : x.toNat ≠ 32 := by
  rcases hx with rfl | rfl | rfl | rfl | rfl | rfl | rfl | rfl | rfl | rfl <;> decide
/-- An operator and a number behind a value. -/
theorem step_ok {c : Cx} (hsc : c.scale = 117) (hm : c.mute = false) {x z : Int} {a n deep : Nat} {o : UInt8} {l : List UInt8} {r : Out} (h : At c.s a (o :: (dl n ++ l)))
    (ho : o = 43 ∨ o = 45 ∨ o = 42 ∨ o = 47 ∨ o = 37 ∨ o = 60 ∨ o = 62 ∨ o = 61 ∨ o = 38 ∨ o = 58) (hn : n < 1000000000) (hs : Stops (pk c.s (a + 1 + (dl n).length)))
    (hz : ∀ c t, Cx.mute c = false → reckonO c ⟨#[o]⟩ x n t = .ok z t) (k : Runs c (.loop z (a + 1 + (dl n).length) deep) r) : Runs c (.loop x a deep) r := by
  have hp := pk_at h
  have hsk := skip_stay c.s deep a (by rw [hp]; exact ob_space ho)
  obtain ⟨d, t, e, h1, h2⟩ := dl_head n
  have hop : operL c.s a = some ⟨#[o]⟩ := oper_one (d := d) (l := t ++ l) (by rw [e] at h; exact h) ho (by omega)
  refine Runs.loop_step (op := ⟨#[o]⟩) (y := n) (t := a + 1 + (dl n).length) (z := z) (by rw [hsk]; exact hop) ?_ (hz c _ hm) k
  rw [hsk]
  exact Runs.digs hsc (At.next h) hn hs hm
theorem step_die {c : Cx} (hsc : c.scale = 117) (hm : c.mute = false) {x e : Int} {a n deep : Nat} {o : UInt8} {l : List UInt8} (h : At c.s a (o :: (dl n ++ l)))
    (ho : o = 43 ∨ o = 45 ∨ o = 42 ∨ o = 47 ∨ o = 37 ∨ o = 60 ∨ o = 62 ∨ o = 61 ∨ o = 38 ∨ o = 58) (hn : n < 1000000000) (hs : Stops (pk c.s (a + 1 + (dl n).length)))
    (hz : ∀ c t, Cx.mute c = false → reckonO c ⟨#[o]⟩ x n t = .die e) : Runs c (.loop x a deep) (.die e) := by
  have hp := pk_at h
  have hsk := skip_stay c.s deep a (by rw [hp]; exact ob_space ho)
  obtain ⟨d, t, e', h1, h2⟩ := dl_head n
  have hop : operL c.s a = some ⟨#[o]⟩ := oper_one (d := d) (l := t ++ l) (by rw [e'] at h; exact h) ho (by omega)
  refine Runs.loop_die (op := ⟨#[o]⟩) (y := n) (t := a + 1 + (dl n).length) (by rw [hsk]; exact hop) ?_ (hz c _ hm)
  rw [hsk]
  exact Runs.digs hsc (At.next h) hn hs hm
theorem At.start (s : ByteArray) : At s 0 s.data.toList := rfl
theorem At.at_size {s : ByteArray} {a : Nat} (h : At s a []) (ha : a ≤ s.size) : a = s.size := by
  have := congrArg List.length h
  rw [List.length_drop, Array.length_toList] at this
  have e : s.data.size = s.size := rfl
  simp at this
  omega
theorem leftA_list (a b c i j : Nat) (hi : i < 10) (hj : j < 10) : (leftA a b c i j).data.toList = dl a ++ (ob i :: (dl b ++ (ob j :: (dl c ++ [])))) := by
  unfold leftA
  rw [opAt_ob i hi, opAt_ob j hj, list_append, list_append, list_append, list_append]
  simp [dl]
theorem leftB_list (a b c i j : Nat) (hi : i < 10) (hj : j < 10) : (leftB a b c i j).data.toList = 40 :: (dl a ++ (ob i :: (dl b ++ (41 :: (ob j :: (dl c ++ [])))))) := by
  unfold leftB
  rw [opAt_ob i hi, opAt_ob j hj, list_append, list_append, list_append, list_append, list_append, list_append]
  simp [dl]
theorem left_same (a b c i j : Nat) (ha : a < 3000) (hb : b < 3000) (hc : c < 3000) (hi : i < 10) (hj : j < 10) : evalO (leftA a b c i j) 117 0 0 0 = evalO (leftB a b c i j) 117 0 0 0 := by
  have oi := ob_cases i hi
  have oj := ob_cases j hj
  have hok : okB 117 0 0 0 = true := by decide +kernel
  have A0 : At (leftA a b c i j) 0 (dl a ++ (ob i :: (dl b ++ (ob j :: (dl c ++ []))))) := leftA_list a b c i j hi hj
  have B0 : At (leftB a b c i j) 0 (40 :: (dl a ++ (ob i :: (dl b ++ (41 :: (ob j :: (dl c ++ []))))))) := leftB_list a b c i j hi hj
  have A1 := A0.add
  have A2 := A1.next.add
  have A3 := A2.next.add
  have B1 := B0.next
  have B2 := B1.add
  have B3 := B2.next.add
  have B4 := B3.next
  have B5 := B4.next.add
  generalize leftA a b c i j = sA at *
  generalize leftB a b c i j = sB at *
  have eA := At.at_size A3 (by have := A2.size (by simp); simp at this ⊢; omega)
  have eB := At.at_size B5 (by have := B4.size (by simp); simp at this ⊢; omega)
  have pA1 := pk_at A1
  have pA2 := pk_at A2
  have pA3 := pk_end A3
  have pB0 := pk_at B0
  have pB2 := pk_at B2
  have pB3 := pk_at B3
  have pB4 := pk_at B4
  have pB5 := pk_end B5
  have s0 : Stops 0 := by decide
  have s41 : Stops (41 : UInt8).toNat := by decide
  unfold evalO
  rw [hok]
  simp only [if_true]
  obtain ⟨cA, hcA⟩ : ∃ c : Cx, c = ⟨sA, 117, 0, 0, 0, 0, false⟩ := ⟨_, rfl⟩
  obtain ⟨cB, hcB⟩ : ∃ c : Cx, c = ⟨sB, 117, 0, 0, 0, 0, false⟩ := ⟨_, rfl⟩
  have a1 : cA.s = sA := by rw [hcA]
  have a2 : cA.scale = 117 := by rw [hcA]
  have a3 : cA.mute = false := by rw [hcA]
  have b1 : cB.s = sB := by rw [hcB]
  have b2 : cB.scale = 117 := by rw [hcB]
  have b3 : cB.mute = false := by rw [hcB]
  have rA : Runs cA (.oper 0 0) (.ok a (0 + (dl a).length)) := Runs.digs a2 (by rw [a1]; exact A0) (by omega) (by rw [a1, pA1]; exact stops_ob oi) a3
  have rB : Runs cB (.oper 1 1) (.ok a (0 + 1 + (dl a).length)) := Runs.digs b2 (by rw [b1]; exact B1) (by omega) (by rw [b1, pB2]; exact stops_ob oi) b3
  have kB : skip cB.s 0 0 = 0 := rfl
  have pB0' : pk cB.s (skip cB.s 0 0) = 40 := by rw [kB, b1, pB0]; rfl
  rcases reckon_val ⟨#[ob i]⟩ a b with ⟨z, hz⟩ | ⟨e, hz⟩
  · have lB : Runs cB (.oper 0 0) (.ok z (0 + 1 + (dl a).length + 1 + (dl b).length + 1)) := by
      refine Runs.paren pB0' (by decide) (Runs.expr rB (step_ok b2 b3 (by rw [b1]; exact B2) oi (by omega) (by rw [b1, pB3]; exact s41) hz ?_)) (by rw [b1, pB3]; rfl)
      have hs := skip_stay cB.s 1 (0 + 1 + (dl a).length + 1 + (dl b).length) (by rw [b1, pB3]; decide)
      have := Runs.loop_end (c := cB) (x := z) (a := 0 + 1 + (dl a).length + 1 + (dl b).length) (deep := 1) (by rw [hs, b1]; exact oper_close B3)
      rw [hs] at this
      exact this
    rcases reckon_val ⟨#[ob j]⟩ z c with ⟨y, hy⟩ | ⟨e, hy⟩
    · have RA : Runs cA (.expr 0 0) (.ok y sA.size) := by
        rw [← eA]
        refine Runs.expr rA (step_ok a2 a3 (by rw [a1]; exact A1) oi (by omega) (by rw [a1, pA2]; exact stops_ob oj) hz ?_)
        refine step_ok a2 a3 (by rw [a1]; exact A2) oj (by omega) (by rw [a1, pA3]; exact s0) hy ?_
        exact Runs.loop_end (by rw [skip_zero, a1]; exact oper_end A3)
      have RB : Runs cB (.expr 0 0) (.ok y sB.size) := by
        rw [← eB]
        refine Runs.expr lB ?_
        refine step_ok b2 b3 (by rw [b1]; exact B4) oj (by omega) (by rw [b1, pB5]; exact s0) hy ?_
        exact Runs.loop_end (by rw [skip_zero, b1]; exact oper_end B5)
      rw [evalRun_eq (hcA ▸ RA), evalRun_eq (hcB ▸ RB)]
      simp [wholeN]
    · have RA : Runs cA (.expr 0 0) (.die e) :=
        Runs.expr rA (step_ok a2 a3 (by rw [a1]; exact A1) oi (by omega) (by rw [a1, pA2]; exact stops_ob oj) hz (step_die a2 a3 (by rw [a1]; exact A2) oj (by omega) (by rw [a1, pA3]; exact s0) hy))
      have RB : Runs cB (.expr 0 0) (.die e) :=
        Runs.expr lB (step_die b2 b3 (by rw [b1]; exact B4) oj (by omega) (by rw [b1, pB5]; exact s0) hy)
      rw [evalRun_eq (hcA ▸ RA), evalRun_eq (hcB ▸ RB)]
      rfl
  · have RA : Runs cA (.expr 0 0) (.die e) :=
      Runs.expr rA (step_die a2 a3 (by rw [a1]; exact A1) oi (by omega) (by rw [a1, pA2]; exact stops_ob oj) hz)
    have RB : Runs cB (.expr 0 0) (.die e) :=
      Runs.expr_die (Runs.paren_die pB0' (by decide) (Runs.expr rB (step_die b2 b3 (by rw [b1]; exact B2) oi (by omega) (by rw [b1, pB3]; exact s41) hz)))
    rw [evalRun_eq (hcA ▸ RA), evalRun_eq (hcB ▸ RB)]
    rfl
end Go.Proofs.Ytkomofphgnekoaa

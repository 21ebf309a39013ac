/- Walks of layer 10's reader: escape. -/
import Derived.Test.YtaokofnhkojllaaWalkF
import Derived.Deep.RegionLaw
set_option linter.unusedVariables false
set_option linter.unusedSimpArgs false
namespace Go.Proofs.Ytaokofnhkojllaa
open Go.Shelf Go.RowKit Go.Lib Go.Aids Go.MapLit Go.Proofs.YtaokofnhkojllaaW.PrintWords

def EscP (b base : Nat) (s : ByteArray) (l : List Tok) (w : World) (o : Esc) (e : Ending) (w' : World) : Prop := match o with
  | .bad => Bad base w e w'
  | .go t a => e = .returned (.bool true) ∧ (∃ v, At w' b base v s a (l ++ t)) ∧ Below base w w'
  | .stop t => e = .returned (.bool false) ∧ (∃ v R, Rd w' b base v R (l ++ t)) ∧ Below base w w'
theorem seg_at (s : ByteArray) (a : Nat) (h : a < s.size) : ∃ hk : 0 < (s.extract a (a + 1)).size, ((s.extract a (a + 1))[0]'hk).toNat = pk s a := by
  have hz : 0 < (s.extract a (a + 1)).size := by rw [ByteArray.size_extract]; omega
  refine ⟨hz, ?_⟩
  rw [← pk_get _ _ hz, pk_ext s a (a + 1) 0 (by omega) (by omega), Nat.add_zero]
theorem rest_full (s : ByteArray) (a : Nat) (h : a < s.size) : (s.extract a s.size).toList.isEmpty = false := by
  obtain ⟨i0, -⟩ := rest_at s a 0 (by omega)
  rw [Lib.toList_data]
  have : 0 < (s.extract a s.size).data.toList.length := by rw [Array.length_toList]; exact i0
  cases hq : (s.extract a s.size).data.toList with
  | nil => rw [hq] at this; cases this
  | cons _ _ => rfl
theorem take_byte {w : World} {b base : Nat} {v : Value} {s : ByteArray} {a : Nat} {l : List Tok} (h : At w b base v s a l) (hs : s.size ≤ 1000000) (ha : a < s.size) :
    ∃ (T : ByteArray) (hz : 0 < T.size), (T[0]'hz).toNat = pk s a ∧ Calls Try.prog 26 #[.pointer (some ⟨b, 0, none⟩), .int .i64 1] w fun e w' => e = .returned (.string T) ∧ At w' b base v s (a + 1) l ∧ Below base w w' := by
  obtain ⟨hz, hx⟩ := seg_at s a ha
  exact ⟨_, hz, hx, take_at 1 h hs (by omega)⟩
set_option maxHeartbeats 4000000 in
set_option maxRecDepth 100000 in
theorem esc_simple (w : World) (b base : Nat) (v : Value) (s : ByteArray) (a : Nat) (l : List Tok) (h : At w b base v s a l) (hs : s.size ≤ 1000000) (hl : l.length ≤ 1000000) (ha : a < s.size) (t : Tok) (ht : look simpleL (pk s a) = some t) :
    Calls Try.prog 27 #[.pointer (some ⟨b, 0, none⟩)] w (EscP b base s l w (.go [t] (a + 1))) := by
  obtain ⟨T, hz, hx, hT⟩ := take_byte h hs ha
  have HT := Lib.hid hT
  have e0 := rest_full s a ha
  have i1 : (0 : Int) < T.size := by omega
  obtain ⟨c, hc⟩ : ∃ c, pk s a = c := ⟨_, rfl⟩
  rw [hc] at ht hx
  have hf : find simpleI (c : Int) = some t := (find_look simpleL c).trans ht
  have HX := Lib.hid hx
  have Hf := Lib.hid hf
  clear hx hT hc ht hf
  have htop := h.top
  obtain ⟨c0, -, -, -, cl⟩ := h.cells
  go_enter Try.func27, Try.ntmps27
  go_wp2_with fail
  refine HT.out.mono ?_
  rintro e w1 ⟨rfl, h1, b1⟩
  clear c0 cl
  have x2 := HX.out
  go_wp2_with fail
  refine (simple_calls _).mono ?_
  rintro e w2 ⟨rfl, hm, b2⟩
  have h2 := h1.below b2
  have B2 := b1.trans (b2.mono h1.top)
  have hl2 := run_lookup eK eT keyU Try.underlying68 zeroT simpleI c hm true
  rw [Hf.out] at hl2
  simp only [if_true, Option.map_some, Option.getD_some, Option.isSome_some] at hl2
  clear b1 b2
  have h3 := h2.below ((Below.refl _ _).alloc (Nat.le_refl _) (.cells #[.int .i64 t.kind, .string t.text, .int .i64 t.n] 28))
  obtain ⟨c0, c1, f0, f1, cl⟩ := h3.cells
  have hown := h3.own
  have hne := h3.ne
  have hbk := h3.blk
  have hge := h3.ge
  have htop := h3.top
  have HH := Lib.hid hm
  clear hm x2
  go_wp2
  have B3 := B2.alloc h2.top (.cells #[.int .i64 t.kind, .string t.text, .int .i64 t.n] 28)
  obtain ⟨g, hg⟩ : ∃ g, w2.heap.size = g := ⟨_, rfl⟩
  obtain ⟨W3, hW3⟩ : ∃ W, w2.alloc (.cells #[.int .i64 t.kind, .string t.text, .int .i64 t.n] 28) = W := ⟨_, rfl⟩
  have k0 : W3.cell? ⟨g, 0, none⟩ = some (.int .i64 t.kind) := by rw [← hW3, ← hg]; simp
  have k1 : W3.cell? ⟨g, 1, none⟩ = some (.string t.text) := by rw [← hW3, ← hg]; simp
  have k2 : W3.cell? ⟨g, 2, none⟩ = some (.int .i64 t.n) := by rw [← hW3, ← hg]; simp
  have kl : g < W3.heap.size := by rw [← hW3, ← hg]; simp
  rw [hW3] at c0 c1 f0 f1 cl hown hbk htop B3 h3 ⊢
  rw [hg]
  clear hW3 hg hl2 HT HX Hf HH
  go_region_law ((refine step_append_cells (w0 := w) base (by rfl) _ _ 23 28 (.agg #[.int .i64 0, .string ⟨#[]⟩, .int .i64 0]) 3 32 (by rfl) Try.underlying23 info28 rfl (by decide) (by decide) v l.length (cellsOf l) [.int .i64 t.kind, .string t.text, .int .i64 t.n] (by rfl) (by rfl) rfl (by simp [Value.oneCell']) hown.drew B3.drew htop (by omega) ?_; intro v1 w4 hown1 hb1 hg1 hat1; have hbk4 : w4.heap[b]? = some (.cells #[.string (s.extract (a + 1) s.size), v] 47 (0, 0)) := (hg1.block b cl hne).trans hbk; have q1 : w4.cell? ⟨b, 1, none⟩ = some v := (by simp [World.cell?, hbk4]); have q2 : w4.frozen? ⟨b, 1, none⟩ = false := (by simp [World.frozen?, hbk4]); clear hg1 hat1; obtain ⟨A1, n1, rfl⟩ := own_slice hown1))
  all_goals
    go_wp2
    go_ret
    refine ⟨rfl, ⟨.slice A1 (l.length + 1) n1, ?_, ?_, hge⟩, hb1.setCell hge _⟩
    · simp [World.setCell, Array.getElem?_modify, hbk4]
    · have hne1 : some b ≠ (Value.slice A1 (l.length + 1) n1).ownBlock := own_ne hown1 hbk4 (by decide)
      rw [cellsOf_snoc, List.length_append]
      exact own_move hown1 fun k hk => Below.heap_setCell _ _ _ _ (by rintro rfl; exact hne1 hk.symm)
end Go.Proofs.Ytaokofnhkojllaa

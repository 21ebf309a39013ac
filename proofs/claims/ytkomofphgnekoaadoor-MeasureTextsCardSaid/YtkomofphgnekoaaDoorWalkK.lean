/- Walks of layer 1's reader: the whole recursion; open. -/
import Derived.Test.YtkomofphgnekoaaDoorWalkJ
set_option linter.unusedVariables false
set_option linter.unusedSimpArgs false
namespace Go.Proofs.YtkomofphgnekoaaDoor
open Go.Shelf Go.RowKit Go.Lib Go.Aids Go.MapLit Go.Proofs.YtkomofphgnekoaaDoorW.PrintWords

theorem run_calls (c : Cx) (ok : c.Ok) : ∀ f, CO c f ∧ CE c f := by
  intro f
  induction f using Nat.strongRecOn with
  | ind f ih =>
    rcases f with _ | f
    · exact ⟨fun w b a deep h ha hd hn => absurd rfl hn, fun w b a deep h ha hd hn => absurd rfl hn⟩
    · exact ⟨oper_step c ok f (ih f (Nat.lt_succ_self _)).1 (ih f (Nat.lt_succ_self _)).2, expr_step c ok f (fun g hg => (ih g (by omega)).1)⟩

/-- open's second result: are the scale and the context ones? -/
def okB (scale : Nat) (size vs here : Int) : Bool :=
  (find (scL size vs) scale).isSome && decide (min size vs ≥ 0) && decide (max size vs ≤ 1000000) && decide (here ≥ -1000000000) && decide (here ≤ 1000000000)

def OpenPost (s : ByteArray) (scale : Nat) (size vs here : Int) (w : World) (ob : Bool) (e : Ending) (w' : World) : Prop :=
  ∃ b m, e = .returned (.tuple #[.pointer (some ⟨b, 0, none⟩), .bool ob]) ∧ Below w.heap.size w w' ∧
      w.heap.size ≤ b ∧ w.heap.size ≤ m ∧ m ≠ b ∧ Rd w' b ⟨s, scale, size, vs, here, m, false⟩ 0 ∧ MapIs eK eV w' m (scL size vs)

set_option maxRecDepth 100000 in
set_option maxHeartbeats 4000000 in
theorem open_calls (s : ByteArray) (scale : Nat) (size vs here : Int) (w : World) (hsc : scale < 256) :
    Calls Tryd.prog 22 #[.string s, .int .u8 scale, .agg #[.int .i64 size, .int .i64 vs, .int .i64 here]] w (OpenPost s scale size vs here w (okB scale size vs here)) := by
  obtain ⟨ob, hob⟩ : ∃ x, okB scale size vs here = x := ⟨_, rfl⟩
  rw [hob]
  have Hob := Lib.hid hob
  clear hob
  go_enter Tryd.func22, Tryd.ntmps22
  go_wp2_with fail
  refine (scales_calls size vs here _).mono ?_
  rintro e w1 ⟨rfl, hm, hb⟩
  obtain ⟨fv, hfv⟩ : ∃ x, find (scL size vs) (scale : Int) = x := ⟨_, rfl⟩
  have hl := run_lookup eK eV keyU Tryd.underlying39 zeroI (scL size vs) scale hm true
  rw [hfv] at hl
  simp only [if_true] at hl
  have hz1 : (w.alloc (.cells #[.int .i64 size, .int .i64 vs, .int .i64 here] 23)).heap.size = w.heap.size + 1 := by simp
  rw [hz1] at hl hm
  have hbw : Below w.heap.size w w1 := ((Below.refl _ w).alloc (Nat.le_refl _) _).trans (hb.mono (by simp))
  have hbox := Bk.new
  have k0 : w1.cell? ⟨w.heap.size, 0, none⟩ = some (.int .i64 size) := pw_cell_below hb (by simp [go_sem])
  have k1 : w1.cell? ⟨w.heap.size, 1, none⟩ = some (.int .i64 vs) := pw_cell_below hb (by simp [go_sem])
  have k2 : w1.cell? ⟨w.heap.size, 2, none⟩ = some (.int .i64 here) := pw_cell_below hb (by simp [go_sem])
  have hsz := hb.size
  clear hbox
  have hlt : w.heap.size + 1 + 1 < w1.heap.size := MapIs.lt hm
  have hbs := hbw.size
  go_wp2
  all_goals
    go_ret2
    refine ⟨w1.heap.size, w.heap.size + 1 + 1, ?_, hbw.alloc hbs _, hbs, by omega, by omega, Rd.new w1 ⟨s, scale, size, vs, here, w.heap.size + 1 + 1, false⟩ 0, Go.MapLit.MapIs.below eK eV hm ((Below.refl _ _).alloc (Nat.le_refl _) _)⟩
    refine congrArg (fun x => Ending.returned (.tuple #[.pointer (some ⟨w1.heap.size, 0, none⟩), .bool x])) (?_ : _ = ob)
    have e := Hob.out
    unfold okB at e
    rw [hfv] at e
    rw [← e]
    clear hl hm hb k0 k1 k2 e Hob
    simp_all <;> omega
end Go.Proofs.YtkomofphgnekoaaDoor

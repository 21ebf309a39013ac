/- The kinds of this seat's values: a mark. -/
import Derived.Test.YtbhmhoocohiieaaOpens
import Derived.Test.YtbhmhoocohiieaaProg
set_option linter.unusedVariables false
set_option linter.unusedSimpArgs false
namespace Go.Proofs.Ytbhmhoocohiieaa
open Go.RowKit Go.Opens Go.Proofs.YtbhmhoocohiieaaW.PrintWords

structure Mark where
  page : Int
  x : Int
  y : Int
  font : Int
  size : Int
  colour : ByteArray
  name : ByteArray
  stroke : ByteArray
  n : List Int

abbrev MarkT := Int × Int × Int × Int × Int × ByteArray × ByteArray × ByteArray × List Int
def kMarkT : Kd MarkT := Kd.pair (Kd.int .i64) (Kd.pair (Kd.int .i64) (Kd.pair (Kd.int .i64) (Kd.pair (Kd.int .i64) (Kd.pair (Kd.int .i64) (Kd.pair Kd.string (Kd.pair Kd.string (Kd.pair Kd.string (Kd.slice 3 (Kd.int .i64)))))))))
def Mark.t (m : Mark) : MarkT := (m.page, m.x, m.y, m.font, m.size, m.colour, m.name, m.stroke, m.n)
def Mark.of (t : MarkT) : Mark := ⟨t.1, t.2.1, t.2.2.1, t.2.2.2.1, t.2.2.2.2.1, t.2.2.2.2.2.1, t.2.2.2.2.2.2.1, t.2.2.2.2.2.2.2.1, t.2.2.2.2.2.2.2.2⟩
def kMark : Kd Mark := Kd.iso kMarkT Mark.t

def wfI (n : Int) : Prop := (Lit.int .i64 n).wf = true
def wfS (s : ByteArray) : Prop := s.size ≤ maxLen
def wfMark (m : Mark) : Prop := wfI m.page ∧ wfI m.x ∧ wfI m.y ∧ wfI m.font ∧ wfI m.size ∧ wfS m.colour ∧ wfS m.name ∧ wfS m.stroke ∧ m.n.length ≤ 9223372036854775807 ∧ ∀ a ∈ m.n, wfI a

theorem o3 : Opens Try.prog 3 (Kd.int .i64) wfI := Opens.int Try.underlying3 (by kernel_rfl)
theorem o9 : Opens Try.prog 9 Kd.string wfS := Opens.string Try.underlying9 (by kernel_rfl)
theorem o33 : Opens Try.prog 33 (Kd.slice 3 (Kd.int .i64)) (fun l => l.length ≤ 9223372036854775807 ∧ ∀ a ∈ l, wfI a) := Opens.slice o3 Try.underlying33 (by kernel_rfl)
theorem o35 : Opens Try.prog 35 kMark wfMark := (Opens.iso (d := kMarkT) (Opens.struct (d := kMarkT) Try.underlying35 (by kernel_rfl)
  (Fields.cons o3 rfl (Fields.cons o3 rfl (Fields.cons o3 rfl (Fields.cons o3 rfl (Fields.cons o3 rfl (Fields.cons o9 rfl (Fields.cons o9 rfl (Fields.cons o9 rfl (Fields.one o33 rfl)))))))))) Mark.t Mark.of (fun _ => rfl)).imp (fun m h => h)

/-- A mark's cells. -/
theorem mark_cells {w : World} {m : Mark} {c : List Value} (h : kMark.K w m c) : ∃ A q, c = [.int .i64 m.page, .int .i64 m.x, .int .i64 m.y, .int .i64 m.font, .int .i64 m.size, .string m.colour, .string m.name, .string m.stroke, .slice A m.n.length q] ∧ m.n.length ≤ q ∧ Kd.C (Kd.int .i64) w A m.n.length m.n := by
  obtain ⟨c0, r0, rfl, rfl, c1, r1, rfl, rfl, c2, r2, rfl, rfl, c3, r3, rfl, rfl, c4, r4, rfl, rfl, c5, r5, rfl, rfl, c6, r6, rfl, rfl, c7, r7, rfl, rfl, A, q, rfl, h1, h2⟩ := h
  exact ⟨A, q, rfl, h1, h2⟩

/-- A mark's nine cells, from off o of block b on. -/
structure MarkAt (w : World) (b o : Nat) (m : Mark) (N : Option Addr) (q : Nat) : Prop where
  c0 : w.cell? ⟨b, o, none⟩ = some (.int .i64 m.page)
  c1 : w.cell? ⟨b, o + 1, none⟩ = some (.int .i64 m.x)
  c2 : w.cell? ⟨b, o + 2, none⟩ = some (.int .i64 m.y)
  c3 : w.cell? ⟨b, o + 3, none⟩ = some (.int .i64 m.font)
  c4 : w.cell? ⟨b, o + 4, none⟩ = some (.int .i64 m.size)
  c5 : w.cell? ⟨b, o + 5, none⟩ = some (.string m.colour)
  c6 : w.cell? ⟨b, o + 6, none⟩ = some (.string m.name)
  c7 : w.cell? ⟨b, o + 7, none⟩ = some (.string m.stroke)
  c8 : w.cell? ⟨b, o + 8, none⟩ = some (.slice N m.n.length q)
theorem MarkAt.below {w w1 : World} {b o : Nat} {m : Mark} {N : Option Addr} {q : Nat} (h : MarkAt w b o m N q) (hb : Below w.heap.size w w1) : MarkAt w1 b o m N q :=
  ⟨pw_cell_below hb h.c0, pw_cell_below hb h.c1, pw_cell_below hb h.c2, pw_cell_below hb h.c3, pw_cell_below hb h.c4, pw_cell_below hb h.c5, pw_cell_below hb h.c6, pw_cell_below hb h.c7, pw_cell_below hb h.c8⟩

/-- A row of marks that is read: where it lies, and what its cells are. -/
theorem marks_at {w : World} {A : Option Addr} {l : List Mark} (h : kMark.C w A l.length l) (hn : 0 < l.length) : ∃ b off, A = some ⟨b, off, none⟩ ∧ b < w.heap.size ∧
    ∀ i (hi : i < l.length), ∃ N q, MarkAt w b (off + i * 9) l[i] N q ∧ l[i].n.length ≤ q ∧ Kd.C (Kd.int .i64) w N l[i].n.length l[i].n := by
  obtain ⟨b, off, hA, hb, hc⟩ := C_at h (by show 0 < 9; omega) hn
  refine ⟨b, off, hA, hb, fun i hi => ?_⟩
  obtain ⟨c, _, hk, hcell⟩ := hc i hi
  obtain ⟨N, q, rfl, h1, h2⟩ := mark_cells hk
  exact ⟨N, q, ⟨hcell 0 _ rfl, hcell 1 _ rfl, hcell 2 _ rfl, hcell 3 _ rfl, hcell 4 _ rfl, hcell 5 _ rfl, hcell 6 _ rfl, hcell 7 _ rfl, hcell 8 _ rfl⟩, h1, h2⟩
end Go.Proofs.Ytbhmhoocohiieaa

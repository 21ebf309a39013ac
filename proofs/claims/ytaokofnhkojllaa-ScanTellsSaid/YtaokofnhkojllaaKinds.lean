/- The kinds of this seat's values: a token; what the laws' parameters hold. -/
import Derived.Test.YtaokofnhkojllaaOpens
import Derived.Test.YtaokofnhkojllaaWalkK
set_option linter.unusedVariables false
set_option linter.unusedSimpArgs false
namespace Go.Proofs.Ytaokofnhkojllaa
open Go.RowKit Go.Opens Go.Lib Go.Aids Go.Proofs.YtaokofnhkojllaaW.PrintWords

def wfI (n : Int) : Prop := (Lit.int .i64 n).wf = true
def wfB (n : Int) : Prop := (Lit.int .u8 n).wf = true
def wfS (s : ByteArray) : Prop := s.size ≤ maxLen
theorem o3 : Opens Try.prog 3 (Kd.int .i64) wfI := Opens.int Try.underlying3 (by kernel_rfl)
theorem o5 : Opens Try.prog 5 (Kd.int .u8) wfB := Opens.int Try.underlying5 (by kernel_rfl)
theorem o9 : Opens Try.prog 9 Kd.string wfS := Opens.string Try.underlying9 (by kernel_rfl)
abbrev TokT := Int × ByteArray × Int
def kTokT : Kd TokT := Kd.pair (Kd.int .i64) (Kd.pair Kd.string (Kd.int .i64))
def Tok.t (m : Tok) : TokT := (m.kind, m.text, m.n)
def Tok.of (t : TokT) : Tok := ⟨t.1, t.2.1, t.2.2⟩
def kTok : Kd Tok := Kd.iso kTokT Tok.t
def wfT (m : Tok) : Prop := wfI m.kind ∧ wfS m.text ∧ wfI m.n
theorem o28 : Opens Try.prog 28 kTok wfT := (Opens.iso (d := kTokT) (Opens.struct (d := kTokT) Try.underlying28 (by kernel_rfl)
  (Fields.cons o3 rfl (Fields.cons o9 rfl (Fields.one o3 rfl)))) Tok.t Tok.of (fun _ => rfl)).imp (fun m h => h)
theorem tok_cells {w : World} {m : Tok} {c : List Value} (h : kTok.K w m c) : c = [.int .i64 m.kind, .string m.text, .int .i64 m.n] := by
  obtain ⟨c0, r0, rfl, rfl, c1, r1, rfl, rfl, h2⟩ := h
  have e : r1 = [.int .i64 m.n] := h2
  subst e
  rfl
theorem toks_at {w : World} {A : Option Addr} {l : List Tok} (h : kTok.C w A l.length l) (hn : 0 < l.length) : ∃ b off, A = some ⟨b, off, none⟩ ∧ b < w.heap.size ∧
    ∀ k (hk : k < l.length), w.cell? ⟨b, off + k * 3, none⟩ = some (.int .i64 l[k].kind) ∧ w.cell? ⟨b, off + k * 3 + 1, none⟩ = some (.string l[k].text) ∧ w.cell? ⟨b, off + k * 3 + 2, none⟩ = some (.int .i64 l[k].n) := by
  obtain ⟨b, off, hA, hb, hc⟩ := C_at h (by show 0 < 3; omega) hn
  refine ⟨b, off, hA, hb, fun i hi => ?_⟩
  obtain ⟨c, _, hk, hcell⟩ := hc i hi
  have e := tok_cells hk
  subst e
  exact ⟨hcell 0 _ rfl, hcell 1 _ rfl, hcell 2 _ rfl⟩
end Go.Proofs.Ytaokofnhkojllaa

/- Walks of functions that MarkupNames reaches, the second part. -/
import Derived.Test.YtbhmhoocohiieaaWalkA
import Derived.Test.YtbhmhoocohiieaaMapLit
import Derived.Lib.ConvBytes
set_option linter.unusedVariables false
set_option linter.unusedSimpArgs false
namespace Go.Proofs.Ytbhmhoocohiieaa
open Go.Shelf Go.RowKit Go.Lib Go.MapLit

/-- '[]byte(s)': a new row that holds the bytes. -/
theorem wpList_bytes {P : Program} {w : World} {ops : Array Oper} {rest : List Oper} {o : Oper} {a : Act} {Q : Exit → Act → World → Prop}
    (hg : o.guard = none) (x : Operand) (src dst e : TypeId) (hop : o.op = Op.convert src dst x) (hs : P.underlying src = some .string) (hd : P.underlying dst = some (.slice e)) (he : P.underlying e = some (.int .u8))
    (s : ByteArray) (hx : a.eval x = .string s)
    (hK : ∀ (w1 : World) (c : Nat), Below w.heap.size w w1 → w1.heap.size = w.heap.size + 1 → (∀ j, j < s.size → w1.cell? ⟨w.heap.size, j, none⟩ = some (.int .u8 (s.data.toList.getD j 0).toNat)) → wpList P ops Q rest (a.put o.dst (.slice (some ⟨w.heap.size, 0, none⟩) s.size c)) w1) :
    wpList P ops Q (o :: rest) a w := by
  refine wpList_plain hg fun K' hK' => ?_
  unfold Oper.wp
  have hrun := Go.Lib.run_convert_string_bytes (P := P) w src dst e s hs hd he
  simp only [execOp, hop, hx, Sem.run_bind, Sem.run_pure]
  rw [hrun]
  refine hK' _ _ (hK (bytesWorld w e s) (grownCap w s.size 0 e) ⟨rfl, rfl, rfl, ?_, ?_⟩ (bytesWorld_size w e s) fun j hj => bytesWorld_cell w e s j hj)
  · rw [bytesWorld_size]; omega
  · exact fun k hk => bytesWorld_at_old w e s k hk

abbrev SS := List (ByteArray × ByteArray)
def signsL : SS := [(⟨#[38]⟩, ⟨#[97, 109, 112]⟩), (⟨#[60]⟩, ⟨#[108, 116]⟩), (⟨#[62]⟩, ⟨#[103, 116]⟩), (⟨#[34]⟩, ⟨#[113, 117, 111, 116]⟩)]

theorem keyS : KeyLit Try.prog 9 Value.string := KeyLit.string Try.underlying9

def sg1 : SS := signsL.take 1
def sg2 : SS := signsL.take 2
def sg3 : SS := signsL.take 3
def MS (l : SS) (n : Nat) : Obj := .map (litEs Value.string Value.string l) n
theorem signs_calls (w : World) :
    Calls Try.prog 18 #[] w fun e w' => e = .returned (.map (some w.heap.size)) ∧ MapIs Value.string Value.string w' w.heap.size signsL ∧ Below w.heap.size w w' := by
  have hmm := @run_makeMap Try.prog
  have h1 : (Instr.mapUpdate 44 (.map (some w.heap.size)) (.string ⟨#[38]⟩) (.string ⟨#[97, 109, 112]⟩)).run Try.prog (w.alloc (.map #[] 0)) = .ok () (w.alloc (MS sg1 1)) := run_insert Value.string Value.string keyS Try.underlying44 [] ⟨#[38]⟩ ⟨#[97, 109, 112]⟩ (by decide) w
  have h2 : (Instr.mapUpdate 44 (.map (some w.heap.size)) (.string ⟨#[60]⟩) (.string ⟨#[108, 116]⟩)).run Try.prog (w.alloc (MS sg1 1)) = .ok () (w.alloc (MS sg2 2)) := run_insert Value.string Value.string keyS Try.underlying44 sg1 ⟨#[60]⟩ ⟨#[108, 116]⟩ (by decide) w
  have h3 : (Instr.mapUpdate 44 (.map (some w.heap.size)) (.string ⟨#[62]⟩) (.string ⟨#[103, 116]⟩)).run Try.prog (w.alloc (MS sg2 2)) = .ok () (w.alloc (MS sg3 3)) := run_insert Value.string Value.string keyS Try.underlying44 sg2 ⟨#[62]⟩ ⟨#[103, 116]⟩ (by decide) w
  have h4 : (Instr.mapUpdate 44 (.map (some w.heap.size)) (.string ⟨#[34]⟩) (.string ⟨#[113, 117, 111, 116]⟩)).run Try.prog (w.alloc (MS sg3 3)) = .ok () (w.alloc (MS signsL 4)) := run_insert Value.string Value.string keyS Try.underlying44 sg3 ⟨#[34]⟩ ⟨#[113, 117, 111, 116]⟩ (by decide) w
  go_enter Try.func18, Try.ntmps18
  go_wp2
  go_ret
  exact ⟨rfl, MapIs.made _ _ w signsL, (Below.refl _ w).alloc (Nat.le_refl _) _⟩

theorem run_cut {P : Program} (t : TypeId) (ht : P.underlying t = some .string) (s : ByteArray) (k : IntKind) (i j : Int) (h0 : 0 ≤ i) (h1 : i ≤ j) (h2 : j ≤ s.size) (W : World) :
    (Instr.slice t (.string s) (some (.int k i)) (some (.int k j)) none).run P W = .ok (.string (s.extract i.toNat j.toNat)) W := by
  have e1 := run_sliceBound (P := P) (w := W) k j s.size .sliceAlen (by omega) (by omega)
  have e2 := run_sliceBound (P := P) (w := W) k i j.toNat .sliceB (by omega) (by omega)
  simp [Instr.slice, run_underlying ht, Instr.sliceBounds, e1, e2, Result.andThen]

def hexD : ByteArray := ⟨#[48, 49, 50, 51, 52, 53, 54, 55, 56, 57, 97, 98, 99, 100, 101, 102]⟩
def hexAt (n : Nat) : ByteArray := hexD.extract n (n + 1)
/-- What 'coded' has put together of the first k bytes. -/
def codedTo (s : ByteArray) : Nat → ByteArray
  | 0 => ⟨#[]⟩
  | k + 1 => codedTo s k ++ (hexAt ((s.data.toList.getD k 0).toNat / 16) ++ hexAt ((s.data.toList.getD k 0).toNat % 16))

theorem belowN {B : Nat} {w W : World} (h : Below B w W) (n : Nat) : Below B w (W.drewN n) := ⟨h.os, h.tape, h.output, h.size, h.block⟩
theorem hexAt_size (n : Nat) : (hexAt n).size ≤ 16 := by
  unfold hexAt
  rw [ByteArray.size_extract]
  have : hexD.size = 16 := rfl
  omega
theorem codedTo_size (s : ByteArray) : ∀ k, (codedTo s k).size ≤ 32 * k
  | 0 => Nat.zero_le _
  | k + 1 => by
    have h := codedTo_size s k
    have h1 := hexAt_size ((s.data.toList.getD k 0).toNat / 16)
    have h2 := hexAt_size ((s.data.toList.getD k 0).toNat % 16)
    unfold codedTo
    rw [ByteArray.size_append, ByteArray.size_append]
    omega
set_option maxHeartbeats 1000000 in
theorem coded_calls (s : ByteArray) (hs : s.size ≤ 100) (w : World) :
    Calls Try.prog 20 #[.string s] w fun e w' => e = .returned (.string (codedTo s s.size)) ∧ Below w.heap.size w w' := by
  go_enter Try.func20, Try.ntmps20
  go_wp2_with (refine wpList_bytes rfl _ 9 46 5 rfl Try.underlying9 Try.underlying46 Try.underlying5 s rfl ?_; intro w1 c hb hsz hcell)
  go_loopw [3, 9] (fun v i wr => ∃ k : Nat, k ≤ s.size ∧ i = .int .i64 k ∧ v = .string (codedTo s k) ∧ (∀ j, j < s.size → wr.cell? ⟨w.heap.size, j, none⟩ = some (.int .u8 (s.data.toList.getD j 0).toNat)) ∧ Below w.heap.size w wr) (fun _ i _ => s.size - (intOf i).toNat)
  case atStart => exact ⟨0, Nat.zero_le _, rfl, rfl, hcell, hb⟩
  case round =>
    obtain ⟨k, hk, rfl, rfl, hc, hbw⟩ := hrel
    by_cases hlt : k < s.size
    · have hck := hc k hlt
      obtain ⟨n, hn, hn255⟩ : ∃ n : Nat, (s.data.toList.getD k 0).toNat = n ∧ n ≤ 255 := ⟨_, rfl, by have := (s.data.toList.getD k 0).toNat_lt; omega⟩
      rw [hn] at hck
      have HC := Lib.hid hn
      have Hc := Lib.hid hc
      clear hn hc hcell
      have b2 : 0 ≤ (n : Int) / 16 := by omega
      have b3 : (n : Int) / 16 + 1 ≤ 16 := by omega
      have b4 : 0 ≤ (n : Int) % 16 := by omega
      have b5 : (n : Int) % 16 + 1 ≤ 16 := by omega
      have q1 : IntKind.u8.wrap ((n : Int) / 16) = (n : Int) / 16 := IntWalk.u8_in _ (by omega)
      have q2 : IntKind.u8.wrap ((n : Int) / 16 + 1) = (n : Int) / 16 + 1 := IntWalk.u8_in _ (by omega)
      have q3 : IntKind.u8.wrap ((n : Int) % 16 + 1) = (n : Int) % 16 + 1 := IntWalk.u8_in _ (by omega)
      have t1 : ∀ W, (Instr.slice 9 (.string ⟨#[48, 49, 50, 51, 52, 53, 54, 55, 56, 57, 97, 98, 99, 100, 101, 102]⟩) (some (.int .u8 ((n : Int) / 16))) (some (.int .u8 ((n : Int) / 16 + 1))) none).run Try.prog W = .ok (.string (hexAt (n / 16))) W := by
        intro W
        have h := run_cut (P := Try.prog) 9 Try.underlying9 hexD .u8 ((n : Int) / 16) ((n : Int) / 16 + 1) b2 (by omega) b3 W
        rw [show ((n : Int) / 16).toNat = n / 16 by omega, show ((n : Int) / 16 + 1).toNat = n / 16 + 1 by omega] at h
        exact h
      have t2 : ∀ W, (Instr.slice 9 (.string ⟨#[48, 49, 50, 51, 52, 53, 54, 55, 56, 57, 97, 98, 99, 100, 101, 102]⟩) (some (.int .u8 ((n : Int) % 16))) (some (.int .u8 ((n : Int) % 16 + 1))) none).run Try.prog W = .ok (.string (hexAt (n % 16))) W := by
        intro W
        have h := run_cut (P := Try.prog) 9 Try.underlying9 hexD .u8 ((n : Int) % 16) ((n : Int) % 16 + 1) b4 (by omega) b5 W
        rw [show ((n : Int) % 16).toNat = n % 16 by omega, show ((n : Int) % 16 + 1).toNat = n % 16 + 1 by omega] at h
        exact h
      have z1 : (hexAt (n / 16)).size ≤ 16 := hexAt_size _
      have z2 : (hexAt (n % 16)).size ≤ 16 := hexAt_size _
      have z3 : (codedTo s k).size ≤ 32 * k := codedTo_size s k
      go_wp2
      go_quiet (fail)
      go_wp2
      go_roundw
      case rel => exact ⟨k + 1, by omega, by go_num, by rw [codedTo, HC.out], Hc.out, belowN hbw _⟩
      case measure => simp [intOf]; omega
    · obtain rfl : k = s.size := by omega
      go_wp2
      go_ret
      exact ⟨rfl, hbw⟩

end Go.Proofs.Ytbhmhoocohiieaa

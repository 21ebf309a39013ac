/- Plain words of layer 26: the parts of a text between line feeds; what a data base's lines make. -/
import Derived.Lib.Strings
import Derived.Lib.Bytealg
set_option linter.unusedVariables false
set_option linter.unusedSimpArgs false
namespace Go.Proofs.YtmoloaneidledaaDoor
open Go.Lib

/-- The byte at a place; beyond the end 0. -/
def pk (s : ByteArray) (a : Nat) : Nat := if h : a < s.size then s[a].toNat else 0
theorem pk_get (s : ByteArray) (a : Nat) (h : a < s.size) : pk s a = s[a].toNat := by unfold pk; rw [dif_pos h]
/-- The text of a list of bytes. -/
def tx (l : List UInt8) : ByteArray := ⟨l.toArray⟩
theorem tx_list (l : List UInt8) : (tx l).data.toList = l := by simp [tx]
theorem tx_of (s : ByteArray) : tx s.data.toList = s := by cases s; simp [tx]
theorem tx_size (l : List UInt8) : (tx l).size = l.length := by simp [tx, ByteArray.size]
theorem tx_extract (l : List UInt8) (a b : Nat) : (tx l).extract a b = tx ((l.take b).drop a) := by
  apply ByteArray.ext
  simp [tx, ByteArray.data_extract, List.drop_take]
theorem tx_append (a b : List UInt8) : tx a ++ tx b = tx (a ++ b) := by
  apply ByteArray.ext
  simp [tx]

/-- The parts of a text between line feeds; the first is begun already. -/
def partsP : List UInt8 → List UInt8 → List ByteArray
  | [], s => [tx s]
  | c :: cs, s => if c = 10 then tx s :: partsP cs [] else partsP cs (s ++ [c])
/-- The same, but a last part that is empty. -/
def linesP : List UInt8 → List UInt8 → List ByteArray
  | [], s => if s = [] then [] else [tx s]
  | c :: cs, s => if c = 10 then tx s :: linesP cs [] else linesP cs (s ++ [c])
theorem parts_none : ∀ (l s : List UInt8), indexByte l 10 = -1 → partsP l s = [tx (s ++ l)]
  | [], s, _ => by simp [partsP]
  | c :: cs, s, h => by
    simp only [indexByte] at h
    by_cases h1 : c = 10
    · subst h1; simp at h
    · have h2 : (c == 10) = false := by simpa using h1
      rw [h2] at h
      have h3 : indexByte cs 10 = -1 := by
        have := indexByte_ge cs 10
        by_cases h4 : indexByte cs 10 = -1
        · exact h4
        · rw [if_neg (by simp), if_neg (by simpa using h4)] at h; omega
      rw [partsP, if_neg h1, parts_none cs _ h3]
      simp
theorem parts_some : ∀ (l s : List UInt8) (i : Nat), indexByte l 10 = i → i < l.length ∧ partsP l s = tx (s ++ l.take i) :: partsP (l.drop (i + 1)) []
  | [], s, i, h => by simp [indexByte] at h
  | c :: cs, s, i, h => by
    simp only [indexByte] at h
    by_cases h1 : c = 10
    · subst h1
      rw [if_pos (by decide)] at h
      have : i = 0 := by omega
      subst this
      exact ⟨by simp, by simp [partsP]⟩
    · have h2 : (c == 10) = false := by simpa using h1
      rw [h2, if_neg (by simp)] at h
      by_cases h4 : indexByte cs 10 = -1
      · rw [if_pos (by simpa using h4)] at h; omega
      · rw [if_neg (by simpa using h4)] at h
        have := indexByte_ge cs 10
        obtain ⟨j, rfl⟩ : ∃ j, i = j + 1 := ⟨i - 1, by omega⟩
        obtain ⟨k1, k2⟩ := parts_some cs (s ++ [c]) j (by omega)
        refine ⟨by simp; omega, ?_⟩
        rw [partsP, if_neg h1, k2]
        simp
theorem parts_len : ∀ (l s : List UInt8), (partsP l s).length ≤ l.length + 1
  | [], s => by simp [partsP]
  | c :: cs, s => by
    rw [partsP]
    split
    · have := parts_len cs []; simp; omega
    · have := parts_len cs (s ++ [c]); simp; omega
theorem parts_size : ∀ (l s : List UInt8), ∀ x ∈ partsP l s, x.size ≤ s.length + l.length
  | [], s, x, h => by simp [partsP] at h; subst h; rw [tx_size]; simp
  | c :: cs, s, x, h => by
    rw [partsP] at h
    split at h
    · rcases List.mem_cons.1 h with rfl | h
      · rw [tx_size]; omega
      · have := parts_size cs [] x h; simp at this ⊢; omega
    · have := parts_size cs (s ++ [c]) x h; simp at this ⊢; omega

/-! Records. -/
structure Fld where
  c : Int
  t : ByteArray
def capB (c : Int) : Bool := decide (65 ≤ c) && decide (c ≤ 90)
def hasF (r : List Fld) (c : Int) : Bool := r.any fun f => decide (f.c = c)
/-- A line is laid behind the last field. -/
def addT (r : List Fld) (x : ByteArray) : List Fld := r.dropLast ++ (r.getLast?.toList.map fun f => ⟨f.c, f.t ++ tx [32] ++ x⟩)
inductive St where
  | bad (e : Int)
  | on (done : List (List Fld)) (cur : List Fld)
def flush (done : List (List Fld)) (cur : List Fld) : List (List Fld) := if cur = [] then done else done ++ [cur]
def stepS : St → ByteArray → St
  | .bad e, _ => .bad e
  | .on d r, x =>
    if x.size = 0 then .on (flush d r) []
    else if pk x 0 ≠ 37 then (if r = [] then .bad 4 else .on d (addT r x))
    else if x.size < 4 ∨ capB (pk x 1) = false ∨ pk x 2 ≠ 32 then .bad 4
    else if pk x 1 ≠ 65 ∧ hasF r (pk x 1) = true then .bad 7
    else .on d (r ++ [⟨pk x 1, x.extract 3 x.size⟩])
def finS : St → List (List Fld) × Int
  | .bad e => ([], e)
  | .on d r => if 500 < (flush d r).length then ([], 2) else (flush d r, 0)
def dataM (s : ByteArray) : List (List Fld) × Int := finS ((partsP s.data.toList []).foldl stepS (.on [] []))
theorem foldl_bad (e : Int) : ∀ l : List ByteArray, l.foldl stepS (.bad e) = .bad e
  | [] => rfl
  | x :: l => foldl_bad e l
theorem flush_flush (d : List (List Fld)) (r : List Fld) : flush (flush d r) [] = flush d r := by simp [flush]
theorem parts_lines : ∀ (l s : List UInt8), partsP l s = linesP l s ∨ partsP l s = linesP l s ++ [tx []]
  | [], s => by
    rw [partsP, linesP]
    by_cases h : s = []
    · subst h; exact .inr rfl
    · rw [if_neg h]; exact .inl rfl
  | c :: cs, s => by
    rw [partsP, linesP]
    split
    · rcases parts_lines cs [] with h | h <;> rw [h] <;> simp
    · exact parts_lines cs _
theorem step_empty (d : List (List Fld)) (r : List Fld) : stepS (.on d r) (tx []) = .on (flush d r) [] := by
  simp [stepS, tx_size]
/-- The same over the lines, with an empty one at the end. -/
theorem data_lines (s : ByteArray) : dataM s = finS ((linesP s.data.toList [] ++ [tx []]).foldl stepS (.on [] [])) := by
  unfold dataM
  have key : ∀ S : St, finS (stepS S (tx [])) = finS S := by
    intro S
    cases S with
    | bad e => rfl
    | on d r => rw [step_empty, finS, finS, flush_flush]
  rw [List.foldl_append]
  rcases parts_lines s.data.toList [] with h | h
  · rw [h]; exact (key _).symm
  · rw [h, List.foldl_append]
end Go.Proofs.YtmoloaneidledaaDoor

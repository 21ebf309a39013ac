/- The line's reader of layer 10, in plain Lean. -/
import Derived.Shelf.GgClosure.StringsIndexFunc
set_option linter.unusedVariables false
set_option linter.unusedSimpArgs false
namespace Go.Proofs.Ytaokofnhkojllaa
open Go.Lib

/-- The byte at a place, 0 at the end. -/
def pk (s : ByteArray) (a : Nat) : Nat := if h : a < s.size then s[a].toNat else 0
theorem pk_get (s : ByteArray) (a : Nat) (h : a < s.size) : pk s a = s[a].toNat := by unfold pk; rw [dif_pos h]
theorem pk_lt {s : ByteArray} {a : Nat} (h : pk s a ≠ 0) : a < s.size := by
  unfold pk at h
  by_cases ha : a < s.size
  · exact ha
  · rw [dif_neg ha] at h; exact absurd rfl h
theorem pk_256 (s : ByteArray) (a : Nat) : pk s a < 256 := by
  unfold pk
  split
  · exact UInt8.toNat_lt _
  · decide
def seenB (c : Nat) : Bool := decide (33 ≤ c ∧ c ≤ 126)
def digB (c : Nat) : Bool := decide (48 ≤ c ∧ c ≤ 57)
/-- All bytes from a place to another one are seen. -/
def allSeen (s : ByteArray) (i j : Nat) : Bool := (List.range (j - i)).all fun k => seenB (pk s (i + k))
theorem allSeen_iff (s : ByteArray) (i j : Nat) : allSeen s i j = true ↔ ∀ k, i ≤ k → k < j → seenB (pk s k) = true := by
  unfold allSeen
  rw [List.all_eq_true]
  constructor
  · intro h k h1 h2
    have := h (k - i) (List.mem_range.2 (by omega))
    rwa [show i + (k - i) = k by omega] at this
  · intro h k hk
    have := List.mem_range.1 hk
    exact h (i + k) (by omega) (by omega)
/-- The first place of a byte from here on; the end, if there is none. -/
def findF (s : ByteArray) (q : Nat) : Nat → Nat → Nat
  | 0, a => a
  | f + 1, a => if pk s a = q then a else findF s q f (a + 1)
def findB (s : ByteArray) (a q : Nat) : Nat := findF s q (s.size - a) a
theorem findF_bound (s : ByteArray) (q : Nat) : ∀ f a, a ≤ findF s q f a ∧ findF s q f a ≤ a + f
  | 0, a => by simp [findF]
  | f + 1, a => by
    unfold findF
    split
    · omega
    · have := findF_bound s q f (a + 1); omega
theorem findB_le (s : ByteArray) (a q : Nat) (h : a ≤ s.size) : a ≤ findB s a q ∧ findB s a q ≤ s.size := by
  have := findF_bound s q (s.size - a) a
  unfold findB
  omega
theorem findF_not (s : ByteArray) (q : Nat) : ∀ f a k, a ≤ k → k < findF s q f a → pk s k ≠ q
  | 0, a, k, h1, h2 => by simp [findF] at h2; omega
  | f + 1, a, k, h1, h2 => by
    unfold findF at h2
    split at h2
    · omega
    · rename_i hne
      by_cases h : k = a
      · subst h; exact hne
      · exact findF_not s q f (a + 1) k (by omega) h2
theorem findF_at (s : ByteArray) (q : Nat) : ∀ f a, findF s q f a < a + f → pk s (findF s q f a) = q
  | 0, a, h => by simp [findF] at h
  | f + 1, a, h => by
    unfold findF at h ⊢
    split
    · assumption
    · rename_i hne
      rw [if_neg hne] at h
      exact findF_at s q f (a + 1) (by omega)
theorem findB_at (s : ByteArray) (a q : Nat) (h : findB s a q < s.size) (ha : a ≤ s.size) : pk s (findB s a q) = q := findF_at s q _ _ (by unfold findB at h; omega)
theorem findB_not (s : ByteArray) (a q k : Nat) (h1 : a ≤ k) (h2 : k < findB s a q) : pk s k ≠ q := findF_not s q _ _ k h1 h2
theorem findB_is (s : ByteArray) (a q e : Nat) (h1 : a ≤ e) (h2 : e ≤ s.size) (h3 : ∀ k, a ≤ k → k < e → pk s k ≠ q) (h4 : e < s.size → pk s e = q) : findB s a q = e := by
  have hb := findB_le s a q (by omega)
  rcases Nat.lt_trichotomy (findB s a q) e with h | h | h
  · exact absurd (findB_at s a q (by omega) (by omega)) (h3 _ hb.1 h)
  · exact h
  · exact absurd (h4 (by omega)) (findB_not s a q e h1 h)

/-- A token. -/
structure Tok where
  kind : Int
  text : ByteArray
  n : Int
abbrev oneS (c : Nat) : ByteArray := ⟨#[UInt8.ofNat c]⟩
def twoM (s : ByteArray) (a : Nat) : Option (ByteArray × Nat) := if a + 2 ≤ s.size ∧ allSeen s a (a + 2) = true then some (s.extract a (a + 2), a + 2) else none
def bracketM (least most : Nat) (s : ByteArray) (a : Nat) : Option (ByteArray × Nat) :=
  let e := findB s a 93
  if e < s.size ∧ least ≤ e - a ∧ e - a ≤ most ∧ allSeen s a e = true then some (s.extract a e, e + 1) else none
def nameM (least most : Nat) (s : ByteArray) (a : Nat) : Option (ByteArray × Nat) :=
  if pk s a = 40 then twoM s (a + 1) else if pk s a = 91 then bracketM least most s (a + 1) else if seenB (pk s a) = true then some (oneS (pk s a), a + 1) else none
def quotedM (s : ByteArray) (a : Nat) : Option (ByteArray × Nat) :=
  if a < s.size ∧ pk s a ≠ 32 ∧ pk s a ≠ 9 then
    (let e := findB s (a + 1) (pk s a)
     if e < s.size then some (s.extract (a + 1) e, e + 1) else none)
  else none
/-- What stands behind \s: its text, its number, where it ends. -/
def sizeM (s : ByteArray) (a : Nat) : Option (ByteArray × Nat × Nat) :=
  if pk s a = 43 ∨ pk s a = 45 then (if digB (pk s (a + 1)) = true then some (oneS (pk s a), pk s (a + 1) - 48, a + 2) else none)
  else if pk s a = 40 then (if digB (pk s (a + 1)) = true ∧ digB (pk s (a + 2)) = true then some (⟨#[]⟩, (pk s (a + 1) - 48) * 10 + (pk s (a + 2) - 48), a + 3) else none)
  else if 49 ≤ pk s a ∧ pk s a ≤ 51 ∧ digB (pk s (a + 1)) = true then some (⟨#[]⟩, (pk s a - 48) * 10 + (pk s (a + 1) - 48), a + 2)
  else if digB (pk s a) = true then some (⟨#[]⟩, pk s a - 48, a + 1) else none
def mi : ByteArray := ⟨#[109, 105]⟩
def up1 : ByteArray := ⟨#[45, 49, 110]⟩
def down1 : ByteArray := ⟨#[49, 110]⟩
/-- Escapes of one byte that are one token. -/
def simpleL : List (Nat × Tok) :=
  [(101, ⟨0, ⟨#[92]⟩, 0⟩), (92, ⟨0, ⟨#[92]⟩, 0⟩), (45, ⟨0, mi, 0⟩), (116, ⟨2, ⟨#[]⟩, 0⟩), (97, ⟨3, ⟨#[]⟩, 0⟩), (126, ⟨4, ⟨#[]⟩, 0⟩), (32, ⟨5, ⟨#[]⟩, 0⟩), (124, ⟨6, ⟨#[]⟩, 167⟩), (94, ⟨6, ⟨#[]⟩, 83⟩), (48, ⟨7, ⟨#[]⟩, 0⟩), (37, ⟨8, ⟨#[]⟩, 0⟩), (38, ⟨9, ⟨#[]⟩, 0⟩), (117, ⟨13, up1, 0⟩), (100, ⟨13, down1, 0⟩), (122, ⟨18, ⟨#[]⟩, 0⟩)]
def quotesL : List (Nat × Int) := [(104, 12), (118, 13), (120, 14), (108, 15), (68, 16), (111, 17)]
def look {β : Type} (l : List (Nat × β)) (k : Nat) : Option β := (l.find? fun p => decide (k = p.1)).map (·.2)
inductive Esc where
  | bad
  | go (l : List Tok) (a : Nat)
  | stop (l : List Tok)
def namedE (kind : Int) : Option (ByteArray × Nat) → Esc
  | some (t, a) => .go [⟨kind, t, 0⟩] a
  | none => .bad
/-- What stands behind a \ (a byte does). -/
def escM (s : ByteArray) (a : Nat) : Esc :=
  let c := pk s a
  match look simpleL c with
  | some t => .go [t] (a + 1)
  | none =>
    match look quotesL c with
    | some k => namedE k (quotedM s (a + 1))
    | none =>
      if c = 40 ∨ c = 91 then namedE 0 (nameM 1 10 s a)
      else if c = 102 then namedE 10 (nameM 1 20 s (a + 1))
      else if c = 109 then namedE 21 (nameM 0 20 s (a + 1))
      else if c = 107 then namedE 19 (nameM 1 20 s (a + 1))
      else if c = 115 then (match sizeM s (a + 1) with
        | some (t, n, b) => .go [⟨11, t, n⟩] b
        | none => .bad)
      else if c = 99 then .stop [⟨20, ⟨#[]⟩, 0⟩]
      else if c = 34 then .stop []
      else if c = 123 ∨ c = 125 then .go [] (a + 1)
      else if seenB c = true then .go [⟨0, oneS c, 0⟩] (a + 1) else .go [] (a + 1)
/-- One step of a line, at a place where a byte stands. -/
def stepM (s : ByteArray) (a : Nat) : Esc :=
  let c := pk s a
  if c = 92 then (if a + 1 < s.size then escM s (a + 1) else .go [] (a + 1))
  else if c = 32 then .go [⟨1, ⟨#[]⟩, 0⟩] (a + 1)
  else if c = 9 then .go [⟨2, ⟨#[]⟩, 0⟩] (a + 1)
  else if seenB c = true then .go [⟨0, oneS c, 0⟩] (a + 1) else .go [] (a + 1)
/-- A line from a place on, behind tokens. -/
def lineF (s : ByteArray) : Nat → List Tok → Nat → Option (List Tok)
  | 0, l, _ => some l
  | f + 1, l, a => if a < s.size then (match stepM s a with
      | .bad => none
      | .go t b => lineF s f (l ++ t) b
      | .stop t => some (l ++ t)) else some l
def startM (s : ByteArray) : Nat := if pk s 0 = 92 ∧ pk s 1 = 33 then 2 else 0
def lineM (s : ByteArray) : Option (List Tok) := lineF s s.size [] (startM s)
def hasLF (s : ByteArray) : Bool := decide (findB s 0 10 < s.size)

/-! Where steps end. -/
theorem twoM_end {s : ByteArray} {a b : Nat} {t : ByteArray} (h : twoM s a = some (t, b)) : a < b ∧ b ≤ s.size := by
  unfold twoM at h
  split at h
  · rename_i h1
    injection h with h; injection h with _ h; subst h; omega
  · cases h
theorem bracketM_end {x y : Nat} {s : ByteArray} {a b : Nat} {t : ByteArray} (h : bracketM x y s a = some (t, b)) (ha : a ≤ s.size) : a < b ∧ b ≤ s.size := by
  unfold bracketM at h
  simp only at h
  have := findB_le s a 93 ha
  split at h
  · rename_i h1
    injection h with h; injection h with _ h; subst h; omega
  · cases h
theorem nameM_end {x y : Nat} {s : ByteArray} {a b : Nat} {t : ByteArray} (h : nameM x y s a = some (t, b)) : a < b ∧ b ≤ s.size := by
  unfold nameM at h
  split at h
  · have := twoM_end h; omega
  · split at h
    · rename_i h1
      have := pk_lt (s := s) (a := a) (by omega)
      have := bracketM_end h (by omega); omega
    · split at h
      · rename_i h1
        injection h with h; injection h with _ h; subst h
        have := pk_lt (s := s) (a := a) (by intro e; rw [e] at h1; exact absurd h1 (by decide))
        omega
      · cases h
theorem quotedM_end {s : ByteArray} {a b : Nat} {t : ByteArray} (h : quotedM s a = some (t, b)) : a < b ∧ b ≤ s.size := by
  unfold quotedM at h
  split at h
  · rename_i h1
    simp only at h
    have := findB_le s (a + 1) (pk s a) (by omega)
    split at h
    · injection h with h; injection h with _ h; subst h; omega
    · cases h
  · cases h
theorem dig_lt {s : ByteArray} {a : Nat} (h : digB (pk s a) = true) : a < s.size := pk_lt (by intro e; rw [e] at h; exact absurd h (by decide))
theorem sizeM_end {s : ByteArray} {a b n : Nat} {t : ByteArray} (h : sizeM s a = some (t, n, b)) : a < b ∧ b ≤ s.size := by
  unfold sizeM at h
  split at h
  · split at h
    · rename_i h2
      have := dig_lt h2
      injection h with h; injection h with _ h; injection h with _ h; subst h; omega
    · cases h
  · split at h
    · split at h
      · rename_i h2
        have := dig_lt h2.2
        injection h with h; injection h with _ h; injection h with _ h; subst h; omega
      · cases h
    · split at h
      · rename_i h2
        have := dig_lt h2.2.2
        injection h with h; injection h with _ h; injection h with _ h; subst h; omega
      · split at h
        · rename_i h2
          have := dig_lt h2
          injection h with h; injection h with _ h; injection h with _ h; subst h; omega
        · cases h
theorem namedE_end {s : ByteArray} {a b : Nat} {k : Int} {o : Option (ByteArray × Nat)} {l : List Tok} (h : namedE k o = .go l b) (ho : ∀ t b, o = some (t, b) → a < b ∧ b ≤ s.size) : a < b ∧ b ≤ s.size ∧ l.length ≤ 1 := by
  rcases o with _ | ⟨t, c⟩
  · cases h
  · injection h with h1 h2; subst h1 h2; have := ho t c rfl; exact ⟨this.1, this.2, by simp⟩
theorem escM_end {s : ByteArray} {a b : Nat} {l : List Tok} (ha : a < s.size) (h : escM s a = .go l b) : a < b ∧ b ≤ s.size ∧ l.length ≤ 1 := by
  have one : ∀ {t : List Tok}, t.length ≤ 1 → Esc.go t (a + 1) = .go l b → a < b ∧ b ≤ s.size ∧ l.length ≤ 1 := by
    intro t ht e; injection e with e1 e2; subst e1 e2; exact ⟨by omega, by omega, ht⟩
  have two : a + 1 < b ∧ b ≤ s.size ∧ l.length ≤ 1 → a < b ∧ b ≤ s.size ∧ l.length ≤ 1 := fun h => ⟨by omega, h.2.1, h.2.2⟩
  unfold escM at h
  simp only at h
  split at h
  · exact one (by simp) h
  · split at h
    · exact two (namedE_end h fun t b e => quotedM_end e)
    · split at h
      · exact namedE_end h fun t b e => nameM_end e
      · split at h
        · exact two (namedE_end h fun t b e => nameM_end e)
        · split at h
          · exact two (namedE_end h fun t b e => nameM_end e)
          · split at h
            · exact two (namedE_end h fun t b e => nameM_end e)
            · split at h
              · split at h
                · rename_i t n c hs
                  have := sizeM_end hs
                  injection h with h1 h2; subst h1 h2; exact ⟨by omega, by omega, by simp⟩
                · cases h
              · split at h
                · cases h
                · split at h
                  · cases h
                  · split at h
                    · exact one (by simp) h
                    · split at h
                      · exact one (by simp) h
                      · exact one (by simp) h
theorem stepM_end {s : ByteArray} {a b : Nat} {l : List Tok} (ha : a < s.size) (h : stepM s a = .go l b) : a < b ∧ b ≤ s.size ∧ l.length ≤ 1 := by
  have one : ∀ {t : List Tok}, t.length ≤ 1 → Esc.go t (a + 1) = .go l b → a < b ∧ b ≤ s.size ∧ l.length ≤ 1 := by
    intro t ht e; injection e with e1 e2; subst e1 e2; exact ⟨by omega, by omega, ht⟩
  unfold stepM at h
  simp only at h
  split at h
  · split at h
    · have := escM_end (by omega) h; exact ⟨by omega, this.2.1, this.2.2⟩
    · exact one (by simp) h
  · split at h
    · exact one (by simp) h
    · split at h
      · exact one (by simp) h
      · split at h
        · exact one (by simp) h
        · exact one (by simp) h
/-- More rounds than bytes are left change nothing. -/
theorem lineF_more (s : ByteArray) : ∀ f g l a, s.size ≤ a + f → s.size ≤ a + g → lineF s f l a = lineF s g l a
  | 0, 0, _, _, _, _ => rfl
  | 0, g + 1, l, a, hf, _ => by unfold lineF; rw [if_neg (by omega)]
  | f + 1, 0, l, a, _, hg => by unfold lineF; rw [if_neg (by omega)]
  | f + 1, g + 1, l, a, hf, hg => by
    unfold lineF
    split
    · rename_i ha
      rcases hs : stepM s a with _ | ⟨t, b⟩ | t
      · rfl
      · have := stepM_end ha hs
        exact lineF_more s f g _ b (by omega) (by omega)
      · rfl
    · rfl

/-! Runes that are not seen are bytes that are not seen. -/
def badR (r : Nat) : Bool := decide (r < 33) || decide (126 < r)
theorem decode_low {s : ByteArray} {p : Nat} (h : p < s.size) (hb : pk s p < 128) : Utf8.decode s p = (pk s p, 1) := by
  rw [pk_get s p h] at hb ⊢
  have e : s.get! p = s[p] := by
    show (s.data[p]! : UInt8) = s.data[p]
    rw [getElem!_pos]
  unfold Utf8.decode
  simp only [Nat.add_zero, e]
  rw [if_pos hb]
theorem decode_high {s : ByteArray} {p : Nat} (h : p < s.size) (hb : ¬ pk s p < 128) : 128 ≤ (Utf8.decode s p).1 := by
  rw [pk_get s p h] at hb
  have e : s.get! p = s[p] := by
    show (s.data[p]! : UInt8) = s.data[p]
    rw [getElem!_pos]
  unfold Utf8.decode
  simp only [Nat.add_zero, e]
  rw [if_neg hb]
  unfold Utf8.runeError
  repeat' split
  all_goals first | (simp; done) | (rename_i h1; simp at h1 ⊢; omega)
theorem idx_seen (s : ByteArray) : ∀ f p, s.size ≤ p + f → (Lib.idxFuncFrom badR true s f p = -1 ↔ ∀ k, p ≤ k → k < s.size → seenB (pk s k) = true)
  | 0, p, h => by
    unfold Lib.idxFuncFrom
    exact ⟨fun _ k h1 h2 => by omega, fun _ => rfl⟩
  | f + 1, p, h => by
    unfold Lib.idxFuncFrom
    by_cases hp : p < s.size
    · rw [if_pos hp]
      by_cases hb : pk s p < 128
      · rw [decode_low hp hb]
        simp only
        by_cases hs : seenB (pk s p) = true
        · have hs' := hs
          unfold seenB at hs'
          rw [decide_eq_true_eq] at hs'
          rw [if_neg (by unfold badR; simp; omega), idx_seen s f (p + 1) (by omega)]
          constructor
          · intro h k h1 h2
            by_cases e : k = p
            · subst e; exact hs
            · exact h k (by omega) h2
          · exact fun h k h1 h2 => h k (by omega) h2
        · have hs' := hs
          unfold seenB at hs'
          rw [decide_eq_true_eq] at hs'
          rw [if_pos (by unfold badR; simp; omega)]
          exact ⟨fun e => by omega, fun h => absurd (h p (Nat.le_refl _) hp) hs⟩
      · have hd := decode_high hp hb
        rw [if_pos (by unfold badR; simp; omega)]
        refine ⟨fun e => by omega, fun h => ?_⟩
        have := h p (Nat.le_refl _) hp
        unfold seenB at this
        rw [decide_eq_true_eq] at this
        omega
    · rw [if_neg hp]
      exact ⟨fun _ k h1 h2 => by omega, fun _ => rfl⟩
theorem visible_iff (s : ByteArray) : (!decide (0 ≤ Lib.idxFunc badR true s)) = allSeen s 0 s.size := by
  rw [Bool.eq_iff_iff, allSeen_iff]
  have h := idx_seen s s.size 0 (by omega)
  have hr := Lib.idxFunc_range badR true s
  unfold Lib.idxFunc at hr ⊢
  simp only [Bool.not_eq_true', decide_eq_false_iff_not]
  rw [← h]
  omega
end Go.Proofs.Ytaokofnhkojllaa

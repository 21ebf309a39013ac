/- The reader's model over lists of bytes: digits, operators, enough fuel. -/
import Derived.Test.YtkomofphgnekoaaDoorDigits
set_option linter.unusedVariables false
set_option linter.unusedSimpArgs false
namespace Go.Proofs.YtkomofphgnekoaaDoor
open Go.Shelf Go.RowKit Go.Lib Go.Aids Go.MapLit

/-- Behind a place stands this list. -/
def At (s : ByteArray) (a : Nat) (l : List UInt8) : Prop := s.data.toList.drop a = l
theorem At.size {s : ByteArray} {a : Nat} {l : List UInt8} (h : At s a l) (hl : l ≠ []) : a + l.length = s.size := by
  have e : (s.data.toList.drop a).length = l.length := congrArg List.length h
  rw [List.length_drop] at e
  have : 0 < l.length := List.length_pos_iff.2 hl
  have : s.data.toList.length = s.size := by rw [Array.length_toList]; rfl
  omega
theorem At.next {s : ByteArray} {a : Nat} {x : UInt8} {l : List UInt8} (h : At s a (x :: l)) : At s (a + 1) l := by
  unfold At at h ⊢
  rw [← List.drop_drop, h]
  rfl
theorem At.add {s : ByteArray} {a : Nat} {p l : List UInt8} (h : At s a (p ++ l)) : At s (a + p.length) l := by
  unfold At at h ⊢
  rw [← List.drop_drop, h, List.drop_left]
theorem pk_at {s : ByteArray} {a : Nat} {x : UInt8} {l : List UInt8} (h : At s a (x :: l)) : pk s a = x.toNat := by
  have hs := h.size (by simp)
  rw [List.length_cons] at hs
  have ha : a < s.size := by omega
  unfold pk
  rw [dif_pos ha]
  have e : s.data.toList[a]? = some x := by
    have := congrArg List.head? h
    rw [List.head?_drop] at this
    exact this
  have ha' : a < s.data.toList.length := by rw [Array.length_toList]; exact ha
  rw [List.getElem?_eq_getElem ha'] at e
  injection e with e
  rw [← e]
  rfl
theorem pk_end {s : ByteArray} {a : Nat} (h : At s a []) : pk s a = 0 := by
  have : s.data.toList.length ≤ a := by
    have := congrArg List.length h
    rw [List.length_drop] at this
    simp at this ⊢
    omega
  unfold pk
  rw [dif_neg (by rw [Array.length_toList] at this; exact Nat.not_lt.2 this)]

/-- All are digits. -/
def Digs (D : List UInt8) : Prop := ∀ x ∈ D, 48 ≤ x.toNat ∧ x.toNat ≤ 57
def val (n : Nat) (D : List UInt8) : Nat := D.foldl (fun n d => n * 10 + (d.toNat - 48)) n
/-- No digit stands here. -/
def NoDig (s : ByteArray) (a : Nat) : Prop := ¬ isDig s a
theorem rowF_at (s : ByteArray) : ∀ (D : List UInt8) (k n a : Nat) (l : List UInt8), At s a (D ++ l) → D.length ≤ k → Digs D → (D.length < k → NoDig s (a + D.length)) → rowF s k n a = (val n D, a + D.length)
  | [], k, n, a, l, h, hk, hd, hn => by
    cases k with
    | zero => rfl
    | succ k =>
      unfold rowF
      exact if_neg (hn (Nat.succ_pos _))
  | x :: D, 0, n, a, l, h, hk, hd, hn => by simp at hk
  | x :: D, k + 1, n, a, l, h, hk, hd, hn => by
    have hp := pk_at (show At s a (x :: (D ++ l)) from h)
    have hx := hd x (by simp)
    unfold rowF
    rw [if_pos (show isDig s a by unfold isDig; rw [hp]; exact hx), hp]
    rw [List.length_cons] at hk hn
    rw [rowF_at s D k _ (a + 1) l (At.next h) (by omega) (fun y hy => hd y (by simp [hy])) (fun hh => by rw [Nat.add_assoc, Nat.add_comm 1]; exact hn (by omega))]
    simp only [val, List.foldl_cons, List.length_cons]
    rw [Nat.add_assoc, Nat.add_comm 1]

/-- A number's digits, as a list. -/
def dl (n : Nat) : List UInt8 := (digs n).data.toList
theorem list_append (x y : ByteArray) : (x ++ y).data.toList = x.data.toList ++ y.data.toList := by rw [ByteArray.data_append, Array.toList_append]
theorem dl_low (n : Nat) (h : n < 10) : dl n = [UInt8.ofNat (48 + n)] := by rw [dl, digs, dif_pos h]; rfl
theorem dl_high (n : Nat) (h : ¬ n < 10) : dl n = dl (n / 10) ++ [UInt8.ofNat (48 + n % 10)] := by
  rw [dl, digs, dif_neg h, list_append]; rfl
theorem u8_dig (n : Nat) (h : n < 10) : (UInt8.ofNat (48 + n)).toNat = 48 + n := by
  rw [UInt8.toNat_ofNat']; omega
theorem dl_facts : ∀ k n, n ≤ k → Digs (dl n) ∧ val 0 (dl n) = n ∧ 0 < (dl n).length
  | k, n, hk => by
    by_cases h : n < 10
    · rw [dl_low n h]
      refine ⟨?_, ?_, by simp⟩
      · intro x hx
        simp only [List.mem_singleton] at hx
        subst hx
        rw [u8_dig n h]; omega
      · simp only [val, List.foldl_cons, List.foldl_nil]
        rw [u8_dig n h]; omega
    · match k with
      | 0 => omega
      | k + 1 =>
        obtain ⟨h1, h2, h3⟩ := dl_facts k (n / 10) (by omega)
        rw [dl_high n h]
        refine ⟨?_, ?_, by simp⟩
        · intro x hx
          rcases List.mem_append.1 hx with hx | hx
          · exact h1 x hx
          · simp only [List.mem_singleton] at hx
            subst hx
            rw [u8_dig _ (Nat.mod_lt _ (by decide))]
            have := Nat.mod_lt n (show 0 < 10 by decide)
            omega
        · unfold val at h2 ⊢
          rw [List.foldl_append, h2]
          simp only [List.foldl_cons, List.foldl_nil]
          rw [u8_dig _ (Nat.mod_lt _ (by decide))]
          omega
theorem dl_digs (n : Nat) : Digs (dl n) := (dl_facts n n (Nat.le_refl _)).1
theorem dl_val (n : Nat) : val 0 (dl n) = n := (dl_facts n n (Nat.le_refl _)).2.1
theorem dl_pos (n : Nat) : 0 < (dl n).length := (dl_facts n n (Nat.le_refl _)).2.2
theorem dl_len : ∀ k n, 0 < k → n < 10 ^ k → (dl n).length ≤ k
  | 0, n, h, _ => absurd h (by decide)
  | k + 1, n, _, hn => by
    by_cases h : n < 10
    · rw [dl_low n h]; simp
    · rw [dl_high n h, List.length_append]
      have hk : 0 < k := by
        rcases Nat.eq_zero_or_pos k with rfl | hk
        · simp at hn; omega
        · exact hk
      have := dl_len k (n / 10) hk (by rw [Nat.pow_succ] at hn; omega)
      simp only [List.length_singleton]
      omega
theorem dl_head (n : Nat) : ∃ x t, dl n = x :: t ∧ 48 ≤ x.toNat ∧ x.toNat ≤ 57 := by
  have h := dl_pos n
  have hd := dl_digs n
  rcases e : dl n with _ | ⟨x, t⟩
  · rw [e] at h; simp at h
  · rw [e] at hd; exact ⟨x, t, rfl, hd x (by simp)⟩

/-- The byte behind a number: no digit, no point, no scale. -/
def Stops (b : Nat) : Prop := ¬ (48 ≤ b ∧ b ≤ 57) ∧ b ≠ 46 ∧ b ≠ 117 ∧ b ≠ 112 ∧ b ≠ 80 ∧ b ≠ 105 ∧ b ≠ 99 ∧ b ≠ 109 ∧ b ≠ 110 ∧ b ≠ 118
instance (b : Nat) : Decidable (Stops b) := by unfold Stops; infer_instance
theorem number_at (c : Cx) (hsc : c.scale = 117) (n a : Nat) (l : List UInt8) (h : At c.s a (dl n ++ l)) (hn : n < 1000000000) (hs : Stops (pk c.s (a + (dl n).length))) :
    numberO c a = heldO c n (a + (dl n).length) := by
  have hr := rowF_at c.s (dl n) 9 0 a l h (dl_len 9 n (by decide) hn) (dl_digs n) (fun _ hd => hs.1 hd)
  rw [dl_val] at hr
  have hpos := dl_pos n
  unfold numberO
  simp only [hr]
  rw [if_neg hs.2.1]
  simp only [Nat.sub_self, if_pos]
  rw [if_neg (by omega)]
  have hu : unitOf c (pk c.s (a + (dl n).length)) = none := by
    obtain ⟨h0, h1, h2, h3, h4, h5, h6, h7, h8, h9⟩ := hs
    unfold unitOf
    rw [if_neg h2, if_neg h3, if_neg h4, if_neg h5, if_neg h6, if_neg h7, if_neg h8, if_neg h9]
  rw [hu, hsc]
  have h1 : unitOf c 117 = some 1 := rfl
  simp only [h1, Option.getD_some]
  congr 1
  simp

/-- More fuel answers alike. -/
theorem run_more (c : Cx) : ∀ f j o, run c f j = o → o ≠ .stuck → run c (f + 1) j = o
  | 0, j, o, h, ho => by cases j <;> exact absurd h.symm ho
  | f + 1, .oper a0 deep, o, h, ho => by
    have ih := run_more c f
    rw [run] at h ⊢
    split at h
    · rename_i hb
      simp only [hb, if_true]
      rcases hr : run c f (.oper (skip c.s deep a0 + 1) deep) with ⟨x, t⟩ | e | _
      · rw [hr] at h; rw [ih _ _ hr (by simp)]; exact h
      · rw [hr] at h; rw [ih _ _ hr (by simp)]; exact h
      · rw [hr] at h; exact absurd h.symm ho
    · rename_i hb
      simp only [hb, if_false]
      split at h
      · rename_i hb2
        simp only [hb2, if_true]
        split at h
        · rename_i hd
          rw [if_pos hd]; exact h
        · rename_i hd
          rw [if_neg hd]
          rcases hr : run c f (.expr (skip c.s deep a0 + 1) (deep + 1)) with ⟨x, t⟩ | e | _
          · rw [hr] at h; rw [ih _ _ hr (by simp)]; exact h
          · rw [hr] at h; rw [ih _ _ hr (by simp)]; exact h
          · rw [hr] at h; exact absurd h.symm ho
      · rename_i hb2
        simp only [hb2, if_false]
        exact h
  | f + 1, .expr a deep, o, h, ho => by
    have ih := run_more c f
    rw [run] at h ⊢
    rcases hr : run c f (.oper a deep) with ⟨x, t⟩ | e | _
    · rw [hr] at h; rw [ih _ _ hr (by simp)]; exact ih _ _ h ho
    · rw [hr] at h; rw [ih _ _ hr (by simp)]; exact h
    · rw [hr] at h; exact absurd h.symm ho
  | f + 1, .loop x a0 deep, o, h, ho => by
    have ih := run_more c f
    rw [run] at h ⊢
    rcases hop : operL c.s (skip c.s deep a0) with _ | op
    · simp only [hop] at h ⊢; exact h
    · simp only [hop] at h ⊢
      rcases hr : run c f (.oper (skip c.s deep a0 + op.size) deep) with ⟨y, t⟩ | e | _
      · rw [hr] at h
        rw [ih _ _ hr (by simp)]
        simp only at h ⊢
        rcases hz : reckonO c op x y t with ⟨z, t2⟩ | e | _
        · simp only [hz] at h ⊢; exact ih _ _ h ho
        · simp only [hz] at h ⊢; exact h
        · simp only [hz] at h ⊢; exact h
      · rw [hr] at h; rw [ih _ _ hr (by simp)]; exact h
      · rw [hr] at h; exact absurd h.symm ho
/-- A job's answer, at some fuel. -/
def Runs (c : Cx) (j : Job) (o : Out) : Prop := o ≠ .stuck ∧ ∃ f, run c f j = o
theorem run_add (c : Cx) (j : Job) (o : Out) (ho : o ≠ .stuck) (f : Nat) (h : run c f j = o) : ∀ k, run c (f + k) j = o
  | 0 => h
  | k + 1 => run_more c (f + k) j o (run_add c j o ho f h k) ho
theorem Runs.eq {c : Cx} {j : Job} {o : Out} (h : Runs c j o) (f : Nat) (hf : run c f j ≠ .stuck) : run c f j = o := by
  obtain ⟨ho, g, hg⟩ := h
  have h1 := run_add c j o ho g hg f
  have h2 := run_add c j _ hf f rfl g
  rw [Nat.add_comm g f, h2] at h1
  exact h1
theorem Runs.of {c : Cx} {j : Job} {f : Nat} {o : Out} (h : run c f j = o) (ho : o ≠ .stuck) : Runs c j o := ⟨ho, f, h⟩
theorem evalRun_eq {s : ByteArray} {scale : Nat} {size vs here : Int} {mute : Bool} {o : Out} (h : Runs ⟨s, scale, size, vs, here, 0, mute⟩ (.expr 0 0) o) : evalRun s scale size vs here mute = o :=
  h.eq _ (evalRun_stuck s scale size vs here mute)
/-- The steps. -/
theorem Runs.expr {c : Cx} {a deep t : Nat} {x : Int} {o : Out} (h : Runs c (.oper a deep) (.ok x t)) (k : Runs c (.loop x t deep) o) : Runs c (.expr a deep) o := by
  obtain ⟨h1, f, hf⟩ := h
  obtain ⟨h2, g, hg⟩ := k
  refine ⟨h2, f + g + 1, ?_⟩
  rw [run, run_add c _ _ h1 f hf g, Nat.add_comm f g]
  exact run_add c _ _ h2 g hg f
theorem Runs.loop_end {c : Cx} {x : Int} {a deep : Nat} (h : operL c.s (skip c.s deep a) = none) : Runs c (.loop x a deep) (.ok x (skip c.s deep a)) := by
  refine ⟨by simp, 1, ?_⟩
  rw [run, h]
theorem Runs.loop_step {c : Cx} {x y z : Int} {a deep t t2 : Nat} {op : ByteArray} {o : Out} (h : operL c.s (skip c.s deep a) = some op) (hy : Runs c (.oper (skip c.s deep a + op.size) deep) (.ok y t)) (hz : reckonO c op x y t = .ok z t2)
    (k : Runs c (.loop z t2 deep) o) : Runs c (.loop x a deep) o := by
  obtain ⟨h1, f, hf⟩ := hy
  obtain ⟨h2, g, hg⟩ := k
  refine ⟨h2, f + g + 1, ?_⟩
  rw [run, h]
  simp only
  rw [run_add c _ _ h1 f hf g]
  simp only [hz]
  rw [Nat.add_comm f g]
  exact run_add c _ _ h2 g hg f
theorem Runs.loop_die {c : Cx} {x y e : Int} {a deep t : Nat} {op : ByteArray} (h : operL c.s (skip c.s deep a) = some op) (hy : Runs c (.oper (skip c.s deep a + op.size) deep) (.ok y t)) (hz : reckonO c op x y t = .die e) : Runs c (.loop x a deep) (.die e) := by
  obtain ⟨h1, f, hf⟩ := hy
  refine ⟨by simp, f + 1, ?_⟩
  rw [run, h]
  simp only
  rw [hf]
  simp only [hz]
theorem Runs.expr_die {c : Cx} {a deep : Nat} {e : Int} (h : Runs c (.oper a deep) (.die e)) : Runs c (.expr a deep) (.die e) := by
  obtain ⟨h1, f, hf⟩ := h
  refine ⟨by simp, f + 1, ?_⟩
  rw [run, hf]
theorem Runs.paren {c : Cx} {a deep t : Nat} {x : Int} (hb : pk c.s (skip c.s deep a) = 40) (hd : deep ≠ 20) (h : Runs c (.expr (skip c.s deep a + 1) (deep + 1)) (.ok x t)) (ht : pk c.s t = 41) : Runs c (.oper a deep) (.ok x (t + 1)) := by
  obtain ⟨h1, f, hf⟩ := h
  refine ⟨by simp, f + 1, ?_⟩
  rw [run]
  simp only [hb]
  rw [if_neg (by decide), if_pos trivial, if_neg hd, hf]
  simp only
  rw [if_pos ht]
theorem Runs.paren_die {c : Cx} {a deep : Nat} {e : Int} (hb : pk c.s (skip c.s deep a) = 40) (hd : deep ≠ 20) (h : Runs c (.expr (skip c.s deep a + 1) (deep + 1)) (.die e)) : Runs c (.oper a deep) (.die e) := by
  obtain ⟨h1, f, hf⟩ := h
  refine ⟨by simp, f + 1, ?_⟩
  rw [run]
  simp only [hb]
  rw [if_neg (by decide), if_pos trivial, if_neg hd, hf]
theorem Runs.number {c : Cx} {a deep : Nat} {o : Out} (hb : 46 < pk c.s (skip c.s deep a)) (hb2 : pk c.s (skip c.s deep a) < 124) (h : numberO c (skip c.s deep a) = o) (ho : o ≠ .stuck) : Runs c (.oper a deep) o := by
  refine ⟨ho, 1, ?_⟩
  rw [run]
  rw [if_neg (by omega), if_neg (by omega), h]
theorem skip_zero (s : ByteArray) (a : Nat) : skip s 0 a = a := rfl
theorem skip_stay (s : ByteArray) (deep a : Nat) (h : pk s a ≠ 32) : skip s deep a = a := by
  unfold skip
  split
  · cases s.size - a with
    | zero => rfl
    | succ k => unfold skipF; rw [if_neg h]
  · rfl
/-- A number is an operand. -/
theorem Runs.digs {c : Cx} (hsc : c.scale = 117) {n a deep : Nat} {l : List UInt8} (h : At c.s a (dl n ++ l)) (hn : n < 1000000000) (hs : Stops (pk c.s (a + (dl n).length))) (hm : c.mute = false) : Runs c (.oper a deep) (.ok n (a + (dl n).length)) := by
  obtain ⟨x, t, e, h1, h2⟩ := dl_head n
  have hp : pk c.s a = x.toNat := pk_at (l := t ++ l) (by rw [e] at h; exact h)
  have hsk := skip_stay c.s deep a (by omega)
  refine Runs.number (by rw [hsk]; omega) (by rw [hsk]; omega) ?_ (by simp)
  rw [hsk, number_at c hsc n a l h hn hs]
  unfold heldO
  rw [hm, if_neg (by decide), if_neg (by unfold big; omega)]
theorem Runs.digs_mute {c : Cx} (hsc : c.scale = 117) {n a deep : Nat} {l : List UInt8} (h : At c.s a (dl n ++ l)) (hn : n < 1000000000) (hs : Stops (pk c.s (a + (dl n).length))) (hm : c.mute = true) : Runs c (.oper a deep) (.ok 0 (a + (dl n).length)) := by
  obtain ⟨x, t, e, h1, h2⟩ := dl_head n
  have hp : pk c.s a = x.toNat := pk_at (l := t ++ l) (by rw [e] at h; exact h)
  have hsk := skip_stay c.s deep a (by omega)
  refine Runs.number (by rw [hsk]; omega) (by rw [hsk]; omega) ?_ (by simp)
  rw [hsk, number_at c hsc n a l h hn hs]
  unfold heldO
  rw [hm, if_pos rfl]
end Go.Proofs.YtkomofphgnekoaaDoor

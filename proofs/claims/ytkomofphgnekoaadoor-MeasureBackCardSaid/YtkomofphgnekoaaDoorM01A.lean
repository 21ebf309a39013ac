/- What Text writes; what is written in units and points is read as the number again. -/
import Derived.Test.YtkomofphgnekoaaDoorPureB
set_option linter.unusedVariables false
set_option linter.unusedSimpArgs false
namespace Go.Proofs.YtkomofphgnekoaaDoor

theorem pre_at {s : ByteArray} {a : Nat} {l : List UInt8} (h : At s a l) (p : ByteArray) : pre s p a = p.data.toList.isPrefixOf l := by
  unfold pre
  rw [h]
  rfl
theorem oper_end {s : ByteArray} {a : Nat} (h : At s a []) : operL s a = none := by
  unfold operL ops
  simp [List.find?_cons, pre_at h, List.isPrefixOf]
theorem At.start (s : ByteArray) : At s 0 s.data.toList := rfl
/-- A unit's size. -/
def unitN (b : Nat) : Nat := if b = 117 then 1 else if b = 112 then 10 else if b = 80 then 120 else 720
theorem unitN_pos (b : Nat) : 1 ≤ unitN b ∧ unitN b ≤ 720 := by unfold unitN; split <;> (try split) <;> (try split) <;> omega
def partL (r : Nat) : List UInt8 := [UInt8.ofNat (48 + r / 1000), UInt8.ofNat (48 + r / 100 % 10), UInt8.ofNat (48 + r / 10 % 10), UInt8.ofNat (48 + r % 10)]
def trimR (l : List UInt8) : List UInt8 := (l.reverse.dropWhile (· == 48)).reverse
def partO (r : Nat) : List UInt8 := trimR (partL r)
def restN (n b : Nat) : Nat := n % unitN b * 10000 / unitN b
def dotL (p : List UInt8) : List UInt8 := if p = [] then [] else 46 :: p
def textT (n b : Nat) : ByteArray := digs (n / unitN b) ++ ⟨(dotL (partO (restN n b))).toArray⟩ ++ ⟨#[UInt8.ofNat b]⟩
theorem text_list (n b : Nat) : (textT n b).data.toList = dl (n / unitN b) ++ (dotL (partO (restN n b)) ++ [UInt8.ofNat b]) := by
  unfold textT dl
  rw [list_append, list_append, List.append_assoc]
theorem part_point : ∀ d : Fin 10, partO (d.1 * 1000) = if d.1 = 0 then [] else [UInt8.ofNat (48 + d.1)] := by decide
theorem rest_u (n : Nat) : restN n 117 = 0 := by unfold restN; rw [show unitN 117 = 1 from rfl, Nat.mod_one, Nat.zero_mul, Nat.zero_div]
theorem rest_p (n : Nat) : restN n 112 = n % 10 * 1000 := by unfold restN; rw [show unitN 112 = 10 from rfl]; omega
theorem stop_end (c : Cx) (n t : Nat) (h0 : t = c.s.size) (hd : At c.s t []) (R : Runs c (.oper 0 0) (.ok n t)) : Runs c (.expr 0 0) (.ok n c.s.size) := by
  refine Runs.expr R ?_
  have := Runs.loop_end (c := c) (x := n) (a := t) (deep := 0) (oper_end (by rw [skip_zero]; exact hd))
  rw [skip_zero, h0] at this
  rw [h0]
  exact this
theorem oper_num {c : Cx} {n a t : Nat} {x : Int} {l : List UInt8} (h : At c.s a (dl n ++ l)) (hm : c.mute = false) (hx : ¬ big x) (hn : numberO c a = heldO c x t) : Runs c (.oper a 0) (.ok x t) := by
  obtain ⟨y, tl, e, h1, h2⟩ := dl_head n
  have hp : pk c.s a = y.toNat := pk_at (l := tl ++ l) (by rw [e] at h; exact h)
  refine Runs.number (by rw [skip_zero]; omega) (by rw [skip_zero]; omega) ?_ (by simp)
  rw [skip_zero, hn]
  unfold heldO
  rw [hm, if_neg (by decide), if_neg hx]
/-- Digits and a letter. -/
theorem number_letter (c : Cx) (n : Nat) (b : UInt8) (u : Int) (h : At c.s 0 (dl n ++ [b])) (hn : n < 1000000000) (hb : ¬ (48 ≤ b.toNat ∧ b.toNat ≤ 57)) (h46 : b.toNat ≠ 46) (hu : unitOf c b.toNat = some u) :
    numberO c 0 = heldO c ((n : Int) * u) ((dl n).length + 1) := by
  have hp : pk c.s (0 + (dl n).length) = b.toNat := pk_at h.add
  have hr := rowF_at c.s (dl n) 9 0 0 [b] h (dl_len 9 n (by decide) hn) (dl_digs n) (fun _ hd => hb (by rw [← hp]; exact hd))
  rw [dl_val] at hr
  have hpos := dl_pos n
  unfold numberO
  simp only [hr]
  rw [hp, if_neg h46]
  simp only [Nat.sub_self, if_pos]
  rw [if_neg (by omega), hp, hu]
  simp only
  rw [Nat.zero_add]
  congr 1
  simp
/-- Digits, a point, one digit and a letter. -/
theorem number_point (c : Cx) (n d : Nat) (b : UInt8) (u : Int) (h : At c.s 0 (dl n ++ (46 :: ([UInt8.ofNat (48 + d)] ++ [b])))) (hn : n < 1000000000) (hd : d < 10) (hb : ¬ (48 ≤ b.toNat ∧ b.toNat ≤ 57)) (hu : unitOf c b.toNat = some u) :
    numberO c 0 = heldO c ((n : Int) * u + ((d : Int) * u).tdiv 10) ((dl n).length + 3) := by
  have h1 := h.add
  have hp : pk c.s (0 + (dl n).length) = 46 := pk_at h1
  have hr := rowF_at c.s (dl n) 9 0 0 _ h (dl_len 9 n (by decide) hn) (dl_digs n) (fun _ hq => by unfold isDig at hq; rw [hp] at hq; omega)
  rw [dl_val] at hr
  have h2 := h1.next
  have h3 := h2.add
  have hp2 : pk c.s (0 + (dl n).length + 1 + [UInt8.ofNat (48 + d)].length) = b.toNat := pk_at h3
  have hr2 := rowF_at c.s [UInt8.ofNat (48 + d)] 9 0 (0 + (dl n).length + 1) [b] h2 (by simp) (fun x hx => by
    rw [List.mem_singleton] at hx
    rw [hx, u8_dig d hd]; omega) (fun _ hq => hb (by rw [← hp2]; exact hq))
  have hv : val 0 [UInt8.ofNat (48 + d)] = d := by
    show 0 * 10 + ((UInt8.ofNat (48 + d)).toNat - 48) = d
    rw [u8_dig d hd]; omega
  rw [hv] at hr2
  have hpos := dl_pos n
  unfold numberO
  simp only [hr]
  rw [hp, if_pos rfl]
  simp only [hr2]
  have e1 : 0 + (dl n).length + 1 + [UInt8.ofNat (48 + d)].length - (0 + (dl n).length + 1) = 1 := by simp
  rw [e1]
  rw [if_neg (show ¬ (0 + (dl n).length = 0 ∧ (1 : Nat) = 0) from fun q => absurd q.2 (by decide)), if_neg (show ¬ (1 : Nat) = 0 by decide), hp2, hu]
  simp only
  congr 1
  simp only [List.length_singleton]
  omega
theorem back_text (k b : Nat) (hk : k < 1000000000) (hb : b = 117 ∨ b = 112) (size vs : Int) (hok : okB 118 size vs 0 = true) : evalO (textT k b) 118 size vs 0 = ((k : Int), 0) := by
  have hl := text_list k b
  have h0 : At (textT k b) 0 (textT k b).data.toList := At.start _
  have hsz : (textT k b).data.toList.length = (textT k b).size := by rw [Array.length_toList]; rfl
  rw [hl] at h0 hsz
  generalize textT k b = s at *
  unfold evalO
  rw [hok]
  simp only [if_true]
  have hbig : ¬ big (k : Int) := by unfold big; omega
  have R : Runs ⟨s, 118, size, vs, 0, 0, false⟩ (.expr 0 0) (.ok k s.size) := by
    rcases hb with rfl | rfl
    · rw [rest_u, show dotL (partO 0) = [] by decide, List.nil_append, show unitN 117 = 1 from rfl, Nat.div_one] at h0 hsz
      have hn := number_letter ⟨s, 118, size, vs, 0, 0, false⟩ k 117 1 h0 hk (by decide) (by decide) rfl
      rw [Int.mul_one] at hn
      rw [List.length_append, List.length_singleton] at hsz
      have he : At s ((dl k).length + 1) [] := by have := h0.add.next; rw [Nat.zero_add] at this; exact this
      exact stop_end ⟨s, 118, size, vs, 0, 0, false⟩ k _ hsz he (oper_num (c := ⟨s, 118, size, vs, 0, 0, false⟩) h0 rfl hbig hn)
    · rw [rest_p, show unitN 112 = 10 from rfl] at h0 hsz
      have hpt := part_point ⟨k % 10, Nat.mod_lt _ (by decide)⟩
      simp only at hpt
      rw [hpt] at h0 hsz
      by_cases hz : k % 10 = 0
      · rw [if_pos hz, show dotL [] = [] from rfl, List.nil_append] at h0 hsz
        have hn := number_letter ⟨s, 118, size, vs, 0, 0, false⟩ (k / 10) 112 10 h0 (by omega) (by decide) (by decide) rfl
        rw [show ((k / 10 : Nat) : Int) * 10 = k by omega] at hn
        rw [List.length_append, List.length_singleton] at hsz
        have he : At s ((dl (k / 10)).length + 1) [] := by have := h0.add.next; rw [Nat.zero_add] at this; exact this
        exact stop_end ⟨s, 118, size, vs, 0, 0, false⟩ k _ hsz he (oper_num (c := ⟨s, 118, size, vs, 0, 0, false⟩) h0 rfl hbig hn)
      · rw [if_neg hz, show dotL [UInt8.ofNat (48 + k % 10)] = 46 :: [UInt8.ofNat (48 + k % 10)] from rfl, List.cons_append] at h0 hsz
        have hn := number_point ⟨s, 118, size, vs, 0, 0, false⟩ (k / 10) (k % 10) 112 10 h0 (by omega) (by omega) (by decide) rfl
        rw [Int.tdiv_eq_ediv_of_nonneg (by omega), show ((k / 10 : Nat) : Int) * 10 + ((k % 10 : Nat) : Int) * 10 / 10 = k by omega] at hn
        simp only [List.length_append, List.length_cons, List.length_nil] at hsz
        have he : At s ((dl (k / 10)).length + 3) [] := by have := h0.add.next.add.next; simp only [Nat.zero_add, List.length_singleton] at this; exact this
        exact stop_end ⟨s, 118, size, vs, 0, 0, false⟩ k _ (by omega) he (oper_num (c := ⟨s, 118, size, vs, 0, 0, false⟩) h0 rfl hbig hn)
  rw [evalRun_eq R]
  simp [wholeN]
end Go.Proofs.YtkomofphgnekoaaDoor

/- The strings of labels of chapter 21, in plain Lean: what a map of the labels writes is what the reference's two loops write. -/
import Derived.Test.YtnmlpeblbppjbaaMapPut
set_option linter.unusedVariables false
set_option linter.unusedSimpArgs false
namespace Go.Proofs.Ytnmlpeblbppjbaa
open Go.MapLit

abbrev Lab := ByteArray × ByteArray
def lineS (n v : ByteArray) : ByteArray := (((⟨#[46, 100, 115, 32, 114, 58]⟩ : ByteArray) ++ n) ++ (⟨#[32]⟩ : ByteArray) ++ v) ++ (⟨#[10]⟩ : ByteArray)
def joinS (l : List ByteArray) : ByteArray := l.foldl (· ++ ·) ByteArray.empty
theorem joinS_snoc (l : List ByteArray) (x : ByteArray) : joinS (l ++ [x]) = joinS l ++ x := by simp [joinS]
def mapM (L : List Lab) : List Lab := L.foldl (fun m x => upd m x.1 x.2) []
theorem mapM_snoc (L : List Lab) (x : Lab) : mapM (L ++ [x]) = upd (mapM L) x.1 x.2 := by simp [mapM]
/-- The last value of a name. -/
def lastO (L : List Lab) (n : ByteArray) : Option ByteArray := L.foldl (fun a p => if n = p.1 then some p.2 else a) none
theorem lastO_snoc (L : List Lab) (x : Lab) (n : ByteArray) : lastO (L ++ [x]) n = if n = x.1 then some x.2 else lastO L n := by simp [lastO]
theorem snoc_ind {α : Type} {p : List α → Prop} (h0 : p []) (h1 : ∀ l x, p l → p (l ++ [x])) (l : List α) : p l := by
  have : ∀ m : List α, p m.reverse := by
    intro m
    induction m with
    | nil => exact h0
    | cons x m ih => rw [List.reverse_cons]; exact h1 _ _ ih
  have h := this l.reverse
  rwa [List.reverse_reverse] at h
theorem find_mapM (L : List Lab) (n : ByteArray) : find (mapM L) n = lastO L n := by
  refine snoc_ind (p := fun L => find (mapM L) n = lastO L n) rfl (fun L x ih => ?_) L
  rw [mapM_snoc, find_upd, lastO_snoc, ih]
theorem find_keys {α β : Type} [DecidableEq α] (k : α) : ∀ l : List (α × β), find l k = none ↔ k ∉ l.map (·.1)
  | [] => by simp [find]
  | p :: l => by
    rw [find_cons]
    by_cases e : k = p.1
    · rw [if_pos e]; simp [e]
    · rw [if_neg e, find_keys k l]; simp [e]
theorem keys_nodup (L : List Lab) : ((mapM L).map (·.1)).Nodup := by
  refine snoc_ind (p := fun L => ((mapM L).map (·.1)).Nodup) (by simp [mapM]) (fun L x ih => ?_) L
  rw [mapM_snoc, keys_upd]
  split
  · rename_i h
    have := (find_keys x.1 (mapM L)).1 h
    rw [List.nodup_append]
    refine ⟨ih, by simp, ?_⟩
    intro a ha b hb e
    subst e
    rw [List.mem_singleton] at hb
    subst hb
    exact this ha
  · exact ih
theorem by_keys {α β : Type} [DecidableEq α] (d : β) : ∀ l : List (α × β), (l.map (·.1)).Nodup → l = (l.map (·.1)).map fun k => (k, (find l k).getD d)
  | [], _ => rfl
  | p :: l, h => by
    rw [List.map_cons, List.nodup_cons] at h
    rw [List.map_cons, List.map_cons, find_cons, if_pos rfl]
    have ih := by_keys d l h.2
    congr 1
    conv => lhs; rw [ih]
    apply List.map_congr_left
    intro k hk
    rw [find_cons, if_neg (fun e => h.1 (by rw [← e]; exact hk))]
/-- What the program writes. -/
def textP (L : List Lab) : ByteArray := joinS ((mapM L).map fun p => lineS p.1 p.2)
/-- What the reference has written behind the first labels. -/
def textR (L : List Lab) (i : Nat) : ByteArray := joinS (((mapM (L.take i)).map (·.1)).map fun n => lineS n ((lastO L n).getD ByteArray.empty))
theorem textR_all (L : List Lab) : textR L L.length = textP L := by
  unfold textR textP
  rw [List.take_length]
  conv => rhs; rw [by_keys ByteArray.empty (mapM L) (keys_nodup L)]
  rw [List.map_map (l := (mapM L).map (·.1))]
  congr 1
  apply List.map_congr_left
  intro n _
  show _ = lineS n ((find (mapM L) n).getD ByteArray.empty)
  rw [find_mapM]
theorem textR_zero (L : List Lab) : textR L 0 = ByteArray.empty := rfl
/-- No label before this one has its name. -/
def firstB (L : List Lab) (i : Nat) (n : ByteArray) : Bool := (L.take i).all fun p => !decide (p.1 = n)
theorem lastO_none (L : List Lab) (n : ByteArray) : lastO L n = none ↔ ∀ p ∈ L, p.1 ≠ n := by
  refine snoc_ind (p := fun L => lastO L n = none ↔ ∀ p ∈ L, p.1 ≠ n) (by simp [lastO]) (fun L x ih => ?_) L
  rw [lastO_snoc]
  by_cases e : n = x.1
  · rw [if_pos e]
    constructor
    · intro h; cases h
    · intro h; exact absurd e.symm (h x (by simp))
  · rw [if_neg e, ih]
    constructor
    · intro h p hp
      rw [List.mem_append, List.mem_singleton] at hp
      rcases hp with hp | rfl
      · exact h p hp
      · exact fun q => e q.symm
    · exact fun h p hp => h p (by simp [hp])
theorem textR_step (L : List Lab) (i : Nat) (hi : i < L.length) : textR L (i + 1) = if firstB L i L[i].1 = true then textR L i ++ lineS L[i].1 ((lastO L L[i].1).getD ByteArray.empty) else textR L i := by
  have ht : L.take (i + 1) = L.take i ++ [L[i]] := by rw [List.take_add_one, List.getElem?_eq_getElem hi]; rfl
  unfold textR
  rw [ht, mapM_snoc, keys_upd, find_mapM]
  by_cases hf : firstB L i L[i].1 = true
  · have hn : lastO (L.take i) L[i].1 = none := (lastO_none _ _).2 fun p hp => by
      unfold firstB at hf
      rw [List.all_eq_true] at hf
      have := hf p hp
      simpa using this
    rw [if_pos hn, if_pos hf, List.map_append, List.map_singleton, joinS_snoc]
  · have hn : lastO (L.take i) L[i].1 ≠ none := fun h => hf (by
      unfold firstB
      rw [List.all_eq_true]
      intro p hp
      simpa using (lastO_none _ _).1 h p hp)
    rw [if_neg hn, if_neg hf]
end Go.Proofs.Ytnmlpeblbppjbaa

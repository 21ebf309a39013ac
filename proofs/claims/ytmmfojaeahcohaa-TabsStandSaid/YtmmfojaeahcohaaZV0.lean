/- Merged: T12N, T12O, T12P, T12R, T12S, T12Q, T12T, T12WA, T12U, T12WB, T12V. -/
import Derived.Test.YtmmfojaeahcohaaT12M
import Derived.Lib.SliceRun
import Derived.Test.YtmmfojaeahcohaaSplitA
import Derived.Test.YtmmfojaeahcohaaSplitB
import Derived.Test.YtmmfojaeahcohaaPTabsMadex9
import Derived.Deep.RegionHeld3
import Derived.Test.YtmmfojaeahcohaaOpens
set_option linter.unusedVariables false
set_option linter.unusedSimpArgs false
namespace Go.Proofs.Ytmmfojaeahcohaa
open Go.Shelf Go.RowKit Go.Lib Go.Aids Go.Opens Go.Proofs.YtmmfojaeahcohaaW.PrintWords Go.Proofs.Ytmmfojaeahcohaa.PTabsMade

/-- What tabs.Set asks. -/
def okSet (C : List (List S28)) (M : List Int) (L : List S68) (ev : Int) (t l : S28) : Bool :=
  tvalidB L ev && (!(C.any fun c => c.any fun x => !validS x) && (!([t, l].any fillB) && (!(M.any markB) && decide ((M.length : Int) = max ((C.length : Int) - 1) 0))))
theorem two_C (W : World) (B : Nat) (hB : B = W.heap.size) (t l : S28) (At Al : Option Addr) (ct cl : Nat) (ht : k28.K W t (boxC t At ct)) (hl : k28.K W l (boxC l Al cl)) :
    Kd.C k28 (W.alloc (.cells (boxC t At ct ++ boxC l Al cl).toArray 28)) (some ⟨B, 0, none⟩) [t, l].length [t, l] := by
  subst hB
  refine ⟨rfl, by simp, fun _ => ⟨_, rfl, fun j p hj => ?_⟩⟩
  have hb := (Below.refl W.heap.size W).alloc (Nat.le_refl _) (.cells (boxC t At ct ++ boxC l Al cl).toArray 28)
  have ead : ∀ q, ((⟨W.heap.size, 0, none⟩ : Addr).add q) = ⟨W.heap.size, q, none⟩ := fun q => by
    simp [Addr.add]
    intro h; omega
  match j, hj with
  | 0, hj =>
    injection hj with hj
    subst hj
    refine ⟨boxC t At ct, rfl, k28.K_below hb ht, fun i u hi => ?_⟩
    rw [ead, World.cell?_alloc_at _ _ _ _ rfl, show k28.sz = 7 from rfl]
    have hil := (List.getElem?_eq_some_iff.1 hi).1
    rw [List.getElem?_toArray, List.getElem?_append_left (by omega)]
    simpa using hi
  | 1, hj =>
    injection hj with hj
    subst hj
    refine ⟨boxC l Al cl, rfl, k28.K_below hb hl, fun i u hi => ?_⟩
    rw [ead, World.cell?_alloc_at _ _ _ _ rfl, show k28.sz = 7 from rfl]
    rw [List.getElem?_toArray, List.getElem?_append_right (by show 7 ≤ 1 * 7 + i; omega)]
    have : 1 * 7 + i - (boxC t At ct).length = i := by show 1 * 7 + i - 7 = i; omega
    rw [this]
    exact hi
  | j + 2, hj => simp at hj
theorem box_K (w : World) (x : S28) (A : Option Addr) (c : Nat) (hc : x.f6.length ≤ c) (h : kI.C w A x.f6.length x.f6) : k28.K w x (boxC x A c) := k28_mk w x hc h
/-- What stands behind the making of Set's variables. -/
structure Pre (w W : World) (g : Nat) (As : Option Addr) (ns cs : Nat) (ev : Int) (t l : S28) : Prop where
  below : Below w.heap.size w W
  s0 : W.cell? ⟨g, 0, none⟩ = some (.slice As ns cs)
  s1 : W.cell? ⟨g, 1, none⟩ = some (.int .i64 ev)
  bad : BadAt W (g + 3)
  fills : Kd.C k28 W (some ⟨g + 4, 0, none⟩) [t, l].length [t, l]
  top : W.heap.size = g + 5
  gw : w.heap.size = g
set_option maxRecDepth 100000 in
set_option maxHeartbeats 4000000 in
theorem pre_made (w : World) (g : Nat) (hg : w.heap.size = g) (As : Option Addr) (ns cs : Nat) (ev : Int) (t l : S28) (At Al : Option Addr) (ct cl : Nat) (htc : t.f6.length ≤ ct) (hlc : l.f6.length ≤ cl) (ht : kI.C w At t.f6.length t.f6) (hl : kI.C w Al l.f6.length l.f6) :
    Pre w (((((w.alloc (.cells #[.slice As ns cs, .int .i64 ev] 26)).alloc (.cells (boxC t At ct).toArray 28)).alloc (.cells (boxC l Al cl).toArray 28)).alloc (.cells #[.func (.func 23) #[] #[]] 69)).alloc (.cells (boxC t At ct ++ boxC l Al cl).toArray 28)) g As ns cs ev t l := by
  subst hg
  have hb : Below w.heap.size w ((((w.alloc (.cells #[.slice As ns cs, .int .i64 ev] 26)).alloc (.cells (boxC t At ct).toArray 28)).alloc (.cells (boxC l Al cl).toArray 28)).alloc (.cells #[.func (.func 23) #[] #[]] 69)) :=
    ((((Below.refl _ _).alloc (Nat.le_refl _) _).alloc (by simp) _).alloc (by simp; omega) _).alloc (by simp; omega) _
  have p4 : ∀ (w : World) (o1 o2 o3 o4 : Obj) (n i : Nat), n < w.heap.size → ((((w.alloc o1).alloc o2).alloc o3).alloc o4).cell? ⟨n, i, none⟩ = w.cell? ⟨n, i, none⟩ := fun w o1 o2 o3 o4 n i h => by
    rw [World.cell?_alloc_past _ _ _ (by simp; omega), World.cell?_alloc_past _ _ _ (by simp; omega), World.cell?_alloc_past _ _ _ (by simp; omega), World.cell?_alloc_past _ _ _ h]
  refine ⟨hb.alloc (by simp; omega) _, ?_, ?_, ⟨?_, ?_⟩, ?_, ?_, rfl⟩
  · rw [p4 _ _ _ _ _ _ _ (by simp), World.cell?_alloc_at _ _ _ _ rfl]; rfl
  · rw [p4 _ _ _ _ _ _ _ (by simp), World.cell?_alloc_at _ _ _ _ rfl]; rfl
  · rw [World.cell?_alloc_past _ _ _ (by simp), World.cell?_alloc_at _ _ _ _ (by simp)]; rfl
  · simp
  · exact two_C _ _ (by simp) t l At Al ct cl (box_K _ t At ct htc (Kd.C_below ht hb)) (box_K _ l Al cl hlc (Kd.C_below hl hb))
  · simp
end Go.Proofs.Ytmmfojaeahcohaa

set_option linter.unusedVariables false
set_option linter.unusedSimpArgs false
namespace Go.Proofs.Ytmmfojaeahcohaa
open Go.Shelf Go.RowKit Go.Lib Go.Aids Go.Opens Go.Proofs.YtmmfojaeahcohaaW.PrintWords Go.Proofs.Ytmmfojaeahcohaa.PTabsMade

/-- What comes in. -/
structure SetIn (w : World) (C : List (List S28)) (M : List Int) (L : List S68) (ev : Int) (t l : S28) (Ac Am As At Al : Option Addr) (cc cm cs ct cl : Nat) : Prop where
  c : Kd.C (Kd.slice 28 k28) w Ac C.length C
  cn : C.length ≤ cc
  cl63 : ∀ y ∈ C, ∀ x ∈ y, x.f6.length ≤ 9223372036854775807
  m : kI.C w Am M.length M
  mn : M.length ≤ cm
  s : Kd.C k68 w As L.length L
  sn : L.length ≤ cs
  sb : ∀ x ∈ L, 0 ≤ x.f1 ∧ x.f1 < 256
  tk : kI.C w At t.f6.length t.f6
  tn : t.f6.length ≤ ct
  lk : kI.C w Al l.f6.length l.f6
  ln : l.f6.length ≤ cl
theorem SetIn.below {w w1 : World} {C : List (List S28)} {M : List Int} {L : List S68} {ev : Int} {t l : S28} {Ac Am As At Al : Option Addr} {cc cm cs ct cl : Nat} (h : SetIn w C M L ev t l Ac Am As At Al cc cm cs ct cl) (hb : Below w.heap.size w w1) : SetIn w1 C M L ev t l Ac Am As At Al cc cm cs ct cl :=
  ⟨Kd.C_below h.c hb, h.cn, h.cl63, Kd.C_below h.m hb, h.mn, Kd.C_below h.s hb, h.sn, h.sb, Kd.C_below h.tk hb, h.tn, Kd.C_below h.lk hb, h.ln⟩
theorem Pre.step {w W W1 : World} {g : Nat} {As : Option Addr} {ns cs : Nat} {ev : Int} {t l : S28} (h : Pre w W g As ns cs ev t l) (hb : Below W.heap.size W W1) :
    Below w.heap.size w W1 ∧ W1.cell? ⟨g, 0, none⟩ = some (.slice As ns cs) ∧ W1.cell? ⟨g, 1, none⟩ = some (.int .i64 ev) ∧ BadAt W1 (g + 3) ∧ Kd.C k28 W1 (some ⟨g + 4, 0, none⟩) [t, l].length [t, l] ∧ g < W1.heap.size := by
  have ht := h.top
  have hg := h.gw
  have hs := hb.size
  exact ⟨h.below.trans (hb.mono (by omega)), (hb.cell (p := ⟨g, 0, none⟩) (by show g < _; omega)).trans h.s0, (hb.cell (p := ⟨g, 1, none⟩) (by show g < _; omega)).trans h.s1, h.bad.below hb, Kd.C_below h.fills hb, by omega⟩
theorem store_new (W : World) (B : Nat) (hB : B = W.heap.size) (u v : Value) (t : TypeId) (h1 : v.oneCell' = true) : (store ⟨B, 0, none⟩ v).run Try.prog (W.alloc (.cells #[u] t)) = .ok () (W.alloc (.cells #[v] t)) := by
  subst hB
  rw [run_store Try.prog (W.alloc (.cells #[u] t)) ⟨W.heap.size, 0, none⟩ v _ h1, World.cell?_alloc_at _ _ _ _ rfl]
  have hf : (W.alloc (.cells #[u] t)).frozen? ⟨W.heap.size, 0, none⟩ = false := Lib.frozen_of_heap (heap_alloc_new W (.cells #[u] t)) 0
  rw [hf, World.setCell_alloc_at _ _ _ _ _ rfl]
  rfl
set_option maxRecDepth 100000 in
set_option maxHeartbeats 4000000 in
theorem set_refuse (w : World) (C : List (List S28)) (M : List Int) (L : List S68) (ev : Int) (t l : S28) (Ac Am As At Al : Option Addr) (cc cm cs ct cl : Nat) (h : SetIn w C M L ev t l Ac Am As At Al cc cm cs ct cl) (hok : okSet C M L ev t l = false) :
    Calls Try.prog 9 #[.slice Ac C.length cc, .slice Am M.length cm, .agg #[.slice As L.length cs, .int .i64 ev], boxV t.f0 t.f1 t.f2 t.f3 t.f4 t.f5 At t.f6.length ct, boxV l.f0 l.f1 l.f2 l.f3 l.f4 l.f5 Al l.f6.length cl] w fun e w' => e = .returned (.tuple #[.slice none 0 0, .int .i64 1]) ∧ Below w.heap.size w w' := by
  have HP := pre_made w w.heap.size rfl As L.length cs ev t l At Al ct cl h.tn h.ln h.tk h.lk
  have HI := Lib.hid h
  have HOK := Lib.hid hok
  clear h hok
  simp only [boxC, List.cons_append, List.nil_append] at HP
  have HPP := Lib.hid HP
  clear HP
  have hst := store_new (((w.alloc (.cells #[.slice As L.length cs, .int .i64 ev] 26)).alloc (.cells #[.int .i64 t.f0, .int .i64 t.f1, .int .i64 t.f2, .int .i64 t.f3, .string t.f4, .string t.f5, .slice At t.f6.length ct] 28)).alloc (.cells #[.int .i64 l.f0, .int .i64 l.f1, .int .i64 l.f2, .int .i64 l.f3, .string l.f4, .string l.f5, .slice Al l.f6.length cl] 28)) (w.heap.size + 1 + 1 + 1) (by simp) .nilFunc (.func (.func 23) #[] #[]) 69 rfl
  go_enter Try.func9, Try.ntmps9
  go_wp2_with fail
  clear hst
  obtain ⟨W1, hW1⟩ : ∃ W, (((((w.alloc (.cells #[.slice As L.length cs, .int .i64 ev] 26)).alloc (.cells #[.int .i64 t.f0, .int .i64 t.f1, .int .i64 t.f2, .int .i64 t.f3, .string t.f4, .string t.f5, .slice At t.f6.length ct] 28)).alloc (.cells #[.int .i64 l.f0, .int .i64 l.f1, .int .i64 l.f2, .int .i64 l.f3, .string l.f4, .string l.f5, .slice Al l.f6.length cl] 28)).alloc (.cells #[.func (.func 23) #[] #[]] 69)).alloc (.cells #[.int .i64 t.f0, .int .i64 t.f1, .int .i64 t.f2, .int .i64 t.f3, .string t.f4, .string t.f5, .slice At t.f6.length ct, .int .i64 l.f0, .int .i64 l.f1, .int .i64 l.f2, .int .i64 l.f3, .string l.f4, .string l.f5, .slice Al l.f6.length cl] 28)) = W := ⟨_, rfl⟩
  rw [hW1] at HPP ⊢
  clear hW1
  have HI1 := Lib.hid (HI.out.below HPP.out.below)
  have hv := HPP.out.bad
  refine (tvalid_calls As cs L ev HI1.out.sn HI1.out.sb W1 HI1.out.s).mono ?_
  rintro e w2 ⟨rfl, hb2⟩
  have HI2 := Lib.hid (HI1.out.below hb2)
  have HS2 := Lib.hid (HPP.out.step hb2)
  have HB2 := Lib.hid hb2
  clear hb2 hv
  have hOK := HOK.out
  unfold okSet at hOK
  obtain ⟨b1, hb1⟩ : ∃ b, tvalidB L ev = b := ⟨_, rfl⟩
  rw [hb1] at hOK ⊢
  clear hb1
  cases b1
  · go_wp2_with fail
    go_ret2
    exact ⟨rfl, HS2.out.1⟩
  have HC26 := Lib.hid (ccell_calls 27 #[.pointer (some ⟨w.heap.size + 1 + 1 + 1, 0, none⟩)] e27 (fun x => x.any fun y => !validS y) Ac cc C HI2.out.c.2.1 HI2.out.cn w2 HI2.out.c HI2.out.cl63 (fn27_tells w2 _ HS2.out.2.2.2.1))
  obtain ⟨b2, hb2⟩ : ∃ b, (C.any fun c => c.any fun x => !validS x) = b := ⟨_, rfl⟩
  rw [hb2] at hOK HC26
  clear hb2
  go_wp2_with fail
  refine HC26.out.mono ?_
  rintro e w3 ⟨rfl, hb3⟩
  have HI3 := Lib.hid (HI2.out.below hb3)
  have HB3 := Lib.hid (HB2.out.trans (hb3.mono HB2.out.size))
  have HS3 := Lib.hid (HPP.out.step HB3.out)
  clear hb3
  cases b2
  case true =>
    go_wp2_with fail
    go_ret2
    exact ⟨rfl, HS3.out.1⟩
  have hn2 : ∀ x ∈ [t, l], x.f6.length ≤ 9223372036854775807 := fun x hx => by
    simp only [List.mem_cons, List.not_mem_nil, or_false] at hx
    rcases hx with rfl | rfl
    · exact HI3.out.tk.2.1
    · exact HI3.out.lk.2.1
  have HC28 := Lib.hid (cbox_calls 29 #[.pointer (some ⟨w.heap.size + 1 + 1 + 1, 0, none⟩)] e29 fillB (some ⟨w.heap.size + 1 + 1 + 1 + 1, 0, none⟩) 2 [t, l] (by simp) (by simp) w3 HS3.out.2.2.2.2.1 hn2 (fn29_tells w3 _ HS3.out.2.2.2.1))
  obtain ⟨b3, hb3⟩ : ∃ b, [t, l].any fillB = b := ⟨_, rfl⟩
  rw [hb3] at hOK HC28
  clear hb3 hn2
  go_wp2_with fail
  refine HC28.out.mono ?_
  rintro e w4 ⟨rfl, hb4⟩
  have HI4 := Lib.hid (HI3.out.below hb4)
  have HB4 := Lib.hid (HB3.out.trans (hb4.mono HB3.out.size))
  have HS4 := Lib.hid (HPP.out.step HB4.out)
  clear hb4
  cases b3
  case true =>
    go_wp2_with fail
    go_ret2
    exact ⟨rfl, HS4.out.1⟩
  have HC30 := Lib.hid (marks_calls Am cm M w4 HI4.out.m HI4.out.m.2.1)
  obtain ⟨b4, hb4⟩ : ∃ b, M.any markB = b := ⟨_, rfl⟩
  rw [hb4] at hOK HC30
  clear hb4
  go_wp2_with fail
  refine HC30.out.mono ?_
  rintro e w5 ⟨rfl, hb5⟩
  have HB5 := Lib.hid (HB4.out.trans (hb5.mono HB4.out.size))
  have HS5 := Lib.hid (HPP.out.step HB5.out)
  clear hb5
  cases b4
  case true =>
    go_wp2_with fail
    go_ret2
    exact ⟨rfl, HS5.out.1⟩
  simp only [Bool.not_false, Bool.true_and, decide_eq_false_iff_not] at hOK
  have hc63 : C.length ≤ 9223372036854775807 := HI4.out.c.2.1
  have hm63 : M.length ≤ 9223372036854775807 := HI4.out.m.2.1
  have hwr : wrap64 ((C.length : Int) - 1) = (C.length : Int) - 1 := wrap64_in _ (by omega) (by omega)
  go_wp2_with fail
  all_goals go_ret2
  all_goals exact ⟨rfl, HS5.out.1⟩
end Go.Proofs.Ytmmfojaeahcohaa

set_option linter.unusedVariables false
set_option linter.unusedSimpArgs false
namespace Go.Proofs.Ytmmfojaeahcohaa
open Go.Lib Go.RowKit Go.Proofs.YtmmfojaeahcohaaW.PrintWords Go.Proofs.Ytmmfojaeahcohaa.PTabsMade

/-- Where a cell begins. -/
def beginL (L : List S68) (ev at_ w : Int) : Int :=
  (nextL L 0 ev at_).1 - (if (nextL L 0 ev at_).2.1 = 82 then w else if (nextL L 0 ev at_).2.1 = 67 then w / 2 else 0)
/-- What is laid ahead of a cell that is not the first, and its place. -/
def gapL (L : List S68) (ev : Int) (t l : S28) (m at_ w : Int) : List S28 × Int :=
  if (nextL L 0 ev at_).2.2 = true ∧ at_ < beginL L ev at_ w then (wayL (beginL L ev at_ w - at_) (if m = 0 then t else l), beginL L ev at_ w) else ([], at_)
/-- What stands behind i cells. -/
def stL (C : List (List S28)) (M : List Int) (L : List S68) (ev : Int) (t l : S28) : Nat → List S28 × Int
  | 0 => ([], 0)
  | i + 1 =>
    let s := stL C M L ev t l i
    let c := C.getD i []
    let g := if i = 0 then ([], s.2) else gapL L ev t l (M.getD (i - 1) 0) s.2 (widthL c)
    (s.1 ++ g.1 ++ c, g.2 + widthL c)
/-- How many boxes the first i cells have. -/
def sumL (C : List (List S28)) : Nat → Nat
  | 0 => 0
  | i + 1 => sumL C i + (C.getD i []).length
theorem sum_mono (C : List (List S28)) : ∀ i j, i ≤ j → sumL C i ≤ sumL C j
  | i, 0, h => by
    have : i = 0 := by omega
    subst this; exact Nat.le_refl _
  | i, j + 1, h => by
    by_cases e : i = j + 1
    · subst e; exact Nat.le_refl _
    · have := sum_mono C i j (by omega)
      show _ ≤ sumL C j + _
      omega
theorem wayL_len (far : Int) (x : S28) (hf : 0 < far) (hf2 : far ≤ 1000000000) : (wayL far x).length ≤ 1000000001 := by
  have := many_le far x hf hf2
  unfold wayL
  rw [List.length_append, List.length_replicate]
  split <;> simp <;> omega
/-- What keeps the numbers small. -/
structure Fine (C : List (List S28)) (L : List S68) (ev : Int) : Prop where
  wid : ∀ c ∈ C, Wid c
  stp : Stp L
  ev0 : 0 ≤ ev
  ev1 : ev ≤ 1000000
  n : C.length ≤ 200
  sum : sumL C C.length ≤ 200
theorem Fine.cell {C : List (List S28)} {L : List S68} {ev : Int} (h : Fine C L ev) (i : Nat) : Wid (C.getD i []) := by
  rw [List.getD_eq_getElem?_getD]
  cases hq : C[i]? with
  | none => exact fun x hx => by simp at hx
  | some c => exact h.wid c (List.mem_of_getElem? hq)
theorem begin_bound {C : List (List S28)} {L : List S68} {ev : Int} (h : Fine C L ev) (at_ w : Int) (k : Nat) (hk : k ≤ 200) (ha0 : -1000000000000 ≤ at_) (ha1 : at_ ≤ 1000000000) (hw0 : -(1000000 * (k : Int)) ≤ w) (hw1 : w ≤ 1000000 * (k : Int)) :
    beginL L ev at_ w ≤ max at_ 1000000 + 1000000 + 1000000 * (k : Int) ∧ -(1000000 * (k : Int)) ≤ beginL L ev at_ w := by
  have hb := next_bound L ev at_ h.stp h.ev0 h.ev1 ha0 (by omega) 0 (by omega) (by omega)
  unfold beginL
  obtain ⟨p, hp⟩ : ∃ p, (nextL L 0 ev at_).1 = p := ⟨_, rfl⟩
  rw [hp] at hb ⊢
  split
  · omega
  · split <;> omega
theorem st_bound {C : List (List S28)} {M : List Int} {L : List S68} {ev : Int} {t l : S28} (h : Fine C L ev) : ∀ i, i ≤ C.length →
    -(1000000 * (sumL C i : Int)) ≤ (stL C M L ev t l i).2 ∧ (stL C M L ev t l i).2 ≤ 1000000 * ((i : Int) + 1) + 2000000 * (sumL C i : Int) ∧ (stL C M L ev t l i).1.length ≤ i * 1000000300
  | 0, _ => by simp [stL, sumL]
  | i + 1, hi => by
    obtain ⟨h1, h2, h3⟩ := st_bound (M := M) (t := t) (l := l) h i (by omega)
    have hs := sum_mono C (i + 1) C.length hi
    have hs2 := h.sum
    have hn := h.n
    have e : sumL C (i + 1) = sumL C i + (C.getD i []).length := rfl
    have hw := widthL_b (C.getD i []) (h.cell i)
    have est : stL C M L ev t l (i + 1) = ((stL C M L ev t l i).1 ++ (if i = 0 then ([], (stL C M L ev t l i).2) else gapL L ev t l (M.getD (i - 1) 0) (stL C M L ev t l i).2 (widthL (C.getD i []))).1 ++ C.getD i [], (if i = 0 then ([], (stL C M L ev t l i).2) else gapL L ev t l (M.getD (i - 1) 0) (stL C M L ev t l i).2 (widthL (C.getD i []))).2 + widthL (C.getD i [])) := rfl
    rw [est, e]
    clear est
    obtain ⟨s, hs0⟩ : ∃ s, stL C M L ev t l i = s := ⟨_, rfl⟩
    rw [hs0] at h1 h2 h3 ⊢
    clear hs0
    obtain ⟨out, at_⟩ := s
    rw [e] at hs
    obtain ⟨W, hW⟩ : ∃ k, sumL C i = k := ⟨_, rfl⟩
    obtain ⟨k, hk⟩ : ∃ k, (C.getD i []).length = k := ⟨_, rfl⟩
    obtain ⟨w, hww⟩ : ∃ w, widthL (C.getD i []) = w := ⟨_, rfl⟩
    rw [hk, hww] at hw
    rw [hW, hk] at hs
    rw [hW] at h1 h2
    simp only at h1 h2 h3 ⊢
    rw [List.length_append, List.length_append, hk, hww, hW]
    obtain ⟨hw0, hw1⟩ := hw
    clear e hk hww hW
    by_cases h0 : i = 0
    · rw [if_pos h0]
      simp only [List.length_nil]
      refine ⟨by omega, by omega, ?_⟩
      rw [Nat.add_mul]
      omega
    · rw [if_neg h0]
      have hb := begin_bound h at_ w k (by omega) (by omega) (by omega) hw0 hw1
      unfold gapL
      split
      · rename_i hg
        have hl := wayL_len (beginL L ev at_ w - at_) (if M.getD (i - 1) 0 = 0 then t else l) (by omega) (by omega)
        simp only
        obtain ⟨b, hbb⟩ : ∃ b, beginL L ev at_ w = b := ⟨_, rfl⟩
        rw [hbb] at hb hg hl ⊢
        refine ⟨by omega, by omega, ?_⟩
        rw [Nat.add_mul]
        omega
      · simp only [List.length_nil]
        refine ⟨by omega, by omega, ?_⟩
        rw [Nat.add_mul]
        omega
end Go.Proofs.Ytmmfojaeahcohaa

set_option linter.unusedVariables false
set_option linter.unusedSimpArgs false
namespace Go.Proofs.Ytmmfojaeahcohaa
open Go.Shelf Go.RowKit Go.Lib Go.Aids Go.Opens Go.Proofs.YtmmfojaeahcohaaW.PrintWords Go.Proofs.Ytmmfojaeahcohaa.PTabsMade

theorem own_empty28 (W : World) (base : Nat) (hb : base ≤ W.heap.size) (R : BoxR) : OwnRow R 28 7 (W.alloc (.cells #[] 28)) base (.slice (some ⟨W.heap.size, 0, none⟩) 0 0) [] :=
  ⟨[], World.ownsRow_lit W #[] 0 hb (by unfold maxLen; omega) rfl, Reps.none _ _⟩
set_option maxRecDepth 100000 in
set_option maxHeartbeats 1000000 in
theorem clone_calls (R : BoxR) (hR : OneC R) (A : Option Addr) (c : Nat) (qs : List S28) (hq : qs.length ≤ 900000000000) (w : World) (hC : ReadsRow R 7 w A qs.length qs) :
    Calls Try.prog 36 #[.slice A qs.length c] w fun e w' => ∃ v, e = .returned v ∧ OwnRow R 28 7 w' w.heap.size v qs ∧ Below w.heap.size w w' := by
  have HC := Lib.hid hC
  have HR := Lib.hid hR
  clear hR
  have q31 : ∀ (w : World) (a : Option Addr) (n c n' c' : Nat), (binOp .eql 31 (.slice a n c) (.slice none n' c')).run Try.prog w = .ok (.bool a.isNone) w := fun w a n c n' c' => Lib.run_eql_slice_nil w _ _ a n c n' c' Try.underlying31
  cases A with
  | none =>
    have h0 : qs = [] := by
      rcases Nat.eq_zero_or_pos qs.length with h | h
      · exact List.eq_nil_of_length_eq_zero h
      · obtain ⟨ad, h, _⟩ := hC.2.2 h
        cases h
    subst h0
    clear hC
    go_enter Try.func36, Try.ntmps36
    go_wp2_with fail
    go_ret
    exact ⟨_, rfl, OwnRow.none_ _ _ _ _ _, Below.refl _ _⟩
  | some ad =>
    clear hC
    have HB := Lib.hid ((Below.refl w.heap.size w).alloc (Nat.le_refl _) (.cells #[] 28))
    have HRD : Hid (ReadsRow R 7 (w.alloc (.cells #[] 28)) (some ad) qs.length qs) := Lib.hid (HC.out.imp_ HB.out (fun _ _ h => h))
    go_enter Try.func36, Try.ntmps36
    go_wp2_with (at_builtin; refine wpList_append_boxes R HR.out rfl _ _ rfl w.heap.size (.slice (some ⟨w.heap.size, 0, none⟩) 0 0) [] qs (by rfl) (own_empty28 w w.heap.size (Nat.le_refl _) R) (some ad) qs.length c (by rfl) rfl HRD.out (by simp; omega) HB.out.size ?_; intro v5 w5 ho5 hg5; have HO5 := Lib.hid ho5; have HB5 := Lib.hid (or_grown (own_empty28 w w.heap.size (Nat.le_refl _) R) HB.out HB.out.size hg5); clear ho5 hg5)
    go_ret
    exact ⟨_, rfl, by simpa using HO5.out, HB5.out⟩
/-- Ints that lie in another block are as they were. -/
theorem ints_move {W W1 : World} {A : Option Addr} {l : List Int} {g : Nat} (h : kI.C W A l.length l) (hA : ∀ ad, A = some ad → 0 < l.length → ad.block ≠ g) (hm : ∀ k, k ≠ g → k < W.heap.size → W1.heap[k]? = W.heap[k]?) : kI.C W1 A l.length l := by
  refine ⟨h.1, h.2.1, fun hn => ?_⟩
  obtain ⟨b, off, rfl, hb, hc⟩ := ints_at h hn
  have hne := hA _ rfl hn
  refine ⟨_, rfl, fun j p hj => ?_⟩
  obtain ⟨hjl, rfl⟩ := List.getElem?_eq_some_iff.1 hj
  refine ⟨[.int .i64 l[j]], rfl, rfl, fun i u hi => ?_⟩
  match i, hi with
  | 0, hi =>
    injection hi with hi
    subst hi
    have ead : ((⟨b, off, none⟩ : Addr).add (j * 1 + 0)) = ⟨b, off + j, none⟩ := by simp [Addr.add]
    rw [show kI.sz = 1 from rfl, ead]
    have := hc j hjl
    unfold World.cell? at this ⊢
    rw [hm b hne hb]
    exact this
  | i + 1, hi => simp at hi
end Go.Proofs.Ytmmfojaeahcohaa

set_option linter.unusedVariables false
set_option linter.unusedSimpArgs false
namespace Go.Proofs.Ytmmfojaeahcohaa
open Go.Shelf Go.RowKit Go.Lib Go.Aids Go.Opens Go.Proofs.YtmmfojaeahcohaaW.PrintWords Go.Proofs.Ytmmfojaeahcohaa.PTabsMade

theorem cloneN_calls (A : Option Addr) (c : Nat) (l : List Int) (w : World) (hC : kI.C w A l.length l) (hl : l.length ≤ 1000) :
    Calls Try.prog 37 #[.slice A l.length c] w fun e w' => ∃ A' c', e = .returned (.slice A' l.length c') ∧ l.length ≤ c' ∧ kI.C w' A' l.length l ∧ (∀ ad, A' = some ad → 0 < l.length → w.heap.size ≤ ad.block) ∧ Below w.heap.size w w' := by
  rcases Nat.eq_zero_or_pos l.length with h0 | h0
  · have e : l = [] := List.eq_nil_of_length_eq_zero h0
    subst e
    cases A with
    | none =>
      refine (Try.slices_Clone_int_nil 0 c w).mono ?_
      rintro e w' ⟨rfl, rfl⟩
      exact ⟨none, 0, rfl, Nat.le_refl _, ⟨rfl, Nat.zero_le _, fun h => absurd h (Nat.lt_irrefl 0)⟩, fun ad (h : none = some ad) _ => (by cases h), Below.refl _ _⟩
    | some a =>
      refine (Try.slices_Clone_int_zero a c w).mono ?_
      rintro e w' ⟨v', rfl, ho, _, hb⟩
      obtain ⟨A', c', rfl⟩ := own_slice ho
      exact ⟨A', c', rfl, Nat.zero_le _, ⟨rfl, Nat.zero_le _, fun h => absurd h (Nat.lt_irrefl 0)⟩, fun ad _ h => absurd h (Nat.lt_irrefl 0), hb⟩
  · obtain ⟨b, off, rfl, hb, hc⟩ := ints_at hC h0
    refine (Try.slices_Clone_int b off l.length c l w (Nat.le_refl _) (by omega) (fun j hj => by rw [hc j hj]; simp [List.getD, hj])).mono ?_
    rintro e w' ⟨v', rfl, ho, _, hb'⟩
    rw [List.take_of_length_le (Nat.le_refl _)] at ho
    obtain ⟨g, cap, rfl, hg1, hg2⟩ := ho.form h0
    have hcap : l.length ≤ cap := own_cap ho
    refine ⟨_, _, rfl, hcap, ⟨rfl, hC.2.1, fun _ => ⟨_, rfl, fun j p hj => ?_⟩⟩, fun ad h _ => by injection h with h; subst h; exact hg1, hb'⟩
    obtain ⟨hjl, rfl⟩ := List.getElem?_eq_some_iff.1 hj
    refine ⟨[.int .i64 l[j]], rfl, rfl, fun i u hi => ?_⟩
    match i, hi with
    | 0, hi =>
      injection hi with hi
      subst hi
      have ead : ((⟨g, 0, none⟩ : Addr).add (j * 1 + 0)) = ⟨g, j, none⟩ := by
        simp [Addr.add]
        intro h; omega
      rw [show kI.sz = 1 from rfl, ead, ho.cellAt j (by omega), List.getElem?_map, List.getElem?_eq_getElem hjl]
      rfl
    | i + 1, hi => simp at hi
/-- A row of boxes of the call's own, whose numbers lie elsewhere. -/
structure RowOK (w : World) (g : Nat) (out : List S28) : Prop where
  ex : ∃ cur : Array Value, w.heap[g]? = some (.cells cur 28 (0, 0)) ∧ ∀ k (hk : k < out.length), ∃ A c, cur[k * 7]? = some (.int .i64 out[k].f0) ∧ cur[k * 7 + 1]? = some (.int .i64 out[k].f1) ∧ cur[k * 7 + 2]? = some (.int .i64 out[k].f2) ∧ cur[k * 7 + 3]? = some (.int .i64 out[k].f3) ∧ cur[k * 7 + 4]? = some (.string out[k].f4) ∧ cur[k * 7 + 5]? = some (.string out[k].f5) ∧ cur[k * 7 + 6]? = some (.slice A out[k].f6.length c) ∧ out[k].f6.length ≤ c ∧ kI.C w A out[k].f6.length out[k].f6 ∧ (∀ ad, A = some ad → 0 < out[k].f6.length → ad.block ≠ g)
theorem RowOK.below {w w1 : World} {g : Nat} {out : List S28} (h : RowOK w g out) (hb : Below w.heap.size w w1) : RowOK w1 g out := by
  obtain ⟨cur, hg, hk⟩ := h.ex
  have hlt : g < w.heap.size := (Array.getElem?_eq_some_iff.1 hg).1
  refine ⟨cur, (hb.block g hlt).trans hg, fun k hkl => ?_⟩
  obtain ⟨A, c, c0, c1, c2, c3, c4, c5, c6, l6, g6, ne⟩ := hk k hkl
  exact ⟨A, c, c0, c1, c2, c3, c4, c5, c6, l6, Kd.C_below g6 hb, ne⟩
theorem RowOK.put {w : World} {g : Nat} {out : List S28} (h : RowOK w g out) (j : Nat) (hj : j < out.length) (A' : Option Addr) (c' : Nat) (hc' : out[j].f6.length ≤ c') (hC : kI.C w A' out[j].f6.length out[j].f6) (hne : ∀ ad, A' = some ad → 0 < out[j].f6.length → ad.block ≠ g) :
    RowOK (w.setCell ⟨g, j * 7 + 6, none⟩ (.slice A' out[j].f6.length c')) g out := by
  obtain ⟨cur, hg, hk⟩ := h.ex
  have hmv : ∀ k, k ≠ g → k < w.heap.size → (w.setCell ⟨g, j * 7 + 6, none⟩ (.slice A' out[j].f6.length c')).heap[k]? = w.heap[k]? := fun k hk _ => Below.heap_setCell _ _ _ _ hk
  refine ⟨cur.setIfInBounds (j * 7 + 6) (.slice A' out[j].f6.length c'), ?_, fun k hkl => ?_⟩
  · simp [World.setCell, Array.getElem?_modify, hg]
  · obtain ⟨A, c, c0, c1, c2, c3, c4, c5, c6, l6, g6, ne⟩ := hk k hkl
    have hs : ∀ i v, i ≠ j * 7 + 6 → cur[i]? = v → (cur.setIfInBounds (j * 7 + 6) (.slice A' out[j].f6.length c'))[i]? = v := fun i v hi hv => by
      rw [Array.getElem?_setIfInBounds, if_neg (fun e => hi e.symm)]; exact hv
    by_cases e : k = j
    · subst e
      have hin : k * 7 + 6 < cur.size := (Array.getElem?_eq_some_iff.1 c6).1
      exact ⟨A', c', hs _ _ (by omega) c0, hs _ _ (by omega) c1, hs _ _ (by omega) c2, hs _ _ (by omega) c3, hs _ _ (by omega) c4, hs _ _ (by omega) c5, by rw [Array.getElem?_setIfInBounds, if_pos rfl, if_pos hin], hc', ints_move hC hne hmv, hne⟩
    · exact ⟨A, c, hs _ _ (by omega) c0, hs _ _ (by omega) c1, hs _ _ (by omega) c2, hs _ _ (by omega) c3, hs _ _ (by omega) c4, hs _ _ (by omega) c5, hs _ _ (by omega) c6, l6, ints_move g6 ne hmv, ne⟩
theorem RowOK.read {w : World} {g : Nat} {out : List S28} (h : RowOK w g out) (hn : out.length ≤ 9223372036854775807) : Kd.C k28 w (some ⟨g, 0, none⟩) out.length out := by
  obtain ⟨cur, hg, hk⟩ := h.ex
  refine ⟨rfl, hn, fun _ => ⟨_, rfl, fun j p hj => ?_⟩⟩
  obtain ⟨hjl, rfl⟩ := List.getElem?_eq_some_iff.1 hj
  obtain ⟨A, c, c0, c1, c2, c3, c4, c5, c6, l6, g6, ne⟩ := hk j hjl
  refine ⟨boxC out[j] A c, rfl, box_K w out[j] A c l6 g6, fun i u hi => ?_⟩
  have ead : ∀ q, ((⟨g, 0, none⟩ : Addr).add q) = ⟨g, q, none⟩ := fun q => by
    simp [Addr.add]
    intro h; omega
  rw [show k28.sz = 7 from rfl, ead, Lib.cell_of_heap hg]
  match i, hi with
  | 0, hi => injection hi with hi; subst hi; exact c0
  | 1, hi => injection hi with hi; subst hi; exact c1
  | 2, hi => injection hi with hi; subst hi; exact c2
  | 3, hi => injection hi with hi; subst hi; exact c3
  | 4, hi => injection hi with hi; subst hi; exact c4
  | 5, hi => injection hi with hi; subst hi; exact c5
  | 6, hi => injection hi with hi; subst hi; exact c6
  | i + 7, hi => simp [boxC] at hi
/-- A row whose numbers lie in an elder world. -/
theorem RowOK.of {w W : World} {base g n cap : Nat} {out : List S28} (h : OwnRow (k28.K w) 28 7 W base (.slice (some ⟨g, 0, none⟩) n cap) out) (hb : Below w.heap.size w W) (hbase : w.heap.size ≤ base) : RowOK W g out := by
  obtain ⟨inner, ho, hr⟩ := h
  have hgb := own_base ho g rfl
  rcases ho.2 with ⟨e, _⟩ | ⟨g', cap', cur, e, _, hg, _, _, hcs, htake⟩
  · cases e
  injection e with e1 e2 e3
  injection e1 with e1
  injection e1 with e1
  subst e1
  refine ⟨cur, hg, fun k hk => ?_⟩
  have hlen := hr.1
  obtain ⟨A, c, e, l6, g6⟩ := k28_open (hr.2 k _ (List.getElem?_eq_getElem hk))
  have hcell : ∀ i (hi : i < 7), cur[k * 7 + i]? = ((inner.drop (k * 7)).take 7)[i]? := fun i hi => by
    rw [List.getElem?_take, if_pos hi, List.getElem?_drop, ← htake, List.getElem?_take, if_pos (by omega), Array.getElem?_toList]
  rw [e] at hcell
  have hA : ∀ ad, A = some ad → 0 < out[k].f6.length → ad.block ≠ g := fun ad hA hp => by
    obtain ⟨b, off, hA2, hb2, _⟩ := ints_at g6 hp
    rw [hA2] at hA
    injection hA with hA
    subst hA
    show b ≠ g
    omega
  exact ⟨A, c, hcell 0 (by omega), hcell 1 (by omega), hcell 2 (by omega), hcell 3 (by omega), hcell 4 (by omega), hcell 5 (by omega), hcell 6 (by omega), l6, Kd.C_below g6 hb, hA⟩
/-- Boxes that have few numbers. -/
def Few (L : List S28) : Prop := ∀ x ∈ L, x.f6.length ≤ 40
theorem validS_n (x : S28) (h : validS x = true) : x.f6.length ≤ 40 := by
  unfold validS validB at h
  split at h
  · cases h
  rw [Bool.and_eq_true] at h
  have h := h.2
  unfold kindB bareB at h
  repeat' split at h
  all_goals first | (simp only [Bool.and_eq_true, decide_eq_true_eq] at h; omega) | (cases h; done)
theorem fillB_n (x : S28) (h : fillB x = false) : x.f6.length ≤ 40 := by
  unfold fillB at h
  rw [Bool.or_eq_false_iff] at h
  exact validS_n x (by simpa using h.1)
theorem wayL_few (far : Int) (x : S28) (h : x.f6.length ≤ 40) : Few (wayL far x) := by
  intro y hy
  unfold wayL at hy
  rw [List.mem_append] at hy
  rcases hy with hy | hy
  · split at hy
    · cases hy
    · rw [List.mem_singleton] at hy
      subst hy
      show ([] : List Int).length ≤ 40
      simp
  · rw [List.mem_replicate] at hy
    rw [hy.2]; exact h
theorem stL_few {C : List (List S28)} {M : List Int} {L : List S68} {ev : Int} {t l : S28} (hC : ∀ c ∈ C, Few c) (ht : t.f6.length ≤ 40) (hl : l.f6.length ≤ 40) : ∀ i, Few (stL C M L ev t l i).1
  | 0 => fun x hx => by cases hx
  | i + 1 => by
    have ih := stL_few (M := M) (L := L) (ev := ev) hC ht hl i
    have hc : Few (C.getD i []) := by
      rw [List.getD_eq_getElem?_getD]
      cases hq : C[i]? with
      | none => exact fun x hx => by simp at hx
      | some c => exact hC c (List.mem_of_getElem? hq)
    have hg : Few (if i = 0 then ([], (stL C M L ev t l i).2) else gapL L ev t l (M.getD (i - 1) 0) (stL C M L ev t l i).2 (widthL (C.getD i []))).1 := by
      split
      · exact fun x hx => by cases hx
      · unfold gapL
        split
        · refine wayL_few _ _ ?_
          split
          · exact ht
          · exact hl
        · exact fun x hx => by cases hx
    intro x hx
    have e : (stL C M L ev t l (i + 1)).1 = (stL C M L ev t l i).1 ++ (if i = 0 then ([], (stL C M L ev t l i).2) else gapL L ev t l (M.getD (i - 1) 0) (stL C M L ev t l i).2 (widthL (C.getD i []))).1 ++ C.getD i [] := rfl
    rw [e, List.mem_append, List.mem_append] at hx
    rcases hx with (hx | hx) | hx
    · exact ih x hx
    · exact hg x hx
    · exact hc x hx
end Go.Proofs.Ytmmfojaeahcohaa

set_option linter.unusedVariables false
set_option linter.unusedSimpArgs false
namespace Go.Proofs.Ytmmfojaeahcohaa
open Go.Shelf Go.RowKit Go.Lib Go.Aids Go.Opens Go.Proofs.YtmmfojaeahcohaaW.PrintWords Go.Proofs.Ytmmfojaeahcohaa.PTabsMade

theorem fillB_w (x : S28) (h : fillB x = false) : -1000000 ≤ x.f1 ∧ x.f1 ≤ 1000000 := by
  unfold fillB at h
  rw [Bool.or_eq_false_iff] at h
  have hv : validS x = true := by simpa using h.1
  unfold validS validB at hv
  split at hv
  · cases hv
  · omega
set_option maxRecDepth 100000 in
set_option maxHeartbeats 4000000 in
theorem set_ok (w : World) (C : List (List S28)) (M : List Int) (L : List S68) (ev : Int) (t l : S28) (Ac Am As At Al : Option Addr) (cc cm cs ct cl : Nat) (h : SetIn w C M L ev t l Ac Am As At Al cc cm cs ct cl) (hok : okSet C M L ev t l = true) (hF : Fine C L ev) :
    Calls Try.prog 9 #[.slice Ac C.length cc, .slice Am M.length cm, .agg #[.slice As L.length cs, .int .i64 ev], boxV t.f0 t.f1 t.f2 t.f3 t.f4 t.f5 At t.f6.length ct, boxV l.f0 l.f1 l.f2 l.f3 l.f4 l.f5 Al l.f6.length cl] w fun e w' => ∃ A n, e = .returned (.tuple #[.slice A (stL C M L ev t l C.length).1.length n, .int .i64 0]) ∧ (stL C M L ev t l C.length).1.length ≤ n ∧ Kd.C k28 w' A (stL C M L ev t l C.length).1.length (stL C M L ev t l C.length).1 ∧ Below w.heap.size w w' := by
  have HP := pre_made w w.heap.size rfl As L.length cs ev t l At Al ct cl h.tn h.ln h.tk h.lk
  have HI := Lib.hid h
  have HOK := Lib.hid hok
  have HF := Lib.hid hF
  clear h hok hF
  simp only [boxC, List.cons_append, List.nil_append] at HP
  have HPP := Lib.hid HP
  clear HP
  have HFH : Hid ((((((w.alloc (.cells #[.slice As L.length cs, .int .i64 ev] 26)).alloc (.cells #[.int .i64 t.f0, .int .i64 t.f1, .int .i64 t.f2, .int .i64 t.f3, .string t.f4, .string t.f5, .slice At t.f6.length ct] 28)).alloc (.cells #[.int .i64 l.f0, .int .i64 l.f1, .int .i64 l.f2, .int .i64 l.f3, .string l.f4, .string l.f5, .slice Al l.f6.length cl] 28)).alloc (.cells #[.func (.func 23) #[] #[]] 69)).alloc (.cells #[.int .i64 t.f0, .int .i64 t.f1, .int .i64 t.f2, .int .i64 t.f3, .string t.f4, .string t.f5, .slice At t.f6.length ct, .int .i64 l.f0, .int .i64 l.f1, .int .i64 l.f2, .int .i64 l.f3, .string l.f4, .string l.f5, .slice Al l.f6.length cl] 28)).heap[w.heap.size + 1 + 1 + 1 + 1]? = some (.cells #[.int .i64 t.f0, .int .i64 t.f1, .int .i64 t.f2, .int .i64 t.f3, .string t.f4, .string t.f5, .slice At t.f6.length ct, .int .i64 l.f0, .int .i64 l.f1, .int .i64 l.f2, .int .i64 l.f3, .string l.f4, .string l.f5, .slice Al l.f6.length cl] 28 (0, 0))) := Lib.hid (by
    have := heap_alloc_new ((((w.alloc (.cells #[.slice As L.length cs, .int .i64 ev] 26)).alloc (.cells #[.int .i64 t.f0, .int .i64 t.f1, .int .i64 t.f2, .int .i64 t.f3, .string t.f4, .string t.f5, .slice At t.f6.length ct] 28)).alloc (.cells #[.int .i64 l.f0, .int .i64 l.f1, .int .i64 l.f2, .int .i64 l.f3, .string l.f4, .string l.f5, .slice Al l.f6.length cl] 28)).alloc (.cells #[.func (.func 23) #[] #[]] 69)) (.cells #[.int .i64 t.f0, .int .i64 t.f1, .int .i64 t.f2, .int .i64 t.f3, .string t.f4, .string t.f5, .slice At t.f6.length ct, .int .i64 l.f0, .int .i64 l.f1, .int .i64 l.f2, .int .i64 l.f3, .string l.f4, .string l.f5, .slice Al l.f6.length cl] 28)
    simpa using this)
  have hst := store_new (((w.alloc (.cells #[.slice As L.length cs, .int .i64 ev] 26)).alloc (.cells #[.int .i64 t.f0, .int .i64 t.f1, .int .i64 t.f2, .int .i64 t.f3, .string t.f4, .string t.f5, .slice At t.f6.length ct] 28)).alloc (.cells #[.int .i64 l.f0, .int .i64 l.f1, .int .i64 l.f2, .int .i64 l.f3, .string l.f4, .string l.f5, .slice Al l.f6.length cl] 28)) (w.heap.size + 1 + 1 + 1) (by simp) .nilFunc (.func (.func 23) #[] #[]) 69 rfl
  go_enter Try.func9, Try.ntmps9
  go_wp2_with fail
  clear hst
  obtain ⟨W1, hW1⟩ : ∃ W, (((((w.alloc (.cells #[.slice As L.length cs, .int .i64 ev] 26)).alloc (.cells #[.int .i64 t.f0, .int .i64 t.f1, .int .i64 t.f2, .int .i64 t.f3, .string t.f4, .string t.f5, .slice At t.f6.length ct] 28)).alloc (.cells #[.int .i64 l.f0, .int .i64 l.f1, .int .i64 l.f2, .int .i64 l.f3, .string l.f4, .string l.f5, .slice Al l.f6.length cl] 28)).alloc (.cells #[.func (.func 23) #[] #[]] 69)).alloc (.cells #[.int .i64 t.f0, .int .i64 t.f1, .int .i64 t.f2, .int .i64 t.f3, .string t.f4, .string t.f5, .slice At t.f6.length ct, .int .i64 l.f0, .int .i64 l.f1, .int .i64 l.f2, .int .i64 l.f3, .string l.f4, .string l.f5, .slice Al l.f6.length cl] 28)) = W := ⟨_, rfl⟩
  rw [hW1] at HPP HFH ⊢
  clear hW1
  have HI1 := Lib.hid (HI.out.below HPP.out.below)
  have hv := HPP.out.bad
  refine (tvalid_calls As cs L ev HI1.out.sn HI1.out.sb W1 HI1.out.s).mono ?_
  rintro e w2 ⟨rfl, hb2⟩
  have HI2 := Lib.hid (HI1.out.below hb2)
  have HS2 := Lib.hid (HPP.out.step hb2)
  have HB2 := Lib.hid hb2
  clear hb2 hv
  have hOK := HOK.out
  unfold okSet at hOK
  obtain ⟨b1, hb1⟩ : ∃ b, tvalidB L ev = b := ⟨_, rfl⟩
  rw [hb1] at hOK ⊢
  clear hb1
  cases b1
  · cases hOK
  have HC26 := Lib.hid (ccell_calls 27 #[.pointer (some ⟨w.heap.size + 1 + 1 + 1, 0, none⟩)] e27 (fun x => x.any fun y => !validS y) Ac cc C HI2.out.c.2.1 HI2.out.cn w2 HI2.out.c HI2.out.cl63 (fn27_tells w2 _ HS2.out.2.2.2.1))
  obtain ⟨b2, hb2⟩ : ∃ b, (C.any fun c => c.any fun x => !validS x) = b := ⟨_, rfl⟩
  rw [hb2] at hOK HC26
  clear hb2
  go_wp2_with fail
  refine HC26.out.mono ?_
  rintro e w3 ⟨rfl, hb3⟩
  have HI3 := Lib.hid (HI2.out.below hb3)
  have HB3 := Lib.hid (HB2.out.trans (hb3.mono HB2.out.size))
  have HS3 := Lib.hid (HPP.out.step HB3.out)
  clear hb3
  cases b2
  case true => cases hOK
  have hn2 : ∀ x ∈ [t, l], x.f6.length ≤ 9223372036854775807 := fun x hx => by
    simp only [List.mem_cons, List.not_mem_nil, or_false] at hx
    rcases hx with rfl | rfl
    · exact HI3.out.tk.2.1
    · exact HI3.out.lk.2.1
  have HC28 := Lib.hid (cbox_calls 29 #[.pointer (some ⟨w.heap.size + 1 + 1 + 1, 0, none⟩)] e29 fillB (some ⟨w.heap.size + 1 + 1 + 1 + 1, 0, none⟩) 2 [t, l] (by simp) (by simp) w3 HS3.out.2.2.2.2.1 hn2 (fn29_tells w3 _ HS3.out.2.2.2.1))
  obtain ⟨b3, hb3⟩ : ∃ b, [t, l].any fillB = b := ⟨_, rfl⟩
  rw [hb3] at hOK HC28
  clear hb3 hn2
  go_wp2_with fail
  refine HC28.out.mono ?_
  rintro e w4 ⟨rfl, hb4⟩
  have HI4 := Lib.hid (HI3.out.below hb4)
  have HB4 := Lib.hid (HB3.out.trans (hb4.mono HB3.out.size))
  have HS4 := Lib.hid (HPP.out.step HB4.out)
  clear hb4
  cases b3
  case true => cases hOK
  have HC30 := Lib.hid (marks_calls Am cm M w4 HI4.out.m HI4.out.m.2.1)
  obtain ⟨b4, hb4⟩ : ∃ b, M.any markB = b := ⟨_, rfl⟩
  rw [hb4] at hOK HC30
  clear hb4
  go_wp2_with fail
  refine HC30.out.mono ?_
  rintro e w5 ⟨rfl, hb5⟩
  have HB5 := Lib.hid (HB4.out.trans (hb5.mono HB4.out.size))
  have HS5 := Lib.hid (HPP.out.step HB5.out)
  clear hb5
  cases b4
  case true => cases hOK
  simp only [Bool.not_false, Bool.true_and, decide_eq_true_eq] at hOK
  have hc63 : C.length ≤ 9223372036854775807 := HI4.out.c.2.1
  have hm63 : M.length ≤ 9223372036854775807 := HI4.out.m.2.1
  have hwr : wrap64 ((C.length : Int) - 1) = (C.length : Int) - 1 := wrap64_in _ (by omega) (by omega)
  have HV0 := Lib.hid (show OwnRow (k28.K w) 28 7 w5 w5.heap.size (.slice none 0 0) [] from OwnRow.none_ _ _ _ _ _)
  go_wp2_with fail
  have HM := Lib.hid hOK
  have hok2 := HOK.out
  unfold okSet at hok2
  simp only [Bool.and_eq_true, Bool.not_eq_true'] at hok2
  obtain ⟨ok1, ok2, ok3, ok4, ok5⟩ := hok2
  have HFL : Hid (L.length ≤ 1000000) := Lib.hid (by
    unfold tvalidB at ok1
    simp only [Bool.and_eq_true, decide_eq_true_eq] at ok1
    have := ok1.2.1
    omega)
  have hfl2 : fillB t = false ∧ fillB l = false := by simpa using ok3
  have HTW := Lib.hid (fillB_w t hfl2.1)
  have HLW := Lib.hid (fillB_w l hfl2.2)
  have HMK : Hid (∀ m ∈ M, m = 0 ∨ m = 1) := Lib.hid (fun m hm => by
    have := List.any_eq_false.1 ok4 m hm
    unfold markB at this
    simp at this
    omega)
  have HFEW : Hid (∀ i, Few (stL C M L ev t l i).1) := Lib.hid (stL_few (fun c hc x hx => by
    have h1 := List.any_eq_false.1 ok2 c hc
    have h2 : ¬ ((!validS x) = true) := fun h => h1 (List.any_eq_true.2 ⟨x, hx, h⟩)
    exact validS_n x (by simpa using h2)) (fillB_n t hfl2.1) (fillB_n l hfl2.2))
  clear ok1 ok2 ok3 ok4 ok5 hfl2
  clear hOK hwr HC26 HC28 HC30
  go_loopg [14, 15, 47] C.length (fun gk s14 s15 s47 wx => ∃ i : Nat, i + gk = C.length ∧ s47 = .int .i64 i ∧ s15 = .int .i64 (stL C M L ev t l i).2 ∧ Hid (OwnRow (k28.K w) 28 7 wx w5.heap.size s14 (stL C M L ev t l i).1) ∧ Hid (Below w5.heap.size w5 wx))
  case atStart => exact ⟨0, by omega, rfl, rfl, HV0, Lib.hid (Below.refl _ _)⟩
  case round =>
    obtain ⟨i, hi, rfl, rfl, HO, HB⟩ := hrel
    by_cases hlt : i < C.length
    · have i0 : (i : Int) < C.length := by omega
      obtain ⟨g', rfl⟩ : ∃ g', gk = g' + 1 := ⟨gk - 1, by omega⟩
      have HSr := Lib.hid (HPP.out.step (HB5.out.trans (HB.out.mono HB5.out.size)))
      have HIr := Lib.hid (HI.out.below HSr.out.1)
      obtain ⟨b, off, rfl, hbl, hcell⟩ := cells_at HI.out.c (by omega)
      obtain ⟨A6, c6, c0, l6, g6⟩ := hcell i hlt
      have c0r := (HSr.out.1.cell (p := ⟨b, off + i, none⟩) hbl).trans c0
      have hblr : b < wr.heap.size := Nat.lt_of_lt_of_le hbl HSr.out.1.size
      have hst : stL C M L ev t l (i + 1) = ((stL C M L ev t l i).1 ++ (if i = 0 then ([], (stL C M L ev t l i).2) else gapL L ev t l (M.getD (i - 1) 0) (stL C M L ev t l i).2 (widthL C[i])).1 ++ C[i], (if i = 0 then ([], (stL C M L ev t l i).2) else gapL L ev t l (M.getD (i - 1) 0) (stL C M L ev t l i).2 (widthL C[i])).2 + widthL C[i]) := by
        have hg : C.getD i [] = C[i] := by simp [List.getD, hlt]
        rw [← hg]; rfl
      have hbd := st_bound (M := M) (t := t) (l := l) HF.out i (by omega)
      have hbd2 := st_bound (M := M) (t := t) (l := l) HF.out (i + 1) (by omega)
      have hwid := HF.out.wid _ (List.getElem_mem hlt)
      have hsum1 := sum_mono C i C.length (by omega)
      have hsum2 := sum_mono C (i + 1) C.length (by omega)
      have hsum3 := HF.out.sum
      have hcn := HF.out.n
      have hlen : sumL C (i + 1) = sumL C i + C[i].length := by
        have hg : C.getD i [] = C[i] := by simp [List.getD, hlt]
        show sumL C i + (C.getD i []).length = _
        rw [hg]
      obtain ⟨y, hy⟩ : ∃ y, C[i] = y := ⟨_, rfl⟩
      rw [hy] at hst hwid hlen c0r l6 g6
      have hy200 : y.length ≤ 200 := by omega
      have HRw := Lib.hid g6
      have HWC := Lib.hid (fun W hC => width_calls A6 c6 y hwid (by omega) W hC l6)
      have hww := widthL_b y hwid
      obtain ⟨w_, hw_⟩ : ∃ w_, widthL y = w_ := ⟨_, rfl⟩
      rw [hw_] at hst HWC hww
      rw [hst] at hbd2
      have HST0 := Lib.hid hst
      clear hst hcell c0 g6 hy hw_ hbl
      obtain ⟨s, hs⟩ : ∃ s, stL C M L ev t l i = s := ⟨_, rfl⟩
      rw [hs] at HST0 hbd hbd2 HO
      simp only [hs]
      clear hs
      obtain ⟨out, at_⟩ := s
      simp only at HST0 hbd hbd2 HO ⊢
      go_wp2_with fail
      refine (HWC.out _ (Kd.C_below HRw.out HSr.out.1)).mono ?_
      rintro e w6 ⟨rfl, hb6⟩
      have HB6 := Lib.hid (HB.out.trans (hb6.mono HB.out.size))
      have HO6 := Lib.hid (OwnRow.below HO.out hb6)
      have HS6 := Lib.hid (HPP.out.step (HB5.out.trans (HB6.out.mono HB5.out.size)))
      clear hb6
      by_cases hi0 : i = 0
      · have i1 : ¬ (0 : Int) < i := by omega
        have HST : Hid (stL C M L ev t l (i + 1) = (out ++ y, at_ + w_)) := Lib.hid (by rw [HST0.out, if_pos hi0]; simp)
        have HRT : Hid (ReadsRow (k28.K w) 7 w6 A6 y.length y) := Lib.hid (HRw.out.imp_ HS6.out.1 (fun _ _ h => h))
        have hwa : wrap64 (at_ + w_) = at_ + w_ := wrap64_in _ (by omega) (by omega)
        go_wp2_with (at_builtin; refine wpList_append_boxes (k28.K w) (oneC_K w) rfl _ _ rfl w5.heap.size u14 out y (by rfl) HO6.out A6 y.length c6 (by rfl) rfl HRT.out (by omega) HB6.out.size ?_; intro v8 w8 ho8 hg8; have HO8 := Lib.hid ho8; have HB8 := Lib.hid (or_grown HO6.out HB6.out HB6.out.size hg8); clear ho8 hg8)
        go_roundg g'
        case measure => omega
        case rel => exact ⟨i + 1, by omega, by go_num, by first | (rw [HST.out]; done) | (rw [HST.out]; simp), Lib.hid (by rw [HST.out]; exact HO8.out), HB8⟩
      · have i1 : (0 : Int) < i := by omega
        have hN := next_bound L ev at_ HF.out.stp HF.out.ev0 HF.out.ev1 (by omega) (by omega) 0 (by omega) (by omega)
        have HNX := Lib.hid (next_calls As cs L ev at_ HF.out.stp HFL.out HF.out.ev0 HF.out.ev1 (by omega) (by omega) w6 (HI.out.below HS6.out.1).s (HI.out.sn))
        have d0 := HS6.out.2.1
        have d1 := HS6.out.2.2.1
        have d2 := HS6.out.2.2.2.2.2
        have HST1 : Hid (stL C M L ev t l (i + 1) = (out ++ (gapL L ev t l (M.getD (i - 1) 0) at_ w_).1 ++ y, (gapL L ev t l (M.getD (i - 1) 0) at_ w_).2 + w_)) := Lib.hid (by rw [HST0.out, if_neg hi0])
        have HGP : Hid (gapL L ev t l (M.getD (i - 1) 0) at_ w_ = if (nextL L 0 ev at_).2.2 = true ∧ at_ < beginL L ev at_ w_ then (wayL (beginL L ev at_ w_ - at_) (if M.getD (i - 1) 0 = 0 then t else l), beginL L ev at_ w_) else ([], at_)) := Lib.hid rfl
        have HBG : Hid ((nextL L 0 ev at_).1 - (if (nextL L 0 ev at_).2.1 = 82 then w_ else if (nextL L 0 ev at_).2.1 = 67 then w_ / 2 else 0) = beginL L ev at_ w_) := Lib.hid rfl
        obtain ⟨bg, hbgn⟩ : ∃ b, beginL L ev at_ w_ = b := ⟨_, rfl⟩
        obtain ⟨p, hp⟩ : ∃ b, (nextL L 0 ev at_).1 = b := ⟨_, rfl⟩
        obtain ⟨kd, hkd⟩ : ∃ b, (nextL L 0 ev at_).2.1 = b := ⟨_, rfl⟩
        obtain ⟨q, hq⟩ : ∃ b, (nextL L 0 ev at_).2.2 = b := ⟨_, rfl⟩
        rw [hbgn, hq] at HGP
        rw [hbgn, hp, hkd] at HBG
        rw [hp] at hN
        rw [hp, hkd, hq] at HNX
        rw [HGP.out] at HST1
        clear hbgn hp hkd hq hbd2
        go_wp2_with fail
        refine HNX.out.mono ?_
        rintro e w7 ⟨rfl, hb7⟩
        have HB7 := Lib.hid (HB6.out.trans (hb7.mono HB6.out.size))
        have HO7 := Lib.hid (OwnRow.below HO6.out hb7)
        clear hb7 d0 d1 d2
        by_cases k82 : kd = 82
        · subst k82
          have hbg : Hid (bg = p - w_) := Lib.hid (by rw [← HBG.out, if_pos rfl])
          have hbg2 := hbg.out
          clear hbg
          subst hbg2
          have HBX := Lib.hid (HB7.out.alloc HB7.out.size (.cells #[.int .i64 p, .int .u8 82] 68))
          have HOX := Lib.hid (OwnRow.below HO7.out ((Below.refl _ _).alloc (Nat.le_refl _) (.cells #[.int .i64 p, .int .u8 82] 68)))
          have HSX := Lib.hid (HPP.out.step (HB5.out.trans (HBX.out.mono HB5.out.size)))
          by_cases hg : q = true ∧ at_ < p - w_
          · obtain ⟨hq1, hg2⟩ := hg
            subst hq1
            have hMl := HM.out
            have him : i - 1 < M.length := by omega
            obtain ⟨bm, om, rfl, hbm, hmc⟩ := ints_at HI.out.m (by omega)
            have mc := (HSX.out.1.cell (p := ⟨bm, om + (i - 1), none⟩) hbm).trans (hmc (i - 1) him)
            have hbm2 : bm < (w7.alloc (.cells #[.int .i64 p, .int .u8 82] 68)).heap.size := Nat.lt_of_lt_of_le hbm HSX.out.1.size
            have hmv := HMK.out _ (List.getElem_mem him)
            have hgd : M.getD (i - 1) 0 = M[i - 1] := by simp [List.getD, him]
            obtain ⟨mv, hmv2⟩ : ∃ m, M[i - 1] = m := ⟨_, rfl⟩
            rw [hmv2] at mc hmv hgd
            have HMV := Lib.hid hgd
            clear hgd hmv2
            have e1 : ((i : Int) - 1).toNat = i - 1 := by omega
            have e2 : 0 ≤ (i : Int) - 1 := by omega
            have e3 : (i : Int) - 1 < M.length := by omega
            have e4 : wrap64 ((i : Int) - 1) = (i : Int) - 1 := wrap64_in _ (by omega) (by omega)
            have wf : wrap64 ((p - w_) - at_) = (p - w_) - at_ := wrap64_in _ (by omega) (by omega)
            have hwa : wrap64 ((p - w_) + w_) = (p - w_) + w_ := wrap64_in _ (by omega) (by omega)
            have HFX : (w7.alloc (.cells #[.int .i64 p, .int .u8 82] 68)).heap[w.heap.size + 1 + 1 + 1 + 1]? = _ := ((HB5.out.trans (HBX.out.mono HB5.out.size)).block _ (by have := HPP.out.top; omega)).trans HFH.out
            have hF : w.heap.size + 1 + 1 + 1 + 1 < (w7.alloc (.cells #[.int .i64 p, .int .u8 82] 68)).heap.size := by
              have := (Array.getElem?_eq_some_iff.1 HFX).1
              exact this
            rcases hmv with rfl | rfl
            · have f0 : (w7.alloc (.cells #[.int .i64 p, .int .u8 82] 68)).cell? ⟨w.heap.size + 1 + 1 + 1 + 1, 0, none⟩ = some (.int .i64 t.f0) := by rw [Lib.cell_of_heap HFX]; rfl
              have f1 : (w7.alloc (.cells #[.int .i64 p, .int .u8 82] 68)).cell? ⟨w.heap.size + 1 + 1 + 1 + 1, 1, none⟩ = some (.int .i64 t.f1) := by rw [Lib.cell_of_heap HFX]; rfl
              have f2 : (w7.alloc (.cells #[.int .i64 p, .int .u8 82] 68)).cell? ⟨w.heap.size + 1 + 1 + 1 + 1, 2, none⟩ = some (.int .i64 t.f2) := by rw [Lib.cell_of_heap HFX]; rfl
              have f3 : (w7.alloc (.cells #[.int .i64 p, .int .u8 82] 68)).cell? ⟨w.heap.size + 1 + 1 + 1 + 1, 3, none⟩ = some (.int .i64 t.f3) := by rw [Lib.cell_of_heap HFX]; rfl
              have f4 : (w7.alloc (.cells #[.int .i64 p, .int .u8 82] 68)).cell? ⟨w.heap.size + 1 + 1 + 1 + 1, 4, none⟩ = some (.string t.f4) := by rw [Lib.cell_of_heap HFX]; rfl
              have f5 : (w7.alloc (.cells #[.int .i64 p, .int .u8 82] 68)).cell? ⟨w.heap.size + 1 + 1 + 1 + 1, 5, none⟩ = some (.string t.f5) := by rw [Lib.cell_of_heap HFX]; rfl
              have f6 : (w7.alloc (.cells #[.int .i64 p, .int .u8 82] 68)).cell? ⟨w.heap.size + 1 + 1 + 1 + 1, 6, none⟩ = some (.slice At t.f6.length ct) := by rw [Lib.cell_of_heap HFX]; rfl
              have HWY := Lib.hid (way_calls (k28.K w) (oneC_K w) ((p - w_) - at_) t At ct (by omega) (by omega) HTW.out (box_K w t At ct HI.out.tn HI.out.tk) (right_K w) (w7.alloc (.cells #[.int .i64 p, .int .u8 82] 68)))
              have hlen10 := wayL_len ((p - w_) - at_) t (by omega) (by omega)
              have HST : Hid (stL C M L ev t l (i + 1) = (out ++ wayL ((p - w_) - at_) t ++ y, (p - w_) + w_)) := Lib.hid (by rw [HST1.out, if_pos ⟨rfl, hg2⟩]; simp only [HMV.out]; rfl)
              obtain ⟨WL, hWL⟩ : ∃ W, wayL ((p - w_) - at_) t = W := ⟨_, rfl⟩
              rw [hWL] at HWY hlen10 HST
              clear hWL HST1 HGP
              go_wp2_with fail
              refine HWY.out.mono ?_
              rintro e w10 ⟨v10, rfl, ho10, hb10⟩
              obtain ⟨A10, c10, rfl, R10⟩ := or_reads ho10
              have HR10 := Lib.hid R10
              have HB10 := Lib.hid (HBX.out.trans (hb10.mono HBX.out.size))
              have HO10 := Lib.hid (OwnRow.below HOX.out hb10)
              clear ho10 R10 hb10 f0 f1 f2 f3 f4 f5 f6 HFX hmc
              go_wp2_with (first | (at_builtin; refine wpList_append_boxes (k28.K w) (oneC_K w) rfl (.tmp 83) (.tmp 95) rfl w5.heap.size u14 out WL (by rfl) HO10.out A10 WL.length c10 (by rfl) rfl HR10.out (by omega) HB10.out.size ?_; intro v11 w11 ho11 hg11; have HO11 := Lib.hid ho11; have HB11 := Lib.hid (or_grown HO10.out HB10.out HB10.out.size hg11); have HR11 : Hid (ReadsRow (k28.K w) 7 w11 A6 y.length y) := Lib.hid (HRw.out.imp_ ((HPP.out.step (HB5.out.trans (HB11.out.mono HB5.out.size))).1) (fun _ _ h => h)); clear ho11 hg11) | (at_builtin; refine wpList_append_boxes (k28.K w) (oneC_K w) rfl (.tmp 98) (.tmp 99) rfl w5.heap.size v11 (out ++ WL) y (by rfl) HO11.out A6 y.length c6 (by rfl) rfl HR11.out (by rw [List.length_append]; omega) HB11.out.size ?_; intro v8 w8 ho8 hg8; have HO8 := Lib.hid ho8; have HB8 := Lib.hid (or_grown HO11.out HB11.out HB11.out.size hg8); clear ho8 hg8))
              go_roundg g'
              case measure => omega
              case rel => exact ⟨i + 1, by omega, by go_num, by first | (rw [HST.out]; done) | (rw [HST.out]; simp), Lib.hid (by rw [HST.out]; exact HO8.out), HB8⟩
            · have f0 : (w7.alloc (.cells #[.int .i64 p, .int .u8 82] 68)).cell? ⟨w.heap.size + 1 + 1 + 1 + 1, 7, none⟩ = some (.int .i64 l.f0) := by rw [Lib.cell_of_heap HFX]; rfl
              have f1 : (w7.alloc (.cells #[.int .i64 p, .int .u8 82] 68)).cell? ⟨w.heap.size + 1 + 1 + 1 + 1, 8, none⟩ = some (.int .i64 l.f1) := by rw [Lib.cell_of_heap HFX]; rfl
              have f2 : (w7.alloc (.cells #[.int .i64 p, .int .u8 82] 68)).cell? ⟨w.heap.size + 1 + 1 + 1 + 1, 9, none⟩ = some (.int .i64 l.f2) := by rw [Lib.cell_of_heap HFX]; rfl
              have f3 : (w7.alloc (.cells #[.int .i64 p, .int .u8 82] 68)).cell? ⟨w.heap.size + 1 + 1 + 1 + 1, 10, none⟩ = some (.int .i64 l.f3) := by rw [Lib.cell_of_heap HFX]; rfl
              have f4 : (w7.alloc (.cells #[.int .i64 p, .int .u8 82] 68)).cell? ⟨w.heap.size + 1 + 1 + 1 + 1, 11, none⟩ = some (.string l.f4) := by rw [Lib.cell_of_heap HFX]; rfl
              have f5 : (w7.alloc (.cells #[.int .i64 p, .int .u8 82] 68)).cell? ⟨w.heap.size + 1 + 1 + 1 + 1, 12, none⟩ = some (.string l.f5) := by rw [Lib.cell_of_heap HFX]; rfl
              have f6 : (w7.alloc (.cells #[.int .i64 p, .int .u8 82] 68)).cell? ⟨w.heap.size + 1 + 1 + 1 + 1, 13, none⟩ = some (.slice Al l.f6.length cl) := by rw [Lib.cell_of_heap HFX]; rfl
              have HWY := Lib.hid (way_calls (k28.K w) (oneC_K w) ((p - w_) - at_) l Al cl (by omega) (by omega) HLW.out (box_K w l Al cl HI.out.ln HI.out.lk) (right_K w) (w7.alloc (.cells #[.int .i64 p, .int .u8 82] 68)))
              have hlen10 := wayL_len ((p - w_) - at_) l (by omega) (by omega)
              have HST : Hid (stL C M L ev t l (i + 1) = (out ++ wayL ((p - w_) - at_) l ++ y, (p - w_) + w_)) := Lib.hid (by rw [HST1.out, if_pos ⟨rfl, hg2⟩]; simp only [HMV.out]; rfl)
              obtain ⟨WL, hWL⟩ : ∃ W, wayL ((p - w_) - at_) l = W := ⟨_, rfl⟩
              rw [hWL] at HWY hlen10 HST
              clear hWL HST1 HGP
              go_wp2_with fail
              refine HWY.out.mono ?_
              rintro e w10 ⟨v10, rfl, ho10, hb10⟩
              obtain ⟨A10, c10, rfl, R10⟩ := or_reads ho10
              have HR10 := Lib.hid R10
              have HB10 := Lib.hid (HBX.out.trans (hb10.mono HBX.out.size))
              have HO10 := Lib.hid (OwnRow.below HOX.out hb10)
              clear ho10 R10 hb10 f0 f1 f2 f3 f4 f5 f6 HFX hmc
              go_wp2_with (first | (at_builtin; refine wpList_append_boxes (k28.K w) (oneC_K w) rfl (.tmp 83) (.tmp 95) rfl w5.heap.size u14 out WL (by rfl) HO10.out A10 WL.length c10 (by rfl) rfl HR10.out (by omega) HB10.out.size ?_; intro v11 w11 ho11 hg11; have HO11 := Lib.hid ho11; have HB11 := Lib.hid (or_grown HO10.out HB10.out HB10.out.size hg11); have HR11 : Hid (ReadsRow (k28.K w) 7 w11 A6 y.length y) := Lib.hid (HRw.out.imp_ ((HPP.out.step (HB5.out.trans (HB11.out.mono HB5.out.size))).1) (fun _ _ h => h)); clear ho11 hg11) | (at_builtin; refine wpList_append_boxes (k28.K w) (oneC_K w) rfl (.tmp 98) (.tmp 99) rfl w5.heap.size v11 (out ++ WL) y (by rfl) HO11.out A6 y.length c6 (by rfl) rfl HR11.out (by rw [List.length_append]; omega) HB11.out.size ?_; intro v8 w8 ho8 hg8; have HO8 := Lib.hid ho8; have HB8 := Lib.hid (or_grown HO11.out HB11.out HB11.out.size hg8); clear ho8 hg8))
              go_roundg g'
              case measure => omega
              case rel => exact ⟨i + 1, by omega, by go_num, by first | (rw [HST.out]; done) | (rw [HST.out]; simp), Lib.hid (by rw [HST.out]; exact HO8.out), HB8⟩
          · have HST : Hid (stL C M L ev t l (i + 1) = (out ++ y, at_ + w_)) := Lib.hid (by rw [HST1.out, if_neg hg]; simp)
            have HRT : Hid (ReadsRow (k28.K w) 7 (w7.alloc (.cells #[.int .i64 p, .int .u8 82] 68)) A6 y.length y) := Lib.hid (HRw.out.imp_ HSX.out.1 (fun _ _ h => h))
            have hwa : wrap64 (at_ + w_) = at_ + w_ := wrap64_in _ (by omega) (by omega)
            cases q
            · go_wp2_with (at_builtin; refine wpList_append_boxes (k28.K w) (oneC_K w) rfl _ _ rfl w5.heap.size u14 out y (by rfl) HOX.out A6 y.length c6 (by rfl) rfl HRT.out (by omega) HBX.out.size ?_; intro v8 w8 ho8 hg8; have HO8 := Lib.hid ho8; have HB8 := Lib.hid (or_grown HOX.out HBX.out HBX.out.size hg8); clear ho8 hg8)
              go_roundg g'
              case measure => omega
              case rel => exact ⟨i + 1, by omega, by go_num, by first | (rw [HST.out]; done) | (rw [HST.out]; simp), Lib.hid (by rw [HST.out]; exact HO8.out), HB8⟩
            · have hg2 : ¬ at_ < p - w_ := fun h => hg ⟨rfl, h⟩
              go_wp2_with (at_builtin; refine wpList_append_boxes (k28.K w) (oneC_K w) rfl _ _ rfl w5.heap.size u14 out y (by rfl) HOX.out A6 y.length c6 (by rfl) rfl HRT.out (by omega) HBX.out.size ?_; intro v8 w8 ho8 hg8; have HO8 := Lib.hid ho8; have HB8 := Lib.hid (or_grown HOX.out HBX.out HBX.out.size hg8); clear ho8 hg8)
              go_roundg g'
              case measure => omega
              case rel => exact ⟨i + 1, by omega, by go_num, by first | (rw [HST.out]; done) | (rw [HST.out]; simp), Lib.hid (by rw [HST.out]; exact HO8.out), HB8⟩
        by_cases k67 : kd = 67
        · subst k67
          clear k82
          have hbg : Hid (bg = p - w_ / 2) := Lib.hid (by rw [← HBG.out, if_neg (by omega), if_pos rfl])
          have hbg2 := hbg.out
          clear hbg
          subst hbg2
          have hwp : wrap64 (p - w_ / 2) = p - w_ / 2 := wrap64_in _ (by omega) (by omega)
          have HHF := Lib.hid (half_calls w_ (by omega) (by omega) (w7.alloc (.cells #[.int .i64 p, .int .u8 67] 68)))
          go_wp2_with fail
          refine HHF.out.mono ?_
          rintro e w9 ⟨rfl, hb9⟩
          have HB70 := Lib.hid (HB7.out.alloc HB7.out.size (.cells #[.int .i64 p, .int .u8 67] 68))
          have HO70 := Lib.hid (OwnRow.below HO7.out ((Below.refl _ _).alloc (Nat.le_refl _) (.cells #[.int .i64 p, .int .u8 67] 68)))
          have HBX := Lib.hid (HB70.out.trans (hb9.mono HB70.out.size))
          have HOX := Lib.hid (OwnRow.below HO70.out hb9)
          clear hb9
          have HSX := Lib.hid (HPP.out.step (HB5.out.trans (HBX.out.mono HB5.out.size)))
          by_cases hg : q = true ∧ at_ < p - w_ / 2
          · obtain ⟨hq1, hg2⟩ := hg
            subst hq1
            have hMl := HM.out
            have him : i - 1 < M.length := by omega
            obtain ⟨bm, om, rfl, hbm, hmc⟩ := ints_at HI.out.m (by omega)
            have mc := (HSX.out.1.cell (p := ⟨bm, om + (i - 1), none⟩) hbm).trans (hmc (i - 1) him)
            have hbm2 : bm < w9.heap.size := Nat.lt_of_lt_of_le hbm HSX.out.1.size
            have hmv := HMK.out _ (List.getElem_mem him)
            have hgd : M.getD (i - 1) 0 = M[i - 1] := by simp [List.getD, him]
            obtain ⟨mv, hmv2⟩ : ∃ m, M[i - 1] = m := ⟨_, rfl⟩
            rw [hmv2] at mc hmv hgd
            have HMV := Lib.hid hgd
            clear hgd hmv2
            have e1 : ((i : Int) - 1).toNat = i - 1 := by omega
            have e2 : 0 ≤ (i : Int) - 1 := by omega
            have e3 : (i : Int) - 1 < M.length := by omega
            have e4 : wrap64 ((i : Int) - 1) = (i : Int) - 1 := wrap64_in _ (by omega) (by omega)
            have wf : wrap64 ((p - w_ / 2) - at_) = (p - w_ / 2) - at_ := wrap64_in _ (by omega) (by omega)
            have hwa : wrap64 ((p - w_ / 2) + w_) = (p - w_ / 2) + w_ := wrap64_in _ (by omega) (by omega)
            have HFX : w9.heap[w.heap.size + 1 + 1 + 1 + 1]? = _ := ((HB5.out.trans (HBX.out.mono HB5.out.size)).block _ (by have := HPP.out.top; omega)).trans HFH.out
            have hF : w.heap.size + 1 + 1 + 1 + 1 < w9.heap.size := by
              have := (Array.getElem?_eq_some_iff.1 HFX).1
              exact this
            rcases hmv with rfl | rfl
            · have f0 : w9.cell? ⟨w.heap.size + 1 + 1 + 1 + 1, 0, none⟩ = some (.int .i64 t.f0) := by rw [Lib.cell_of_heap HFX]; rfl
              have f1 : w9.cell? ⟨w.heap.size + 1 + 1 + 1 + 1, 1, none⟩ = some (.int .i64 t.f1) := by rw [Lib.cell_of_heap HFX]; rfl
              have f2 : w9.cell? ⟨w.heap.size + 1 + 1 + 1 + 1, 2, none⟩ = some (.int .i64 t.f2) := by rw [Lib.cell_of_heap HFX]; rfl
              have f3 : w9.cell? ⟨w.heap.size + 1 + 1 + 1 + 1, 3, none⟩ = some (.int .i64 t.f3) := by rw [Lib.cell_of_heap HFX]; rfl
              have f4 : w9.cell? ⟨w.heap.size + 1 + 1 + 1 + 1, 4, none⟩ = some (.string t.f4) := by rw [Lib.cell_of_heap HFX]; rfl
              have f5 : w9.cell? ⟨w.heap.size + 1 + 1 + 1 + 1, 5, none⟩ = some (.string t.f5) := by rw [Lib.cell_of_heap HFX]; rfl
              have f6 : w9.cell? ⟨w.heap.size + 1 + 1 + 1 + 1, 6, none⟩ = some (.slice At t.f6.length ct) := by rw [Lib.cell_of_heap HFX]; rfl
              have HWY := Lib.hid (way_calls (k28.K w) (oneC_K w) ((p - w_ / 2) - at_) t At ct (by omega) (by omega) HTW.out (box_K w t At ct HI.out.tn HI.out.tk) (right_K w) w9)
              have hlen10 := wayL_len ((p - w_ / 2) - at_) t (by omega) (by omega)
              have HST : Hid (stL C M L ev t l (i + 1) = (out ++ wayL ((p - w_ / 2) - at_) t ++ y, (p - w_ / 2) + w_)) := Lib.hid (by rw [HST1.out, if_pos ⟨rfl, hg2⟩]; simp only [HMV.out]; rfl)
              obtain ⟨WL, hWL⟩ : ∃ W, wayL ((p - w_ / 2) - at_) t = W := ⟨_, rfl⟩
              rw [hWL] at HWY hlen10 HST
              clear hWL HST1 HGP
              go_wp2_with fail
              refine HWY.out.mono ?_
              rintro e w10 ⟨v10, rfl, ho10, hb10⟩
              obtain ⟨A10, c10, rfl, R10⟩ := or_reads ho10
              have HR10 := Lib.hid R10
              have HB10 := Lib.hid (HBX.out.trans (hb10.mono HBX.out.size))
              have HO10 := Lib.hid (OwnRow.below HOX.out hb10)
              clear ho10 R10 hb10 f0 f1 f2 f3 f4 f5 f6 HFX hmc
              go_wp2_with (first | (at_builtin; refine wpList_append_boxes (k28.K w) (oneC_K w) rfl (.tmp 83) (.tmp 95) rfl w5.heap.size u14 out WL (by rfl) HO10.out A10 WL.length c10 (by rfl) rfl HR10.out (by omega) HB10.out.size ?_; intro v11 w11 ho11 hg11; have HO11 := Lib.hid ho11; have HB11 := Lib.hid (or_grown HO10.out HB10.out HB10.out.size hg11); have HR11 : Hid (ReadsRow (k28.K w) 7 w11 A6 y.length y) := Lib.hid (HRw.out.imp_ ((HPP.out.step (HB5.out.trans (HB11.out.mono HB5.out.size))).1) (fun _ _ h => h)); clear ho11 hg11) | (at_builtin; refine wpList_append_boxes (k28.K w) (oneC_K w) rfl (.tmp 98) (.tmp 99) rfl w5.heap.size v11 (out ++ WL) y (by rfl) HO11.out A6 y.length c6 (by rfl) rfl HR11.out (by rw [List.length_append]; omega) HB11.out.size ?_; intro v8 w8 ho8 hg8; have HO8 := Lib.hid ho8; have HB8 := Lib.hid (or_grown HO11.out HB11.out HB11.out.size hg8); clear ho8 hg8))
              go_roundg g'
              case measure => omega
              case rel => exact ⟨i + 1, by omega, by go_num, by first | (rw [HST.out]; done) | (rw [HST.out]; simp), Lib.hid (by rw [HST.out]; exact HO8.out), HB8⟩
            · have f0 : w9.cell? ⟨w.heap.size + 1 + 1 + 1 + 1, 7, none⟩ = some (.int .i64 l.f0) := by rw [Lib.cell_of_heap HFX]; rfl
              have f1 : w9.cell? ⟨w.heap.size + 1 + 1 + 1 + 1, 8, none⟩ = some (.int .i64 l.f1) := by rw [Lib.cell_of_heap HFX]; rfl
              have f2 : w9.cell? ⟨w.heap.size + 1 + 1 + 1 + 1, 9, none⟩ = some (.int .i64 l.f2) := by rw [Lib.cell_of_heap HFX]; rfl
              have f3 : w9.cell? ⟨w.heap.size + 1 + 1 + 1 + 1, 10, none⟩ = some (.int .i64 l.f3) := by rw [Lib.cell_of_heap HFX]; rfl
              have f4 : w9.cell? ⟨w.heap.size + 1 + 1 + 1 + 1, 11, none⟩ = some (.string l.f4) := by rw [Lib.cell_of_heap HFX]; rfl
              have f5 : w9.cell? ⟨w.heap.size + 1 + 1 + 1 + 1, 12, none⟩ = some (.string l.f5) := by rw [Lib.cell_of_heap HFX]; rfl
              have f6 : w9.cell? ⟨w.heap.size + 1 + 1 + 1 + 1, 13, none⟩ = some (.slice Al l.f6.length cl) := by rw [Lib.cell_of_heap HFX]; rfl
              have HWY := Lib.hid (way_calls (k28.K w) (oneC_K w) ((p - w_ / 2) - at_) l Al cl (by omega) (by omega) HLW.out (box_K w l Al cl HI.out.ln HI.out.lk) (right_K w) w9)
              have hlen10 := wayL_len ((p - w_ / 2) - at_) l (by omega) (by omega)
              have HST : Hid (stL C M L ev t l (i + 1) = (out ++ wayL ((p - w_ / 2) - at_) l ++ y, (p - w_ / 2) + w_)) := Lib.hid (by rw [HST1.out, if_pos ⟨rfl, hg2⟩]; simp only [HMV.out]; rfl)
              obtain ⟨WL, hWL⟩ : ∃ W, wayL ((p - w_ / 2) - at_) l = W := ⟨_, rfl⟩
              rw [hWL] at HWY hlen10 HST
              clear hWL HST1 HGP
              go_wp2_with fail
              refine HWY.out.mono ?_
              rintro e w10 ⟨v10, rfl, ho10, hb10⟩
              obtain ⟨A10, c10, rfl, R10⟩ := or_reads ho10
              have HR10 := Lib.hid R10
              have HB10 := Lib.hid (HBX.out.trans (hb10.mono HBX.out.size))
              have HO10 := Lib.hid (OwnRow.below HOX.out hb10)
              clear ho10 R10 hb10 f0 f1 f2 f3 f4 f5 f6 HFX hmc
              go_wp2_with (first | (at_builtin; refine wpList_append_boxes (k28.K w) (oneC_K w) rfl (.tmp 83) (.tmp 95) rfl w5.heap.size u14 out WL (by rfl) HO10.out A10 WL.length c10 (by rfl) rfl HR10.out (by omega) HB10.out.size ?_; intro v11 w11 ho11 hg11; have HO11 := Lib.hid ho11; have HB11 := Lib.hid (or_grown HO10.out HB10.out HB10.out.size hg11); have HR11 : Hid (ReadsRow (k28.K w) 7 w11 A6 y.length y) := Lib.hid (HRw.out.imp_ ((HPP.out.step (HB5.out.trans (HB11.out.mono HB5.out.size))).1) (fun _ _ h => h)); clear ho11 hg11) | (at_builtin; refine wpList_append_boxes (k28.K w) (oneC_K w) rfl (.tmp 98) (.tmp 99) rfl w5.heap.size v11 (out ++ WL) y (by rfl) HO11.out A6 y.length c6 (by rfl) rfl HR11.out (by rw [List.length_append]; omega) HB11.out.size ?_; intro v8 w8 ho8 hg8; have HO8 := Lib.hid ho8; have HB8 := Lib.hid (or_grown HO11.out HB11.out HB11.out.size hg8); clear ho8 hg8))
              go_roundg g'
              case measure => omega
              case rel => exact ⟨i + 1, by omega, by go_num, by first | (rw [HST.out]; done) | (rw [HST.out]; simp), Lib.hid (by rw [HST.out]; exact HO8.out), HB8⟩
          · have HST : Hid (stL C M L ev t l (i + 1) = (out ++ y, at_ + w_)) := Lib.hid (by rw [HST1.out, if_neg hg]; simp)
            have HRT : Hid (ReadsRow (k28.K w) 7 w9 A6 y.length y) := Lib.hid (HRw.out.imp_ HSX.out.1 (fun _ _ h => h))
            have hwa : wrap64 (at_ + w_) = at_ + w_ := wrap64_in _ (by omega) (by omega)
            cases q
            · go_wp2_with (at_builtin; refine wpList_append_boxes (k28.K w) (oneC_K w) rfl _ _ rfl w5.heap.size u14 out y (by rfl) HOX.out A6 y.length c6 (by rfl) rfl HRT.out (by omega) HBX.out.size ?_; intro v8 w8 ho8 hg8; have HO8 := Lib.hid ho8; have HB8 := Lib.hid (or_grown HOX.out HBX.out HBX.out.size hg8); clear ho8 hg8)
              go_roundg g'
              case measure => omega
              case rel => exact ⟨i + 1, by omega, by go_num, by first | (rw [HST.out]; done) | (rw [HST.out]; simp), Lib.hid (by rw [HST.out]; exact HO8.out), HB8⟩
            · have hg2 : ¬ at_ < p - w_ / 2 := fun h => hg ⟨rfl, h⟩
              go_wp2_with (at_builtin; refine wpList_append_boxes (k28.K w) (oneC_K w) rfl _ _ rfl w5.heap.size u14 out y (by rfl) HOX.out A6 y.length c6 (by rfl) rfl HRT.out (by omega) HBX.out.size ?_; intro v8 w8 ho8 hg8; have HO8 := Lib.hid ho8; have HB8 := Lib.hid (or_grown HOX.out HBX.out HBX.out.size hg8); clear ho8 hg8)
              go_roundg g'
              case measure => omega
              case rel => exact ⟨i + 1, by omega, by go_num, by first | (rw [HST.out]; done) | (rw [HST.out]; simp), Lib.hid (by rw [HST.out]; exact HO8.out), HB8⟩
        have hbg : Hid (bg = p) := Lib.hid (by rw [← HBG.out, if_neg k82, if_neg k67]; omega)
        have hwp : bg = p := hbg.out
        subst hwp
        have HBX := Lib.hid (HB7.out.alloc HB7.out.size (.cells #[.int .i64 bg, .int .u8 kd] 68))
        have HOX := Lib.hid (OwnRow.below HO7.out ((Below.refl _ _).alloc (Nat.le_refl _) (.cells #[.int .i64 bg, .int .u8 kd] 68)))
        have HSX := Lib.hid (HPP.out.step (HB5.out.trans (HBX.out.mono HB5.out.size)))
        by_cases hg : q = true ∧ at_ < bg
        · obtain ⟨hq1, hg2⟩ := hg
          subst hq1
          have hMl := HM.out
          have him : i - 1 < M.length := by omega
          obtain ⟨bm, om, rfl, hbm, hmc⟩ := ints_at HI.out.m (by omega)
          have mc := (HSX.out.1.cell (p := ⟨bm, om + (i - 1), none⟩) hbm).trans (hmc (i - 1) him)
          have hbm2 : bm < (w7.alloc (.cells #[.int .i64 bg, .int .u8 kd] 68)).heap.size := Nat.lt_of_lt_of_le hbm HSX.out.1.size
          have hmv := HMK.out _ (List.getElem_mem him)
          have hgd : M.getD (i - 1) 0 = M[i - 1] := by simp [List.getD, him]
          obtain ⟨mv, hmv2⟩ : ∃ m, M[i - 1] = m := ⟨_, rfl⟩
          rw [hmv2] at mc hmv hgd
          have HMV := Lib.hid hgd
          clear hgd hmv2
          have e1 : ((i : Int) - 1).toNat = i - 1 := by omega
          have e2 : 0 ≤ (i : Int) - 1 := by omega
          have e3 : (i : Int) - 1 < M.length := by omega
          have e4 : wrap64 ((i : Int) - 1) = (i : Int) - 1 := wrap64_in _ (by omega) (by omega)
          have wf : wrap64 (bg - at_) = bg - at_ := wrap64_in _ (by omega) (by omega)
          have hwa : wrap64 (bg + w_) = bg + w_ := wrap64_in _ (by omega) (by omega)
          have HFX : (w7.alloc (.cells #[.int .i64 bg, .int .u8 kd] 68)).heap[w.heap.size + 1 + 1 + 1 + 1]? = _ := ((HB5.out.trans (HBX.out.mono HB5.out.size)).block _ (by have := HPP.out.top; omega)).trans HFH.out
          have hF : w.heap.size + 1 + 1 + 1 + 1 < (w7.alloc (.cells #[.int .i64 bg, .int .u8 kd] 68)).heap.size := by
            have := (Array.getElem?_eq_some_iff.1 HFX).1
            exact this
          rcases hmv with rfl | rfl
          · have f0 : (w7.alloc (.cells #[.int .i64 bg, .int .u8 kd] 68)).cell? ⟨w.heap.size + 1 + 1 + 1 + 1, 0, none⟩ = some (.int .i64 t.f0) := by rw [Lib.cell_of_heap HFX]; rfl
            have f1 : (w7.alloc (.cells #[.int .i64 bg, .int .u8 kd] 68)).cell? ⟨w.heap.size + 1 + 1 + 1 + 1, 1, none⟩ = some (.int .i64 t.f1) := by rw [Lib.cell_of_heap HFX]; rfl
            have f2 : (w7.alloc (.cells #[.int .i64 bg, .int .u8 kd] 68)).cell? ⟨w.heap.size + 1 + 1 + 1 + 1, 2, none⟩ = some (.int .i64 t.f2) := by rw [Lib.cell_of_heap HFX]; rfl
            have f3 : (w7.alloc (.cells #[.int .i64 bg, .int .u8 kd] 68)).cell? ⟨w.heap.size + 1 + 1 + 1 + 1, 3, none⟩ = some (.int .i64 t.f3) := by rw [Lib.cell_of_heap HFX]; rfl
            have f4 : (w7.alloc (.cells #[.int .i64 bg, .int .u8 kd] 68)).cell? ⟨w.heap.size + 1 + 1 + 1 + 1, 4, none⟩ = some (.string t.f4) := by rw [Lib.cell_of_heap HFX]; rfl
            have f5 : (w7.alloc (.cells #[.int .i64 bg, .int .u8 kd] 68)).cell? ⟨w.heap.size + 1 + 1 + 1 + 1, 5, none⟩ = some (.string t.f5) := by rw [Lib.cell_of_heap HFX]; rfl
            have f6 : (w7.alloc (.cells #[.int .i64 bg, .int .u8 kd] 68)).cell? ⟨w.heap.size + 1 + 1 + 1 + 1, 6, none⟩ = some (.slice At t.f6.length ct) := by rw [Lib.cell_of_heap HFX]; rfl
            have HWY := Lib.hid (way_calls (k28.K w) (oneC_K w) (bg - at_) t At ct (by omega) (by omega) HTW.out (box_K w t At ct HI.out.tn HI.out.tk) (right_K w) (w7.alloc (.cells #[.int .i64 bg, .int .u8 kd] 68)))
            have hlen10 := wayL_len (bg - at_) t (by omega) (by omega)
            have HST : Hid (stL C M L ev t l (i + 1) = (out ++ wayL (bg - at_) t ++ y, bg + w_)) := Lib.hid (by rw [HST1.out, if_pos ⟨rfl, hg2⟩]; simp only [HMV.out]; rfl)
            obtain ⟨WL, hWL⟩ : ∃ W, wayL (bg - at_) t = W := ⟨_, rfl⟩
            rw [hWL] at HWY hlen10 HST
            clear hWL HST1 HGP
            go_wp2_with fail
            refine HWY.out.mono ?_
            rintro e w10 ⟨v10, rfl, ho10, hb10⟩
            obtain ⟨A10, c10, rfl, R10⟩ := or_reads ho10
            have HR10 := Lib.hid R10
            have HB10 := Lib.hid (HBX.out.trans (hb10.mono HBX.out.size))
            have HO10 := Lib.hid (OwnRow.below HOX.out hb10)
            clear ho10 R10 hb10 f0 f1 f2 f3 f4 f5 f6 HFX hmc
            go_wp2_with (first | (at_builtin; refine wpList_append_boxes (k28.K w) (oneC_K w) rfl (.tmp 83) (.tmp 95) rfl w5.heap.size u14 out WL (by rfl) HO10.out A10 WL.length c10 (by rfl) rfl HR10.out (by omega) HB10.out.size ?_; intro v11 w11 ho11 hg11; have HO11 := Lib.hid ho11; have HB11 := Lib.hid (or_grown HO10.out HB10.out HB10.out.size hg11); have HR11 : Hid (ReadsRow (k28.K w) 7 w11 A6 y.length y) := Lib.hid (HRw.out.imp_ ((HPP.out.step (HB5.out.trans (HB11.out.mono HB5.out.size))).1) (fun _ _ h => h)); clear ho11 hg11) | (at_builtin; refine wpList_append_boxes (k28.K w) (oneC_K w) rfl (.tmp 98) (.tmp 99) rfl w5.heap.size v11 (out ++ WL) y (by rfl) HO11.out A6 y.length c6 (by rfl) rfl HR11.out (by rw [List.length_append]; omega) HB11.out.size ?_; intro v8 w8 ho8 hg8; have HO8 := Lib.hid ho8; have HB8 := Lib.hid (or_grown HO11.out HB11.out HB11.out.size hg8); clear ho8 hg8))
            go_roundg g'
            case measure => omega
            case rel => exact ⟨i + 1, by omega, by go_num, by first | (rw [HST.out]; done) | (rw [HST.out]; simp), Lib.hid (by rw [HST.out]; exact HO8.out), HB8⟩
          · have f0 : (w7.alloc (.cells #[.int .i64 bg, .int .u8 kd] 68)).cell? ⟨w.heap.size + 1 + 1 + 1 + 1, 7, none⟩ = some (.int .i64 l.f0) := by rw [Lib.cell_of_heap HFX]; rfl
            have f1 : (w7.alloc (.cells #[.int .i64 bg, .int .u8 kd] 68)).cell? ⟨w.heap.size + 1 + 1 + 1 + 1, 8, none⟩ = some (.int .i64 l.f1) := by rw [Lib.cell_of_heap HFX]; rfl
            have f2 : (w7.alloc (.cells #[.int .i64 bg, .int .u8 kd] 68)).cell? ⟨w.heap.size + 1 + 1 + 1 + 1, 9, none⟩ = some (.int .i64 l.f2) := by rw [Lib.cell_of_heap HFX]; rfl
            have f3 : (w7.alloc (.cells #[.int .i64 bg, .int .u8 kd] 68)).cell? ⟨w.heap.size + 1 + 1 + 1 + 1, 10, none⟩ = some (.int .i64 l.f3) := by rw [Lib.cell_of_heap HFX]; rfl
            have f4 : (w7.alloc (.cells #[.int .i64 bg, .int .u8 kd] 68)).cell? ⟨w.heap.size + 1 + 1 + 1 + 1, 11, none⟩ = some (.string l.f4) := by rw [Lib.cell_of_heap HFX]; rfl
            have f5 : (w7.alloc (.cells #[.int .i64 bg, .int .u8 kd] 68)).cell? ⟨w.heap.size + 1 + 1 + 1 + 1, 12, none⟩ = some (.string l.f5) := by rw [Lib.cell_of_heap HFX]; rfl
            have f6 : (w7.alloc (.cells #[.int .i64 bg, .int .u8 kd] 68)).cell? ⟨w.heap.size + 1 + 1 + 1 + 1, 13, none⟩ = some (.slice Al l.f6.length cl) := by rw [Lib.cell_of_heap HFX]; rfl
            have HWY := Lib.hid (way_calls (k28.K w) (oneC_K w) (bg - at_) l Al cl (by omega) (by omega) HLW.out (box_K w l Al cl HI.out.ln HI.out.lk) (right_K w) (w7.alloc (.cells #[.int .i64 bg, .int .u8 kd] 68)))
            have hlen10 := wayL_len (bg - at_) l (by omega) (by omega)
            have HST : Hid (stL C M L ev t l (i + 1) = (out ++ wayL (bg - at_) l ++ y, bg + w_)) := Lib.hid (by rw [HST1.out, if_pos ⟨rfl, hg2⟩]; simp only [HMV.out]; rfl)
            obtain ⟨WL, hWL⟩ : ∃ W, wayL (bg - at_) l = W := ⟨_, rfl⟩
            rw [hWL] at HWY hlen10 HST
            clear hWL HST1 HGP
            go_wp2_with fail
            refine HWY.out.mono ?_
            rintro e w10 ⟨v10, rfl, ho10, hb10⟩
            obtain ⟨A10, c10, rfl, R10⟩ := or_reads ho10
            have HR10 := Lib.hid R10
            have HB10 := Lib.hid (HBX.out.trans (hb10.mono HBX.out.size))
            have HO10 := Lib.hid (OwnRow.below HOX.out hb10)
            clear ho10 R10 hb10 f0 f1 f2 f3 f4 f5 f6 HFX hmc
            go_wp2_with (first | (at_builtin; refine wpList_append_boxes (k28.K w) (oneC_K w) rfl (.tmp 83) (.tmp 95) rfl w5.heap.size u14 out WL (by rfl) HO10.out A10 WL.length c10 (by rfl) rfl HR10.out (by omega) HB10.out.size ?_; intro v11 w11 ho11 hg11; have HO11 := Lib.hid ho11; have HB11 := Lib.hid (or_grown HO10.out HB10.out HB10.out.size hg11); have HR11 : Hid (ReadsRow (k28.K w) 7 w11 A6 y.length y) := Lib.hid (HRw.out.imp_ ((HPP.out.step (HB5.out.trans (HB11.out.mono HB5.out.size))).1) (fun _ _ h => h)); clear ho11 hg11) | (at_builtin; refine wpList_append_boxes (k28.K w) (oneC_K w) rfl (.tmp 98) (.tmp 99) rfl w5.heap.size v11 (out ++ WL) y (by rfl) HO11.out A6 y.length c6 (by rfl) rfl HR11.out (by rw [List.length_append]; omega) HB11.out.size ?_; intro v8 w8 ho8 hg8; have HO8 := Lib.hid ho8; have HB8 := Lib.hid (or_grown HO11.out HB11.out HB11.out.size hg8); clear ho8 hg8))
            go_roundg g'
            case measure => omega
            case rel => exact ⟨i + 1, by omega, by go_num, by first | (rw [HST.out]; done) | (rw [HST.out]; simp), Lib.hid (by rw [HST.out]; exact HO8.out), HB8⟩
        · have HST : Hid (stL C M L ev t l (i + 1) = (out ++ y, at_ + w_)) := Lib.hid (by rw [HST1.out, if_neg hg]; simp)
          have HRT : Hid (ReadsRow (k28.K w) 7 (w7.alloc (.cells #[.int .i64 bg, .int .u8 kd] 68)) A6 y.length y) := Lib.hid (HRw.out.imp_ HSX.out.1 (fun _ _ h => h))
          have hwa : wrap64 (at_ + w_) = at_ + w_ := wrap64_in _ (by omega) (by omega)
          cases q
          · go_wp2_with (at_builtin; refine wpList_append_boxes (k28.K w) (oneC_K w) rfl _ _ rfl w5.heap.size u14 out y (by rfl) HOX.out A6 y.length c6 (by rfl) rfl HRT.out (by omega) HBX.out.size ?_; intro v8 w8 ho8 hg8; have HO8 := Lib.hid ho8; have HB8 := Lib.hid (or_grown HOX.out HBX.out HBX.out.size hg8); clear ho8 hg8)
            go_roundg g'
            case measure => omega
            case rel => exact ⟨i + 1, by omega, by go_num, by first | (rw [HST.out]; done) | (rw [HST.out]; simp), Lib.hid (by rw [HST.out]; exact HO8.out), HB8⟩
          · have hg2 : ¬ at_ < bg := fun h => hg ⟨rfl, h⟩
            go_wp2_with (at_builtin; refine wpList_append_boxes (k28.K w) (oneC_K w) rfl _ _ rfl w5.heap.size u14 out y (by rfl) HOX.out A6 y.length c6 (by rfl) rfl HRT.out (by omega) HBX.out.size ?_; intro v8 w8 ho8 hg8; have HO8 := Lib.hid ho8; have HB8 := Lib.hid (or_grown HOX.out HBX.out HBX.out.size hg8); clear ho8 hg8)
            go_roundg g'
            case measure => omega
            case rel => exact ⟨i + 1, by omega, by go_num, by first | (rw [HST.out]; done) | (rw [HST.out]; simp), Lib.hid (by rw [HST.out]; exact HO8.out), HB8⟩
    · have hin : i = C.length := by omega
      subst hin
      have i0 : ¬ ((C.length : Int) < C.length) := by omega
      have hbd := st_bound (M := M) (t := t) (l := l) HF.out C.length (Nat.le_refl _)
      have hcn := HF.out.n
      have hfew := HFEW.out C.length
      obtain ⟨s, hs⟩ : ∃ s, stL C M L ev t l C.length = s := ⟨_, rfl⟩
      rw [hs] at hbd HO hfew
      have HSO := Lib.hid hs
      simp only [hs]
      clear hs
      obtain ⟨out, at_⟩ := s
      simp only at hbd HO hfew ⊢
      have HFO := Lib.hid hfew
      clear hfew
      have hon : out.length ≤ 900000000000 := by omega
      clear hbd
      obtain ⟨A1, n1, rfl, R1⟩ := or_reads HO.out
      have HCL := Lib.hid (clone_calls (k28.K w) (oneC_K w) A1 n1 out hon wr R1)
      have HBW := Lib.hid ((HPP.out.step (HB5.out.trans (HB.out.mono HB5.out.size))).1)
      clear R1
      go_wp2_with fail
      refine HCL.out.mono ?_
      rintro e w10 ⟨v10, rfl, ho10, hb10⟩
      have HB10 := Lib.hid (HBW.out.trans (hb10.mono HBW.out.size))
      have hrow : 0 < out.length → ∃ g n, v10 = .slice (some ⟨g, 0, none⟩) out.length n ∧ out.length ≤ n ∧ w.heap.size ≤ g ∧ RowOK w10 g out := fun hp => by
        obtain ⟨inner, ho, hr⟩ := ho10
        obtain ⟨g, cap, rfl, hg1, hg2⟩ := ho.form hp
        have := HBW.out.size
        exact ⟨g, cap, rfl, own_cap ho, by omega, RowOK.of ⟨inner, ho, hr⟩ HB10.out HBW.out.size⟩
      obtain ⟨A2, n2, rfl, hn2, _⟩ := OwnRow.reads ho10
      have HROW : Hid (0 < out.length → ∃ g, A2 = some ⟨g, 0, none⟩ ∧ w.heap.size ≤ g ∧ RowOK w10 g out) := Lib.hid (fun hp => by
        obtain ⟨g, n, e, _, h2, h3⟩ := hrow hp
        injection e with e1 e2 e3
        exact ⟨g, e1, h2, h3⟩)
      have HN2 := Lib.hid hn2
      clear hrow ho10 hb10 hn2
      have hon63 : out.length ≤ 9223372036854775807 := by omega
      go_wp2_with fail
      go_loopg [109] out.length (fun gk s109 wx => ∃ j : Nat, j + gk = out.length ∧ s109 = .int .i64 j ∧ Hid (0 < out.length → ∃ g, A2 = some ⟨g, 0, none⟩ ∧ w.heap.size ≤ g ∧ RowOK wx g out) ∧ Hid (Below w.heap.size w wx))
      case atStart => exact ⟨0, by omega, rfl, HROW, HB10⟩
      case round =>
        obtain ⟨j, hj, rfl, HRJ, HBJ⟩ := hrel
        by_cases hjl : j < out.length
        · have j0 : (j : Int) < out.length := by omega
          obtain ⟨g, rfl, hgw, hro⟩ := HRJ.out (by omega)
          obtain ⟨g', rfl⟩ : ∃ g', gk = g' + 1 := ⟨gk - 1, by omega⟩
          obtain ⟨cur, hcur, hk⟩ := hro.ex
          obtain ⟨A, c, c0, c1, c2, c3, c4, c5, c6, l6, g6, ne⟩ := hk j hjl
          have x6 : wr.cell? ⟨g, j * 7 + 6, none⟩ = some (.slice A out[j].f6.length c) := by rw [Lib.cell_of_heap hcur]; exact c6
          have hgl : g < wr.heap.size := (Array.getElem?_eq_some_iff.1 hcur).1
          have HRO := Lib.hid hro
          have HCN := Lib.hid (cloneN_calls A c out[j].f6 wr g6 (by have := HFO.out _ (List.getElem_mem hjl); omega))
          clear hro hk c0 c1 c2 c3 c4 c5 c6 l6 g6 ne hcur
          obtain ⟨N, hN⟩ : ∃ N, out[j].f6 = N := ⟨_, rfl⟩
          rw [hN] at HCN x6
          have HN := Lib.hid hN
          clear hN
          go_wp2_with fail
          refine HCN.out.mono ?_
          rintro e w11 ⟨A', c', rfl, hc', hC', hne', hb11⟩
          have HRO2 := Lib.hid (HRO.out.below hb11)
          have HB11 := Lib.hid (HBJ.out.trans (hb11.mono HBJ.out.size))
          obtain ⟨cur2, hcur2, hk2⟩ := HRO2.out.ex
          obtain ⟨_, _, _, _, _, _, _, _, c6, _⟩ := hk2 j hjl
          have y6 : ∃ v, w11.cell? ⟨g, j * 7 + 6, none⟩ = some v := ⟨_, by rw [Lib.cell_of_heap hcur2]; exact c6⟩
          obtain ⟨v6, y6⟩ := y6
          have z6 : w11.frozen? ⟨g, j * 7 + 6, none⟩ = false := Lib.frozen_of_heap hcur2 _
          have hgl2 : g < w11.heap.size := Nat.lt_of_lt_of_le hgl hb11.size
          have HRN := Lib.hid (HRO2.out.put j hjl A' c' (by rw [HN.out]; exact hc') (by rw [HN.out]; exact hC') (by rw [HN.out]; exact fun ad h1 h2 => by have := hne' ad h1 h2; omega))
          rw [HN.out] at HRN
          have HBN := Lib.hid (HB11.out.setCell (p := ⟨g, j * 7 + 6, none⟩) hgw (.slice A' N.length c'))
          clear hc' hC' hne' hb11 hcur2 hk2 c6
          go_wp2_with fail
          go_roundg g'
          case measure => omega
          case rel => exact ⟨j + 1, by omega, by go_num, Lib.hid (fun _ => ⟨g, rfl, hgw, HRN.out⟩), HBN⟩
        · have j0 : ¬ ((j : Int) < out.length) := by omega
          go_wp2_with fail
          go_ret2
          rw [HSO.out]
          refine ⟨A2, n2, rfl, HN2.out, ?_, HBJ.out⟩
          show Kd.C k28 _ A2 out.length out
          rcases Nat.eq_zero_or_pos out.length with h | h
          · exact ⟨rfl, hon63, fun h2 => by omega⟩
          · obtain ⟨g, rfl, _, hro⟩ := HRJ.out h
            exact hro.read hon63
end Go.Proofs.Ytmmfojaeahcohaa

set_option linter.unusedVariables false
set_option linter.unusedSimpArgs false
namespace Go.Proofs.Ytmmfojaeahcohaa
open Go.Shelf Go.RowKit Go.Lib Go.Aids Go.Opens Go.Proofs.YtmmfojaeahcohaaW.PrintWords Go.Proofs.Ytmmfojaeahcohaa.PTabsMade

def exX : S28 := ⟨6, 10, 0, 0, ⟨#[]⟩, ⟨#[]⟩, []⟩
def exY : S28 := ⟨6, 30, 0, 0, ⟨#[]⟩, ⟨#[]⟩, []⟩
def exP : S28 := ⟨5, 0, 0, 0, ⟨#[]⟩, ⟨#[]⟩, []⟩
def exC : List (List S28) := [[exX], [exY]]
def exL : List S68 := [⟨100, 82⟩]
theorem ex_ok : okSet exC [0] exL 0 exP exP = true := by kernel_rfl
theorem ex_out : (stL exC [0] exL 0 exP exP exC.length).1 = [exX, rightS 60, exY] := by kernel_rfl
theorem ex_fine : Fine exC exL 0 := by
  refine ⟨?_, ?_, by decide, by decide, by decide, by decide⟩
  · intro c hc x hx
    simp only [exC, List.mem_cons, List.not_mem_nil, or_false] at hc
    rcases hc with rfl | rfl <;> (rw [List.mem_singleton] at hx; subst hx; decide)
  · intro t ht
    simp only [exL, List.mem_singleton] at ht
    subst ht
    decide
theorem C_heap {α : Type} {d : Kd α} {W : World} {b : Nat} {t : TypeId} {fr : Nat × Nat} {L : List α} {cs : List Value} (hr : Reps (d.K W) d.sz L cs) (hl : L.length ≤ 9223372036854775807) (hh : W.heap[b]? = some (.cells cs.toArray t fr)) : d.C W (some ⟨b, 0, none⟩) L.length L := by
  refine ⟨rfl, hl, fun _ => ⟨_, rfl, fun j p hj => ?_⟩⟩
  have hk := hr.2 j p hj
  refine ⟨_, d.K_len hk, hk, fun i u hi => ?_⟩
  have hil := (List.getElem?_eq_some_iff.1 hi).1
  rw [List.length_take] at hil
  have ead : ∀ q, ((⟨b, 0, none⟩ : Addr).add q) = ⟨b, q, none⟩ := fun q => by
    simp [Addr.add]
    intro h; omega
  rw [ead, Lib.cell_of_heap hh, List.getElem?_toArray]
  rw [List.getElem?_take, if_pos (by omega), List.getElem?_drop] at hi
  exact hi
theorem heap_at (W : World) (o : Obj) (B : Nat) (hB : B = W.heap.size) : (W.alloc o).heap[B]? = some o := by subst hB; exact heap_alloc_new W o
theorem reps_single {α : Type} {R : α → List Value → Prop} {n : Nat} {x : α} {cs : List Value} (h : R x cs) (hl : cs.length = n) : Reps R n [x] cs := by
  have := (Reps.none R n).snoc h hl
  simpa using this
set_option maxRecDepth 100000 in
theorem ex_in (w : World) : SetIn (((((((w.alloc (.cells #[.int .i64 6, .int .i64 10, .int .i64 0, .int .i64 0, .string ⟨#[]⟩, .string ⟨#[]⟩, .slice none 0 0] 28)).alloc (.cells #[.int .i64 6, .int .i64 30, .int .i64 0, .int .i64 0, .string ⟨#[]⟩, .string ⟨#[]⟩, .slice none 0 0] 28)).alloc (.cells #[.int .i64 6, .int .i64 10, .int .i64 0, .int .i64 0, .string ⟨#[]⟩, .string ⟨#[]⟩, .slice none 0 0] 28)).alloc (.cells #[.int .i64 6, .int .i64 30, .int .i64 0, .int .i64 0, .string ⟨#[]⟩, .string ⟨#[]⟩, .slice none 0 0] 28)).alloc (.cells #[.slice (some ⟨w.heap.size + 1 + 1, 0, none⟩) 1 1, .slice (some ⟨w.heap.size + 1 + 1 + 1, 0, none⟩) 1 1] 31)).alloc (.cells #[.int .i64 0] 3)).alloc (.cells #[.int .i64 100, .int .u8 82] 68)) exC [0] exL 0 exP exP (some ⟨w.heap.size + 1 + 1 + 1 + 1, 0, none⟩) (some ⟨w.heap.size + 1 + 1 + 1 + 1 + 1, 0, none⟩) (some ⟨w.heap.size + 1 + 1 + 1 + 1 + 1 + 1, 0, none⟩) none none 2 1 1 0 0 := by
  obtain ⟨W, hW⟩ : ∃ W, (((((((w.alloc (.cells #[.int .i64 6, .int .i64 10, .int .i64 0, .int .i64 0, .string ⟨#[]⟩, .string ⟨#[]⟩, .slice none 0 0] 28)).alloc (.cells #[.int .i64 6, .int .i64 30, .int .i64 0, .int .i64 0, .string ⟨#[]⟩, .string ⟨#[]⟩, .slice none 0 0] 28)).alloc (.cells #[.int .i64 6, .int .i64 10, .int .i64 0, .int .i64 0, .string ⟨#[]⟩, .string ⟨#[]⟩, .slice none 0 0] 28)).alloc (.cells #[.int .i64 6, .int .i64 30, .int .i64 0, .int .i64 0, .string ⟨#[]⟩, .string ⟨#[]⟩, .slice none 0 0] 28)).alloc (.cells #[.slice (some ⟨w.heap.size + 1 + 1, 0, none⟩) 1 1, .slice (some ⟨w.heap.size + 1 + 1 + 1, 0, none⟩) 1 1] 31)).alloc (.cells #[.int .i64 0] 3)).alloc (.cells #[.int .i64 100, .int .u8 82] 68)) = W := ⟨_, rfl⟩
  have hz : kI.C W none 0 [] := ⟨rfl, by decide, fun h => absurd h (Nat.lt_irrefl 0)⟩
  have h2 : W.heap[w.heap.size + 1 + 1]? = some (.cells #[.int .i64 6, .int .i64 10, .int .i64 0, .int .i64 0, .string ⟨#[]⟩, .string ⟨#[]⟩, .slice none 0 0] 28 (0, 0)) := by
    rw [← hW, Lib.alloc_old _ _ _ (by first | (simp; done) | (simp; omega)), Lib.alloc_old _ _ _ (by first | (simp; done) | (simp; omega)), Lib.alloc_old _ _ _ (by first | (simp; done) | (simp; omega)), Lib.alloc_old _ _ _ (by simp), heap_at _ _ _ (by simp)]
  have h3 : W.heap[w.heap.size + 1 + 1 + 1]? = some (.cells #[.int .i64 6, .int .i64 30, .int .i64 0, .int .i64 0, .string ⟨#[]⟩, .string ⟨#[]⟩, .slice none 0 0] 28 (0, 0)) := by
    rw [← hW, Lib.alloc_old _ _ _ (by first | (simp; done) | (simp; omega)), Lib.alloc_old _ _ _ (by first | (simp; done) | (simp; omega)), Lib.alloc_old _ _ _ (by simp), heap_at _ _ _ (by simp)]
  have h4 : W.heap[w.heap.size + 1 + 1 + 1 + 1]? = some (.cells #[.slice (some ⟨w.heap.size + 1 + 1, 0, none⟩) 1 1, .slice (some ⟨w.heap.size + 1 + 1 + 1, 0, none⟩) 1 1] 31 (0, 0)) := by
    rw [← hW, Lib.alloc_old _ _ _ (by first | (simp; done) | (simp; omega)), Lib.alloc_old _ _ _ (by simp), heap_at _ _ _ (by simp)]
  have h5 : W.heap[w.heap.size + 1 + 1 + 1 + 1 + 1]? = some (.cells #[.int .i64 0] 3 (0, 0)) := by
    rw [← hW, Lib.alloc_old _ _ _ (by simp), heap_at _ _ _ (by simp)]
  have h6 : W.heap[w.heap.size + 1 + 1 + 1 + 1 + 1 + 1]? = some (.cells #[.int .i64 100, .int .u8 82] 68 (0, 0)) := by
    rw [← hW, heap_at _ _ _ (by simp)]
  rw [hW]
  clear hW
  have cx : Kd.C k28 W (some ⟨w.heap.size + 1 + 1, 0, none⟩) [exX].length [exX] := C_heap (reps_single (box_K W exX none 0 (Nat.le_refl _) hz) rfl) (by decide) h2
  have cy : Kd.C k28 W (some ⟨w.heap.size + 1 + 1 + 1, 0, none⟩) [exY].length [exY] := C_heap (reps_single (box_K W exY none 0 (Nat.le_refl _) hz) rfl) (by decide) h3
  refine ⟨?_, by decide, ?_, ?_, by decide, ?_, by decide, ?_, hz, by decide, hz, by decide⟩
  · refine C_heap (cs := [.slice (some ⟨w.heap.size + 1 + 1, 0, none⟩) 1 1, .slice (some ⟨w.heap.size + 1 + 1 + 1, 0, none⟩) 1 1]) ?_ (by decide) h4
    have k1 : (Kd.slice 28 k28).K W [exX] [.slice (some ⟨w.heap.size + 1 + 1, 0, none⟩) 1 1] := ⟨_, 1, rfl, Nat.le_refl _, cx⟩
    have k2 : (Kd.slice 28 k28).K W [exY] [.slice (some ⟨w.heap.size + 1 + 1 + 1, 0, none⟩) 1 1] := ⟨_, 1, rfl, Nat.le_refl _, cy⟩
    exact (reps_single k1 rfl).snoc k2 rfl
  · intro y hy x hx
    simp only [exC, List.mem_cons, List.not_mem_nil, or_false] at hy
    rcases hy with rfl | rfl <;> (rw [List.mem_singleton] at hx; subst hx; decide)
  · exact C_heap (reps_single (R := kI.K W) (x := (0 : Int)) (cs := [.int .i64 0]) rfl rfl) (by decide) h5
  · exact C_heap (reps_single (k68_mk W ⟨100, 82⟩) rfl) (by decide) h6
  · intro x hx
    simp only [exL, List.mem_singleton] at hx
    subst hx
    decide
set_option maxRecDepth 100000 in
set_option maxHeartbeats 4000000 in
theorem sane_calls (w : World) : Calls Try.prog 8 #[] w fun e w' => e = .returned (.bool true) ∧ Below w.heap.size w w' := by
  have hs := set_ok _ exC [0] exL 0 exP exP _ _ _ none none 2 1 1 0 0 (ex_in w) ex_ok ex_fine
  rw [ex_out] at hs
  have HS := Lib.hid hs
  clear hs
  go_enter Try.func8, Try.ntmps8
  go_wp2_with fail
  refine HS.out.mono ?_
  rintro e w2 ⟨A, n, rfl, hn, hC, hb⟩
  have HBn := Lib.hid hb
  obtain ⟨b, off, rfl, hbl, hcell⟩ := boxes_at (l := [exX, rightS 60, exY]) hC (by decide)
  obtain ⟨A6, c6, c0, c1, _⟩ := hcell 1 (by decide)
  have d0 : w2.cell? ⟨b, off + 7, none⟩ = some (.int .i64 2) := c0
  have d1 : w2.cell? ⟨b, off + 7 + 1, none⟩ = some (.int .i64 60) := c1
  clear hcell c0 c1 hC hb hn
  go_wp2_with fail
  go_ret
  exact ⟨rfl, (((((((((Below.refl _ w).alloc (Nat.le_refl _) _).alloc (by simp) _).alloc (by simp; omega) _).alloc (by simp; omega) _).alloc (by simp; omega) _).alloc (by simp; omega) _).alloc (by simp; omega) _).trans (HBn.out.mono (by simp; omega)))⟩
end Go.Proofs.Ytmmfojaeahcohaa

set_option linter.unusedVariables false
set_option linter.unusedSimpArgs false
namespace Go.Proofs.Ytmmfojaeahcohaa
open Go.Lib Go.RowKit Go.Proofs.YtmmfojaeahcohaaW.PrintWords Go.Proofs.Ytmmfojaeahcohaa.PTabsMade

def bx (x : Int) : S28 := ⟨6, x, 0, 0, ⟨#[]⟩, ⟨#[]⟩, []⟩
def dotS : S28 := ⟨0, 1, 0, 10, ⟨#[46]⟩, ⟨#[]⟩, []⟩
def standC (ws : List Int) : List (List S28) := ws.map fun x => [bx x]
def standM (n : Nat) : List Int := (List.range (n - 1)).map fun i => (((i + 1) % 2 : Nat) : Int)
/-- The law's own loop. -/
def standF : List S28 → Int × Int → Option (Int × Int)
  | [], s => some s
  | x :: r, s => if x.f0 = 6 then (if s.1 = 100 * s.2 then standF r (s.1 + x.f1, s.2 + 1) else none) else standF r (s.1 + x.f1, s.2)
theorem standF_app : ∀ (a b : List S28) (s : Int × Int), standF (a ++ b) s = (standF a s).bind (standF b)
  | [], b, s => rfl
  | x :: r, b, s => by
    rw [List.cons_append, standF, standF]
    split
    · split
      · exact standF_app r b _
      · rfl
    · exact standF_app r b _
theorem standF_rep (x : S28) (h : x.f0 ≠ 6) : ∀ (k : Nat) (a c : Int), standF (List.replicate k x) (a, c) = some (a + k * x.f1, c)
  | 0, a, c => by simp [standF]
  | k + 1, a, c => by
    rw [List.replicate_succ, standF, if_neg h, standF_rep x h k]
    have e : ((k + 1 : Nat) : Int) * x.f1 = k * x.f1 + x.f1 := by push_cast; rw [Int.add_mul, Int.one_mul]
    rw [e]
    congr 2
    omega
theorem way_point (far : Int) (h : 0 < far) : wayL far exP = [rightS far] := by
  have : manyL far exP = 0 := by unfold manyL exP; simp
  unfold wayL
  rw [this, if_neg (by simp; omega)]
  simp
theorem way_dot (far : Int) (h : 0 < far) : wayL far dotS = List.replicate far.toNat dotS := by
  have : manyL far dotS = far.toNat := by unfold manyL dotS; simp
  unfold wayL
  rw [this, if_pos (by show far - (far.toNat : Int) * 1 = 0; omega)]
  rfl
theorem way_stand (far : Int) (h : 0 < far) (h2 : far ≤ 200) (m a c : Int) : standF (wayL far (if m = 0 then exP else dotS)) (a, c) = some (a + far, c) ∧ (wayL far (if m = 0 then exP else dotS)).length ≤ 200 ∧ ∀ x ∈ wayL far (if m = 0 then exP else dotS), 0 ≤ x.f1 ∧ x.f1 ≤ 1000 := by
  by_cases hm : m = 0
  · rw [if_pos hm, way_point far h]
    refine ⟨rfl, by simp, fun x hx => ?_⟩
    rw [List.mem_singleton] at hx; subst hx
    show 0 ≤ far ∧ far ≤ 1000
    omega
  · rw [if_neg hm, way_dot far h]
    refine ⟨?_, by simp; omega, fun x hx => ?_⟩
    · rw [standF_rep _ (by decide)]
      show some (a + (far.toNat : Int) * 1, c) = _
      congr 2
      omega
    · have := List.eq_of_mem_replicate hx; subst this
      show (0 : Int) ≤ 1 ∧ (1 : Int) ≤ 1000
      omega
theorem begin_stand (at_ w : Int) (i : Nat) (h0 : 100 * (i : Int) ≤ at_) (h1 : at_ < 100 * (i : Int) + 100) : (nextL [] 0 100 at_).2.2 = true ∧ beginL [] 100 at_ w = 100 * ((i : Int) + 1) := by
  have e : nextL [] 0 100 at_ = (0 + ((max (at_ - 0) 0) / 100 + 1) * 100, 76, true) := by rw [nextL, if_neg (by decide)]
  refine ⟨by rw [e], ?_⟩
  unfold beginL
  rw [e, if_neg (show ¬ ((76 : Int) = 82) by decide), if_neg (show ¬ ((76 : Int) = 67) by decide)]
  show 0 + (max (at_ - 0) 0 / 100 + 1) * 100 - 0 = _
  omega
theorem stand_st (ws : List Int) (hw : ∀ x ∈ ws, 0 ≤ x ∧ x < 100) (hn : ws.length ≤ 20) : ∀ i, i ≤ ws.length →
    standF (stL (standC ws) (standM ws.length) [] 100 exP dotS i).1 (0, 0) = some ((stL (standC ws) (standM ws.length) [] 100 exP dotS i).2, (i : Int)) ∧
    ((i = 0 ∧ (stL (standC ws) (standM ws.length) [] 100 exP dotS i).2 = 0) ∨ (0 < i ∧ 100 * ((i : Int) - 1) ≤ (stL (standC ws) (standM ws.length) [] 100 exP dotS i).2 ∧ (stL (standC ws) (standM ws.length) [] 100 exP dotS i).2 < 100 * (i : Int))) ∧
    (stL (standC ws) (standM ws.length) [] 100 exP dotS i).1.length ≤ i * 201 ∧ ∀ x ∈ (stL (standC ws) (standM ws.length) [] 100 exP dotS i).1, 0 ≤ x.f1 ∧ x.f1 ≤ 1000
  | 0, _ => ⟨rfl, .inl ⟨rfl, rfl⟩, by simp [stL], fun x hx => by simp [stL] at hx⟩
  | i + 1, hi => by
    obtain ⟨h1, h2, h3, h4⟩ := stand_st ws hw hn i (by omega)
    have hlt : i < ws.length := by omega
    have hx := hw _ (List.getElem_mem hlt)
    have hc : (standC ws).getD i [] = [bx ws[i]] := by
      simp [standC, List.getD, hlt]
    have hwd : widthL [bx ws[i]] = ws[i] := by
      show wideS (bx ws[i]) + 0 = _
      unfold wideS bx
      simp
    have est : stL (standC ws) (standM ws.length) [] 100 exP dotS (i + 1) = ((stL (standC ws) (standM ws.length) [] 100 exP dotS i).1 ++ (if i = 0 then ([], (stL (standC ws) (standM ws.length) [] 100 exP dotS i).2) else gapL [] 100 exP dotS ((standM ws.length).getD (i - 1) 0) (stL (standC ws) (standM ws.length) [] 100 exP dotS i).2 (widthL ((standC ws).getD i []))).1 ++ (standC ws).getD i [], (if i = 0 then ([], (stL (standC ws) (standM ws.length) [] 100 exP dotS i).2) else gapL [] 100 exP dotS ((standM ws.length).getD (i - 1) 0) (stL (standC ws) (standM ws.length) [] 100 exP dotS i).2 (widthL ((standC ws).getD i []))).2 + widthL ((standC ws).getD i [])) := rfl
    rw [est, hc, hwd]
    clear est
    obtain ⟨s, hs0⟩ : ∃ s, stL (standC ws) (standM ws.length) [] 100 exP dotS i = s := ⟨_, rfl⟩
    rw [hs0] at h1 h2 h3 h4 ⊢
    clear hs0
    obtain ⟨m, hm⟩ : ∃ m, (standM ws.length).getD (i - 1) 0 = m := ⟨_, rfl⟩
    rw [hm]
    clear hm
    obtain ⟨out, at_⟩ := s
    simp only at h1 h2 h3 h4 ⊢
    have hb : ∀ a c : Int, a = 100 * c → standF [bx ws[i]] (a, c) = some (a + ws[i], c + 1) := fun a c e => by
      show (if (6 : Int) = 6 then (if a = 100 * c then some (a + ws[i], c + 1) else none) else _) = _
      rw [if_pos rfl, if_pos e]
    have hbx : ∀ x ∈ [bx ws[i]], 0 ≤ x.f1 ∧ x.f1 ≤ 1000 := fun x hx2 => by
      rw [List.mem_singleton] at hx2; subst hx2
      show 0 ≤ ws[i] ∧ ws[i] ≤ 1000
      omega
    rcases h2 with ⟨rfl, rfl⟩ | ⟨hp, ha, hb2⟩
    · rw [if_pos rfl]
      refine ⟨?_, .inr ⟨by omega, by simp; omega, by simp; omega⟩, ?_, ?_⟩
      · rw [List.append_nil, standF_app, h1]
        exact hb 0 _ rfl
      · simp; omega
      · intro x hx2
        rw [List.append_nil] at hx2
        rcases List.mem_append.1 hx2 with q | q
        · exact h4 x q
        · exact hbx x q
    · obtain ⟨j, rfl⟩ : ∃ j, i = j + 1 := ⟨i - 1, by omega⟩
      obtain ⟨e1, e2⟩ := begin_stand at_ ws[j + 1] j (by omega) (by omega)
      have hg : gapL [] 100 exP dotS m at_ ws[j + 1] = (wayL (100 * ((j : Int) + 1) - at_) (if m = 0 then exP else dotS), 100 * ((j : Int) + 1)) := by
        unfold gapL
        rw [e1, e2, if_pos ⟨rfl, by omega⟩]
      rw [if_neg (by omega), hg]
      obtain ⟨w1, w2, w3⟩ := way_stand (100 * ((j : Int) + 1) - at_) (by omega) (by omega) m at_ ((j + 1 : Nat) : Int)
      simp only
      refine ⟨?_, .inr ⟨by omega, by push_cast; omega, by push_cast; omega⟩, ?_, ?_⟩
      · rw [standF_app, standF_app, h1]
        show ((standF _ (at_, ((j + 1 : Nat) : Int))).bind _) = _
        rw [w1]
        show standF _ (at_ + (100 * ((j : Int) + 1) - at_), ((j + 1 : Nat) : Int)) = _
        rw [show at_ + (100 * ((j : Int) + 1) - at_) = 100 * ((j : Int) + 1) by omega, hb _ _ (by push_cast; omega)]
        rfl
      · rw [List.length_append, List.length_append, List.length_singleton]; omega
      · intro x hx2
        rcases List.mem_append.1 hx2 with q | q
        · rcases List.mem_append.1 q with q | q
          · exact h4 x q
          · exact w3 x q
        · exact hbx x q
theorem stand_ok (ws : List Int) (hw : ∀ x ∈ ws, 0 ≤ x ∧ x < 100) : okSet (standC ws) (standM ws.length) [] 100 exP dotS = true := by
  have h1 : tvalidB [] 100 = true := by decide +kernel
  have h2 : ((standC ws).any fun c => c.any fun x => !validS x) = false := by
    rw [List.any_eq_false]
    intro c hc
    obtain ⟨x, hx, rfl⟩ := List.mem_map.1 hc
    have hv : validS (bx x) = true := by
      show validB 6 x 0 0 ⟨#[]⟩ ⟨#[]⟩ [] = true
      unfold validB
      have := hw x hx
      rw [if_neg (by omega)]
      have : (colB ⟨#[]⟩ && kindB 6 0 0 0 ⟨#[]⟩ ⟨#[]⟩ []) = true := by kernel_rfl
      exact this
    simp [hv]
  have h3 : ([exP, dotS].any fillB) = false := by kernel_rfl
  have h4 : ((standM ws.length).any markB) = false := by
    rw [List.any_eq_false]
    intro m hm
    obtain ⟨i, hi, rfl⟩ := List.mem_map.1 hm
    unfold markB
    simp
    omega
  have h5 : ((standM ws.length).length : Int) = max (((standC ws).length : Int) - 1) 0 := by
    simp [standM, standC]
    omega
  unfold okSet
  rw [h1, h2, h3, h4, decide_eq_true h5]
  rfl
theorem sum_stand (ws : List Int) : ∀ i, i ≤ ws.length → sumL (standC ws) i = i
  | 0, _ => rfl
  | i + 1, hi => by
    have hlt : i < ws.length := by omega
    have hc : (standC ws).getD i [] = [bx ws[i]] := by simp [standC, List.getD, hlt]
    rw [sumL, sum_stand ws i (by omega), hc]
    rfl
theorem stand_fine (ws : List Int) (hw : ∀ x ∈ ws, 0 ≤ x ∧ x < 100) (hn : ws.length ≤ 20) : Fine (standC ws) [] 100 := by
  refine ⟨?_, fun x hx => by simp at hx, by decide, by decide, by simp [standC]; omega, ?_⟩
  · intro c hc x hx
    obtain ⟨y, hy, rfl⟩ := List.mem_map.1 hc
    rw [List.mem_singleton] at hx; subst hx
    have := hw y hy
    show -1000000 ≤ y ∧ y ≤ 1000000
    omega
  · have e : (standC ws).length = ws.length := by simp [standC]
    rw [e, sum_stand ws _ (Nat.le_refl _)]
    omega
/-- What the law's loop needs of a rest. -/
theorem standF_mono : ∀ (l : List S28) (a c F n : Int), (∀ x ∈ l, 0 ≤ x.f1) → standF l (a, c) = some (F, n) → a ≤ F ∧ c ≤ n
  | [], a, c, F, n, _, h => by
    injection h with h
    injection h with h1 h2
    omega
  | x :: r, a, c, F, n, hp, h => by
    have h0 := hp x (by simp)
    have hr : ∀ y ∈ r, 0 ≤ y.f1 := fun y hy => hp y (by simp [hy])
    rw [standF] at h
    split at h
    · split at h
      · have := standF_mono r _ _ F n hr h
        simp only at this
        omega
      · cases h
    · have := standF_mono r _ _ F n hr h
      simp only at this
      omega
end Go.Proofs.Ytmmfojaeahcohaa

set_option linter.unusedVariables false
set_option linter.unusedSimpArgs false
namespace Go.Proofs.Ytmmfojaeahcohaa
open Go.Shelf Go.RowKit Go.Lib Go.Aids Go.Opens Go.Proofs.YtmmfojaeahcohaaW.PrintWords

theorem wrap_up {a n : Nat} (h : a < n) (hn : n ≤ 1000000) : wrap64 ((a : Int) + 1) = ((a + 1 : Nat) : Int) := by rw [wrap64_in _ (by omega) (by omega)]; rfl
theorem split_both (l : List Int) (hn : l.length ≤ 1000) : ∀ m i (out : List (List Int)), i + m = l.length → 0 < out.length → out.length ≤ i + 1 → (∀ x ∈ out, x.length ≤ i) →
    ∃ r, PTabsSplit.tabs_Split.l0 (m + 1) out l l.length i = some r ∧ PTabsSplit.frisketref12_Split.l0 (m + 1) l out i = some r ∧ r.length ≤ 1001 ∧ ∀ x ∈ r, x.length ≤ 1000
  | 0, i, out, h, h0, h1, h2 => by
    refine ⟨out, ?_, ?_, by omega, fun x hx => by have := h2 x hx; omega⟩
    · rw [PTabsSplit.tabs_Split.l0, if_neg (by omega)]
    · rw [PTabsSplit.frisketref12_Split.l0, if_neg (by omega)]
  | m + 1, i, out, h, h0, h1, h2 => by
    rw [PTabsSplit.tabs_Split.l0, PTabsSplit.frisketref12_Split.l0]
    have hw : wrap64 ((i : Int) + 1) = ((i + 1 : Nat) : Int) := wrap_up (n := i + 1) (by omega) (by omega)
    have c1 : (i : Int) < (l.length : Int) := by omega
    have c2 : (0 : Int) ≤ (i : Int) := by omega
    have c3 : out.length < 5864062014805 := by omega
    simp only [if_pos c1, if_pos c2, if_pos c3, hw]
    by_cases hz : rd l i = 0
    · simp only [if_pos hz]
      refine split_both l hn m (i + 1) _ (by omega) (by simp) (by simp; omega) ?_
      intro x hx
      rcases List.mem_append.1 hx with hx | hx
      · have := h2 x hx; omega
      · rw [List.mem_singleton] at hx; subst hx; simp
    · have hw1 : wrap64 ((out.length : Int) - 1) = ((out.length - 1 : Nat) : Int) := by rw [wrap64_in _ (by omega) (by omega)]; omega
      have hm : PTabsSplit.rd_L4 out ((out.length - 1 : Nat) : Int) ∈ out := by
        show out.getD (out.length - 1) [] ∈ out
        have e : out.getD (out.length - 1) [] = out[out.length - 1]'(by omega) := by simp [List.getD, List.getElem?_eq_getElem (show out.length - 1 < out.length by omega)]
        rw [e]
        exact List.getElem_mem _
      have hl := h2 _ hm
      have c4 : (0 : Int) ≤ ((out.length - 1 : Nat) : Int) := by omega
      have c5 : ((out.length - 1 : Nat) : Int) < (out.length : Int) := by omega
      have c6 : (PTabsSplit.rd_L4 out ((out.length - 1 : Nat) : Int)).length < 17592186044416 := by omega
      simp only [if_neg hz, hw1, if_pos c4, if_pos c5, if_pos c6]
      refine split_both l hn m (i + 1) _ (by omega) (by simp; omega) (by simp; omega) ?_
      intro x hx
      rcases List.mem_or_eq_of_mem_set hx with hx | hx
      · have := h2 x hx; omega
      · subst hx; simp; omega
theorem split_f (l : List Int) (hn : l.length ≤ 1000) : ∃ r, PTabsSplit.tabs_Split.f (l.length + 1) l = some r ∧ PTabsSplit.frisketref12_Split.f (l.length + 1) l = some r ∧ r.length ≤ 1001 ∧ ∀ x ∈ r, x.length ≤ 1000 := by
  refine split_both l hn l.length 0 _ (by omega) (by simp) (by simp) ?_
  intro x hx
  rw [List.mem_singleton] at hx; subst hx; simp
theorem numbers_f (l : List Int) (hn : l.length ≤ 1000) : ∀ f a, a ≤ l.length → l.length ≤ a + f → PTabsSplit.frisketlaw12_numbers.l0 (f + 1) l l a = some true
  | 0, a, h1, h2 => by rw [PTabsSplit.frisketlaw12_numbers.l0, if_neg (by omega)]
  | f + 1, a, h1, h2 => by
    rw [PTabsSplit.frisketlaw12_numbers.l0]
    by_cases hlt : a < l.length
    · rw [if_pos (by omega), if_pos (by omega), if_pos (by omega), if_pos rfl, wrap_up hlt (by omega)]
      exact numbers_f l hn f (a + 1) (by omega) (by omega)
    · rw [if_neg (by omega)]
theorem numbers_calls (l : List Int) (hn : l.length ≤ 1000) (A : Option Addr) (c : Nat) (B : Option Addr) (d : Nat) (w : World) (hA : kI.C w A l.length l) (hc : l.length ≤ c) (hB : kI.C w B l.length l) (hd : l.length ≤ d) :
    Calls Try.prog 18 #[.slice A l.length c, .slice B l.length d] w fun e w' => e = .returned (.bool true) ∧ ∃ m, w' = w.drewN m := by
  have h := PTabsSplit.frisketlaw12_numbers.calls (l.length + 1) A c l B d l true w hA hc hB hd (by
    unfold PTabsSplit.frisketlaw12_numbers.f
    rw [if_pos rfl]
    exact numbers_f l hn l.length 0 (Nat.zero_le _) (by omega))
  exact h.mono fun e w' h => ⟨h.1, h.2.out⟩
theorem rows_at {w : World} {A : Option Addr} {l : List (List Int)} (h : Kd.C (Kd.slice 3 kI) w A l.length l) (hn : 0 < l.length) : ∃ b off, A = some ⟨b, off, none⟩ ∧ b < w.heap.size ∧
    ∀ k (hk : k < l.length), ∃ A6 c6, w.cell? ⟨b, off + k, none⟩ = some (.slice A6 l[k].length c6) ∧ l[k].length ≤ c6 ∧ kI.C w A6 l[k].length l[k] := by
  obtain ⟨b, off, hA, hb, hc⟩ := C_at h (by show 0 < 1; omega) hn
  refine ⟨b, off, hA, hb, fun i hi => ?_⟩
  obtain ⟨c, _, hk, hcell⟩ := hc i hi
  obtain ⟨A6, c6, e, l6, g6⟩ := hk
  subst e
  have h0 := hcell 0 _ rfl
  rw [show i * (Kd.slice 3 kI).sz = i from Nat.mul_one i] at h0
  exact ⟨A6, c6, h0, l6, g6⟩
theorem law6_long (A : Option Addr) (c : Nat) (l : List Int) (w : World) (h : 1000 < l.length) (hl : l.length ≤ 9223372036854775807) :
    Calls Try.prog 6 #[.slice A l.length c] w fun e w' => e = .returned (.bool true) ∧ Below w.heap.size w w' := by
  have HSn := Lib.hid (fun W => sane_calls W)
  have p : decide ((1000 : Int) < (l.length : Int)) = true := decide_eq_true (by omega)
  go_enter Try.func6, Try.ntmps6
  go_wp2_with fail
  refine (HSn.out _).mono ?_
  rintro e w2 ⟨rfl, hb⟩
  go_wp2_with fail
  go_ret
  exact ⟨rfl, hb⟩
set_option maxRecDepth 100000 in
set_option maxHeartbeats 4000000 in
theorem law6_calls (A : Option Addr) (c : Nat) (l : List Int) (w : World) (hC : kI.C w A l.length l) (hc : l.length ≤ c) :
    Calls Try.prog 6 #[.slice A l.length c] w fun e w' => e = .returned (.bool true) ∧ Below w.heap.size w w' := by
  have hl : l.length ≤ 9223372036854775807 := hC.2.1
  by_cases hlong : 1000 < l.length
  · exact law6_long A c l w hlong hl
  have HSn := Lib.hid (fun W => sane_calls W)
  obtain ⟨r, h1, h2, h3, h4⟩ := split_f l (by omega)
  have H1 := Lib.hid (PTabsSplit.tabs_Split.calls (l.length + 1) A c l r w hC hc h1)
  have H2 := Lib.hid (fun W (h : Below w.heap.size w W) => PTabsSplit.frisketref12_Split.calls (l.length + 1) A c l r W (Kd.C_below hC h) hc h2)
  have H4 := Lib.hid h4
  have p : decide ((1000 : Int) < (l.length : Int)) = false := decide_eq_false (by omega)
  clear h1 h2 h4
  go_enter Try.func6, Try.ntmps6
  go_wp2_with fail
  refine H1.out.mono ?_
  rintro e w2 ⟨v1, rfl, hS1, hb1⟩
  obtain ⟨A1, c1, rfl, hc1, hC1⟩ := Kd.S_reads hS1
  have HB1 := Lib.hid hb1
  have HC1 := Lib.hid hC1
  clear hS1 hb1 hC1
  go_wp2_with fail
  refine (H2.out w2 HB1.out).mono ?_
  rintro e w3 ⟨v2, rfl, hS2, hb2⟩
  obtain ⟨A2, c2, rfl, hc2, hC2⟩ := Kd.S_reads hS2
  have HB2 := Lib.hid hb2
  have HC2 := Lib.hid hC2
  clear hS2 hb2 hC2
  go_wp2_with fail
  go_loopg [5] r.length (fun gk s5 wx => ∃ i : Nat, i + gk = r.length ∧ s5 = .int .i64 i ∧ Hid (Below w3.heap.size w3 wx))
  case atStart => exact ⟨0, by omega, rfl, Lib.hid (Below.refl _ _)⟩
  case round =>
    obtain ⟨i, hi, rfl, HB⟩ := hrel
    by_cases hlt : i < r.length
    · have i0 : (i : Int) < r.length := by omega
      obtain ⟨b1, o1, rfl, hl1, hcell1⟩ := rows_at (Kd.C_below (Kd.C_below HC1.out HB2.out) HB.out) (by omega)
      obtain ⟨b2, o2, rfl, hl2, hcell2⟩ := rows_at (Kd.C_below HC2.out HB.out) (by omega)
      obtain ⟨Ax, cx, x0, x1, x2⟩ := hcell1 i hlt
      obtain ⟨Ay, cy, y0, y1, y2⟩ := hcell2 i hlt
      have hm := H4.out _ (List.getElem_mem hlt)
      obtain ⟨xs, hxs⟩ : ∃ xs, r[i] = xs := ⟨_, rfl⟩
      rw [hxs] at x0 x1 x2 y0 y1 y2 hm
      have HN := Lib.hid (fun W (h : Below wr.heap.size wr W) => numbers_calls xs hm Ax cx Ay cy W (Kd.C_below x2 h) x1 (Kd.C_below y2 h) y1)
      clear hcell1 hcell2 hxs hm x2 y2
      go_wp2_with fail
      go_quiet ((go_at_call 18; first | exact HN.out _ (Below.refl _ _) | exact Calls.quiet_of (HN.out _ (belowN (Below.refl _ _) _))))
      go_wp2_with fail
      obtain ⟨g', rfl⟩ : ∃ g', gk = g' + 1 := ⟨gk - 1, by omega⟩
      go_roundg g'
      case rel => exact ⟨i + 1, by omega, by go_num, Lib.hid (belowN HB.out _)⟩
      case measure => omega
    · have i0 : ¬ (i : Int) < r.length := by omega
      go_wp2_with fail
      refine (HSn.out _).mono ?_
      rintro e w4 ⟨rfl, hb⟩
      go_wp2_with fail
      go_ret
      have hs1 := HB1.out.size
      have hs2 := HB2.out.size
      have hs3 := HB.out.size
      exact ⟨rfl, ((HB1.out.trans (HB2.out.mono hs1)).trans (HB.out.mono (by omega))).trans (hb.mono (by omega))⟩
end Go.Proofs.Ytmmfojaeahcohaa

set_option linter.unusedVariables false
set_option linter.unusedSimpArgs false
namespace Go.Proofs.Ytmmfojaeahcohaa
open Go.Shelf Go.RowKit Go.Lib Go.Aids Go.Opens Go.Proofs.YtmmfojaeahcohaaW.PrintWords Go.Proofs.YtmmfojaeahcohaaW.PrintMore Go.Proofs.Ytmmfojaeahcohaa.PTabsMade

theorem box_row (W : World) (base : Nat) (hb : base ≤ W.heap.size) (x : Int) (B : Nat) (hB : B = W.heap.size) : k28.R 28 (W.alloc (.cells #[.int .i64 6, .int .i64 x, .int .i64 0, .int .i64 0, .string ⟨#[]⟩, .string ⟨#[]⟩, .slice none 0 0] 28)) base (fun k => k = B) (.slice (some ⟨B, 0, none⟩) 1 1) [bx x] := by
  subst hB
  refine ⟨fun k hk => ?_, [.int .i64 6, .int .i64 x, .int .i64 0, .int .i64 0, .string ⟨#[]⟩, .string ⟨#[]⟩, .slice none 0 0], ?_, ?_⟩
  · have : W.heap.size = k := by simpa [Value.ownBlock] using hk
    exact this.symm
  · have h2 := World.ownsRow_lit (base := base) (e := 28) (size := 7) W #[.int .i64 6, .int .i64 x, .int .i64 0, .int .i64 0, .string ⟨#[]⟩, .string ⟨#[]⟩, .slice none 0 0] 1 hb (by decide) (by simp)
    show World.ownsRow _ base 28 7 _ 1 _
    simpa using h2
  · exact reps_single (R := k28.M _ base _) (k28_mkM _ base _ (bx x) (Kd.R_nil _ _ _ _ _)) rfl
theorem char1_calls (w : World) : Calls Try.prog 15 #[.int .i64 1] w fun e w' => ∃ A c, e = .returned (boxV 0 1 0 10 ⟨#[46]⟩ ⟨#[]⟩ A 0 c) ∧ kI.C w' A 0 [] ∧ Below w.heap.size w w' := by
  have h := frisketlaw12_char.calls 1 0 1 0 10 ⟨#[46]⟩ ⟨#[]⟩ [] w (by kernel_rfl)
  refine h.mono ?_
  rintro e w' ⟨v, rfl, hR, hb⟩
  obtain ⟨A, c, rfl, hc, hC⟩ := Kd.R_reads hR
  exact ⟨A, c, rfl, hC, hb⟩
theorem s5_step {wr W W' : World} {g : Nat} (hB : Below wr.heap.size wr W) (hb : Below W.heap.size W W') (HK : Hid (g < wr.heap.size ∧ wr.cell? ⟨g, 0, none⟩ = some (.slice none 0 0) ∧ wr.cell? ⟨g, 1, none⟩ = some (.int .i64 100))) : W'.cell? ⟨g, 0, none⟩ = some (.slice none 0 0) ∧ W'.cell? ⟨g, 1, none⟩ = some (.int .i64 100) ∧ Below wr.heap.size wr W' := by
  have h := hB.trans (hb.mono hB.size)
  exact ⟨(h.cell (p := ⟨g, 0, none⟩) HK.out.1).trans HK.out.2.1, (h.cell (p := ⟨g, 1, none⟩) HK.out.1).trans HK.out.2.2, h⟩
def wI (x : Int) : Int := (x % 18446744073709551616) % 100
theorem wI_b (x : Int) : 0 ≤ wI x ∧ wI x < 100 := by unfold wI; omega
set_option maxRecDepth 100000 in
set_option maxHeartbeats 4000000 in
theorem law5_calls (A : Option Addr) (c : Nat) (l : List Int) (w : World) (hC : kI.C w A l.length l) (hc : l.length ≤ c) :
    Calls Try.prog 5 #[.slice A l.length c] w fun e w' => e = .returned (.bool true) ∧ Below w.heap.size w w' := by
  have hl : l.length ≤ 9223372036854775807 := hC.2.1
  have HSn := Lib.hid (fun W => sane_calls W)
  have HC := Lib.hid hC
  obtain ⟨ws, hws⟩ : ∃ ws, (l.take 20).map wI = ws := ⟨_, rfl⟩
  have hn : ws.length = min 20 l.length := by rw [← hws]; simp
  have hget : ∀ (i : Nat) (h : i < ws.length) (h2 : i < l.length), ws[i] = wI l[i] := by
    intro i h h2
    subst hws
    simp
  have HG := Lib.hid hget
  have HWB : Hid (∀ x ∈ ws, 0 ≤ x ∧ x < 100) := Lib.hid (fun x hx => by rw [← hws] at hx; obtain ⟨y, hy, rfl⟩ := List.mem_map.1 hx; exact wI_b y)
  clear hC hget hws
  go_enter Try.func5, Try.ntmps5
  go_wp2_with fail
  obtain ⟨W0, hW0⟩ : ∃ W, w.alloc (.cells #[.slice none 0 0, .int .i64 100] 26) = W := ⟨_, rfl⟩
  have c0 : W0.cell? ⟨w.heap.size, 0, none⟩ = some (.slice none 0 0) := by rw [← hW0]; simp
  have c1 : W0.cell? ⟨w.heap.size, 1, none⟩ = some (.int .i64 100) := by rw [← hW0]; simp
  have gl : w.heap.size < W0.heap.size := by rw [← hW0]; simp
  have HB0 := Lib.hid (show Below w.heap.size w W0 by rw [← hW0]; exact (Below.refl _ _).alloc (Nat.le_refl _) _)
  rw [hW0]
  clear hW0
  obtain ⟨g, hg⟩ : ∃ g, w.heap.size = g := ⟨_, rfl⟩
  simp only [hg] at c0 c1 gl ⊢
  have HGG := Lib.hid hg
  clear hg
  go_loopg [3, 4, 6] ws.length (fun gk s3 s4 s6 wx => ∃ i : Nat, i + gk = ws.length ∧ s6 = .int .i64 i ∧ Hid (Kd.R (Kd.slice 28 k28) 31 wx W0.heap.size (fun k_ => some k_ ≠ (s4 : Value).ownBlock) s3 (standC (ws.take i))) ∧ Hid (Kd.R (Kd.int .i64) 3 wx W0.heap.size (fun _ => True) s4 (standM i)) ∧ Hid (Below W0.heap.size W0 wx))
  case atStart => exact ⟨0, by omega, rfl, Lib.hid (by rw [List.take_zero]; exact Kd.R_nil _ _ _ _ _), Lib.hid (Kd.R_nil _ _ _ _ _), Lib.hid (Below.refl _ _)⟩
  case round =>
    obtain ⟨i, hi, rfl, HO3, HO4, HB⟩ := hrel
    by_cases hlt : i < ws.length
    · have i0 : (i : Int) < l.length := by omega
      have i1 : (i : Int) < 20 := by omega
      have il : i < l.length := by omega
      have p0 : decide ((i : Int) < (l.length : Int)) = true := decide_eq_true i0
      have p1 : decide ((i : Int) < 20) = true := decide_eq_true i1
      obtain ⟨g', rfl⟩ : ∃ g', gk = g' + 1 := ⟨gk - 1, by omega⟩
      obtain ⟨b, off, rfl, hbl, hcell⟩ := ints_at (Kd.C_below HC.out (HB0.out.trans (HB.out.mono HB0.out.size))) (by omega)
      have d0 := hcell i il
      obtain ⟨y, hy⟩ : ∃ y, l[i] = y := ⟨_, rfl⟩
      rw [hy] at d0
      have hwy : ws[i] = wI y := by rw [← hy]; exact HG.out i hlt il
      clear hcell hbl
      obtain ⟨A3, c3, e3⟩ := Kd.R_slice HO3.out
      subst e3
      have hlt3 : ∀ k, (Value.slice A3 (standC (ws.take i)).length c3).ownBlock = some k → k < wr.heap.size := Kd.R_lt HO3.out
      have hlt4 : ∀ k, (u4 : Value).ownBlock = some k → k < wr.heap.size := Kd.R_lt HO4.out
      have hz : W0.heap.size ≤ wr.heap.size := HB.out.size
      have hlen : (standC (ws.take i)).length ≤ 20 := by simp [standC]; omega
      have hlen4 : (standM i).length ≤ 20 := by simp [standM]; omega
      have HL3 := Lib.hid hlt3
      have HL4 := Lib.hid hlt4
      have HZ := Lib.hid hz
      have HN3 := Lib.hid hlen
      have HN4 := Lib.hid hlen4
      clear hlt3 hlt4 hz hlen hlen4
      have hwI : wrap64 ((IntKind.u64.wrap y).tmod 100) = wI y := by
        have e : IntKind.u64.wrap y = y % 18446744073709551616 := by simp [IntKind.wrap, IntKind.signed, IntKind.bits]
        rw [e, Int.tmod_eq_emod_of_nonneg (by omega), wrap64_in _ (by omega) (by omega)]
        rfl
      have ec : standC (ws.take i) ++ [[bx (wI y)]] = standC (ws.take (i + 1)) := by
        rw [List.take_succ_eq_append_getElem hlt, hwy]
        simp [standC]
      have em : 0 < i → standM i ++ [(i : Int) % 2] = standM (i + 1) := fun h => by
        obtain ⟨j, rfl⟩ : ∃ j, i = j + 1 := ⟨i - 1, by omega⟩
        show (List.range (j + 1 - 1)).map _ ++ _ = (List.range (j + 1 + 1 - 1)).map _
        rw [show j + 1 + 1 - 1 = j + 1 from rfl, show j + 1 - 1 = j from rfl, List.range_succ, List.map_append]
        simp
      have e0 : i = 0 → standM i = standM (i + 1) := fun h => by subst h; rfl
      by_cases hp : 0 < i
      · have q0 : decide ((0 : Int) < (i : Int)) = true := decide_eq_true (by omega)
        go_wp2_with (first | ((with_reducible refine gate_builtin (b := .append) (xs := #[.tmp 23, .tmp 33]) rfl ?_); at_builtin; refine Kd.R_append (Kd.slice 28 k28) (w0 := W0) W0.heap.size rfl (.tmp 23) (.tmp 33) 22 31 (.slice none 0 0) 24 rfl Try.underlying22 info31 rfl (by decide) (by omega) (.slice A3 (standC (ws.take i)).length c3) (standC (ws.take i)) [bx (wI y)] [.slice (some ⟨wr.heap.size, 0, none⟩) 1 1] (fun k_ => some k_ ≠ (u4 : Value).ownBlock) (fun k => k = wr.heap.size) rfl ?aX ?aP ?aK ?aF ?aO ?aB ?aS ?aL ?_; (case aX => first | rfl | simp [Act.eval]); (case aP => exact Kd.M_row (box_row wr _ HZ.out _ _ rfl)); (case aK => exact fun k e => ⟨fun h => absurd (HL4.out k h.symm) (by omega), fun h => absurd (HL3.out k h.symm) (by omega)⟩); (case aF => exact fun k e h => absurd (HL4.out k h.symm) (by simp at e; omega)); (case aO => exact Kd.R_alloc HO3.out _); (case aB => exact below_alloc HB.out _); (case aS => have := HZ.out; simp; omega); (case aL => have := HN3.out; omega); intro v3 w3 ho hb hg hat; have n0 := Lib.hid (Kd.R_over' (Kd.R_alloc HO4.out (.cells #[.int .i64 6, .int .i64 (wI y), .int .i64 0, .int .i64 0, .string ⟨#[]⟩, .string ⟨#[]⟩, .slice none 0 0] 28)) (Kd.R_typed (Kd.R_alloc HO3.out _)) (by decide) hg); have n1 := Lib.hid hb; have n2 := Lib.hid ho; clear HO4 HB HO3 ho hb hg hat) | ((with_reducible refine gate_builtin (b := .append) (xs := #[.tmp 37, .tmp 40]) rfl ?_); at_builtin; refine Kd.R_append (Kd.int .i64) (w0 := W0) W0.heap.size rfl (.tmp 37) (.tmp 40) 23 3 (.int .i64 0) 8 rfl Try.underlying23 info3 rfl (by decide) (by omega) u4 (standM i) ((i : Int) % 2) [.int .i64 ((i : Int) % 2)] (fun _ => True) (fun _ => False) rfl ?aX ?aP (fun _ hk => hk.elim) (fun _ _ => trivial) n0.out n1.out (below_size n1.out) ?aL ?_; (case aX => rfl); (case aP => exact rfl); (case aL => have := HN4.out; omega); intro v4 w4 ho hb hg hat; have m0 := Lib.hid (Kd.R_after (ok := fun _ => True) (Kd.R_mono n2.out (fun _ hk => ⟨trivial, hk⟩)) hg hat); have m1 := Lib.hid hb; have m2 := Lib.hid ho; clear n0 n1 n2 ho hb hg hat))
        go_roundg g'
        case measure => omega
        case rel => exact ⟨i + 1, by omega, by go_num, by rw [ec] at m0; simpa using m0, by rw [em hp] at m2; exact m2, m1⟩
      · have q0 : decide ((0 : Int) < (i : Int)) = false := decide_eq_false (by omega)
        go_wp2_with (first | ((with_reducible refine gate_builtin (b := .append) (xs := #[.tmp 23, .tmp 33]) rfl ?_); at_builtin; refine Kd.R_append (Kd.slice 28 k28) (w0 := W0) W0.heap.size rfl (.tmp 23) (.tmp 33) 22 31 (.slice none 0 0) 24 rfl Try.underlying22 info31 rfl (by decide) (by omega) (.slice A3 (standC (ws.take i)).length c3) (standC (ws.take i)) [bx (wI y)] [.slice (some ⟨wr.heap.size, 0, none⟩) 1 1] (fun k_ => some k_ ≠ (u4 : Value).ownBlock) (fun k => k = wr.heap.size) rfl ?aX ?aP ?aK ?aF ?aO ?aB ?aS ?aL ?_; (case aX => first | rfl | simp [Act.eval]); (case aP => exact Kd.M_row (box_row wr _ HZ.out _ _ rfl)); (case aK => exact fun k e => ⟨fun h => absurd (HL4.out k h.symm) (by omega), fun h => absurd (HL3.out k h.symm) (by omega)⟩); (case aF => exact fun k e h => absurd (HL4.out k h.symm) (by simp at e; omega)); (case aO => exact Kd.R_alloc HO3.out _); (case aB => exact below_alloc HB.out _); (case aS => have := HZ.out; simp; omega); (case aL => have := HN3.out; omega); intro v3 w3 ho hb hg hat; have n0 := Lib.hid (Kd.R_over' (Kd.R_alloc HO4.out (.cells #[.int .i64 6, .int .i64 (wI y), .int .i64 0, .int .i64 0, .string ⟨#[]⟩, .string ⟨#[]⟩, .slice none 0 0] 28)) (Kd.R_typed (Kd.R_alloc HO3.out _)) (by decide) hg); have n1 := Lib.hid hb; have n2 := Lib.hid ho; clear HO4 HB HO3 ho hb hg hat))
        go_roundg g'
        case measure => omega
        case rel => exact ⟨i + 1, by omega, by go_num, by rw [ec] at n2; exact n2, by rw [e0 (by omega)] at n0; exact n0, n1⟩
    · have hin : i = ws.length := by omega
      have htk : ws.take i = ws := List.take_of_length_le (by omega)
      rw [htk] at HO3
      rw [hin] at HO4
      obtain ⟨A3, c3, e3, hc3, hC3⟩ := Kd.R_reads HO3.out
      obtain ⟨A4, c4, e4, hc4, hC4⟩ := Kd.R_reads HO4.out
      subst e3 e4
      have k0 := (HB.out.cell (p := ⟨g, 0, none⟩) gl).trans c0
      have k1 := (HB.out.cell (p := ⟨g, 1, none⟩) gl).trans c1
      have kl : g < wr.heap.size := Nat.lt_of_lt_of_le gl HB.out.size
      have HBW := Lib.hid (HB0.out.trans (HB.out.mono HB0.out.size))
      have HSet := Lib.hid (fun (W : World) (Al : Option Addr) (cl : Nat) (hb : Below wr.heap.size wr W) (hA : kI.C W Al 0 []) => set_ok W (standC ws) (standM ws.length) [] 100 exP dotS A3 A4 none none Al c3 c4 0 0 cl ⟨Kd.C_below hC3 hb, hc3, by
          intro y hy x hx
          obtain ⟨z, hz, rfl⟩ := List.mem_map.1 hy
          rw [List.mem_singleton] at hx; subst hx
          exact Nat.zero_le _, Kd.C_below hC4 hb, hc4, ⟨rfl, by decide, fun h => absurd h (Nat.lt_irrefl 0)⟩, Nat.le_refl _, fun x hx => by simp at hx, ⟨rfl, by decide, fun h => absurd h (Nat.lt_irrefl 0)⟩, Nat.le_refl _, hA, Nat.zero_le _⟩ (stand_ok ws HWB.out) (stand_fine ws HWB.out (by omega)))
      have HLC := Lib.hid (show (standC ws).length = ws.length by simp [standC])
      have HCH := Lib.hid (fun W => char1_calls W)
      have HNN := Lib.hid hn
      obtain ⟨out, ho⟩ : ∃ o, (stL (standC ws) (standM ws.length) [] 100 exP dotS (standC ws).length) = o := ⟨_, rfl⟩
      have HOS := Lib.hid (show standF out.1 (0, 0) = some (out.2, ((standC ws).length : Int)) ∧ out.2 ≤ 2000 ∧ out.1.length ≤ 4020 ∧ ∀ x ∈ out.1, 0 ≤ x.f1 ∧ x.f1 ≤ 1000 by
        have e : (standC ws).length = ws.length := by simp [standC]
        have h := stand_st ws HWB.out (by omega) ws.length (Nat.le_refl _)
        rw [e] at ho ⊢
        rw [ho] at h
        exact ⟨h.1, by rcases h.2.1 with ⟨_, h2⟩ | ⟨_, _, h2⟩ <;> omega, by have := h.2.2.1; omega, h.2.2.2⟩)
      rw [ho] at HSet
      obtain ⟨Cs, hCs⟩ : ∃ x, standC ws = x := ⟨_, rfl⟩
      obtain ⟨Ms, hMs⟩ : ∃ x, standM ws.length = x := ⟨_, rfl⟩
      rw [hCs, hMs] at HSet
      rw [hCs] at HLC HOS
      simp only [hCs, hMs]
      have HH := Lib.hid (And.intro hin hn)
      clear HO3 HO4 hC3 hC4 c0 c1 hn ho hCs hMs
      clear hin
      go_upto_region 11 with fail
      all_goals (try (exfalso; have h9 := HH.out; omega))
      all_goals
        go_wp2_with fail
        have HK := Lib.hid (And.intro kl (And.intro k0 k1))
        go_region_held3 (fun w' => w'.cell? ⟨g, 0, none⟩ = some (.slice none 0 0) ∧ w'.cell? ⟨g, 1, none⟩ = some (.int .i64 100) ∧ Below wr.heap.size wr w')
          (first | exact s5_step (Below.refl _ _) ((Below.refl _ _).drew) HK | exact s5_step (And.right (And.right (by assumption))) hb2 HK | exact s5_step (And.right (And.right (by assumption))) hb7 HK | exact s5_step (by assumption) hb2 HK | exact s5_step (by assumption) hb7 HK)
          (first | (go_at_call 15; refine (HCH.out _).mono ?_; rintro e w2 ⟨Al, cl, rfl, hAl, hb2⟩) | (go_at_call 9; refine (HSet.out _ _ _ (by first | assumption | exact And.right (And.right (by assumption))) ⟨rfl, Nat.zero_le _, fun h => absurd h (Nat.lt_irrefl 0)⟩).mono ?_; rintro e w4 ⟨A7, n7, rfl, hn7, hC7, hb7⟩))
        have HB4 := Lib.hid (show Below wr.heap.size wr w4 from And.right (And.right (by assumption)))
        have HC4 := Lib.hid hC7
        clear hC7 hn7 hb7 hb2 hAl HSet HCH HK k0 k1 kl
        rename_i hX
        clear hX
        obtain ⟨o, F⟩ := out
        simp only at HC4 HOS ⊢
        go_upto_region 15 with fail
        go_loopg [9, 10, 11] o.length (fun gk s9 s10 s11 wx => ∃ (j : Nat) (a q : Int), j + gk = o.length ∧ s9 = .int .i64 a ∧ s10 = .int .i64 q ∧ s11 = .int .i64 j ∧ 0 ≤ a ∧ 0 ≤ q ∧ Hid (standF (o.drop j) (a, q) = some (F, (Cs.length : Int))) ∧ Hid (Below w4.heap.size w4 wx))
        case atStart => exact ⟨0, 0, 0, by omega, rfl, rfl, rfl, Int.le_refl _, Int.le_refl _, Lib.hid (by rw [List.drop_zero]; exact HOS.out.1), Lib.hid (Below.refl _ _)⟩
        case round =>
          obtain ⟨j, a, q, hj, rfl, rfl, rfl, ha, hq, HSF, HBX⟩ := hrel
          by_cases hlt2 : j < o.length
          · obtain ⟨g', rfl⟩ : ∃ g', gk = g' + 1 := ⟨gk - 1, by omega⟩
            have j0 : (j : Int) < o.length := by omega
            obtain ⟨bb, off, rfl, hbl, hcell⟩ := boxes_at (Kd.C_below HC4.out HBX.out) (by omega)
            obtain ⟨A6, c6, d0, d1, _⟩ := hcell j hlt2
            have hsf := HSF.out
            have hy1 := HOS.out.2.2.2 _ (List.getElem_mem hlt2)
            have hmono := standF_mono _ _ _ _ _ (fun x hx => (HOS.out.2.2.2 x (List.mem_of_mem_drop hx)).1) hsf
            rw [List.drop_eq_getElem_cons hlt2] at hsf
            have hF := HOS.out.2.1
            have hl20 : (Cs.length : Int) ≤ 20 := by have := HLC.out; have := HH.out.2; omega
            obtain ⟨y, hy⟩ : ∃ y, o[j] = y := ⟨_, rfl⟩
            rw [hy] at d0 d1 hsf hy1
            clear hcell hbl hy
            rw [standF] at hsf
            simp only at hsf
            have w1 : wrap64 (q + 1) = q + 1 := by unfold wrap64; omega
            have w2 : wrap64 (a + y.f1) = a + y.f1 := by unfold wrap64; omega
            have w3 : wrap64 (j + 1 : Int) = ((j + 1 : Nat) : Int) := by have := HOS.out.2.2.1; unfold wrap64; omega
            by_cases k6 : y.f0 = 6
            · rw [if_pos k6] at hsf
              by_cases ka : a = 100 * q
              · rw [if_pos ka] at hsf
                rw [k6] at d0
                have w4 : wrap64 (100 * q) = a := by unfold wrap64; omega
                have HS6 := Lib.hid hsf
                have HW := Lib.hid w3
                have HY := Lib.hid hy1
                clear hsf hmono w3 hF ka k6
                go_wp2_with fail
                go_roundg g'
                case measure => omega
                case rel => exact ⟨j + 1, a + y.f1, q + 1, by omega, by first | exact rfl | exact congrArg (Value.int .i64) w1 | exact congrArg (Value.int .i64) w2 | exact congrArg (Value.int .i64) HW.out, by first | exact rfl | exact congrArg (Value.int .i64) w1 | exact congrArg (Value.int .i64) w2 | exact congrArg (Value.int .i64) HW.out, by first | exact rfl | exact congrArg (Value.int .i64) w1 | exact congrArg (Value.int .i64) w2 | exact congrArg (Value.int .i64) HW.out, by have := HY.out; omega, by omega, HS6, HBX⟩
              · rw [if_neg ka] at hsf
                cases hsf
            · rw [if_neg k6] at hsf
              have HS6 := Lib.hid hsf
              have HW := Lib.hid w3
              have HY := Lib.hid hy1
              clear hsf hmono w3 hF
              go_wp2_with fail
              go_roundg g'
              case measure => omega
              case rel => exact ⟨j + 1, a + y.f1, q, by omega, by first | exact rfl | exact congrArg (Value.int .i64) w1 | exact congrArg (Value.int .i64) w2 | exact congrArg (Value.int .i64) HW.out, by first | exact rfl | exact congrArg (Value.int .i64) w1 | exact congrArg (Value.int .i64) w2 | exact congrArg (Value.int .i64) HW.out, by first | exact rfl | exact congrArg (Value.int .i64) w1 | exact congrArg (Value.int .i64) w2 | exact congrArg (Value.int .i64) HW.out, by have := HY.out; omega, hq, HS6, HBX⟩
          · have hje : o.length ≤ j := by omega
            have hsf := HSF.out
            rw [List.drop_eq_nil_of_le hje] at hsf
            have hqe : q = (Cs.length : Int) := by
              have h : some (a, q) = some (F, (Cs.length : Int)) := hsf
              injection h with h
              injection h
            subst hqe
            clear hsf
            go_wp2_with fail
            refine (HSn.out _).mono ?_
            rintro e w9 ⟨rfl, hb9⟩
            go_wp2_with fail
            go_ret
            have hs1 := HBW.out.size
            have hs2 := HB4.out.size
            have hs3 := HBX.out.size
            rw [HGG.out] at *
            exact ⟨rfl, ((HBW.out.trans (HB4.out.mono hs1)).trans (HBX.out.mono (by omega))).trans (hb9.mono (by omega))⟩
end Go.Proofs.Ytmmfojaeahcohaa

set_option linter.unusedVariables false
set_option linter.unusedSimpArgs false
namespace Go.Proofs.Ytmmfojaeahcohaa
open Go.RowKit Go.Opens Go.Proofs.YtmmfojaeahcohaaW.PrintWords
def wfI (n : Int) : Prop := (Lit.int .i64 n).wf = true
theorem o3 : Opens Try.prog 3 kI wfI := Opens.int Try.underlying3 (by kernel_rfl)
end Go.Proofs.Ytmmfojaeahcohaa

/- All pairs of words that are joined to a word: plainly. -/
import Derived.Test.YtpfoflhhbkjngaaZFnIa
import Derived.Test.YtpfoflhhbkjngaaZFnHi
set_option linter.unusedVariables false
set_option linter.unusedSimpArgs false
namespace Go.Proofs.Ytpfoflhhbkjngaa.Ev
open Go Go.Proofs

abbrev Pr := List Str × List Str
def cmpPr (p q : Pr) : Int := if compL p.1 q.1 ≠ 0 then compL p.1 q.1 else compL p.2 q.2
theorem cmp_cmpPr : Cmp cmpPr where
  anti a b := by
    unfold cmpPr
    have h1 := compL_anti a.1 b.1
    have h2 := compL_anti a.2 b.2
    split <;> split <;> omega
  trans := by
    intro x y z h1 h2
    unfold cmpPr at *
    have t1 := @compL_trans x.1 y.1 z.1
    have t2 := @compL_trans x.2 y.2 z.2
    have z1 := @compL_zero x.1 y.1
    have z2 := @compL_zero y.1 z.1
    by_cases e1 : compL x.1 y.1 = 0
    · rw [if_neg (by omega)] at h1
      have := z1.1 e1
      rw [this]
      by_cases e2 : compL y.1 z.1 = 0
      · rw [if_neg (by omega)] at h2 ⊢; exact t2 h1 h2
      · rw [if_pos e2] at h2 ⊢; exact h2
    · rw [if_pos e1] at h1
      by_cases e2 : compL y.1 z.1 = 0
      · have := z2.1 e2
        rw [← this, if_pos e1]; exact h1
      · rw [if_pos e2] at h2
        have := t1 h1 h2
        rw [if_pos (by omega)]; exact this
  zero := by
    intro a b
    unfold cmpPr
    have z1 := @compL_zero a.1 b.1
    have z2 := @compL_zero a.2 b.2
    constructor
    · intro h
      by_cases e1 : compL a.1 b.1 = 0
      · rw [if_neg (by omega)] at h
        exact Prod.ext (z1.1 e1) (z2.1 h)
      · rw [if_pos e1] at h; exact absurd h e1
    · rintro rfl
      rw [if_neg (by rw [z1.2 rfl]; simp)]; exact z2.2 rfl
/-- Which pairs are meant. -/
def okPr (l : List Joint) (w : List Str) (p : Pr) : Bool := decide (0 < p.1.length) && decide (0 < p.2.length) && decide (p.1.length ≤ 60) && decide (p.2.length ≤ 60) && decide (joinL l p.1 p.2 = w)
/-- What joint j makes of w at p, taken apart. -/
def cutPr (j : Joint) (w : List Str) (p : Nat) : Pr := (w.take p ++ j.1, j.2.1 ++ w.drop (p + j.2.2.length))
def fitsPr (j : Joint) (w : List Str) (p : Nat) : Bool := decide (p + j.2.2.length ≤ w.length) && decide ((w.drop p).take j.2.2.length = j.2.2)
/-- The pairs of one joint, ahead of a place. -/
def onePr (l : List Joint) (w : List Str) (j : Joint) (n : Nat) : List Pr := ((List.range n).filter fun p => fitsPr j w p && okPr l w (cutPr j w p)).map (cutPr j w)
def candR (l : List Joint) (w : List Str) : List Pr := (l ++ [zJ]).flatMap fun j => onePr l w j (w.length + 1)
/-- The pairs at one place. -/
def atPr (l : List Joint) (w : List Str) (p : Nat) (js : List Joint) : List Pr := (js.filter fun j => fitsPr j w p && okPr l w (cutPr j w p)).map fun j => cutPr j w p
def candH (l : List Joint) (w : List Str) : List Pr := (List.range (w.length + 1)).flatMap fun p => atPr l w p (zJ :: l)
theorem cand_mem (l : List Joint) (w : List Str) (z : Pr) : z ∈ candH l w ↔ z ∈ candR l w := by
  simp only [candH, candR, atPr, onePr, List.mem_flatMap, List.mem_map, List.mem_filter, List.mem_range, List.mem_append, List.mem_cons, List.not_mem_nil, or_false]
  constructor
  · rintro ⟨p, hp, j, ⟨hj, hf⟩, rfl⟩
    exact ⟨j, hj.symm, p, ⟨hp, hf⟩, rfl⟩
  · rintro ⟨j, hj, p, ⟨hp, hf⟩, rfl⟩
    exact ⟨p, hp, j, ⟨hj.symm, hf⟩, rfl⟩
def unT (l : List Joint) (w : List Str) : List Pr × Int :=
  if jntErr l ≠ 0 then ([], jntErr l) else if wordsErr [w] ≠ 0 then ([], wordsErr [w]) else if 14 < w.length then ([], 3) else (insAll cmpPr (candR l w), 0)
/-! ### neighbours that are alike, once -/
def ddC {α : Type} (c : α → α → Int) : α → List α → List α
  | _, [] => []
  | p, y :: l => if c y p = 0 then ddC c y l else y :: ddC c y l
def dedC {α : Type} (c : α → α → Int) : List α → List α
  | [] => []
  | x :: l => x :: ddC c x l
section
variable {α : Type} {c : α → α → Int}
theorem ddC_mem (h : Cmp c) : ∀ {l : List α} {p z : α}, (z = p ∨ z ∈ ddC c p l) ↔ (z = p ∨ z ∈ l)
  | [], p, z => by simp [ddC]
  | y :: l, p, z => by
    have ih := ddC_mem h (l := l) (p := y) (z := z)
    unfold ddC
    split
    · rename_i e
      have := h.zero.1 e
      subst this
      rw [ih]; simp
    · simp only [List.mem_cons, ih]
theorem dedC_mem (h : Cmp c) {l : List α} {z : α} : z ∈ dedC c l ↔ z ∈ l := by
  cases l with
  | nil => simp [dedC]
  | cons x l => simp only [dedC, List.mem_cons]; exact ddC_mem h
theorem ddC_asc (h : Cmp c) : ∀ {l : List α} {p : α}, (p :: l).Pairwise (fun x y => ¬c y x < 0) → AscC c (p :: ddC c p l)
  | [], p, _ => by simp [ddC, AscC]
  | y :: l, p, hs => by
    obtain ⟨h1, h2⟩ := List.pairwise_cons.1 hs
    have ih := ddC_asc h h2
    unfold ddC
    split
    · rename_i e
      have := h.zero.1 e
      subst this
      exact ih
    · rename_i e
      refine List.pairwise_cons.2 ⟨fun z hz => ?_, ih⟩
      have hpy : c p y < 0 := by
        have a1 := h1 y (by simp)
        have a2 := h.anti p y
        omega
      rcases List.mem_cons.1 hz with rfl | hz
      · exact hpy
      · exact h.trans hpy ((List.pairwise_cons.1 ih).1 z hz)
theorem dedC_asc (h : Cmp c) {l : List α} (hs : l.Pairwise fun x y => ¬c y x < 0) : AscC c (dedC c l) := by
  cases l with
  | nil => simp [dedC, AscC]
  | cons x l => exact ddC_asc h hs
def lastD : α → List α → α
  | p, [] => p
  | _, y :: l => lastD y l
theorem ddC_snoc : ∀ (l : List α) (p x : α), ddC c p (l ++ [x]) = ddC c p l ++ if c x (lastD p l) = 0 then [] else [x]
  | [], p, x => by by_cases e : c x p = 0 <;> simp [ddC, lastD, e]
  | y :: l, p, x => by
    have ih := ddC_snoc l y x
    rw [List.cons_append, ddC, ddC, ih, lastD]
    split
    · rfl
    · rw [List.cons_append]
theorem lastD_get : ∀ (l : List α) (p : α), lastD p l = (p :: l).getLast (List.cons_ne_nil _ _)
  | [], _ => rfl
  | y :: l, p => by rw [lastD, lastD_get l y, List.getLast_cons_cons]
end
/-- What a sort and the leaving out of what stands twice make of the pairs. -/
theorem ded_is (l : List Joint) (w : List Str) {s : List Pr} (hp : s.Perm (candH l w)) (hs : s.Pairwise fun x y => ¬cmpPr y x < 0) : dedC cmpPr s = insAll cmpPr (candR l w) := by
  obtain ⟨h1, h2⟩ := insAll_ok cmp_cmpPr (candR l w)
  refine asc_same cmp_cmpPr (dedC_asc cmp_cmpPr hs) h1 fun z => ?_
  rw [dedC_mem cmp_cmpPr, hp.mem_iff, cand_mem, h2]
theorem swo_cmp {α : Type} {c : α → α → Int} (h : Cmp c) : (∀ x, ¬c x x < 0) ∧ (∀ x y z, c x y < 0 → c y z < 0 → c x z < 0) ∧ (∀ x y z, ¬c x y < 0 → ¬c y z < 0 → ¬c x z < 0) := by
  refine ⟨fun x => by rw [h.self]; omega, fun x y z => h.trans, fun x y z h1 h2 h3 => ?_⟩
  have a1 := h.anti x y
  have a2 := h.anti y z
  by_cases e : c x y = 0
  · have := h.zero.1 e; subst this; exact h2 h3
  · exact h2 (h.trans (by omega) h3)
end Go.Proofs.Ytpfoflhhbkjngaa.Ev

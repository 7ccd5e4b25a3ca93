/- What is offered at a place, plainly; the program's table of what is offered. -/
import Derived.Test.YtapgimibdamjoaaZFnNp
set_option linter.unusedVariables false
set_option linter.unusedSimpArgs false
namespace Go.Proofs.Ytapgimibdamjoaa.Ev
open Go Go.Proofs Go.RowKit

def addM (m : List (Change × Bool)) (c : Change) : List (Change × Bool) := if argB c = true then putM m c true else m
def addL (m : List (Change × Bool)) (ks : List Change) : List (Change × Bool) := ks.foldl addM m
theorem addL_snoc (m : List (Change × Bool)) (a : List Change) (b : Change) : addL m (a ++ [b]) = addM (addL m a) b := List.foldl_append
open Classical in
theorem getM_addL : ∀ (ks : List Change) (m : List (Change × Bool)) (c : Change), getM (addL m ks) c = if argB c = true ∧ c ∈ ks then some true else getM m c
  | [], m, c => by simp [addL]
  | k :: ks, m, c => by
    have ih := getM_addL ks (addM m k) c
    rw [show addL m (k :: ks) = addL (addM m k) ks from rfl, ih]
    by_cases h1 : argB c = true ∧ c ∈ ks
    · rw [if_pos h1, if_pos ⟨h1.1, by simp [h1.2]⟩]
    · rw [if_neg h1, addM]
      by_cases h2 : argB k = true
      · rw [if_pos h2, getM_putM]
        by_cases e : c = k
        · subst e; rw [if_pos rfl, if_pos ⟨h2, by simp⟩]
        · rw [if_neg e, if_neg (fun q => h1 ⟨q.1, by rcases List.mem_cons.1 q.2 with h | h; exact absurd h e; exact h⟩)]
      · rw [if_neg h2, if_neg]
        rintro ⟨q1, q2⟩
        rcases List.mem_cons.1 q2 with h | h
        · subst h; exact h2 q1
        · exact h1 ⟨q1, h⟩
theorem keysU_addL : ∀ (ks : List Change) {m : List (Change × Bool)}, keysU m → keysU (addL m ks)
  | [], _, h => h
  | k :: ks, m, h => keysU_addL ks (m := addM m k) (by rw [addM]; split; exact keysU_put h; exact h)
def kAt (x : Lesson) (k a : Nat) : List Change := (farD a).map fun d => (nth x.2.1 k, nth x.2.2 k, (a : Int), atS (if 5 < a then x.1 else x.2.1) ((k : Int) + d))
def kP (x : Lesson) (k n : Nat) : List Change := (List.range n).flatMap (kAt x k)
def hereM (x : Lesson) (k : Nat) : List (Change × Bool) := addL [((nth x.2.1 k, nth x.2.2 k, 9, ⟨#[]⟩), true)] (kP x k 9)
theorem keysU_here (x : Lesson) (k : Nat) : keysU (hereM x k) := keysU_addL _ (by simp [keysU])
theorem here_get {x : Lesson} {k : Nat} (ht : nth x.2.1 k ≠ nth x.2.2 k) (c : Change) : getM (hereM x k) c = if Cand c ∧ hitB c x k = true then some true else none := by
  obtain ⟨c1, c2, c3, c4⟩ := c
  have key : (argB (c1, c2, c3, c4) = true ∧ (c1, c2, c3, c4) ∈ kP x k 9 ∨ (c1, c2, c3, c4) = (nth x.2.1 k, nth x.2.2 k, 9, ⟨#[]⟩)) ↔ Cand (c1, c2, c3, c4) ∧ hitB (c1, c2, c3, c4) x k = true := by
    have hh : hitB (c1, c2, c3, c4) x k = true ↔ c2 = nth x.2.2 k ∧ nth x.2.1 k = c1 ∧ (c3 = 9 ∨ ∃ d ∈ farD c3, atS (if 5 < c3 then x.1 else x.2.1) ((k : Int) + d) = c4) := by
      simp only [hitB, appB, inL, Bool.and_eq_true, decide_eq_true_eq, Bool.or_eq_true, List.any_eq_true]
      simp only [ht, ne_eq, not_false_eq_true, true_and]
      constructor
      · rintro ⟨a, b, h⟩; exact ⟨a, b, h.imp_right fun ⟨d, h1, h2⟩ => ⟨d, h1, of_decide_eq_true h2⟩⟩
      · rintro ⟨a, b, h⟩; exact ⟨a, b, h.imp_right fun ⟨d, h1, h2⟩ => ⟨d, h1, decide_eq_true h2⟩⟩
    rw [hh]
    constructor
    · rintro (⟨h1, h2⟩ | h)
      · rw [kP, List.mem_flatMap] at h2
        obtain ⟨a, ha, h2⟩ := h2
        rw [kAt, List.mem_map] at h2
        obtain ⟨d, hd, e⟩ := h2
        rw [List.mem_range] at ha
        simp only [Prod.mk.injEq] at e
        obtain ⟨rfl, rfl, rfl, e4⟩ := e
        refine ⟨⟨⟨by simp, by simp; omega⟩, h1⟩, rfl, rfl, .inr ⟨d, hd, ?_⟩⟩
        rw [← e4]
        by_cases h5 : 5 < a
        · rw [if_pos h5, if_pos (by omega)]
        · rw [if_neg h5, if_neg (by omega)]
      · simp only [Prod.mk.injEq] at h
        obtain ⟨rfl, rfl, rfl, rfl⟩ := h
        exact ⟨⟨⟨by simp, by simp⟩, by simp [argB]⟩, rfl, rfl, .inl rfl⟩
    · rintro ⟨⟨⟨h1, h2⟩, h3⟩, rfl, rfl, h4⟩
      by_cases h9 : c3 = 9
      · right
        subst h9
        simp [argB] at h3
        rw [h3]
      · left
        refine ⟨h3, ?_⟩
        rcases h4 with h4 | ⟨d, hd, e⟩
        · exact absurd h4 h9
        · dsimp only at h1 h2
          have e3 : ((c3.toNat : Nat) : Int) = c3 := by omega
          rw [kP, List.mem_flatMap]
          refine ⟨c3.toNat, List.mem_range.2 (by omega), ?_⟩
          rw [kAt, List.mem_map]
          refine ⟨d, by rw [e3]; exact hd, ?_⟩
          rw [e3, ← e]
          by_cases h5 : 5 < c3
          · rw [if_pos h5, if_pos (by omega)]
          · rw [if_neg h5, if_neg (by omega)]
  rw [hereM, getM_addL]
  by_cases h1 : argB (c1, c2, c3, c4) = true ∧ (c1, c2, c3, c4) ∈ kP x k 9
  · rw [if_pos h1, if_pos (key.1 (.inl h1))]
  · rw [if_neg h1]
    simp only [getM]
    by_cases h2 : (c1, c2, c3, c4) = (nth x.2.1 k, nth x.2.2 k, 9, ⟨#[]⟩)
    · rw [if_pos h2, if_pos (key.1 (.inr h2))]
    · rw [if_neg h2, if_neg (fun q => (key.2 q).elim h1 h2)]
/-- A table that has what is counted. -/
def optC (n : Nat) : Option Int := if n = 0 then none else some n
def Off (m : List (Change × Int)) (N : Change → Nat) : Prop := keysU m ∧ ∀ c, getM m c = optC (N c)
def offN (ls : List Lesson) (i k : Nat) (c : Change) : Nat := if Cand c then cntF (hitB c) ls i + cntN (hitB c (nth ls i)) k else 0
theorem cntN_le (p : Nat → Bool) : ∀ k, cntN p k ≤ k
  | 0 => Nat.le_refl _
  | k + 1 => by have := cntN_le p k; rw [cntN]; split <;> omega
theorem cntF_le {q : Lesson → Nat → Bool} {ls : List Lesson} (h : OkLs ls) : ∀ {i : Nat}, i ≤ ls.length → cntF q ls i ≤ i * 200
  | 0, _ => Nat.le_refl _
  | i + 1, hi => by
    have h1 := cntF_le (q := q) h (i := i) (by omega)
    have h2 := cntN_le (q (nth ls i)) (nth ls i).2.1.length
    have h3 := h.2 _ (nth_mem (l := ls) (i := i) (by omega))
    rw [cntF]; omega
theorem offN_le {ls : List Lesson} (h : OkLs ls) {i k : Nat} (hi : i ≤ ls.length) (c : Change) : offN ls i k c ≤ i * 200 + k := by
  rw [offN]
  split
  · have h1 := cntF_le (q := hitB c) h hi
    have h2 := cntN_le (hitB c (nth ls i)) k
    omega
  · omega
theorem offN_next (ls : List Lesson) (i : Nat) (c : Change) : offN ls (i + 1) 0 c = offN ls i (nth ls i).2.1.length c := by
  rw [offN, offN, cntF, cntN]; simp
theorem offN_0 (ls : List Lesson) (c : Change) : offN ls 0 0 c = 0 := by rw [offN, cntF, cntN]; simp
theorem offN_step (ls : List Lesson) (i k : Nat) (c : Change) : offN ls i (k + 1) c = offN ls i k c + if Cand c ∧ hitB c (nth ls i) k = true then 1 else 0 := by
  rw [offN, offN, cntN]
  by_cases h : Cand c
  · rw [if_pos h, if_pos h]
    by_cases q : hitB c (nth ls i) k = true
    · rw [if_pos q, if_pos ⟨h, q⟩]; omega
    · rw [if_neg q, if_neg (fun e => q e.2)]; rfl
  · rw [if_neg h, if_neg h, if_neg (fun q => h q.1)]
theorem offN_same {ls : List Lesson} {i k : Nat} (h : nth (nth ls i).2.1 k = nth (nth ls i).2.2 k) (c : Change) : offN ls i (k + 1) c = offN ls i k c := by
  rw [offN_step, if_neg]; rfl
  rintro ⟨_, q⟩
  simp [hitB, h] at q
theorem off_fun {m : List (Change × Int)} {N N' : Change → Nat} (h : Off m N) (e : ∀ c, N' c = N c) : Off m N' := ⟨h.1, fun c => by rw [h.2, e]⟩
/-- Counting what stands here, in any order. -/
def mid (here left : List (Change × Bool)) (N : Change → Nat) (c : Change) : Nat := N c + if (getM here c).isSome = true ∧ getM left c = none then 1 else 0
theorem mid_start {here : List (Change × Bool)} {N : Change → Nat} {m : List (Change × Int)} (h : Off m N) : Off m (mid here here N) := off_fun h fun c => by
  rw [mid]
  cases getM here c <;> simp
theorem mid_step {here left : List (Change × Bool)} {N : Change → Nat} {m : List (Change × Int)} (h : Off m (mid here left N)) (hu : keysU left) (hsub : ∀ c v, getM left c = some v → getM here c = some v) {i : Nat} (hi : i < left.length) :
    (getM m left[i].1).getD 0 = N left[i].1 ∧ Off (putM m left[i].1 ((getM m left[i].1).getD 0 + 1)) (mid here (left.eraseIdx i) N) := by
  have k1 := getM_get hu hi
  have k2 := hsub _ _ k1
  have e0 : (getM m left[i].1).getD 0 = N left[i].1 := by
    rw [h.2, mid, k1]
    simp only [reduceCtorEq, and_false, if_false, Nat.add_zero, optC]
    split
    · rename_i h; rw [h]; rfl
    · rfl
  refine ⟨e0, keysU_put h.1, fun c => ?_⟩
  rw [getM_putM, e0]
  by_cases e : c = left[i].1
  · subst e
    rw [if_pos rfl, mid, getM_erase hu hi, k2, if_pos rfl]
    simp [optC]
  · rw [if_neg e, h.2, mid, mid, getM_erase hu hi, if_neg e]
theorem mid_end {x : Lesson} {k : Nat} {N : Change → Nat} {m : List (Change × Int)} (ht : nth x.2.1 k ≠ nth x.2.2 k) (h : Off m (mid (hereM x k) [] N)) : Off m (fun c => N c + if Cand c ∧ hitB c x k = true then 1 else 0) := off_fun h fun c => by
  rw [mid, here_get ht]
  by_cases q : Cand c ∧ hitB c x k = true
  · rw [if_pos q]; simp [getM, q]
  · rw [if_neg q]; simp [q]
end Go.Proofs.Ytapgimibdamjoaa.Ev

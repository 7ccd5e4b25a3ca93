/- The reference: what a kind finds around a place; where a change applies. -/
import Derived.Test.YtapgimibdamjoaaZFnNe
set_option linter.unusedVariables false
set_option linter.unusedSimpArgs false
namespace Go.Proofs.Ytapgimibdamjoaa.Ev
open Go Go.Proofs

def argT (l : List Str) (x : Int) (out : List Str) : List Str := if 0 ≤ x ∧ x < l.length ∧ (out = [] ∨ nth out 0 ≠ nth l x.toNat) then out ++ [nth l x.toNat] else out
def argF (l : List Str) : List Int → List Str → List Str
  | [], out => out
  | x :: xs, out => argF l xs (argT l x out)
def argsL (k : Int) (w t : List Str) (i : Int) : List Str := if k = 9 then [⟨#[]⟩] else argF (if 5 < k then w else t) ((farD k).map (i + ·)) []
theorem argF_mem (l : List Str) (y : Str) : ∀ (xs : List Int) (out : List Str), y ∈ argF l xs out ↔ y ∈ out ∨ ∃ x ∈ xs, (0 ≤ x ∧ x < l.length) ∧ nth l x.toNat = y
  | [], out => by simp [argF]
  | x :: xs, out => by
    rw [argF, argF_mem l y xs, argT]
    by_cases h : 0 ≤ x ∧ x < l.length
    · by_cases h2 : out = [] ∨ nth out 0 ≠ nth l x.toNat
      · rw [if_pos ⟨h.1, h.2, h2⟩]
        simp only [List.mem_append, List.mem_cons, exists_eq_or_imp, h, and_self, true_and]
        constructor
        · rintro ((a | a | a) | a)
          · exact .inl a
          · exact .inr (.inl a.symm)
          · cases a
          · exact .inr (.inr a)
        · rintro (a | a | a)
          · exact .inl (.inl a)
          · exact .inl (.inr (.inl a.symm))
          · exact .inr a
      · rw [if_neg (fun e => h2 e.2.2)]
        simp only [List.mem_cons, exists_eq_or_imp, h, and_self, true_and]
        constructor
        · rintro (a | a)
          · exact .inl a
          · exact .inr (.inr a)
        · rintro (a | a | a)
          · exact .inl a
          · refine .inl ?_
            simp only [not_or, ne_eq, Classical.not_not] at h2
            rw [← a, ← h2.2]
            have : 0 < out.length := by
              cases out with
              | nil => exact absurd rfl h2.1
              | cons _ _ => simp
            exact nth_mem this
          · exact .inr a
    · rw [if_neg (fun e => h ⟨e.1, e.2.1⟩)]
      simp only [List.mem_cons, exists_eq_or_imp, h, false_and, false_or]
theorem far_len : ∀ k : Int, (farD k).length ≤ 2 := fun k => by
  unfold farD
  have : ∀ n : Nat, (nth ([[-1], [1], [-2], [2], [-1, -2], [1, 2], [0], [-1], [1]] : List (List Int)) n).length ≤ 2 := fun n => by
    rcases Nat.lt_or_ge n 9 with h | h
    · have : n = 0 ∨ n = 1 ∨ n = 2 ∨ n = 3 ∨ n = 4 ∨ n = 5 ∨ n = 6 ∨ n = 7 ∨ n = 8 := by omega
      rcases this with rfl | rfl | rfl | rfl | rfl | rfl | rfl | rfl | rfl <;> decide
    · rw [nth, List.getD_eq_getElem?_getD, List.getElem?_eq_none (by simpa using h)]; decide
  exact this _
end Go.Proofs.Ytapgimibdamjoaa.Ev

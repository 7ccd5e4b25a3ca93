/- The reference: what a kind finds around a place; where a change applies. -/
import Derived.Test.YtapgimibdamjoaaZFnNe
set_option linter.unusedVariables false
set_option linter.unusedSimpArgs false
namespace Go.Proofs.Ytapgimibdamjoaa.Ev
open Go Go.Proofs

theorem far_len : ∀ k : Int, (farD k).length ≤ 2 := fun k => by
  unfold farD
  have : ∀ n : Nat, (nth ([[-1], [1], [-2], [2], [-1, -2], [1, 2], [0], [-1], [1]] : List (List Int)) n).length ≤ 2 := fun n => by
    rcases Nat.lt_or_ge n 9 with h | h
    · have : n = 0 ∨ n = 1 ∨ n = 2 ∨ n = 3 ∨ n = 4 ∨ n = 5 ∨ n = 6 ∨ n = 7 ∨ n = 8 := by omega
      rcases this with rfl | rfl | rfl | rfl | rfl | rfl | rfl | rfl | rfl <;> decide
    · rw [nth, List.getD_eq_getElem?_getD, List.getElem?_eq_none (by simpa using h)]; decide
  exact this _
end Go.Proofs.Ytapgimibdamjoaa.Ev

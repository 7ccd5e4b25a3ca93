/- What is joined is split so again: the law. -/
import Derived.Test.YtpfoflhhbkjngaaZFnIi
set_option linter.unusedVariables false
set_option linter.unusedSimpArgs false
namespace Go.Proofs.Ytpfoflhhbkjngaa.Ev
open Go Go.Proofs

theorem pr_0 {t : List Pr} {i : Nat} (h : i < t.length) : (cellsL t)[i * 2]? = some (sl (nth t i).1) := by
  have : ((cellsL t).drop (i * 2))[0]? = some (sl (nth t i).1) := by rw [cellsL_drop, nth_drop h]; rfl
  rwa [List.getElem?_drop] at this
theorem pr_1 {t : List Pr} {i : Nat} (h : i < t.length) : (cellsL t)[i * 2 + 1]? = some (sl (nth t i).2) := by
  have : ((cellsL t).drop (i * 2))[1]? = some (sl (nth t i).2) := by rw [cellsL_drop, nth_drop h]; rfl
  rwa [List.getElem?_drop] at this
end Go.Proofs.Ytpfoflhhbkjngaa.Ev

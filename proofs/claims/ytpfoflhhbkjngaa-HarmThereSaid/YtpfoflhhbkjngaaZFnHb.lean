/- What a symbol is by sounds: the reference's rows, the program's map. -/
import Derived.Test.YtpfoflhhbkjngaaZFnHa
set_option linter.unusedVariables false
set_option linter.unusedSimpArgs false
namespace Go.Proofs.Ytpfoflhhbkjngaa.Ev
open Go Go.Proofs

theorem firstTwo (a b : Int) : firstE [a, b] = if a ≠ 0 then a else b := by
  simp only [firstE]; split
  · rfl
  · split
    · rfl
    · omega
/-! ### the map -/
end Go.Proofs.Ytpfoflhhbkjngaa.Ev

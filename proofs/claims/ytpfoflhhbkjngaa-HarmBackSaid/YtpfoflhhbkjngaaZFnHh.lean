/- Two words joined; the law HarmJoins. -/
import Derived.Test.YtpfoflhhbkjngaaZFnHd
set_option linter.unusedVariables false
set_option linter.unusedSimpArgs false
namespace Go.Proofs.Ytpfoflhhbkjngaa.Ev
open Go Go.Proofs

theorem wk_nilsl {α : Type} {k : Nat} [Enc α k] : Wk (.sc (.slice none 0 0)) (sl ([] : List α)) := fun G v h => by have := wk_nil; exact (of_eq_true this) G v h
end Go.Proofs.Ytpfoflhhbkjngaa.Ev

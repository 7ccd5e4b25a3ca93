/- A word is put into words in shortlex order: the reference. -/
import Derived.Test.YtpfoflhhbkjngaaZFnId
import Derived.Test.YtpfoflhhbkjngaaZFnIb
set_option linter.unusedVariables false
set_option linter.unusedSimpArgs false
namespace Go.Proofs.Ytpfoflhhbkjngaa.Ev
open Go Go.Proofs

section
variable {α : Type} {k : Nat} [Enc α k] {c : α → α → Int}
theorem asc_nthC {l : List α} (h : AscC c l) {i j : Nat} (hij : i < j) (hj : j < l.length) : c (nth l i) (nth l j) < 0 := by
  rw [nth_eq hj, nth_eq (by omega)]
  exact List.pairwise_iff_getElem.1 h i j (by omega) hj hij
end
end Go.Proofs.Ytpfoflhhbkjngaa.Ev

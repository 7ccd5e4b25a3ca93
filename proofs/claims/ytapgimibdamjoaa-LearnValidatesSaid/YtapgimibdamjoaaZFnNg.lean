/- A change done at all places: both programs. -/
import Derived.Test.YtapgimibdamjoaaZFnNf
set_option linter.unusedVariables false
set_option linter.unusedSimpArgs false
namespace Go.Proofs.Ytapgimibdamjoaa.Ev
open Go Go.Proofs

abbrev KdC (c : Change) : Prop := (0 ≤ c.2.2.1 ∧ c.2.2.1 ≤ 9) ∧ (c.2.2.1 = 9 → c.2.2.2 = ⟨#[]⟩) ∧ (c.2.2.1 ≠ 9 → c.2.2.2 ≠ ⟨#[]⟩)
def doneF (c : Change) (w t : List Str) : Nat → List Str
  | 0 => t
  | k + 1 => if appB c w t k = true then putAt (doneF c w t k) k c.2.1 else doneF c w t k
def doneL (c : Change) (w t : List Str) : List Str := doneF c w t t.length
end Go.Proofs.Ytapgimibdamjoaa.Ev

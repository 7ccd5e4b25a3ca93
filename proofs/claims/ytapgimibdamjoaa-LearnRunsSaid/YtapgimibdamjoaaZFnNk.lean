/- What a change gains is how much less is wrong; Gain and Wrong, both programs. -/
import Derived.Test.YtapgimibdamjoaaZFnNj
set_option linter.unusedVariables false
set_option linter.unusedSimpArgs false
namespace Go.Proofs.Ytapgimibdamjoaa.Ev
open Go Go.Proofs

theorem app_tag {c : Change} {w t : List Str} {i : Nat} (h : appB c w t i = true) : nth t i = c.1 := by
  rw [appB, Bool.and_eq_true, decide_eq_true_eq] at h; exact h.1
end Go.Proofs.Ytapgimibdamjoaa.Ev

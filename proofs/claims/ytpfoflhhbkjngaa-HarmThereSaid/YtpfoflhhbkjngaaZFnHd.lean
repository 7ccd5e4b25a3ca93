/- Syllables of a word, by the program and by the reference; the laws HarmSyllables and HarmCuts. -/
import Derived.Test.YtpfoflhhbkjngaaZFnHc
import Derived.Test.YtpfoflhhbkjngaaZFnW
set_option linter.unusedVariables false
set_option linter.unusedSimpArgs false
namespace Go.Proofs.Ytpfoflhhbkjngaa.Ev
open Go Go.Proofs

theorem two_zero {a b : Int} (h : firstE [a, b] = 0) : a = 0 ∧ b = 0 := by
  rw [firstTwo] at h
  split at h
  · rename_i h1; exact absurd h h1
  · rename_i h1; exact ⟨by omega, h⟩
end Go.Proofs.Ytpfoflhhbkjngaa.Ev

/- Syllables of a word, by the program and by the reference; the laws HarmSyllables and HarmCuts. -/
import Derived.Test.YtpfoflhhbkjngaaZFnHc
import Derived.Test.YtpfoflhhbkjngaaZFnW
set_option linter.unusedVariables false
set_option linter.unusedSimpArgs false
namespace Go.Proofs.Ytpfoflhhbkjngaa.Ev
open Go Go.Proofs

theorem wordsErr_one {w : List Str} (h : wordsErr [w] = 0) : wordErr w = 0 := by
  simp only [wordsErr] at h
  split at h
  · rename_i h1; exact absurd h h1
  · rename_i h1; omega
end Go.Proofs.Ytpfoflhhbkjngaa.Ev

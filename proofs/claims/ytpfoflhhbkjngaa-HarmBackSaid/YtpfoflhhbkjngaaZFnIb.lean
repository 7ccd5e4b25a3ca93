/- All pairs of words that are joined to a word: plainly. -/
import Derived.Test.YtpfoflhhbkjngaaZFnIa
import Derived.Test.YtpfoflhhbkjngaaZFnHh
set_option linter.unusedVariables false
set_option linter.unusedSimpArgs false
namespace Go.Proofs.Ytpfoflhhbkjngaa.Ev
open Go Go.Proofs

/-! ### neighbours that are alike, once -/
theorem swo_cmp {α : Type} {c : α → α → Int} (h : Cmp c) : (∀ x, ¬c x x < 0) ∧ (∀ x y z, c x y < 0 → c y z < 0 → c x z < 0) ∧ (∀ x y z, ¬c x y < 0 → ¬c y z < 0 → ¬c x z < 0) := by
  refine ⟨fun x => by rw [h.self]; omega, fun x y z => h.trans, fun x y z h1 h2 h3 => ?_⟩
  have a1 := h.anti x y
  have a2 := h.anti y z
  by_cases e : c x y = 0
  · have := h.zero.1 e; subst this; exact h2 h3
  · exact h2 (h.trans (by omega) h3)
end Go.Proofs.Ytpfoflhhbkjngaa.Ev

/- Applies and Run, both programs. -/
import Derived.Test.YtapgimibdamjoaaZFnNh
set_option linter.unusedVariables false
set_option linter.unusedSimpArgs false
namespace Go.Proofs.Ytapgimibdamjoaa.Ev
open Go Go.Proofs

theorem valL_ok {l : List Lesson} (h : valL l = 0) : l.length ≤ 200 ∧ ∀ x ∈ l, longL x = false ∧ fitL x = true ∧ nmL x = true := by
  rw [valL] at h
  split at h
  · omega
  · split at h
    · omega
    · rename_i h1 h2
      split at h
      · rename_i h3
        split at h
        · rename_i h4
          refine ⟨by omega, fun x hx => ⟨?_, List.all_eq_true.1 h3 x hx, List.all_eq_true.1 h4 x hx⟩⟩
          rw [← Bool.not_eq_true]; intro h5
          exact h2 (List.any_eq_true.2 ⟨x, hx, h5⟩)
        · omega
      · omega
theorem les_len {x : Lesson} (h : longL x = false ∧ fitL x = true ∧ nmL x = true) : x.1.length ≤ 200 ∧ x.2.1.length = x.1.length ∧ x.2.2.length = x.1.length := by
  obtain ⟨h1, h2, _⟩ := h
  rw [longL] at h1; rw [fitL] at h2
  simp only [Bool.or_eq_false_iff, decide_eq_false_iff_not, Bool.and_eq_true, decide_eq_true_eq] at h1 h2
  omega
end Go.Proofs.Ytapgimibdamjoaa.Ev

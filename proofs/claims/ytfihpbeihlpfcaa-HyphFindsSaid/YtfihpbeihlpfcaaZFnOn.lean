/- The text of a word with its breaks: both. -/
import Derived.Test.YtfihpbeihlpfcaaZFnOm
set_option linter.unusedVariables false
set_option linter.unusedSimpArgs false
namespace Go.Proofs.Ytfihpbeihlpfcaa.Ev
open Go Go.Proofs

theorem wordErr_iff {w : List Str} : wordErr w = 0 ↔ w.length ≤ 60 ∧ ∀ x ∈ w, x.size ≤ 16 ∧ okText x = true ∧ x.size ≠ 0 := by
  unfold wordErr
  constructor
  · intro h
    split at h
    · cases h
    · rename_i h1
      split at h
      · cases h
      · rename_i h2
        refine ⟨by omega, fun x hx => ?_⟩
        have e1 : w.any (fun s => decide (16 < s.size)) = false := by
          cases e : w.any (fun s => decide (16 < s.size))
          · rfl
          · exact absurd (.inr e) h1
        have e2 := List.any_eq_false.1 (Bool.not_eq_true _ ▸ h2) x hx
        simp only [Bool.not_eq_true', Bool.not_eq_false, Bool.and_eq_true, decide_eq_true_eq] at e2
        exact ⟨no_long e1 hx, e2.1, e2.2⟩
  · rintro ⟨h1, h2⟩
    rw [if_neg, if_neg]
    · intro h
      obtain ⟨x, hx, h⟩ := List.any_eq_true.1 h
      obtain ⟨_, a, b⟩ := h2 x hx
      simp [a, b] at h
    · rintro (h | h)
      · omega
      · obtain ⟨x, hx, h⟩ := List.any_eq_true.1 h
        have := (h2 x hx).1
        simp at h; omega
end Go.Proofs.Ytfihpbeihlpfcaa.Ev

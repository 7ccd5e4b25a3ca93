/- Changes done one behind the other: both programs; a change asked for a place. -/
import Derived.Test.YtapgimibdamjoaaZFnNg
set_option linter.unusedVariables false
set_option linter.unusedSimpArgs false
namespace Go.Proofs.Ytapgimibdamjoaa.Ev
open Go Go.Proofs

theorem name_ne {s : Str} (h : nameB s = true) : s ≠ ⟨#[]⟩ := by
  rintro rfl
  rw [nameB] at h
  simp only [Bool.and_eq_true, decide_eq_true_eq] at h
  have := h.2.1
  exact absurd this (by decide)
theorem plain_ne {s : Str} (h : plainB s = true) : s ≠ ⟨#[]⟩ := by
  rintro rfl
  rw [plainB] at h
  simp only [Bool.and_eq_true, decide_eq_true_eq] at h
  exact absurd h.2 (by decide)
theorem kd_arg {c : Change} (h0 : 0 ≤ c.2.2.1 ∧ c.2.2.1 ≤ 9) (h : argB c = true) : KdC c := by
  refine ⟨h0, fun h9 => ?_, fun h9 => ?_⟩
  · rw [argB, if_neg (by omega), if_neg (by omega)] at h
    exact of_decide_eq_true h
  · rw [argB] at h
    split at h
    · exact name_ne h
    · rw [if_pos (by omega)] at h
      exact plain_ne h
def runL (l : List Change) (w t : List Str) : List Str := l.foldl (fun t c => doneL c w t) t
theorem z3_sl : zcells [Value.slice none 0 0, Value.slice none 0 0, Value.slice none 0 0] 3 = [.sc (.slice none 0 0), .sc (.slice none 0 0), .sc (.slice none 0 0)] := rfl
theorem z4_ch : zcells [Value.string ⟨#[]⟩, Value.string ⟨#[]⟩, Value.int .i64 0, Value.string ⟨#[]⟩] 4 = [strA ⟨#[]⟩, strA ⟨#[]⟩, intA 0, strA ⟨#[]⟩] := rfl
end Go.Proofs.Ytapgimibdamjoaa.Ev

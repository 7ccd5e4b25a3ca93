/- The best change: the reference. -/
import Derived.Test.YtapgimibdamjoaaZFnNo
import Derived.Test.YtapgimibdamjoaaZEvY
set_option linter.unusedVariables false
set_option linter.unusedSimpArgs false
namespace Go.Proofs.Ytapgimibdamjoaa.Ev
open Go Go.Proofs Go.RowKit

abbrev bcA (t : Change × Int) : AV := .tup [chA t.1, intA t.2]
abbrev SmW (ls : List Lesson) : Prop := ∀ x ∈ ls, (∀ s ∈ x.1, s.size ≤ 4611686018427387904) ∧ ∀ s ∈ x.2.1, s.size ≤ 4611686018427387904 ∧ nameB s = true
theorem sm_arg {ls : List Lesson} (hs : SmW ls) {i : Nat} (hi : i ≤ ls.length) {c : Change} (h : c ∈ gLs ls i) : (0 ≤ c.2.2.1 ∧ c.2.2.1 ≤ 9) ∧ c.2.2.2.size ≤ 4611686018427387904 ∧ (c.2.2.1 < 6 ∨ c.2.2.1 = 9 → argB c = true) ∧ (¬(c.2.2.1 < 6 ∨ c.2.2.1 = 9) → argB c = plainB c.2.2.2) := by
  obtain ⟨x, hx, k, hk, h1, h2, h3⟩ := mem_gL h hi
  obtain ⟨w1, w2⟩ := hs x hx
  refine ⟨h2, ?_, fun hh => ?_, fun hh => ?_⟩
  · rcases mem_args h3 with ⟨_, e⟩ | ⟨_, e⟩
    · rw [e]; exact Nat.zero_le _
    · split at e
      · exact w1 _ e
      · exact (w2 _ e).1
  · rcases mem_args h3 with ⟨e1, e⟩ | ⟨e1, e⟩
    · rw [argB, if_neg (by omega), if_neg (by omega), e]; simp
    · rw [if_neg (by omega)] at e
      rw [argB, if_pos (by omega)]; exact (w2 _ e).2
  · rw [argB, if_neg (by omega), if_pos (by omega)]
def bestS (ls : List Lesson) (G left : List (Change × Int)) (c : Change) : Prop := Cand c ∧ (getM G c).isSome ∧ getM left c = none
theorem bestS_step {ls : List Lesson} {G left : List (Change × Int)} (hu : keysU left) (hsub : ∀ c v, getM left c = some v → getM G c = some v) {i : Nat} (hi : i < left.length) (hc : Cand left[i].1) (x : Change) : bestS ls G (left.eraseIdx i) x ↔ bestS ls G left x ∨ x = left[i].1 := by
  simp only [bestS, getM_erase hu hi]
  by_cases e : x = left[i].1
  · subst e
    have h1 := getM_get hu hi
    have h2 := hsub _ _ h1
    simp [h2, h1]
    exact hc
  · simp [e]
end Go.Proofs.Ytapgimibdamjoaa.Ev

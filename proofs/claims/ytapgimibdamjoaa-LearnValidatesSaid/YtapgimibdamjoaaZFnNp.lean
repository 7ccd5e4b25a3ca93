/- The best change: the reference. -/
import Derived.Test.YtapgimibdamjoaaZFnNn
import Derived.Test.YtapgimibdamjoaaZEvY
set_option linter.unusedVariables false
set_option linter.unusedSimpArgs false
namespace Go.Proofs.Ytapgimibdamjoaa.Ev
open Go Go.Proofs Go.RowKit

abbrev bcA (t : Change × Int) : AV := .tup [chA t.1, intA t.2]
def bestS (ls : List Lesson) (G left : List (Change × Int)) (c : Change) : Prop := Cand c ∧ (getM G c).isSome ∧ getM left c = none
theorem bestS_step {ls : List Lesson} {G left : List (Change × Int)} (hu : keysU left) (hsub : ∀ c v, getM left c = some v → getM G c = some v) {i : Nat} (hi : i < left.length) (hc : Cand left[i].1) (x : Change) : bestS ls G (left.eraseIdx i) x ↔ bestS ls G left x ∨ x = left[i].1 := by
  simp only [bestS, getM_erase hu hi]
  by_cases e : x = left[i].1
  · subst e
    have h1 := getM_get hu hi
    have h2 := hsub _ _ h1
    simp [h2, h1]
    exact hc
  · simp [e]
end Go.Proofs.Ytapgimibdamjoaa.Ev

/- Gain and Wrong, both programs. -/
import Derived.Test.YtapgimibdamjoaaZFnNk
set_option linter.unusedVariables false
set_option linter.unusedSimpArgs false
namespace Go.Proofs.Ytapgimibdamjoaa.Ev
open Go Go.Proofs

theorem okLs {ls : List Lesson} (h : valL ls = 0) : OkLs ls := ⟨(valL_ok h).1, fun x hx => les_len ((valL_ok h).2 x hx)⟩
abbrev SmLs (ls : List Lesson) : Prop := ∀ x ∈ ls, SmL x
end Go.Proofs.Ytapgimibdamjoaa.Ev

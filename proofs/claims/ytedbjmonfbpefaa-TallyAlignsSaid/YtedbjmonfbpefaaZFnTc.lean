/- Which of two fractions is greater: both programs. -/
import Derived.Test.YtedbjmonfbpefaaZFnG
import Derived.Test.YtedbjmonfbpefaaZEvZ
set_option linter.unusedVariables false
set_option linter.unusedSimpArgs false
namespace Go.Proofs.Ytedbjmonfbpefaa.Ev
open Go Go.Proofs Go.RowKit

def badS (a : Int × Int) : Prop := a.2 < 1 ∨ a.1 < 0 ∨ 9007199254740992 < a.1 ∨ 9007199254740992 < a.2
instance (a : Int × Int) : Decidable (badS a) := by unfold badS; exact inferInstance
end Go.Proofs.Ytedbjmonfbpefaa.Ev

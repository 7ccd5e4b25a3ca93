/- Levels of places: the walks. -/
import Derived.Test.YtfihpbeihlpfcaaZFnOj
set_option linter.unusedVariables false
set_option linter.unusedSimpArgs false
namespace Go.Proofs.Ytfihpbeihlpfcaa.Ev
open Go Go.Proofs

theorem cells2_1 {l : List (List Str × List Int)} {i : Nat} (h : i < l.length) : (cellsL l)[i * 2 + 1]? = some (sl (nth l i).2) := by
  have h1 := cellsL_drop l i
  rw [nth_drop h] at h1
  have h2 := congrArg (fun x : List AV => x[1]?) h1
  simp only [List.getElem?_drop] at h2
  rw [h2]; rfl
end Go.Proofs.Ytfihpbeihlpfcaa.Ev

/- Sums of products of binomials. -/
import Derived.Test.YtedbjmonfbpefaaZFnD
set_option linter.unusedVariables false
set_option linter.unusedSimpArgs false
namespace Go.Proofs.Ytedbjmonfbpefaa.Ev
open Go Go.Proofs

def sumN (T : Nat → Nat) : Nat → Nat
  | 0 => 0
  | j + 1 => sumN T j + T j
def cv (f g : Nat → Nat) : Nat → Nat
  | 0 => f 0 * g 0
  | k + 1 => f 0 * g (k + 1) + cv (fun j => f (j + 1)) g k
/-- From this table on. -/
def tlT (a b c d j : Nat) : Nat := exW (a + j) (b - j) (c - j) (d + j)
def tlW (a b c d : Nat) : Nat := sumN (tlT a b c d) (min b c + 1)
end Go.Proofs.Ytedbjmonfbpefaa.Ev

/- The way from one node to another one; the law DependPaths. -/
import Derived.Test.YtkedbkdbnmmkhaaZFnKg
set_option linter.unusedVariables false
set_option linter.unusedSimpArgs false
namespace Go.Proofs.Ytkedbkdbnmmkhaa.Ev
open Go Go.Proofs

/-! ### lists of numbers put together -/
/-! ### the way -/
theorem ext_nth {α : Type} {q : Nat} [Enc α q] {a b : List α} (h : a.length = b.length) (hn : ∀ p, p < a.length → nth a p = nth b p) : a = b := by
  refine List.ext_getElem h fun p h1 h2 => ?_
  have := hn p h1
  rwa [nth_eq h1, nth_eq h2] at this
end Go.Proofs.Ytkedbkdbnmmkhaa.Ev

/- What hooks make of a frame is a tree. -/
import Derived.Test.YtkedbkdbnmmkhaaZFnKh
set_option linter.unusedVariables false
set_option linter.unusedSimpArgs false
namespace Go.Proofs.Ytkedbkdbnmmkhaa.Ev
open Go Go.Proofs

/-- Heads that there are stay, others get a head and a name. -/
def Gr (l x : List Hung) : Prop := x.length = l.length ∧ ∀ i, i < l.length → nth x i = nth l i ∨ ((nth l i).2.1 = -2 ∧ (nth x i).1 = (nth l i).1 ∧ (nth x i).2.1 ≠ -2 ∧ nameB (nth x i).2.2 = true)
theorem Gr.refl (l : List Hung) : Gr l l := ⟨rfl, fun i _ => .inl rfl⟩
theorem Gr.trans {l x y : List Hung} (h : Gr l x) (k : Gr x y) : Gr l y := ⟨k.1.trans h.1, fun i hi => by
  rcases k.2 i (by rw [h.1]; exact hi) with k1 | ⟨k1, k2, k3, k4⟩
  · rw [k1]; exact h.2 i hi
  · rcases h.2 i hi with h1 | ⟨_, _, h1, _⟩
    · rw [h1] at k1 k2; exact .inr ⟨k1, k2, k3, k4⟩
    · exact absurd k1 h1⟩
def cntF : List Hung → Nat
  | [] => 0
  | h :: t => (if h.2.1 = -1 then 1 else 0) + cntF t
end Go.Proofs.Ytkedbkdbnmmkhaa.Ev

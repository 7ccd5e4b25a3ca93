/- A word is put into words in shortlex order: the reference. -/
import Derived.Test.YtpfoflhhbkjngaaZFnIb
set_option linter.unusedVariables false
set_option linter.unusedSimpArgs false
namespace Go.Proofs.Ytpfoflhhbkjngaa.Ev
open Go Go.Proofs

section
variable {α : Type} {k : Nat} [Enc α k] {c : α → α → Int}
theorem asc_nthC {l : List α} (h : AscC c l) {i j : Nat} (hij : i < j) (hj : j < l.length) : c (nth l i) (nth l j) < 0 := by
  rw [nth_eq hj, nth_eq (by omega)]
  exact List.pairwise_iff_getElem.1 h i j (by omega) hj hij
theorem insC_hit (h : Cmp c) {x : α} : ∀ {l : List α} {i : Nat}, AscC c l → i < l.length → nth l i = x → insC c x l = l
  | [], i, _, hi, _ => absurd hi (Nat.not_lt_zero _)
  | g :: l, 0, ha, _, e => by
    have e0 : g = x := e
    rw [insC, if_pos (h.zero.2 e0)]
  | g :: l, i + 1, ha, hi, e => by
    have hlt := asc_nthC ha (i := 0) (j := i + 1) (by omega) hi
    rw [e] at hlt
    have e0 : nth (g :: l) 0 = g := rfl
    rw [e0] at hlt
    have hi2 : i < l.length := by rw [List.length_cons] at hi; omega
    have ih := insC_hit h (x := x) (l := l) (i := i) (List.pairwise_cons.1 ha).2 hi2 e
    rw [insC, if_neg (by omega), if_pos hlt, ih]
theorem insC_miss (h : Cmp c) {x : α} : ∀ {l : List α} {i : Nat}, AscC c l → i ≤ l.length → (∀ j, j < i → c (nth l j) x < 0) → (∀ j, i ≤ j → j < l.length → c x (nth l j) < 0) → insC c x l = l.take i ++ x :: l.drop i
  | [], i, _, _, _, _ => by simp [insC]
  | g :: l, 0, _, _, _, h2 => by
    have h3 := h2 0 (Nat.le_refl _) (by simp)
    have e0 : nth (g :: l) 0 = g := rfl
    rw [e0] at h3
    have h4 := h.anti x g
    rw [insC, if_neg (by omega), if_neg (by omega)]; rfl
  | g :: l, i + 1, ha, hi, h1, h2 => by
    have hlt := h1 0 (by omega)
    have e0 : nth (g :: l) 0 = g := rfl
    rw [e0] at hlt
    have hi2 : i ≤ l.length := by rw [List.length_cons] at hi; omega
    have g1 : ∀ j, j < i → c (nth l j) x < 0 := fun j hj => h1 (j + 1) (by omega)
    have g2 : ∀ j, i ≤ j → j < l.length → c x (nth l j) < 0 := fun j h3 h4 => h2 (j + 1) (by omega) (by rw [List.length_cons]; omega)
    rw [insC, if_neg (by omega), if_pos hlt, insC_miss h (List.pairwise_cons.1 ha).2 hi2 g1 g2]
    rfl
end
end Go.Proofs.Ytpfoflhhbkjngaa.Ev

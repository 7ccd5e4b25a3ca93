/- The heads that moves give: the law DependReplays. -/
import Derived.Test.YtkedbkdbnmmkhaaZFnKh
set_option linter.unusedVariables false
set_option linter.unusedSimpArgs false
namespace Go.Proofs.Ytkedbkdbnmmkhaa.Ev
open Go Go.Proofs

theorem nth_app {α : Type} {q : Nat} [Enc α q] {a b : List α} {p : Nat} : nth (a ++ b) p = if p < a.length then nth a p else nth b (p - a.length) := by
  unfold nth
  simp only [List.getD_eq_getElem?_getD]
  split
  · rename_i h; rw [List.getElem?_append_left h]
  · rename_i h; rw [List.getElem?_append_right (by omega)]
theorem nth_take {α : Type} {q : Nat} [Enc α q] {a : List α} {n p : Nat} (h : p < n) : nth (a.take n) p = nth a p := by
  unfold nth
  simp only [List.getD_eq_getElem?_getD, List.getElem?_take, if_pos h]
theorem src_one (S : St) (x : AV) : srcOf S 1 (.ro 1 [x]) = some (1, [x]) := by simp [srcOf]
abbrev triR (t : List Int × Bool × Int) : AV := .tup [sl t.1, boolA t.2.1, intA t.2.2]
theorem put_fold1 {α : Type} {q : Nat} [Enc α q] (l : List α) (i : Nat) (x : α) : l.take i ++ [x] ++ l.drop (i + 1) = putAt l i x := by simp [putAt]
end Go.Proofs.Ytkedbkdbnmmkhaa.Ev

/- What a symbol is by sounds: the reference's rows, the program's map. -/
import Derived.Test.YtpfoflhhbkjngaaZFnHa
set_option linter.unusedVariables false
set_option linter.unusedSimpArgs false
namespace Go.Proofs.Ytpfoflhhbkjngaa.Ev
open Go Go.Proofs

theorem firstTwo (a b : Int) : firstE [a, b] = if a ≠ 0 then a else b := by
  simp only [firstE]; split
  · rfl
  · split
    · rfl
    · omega
/-- ablaut/ablautref01.Join: 2 parameters, 0 captured -/
def s28 : SC := .seq (.reg [o1 4 (.mv (.c (.slice none 0 0)))])
  (.seq (.reg [o1 5 (.buildSl 9 1 0 [(.string ⟨#[]⟩)] []),
    o1 6 (.mv (.t 0)),
    o1 7 (.app 9 1 16 (.t 5) (.t 6)),
    o1 8 (.mv (.t 1)),
    o1 9 (.app 9 1 16 (.t 7) (.t 8)),
    o1 4 (.mv (.t 9))])
   (.ret))
theorem s28_ok : lookF Try.prog 28 = some (s28, 10, [.tmp 4]) := by kernel_rfl
theorem join_ok (a b : List Str) (ha : a.length + b.length ≤ 8796093022208) : Fn P 28 [sl a, sl b] (sl (a ++ b)) := by
  have e : (a ++ b).length = a.length + b.length := List.length_append ..
  (refine fn_look s28_ok (by simp) (by intro k; simp only [go_sem, Nat.reduceEqDiff, ↓reduceIte, reduceCtorEq, Nat.reduceAdd, Nat.reduceMul, Int.reduceToNat, List.reduceReplicate, Nat.reduceLeDiff, Nat.reduceLT, Int.reduceLT, Int.reduceLE, Int.reduceEq]) fun S hS => cwp_sound _ _ _ _ ?_; simp (maxSteps := 900000) (disch := omega) only [s28, go_sem, Nat.reduceEqDiff, ↓reduceIte, reduceCtorEq, Nat.reduceAdd, Nat.reduceMul, Int.reduceToNat, List.reduceReplicate, Nat.reduceLeDiff, Nat.reduceLT, Int.reduceLT, Int.reduceLE, Int.reduceEq])
  repeat' (first | with_reducible refine inw ?_ | simp (maxSteps := 900000) (disch := omega) only [go_sem, Nat.reduceEqDiff, ↓reduceIte, reduceCtorEq, Nat.reduceAdd, Nat.reduceMul, Int.reduceToNat, List.reduceReplicate, Nat.reduceLeDiff, Nat.reduceLT, Int.reduceLT, Int.reduceLE, Int.reduceEq] | with_reducible refine pickB_f ?_ | with_reducible refine giv_intro fun _h => ?_ | with_reducible refine alt_intro ?_ fun _h => ?_ | with_reducible refine pickD_nil ?_ | (with_reducible refine brc (fun _h => ?_) fun _h => ?_) <;> first | (exfalso; omega) | simp only [decide_eq_false _h] | simp only [(_h : (_ : Bool) = _)] | simp only [decide_eq_true _h] | skip)

/-! ### the map -/
end Go.Proofs.Ytpfoflhhbkjngaa.Ev
